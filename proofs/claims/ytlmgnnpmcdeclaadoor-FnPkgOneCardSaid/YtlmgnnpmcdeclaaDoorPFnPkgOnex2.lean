-- printed for this claim by a program out of the translation, its tactics shortened by another
import Derived.Test.YtlmgnnpmcdeclaaDoorPFnPkgOnex1
namespace Go.Proofs.YtlmgnnpmcdeclaaDoor.PFnPkgOne
open Go.RowKit Go.Proofs.YtlmgnnpmcdeclaaDoorW.PrintWords Go.Proofs.YtlmgnnpmcdeclaaDoorW.PrintLast Go.Proofs.YtlmgnnpmcdeclaaDoorW.PrintMore
attribute [local go_sem] max2_int min2_int max_two min_two max_three min_three max_four min_four   -- for this text's walks alone
set_option linter.unusedVariables false
set_option linter.unusedSimpArgs false

/-! ### impl_PkgOk: function 11 -/
theorem impl_in_b (w : World) (n a b : Int) (v : Bool) (h : inB_ n a b = v) : Calls Tryd.prog 34 #[.int .i64 n, .int .i64 a, .int .i64 b] w fun e w' => e = .returned (.bool v) ∧ w' = w := by
 subst h
 go_enter Tryd.func34, Tryd.ntmps34
 by_cases h1 : a ≤ n
 ·by_cases h2 : n ≤ b
  ·have e1 : inB_ n a b = true := by unfold inB_; rw [decide_eq_true h1, decide_eq_true h2]; rfl
   have d1 : decide (a ≤ n) = true := decide_eq_true h1
   have d2 : decide (n ≤ b) = true := decide_eq_true h2
   rw [e1]
   clear h1 h2 e1
   go_wp2
   go_ret
   exact ⟨by first | rfl | simp [*], rfl⟩
  ·have e1 : inB_ n a b = false := by unfold inB_; rw [decide_eq_false h2, Bool.and_false]
   have d1 : decide (a ≤ n) = true := decide_eq_true h1
   have d2 : decide (n ≤ b) = false := decide_eq_false h2
   rw [e1]
   clear h1 h2 e1
   go_wp2
   go_ret
   exact ⟨by first | rfl | simp [*], rfl⟩
 ·have e1 : inB_ n a b = false := by unfold inB_; rw [decide_eq_false h1, Bool.false_and]
  have d1 : decide (a ≤ n) = false := decide_eq_false h1
  rw [e1]
  clear h1 e1
  go_wp2
  go_ret
  exact ⟨by first | rfl | simp [*], rfl⟩
theorem impl_isName_b (w : World) (n : Int) (v : Bool) (h : inB_ n 1 4 = v) : Calls Tryd.prog 32 #[.int .i64 n] w fun e w' => e = .returned (.bool v) ∧ w' = w := by
 subst h
 go_enter Tryd.func32, Tryd.ntmps32
 by_cases h1 : 1 ≤ n
 ·by_cases h2 : n ≤ 4
  ·have e1 : inB_ n 1 4 = true := by unfold inB_; rw [decide_eq_true h1, decide_eq_true h2]; rfl
   have d1 : decide (1 ≤ n) = true := decide_eq_true h1
   have d2 : decide (n ≤ 4) = true := decide_eq_true h2
   rw [e1]
   clear h1 h2 e1
   go_wp2
   go_ret
   exact ⟨by first | rfl | simp [*], rfl⟩
  ·have e1 : inB_ n 1 4 = false := by unfold inB_; rw [decide_eq_false h2, Bool.and_false]
   have d1 : decide (1 ≤ n) = true := decide_eq_true h1
   have d2 : decide (n ≤ 4) = false := decide_eq_false h2
   rw [e1]
   clear h1 h2 e1
   go_wp2
   go_ret
   exact ⟨by first | rfl | simp [*], rfl⟩
 ·have e1 : inB_ n 1 4 = false := by unfold inB_; rw [decide_eq_false h1, Bool.false_and]
  have d1 : decide (1 ≤ n) = false := decide_eq_false h1
  rw [e1]
  clear h1 e1
  go_wp2
  go_ret
  exact ⟨by first | rfl | simp [*], rfl⟩
theorem impl_isVer_b (w : World) (n : Int) (v : Bool) (h : inB_ n 1 5 = v) : Calls Tryd.prog 33 #[.int .i64 n] w fun e w' => e = .returned (.bool v) ∧ w' = w := by
 subst h
 go_enter Tryd.func33, Tryd.ntmps33
 by_cases h1 : 1 ≤ n
 ·by_cases h2 : n ≤ 5
  ·have e1 : inB_ n 1 5 = true := by unfold inB_; rw [decide_eq_true h1, decide_eq_true h2]; rfl
   have d1 : decide (1 ≤ n) = true := decide_eq_true h1
   have d2 : decide (n ≤ 5) = true := decide_eq_true h2
   rw [e1]
   clear h1 h2 e1
   go_wp2
   go_ret
   exact ⟨by first | rfl | simp [*], rfl⟩
  ·have e1 : inB_ n 1 5 = false := by unfold inB_; rw [decide_eq_false h2, Bool.and_false]
   have d1 : decide (1 ≤ n) = true := decide_eq_true h1
   have d2 : decide (n ≤ 5) = false := decide_eq_false h2
   rw [e1]
   clear h1 h2 e1
   go_wp2
   go_ret
   exact ⟨by first | rfl | simp [*], rfl⟩
 ·have e1 : inB_ n 1 5 = false := by unfold inB_; rw [decide_eq_false h1, Bool.false_and]
  have d1 : decide (1 ≤ n) = false := decide_eq_false h1
  rw [e1]
  clear h1 e1
  go_wp2
  go_ret
  exact ⟨by first | rfl | simp [*], rfl⟩
def pkf1 (l : List S63) (i : Nat) : Bool := inB_ (l.getD i z63).f0 0 5 && (inB_ (l.getD i z63).f1 0 9 && (i == 0 || decide ((l.getD (i - 1) z63).f0 < (l.getD i z63).f0)))
def pkd1 (name : Int) (l : List S66) (i : Nat) : Bool := inB_ (l.getD i z66).f0 1 4 && (!decide ((l.getD i z66).f0 = name) && (inB_ (l.getD i z66).f1 1 5 && (i == 0 || decide ((l.getD (i - 1) z66).f0 < (l.getD i z66).f0))))
def pkpre (n v : Int) (a b : Nat) : Bool := inB_ n 1 4 && (inB_ v 1 5 && (decide (a ≤ 2) && decide (b ≤ 2)))
def pkB (n v : Int) (l2 : List S63) (l3 : List S66) : Bool := pkpre n v l2.length l3.length && (okFrom (pkf1 l2) l2.length 0 && okFrom (pkd1 n l3) l3.length 0)
set_option maxHeartbeats 8000000 in
set_option maxRecDepth 100000 in
theorem pko_no (n v : Int) (A2 : Option Addr) (c2 : Nat) (l2 : List S63) (A3 : Option Addr) (c3 : Nat) (l3 : List S66) (w : World) (hno : pkpre n v l2.length l3.length = false) :
  Calls Tryd.prog 11 #[.agg #[.int .i64 n, .int .i64 v, .slice A2 l2.length c2, .slice A3 l3.length c3]] w fun e w' => e = .returned (.bool false) ∧ Below w.heap.size w w' := by
 have HB := Aside0.mk (Below.refl w.heap.size w)
 have hx : ¬ 1 ≤ n ∨ (1 ≤ n ∧ ¬ n ≤ 4) ∨ ((1 ≤ n ∧ n ≤ 4) ∧ ¬ 1 ≤ v) ∨ ((1 ≤ n ∧ n ≤ 4) ∧ 1 ≤ v ∧ ¬ v ≤ 5) ∨ ((1 ≤ n ∧ n ≤ 4) ∧ (1 ≤ v ∧ v ≤ 5) ∧ 2 < (l2.length : Int)) ∨ ((1 ≤ n ∧ n ≤ 4) ∧ (1 ≤ v ∧ v ≤ 5) ∧ ¬ 2 < (l2.length : Int) ∧ 2 < (l3.length : Int)) := by
  by_cases h1 : 1 ≤ n
  ·by_cases h2 : n ≤ 4
   ·by_cases h3 : 1 ≤ v
    ·by_cases h4 : v ≤ 5
     ·by_cases h5 : 2 < (l2.length : Int)
      ·exact .inr (.inr (.inr (.inr (.inl ⟨⟨h1, h2⟩, ⟨h3, h4⟩, h5⟩))))
      ·refine .inr (.inr (.inr (.inr (.inr ⟨⟨h1, h2⟩, ⟨h3, h4⟩, h5, Decidable.byContradiction fun h6 => ?_⟩))))
       simp only [pkpre, inB_, decide_eq_true h1, decide_eq_true h2, decide_eq_true h3, decide_eq_true h4, decide_eq_true (show l2.length ≤ 2 by omega), decide_eq_true (show l3.length ≤ 2 by omega), Bool.and_true] at hno
       cases hno
     ·exact .inr (.inr (.inr (.inl ⟨⟨h1, h2⟩, h3, h4⟩)))
    ·exact .inr (.inr (.inl ⟨⟨h1, h2⟩, h3⟩))
   ·exact .inr (.inl ⟨h1, h2⟩)
  ·exact .inl h1
 clear hno
 go_enter Tryd.func11, Tryd.ntmps11
 rcases hx with h1 | ⟨h1, h2⟩ | ⟨⟨h1, h2⟩, h3⟩ | ⟨⟨h1, h2⟩, h3, h4⟩ | ⟨⟨h1, h2⟩, ⟨h3, h4⟩, h5⟩ | ⟨⟨h1, h2⟩, ⟨h3, h4⟩, h5, h6⟩
 all_goals
  go_wp2
  go_ret
  exact ⟨by first | rfl | simp [*], below_alloc HB.out _⟩
set_option maxHeartbeats 8000000 in
set_option maxRecDepth 100000 in
theorem pko_yes (n v : Int) (A2 : Option Addr) (c2 : Nat) (l2 : List S63) (A3 : Option Addr) (c3 : Nat) (l3 : List S66) (w : World) (hr2 : Kd.C k63 w A2 l2.length l2) (hr3 : Kd.C k66 w A3 l3.length l3) (hyes : pkpre n v l2.length l3.length = true) :
  Calls Tryd.prog 11 #[.agg #[.int .i64 n, .int .i64 v, .slice A2 l2.length c2, .slice A3 l3.length c3]] w fun e w' => e = .returned (.bool (pkB n v l2 l3)) ∧ Below w.heap.size w w' := by
 have HR2 := Aside0.mk hr2
 have HR3 := Aside0.mk hr3
 have HL2 := Aside0.mk hr2.2.1
 have HL3 := Aside0.mk hr3.2.1
 clear hr2 hr3
 have HE : Aside0 (pkB n v l2 l3 = (okFrom (pkf1 l2) (l2.length - (0 : Int).toNat) (0 : Int).toNat && okFrom (pkd1 n l3) l3.length 0)) := ⟨by unfold pkB; rw [hyes]; rfl⟩
 have hx : (1 ≤ n ∧ n ≤ 4) ∧ (1 ≤ v ∧ v ≤ 5) ∧ ¬ 2 < (l2.length : Int) ∧ ¬ 2 < (l3.length : Int) := by
  simp only [pkpre, inB_, Bool.and_eq_true, decide_eq_true_eq] at hyes
  obtain ⟨h1, h2, h3, h4⟩ := hyes
  exact ⟨h1, h2, by omega, by omega⟩
 clear hyes
 obtain ⟨⟨h1, h2⟩, ⟨h3, h4⟩, h5, h6⟩ := hx
 go_enter Tryd.func11, Tryd.ntmps11
 go_wp2
 clear h1 h2 h3 h4 h5 h6
 have n0_ := Aside0.mk (below_alloc (Below.refl w.heap.size w) (Obj.cells #[.int .i64 n, .int .i64 v, .slice A2 l2.length c2, .slice A3 l3.length c3] 26))
 have n1_ := Aside0.mk (blk_new w (Obj.cells #[.int .i64 n, .int .i64 v, .slice A2 l2.length c2, .slice A3 l3.length c3] 26))
 generalize w.alloc (Obj.cells #[.int .i64 n, .int .i64 v, .slice A2 l2.length c2, .slice A3 l3.length c3] 26) = W0 at n0_ n1_ ⊢
 obtain ⟨gb, hgb⟩ : ∃ g, g = w.heap.size := ⟨_, rfl⟩
 rw [← hgb] at n1_ ⊢
 have HB := n0_
 have BK := n1_
 clear n0_ n1_ hgb
 have k0 : W0.cell? ⟨gb, 0, none⟩ = some (.int .i64 n) := (blk_cell BK.out 0).trans rfl
 have k1 : W0.cell? ⟨gb, 1, none⟩ = some (.int .i64 v) := (blk_cell BK.out 1).trans rfl
 have k2 : W0.cell? ⟨gb, 2, none⟩ = some (.slice A2 l2.length c2) := (blk_cell BK.out 2).trans rfl
 have k3 : W0.cell? ⟨gb, 3, none⟩ = some (.slice A3 l3.length c3) := (blk_cell BK.out 3).trans rfl
 go_loopw [32] (fun v5 w' => ∃ x : Int, 0 ≤ x ∧ x ≤ (l2.length : Int) ∧ v5 = .int .i64 x ∧ Aside0 (pkB n v l2 l3 = (okFrom (pkf1 l2) (l2.length - x.toNat) x.toNat && okFrom (pkd1 n l3) l3.length 0)) ∧ Aside0 (w'.heap[gb]? = some (.cells #[.int .i64 n, .int .i64 v, .slice A2 l2.length c2, .slice A3 l3.length c3] 26 (0, 0))) ∧ Aside0 (Below w.heap.size w w')) (fun v5 _ => l2.length - (intOf v5).toNat)
 case atStart => exact ⟨0, by omega, by omega, rfl, HE, BK, HB⟩
 case round =>
  clear HE HB BK k0 k1 k2 k3
  obtain ⟨x, hx0, hx1, rfl, HE, BK, HB⟩ := hrel
  have k0 : wr.cell? ⟨gb, 0, none⟩ = some (.int .i64 n) := (blk_cell BK.out 0).trans rfl
  have k1 : wr.cell? ⟨gb, 1, none⟩ = some (.int .i64 v) := (blk_cell BK.out 1).trans rfl
  have k2 : wr.cell? ⟨gb, 2, none⟩ = some (.slice A2 l2.length c2) := (blk_cell BK.out 2).trans rfl
  have k3 : wr.cell? ⟨gb, 3, none⟩ = some (.slice A3 l3.length c3) := (blk_cell BK.out 3).trans rfl
  have HL2 := HL2.out
  by_cases hlt : x < (l2.length : Int)
  ·obtain ⟨ad, e, m0, m1⟩ := at_T63 HR2.out x hx0 hlt
   cases e
   replace m0 := (HB.out.cell (World.block_lt_of_cell? w _ m0)).trans m0
   replace m1 := (HB.out.cell (World.block_lt_of_cell? w _ m1)).trans m1
   obtain ⟨F0, hF0⟩ : ∃ F0, F0 = (rd_T63 l2 x).f0 := ⟨_, rfl⟩
   obtain ⟨F1, hF1⟩ : ∃ F1, F1 = (rd_T63 l2 x).f1 := ⟨_, rfl⟩
   rw [← hF0] at m0
   rw [← hF1] at m1
   have HF := Aside0.mk (And.intro hF0 hF1)
   clear hF0 hF1
   have q1 : decide (x < (l2.length : Int)) = true := decide_eq_true hlt
   have q2 : 0 ≤ x := hx0
   obtain ⟨b1, hb1⟩ : ∃ b, inB_ F0 0 5 = b := ⟨_, rfl⟩
   obtain ⟨b2, hb2⟩ : ∃ b, inB_ F1 0 9 = b := ⟨_, rfl⟩
   have C1 := Aside0.mk (fun W => impl_in_b W F0 0 5 b1 hb1)
   have C2 := Aside0.mk (fun W => impl_in_b W F1 0 9 b2 hb2)
   have B1 := Aside0.mk hb1
   have B2 := Aside0.mk hb2
   clear hb1 hb2
   have HN := Aside0.mk (okFrom_at (p := pkf1 l2) hx0 hlt)
   have no : Aside0 (pkf1 l2 x.toNat = false → pkB n v l2 l3 = false) := ⟨fun h_ => by rw [HE.out, HN.out, h_]; rfl⟩
   have yes : Aside0 (pkf1 l2 x.toNat = true → pkB n v l2 l3 = (okFrom (pkf1 l2) (l2.length - (x + 1).toNat) (x + 1).toNat && okFrom (pkd1 n l3) l3.length 0)) := ⟨fun h_ => by rw [HE.out, HN.out, h_]; rfl⟩
   have D : Aside0 (pkf1 l2 x.toNat = (b1 && (b2 && (x.toNat == 0 || decide ((l2.getD (x.toNat - 1) z63).f0 < F0))))) := ⟨by
    unfold pkf1
    rw [← show _ = (l2.getD x.toNat z63).f0 from HF.out.1, ← show _ = (l2.getD x.toNat z63).f1 from HF.out.2, B1.out, B2.out]⟩
   clear HE HN HF B1 B2
   go_wp2
   have n0_ := Aside0.mk (below_alloc HB.out (Obj.cells #[.int .i64 F0, .int .i64 F1] 63))
   have n1_ := Aside0.mk (blk_alloc BK.out (Obj.cells #[.int .i64 F0, .int .i64 F1] 63))
   have f0 : (wr.alloc (Obj.cells #[.int .i64 F0, .int .i64 F1] 63)).cell? ⟨wr.heap.size, 0, none⟩ = some (.int .i64 F0) := by simp
   have f1 : (wr.alloc (Obj.cells #[.int .i64 F0, .int .i64 F1] 63)).cell? ⟨wr.heap.size, 1, none⟩ = some (.int .i64 F1) := by simp
   clear HB BK m0 m1 k0 k1 k2 k3
   generalize wr.alloc (Obj.cells #[.int .i64 F0, .int .i64 F1] 63) = W at n0_ n1_ f0 f1 ⊢
   generalize wr.heap.size = gf at f0 f1 ⊢
   have HB := n0_
   have BK := n1_
   clear n0_ n1_
   have k0 : W.cell? ⟨gb, 0, none⟩ = some (.int .i64 n) := (blk_cell BK.out 0).trans rfl
   have k1 : W.cell? ⟨gb, 1, none⟩ = some (.int .i64 v) := (blk_cell BK.out 1).trans rfl
   have k2 : W.cell? ⟨gb, 2, none⟩ = some (.slice (some ad) l2.length c2) := (blk_cell BK.out 2).trans rfl
   have k3 : W.cell? ⟨gb, 3, none⟩ = some (.slice A3 l3.length c3) := (blk_cell BK.out 3).trans rfl
   cases b1 with
   | false =>
    go_quiet ((first | (go_at_call 34; (first | with_reducible refine (C1.out _).mono ?_ | with_reducible refine (C2.out _).mono ?_); exact fun _ _ h_ => ⟨h_.1, _, h_.2⟩)))
    go_wp2
    go_ret
    rw [no.out (by rw [D.out]; rfl)]
    exact ⟨by first | rfl | simp [*], by repeat (first | exact HB.out | apply pw_below_drewN)⟩
   | true =>
    cases b2 with
    | false =>
     go_quiet ((first | (go_at_call 34; (first | with_reducible refine (C1.out _).mono ?_ | with_reducible refine (C2.out _).mono ?_); exact fun _ _ h_ => ⟨h_.1, _, h_.2⟩)))
     go_wp2
     go_ret
     rw [no.out (by rw [D.out]; rfl)]
     exact ⟨by first | rfl | simp [*], by repeat (first | exact HB.out | apply pw_below_drewN)⟩
    | true =>
     by_cases hz : x ≤ 0
     ·have hx4 : decide (0 < x) = false := decide_eq_false (by omega)
      have Y := Aside0.mk (yes.out (by rw [D.out, show (x.toNat == 0) = true by rw [beq_iff_eq]; omega]; rfl))
      clear yes no D hz
      go_quiet ((first | (go_at_call 34; (first | with_reducible refine (C1.out _).mono ?_ | with_reducible refine (C2.out _).mono ?_); exact fun _ _ h_ => ⟨h_.1, _, h_.2⟩)))
      go_wp2
      go_roundw
      case rel => exact ⟨x + 1, by omega, by omega, by first | rfl | simp, Y, ⟨by (with_reducible repeat (first | refine blk_drewN ?_ _)); exact BK.out⟩, ⟨by repeat (first | exact HB.out | apply pw_below_drewN)⟩⟩
      case measure => simp [intOf]; omega
     ·have g0 : 0 < x := by omega
      clear hz
      obtain ⟨y, hy⟩ : ∃ y, y = x - 1 := ⟨_, rfl⟩
      have hw : IntKind.i64.wrap (x - 1) = y := by rw [i64_w, hy]; unfold wrap64; omega
      obtain ⟨ad2, e2, d0, d1⟩ := at_T63 HR2.out y (by omega) (by omega)
      obtain ⟨G0, hG0⟩ : ∃ G0, G0 = (rd_T63 l2 y).f0 := ⟨_, rfl⟩
      obtain ⟨G1, hG1⟩ : ∃ G1, G1 = (rd_T63 l2 y).f1 := ⟨_, rfl⟩
      rw [← hG0] at d0
      rw [← hG1] at d1
      cases e2
      replace d0 := (HB.out.cell (World.block_lt_of_cell? w _ d0)).trans d0
      replace d1 := (HB.out.cell (World.block_lt_of_cell? w _ d1)).trans d1
      have HG := Aside0.mk hG0
      clear hG0 hG1
      have hx2 : 0 ≤ y := by omega
      have hx3 : decide (y < (l2.length : Int)) = true := decide_eq_true (by omega)
      have hx4 : decide (0 < x) = true := decide_eq_true g0
      have hx5 : y < (l2.length : Int) := by omega
      have HY := Aside0.mk hy
      clear hy
      have FD : Aside0 (pkf1 l2 x.toNat = decide (G0 < F0)) := ⟨by
       rw [D.out, show (x.toNat == 0) = false by rw [beq_eq_false_iff_ne]; omega, show x.toNat - 1 = y.toNat by have := HY.out; omega, ← show _ = (l2.getD y.toNat z63).f0 from HG.out]; rfl⟩
      by_cases hc : F0 ≤ G0
      ·have cb : decide (F0 ≤ G0) = true := decide_eq_true hc
       have N := Aside0.mk (no.out (by rw [FD.out, decide_eq_false (by omega)]))
       clear yes no hc D
       go_quiet ((first | (go_at_call 34; (first | with_reducible refine (C1.out _).mono ?_ | with_reducible refine (C2.out _).mono ?_); exact fun _ _ h_ => ⟨h_.1, _, h_.2⟩)))
       go_wp2
       go_ret
       rw [N.out]
       exact ⟨by first | rfl | simp [*], by repeat (first | exact HB.out | apply pw_below_drewN)⟩
      ·have cb : decide (F0 ≤ G0) = false := decide_eq_false hc
       have Y := Aside0.mk (yes.out (by rw [FD.out, decide_eq_true (by omega)]))
       clear yes no hc D
       go_quiet ((first | (go_at_call 34; (first | with_reducible refine (C1.out _).mono ?_ | with_reducible refine (C2.out _).mono ?_); exact fun _ _ h_ => ⟨h_.1, _, h_.2⟩)))
       go_wp2
       go_roundw
       case rel => exact ⟨x + 1, by omega, by omega, by first | rfl | simp, Y, ⟨by (with_reducible repeat (first | refine blk_drewN ?_ _)); exact BK.out⟩, ⟨by repeat (first | exact HB.out | apply pw_below_drewN)⟩⟩
       case measure => simp [intOf]; omega
  ·have hxe : x = (l2.length : Int) := by omega
   have q1 : decide (x < (l2.length : Int)) = false := decide_eq_false hlt
   have E := Aside0.mk (show pkB n v l2 l3 = (okFrom (pkd1 n l3) (l3.length - (0 : Int).toNat) (0 : Int).toNat) by
    rw [HE.out, hxe, Int.toNat_natCast, Nat.sub_self]
    rfl)
   clear hxe HE hx0 hx1 hlt
   have HE := E
   clear E
   go_wp2
   clear q1
   obtain ⟨W0, hW0⟩ : ∃ W, W = wr := ⟨_, rfl⟩
   rw [← hW0] at HB BK k0 k1 k2 k3 ⊢
   clear hW0
   go_loopw [67] (fun v5 w' => ∃ x : Int, 0 ≤ x ∧ x ≤ (l3.length : Int) ∧ v5 = .int .i64 x ∧ Aside0 (pkB n v l2 l3 = (okFrom (pkd1 n l3) (l3.length - x.toNat) x.toNat)) ∧ Aside0 (w'.heap[gb]? = some (.cells #[.int .i64 n, .int .i64 v, .slice A2 l2.length c2, .slice A3 l3.length c3] 26 (0, 0))) ∧ Aside0 (Below w.heap.size w w')) (fun v5 _ => l3.length - (intOf v5).toNat)
   case atStart => exact ⟨0, by omega, by omega, rfl, HE, BK, HB⟩
   case round =>
    clear HE HB BK k0 k1 k2 k3
    obtain ⟨x, hx0, hx1, rfl, HE, BK, HB⟩ := hrel
    have k0 : wr.cell? ⟨gb, 0, none⟩ = some (.int .i64 n) := (blk_cell BK.out 0).trans rfl
    have k1 : wr.cell? ⟨gb, 1, none⟩ = some (.int .i64 v) := (blk_cell BK.out 1).trans rfl
    have k2 : wr.cell? ⟨gb, 2, none⟩ = some (.slice A2 l2.length c2) := (blk_cell BK.out 2).trans rfl
    have k3 : wr.cell? ⟨gb, 3, none⟩ = some (.slice A3 l3.length c3) := (blk_cell BK.out 3).trans rfl
    have HL2 := HL3.out
    by_cases hlt : x < (l3.length : Int)
    ·obtain ⟨ad, e, m0, m1⟩ := at_T66 HR3.out x hx0 hlt
     cases e
     replace m0 := (HB.out.cell (World.block_lt_of_cell? w _ m0)).trans m0
     replace m1 := (HB.out.cell (World.block_lt_of_cell? w _ m1)).trans m1
     obtain ⟨F0, hF0⟩ : ∃ F0, F0 = (rd_T66 l3 x).f0 := ⟨_, rfl⟩
     obtain ⟨F1, hF1⟩ : ∃ F1, F1 = (rd_T66 l3 x).f1 := ⟨_, rfl⟩
     rw [← hF0] at m0
     rw [← hF1] at m1
     have HF := Aside0.mk (And.intro hF0 hF1)
     clear hF0 hF1
     have q1 : decide (x < (l3.length : Int)) = true := decide_eq_true hlt
     have q2 : 0 ≤ x := hx0
     obtain ⟨b1, hb1⟩ : ∃ b, inB_ F0 1 4 = b := ⟨_, rfl⟩
     obtain ⟨b2, hb2⟩ : ∃ b, inB_ F1 1 5 = b := ⟨_, rfl⟩
     have C1 := Aside0.mk (fun W => impl_isName_b W F0 b1 hb1)
     have C2 := Aside0.mk (fun W => impl_isVer_b W F1 b2 hb2)
     have B1 := Aside0.mk hb1
     have B2 := Aside0.mk hb2
     clear hb1 hb2
     have HN := Aside0.mk (okFrom_at (p := pkd1 n l3) hx0 hlt)
     have no : Aside0 (pkd1 n l3 x.toNat = false → pkB n v l2 l3 = false) := ⟨fun h_ => by rw [HE.out, HN.out, h_]; rfl⟩
     have yes : Aside0 (pkd1 n l3 x.toNat = true → pkB n v l2 l3 = (okFrom (pkd1 n l3) (l3.length - (x + 1).toNat) (x + 1).toNat)) := ⟨fun h_ => by rw [HE.out, HN.out, h_]; rfl⟩
     have D : Aside0 (pkd1 n l3 x.toNat = (b1 && (!decide (F0 = n) && (b2 && (x.toNat == 0 || decide ((l3.getD (x.toNat - 1) z66).f0 < F0)))))) := ⟨by
      unfold pkd1
      rw [← show _ = (l3.getD x.toNat z66).f0 from HF.out.1, ← show _ = (l3.getD x.toNat z66).f1 from HF.out.2, B1.out, B2.out]⟩
     clear HE HN HF B1 B2
     go_wp2
     have n0_ := Aside0.mk (below_alloc HB.out (Obj.cells #[.int .i64 F0, .int .i64 F1] 66))
     have n1_ := Aside0.mk (blk_alloc BK.out (Obj.cells #[.int .i64 F0, .int .i64 F1] 66))
     have f0 : (wr.alloc (Obj.cells #[.int .i64 F0, .int .i64 F1] 66)).cell? ⟨wr.heap.size, 0, none⟩ = some (.int .i64 F0) := by simp
     have f1 : (wr.alloc (Obj.cells #[.int .i64 F0, .int .i64 F1] 66)).cell? ⟨wr.heap.size, 1, none⟩ = some (.int .i64 F1) := by simp
     clear HB BK m0 m1 k0 k1 k2 k3
     generalize wr.alloc (Obj.cells #[.int .i64 F0, .int .i64 F1] 66) = W at n0_ n1_ f0 f1 ⊢
     generalize wr.heap.size = gf at f0 f1 ⊢
     have HB := n0_
     have BK := n1_
     clear n0_ n1_
     have k0 : W.cell? ⟨gb, 0, none⟩ = some (.int .i64 n) := (blk_cell BK.out 0).trans rfl
     have k1 : W.cell? ⟨gb, 1, none⟩ = some (.int .i64 v) := (blk_cell BK.out 1).trans rfl
     have k2 : W.cell? ⟨gb, 2, none⟩ = some (.slice A2 l2.length c2) := (blk_cell BK.out 2).trans rfl
     have k3 : W.cell? ⟨gb, 3, none⟩ = some (.slice (some ad) l3.length c3) := (blk_cell BK.out 3).trans rfl
     cases b1 with
     | false =>
      go_quiet ((first | (go_at_call 32; with_reducible refine (C1.out _).mono ?_; exact fun _ _ h_ => ⟨h_.1, _, h_.2⟩) | (go_at_call 33; with_reducible refine (C2.out _).mono ?_; exact fun _ _ h_ => ⟨h_.1, _, h_.2⟩)))
      go_wp2
      go_ret
      rw [no.out (by rw [D.out]; rfl)]
      exact ⟨by first | rfl | simp [*], by repeat (first | exact HB.out | apply pw_below_drewN)⟩
     | true =>
      by_cases he : F0 = n
      ·have N := Aside0.mk (no.out (by rw [D.out, decide_eq_true he]; rfl))
       have e1 : (F0 == n) = true := beq_iff_eq.mpr he
       clear yes no D he
       go_quiet ((first | (go_at_call 32; with_reducible refine (C1.out _).mono ?_; exact fun _ _ h_ => ⟨h_.1, _, h_.2⟩) | (go_at_call 33; with_reducible refine (C2.out _).mono ?_; exact fun _ _ h_ => ⟨h_.1, _, h_.2⟩)))
       go_wp2
       go_ret
       rw [N.out]
       exact ⟨by first | rfl | simp [*], by repeat (first | exact HB.out | apply pw_below_drewN)⟩
      ·have e1 : (F0 == n) = false := beq_eq_false_iff_ne.mpr he
       replace D := Aside0.mk (D.out.trans (by rw [decide_eq_false he]))
       clear he
       cases b2 with
       | false =>
        go_quiet ((first | (go_at_call 32; with_reducible refine (C1.out _).mono ?_; exact fun _ _ h_ => ⟨h_.1, _, h_.2⟩) | (go_at_call 33; with_reducible refine (C2.out _).mono ?_; exact fun _ _ h_ => ⟨h_.1, _, h_.2⟩)))
        go_wp2
        go_ret
        rw [no.out (by rw [D.out]; rfl)]
        exact ⟨by first | rfl | simp [*], by repeat (first | exact HB.out | apply pw_below_drewN)⟩
       | true =>
        by_cases hz : x ≤ 0
        ·have hx4 : decide (0 < x) = false := decide_eq_false (by omega)
         have Y := Aside0.mk (yes.out (by rw [D.out, show (x.toNat == 0) = true by rw [beq_iff_eq]; omega]; rfl))
         clear yes no D hz
         go_quiet ((first | (go_at_call 32; with_reducible refine (C1.out _).mono ?_; exact fun _ _ h_ => ⟨h_.1, _, h_.2⟩) | (go_at_call 33; with_reducible refine (C2.out _).mono ?_; exact fun _ _ h_ => ⟨h_.1, _, h_.2⟩)))
         go_wp2
         go_roundw
         case rel => exact ⟨x + 1, by omega, by omega, by first | rfl | simp, Y, ⟨by (with_reducible repeat (first | refine blk_drewN ?_ _)); exact BK.out⟩, ⟨by repeat (first | exact HB.out | apply pw_below_drewN)⟩⟩
         case measure => simp [intOf]; omega
        ·have g0 : 0 < x := by omega
         clear hz
         obtain ⟨y, hy⟩ : ∃ y, y = x - 1 := ⟨_, rfl⟩
         have hw : IntKind.i64.wrap (x - 1) = y := by rw [i64_w, hy]; unfold wrap64; omega
         obtain ⟨ad2, e2, d0, d1⟩ := at_T66 HR3.out y (by omega) (by omega)
         obtain ⟨G0, hG0⟩ : ∃ G0, G0 = (rd_T66 l3 y).f0 := ⟨_, rfl⟩
         obtain ⟨G1, hG1⟩ : ∃ G1, G1 = (rd_T66 l3 y).f1 := ⟨_, rfl⟩
         rw [← hG0] at d0
         rw [← hG1] at d1
         cases e2
         replace d0 := (HB.out.cell (World.block_lt_of_cell? w _ d0)).trans d0
         replace d1 := (HB.out.cell (World.block_lt_of_cell? w _ d1)).trans d1
         have HG := Aside0.mk hG0
         clear hG0 hG1
         have hx2 : 0 ≤ y := by omega
         have hx3 : decide (y < (l3.length : Int)) = true := decide_eq_true (by omega)
         have hx4 : decide (0 < x) = true := decide_eq_true g0
         have hx5 : y < (l3.length : Int) := by omega
         have HY := Aside0.mk hy
         clear hy
         have FD : Aside0 (pkd1 n l3 x.toNat = decide (G0 < F0)) := ⟨by
          rw [D.out, show (x.toNat == 0) = false by rw [beq_eq_false_iff_ne]; omega, show x.toNat - 1 = y.toNat by have := HY.out; omega, ← show _ = (l3.getD y.toNat z66).f0 from HG.out]; rfl⟩
         by_cases hc : F0 ≤ G0
         ·have cb : decide (F0 ≤ G0) = true := decide_eq_true hc
          have N := Aside0.mk (no.out (by rw [FD.out, decide_eq_false (by omega)]))
          clear yes no hc D
          go_quiet ((first | (go_at_call 32; with_reducible refine (C1.out _).mono ?_; exact fun _ _ h_ => ⟨h_.1, _, h_.2⟩) | (go_at_call 33; with_reducible refine (C2.out _).mono ?_; exact fun _ _ h_ => ⟨h_.1, _, h_.2⟩)))
          go_wp2
          go_ret
          rw [N.out]
          exact ⟨by first | rfl | simp [*], by repeat (first | exact HB.out | apply pw_below_drewN)⟩
         ·have cb : decide (F0 ≤ G0) = false := decide_eq_false hc
          have Y := Aside0.mk (yes.out (by rw [FD.out, decide_eq_true (by omega)]))
          clear yes no hc D
          go_quiet ((first | (go_at_call 32; with_reducible refine (C1.out _).mono ?_; exact fun _ _ h_ => ⟨h_.1, _, h_.2⟩) | (go_at_call 33; with_reducible refine (C2.out _).mono ?_; exact fun _ _ h_ => ⟨h_.1, _, h_.2⟩)))
          go_wp2
          go_roundw
          case rel => exact ⟨x + 1, by omega, by omega, by first | rfl | simp, Y, ⟨by (with_reducible repeat (first | refine blk_drewN ?_ _)); exact BK.out⟩, ⟨by repeat (first | exact HB.out | apply pw_below_drewN)⟩⟩
          case measure => simp [intOf]; omega
    ·have hxe : x = (l3.length : Int) := by omega
     have q1 : decide (x < (l3.length : Int)) = false := decide_eq_false hlt
     have E := Aside0.mk (show pkB n v l2 l3 = true by
      rw [HE.out, hxe, Int.toNat_natCast, Nat.sub_self]
      rfl)
     clear hxe HE
     go_wp2
     go_ret
     rw [E.out]
     exact ⟨by first | rfl | simp [*], by repeat (first | exact HB.out | apply pw_below_drewN)⟩
def impl_PkgOk.f (_k : Nat) (n v : Int) (l2 : List S63) (l3 : List S66) : Option Bool := some (pkB n v l2 l3)
theorem impl_PkgOk.mono : ∀ a0 a1 a2 a3 k, LeO (impl_PkgOk.f k a0 a1 a2 a3) (impl_PkgOk.f (k + 1) a0 a1 a2 a3) := fun _ _ _ _ _ _ h => h
theorem impl_PkgOk.calls (k : Nat) (a0_0 : Int) (a0_1 : Int) (A0_2 : Option Addr) (c0_2 : Nat) (l0_2 : List S63) (A0_3 : Option Addr) (c0_3 : Nat) (l0_3 : List S66) (r : Bool) (w : World) (hr0_2 : Kd.C k63 w A0_2 l0_2.length l0_2) (hc0_2 : l0_2.length ≤ c0_2) (hr0_3 : Kd.C k66 w A0_3 l0_3.length l0_3) (hc0_3 : l0_3.length ≤ c0_3) (h : impl_PkgOk.f k a0_0 a0_1 l0_2 l0_3 = some r) :
  Calls Tryd.prog 11 #[.agg #[.int .i64 a0_0, .int .i64 a0_1, .slice A0_2 l0_2.length c0_2, .slice A0_3 l0_3.length c0_3]] w fun e w' => e = .returned (.bool r) ∧ Below w.heap.size w w' := by
 obtain rfl := Option.some.inj h
 cases hp : pkpre a0_0 a0_1 l0_2.length l0_3.length with
 | true => exact pko_yes a0_0 a0_1 A0_2 c0_2 l0_2 A0_3 c0_3 l0_3 w hr0_2 hr0_3 hp
 | false =>
  have e : pkB a0_0 a0_1 l0_2 l0_3 = false := by unfold pkB; rw [hp]; rfl
  rw [e]
  exact pko_no a0_0 a0_1 A0_2 c0_2 l0_2 A0_3 c0_3 l0_3 w hp

/-! ### impl_PkgText: function 9 -/
def ptF (f : S63) : List Int := [32, 48 + f.f0, 58, 48 + f.f1]
def ptD (d : S66) : List Int := [32, 96 + d.f0, 48 + d.f1]
def ptL (n v : Int) (l2 : List S63) (l3 : List S66) : List Int := [96 + n, 48 + v] ++ (l2.flatMap ptF ++ l3.flatMap ptD)
def ptS (n v : Int) (l2 : List S63) (l3 : List S66) : ByteArray := if pkB n v l2 l3 = true then strOfNums (ptL n v l2 l3) else strOfNums []
set_option maxHeartbeats 8000000 in
set_option maxRecDepth 100000 in
theorem pt_no (n v : Int) (A2 : Option Addr) (c2 : Nat) (l2 : List S63) (A3 : Option Addr) (c3 : Nat) (l3 : List S66) (w : World) (hr2 : Kd.C k63 w A2 l2.length l2) (hc2 : l2.length ≤ c2) (hr3 : Kd.C k66 w A3 l3.length l3) (hc3 : l3.length ≤ c3) (hno : pkB n v l2 l3 = false) :
  Calls Tryd.prog 9 #[.agg #[.int .i64 n, .int .i64 v, .slice A2 l2.length c2, .slice A3 l3.length c3]] w fun e w' => e = .returned (.string ⟨#[]⟩) ∧ Below w.heap.size w w' := by
 have HR2 := Aside0.mk hr2
 have HR3 := Aside0.mk hr3
 have HC2 := Aside0.mk hc2
 have HC3 := Aside0.mk hc3
 have HN := Aside0.mk (show impl_PkgOk.f 0 n v l2 l3 = some false from congrArg some hno)
 clear hr2 hr3 hc2 hc3 hno
 go_enter Tryd.func9, Tryd.ntmps9
 go_wp2_with (go_at_call 11; with_reducible refine (impl_PkgOk.calls 0 n v A2 c2 l2 A3 c3 l3 false _ ?h1 HC2.out ?h2 HC3.out HN.out).mono ?_; (case h1 => exact zC HR2.out); (case h2 => exact zC HR3.out); rintro e w' ⟨rfl, hb⟩)
 go_wp2
 go_ret
 exact ⟨rfl, below_then (below_alloc (Below.refl _ _) _) (by simp) hb⟩
theorem bd_below {T e : TypeId} {B b : Nat} {bs : List Value} {p : Value} {w w1 : World} (h : Lib.BuilderAt T e B b p bs w) (hb : Below w.heap.size w w1) : Lib.BuilderAt T e B b p bs w1 := by
 obtain ⟨h1, v, h2, h3, h4⟩ := h
 exact ⟨h1, v, blk_below h2 hb, pw_own_below h3 hb, h4⟩
theorem ib_below {T e : TypeId} {B b : Nat} {bs : List Value} {w w1 : World} (h : Lib.IsBuilder T e B b bs w) (hb : Below w.heap.size w w1) : Lib.IsBuilder T e B b bs w1 := h.imp (fun h => bd_below h hb) (fun h => bd_below h hb)
theorem str_cells (a b : ByteArray) : Lib.strCells (a ++ b) = Lib.strCells a ++ Lib.strCells b := by
 unfold Lib.strCells
 rw [ByteArray.data_append, Array.toList_append, List.map_append]
theorem str_cat (a b : List Int) : strOfNums a ++ strOfNums b = strOfNums (a ++ b) := by
 apply ByteArray.ext
 apply Array.toList_inj.1
 rw [ByteArray.data_append, Array.toList_append, strOfNums_data, strOfNums_data, strOfNums_data, List.map_append]
theorem one_str (n : Nat) : (⟨#[UInt8.ofNat n]⟩ : ByteArray) = strOfNums [(n : Int)] := rfl
theorem pt_file (F0 F1 : Nat) : (⟨#[32]⟩ ++ ⟨#[UInt8.ofNat (48 + F0)]⟩ ++ ⟨#[58]⟩ ++ ⟨#[UInt8.ofNat (48 + F1)]⟩ : ByteArray) = strOfNums [32, 48 + (F0 : Int), 58, 48 + (F1 : Int)] := by
 rw [one_str, one_str, show (⟨#[32]⟩ : ByteArray) = strOfNums [32] from rfl, show (⟨#[58]⟩ : ByteArray) = strOfNums [58] from rfl, str_cat, str_cat, str_cat]
 rfl
theorem pt_dep (F0 F1 : Nat) : (⟨#[32]⟩ ++ (⟨#[UInt8.ofNat (96 + F0)]⟩ ++ ⟨#[UInt8.ofNat (48 + F1)]⟩) : ByteArray) = strOfNums [32, 96 + (F0 : Int), 48 + (F1 : Int)] := by
 rw [one_str, one_str, show (⟨#[32]⟩ : ByteArray) = strOfNums [32] from rfl, str_cat, str_cat]
 rfl
theorem below_far {w0 w w1 : World} {b : Nat} (h : Below w0.heap.size w0 w) (hb : w0.heap.size ≤ b) (k : Below b w w1) : Below w0.heap.size w0 w1 :=
 ⟨k.os.trans h.os, k.tape.trans h.tape, k.output.trans h.output, Nat.le_trans h.size k.size, fun i hi => (k.block i (Nat.lt_of_lt_of_le hi hb)).trans (h.block i hi)⟩
theorem okFrom_all {p : Nat → Bool} : ∀ (d i : Nat), okFrom p d i = true → ∀ j, i ≤ j → j < i + d → p j = true
 | 0, i, _, j, h1, h2 => absurd h2 (by omega)
 | d + 1, i, h, j, h1, h2 => by
  have h3 : (p i && okFrom p d (i + 1)) = true := h
  rw [Bool.and_eq_true] at h3
  by_cases e : j = i
  ·rw [e]; exact h3.1
  ·exact okFrom_all d (i + 1) h3.2 j (by omega) (by omega)
theorem inB_b {n a b : Int} (h : inB_ n a b = true) : a ≤ n ∧ n ≤ b := by
 unfold inB_ at h
 rwa [Bool.and_eq_true, decide_eq_true_eq, decide_eq_true_eq] at h
theorem pkB_nums {n v : Int} {l2 : List S63} {l3 : List S66} (h : pkB n v l2 l3 = true) :
  (1 ≤ n ∧ n ≤ 4) ∧ (1 ≤ v ∧ v ≤ 5) ∧ l2.length ≤ 2 ∧ l3.length ≤ 2 ∧ (∀ x : Int, 0 ≤ x → x < l2.length → (0 ≤ (rd_T63 l2 x).f0 ∧ (rd_T63 l2 x).f0 ≤ 5) ∧ (0 ≤ (rd_T63 l2 x).f1 ∧ (rd_T63 l2 x).f1 ≤ 9)) ∧
  (∀ x : Int, 0 ≤ x → x < l3.length → (1 ≤ (rd_T66 l3 x).f0 ∧ (rd_T66 l3 x).f0 ≤ 4) ∧ (1 ≤ (rd_T66 l3 x).f1 ∧ (rd_T66 l3 x).f1 ≤ 5)) := by
 unfold pkB pkpre at h
 simp only [Bool.and_eq_true, decide_eq_true_eq] at h
 obtain ⟨⟨h1, h2, h3, h4⟩, h5, h6⟩ := h
 refine ⟨inB_b h1, inB_b h2, h3, h4, fun x h0 hx => ?_, fun x h0 hx => ?_⟩
 ·have := okFrom_all _ _ h5 x.toNat (by omega) (by omega)
  unfold pkf1 at this
  simp only [Bool.and_eq_true] at this
  exact ⟨inB_b this.1, inB_b this.2.1⟩
 ·have := okFrom_all _ _ h6 x.toNat (by omega) (by omega)
  unfold pkd1 at this
  simp only [Bool.and_eq_true] at this
  exact ⟨inB_b this.1, inB_b this.2.2.1⟩
theorem take_next {α : Type} (g : α → List Int) (d : α) (l : List α) (x : Int) (h0 : 0 ≤ x) (h1 : x < l.length) : (l.take (x + 1).toNat).flatMap g = (l.take x.toNat).flatMap g ++ g (l.getD x.toNat d) := by
 have hx : x.toNat < l.length := by omega
 rw [show (x + 1).toNat = x.toNat + 1 by omega, List.take_succ_eq_append_getElem hx, List.flatMap_append, List.getD_eq_getElem?_getD, List.getElem?_eq_getElem hx]
 simp
theorem flat_le {α : Type} (g : α → List Int) (k : Nat) : ∀ (l : List α), (∀ x ∈ l, (g x).length ≤ k) → (l.flatMap g).length ≤ k * l.length
 | [], _ => by simp
 | x :: l, h => by
  rw [List.flatMap_cons, List.length_append, List.length_cons, Nat.mul_succ]
  have := flat_le g k l (fun y hy => h y (List.mem_cons_of_mem _ hy))
  have := h x List.mem_cons_self
  omega
set_option maxHeartbeats 8000000 in
set_option maxRecDepth 100000 in
theorem pt_yes (n v : Nat) (A2 : Option Addr) (c2 : Nat) (l2 : List S63) (A3 : Option Addr) (c3 : Nat) (l3 : List S66) (w : World) (hr2 : Kd.C k63 w A2 l2.length l2) (hc2 : l2.length ≤ c2) (hr3 : Kd.C k66 w A3 l3.length l3) (hc3 : l3.length ≤ c3) (hyes : pkB n v l2 l3 = true) :
  Calls Tryd.prog 9 #[.agg #[.int .i64 n, .int .i64 v, .slice A2 l2.length c2, .slice A3 l3.length c3]] w fun e w' => e = .returned (.string (strOfNums (ptL n v l2 l3))) ∧ Below w.heap.size w w' := by
 have HR2 := Aside0.mk hr2
 have HR3 := Aside0.mk hr3
 have HC2 := Aside0.mk hc2
 have HC3 := Aside0.mk hc3
 obtain ⟨hn, hv, hl2, hl3, hf2, hf3⟩ := pkB_nums hyes
 have HN := Aside0.mk (show impl_PkgOk.f 0 n v l2 l3 = some true from congrArg some hyes)
 have HD := Aside0.mk (fun W => named_b n v (by omega) (by omega) (by omega) W)
 have HL2 := Aside0.mk hl2
 have HL3 := Aside0.mk hl3
 have HF2 := Aside0.mk hf2
 have HF3 := Aside0.mk hf3
 clear hr2 hr3 hc2 hc3 hyes hn hv hl2 hl3 hf2 hf3
 go_enter Tryd.func9, Tryd.ntmps9
 go_wp2_with (go_at_call 11; with_reducible refine (impl_PkgOk.calls 0 n v A2 c2 l2 A3 c3 l3 true _ ?h1 HC2.out ?h2 HC3.out HN.out).mono ?_; (case h1 => exact zC HR2.out); (case h2 => exact zC HR3.out); rintro e w1 ⟨rfl, hb⟩; refine Go.RowKit.Hid.out ?_)
 refine Go.Lib.hid ?_
 have HB := Aside0.mk (below_then (below_alloc (Below.refl w.heap.size w) _) (by simp) hb)
 have BK := Aside0.mk (blk_below (blk_new w _) hb)
 clear hb
 obtain ⟨gb, hgb⟩ : ∃ g, g = w.heap.size := ⟨_, rfl⟩
 rw [← hgb] at BK ⊢
 clear hgb
 have k0 : w1.cell? ⟨gb, 0, none⟩ = some (.int .i64 n) := (blk_cell BK.out 0).trans rfl
 have k1 : w1.cell? ⟨gb, 1, none⟩ = some (.int .i64 v) := (blk_cell BK.out 1).trans rfl
 have k2 : w1.cell? ⟨gb, 2, none⟩ = some (.slice A2 l2.length c2) := (blk_cell BK.out 2).trans rfl
 have k3 : w1.cell? ⟨gb, 3, none⟩ = some (.slice A3 l3.length c3) := (blk_cell BK.out 3).trans rfl
 go_wp2_with ((with_reducible refine gate_dst (N := 3) rfl ?_); refine box_event ?hg (N := 3) ?hd (cs := #[.pointer none, .slice none 0 0]) (t := 56) ?hr ?_; (case hd => rfl); (case hg => rfl); (case hr => first | (go_simp; done) | (go_simp; rfl)); intro b hbb w2 hbox hb; have HBB := Aside0.mk hbb; clear hbb; have HBX := Aside0.mk hbox; clear hbox; refine Go.RowKit.Hid.out ?_)
 refine Go.Lib.hid ?_
 have hbb := HBB.out
 have hbox := HBX.out
 clear HBB HBX
 have HI := Aside0.mk (show Lib.IsBuilder 56 5 b b [] w2 from .inl ⟨Nat.le_refl _, _, hbox, own_nil w2 b 5 1, by simp [Value.ownBlock]⟩)
 have n0_ := Aside0.mk (below_step HB.out hb)
 have n1_ := Aside0.mk (blk_below BK.out hb)
 have HG := Aside0.mk (show gb < b by rw [hbb]; exact blk_lt BK.out)
 have HS := Aside0.mk (show w.heap.size ≤ b by rw [hbb]; exact HB.out.size)
 have HT := Aside0.mk (blk_lt hbox)
 clear HB BK k0 k1 k2 k3 hbox hb hbb
 have HB := n0_
 have BK := n1_
 clear n0_ n1_
 have k0 : w2.cell? ⟨gb, 0, none⟩ = some (.int .i64 n) := (blk_cell BK.out 0).trans rfl
 have k1 : w2.cell? ⟨gb, 1, none⟩ = some (.int .i64 v) := (blk_cell BK.out 1).trans rfl
 have k2 : w2.cell? ⟨gb, 2, none⟩ = some (.slice A2 l2.length c2) := (blk_cell BK.out 2).trans rfl
 have k3 : w2.cell? ⟨gb, 3, none⟩ = some (.slice A3 l3.length c3) := (blk_cell BK.out 3).trans rfl
 obtain ⟨s0, hs0⟩ : ∃ s : ByteArray, s = (⟨#[UInt8.ofNat (96 + n)]⟩ ++ ⟨#[UInt8.ofNat (48 + v)]⟩) := ⟨_, rfl⟩
 rw [← hs0] at HD
 have HS0 := Aside0.mk hs0
 have hz0 : s0.size = 2 := by rw [hs0]; rfl
 have HZ0 := Aside0.mk hz0
 clear hs0 hz0
 go_wp2_with (first | (go_at_call 26; with_reducible refine (HD.out _).mono ?_; rintro e w' ⟨rfl, rfl⟩) | (go_at_call 25; with_reducible refine (bld_WriteString b b [] s0 _ HI.out ?h1 ?h2).mono ?_; (case h1 => rw [HZ0.out]; simp); (case h2 => exact Nat.le_of_lt HT.out); rintro e w3 ⟨rfl, hi, hb⟩; refine Go.RowKit.Hid.out ?_))
 refine Go.Lib.hid ?_
 have HI := Aside0.mk (show Lib.IsBuilder 56 5 b b (Lib.strCells (strOfNums ([96 + (n : Int), 48 + (v : Int)] ++ (l2.take (0 : Int).toNat).flatMap ptF))) w3 from .inr (by
  rw [show strOfNums ([96 + (n : Int), 48 + (v : Int)] ++ (l2.take (0 : Int).toNat).flatMap ptF) = s0 by rw [HS0.out]; rfl]
  exact hi))
 have n0_ := Aside0.mk (below_far HB.out HS.out hb)
 have n1_ := Aside0.mk ((hb.block gb HG.out).trans BK.out)
 have n2_ := Aside0.mk (Nat.lt_of_lt_of_le HT.out hb.size)
 clear HB BK k0 k1 k2 k3 hi hb HT HS0 HZ0 HD
 have HB := n0_
 have BK := n1_
 have HT := n2_
 clear n0_ n1_ n2_
 have k0 : w3.cell? ⟨gb, 0, none⟩ = some (.int .i64 n) := (blk_cell BK.out 0).trans rfl
 have k1 : w3.cell? ⟨gb, 1, none⟩ = some (.int .i64 v) := (blk_cell BK.out 1).trans rfl
 have k2 : w3.cell? ⟨gb, 2, none⟩ = some (.slice A2 l2.length c2) := (blk_cell BK.out 2).trans rfl
 have k3 : w3.cell? ⟨gb, 3, none⟩ = some (.slice A3 l3.length c3) := (blk_cell BK.out 3).trans rfl
 go_wp2
 go_loopw [20] (fun v5 w' => ∃ x : Int, 0 ≤ x ∧ x ≤ (l2.length : Int) ∧ v5 = .int .i64 x ∧ Aside0 (Lib.IsBuilder 56 5 b b (Lib.strCells (strOfNums ([96 + (n : Int), 48 + (v : Int)] ++ (l2.take x.toNat).flatMap ptF))) w') ∧ Aside0 (w'.heap[gb]? = some (.cells #[.int .i64 n, .int .i64 v, .slice A2 l2.length c2, .slice A3 l3.length c3] 26 (0, 0))) ∧ Aside0 (Below w.heap.size w w') ∧ Aside0 (b < w'.heap.size)) (fun v5 _ => l2.length - (intOf v5).toNat)
 case atStart => exact ⟨0, by omega, by omega, rfl, HI, BK, HB, HT⟩
 case round =>
  clear HI HB BK k0 k1 k2 k3 HT
  obtain ⟨x, hx0, hx1, rfl, HI, BK, HB, HT⟩ := hrel
  have k0 : wr.cell? ⟨gb, 0, none⟩ = some (.int .i64 n) := (blk_cell BK.out 0).trans rfl
  have k1 : wr.cell? ⟨gb, 1, none⟩ = some (.int .i64 v) := (blk_cell BK.out 1).trans rfl
  have k2 : wr.cell? ⟨gb, 2, none⟩ = some (.slice A2 l2.length c2) := (blk_cell BK.out 2).trans rfl
  have k3 : wr.cell? ⟨gb, 3, none⟩ = some (.slice A3 l3.length c3) := (blk_cell BK.out 3).trans rfl
  have hl2 := HL2.out
  by_cases hlt : x < (l2.length : Int)
  ·obtain ⟨ad, e, m0, m1⟩ := at_T63 HR2.out x hx0 hlt
   cases e
   replace m0 := (HB.out.cell (World.block_lt_of_cell? w _ m0)).trans m0
   replace m1 := (HB.out.cell (World.block_lt_of_cell? w _ m1)).trans m1
   obtain ⟨⟨r0, r1⟩, r2, r3⟩ := HF2.out x hx0 hlt
   obtain ⟨F0, hF0⟩ : ∃ F0 : Nat, (F0 : Int) = (rd_T63 l2 x).f0 := ⟨(rd_T63 l2 x).f0.toNat, by omega⟩
   obtain ⟨F1, hF1⟩ : ∃ F1 : Nat, (F1 : Int) = (rd_T63 l2 x).f1 := ⟨(rd_T63 l2 x).f1.toNat, by omega⟩
   rw [← hF0] at m0 r0 r1
   rw [← hF1] at m1 r2 r3
   have HF := Aside0.mk (And.intro hF0 hF1)
   clear hF0 hF1
   have q1 : decide (x < (l2.length : Int)) = true := decide_eq_true hlt
   have q2 : 0 ≤ x := hx0
   have I0 := fun W => Tryd.strconv_Itoa_small F0 (by omega) W
   have I1 := fun W => Tryd.strconv_Itoa_small F1 (by omega) W
   rw [one_digit F0 (by omega)] at I0
   rw [one_digit F1 (by omega)] at I1
   obtain ⟨d0, hd0⟩ : ∃ s : ByteArray, s = ⟨#[UInt8.ofNat (48 + F0)]⟩ := ⟨_, rfl⟩
   obtain ⟨d1, hd1⟩ : ∃ s : ByteArray, s = ⟨#[UInt8.ofNat (48 + F1)]⟩ := ⟨_, rfl⟩
   rw [← hd0] at I0
   rw [← hd1] at I1
   have z0 : d0.size = 1 := by rw [hd0]; rfl
   have z1 : d1.size = 1 := by rw [hd1]; rfl
   have HD := Aside0.mk (And.intro hd0 hd1)
   have J0 := Aside0.mk I0
   have J1 := Aside0.mk I1
   clear hd0 hd1 I0 I1 r0 r1 r2 r3
   go_wp2
   have n0_ := Aside0.mk (below_alloc HB.out (Obj.cells #[.int .i64 (F0 : Int), .int .i64 (F1 : Int)] 63))
   have n1_ := Aside0.mk (blk_alloc BK.out (Obj.cells #[.int .i64 (F0 : Int), .int .i64 (F1 : Int)] 63))
   have n2_ := Aside0.mk (ib_below HI.out (below_alloc (Below.refl _ wr) (Obj.cells #[.int .i64 (F0 : Int), .int .i64 (F1 : Int)] 63)))
   have n3_ := Aside0.mk (Nat.lt_of_lt_of_le HT.out (below_alloc (Below.refl _ wr) (Obj.cells #[.int .i64 (F0 : Int), .int .i64 (F1 : Int)] 63)).size)
   have f0 : (wr.alloc (Obj.cells #[.int .i64 (F0 : Int), .int .i64 (F1 : Int)] 63)).cell? ⟨wr.heap.size, 0, none⟩ = some (.int .i64 F0) := by simp
   have f1 : (wr.alloc (Obj.cells #[.int .i64 (F0 : Int), .int .i64 (F1 : Int)] 63)).cell? ⟨wr.heap.size, 1, none⟩ = some (.int .i64 F1) := by simp
   clear HB BK m0 m1 k0 k1 k2 k3 HI HT
   generalize wr.alloc (Obj.cells #[.int .i64 (F0 : Int), .int .i64 (F1 : Int)] 63) = W at n0_ n1_ n2_ n3_ f0 f1 ⊢
   generalize wr.heap.size = gf at f0 f1 ⊢
   have HB := n0_
   have BK := n1_
   have HI := n2_
   have HT := n3_
   clear n0_ n1_ n2_ n3_
   refine wp_region_still_tail 9 (by kernel_rfl) (by kernel_rfl) ?_
   simp only [List.take_succ_cons, List.take_zero, List.drop_succ_cons, List.drop_zero]
   repeat still_step
   still_call (J0.out _)
   repeat still_step
   still_call (J1.out _)
   repeat still_step
   refine wpStill_nil ?_
   have n0_ := Aside0.mk (below_drew HB.out)
   have n1_ := Aside0.mk (blk_drew BK.out)
   have n2_ := Aside0.mk (ib_below HI.out (below_drew (Below.refl _ W)))
   have n3_ := Aside0.mk (show b < W.drew.heap.size from HT.out)
   clear HB BK HI HT f0 f1
   have HB := n0_
   have BK := n1_
   have HI := n2_
   have HT := n3_
   clear n0_ n1_ n2_ n3_
   have HLN := Aside0.mk (show (Lib.strCells (strOfNums ([96 + (n : Int), 48 + (v : Int)] ++ (l2.take x.toNat).flatMap ptF))).length + (⟨#[32]⟩ ++ d0 ++ ⟨#[58]⟩ ++ d1 : ByteArray).size ≤ 140737488355328 by
    have h1 := flat_le ptF 4 (l2.take x.toNat) (fun _ _ => Nat.le_refl _)
    have h2 : (l2.take x.toNat).length ≤ l2.length := by rw [List.length_take]; omega
    simp only [Lib.strCells_length, strOfNums_size, List.length_append, List.length_cons, List.length_nil, ByteArray.size_append, z0, z1, show (⟨#[32]⟩ : ByteArray).size = 1 from rfl, show (⟨#[58]⟩ : ByteArray).size = 1 from rfl]
    omega)
   have HE := Aside0.mk (show Lib.strCells (strOfNums ([96 + (n : Int), 48 + (v : Int)] ++ (l2.take x.toNat).flatMap ptF)) ++ Lib.strCells (⟨#[32]⟩ ++ d0 ++ ⟨#[58]⟩ ++ d1) = Lib.strCells (strOfNums ([96 + (n : Int), 48 + (v : Int)] ++ (l2.take (x + 1).toNat).flatMap ptF)) by
    rw [HD.out.1, HD.out.2, pt_file, take_next ptF z63 l2 x hx0 hlt, ← str_cells, str_cat, List.append_assoc]
    congr 4
    rw [HF.out.1, HF.out.2]
    rfl)
   clear z0 z1
   go_wp2_with (go_at_call 25; with_reducible refine (bld_WriteString b b _ _ _ HI.out HLN.out (Nat.le_of_lt HT.out)).mono ?_; rintro e w4 ⟨rfl, hi, hb⟩; refine Go.RowKit.Hid.out ?_)
   refine Go.Lib.hid ?_
   rw [HE.out] at hi
   have n0_ := Aside0.mk (below_far HB.out HS.out hb)
   have n1_ := Aside0.mk ((hb.block gb HG.out).trans BK.out)
   have n2_ := Aside0.mk (Nat.lt_of_lt_of_le HT.out hb.size)
   have HI2 := Aside0.mk hi
   clear HB BK hi hb HT HE HLN HI
   go_wp2
   go_roundw
   case rel => exact ⟨x + 1, by omega, by omega, by first | rfl | simp, ⟨.inr HI2.out⟩, n1_, n0_, n2_⟩
   case measure => simp [intOf]; omega
  ·have hxe : x = (l2.length : Int) := by omega
   have q1 : decide (x < (l2.length : Int)) = false := decide_eq_false hlt
   replace HI := Aside0.mk (show Lib.IsBuilder 56 5 b b (Lib.strCells (strOfNums (([96 + (n : Int), 48 + (v : Int)] ++ l2.flatMap ptF) ++ (l3.take (0 : Int).toNat).flatMap ptD))) wr by
    have h_ := HI.out
    rw [hxe, Int.toNat_natCast, List.take_length] at h_
    simpa using h_)
   clear hxe hx0 hx1 hlt hl2
   go_wp2
   clear q1 k0 k1 k2 k3
   obtain ⟨W0, hW0⟩ : ∃ W, W = wr := ⟨_, rfl⟩
   rw [← hW0] at HB BK HI HT ⊢
   clear hW0
   go_loopw [38] (fun v5 w' => ∃ x : Int, 0 ≤ x ∧ x ≤ (l3.length : Int) ∧ v5 = .int .i64 x ∧ Aside0 (Lib.IsBuilder 56 5 b b (Lib.strCells (strOfNums (([96 + (n : Int), 48 + (v : Int)] ++ l2.flatMap ptF) ++ (l3.take x.toNat).flatMap ptD))) w') ∧ Aside0 (w'.heap[gb]? = some (.cells #[.int .i64 n, .int .i64 v, .slice A2 l2.length c2, .slice A3 l3.length c3] 26 (0, 0))) ∧ Aside0 (Below w.heap.size w w') ∧ Aside0 (b < w'.heap.size)) (fun v5 _ => l3.length - (intOf v5).toNat)
   case atStart => exact ⟨0, by omega, by omega, rfl, HI, BK, HB, HT⟩
   case round =>
    clear HI HB BK HT
    obtain ⟨x, hx0, hx1, rfl, HI, BK, HB, HT⟩ := hrel
    have hl3 := HL3.out
    by_cases hlt : x < (l3.length : Int)
    ·obtain ⟨ad, e, m0, m1⟩ := at_T66 HR3.out x hx0 hlt
     cases e
     replace m0 := (HB.out.cell (World.block_lt_of_cell? w _ m0)).trans m0
     replace m1 := (HB.out.cell (World.block_lt_of_cell? w _ m1)).trans m1
     obtain ⟨⟨r0, r1⟩, r2, r3⟩ := HF3.out x hx0 hlt
     obtain ⟨F0, hF0⟩ : ∃ F0 : Nat, (F0 : Int) = (rd_T66 l3 x).f0 := ⟨(rd_T66 l3 x).f0.toNat, by omega⟩
     obtain ⟨F1, hF1⟩ : ∃ F1 : Nat, (F1 : Int) = (rd_T66 l3 x).f1 := ⟨(rd_T66 l3 x).f1.toNat, by omega⟩
     rw [← hF0] at m0 r0 r1
     rw [← hF1] at m1 r2 r3
     have HF := Aside0.mk (And.intro hF0 hF1)
     clear hF0 hF1
     have q1 : decide (x < (l3.length : Int)) = true := decide_eq_true hlt
     have q2 : 0 ≤ x := hx0
     have I0 := fun W => named_b F0 F1 (by omega) (by omega) (by omega) W
     obtain ⟨d0, hd0⟩ : ∃ s : ByteArray, s = (⟨#[UInt8.ofNat (96 + F0)]⟩ ++ ⟨#[UInt8.ofNat (48 + F1)]⟩) := ⟨_, rfl⟩
     rw [← hd0] at I0
     have z0 : d0.size = 2 := by rw [hd0]; rfl
     have HD := Aside0.mk hd0
     have J0 := Aside0.mk I0
     clear hd0 I0 r0 r1 r2 r3
     go_wp2_with (go_at_call 26; with_reducible refine (J0.out _).mono ?_; rintro e wx ⟨rfl, hwx⟩; have HWX := Aside0.mk hwx; clear hwx; refine Go.RowKit.Hid.out ?_)
     refine Go.Lib.hid ?_
     have hwx := HWX.out
     have HBX : Below wr.heap.size wr wx := by rw [hwx]; exact below_alloc (Below.refl _ wr) _
     clear HWX hwx
     have n0_ := Aside0.mk (below_step HB.out HBX)
     have n1_ := Aside0.mk (blk_below BK.out HBX)
     have n2_ := Aside0.mk (ib_below HI.out HBX)
     have n3_ := Aside0.mk (Nat.lt_of_lt_of_le HT.out HBX.size)
     clear HB BK m0 m1 HI HT HBX
     have HB := n0_
     have BK := n1_
     have HI := n2_
     have HT := n3_
     clear n0_ n1_ n2_ n3_
     have HLN := Aside0.mk (show (Lib.strCells (strOfNums (([96 + (n : Int), 48 + (v : Int)] ++ l2.flatMap ptF) ++ (l3.take x.toNat).flatMap ptD))).length + (⟨#[32]⟩ ++ d0 : ByteArray).size ≤ 140737488355328 by
      have h1 := flat_le ptD 3 (l3.take x.toNat) (fun _ _ => Nat.le_refl _)
      have h2 : (l3.take x.toNat).length ≤ l3.length := by rw [List.length_take]; omega
      have h3 := flat_le ptF 4 l2 (fun _ _ => Nat.le_refl _)
      have h4 := HL2.out
      simp only [Lib.strCells_length, strOfNums_size, List.length_append, List.length_cons, List.length_nil, ByteArray.size_append, z0, show (⟨#[32]⟩ : ByteArray).size = 1 from rfl]
      omega)
     have HE := Aside0.mk (show Lib.strCells (strOfNums (([96 + (n : Int), 48 + (v : Int)] ++ l2.flatMap ptF) ++ (l3.take x.toNat).flatMap ptD)) ++ Lib.strCells (⟨#[32]⟩ ++ d0) = Lib.strCells (strOfNums (([96 + (n : Int), 48 + (v : Int)] ++ l2.flatMap ptF) ++ (l3.take (x + 1).toNat).flatMap ptD)) by
      rw [HD.out, pt_dep, take_next ptD z66 l3 x hx0 hlt, ← str_cells, str_cat, List.append_assoc]
      congr 4
      rw [HF.out.1, HF.out.2]
      rfl)
     go_wp2_with (go_at_call 25; with_reducible refine (bld_WriteString b b _ _ _ HI.out HLN.out (Nat.le_of_lt HT.out)).mono ?_; rintro e w4 ⟨rfl, hi, hb⟩; refine Go.RowKit.Hid.out ?_)
     refine Go.Lib.hid ?_
     rw [HE.out] at hi
     have n0_ := Aside0.mk (below_far HB.out HS.out hb)
     have n1_ := Aside0.mk ((hb.block gb HG.out).trans BK.out)
     have n2_ := Aside0.mk (Nat.lt_of_lt_of_le HT.out hb.size)
     have HI2 := Aside0.mk hi
     clear HB BK hi hb HT HE HLN HI z0
     go_wp2
     go_roundw
     case rel => exact ⟨x + 1, by omega, by omega, by first | rfl | simp, ⟨.inr HI2.out⟩, n1_, n0_, n2_⟩
     case measure => simp [intOf]; omega
    ·have hxe : x = (l3.length : Int) := by omega
     have q1 : decide (x < (l3.length : Int)) = false := decide_eq_false hlt
     replace HI := Aside0.mk (show Lib.IsBuilder 56 5 b b (Lib.byteCells (strOfNums (ptL n v l2 l3)).data.toList) wr by
      have h_ := HI.out
      rw [hxe, Int.toNat_natCast, List.take_length] at h_
      unfold ptL
      rw [← List.append_assoc]
      exact h_)
     clear hxe hx0 hx1 hlt hl3
     go_wp2_with (go_at_call 28; with_reducible refine (Tryd.Builder_String_any b b _ _ HI.out (Nat.le_of_lt HT.out)).mono ?_; rintro e w5 ⟨rfl, hb⟩)
     go_ret
     exact ⟨by first | rfl | simp [*], below_far HB.out HS.out hb⟩
def impl_PkgText.f (_k : Nat) (n v : Int) (l2 : List S63) (l3 : List S66) : Option ByteArray := some (ptS n v l2 l3)
theorem impl_PkgText.mono : ∀ a0 a1 a2 a3 k, LeO (impl_PkgText.f k a0 a1 a2 a3) (impl_PkgText.f (k + 1) a0 a1 a2 a3) := fun _ _ _ _ _ _ h => h
theorem impl_PkgText.calls (k : Nat) (a0_0 : Int) (a0_1 : Int) (A0_2 : Option Addr) (c0_2 : Nat) (l0_2 : List S63) (A0_3 : Option Addr) (c0_3 : Nat) (l0_3 : List S66) (r : ByteArray) (w : World) (hr0_2 : Kd.C k63 w A0_2 l0_2.length l0_2) (hc0_2 : l0_2.length ≤ c0_2) (hr0_3 : Kd.C k66 w A0_3 l0_3.length l0_3) (hc0_3 : l0_3.length ≤ c0_3) (h : impl_PkgText.f k a0_0 a0_1 l0_2 l0_3 = some r) :
  Calls Tryd.prog 9 #[.agg #[.int .i64 a0_0, .int .i64 a0_1, .slice A0_2 l0_2.length c0_2, .slice A0_3 l0_3.length c0_3]] w fun e w' => e = .returned (.string r) ∧ Below w.heap.size w w' := by
 obtain rfl := Option.some.inj h
 cases hp : pkB a0_0 a0_1 l0_2 l0_3 with
 | true =>
  obtain ⟨⟨h1, _⟩, ⟨h2, _⟩, _⟩ := pkB_nums hp
  obtain ⟨n, rfl⟩ : ∃ n : Nat, (n : Int) = a0_0 := ⟨a0_0.toNat, by omega⟩
  obtain ⟨v, rfl⟩ : ∃ n : Nat, (n : Int) = a0_1 := ⟨a0_1.toNat, by omega⟩
  rw [ptS, if_pos hp]
  exact pt_yes n v A0_2 c0_2 l0_2 A0_3 c0_3 l0_3 w hr0_2 hc0_2 hr0_3 hc0_3 hp
 | false =>
  rw [ptS, if_neg (by rw [hp]; decide)]
  exact pt_no a0_0 a0_1 A0_2 c0_2 l0_2 A0_3 c0_3 l0_3 w hr0_2 hc0_2 hr0_3 hc0_3 hp

/-! ### spec_l6In: function 52 -/
def spec_l6In.f (a0 : Int) (a1 : Int) (a2 : Int) : Option (Bool) := if a0 ≥ a1 then (some (decide (a0 ≤ a2))) else (some false)
set_option maxHeartbeats 8000000 in
set_option maxRecDepth 100000 in
theorem spec_l6In.calls (a0 : Int) (a1 : Int) (a2 : Int) (r : Bool) (w : World) (h : spec_l6In.f a0 a1 a2 = some r) :
  Calls Tryd.prog 52 #[.int .i64 a0, .int .i64 a1, .int .i64 a2] w fun e w' => e = .returned (.bool r) ∧ Drawn0 w w' := by
 have H : (if a0 ≥ a1 then (some (decide (a0 ≤ a2))) else (some false)) = some r := h
 clear h
 by_cases c4 : a0 ≥ a1
 ·rw [if_pos c4] at H
  have c4b0 : decide (a1 ≤ a0) = true := decide_eq_true c4
  clear c4
  obtain rfl := Option.some.inj H
  go_enter Tryd.func52, Tryd.ntmps52
  go_wp2
  go_ret
  exact ⟨by first | rfl | (simp; done) | (simp [*]; done), by repeat (first | exact Drawn0.refl _ | apply Drawn0.step)⟩
 ·rw [if_neg c4] at H
  have c4b0 : decide (a1 ≤ a0) = false := decide_eq_false c4
  clear c4
  obtain rfl := Option.some.inj H
  go_enter Tryd.func52, Tryd.ntmps52
  go_wp2
  go_ret
  exact ⟨by first | rfl | (simp; done) | (simp [*]; done), by repeat (first | exact Drawn0.refl _ | apply Drawn0.step)⟩

/-! ### spec_l1Files: function 53 -/
theorem spec_l6In_b (w : World) (n a b : Int) (v : Bool) (h : inB_ n a b = v) : Calls Tryd.prog 52 #[.int .i64 n, .int .i64 a, .int .i64 b] w fun e w' => e = .returned (.bool v) ∧ w' = w := by
 subst h
 go_enter Tryd.func52, Tryd.ntmps52
 by_cases h1 : a ≤ n
 ·by_cases h2 : n ≤ b
  ·have e1 : inB_ n a b = true := by unfold inB_; rw [decide_eq_true h1, decide_eq_true h2]; rfl
   have d1 : decide (a ≤ n) = true := decide_eq_true h1
   have d2 : decide (n ≤ b) = true := decide_eq_true h2
   rw [e1]
   clear h1 h2 e1
   go_wp2
   go_ret
   exact ⟨by first | rfl | simp [*], rfl⟩
  ·have e1 : inB_ n a b = false := by unfold inB_; rw [decide_eq_false h2, Bool.and_false]
   have d1 : decide (a ≤ n) = true := decide_eq_true h1
   have d2 : decide (n ≤ b) = false := decide_eq_false h2
   rw [e1]
   clear h1 h2 e1
   go_wp2
   go_ret
   exact ⟨by first | rfl | simp [*], rfl⟩
 ·have e1 : inB_ n a b = false := by unfold inB_; rw [decide_eq_false h1, Bool.false_and]
  have d1 : decide (a ≤ n) = false := decide_eq_false h1
  rw [e1]
  clear h1 e1
  go_wp2
  go_ret
  exact ⟨by first | rfl | simp [*], rfl⟩
def file1 (l : List S63) (i : Nat) : Bool := inB_ (l.getD i z63).f0 0 5 && (inB_ (l.getD i z63).f1 0 9 && (i == 0 || decide ((l.getD (i - 1) z63).f0 < (l.getD i z63).f0)))
def l1f (l : List S63) : Bool := okFrom (file1 l) l.length 0 && decide (l.length ≤ 2)
set_option maxHeartbeats 8000000 in
set_option maxRecDepth 100000 in
theorem l1f_calls (A0 : Option Addr) (c0 : Nat) (l0 : List S63) (w : World) (hr0 : Kd.C k63 w A0 l0.length l0) (hc0 : l0.length ≤ c0) :
  Calls Tryd.prog 53 #[.slice A0 l0.length c0] w fun e w' => e = .returned (.bool (l1f l0)) ∧ Drawn0 w w' := by
 have HR := Aside0.mk hr0
 have HC := Aside0.mk hc0
 have HL := Aside0.mk hr0.2.1
 clear hr0 hc0
 go_enter Tryd.func53, Tryd.ntmps53
 go_wp2
 go_loopw [3] (fun v3 w' => ∃ x : Int, 0 ≤ x ∧ x ≤ (l0.length : Int) ∧ v3 = .int .i64 x ∧ Aside0 (l1f l0 = (okFrom (file1 l0) (l0.length - x.toNat) x.toNat && decide (l0.length ≤ 2))) ∧ Drawn0 w w') (fun v3 _ => l0.length - (intOf v3).toNat)
 case atStart => exact ⟨0, by omega, by omega, rfl, ⟨rfl⟩, Drawn0.refl _⟩
 case round =>
  obtain ⟨x, hx0, hx1, rfl, HE, ⟨m1, rfl⟩⟩ := hrel
  by_cases hlt : x < (l0.length : Int)
  ·obtain ⟨ad, e, c0, c1⟩ := at_T63 HR.out x hx0 hlt
   cases e
   obtain ⟨F0, hF0⟩ : ∃ F0, F0 = (rd_T63 l0 x).f0 := ⟨_, rfl⟩
   obtain ⟨F1, hF1⟩ : ∃ F1, F1 = (rd_T63 l0 x).f1 := ⟨_, rfl⟩
   rw [← hF0] at c0
   rw [← hF1] at c1
   have HF := Aside0.mk (And.intro hF0 hF1)
   clear hF0 hF1
   obtain ⟨b1, hb1⟩ : ∃ b, inB_ F0 0 5 = b := ⟨_, rfl⟩
   obtain ⟨b2, hb2⟩ : ∃ b, inB_ F1 0 9 = b := ⟨_, rfl⟩
   have C1 := Aside0.mk (fun W => spec_l6In_b W F0 0 5 b1 hb1)
   have C2 := Aside0.mk (fun W => spec_l6In_b W F1 0 9 b2 hb2)
   have B1 := Aside0.mk hb1
   have B2 := Aside0.mk hb2
   clear hb1 hb2
   have q1 : decide (x < (l0.length : Int)) = true := decide_eq_true hlt
   have q2 : 0 ≤ x := hx0
   have HN := Aside0.mk (okFrom_at (p := file1 l0) hx0 hlt)
   have no : Aside0 (file1 l0 x.toNat = false → l1f l0 = false) := ⟨fun h_ => by rw [HE.out, HN.out, h_]; rfl⟩
   have yes : Aside0 (file1 l0 x.toNat = true → l1f l0 = (okFrom (file1 l0) (l0.length - (x + 1).toNat) (x + 1).toNat && decide (l0.length ≤ 2))) := ⟨fun h_ => by rw [HE.out, HN.out, h_]; rfl⟩
   clear HE HN
   have hb2 : b2 = true ∨ b2 = false := by cases b2 <;> simp
   have HL2 := HL.out
   cases b1 with
   | false =>
    go_wp2
    go_quiet ((go_at_call 52; (first | with_reducible refine (C1.out _).mono ?_ | with_reducible refine (C2.out _).mono ?_); exact fun _ _ h_ => ⟨h_.1, _, h_.2⟩))
    go_wp2
    go_ret
    rw [no.out (by unfold file1; rw [← show _ = (l0.getD x.toNat z63).f0 from HF.out.1, B1.out]; rfl)]
    exact ⟨by first | rfl | simp [*], by repeat (first | exact Drawn0.refl _ | apply Drawn0.step)⟩
   | true =>
    cases b2 with
    | false =>
     go_wp2
     go_quiet ((go_at_call 52; (first | with_reducible refine (C1.out _).mono ?_ | with_reducible refine (C2.out _).mono ?_); exact fun _ _ h_ => ⟨h_.1, _, h_.2⟩))
     go_wp2
     go_ret
     rw [no.out (by unfold file1; rw [← show _ = (l0.getD x.toNat z63).f0 from HF.out.1, ← show _ = (l0.getD x.toNat z63).f1 from HF.out.2, B1.out, B2.out]; rfl)]
     exact ⟨by first | rfl | simp [*], by repeat (first | exact Drawn0.refl _ | apply Drawn0.step)⟩
    | true =>
     by_cases hz : x ≤ 0
     ·have hx4 : decide (0 < x) = false := decide_eq_false (by omega)
      have Y := Aside0.mk (yes.out (by unfold file1; rw [← show _ = (l0.getD x.toNat z63).f0 from HF.out.1, ← show _ = (l0.getD x.toNat z63).f1 from HF.out.2, B1.out, B2.out, show (x.toNat == 0) = true by rw [beq_iff_eq]; omega]; rfl))
      clear yes no hz
      go_wp2
      go_quiet ((go_at_call 52; (first | with_reducible refine (C1.out _).mono ?_ | with_reducible refine (C2.out _).mono ?_); exact fun _ _ h_ => ⟨h_.1, _, h_.2⟩))
      go_wp2
      go_roundw
      case rel => exact ⟨x + 1, by omega, by omega, by first | rfl | simp, Y, by repeat (first | exact Drawn0.refl _ | apply Drawn0.step)⟩
      case measure => simp [intOf]; omega
     ·have g0 : 0 < x := by omega
      clear hz
      obtain ⟨y, hy⟩ : ∃ y, y = x - 1 := ⟨_, rfl⟩
      have hw : IntKind.i64.wrap (x - 1) = y := by rw [i64_w, hy]; unfold wrap64; omega
      obtain ⟨ad2, e2, d0, d1⟩ := at_T63 HR.out y (by omega) (by omega)
      obtain ⟨G0, hG0⟩ : ∃ G0, G0 = (rd_T63 l0 y).f0 := ⟨_, rfl⟩
      rw [← hG0] at d0
      cases e2
      have HG := Aside0.mk hG0
      clear hG0 d1
      have hx2 : 0 ≤ y := by omega
      have hx3 : decide (y < (l0.length : Int)) = true := decide_eq_true (by omega)
      have hx4 : decide (0 < x) = true := decide_eq_true g0
      have hx5 : y < (l0.length : Int) := by omega
      have HY := Aside0.mk hy
      clear hy
      have FD : Aside0 (file1 l0 x.toNat = decide (G0 < F0)) := ⟨by
       unfold file1
       rw [← show _ = (l0.getD x.toNat z63).f0 from HF.out.1, ← show _ = (l0.getD x.toNat z63).f1 from HF.out.2, B1.out, B2.out, show (x.toNat == 0) = false by rw [beq_eq_false_iff_ne]; omega, show x.toNat - 1 = y.toNat by have := HY.out; omega, ← show _ = (l0.getD y.toNat z63).f0 from HG.out]; rfl⟩
      by_cases hc : F0 ≤ G0
      ·have cb : decide (F0 ≤ G0) = true := decide_eq_true hc
       have N := Aside0.mk (no.out (by rw [FD.out, decide_eq_false (by omega)]))
       clear yes no hc
       go_wp2
       go_quiet ((go_at_call 52; (first | with_reducible refine (C1.out _).mono ?_ | with_reducible refine (C2.out _).mono ?_); exact fun _ _ h_ => ⟨h_.1, _, h_.2⟩))
       go_wp2
       go_ret
       rw [N.out]
       exact ⟨by first | rfl | simp [*], by repeat (first | exact Drawn0.refl _ | apply Drawn0.step)⟩
      ·have cb : decide (F0 ≤ G0) = false := decide_eq_false hc
       have Y := Aside0.mk (yes.out (by rw [FD.out, decide_eq_true (by omega)]))
       clear yes no hc
       go_wp2
       go_quiet ((go_at_call 52; (first | with_reducible refine (C1.out _).mono ?_ | with_reducible refine (C2.out _).mono ?_); exact fun _ _ h_ => ⟨h_.1, _, h_.2⟩))
       go_wp2
       go_roundw
       case rel => exact ⟨x + 1, by omega, by omega, by first | rfl | simp, Y, by repeat (first | exact Drawn0.refl _ | apply Drawn0.step)⟩
       case measure => simp [intOf]; omega
  ·have hxe : x = (l0.length : Int) := by omega
   have q1 : decide (x < (l0.length : Int)) = false := decide_eq_false hlt
   have E := Aside0.mk (show l1f l0 = decide ((l0.length : Int) ≤ 2) by
    rw [HE.out, hxe, Int.toNat_natCast, Nat.sub_self]
    simp only [okFrom, Bool.true_and]
    rw [Bool.eq_iff_iff, decide_eq_true_eq, decide_eq_true_eq]; omega)
   clear hxe HE
   go_wp2
   go_ret
   rw [E.out]
   exact ⟨by first | rfl | simp [*], by repeat (first | exact Drawn0.refl _ | apply Drawn0.step)⟩
def spec_l1Files.f (_k : Nat) (l0 : List S63) : Option Bool := some (l1f l0)
theorem spec_l1Files.mono : ∀ a0 k, LeO (spec_l1Files.f k a0) (spec_l1Files.f (k + 1) a0) := fun _ _ _ h => h
theorem spec_l1Files.calls (k : Nat) (A0 : Option Addr) (c0 : Nat) (l0 : List S63) (r : Bool) (w : World) (hr0 : Kd.C k63 w A0 l0.length l0) (hc0 : l0.length ≤ c0) (h : spec_l1Files.f k l0 = some r) :
  Calls Tryd.prog 53 #[.slice A0 l0.length c0] w fun e w' => e = .returned (.bool r) ∧ Below w.heap.size w w' := by
 obtain rfl := Option.some.inj h
 refine (l1f_calls A0 c0 l0 w hr0 hc0).mono ?_
 rintro e w' ⟨h1, n, rfl⟩
 refine ⟨h1, ?_⟩
 apply pw_below_drewN
 exact Below.refl _ _

/-! ### spec_l1Deps: function 54 -/
def dep1 (name : Int) (l : List S66) (i : Nat) : Bool := inB_ (l.getD i z66).f0 1 4 && (!decide ((l.getD i z66).f0 = name) && (inB_ (l.getD i z66).f1 1 5 && (i == 0 || decide ((l.getD (i - 1) z66).f0 < (l.getD i z66).f0))))
def l1d (name : Int) (l : List S66) : Bool := okFrom (dep1 name l) l.length 0 && decide (l.length ≤ 2)
set_option maxHeartbeats 8000000 in
set_option maxRecDepth 100000 in
theorem l1d_calls (a0 : Int) (A0 : Option Addr) (c0 : Nat) (l0 : List S66) (w : World) (hr0 : Kd.C k66 w A0 l0.length l0) (hc0 : l0.length ≤ c0) :
  Calls Tryd.prog 54 #[.int .i64 a0, .slice A0 l0.length c0] w fun e w' => e = .returned (.bool (l1d a0 l0)) ∧ Below w.heap.size w w' := by
 have HR := Aside0.mk hr0
 have HC := Aside0.mk hc0
 have HL := Aside0.mk hr0.2.1
 have HB := Aside0.mk (Below.refl w.heap.size w)
 clear hr0 hc0
 go_enter Tryd.func54, Tryd.ntmps54
 go_wp2
 go_loopw [5] (fun v5 w' => ∃ x : Int, 0 ≤ x ∧ x ≤ (l0.length : Int) ∧ v5 = .int .i64 x ∧ Aside0 (l1d a0 l0 = (okFrom (dep1 a0 l0) (l0.length - x.toNat) x.toNat && decide (l0.length ≤ 2))) ∧ Aside0 (Below w.heap.size w w')) (fun v5 _ => l0.length - (intOf v5).toNat)
 case atStart => exact ⟨0, by omega, by omega, rfl, ⟨rfl⟩, HB⟩
 case round =>
  clear HB
  obtain ⟨x, hx0, hx1, rfl, HE, HB⟩ := hrel
  by_cases hlt : x < (l0.length : Int)
  ·obtain ⟨ad, e, c0, c1⟩ := at_T66 HR.out x hx0 hlt
   cases e
   replace c0 := (HB.out.cell (World.block_lt_of_cell? w _ c0)).trans c0
   replace c1 := (HB.out.cell (World.block_lt_of_cell? w _ c1)).trans c1
   obtain ⟨F0, hF0⟩ : ∃ F0, F0 = (rd_T66 l0 x).f0 := ⟨_, rfl⟩
   obtain ⟨F1, hF1⟩ : ∃ F1, F1 = (rd_T66 l0 x).f1 := ⟨_, rfl⟩
   rw [← hF0] at c0
   rw [← hF1] at c1
   have HF := Aside0.mk (And.intro hF0 hF1)
   clear hF0 hF1
   have q1 : decide (x < (l0.length : Int)) = true := decide_eq_true hlt
   have q2 : 0 ≤ x := hx0
   obtain ⟨b1, hb1⟩ : ∃ b, inB_ F0 1 4 = b := ⟨_, rfl⟩
   obtain ⟨b2, hb2⟩ : ∃ b, inB_ F1 1 5 = b := ⟨_, rfl⟩
   have C1 := Aside0.mk (fun W => spec_l6In_b W F0 1 4 b1 hb1)
   have C2 := Aside0.mk (fun W => spec_l6In_b W F1 1 5 b2 hb2)
   have B1 := Aside0.mk hb1
   have B2 := Aside0.mk hb2
   clear hb1 hb2
   have HN := Aside0.mk (okFrom_at (p := dep1 a0 l0) hx0 hlt)
   have no : Aside0 (dep1 a0 l0 x.toNat = false → l1d a0 l0 = false) := ⟨fun h_ => by rw [HE.out, HN.out, h_]; rfl⟩
   have yes : Aside0 (dep1 a0 l0 x.toNat = true → l1d a0 l0 = (okFrom (dep1 a0 l0) (l0.length - (x + 1).toNat) (x + 1).toNat && decide (l0.length ≤ 2))) := ⟨fun h_ => by rw [HE.out, HN.out, h_]; rfl⟩
   have D : Aside0 (dep1 a0 l0 x.toNat = (b1 && (!decide (F0 = a0) && (b2 && (x.toNat == 0 || decide ((l0.getD (x.toNat - 1) z66).f0 < F0)))))) := ⟨by
    unfold dep1
    rw [← show _ = (l0.getD x.toNat z66).f0 from HF.out.1, ← show _ = (l0.getD x.toNat z66).f1 from HF.out.2, B1.out, B2.out]⟩
   clear HE HN HF B1 B2
   have HL2 := HL.out
   go_wp2
   have n0_ := Aside0.mk (below_alloc HB.out (Obj.cells #[.int .i64 F0, .int .i64 F1] 66))
   have n1_ := (below_alloc (Below.refl wr.heap.size wr) (Obj.cells #[.int .i64 F0, .int .i64 F1] 66))
   have k0 : (wr.alloc (Obj.cells #[.int .i64 F0, .int .i64 F1] 66)).cell? ⟨wr.heap.size, 0, none⟩ = some (.int .i64 F0) := by simp
   have k1 : (wr.alloc (Obj.cells #[.int .i64 F0, .int .i64 F1] 66)).cell? ⟨wr.heap.size, 1, none⟩ = some (.int .i64 F1) := by simp
   clear HB c0 c1 n1_
   generalize wr.alloc (Obj.cells #[.int .i64 F0, .int .i64 F1] 66) = W at n0_ k0 k1 ⊢
   generalize wr.heap.size = gb at k0 k1 ⊢
   have HB := n0_
   clear n0_
   cases b1 with
   | false =>
    go_quiet ((go_at_call 52; (first | with_reducible refine (C1.out _).mono ?_ | with_reducible refine (C2.out _).mono ?_); exact fun _ _ h_ => ⟨h_.1, _, h_.2⟩))
    go_wp2
    go_ret
    rw [no.out (by rw [D.out]; rfl)]
    exact ⟨by first | rfl | simp [*], by repeat (first | exact HB.out | apply pw_below_drewN)⟩
   | true =>
    by_cases he : F0 = a0
    ·have N := Aside0.mk (no.out (by rw [D.out, decide_eq_true he]; rfl))
     have e1 : (F0 == a0) = true := beq_iff_eq.mpr he
     clear yes no D he
     go_quiet ((go_at_call 52; (first | with_reducible refine (C1.out _).mono ?_ | with_reducible refine (C2.out _).mono ?_); exact fun _ _ h_ => ⟨h_.1, _, h_.2⟩))
     go_wp2
     go_ret
     rw [N.out]
     exact ⟨by first | rfl | simp [*], by repeat (first | exact HB.out | apply pw_below_drewN)⟩
    ·have e1 : (F0 == a0) = false := beq_eq_false_iff_ne.mpr he
     replace D := Aside0.mk (D.out.trans (by rw [decide_eq_false he]))
     clear he
     cases b2 with
     | false =>
      go_quiet ((go_at_call 52; (first | with_reducible refine (C1.out _).mono ?_ | with_reducible refine (C2.out _).mono ?_); exact fun _ _ h_ => ⟨h_.1, _, h_.2⟩))
      go_wp2
      go_ret
      rw [no.out (by rw [D.out]; rfl)]
      exact ⟨by first | rfl | simp [*], by repeat (first | exact HB.out | apply pw_below_drewN)⟩
     | true =>
      by_cases hz : x ≤ 0
      ·have hx4 : decide (0 < x) = false := decide_eq_false (by omega)
       have Y := Aside0.mk (yes.out (by rw [D.out, show (x.toNat == 0) = true by rw [beq_iff_eq]; omega]; rfl))
       clear yes no D hz
       go_quiet ((go_at_call 52; (first | with_reducible refine (C1.out _).mono ?_ | with_reducible refine (C2.out _).mono ?_); exact fun _ _ h_ => ⟨h_.1, _, h_.2⟩))
       go_wp2
       go_roundw
       case rel => exact ⟨x + 1, by omega, by omega, by first | rfl | simp, Y, ⟨by repeat (first | exact HB.out | apply pw_below_drewN)⟩⟩
       case measure => simp [intOf]; omega
      ·have g0 : 0 < x := by omega
       clear hz
       obtain ⟨y, hy⟩ : ∃ y, y = x - 1 := ⟨_, rfl⟩
       have hw : IntKind.i64.wrap (x - 1) = y := by rw [i64_w, hy]; unfold wrap64; omega
       obtain ⟨ad2, e2, d0, d1⟩ := at_T66 HR.out y (by omega) (by omega)
       obtain ⟨G0, hG0⟩ : ∃ G0, G0 = (rd_T66 l0 y).f0 := ⟨_, rfl⟩
       obtain ⟨G1, hG1⟩ : ∃ G1, G1 = (rd_T66 l0 y).f1 := ⟨_, rfl⟩
       rw [← hG0] at d0
       rw [← hG1] at d1
       cases e2
       replace d0 := (HB.out.cell (World.block_lt_of_cell? w _ d0)).trans d0
       replace d1 := (HB.out.cell (World.block_lt_of_cell? w _ d1)).trans d1
       have HG := Aside0.mk hG0
       clear hG0 hG1
       have hx2 : 0 ≤ y := by omega
       have hx3 : decide (y < (l0.length : Int)) = true := decide_eq_true (by omega)
       have hx4 : decide (0 < x) = true := decide_eq_true g0
       have hx5 : y < (l0.length : Int) := by omega
       have HY := Aside0.mk hy
       clear hy
       have FD : Aside0 (dep1 a0 l0 x.toNat = decide (G0 < F0)) := ⟨by
        rw [D.out, show (x.toNat == 0) = false by rw [beq_eq_false_iff_ne]; omega, show x.toNat - 1 = y.toNat by have := HY.out; omega, ← show _ = (l0.getD y.toNat z66).f0 from HG.out]; rfl⟩
       by_cases hc : F0 ≤ G0
       ·have cb : decide (F0 ≤ G0) = true := decide_eq_true hc
        have N := Aside0.mk (no.out (by rw [FD.out, decide_eq_false (by omega)]))
        clear yes no hc D
        go_quiet ((go_at_call 52; (first | with_reducible refine (C1.out _).mono ?_ | with_reducible refine (C2.out _).mono ?_); exact fun _ _ h_ => ⟨h_.1, _, h_.2⟩))
        go_wp2
        go_ret
        rw [N.out]
        exact ⟨by first | rfl | simp [*], by repeat (first | exact HB.out | apply pw_below_drewN)⟩
       ·have cb : decide (F0 ≤ G0) = false := decide_eq_false hc
        have Y := Aside0.mk (yes.out (by rw [FD.out, decide_eq_true (by omega)]))
        clear yes no hc D
        go_quiet ((go_at_call 52; (first | with_reducible refine (C1.out _).mono ?_ | with_reducible refine (C2.out _).mono ?_); exact fun _ _ h_ => ⟨h_.1, _, h_.2⟩))
        go_wp2
        go_roundw
        case rel => exact ⟨x + 1, by omega, by omega, by first | rfl | simp, Y, ⟨by repeat (first | exact HB.out | apply pw_below_drewN)⟩⟩
        case measure => simp [intOf]; omega
  ·have hxe : x = (l0.length : Int) := by omega
   have q1 : decide (x < (l0.length : Int)) = false := decide_eq_false hlt
   have E := Aside0.mk (show l1d a0 l0 = decide ((l0.length : Int) ≤ 2) by
    rw [HE.out, hxe, Int.toNat_natCast, Nat.sub_self]
    simp only [okFrom, Bool.true_and]
    rw [Bool.eq_iff_iff, decide_eq_true_eq, decide_eq_true_eq]; omega)
   clear hxe HE
   go_wp2
   go_ret
   rw [E.out]
   exact ⟨by first | rfl | simp [*], by repeat (first | exact HB.out | apply pw_below_drewN)⟩
def spec_l1Deps.f (_k : Nat) (a0 : Int) (l1 : List S66) : Option Bool := some (l1d a0 l1)
theorem spec_l1Deps.mono : ∀ a0 a1 k, LeO (spec_l1Deps.f k a0 a1) (spec_l1Deps.f (k + 1) a0 a1) := fun _ _ _ _ h => h
theorem spec_l1Deps.calls (k : Nat) (a0 : Int) (A1 : Option Addr) (c1 : Nat) (l1 : List S66) (r : Bool) (w : World) (hr1 : Kd.C k66 w A1 l1.length l1) (hc1 : l1.length ≤ c1) (h : spec_l1Deps.f k a0 l1 = some r) :
  Calls Tryd.prog 54 #[.int .i64 a0, .slice A1 l1.length c1] w fun e w' => e = .returned (.bool r) ∧ Below w.heap.size w w' := by
 obtain rfl := Option.some.inj h
 exact l1d_calls a0 A1 c1 l1 w hr1 hc1

/-! ### spec_PkgOk: function 29 -/
def spec_PkgOk.f (k : Nat) (a0_0 : Int) (a0_1 : Int) (l0_2 : List (S63)) (l0_3 : List (S66)) : Option (Bool) := (spec_l6In.f a0_0 1 4).bind fun t192 => (if t192 = true then ((spec_l6In.f a0_1 1 5).bind fun t193 => (if t193 = true then ((spec_l1Files.f k l0_2).bind fun t194 => (if t194 = true then ((spec_l1Deps.f k a0_0 l0_3).bind fun t195 => (some t195)) else (some false))) else (some false))) else (some false))
theorem spec_PkgOk.mono : ∀ a0 a1 a2 a3 k, LeO (spec_PkgOk.f k a0 a1 a2 a3) (spec_PkgOk.f (k + 1) a0 a1 a2 a3) := by
 intro a0 a1 a2 a3 k
 unfold spec_PkgOk.f
 repeat' first
   | (with_reducible exact spec_l1Deps.mono _ _ _)
   | (with_reducible exact spec_l1Files.mono _ _)
   | (with_reducible exact LeO.refl _)
   | (with_reducible exact LeO.none _)
   | (with_reducible refine LeO.ite ?_ ?_)
   | (with_reducible refine LeO.bind ?_ (fun _ => ?_))
   | exact spec_l1Deps.mono _ _ _
   | exact spec_l1Files.mono _ _
   | exact LeO.none _
   | refine LeO.ite ?_ ?_
   | refine LeO.bind ?_ (fun _ => ?_)
set_option maxHeartbeats 8000000 in
set_option maxRecDepth 100000 in
theorem spec_PkgOk.calls (k : Nat) (a0_0 : Int) (a0_1 : Int) (A0_2 : Option Addr) (c0_2 : Nat) (l0_2 : List (S63)) (A0_3 : Option Addr) (c0_3 : Nat) (l0_3 : List (S66)) (r : Bool) (w : World) (hr0_2 : Kd.C k63 w A0_2 l0_2.length l0_2) (hc0_2 : l0_2.length ≤ c0_2) (hr0_3 : Kd.C k66 w A0_3 l0_3.length l0_3) (hc0_3 : l0_3.length ≤ c0_3) (h : spec_PkgOk.f k a0_0 a0_1 l0_2 l0_3 = some r) :
  Calls Tryd.prog 29 #[.agg #[.int .i64 a0_0, .int .i64 a0_1, .slice A0_2 l0_2.length c0_2, .slice A0_3 l0_3.length c0_3]] w fun e w' => e = .returned (.bool r) ∧ Below w.heap.size w w' := by
 have hu26 := Tryd.underlying26
 have HR0_2 := Aside0.mk hr0_2
 have HC0_2 := Aside0.mk hc0_2
 clear hr0_2 hc0_2
 have HR0_3 := Aside0.mk hr0_3
 have HC0_3 := Aside0.mk hc0_3
 clear hr0_3 hc0_3
 have HB := Aside0.mk (Below.refl w.heap.size w)
 have H : ((spec_l6In.f a0_0 1 4).bind fun t192 => (if t192 = true then ((spec_l6In.f a0_1 1 5).bind fun t193 => (if t193 = true then ((spec_l1Files.f k l0_2).bind fun t194 => (if t194 = true then ((spec_l1Deps.f k a0_0 l0_3).bind fun t195 => (some t195)) else (some false))) else (some false))) else (some false))) = some r := h
 clear h
 replace H := Option.bind_eq_some_iff.mp H
 obtain ⟨t192, A20, H⟩ := H
 replace H : (if t192 = true then ((spec_l6In.f a0_1 1 5).bind fun t193 => (if t193 = true then ((spec_l1Files.f k l0_2).bind fun t194 => (if t194 = true then ((spec_l1Deps.f k a0_0 l0_3).bind fun t195 => (some t195)) else (some false))) else (some false))) else (some false)) = some r := H
 have A2 := Aside0.mk A20
 clear A20
 by_cases c3 : t192 = true
 ·subst c3
  have H1 : ((spec_l6In.f a0_1 1 5).bind fun t193 => (if t193 = true then ((spec_l1Files.f k l0_2).bind fun t194 => (if t194 = true then ((spec_l1Deps.f k a0_0 l0_3).bind fun t195 => (some t195)) else (some false))) else (some false))) = some r := by rw [if_pos rfl] at H; exact H
  clear H
  have H := H1
  clear H1
  replace H := Option.bind_eq_some_iff.mp H
  obtain ⟨t193, A40, H⟩ := H
  replace H : (if t193 = true then ((spec_l1Files.f k l0_2).bind fun t194 => (if t194 = true then ((spec_l1Deps.f k a0_0 l0_3).bind fun t195 => (some t195)) else (some false))) else (some false)) = some r := H
  have A4 := Aside0.mk A40
  clear A40
  by_cases c5 : t193 = true
  ·subst c5
   have H1 : ((spec_l1Files.f k l0_2).bind fun t194 => (if t194 = true then ((spec_l1Deps.f k a0_0 l0_3).bind fun t195 => (some t195)) else (some false))) = some r := by rw [if_pos rfl] at H; exact H
   clear H
   have H := H1
   clear H1
   replace H := Option.bind_eq_some_iff.mp H
   obtain ⟨t194, A60, H⟩ := H
   replace H : (if t194 = true then ((spec_l1Deps.f k a0_0 l0_3).bind fun t195 => (some t195)) else (some false)) = some r := H
   have A6 := Aside0.mk A60
   clear A60
   by_cases c7 : t194 = true
   ·subst c7
    have H1 : ((spec_l1Deps.f k a0_0 l0_3).bind fun t195 => (some t195)) = some r := by rw [if_pos rfl] at H; exact H
    clear H
    have H := H1
    clear H1
    replace H := Option.bind_eq_some_iff.mp H
    obtain ⟨t195, A80, H⟩ := H
    replace H : (some t195) = some r := H
    have A8 := Aside0.mk A80
    clear A80
    obtain rfl := Option.some.inj H
    go_enter Tryd.func29, Tryd.ntmps29
    go_wp2_with (first | ((with_reducible refine gate_dst (N := 1) rfl ?_); refine box_event ?hg (N := 1) ?hd (cs := #[.int .i64 a0_0, .int .i64 a0_1, .slice A0_2 l0_2.length c0_2, .slice A0_3 l0_3.length c0_3]) (t := 26) ?hr ?_; (case hd => rfl); (case hg => rfl); (case hr => first | (go_simp; done) | (go_simp; rfl)); intro gb191 hg w9 hbox hb; have n0_ := Aside0.mk (below_step (by exact zB HB.out) hb); have n1_ := Aside0.mk (hbox); have n2_ := Aside0.mk ((by rw [hg]; exact (below_size (by exact zB HB.out)) : w.heap.size ≤ gb191)); have n3_ := Aside0.mk ((by rw [hg]; exact (below_size (by exact zB HB.out)) : w.heap.size ≤ gb191)); clear HB; have HB := n0_; have BK191 := n1_; have GW191 := n2_; have GE191 := n3_; clear n0_ n1_ n2_ n3_; clear hb hbox hg; obtain ⟨hcz10_0, hcz10_1, hcz10_2, hcz10_3, hfz10_0, hfz10_1, hfz10_2, hfz10_3⟩ := zc4f BK191.out) | ((with_reducible refine gate_callee (f := 52) rfl ?_); refine goesL_ (some 5) rfl rfl Tryd.func52 (by kernel_rfl) rfl #[.int .i64 a0_0, .int .i64 1, .int .i64 4] rfl (by (try simp only [zm1, zm2, zm3]); first | done | rfl | (simp only [List.length_drop, List.length_take]; rfl)) ?_; (with_reducible refine (spec_l6In.calls a0_0 1 4 true _ A2.out).mono ?_); rintro e w' ⟨rfl, ⟨nd, rfl⟩⟩; refine ⟨_, rfl, ?_⟩) | (go_at_call 52; (with_reducible refine (spec_l6In.calls a0_1 1 5 true _ A4.out).mono ?_); rintro e w' ⟨rfl, ⟨nd, rfl⟩⟩) | (go_at_call 53; (with_reducible refine (spec_l1Files.calls k _ _ l0_2 true _ ?side1 ?side2 A6.out).mono ?_); (case side1 => exact (Kd.C_below HR0_2.out (by exact zB1 HB.out GE191.out))); (case side2 => exact HC0_2.out); rintro e w11 ⟨rfl, hb⟩; have n0_ := Aside0.mk (blk_below (g := gb191) (o := .cells #[.int .i64 a0_0, .int .i64 a0_1, .slice A0_2 l0_2.length c0_2, .slice A0_3 l0_3.length c0_3] 26 (0, 0)) (by exact zK BK191.out) hb); have n1_ := Aside0.mk (below_step (by exact zB1 HB.out GE191.out) hb); clear BK191; clear HB; have BK191 := n0_; have HB := n1_; clear n0_ n1_; (try clear hb); (try clear hb2); (try clear hk); (try clear hi); obtain ⟨hcz12_0, hcz12_1, hcz12_2, hcz12_3, hfz12_0, hfz12_1, hfz12_2, hfz12_3⟩ := zc4f BK191.out) | (go_at_call 54; (with_reducible refine (spec_l1Deps.calls k a0_0 _ _ l0_3 t195 _ ?side1 ?side2 A8.out).mono ?_); (case side1 => exact zC (Kd.C_below HR0_3.out HB.out)); (case side2 => exact HC0_3.out); rintro e w13 ⟨rfl, hb⟩; have n0_ := Aside0.mk (blk_below (g := gb191) (o := .cells #[.int .i64 a0_0, .int .i64 a0_1, .slice A0_2 l0_2.length c0_2, .slice A0_3 l0_3.length c0_3] 26 (0, 0)) (by exact zK BK191.out) hb); have n1_ := Aside0.mk (below_step (by exact zB1 HB.out GE191.out) hb); clear BK191; clear HB; have BK191 := n0_; have HB := n1_; clear n0_ n1_; (try clear hb); (try clear hb2); (try clear hk); (try clear hi)))
    go_ret
    exact ⟨by first | rfl | (simp [errW_none, errW_some] <;> rfl) | (simp [*, errW_none, errW_some] <;> rfl), by exact zB1 HB.out GE191.out⟩
   ·replace c7 := Bool.eq_false_iff.mpr c7
    subst c7
    have H1 : (some false) = some r := by rw [if_neg (show ¬ (false = true) by decide)] at H; exact H
    clear H
    have H := H1
    clear H1
    obtain rfl := Option.some.inj H
    go_enter Tryd.func29, Tryd.ntmps29
    go_wp2_with (first | ((with_reducible refine gate_dst (N := 1) rfl ?_); refine box_event ?hg (N := 1) ?hd (cs := #[.int .i64 a0_0, .int .i64 a0_1, .slice A0_2 l0_2.length c0_2, .slice A0_3 l0_3.length c0_3]) (t := 26) ?hr ?_; (case hd => rfl); (case hg => rfl); (case hr => first | (go_simp; done) | (go_simp; rfl)); intro gb191 hg w14 hbox hb; have n0_ := Aside0.mk (below_step (by exact zB HB.out) hb); have n1_ := Aside0.mk (hbox); have n2_ := Aside0.mk ((by rw [hg]; exact (below_size (by exact zB HB.out)) : w.heap.size ≤ gb191)); have n3_ := Aside0.mk ((by rw [hg]; exact (below_size (by exact zB HB.out)) : w.heap.size ≤ gb191)); clear HB; have HB := n0_; have BK191 := n1_; have GW191 := n2_; have GE191 := n3_; clear n0_ n1_ n2_ n3_; clear hb hbox hg; obtain ⟨hcz15_0, hcz15_1, hcz15_2, hcz15_3, hfz15_0, hfz15_1, hfz15_2, hfz15_3⟩ := zc4f BK191.out) | ((with_reducible refine gate_callee (f := 52) rfl ?_); refine goesL_ (some 5) rfl rfl Tryd.func52 (by kernel_rfl) rfl #[.int .i64 a0_0, .int .i64 1, .int .i64 4] rfl (by (try simp only [zm1, zm2, zm3]); first | done | rfl | (simp only [List.length_drop, List.length_take]; rfl)) ?_; (with_reducible refine (spec_l6In.calls a0_0 1 4 true _ A2.out).mono ?_); rintro e w' ⟨rfl, ⟨nd, rfl⟩⟩; refine ⟨_, rfl, ?_⟩) | (go_at_call 52; (with_reducible refine (spec_l6In.calls a0_1 1 5 true _ A4.out).mono ?_); rintro e w' ⟨rfl, ⟨nd, rfl⟩⟩) | (go_at_call 53; (with_reducible refine (spec_l1Files.calls k _ _ l0_2 false _ ?side1 ?side2 A6.out).mono ?_); (case side1 => exact (Kd.C_below HR0_2.out (by exact zB1 HB.out GE191.out))); (case side2 => exact HC0_2.out); rintro e w16 ⟨rfl, hb⟩; have n0_ := Aside0.mk (blk_below (g := gb191) (o := .cells #[.int .i64 a0_0, .int .i64 a0_1, .slice A0_2 l0_2.length c0_2, .slice A0_3 l0_3.length c0_3] 26 (0, 0)) (by exact zK BK191.out) hb); have n1_ := Aside0.mk (below_step (by exact zB1 HB.out GE191.out) hb); clear BK191; clear HB; have BK191 := n0_; have HB := n1_; clear n0_ n1_; (try clear hb); (try clear hb2); (try clear hk); (try clear hi)))
    go_ret
    exact ⟨by first | rfl | (simp [errW_none, errW_some] <;> rfl) | (simp [*, errW_none, errW_some] <;> rfl), by exact zB1 HB.out GE191.out⟩
  ·replace c5 := Bool.eq_false_iff.mpr c5
   subst c5
   have H1 : (some false) = some r := by rw [if_neg (show ¬ (false = true) by decide)] at H; exact H
   clear H
   have H := H1
   clear H1
   obtain rfl := Option.some.inj H
   go_enter Tryd.func29, Tryd.ntmps29
   go_wp2_with (first | ((with_reducible refine gate_dst (N := 1) rfl ?_); refine box_event ?hg (N := 1) ?hd (cs := #[.int .i64 a0_0, .int .i64 a0_1, .slice A0_2 l0_2.length c0_2, .slice A0_3 l0_3.length c0_3]) (t := 26) ?hr ?_; (case hd => rfl); (case hg => rfl); (case hr => first | (go_simp; done) | (go_simp; rfl)); intro gb191 hg w17 hbox hb; have n0_ := Aside0.mk (below_step (by exact zB HB.out) hb); have n1_ := Aside0.mk (hbox); have n2_ := Aside0.mk ((by rw [hg]; exact (below_size (by exact zB HB.out)) : w.heap.size ≤ gb191)); have n3_ := Aside0.mk ((by rw [hg]; exact (below_size (by exact zB HB.out)) : w.heap.size ≤ gb191)); clear HB; have HB := n0_; have BK191 := n1_; have GW191 := n2_; have GE191 := n3_; clear n0_ n1_ n2_ n3_; clear hb hbox hg; obtain ⟨hcz18_0, hcz18_1, hcz18_2, hcz18_3, hfz18_0, hfz18_1, hfz18_2, hfz18_3⟩ := zc4f BK191.out) | ((with_reducible refine gate_callee (f := 52) rfl ?_); refine goesL_ (some 5) rfl rfl Tryd.func52 (by kernel_rfl) rfl #[.int .i64 a0_0, .int .i64 1, .int .i64 4] rfl (by (try simp only [zm1, zm2, zm3]); first | done | rfl | (simp only [List.length_drop, List.length_take]; rfl)) ?_; (with_reducible refine (spec_l6In.calls a0_0 1 4 true _ A2.out).mono ?_); rintro e w' ⟨rfl, ⟨nd, rfl⟩⟩; refine ⟨_, rfl, ?_⟩) | (go_at_call 52; (with_reducible refine (spec_l6In.calls a0_1 1 5 false _ A4.out).mono ?_); rintro e w' ⟨rfl, ⟨nd, rfl⟩⟩))
   go_ret
   exact ⟨by first | rfl | (simp [errW_none, errW_some] <;> rfl) | (simp [*, errW_none, errW_some] <;> rfl), by exact zB1 HB.out GE191.out⟩
 ·replace c3 := Bool.eq_false_iff.mpr c3
  subst c3
  have H1 : (some false) = some r := by rw [if_neg (show ¬ (false = true) by decide)] at H; exact H
  clear H
  have H := H1
  clear H1
  obtain rfl := Option.some.inj H
  go_enter Tryd.func29, Tryd.ntmps29
  go_wp2_with (first | ((with_reducible refine gate_dst (N := 1) rfl ?_); refine box_event ?hg (N := 1) ?hd (cs := #[.int .i64 a0_0, .int .i64 a0_1, .slice A0_2 l0_2.length c0_2, .slice A0_3 l0_3.length c0_3]) (t := 26) ?hr ?_; (case hd => rfl); (case hg => rfl); (case hr => first | (go_simp; done) | (go_simp; rfl)); intro gb191 hg w19 hbox hb; have n0_ := Aside0.mk (below_step (by exact zB HB.out) hb); have n1_ := Aside0.mk (hbox); have n2_ := Aside0.mk ((by rw [hg]; exact (below_size (by exact zB HB.out)) : w.heap.size ≤ gb191)); have n3_ := Aside0.mk ((by rw [hg]; exact (below_size (by exact zB HB.out)) : w.heap.size ≤ gb191)); clear HB; have HB := n0_; have BK191 := n1_; have GW191 := n2_; have GE191 := n3_; clear n0_ n1_ n2_ n3_; clear hb hbox hg; obtain ⟨hcz20_0, hcz20_1, hcz20_2, hcz20_3, hfz20_0, hfz20_1, hfz20_2, hfz20_3⟩ := zc4f BK191.out) | ((with_reducible refine gate_callee (f := 52) rfl ?_); refine goesL_ (some 5) rfl rfl Tryd.func52 (by kernel_rfl) rfl #[.int .i64 a0_0, .int .i64 1, .int .i64 4] rfl (by (try simp only [zm1, zm2, zm3]); first | done | rfl | (simp only [List.length_drop, List.length_take]; rfl)) ?_; (with_reducible refine (spec_l6In.calls a0_0 1 4 false _ A2.out).mono ?_); rintro e w' ⟨rfl, ⟨nd, rfl⟩⟩; refine ⟨_, rfl, ?_⟩))
  go_ret
  exact ⟨by first | rfl | (simp [errW_none, errW_some] <;> rfl) | (simp [*, errW_none, errW_some] <;> rfl), by exact zB1 HB.out GE191.out⟩

/-! ### spec_l6Dec: function 31 -/
def spec_l6Dec.f : Nat → Int → Option (ByteArray)
 | 0, _ => none
 | k + 1, a0 => if a0 < (-9223372036854775807) then (some (⟨#[45, 57, 50, 50, 51, 51, 55, 50, 48, 51, 54, 56, 53, 52, 55, 55, 53, 56, 48, 56]⟩ : ByteArray)) else (if a0 < 0 then ((spec_l6Dec.f k (wrap64 (-a0))).bind fun t196 => (if 1 + t196.size ≤ 9223372036854775807 then (some ((⟨#[45]⟩ : ByteArray) ++ t196)) else (none))) else (if a0 < 10 then (some (strOfNums (([(wrap64 (48 + a0)) % 256] : List Int)))) else ((spec_l6Dec.f k (wrap64 (Int.tdiv a0 10))).bind fun t200 => ((some (([(wrap64 (48 + (Int.tmod a0 10))) % 256] : List Int) : List Int)).bind fun y201 => (if t200.size + (strOfNums y201).size ≤ 9223372036854775807 then (some (t200 ++ (strOfNums y201))) else (none))))))
theorem spec_l6Dec.mono_l : ∀ k, (∀ y0, LeO (spec_l6Dec.f k y0) (spec_l6Dec.f (k + 1) y0))
 | 0 => fun _ r h => by simp [spec_l6Dec.f] at h
 | k + 1 => by
  have ih0 := spec_l6Dec.mono_l k
  ·intro y0
   unfold spec_l6Dec.f
   repeat' first
   | (with_reducible exact ih0 _)
   | (with_reducible exact LeO.refl _)
   | (with_reducible exact LeO.none _)
   | (with_reducible refine LeO.ite ?_ ?_)
   | (with_reducible refine LeO.bind ?_ (fun _ => ?_))
   | exact ih0 _
   | exact LeO.none _
   | refine LeO.ite ?_ ?_
   | refine LeO.bind ?_ (fun _ => ?_)
theorem spec_l6Dec.mono : ∀ a0 k, LeO (spec_l6Dec.f k a0) (spec_l6Dec.f (k + 1) a0) := by
 intro a0 k
 have ih0 := spec_l6Dec.mono_l k
 exact ih0 a0
def spec_l6Dec.T7 : Bool × List (List Nat × List Nat) := (true, [([], []), ([0], [0]), ([1], [1]), ([], []), ([3], [3]), ([4], [4]), ([5], [5]), ([6], [6]), ([7], [7]), ([2, 8], [2, 8]), ([9, 2, 0, 1, 2, 3, 4, 5, 6, 7, 8, 9], [9])])
def spec_l6Dec.B7 : List Nat := [0, 1, 3, 0, 8, 24, 56, 120, 248, 511, 1023]
theorem spec_l6Dec.tab7 : rtab .any (opsOf Tryd.f31 7) = spec_l6Dec.T7 := by kernel_rfl
theorem spec_l6Dec.bits7 : waitsOk spec_l6Dec.T7.2 spec_l6Dec.B7 = true := by kernel_rfl
set_option maxHeartbeats 8000000 in
set_option maxRecDepth 100000 in
theorem spec_l6Dec.calls (k : Nat) : ∀ (a0 : Int) (r : ByteArray) (w : World) (h : spec_l6Dec.f k a0 = some r),
  Calls Tryd.prog 31 #[.int .i64 a0] w fun e w' => e = .returned (.string r) ∧ Below w.heap.size w w' := by
 induction k using Nat.strongRecOn with
 | _ k ih =>
 intro a0 r w h
 cases k with
 | zero => exact absurd h (by simp [spec_l6Dec.f])
 | succ k =>
 simp only [spec_l6Dec.f] at h
 have HB := Aside0.mk (Below.refl w.heap.size w)
 have H : (if a0 < (-9223372036854775807) then (some (⟨#[45, 57, 50, 50, 51, 51, 55, 50, 48, 51, 54, 56, 53, 52, 55, 55, 53, 56, 48, 56]⟩ : ByteArray)) else (if a0 < 0 then ((spec_l6Dec.f k (wrap64 (-a0))).bind fun t196 => (if 1 + t196.size ≤ 9223372036854775807 then (some ((⟨#[45]⟩ : ByteArray) ++ t196)) else (none))) else (if a0 < 10 then (some (strOfNums (([(wrap64 (48 + a0)) % 256] : List Int)))) else ((spec_l6Dec.f k (wrap64 (Int.tdiv a0 10))).bind fun t200 => ((some (([(wrap64 (48 + (Int.tmod a0 10))) % 256] : List Int) : List Int)).bind fun y201 => (if t200.size + (strOfNums y201).size ≤ 9223372036854775807 then (some (t200 ++ (strOfNums y201))) else (none))))))) = some r := h
 clear h
 by_cases c2 : a0 < (-9223372036854775807)
 ·rw [if_pos c2] at H
  have c2b0 : decide (a0 < (-9223372036854775807)) = true := decide_eq_true c2
  clear c2
  obtain rfl := Option.some.inj H
  go_enter Tryd.func31, Tryd.ntmps31
  go_wp2
  go_ret
  exact ⟨by first | rfl | (simp [errW_none, errW_some] <;> rfl) | (simp [*, errW_none, errW_some] <;> rfl), by exact zB HB.out⟩
 ·rw [if_neg c2] at H
  have c2b0 : decide (a0 < (-9223372036854775807)) = false := decide_eq_false c2
  clear c2
  by_cases c3 : a0 < 0
  ·rw [if_pos c3] at H
   have c3b0 : decide (a0 < 0) = true := decide_eq_true c3
   clear c3
   replace H := Option.bind_eq_some_iff.mp H
   obtain ⟨t196, A40, H⟩ := H
   replace H : (if 1 + t196.size ≤ 9223372036854775807 then (some ((⟨#[45]⟩ : ByteArray) ++ t196)) else (none)) = some r := H
   have A4 := Aside0.mk A40
   clear A40
   by_cases c5 : 1 + t196.size ≤ 9223372036854775807
   ·rw [if_pos c5] at H
    have c5b0 := eq_true c5
    have c5b1 : decide (1 + t196.size ≤ 9223372036854775807) = true := decide_eq_true c5
    try have c5b2 : (9223372036854775807 < 1 + t196.size) = False := eq_false (Nat.not_lt.2 c5)
    obtain rfl := Option.some.inj H
    go_enter Tryd.func31, Tryd.ntmps31
    go_wp2_with (first | ((with_reducible refine gate_callee (f := 31) rfl ?_); refine goesL_ (some 9) rfl rfl Tryd.func31 (by kernel_rfl) rfl #[.int .i64 (wrap64 (-a0))] rfl (by (try simp only [zm1, zm2, zm3]); first | done | rfl | (simp only [List.length_drop, List.length_take]; rfl)) ?_; (with_reducible refine (ih k (by omega) (wrap64 (-a0)) t196 _ A4.out).mono ?_); rintro e w6 ⟨rfl, hb⟩; refine ⟨_, rfl, ?_⟩; have n0_ := Aside0.mk (below_step (by exact zB HB.out) hb); clear HB; have HB := n0_; clear n0_; (try clear hb); (try clear hb2); (try clear hk); (try clear hi)))
    go_ret
    exact ⟨by first | rfl | (simp [errW_none, errW_some] <;> rfl) | (simp [*, errW_none, errW_some] <;> rfl), by exact zB HB.out⟩
   ·rw [if_neg c5] at H
    exact absurd H (by simp)
  ·rw [if_neg c3] at H
   have c3b0 : decide (a0 < 0) = false := decide_eq_false c3
   clear c3
   by_cases c7 : a0 < 10
   ·rw [if_pos c7] at H
    have c7b0 : decide (a0 < 10) = true := decide_eq_true c7
    clear c7
    obtain ⟨y197, hy197⟩ : ∃ y_ : List Int, y_ = (([(wrap64 (48 + a0)) % 256] : List Int)) := ⟨_, rfl⟩
    replace H : (some (strOfNums y197)) = some r := by first | (rw [hy197]; with_reducible exact H) | (have H2_ := (Option.bind_some _ _).symm.trans H; rw [hy197]; with_reducible exact H2_) | (have H2_ := (Option.bind_some _ _).symm.trans H; with_reducible exact H2_) | with_reducible exact H | (rw [hy197]; exact H) | exact H
    have Ny197 := Aside0.mk hy197
    clear hy197
    obtain rfl := Option.some.inj H
    go_enter Tryd.func31, Tryd.ntmps31
    go_wp2_with (first | ((with_reducible refine gate_dst (N := 16) rfl ?_); refine Kd.R_lit (Kd.int .u8) _ 5 ?hg (N := 16) ?hd (xs := ([(wrap64 (48 + a0)) % 256] : List Int)) (inner := [.int .u8 ((wrap64 (48 + a0)) % 256)]) (ok := fun _ => True) (okp := fun _ => True) ?hr ?hp (fun _ hk => hk) trivial (Below.refl _ _) (Nat.le_refl _) (by simp) ?_; (case hd => rfl); (case hg => rfl); (case hr => first | (go_simp; done) | (go_simp; rfl)); (case hp => exact (Reps.one (show Kd.M (Kd.int .u8) _ _ _ ((wrap64 (48 + a0)) % 256) [.int .u8 ((wrap64 (48 + a0)) % 256)] from rfl) (Reps.none _ _))); intro v198 w8 ho9 hb hg_ hnew_; clear hg_ hnew_; (first | rw [← Ny197.out] at ho9 | (simp only [Int.reduceToNat] at ho9; rw [← Ny197.out] at ho9)); have n0_ := Aside0.mk (Kd.R_lower ho9 (below_size (by exact zB HB.out))); have n1_ := Aside0.mk (below_step (by exact zB HB.out) hb); clear HB; have HO199 := n0_; have HB := n1_; clear n0_ n1_; clear hb ho9; have hcv10 := own_string (P := Tryd.prog) Tryd.underlying22 Tryd.underlying5 Tryd.underlying9 (Kd.own_of_R HO199.out)))
    go_ret
    exact ⟨by first | rfl | (simp [errW_none, errW_some] <;> rfl) | (simp [*, errW_none, errW_some] <;> rfl), by exact zB HB.out⟩
   ·rw [if_neg c7] at H
    have c7b0 : decide (a0 < 10) = false := decide_eq_false c7
    clear c7
    replace H := Option.bind_eq_some_iff.mp H
    obtain ⟨t200, A110, H⟩ := H
    replace H : ((some (([(wrap64 (48 + (Int.tmod a0 10))) % 256] : List Int) : List Int)).bind fun y201 => (if t200.size + (strOfNums y201).size ≤ 9223372036854775807 then (some (t200 ++ (strOfNums y201))) else (none))) = some r := H
    have A11 := Aside0.mk A110
    clear A110
    obtain ⟨y201, hy201⟩ : ∃ y_ : List Int, y_ = (([(wrap64 (48 + (Int.tmod a0 10))) % 256] : List Int)) := ⟨_, rfl⟩
    replace H : (if t200.size + (strOfNums y201).size ≤ 9223372036854775807 then (some (t200 ++ (strOfNums y201))) else (none)) = some r := by first | (rw [hy201]; with_reducible exact H) | (have H2_ := (Option.bind_some _ _).symm.trans H; rw [hy201]; with_reducible exact H2_) | (have H2_ := (Option.bind_some _ _).symm.trans H; with_reducible exact H2_) | with_reducible exact H | (rw [hy201]; exact H) | exact H
    have Ny201 := Aside0.mk hy201
    clear hy201
    by_cases c12 : t200.size + (strOfNums y201).size ≤ 9223372036854775807
    ·rw [if_pos c12] at H
     have c12b0 := eq_true c12
     have c12b1 : decide (t200.size + (strOfNums y201).size ≤ 9223372036854775807) = true := decide_eq_true c12
     try have c12b2 : (9223372036854775807 < t200.size + (strOfNums y201).size) = False := eq_false (Nat.not_lt.2 c12)
     obtain rfl := Option.some.inj H
     go_enter Tryd.func31, Tryd.ntmps31
     try go_wp2
     have n0_ := Aside0.mk (below_drew1 HB.out)
     clear HB
     have HB := n0_
     clear n0_
     refine start_ (n := 11) (S := fun w' => True) (ds := []) #[false, false, false, false, false, false, false, false, false, false, false] (by kernel_rfl) rfl rfl trivial (fun hHeld => ?_); refine with_tabW spec_l6Dec.tab7 spec_l6Dec.bits7 (fun HT_ HW_ => ?_)
     generalize w.drew = w13 at HB hHeld ⊢
     refine pure_ (i := 0) (N := some 18) (v := ?_) (a' := ?_) #[true, false, false, false, false, false, false, false, false, false, false] rfl rfl (any_of HT_.out (by kernel_rfl)) (fun _ _ _ h => h) (Or.inl ⟨by rfl, ?_⟩) ?_ ?_
     rotate_left
     ·intro w'
      go_simp
      with_reducible rfl
     rotate_left
     ·simp only [zp0, zp1, zp2, zp3, zp4, i64_w, i32_w]
      rfl
     refine pure_ (i := 1) (N := some 19) (v := ?_) (a' := ?_) #[true, true, false, false, false, false, false, false, false, false, false] rfl rfl (any_of HT_.out (by kernel_rfl)) (fun _ _ _ h => h) (Or.inl ⟨by rfl, ?_⟩) ?_ ?_
     rotate_left
     ·intro w'
      go_simp
      with_reducible rfl
     rotate_left
     ·simp only [zp0, zp1, zp2, zp3, zp4, i64_w, i32_w]
      rfl
     refine pure_ (i := 3) (N := some 21) (v := ?_) (a' := ?_) #[true, true, false, true, false, false, false, false, false, false, false] rfl rfl (any_of HT_.out (by kernel_rfl)) (fun _ _ _ h => h) (Or.inl ⟨by rfl, ?_⟩) ?_ ?_
     rotate_left
     ·intro w'
      go_simp
      with_reducible rfl
     rotate_left
     ·simp only [zp0, zp1, zp2, zp3, zp4, i64_w, i32_w]
      rfl
     refine pure_ (i := 4) (N := some 22) (v := ?_) (a' := ?_) #[true, true, false, true, true, false, false, false, false, false, false] rfl rfl (any_of HT_.out (by kernel_rfl)) (fun _ _ _ h => h) (Or.inl ⟨by rfl, ?_⟩) ?_ ?_
     rotate_left
     ·intro w'
      go_simp
      with_reducible rfl
     rotate_left
     ·simp only [zp0, zp1, zp2, zp3, zp4, i64_w, i32_w]
      rfl
     refine pure_ (i := 5) (N := some 23) (v := ?_) (a' := ?_) #[true, true, false, true, true, true, false, false, false, false, false] rfl rfl (any_of HT_.out (by kernel_rfl)) (fun _ _ _ h => h) (Or.inl ⟨by rfl, ?_⟩) ?_ ?_
     rotate_left
     ·intro w'
      go_simp
      with_reducible rfl
     rotate_left
     ·simp only [zp0, zp1, zp2, zp3, zp4, i64_w, i32_w]
      rfl
     refine pure_ (i := 6) (N := some 24) (v := ?_) (a' := ?_) #[true, true, false, true, true, true, true, false, false, false, false] rfl rfl (any_of HT_.out (by kernel_rfl)) (fun _ _ _ h => h) (Or.inl ⟨by rfl, ?_⟩) ?_ ?_
     rotate_left
     ·intro w'
      go_simp
      with_reducible rfl
     rotate_left
     ·simp only [zp0, zp1, zp2, zp3, zp4, i64_w, i32_w]
      rfl
     refine join_ (σ := Value) 2 #[true, true, true, true, true, true, true, true, true, false, false] (fun s_ => [(20, .string t200), (25, s_), (26, .string (strOfNums y201))]) (fun s_ w' => (Kd.R (Kd.int .u8) 5 w' w.heap.size (fun _ => True) s_ y201) ∧ (Below w.heap.size w w')) ?_ ?_
     rotate_left
     ·intro hCont
      refine two_ (i := 2) (j := 7) (Ni := some 20) (Nj := some 25) #[true, true, true, true, true, true, true, false, false, false, false] #[true, true, false, true, true, true, true, true, false, false, false] rfl rfl rfl rfl (two_of HT_.out (by kernel_rfl)) (by decide) (by decide) (fun K hK => ?_) (fun K hK => ?_)
      ·skip
       refine goes_ Tryd.func31 (by kernel_rfl) rfl #[.int .i64 (wrap64 (Int.tdiv a0 10))] (by rfl) rfl rfl (by (try simp only [zm1, zm2, zm3]); first | done | rfl | (simp only [List.length_drop, List.length_take]; rfl)) ?_
       with_reducible refine (ih k (by omega) (wrap64 (Int.tdiv a0 10)) t200 _ A11.out).mono ?_
       rintro e w14 ⟨rfl, hb⟩
       refine ⟨_, rfl, ?_⟩
       have n0_ := Aside0.mk (below_step (by exact zB HB.out) hb)
       clear HB
       have HB := n0_
       clear n0_
       (try clear hb)
       (try clear hb2)
       (try clear hk)
       (try clear hi)
       refine hK.out _ _ trivial (fun hHeld => ?_)
       clear hK K
       refine norm_ (a' := ?_) ?_ ?_
       rotate_left
       ·show Act.put _ (some 20) _ = _
        simp only [zp0, zp1, zp2, zp3, zp4, i64_w, i32_w]
        rfl
       refine one_ (i := 7) (N := some 25) #[true, true, true, true, true, true, true, true, false, false, false] rfl rfl (one_of HT_.out (by kernel_rfl)) (by decide) (fun K hK => ?_)
       refine Kd.R_lit_step (Kd.int .u8) _ 5 ?hg (N := 25) ?hd (xs := ([(wrap64 (48 + (Int.tmod a0 10))) % 256] : List Int)) (inner := [.int .u8 ((wrap64 (48 + (Int.tmod a0 10))) % 256)]) (ok := fun _ => True) (okp := fun _ => True) ?hr ?hp (fun _ hk => hk) trivial (Below.refl _ _) (Nat.le_refl _) (by simp) ?_; (case hd => rfl); (case hg => rfl); (case hr => first | (go_simp; done) | (go_simp; rfl)); (case hp => exact (Reps.one (show Kd.M (Kd.int .u8) _ _ _ ((wrap64 (48 + (Int.tmod a0 10))) % 256) [.int .u8 ((wrap64 (48 + (Int.tmod a0 10))) % 256)] from rfl) (Reps.none _ _)))
       intro v202 w15 ho16 hb hg_ hnew_
       clear hg_ hnew_
       (first | rw [← Ny201.out] at ho16 | (simp only [Int.reduceToNat] at ho16; rw [← Ny201.out] at ho16))
       have n0_ := Aside0.mk (Kd.R_lower ho16 (below_size (by exact zB HB.out)))
       have n1_ := Aside0.mk (below_step (by exact zB HB.out) hb)
       clear HB
       have HO203 := n0_
       have HB := n1_
       clear n0_ n1_
       clear hb ho16
       refine hK.out _ _ trivial (fun hHeld => ?_)
       clear hK K
       refine norm_ (a' := ?_) ?_ ?_
       rotate_left
       ·show Act.put _ (some 25) _ = _
        simp only [zp0, zp1, zp2, zp3, zp4, i64_w, i32_w]
        rfl
       refine one_ (i := 8) (N := some 26) #[true, true, true, true, true, true, true, true, true, false, false] rfl rfl (one_of HT_.out (by kernel_rfl)) (by decide) (fun K hK => ?_)
       have hcv17 := own_string (P := Tryd.prog) Tryd.underlying22 Tryd.underlying5 Tryd.underlying9 (Kd.own_of_R HO203.out)
       refine value_ (w1 := ?_) (v := ?_) (by rfl) rfl ?_ ?_
       rotate_left 2
       ·go_simp
        constructor
        ·rfl
        ·rfl
       clear hcv17
       refine hK.out _ _ trivial (fun hHeld => ?_)
       clear hK K
       refine norm_ (a' := ?_) ?_ ?_
       rotate_left
       ·show Act.put _ (some 26) _ = _
        simp only [zp0, zp1, zp2, zp3, zp4, i64_w, i32_w]
        rfl
       exact norm_ (by simp only [putAll, zp0, zp1, zp2, zp3, zp4]) (hCont (v202) _ ⟨(by exact zR HO203.out), (by exact zB HB.out)⟩)
      ·skip
       refine Kd.R_lit_step (Kd.int .u8) _ 5 ?hg (N := 25) ?hd (xs := ([(wrap64 (48 + (Int.tmod a0 10))) % 256] : List Int)) (inner := [.int .u8 ((wrap64 (48 + (Int.tmod a0 10))) % 256)]) (ok := fun _ => True) (okp := fun _ => True) ?hr ?hp (fun _ hk => hk) trivial (Below.refl _ _) (Nat.le_refl _) (by simp) ?_; (case hd => rfl); (case hg => rfl); (case hr => first | (go_simp; done) | (go_simp; rfl)); (case hp => exact (Reps.one (show Kd.M (Kd.int .u8) _ _ _ ((wrap64 (48 + (Int.tmod a0 10))) % 256) [.int .u8 ((wrap64 (48 + (Int.tmod a0 10))) % 256)] from rfl) (Reps.none _ _)))
       intro v202 w14 ho15 hb hg_ hnew_
       clear hg_ hnew_
       (first | rw [← Ny201.out] at ho15 | (simp only [Int.reduceToNat] at ho15; rw [← Ny201.out] at ho15))
       have n0_ := Aside0.mk (Kd.R_lower ho15 (below_size (by exact zB HB.out)))
       have n1_ := Aside0.mk (below_step (by exact zB HB.out) hb)
       clear HB
       have HO203 := n0_
       have HB := n1_
       clear n0_ n1_
       clear hb ho15
       refine hK.out _ _ trivial (fun hHeld => ?_)
       clear hK K
       refine norm_ (a' := ?_) ?_ ?_
       rotate_left
       ·show Act.put _ (some 25) _ = _
        simp only [zp0, zp1, zp2, zp3, zp4, i64_w, i32_w]
        rfl
       refine two_ (i := 2) (j := 8) (Ni := some 20) (Nj := some 26) #[true, true, true, true, true, true, true, true, false, false, false] #[true, true, false, true, true, true, true, true, true, false, false] rfl rfl rfl rfl (two_of HT_.out (by kernel_rfl)) (by decide) (by decide) (fun K hK => ?_) (fun K hK => ?_)
       ·skip
        refine goes_ Tryd.func31 (by kernel_rfl) rfl #[.int .i64 (wrap64 (Int.tdiv a0 10))] (by rfl) rfl rfl (by (try simp only [zm1, zm2, zm3]); first | done | rfl | (simp only [List.length_drop, List.length_take]; rfl)) ?_
        with_reducible refine (ih k (by omega) (wrap64 (Int.tdiv a0 10)) t200 _ A11.out).mono ?_
        rintro e w16 ⟨rfl, hb⟩
        refine ⟨_, rfl, ?_⟩
        have n0_ := Aside0.mk (Kd.R_below (by exact zR HO203.out) hb)
        have n1_ := Aside0.mk (below_step (by exact zB HB.out) hb)
        clear HO203
        clear HB
        have HO203 := n0_
        have HB := n1_
        clear n0_ n1_
        (try clear hb)
        (try clear hb2)
        (try clear hk)
        (try clear hi)
        refine hK.out _ _ trivial (fun hHeld => ?_)
        clear hK K
        refine norm_ (a' := ?_) ?_ ?_
        rotate_left
        ·show Act.put _ (some 20) _ = _
         simp only [zp0, zp1, zp2, zp3, zp4, i64_w, i32_w]
         rfl
        refine one_ (i := 8) (N := some 26) #[true, true, true, true, true, true, true, true, true, false, false] rfl rfl (one_of HT_.out (by kernel_rfl)) (by decide) (fun K hK => ?_)
        have hcv17 := own_string (P := Tryd.prog) Tryd.underlying22 Tryd.underlying5 Tryd.underlying9 (Kd.own_of_R HO203.out)
        refine value_ (w1 := ?_) (v := ?_) (by rfl) rfl ?_ ?_
        rotate_left 2
        ·go_simp
         constructor
         ·rfl
         ·rfl
        clear hcv17
        refine hK.out _ _ trivial (fun hHeld => ?_)
        clear hK K
        refine norm_ (a' := ?_) ?_ ?_
        rotate_left
        ·show Act.put _ (some 26) _ = _
         simp only [zp0, zp1, zp2, zp3, zp4, i64_w, i32_w]
         rfl
        exact norm_ (by simp only [putAll, zp0, zp1, zp2, zp3, zp4]) (hCont (v202) _ ⟨(by exact zR HO203.out), (by exact zB HB.out)⟩)
       ·skip
        have hcv16 := own_string (P := Tryd.prog) Tryd.underlying22 Tryd.underlying5 Tryd.underlying9 (Kd.own_of_R HO203.out)
        refine value_ (w1 := ?_) (v := ?_) (by rfl) rfl ?_ ?_
        rotate_left 2
        ·go_simp
         constructor
         ·rfl
         ·rfl
        clear hcv16
        refine hK.out _ _ trivial (fun hHeld => ?_)
        clear hK K
        refine norm_ (a' := ?_) ?_ ?_
        rotate_left
        ·show Act.put _ (some 26) _ = _
         simp only [zp0, zp1, zp2, zp3, zp4, i64_w, i32_w]
         rfl
        refine one_ (i := 2) (N := some 20) #[true, true, true, true, true, true, true, true, true, false, false] rfl rfl (one_of HT_.out (by kernel_rfl)) (by decide) (fun K hK => ?_)
        refine goes_ Tryd.func31 (by kernel_rfl) rfl #[.int .i64 (wrap64 (Int.tdiv a0 10))] (by rfl) rfl rfl (by (try simp only [zm1, zm2, zm3]); first | done | rfl | (simp only [List.length_drop, List.length_take]; rfl)) ?_
        with_reducible refine (ih k (by omega) (wrap64 (Int.tdiv a0 10)) t200 _ A11.out).mono ?_
        rintro e w17 ⟨rfl, hb⟩
        refine ⟨_, rfl, ?_⟩
        have n0_ := Aside0.mk (Kd.R_below (by exact zR HO203.out) hb)
        have n1_ := Aside0.mk (below_step (by exact zB HB.out) hb)
        clear HO203
        clear HB
        have HO203 := n0_
        have HB := n1_
        clear n0_ n1_
        (try clear hb)
        (try clear hb2)
        (try clear hk)
        (try clear hi)
        refine hK.out _ _ trivial (fun hHeld => ?_)
        clear hK K
        refine norm_ (a' := ?_) ?_ ?_
        rotate_left
        ·show Act.put _ (some 20) _ = _
         simp only [zp0, zp1, zp2, zp3, zp4, i64_w, i32_w]
         rfl
        exact norm_ (by simp only [putAll, zp0, zp1, zp2, zp3, zp4]) (hCont (v202) _ ⟨(by exact zR HO203.out), (by exact zB HB.out)⟩)
     rintro v202 w18 ⟨h0_, h1_⟩
     have n0_ : Aside0 (Kd.R (Kd.int .u8) 5 w18 w.heap.size (fun _ => True) v202 y201) := ⟨h0_⟩
     have n1_ : Aside0 (Below w.heap.size w w18) := ⟨h1_⟩
     clear HB
     clear h0_ h1_
     have HO203 := n0_
     have HB := n1_
     clear n0_ n1_
     have hHeld := trivial
     refine norm_ (a' := ?_) ?_ ?_
     rotate_left
     ·simp only [putAll, zp0, zp1, zp2, zp3, zp4]
      rfl
     refine pure_ (i := 9) (N := some 27) (v := ?_) (a' := ?_) #[true, true, true, true, true, true, true, true, true, true, false] rfl rfl (any_of HT_.out (by kernel_rfl)) (fun _ _ _ h => h) (Or.inl ⟨by rfl, ?_⟩) ?_ ?_
     rotate_left
     ·intro w'
      go_simp
      with_reducible rfl
     rotate_left
     ·simp only [zp0, zp1, zp2, zp3, zp4, i64_w, i32_w]
      rfl
     refine pure_ (i := 10) (N := some 2) (v := ?_) (a' := ?_) #[true, true, true, true, true, true, true, true, true, true, true] rfl rfl (any_of HT_.out (by kernel_rfl)) (fun _ _ _ h => h) (Or.inl ⟨by rfl, ?_⟩) ?_ ?_
     rotate_left
     ·intro w'
      go_simp
      with_reducible rfl
     rotate_left
     ·simp only [zp0, zp1, zp2, zp3, zp4, i64_w, i32_w]
      rfl
     refine done_ (done_of HT_.out (by kernel_rfl)) ?_
     try go_wp2
     go_ret
     exact ⟨by first | rfl | (simp [errW_none, errW_some] <;> rfl) | (simp [*, errW_none, errW_some] <;> rfl), by exact zB HB.out⟩
    ·rw [if_neg c12] at H
     exact absurd H (by simp)

/-! ### spec_l1Name: function 30 -/
def spec_l1Name.f (k : Nat) (a0 : Int) (a1 : Int) : Option (ByteArray) := (some (([(wrap64 ((wrap64 (97 + a0)) - 1)) % 256] : List Int) : List Int)).bind fun y204 => ((spec_l6Dec.f k a1).bind fun t207 => (if (strOfNums y204).size + t207.size ≤ 9223372036854775807 then (some ((strOfNums y204) ++ t207)) else (none)))
theorem spec_l1Name.mono : ∀ a0 a1 k, LeO (spec_l1Name.f k a0 a1) (spec_l1Name.f (k + 1) a0 a1) := by
 intro a0 a1 k
 unfold spec_l1Name.f
 repeat' first
   | (with_reducible exact spec_l6Dec.mono _ _)
   | (with_reducible exact LeO.refl _)
   | (with_reducible exact LeO.none _)
   | (with_reducible refine LeO.ite ?_ ?_)
   | (with_reducible refine LeO.bind ?_ (fun _ => ?_))
   | exact spec_l6Dec.mono _ _
   | exact LeO.none _
   | refine LeO.ite ?_ ?_
   | refine LeO.bind ?_ (fun _ => ?_)
def spec_l1Name.T1 : Bool × List (List Nat × List Nat) := (true, [([], []), ([0], [0]), ([1], [1]), ([2], [2]), ([3], [3]), ([4], [4]), ([], []), ([6], [6]), ([5, 7], [5, 7]), ([8, 7, 0, 1, 2, 3, 4, 5, 6, 7, 8], [8])])
def spec_l1Name.B1 : List Nat := [0, 1, 3, 7, 15, 31, 0, 64, 255, 511]
theorem spec_l1Name.tab1 : rtab .any (opsOf Tryd.f30 1) = spec_l1Name.T1 := by kernel_rfl
theorem spec_l1Name.bits1 : waitsOk spec_l1Name.T1.2 spec_l1Name.B1 = true := by kernel_rfl
set_option maxHeartbeats 8000000 in
set_option maxRecDepth 100000 in
theorem spec_l1Name.calls (k : Nat) (a0 : Int) (a1 : Int) (r : ByteArray) (w : World) (h : spec_l1Name.f k a0 a1 = some r) :
  Calls Tryd.prog 30 #[.int .i64 a0, .int .i64 a1] w fun e w' => e = .returned (.string r) ∧ Below w.heap.size w w' := by
 have HB := Aside0.mk (Below.refl w.heap.size w)
 have H : ((some (([(wrap64 ((wrap64 (97 + a0)) - 1)) % 256] : List Int) : List Int)).bind fun y204 => ((spec_l6Dec.f k a1).bind fun t207 => (if (strOfNums y204).size + t207.size ≤ 9223372036854775807 then (some ((strOfNums y204) ++ t207)) else (none)))) = some r := h
 clear h
 obtain ⟨y204, hy204⟩ : ∃ y_ : List Int, y_ = (([(wrap64 ((wrap64 (97 + a0)) - 1)) % 256] : List Int)) := ⟨_, rfl⟩
 replace H : ((spec_l6Dec.f k a1).bind fun t207 => (if (strOfNums y204).size + t207.size ≤ 9223372036854775807 then (some ((strOfNums y204) ++ t207)) else (none))) = some r := by first | (rw [hy204]; with_reducible exact H) | (have H2_ := (Option.bind_some _ _).symm.trans H; rw [hy204]; with_reducible exact H2_) | (have H2_ := (Option.bind_some _ _).symm.trans H; with_reducible exact H2_) | with_reducible exact H | (rw [hy204]; exact H) | exact H
 have Ny204 := Aside0.mk hy204
 clear hy204
 replace H := Option.bind_eq_some_iff.mp H
 obtain ⟨t207, A30, H⟩ := H
 replace H : (if (strOfNums y204).size + t207.size ≤ 9223372036854775807 then (some ((strOfNums y204) ++ t207)) else (none)) = some r := H
 have A3 := Aside0.mk A30
 clear A30
 by_cases c4 : (strOfNums y204).size + t207.size ≤ 9223372036854775807
 ·rw [if_pos c4] at H
  have c4b0 := eq_true c4
  have c4b1 : decide ((strOfNums y204).size + t207.size ≤ 9223372036854775807) = true := decide_eq_true c4
  try have c4b2 : (9223372036854775807 < (strOfNums y204).size + t207.size) = False := eq_false (Nat.not_lt.2 c4)
  obtain rfl := Option.some.inj H
  go_enter Tryd.func30, Tryd.ntmps30
  try go_wp2
  have n0_ := Aside0.mk (below_drew1 HB.out)
  clear HB
  have HB := n0_
  clear n0_
  refine start_ (n := 10) (S := fun w' => True) (ds := []) #[false, false, false, false, false, false, false, false, false, false] (by kernel_rfl) rfl rfl trivial (fun hHeld => ?_); refine with_tabW spec_l1Name.tab1 spec_l1Name.bits1 (fun HT_ HW_ => ?_)
  generalize w.drew = w5 at HB hHeld ⊢
  refine pure_ (i := 0) (N := some 5) (v := ?_) (a' := ?_) #[true, false, false, false, false, false, false, false, false, false] rfl rfl (any_of HT_.out (by kernel_rfl)) (fun _ _ _ h => h) (Or.inl ⟨by rfl, ?_⟩) ?_ ?_
  rotate_left
  ·intro w'
   go_simp
   with_reducible rfl
  rotate_left
  ·simp only [zp0, zp1, zp2, zp3, zp4, i64_w, i32_w]
   rfl
  refine pure_ (i := 1) (N := some 6) (v := ?_) (a' := ?_) #[true, true, false, false, false, false, false, false, false, false] rfl rfl (any_of HT_.out (by kernel_rfl)) (fun _ _ _ h => h) (Or.inl ⟨by rfl, ?_⟩) ?_ ?_
  rotate_left
  ·intro w'
   go_simp
   with_reducible rfl
  rotate_left
  ·simp only [zp0, zp1, zp2, zp3, zp4, i64_w, i32_w]
   rfl
  refine pure_ (i := 2) (N := some 7) (v := ?_) (a' := ?_) #[true, true, true, false, false, false, false, false, false, false] rfl rfl (any_of HT_.out (by kernel_rfl)) (fun _ _ _ h => h) (Or.inl ⟨by rfl, ?_⟩) ?_ ?_
  rotate_left
  ·intro w'
   go_simp
   with_reducible rfl
  rotate_left
  ·simp only [zp0, zp1, zp2, zp3, zp4, i64_w, i32_w]
   rfl
  refine pure_ (i := 3) (N := some 8) (v := ?_) (a' := ?_) #[true, true, true, true, false, false, false, false, false, false] rfl rfl (any_of HT_.out (by kernel_rfl)) (fun _ _ _ h => h) (Or.inl ⟨by rfl, ?_⟩) ?_ ?_
  rotate_left
  ·intro w'
   go_simp
   with_reducible rfl
  rotate_left
  ·simp only [zp0, zp1, zp2, zp3, zp4, i64_w, i32_w]
   rfl
  refine pure_ (i := 6) (N := some 11) (v := ?_) (a' := ?_) #[true, true, true, true, false, false, true, false, false, false] rfl rfl (any_of HT_.out (by kernel_rfl)) (fun _ _ _ h => h) (Or.inl ⟨by rfl, ?_⟩) ?_ ?_
  rotate_left
  ·intro w'
   go_simp
   with_reducible rfl
  rotate_left
  ·simp only [zp0, zp1, zp2, zp3, zp4, i64_w, i32_w]
   rfl
  refine join_ (σ := Value) 2 #[true, true, true, true, true, true, true, true, false, false] (fun s_ => [(9, s_), (10, .string (strOfNums y204)), (12, .string t207)]) (fun s_ w' => (Kd.R (Kd.int .u8) 5 w' w.heap.size (fun _ => True) s_ y204) ∧ (Below w.heap.size w w')) ?_ ?_
  rotate_left
  ·intro hCont
   refine two_ (i := 4) (j := 7) (Ni := some 9) (Nj := some 12) #[true, true, true, true, true, false, true, false, false, false] #[true, true, true, true, false, false, true, true, false, false] rfl rfl rfl rfl (two_of HT_.out (by kernel_rfl)) (by decide) (by decide) (fun K hK => ?_) (fun K hK => ?_)
   ·skip
    refine Kd.R_lit_step (Kd.int .u8) _ 5 ?hg (N := 9) ?hd (xs := ([(wrap64 ((wrap64 (97 + a0)) - 1)) % 256] : List Int)) (inner := [.int .u8 ((wrap64 ((wrap64 (97 + a0)) - 1)) % 256)]) (ok := fun _ => True) (okp := fun _ => True) ?hr ?hp (fun _ hk => hk) trivial (Below.refl _ _) (Nat.le_refl _) (by simp) ?_; (case hd => rfl); (case hg => rfl); (case hr => first | (go_simp; done) | (go_simp; rfl)); (case hp => exact (Reps.one (show Kd.M (Kd.int .u8) _ _ _ ((wrap64 ((wrap64 (97 + a0)) - 1)) % 256) [.int .u8 ((wrap64 ((wrap64 (97 + a0)) - 1)) % 256)] from rfl) (Reps.none _ _)))
    intro v205 w6 ho7 hb hg_ hnew_
    clear hg_ hnew_
    (first | rw [← Ny204.out] at ho7 | (simp only [Int.reduceToNat] at ho7; rw [← Ny204.out] at ho7))
    have n0_ := Aside0.mk (Kd.R_lower ho7 (below_size (by exact zB HB.out)))
    have n1_ := Aside0.mk (below_step (by exact zB HB.out) hb)
    clear HB
    have HO206 := n0_
    have HB := n1_
    clear n0_ n1_
    clear hb ho7
    refine hK.out _ _ trivial (fun hHeld => ?_)
    clear hK K
    refine norm_ (a' := ?_) ?_ ?_
    rotate_left
    ·show Act.put _ (some 9) _ = _
     simp only [zp0, zp1, zp2, zp3, zp4, i64_w, i32_w]
     rfl
    refine two_ (i := 5) (j := 7) (Ni := some 10) (Nj := some 12) #[true, true, true, true, true, true, true, false, false, false] #[true, true, true, true, true, false, true, true, false, false] rfl rfl rfl rfl (two_of HT_.out (by kernel_rfl)) (by decide) (by decide) (fun K hK => ?_) (fun K hK => ?_)
    ·skip
     have hcv8 := own_string (P := Tryd.prog) Tryd.underlying22 Tryd.underlying5 Tryd.underlying9 (Kd.own_of_R HO206.out)
     refine value_ (w1 := ?_) (v := ?_) (by rfl) rfl ?_ ?_
     rotate_left 2
     ·go_simp
      constructor
      ·rfl
      ·rfl
     clear hcv8
     refine hK.out _ _ trivial (fun hHeld => ?_)
     clear hK K
     refine norm_ (a' := ?_) ?_ ?_
     rotate_left
     ·show Act.put _ (some 10) _ = _
      simp only [zp0, zp1, zp2, zp3, zp4, i64_w, i32_w]
      rfl
     refine one_ (i := 7) (N := some 12) #[true, true, true, true, true, true, true, true, false, false] rfl rfl (one_of HT_.out (by kernel_rfl)) (by decide) (fun K hK => ?_)
     refine goes_ Tryd.func31 (by kernel_rfl) rfl #[.int .i64 a1] (by rfl) rfl rfl (by (try simp only [zm1, zm2, zm3]); first | done | rfl | (simp only [List.length_drop, List.length_take]; rfl)) ?_
     with_reducible refine (spec_l6Dec.calls k a1 t207 _ A3.out).mono ?_
     rintro e w9 ⟨rfl, hb⟩
     refine ⟨_, rfl, ?_⟩
     have n0_ := Aside0.mk (Kd.R_below (by exact zR HO206.out) hb)
     have n1_ := Aside0.mk (below_step (by exact zB HB.out) hb)
     clear HO206
     clear HB
     have HO206 := n0_
     have HB := n1_
     clear n0_ n1_
     (try clear hb)
     (try clear hb2)
     (try clear hk)
     (try clear hi)
     refine hK.out _ _ trivial (fun hHeld => ?_)
     clear hK K
     refine norm_ (a' := ?_) ?_ ?_
     rotate_left
     ·show Act.put _ (some 12) _ = _
      simp only [zp0, zp1, zp2, zp3, zp4, i64_w, i32_w]
      rfl
     exact norm_ (by simp only [putAll, zp0, zp1, zp2, zp3, zp4]) (hCont (v205) _ ⟨(by exact zR HO206.out), (by exact zB HB.out)⟩)
    ·skip
     refine goes_ Tryd.func31 (by kernel_rfl) rfl #[.int .i64 a1] (by rfl) rfl rfl (by (try simp only [zm1, zm2, zm3]); first | done | rfl | (simp only [List.length_drop, List.length_take]; rfl)) ?_
     with_reducible refine (spec_l6Dec.calls k a1 t207 _ A3.out).mono ?_
     rintro e w8 ⟨rfl, hb⟩
     refine ⟨_, rfl, ?_⟩
     have n0_ := Aside0.mk (Kd.R_below (by exact zR HO206.out) hb)
     have n1_ := Aside0.mk (below_step (by exact zB HB.out) hb)
     clear HO206
     clear HB
     have HO206 := n0_
     have HB := n1_
     clear n0_ n1_
     (try clear hb)
     (try clear hb2)
     (try clear hk)
     (try clear hi)
     refine hK.out _ _ trivial (fun hHeld => ?_)
     clear hK K
     refine norm_ (a' := ?_) ?_ ?_
     rotate_left
     ·show Act.put _ (some 12) _ = _
      simp only [zp0, zp1, zp2, zp3, zp4, i64_w, i32_w]
      rfl
     refine one_ (i := 5) (N := some 10) #[true, true, true, true, true, true, true, true, false, false] rfl rfl (one_of HT_.out (by kernel_rfl)) (by decide) (fun K hK => ?_)
     have hcv9 := own_string (P := Tryd.prog) Tryd.underlying22 Tryd.underlying5 Tryd.underlying9 (Kd.own_of_R HO206.out)
     refine value_ (w1 := ?_) (v := ?_) (by rfl) rfl ?_ ?_
     rotate_left 2
     ·go_simp
      constructor
      ·rfl
      ·rfl
     clear hcv9
     refine hK.out _ _ trivial (fun hHeld => ?_)
     clear hK K
     refine norm_ (a' := ?_) ?_ ?_
     rotate_left
     ·show Act.put _ (some 10) _ = _
      simp only [zp0, zp1, zp2, zp3, zp4, i64_w, i32_w]
      rfl
     exact norm_ (by simp only [putAll, zp0, zp1, zp2, zp3, zp4]) (hCont (v205) _ ⟨(by exact zR HO206.out), (by exact zB HB.out)⟩)
   ·skip
    refine goes_ Tryd.func31 (by kernel_rfl) rfl #[.int .i64 a1] (by rfl) rfl rfl (by (try simp only [zm1, zm2, zm3]); first | done | rfl | (simp only [List.length_drop, List.length_take]; rfl)) ?_
    with_reducible refine (spec_l6Dec.calls k a1 t207 _ A3.out).mono ?_
    rintro e w6 ⟨rfl, hb⟩
    refine ⟨_, rfl, ?_⟩
    have n0_ := Aside0.mk (below_step (by exact zB HB.out) hb)
    clear HB
    have HB := n0_
    clear n0_
    (try clear hb)
    (try clear hb2)
    (try clear hk)
    (try clear hi)
    refine hK.out _ _ trivial (fun hHeld => ?_)
    clear hK K
    refine norm_ (a' := ?_) ?_ ?_
    rotate_left
    ·show Act.put _ (some 12) _ = _
     simp only [zp0, zp1, zp2, zp3, zp4, i64_w, i32_w]
     rfl
    refine one_ (i := 4) (N := some 9) #[true, true, true, true, true, false, true, true, false, false] rfl rfl (one_of HT_.out (by kernel_rfl)) (by decide) (fun K hK => ?_)
    refine Kd.R_lit_step (Kd.int .u8) _ 5 ?hg (N := 9) ?hd (xs := ([(wrap64 ((wrap64 (97 + a0)) - 1)) % 256] : List Int)) (inner := [.int .u8 ((wrap64 ((wrap64 (97 + a0)) - 1)) % 256)]) (ok := fun _ => True) (okp := fun _ => True) ?hr ?hp (fun _ hk => hk) trivial (Below.refl _ _) (Nat.le_refl _) (by simp) ?_; (case hd => rfl); (case hg => rfl); (case hr => first | (go_simp; done) | (go_simp; rfl)); (case hp => exact (Reps.one (show Kd.M (Kd.int .u8) _ _ _ ((wrap64 ((wrap64 (97 + a0)) - 1)) % 256) [.int .u8 ((wrap64 ((wrap64 (97 + a0)) - 1)) % 256)] from rfl) (Reps.none _ _)))
    intro v205 w7 ho8 hb hg_ hnew_
    clear hg_ hnew_
    (first | rw [← Ny204.out] at ho8 | (simp only [Int.reduceToNat] at ho8; rw [← Ny204.out] at ho8))
    have n0_ := Aside0.mk (Kd.R_lower ho8 (below_size (by exact zB HB.out)))
    have n1_ := Aside0.mk (below_step (by exact zB HB.out) hb)
    clear HB
    have HO206 := n0_
    have HB := n1_
    clear n0_ n1_
    clear hb ho8
    refine hK.out _ _ trivial (fun hHeld => ?_)
    clear hK K
    refine norm_ (a' := ?_) ?_ ?_
    rotate_left
    ·show Act.put _ (some 9) _ = _
     simp only [zp0, zp1, zp2, zp3, zp4, i64_w, i32_w]
     rfl
    refine one_ (i := 5) (N := some 10) #[true, true, true, true, true, true, true, true, false, false] rfl rfl (one_of HT_.out (by kernel_rfl)) (by decide) (fun K hK => ?_)
    have hcv9 := own_string (P := Tryd.prog) Tryd.underlying22 Tryd.underlying5 Tryd.underlying9 (Kd.own_of_R HO206.out)
    refine value_ (w1 := ?_) (v := ?_) (by rfl) rfl ?_ ?_
    rotate_left 2
    ·go_simp
     constructor
     ·rfl
     ·rfl
    clear hcv9
    refine hK.out _ _ trivial (fun hHeld => ?_)
    clear hK K
    refine norm_ (a' := ?_) ?_ ?_
    rotate_left
    ·show Act.put _ (some 10) _ = _
     simp only [zp0, zp1, zp2, zp3, zp4, i64_w, i32_w]
     rfl
    exact norm_ (by simp only [putAll, zp0, zp1, zp2, zp3, zp4]) (hCont (v205) _ ⟨(by exact zR HO206.out), (by exact zB HB.out)⟩)
  rintro v205 w10 ⟨h0_, h1_⟩
  have n0_ : Aside0 (Kd.R (Kd.int .u8) 5 w10 w.heap.size (fun _ => True) v205 y204) := ⟨h0_⟩
  have n1_ : Aside0 (Below w.heap.size w w10) := ⟨h1_⟩
  clear HB
  clear h0_ h1_
  have HO206 := n0_
  have HB := n1_
  clear n0_ n1_
  have hHeld := trivial
  refine norm_ (a' := ?_) ?_ ?_
  rotate_left
  ·simp only [putAll, zp0, zp1, zp2, zp3, zp4]
   rfl
  refine pure_ (i := 8) (N := some 13) (v := ?_) (a' := ?_) #[true, true, true, true, true, true, true, true, true, false] rfl rfl (any_of HT_.out (by kernel_rfl)) (fun _ _ _ h => h) (Or.inl ⟨by rfl, ?_⟩) ?_ ?_
  rotate_left
  ·intro w'
   go_simp
   with_reducible rfl
  rotate_left
  ·simp only [zp0, zp1, zp2, zp3, zp4, i64_w, i32_w]
   rfl
  refine pure_ (i := 9) (N := some 4) (v := ?_) (a' := ?_) #[true, true, true, true, true, true, true, true, true, true] rfl rfl (any_of HT_.out (by kernel_rfl)) (fun _ _ _ h => h) (Or.inl ⟨by rfl, ?_⟩) ?_ ?_
  rotate_left
  ·intro w'
   go_simp
   with_reducible rfl
  rotate_left
  ·simp only [zp0, zp1, zp2, zp3, zp4, i64_w, i32_w]
   rfl
  refine done_ (done_of HT_.out (by kernel_rfl)) ?_
  try go_wp2
  go_ret
  exact ⟨by first | rfl | (simp [errW_none, errW_some] <;> rfl) | (simp [*, errW_none, errW_some] <;> rfl), by exact zB HB.out⟩
 ·rw [if_neg c4] at H
  exact absurd H (by simp)

/-! ### spec_PkgText: function 10 -/
mutual
def spec_PkgText.l0 : Nat → ByteArray → Int → Int → Int → List (S63) → List (S66) → Option (ByteArray)
 | 0, _, _, _, _, _, _ => none
 | k + 1, x3, x4, x209000, x209001, x209002, x209003 => if x4 < (x209002.length : Int) then (if x3.size + 1 ≤ 9223372036854775807 then (if 0 ≤ x4 then ((spec_l6Dec.f k ((rd_T63 x209002 x4).f0)).bind fun t212 => (if (x3 ++ (⟨#[32]⟩ : ByteArray)).size + t212.size ≤ 9223372036854775807 then (if ((x3 ++ (⟨#[32]⟩ : ByteArray)) ++ t212).size + 1 ≤ 9223372036854775807 then ((spec_l6Dec.f k ((rd_T63 x209002 x4).f1)).bind fun t214 => (if (((x3 ++ (⟨#[32]⟩ : ByteArray)) ++ t212) ++ (⟨#[58]⟩ : ByteArray)).size + t214.size ≤ 9223372036854775807 then (spec_PkgText.l0 k ((((x3 ++ (⟨#[32]⟩ : ByteArray)) ++ t212) ++ (⟨#[58]⟩ : ByteArray)) ++ t214) (wrap64 (x4 + 1)) x209000 x209001 x209002 x209003) else (none))) else (none)) else (none))) else (none)) else (none)) else (spec_PkgText.l1 k x3 0 x209000 x209001 x209002 x209003)
def spec_PkgText.l1 : Nat → ByteArray → Int → Int → Int → List (S63) → List (S66) → Option (ByteArray)
 | 0, _, _, _, _, _, _ => none
 | k + 1, x3, x5, x209000, x209001, x209002, x209003 => if x5 < (x209003.length : Int) then (if x3.size + 1 ≤ 9223372036854775807 then (if 0 ≤ x5 then ((spec_l1Name.f k ((rd_T66 x209003 x5).f0) ((rd_T66 x209003 x5).f1)).bind fun t217 => (if (x3 ++ (⟨#[32]⟩ : ByteArray)).size + t217.size ≤ 9223372036854775807 then (spec_PkgText.l1 k ((x3 ++ (⟨#[32]⟩ : ByteArray)) ++ t217) (wrap64 (x5 + 1)) x209000 x209001 x209002 x209003) else (none))) else (none)) else (none)) else (some x3)
end
def spec_PkgText.f (k : Nat) (a0_0 : Int) (a0_1 : Int) (l0_2 : List (S63)) (l0_3 : List (S66)) : Option (ByteArray) := (spec_PkgOk.f k a0_0 a0_1 l0_2 l0_3).bind fun t209 => (if t209 = true then ((spec_l1Name.f k a0_0 a0_1).bind fun t210 => (spec_PkgText.l0 k t210 0 a0_0 a0_1 l0_2 l0_3)) else (some (⟨#[]⟩ : ByteArray)))
theorem spec_PkgText.mono_l : ∀ k, (∀ y0 y1 y2 y3 y4 y5, LeO (spec_PkgText.l0 k y0 y1 y2 y3 y4 y5) (spec_PkgText.l0 (k + 1) y0 y1 y2 y3 y4 y5)) ∧ (∀ y0 y1 y2 y3 y4 y5, LeO (spec_PkgText.l1 k y0 y1 y2 y3 y4 y5) (spec_PkgText.l1 (k + 1) y0 y1 y2 y3 y4 y5))
 | 0 => ⟨fun _ _ _ _ _ _ r h => by simp [spec_PkgText.l0] at h, fun _ _ _ _ _ _ r h => by simp [spec_PkgText.l1] at h⟩
 | k + 1 => by
  obtain ⟨ih0, ih1⟩ := spec_PkgText.mono_l k
  refine ⟨?_, ?_⟩
  ·intro y0 y1 y2 y3 y4 y5
   unfold spec_PkgText.l0
   repeat' first
   | (with_reducible exact ih0 _ _ _ _ _ _)
   | (with_reducible exact ih1 _ _ _ _ _ _)
   | (with_reducible exact spec_PkgOk.mono _ _ _ _ _)
   | (with_reducible exact spec_l1Name.mono _ _ _)
   | (with_reducible exact spec_l6Dec.mono _ _)
   | (with_reducible exact LeO.refl _)
   | (with_reducible exact LeO.none _)
   | (with_reducible refine LeO.ite ?_ ?_)
   | (with_reducible refine LeO.bind ?_ (fun _ => ?_))
   | exact ih0 _ _ _ _ _ _
   | exact ih1 _ _ _ _ _ _
   | exact spec_PkgOk.mono _ _ _ _ _
   | exact spec_l1Name.mono _ _ _
   | exact spec_l6Dec.mono _ _
   | exact LeO.none _
   | refine LeO.ite ?_ ?_
   | refine LeO.bind ?_ (fun _ => ?_)
  ·intro y0 y1 y2 y3 y4 y5
   unfold spec_PkgText.l1
   repeat' first
   | (with_reducible exact ih0 _ _ _ _ _ _)
   | (with_reducible exact ih1 _ _ _ _ _ _)
   | (with_reducible exact spec_PkgOk.mono _ _ _ _ _)
   | (with_reducible exact spec_l1Name.mono _ _ _)
   | (with_reducible exact spec_l6Dec.mono _ _)
   | (with_reducible exact LeO.refl _)
   | (with_reducible exact LeO.none _)
   | (with_reducible refine LeO.ite ?_ ?_)
   | (with_reducible refine LeO.bind ?_ (fun _ => ?_))
   | exact ih0 _ _ _ _ _ _
   | exact ih1 _ _ _ _ _ _
   | exact spec_PkgOk.mono _ _ _ _ _
   | exact spec_l1Name.mono _ _ _
   | exact spec_l6Dec.mono _ _
   | exact LeO.none _
   | refine LeO.ite ?_ ?_
   | refine LeO.bind ?_ (fun _ => ?_)
theorem spec_PkgText.mono : ∀ a0 a1 a2 a3 k, LeO (spec_PkgText.f k a0 a1 a2 a3) (spec_PkgText.f (k + 1) a0 a1 a2 a3) := by
 intro a0 a1 a2 a3 k
 obtain ⟨ih0, ih1⟩ := spec_PkgText.mono_l k
 unfold spec_PkgText.f
 repeat' first
   | (with_reducible exact ih0 _ _ _ _ _ _)
   | (with_reducible exact ih1 _ _ _ _ _ _)
   | (with_reducible exact spec_PkgOk.mono _ _ _ _ _)
   | (with_reducible exact spec_l1Name.mono _ _ _)
   | (with_reducible exact spec_l6Dec.mono _ _)
   | (with_reducible exact LeO.refl _)
   | (with_reducible exact LeO.none _)
   | (with_reducible refine LeO.ite ?_ ?_)
   | (with_reducible refine LeO.bind ?_ (fun _ => ?_))
   | exact ih0 _ _ _ _ _ _
   | exact ih1 _ _ _ _ _ _
   | exact spec_PkgOk.mono _ _ _ _ _
   | exact spec_l1Name.mono _ _ _
   | exact spec_l6Dec.mono _ _
   | exact LeO.none _
   | refine LeO.ite ?_ ?_
   | refine LeO.bind ?_ (fun _ => ?_)
def spec_PkgText.T7 : Bool × List (List Nat × List Nat) := (true, [([], []), ([0], [0]), ([], []), ([2], [2]), ([], []), ([3, 4], [3, 4]), ([5], [5]), ([6], [6]), ([7], [7]), ([1, 8], [1, 8]), ([9], [9]), ([], []), ([11], [11]), ([], []), ([12, 13], [12, 13]), ([14], [14]), ([15], [15]), ([16, 8], [16]), ([10, 17], [10, 17]), ([18, 17, 0, 1, 2, 3, 4, 5, 6, 7, 8, 9, 10, 11, 12, 13, 14, 15, 16, 17, 18], [0, 18])])
def spec_PkgText.B7 : List Nat := [0, 1, 0, 4, 0, 28, 60, 124, 252, 511, 1023, 0, 2048, 0, 14336, 30720, 63488, 129532, 262143, 524287]
theorem spec_PkgText.tab7 : rtab .any (opsOf Tryd.f10 7) = spec_PkgText.T7 := by kernel_rfl
theorem spec_PkgText.bits7 : waitsOk spec_PkgText.T7.2 spec_PkgText.B7 = true := by kernel_rfl
def spec_PkgText.T11 : Bool × List (List Nat × List Nat) := (true, [([], []), ([0], [0]), ([], []), ([2], [2]), ([], []), ([3, 4], [3, 4]), ([5], [5]), ([6], [6]), ([], []), ([8], [8]), ([], []), ([9, 10], [9, 10]), ([11], [11]), ([12], [12]), ([7, 13], [7, 13]), ([1, 14], [1, 14]), ([15, 14, 0, 1, 2, 3, 4, 5, 6, 7, 8, 9, 10, 11, 12, 13, 14, 15], [0, 15])])
def spec_PkgText.B11 : List Nat := [0, 1, 0, 4, 0, 28, 60, 124, 0, 256, 0, 1792, 3840, 7936, 16380, 32767, 65535]
theorem spec_PkgText.tab11 : rtab .any (opsOf Tryd.f10 11) = spec_PkgText.T11 := by kernel_rfl
theorem spec_PkgText.bits11 : waitsOk spec_PkgText.T11.2 spec_PkgText.B11 = true := by kernel_rfl
set_option maxHeartbeats 8000000 in
set_option maxRecDepth 100000 in
theorem spec_PkgText.calls (k : Nat) (a0_0 : Int) (a0_1 : Int) (A0_2 : Option Addr) (c0_2 : Nat) (l0_2 : List (S63)) (A0_3 : Option Addr) (c0_3 : Nat) (l0_3 : List (S66)) (r : ByteArray) (w : World) (hr0_2 : Kd.C k63 w A0_2 l0_2.length l0_2) (hc0_2 : l0_2.length ≤ c0_2) (hr0_3 : Kd.C k66 w A0_3 l0_3.length l0_3) (hc0_3 : l0_3.length ≤ c0_3) (h : spec_PkgText.f k a0_0 a0_1 l0_2 l0_3 = some r) :
  Calls Tryd.prog 10 #[.agg #[.int .i64 a0_0, .int .i64 a0_1, .slice A0_2 l0_2.length c0_2, .slice A0_3 l0_3.length c0_3]] w fun e w' => e = .returned (.string r) ∧ Below w.heap.size w w' := by
 have hu26 := Tryd.underlying26
 have HR0_2 := Aside0.mk hr0_2
 have HC0_2 := Aside0.mk hc0_2
 clear hr0_2 hc0_2
 have HR0_3 := Aside0.mk hr0_3
 have HC0_3 := Aside0.mk hc0_3
 clear hr0_3 hc0_3
 have HB := Aside0.mk (Below.refl w.heap.size w)
 have H : ((spec_PkgOk.f k a0_0 a0_1 l0_2 l0_3).bind fun t209 => (if t209 = true then ((spec_l1Name.f k a0_0 a0_1).bind fun t210 => (spec_PkgText.l0 k t210 0 a0_0 a0_1 l0_2 l0_3)) else (some (⟨#[]⟩ : ByteArray)))) = some r := h
 clear h
 replace H := Option.bind_eq_some_iff.mp H
 obtain ⟨t209, A20, H⟩ := H
 replace H : (if t209 = true then ((spec_l1Name.f k a0_0 a0_1).bind fun t210 => (spec_PkgText.l0 k t210 0 a0_0 a0_1 l0_2 l0_3)) else (some (⟨#[]⟩ : ByteArray))) = some r := H
 have A2 := Aside0.mk A20
 clear A20
 by_cases c3 : t209 = true
 ·subst c3
  have H1 : ((spec_l1Name.f k a0_0 a0_1).bind fun t210 => (spec_PkgText.l0 k t210 0 a0_0 a0_1 l0_2 l0_3)) = some r := by rw [if_pos rfl] at H; exact H
  clear H
  have H := H1
  clear H1
  replace H := Option.bind_eq_some_iff.mp H
  obtain ⟨t210, A40, H⟩ := H
  replace H : (spec_PkgText.l0 k t210 0 a0_0 a0_1 l0_2 l0_3) = some r := H
  have A4 := Aside0.mk A40
  clear A40
  have H' := Aside0.mk H
  clear H
  go_enter Tryd.func10, Tryd.ntmps10
  go_wp2_with (first | ((with_reducible refine gate_dst (N := 1) rfl ?_); refine box_event ?hg (N := 1) ?hd (cs := #[.int .i64 a0_0, .int .i64 a0_1, .slice A0_2 l0_2.length c0_2, .slice A0_3 l0_3.length c0_3]) (t := 26) ?hr ?_; (case hd => rfl); (case hg => rfl); (case hr => first | (go_simp; done) | (go_simp; rfl)); intro gb208 hg w5 hbox hb; have n0_ := Aside0.mk (below_step (by exact zB HB.out) hb); have n1_ := Aside0.mk (hbox); have n2_ := Aside0.mk ((by rw [hg]; exact (below_size (by exact zB HB.out)) : w.heap.size ≤ gb208)); have n3_ := Aside0.mk ((by rw [hg]; exact (below_size (by exact zB HB.out)) : w.heap.size ≤ gb208)); clear HB; have HB := n0_; have BK208 := n1_; have GW208 := n2_; have GE208 := n3_; clear n0_ n1_ n2_ n3_; clear hb hbox hg; obtain ⟨hcz6_0, hcz6_1, hcz6_2, hcz6_3, hfz6_0, hfz6_1, hfz6_2, hfz6_3⟩ := zc4f BK208.out) | ((with_reducible refine gate_callee (f := 29) rfl ?_); refine goesL_ (some 7) rfl rfl Tryd.func29 (by kernel_rfl) rfl #[.agg #[.int .i64 a0_0, .int .i64 a0_1, .slice A0_2 l0_2.length c0_2, .slice A0_3 l0_3.length c0_3]] rfl (by (try simp only [zm1, zm2, zm3]); first | done | rfl | (simp only [List.length_drop, List.length_take]; rfl)) ?_; (with_reducible refine (spec_PkgOk.calls k a0_0 a0_1 _ _ l0_2 _ _ l0_3 true _ ?side1 ?side2 ?side3 ?side4 A2.out).mono ?_); (case side1 => exact zC (Kd.C_below HR0_2.out HB.out)); (case side2 => exact HC0_2.out); (case side3 => exact zC (Kd.C_below HR0_3.out HB.out)); (case side4 => exact HC0_3.out); rintro e w7 ⟨rfl, hb⟩; refine ⟨_, rfl, ?_⟩; have n0_ := Aside0.mk (blk_below (g := gb208) (o := .cells #[.int .i64 a0_0, .int .i64 a0_1, .slice A0_2 l0_2.length c0_2, .slice A0_3 l0_3.length c0_3] 26 (0, 0)) (by exact zK BK208.out) hb); have n1_ := Aside0.mk (below_step (by exact zB1 HB.out GE208.out) hb); clear BK208; clear HB; have BK208 := n0_; have HB := n1_; clear n0_ n1_; (try clear hb); (try clear hb2); (try clear hk); (try clear hi); obtain ⟨hcz8_0, hcz8_1, hcz8_2, hcz8_3, hfz8_0, hfz8_1, hfz8_2, hfz8_3⟩ := zc4f BK208.out) | ((with_reducible refine gate_callee (f := 30) rfl ?_); refine goesL_ (some 13) rfl rfl Tryd.func30 (by kernel_rfl) rfl #[.int .i64 a0_0, .int .i64 a0_1] rfl (by (try simp only [zm1, zm2, zm3]); first | done | rfl | (simp only [List.length_drop, List.length_take]; rfl)) ?_; (with_reducible refine (spec_l1Name.calls k a0_0 a0_1 t210 _ A4.out).mono ?_); rintro e w9 ⟨rfl, hb⟩; refine ⟨_, rfl, ?_⟩; have n0_ := Aside0.mk (blk_below (g := gb208) (o := .cells #[.int .i64 a0_0, .int .i64 a0_1, .slice A0_2 l0_2.length c0_2, .slice A0_3 l0_3.length c0_3] 26 (0, 0)) (by exact zK BK208.out) hb); have n1_ := Aside0.mk (below_step (by exact zB1 HB.out GE208.out) hb); clear BK208; clear HB; have BK208 := n0_; have HB := n1_; clear n0_ n1_; (try clear hb); (try clear hb2); (try clear hk); (try clear hi)))
  go_loopg [3, 4] k (fun kq v3 v4 w' => ∃ (x3_1 : ByteArray) (x4_1 : Int), v3 = .string x3_1 ∧ v4 = .int .i64 x4_1 ∧ Aside0 (spec_PkgText.l0 kq x3_1 x4_1 a0_0 a0_1 l0_2 l0_3 = some r) ∧ Aside0 (kq ≤ k) ∧ Aside0 (w'.heap[gb208]? = some (.cells #[.int .i64 a0_0, .int .i64 a0_1, (.slice A0_2 l0_2.length c0_2), (.slice A0_3 l0_3.length c0_3)] 26 (0, 0))) ∧ Aside0 (Below w.heap.size w w'))
  case atStart => exact ⟨(t210), (0), (by first | rfl | (simp; done) | (simp [*]; done)), (by first | rfl | (simp; done) | (simp [*]; done)), H', ⟨Nat.le_refl _⟩, ⟨by exact zK BK208.out⟩, ⟨by exact zB1 HB.out GE208.out⟩⟩
  case round =>
   clear H'
   try clear c1
   try clear c2
   try clear p2
   try clear c3
   try clear hcz6_0
   try clear hcz6_1
   try clear hcz6_2
   try clear hcz6_3
   try clear hcz8_0
   try clear hcz8_1
   try clear hcz8_2
   try clear hcz8_3
   try clear hfz6_0
   try clear hfz6_1
   try clear hfz6_2
   try clear hfz6_3
   try clear hfz8_0
   try clear hfz8_1
   try clear hfz8_2
   try clear hfz8_3
   obtain ⟨x3_1, x4_1, rfl, rfl, HA, HK1, BK208, HB⟩ := hrel
   cases gk with
   | zero => exact absurd HA.out (by simp [spec_PkgText.l0])
   | succ k1 =>
    have H := HA.out
    clear HA
    simp only [spec_PkgText.l0] at H
    by_cases c10 : x4_1 < (l0_2.length : Int)
    ·rw [if_pos c10] at H
     have c10b0 : decide (x4_1 < (l0_2.length : Int)) = true := decide_eq_true c10
     clear c10
     by_cases c11 : x3_1.size + 1 ≤ 9223372036854775807
     ·rw [if_pos c11] at H
      have c11b0 := eq_true c11
      have c11b1 : decide (x3_1.size + 1 ≤ 9223372036854775807) = true := decide_eq_true c11
      try have c11b2 : (9223372036854775807 < x3_1.size + 1) = False := eq_false (Nat.not_lt.2 c11)
      by_cases c12 : 0 ≤ x4_1
      ·rw [if_pos c12] at H
       have c12b0 : decide (0 ≤ x4_1) = true := decide_eq_true c12
       clear c12
       replace H := Option.bind_eq_some_iff.mp H
       obtain ⟨t212, A130, H⟩ := H
       replace H : (if (x3_1 ++ (⟨#[32]⟩ : ByteArray)).size + t212.size ≤ 9223372036854775807 then (if ((x3_1 ++ (⟨#[32]⟩ : ByteArray)) ++ t212).size + 1 ≤ 9223372036854775807 then ((spec_l6Dec.f k1 ((rd_T63 l0_2 x4_1).f1)).bind fun t214 => (if (((x3_1 ++ (⟨#[32]⟩ : ByteArray)) ++ t212) ++ (⟨#[58]⟩ : ByteArray)).size + t214.size ≤ 9223372036854775807 then (spec_PkgText.l0 k1 ((((x3_1 ++ (⟨#[32]⟩ : ByteArray)) ++ t212) ++ (⟨#[58]⟩ : ByteArray)) ++ t214) (wrap64 (x4_1 + 1)) a0_0 a0_1 l0_2 l0_3) else (none))) else (none)) else (none)) = some r := H
       have A13 := Aside0.mk A130
       clear A130
       by_cases c14 : (x3_1 ++ (⟨#[32]⟩ : ByteArray)).size + t212.size ≤ 9223372036854775807
       ·rw [if_pos c14] at H
        have c14b0 := eq_true c14
        have c14b1 : decide ((x3_1 ++ (⟨#[32]⟩ : ByteArray)).size + t212.size ≤ 9223372036854775807) = true := decide_eq_true c14
        try have c14b2 : (9223372036854775807 < (x3_1 ++ (⟨#[32]⟩ : ByteArray)).size + t212.size) = False := eq_false (Nat.not_lt.2 c14)
        have c14b9 : (9223372036854775807 < x3_1.size + 1 + t212.size) = False := eq_false (by have h_ := c14; simp only [ByteArray.size_append, show (⟨#[32]⟩ : ByteArray).size = 1 from rfl, show (⟨#[58]⟩ : ByteArray).size = 1 from rfl] at h_; omega)
        by_cases c15 : ((x3_1 ++ (⟨#[32]⟩ : ByteArray)) ++ t212).size + 1 ≤ 9223372036854775807
        ·rw [if_pos c15] at H
         have c15b0 := eq_true c15
         have c15b1 : decide (((x3_1 ++ (⟨#[32]⟩ : ByteArray)) ++ t212).size + 1 ≤ 9223372036854775807) = true := decide_eq_true c15
         try have c15b2 : (9223372036854775807 < ((x3_1 ++ (⟨#[32]⟩ : ByteArray)) ++ t212).size + 1) = False := eq_false (Nat.not_lt.2 c15)
         have c15b9 : (9223372036854775807 < x3_1.size + 1 + t212.size + 1) = False := eq_false (by have h_ := c15; simp only [ByteArray.size_append, show (⟨#[32]⟩ : ByteArray).size = 1 from rfl, show (⟨#[58]⟩ : ByteArray).size = 1 from rfl] at h_; omega)
         replace H := Option.bind_eq_some_iff.mp H
         obtain ⟨t214, A160, H⟩ := H
         replace H : (if (((x3_1 ++ (⟨#[32]⟩ : ByteArray)) ++ t212) ++ (⟨#[58]⟩ : ByteArray)).size + t214.size ≤ 9223372036854775807 then (spec_PkgText.l0 k1 ((((x3_1 ++ (⟨#[32]⟩ : ByteArray)) ++ t212) ++ (⟨#[58]⟩ : ByteArray)) ++ t214) (wrap64 (x4_1 + 1)) a0_0 a0_1 l0_2 l0_3) else (none)) = some r := H
         have A16 := Aside0.mk A160
         clear A160
         by_cases c17 : (((x3_1 ++ (⟨#[32]⟩ : ByteArray)) ++ t212) ++ (⟨#[58]⟩ : ByteArray)).size + t214.size ≤ 9223372036854775807
         ·rw [if_pos c17] at H
          have c17b0 := eq_true c17
          have c17b1 : decide ((((x3_1 ++ (⟨#[32]⟩ : ByteArray)) ++ t212) ++ (⟨#[58]⟩ : ByteArray)).size + t214.size ≤ 9223372036854775807) = true := decide_eq_true c17
          try have c17b2 : (9223372036854775807 < (((x3_1 ++ (⟨#[32]⟩ : ByteArray)) ++ t212) ++ (⟨#[58]⟩ : ByteArray)).size + t214.size) = False := eq_false (Nat.not_lt.2 c17)
          have c17b9 : (9223372036854775807 < x3_1.size + 1 + t212.size + 1 + t214.size) = False := eq_false (by have h_ := c17; simp only [ByteArray.size_append, show (⟨#[32]⟩ : ByteArray).size = 1 from rfl, show (⟨#[58]⟩ : ByteArray).size = 1 from rfl] at h_; omega)
          have H' := Aside0.mk H
          clear H
          obtain ⟨hcz18_0, hcz18_1, hcz18_2, hcz18_3, hfz18_0, hfz18_1, hfz18_2, hfz18_3⟩ := zc4f BK208.out
          try go_wp2
          have n0_ := Aside0.mk (blk_drew BK208.out)
          have n1_ := Aside0.mk (below_drew1 HB.out)
          clear BK208
          clear HB
          have BK208 := n0_
          have HB := n1_
          clear n0_ n1_
          have p211 : 0 ≤ (x4_1 : Int) := of_decide_eq_true (by first | (with_reducible assumption) | assumption)
          have q211 : x4_1 < (l0_2.length : Int) := of_decide_eq_true (by first | (with_reducible assumption) | assumption)
          obtain ⟨ad211, e211, hx211_0, hx211_1⟩ := at_T63 HR0_2.out x4_1 p211 q211
          have hw211_1 := hx211_1
          have hw211_0 := hx211_0
          cases e211
          replace hx211_0 := (HB.out.cell (World.block_lt_of_cell? w _ hx211_0)).trans hx211_0
          replace hx211_1 := (HB.out.cell (World.block_lt_of_cell? w _ hx211_1)).trans hx211_1
          replace p211 := eq_true p211
          replace q211 := eq_true q211
          have p213 : 0 ≤ (x4_1 : Int) := of_decide_eq_true (by first | (with_reducible assumption) | assumption)
          have q213 : x4_1 < (l0_2.length : Int) := of_decide_eq_true (by first | (with_reducible assumption) | assumption)
          obtain ⟨ad213, e213, hx213_0, hx213_1⟩ := at_T63 HR0_2.out x4_1 p213 q213
          have hw213_1 := hx213_1
          have hw213_0 := hx213_0
          obtain rfl : ad211 = ad213 := (by injection e213)
          replace hx213_0 := (HB.out.cell (World.block_lt_of_cell? w _ hx213_0)).trans hx213_0
          replace hx213_1 := (HB.out.cell (World.block_lt_of_cell? w _ hx213_1)).trans hx213_1
          replace p213 := eq_true p213
          replace q213 := eq_true q213
          refine start_ (n := 20) (S := fun w' => w'.cell? ⟨gb208, 0, none⟩ = some (.int .i64 a0_0) ∧ w'.cell? ⟨gb208, 1, none⟩ = some (.int .i64 a0_1) ∧ w'.cell? ⟨gb208, 2, none⟩ = some (.slice (some ad211) l0_2.length c0_2) ∧ w'.cell? ⟨gb208, 3, none⟩ = some (.slice A0_3 l0_3.length c0_3) ∧ w'.cell? (ad211.add ((x4_1).toNat * 2)) = some (.int .i64 ((rd_T63 l0_2 x4_1).f0)) ∧ w'.cell? ⟨(ad211.add ((x4_1).toNat * 2)).block, (ad211.add ((x4_1).toNat * 2)).off + 1, none⟩ = some (.int .i64 ((rd_T63 l0_2 x4_1).f1)) ∧ w'.cell? (ad211.add ((x4_1).toNat * 2)) = some (.int .i64 ((rd_T63 l0_2 x4_1).f0)) ∧ w'.cell? ⟨(ad211.add ((x4_1).toNat * 2)).block, (ad211.add ((x4_1).toNat * 2)).off + 1, none⟩ = some (.int .i64 ((rd_T63 l0_2 x4_1).f1))) (ds := []) #[false, false, false, false, false, false, false, false, false, false, false, false, false, false, false, false, false, false, false, false] (by kernel_rfl) rfl rfl ⟨(blk_cell BK208.out 0).trans rfl, (blk_cell BK208.out 1).trans rfl, (blk_cell BK208.out 2).trans rfl, (blk_cell BK208.out 3).trans rfl, ((HB.out.cell (World.block_lt_of_cell? w _ hw211_0)).trans hw211_0), ((HB.out.cell (World.block_lt_of_cell? w _ hw211_1)).trans hw211_1), ((HB.out.cell (World.block_lt_of_cell? w _ hw213_0)).trans hw213_0), ((HB.out.cell (World.block_lt_of_cell? w _ hw213_1)).trans hw213_1)⟩ (fun hHeld => ?_); refine with_tabW spec_PkgText.tab7 spec_PkgText.bits7 (fun HT_ HW_ => ?_)
          generalize wr.drew = w19 at BK208 HB hx211_0 hx211_1 hx213_0 hx213_1 hHeld ⊢
          refine pure_ (i := 0) (N := some 21) (v := ?_) (a' := ?_) #[true, false, false, false, false, false, false, false, false, false, false, false, false, false, false, false, false, false, false, false] rfl rfl (any_of HT_.out (by kernel_rfl)) (fun _ _ _ h => h) (Or.inl ⟨by rfl, ?_⟩) ?_ ?_
          rotate_left
          ·intro w'
           go_simp
           with_reducible rfl
          rotate_left
          ·simp only [zp0, zp1, zp2, zp3, zp4, i64_w, i32_w]
           rfl
          refine pure_ (i := 1) (N := some 22) (v := ?_) (a' := ?_) #[true, true, false, false, false, false, false, false, false, false, false, false, false, false, false, false, false, false, false, false] rfl rfl (any_of HT_.out (by kernel_rfl)) (fun _ _ _ h => h) (Or.inl ⟨by rfl, ?_⟩) ?_ ?_
          rotate_left
          ·intro w'
           go_simp
           with_reducible rfl
          rotate_left
          ·simp only [zp0, zp1, zp2, zp3, zp4, i64_w, i32_w]
           rfl
          refine pure_ (i := 2) (N := some 23) (v := ?_) (a' := ?_) #[true, true, true, false, false, false, false, false, false, false, false, false, false, false, false, false, false, false, false, false] rfl rfl (any_of HT_.out (by kernel_rfl)) (fun _ _ _ h => h) (Or.inl ⟨by rfl, ?_⟩) ?_ ?_
          rotate_left
          ·intro w'
           go_simp
           with_reducible rfl
          rotate_left
          ·simp only [zp0, zp1, zp2, zp3, zp4, i64_w, i32_w]
           rfl
          refine pure_ (i := 4) (N := some 25) (v := ?_) (a' := ?_) #[true, true, true, false, true, false, false, false, false, false, false, false, false, false, false, false, false, false, false, false] rfl rfl (any_of HT_.out (by kernel_rfl)) (fun _ _ _ h => h) (Or.inl ⟨by rfl, ?_⟩) ?_ ?_
          rotate_left
          ·intro w'
           go_simp
           with_reducible rfl
          rotate_left
          ·simp only [zp0, zp1, zp2, zp3, zp4, i64_w, i32_w]
           rfl
          refine pure_ (i := 11) (N := some 32) (v := ?_) (a' := ?_) #[true, true, true, false, true, false, false, false, false, false, false, true, false, false, false, false, false, false, false, false] rfl rfl (any_of HT_.out (by kernel_rfl)) (fun _ _ _ h => h) (Or.inl ⟨by rfl, ?_⟩) ?_ ?_
          rotate_left
          ·intro w'
           go_simp
           with_reducible rfl
          rotate_left
          ·simp only [zp0, zp1, zp2, zp3, zp4, i64_w, i32_w]
           rfl
          refine pure_ (i := 13) (N := some 34) (v := ?_) (a' := ?_) #[true, true, true, false, true, false, false, false, false, false, false, true, false, true, false, false, false, false, false, false] rfl rfl (any_of HT_.out (by kernel_rfl)) (fun _ _ _ h => h) (Or.inl ⟨by rfl, ?_⟩) ?_ ?_
          rotate_left
          ·intro w'
           go_simp
           with_reducible rfl
          rotate_left
          ·simp only [zp0, zp1, zp2, zp3, zp4, i64_w, i32_w]
           rfl
          refine take_ (i := 3) (N := some 24) (v := ?_) (a' := ?_) #[true, true, true, true, true, false, false, false, false, false, false, true, false, true, false, false, false, false, false, false] rfl rfl (take_ofW HT_.out HW_.out (by kernel_rfl)) (fun _ _ _ h => h) (Or.inl ⟨by rfl, ?_⟩) hHeld ?_ ?_
          rotate_left
          ·rintro w' ⟨s0, s1, s2, s3, s4, s5, s6, s7⟩
           go_simp
           with_reducible rfl
          rotate_left
          ·simp only [zp0, zp1, zp2, zp3, zp4, i64_w, i32_w]
           rfl
          refine pure_ (i := 5) (N := some 26) (v := ?_) (a' := ?_) #[true, true, true, true, true, true, false, false, false, false, false, true, false, true, false, false, false, false, false, false] rfl rfl (any_of HT_.out (by kernel_rfl)) (fun _ _ _ h => h) (Or.inl ⟨by rfl, ?_⟩) ?_ ?_
          rotate_left
          ·intro w'
           go_simp
           with_reducible rfl
          rotate_left
          ·simp only [zp0, zp1, zp2, zp3, zp4, i64_w, i32_w]
           rfl
          refine pure_ (i := 6) (N := some 27) (v := ?_) (a' := ?_) #[true, true, true, true, true, true, true, false, false, false, false, true, false, true, false, false, false, false, false, false] rfl rfl (any_of HT_.out (by kernel_rfl)) (fun _ _ _ h => h) (Or.inl ⟨by rfl, ?_⟩) ?_ ?_
          rotate_left
          ·intro w'
           go_simp
           with_reducible rfl
          rotate_left
          ·simp only [zp0, zp1, zp2, zp3, zp4, i64_w, i32_w]
           rfl
          refine take_ (i := 7) (N := some 28) (v := ?_) (a' := ?_) #[true, true, true, true, true, true, true, true, false, false, false, true, false, true, false, false, false, false, false, false] rfl rfl (take_ofW HT_.out HW_.out (by kernel_rfl)) (fun _ _ _ h => h) (Or.inl ⟨by rfl, ?_⟩) hHeld ?_ ?_
          rotate_left
          ·rintro w' ⟨s0, s1, s2, s3, s4, s5, s6, s7⟩
           go_simp
           with_reducible rfl
          rotate_left
          ·simp only [zp0, zp1, zp2, zp3, zp4, i64_w, i32_w]
           rfl
          refine take_ (i := 12) (N := some 33) (v := ?_) (a' := ?_) #[true, true, true, true, true, true, true, true, false, false, false, true, true, true, false, false, false, false, false, false] rfl rfl (take_ofW HT_.out HW_.out (by kernel_rfl)) (fun _ _ _ h => h) (Or.inl ⟨by rfl, ?_⟩) hHeld ?_ ?_
          rotate_left
          ·rintro w' ⟨s0, s1, s2, s3, s4, s5, s6, s7⟩
           go_simp
           with_reducible rfl
          rotate_left
          ·simp only [zp0, zp1, zp2, zp3, zp4, i64_w, i32_w]
           rfl
          refine pure_ (i := 14) (N := some 35) (v := ?_) (a' := ?_) #[true, true, true, true, true, true, true, true, false, false, false, true, true, true, true, false, false, false, false, false] rfl rfl (any_of HT_.out (by kernel_rfl)) (fun _ _ _ h => h) (Or.inl ⟨by rfl, ?_⟩) ?_ ?_
          rotate_left
          ·intro w'
           go_simp
           with_reducible rfl
          rotate_left
          ·simp only [zp0, zp1, zp2, zp3, zp4, i64_w, i32_w]
           rfl
          refine pure_ (i := 15) (N := some 36) (v := ?_) (a' := ?_) #[true, true, true, true, true, true, true, true, false, false, false, true, true, true, true, true, false, false, false, false] rfl rfl (any_of HT_.out (by kernel_rfl)) (fun _ _ _ h => h) (Or.inl ⟨by rfl, ?_⟩) ?_ ?_
          rotate_left
          ·intro w'
           go_simp
           with_reducible rfl
          rotate_left
          ·simp only [zp0, zp1, zp2, zp3, zp4, i64_w, i32_w]
           rfl
          refine take_ (i := 16) (N := some 37) (v := ?_) (a' := ?_) #[true, true, true, true, true, true, true, true, false, false, false, true, true, true, true, true, true, false, false, false] rfl rfl (take_ofW HT_.out HW_.out (by kernel_rfl)) (fun _ _ _ h => h) (Or.inl ⟨by rfl, ?_⟩) hHeld ?_ ?_
          rotate_left
          ·rintro w' ⟨s0, s1, s2, s3, s4, s5, s6, s7⟩
           go_simp
           with_reducible rfl
          rotate_left
          ·simp only [zp0, zp1, zp2, zp3, zp4, i64_w, i32_w]
           rfl
          refine one_ (i := 8) (N := some 29) #[true, true, true, true, true, true, true, true, true, false, false, true, true, true, true, true, true, false, false, false] rfl rfl (one_of HT_.out (by kernel_rfl)) (by decide) (fun K hK => ?_)
          refine goes_ Tryd.func31 (by kernel_rfl) rfl #[.int .i64 ((rd_T63 l0_2 x4_1).f0)] (by rfl) rfl rfl (by (try simp only [zm1, zm2, zm3]); first | done | rfl | (simp only [List.length_drop, List.length_take]; rfl)) ?_
          with_reducible refine (spec_l6Dec.calls k1 ((rd_T63 l0_2 x4_1).f0) t212 _ A13.out).mono ?_
          rintro e w20 ⟨rfl, hb⟩
          refine ⟨_, rfl, ?_⟩
          have n0_ := Aside0.mk (blk_below (g := gb208) (o := .cells #[.int .i64 a0_0, .int .i64 a0_1, .slice (some ad211) l0_2.length c0_2, .slice A0_3 l0_3.length c0_3] 26 (0, 0)) (by exact zK BK208.out) hb)
          have n1_ := Aside0.mk (below_step (by exact zB1 HB.out GE208.out) hb)
          clear BK208
          clear HB
          have BK208 := n0_
          have HB := n1_
          clear n0_ n1_
          (try clear hb)
          (try clear hb2)
          (try clear hk)
          (try clear hi)
          refine hK.out _ _ ⟨(blk_cell BK208.out 0).trans rfl, (blk_cell BK208.out 1).trans rfl, (blk_cell BK208.out 2).trans rfl, (blk_cell BK208.out 3).trans rfl, ((HB.out.cell (World.block_lt_of_cell? w _ hw211_0)).trans hw211_0), ((HB.out.cell (World.block_lt_of_cell? w _ hw211_1)).trans hw211_1), ((HB.out.cell (World.block_lt_of_cell? w _ hw213_0)).trans hw213_0), ((HB.out.cell (World.block_lt_of_cell? w _ hw213_1)).trans hw213_1)⟩ (fun hHeld => ?_)
          clear hK K
          refine norm_ (a' := ?_) ?_ ?_
          rotate_left
          ·show Act.put _ (some 29) _ = _
           simp only [zp0, zp1, zp2, zp3, zp4, i64_w, i32_w]
           rfl
          refine pure_ (i := 9) (N := some 30) (v := ?_) (a' := ?_) #[true, true, true, true, true, true, true, true, true, true, false, true, true, true, true, true, true, false, false, false] rfl rfl (any_of HT_.out (by kernel_rfl)) (fun _ _ _ h => h) (Or.inl ⟨by rfl, ?_⟩) ?_ ?_
          rotate_left
          ·intro w'
           go_simp
           with_reducible rfl
          rotate_left
          ·simp only [zp0, zp1, zp2, zp3, zp4, i64_w, i32_w]
           rfl
          refine pure_ (i := 10) (N := some 31) (v := ?_) (a' := ?_) #[true, true, true, true, true, true, true, true, true, true, true, true, true, true, true, true, true, false, false, false] rfl rfl (any_of HT_.out (by kernel_rfl)) (fun _ _ _ h => h) (Or.inl ⟨by rfl, ?_⟩) ?_ ?_
          rotate_left
          ·intro w'
           go_simp
           with_reducible rfl
          rotate_left
          ·simp only [zp0, zp1, zp2, zp3, zp4, i64_w, i32_w]
           rfl
          refine one_ (i := 17) (N := some 38) #[true, true, true, true, true, true, true, true, true, true, true, true, true, true, true, true, true, true, false, false] rfl rfl (one_of HT_.out (by kernel_rfl)) (by decide) (fun K hK => ?_)
          refine goes_ Tryd.func31 (by kernel_rfl) rfl #[.int .i64 ((rd_T63 l0_2 x4_1).f1)] (by rfl) rfl rfl (by (try simp only [zm1, zm2, zm3]); first | done | rfl | (simp only [List.length_drop, List.length_take]; rfl)) ?_
          with_reducible refine (spec_l6Dec.calls k1 ((rd_T63 l0_2 x4_1).f1) t214 _ A16.out).mono ?_
          rintro e w21 ⟨rfl, hb⟩
          refine ⟨_, rfl, ?_⟩
          have n0_ := Aside0.mk (blk_below (g := gb208) (o := .cells #[.int .i64 a0_0, .int .i64 a0_1, .slice (some ad211) l0_2.length c0_2, .slice A0_3 l0_3.length c0_3] 26 (0, 0)) (by exact zK BK208.out) hb)
          have n1_ := Aside0.mk (below_step (by exact zB1 HB.out GE208.out) hb)
          clear BK208
          clear HB
          have BK208 := n0_
          have HB := n1_
          clear n0_ n1_
          (try clear hb)
          (try clear hb2)
          (try clear hk)
          (try clear hi)
          refine hK.out _ _ ⟨(blk_cell BK208.out 0).trans rfl, (blk_cell BK208.out 1).trans rfl, (blk_cell BK208.out 2).trans rfl, (blk_cell BK208.out 3).trans rfl, ((HB.out.cell (World.block_lt_of_cell? w _ hw211_0)).trans hw211_0), ((HB.out.cell (World.block_lt_of_cell? w _ hw211_1)).trans hw211_1), ((HB.out.cell (World.block_lt_of_cell? w _ hw213_0)).trans hw213_0), ((HB.out.cell (World.block_lt_of_cell? w _ hw213_1)).trans hw213_1)⟩ (fun hHeld => ?_)
          clear hK K
          refine norm_ (a' := ?_) ?_ ?_
          rotate_left
          ·show Act.put _ (some 38) _ = _
           simp only [zp0, zp1, zp2, zp3, zp4, i64_w, i32_w]
           rfl
          refine pure_ (i := 18) (N := some 39) (v := ?_) (a' := ?_) #[true, true, true, true, true, true, true, true, true, true, true, true, true, true, true, true, true, true, true, false] rfl rfl (any_of HT_.out (by kernel_rfl)) (fun _ _ _ h => h) (Or.inl ⟨by rfl, ?_⟩) ?_ ?_
          rotate_left
          ·intro w'
           go_simp
           with_reducible rfl
          rotate_left
          ·simp only [zp0, zp1, zp2, zp3, zp4, i64_w, i32_w]
           rfl
          refine pure_ (i := 19) (N := some 3) (v := ?_) (a' := ?_) #[true, true, true, true, true, true, true, true, true, true, true, true, true, true, true, true, true, true, true, true] rfl rfl (any_of HT_.out (by kernel_rfl)) (fun _ _ _ h => h) (Or.inl ⟨by rfl, ?_⟩) ?_ ?_
          rotate_left
          ·intro w'
           go_simp
           with_reducible rfl
          rotate_left
          ·simp only [zp0, zp1, zp2, zp3, zp4, i64_w, i32_w]
           rfl
          refine done_ (done_of HT_.out (by kernel_rfl)) ?_
          try go_wp2
          go_roundg k1
          case measure => have := HK1.out; omega
          case rel => exact ⟨((((x3_1 ++ (⟨#[32]⟩ : ByteArray)) ++ t212) ++ (⟨#[58]⟩ : ByteArray)) ++ t214), (wrap64 (x4_1 + 1)), (by first | rfl | (simp; done) | (simp [*]; done)), (by first | rfl | (simp; done) | (simp [*]; done)), H', ⟨by have := HK1.out; omega⟩, ⟨by exact zK BK208.out⟩, ⟨by exact zB1 HB.out GE208.out⟩⟩
         ·rw [if_neg c17] at H
          exact absurd H (by simp)
        ·rw [if_neg c15] at H
         exact absurd H (by simp)
       ·rw [if_neg c14] at H
        exact absurd H (by simp)
      ·rw [if_neg c12] at H
       exact absurd H (by simp)
     ·rw [if_neg c11] at H
      exact absurd H (by simp)
    ·rw [if_neg c10] at H
     have c10b0 : decide (x4_1 < (l0_2.length : Int)) = false := decide_eq_false c10
     clear c10
     have H' := Aside0.mk H
     clear H
     obtain ⟨hcz22_0, hcz22_1, hcz22_2, hcz22_3, hfz22_0, hfz22_1, hfz22_2, hfz22_3⟩ := zc4f BK208.out
     go_wp2
     go_loopg [3, 5] k1 (fun kq v3 v5 w' => ∃ (x3_2 : ByteArray) (x5_2 : Int), v3 = .string x3_2 ∧ v5 = .int .i64 x5_2 ∧ Aside0 (spec_PkgText.l1 kq x3_2 x5_2 a0_0 a0_1 l0_2 l0_3 = some r) ∧ Aside0 (kq ≤ k1) ∧ Aside0 (w'.heap[gb208]? = some (.cells #[.int .i64 a0_0, .int .i64 a0_1, (.slice A0_2 l0_2.length c0_2), (.slice A0_3 l0_3.length c0_3)] 26 (0, 0))) ∧ Aside0 (Below w.heap.size w w'))
     case atStart => exact ⟨(x3_1), (0), (by first | rfl | (simp; done) | (simp [*]; done)), (by first | rfl | (simp; done) | (simp [*]; done)), H', ⟨Nat.le_refl _⟩, ⟨by exact zK BK208.out⟩, ⟨by exact zB1 HB.out GE208.out⟩⟩
     case round =>
      clear H'
      try clear c1
      try clear c2
      try clear p2
      try clear q2
      try clear hx2
      try clear c3
      try clear p6
      try clear c10
      try clear c10b0
      try clear c11
      try clear c11b0
      try clear c11b1
      try clear c11b2
      try clear c12
      try clear c12b0
      try clear c14
      try clear c14b0
      try clear c14b1
      try clear c14b2
      try clear c15
      try clear c15b0
      try clear c15b1
      try clear c15b2
      try clear c17
      try clear c17b0
      try clear c17b1
      try clear c17b2
      try clear p21
      try clear q21
      try clear hx21
      try clear hcz18_0
      try clear hcz18_1
      try clear hcz18_2
      try clear hcz18_3
      try clear hcz22_0
      try clear hcz22_1
      try clear hcz22_2
      try clear hcz22_3
      try clear hcz6_0
      try clear hcz6_1
      try clear hcz6_2
      try clear hcz6_3
      try clear hcz8_0
      try clear hcz8_1
      try clear hcz8_2
      try clear hcz8_3
      try clear hfz18_0
      try clear hfz18_1
      try clear hfz18_2
      try clear hfz18_3
      try clear hfz22_0
      try clear hfz22_1
      try clear hfz22_2
      try clear hfz22_3
      try clear hfz6_0
      try clear hfz6_1
      try clear hfz6_2
      try clear hfz6_3
      try clear hfz8_0
      try clear hfz8_1
      try clear hfz8_2
      try clear hfz8_3
      try clear hx211_0
      try clear hx211_1
      try clear hx213_0
      try clear hx213_1
      try clear p2
      try clear p211
      try clear p213
      try clear q211
      try clear q213
      obtain ⟨x3_2, x5_2, rfl, rfl, HA, HK2, BK208, HB⟩ := hrel
      cases gk with
      | zero => exact absurd HA.out (by simp [spec_PkgText.l1])
      | succ k2 =>
       have H := HA.out
       clear HA
       simp only [spec_PkgText.l1] at H
       by_cases c23 : x5_2 < (l0_3.length : Int)
       ·rw [if_pos c23] at H
        have c23b0 : decide (x5_2 < (l0_3.length : Int)) = true := decide_eq_true c23
        clear c23
        by_cases c24 : x3_2.size + 1 ≤ 9223372036854775807
        ·rw [if_pos c24] at H
         have c24b0 := eq_true c24
         have c24b1 : decide (x3_2.size + 1 ≤ 9223372036854775807) = true := decide_eq_true c24
         try have c24b2 : (9223372036854775807 < x3_2.size + 1) = False := eq_false (Nat.not_lt.2 c24)
         by_cases c25 : 0 ≤ x5_2
         ·rw [if_pos c25] at H
          have c25b0 : decide (0 ≤ x5_2) = true := decide_eq_true c25
          clear c25
          replace H := Option.bind_eq_some_iff.mp H
          obtain ⟨t217, A260, H⟩ := H
          replace H : (if (x3_2 ++ (⟨#[32]⟩ : ByteArray)).size + t217.size ≤ 9223372036854775807 then (spec_PkgText.l1 k2 ((x3_2 ++ (⟨#[32]⟩ : ByteArray)) ++ t217) (wrap64 (x5_2 + 1)) a0_0 a0_1 l0_2 l0_3) else (none)) = some r := H
          have A26 := Aside0.mk A260
          clear A260
          by_cases c27 : (x3_2 ++ (⟨#[32]⟩ : ByteArray)).size + t217.size ≤ 9223372036854775807
          ·rw [if_pos c27] at H
           have c27b0 := eq_true c27
           have c27b1 : decide ((x3_2 ++ (⟨#[32]⟩ : ByteArray)).size + t217.size ≤ 9223372036854775807) = true := decide_eq_true c27
           try have c27b2 : (9223372036854775807 < (x3_2 ++ (⟨#[32]⟩ : ByteArray)).size + t217.size) = False := eq_false (Nat.not_lt.2 c27)
           have c27b9 : (9223372036854775807 < x3_2.size + 1 + t217.size) = False := eq_false (by have h_ := c27; simp only [ByteArray.size_append, show (⟨#[32]⟩ : ByteArray).size = 1 from rfl, show (⟨#[58]⟩ : ByteArray).size = 1 from rfl] at h_; omega)
           have H' := Aside0.mk H
           clear H
           obtain ⟨hcz28_0, hcz28_1, hcz28_2, hcz28_3, hfz28_0, hfz28_1, hfz28_2, hfz28_3⟩ := zc4f BK208.out
           try go_wp2
           have n0_ := Aside0.mk (blk_drew BK208.out)
           have n1_ := Aside0.mk (below_drew1 HB.out)
           clear BK208
           clear HB
           have BK208 := n0_
           have HB := n1_
           clear n0_ n1_
           have p215 : 0 ≤ (x5_2 : Int) := of_decide_eq_true (by first | (with_reducible assumption) | assumption)
           have q215 : x5_2 < (l0_3.length : Int) := of_decide_eq_true (by first | (with_reducible assumption) | assumption)
           obtain ⟨ad215, e215, hx215_0, hx215_1⟩ := at_T66 HR0_3.out x5_2 p215 q215
           have hw215_1 := hx215_1
           have hw215_0 := hx215_0
           cases e215
           replace hx215_0 := (HB.out.cell (World.block_lt_of_cell? w _ hx215_0)).trans hx215_0
           replace hx215_1 := (HB.out.cell (World.block_lt_of_cell? w _ hx215_1)).trans hx215_1
           replace p215 := eq_true p215
           replace q215 := eq_true q215
           have p216 : 0 ≤ (x5_2 : Int) := of_decide_eq_true (by first | (with_reducible assumption) | assumption)
           have q216 : x5_2 < (l0_3.length : Int) := of_decide_eq_true (by first | (with_reducible assumption) | assumption)
           obtain ⟨ad216, e216, hx216_0, hx216_1⟩ := at_T66 HR0_3.out x5_2 p216 q216
           have hw216_1 := hx216_1
           have hw216_0 := hx216_0
           obtain rfl : ad215 = ad216 := (by injection e216)
           replace hx216_0 := (HB.out.cell (World.block_lt_of_cell? w _ hx216_0)).trans hx216_0
           replace hx216_1 := (HB.out.cell (World.block_lt_of_cell? w _ hx216_1)).trans hx216_1
           replace p216 := eq_true p216
           replace q216 := eq_true q216
           refine start_ (n := 17) (S := fun w' => w'.cell? ⟨gb208, 0, none⟩ = some (.int .i64 a0_0) ∧ w'.cell? ⟨gb208, 1, none⟩ = some (.int .i64 a0_1) ∧ w'.cell? ⟨gb208, 2, none⟩ = some (.slice A0_2 l0_2.length c0_2) ∧ w'.cell? ⟨gb208, 3, none⟩ = some (.slice (some ad215) l0_3.length c0_3) ∧ w'.cell? (ad215.add ((x5_2).toNat * 2)) = some (.int .i64 ((rd_T66 l0_3 x5_2).f0)) ∧ w'.cell? ⟨(ad215.add ((x5_2).toNat * 2)).block, (ad215.add ((x5_2).toNat * 2)).off + 1, none⟩ = some (.int .i64 ((rd_T66 l0_3 x5_2).f1)) ∧ w'.cell? (ad215.add ((x5_2).toNat * 2)) = some (.int .i64 ((rd_T66 l0_3 x5_2).f0)) ∧ w'.cell? ⟨(ad215.add ((x5_2).toNat * 2)).block, (ad215.add ((x5_2).toNat * 2)).off + 1, none⟩ = some (.int .i64 ((rd_T66 l0_3 x5_2).f1))) (ds := []) #[false, false, false, false, false, false, false, false, false, false, false, false, false, false, false, false, false] (by kernel_rfl) rfl rfl ⟨(blk_cell BK208.out 0).trans rfl, (blk_cell BK208.out 1).trans rfl, (blk_cell BK208.out 2).trans rfl, (blk_cell BK208.out 3).trans rfl, ((HB.out.cell (World.block_lt_of_cell? w _ hw215_0)).trans hw215_0), ((HB.out.cell (World.block_lt_of_cell? w _ hw215_1)).trans hw215_1), ((HB.out.cell (World.block_lt_of_cell? w _ hw216_0)).trans hw216_0), ((HB.out.cell (World.block_lt_of_cell? w _ hw216_1)).trans hw216_1)⟩ (fun hHeld => ?_); refine with_tabW spec_PkgText.tab11 spec_PkgText.bits11 (fun HT_ HW_ => ?_)
           generalize wr.drew = w29 at BK208 HB hx215_0 hx215_1 hx216_0 hx216_1 hHeld ⊢
           refine pure_ (i := 0) (N := some 47) (v := ?_) (a' := ?_) #[true, false, false, false, false, false, false, false, false, false, false, false, false, false, false, false, false] rfl rfl (any_of HT_.out (by kernel_rfl)) (fun _ _ _ h => h) (Or.inl ⟨by rfl, ?_⟩) ?_ ?_
           rotate_left
           ·intro w'
            go_simp
            with_reducible rfl
           rotate_left
           ·simp only [zp0, zp1, zp2, zp3, zp4, i64_w, i32_w]
            rfl
           refine pure_ (i := 1) (N := some 48) (v := ?_) (a' := ?_) #[true, true, false, false, false, false, false, false, false, false, false, false, false, false, false, false, false] rfl rfl (any_of HT_.out (by kernel_rfl)) (fun _ _ _ h => h) (Or.inl ⟨by rfl, ?_⟩) ?_ ?_
           rotate_left
           ·intro w'
            go_simp
            with_reducible rfl
           rotate_left
           ·simp only [zp0, zp1, zp2, zp3, zp4, i64_w, i32_w]
            rfl
           refine pure_ (i := 2) (N := some 49) (v := ?_) (a' := ?_) #[true, true, true, false, false, false, false, false, false, false, false, false, false, false, false, false, false] rfl rfl (any_of HT_.out (by kernel_rfl)) (fun _ _ _ h => h) (Or.inl ⟨by rfl, ?_⟩) ?_ ?_
           rotate_left
           ·intro w'
            go_simp
            with_reducible rfl
           rotate_left
           ·simp only [zp0, zp1, zp2, zp3, zp4, i64_w, i32_w]
            rfl
           refine pure_ (i := 4) (N := some 51) (v := ?_) (a' := ?_) #[true, true, true, false, true, false, false, false, false, false, false, false, false, false, false, false, false] rfl rfl (any_of HT_.out (by kernel_rfl)) (fun _ _ _ h => h) (Or.inl ⟨by rfl, ?_⟩) ?_ ?_
           rotate_left
           ·intro w'
            go_simp
            with_reducible rfl
           rotate_left
           ·simp only [zp0, zp1, zp2, zp3, zp4, i64_w, i32_w]
            rfl
           refine pure_ (i := 8) (N := some 55) (v := ?_) (a' := ?_) #[true, true, true, false, true, false, false, false, true, false, false, false, false, false, false, false, false] rfl rfl (any_of HT_.out (by kernel_rfl)) (fun _ _ _ h => h) (Or.inl ⟨by rfl, ?_⟩) ?_ ?_
           rotate_left
           ·intro w'
            go_simp
            with_reducible rfl
           rotate_left
           ·simp only [zp0, zp1, zp2, zp3, zp4, i64_w, i32_w]
            rfl
           refine pure_ (i := 10) (N := some 57) (v := ?_) (a' := ?_) #[true, true, true, false, true, false, false, false, true, false, true, false, false, false, false, false, false] rfl rfl (any_of HT_.out (by kernel_rfl)) (fun _ _ _ h => h) (Or.inl ⟨by rfl, ?_⟩) ?_ ?_
           rotate_left
           ·intro w'
            go_simp
            with_reducible rfl
           rotate_left
           ·simp only [zp0, zp1, zp2, zp3, zp4, i64_w, i32_w]
            rfl
           refine take_ (i := 3) (N := some 50) (v := ?_) (a' := ?_) #[true, true, true, true, true, false, false, false, true, false, true, false, false, false, false, false, false] rfl rfl (take_ofW HT_.out HW_.out (by kernel_rfl)) (fun _ _ _ h => h) (Or.inl ⟨by rfl, ?_⟩) hHeld ?_ ?_
           rotate_left
           ·rintro w' ⟨s0, s1, s2, s3, s4, s5, s6, s7⟩
            go_simp
            with_reducible rfl
           rotate_left
           ·simp only [zp0, zp1, zp2, zp3, zp4, i64_w, i32_w]
            rfl
           refine pure_ (i := 5) (N := some 52) (v := ?_) (a' := ?_) #[true, true, true, true, true, true, false, false, true, false, true, false, false, false, false, false, false] rfl rfl (any_of HT_.out (by kernel_rfl)) (fun _ _ _ h => h) (Or.inl ⟨by rfl, ?_⟩) ?_ ?_
           rotate_left
           ·intro w'
            go_simp
            with_reducible rfl
           rotate_left
           ·simp only [zp0, zp1, zp2, zp3, zp4, i64_w, i32_w]
            rfl
           refine pure_ (i := 6) (N := some 53) (v := ?_) (a' := ?_) #[true, true, true, true, true, true, true, false, true, false, true, false, false, false, false, false, false] rfl rfl (any_of HT_.out (by kernel_rfl)) (fun _ _ _ h => h) (Or.inl ⟨by rfl, ?_⟩) ?_ ?_
           rotate_left
           ·intro w'
            go_simp
            with_reducible rfl
           rotate_left
           ·simp only [zp0, zp1, zp2, zp3, zp4, i64_w, i32_w]
            rfl
           refine take_ (i := 7) (N := some 54) (v := ?_) (a' := ?_) #[true, true, true, true, true, true, true, true, true, false, true, false, false, false, false, false, false] rfl rfl (take_ofW HT_.out HW_.out (by kernel_rfl)) (fun _ _ _ h => h) (Or.inl ⟨by rfl, ?_⟩) hHeld ?_ ?_
           rotate_left
           ·rintro w' ⟨s0, s1, s2, s3, s4, s5, s6, s7⟩
            go_simp
            with_reducible rfl
           rotate_left
           ·simp only [zp0, zp1, zp2, zp3, zp4, i64_w, i32_w]
            rfl
           refine take_ (i := 9) (N := some 56) (v := ?_) (a' := ?_) #[true, true, true, true, true, true, true, true, true, true, true, false, false, false, false, false, false] rfl rfl (take_ofW HT_.out HW_.out (by kernel_rfl)) (fun _ _ _ h => h) (Or.inl ⟨by rfl, ?_⟩) hHeld ?_ ?_
           rotate_left
           ·rintro w' ⟨s0, s1, s2, s3, s4, s5, s6, s7⟩
            go_simp
            with_reducible rfl
           rotate_left
           ·simp only [zp0, zp1, zp2, zp3, zp4, i64_w, i32_w]
            rfl
           refine pure_ (i := 11) (N := some 58) (v := ?_) (a' := ?_) #[true, true, true, true, true, true, true, true, true, true, true, true, false, false, false, false, false] rfl rfl (any_of HT_.out (by kernel_rfl)) (fun _ _ _ h => h) (Or.inl ⟨by rfl, ?_⟩) ?_ ?_
           rotate_left
           ·intro w'
            go_simp
            with_reducible rfl
           rotate_left
           ·simp only [zp0, zp1, zp2, zp3, zp4, i64_w, i32_w]
            rfl
           refine pure_ (i := 12) (N := some 59) (v := ?_) (a' := ?_) #[true, true, true, true, true, true, true, true, true, true, true, true, true, false, false, false, false] rfl rfl (any_of HT_.out (by kernel_rfl)) (fun _ _ _ h => h) (Or.inl ⟨by rfl, ?_⟩) ?_ ?_
           rotate_left
           ·intro w'
            go_simp
            with_reducible rfl
           rotate_left
           ·simp only [zp0, zp1, zp2, zp3, zp4, i64_w, i32_w]
            rfl
           refine take_ (i := 13) (N := some 60) (v := ?_) (a' := ?_) #[true, true, true, true, true, true, true, true, true, true, true, true, true, true, false, false, false] rfl rfl (take_ofW HT_.out HW_.out (by kernel_rfl)) (fun _ _ _ h => h) (Or.inl ⟨by rfl, ?_⟩) hHeld ?_ ?_
           rotate_left
           ·rintro w' ⟨s0, s1, s2, s3, s4, s5, s6, s7⟩
            go_simp
            with_reducible rfl
           rotate_left
           ·simp only [zp0, zp1, zp2, zp3, zp4, i64_w, i32_w]
            rfl
           refine one_ (i := 14) (N := some 61) #[true, true, true, true, true, true, true, true, true, true, true, true, true, true, true, false, false] rfl rfl (one_of HT_.out (by kernel_rfl)) (by decide) (fun K hK => ?_)
           refine goes_ Tryd.func30 (by kernel_rfl) rfl #[.int .i64 ((rd_T66 l0_3 x5_2).f0), .int .i64 ((rd_T66 l0_3 x5_2).f1)] (by rfl) rfl rfl (by (try simp only [zm1, zm2, zm3]); first | done | rfl | (simp only [List.length_drop, List.length_take]; rfl)) ?_
           with_reducible refine (spec_l1Name.calls k2 ((rd_T66 l0_3 x5_2).f0) ((rd_T66 l0_3 x5_2).f1) t217 _ A26.out).mono ?_
           rintro e w30 ⟨rfl, hb⟩
           refine ⟨_, rfl, ?_⟩
           have n0_ := Aside0.mk (blk_below (g := gb208) (o := .cells #[.int .i64 a0_0, .int .i64 a0_1, .slice A0_2 l0_2.length c0_2, .slice (some ad215) l0_3.length c0_3] 26 (0, 0)) (by exact zK BK208.out) hb)
           have n1_ := Aside0.mk (below_step (by exact zB1 HB.out GE208.out) hb)
           clear BK208
           clear HB
           have BK208 := n0_
           have HB := n1_
           clear n0_ n1_
           (try clear hb)
           (try clear hb2)
           (try clear hk)
           (try clear hi)
           refine hK.out _ _ ⟨(blk_cell BK208.out 0).trans rfl, (blk_cell BK208.out 1).trans rfl, (blk_cell BK208.out 2).trans rfl, (blk_cell BK208.out 3).trans rfl, ((HB.out.cell (World.block_lt_of_cell? w _ hw215_0)).trans hw215_0), ((HB.out.cell (World.block_lt_of_cell? w _ hw215_1)).trans hw215_1), ((HB.out.cell (World.block_lt_of_cell? w _ hw216_0)).trans hw216_0), ((HB.out.cell (World.block_lt_of_cell? w _ hw216_1)).trans hw216_1)⟩ (fun hHeld => ?_)
           clear hK K
           refine norm_ (a' := ?_) ?_ ?_
           rotate_left
           ·show Act.put _ (some 61) _ = _
            simp only [zp0, zp1, zp2, zp3, zp4, i64_w, i32_w]
            rfl
           refine pure_ (i := 15) (N := some 62) (v := ?_) (a' := ?_) #[true, true, true, true, true, true, true, true, true, true, true, true, true, true, true, true, false] rfl rfl (any_of HT_.out (by kernel_rfl)) (fun _ _ _ h => h) (Or.inl ⟨by rfl, ?_⟩) ?_ ?_
           rotate_left
           ·intro w'
            go_simp
            with_reducible rfl
           rotate_left
           ·simp only [zp0, zp1, zp2, zp3, zp4, i64_w, i32_w]
            rfl
           refine pure_ (i := 16) (N := some 3) (v := ?_) (a' := ?_) #[true, true, true, true, true, true, true, true, true, true, true, true, true, true, true, true, true] rfl rfl (any_of HT_.out (by kernel_rfl)) (fun _ _ _ h => h) (Or.inl ⟨by rfl, ?_⟩) ?_ ?_
           rotate_left
           ·intro w'
            go_simp
            with_reducible rfl
           rotate_left
           ·simp only [zp0, zp1, zp2, zp3, zp4, i64_w, i32_w]
            rfl
           refine done_ (done_of HT_.out (by kernel_rfl)) ?_
           try go_wp2
           go_roundg k2
           case measure => have := HK1.out; have := HK2.out; omega
           case rel => exact ⟨((x3_2 ++ (⟨#[32]⟩ : ByteArray)) ++ t217), (wrap64 (x5_2 + 1)), (by first | rfl | (simp; done) | (simp [*]; done)), (by first | rfl | (simp; done) | (simp [*]; done)), H', ⟨by have := HK1.out; have := HK2.out; omega⟩, ⟨by exact zK BK208.out⟩, ⟨by exact zB1 HB.out GE208.out⟩⟩
          ·rw [if_neg c27] at H
           exact absurd H (by simp)
         ·rw [if_neg c25] at H
          exact absurd H (by simp)
        ·rw [if_neg c24] at H
         exact absurd H (by simp)
       ·rw [if_neg c23] at H
        have c23b0 : decide (x5_2 < (l0_3.length : Int)) = false := decide_eq_false c23
        clear c23
        obtain rfl := Option.some.inj H
        obtain ⟨hcz31_0, hcz31_1, hcz31_2, hcz31_3, hfz31_0, hfz31_1, hfz31_2, hfz31_3⟩ := zc4f BK208.out
        go_wp2
        go_ret
        exact ⟨by first | rfl | (simp [errW_none, errW_some] <;> rfl) | (simp [*, errW_none, errW_some] <;> rfl), by exact zB1 HB.out GE208.out⟩
 ·replace c3 := Bool.eq_false_iff.mpr c3
  subst c3
  have H1 : (some (⟨#[]⟩ : ByteArray)) = some r := by rw [if_neg (show ¬ (false = true) by decide)] at H; exact H
  clear H
  have H := H1
  clear H1
  obtain rfl := Option.some.inj H
  go_enter Tryd.func10, Tryd.ntmps10
  go_wp2_with (first | ((with_reducible refine gate_dst (N := 1) rfl ?_); refine box_event ?hg (N := 1) ?hd (cs := #[.int .i64 a0_0, .int .i64 a0_1, .slice A0_2 l0_2.length c0_2, .slice A0_3 l0_3.length c0_3]) (t := 26) ?hr ?_; (case hd => rfl); (case hg => rfl); (case hr => first | (go_simp; done) | (go_simp; rfl)); intro gb208 hg w32 hbox hb; have n0_ := Aside0.mk (below_step (by exact zB HB.out) hb); have n1_ := Aside0.mk (hbox); have n2_ := Aside0.mk ((by rw [hg]; exact (below_size (by exact zB HB.out)) : w.heap.size ≤ gb208)); have n3_ := Aside0.mk ((by rw [hg]; exact (below_size (by exact zB HB.out)) : w.heap.size ≤ gb208)); clear HB; have HB := n0_; have BK208 := n1_; have GW208 := n2_; have GE208 := n3_; clear n0_ n1_ n2_ n3_; clear hb hbox hg; obtain ⟨hcz33_0, hcz33_1, hcz33_2, hcz33_3, hfz33_0, hfz33_1, hfz33_2, hfz33_3⟩ := zc4f BK208.out) | ((with_reducible refine gate_callee (f := 29) rfl ?_); refine goesL_ (some 7) rfl rfl Tryd.func29 (by kernel_rfl) rfl #[.agg #[.int .i64 a0_0, .int .i64 a0_1, .slice A0_2 l0_2.length c0_2, .slice A0_3 l0_3.length c0_3]] rfl (by (try simp only [zm1, zm2, zm3]); first | done | rfl | (simp only [List.length_drop, List.length_take]; rfl)) ?_; (with_reducible refine (spec_PkgOk.calls k a0_0 a0_1 _ _ l0_2 _ _ l0_3 false _ ?side1 ?side2 ?side3 ?side4 A2.out).mono ?_); (case side1 => exact zC (Kd.C_below HR0_2.out HB.out)); (case side2 => exact HC0_2.out); (case side3 => exact zC (Kd.C_below HR0_3.out HB.out)); (case side4 => exact HC0_3.out); rintro e w34 ⟨rfl, hb⟩; refine ⟨_, rfl, ?_⟩; have n0_ := Aside0.mk (blk_below (g := gb208) (o := .cells #[.int .i64 a0_0, .int .i64 a0_1, .slice A0_2 l0_2.length c0_2, .slice A0_3 l0_3.length c0_3] 26 (0, 0)) (by exact zK BK208.out) hb); have n1_ := Aside0.mk (below_step (by exact zB1 HB.out GE208.out) hb); clear BK208; clear HB; have BK208 := n0_; have HB := n1_; clear n0_ n1_; (try clear hb); (try clear hb2); (try clear hk); (try clear hi)))
  go_ret
  exact ⟨by first | rfl | (simp [errW_none, errW_some] <;> rfl) | (simp [*, errW_none, errW_some] <;> rfl), by exact zB1 HB.out GE208.out⟩

attribute [local go_sem high] eqA63 eqA66

/-! ### laws_luPkg: function 17 -/
mutual
def laws_luPkg.j0 : Nat → Bool → Int → Int → List (S63) → List (S66) → Int → Int → List (S63) → List (S66) → Option (Bool)
 | 0, _, _, _, _, _, _, _, _, _ => none
 | k + 1, x36, x219000, x219001, x219002, x219003, x220000, x220001, x220002, x220003 => if x36 = true then (some false) else (laws_luPkg.l0 k 0 x219000 x219001 x219002 x219003 x220000 x220001 x220002 x220003)
def laws_luPkg.l0 : Nat → Int → Int → Int → List (S63) → List (S66) → Int → Int → List (S63) → List (S66) → Option (Bool)
 | 0, _, _, _, _, _, _, _, _, _ => none
 | k + 1, x5, x219000, x219001, x219002, x219003, x220000, x220001, x220002, x220003 => if x5 < (x219002.length : Int) then (if 0 ≤ x5 then (if x5 < (x220002.length : Int) then (if (!(((rd_T63 x219002 x5).f0) == ((rd_T63 x220002 x5).f0)) || (!(((rd_T63 x219002 x5).f1) == ((rd_T63 x220002 x5).f1)))) = true then (some false) else (laws_luPkg.l0 k (wrap64 (x5 + 1)) x219000 x219001 x219002 x219003 x220000 x220001 x220002 x220003)) else (none)) else (none)) else (laws_luPkg.l1 k 0 x219000 x219001 x219002 x219003 x220000 x220001 x220002 x220003)
def laws_luPkg.l1 : Nat → Int → Int → Int → List (S63) → List (S66) → Int → Int → List (S63) → List (S66) → Option (Bool)
 | 0, _, _, _, _, _, _, _, _, _ => none
 | k + 1, x6, x219000, x219001, x219002, x219003, x220000, x220001, x220002, x220003 => if x6 < (x219003.length : Int) then (if 0 ≤ x6 then (if x6 < (x220003.length : Int) then (if (!(((rd_T66 x219003 x6).f0) == ((rd_T66 x220003 x6).f0)) || (!(((rd_T66 x219003 x6).f1) == ((rd_T66 x220003 x6).f1)))) = true then (some false) else (laws_luPkg.l1 k (wrap64 (x6 + 1)) x219000 x219001 x219002 x219003 x220000 x220001 x220002 x220003)) else (none)) else (none)) else (some true)
end
def laws_luPkg.f (k : Nat) (a0_0 : Int) (a0_1 : Int) (l0_2 : List (S63)) (l0_3 : List (S66)) (a1_0 : Int) (a1_1 : Int) (l1_2 : List (S63)) (l1_3 : List (S66)) : Option (Bool) := if a0_0 = a1_0 then (if a0_1 = a1_1 then (if (l0_2.length : Int) = (l1_2.length : Int) then (laws_luPkg.j0 k ((l0_3.length : Int) != (l1_3.length : Int)) a0_0 a0_1 l0_2 l0_3 a1_0 a1_1 l1_2 l1_3) else (laws_luPkg.j0 k true a0_0 a0_1 l0_2 l0_3 a1_0 a1_1 l1_2 l1_3)) else (laws_luPkg.j0 k true a0_0 a0_1 l0_2 l0_3 a1_0 a1_1 l1_2 l1_3)) else (laws_luPkg.j0 k true a0_0 a0_1 l0_2 l0_3 a1_0 a1_1 l1_2 l1_3)
theorem laws_luPkg.mono_l : ∀ k, (∀ y0 y1 y2 y3 y4 y5 y6 y7 y8, LeO (laws_luPkg.j0 k y0 y1 y2 y3 y4 y5 y6 y7 y8) (laws_luPkg.j0 (k + 1) y0 y1 y2 y3 y4 y5 y6 y7 y8)) ∧ (∀ y0 y1 y2 y3 y4 y5 y6 y7 y8, LeO (laws_luPkg.l0 k y0 y1 y2 y3 y4 y5 y6 y7 y8) (laws_luPkg.l0 (k + 1) y0 y1 y2 y3 y4 y5 y6 y7 y8)) ∧ (∀ y0 y1 y2 y3 y4 y5 y6 y7 y8, LeO (laws_luPkg.l1 k y0 y1 y2 y3 y4 y5 y6 y7 y8) (laws_luPkg.l1 (k + 1) y0 y1 y2 y3 y4 y5 y6 y7 y8))
 | 0 => ⟨fun _ _ _ _ _ _ _ _ _ r h => by simp [laws_luPkg.j0] at h, fun _ _ _ _ _ _ _ _ _ r h => by simp [laws_luPkg.l0] at h, fun _ _ _ _ _ _ _ _ _ r h => by simp [laws_luPkg.l1] at h⟩
 | k + 1 => by
  obtain ⟨ih0, ih1, ih2⟩ := laws_luPkg.mono_l k
  refine ⟨?_, ?_, ?_⟩
  ·intro y0 y1 y2 y3 y4 y5 y6 y7 y8
   unfold laws_luPkg.j0
   repeat' first
   | (with_reducible exact ih0 _ _ _ _ _ _ _ _ _)
   | (with_reducible exact ih1 _ _ _ _ _ _ _ _ _)
   | (with_reducible exact ih2 _ _ _ _ _ _ _ _ _)
   | (with_reducible exact LeO.refl _)
   | (with_reducible exact LeO.none _)
   | (with_reducible refine LeO.ite ?_ ?_)
   | (with_reducible refine LeO.bind ?_ (fun _ => ?_))
   | exact ih0 _ _ _ _ _ _ _ _ _
   | exact ih1 _ _ _ _ _ _ _ _ _
   | exact ih2 _ _ _ _ _ _ _ _ _
   | exact LeO.none _
   | refine LeO.ite ?_ ?_
   | refine LeO.bind ?_ (fun _ => ?_)
  ·intro y0 y1 y2 y3 y4 y5 y6 y7 y8
   unfold laws_luPkg.l0
   repeat' first
   | (with_reducible exact ih0 _ _ _ _ _ _ _ _ _)
   | (with_reducible exact ih1 _ _ _ _ _ _ _ _ _)
   | (with_reducible exact ih2 _ _ _ _ _ _ _ _ _)
   | (with_reducible exact LeO.refl _)
   | (with_reducible exact LeO.none _)
   | (with_reducible refine LeO.ite ?_ ?_)
   | (with_reducible refine LeO.bind ?_ (fun _ => ?_))
   | exact ih0 _ _ _ _ _ _ _ _ _
   | exact ih1 _ _ _ _ _ _ _ _ _
   | exact ih2 _ _ _ _ _ _ _ _ _
   | exact LeO.none _
   | refine LeO.ite ?_ ?_
   | refine LeO.bind ?_ (fun _ => ?_)
  ·intro y0 y1 y2 y3 y4 y5 y6 y7 y8
   unfold laws_luPkg.l1
   repeat' first
   | (with_reducible exact ih0 _ _ _ _ _ _ _ _ _)
   | (with_reducible exact ih1 _ _ _ _ _ _ _ _ _)
   | (with_reducible exact ih2 _ _ _ _ _ _ _ _ _)
   | (with_reducible exact LeO.refl _)
   | (with_reducible exact LeO.none _)
   | (with_reducible refine LeO.ite ?_ ?_)
   | (with_reducible refine LeO.bind ?_ (fun _ => ?_))
   | exact ih0 _ _ _ _ _ _ _ _ _
   | exact ih1 _ _ _ _ _ _ _ _ _
   | exact ih2 _ _ _ _ _ _ _ _ _
   | exact LeO.none _
   | refine LeO.ite ?_ ?_
   | refine LeO.bind ?_ (fun _ => ?_)
theorem laws_luPkg.mono : ∀ a0 a1 a2 a3 a4 a5 a6 a7 k, LeO (laws_luPkg.f k a0 a1 a2 a3 a4 a5 a6 a7) (laws_luPkg.f (k + 1) a0 a1 a2 a3 a4 a5 a6 a7) := by
 intro a0 a1 a2 a3 a4 a5 a6 a7 k
 obtain ⟨ih0, ih1, ih2⟩ := laws_luPkg.mono_l k
 unfold laws_luPkg.f
 repeat' first
   | (with_reducible exact ih0 _ _ _ _ _ _ _ _ _)
   | (with_reducible exact ih1 _ _ _ _ _ _ _ _ _)
   | (with_reducible exact ih2 _ _ _ _ _ _ _ _ _)
   | (with_reducible exact LeO.refl _)
   | (with_reducible exact LeO.none _)
   | (with_reducible refine LeO.ite ?_ ?_)
   | (with_reducible refine LeO.bind ?_ (fun _ => ?_))
   | exact ih0 _ _ _ _ _ _ _ _ _
   | exact ih1 _ _ _ _ _ _ _ _ _
   | exact ih2 _ _ _ _ _ _ _ _ _
   | exact LeO.none _
   | refine LeO.ite ?_ ?_
   | refine LeO.bind ?_ (fun _ => ?_)
set_option maxHeartbeats 8000000 in
set_option maxRecDepth 100000 in
theorem laws_luPkg.calls (k : Nat) (a0_0 : Int) (a0_1 : Int) (A0_2 : Option Addr) (c0_2 : Nat) (l0_2 : List (S63)) (A0_3 : Option Addr) (c0_3 : Nat) (l0_3 : List (S66)) (a1_0 : Int) (a1_1 : Int) (A1_2 : Option Addr) (c1_2 : Nat) (l1_2 : List (S63)) (A1_3 : Option Addr) (c1_3 : Nat) (l1_3 : List (S66)) (r : Bool) (w : World) (hr0_2 : Kd.C k63 w A0_2 l0_2.length l0_2) (hc0_2 : l0_2.length ≤ c0_2) (hr0_3 : Kd.C k66 w A0_3 l0_3.length l0_3) (hc0_3 : l0_3.length ≤ c0_3) (hr1_2 : Kd.C k63 w A1_2 l1_2.length l1_2) (hc1_2 : l1_2.length ≤ c1_2) (hr1_3 : Kd.C k66 w A1_3 l1_3.length l1_3) (hc1_3 : l1_3.length ≤ c1_3) (h : laws_luPkg.f k a0_0 a0_1 l0_2 l0_3 a1_0 a1_1 l1_2 l1_3 = some r) :
  Calls Tryd.prog 17 #[.agg #[.int .i64 a0_0, .int .i64 a0_1, .slice A0_2 l0_2.length c0_2, .slice A0_3 l0_3.length c0_3], .agg #[.int .i64 a1_0, .int .i64 a1_1, .slice A1_2 l1_2.length c1_2, .slice A1_3 l1_3.length c1_3]] w fun e w' => e = .returned (.bool r) ∧ Below w.heap.size w w' := by
 have hu26 := Tryd.underlying26
 have hu63 := Tryd.underlying63
 have hu66 := Tryd.underlying66
 have HR0_2 := Aside0.mk hr0_2
 have HC0_2 := Aside0.mk hc0_2
 clear hr0_2 hc0_2
 have HR0_3 := Aside0.mk hr0_3
 have HC0_3 := Aside0.mk hc0_3
 clear hr0_3 hc0_3
 have HR1_2 := Aside0.mk hr1_2
 have HC1_2 := Aside0.mk hc1_2
 clear hr1_2 hc1_2
 have HR1_3 := Aside0.mk hr1_3
 have HC1_3 := Aside0.mk hc1_3
 clear hr1_3 hc1_3
 have HB := Aside0.mk (Below.refl w.heap.size w)
 have H : (if a0_0 = a1_0 then (if a0_1 = a1_1 then (if (l0_2.length : Int) = (l1_2.length : Int) then (laws_luPkg.j0 k ((l0_3.length : Int) != (l1_3.length : Int)) a0_0 a0_1 l0_2 l0_3 a1_0 a1_1 l1_2 l1_3) else (laws_luPkg.j0 k true a0_0 a0_1 l0_2 l0_3 a1_0 a1_1 l1_2 l1_3)) else (laws_luPkg.j0 k true a0_0 a0_1 l0_2 l0_3 a1_0 a1_1 l1_2 l1_3)) else (laws_luPkg.j0 k true a0_0 a0_1 l0_2 l0_3 a1_0 a1_1 l1_2 l1_3)) = some r := h
 clear h
 have HC3 := Aside0.mk H
 clear H
 go_enter Tryd.func17, Tryd.ntmps17
 go_upto_region 1 with (first | ((with_reducible refine gate_dst (N := 2) rfl ?_); (try (refine gate_guard (by rfl) ?_; dsimp only)); refine box_event ?hg (N := 2) ?hd (cs := #[.int .i64 a0_0, .int .i64 a0_1, .slice A0_2 l0_2.length c0_2, .slice A0_3 l0_3.length c0_3]) (t := 26) ?hr ?_; (case hd => rfl); (case hg => rfl); (case hr => first | (go_simp; done) | (go_simp; rfl)); intro gb218 hg w4 hbox hb; have n0_ := Aside0.mk (below_step (by exact zB HB.out) hb); have n1_ := Aside0.mk (hbox); have n2_ := Aside0.mk ((by rw [hg]; exact (below_size (by exact zB HB.out)) : w.heap.size ≤ gb218)); have n3_ := Aside0.mk ((by rw [hg]; exact (below_size (by exact zB HB.out)) : w.heap.size ≤ gb218)); clear HB; have HB := n0_; have BK218 := n1_; have GW218 := n2_; have GE218 := n3_; clear n0_ n1_ n2_ n3_; clear hb hbox hg) | ((with_reducible refine gate_dst (N := 3) rfl ?_); (try (refine gate_guard (by rfl) ?_; dsimp only)); refine box_event ?hg (N := 3) ?hd (cs := #[.int .i64 a1_0, .int .i64 a1_1, .slice A1_2 l1_2.length c1_2, .slice A1_3 l1_3.length c1_3]) (t := 26) ?hr ?_; (case hd => rfl); (case hg => rfl); (case hr => first | (go_simp; done) | (go_simp; rfl)); intro gb219 hg w5 hbox hb; have n0_ := Aside0.mk (blk_below (g := gb218) (o := .cells #[.int .i64 a0_0, .int .i64 a0_1, .slice A0_2 l0_2.length c0_2, .slice A0_3 l0_3.length c0_3] 26 (0, 0)) (by exact zK BK218.out) hb); have n1_ := Aside0.mk (below_step (by exact zB1 HB.out GE218.out) hb); have n2_ := Aside0.mk (hbox); have n3_ := Aside0.mk ((by rw [hg]; exact (below_size (by exact zB1 HB.out GE218.out)) : w.heap.size ≤ gb219)); have n4_ := Aside0.mk ((by rw [hg]; exact (below_size (by exact zB1 HB.out GE218.out)) : w.heap.size ≤ gb219)); have n5_ := Aside0.mk ((by rw [hg]; exact Nat.ne_of_lt (blk_lt (g := gb218) (o := .cells #[.int .i64 a0_0, .int .i64 a0_1, .slice A0_2 l0_2.length c0_2, .slice A0_3 l0_3.length c0_3] 26 (0, 0)) (by exact zK BK218.out)) : gb218 ≠ gb219)); have n6_ := Aside0.mk ((by rw [hg]; exact Nat.ne_of_gt (blk_lt (g := gb218) (o := .cells #[.int .i64 a0_0, .int .i64 a0_1, .slice A0_2 l0_2.length c0_2, .slice A0_3 l0_3.length c0_3] 26 (0, 0)) (by exact zK BK218.out)) : gb219 ≠ gb218)); clear BK218; clear HB; have BK218 := n0_; have HB := n1_; have BK219 := n2_; have GW219 := n3_; have GE219 := n4_; have NB218_219 := n5_; have NB219_218 := n6_; clear n0_ n1_ n2_ n3_ n4_ n5_ n6_; clear hb hbox hg))
 repeat (go_quiet (first | ((with_reducible refine gate_dst (N := 2) rfl ?_); (try (refine gate_guard (by rfl) ?_; dsimp only)); refine box_event ?hg (N := 2) ?hd (cs := #[.int .i64 a0_0, .int .i64 a0_1, .slice A0_2 l0_2.length c0_2, .slice A0_3 l0_3.length c0_3]) (t := 26) ?hr ?_; (case hd => rfl); (case hg => rfl); (case hr => first | (go_simp; done) | (go_simp; rfl)); intro gb218 hg w4 hbox hb; have n0_ := Aside0.mk (below_step (by exact zB HB.out) hb); have n1_ := Aside0.mk (hbox); have n2_ := Aside0.mk ((by rw [hg]; exact (below_size (by exact zB HB.out)) : w.heap.size ≤ gb218)); have n3_ := Aside0.mk ((by rw [hg]; exact (below_size (by exact zB HB.out)) : w.heap.size ≤ gb218)); clear HB; have HB := n0_; have BK218 := n1_; have GW218 := n2_; have GE218 := n3_; clear n0_ n1_ n2_ n3_; clear hb hbox hg) | ((with_reducible refine gate_dst (N := 3) rfl ?_); (try (refine gate_guard (by rfl) ?_; dsimp only)); refine box_event ?hg (N := 3) ?hd (cs := #[.int .i64 a1_0, .int .i64 a1_1, .slice A1_2 l1_2.length c1_2, .slice A1_3 l1_3.length c1_3]) (t := 26) ?hr ?_; (case hd => rfl); (case hg => rfl); (case hr => first | (go_simp; done) | (go_simp; rfl)); intro gb219 hg w5 hbox hb; have n0_ := Aside0.mk (blk_below (g := gb218) (o := .cells #[.int .i64 a0_0, .int .i64 a0_1, .slice A0_2 l0_2.length c0_2, .slice A0_3 l0_3.length c0_3] 26 (0, 0)) (by exact zK BK218.out) hb); have n1_ := Aside0.mk (below_step (by exact zB1 HB.out GE218.out) hb); have n2_ := Aside0.mk (hbox); have n3_ := Aside0.mk ((by rw [hg]; exact (below_size (by exact zB1 HB.out GE218.out)) : w.heap.size ≤ gb219)); have n4_ := Aside0.mk ((by rw [hg]; exact (below_size (by exact zB1 HB.out GE218.out)) : w.heap.size ≤ gb219)); have n5_ := Aside0.mk ((by rw [hg]; exact Nat.ne_of_lt (blk_lt (g := gb218) (o := .cells #[.int .i64 a0_0, .int .i64 a0_1, .slice A0_2 l0_2.length c0_2, .slice A0_3 l0_3.length c0_3] 26 (0, 0)) (by exact zK BK218.out)) : gb218 ≠ gb219)); have n6_ := Aside0.mk ((by rw [hg]; exact Nat.ne_of_gt (blk_lt (g := gb218) (o := .cells #[.int .i64 a0_0, .int .i64 a0_1, .slice A0_2 l0_2.length c0_2, .slice A0_3 l0_3.length c0_3] 26 (0, 0)) (by exact zK BK218.out)) : gb219 ≠ gb218)); clear BK218; clear HB; have BK218 := n0_; have HB := n1_; have BK219 := n2_; have GW219 := n3_; have GE219 := n4_; have NB218_219 := n5_; have NB219_218 := n6_; clear n0_ n1_ n2_ n3_ n4_ n5_ n6_; clear hb hbox hg)); go_upto_region 1 with (first | ((with_reducible refine gate_dst (N := 2) rfl ?_); (try (refine gate_guard (by rfl) ?_; dsimp only)); refine box_event ?hg (N := 2) ?hd (cs := #[.int .i64 a0_0, .int .i64 a0_1, .slice A0_2 l0_2.length c0_2, .slice A0_3 l0_3.length c0_3]) (t := 26) ?hr ?_; (case hd => rfl); (case hg => rfl); (case hr => first | (go_simp; done) | (go_simp; rfl)); intro gb218 hg w4 hbox hb; have n0_ := Aside0.mk (below_step (by exact zB HB.out) hb); have n1_ := Aside0.mk (hbox); have n2_ := Aside0.mk ((by rw [hg]; exact (below_size (by exact zB HB.out)) : w.heap.size ≤ gb218)); have n3_ := Aside0.mk ((by rw [hg]; exact (below_size (by exact zB HB.out)) : w.heap.size ≤ gb218)); clear HB; have HB := n0_; have BK218 := n1_; have GW218 := n2_; have GE218 := n3_; clear n0_ n1_ n2_ n3_; clear hb hbox hg) | ((with_reducible refine gate_dst (N := 3) rfl ?_); (try (refine gate_guard (by rfl) ?_; dsimp only)); refine box_event ?hg (N := 3) ?hd (cs := #[.int .i64 a1_0, .int .i64 a1_1, .slice A1_2 l1_2.length c1_2, .slice A1_3 l1_3.length c1_3]) (t := 26) ?hr ?_; (case hd => rfl); (case hg => rfl); (case hr => first | (go_simp; done) | (go_simp; rfl)); intro gb219 hg w5 hbox hb; have n0_ := Aside0.mk (blk_below (g := gb218) (o := .cells #[.int .i64 a0_0, .int .i64 a0_1, .slice A0_2 l0_2.length c0_2, .slice A0_3 l0_3.length c0_3] 26 (0, 0)) (by exact zK BK218.out) hb); have n1_ := Aside0.mk (below_step (by exact zB1 HB.out GE218.out) hb); have n2_ := Aside0.mk (hbox); have n3_ := Aside0.mk ((by rw [hg]; exact (below_size (by exact zB1 HB.out GE218.out)) : w.heap.size ≤ gb219)); have n4_ := Aside0.mk ((by rw [hg]; exact (below_size (by exact zB1 HB.out GE218.out)) : w.heap.size ≤ gb219)); have n5_ := Aside0.mk ((by rw [hg]; exact Nat.ne_of_lt (blk_lt (g := gb218) (o := .cells #[.int .i64 a0_0, .int .i64 a0_1, .slice A0_2 l0_2.length c0_2, .slice A0_3 l0_3.length c0_3] 26 (0, 0)) (by exact zK BK218.out)) : gb218 ≠ gb219)); have n6_ := Aside0.mk ((by rw [hg]; exact Nat.ne_of_gt (blk_lt (g := gb218) (o := .cells #[.int .i64 a0_0, .int .i64 a0_1, .slice A0_2 l0_2.length c0_2, .slice A0_3 l0_3.length c0_3] 26 (0, 0)) (by exact zK BK218.out)) : gb219 ≠ gb218)); clear BK218; clear HB; have BK218 := n0_; have HB := n1_; have BK219 := n2_; have GW219 := n3_; have GE219 := n4_; have NB218_219 := n5_; have NB219_218 := n6_; clear n0_ n1_ n2_ n3_ n4_ n5_ n6_; clear hb hbox hg)))
 (try simp only [zp0, zp1, zp2, zp3, zp4])
 go_cut [36] (fun v36 wc => ∃ (kq : Nat) (x36_2 : Bool), v36 = .bool x36_2 ∧ Aside0 (laws_luPkg.j0 kq x36_2 a0_0 a0_1 l0_2 l0_3 a1_0 a1_1 l1_2 l1_3 = some r) ∧ Aside0 (kq ≤ k) ∧ Aside0 (wc.heap[gb218]? = some (.cells #[.int .i64 a0_0, .int .i64 a0_1, (.slice A0_2 l0_2.length c0_2), (.slice A0_3 l0_3.length c0_3)] 26 (0, 0))) ∧ Aside0 (wc.heap[gb219]? = some (.cells #[.int .i64 a1_0, .int .i64 a1_1, (.slice A1_2 l1_2.length c1_2), (.slice A1_3 l1_3.length c1_3)] 26 (0, 0))) ∧ Aside0 (Below w.heap.size w wc))
 case first =>
  have H := HC3.out
  clear HC3
  by_cases c6 : a0_0 = a1_0
  ·rw [if_pos c6] at H
   have c6b0 : (a0_0 == a1_0) = true := beq_iff_eq.mpr c6
   have c6b1 : (a0_0 != a1_0) = false := bne_eq_false_iff_eq.mpr c6
   clear c6
   (first | rw [c6b0] | (simp only [i64_w, i32_w]; rw [c6b0]) | skip)
   by_cases c7 : a0_1 = a1_1
   ·rw [if_pos c7] at H
    have c7b0 : (a0_1 == a1_1) = true := beq_iff_eq.mpr c7
    have c7b1 : (a0_1 != a1_1) = false := bne_eq_false_iff_eq.mpr c7
    clear c7
    by_cases c8 : (l0_2.length : Int) = (l1_2.length : Int)
    ·rw [if_pos c8] at H
     have c8b0 : ((l0_2.length : Int) == (l1_2.length : Int)) = true := beq_iff_eq.mpr c8
     have c8b1 : ((l0_2.length : Int) != (l1_2.length : Int)) = false := bne_eq_false_iff_eq.mpr c8
     have c8b2 : (l0_2.length == l1_2.length) = true := by first | simpa using c8 | (simp at c8 ⊢; omega)
     clear c8
     have H' := Aside0.mk H
     clear H
     have hnb9 := NB218_219.out
     have hnc9 := NB219_218.out
     obtain ⟨hcz10_0, hcz10_1, hcz10_2, hcz10_3, hfz10_0, hfz10_1, hfz10_2, hfz10_3⟩ := zc4f BK218.out
     obtain ⟨hcz11_0, hcz11_1, hcz11_2, hcz11_3, hfz11_0, hfz11_1, hfz11_2, hfz11_3⟩ := zc4f BK219.out
     go_wp2
     repeat (go_quiet (fail); try go_wp2)
     go_meet
     case rel => exact ⟨_, (((l0_3.length : Int) != (l1_3.length : Int))), (by first | rfl | (simp; done) | (simp [*]; done)), H', ⟨by first | omega | exact Nat.le_refl _⟩, ⟨by exact zK BK218.out⟩, ⟨by exact zK BK219.out⟩, ⟨by exact zB2 HB.out GE218.out GE219.out⟩⟩
    ·rw [if_neg c8] at H
     have c8b0 : ((l0_2.length : Int) == (l1_2.length : Int)) = false := beq_eq_false_iff_ne.mpr c8
     have c8b1 : ((l0_2.length : Int) != (l1_2.length : Int)) = true := bne_iff_ne.mpr c8
     have c8b2 : (l0_2.length == l1_2.length) = false := by first | simpa using c8 | (simp at c8 ⊢; omega)
     have H' := Aside0.mk H
     clear H
     have hnb12 := NB218_219.out
     have hnc12 := NB219_218.out
     obtain ⟨hcz13_0, hcz13_1, hcz13_2, hcz13_3, hfz13_0, hfz13_1, hfz13_2, hfz13_3⟩ := zc4f BK218.out
     obtain ⟨hcz14_0, hcz14_1, hcz14_2, hcz14_3, hfz14_0, hfz14_1, hfz14_2, hfz14_3⟩ := zc4f BK219.out
     go_wp2
     repeat (go_quiet (fail); try go_wp2)
     go_meet
     case rel => exact ⟨_, (true), (by first | rfl | (simp; done) | (simp [*]; done)), H', ⟨by first | omega | exact Nat.le_refl _⟩, ⟨by exact zK BK218.out⟩, ⟨by exact zK BK219.out⟩, ⟨by exact zB2 HB.out GE218.out GE219.out⟩⟩
   ·rw [if_neg c7] at H
    have c7b0 : (a0_1 == a1_1) = false := beq_eq_false_iff_ne.mpr c7
    have c7b1 : (a0_1 != a1_1) = true := bne_iff_ne.mpr c7
    have H' := Aside0.mk H
    clear H
    have hnb15 := NB218_219.out
    have hnc15 := NB219_218.out
    obtain ⟨hcz16_0, hcz16_1, hcz16_2, hcz16_3, hfz16_0, hfz16_1, hfz16_2, hfz16_3⟩ := zc4f BK218.out
    obtain ⟨hcz17_0, hcz17_1, hcz17_2, hcz17_3, hfz17_0, hfz17_1, hfz17_2, hfz17_3⟩ := zc4f BK219.out
    go_wp2
    repeat (go_quiet (fail); try go_wp2)
    go_meet
    case rel => exact ⟨_, (true), (by first | rfl | (simp; done) | (simp [*]; done)), H', ⟨by first | omega | exact Nat.le_refl _⟩, ⟨by exact zK BK218.out⟩, ⟨by exact zK BK219.out⟩, ⟨by exact zB2 HB.out GE218.out GE219.out⟩⟩
  ·rw [if_neg c6] at H
   have c6b0 : (a0_0 == a1_0) = false := beq_eq_false_iff_ne.mpr c6
   have c6b1 : (a0_0 != a1_0) = true := bne_iff_ne.mpr c6
   (first | rw [c6b0] | (simp only [i64_w, i32_w]; rw [c6b0]) | skip)
   have H' := Aside0.mk H
   clear H
   have hnb18 := NB218_219.out
   have hnc18 := NB219_218.out
   obtain ⟨hcz19_0, hcz19_1, hcz19_2, hcz19_3, hfz19_0, hfz19_1, hfz19_2, hfz19_3⟩ := zc4f BK218.out
   obtain ⟨hcz20_0, hcz20_1, hcz20_2, hcz20_3, hfz20_0, hfz20_1, hfz20_2, hfz20_3⟩ := zc4f BK219.out
   go_wp2
   repeat (go_quiet (fail); try go_wp2)
   go_meet
   case rel => exact ⟨_, (true), (by first | rfl | (simp; done) | (simp [*]; done)), H', ⟨by first | omega | exact Nat.le_refl _⟩, ⟨by exact zK BK218.out⟩, ⟨by exact zK BK219.out⟩, ⟨by exact zB2 HB.out GE218.out GE219.out⟩⟩
 case rest =>
  clear HC3
  try clear c1
  try clear p2
  try clear c6
  try clear c6b0
  try clear c6b1
  try clear c7
  try clear c7b0
  try clear c7b1
  try clear c8
  try clear c8b0
  try clear c8b1
  try clear c8b2
  try clear c9
  try clear c12
  try clear c15
  try clear c17
  try clear c18
  try clear hcz10_0
  try clear hcz10_1
  try clear hcz10_2
  try clear hcz10_3
  try clear hcz11_0
  try clear hcz11_1
  try clear hcz11_2
  try clear hcz11_3
  try clear hcz13_0
  try clear hcz13_1
  try clear hcz13_2
  try clear hcz13_3
  try clear hcz14_0
  try clear hcz14_1
  try clear hcz14_2
  try clear hcz14_3
  try clear hcz16_0
  try clear hcz16_1
  try clear hcz16_2
  try clear hcz16_3
  try clear hcz17_0
  try clear hcz17_1
  try clear hcz17_2
  try clear hcz17_3
  try clear hcz19_0
  try clear hcz19_1
  try clear hcz19_2
  try clear hcz19_3
  try clear hcz20_0
  try clear hcz20_1
  try clear hcz20_2
  try clear hcz20_3
  try clear hfz10_0
  try clear hfz10_1
  try clear hfz10_2
  try clear hfz10_3
  try clear hfz11_0
  try clear hfz11_1
  try clear hfz11_2
  try clear hfz11_3
  try clear hfz13_0
  try clear hfz13_1
  try clear hfz13_2
  try clear hfz13_3
  try clear hfz14_0
  try clear hfz14_1
  try clear hfz14_2
  try clear hfz14_3
  try clear hfz16_0
  try clear hfz16_1
  try clear hfz16_2
  try clear hfz16_3
  try clear hfz17_0
  try clear hfz17_1
  try clear hfz17_2
  try clear hfz17_3
  try clear hfz19_0
  try clear hfz19_1
  try clear hfz19_2
  try clear hfz19_3
  try clear hfz20_0
  try clear hfz20_1
  try clear hfz20_2
  try clear hfz20_3
  obtain ⟨kq, x36_2, rfl, HA, HJ2, BK218, BK219, HB⟩ := hcut
  cases kq with
  | zero => exact absurd HA.out (by simp [laws_luPkg.j0])
  | succ kj2 =>
   have H := HA.out
   clear HA
   simp only [laws_luPkg.j0] at H
   by_cases c21 : x36_2 = true
   ·subst c21
    have H1 : (some false) = some r := by rw [if_pos rfl] at H; exact H
    clear H
    have H := H1
    clear H1
    obtain rfl := Option.some.inj H
    go_wp2
    repeat (go_quiet (fail); try go_wp2)
    go_ret
    exact ⟨by first | rfl | (simp [errW_none, errW_some] <;> rfl) | (simp [*, errW_none, errW_some] <;> rfl), by exact zB2 HB.out GE218.out GE219.out⟩
   ·replace c21 := Bool.eq_false_iff.mpr c21
    subst c21
    have H1 : (laws_luPkg.l0 kj2 0 a0_0 a0_1 l0_2 l0_3 a1_0 a1_1 l1_2 l1_3) = some r := by rw [if_neg (show ¬ (false = true) by decide)] at H; exact H
    clear H
    have H := H1
    clear H1
    have H' := Aside0.mk H
    clear H
    go_wp2
    repeat (go_quiet (fail); try go_wp2)
    go_loopg [5] kj2 (fun kq v5 w' => ∃ (x5_2 : Int), v5 = .int .i64 x5_2 ∧ Aside0 (laws_luPkg.l0 kq x5_2 a0_0 a0_1 l0_2 l0_3 a1_0 a1_1 l1_2 l1_3 = some r) ∧ Aside0 (kq ≤ kj2) ∧ Aside0 (w'.heap[gb218]? = some (.cells #[.int .i64 a0_0, .int .i64 a0_1, (.slice A0_2 l0_2.length c0_2), (.slice A0_3 l0_3.length c0_3)] 26 (0, 0))) ∧ Aside0 (w'.heap[gb219]? = some (.cells #[.int .i64 a1_0, .int .i64 a1_1, (.slice A1_2 l1_2.length c1_2), (.slice A1_3 l1_3.length c1_3)] 26 (0, 0))) ∧ Aside0 (Below w.heap.size w w'))
    case atStart => exact ⟨(0), (by first | rfl | (simp; done) | (simp [*]; done)), H', ⟨Nat.le_refl _⟩, ⟨by exact zK BK218.out⟩, ⟨by exact zK BK219.out⟩, ⟨by exact zB2 HB.out GE218.out GE219.out⟩⟩
    case round =>
     clear H'
     try clear c1
     try clear c2
     try clear p2
     try clear c6
     try clear c6b0
     try clear c6b1
     try clear c7
     try clear c7b0
     try clear c7b1
     try clear c8
     try clear c8b0
     try clear c8b1
     try clear c8b2
     try clear c9
     try clear c12
     try clear c15
     try clear c17
     try clear c18
     try clear c21
     try clear hcz10_0
     try clear hcz10_1
     try clear hcz10_2
     try clear hcz10_3
     try clear hcz11_0
     try clear hcz11_1
     try clear hcz11_2
     try clear hcz11_3
     try clear hcz13_0
     try clear hcz13_1
     try clear hcz13_2
     try clear hcz13_3
     try clear hcz14_0
     try clear hcz14_1
     try clear hcz14_2
     try clear hcz14_3
     try clear hcz16_0
     try clear hcz16_1
     try clear hcz16_2
     try clear hcz16_3
     try clear hcz17_0
     try clear hcz17_1
     try clear hcz17_2
     try clear hcz17_3
     try clear hcz19_0
     try clear hcz19_1
     try clear hcz19_2
     try clear hcz19_3
     try clear hcz20_0
     try clear hcz20_1
     try clear hcz20_2
     try clear hcz20_3
     try clear hfz10_0
     try clear hfz10_1
     try clear hfz10_2
     try clear hfz10_3
     try clear hfz11_0
     try clear hfz11_1
     try clear hfz11_2
     try clear hfz11_3
     try clear hfz13_0
     try clear hfz13_1
     try clear hfz13_2
     try clear hfz13_3
     try clear hfz14_0
     try clear hfz14_1
     try clear hfz14_2
     try clear hfz14_3
     try clear hfz16_0
     try clear hfz16_1
     try clear hfz16_2
     try clear hfz16_3
     try clear hfz17_0
     try clear hfz17_1
     try clear hfz17_2
     try clear hfz17_3
     try clear hfz19_0
     try clear hfz19_1
     try clear hfz19_2
     try clear hfz19_3
     try clear hfz20_0
     try clear hfz20_1
     try clear hfz20_2
     try clear hfz20_3
     try clear p2
     obtain ⟨x5_2, rfl, HA, HK2, BK218, BK219, HB⟩ := hrel
     cases gk with
     | zero => exact absurd HA.out (by simp [laws_luPkg.l0])
     | succ k2 =>
      have H := HA.out
      clear HA
      simp only [laws_luPkg.l0] at H
      by_cases c22 : x5_2 < (l0_2.length : Int)
      ·rw [if_pos c22] at H
       have c22b0 : decide (x5_2 < (l0_2.length : Int)) = true := decide_eq_true c22
       clear c22
       by_cases c23 : 0 ≤ x5_2
       ·rw [if_pos c23] at H
        have c23b0 : decide (0 ≤ x5_2) = true := decide_eq_true c23
        clear c23
        by_cases c24 : x5_2 < (l1_2.length : Int)
        ·rw [if_pos c24] at H
         have c24b0 : decide (x5_2 < (l1_2.length : Int)) = true := decide_eq_true c24
         clear c24
         by_cases c25 : (!(((rd_T63 l0_2 x5_2).f0) == ((rd_T63 l1_2 x5_2).f0)) || (!(((rd_T63 l0_2 x5_2).f1) == ((rd_T63 l1_2 x5_2).f1)))) = true
         ·rw [if_pos c25] at H
          have c25b0 : (!(((rd_T63 l0_2 x5_2).f0) == ((rd_T63 l1_2 x5_2).f0)) || (!(((rd_T63 l0_2 x5_2).f1) == ((rd_T63 l1_2 x5_2).f1)))) = true := c25
          clear c25
          obtain rfl := Option.some.inj H
          have hnb26 := NB218_219.out
          have hnc26 := NB219_218.out
          obtain ⟨hcz27_0, hcz27_1, hcz27_2, hcz27_3, hfz27_0, hfz27_1, hfz27_2, hfz27_3⟩ := zc4f BK218.out
          have p220 : 0 ≤ (x5_2 : Int) := of_decide_eq_true (by first | (with_reducible assumption) | assumption)
          have q220 : x5_2 < (l0_2.length : Int) := of_decide_eq_true (by first | (with_reducible assumption) | assumption)
          obtain ⟨ad220, e220, hx220_0, hx220_1⟩ := at_T63 HR0_2.out x5_2 p220 q220
          cases e220
          replace hx220_0 := (HB.out.cell (World.block_lt_of_cell? w _ hx220_0)).trans hx220_0
          replace hx220_1 := (HB.out.cell (World.block_lt_of_cell? w _ hx220_1)).trans hx220_1
          replace p220 := eq_true p220
          replace q220 := eq_true q220
          obtain ⟨hcz28_0, hcz28_1, hcz28_2, hcz28_3, hfz28_0, hfz28_1, hfz28_2, hfz28_3⟩ := zc4f BK219.out
          have p221 : 0 ≤ (x5_2 : Int) := of_decide_eq_true (by first | (with_reducible assumption) | assumption)
          have q221 : x5_2 < (l1_2.length : Int) := of_decide_eq_true (by first | (with_reducible assumption) | assumption)
          obtain ⟨ad221, e221, hx221_0, hx221_1⟩ := at_T63 HR1_2.out x5_2 p221 q221
          cases e221
          replace hx221_0 := (HB.out.cell (World.block_lt_of_cell? w _ hx221_0)).trans hx221_0
          replace hx221_1 := (HB.out.cell (World.block_lt_of_cell? w _ hx221_1)).trans hx221_1
          replace p221 := eq_true p221
          replace q221 := eq_true q221
          go_wp2
          repeat (go_quiet (fail); try go_wp2)
          go_ret
          exact ⟨by first | rfl | (simp [errW_none, errW_some] <;> rfl) | (simp [*, errW_none, errW_some] <;> rfl), by exact zB2 HB.out GE218.out GE219.out⟩
         ·rw [if_neg c25] at H
          have c25b0 : (!(((rd_T63 l0_2 x5_2).f0) == ((rd_T63 l1_2 x5_2).f0)) || (!(((rd_T63 l0_2 x5_2).f1) == ((rd_T63 l1_2 x5_2).f1)))) = false := by simpa using c25
          clear c25
          have H' := Aside0.mk H
          clear H
          have hnb29 := NB218_219.out
          have hnc29 := NB219_218.out
          obtain ⟨hcz30_0, hcz30_1, hcz30_2, hcz30_3, hfz30_0, hfz30_1, hfz30_2, hfz30_3⟩ := zc4f BK218.out
          have p220 : 0 ≤ (x5_2 : Int) := of_decide_eq_true (by first | (with_reducible assumption) | assumption)
          have q220 : x5_2 < (l0_2.length : Int) := of_decide_eq_true (by first | (with_reducible assumption) | assumption)
          obtain ⟨ad220, e220, hx220_0, hx220_1⟩ := at_T63 HR0_2.out x5_2 p220 q220
          cases e220
          replace hx220_0 := (HB.out.cell (World.block_lt_of_cell? w _ hx220_0)).trans hx220_0
          replace hx220_1 := (HB.out.cell (World.block_lt_of_cell? w _ hx220_1)).trans hx220_1
          replace p220 := eq_true p220
          replace q220 := eq_true q220
          obtain ⟨hcz31_0, hcz31_1, hcz31_2, hcz31_3, hfz31_0, hfz31_1, hfz31_2, hfz31_3⟩ := zc4f BK219.out
          have p221 : 0 ≤ (x5_2 : Int) := of_decide_eq_true (by first | (with_reducible assumption) | assumption)
          have q221 : x5_2 < (l1_2.length : Int) := of_decide_eq_true (by first | (with_reducible assumption) | assumption)
          obtain ⟨ad221, e221, hx221_0, hx221_1⟩ := at_T63 HR1_2.out x5_2 p221 q221
          cases e221
          replace hx221_0 := (HB.out.cell (World.block_lt_of_cell? w _ hx221_0)).trans hx221_0
          replace hx221_1 := (HB.out.cell (World.block_lt_of_cell? w _ hx221_1)).trans hx221_1
          replace p221 := eq_true p221
          replace q221 := eq_true q221
          go_wp2
          repeat (go_quiet (fail); try go_wp2)
          go_roundg k2
          case measure => have := HJ2.out; have := HK2.out; omega
          case rel => exact ⟨(wrap64 (x5_2 + 1)), (by first | rfl | (simp; done) | (simp [*]; done)), H', ⟨by have := HJ2.out; have := HK2.out; omega⟩, ⟨by exact zK BK218.out⟩, ⟨by exact zK BK219.out⟩, ⟨by exact zB2 HB.out GE218.out GE219.out⟩⟩
        ·rw [if_neg c24] at H
         exact absurd H (by simp)
       ·rw [if_neg c23] at H
        exact absurd H (by simp)
      ·rw [if_neg c22] at H
       have c22b0 : decide (x5_2 < (l0_2.length : Int)) = false := decide_eq_false c22
       clear c22
       have H' := Aside0.mk H
       clear H
       have hnb32 := NB218_219.out
       have hnc32 := NB219_218.out
       obtain ⟨hcz33_0, hcz33_1, hcz33_2, hcz33_3, hfz33_0, hfz33_1, hfz33_2, hfz33_3⟩ := zc4f BK218.out
       go_wp2
       repeat (go_quiet (fail); try go_wp2)
       go_loopg [6] k2 (fun kq v6 w' => ∃ (x6_3 : Int), v6 = .int .i64 x6_3 ∧ Aside0 (laws_luPkg.l1 kq x6_3 a0_0 a0_1 l0_2 l0_3 a1_0 a1_1 l1_2 l1_3 = some r) ∧ Aside0 (kq ≤ k2) ∧ Aside0 (w'.heap[gb218]? = some (.cells #[.int .i64 a0_0, .int .i64 a0_1, (.slice A0_2 l0_2.length c0_2), (.slice A0_3 l0_3.length c0_3)] 26 (0, 0))) ∧ Aside0 (w'.heap[gb219]? = some (.cells #[.int .i64 a1_0, .int .i64 a1_1, (.slice A1_2 l1_2.length c1_2), (.slice A1_3 l1_3.length c1_3)] 26 (0, 0))) ∧ Aside0 (Below w.heap.size w w'))
       case atStart => exact ⟨(0), (by first | rfl | (simp; done) | (simp [*]; done)), H', ⟨Nat.le_refl _⟩, ⟨by exact zK BK218.out⟩, ⟨by exact zK BK219.out⟩, ⟨by exact zB2 HB.out GE218.out GE219.out⟩⟩
       case round =>
        clear H'
        try clear c1
        try clear c2
        try clear p2
        try clear q2
        try clear hx2
        try clear c3
        try clear c6
        try clear c6b0
        try clear c6b1
        try clear p6
        try clear c7
        try clear c7b0
        try clear c7b1
        try clear c8
        try clear c8b0
        try clear c8b1
        try clear c8b2
        try clear c9
        try clear c12
        try clear c15
        try clear c17
        try clear c18
        try clear c21
        try clear c22
        try clear c22b0
        try clear p22
        try clear q22
        try clear hx22
        try clear c23
        try clear c23b0
        try clear c24
        try clear c24b0
        try clear c25
        try clear c25b0
        try clear c26
        try clear c29
        try clear c32
        try clear hcz10_0
        try clear hcz10_1
        try clear hcz10_2
        try clear hcz10_3
        try clear hcz11_0
        try clear hcz11_1
        try clear hcz11_2
        try clear hcz11_3
        try clear hcz13_0
        try clear hcz13_1
        try clear hcz13_2
        try clear hcz13_3
        try clear hcz14_0
        try clear hcz14_1
        try clear hcz14_2
        try clear hcz14_3
        try clear hcz16_0
        try clear hcz16_1
        try clear hcz16_2
        try clear hcz16_3
        try clear hcz17_0
        try clear hcz17_1
        try clear hcz17_2
        try clear hcz17_3
        try clear hcz19_0
        try clear hcz19_1
        try clear hcz19_2
        try clear hcz19_3
        try clear hcz20_0
        try clear hcz20_1
        try clear hcz20_2
        try clear hcz20_3
        try clear hcz27_0
        try clear hcz27_1
        try clear hcz27_2
        try clear hcz27_3
        try clear hcz28_0
        try clear hcz28_1
        try clear hcz28_2
        try clear hcz28_3
        try clear hcz30_0
        try clear hcz30_1
        try clear hcz30_2
        try clear hcz30_3
        try clear hcz31_0
        try clear hcz31_1
        try clear hcz31_2
        try clear hcz31_3
        try clear hcz33_0
        try clear hcz33_1
        try clear hcz33_2
        try clear hcz33_3
        try clear hfz10_0
        try clear hfz10_1
        try clear hfz10_2
        try clear hfz10_3
        try clear hfz11_0
        try clear hfz11_1
        try clear hfz11_2
        try clear hfz11_3
        try clear hfz13_0
        try clear hfz13_1
        try clear hfz13_2
        try clear hfz13_3
        try clear hfz14_0
        try clear hfz14_1
        try clear hfz14_2
        try clear hfz14_3
        try clear hfz16_0
        try clear hfz16_1
        try clear hfz16_2
        try clear hfz16_3
        try clear hfz17_0
        try clear hfz17_1
        try clear hfz17_2
        try clear hfz17_3
        try clear hfz19_0
        try clear hfz19_1
        try clear hfz19_2
        try clear hfz19_3
        try clear hfz20_0
        try clear hfz20_1
        try clear hfz20_2
        try clear hfz20_3
        try clear hfz27_0
        try clear hfz27_1
        try clear hfz27_2
        try clear hfz27_3
        try clear hfz28_0
        try clear hfz28_1
        try clear hfz28_2
        try clear hfz28_3
        try clear hfz30_0
        try clear hfz30_1
        try clear hfz30_2
        try clear hfz30_3
        try clear hfz31_0
        try clear hfz31_1
        try clear hfz31_2
        try clear hfz31_3
        try clear hfz33_0
        try clear hfz33_1
        try clear hfz33_2
        try clear hfz33_3
        try clear hx220_0
        try clear hx220_1
        try clear hx221_0
        try clear hx221_1
        try clear p2
        try clear p220
        try clear p221
        try clear q220
        try clear q221
        obtain ⟨x6_3, rfl, HA, HK3, BK218, BK219, HB⟩ := hrel
        cases gk with
        | zero => exact absurd HA.out (by simp [laws_luPkg.l1])
        | succ k3 =>
         have H := HA.out
         clear HA
         simp only [laws_luPkg.l1] at H
         by_cases c34 : x6_3 < (l0_3.length : Int)
         ·rw [if_pos c34] at H
          have c34b0 : decide (x6_3 < (l0_3.length : Int)) = true := decide_eq_true c34
          clear c34
          by_cases c35 : 0 ≤ x6_3
          ·rw [if_pos c35] at H
           have c35b0 : decide (0 ≤ x6_3) = true := decide_eq_true c35
           clear c35
           by_cases c36 : x6_3 < (l1_3.length : Int)
           ·rw [if_pos c36] at H
            have c36b0 : decide (x6_3 < (l1_3.length : Int)) = true := decide_eq_true c36
            clear c36
            by_cases c37 : (!(((rd_T66 l0_3 x6_3).f0) == ((rd_T66 l1_3 x6_3).f0)) || (!(((rd_T66 l0_3 x6_3).f1) == ((rd_T66 l1_3 x6_3).f1)))) = true
            ·rw [if_pos c37] at H
             have c37b0 : (!(((rd_T66 l0_3 x6_3).f0) == ((rd_T66 l1_3 x6_3).f0)) || (!(((rd_T66 l0_3 x6_3).f1) == ((rd_T66 l1_3 x6_3).f1)))) = true := c37
             clear c37
             obtain rfl := Option.some.inj H
             have hnb38 := NB218_219.out
             have hnc38 := NB219_218.out
             obtain ⟨hcz39_0, hcz39_1, hcz39_2, hcz39_3, hfz39_0, hfz39_1, hfz39_2, hfz39_3⟩ := zc4f BK218.out
             have p222 : 0 ≤ (x6_3 : Int) := of_decide_eq_true (by first | (with_reducible assumption) | assumption)
             have q222 : x6_3 < (l0_3.length : Int) := of_decide_eq_true (by first | (with_reducible assumption) | assumption)
             obtain ⟨ad222, e222, hx222_0, hx222_1⟩ := at_T66 HR0_3.out x6_3 p222 q222
             cases e222
             replace hx222_0 := (HB.out.cell (World.block_lt_of_cell? w _ hx222_0)).trans hx222_0
             replace hx222_1 := (HB.out.cell (World.block_lt_of_cell? w _ hx222_1)).trans hx222_1
             replace p222 := eq_true p222
             replace q222 := eq_true q222
             obtain ⟨hcz40_0, hcz40_1, hcz40_2, hcz40_3, hfz40_0, hfz40_1, hfz40_2, hfz40_3⟩ := zc4f BK219.out
             have p223 : 0 ≤ (x6_3 : Int) := of_decide_eq_true (by first | (with_reducible assumption) | assumption)
             have q223 : x6_3 < (l1_3.length : Int) := of_decide_eq_true (by first | (with_reducible assumption) | assumption)
             obtain ⟨ad223, e223, hx223_0, hx223_1⟩ := at_T66 HR1_3.out x6_3 p223 q223
             cases e223
             replace hx223_0 := (HB.out.cell (World.block_lt_of_cell? w _ hx223_0)).trans hx223_0
             replace hx223_1 := (HB.out.cell (World.block_lt_of_cell? w _ hx223_1)).trans hx223_1
             replace p223 := eq_true p223
             replace q223 := eq_true q223
             go_wp2
             repeat (go_quiet (fail); try go_wp2)
             go_ret
             exact ⟨by first | rfl | (simp [errW_none, errW_some] <;> rfl) | (simp [*, errW_none, errW_some] <;> rfl), by exact zB2 HB.out GE218.out GE219.out⟩
            ·rw [if_neg c37] at H
             have c37b0 : (!(((rd_T66 l0_3 x6_3).f0) == ((rd_T66 l1_3 x6_3).f0)) || (!(((rd_T66 l0_3 x6_3).f1) == ((rd_T66 l1_3 x6_3).f1)))) = false := by simpa using c37
             clear c37
             have H' := Aside0.mk H
             clear H
             have hnb41 := NB218_219.out
             have hnc41 := NB219_218.out
             obtain ⟨hcz42_0, hcz42_1, hcz42_2, hcz42_3, hfz42_0, hfz42_1, hfz42_2, hfz42_3⟩ := zc4f BK218.out
             have p222 : 0 ≤ (x6_3 : Int) := of_decide_eq_true (by first | (with_reducible assumption) | assumption)
             have q222 : x6_3 < (l0_3.length : Int) := of_decide_eq_true (by first | (with_reducible assumption) | assumption)
             obtain ⟨ad222, e222, hx222_0, hx222_1⟩ := at_T66 HR0_3.out x6_3 p222 q222
             cases e222
             replace hx222_0 := (HB.out.cell (World.block_lt_of_cell? w _ hx222_0)).trans hx222_0
             replace hx222_1 := (HB.out.cell (World.block_lt_of_cell? w _ hx222_1)).trans hx222_1
             replace p222 := eq_true p222
             replace q222 := eq_true q222
             obtain ⟨hcz43_0, hcz43_1, hcz43_2, hcz43_3, hfz43_0, hfz43_1, hfz43_2, hfz43_3⟩ := zc4f BK219.out
             have p223 : 0 ≤ (x6_3 : Int) := of_decide_eq_true (by first | (with_reducible assumption) | assumption)
             have q223 : x6_3 < (l1_3.length : Int) := of_decide_eq_true (by first | (with_reducible assumption) | assumption)
             obtain ⟨ad223, e223, hx223_0, hx223_1⟩ := at_T66 HR1_3.out x6_3 p223 q223
             cases e223
             replace hx223_0 := (HB.out.cell (World.block_lt_of_cell? w _ hx223_0)).trans hx223_0
             replace hx223_1 := (HB.out.cell (World.block_lt_of_cell? w _ hx223_1)).trans hx223_1
             replace p223 := eq_true p223
             replace q223 := eq_true q223
             go_wp2
             repeat (go_quiet (fail); try go_wp2)
             go_roundg k3
             case measure => have := HJ2.out; have := HK2.out; have := HK3.out; omega
             case rel => exact ⟨(wrap64 (x6_3 + 1)), (by first | rfl | (simp; done) | (simp [*]; done)), H', ⟨by have := HJ2.out; have := HK2.out; have := HK3.out; omega⟩, ⟨by exact zK BK218.out⟩, ⟨by exact zK BK219.out⟩, ⟨by exact zB2 HB.out GE218.out GE219.out⟩⟩
           ·rw [if_neg c36] at H
            exact absurd H (by simp)
          ·rw [if_neg c35] at H
           exact absurd H (by simp)
         ·rw [if_neg c34] at H
          have c34b0 : decide (x6_3 < (l0_3.length : Int)) = false := decide_eq_false c34
          clear c34
          obtain rfl := Option.some.inj H
          have hnb44 := NB218_219.out
          have hnc44 := NB219_218.out
          obtain ⟨hcz45_0, hcz45_1, hcz45_2, hcz45_3, hfz45_0, hfz45_1, hfz45_2, hfz45_3⟩ := zc4f BK218.out
          go_wp2
          repeat (go_quiet (fail); try go_wp2)
          go_ret
          exact ⟨by first | rfl | (simp [errW_none, errW_some] <;> rfl) | (simp [*, errW_none, errW_some] <;> rfl), by exact zB2 HB.out GE218.out GE219.out⟩

/-! ### laws_FnPkgOne: function 5 -/
mutual
def laws_FnPkgOne.j0 : Nat → List Int → List Int → Bool → Option (Bool)
 | 0, _, _, _ => none
 | k + 1, x0, x1, x16 => if x16 = true then (some true) else ((spec_DrawPkgText.f k x0).bind fun bt224 => ((spec_DrawPkgText.f k x1).bind fun bt233 => ((impl_PkgText.f k bt224.1 bt224.2.1 bt224.2.2.1 bt224.2.2.2).bind fun t242 => ((impl_PkgText.f k bt233.1 bt233.2.1 bt233.2.2.1 bt233.2.2.2).bind fun t243 => ((spec_PkgText.f k bt224.1 bt224.2.1 bt224.2.2.1 bt224.2.2.2).bind fun t244 => (if t242.toList = t244.toList then ((spec_PkgText.f k bt233.1 bt233.2.1 bt233.2.2.1 bt233.2.2.2).bind fun t245 => (if t243.toList = t245.toList then (if t242.toList = ([] : List UInt8) then (laws_FnPkgOne.j1 k t242 t243 true bt224.1 bt224.2.1 bt224.2.2.1 bt224.2.2.2 bt233.1 bt233.2.1 bt233.2.2.1 bt233.2.2.2) else (laws_FnPkgOne.j1 k t242 t243 (t243.toList == ([] : List UInt8)) bt224.1 bt224.2.1 bt224.2.2.1 bt224.2.2.2 bt233.1 bt233.2.1 bt233.2.2.1 bt233.2.2.2)) else (laws_FnPkgOne.j1 k t242 t243 true bt224.1 bt224.2.1 bt224.2.2.1 bt224.2.2.2 bt233.1 bt233.2.1 bt233.2.2.1 bt233.2.2.2))) else (laws_FnPkgOne.j1 k t242 t243 true bt224.1 bt224.2.1 bt224.2.2.1 bt224.2.2.2 bt233.1 bt233.2.1 bt233.2.2.1 bt233.2.2.2)))))))
def laws_FnPkgOne.j1 : Nat → ByteArray → ByteArray → Bool → Int → Int → List (S63) → List (S66) → Int → Int → List (S63) → List (S66) → Option (Bool)
 | 0, _, _, _, _, _, _, _, _, _, _, _ => none
 | k + 1, x7, x8, x42, x233000, x233001, x233002, x233003, x242000, x242001, x242002, x242003 => if x42 = true then ((spec_PkgText.f k x233000 x233001 x233002 x233003).bind fun t246 => (if x7.toList = t246.toList then ((spec_PkgText.f k x242000 x242001 x242002 x242003).bind fun t247 => (some (x8.toList == t247.toList))) else (none))) else ((laws_luPkg.f k x233000 x233001 x233002 x233003 x242000 x242001 x242002 x242003).bind fun t248 => (some ((x7.toList == x8.toList) == t248)))
end
def laws_FnPkgOne.f (k : Nat) (l0 : List Int) (l1 : List Int) : Option (Bool) := if (l0.length : Int) > 1048576 then (laws_FnPkgOne.j0 k l0 l1 true) else (laws_FnPkgOne.j0 k l0 l1 (decide ((l1.length : Int) > 1048576)))
theorem laws_FnPkgOne.mono_l : ∀ k, (∀ y0 y1 y2, LeO (laws_FnPkgOne.j0 k y0 y1 y2) (laws_FnPkgOne.j0 (k + 1) y0 y1 y2)) ∧ (∀ y0 y1 y2 y3 y4 y5 y6 y7 y8 y9 y10, LeO (laws_FnPkgOne.j1 k y0 y1 y2 y3 y4 y5 y6 y7 y8 y9 y10) (laws_FnPkgOne.j1 (k + 1) y0 y1 y2 y3 y4 y5 y6 y7 y8 y9 y10))
 | 0 => ⟨fun _ _ _ r h => by simp [laws_FnPkgOne.j0] at h, fun _ _ _ _ _ _ _ _ _ _ _ r h => by simp [laws_FnPkgOne.j1] at h⟩
 | k + 1 => by
  obtain ⟨ih0, ih1⟩ := laws_FnPkgOne.mono_l k
  refine ⟨?_, ?_⟩
  ·intro y0 y1 y2
   unfold laws_FnPkgOne.j0
   repeat' first
   | (with_reducible exact ih0 _ _ _)
   | (with_reducible exact ih1 _ _ _ _ _ _ _ _ _ _ _)
   | (with_reducible exact impl_PkgText.mono _ _ _ _ _)
   | (with_reducible exact laws_luPkg.mono _ _ _ _ _ _ _ _ _)
   | (with_reducible exact spec_DrawPkgText.mono _ _)
   | (with_reducible exact spec_PkgText.mono _ _ _ _ _)
   | (with_reducible exact LeO.refl _)
   | (with_reducible exact LeO.none _)
   | (with_reducible refine LeO.ite ?_ ?_)
   | (with_reducible refine LeO.bind ?_ (fun _ => ?_))
   | exact ih0 _ _ _
   | exact ih1 _ _ _ _ _ _ _ _ _ _ _
   | exact impl_PkgText.mono _ _ _ _ _
   | exact laws_luPkg.mono _ _ _ _ _ _ _ _ _
   | exact spec_DrawPkgText.mono _ _
   | exact spec_PkgText.mono _ _ _ _ _
   | exact LeO.none _
   | refine LeO.ite ?_ ?_
   | refine LeO.bind ?_ (fun _ => ?_)
  ·intro y0 y1 y2 y3 y4 y5 y6 y7 y8 y9 y10
   unfold laws_FnPkgOne.j1
   repeat' first
   | (with_reducible exact ih0 _ _ _)
   | (with_reducible exact ih1 _ _ _ _ _ _ _ _ _ _ _)
   | (with_reducible exact impl_PkgText.mono _ _ _ _ _)
   | (with_reducible exact laws_luPkg.mono _ _ _ _ _ _ _ _ _)
   | (with_reducible exact spec_DrawPkgText.mono _ _)
   | (with_reducible exact spec_PkgText.mono _ _ _ _ _)
   | (with_reducible exact LeO.refl _)
   | (with_reducible exact LeO.none _)
   | (with_reducible refine LeO.ite ?_ ?_)
   | (with_reducible refine LeO.bind ?_ (fun _ => ?_))
   | exact ih0 _ _ _
   | exact ih1 _ _ _ _ _ _ _ _ _ _ _
   | exact impl_PkgText.mono _ _ _ _ _
   | exact laws_luPkg.mono _ _ _ _ _ _ _ _ _
   | exact spec_DrawPkgText.mono _ _
   | exact spec_PkgText.mono _ _ _ _ _
   | exact LeO.none _
   | refine LeO.ite ?_ ?_
   | refine LeO.bind ?_ (fun _ => ?_)
theorem laws_FnPkgOne.mono : ∀ a0 a1 k, LeO (laws_FnPkgOne.f k a0 a1) (laws_FnPkgOne.f (k + 1) a0 a1) := by
 intro a0 a1 k
 obtain ⟨ih0, ih1⟩ := laws_FnPkgOne.mono_l k
 unfold laws_FnPkgOne.f
 repeat' first
   | (with_reducible exact ih0 _ _ _)
   | (with_reducible exact ih1 _ _ _ _ _ _ _ _ _ _ _)
   | (with_reducible exact impl_PkgText.mono _ _ _ _ _)
   | (with_reducible exact laws_luPkg.mono _ _ _ _ _ _ _ _ _)
   | (with_reducible exact spec_DrawPkgText.mono _ _)
   | (with_reducible exact spec_PkgText.mono _ _ _ _ _)
   | (with_reducible exact LeO.refl _)
   | (with_reducible exact LeO.none _)
   | (with_reducible refine LeO.ite ?_ ?_)
   | (with_reducible refine LeO.bind ?_ (fun _ => ?_))
   | exact ih0 _ _ _
   | exact ih1 _ _ _ _ _ _ _ _ _ _ _
   | exact impl_PkgText.mono _ _ _ _ _
   | exact laws_luPkg.mono _ _ _ _ _ _ _ _ _
   | exact spec_DrawPkgText.mono _ _
   | exact spec_PkgText.mono _ _ _ _ _
   | exact LeO.none _
   | refine LeO.ite ?_ ?_
   | refine LeO.bind ?_ (fun _ => ?_)
set_option maxHeartbeats 8000000 in
set_option maxRecDepth 100000 in
theorem laws_FnPkgOne.calls (k : Nat) (A0 : Option Addr) (c0 : Nat) (l0 : List Int) (A1 : Option Addr) (c1 : Nat) (l1 : List Int) (r : Bool) (w : World) (hr0 : Kd.C (Kd.int .u8) w A0 l0.length l0) (hc0 : l0.length ≤ c0) (hr1 : Kd.C (Kd.int .u8) w A1 l1.length l1) (hc1 : l1.length ≤ c1) (h : laws_FnPkgOne.f k l0 l1 = some r) :
  Calls Tryd.prog 5 #[.slice A0 l0.length c0, .slice A1 l1.length c1] w fun e w' => e = .returned (.bool r) ∧ Below w.heap.size w w' := by
 have hu26 := Tryd.underlying26
 have HR0 := Aside0.mk hr0
 have HC0 := Aside0.mk hc0
 clear hr0 hc0
 have HR1 := Aside0.mk hr1
 have HC1 := Aside0.mk hc1
 clear hr1 hc1
 have HB := Aside0.mk (Below.refl w.heap.size w)
 have H : (if (l0.length : Int) > 1048576 then (laws_FnPkgOne.j0 k l0 l1 true) else (laws_FnPkgOne.j0 k l0 l1 (decide ((l1.length : Int) > 1048576)))) = some r := h
 clear h
 have HC3 := Aside0.mk H
 clear H
 go_enter Tryd.func5, Tryd.ntmps5
 go_upto_region 1 with (fail)
 go_cut [16] (fun v16 wc => ∃ (kq : Nat) (x16_2 : Bool), v16 = .bool x16_2 ∧ Aside0 (laws_FnPkgOne.j0 kq l0 l1 x16_2 = some r) ∧ Aside0 (kq ≤ k) ∧ Aside0 (Below w.heap.size w wc))
 case first =>
  have H := HC3.out
  clear HC3
  by_cases c4 : (l0.length : Int) > 1048576
  ·rw [if_pos c4] at H
   have c4b0 : decide (1048576 < (l0.length : Int)) = true := decide_eq_true c4
   have c4b1 : decide (1048576 < l0.length) = true := decide_eq_true (by omega)
   clear c4
   (first | rw [c4b0] | (simp only [i64_w, i32_w]; rw [c4b0]) | skip)
   have H' := Aside0.mk H
   clear H
   go_wp2
   go_meet
   case rel => exact ⟨_, (true), (by first | rfl | (simp; done) | (simp [*]; done)), H', ⟨by first | omega | exact Nat.le_refl _⟩, ⟨by exact zB HB.out⟩⟩
  ·rw [if_neg c4] at H
   have c4b0 : decide (1048576 < (l0.length : Int)) = false := decide_eq_false c4
   have c4b1 : decide (1048576 < l0.length) = false := decide_eq_false (by omega)
   clear c4
   (first | rw [c4b0] | (simp only [i64_w, i32_w]; rw [c4b0]) | skip)
   have H' := Aside0.mk H
   clear H
   go_wp2
   go_meet
   case rel => exact ⟨_, (decide ((l1.length : Int) > 1048576)), (by first | rfl | (simp; done) | (simp [*]; done)), H', ⟨by first | omega | exact Nat.le_refl _⟩, ⟨by exact zB HB.out⟩⟩
 case rest =>
  clear HC3
  try clear c1
  try clear p2
  try clear c4
  try clear c4b0
  try clear c4b1
  obtain ⟨kq, x16_2, rfl, HA, HJ2, HB⟩ := hcut
  cases kq with
  | zero => exact absurd HA.out (by simp [laws_FnPkgOne.j0])
  | succ kj2 =>
   have H := HA.out
   clear HA
   simp only [laws_FnPkgOne.j0] at H
   by_cases c5 : x16_2 = true
   ·subst c5
    have H1 : (some true) = some r := by rw [if_pos rfl] at H; exact H
    clear H
    have H := H1
    clear H1
    obtain rfl := Option.some.inj H
    go_wp2
    go_ret
    exact ⟨by first | rfl | (simp [errW_none, errW_some] <;> rfl) | (simp [*, errW_none, errW_some] <;> rfl), by exact zB HB.out⟩
   ·replace c5 := Bool.eq_false_iff.mpr c5
    subst c5
    have H1 : ((spec_DrawPkgText.f kj2 l0).bind fun bt224 => ((spec_DrawPkgText.f kj2 l1).bind fun bt233 => ((impl_PkgText.f kj2 bt224.1 bt224.2.1 bt224.2.2.1 bt224.2.2.2).bind fun t242 => ((impl_PkgText.f kj2 bt233.1 bt233.2.1 bt233.2.2.1 bt233.2.2.2).bind fun t243 => ((spec_PkgText.f kj2 bt224.1 bt224.2.1 bt224.2.2.1 bt224.2.2.2).bind fun t244 => (if t242.toList = t244.toList then ((spec_PkgText.f kj2 bt233.1 bt233.2.1 bt233.2.2.1 bt233.2.2.2).bind fun t245 => (if t243.toList = t245.toList then (if t242.toList = ([] : List UInt8) then (laws_FnPkgOne.j1 kj2 t242 t243 true bt224.1 bt224.2.1 bt224.2.2.1 bt224.2.2.2 bt233.1 bt233.2.1 bt233.2.2.1 bt233.2.2.2) else (laws_FnPkgOne.j1 kj2 t242 t243 (t243.toList == ([] : List UInt8)) bt224.1 bt224.2.1 bt224.2.2.1 bt224.2.2.2 bt233.1 bt233.2.1 bt233.2.2.1 bt233.2.2.2)) else (laws_FnPkgOne.j1 kj2 t242 t243 true bt224.1 bt224.2.1 bt224.2.2.1 bt224.2.2.2 bt233.1 bt233.2.1 bt233.2.2.1 bt233.2.2.2))) else (laws_FnPkgOne.j1 kj2 t242 t243 true bt224.1 bt224.2.1 bt224.2.2.1 bt224.2.2.2 bt233.1 bt233.2.1 bt233.2.2.1 bt233.2.2.2))))))) = some r := by rw [if_neg (show ¬ (false = true) by decide)] at H; exact H
    clear H
    have H := H1
    clear H1
    replace H := Option.bind_eq_some_iff.mp H
    obtain ⟨⟨t224, t225, t226, t229⟩, A60, H⟩ := H
    replace H : ((spec_DrawPkgText.f kj2 l1).bind fun bt233 => ((impl_PkgText.f kj2 t224 t225 t226 t229).bind fun t242 => ((impl_PkgText.f kj2 bt233.1 bt233.2.1 bt233.2.2.1 bt233.2.2.2).bind fun t243 => ((spec_PkgText.f kj2 t224 t225 t226 t229).bind fun t244 => (if t242.toList = t244.toList then ((spec_PkgText.f kj2 bt233.1 bt233.2.1 bt233.2.2.1 bt233.2.2.2).bind fun t245 => (if t243.toList = t245.toList then (if t242.toList = ([] : List UInt8) then (laws_FnPkgOne.j1 kj2 t242 t243 true t224 t225 t226 t229 bt233.1 bt233.2.1 bt233.2.2.1 bt233.2.2.2) else (laws_FnPkgOne.j1 kj2 t242 t243 (t243.toList == ([] : List UInt8)) t224 t225 t226 t229 bt233.1 bt233.2.1 bt233.2.2.1 bt233.2.2.2)) else (laws_FnPkgOne.j1 kj2 t242 t243 true t224 t225 t226 t229 bt233.1 bt233.2.1 bt233.2.2.1 bt233.2.2.2))) else (laws_FnPkgOne.j1 kj2 t242 t243 true t224 t225 t226 t229 bt233.1 bt233.2.1 bt233.2.2.1 bt233.2.2.2)))))) = some r := H
    have A6 := Aside0.mk A60
    clear A60
    replace H := Option.bind_eq_some_iff.mp H
    obtain ⟨⟨t233, t234, t235, t238⟩, A70, H⟩ := H
    replace H : ((impl_PkgText.f kj2 t224 t225 t226 t229).bind fun t242 => ((impl_PkgText.f kj2 t233 t234 t235 t238).bind fun t243 => ((spec_PkgText.f kj2 t224 t225 t226 t229).bind fun t244 => (if t242.toList = t244.toList then ((spec_PkgText.f kj2 t233 t234 t235 t238).bind fun t245 => (if t243.toList = t245.toList then (if t242.toList = ([] : List UInt8) then (laws_FnPkgOne.j1 kj2 t242 t243 true t224 t225 t226 t229 t233 t234 t235 t238) else (laws_FnPkgOne.j1 kj2 t242 t243 (t243.toList == ([] : List UInt8)) t224 t225 t226 t229 t233 t234 t235 t238)) else (laws_FnPkgOne.j1 kj2 t242 t243 true t224 t225 t226 t229 t233 t234 t235 t238))) else (laws_FnPkgOne.j1 kj2 t242 t243 true t224 t225 t226 t229 t233 t234 t235 t238))))) = some r := H
    have A7 := Aside0.mk A70
    clear A70
    replace H := Option.bind_eq_some_iff.mp H
    obtain ⟨t242, A80, H⟩ := H
    replace H : ((impl_PkgText.f kj2 t233 t234 t235 t238).bind fun t243 => ((spec_PkgText.f kj2 t224 t225 t226 t229).bind fun t244 => (if t242.toList = t244.toList then ((spec_PkgText.f kj2 t233 t234 t235 t238).bind fun t245 => (if t243.toList = t245.toList then (if t242.toList = ([] : List UInt8) then (laws_FnPkgOne.j1 kj2 t242 t243 true t224 t225 t226 t229 t233 t234 t235 t238) else (laws_FnPkgOne.j1 kj2 t242 t243 (t243.toList == ([] : List UInt8)) t224 t225 t226 t229 t233 t234 t235 t238)) else (laws_FnPkgOne.j1 kj2 t242 t243 true t224 t225 t226 t229 t233 t234 t235 t238))) else (laws_FnPkgOne.j1 kj2 t242 t243 true t224 t225 t226 t229 t233 t234 t235 t238)))) = some r := H
    have A8 := Aside0.mk A80
    clear A80
    replace H := Option.bind_eq_some_iff.mp H
    obtain ⟨t243, A90, H⟩ := H
    replace H : ((spec_PkgText.f kj2 t224 t225 t226 t229).bind fun t244 => (if t242.toList = t244.toList then ((spec_PkgText.f kj2 t233 t234 t235 t238).bind fun t245 => (if t243.toList = t245.toList then (if t242.toList = ([] : List UInt8) then (laws_FnPkgOne.j1 kj2 t242 t243 true t224 t225 t226 t229 t233 t234 t235 t238) else (laws_FnPkgOne.j1 kj2 t242 t243 (t243.toList == ([] : List UInt8)) t224 t225 t226 t229 t233 t234 t235 t238)) else (laws_FnPkgOne.j1 kj2 t242 t243 true t224 t225 t226 t229 t233 t234 t235 t238))) else (laws_FnPkgOne.j1 kj2 t242 t243 true t224 t225 t226 t229 t233 t234 t235 t238))) = some r := H
    have A9 := Aside0.mk A90
    clear A90
    have HC10 := Aside0.mk H
    clear H
    go_upto_region 7 with (first | ((with_reducible refine gate_callee (f := 8) rfl ?_); refine goesL_ (some 18) rfl rfl Tryd.func8 (by kernel_rfl) rfl #[.slice A0 l0.length c0] rfl (by (try simp only [zm1, zm2, zm3]); first | done | rfl | (simp only [List.length_drop, List.length_take]; rfl)) ?_; (with_reducible refine (spec_DrawPkgText.calls kj2 _ _ l0 t224 t225 t226 t229 _ ?side1 ?side2 A6.out).mono ?_); (case side1 => exact zC (Kd.C_below HR0.out HB.out)); (case side2 => exact HC0.out); rintro e w11 ⟨v227, v230, rfl, ho0, ho1, hb⟩; refine ⟨_, rfl, ?_⟩; have n0_ := Aside0.mk (Kd.R_lower ho0 (below_size (by exact zB HB.out))); have n1_ := Aside0.mk (Kd.R_lower ho1 (below_size (by exact zB HB.out))); have n2_ := Aside0.mk (below_step (by exact zB HB.out) hb); clear HB; have HO228 := n0_; have HO231 := n1_; have HB := n2_; clear n0_ n1_ n2_; (try clear hb); (try clear hb2); (try clear hk); (try clear hi); (try clear ho0); (try clear ho1)) | ((with_reducible refine gate_dst (N := 5) rfl ?_); (try (refine gate_guard (by rfl) ?_; dsimp only)); refine box_event ?hg (N := 5) ?hd (cs := #[.int .i64 0, .int .i64 0, .slice none 0 0, .slice none 0 0]) (t := 26) ?hr ?_; (case hd => rfl); (case hg => rfl); (case hr => first | (go_simp; done) | (go_simp; rfl)); intro gb232 hg w12 hbox hb; have n0_ := Aside0.mk (Kd.R_below (by exact zR HO228.out) hb); have n1_ := Aside0.mk (Kd.R_below (by exact zR HO231.out) hb); have n2_ := Aside0.mk (below_step (by exact zB HB.out) hb); have n3_ := Aside0.mk (hbox); have n4_ := Aside0.mk ((by rw [hg]; exact (below_size (by exact zB HB.out)) : w.heap.size ≤ gb232)); have n5_ := Aside0.mk ((by rw [hg]; exact (below_size (by exact zB HB.out)) : w.heap.size ≤ gb232)); clear HO228; clear HO231; clear HB; have HO228 := n0_; have HO231 := n1_; have HB := n2_; have BK232 := n3_; have GW232 := n4_; have GE232 := n5_; clear n0_ n1_ n2_ n3_ n4_ n5_; clear hb hbox hg; obtain ⟨hcz13_0, hcz13_1, hcz13_2, hcz13_3, hfz13_0, hfz13_1, hfz13_2, hfz13_3⟩ := zc4f BK232.out; obtain ⟨Ao14, co14, eo14⟩ := Kd.R_slice HO228.out; subst eo14; obtain ⟨Ao15, co15, eo15⟩ := Kd.R_slice HO231.out; subst eo15) | ((with_reducible refine gate_callee (f := 8) rfl ?_); refine goesL_ (some 20) rfl rfl Tryd.func8 (by kernel_rfl) rfl #[.slice A1 l1.length c1] rfl (by (try simp only [zm1, zm2, zm3]); first | done | rfl | (simp only [List.length_drop, List.length_take]; rfl)) ?_; (with_reducible refine (spec_DrawPkgText.calls kj2 _ _ l1 t233 t234 t235 t238 _ ?side1 ?side2 A7.out).mono ?_); (case side1 => exact Kd.C_below HR1.out (by exact zB1 HB.out GE232.out)); (case side2 => exact HC1.out); rintro e w16 ⟨v236, v239, rfl, ho0, ho1, hb⟩; refine ⟨_, rfl, ?_⟩; have n0_ := Aside0.mk (Kd.R_elder' (by exact zR (Kd.R_mono (Kd.R_far (p := ⟨gb232, 3, none⟩) (Kd.R_far (p := ⟨gb232, 2, none⟩) (Kd.R_far (p := ⟨gb232, 1, none⟩) (Kd.R_far (p := ⟨gb232, 0, none⟩) (Kd.R_types HO228.out BK232.out (by decide)) (fun _ hk => hk.2) (.int .i64 t224)) (fun _ hk => hk.2) (.int .i64 t225)) (fun _ hk => hk.2) (.slice Ao14 t226.length co14)) (fun _ hk => hk.2) (.slice Ao15 t229.length co15)) (fun _ h_ => h_.1))) (Kd.R_base ho0) hb); have n1_ := Aside0.mk (Kd.R_elder' (by exact zR (Kd.R_mono (Kd.R_far (p := ⟨gb232, 3, none⟩) (Kd.R_far (p := ⟨gb232, 2, none⟩) (Kd.R_far (p := ⟨gb232, 1, none⟩) (Kd.R_far (p := ⟨gb232, 0, none⟩) (Kd.R_types HO231.out BK232.out (by decide)) (fun _ hk => hk.2) (.int .i64 t224)) (fun _ hk => hk.2) (.int .i64 t225)) (fun _ hk => hk.2) (.slice Ao14 t226.length co14)) (fun _ hk => hk.2) (.slice Ao15 t229.length co15)) (fun _ h_ => h_.1))) (Kd.R_base ho1) hb); have n2_ := Aside0.mk (Kd.R_lower (Kd.R_new' ho0 (Kd.R_lt (by exact zR (Kd.R_mono (Kd.R_far (p := ⟨gb232, 3, none⟩) (Kd.R_far (p := ⟨gb232, 2, none⟩) (Kd.R_far (p := ⟨gb232, 1, none⟩) (Kd.R_far (p := ⟨gb232, 0, none⟩) (Kd.R_types HO228.out BK232.out (by decide)) (fun _ hk => hk.2) (.int .i64 t224)) (fun _ hk => hk.2) (.int .i64 t225)) (fun _ hk => hk.2) (.slice Ao14 t226.length co14)) (fun _ hk => hk.2) (.slice Ao15 t229.length co15)) (fun _ h_ => h_.1))))) (below_size (by exact zB1 HB.out GE232.out))); have n3_ := Aside0.mk (Kd.R_lower (Kd.R_new' ho1 (Kd.R_lt (by exact zR (Kd.R_mono (Kd.R_far (p := ⟨gb232, 3, none⟩) (Kd.R_far (p := ⟨gb232, 2, none⟩) (Kd.R_far (p := ⟨gb232, 1, none⟩) (Kd.R_far (p := ⟨gb232, 0, none⟩) (Kd.R_types HO231.out BK232.out (by decide)) (fun _ hk => hk.2) (.int .i64 t224)) (fun _ hk => hk.2) (.int .i64 t225)) (fun _ hk => hk.2) (.slice Ao14 t226.length co14)) (fun _ hk => hk.2) (.slice Ao15 t229.length co15)) (fun _ h_ => h_.1))))) (below_size (by exact zB1 HB.out GE232.out))); have n4_ := Aside0.mk (blk_below (g := gb232) (o := .cells #[.int .i64 t224, .int .i64 t225, .slice Ao14 t226.length co14, .slice Ao15 t229.length co15] 26 (0, 0)) (by (with_reducible repeat (first | refine blk_drewN ?_ _ | refine blk_drew ?_ | refine blk_alloc ?_ _)); refine blk_put (cs := #[.int .i64 t224, .int .i64 t225, .slice Ao14 t226.length co14, .slice none 0 0]) ?_ 3 _ rfl; (with_reducible repeat (first | refine blk_drewN ?_ _ | refine blk_drew ?_ | refine blk_alloc ?_ _)); refine blk_put (cs := #[.int .i64 t224, .int .i64 t225, .slice none 0 0, .slice none 0 0]) ?_ 2 _ rfl; (with_reducible repeat (first | refine blk_drewN ?_ _ | refine blk_drew ?_ | refine blk_alloc ?_ _)); refine blk_put (cs := #[.int .i64 t224, .int .i64 0, .slice none 0 0, .slice none 0 0]) ?_ 1 _ rfl; (with_reducible repeat (first | refine blk_drewN ?_ _ | refine blk_drew ?_ | refine blk_alloc ?_ _)); refine blk_put (cs := #[.int .i64 0, .int .i64 0, .slice none 0 0, .slice none 0 0]) ?_ 0 _ rfl; exact zK BK232.out) hb); have n5_ := Aside0.mk (below_step (by exact zB1 HB.out GE232.out) hb); clear HO228; clear HO231; clear BK232; clear HB; have HO228 := n0_; have HO231 := n1_; have HO237 := n2_; have HO240 := n3_; have BK232 := n4_; have HB := n5_; clear n0_ n1_ n2_ n3_ n4_ n5_; (try clear hb); (try clear hb2); (try clear hk); (try clear hi); (try clear ho0); (try clear ho1)) | ((with_reducible refine gate_dst (N := 6) rfl ?_); (try (refine gate_guard (by rfl) ?_; dsimp only)); refine box_event ?hg (N := 6) ?hd (cs := #[.int .i64 0, .int .i64 0, .slice none 0 0, .slice none 0 0]) (t := 26) ?hr ?_; (case hd => rfl); (case hg => rfl); (case hr => first | (go_simp; done) | (go_simp; rfl)); intro gb241 hg w17 hbox hb; have n0_ := Aside0.mk (Kd.R_below (by exact zR HO228.out) hb); have n1_ := Aside0.mk (Kd.R_below (by exact zR HO231.out) hb); have n2_ := Aside0.mk (Kd.R_below (by exact zR HO237.out) hb); have n3_ := Aside0.mk (Kd.R_below (by exact zR HO240.out) hb); have n4_ := Aside0.mk (blk_below (g := gb232) (o := .cells #[.int .i64 t224, .int .i64 t225, .slice Ao14 t226.length co14, .slice Ao15 t229.length co15] 26 (0, 0)) (by exact zK BK232.out) hb); have n5_ := Aside0.mk (below_step (by exact zB1 HB.out GE232.out) hb); have n6_ := Aside0.mk (hbox); have n7_ := Aside0.mk ((by rw [hg]; exact (below_size (by exact zB1 HB.out GE232.out)) : w.heap.size ≤ gb241)); have n8_ := Aside0.mk ((by rw [hg]; exact (below_size (by exact zB1 HB.out GE232.out)) : w.heap.size ≤ gb241)); have n9_ := Aside0.mk ((by rw [hg]; exact Nat.ne_of_lt (blk_lt (g := gb232) (o := .cells #[.int .i64 t224, .int .i64 t225, .slice Ao14 t226.length co14, .slice Ao15 t229.length co15] 26 (0, 0)) (by exact zK BK232.out)) : gb232 ≠ gb241)); have n10_ := Aside0.mk ((by rw [hg]; exact Nat.ne_of_gt (blk_lt (g := gb232) (o := .cells #[.int .i64 t224, .int .i64 t225, .slice Ao14 t226.length co14, .slice Ao15 t229.length co15] 26 (0, 0)) (by exact zK BK232.out)) : gb241 ≠ gb232)); clear HO228; clear HO231; clear HO237; clear HO240; clear BK232; clear HB; have HO228 := n0_; have HO231 := n1_; have HO237 := n2_; have HO240 := n3_; have BK232 := n4_; have HB := n5_; have BK241 := n6_; have GW241 := n7_; have GE241 := n8_; have NB232_241 := n9_; have NB241_232 := n10_; clear n0_ n1_ n2_ n3_ n4_ n5_ n6_ n7_ n8_ n9_ n10_; clear hb hbox hg; have hnb18 := NB241_232.out; have hnc18 := NB232_241.out; obtain ⟨hcz19_0, hcz19_1, hcz19_2, hcz19_3, hfz19_0, hfz19_1, hfz19_2, hfz19_3⟩ := zc4f BK241.out; obtain ⟨Ao20, co20, eo20⟩ := Kd.R_slice HO237.out; subst eo20; obtain ⟨Ao21, co21, eo21⟩ := Kd.R_slice HO240.out; subst eo21; obtain ⟨hcz22_0, hcz22_1, hcz22_2, hcz22_3, hfz22_0, hfz22_1, hfz22_2, hfz22_3⟩ := zc4f BK232.out) | ((with_reducible refine gate_callee (f := 9) rfl ?_); refine goesL_ (some 22) rfl rfl Tryd.func9 (by kernel_rfl) rfl #[.agg #[.int .i64 t224, .int .i64 t225, .slice Ao14 t226.length co14, .slice Ao15 t229.length co15]] rfl (by (try simp only [zm1, zm2, zm3]); first | done | rfl | (simp only [List.length_drop, List.length_take]; rfl)) ?_; (with_reducible refine (impl_PkgText.calls kj2 t224 t225 _ _ t226 _ _ t229 t242 _ ?side1 ?side2 ?side3 ?side4 A8.out).mono ?_); (case side1 => refine (Kd.R_reads' (e := 63) (base := w.heap.size) (ok := fun k_ => (True ∧ some k_ ≠ (.slice Ao20 t235.length co20 : Value).ownBlock)) (n := t226.length) (c := co14) ?_).2.2; exact (by exact zR (Kd.R_mono (Kd.R_far (p := ⟨gb241, 3, none⟩) (Kd.R_far (p := ⟨gb241, 2, none⟩) (Kd.R_far (p := ⟨gb241, 1, none⟩) (Kd.R_far (p := ⟨gb241, 0, none⟩) (Kd.R_types HO228.out BK241.out (by decide)) (fun _ hk => hk.2) (.int .i64 t233)) (fun _ hk => hk.2) (.int .i64 t234)) (fun _ hk => hk.2) (.slice Ao20 t235.length co20)) (fun _ hk => hk.2) (.slice Ao21 t238.length co21)) (fun _ h_ => h_.1)))); (case side2 => exact (Kd.R_reads' HO228.out).2.1); (case side3 => refine (Kd.R_reads' (e := 66) (base := w.heap.size) (ok := fun k_ => (True ∧ some k_ ≠ (.slice Ao21 t238.length co21 : Value).ownBlock)) (n := t229.length) (c := co15) ?_).2.2; exact (by exact zR (Kd.R_mono (Kd.R_far (p := ⟨gb241, 3, none⟩) (Kd.R_far (p := ⟨gb241, 2, none⟩) (Kd.R_far (p := ⟨gb241, 1, none⟩) (Kd.R_far (p := ⟨gb241, 0, none⟩) (Kd.R_types HO231.out BK241.out (by decide)) (fun _ hk => hk.2) (.int .i64 t233)) (fun _ hk => hk.2) (.int .i64 t234)) (fun _ hk => hk.2) (.slice Ao20 t235.length co20)) (fun _ hk => hk.2) (.slice Ao21 t238.length co21)) (fun _ h_ => h_.1)))); (case side4 => exact (Kd.R_reads' HO231.out).2.1); rintro e w23 ⟨rfl, hb⟩; refine ⟨_, rfl, ?_⟩; have n0_ := Aside0.mk (Kd.R_below (by exact zR (Kd.R_mono (Kd.R_far (p := ⟨gb241, 3, none⟩) (Kd.R_far (p := ⟨gb241, 2, none⟩) (Kd.R_far (p := ⟨gb241, 1, none⟩) (Kd.R_far (p := ⟨gb241, 0, none⟩) (Kd.R_types HO228.out BK241.out (by decide)) (fun _ hk => hk.2) (.int .i64 t233)) (fun _ hk => hk.2) (.int .i64 t234)) (fun _ hk => hk.2) (.slice Ao20 t235.length co20)) (fun _ hk => hk.2) (.slice Ao21 t238.length co21)) (fun _ h_ => h_.1))) hb); have n1_ := Aside0.mk (Kd.R_below (by exact zR (Kd.R_mono (Kd.R_far (p := ⟨gb241, 3, none⟩) (Kd.R_far (p := ⟨gb241, 2, none⟩) (Kd.R_far (p := ⟨gb241, 1, none⟩) (Kd.R_far (p := ⟨gb241, 0, none⟩) (Kd.R_types HO231.out BK241.out (by decide)) (fun _ hk => hk.2) (.int .i64 t233)) (fun _ hk => hk.2) (.int .i64 t234)) (fun _ hk => hk.2) (.slice Ao20 t235.length co20)) (fun _ hk => hk.2) (.slice Ao21 t238.length co21)) (fun _ h_ => h_.1))) hb); have n2_ := Aside0.mk (Kd.R_below (by exact zR (Kd.R_mono (Kd.R_far (p := ⟨gb241, 3, none⟩) (Kd.R_far (p := ⟨gb241, 2, none⟩) (Kd.R_far (p := ⟨gb241, 1, none⟩) (Kd.R_far (p := ⟨gb241, 0, none⟩) (Kd.R_types HO237.out BK241.out (by decide)) (fun _ hk => hk.2) (.int .i64 t233)) (fun _ hk => hk.2) (.int .i64 t234)) (fun _ hk => hk.2) (.slice Ao20 t235.length co20)) (fun _ hk => hk.2) (.slice Ao21 t238.length co21)) (fun _ h_ => h_.1))) hb); have n3_ := Aside0.mk (Kd.R_below (by exact zR (Kd.R_mono (Kd.R_far (p := ⟨gb241, 3, none⟩) (Kd.R_far (p := ⟨gb241, 2, none⟩) (Kd.R_far (p := ⟨gb241, 1, none⟩) (Kd.R_far (p := ⟨gb241, 0, none⟩) (Kd.R_types HO240.out BK241.out (by decide)) (fun _ hk => hk.2) (.int .i64 t233)) (fun _ hk => hk.2) (.int .i64 t234)) (fun _ hk => hk.2) (.slice Ao20 t235.length co20)) (fun _ hk => hk.2) (.slice Ao21 t238.length co21)) (fun _ h_ => h_.1))) hb); have n4_ := Aside0.mk (blk_below (g := gb232) (o := .cells #[.int .i64 t224, .int .i64 t225, .slice Ao14 t226.length co14, .slice Ao15 t229.length co15] 26 (0, 0)) (by (with_reducible repeat (first | refine blk_drewN ?_ _ | refine blk_drew ?_ | refine blk_alloc ?_ _)); refine blk_far ?_ NB232_241.out _; (with_reducible repeat (first | refine blk_drewN ?_ _ | refine blk_drew ?_ | refine blk_alloc ?_ _)); refine blk_far ?_ NB232_241.out _; (with_reducible repeat (first | refine blk_drewN ?_ _ | refine blk_drew ?_ | refine blk_alloc ?_ _)); refine blk_far ?_ NB232_241.out _; (with_reducible repeat (first | refine blk_drewN ?_ _ | refine blk_drew ?_ | refine blk_alloc ?_ _)); refine blk_far ?_ NB232_241.out _; exact zK BK232.out) hb); have n5_ := Aside0.mk (blk_below (g := gb241) (o := .cells #[.int .i64 t233, .int .i64 t234, .slice Ao20 t235.length co20, .slice Ao21 t238.length co21] 26 (0, 0)) (by (with_reducible repeat (first | refine blk_drewN ?_ _ | refine blk_drew ?_ | refine blk_alloc ?_ _)); refine blk_put (cs := #[.int .i64 t233, .int .i64 t234, .slice Ao20 t235.length co20, .slice none 0 0]) ?_ 3 _ rfl; (with_reducible repeat (first | refine blk_drewN ?_ _ | refine blk_drew ?_ | refine blk_alloc ?_ _)); refine blk_put (cs := #[.int .i64 t233, .int .i64 t234, .slice none 0 0, .slice none 0 0]) ?_ 2 _ rfl; (with_reducible repeat (first | refine blk_drewN ?_ _ | refine blk_drew ?_ | refine blk_alloc ?_ _)); refine blk_put (cs := #[.int .i64 t233, .int .i64 0, .slice none 0 0, .slice none 0 0]) ?_ 1 _ rfl; (with_reducible repeat (first | refine blk_drewN ?_ _ | refine blk_drew ?_ | refine blk_alloc ?_ _)); refine blk_put (cs := #[.int .i64 0, .int .i64 0, .slice none 0 0, .slice none 0 0]) ?_ 0 _ rfl; exact zK BK241.out) hb); have n6_ := Aside0.mk (below_step (by exact zB2 HB.out GE232.out GE241.out) hb); clear HO228; clear HO231; clear HO237; clear HO240; clear BK232; clear BK241; clear HB; have HO228 := n0_; have HO231 := n1_; have HO237 := n2_; have HO240 := n3_; have BK232 := n4_; have BK241 := n5_; have HB := n6_; clear n0_ n1_ n2_ n3_ n4_ n5_ n6_; (try clear hb); (try clear hb2); (try clear hk); (try clear hi); obtain ⟨hcz24_0, hcz24_1, hcz24_2, hcz24_3, hfz24_0, hfz24_1, hfz24_2, hfz24_3⟩ := zc4f BK241.out) | ((with_reducible refine gate_callee (f := 9) rfl ?_); refine goesL_ (some 24) rfl rfl Tryd.func9 (by kernel_rfl) rfl #[.agg #[.int .i64 t233, .int .i64 t234, .slice Ao20 t235.length co20, .slice Ao21 t238.length co21]] rfl (by (try simp only [zm1, zm2, zm3]); first | done | rfl | (simp only [List.length_drop, List.length_take]; rfl)) ?_; (with_reducible refine (impl_PkgText.calls kj2 t233 t234 _ _ t235 _ _ t238 t243 _ ?side1 ?side2 ?side3 ?side4 A9.out).mono ?_); (case side1 => exact zC (Kd.R_reads' HO237.out).2.2); (case side2 => exact (Kd.R_reads' HO237.out).2.1); (case side3 => exact zC (Kd.R_reads' HO240.out).2.2); (case side4 => exact (Kd.R_reads' HO240.out).2.1); rintro e w25 ⟨rfl, hb⟩; refine ⟨_, rfl, ?_⟩; have n0_ := Aside0.mk (Kd.R_below (by exact zR HO228.out) hb); have n1_ := Aside0.mk (Kd.R_below (by exact zR HO231.out) hb); have n2_ := Aside0.mk (Kd.R_below (by exact zR HO237.out) hb); have n3_ := Aside0.mk (Kd.R_below (by exact zR HO240.out) hb); have n4_ := Aside0.mk (blk_below (g := gb232) (o := .cells #[.int .i64 t224, .int .i64 t225, .slice Ao14 t226.length co14, .slice Ao15 t229.length co15] 26 (0, 0)) (by exact zK BK232.out) hb); have n5_ := Aside0.mk (blk_below (g := gb241) (o := .cells #[.int .i64 t233, .int .i64 t234, .slice Ao20 t235.length co20, .slice Ao21 t238.length co21] 26 (0, 0)) (by exact zK BK241.out) hb); have n6_ := Aside0.mk (below_step (by exact zB2 HB.out GE232.out GE241.out) hb); clear HO228; clear HO231; clear HO237; clear HO240; clear BK232; clear BK241; clear HB; have HO228 := n0_; have HO231 := n1_; have HO237 := n2_; have HO240 := n3_; have BK232 := n4_; have BK241 := n5_; have HB := n6_; clear n0_ n1_ n2_ n3_ n4_ n5_ n6_; (try clear hb); (try clear hb2); (try clear hk); (try clear hi)))
    (try simp only [zp0, zp1, zp2, zp3, zp4])
    go_cut [42] (fun v42 wc => ∃ (kq : Nat) (x42_9 : Bool), v42 = .bool x42_9 ∧ Aside0 (laws_FnPkgOne.j1 kq t242 t243 x42_9 t224 t225 t226 t229 t233 t234 t235 t238 = some r) ∧ Aside0 (kq ≤ kj2) ∧ Aside0 (Kd.R k63 63 wc w.heap.size (fun k_ => some k_ ≠ ((.slice Ao20 t235.length co20) : Value).ownBlock) (.slice Ao14 t226.length co14) t226) ∧ Aside0 (Kd.R k66 66 wc w.heap.size (fun k_ => some k_ ≠ ((.slice Ao21 t238.length co21) : Value).ownBlock) (.slice Ao15 t229.length co15) t229) ∧ Aside0 (Kd.R k63 63 wc w.heap.size (fun k_ => some k_ ≠ ((.slice Ao14 t226.length co14) : Value).ownBlock) (.slice Ao20 t235.length co20) t235) ∧ Aside0 (Kd.R k66 66 wc w.heap.size (fun k_ => some k_ ≠ ((.slice Ao15 t229.length co15) : Value).ownBlock) (.slice Ao21 t238.length co21) t238) ∧ Aside0 (wc.heap[gb232]? = some (.cells #[.int .i64 t224, .int .i64 t225, (.slice Ao14 t226.length co14), (.slice Ao15 t229.length co15)] 26 (0, 0))) ∧ Aside0 (wc.heap[gb241]? = some (.cells #[.int .i64 t233, .int .i64 t234, (.slice Ao20 t235.length co20), (.slice Ao21 t238.length co21)] 26 (0, 0))) ∧ Aside0 (Below w.heap.size w wc))
    case first =>
     have H := HC10.out
     clear HC10
     replace H := Option.bind_eq_some_iff.mp H
     obtain ⟨t244, A260, H⟩ := H
     replace H : (if t242.toList = t244.toList then ((spec_PkgText.f kj2 t233 t234 t235 t238).bind fun t245 => (if t243.toList = t245.toList then (if t242.toList = ([] : List UInt8) then (laws_FnPkgOne.j1 kj2 t242 t243 true t224 t225 t226 t229 t233 t234 t235 t238) else (laws_FnPkgOne.j1 kj2 t242 t243 (t243.toList == ([] : List UInt8)) t224 t225 t226 t229 t233 t234 t235 t238)) else (laws_FnPkgOne.j1 kj2 t242 t243 true t224 t225 t226 t229 t233 t234 t235 t238))) else (laws_FnPkgOne.j1 kj2 t242 t243 true t224 t225 t226 t229 t233 t234 t235 t238)) = some r := H
     have A26 := Aside0.mk A260
     clear A260
     by_cases c27 : t242.toList = t244.toList
     ·rw [if_pos c27] at H
      have c27b0 : (t242.toList == t244.toList) = true := beq_iff_eq.mpr c27
      have c27b1 : (t242.toList != t244.toList) = false := bne_eq_false_iff_eq.mpr c27
      clear c27
      (first | rw [c27b0] | (simp only [i64_w, i32_w]; rw [c27b0]) | skip)
      replace H := Option.bind_eq_some_iff.mp H
      obtain ⟨t245, A280, H⟩ := H
      replace H : (if t243.toList = t245.toList then (if t242.toList = ([] : List UInt8) then (laws_FnPkgOne.j1 kj2 t242 t243 true t224 t225 t226 t229 t233 t234 t235 t238) else (laws_FnPkgOne.j1 kj2 t242 t243 (t243.toList == ([] : List UInt8)) t224 t225 t226 t229 t233 t234 t235 t238)) else (laws_FnPkgOne.j1 kj2 t242 t243 true t224 t225 t226 t229 t233 t234 t235 t238)) = some r := H
      have A28 := Aside0.mk A280
      clear A280
      by_cases c29 : t243.toList = t245.toList
      ·rw [if_pos c29] at H
       have c29b0 : (t243.toList == t245.toList) = true := beq_iff_eq.mpr c29
       have c29b1 : (t243.toList != t245.toList) = false := bne_eq_false_iff_eq.mpr c29
       clear c29
       by_cases c30 : t242.toList = ([] : List UInt8)
       ·rw [if_pos c30] at H
        have c30b0 : (t242.toList == ([] : List UInt8)) = true := beq_iff_eq.mpr c30
        have c30b1 : (t242.toList != ([] : List UInt8)) = false := bne_eq_false_iff_eq.mpr c30
        clear c30
        have H' := Aside0.mk H
        clear H
        have hnb31 := NB232_241.out
        have hnc31 := NB241_232.out
        obtain ⟨hcz32_0, hcz32_1, hcz32_2, hcz32_3, hfz32_0, hfz32_1, hfz32_2, hfz32_3⟩ := zc4f BK232.out
        go_wp2_with (first | ((with_reducible refine gate_callee (f := 10) rfl ?_); refine goesL_ (some 27) rfl rfl Tryd.func10 (by kernel_rfl) rfl #[.agg #[.int .i64 t224, .int .i64 t225, .slice Ao14 t226.length co14, .slice Ao15 t229.length co15]] rfl (by (try simp only [zm1, zm2, zm3]); first | done | rfl | (simp only [List.length_drop, List.length_take]; rfl)) ?_; (with_reducible refine (spec_PkgText.calls kj2 t224 t225 _ _ t226 _ _ t229 t244 _ ?side1 ?side2 ?side3 ?side4 A26.out).mono ?_); (case side1 => exact zC (Kd.R_reads' HO228.out).2.2); (case side2 => exact (Kd.R_reads' HO228.out).2.1); (case side3 => exact zC (Kd.R_reads' HO231.out).2.2); (case side4 => exact (Kd.R_reads' HO231.out).2.1); rintro e w33 ⟨rfl, hb⟩; refine ⟨_, rfl, ?_⟩; have n0_ := Aside0.mk (Kd.R_below (by exact zR HO228.out) hb); have n1_ := Aside0.mk (Kd.R_below (by exact zR HO231.out) hb); have n2_ := Aside0.mk (Kd.R_below (by exact zR HO237.out) hb); have n3_ := Aside0.mk (Kd.R_below (by exact zR HO240.out) hb); have n4_ := Aside0.mk (blk_below (g := gb232) (o := .cells #[.int .i64 t224, .int .i64 t225, .slice Ao14 t226.length co14, .slice Ao15 t229.length co15] 26 (0, 0)) (by exact zK BK232.out) hb); have n5_ := Aside0.mk (blk_below (g := gb241) (o := .cells #[.int .i64 t233, .int .i64 t234, .slice Ao20 t235.length co20, .slice Ao21 t238.length co21] 26 (0, 0)) (by exact zK BK241.out) hb); have n6_ := Aside0.mk (below_step (by exact zB2 HB.out GE232.out GE241.out) hb); clear HO228; clear HO231; clear HO237; clear HO240; clear BK232; clear BK241; clear HB; have HO228 := n0_; have HO231 := n1_; have HO237 := n2_; have HO240 := n3_; have BK232 := n4_; have BK241 := n5_; have HB := n6_; clear n0_ n1_ n2_ n3_ n4_ n5_ n6_; (try clear hb); (try clear hb2); (try clear hk); (try clear hi); obtain ⟨hcz34_0, hcz34_1, hcz34_2, hcz34_3, hfz34_0, hfz34_1, hfz34_2, hfz34_3⟩ := zc4f BK241.out) | (go_at_call 10; (with_reducible refine (spec_PkgText.calls kj2 t233 t234 _ _ t235 _ _ t238 t245 _ ?side1 ?side2 ?side3 ?side4 A28.out).mono ?_); (case side1 => exact zC (Kd.R_reads' HO237.out).2.2); (case side2 => exact (Kd.R_reads' HO237.out).2.1); (case side3 => exact zC (Kd.R_reads' HO240.out).2.2); (case side4 => exact (Kd.R_reads' HO240.out).2.1); rintro e w35 ⟨rfl, hb⟩; have n0_ := Aside0.mk (Kd.R_below (by exact zR HO228.out) hb); have n1_ := Aside0.mk (Kd.R_below (by exact zR HO231.out) hb); have n2_ := Aside0.mk (Kd.R_below (by exact zR HO237.out) hb); have n3_ := Aside0.mk (Kd.R_below (by exact zR HO240.out) hb); have n4_ := Aside0.mk (blk_below (g := gb232) (o := .cells #[.int .i64 t224, .int .i64 t225, .slice Ao14 t226.length co14, .slice Ao15 t229.length co15] 26 (0, 0)) (by exact zK BK232.out) hb); have n5_ := Aside0.mk (blk_below (g := gb241) (o := .cells #[.int .i64 t233, .int .i64 t234, .slice Ao20 t235.length co20, .slice Ao21 t238.length co21] 26 (0, 0)) (by exact zK BK241.out) hb); have n6_ := Aside0.mk (below_step (by exact zB2 HB.out GE232.out GE241.out) hb); clear HO228; clear HO231; clear HO237; clear HO240; clear BK232; clear BK241; clear HB; have HO228 := n0_; have HO231 := n1_; have HO237 := n2_; have HO240 := n3_; have BK232 := n4_; have BK241 := n5_; have HB := n6_; clear n0_ n1_ n2_ n3_ n4_ n5_ n6_; (try clear hb); (try clear hb2); (try clear hk); (try clear hi)))
        go_meet
        case rel => exact ⟨_, (true), (by first | rfl | (simp; done) | (simp [*]; done)), H', ⟨by have := HJ2.out; first | omega | exact Nat.le_refl _⟩, ⟨by exact zR (Kd.R_mono HO228.out (fun _ hk => hk.2))⟩, ⟨by exact zR (Kd.R_mono HO231.out (fun _ hk => hk.2))⟩, ⟨by exact zR (Kd.R_mono HO237.out (fun _ hk => hk.2))⟩, ⟨by exact zR (Kd.R_mono HO240.out (fun _ hk => hk.2))⟩, ⟨by exact zK BK232.out⟩, ⟨by exact zK BK241.out⟩, ⟨by exact zB2 HB.out GE232.out GE241.out⟩⟩
       ·rw [if_neg c30] at H
        have c30b0 : (t242.toList == ([] : List UInt8)) = false := beq_eq_false_iff_ne.mpr c30
        have c30b1 : (t242.toList != ([] : List UInt8)) = true := bne_iff_ne.mpr c30
        have H' := Aside0.mk H
        clear H
        have hnb36 := NB232_241.out
        have hnc36 := NB241_232.out
        obtain ⟨hcz37_0, hcz37_1, hcz37_2, hcz37_3, hfz37_0, hfz37_1, hfz37_2, hfz37_3⟩ := zc4f BK232.out
        go_wp2_with (first | ((with_reducible refine gate_callee (f := 10) rfl ?_); refine goesL_ (some 27) rfl rfl Tryd.func10 (by kernel_rfl) rfl #[.agg #[.int .i64 t224, .int .i64 t225, .slice Ao14 t226.length co14, .slice Ao15 t229.length co15]] rfl (by (try simp only [zm1, zm2, zm3]); first | done | rfl | (simp only [List.length_drop, List.length_take]; rfl)) ?_; (with_reducible refine (spec_PkgText.calls kj2 t224 t225 _ _ t226 _ _ t229 t244 _ ?side1 ?side2 ?side3 ?side4 A26.out).mono ?_); (case side1 => exact zC (Kd.R_reads' HO228.out).2.2); (case side2 => exact (Kd.R_reads' HO228.out).2.1); (case side3 => exact zC (Kd.R_reads' HO231.out).2.2); (case side4 => exact (Kd.R_reads' HO231.out).2.1); rintro e w38 ⟨rfl, hb⟩; refine ⟨_, rfl, ?_⟩; have n0_ := Aside0.mk (Kd.R_below (by exact zR HO228.out) hb); have n1_ := Aside0.mk (Kd.R_below (by exact zR HO231.out) hb); have n2_ := Aside0.mk (Kd.R_below (by exact zR HO237.out) hb); have n3_ := Aside0.mk (Kd.R_below (by exact zR HO240.out) hb); have n4_ := Aside0.mk (blk_below (g := gb232) (o := .cells #[.int .i64 t224, .int .i64 t225, .slice Ao14 t226.length co14, .slice Ao15 t229.length co15] 26 (0, 0)) (by exact zK BK232.out) hb); have n5_ := Aside0.mk (blk_below (g := gb241) (o := .cells #[.int .i64 t233, .int .i64 t234, .slice Ao20 t235.length co20, .slice Ao21 t238.length co21] 26 (0, 0)) (by exact zK BK241.out) hb); have n6_ := Aside0.mk (below_step (by exact zB2 HB.out GE232.out GE241.out) hb); clear HO228; clear HO231; clear HO237; clear HO240; clear BK232; clear BK241; clear HB; have HO228 := n0_; have HO231 := n1_; have HO237 := n2_; have HO240 := n3_; have BK232 := n4_; have BK241 := n5_; have HB := n6_; clear n0_ n1_ n2_ n3_ n4_ n5_ n6_; (try clear hb); (try clear hb2); (try clear hk); (try clear hi); obtain ⟨hcz39_0, hcz39_1, hcz39_2, hcz39_3, hfz39_0, hfz39_1, hfz39_2, hfz39_3⟩ := zc4f BK241.out) | (go_at_call 10; (with_reducible refine (spec_PkgText.calls kj2 t233 t234 _ _ t235 _ _ t238 t245 _ ?side1 ?side2 ?side3 ?side4 A28.out).mono ?_); (case side1 => exact zC (Kd.R_reads' HO237.out).2.2); (case side2 => exact (Kd.R_reads' HO237.out).2.1); (case side3 => exact zC (Kd.R_reads' HO240.out).2.2); (case side4 => exact (Kd.R_reads' HO240.out).2.1); rintro e w40 ⟨rfl, hb⟩; have n0_ := Aside0.mk (Kd.R_below (by exact zR HO228.out) hb); have n1_ := Aside0.mk (Kd.R_below (by exact zR HO231.out) hb); have n2_ := Aside0.mk (Kd.R_below (by exact zR HO237.out) hb); have n3_ := Aside0.mk (Kd.R_below (by exact zR HO240.out) hb); have n4_ := Aside0.mk (blk_below (g := gb232) (o := .cells #[.int .i64 t224, .int .i64 t225, .slice Ao14 t226.length co14, .slice Ao15 t229.length co15] 26 (0, 0)) (by exact zK BK232.out) hb); have n5_ := Aside0.mk (blk_below (g := gb241) (o := .cells #[.int .i64 t233, .int .i64 t234, .slice Ao20 t235.length co20, .slice Ao21 t238.length co21] 26 (0, 0)) (by exact zK BK241.out) hb); have n6_ := Aside0.mk (below_step (by exact zB2 HB.out GE232.out GE241.out) hb); clear HO228; clear HO231; clear HO237; clear HO240; clear BK232; clear BK241; clear HB; have HO228 := n0_; have HO231 := n1_; have HO237 := n2_; have HO240 := n3_; have BK232 := n4_; have BK241 := n5_; have HB := n6_; clear n0_ n1_ n2_ n3_ n4_ n5_ n6_; (try clear hb); (try clear hb2); (try clear hk); (try clear hi)))
        go_meet
        case rel => exact ⟨_, ((t243.toList == ([] : List UInt8))), (by first | rfl | (simp; done) | (simp [*]; done)), H', ⟨by have := HJ2.out; first | omega | exact Nat.le_refl _⟩, ⟨by exact zR (Kd.R_mono HO228.out (fun _ hk => hk.2))⟩, ⟨by exact zR (Kd.R_mono HO231.out (fun _ hk => hk.2))⟩, ⟨by exact zR (Kd.R_mono HO237.out (fun _ hk => hk.2))⟩, ⟨by exact zR (Kd.R_mono HO240.out (fun _ hk => hk.2))⟩, ⟨by exact zK BK232.out⟩, ⟨by exact zK BK241.out⟩, ⟨by exact zB2 HB.out GE232.out GE241.out⟩⟩
      ·rw [if_neg c29] at H
       have c29b0 : (t243.toList == t245.toList) = false := beq_eq_false_iff_ne.mpr c29
       have c29b1 : (t243.toList != t245.toList) = true := bne_iff_ne.mpr c29
       have H' := Aside0.mk H
       clear H
       have hnb41 := NB232_241.out
       have hnc41 := NB241_232.out
       obtain ⟨hcz42_0, hcz42_1, hcz42_2, hcz42_3, hfz42_0, hfz42_1, hfz42_2, hfz42_3⟩ := zc4f BK232.out
       go_wp2_with (first | ((with_reducible refine gate_callee (f := 10) rfl ?_); refine goesL_ (some 27) rfl rfl Tryd.func10 (by kernel_rfl) rfl #[.agg #[.int .i64 t224, .int .i64 t225, .slice Ao14 t226.length co14, .slice Ao15 t229.length co15]] rfl (by (try simp only [zm1, zm2, zm3]); first | done | rfl | (simp only [List.length_drop, List.length_take]; rfl)) ?_; (with_reducible refine (spec_PkgText.calls kj2 t224 t225 _ _ t226 _ _ t229 t244 _ ?side1 ?side2 ?side3 ?side4 A26.out).mono ?_); (case side1 => exact zC (Kd.R_reads' HO228.out).2.2); (case side2 => exact (Kd.R_reads' HO228.out).2.1); (case side3 => exact zC (Kd.R_reads' HO231.out).2.2); (case side4 => exact (Kd.R_reads' HO231.out).2.1); rintro e w43 ⟨rfl, hb⟩; refine ⟨_, rfl, ?_⟩; have n0_ := Aside0.mk (Kd.R_below (by exact zR HO228.out) hb); have n1_ := Aside0.mk (Kd.R_below (by exact zR HO231.out) hb); have n2_ := Aside0.mk (Kd.R_below (by exact zR HO237.out) hb); have n3_ := Aside0.mk (Kd.R_below (by exact zR HO240.out) hb); have n4_ := Aside0.mk (blk_below (g := gb232) (o := .cells #[.int .i64 t224, .int .i64 t225, .slice Ao14 t226.length co14, .slice Ao15 t229.length co15] 26 (0, 0)) (by exact zK BK232.out) hb); have n5_ := Aside0.mk (blk_below (g := gb241) (o := .cells #[.int .i64 t233, .int .i64 t234, .slice Ao20 t235.length co20, .slice Ao21 t238.length co21] 26 (0, 0)) (by exact zK BK241.out) hb); have n6_ := Aside0.mk (below_step (by exact zB2 HB.out GE232.out GE241.out) hb); clear HO228; clear HO231; clear HO237; clear HO240; clear BK232; clear BK241; clear HB; have HO228 := n0_; have HO231 := n1_; have HO237 := n2_; have HO240 := n3_; have BK232 := n4_; have BK241 := n5_; have HB := n6_; clear n0_ n1_ n2_ n3_ n4_ n5_ n6_; (try clear hb); (try clear hb2); (try clear hk); (try clear hi); obtain ⟨hcz44_0, hcz44_1, hcz44_2, hcz44_3, hfz44_0, hfz44_1, hfz44_2, hfz44_3⟩ := zc4f BK241.out) | (go_at_call 10; (with_reducible refine (spec_PkgText.calls kj2 t233 t234 _ _ t235 _ _ t238 t245 _ ?side1 ?side2 ?side3 ?side4 A28.out).mono ?_); (case side1 => exact zC (Kd.R_reads' HO237.out).2.2); (case side2 => exact (Kd.R_reads' HO237.out).2.1); (case side3 => exact zC (Kd.R_reads' HO240.out).2.2); (case side4 => exact (Kd.R_reads' HO240.out).2.1); rintro e w45 ⟨rfl, hb⟩; have n0_ := Aside0.mk (Kd.R_below (by exact zR HO228.out) hb); have n1_ := Aside0.mk (Kd.R_below (by exact zR HO231.out) hb); have n2_ := Aside0.mk (Kd.R_below (by exact zR HO237.out) hb); have n3_ := Aside0.mk (Kd.R_below (by exact zR HO240.out) hb); have n4_ := Aside0.mk (blk_below (g := gb232) (o := .cells #[.int .i64 t224, .int .i64 t225, .slice Ao14 t226.length co14, .slice Ao15 t229.length co15] 26 (0, 0)) (by exact zK BK232.out) hb); have n5_ := Aside0.mk (blk_below (g := gb241) (o := .cells #[.int .i64 t233, .int .i64 t234, .slice Ao20 t235.length co20, .slice Ao21 t238.length co21] 26 (0, 0)) (by exact zK BK241.out) hb); have n6_ := Aside0.mk (below_step (by exact zB2 HB.out GE232.out GE241.out) hb); clear HO228; clear HO231; clear HO237; clear HO240; clear BK232; clear BK241; clear HB; have HO228 := n0_; have HO231 := n1_; have HO237 := n2_; have HO240 := n3_; have BK232 := n4_; have BK241 := n5_; have HB := n6_; clear n0_ n1_ n2_ n3_ n4_ n5_ n6_; (try clear hb); (try clear hb2); (try clear hk); (try clear hi)))
       go_meet
       case rel => exact ⟨_, (true), (by first | rfl | (simp; done) | (simp [*]; done)), H', ⟨by have := HJ2.out; first | omega | exact Nat.le_refl _⟩, ⟨by exact zR (Kd.R_mono HO228.out (fun _ hk => hk.2))⟩, ⟨by exact zR (Kd.R_mono HO231.out (fun _ hk => hk.2))⟩, ⟨by exact zR (Kd.R_mono HO237.out (fun _ hk => hk.2))⟩, ⟨by exact zR (Kd.R_mono HO240.out (fun _ hk => hk.2))⟩, ⟨by exact zK BK232.out⟩, ⟨by exact zK BK241.out⟩, ⟨by exact zB2 HB.out GE232.out GE241.out⟩⟩
     ·rw [if_neg c27] at H
      have c27b0 : (t242.toList == t244.toList) = false := beq_eq_false_iff_ne.mpr c27
      have c27b1 : (t242.toList != t244.toList) = true := bne_iff_ne.mpr c27
      (first | rw [c27b0] | (simp only [i64_w, i32_w]; rw [c27b0]) | skip)
      have H' := Aside0.mk H
      clear H
      have hnb46 := NB232_241.out
      have hnc46 := NB241_232.out
      obtain ⟨hcz47_0, hcz47_1, hcz47_2, hcz47_3, hfz47_0, hfz47_1, hfz47_2, hfz47_3⟩ := zc4f BK232.out
      go_wp2_with (first | ((with_reducible refine gate_callee (f := 10) rfl ?_); refine goesL_ (some 27) rfl rfl Tryd.func10 (by kernel_rfl) rfl #[.agg #[.int .i64 t224, .int .i64 t225, .slice Ao14 t226.length co14, .slice Ao15 t229.length co15]] rfl (by (try simp only [zm1, zm2, zm3]); first | done | rfl | (simp only [List.length_drop, List.length_take]; rfl)) ?_; (with_reducible refine (spec_PkgText.calls kj2 t224 t225 _ _ t226 _ _ t229 t244 _ ?side1 ?side2 ?side3 ?side4 A26.out).mono ?_); (case side1 => exact zC (Kd.R_reads' HO228.out).2.2); (case side2 => exact (Kd.R_reads' HO228.out).2.1); (case side3 => exact zC (Kd.R_reads' HO231.out).2.2); (case side4 => exact (Kd.R_reads' HO231.out).2.1); rintro e w48 ⟨rfl, hb⟩; refine ⟨_, rfl, ?_⟩; have n0_ := Aside0.mk (Kd.R_below (by exact zR HO228.out) hb); have n1_ := Aside0.mk (Kd.R_below (by exact zR HO231.out) hb); have n2_ := Aside0.mk (Kd.R_below (by exact zR HO237.out) hb); have n3_ := Aside0.mk (Kd.R_below (by exact zR HO240.out) hb); have n4_ := Aside0.mk (blk_below (g := gb232) (o := .cells #[.int .i64 t224, .int .i64 t225, .slice Ao14 t226.length co14, .slice Ao15 t229.length co15] 26 (0, 0)) (by exact zK BK232.out) hb); have n5_ := Aside0.mk (blk_below (g := gb241) (o := .cells #[.int .i64 t233, .int .i64 t234, .slice Ao20 t235.length co20, .slice Ao21 t238.length co21] 26 (0, 0)) (by exact zK BK241.out) hb); have n6_ := Aside0.mk (below_step (by exact zB2 HB.out GE232.out GE241.out) hb); clear HO228; clear HO231; clear HO237; clear HO240; clear BK232; clear BK241; clear HB; have HO228 := n0_; have HO231 := n1_; have HO237 := n2_; have HO240 := n3_; have BK232 := n4_; have BK241 := n5_; have HB := n6_; clear n0_ n1_ n2_ n3_ n4_ n5_ n6_; (try clear hb); (try clear hb2); (try clear hk); (try clear hi)))
      go_meet
      case rel => exact ⟨_, (true), (by first | rfl | (simp; done) | (simp [*]; done)), H', ⟨by have := HJ2.out; first | omega | exact Nat.le_refl _⟩, ⟨by exact zR (Kd.R_mono HO228.out (fun _ hk => hk.2))⟩, ⟨by exact zR (Kd.R_mono HO231.out (fun _ hk => hk.2))⟩, ⟨by exact zR (Kd.R_mono HO237.out (fun _ hk => hk.2))⟩, ⟨by exact zR (Kd.R_mono HO240.out (fun _ hk => hk.2))⟩, ⟨by exact zK BK232.out⟩, ⟨by exact zK BK241.out⟩, ⟨by exact zB2 HB.out GE232.out GE241.out⟩⟩
    case rest =>
     clear HC10
     try clear c1
     try clear c2
     try clear p2
     try clear c3
     try clear c4
     try clear c4b0
     try clear c4b1
     try clear c5
     try clear c8
     try clear c9
     try clear c10
     try clear c18
     try clear c27
     try clear c27b0
     try clear c27b1
     try clear c29
     try clear c29b0
     try clear c29b1
     try clear c30
     try clear c30b0
     try clear c30b1
     try clear c31
     try clear c36
     try clear c41
     try clear c46
     try clear hcz13_0
     try clear hcz13_1
     try clear hcz13_2
     try clear hcz13_3
     try clear hcz19_0
     try clear hcz19_1
     try clear hcz19_2
     try clear hcz19_3
     try clear hcz22_0
     try clear hcz22_1
     try clear hcz22_2
     try clear hcz22_3
     try clear hcz24_0
     try clear hcz24_1
     try clear hcz24_2
     try clear hcz24_3
     try clear hcz32_0
     try clear hcz32_1
     try clear hcz32_2
     try clear hcz32_3
     try clear hcz34_0
     try clear hcz34_1
     try clear hcz34_2
     try clear hcz34_3
     try clear hcz37_0
     try clear hcz37_1
     try clear hcz37_2
     try clear hcz37_3
     try clear hcz39_0
     try clear hcz39_1
     try clear hcz39_2
     try clear hcz39_3
     try clear hcz42_0
     try clear hcz42_1
     try clear hcz42_2
     try clear hcz42_3
     try clear hcz44_0
     try clear hcz44_1
     try clear hcz44_2
     try clear hcz44_3
     try clear hcz47_0
     try clear hcz47_1
     try clear hcz47_2
     try clear hcz47_3
     try clear hfz13_0
     try clear hfz13_1
     try clear hfz13_2
     try clear hfz13_3
     try clear hfz19_0
     try clear hfz19_1
     try clear hfz19_2
     try clear hfz19_3
     try clear hfz22_0
     try clear hfz22_1
     try clear hfz22_2
     try clear hfz22_3
     try clear hfz24_0
     try clear hfz24_1
     try clear hfz24_2
     try clear hfz24_3
     try clear hfz32_0
     try clear hfz32_1
     try clear hfz32_2
     try clear hfz32_3
     try clear hfz34_0
     try clear hfz34_1
     try clear hfz34_2
     try clear hfz34_3
     try clear hfz37_0
     try clear hfz37_1
     try clear hfz37_2
     try clear hfz37_3
     try clear hfz39_0
     try clear hfz39_1
     try clear hfz39_2
     try clear hfz39_3
     try clear hfz42_0
     try clear hfz42_1
     try clear hfz42_2
     try clear hfz42_3
     try clear hfz44_0
     try clear hfz44_1
     try clear hfz44_2
     try clear hfz44_3
     try clear hfz47_0
     try clear hfz47_1
     try clear hfz47_2
     try clear hfz47_3
     try clear p2
     obtain ⟨kq, x42_9, rfl, HA, HJ9, HO_233002, HO_233003, HO_242002, HO_242003, BK232, BK241, HB⟩ := hcut
     cases kq with
     | zero => exact absurd HA.out (by simp [laws_FnPkgOne.j1])
     | succ kj9 =>
      have H := HA.out
      clear HA
      simp only [laws_FnPkgOne.j1] at H
      by_cases c49 : x42_9 = true
      ·subst c49
       have H1 : ((spec_PkgText.f kj9 t224 t225 t226 t229).bind fun t246 => (if t242.toList = t246.toList then ((spec_PkgText.f kj9 t233 t234 t235 t238).bind fun t247 => (some (t243.toList == t247.toList))) else (none))) = some r := by rw [if_pos rfl] at H; exact H
       clear H
       have H := H1
       clear H1
       replace H := Option.bind_eq_some_iff.mp H
       obtain ⟨t246, A500, H⟩ := H
       replace H : (if t242.toList = t246.toList then ((spec_PkgText.f kj9 t233 t234 t235 t238).bind fun t247 => (some (t243.toList == t247.toList))) else (none)) = some r := H
       have A50 := Aside0.mk A500
       clear A500
       by_cases c51 : t242.toList = t246.toList
       ·rw [if_pos c51] at H
        have c51b0 : (t242.toList == t246.toList) = true := beq_iff_eq.mpr c51
        have c51b1 : (t242.toList != t246.toList) = false := bne_eq_false_iff_eq.mpr c51
        clear c51
        replace H := Option.bind_eq_some_iff.mp H
        obtain ⟨t247, A520, H⟩ := H
        replace H : (some (t243.toList == t247.toList)) = some r := H
        have A52 := Aside0.mk A520
        clear A520
        obtain rfl := Option.some.inj H
        have hnb53 := NB232_241.out
        have hnc53 := NB241_232.out
        obtain ⟨hcz54_0, hcz54_1, hcz54_2, hcz54_3, hfz54_0, hfz54_1, hfz54_2, hfz54_3⟩ := zc4f BK232.out
        go_wp2_with (first | ((with_reducible refine gate_callee (f := 10) rfl ?_); refine goesL_ (some 45) rfl rfl Tryd.func10 (by kernel_rfl) rfl #[.agg #[.int .i64 t224, .int .i64 t225, .slice Ao14 t226.length co14, .slice Ao15 t229.length co15]] rfl (by (try simp only [zm1, zm2, zm3]); first | done | rfl | (simp only [List.length_drop, List.length_take]; rfl)) ?_; (with_reducible refine (spec_PkgText.calls kj9 t224 t225 _ _ t226 _ _ t229 t246 _ ?side1 ?side2 ?side3 ?side4 A50.out).mono ?_); (case side1 => exact zC (Kd.R_reads' HO_233002.out).2.2); (case side2 => exact (Kd.R_reads' HO_233002.out).2.1); (case side3 => exact zC (Kd.R_reads' HO_233003.out).2.2); (case side4 => exact (Kd.R_reads' HO_233003.out).2.1); rintro e w55 ⟨rfl, hb⟩; refine ⟨_, rfl, ?_⟩; have n0_ := Aside0.mk (Kd.R_below (by exact zR HO_233002.out) hb); have n1_ := Aside0.mk (Kd.R_below (by exact zR HO_233003.out) hb); have n2_ := Aside0.mk (Kd.R_below (by exact zR HO_242002.out) hb); have n3_ := Aside0.mk (Kd.R_below (by exact zR HO_242003.out) hb); have n4_ := Aside0.mk (blk_below (g := gb232) (o := .cells #[.int .i64 t224, .int .i64 t225, .slice Ao14 t226.length co14, .slice Ao15 t229.length co15] 26 (0, 0)) (by exact zK BK232.out) hb); have n5_ := Aside0.mk (blk_below (g := gb241) (o := .cells #[.int .i64 t233, .int .i64 t234, .slice Ao20 t235.length co20, .slice Ao21 t238.length co21] 26 (0, 0)) (by exact zK BK241.out) hb); have n6_ := Aside0.mk (below_step (by exact zB2 HB.out GE232.out GE241.out) hb); clear HO_233002; clear HO_233003; clear HO_242002; clear HO_242003; clear BK232; clear BK241; clear HB; have HO_233002 := n0_; have HO_233003 := n1_; have HO_242002 := n2_; have HO_242003 := n3_; have BK232 := n4_; have BK241 := n5_; have HB := n6_; clear n0_ n1_ n2_ n3_ n4_ n5_ n6_; (try clear hb); (try clear hb2); (try clear hk); (try clear hi); obtain ⟨hcz56_0, hcz56_1, hcz56_2, hcz56_3, hfz56_0, hfz56_1, hfz56_2, hfz56_3⟩ := zc4f BK241.out) | (go_at_call 10; (with_reducible refine (spec_PkgText.calls kj9 t233 t234 _ _ t235 _ _ t238 t247 _ ?side1 ?side2 ?side3 ?side4 A52.out).mono ?_); (case side1 => exact zC (Kd.R_reads' HO_242002.out).2.2); (case side2 => exact (Kd.R_reads' HO_242002.out).2.1); (case side3 => exact zC (Kd.R_reads' HO_242003.out).2.2); (case side4 => exact (Kd.R_reads' HO_242003.out).2.1); rintro e w57 ⟨rfl, hb⟩; have n0_ := Aside0.mk (Kd.R_below (by exact zR HO_233002.out) hb); have n1_ := Aside0.mk (Kd.R_below (by exact zR HO_233003.out) hb); have n2_ := Aside0.mk (Kd.R_below (by exact zR HO_242002.out) hb); have n3_ := Aside0.mk (Kd.R_below (by exact zR HO_242003.out) hb); have n4_ := Aside0.mk (blk_below (g := gb232) (o := .cells #[.int .i64 t224, .int .i64 t225, .slice Ao14 t226.length co14, .slice Ao15 t229.length co15] 26 (0, 0)) (by exact zK BK232.out) hb); have n5_ := Aside0.mk (blk_below (g := gb241) (o := .cells #[.int .i64 t233, .int .i64 t234, .slice Ao20 t235.length co20, .slice Ao21 t238.length co21] 26 (0, 0)) (by exact zK BK241.out) hb); have n6_ := Aside0.mk (below_step (by exact zB2 HB.out GE232.out GE241.out) hb); clear HO_233002; clear HO_233003; clear HO_242002; clear HO_242003; clear BK232; clear BK241; clear HB; have HO_233002 := n0_; have HO_233003 := n1_; have HO_242002 := n2_; have HO_242003 := n3_; have BK232 := n4_; have BK241 := n5_; have HB := n6_; clear n0_ n1_ n2_ n3_ n4_ n5_ n6_; (try clear hb); (try clear hb2); (try clear hk); (try clear hi)))
        go_ret
        exact ⟨by first | rfl | (simp [errW_none, errW_some] <;> rfl) | (simp [*, errW_none, errW_some] <;> rfl), by exact zB2 HB.out GE232.out GE241.out⟩
       ·rw [if_neg c51] at H
        exact absurd H (by simp)
      ·replace c49 := Bool.eq_false_iff.mpr c49
       subst c49
       have H1 : ((laws_luPkg.f kj9 t224 t225 t226 t229 t233 t234 t235 t238).bind fun t248 => (some ((t242.toList == t243.toList) == t248))) = some r := by rw [if_neg (show ¬ (false = true) by decide)] at H; exact H
       clear H
       have H := H1
       clear H1
       replace H := Option.bind_eq_some_iff.mp H
       obtain ⟨t248, A580, H⟩ := H
       replace H : (some ((t242.toList == t243.toList) == t248)) = some r := H
       have A58 := Aside0.mk A580
       clear A580
       obtain rfl := Option.some.inj H
       have hnb59 := NB232_241.out
       have hnc59 := NB241_232.out
       obtain ⟨hcz60_0, hcz60_1, hcz60_2, hcz60_3, hfz60_0, hfz60_1, hfz60_2, hfz60_3⟩ := zc4f BK232.out
       obtain ⟨hcz61_0, hcz61_1, hcz61_2, hcz61_3, hfz61_0, hfz61_1, hfz61_2, hfz61_3⟩ := zc4f BK241.out
       go_wp2_with (first | ((with_reducible refine gate_callee (f := 17) rfl ?_); refine goesL_ (some 58) rfl rfl Tryd.func17 (by kernel_rfl) rfl #[.agg #[.int .i64 t224, .int .i64 t225, .slice Ao14 t226.length co14, .slice Ao15 t229.length co15], .agg #[.int .i64 t233, .int .i64 t234, .slice Ao20 t235.length co20, .slice Ao21 t238.length co21]] rfl (by (try simp only [zm1, zm2, zm3]); first | done | rfl | (simp only [List.length_drop, List.length_take]; rfl)) ?_; (with_reducible refine (laws_luPkg.calls kj9 t224 t225 _ _ t226 _ _ t229 t233 t234 _ _ t235 _ _ t238 t248 _ ?side1 ?side2 ?side3 ?side4 ?side5 ?side6 ?side7 ?side8 A58.out).mono ?_); (case side1 => exact zC (Kd.R_reads' HO_233002.out).2.2); (case side2 => exact (Kd.R_reads' HO_233002.out).2.1); (case side3 => exact zC (Kd.R_reads' HO_233003.out).2.2); (case side4 => exact (Kd.R_reads' HO_233003.out).2.1); (case side5 => exact zC (Kd.R_reads' HO_242002.out).2.2); (case side6 => exact (Kd.R_reads' HO_242002.out).2.1); (case side7 => exact zC (Kd.R_reads' HO_242003.out).2.2); (case side8 => exact (Kd.R_reads' HO_242003.out).2.1); rintro e w62 ⟨rfl, hb⟩; refine ⟨_, rfl, ?_⟩; have n0_ := Aside0.mk (Kd.R_below (by exact zR HO_233002.out) hb); have n1_ := Aside0.mk (Kd.R_below (by exact zR HO_233003.out) hb); have n2_ := Aside0.mk (Kd.R_below (by exact zR HO_242002.out) hb); have n3_ := Aside0.mk (Kd.R_below (by exact zR HO_242003.out) hb); have n4_ := Aside0.mk (blk_below (g := gb232) (o := .cells #[.int .i64 t224, .int .i64 t225, .slice Ao14 t226.length co14, .slice Ao15 t229.length co15] 26 (0, 0)) (by exact zK BK232.out) hb); have n5_ := Aside0.mk (blk_below (g := gb241) (o := .cells #[.int .i64 t233, .int .i64 t234, .slice Ao20 t235.length co20, .slice Ao21 t238.length co21] 26 (0, 0)) (by exact zK BK241.out) hb); have n6_ := Aside0.mk (below_step (by exact zB2 HB.out GE232.out GE241.out) hb); clear HO_233002; clear HO_233003; clear HO_242002; clear HO_242003; clear BK232; clear BK241; clear HB; have HO_233002 := n0_; have HO_233003 := n1_; have HO_242002 := n2_; have HO_242003 := n3_; have BK232 := n4_; have BK241 := n5_; have HB := n6_; clear n0_ n1_ n2_ n3_ n4_ n5_ n6_; (try clear hb); (try clear hb2); (try clear hk); (try clear hi)))
       go_ret
       exact ⟨by first | rfl | (simp [errW_none, errW_some] <;> rfl) | (simp [*, errW_none, errW_some] <;> rfl), by exact zB2 HB.out GE232.out GE241.out⟩

/-- THE ONE PURE STATEMENT of laws_FnPkgOne: yours. -/
def laws_FnPkgOne.Pure : Prop := ∀ (l0 : List Int) (l1 : List Int), l0.length ≤ maxLen → l0.length * 1 ≤ 140737488351232 → (∀ x ∈ l0, (Lit.int .u8 x).wf = true) → l1.length ≤ maxLen → l1.length * 1 ≤ 140737488351232 → (∀ x ∈ l1, (Lit.int .u8 x).wf = true) → ∃ k, laws_FnPkgOne.f k l0 l1 = some true
theorem laws_FnPkgOne.walk (P : laws_FnPkgOne.Pure) (a0 : Option Addr) (len0 cap0 : Nat) (z0 : List Int) (a1 : Option Addr) (len1 cap1 : Nat) (z1 : List Int) (w : World) (w0 : (a0 = none ∧ len0 = 0 ∧ cap0 = 0 ∧ z0 = []) ∨ ∃ x, a0 = some x ∧ len0 ≤ cap0 ∧ cap0 ≤ maxLen ∧ z0.length = cap0 ∧ (∀ i, i < z0.length → w.cell? (x.add i) = some (.int .u8 (z0.getD i 0))) ∧ ∀ n ∈ z0, (Lit.int .u8 n).wf = true) (y0 : len0 * 1 ≤ 140737488351232) (w1 : (a1 = none ∧ len1 = 0 ∧ cap1 = 0 ∧ z1 = []) ∨ ∃ x, a1 = some x ∧ len1 ≤ cap1 ∧ cap1 ≤ maxLen ∧ z1.length = cap1 ∧ (∀ i, i < z1.length → w.cell? (x.add i) = some (.int .u8 (z1.getD i 0))) ∧ ∀ n ∈ z1, (Lit.int .u8 n).wf = true) (y1 : len1 * 1 ≤ 140737488351232) :
  Calls Tryd.prog 5 #[.slice a0 len0 cap0, .slice a1 len1 cap1] w fun e w' => e = .returned (.bool true) ∧ Below w.heap.size w w' := by
 obtain ⟨l0, rfl, hr0, hm0, hw0, hc0⟩ := ReadsInt.ofRowC w0
 obtain ⟨l1, rfl, hr1, hm1, hw1, hc1⟩ := ReadsInt.ofRowC w1
 obtain ⟨k, h⟩ := P l0 l1 hm0 y0 hw0 hm1 y1 hw1
 refine (laws_FnPkgOne.calls k _ _ l0 _ _ l1 true w (Kd.C_of_reads (d := (0 : Int)) (h1 := fun _ => rfl) hr0) hc0 (Kd.C_of_reads (d := (0 : Int)) (h1 := fun _ => rfl) hr1) hc1 h).mono ?_
 rintro e w' ⟨rfl, hd⟩
 exact ⟨rfl, hd⟩

end Go.Proofs.YtlmgnnpmcdeclaaDoor.PFnPkgOne
