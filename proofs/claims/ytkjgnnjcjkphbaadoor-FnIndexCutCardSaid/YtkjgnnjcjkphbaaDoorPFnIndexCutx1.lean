-- printed for this claim by a program out of the translation, its tactics shortened by another
import Derived.Test.YtkjgnnjcjkphbaaDoorPFnIndexCutx0
namespace Go.Proofs.YtkjgnnjcjkphbaaDoor.PFnIndexCut
open Go.RowKit Go.Proofs.YtkjgnnjcjkphbaaDoorW.PrintWords Go.Proofs.YtkjgnnjcjkphbaaDoorW.PrintLast Go.Proofs.YtkjgnnjcjkphbaaDoorW.PrintMore
attribute [local go_sem] max2_int min2_int max_two min_two max_three min_three max_four min_four   -- for this text's walks alone
set_option linter.unusedVariables false
set_option linter.unusedSimpArgs false

theorem eqA40 (d : Nat) (w : World) (x0 y0 : Int) (x1 y1 : Int) (x2 y2 : Int) :
  (Op.equalIn (d + 2) 40 (.agg #[.int .i64 x0, .int .i64 x1, .int .i64 x2]) (.agg #[.int .i64 y0, .int .i64 y1, .int .i64 y2])).run Tryd.prog w = .ok (x0 == y0 && (x1 == y1 && (x2 == y2))) w := by
 refine eqA_of Tryd.underlying40 (by kernel_rfl) ?_
 refine eqf_cons (by rfl) (by go_simp; rfl) (by go_simp; rfl) (by go_simp) ?_
 refine eqf_cons (by rfl) (by go_simp; rfl) (by go_simp; rfl) (by go_simp) ?_
 exact eqf_last (by rfl) (by go_simp; rfl) (by go_simp; rfl) (by go_simp)

/-! ### impl_in: function 65 -/
theorem impl_in_b (w : World) (n a b : Int) (v : Bool) (h : inB_ n a b = v) : Calls Tryd.prog 65 #[.int .i64 n, .int .i64 a, .int .i64 b] w fun e w' => e = .returned (.bool v) ∧ w' = w := by
 subst h
 go_enter Tryd.func65, Tryd.ntmps65
 by_cases h1 : a ≤ n
 ·by_cases h2 : n ≤ b
  ·have e1 : inB_ n a b = true := by unfold inB_; rw [decide_eq_true h1, decide_eq_true h2]; rfl
   have d1 : decide (a ≤ n) = true := decide_eq_true h1
   have d2 : decide (n ≤ b) = true := decide_eq_true h2
   rw [e1]
   clear h1 h2 e1
   go_wp2
   go_ret
   exact ⟨by first | rfl | simp [*], rfl⟩
  ·have e1 : inB_ n a b = false := by unfold inB_; rw [decide_eq_false h2, Bool.and_false]
   have d1 : decide (a ≤ n) = true := decide_eq_true h1
   have d2 : decide (n ≤ b) = false := decide_eq_false h2
   rw [e1]
   clear h1 h2 e1
   go_wp2
   go_ret
   exact ⟨by first | rfl | simp [*], rfl⟩
 ·have e1 : inB_ n a b = false := by unfold inB_; rw [decide_eq_false h1, Bool.false_and]
  have d1 : decide (a ≤ n) = false := decide_eq_false h1
  rw [e1]
  clear h1 e1
  go_wp2
  go_ret
  exact ⟨by first | rfl | simp [*], rfl⟩
def impl_in.f (a0 : Int) (a1 : Int) (a2 : Int) : Option (Bool) := if a0 ≥ a1 then (some (decide (a0 ≤ a2))) else (some (false))
theorem impl_in.calls (a0 : Int) (a1 : Int) (a2 : Int) (r : Bool) (w : World) (h : impl_in.f a0 a1 a2 = some r) :
  Calls Tryd.prog 65 #[.int .i64 a0, .int .i64 a1, .int .i64 a2] w fun e w' => e = .returned (.bool r) ∧ Drawn0 w w' := by
 have e : inB_ a0 a1 a2 = r := by
  unfold impl_in.f at h
  unfold inB_
  by_cases c : a0 ≥ a1
  ·rw [if_pos c] at h
   rw [decide_eq_true c, Bool.true_and]
   exact Option.some.inj h
  ·rw [if_neg c] at h
   rw [decide_eq_false c, Bool.false_and]
   exact Option.some.inj h
 exact (impl_in_b w a0 a1 a2 r e).mono fun _ _ h => ⟨h.1, by rw [h.2]; exact Drawn0.refl _⟩

/-! ### impl_isName: function 63 -/
theorem impl_isName_b (w : World) (n : Int) (v : Bool) (h : inB_ n 1 4 = v) : Calls Tryd.prog 63 #[.int .i64 n] w fun e w' => e = .returned (.bool v) ∧ w' = w := by
 subst h
 go_enter Tryd.func63, Tryd.ntmps63
 by_cases h1 : 1 ≤ n
 ·by_cases h2 : n ≤ 4
  ·have e1 : inB_ n 1 4 = true := by unfold inB_; rw [decide_eq_true h1, decide_eq_true h2]; rfl
   have d1 : decide (1 ≤ n) = true := decide_eq_true h1
   have d2 : decide (n ≤ 4) = true := decide_eq_true h2
   rw [e1]
   clear h1 h2 e1
   go_wp2
   go_ret
   exact ⟨by first | rfl | simp [*], rfl⟩
  ·have e1 : inB_ n 1 4 = false := by unfold inB_; rw [decide_eq_false h2, Bool.and_false]
   have d1 : decide (1 ≤ n) = true := decide_eq_true h1
   have d2 : decide (n ≤ 4) = false := decide_eq_false h2
   rw [e1]
   clear h1 h2 e1
   go_wp2
   go_ret
   exact ⟨by first | rfl | simp [*], rfl⟩
 ·have e1 : inB_ n 1 4 = false := by unfold inB_; rw [decide_eq_false h1, Bool.false_and]
  have d1 : decide (1 ≤ n) = false := decide_eq_false h1
  rw [e1]
  clear h1 e1
  go_wp2
  go_ret
  exact ⟨by first | rfl | simp [*], rfl⟩
def impl_isName.f (a0 : Int) : Option (Bool) := impl_in.f a0 1 4
theorem impl_isName.calls (a0 : Int) (r : Bool) (w : World) (h : impl_isName.f a0 = some r) :
  Calls Tryd.prog 63 #[.int .i64 a0] w fun e w' => e = .returned (.bool r) ∧ Drawn0 w w' := by
 have e : inB_ a0 1 4 = r := by
  unfold impl_isName.f impl_in.f at h
  unfold inB_
  by_cases c : a0 ≥ 1
  ·rw [if_pos c] at h
   rw [decide_eq_true c, Bool.true_and]
   exact Option.some.inj h
  ·rw [if_neg c] at h
   rw [decide_eq_false c, Bool.false_and]
   exact Option.some.inj h
 exact (impl_isName_b w a0 r e).mono fun _ _ h => ⟨h.1, by rw [h.2]; exact Drawn0.refl _⟩

/-! ### impl_isVer: function 64 -/
theorem impl_isVer_b (w : World) (n : Int) (v : Bool) (h : inB_ n 1 5 = v) : Calls Tryd.prog 64 #[.int .i64 n] w fun e w' => e = .returned (.bool v) ∧ w' = w := by
 subst h
 go_enter Tryd.func64, Tryd.ntmps64
 by_cases h1 : 1 ≤ n
 ·by_cases h2 : n ≤ 5
  ·have e1 : inB_ n 1 5 = true := by unfold inB_; rw [decide_eq_true h1, decide_eq_true h2]; rfl
   have d1 : decide (1 ≤ n) = true := decide_eq_true h1
   have d2 : decide (n ≤ 5) = true := decide_eq_true h2
   rw [e1]
   clear h1 h2 e1
   go_wp2
   go_ret
   exact ⟨by first | rfl | simp [*], rfl⟩
  ·have e1 : inB_ n 1 5 = false := by unfold inB_; rw [decide_eq_false h2, Bool.and_false]
   have d1 : decide (1 ≤ n) = true := decide_eq_true h1
   have d2 : decide (n ≤ 5) = false := decide_eq_false h2
   rw [e1]
   clear h1 h2 e1
   go_wp2
   go_ret
   exact ⟨by first | rfl | simp [*], rfl⟩
 ·have e1 : inB_ n 1 5 = false := by unfold inB_; rw [decide_eq_false h1, Bool.false_and]
  have d1 : decide (1 ≤ n) = false := decide_eq_false h1
  rw [e1]
  clear h1 e1
  go_wp2
  go_ret
  exact ⟨by first | rfl | simp [*], rfl⟩
def impl_isVer.f (a0 : Int) : Option (Bool) := impl_in.f a0 1 5
theorem impl_isVer.calls (a0 : Int) (r : Bool) (w : World) (h : impl_isVer.f a0 = some r) :
  Calls Tryd.prog 64 #[.int .i64 a0] w fun e w' => e = .returned (.bool r) ∧ Drawn0 w w' := by
 have e : inB_ a0 1 5 = r := by
  unfold impl_isVer.f impl_in.f at h
  unfold inB_
  by_cases c : a0 ≥ 1
  ·rw [if_pos c] at h
   rw [decide_eq_true c, Bool.true_and]
   exact Option.some.inj h
  ·rw [if_neg c] at h
   rw [decide_eq_false c, Bool.false_and]
   exact Option.some.inj h
 exact (impl_isVer_b w a0 r e).mono fun _ _ h => ⟨h.1, by rw [h.2]; exact Drawn0.refl _⟩

/-! ### impl_IndexOk: function 38 -/
def ixm1 (l : List S40) (i : Nat) : Bool := inB_ (l.getD i z40).f0 1 4 && (inB_ (l.getD i z40).f1 1 5 && (inB_ (l.getD i z40).f2 0 9972 && (i == 0 || (decide ((l.getD (i - 1) z40).f0 < (l.getD i z40).f0) || (decide ((l.getD (i - 1) z40).f0 = (l.getD i z40).f0) && decide ((l.getD (i - 1) z40).f1 < (l.getD i z40).f1))))))
def ixB (a u : Int) (l : List S40) : Bool := okFrom (ixm1 l) l.length 0 && (inB_ a 1 30 && (inB_ u 0 60 && decide (l.length ≤ 8)))
set_option maxHeartbeats 8000000 in
set_option maxRecDepth 100000 in
theorem ixo_calls (a u : Int) (A2 : Option Addr) (c2 : Nat) (l2 : List S40) (w : World) (hr2 : Kd.C k40 w A2 l2.length l2) :
  Calls Tryd.prog 38 #[.agg #[.int .i64 a, .int .i64 u, .slice A2 l2.length c2]] w fun e w' => e = .returned (.bool (ixB a u l2)) ∧ Below w.heap.size w w' := by
 have HR2 := Aside0.mk hr2
 have HL2 := Aside0.mk hr2.2.1
 clear hr2
 have HE : Aside0 (ixB a u l2 = (okFrom (ixm1 l2) (l2.length - (0 : Int).toNat) (0 : Int).toNat && (inB_ a 1 30 && (inB_ u 0 60 && decide (l2.length ≤ 8))))) := ⟨rfl⟩
 go_enter Tryd.func38, Tryd.ntmps38
 go_wp2
 have n0_ := Aside0.mk (below_alloc (Below.refl w.heap.size w) (Obj.cells #[.int .i64 a, .int .i64 u, .slice A2 l2.length c2] 25))
 have n1_ := Aside0.mk (blk_new w (Obj.cells #[.int .i64 a, .int .i64 u, .slice A2 l2.length c2] 25))
 generalize w.alloc (Obj.cells #[.int .i64 a, .int .i64 u, .slice A2 l2.length c2] 25) = W0 at n0_ n1_ ⊢
 obtain ⟨gb, hgb⟩ : ∃ g, g = w.heap.size := ⟨_, rfl⟩
 rw [← hgb] at n1_ ⊢
 have HB := n0_
 have BK := n1_
 clear n0_ n1_ hgb
 go_loopw [8] (fun v5 w' => ∃ x : Int, 0 ≤ x ∧ x ≤ (l2.length : Int) ∧ v5 = .int .i64 x ∧ Aside0 (ixB a u l2 = (okFrom (ixm1 l2) (l2.length - x.toNat) x.toNat && (inB_ a 1 30 && (inB_ u 0 60 && decide (l2.length ≤ 8))))) ∧ Aside0 (w'.heap[gb]? = some (.cells #[.int .i64 a, .int .i64 u, .slice A2 l2.length c2] 25 (0, 0))) ∧ Aside0 (Below w.heap.size w w')) (fun v5 _ => l2.length - (intOf v5).toNat)
 case atStart => exact ⟨0, by omega, by omega, rfl, HE, BK, HB⟩
 case round =>
  clear HE HB BK
  obtain ⟨x, hx0, hx1, rfl, HE, BK, HB⟩ := hrel
  have HL := HL2.out
  by_cases hlt : x < (l2.length : Int)
  ·obtain ⟨ad, e, m0, m1, m2⟩ := at_T40 HR2.out x hx0 hlt
   cases e
   replace m0 := (HB.out.cell (World.block_lt_of_cell? w _ m0)).trans m0
   replace m1 := (HB.out.cell (World.block_lt_of_cell? w _ m1)).trans m1
   replace m2 := (HB.out.cell (World.block_lt_of_cell? w _ m2)).trans m2
   obtain ⟨F0, hF0⟩ : ∃ F0, F0 = (rd_T40 l2 x).f0 := ⟨_, rfl⟩
   obtain ⟨F1, hF1⟩ : ∃ F1, F1 = (rd_T40 l2 x).f1 := ⟨_, rfl⟩
   obtain ⟨F2, hF2⟩ : ∃ F2, F2 = (rd_T40 l2 x).f2 := ⟨_, rfl⟩
   rw [← hF0] at m0
   rw [← hF1] at m1
   rw [← hF2] at m2
   have HF := Aside0.mk (And.intro hF0 (And.intro hF1 hF2))
   clear hF0 hF1 hF2
   have q1 : decide (x < (l2.length : Int)) = true := decide_eq_true hlt
   have q2 : 0 ≤ x := hx0
   obtain ⟨b1, hb1⟩ : ∃ b, inB_ F0 1 4 = b := ⟨_, rfl⟩
   obtain ⟨b2, hb2⟩ : ∃ b, inB_ F1 1 5 = b := ⟨_, rfl⟩
   obtain ⟨b3, hb3⟩ : ∃ b, inB_ F2 0 9972 = b := ⟨_, rfl⟩
   have C1 := Aside0.mk (fun W => (impl_isName_b W F0 b1 hb1).mono fun _ _ h => And.intro h.1 h.2.symm)
   have C2 := Aside0.mk (fun W => (impl_isVer_b W F1 b2 hb2).mono fun _ _ h => And.intro h.1 h.2.symm)
   have C3 := Aside0.mk (fun W => (impl_in_b W F2 0 9972 b3 hb3).mono fun _ _ h => And.intro h.1 h.2.symm)
   have B1 := Aside0.mk hb1
   have B2 := Aside0.mk hb2
   have B3 := Aside0.mk hb3
   clear hb1 hb2 hb3
   have HN := Aside0.mk (okFrom_at (p := ixm1 l2) hx0 hlt)
   have no : Aside0 (ixm1 l2 x.toNat = false → ixB a u l2 = false) := ⟨fun h_ => by rw [HE.out, HN.out, h_]; rfl⟩
   have yes : Aside0 (ixm1 l2 x.toNat = true → ixB a u l2 = (okFrom (ixm1 l2) (l2.length - (x + 1).toNat) (x + 1).toNat && (inB_ a 1 30 && (inB_ u 0 60 && decide (l2.length ≤ 8))))) := ⟨fun h_ => by rw [HE.out, HN.out, h_]; rfl⟩
   have D : Aside0 (ixm1 l2 x.toNat = (b1 && (b2 && (b3 && (x.toNat == 0 || (decide ((l2.getD (x.toNat - 1) z40).f0 < F0) || (decide ((l2.getD (x.toNat - 1) z40).f0 = F0) && decide ((l2.getD (x.toNat - 1) z40).f1 < F1)))))))) := ⟨by
    unfold ixm1
    rw [← show _ = (l2.getD x.toNat z40).f0 from HF.out.1, ← show _ = (l2.getD x.toNat z40).f1 from HF.out.2.1, ← show _ = (l2.getD x.toNat z40).f2 from HF.out.2.2, B1.out, B2.out, B3.out]⟩
   clear HE HN HF B1 B2 B3
   have HNB := Aside0.mk (show w.heap.size ≤ wr.heap.size from HB.out.size)
   cases b1 with
   | false =>
    go_wp2_with (first | (go_at_call 63; with_reducible refine (C1.out _).mono ?_; rintro e wz ⟨rfl, rfl⟩) | (go_at_call 64; with_reducible refine (C2.out _).mono ?_; rintro e wz ⟨rfl, rfl⟩) | (go_at_call 65; with_reducible refine (C3.out _).mono ?_; rintro e wz ⟨rfl, rfl⟩))
    go_wp2
    go_ret
    rw [no.out (by rw [D.out]; rfl)]
    exact ⟨by first | rfl | simp [*], by repeat (first | exact HB.out | apply pw_below_drewN | apply below_alloc)⟩
   | true =>
    cases b2 with
    | false =>
     go_wp2_with (first | (go_at_call 63; with_reducible refine (C1.out _).mono ?_; rintro e wz ⟨rfl, rfl⟩) | (go_at_call 64; with_reducible refine (C2.out _).mono ?_; rintro e wz ⟨rfl, rfl⟩) | (go_at_call 65; with_reducible refine (C3.out _).mono ?_; rintro e wz ⟨rfl, rfl⟩))
     go_wp2
     go_ret
     rw [no.out (by rw [D.out]; rfl)]
     exact ⟨by first | rfl | simp [*], by repeat (first | exact HB.out | apply pw_below_drewN | apply below_alloc)⟩
    | true =>
     cases b3 with
     | false =>
      go_wp2_with (first | (go_at_call 63; with_reducible refine (C1.out _).mono ?_; rintro e wz ⟨rfl, rfl⟩) | (go_at_call 64; with_reducible refine (C2.out _).mono ?_; rintro e wz ⟨rfl, rfl⟩) | (go_at_call 65; with_reducible refine (C3.out _).mono ?_; rintro e wz ⟨rfl, rfl⟩))
      go_wp2
      go_ret
      rw [no.out (by rw [D.out]; rfl)]
      exact ⟨by first | rfl | simp [*], by repeat (first | exact HB.out | apply pw_below_drewN | apply below_alloc)⟩
     | true =>
      go_wp2_with (first | (go_at_call 63; with_reducible refine (C1.out _).mono ?_; rintro e wz ⟨rfl, rfl⟩) | (go_at_call 64; with_reducible refine (C2.out _).mono ?_; rintro e wz ⟨rfl, rfl⟩) | (go_at_call 65; with_reducible refine (C3.out _).mono ?_; rintro e wz ⟨rfl, rfl⟩))
      have n0_ := Aside0.mk (below_alloc HB.out (Obj.cells #[.int .i64 F0, .int .i64 F1, .int .i64 F2] 40))
      have n1_ := Aside0.mk (blk_alloc BK.out (Obj.cells #[.int .i64 F0, .int .i64 F1, .int .i64 F2] 40))
      have f0 : (wr.alloc (Obj.cells #[.int .i64 F0, .int .i64 F1, .int .i64 F2] 40)).cell? ⟨wr.heap.size, 0, none⟩ = some (.int .i64 F0) := by simp
      have f1 : (wr.alloc (Obj.cells #[.int .i64 F0, .int .i64 F1, .int .i64 F2] 40)).cell? ⟨wr.heap.size, 1, none⟩ = some (.int .i64 F1) := by simp
      clear HB BK m0 m1 m2
      generalize wr.alloc (Obj.cells #[.int .i64 F0, .int .i64 F1, .int .i64 F2] 40) = W at n0_ n1_ f0 f1 ⊢
      generalize wr.heap.size = gf at f0 f1 ⊢
      have HB := n0_
      have BK := n1_
      clear n0_ n1_
      have k2 : W.cell? ⟨gb, 2, none⟩ = some (.slice (some ad) l2.length c2) := (blk_cell BK.out 2).trans rfl
      by_cases hz : x ≤ 0
      ·have hx4 : decide (0 < x) = false := decide_eq_false (by omega)
       have Y := Aside0.mk (yes.out (by rw [D.out, show (x.toNat == 0) = true by rw [beq_iff_eq]; omega]; rfl))
       clear yes no D hz
       go_quiet (fail)
       go_wp2
       go_roundw
       case rel => exact ⟨x + 1, by omega, by omega, by first | rfl | simp, Y, ⟨by (with_reducible repeat (first | refine blk_drewN ?_ _)); exact BK.out⟩, ⟨by repeat (first | exact HB.out | apply pw_below_drewN)⟩⟩
       case measure => simp [intOf]; omega
      ·have g0 : 0 < x := by omega
       clear hz
       obtain ⟨y, hy⟩ : ∃ y, y = x - 1 := ⟨_, rfl⟩
       have hw : IntKind.i64.wrap (x - 1) = y := by rw [i64_w, hy]; unfold wrap64; omega
       obtain ⟨ad2, e2, d0, d1, d2⟩ := at_T40 HR2.out y (by omega) (by omega)
       obtain ⟨G0, hG0⟩ : ∃ G0, G0 = (rd_T40 l2 y).f0 := ⟨_, rfl⟩
       obtain ⟨G1, hG1⟩ : ∃ G1, G1 = (rd_T40 l2 y).f1 := ⟨_, rfl⟩
       rw [← hG0] at d0
       rw [← hG1] at d1
       cases e2
       replace d0 := (HB.out.cell (World.block_lt_of_cell? w _ d0)).trans d0
       replace d1 := (HB.out.cell (World.block_lt_of_cell? w _ d1)).trans d1
       have HG := Aside0.mk (And.intro hG0 hG1)
       clear hG0 hG1 d2
       have hx2 : 0 ≤ y := by omega
       have hx3 : decide (y < (l2.length : Int)) = true := decide_eq_true (by omega)
       have hx4 : decide (0 < x) = true := decide_eq_true g0
       have hx5 : y < (l2.length : Int) := by omega
       have HY := Aside0.mk hy
       clear hy
       have FD : Aside0 (ixm1 l2 x.toNat = (decide (G0 < F0) || (decide (G0 = F0) && decide (G1 < F1)))) := ⟨by
        rw [D.out, show (x.toNat == 0) = false by rw [beq_eq_false_iff_ne]; omega, show x.toNat - 1 = y.toNat by have := HY.out; omega, ← show _ = (l2.getD y.toNat z40).f0 from HG.out.1, ← show _ = (l2.getD y.toNat z40).f1 from HG.out.2]; rfl⟩
       by_cases hc : F0 < G0
       ·have cb : decide (F0 < G0) = true := decide_eq_true hc
        have N := Aside0.mk (no.out (by rw [FD.out, decide_eq_false (show ¬ G0 < F0 by omega), decide_eq_false (show ¬ G0 = F0 by omega)]; rfl))
        clear yes no hc D FD
        go_quiet (fail)
        go_wp2
        go_ret
        rw [N.out]
        exact ⟨by first | rfl | simp [*], by repeat (first | exact HB.out | apply pw_below_drewN | apply below_alloc)⟩
       ·have cb : decide (F0 < G0) = false := decide_eq_false hc
        by_cases hc2 : F0 = G0
        ·have cb2 : (F0 == G0) = true := beq_iff_eq.mpr hc2
         by_cases hc3 : F1 ≤ G1
         ·have cb3 : decide (F1 ≤ G1) = true := decide_eq_true hc3
          have N := Aside0.mk (no.out (by rw [FD.out, decide_eq_false (show ¬ G0 < F0 by omega), decide_eq_false (show ¬ G1 < F1 by omega), Bool.and_false]; rfl))
          clear yes no hc hc2 hc3 D FD
          go_quiet (fail)
          go_wp2
          go_ret
          rw [N.out]
          exact ⟨by first | rfl | simp [*], by repeat (first | exact HB.out | apply pw_below_drewN | apply below_alloc)⟩
         ·have cb3 : decide (F1 ≤ G1) = false := decide_eq_false hc3
          have Y := Aside0.mk (yes.out (by rw [FD.out, decide_eq_true (show G0 = F0 by omega), decide_eq_true (show G1 < F1 by omega), Bool.and_true, Bool.or_true]))
          clear yes no hc hc2 hc3 D FD
          go_quiet (fail)
          go_wp2
          go_roundw
          case rel => exact ⟨x + 1, by omega, by omega, by first | rfl | simp, Y, ⟨by (with_reducible repeat (first | refine blk_drewN ?_ _)); exact BK.out⟩, ⟨by repeat (first | exact HB.out | apply pw_below_drewN)⟩⟩
          case measure => simp [intOf]; omega
        ·have cb2 : (F0 == G0) = false := beq_eq_false_iff_ne.mpr hc2
         have Y := Aside0.mk (yes.out (by rw [FD.out, decide_eq_true (show G0 < F0 by omega)]; rfl))
         clear yes no hc hc2 D FD
         go_quiet (fail)
         go_wp2
         go_roundw
         case rel => exact ⟨x + 1, by omega, by omega, by first | rfl | simp, Y, ⟨by (with_reducible repeat (first | refine blk_drewN ?_ _)); exact BK.out⟩, ⟨by repeat (first | exact HB.out | apply pw_below_drewN)⟩⟩
         case measure => simp [intOf]; omega
  ·have hxe : x = (l2.length : Int) := by omega
   have q1 : decide (x < (l2.length : Int)) = false := decide_eq_false hlt
   have E := Aside0.mk (show ixB a u l2 = (inB_ a 1 30 && (inB_ u 0 60 && decide (l2.length ≤ 8))) by
    rw [HE.out, hxe, Int.toNat_natCast, Nat.sub_self]
    rfl)
   clear hxe HE
   have k0 : wr.cell? ⟨gb, 0, none⟩ = some (.int .i64 a) := (blk_cell BK.out 0).trans rfl
   have k1 : wr.cell? ⟨gb, 1, none⟩ = some (.int .i64 u) := (blk_cell BK.out 1).trans rfl
   have k2 : wr.cell? ⟨gb, 2, none⟩ = some (.slice A2 l2.length c2) := (blk_cell BK.out 2).trans rfl
   obtain ⟨bA, hbA⟩ : ∃ b, inB_ a 1 30 = b := ⟨_, rfl⟩
   obtain ⟨bB, hbB⟩ : ∃ b, inB_ u 0 60 = b := ⟨_, rfl⟩
   have CA := Aside0.mk (fun W => (impl_in_b W a 1 30 bA hbA).mono fun _ _ h => And.intro h.1 h.2.symm)
   have CB := Aside0.mk (fun W => (impl_in_b W u 0 60 bB hbB).mono fun _ _ h => And.intro h.1 h.2.symm)
   rw [hbA, hbB] at E
   clear hbA hbB
   cases bA with
   | false =>
    go_wp2_with (first | (go_at_call 65; with_reducible refine (CA.out _).mono ?_; rintro e wz ⟨rfl, rfl⟩) | (go_at_call 65; with_reducible refine (CB.out _).mono ?_; rintro e wz ⟨rfl, rfl⟩))
    go_ret
    rw [E.out]
    exact ⟨by first | rfl | simp [*], by exact HB.out⟩
   | true =>
    cases bB with
    | false =>
     go_wp2_with (first | (go_at_call 65; with_reducible refine (CA.out _).mono ?_; rintro e wz ⟨rfl, rfl⟩) | (go_at_call 65; with_reducible refine (CB.out _).mono ?_; rintro e wz ⟨rfl, rfl⟩))
     go_ret
     rw [E.out]
     exact ⟨by first | rfl | simp [*], by exact HB.out⟩
    | true =>
     have E2 := Aside0.mk (E.out.trans (show (true && (true && decide (l2.length ≤ 8))) = decide ((l2.length : Int) ≤ 8) by rw [Bool.true_and, Bool.true_and, Bool.eq_iff_iff, decide_eq_true_eq, decide_eq_true_eq]; omega))
     go_wp2_with (first | (go_at_call 65; with_reducible refine (CA.out _).mono ?_; rintro e wz ⟨rfl, rfl⟩) | (go_at_call 65; with_reducible refine (CB.out _).mono ?_; rintro e wz ⟨rfl, rfl⟩))
     go_ret
     rw [E2.out]
     exact ⟨by first | rfl | simp [*], by exact HB.out⟩
def impl_IndexOk.f (_k : Nat) (a u : Int) (l2 : List S40) : Option Bool := some (ixB a u l2)
theorem impl_IndexOk.mono : ∀ a0 a1 a2 k, LeO (impl_IndexOk.f k a0 a1 a2) (impl_IndexOk.f (k + 1) a0 a1 a2) := fun _ _ _ _ _ h => h
theorem impl_IndexOk.calls (k : Nat) (a0_0 : Int) (a0_1 : Int) (A0_2 : Option Addr) (c0_2 : Nat) (l0_2 : List S40) (r : Bool) (w : World) (hr0_2 : Kd.C k40 w A0_2 l0_2.length l0_2) (hc0_2 : l0_2.length ≤ c0_2) (h : impl_IndexOk.f k a0_0 a0_1 l0_2 = some r) :
  Calls Tryd.prog 38 #[.agg #[.int .i64 a0_0, .int .i64 a0_1, .slice A0_2 l0_2.length c0_2]] w fun e w' => e = .returned (.bool r) ∧ Below w.heap.size w w' := by
 obtain rfl := Option.some.inj h
 exact ixo_calls a0_0 a0_1 A0_2 c0_2 l0_2 w hr0_2

/-! ### impl_IndexText: function 35 -/
def itM (m : S40) : List Int := [96 + m.f0, 48 + m.f1, 32] ++ dg m.f2 ++ [10]
def itL (n u : Int) (l2 : List S40) : List Int := (dg n ++ [32] ++ dg u ++ [10]) ++ l2.flatMap itM
def itS (n u : Int) (l2 : List S40) : ByteArray := if ixB n u l2 = true then strOfNums (itL n u l2) else strOfNums []
set_option maxHeartbeats 8000000 in
set_option maxRecDepth 100000 in
theorem it_no (n u : Int) (A2 : Option Addr) (c2 : Nat) (l2 : List S40) (w : World) (hr2 : Kd.C k40 w A2 l2.length l2) (hc2 : l2.length ≤ c2) (hno : ixB n u l2 = false) :
  Calls Tryd.prog 35 #[.agg #[.int .i64 n, .int .i64 u, .slice A2 l2.length c2]] w fun e w' => e = .returned (.string ⟨#[]⟩) ∧ Below w.heap.size w w' := by
 have HR2 := Aside0.mk hr2
 have HC2 := Aside0.mk hc2
 have HN := Aside0.mk (show impl_IndexOk.f 0 n u l2 = some false from congrArg some hno)
 clear hr2 hc2 hno
 go_enter Tryd.func35, Tryd.ntmps35
 go_wp2_with (go_at_call 38; with_reducible refine (impl_IndexOk.calls 0 n u A2 c2 l2 false _ ?h1 HC2.out HN.out).mono ?_; (case h1 => exact zC HR2.out); rintro e w' ⟨rfl, hb⟩)
 go_wp2
 go_ret
 exact ⟨rfl, below_then (below_alloc (Below.refl _ _) _) (by simp) hb⟩
theorem ixB_nums {n u : Int} {l2 : List S40} (h : ixB n u l2 = true) :
  (1 ≤ n ∧ n ≤ 30) ∧ (0 ≤ u ∧ u ≤ 60) ∧ l2.length ≤ 8 ∧ (∀ x : Int, 0 ≤ x → x < l2.length → (1 ≤ (rd_T40 l2 x).f0 ∧ (rd_T40 l2 x).f0 ≤ 4) ∧ (1 ≤ (rd_T40 l2 x).f1 ∧ (rd_T40 l2 x).f1 ≤ 5) ∧ (0 ≤ (rd_T40 l2 x).f2 ∧ (rd_T40 l2 x).f2 ≤ 9972)) := by
 unfold ixB at h
 simp only [Bool.and_eq_true, decide_eq_true_eq] at h
 obtain ⟨h5, h1, h2, h3⟩ := h
 refine ⟨inB_b h1, inB_b h2, h3, fun x h0 hx => ?_⟩
 have := okFrom_all _ _ h5 x.toNat (by omega) (by omega)
 unfold ixm1 at this
 simp only [Bool.and_eq_true] at this
 exact ⟨inB_b this.1, inB_b this.2.1, inB_b this.2.2.1⟩
theorem it_row (F0 F1 F2 : Nat) : ((⟨#[UInt8.ofNat (96 + F0)]⟩ ++ ⟨#[UInt8.ofNat (48 + F1)]⟩) ++ ⟨#[32]⟩ ++ strOfNums (dg F2) ++ ⟨#[10]⟩ : ByteArray) = strOfNums ([96 + (F0 : Int), 48 + (F1 : Int), 32] ++ dg F2 ++ [10]) := by
 rw [one_str, one_str, show (⟨#[32]⟩ : ByteArray) = strOfNums [32] from rfl, show (⟨#[10]⟩ : ByteArray) = strOfNums [10] from rfl, str_cat, str_cat, str_cat, str_cat]
 rfl
theorem it_head (n u : Int) : (strOfNums (dg n) ++ ⟨#[32]⟩ ++ strOfNums (dg u) ++ ⟨#[10]⟩ : ByteArray) = strOfNums (dg n ++ [32] ++ dg u ++ [10]) := by
 rw [show (⟨#[32]⟩ : ByteArray) = strOfNums [32] from rfl, show (⟨#[10]⟩ : ByteArray) = strOfNums [10] from rfl, str_cat, str_cat, str_cat]
theorem itM_len (m : S40) : (itM m).length ≤ 8 := by
 have := dg_len m.f2
 unfold itM
 simp only [List.length_append, List.length_cons, List.length_nil]
 omega
set_option maxHeartbeats 8000000 in
set_option maxRecDepth 100000 in
theorem it_yes (n u : Nat) (A2 : Option Addr) (c2 : Nat) (l2 : List S40) (w : World) (hr2 : Kd.C k40 w A2 l2.length l2) (hc2 : l2.length ≤ c2) (hLD : LaidW w) (hyes : ixB n u l2 = true) :
  Calls Tryd.prog 35 #[.agg #[.int .i64 n, .int .i64 u, .slice A2 l2.length c2]] w fun e w' => e = .returned (.string (strOfNums (itL n u l2))) ∧ Below w.heap.size w w' := by
 have HR2 := Aside0.mk hr2
 have HC2 := Aside0.mk hc2
 have HLD := Aside0.mk hLD
 obtain ⟨hn, hu, hl2, hf2⟩ := ixB_nums hyes
 have HN := Aside0.mk (show impl_IndexOk.f 0 n u l2 = some true from congrArg some hyes)
 have I0 := fun W => Tryd.strconv_Itoa_small n (by omega) W
 have I1 := fun W => Tryd.strconv_Itoa_small u (by omega) W
 rw [dg_str n (by omega)] at I0
 rw [dg_str u (by omega)] at I1
 have HL2 := Aside0.mk hl2
 have HF2 := Aside0.mk hf2
 clear hr2 hc2 hyes hn hu hl2 hf2 hLD
 obtain ⟨d0, hd0⟩ : ∃ s : ByteArray, s = strOfNums (dg n) := ⟨_, rfl⟩
 obtain ⟨d1, hd1⟩ : ∃ s : ByteArray, s = strOfNums (dg u) := ⟨_, rfl⟩
 rw [← hd0] at I0
 rw [← hd1] at I1
 have z0 : d0.size ≤ 4 := by rw [hd0, strOfNums_size]; exact dg_len _
 have z1 : d1.size ≤ 4 := by rw [hd1, strOfNums_size]; exact dg_len _
 have J0 := Aside0.mk I0
 have J1 := Aside0.mk I1
 have HD := Aside0.mk (And.intro hd0 hd1)
 clear I0 I1 hd0 hd1
 go_enter Tryd.func35, Tryd.ntmps35
 go_wp2_with (go_at_call 38; with_reducible refine (impl_IndexOk.calls 0 n u A2 c2 l2 true _ ?h1 HC2.out HN.out).mono ?_; (case h1 => exact zC HR2.out); rintro e w1 ⟨rfl, hb⟩; refine Go.RowKit.Hid.out ?_)
 refine Go.Lib.hid ?_
 have HB := Aside0.mk (below_then (below_alloc (Below.refl w.heap.size w) _) (by simp) hb)
 have BK := Aside0.mk (blk_below (blk_new w _) hb)
 clear hb
 obtain ⟨gb, hgb⟩ : ∃ g, g = w.heap.size := ⟨_, rfl⟩
 rw [← hgb] at BK ⊢
 clear hgb
 have k0 : w1.cell? ⟨gb, 0, none⟩ = some (.int .i64 n) := (blk_cell BK.out 0).trans rfl
 have k1 : w1.cell? ⟨gb, 1, none⟩ = some (.int .i64 u) := (blk_cell BK.out 1).trans rfl
 have k2 : w1.cell? ⟨gb, 2, none⟩ = some (.slice A2 l2.length c2) := (blk_cell BK.out 2).trans rfl
 go_wp2_with ((with_reducible refine gate_dst (N := 3) rfl ?_); refine box_event ?hg (N := 3) ?hd (cs := #[.pointer none, .slice none 0 0]) (t := 72) ?hr ?_; (case hd => rfl); (case hg => rfl); (case hr => first | (go_simp; done) | (go_simp; rfl)); intro b hbb w2 hbox hb; have HBB := Aside0.mk hbb; clear hbb; have HBX := Aside0.mk hbox; clear hbox; refine Go.RowKit.Hid.out ?_)
 refine Go.Lib.hid ?_
 have hbb := HBB.out
 have hbox := HBX.out
 clear HBB HBX
 have HI := Aside0.mk (show Lib.IsBuilder 72 5 b b [] w2 from .inl ⟨Nat.le_refl _, _, hbox, own_nil w2 b 5 1, by simp [Value.ownBlock]⟩)
 have n0_ := Aside0.mk (below_step HB.out hb)
 have n1_ := Aside0.mk (blk_below BK.out hb)
 have HG := Aside0.mk (show gb < b by rw [hbb]; exact blk_lt BK.out)
 have HS := Aside0.mk (show w.heap.size ≤ b by rw [hbb]; exact HB.out.size)
 have HT := Aside0.mk (blk_lt hbox)
 clear HB BK k0 k1 k2 hbox hb hbb
 have HB := n0_
 have BK := n1_
 clear n0_ n1_
 have k0 : w2.cell? ⟨gb, 0, none⟩ = some (.int .i64 n) := (blk_cell BK.out 0).trans rfl
 have k1 : w2.cell? ⟨gb, 1, none⟩ = some (.int .i64 u) := (blk_cell BK.out 1).trans rfl
 have s1 : (9223372036854775807 < d0.size + 1) = False := eq_false (by omega)
 have s2 : (9223372036854775807 < d0.size + 1 + d1.size) = False := eq_false (by omega)
 have s3 : (9223372036854775807 < d0.size + 1 + d1.size + 1) = False := eq_false (by omega)
 go_wp2
 refine wp_region_still_tail 9 (by kernel_rfl) (by kernel_rfl) ?_
 simp only [List.take_succ_cons, List.take_zero, List.drop_succ_cons, List.drop_zero]
 repeat still_step
 still_call (J0.out _)
 repeat still_step
 still_call (J1.out _)
 repeat still_step
 refine wpStill_nil ?_
 have n0_ := Aside0.mk (below_drew HB.out)
 have n1_ := Aside0.mk (blk_drew BK.out)
 have n2_ := Aside0.mk (ib_below HI.out (below_drew (Below.refl _ w2)))
 have n3_ := Aside0.mk (show b < w2.drew.heap.size from HT.out)
 clear HB BK HI HT k0 k1 s1 s2 s3
 have HB := n0_
 have BK := n1_
 have HI := n2_
 have HT := n3_
 clear n0_ n1_ n2_ n3_
 have HLN := Aside0.mk (show ([] : List Value).length + (d0 ++ ⟨#[32]⟩ ++ d1 ++ ⟨#[10]⟩ : ByteArray).size ≤ 140737488355328 by
  simp only [List.length_nil, ByteArray.size_append, show (⟨#[32]⟩ : ByteArray).size = 1 from rfl, show (⟨#[10]⟩ : ByteArray).size = 1 from rfl]
  omega)
 have HE := Aside0.mk (show Lib.strCells (d0 ++ ⟨#[32]⟩ ++ d1 ++ ⟨#[10]⟩) = Lib.strCells (strOfNums ((dg n ++ [32] ++ dg u ++ [10]) ++ (l2.take (0 : Int).toNat).flatMap itM)) by
  rw [HD.out.1, HD.out.2, it_head]
  congr 2
  simp)
 clear z0 z1
 go_wp2_with (go_at_call 50; with_reducible refine (bld_WriteString b b [] _ _ HI.out HLN.out (Nat.le_of_lt HT.out)).mono ?_; rintro e w3 ⟨rfl, hi, hb⟩; refine Go.RowKit.Hid.out ?_)
 refine Go.Lib.hid ?_
 rw [List.nil_append, HE.out] at hi
 have HI := Aside0.mk (show Lib.IsBuilder 72 5 b b (Lib.strCells (strOfNums ((dg n ++ [32] ++ dg u ++ [10]) ++ (l2.take (0 : Int).toNat).flatMap itM))) w3 from .inr hi)
 have n0_ := Aside0.mk (below_far HB.out HS.out hb)
 have n1_ := Aside0.mk ((hb.block gb HG.out).trans BK.out)
 have n2_ := Aside0.mk (Nat.lt_of_lt_of_le HT.out hb.size)
 clear HB BK hi hb HT HLN HE HD J0 J1
 have HB := n0_
 have BK := n1_
 have HT := n2_
 clear n0_ n1_ n2_
 have k0 : w3.cell? ⟨gb, 0, none⟩ = some (.int .i64 n) := (blk_cell BK.out 0).trans rfl
 have k1 : w3.cell? ⟨gb, 1, none⟩ = some (.int .i64 u) := (blk_cell BK.out 1).trans rfl
 have k2 : w3.cell? ⟨gb, 2, none⟩ = some (.slice A2 l2.length c2) := (blk_cell BK.out 2).trans rfl
 have hhl : (dg (n : Int) ++ [32] ++ dg (u : Int) ++ [10]).length ≤ 10 := by
  have := dg_len n
  have := dg_len u
  simp only [List.length_append, List.length_cons, List.length_nil]
  omega
 have HLD := Aside0.mk (fun (W : World) (h : Below w.heap.size w W) => HLD.out.on h)
 obtain ⟨hd, hhd⟩ : ∃ s, s = dg (n : Int) ++ [32] ++ dg (u : Int) ++ [10] := ⟨_, rfl⟩
 have HHD := Aside0.mk hhd
 rw [← hhd] at HI hhl
 clear hhd
 have HHL := Aside0.mk hhl
 clear hhl
 go_wp2
 go_loopw [22] (fun v5 w' => ∃ x : Int, 0 ≤ x ∧ x ≤ (l2.length : Int) ∧ v5 = .int .i64 x ∧ Aside0 (Lib.IsBuilder 72 5 b b (Lib.strCells (strOfNums (hd ++ (l2.take x.toNat).flatMap itM))) w') ∧ Aside0 (w'.heap[gb]? = some (.cells #[.int .i64 n, .int .i64 u, .slice A2 l2.length c2] 25 (0, 0))) ∧ Aside0 (Below w.heap.size w w') ∧ Aside0 (b < w'.heap.size)) (fun v5 _ => l2.length - (intOf v5).toNat)
 case atStart => exact ⟨0, by omega, by omega, rfl, HI, BK, HB, HT⟩
 case round =>
  clear HI HB BK k0 k1 k2 HT
  obtain ⟨x, hx0, hx1, rfl, HI, BK, HB, HT⟩ := hrel
  have hl2 := HL2.out
  by_cases hlt : x < (l2.length : Int)
  ·obtain ⟨ad, e, m0, m1, m2⟩ := at_T40 HR2.out x hx0 hlt
   cases e
   replace m0 := (HB.out.cell (World.block_lt_of_cell? w _ m0)).trans m0
   replace m1 := (HB.out.cell (World.block_lt_of_cell? w _ m1)).trans m1
   replace m2 := (HB.out.cell (World.block_lt_of_cell? w _ m2)).trans m2
   obtain ⟨⟨r0, r1⟩, ⟨r2, r3⟩, r4, r5⟩ := HF2.out x hx0 hlt
   obtain ⟨F0, hF0⟩ : ∃ F0 : Nat, (F0 : Int) = (rd_T40 l2 x).f0 := ⟨(rd_T40 l2 x).f0.toNat, by omega⟩
   obtain ⟨F1, hF1⟩ : ∃ F1 : Nat, (F1 : Int) = (rd_T40 l2 x).f1 := ⟨(rd_T40 l2 x).f1.toNat, by omega⟩
   obtain ⟨F2, hF2⟩ : ∃ F2 : Nat, (F2 : Int) = (rd_T40 l2 x).f2 := ⟨(rd_T40 l2 x).f2.toNat, by omega⟩
   rw [← hF0] at m0 r0 r1
   rw [← hF1] at m1 r2 r3
   rw [← hF2] at m2 r4 r5
   have HF := Aside0.mk (And.intro hF0 (And.intro hF1 hF2))
   clear hF0 hF1 hF2
   have q1 : decide (x < (l2.length : Int)) = true := decide_eq_true hlt
   have q2 : 0 ≤ x := hx0
   have I0 := fun W => named_b F0 F1 (by omega) (by omega) (by omega) W
   have I1 := fun W (h : LaidW W) => Tryd.strconv_Itoa F2 (by omega) (by omega) W h.pow
   rw [show Lib.itoa (F2 : Int) = Lib.decDigits F2 by unfold Lib.itoa; rw [if_neg (by omega), Int.toNat_natCast], dg_str F2 (by omega)] at I1
   obtain ⟨d0, hd0⟩ : ∃ s : ByteArray, s = (⟨#[UInt8.ofNat (96 + F0)]⟩ ++ ⟨#[UInt8.ofNat (48 + F1)]⟩) := ⟨_, rfl⟩
   obtain ⟨d1, hd1⟩ : ∃ s : ByteArray, s = strOfNums (dg F2) := ⟨_, rfl⟩
   rw [← hd0] at I0
   rw [← hd1] at I1
   have z0 : d0.size = 2 := by rw [hd0]; rfl
   have z1 : d1.size ≤ 4 := by rw [hd1, strOfNums_size]; exact dg_len _
   have HD := Aside0.mk (And.intro hd0 hd1)
   have J0 := Aside0.mk I0
   have J1 := Aside0.mk I1
   clear hd0 hd1 I0 I1 r0 r1 r2 r3 r4 r5
   go_wp2
   have n0_ := Aside0.mk (below_alloc HB.out (Obj.cells #[.int .i64 (F0 : Int), .int .i64 (F1 : Int), .int .i64 (F2 : Int)] 40))
   have n1_ := Aside0.mk (blk_alloc BK.out (Obj.cells #[.int .i64 (F0 : Int), .int .i64 (F1 : Int), .int .i64 (F2 : Int)] 40))
   have n2_ := Aside0.mk (ib_below HI.out (below_alloc (Below.refl _ wr) (Obj.cells #[.int .i64 (F0 : Int), .int .i64 (F1 : Int), .int .i64 (F2 : Int)] 40)))
   have n3_ := Aside0.mk (Nat.lt_of_lt_of_le HT.out (below_alloc (Below.refl _ wr) (Obj.cells #[.int .i64 (F0 : Int), .int .i64 (F1 : Int), .int .i64 (F2 : Int)] 40)).size)
   have f0 : (wr.alloc (Obj.cells #[.int .i64 (F0 : Int), .int .i64 (F1 : Int), .int .i64 (F2 : Int)] 40)).cell? ⟨wr.heap.size, 0, none⟩ = some (.int .i64 F0) := by simp
   have f1 : (wr.alloc (Obj.cells #[.int .i64 (F0 : Int), .int .i64 (F1 : Int), .int .i64 (F2 : Int)] 40)).cell? ⟨wr.heap.size, 1, none⟩ = some (.int .i64 F1) := by simp
   have f2 : (wr.alloc (Obj.cells #[.int .i64 (F0 : Int), .int .i64 (F1 : Int), .int .i64 (F2 : Int)] 40)).cell? ⟨wr.heap.size, 2, none⟩ = some (.int .i64 F2) := by simp
   clear HB BK m0 m1 m2 HI HT
   generalize wr.alloc (Obj.cells #[.int .i64 (F0 : Int), .int .i64 (F1 : Int), .int .i64 (F2 : Int)] 40) = W at n0_ n1_ n2_ n3_ f0 f1 f2 ⊢
   generalize wr.heap.size = gf at f0 f1 f2 ⊢
   have HB := n0_
   have BK := n1_
   have HI := n2_
   have HT := n3_
   clear n0_ n1_ n2_ n3_
   have f0 := gr_cell f0
   have f1 := gr_cell f1
   have f2 := gr_cell f2
   have s2 : (9223372036854775807 < 2 + 1 + d1.size) = False := eq_false (by omega)
   have s3 : (9223372036854775807 < 2 + 1 + d1.size + 1) = False := eq_false (by omega)
   have s4 : (9223372036854775807 < 3 + d1.size) = False := eq_false (by omega)
   have s5 : (9223372036854775807 < 3 + d1.size + 1) = False := eq_false (by omega)
   refine wp_region_quiet_tail (C := fun w' => ∃ p : GrB, w' = Go.Sort.grow (W.drewN p.n) p.os) 11 (by kernel_rfl) (by kernel_rfl) (grC_drew W) ?_
   simp only [List.take_succ_cons, List.take_zero, List.drop_succ_cons, List.drop_zero]
   repeat (quiet_step (first | (go_at_call 51; exact gr_same (J0.out _)) | (go_at_call 52; exact gr_grown (J1.out _ (HLD.out _ (below_step HB.out (gr_below W _ _)))))))
   refine wpQuiet_nil ?_
   intro _ hw'
   obtain ⟨⟨nq, osq⟩, hw''⟩ := hw'
   subst hw''
   have GW := gr_below W nq osq
   have n0_ := Aside0.mk (below_step HB.out GW)
   have n1_ := Aside0.mk (blk_below BK.out GW)
   have n2_ := Aside0.mk (ib_below HI.out GW)
   have n3_ := Aside0.mk (Nat.lt_of_lt_of_le HT.out GW.size)
   clear HB BK HI HT f0 f1 f2 GW J0 J1 s2 s3 s4 s5
   generalize Go.Sort.grow (W.drewN nq) osq = W at n0_ n1_ n2_ n3_ ⊢
   have HB := n0_
   have BK := n1_
   have HI := n2_
   have HT := n3_
   clear n0_ n1_ n2_ n3_
   have HLN := Aside0.mk (show (Lib.strCells (strOfNums (hd ++ (l2.take x.toNat).flatMap itM))).length + (d0 ++ ⟨#[32]⟩ ++ d1 ++ ⟨#[10]⟩ : ByteArray).size ≤ 140737488355328 by
    have h1 := flat_le itM 8 (l2.take x.toNat) (fun m _ => itM_len m)
    have h2 : (l2.take x.toNat).length ≤ l2.length := by rw [List.length_take]; omega
    have h3 := HHL.out
    simp only [Lib.strCells_length, strOfNums_size, List.length_append, ByteArray.size_append, z0, show (⟨#[32]⟩ : ByteArray).size = 1 from rfl, show (⟨#[10]⟩ : ByteArray).size = 1 from rfl]
    omega)
   have HE := Aside0.mk (show Lib.strCells (strOfNums (hd ++ (l2.take x.toNat).flatMap itM)) ++ Lib.strCells (d0 ++ ⟨#[32]⟩ ++ d1 ++ ⟨#[10]⟩) = Lib.strCells (strOfNums (hd ++ (l2.take (x + 1).toNat).flatMap itM)) by
    rw [HD.out.1, HD.out.2, it_row, take_next itM z40 l2 x hx0 hlt, ← str_cells, str_cat, List.append_assoc]
    congr 4
    rw [HF.out.1, HF.out.2.1, HF.out.2.2]
    rfl)
   clear z0 z1
   go_wp2_with (go_at_call 50; with_reducible refine (bld_WriteString b b _ _ _ HI.out HLN.out (Nat.le_of_lt HT.out)).mono ?_; rintro e w4 ⟨rfl, hi, hb⟩; refine Go.RowKit.Hid.out ?_)
   refine Go.Lib.hid ?_
   rw [HE.out] at hi
   have n0_ := Aside0.mk (below_far HB.out HS.out hb)
   have n1_ := Aside0.mk ((hb.block gb HG.out).trans BK.out)
   have n2_ := Aside0.mk (Nat.lt_of_lt_of_le HT.out hb.size)
   have HI2 := Aside0.mk hi
   clear HB BK hi hb HT HE HLN HI
   go_wp2
   go_roundw
   case rel => exact ⟨x + 1, by omega, by omega, by first | rfl | simp, ⟨.inr HI2.out⟩, n1_, n0_, n2_⟩
   case measure => simp [intOf]; omega
  ·have hxe : x = (l2.length : Int) := by omega
   have q1 : decide (x < (l2.length : Int)) = false := decide_eq_false hlt
   replace HI := Aside0.mk (show Lib.IsBuilder 72 5 b b (Lib.byteCells (strOfNums (itL n u l2)).data.toList) wr by
    have h_ := HI.out
    rw [hxe, Int.toNat_natCast, List.take_length, HHD.out] at h_
    exact h_)
   clear hxe hx0 hx1 hlt hl2
   go_wp2_with (go_at_call 53; with_reducible refine (Tryd.Builder_String_any b b _ _ HI.out (Nat.le_of_lt HT.out)).mono ?_; rintro e w5 ⟨rfl, hb⟩)
   go_ret
   exact ⟨by first | rfl | simp [*], below_far HB.out HS.out hb⟩
def impl_IndexText.f (_k : Nat) (n u : Int) (l2 : List S40) : Option ByteArray := some (itS n u l2)
theorem impl_IndexText.mono : ∀ a0 a1 a2 k, LeO (impl_IndexText.f k a0 a1 a2) (impl_IndexText.f (k + 1) a0 a1 a2) := fun _ _ _ _ _ h => h
theorem impl_IndexText.calls (k : Nat) (a0_0 : Int) (a0_1 : Int) (A0_2 : Option Addr) (c0_2 : Nat) (l0_2 : List S40) (r : ByteArray) (w : World) (hr0_2 : Kd.C k40 w A0_2 l0_2.length l0_2) (hc0_2 : l0_2.length ≤ c0_2) (hLD : LaidW w) (h : impl_IndexText.f k a0_0 a0_1 l0_2 = some r) :
  Calls Tryd.prog 35 #[.agg #[.int .i64 a0_0, .int .i64 a0_1, .slice A0_2 l0_2.length c0_2]] w fun e w' => e = .returned (.string r) ∧ Below w.heap.size w w' := by
 obtain rfl := Option.some.inj h
 cases hp : ixB a0_0 a0_1 l0_2 with
 | true =>
  obtain ⟨⟨h1, _⟩, ⟨h2, _⟩, _⟩ := ixB_nums hp
  obtain ⟨n, rfl⟩ : ∃ n : Nat, (n : Int) = a0_0 := ⟨a0_0.toNat, by omega⟩
  obtain ⟨v, rfl⟩ : ∃ n : Nat, (n : Int) = a0_1 := ⟨a0_1.toNat, by omega⟩
  rw [itS, if_pos hp]
  exact it_yes n v A0_2 c0_2 l0_2 w hr0_2 hc0_2 hLD hp
 | false =>
  rw [itS, if_neg (by rw [hp]; decide)]
  exact it_no a0_0 a0_1 A0_2 c0_2 l0_2 w hr0_2 hc0_2 hp

/-! ### strings_Split: function 56 -/
def strings_Split.f (s sep : ByteArray) : Option (List ByteArray) := if s.size < 4294967281 ∧ 1 ≤ sep.size then some (Lib.splitB sep 0 (Lib.countB s sep) s) else none
theorem strings_Split.calls (a0 a1 : ByteArray) (r : List ByteArray) (w : World) (hLD : LaidW w) (h : strings_Split.f a0 a1 = some r) :
  Calls Tryd.prog 56 #[.string a0, .string a1] w fun e w' => ∃ v0_ : Value, e = .returned v0_ ∧ Kd.R Kd.string 9 w' w.heap.size (fun _ => True) v0_ r ∧ Below w.heap.size w w' := by
 unfold strings_Split.f at h
 split at h
 ·rename_i hc
  obtain rfl := Option.some.inj h
  obtain ⟨m, hm⟩ := hLD.len
  refine (Tryd.strings_Split a0 a1 m w hc.1 hm hc.2).mono ?_
  rintro e w' ⟨rfl, rfl⟩
  have hl := Lib.splitB_all a1 hc.2 0 (Lib.countB a0 a1) a0 rfl
  have hb := Lib.countB_le a1 hc.2 a0.size a0 (Nat.le_refl _)
  refine ⟨_, rfl, Kd.R_of_own ?_ (fun _ _ => trivial), below_alloc (Below.refl _ _) _⟩
  rw [← hl]
  exact own_lit_of w w.heap.size 9 _ (Nat.le_refl _) (by omega)
 ·cases h

/-! ### strconv_Atoi: function 59 -/
def atV (s : ByteArray) : Int := match Lib.atoiAll s.data.toList with
 | .ok v => v
 | .range => Lib.atoiSat s.data.toList
 | _ => 0
def strconv_Atoi.f (s : ByteArray) : Option (Int × Option Int) := if s.size ≤ 281474976710656 then some (atV s, none) else none
theorem strconv_Atoi.calls (a0 : ByteArray) (r1 : Int) (r2 : Option Int) (w : World) (hLD : LaidW w) (h : strconv_Atoi.f a0 = some (r1, r2)) :
  Calls Tryd.prog 59 #[.string a0] w fun e w' => ∃ ev : Value, e = .returned (.tuple #[.int .i64 r1, ev]) ∧ Below w.heap.size w w' := by
 unfold strconv_Atoi.f at h
 split at h
 ·rename_i hc
  obtain ⟨rfl, _⟩ := Prod.mk.inj (Option.some.inj h)
  unfold atV
  cases ha : Lib.atoiAll a0.data.toList with
  | ok v =>
   refine (Tryd.strconv_Atoi_ok a0 (by omega) v ha w).mono ?_
   rintro e w' ⟨rfl, hw⟩
   refine ⟨_, rfl, ?_⟩
   rcases hw with rfl | ⟨t, rfl⟩
   ·exact Below.refl _ _
   ·exact Lib.bytesWorld_below w _ t
  | range =>
   obtain ⟨ev, hv, hev⟩ := hLD.ran
   refine (Tryd.strconv_Atoi_range a0 hc ha ev w hv hev).mono ?_
   rintro e w' ⟨N, rfl, _, _, hb⟩
   exact ⟨_, rfl, hb⟩
  | _ =>
   obtain ⟨ev, hv, hev⟩ := hLD.syn
   refine (Tryd.strconv_Atoi_syntax a0 hc ha ev w hv hev).mono ?_
   rintro e w' ⟨N, rfl, _, _, hb⟩
   exact ⟨_, rfl, hb⟩
 ·cases h

/-! ### impl_nameRead: function 57 -/
def impl_nameRead.f (a0 : ByteArray) : Option (Int × Int) := if a0.toList = ([] : List UInt8) then (some (0, 0)) else (if 1 ≤ (a0.size : Int) then ((strconv_Atoi.f (a0.extract 1 a0.size)).bind fun bt101 => (if 0 < (a0.size : Int) then (some (wrap64 ((wrap64 ((wrap64 (bt a0 0)) - 97)) + 1), bt101.1)) else (none))) else (none))
set_option maxHeartbeats 8000000 in
set_option maxRecDepth 100000 in
theorem impl_nameRead.calls (a0 : ByteArray) (r1 : Int) (r2 : Int) (w : World) (hLD : LaidW w) (h : impl_nameRead.f a0 = some (r1, r2)) :
  Calls Tryd.prog 57 #[.string a0] w fun e w' => e = .returned (.tuple #[.int .i64 r1, .int .i64 r2]) ∧ Below w.heap.size w w' := by
 have HB := Aside0.mk (Below.refl w.heap.size w)
 have HLD := Aside0.mk hLD
 clear hLD
 have H : (if a0.toList = ([] : List UInt8) then (some (0, 0)) else (if 1 ≤ (a0.size : Int) then ((strconv_Atoi.f (a0.extract 1 a0.size)).bind fun bt101 => (if 0 < (a0.size : Int) then (some (wrap64 ((wrap64 ((wrap64 (bt a0 0)) - 97)) + 1), bt101.1)) else (none))) else (none))) = some (r1, r2) := h
 clear h
 by_cases c2 : a0.toList = ([] : List UInt8)
 ·rw [if_pos c2] at H
  have c2b0 : (a0.toList == ([] : List UInt8)) = true := beq_iff_eq.mpr c2
  have c2b1 : (a0.toList != ([] : List UInt8)) = false := bne_eq_false_iff_eq.mpr c2
  clear c2
  simp only [Option.some.injEq, Prod.mk.injEq] at H
  obtain ⟨rfl, rfl⟩ := H
  go_enter Tryd.func57, Tryd.ntmps57
  go_wp2
  go_ret2
  exact ⟨by first | rfl | (simp [errW_none, errW_some] <;> rfl) | (simp [*, errW_none, errW_some] <;> rfl), by exact zB HB.out⟩
 ·rw [if_neg c2] at H
  have c2b0 : (a0.toList == ([] : List UInt8)) = false := beq_eq_false_iff_ne.mpr c2
  have c2b1 : (a0.toList != ([] : List UInt8)) = true := bne_iff_ne.mpr c2
  by_cases c3 : 1 ≤ (a0.size : Int)
  ·rw [if_pos c3] at H
   have c3b0 := eq_true c3
   have c3b1 : decide (1 ≤ (a0.size : Int)) = true := decide_eq_true c3
   clear c3
   replace H := Option.bind_eq_some_iff.mp H
   obtain ⟨⟨t101, t102⟩, A40, H⟩ := H
   replace H : (if 0 < (a0.size : Int) then (some (wrap64 ((wrap64 ((wrap64 (bt a0 0)) - 97)) + 1), t101)) else (none)) = some (r1, r2) := H
   have A4 := Aside0.mk A40
   clear A40
   by_cases c5 : 0 < (a0.size : Int)
   ·rw [if_pos c5] at H
    have c5b0 : decide (0 < (a0.size : Int)) = true := decide_eq_true c5
    have c5b1 : decide (0 < a0.size) = true := decide_eq_true (by omega)
    clear c5
    simp only [Option.some.injEq, Prod.mk.injEq] at H
    obtain ⟨rfl, rfl⟩ := H
    go_enter Tryd.func57, Tryd.ntmps57
    go_wp2_with (first | ((with_reducible refine gate_callee (f := 59) rfl ?_); refine goesL_ (some 11) rfl rfl Tryd.func59 (by kernel_rfl) rfl #[.string (a0.extract 1 a0.size)] rfl (by (try simp only [zm1, zm2, zm3]); first | done | rfl | (simp only [List.length_drop, List.length_take]; rfl)) ?_; (with_reducible refine (strconv_Atoi.calls (a0.extract 1 a0.size) t101 t102 _ ?sideL A4.out).mono ?_); (case sideL => exact HLD.out.on (by exact zB HB.out)); rintro e w7 ⟨ev_, rfl, hb⟩; refine ⟨_, rfl, ?_⟩; have n0_ := Aside0.mk (below_step (by exact zB HB.out) hb); clear HB; have HB := n0_; clear n0_; (try clear hb); (try clear hb2); (try clear hk); (try clear hi); (try simp only [errW_none, errW_some]); have p6 : 0 ≤ (0 : Int) := (by omega); have q6 : 0 < a0.size := (by have : (0 : Int) < (a0.size : Int) := of_decide_eq_true (by first | (with_reducible assumption) | assumption); omega); have hx6 : ∀ h : 0 < a0.size, ((a0[0]'h).toNat : Int) = bt a0 0 := bt_at a0 0; clear p6; have qi6 : (0 < (a0.size : Int)) = True := eq_true (of_decide_eq_true (by first | (with_reducible assumption) | assumption)); replace q6 := eq_true q6))
    go_ret2
    exact ⟨by first | rfl | (simp [errW_none, errW_some] <;> rfl) | (simp [*, errW_none, errW_some] <;> rfl), by exact zB HB.out⟩
   ·rw [if_neg c5] at H
    exact absurd H (by simp)
  ·rw [if_neg c3] at H
   exact absurd H (by simp)

/-! ### strings_Cut: function 58 -/
def strings_Cut.f (s sep : ByteArray) : Option (ByteArray × ByteArray × Bool) := if s.size < 4294967281 then some (⟨(Lib.cut s.data.toList sep.data.toList).1.toArray⟩, ⟨(Lib.cut s.data.toList sep.data.toList).2.1.toArray⟩, (Lib.cut s.data.toList sep.data.toList).2.2) else none
theorem strings_Cut.calls (a0 a1 : ByteArray) (r1 r2 : ByteArray) (r3 : Bool) (w : World) (hLD : LaidW w) (h : strings_Cut.f a0 a1 = some (r1, r2, r3)) :
  Calls Tryd.prog 58 #[.string a0, .string a1] w fun e w' => e = .returned (.tuple #[.string r1, .string r2, .bool r3]) ∧ Below w.heap.size w w' := by
 unfold strings_Cut.f at h
 split at h
 ·rename_i hc
  obtain ⟨e1, e2⟩ := Prod.mk.inj (Option.some.inj h)
  obtain ⟨e3, e4⟩ := Prod.mk.inj e2
  subst e1 e3 e4
  obtain ⟨m, hm⟩ := hLD.len
  refine (Tryd.strings_Cut a0 a1 m w hc hm).mono ?_
  rintro e w' ⟨rfl, n, rfl⟩
  exact ⟨rfl, pw_below_drewN (Below.refl _ _) n⟩
 ·cases h

/-! ### strings_TrimSuffix: function 68 -/
def strings_TrimSuffix.f (s p : ByteArray) : Option ByteArray := if s.size ≤ 9223372036854775807 then some ⟨(Lib.trimSuffix s.data.toList p.data.toList).toArray⟩ else none
theorem strings_TrimSuffix.calls (a0 a1 : ByteArray) (r : ByteArray) (w : World) (h : strings_TrimSuffix.f a0 a1 = some r) :
  Calls Tryd.prog 68 #[.string a0, .string a1] w fun e w' => e = .returned (.string r) ∧ Below w.heap.size w w' := by
 unfold strings_TrimSuffix.f at h
 split at h
 ·rename_i hc
  obtain rfl := Option.some.inj h
  refine (Tryd.strings_TrimSuffix a0 a1 w hc).mono ?_
  rintro e w' ⟨rfl, rfl⟩
  exact ⟨rfl, Below.refl _ _⟩
 ·cases h

/-! ### impl_IndexRead: function 27 -/
def impl_IndexRead.l0 : Nat → ByteArray → List ByteArray → Int → Int → Int → Int → List (S40) → Option (Int × Int × (List (S40)) × Bool)
 | 0, _, _, _, _, _, _, _ => none
 | k + 1, x0, x20, x21, x22, x105000, x105001, x105002 => if x22 < x21 then (if 0 ≤ x22 then (if x22 < (x20.length : Int) then ((strings_Cut.f (rdOf ByteArray.empty x20 x22) (⟨#[32]⟩ : ByteArray)).bind fun bt110 => ((strconv_Atoi.f bt110.2.1).bind fun bt113 => (if x22 = 0 then ((strconv_Atoi.f bt110.1).bind fun bt115 => (impl_IndexRead.l0 k x0 x20 x21 (wrap64 (x22 + 1)) bt115.1 bt113.1 x105002)) else ((impl_nameRead.f bt110.1).bind fun bt117 => (if x105002.length < 5864062014805 then (impl_IndexRead.l0 k x0 x20 x21 (wrap64 (x22 + 1)) x105000 x105001 (x105002 ++ [(⟨bt117.1, bt117.2, bt113.1⟩ : S40)])) else (none)))))) else (none)) else (none)) else ((impl_IndexOk.f k x105000 x105001 x105002).bind fun t122 => (if t122 = true then ((impl_IndexText.f k x105000 x105001 x105002).bind fun t123 => (if t123.toList = x0.toList then (some (x105000, x105001, x105002, true)) else (some (0, 0, ([] : List (S40)), false)))) else (some (0, 0, ([] : List (S40)), false))))
def impl_IndexRead.f (k : Nat) (a0 : ByteArray) : Option (Int × Int × (List (S40)) × Bool) := if (a0.size : Int) > 120 then (some (0, 0, ([] : List (S40)), false)) else ((strings_TrimSuffix.f a0 (⟨#[10]⟩ : ByteArray)).bind fun t105 => ((strings_Split.f t105 (⟨#[10]⟩ : ByteArray)).bind fun t106 => (impl_IndexRead.l0 k a0 t106 (t106.length : Int) 0 0 0 ([] : List (S40)))))
theorem impl_IndexRead.mono_l : ∀ k, (∀ y0 y1 y2 y3 y4 y5 y6, LeO (impl_IndexRead.l0 k y0 y1 y2 y3 y4 y5 y6) (impl_IndexRead.l0 (k + 1) y0 y1 y2 y3 y4 y5 y6))
 | 0 => fun _ _ _ _ _ _ _ r h => by simp [impl_IndexRead.l0] at h
 | k + 1 => by
  have ih0 := impl_IndexRead.mono_l k
  ·intro y0 y1 y2 y3 y4 y5 y6
   unfold impl_IndexRead.l0
   repeat' first
   | (with_reducible exact ih0 _ _ _ _ _ _ _)
   | (with_reducible exact impl_IndexOk.mono _ _ _ _)
   | (with_reducible exact impl_IndexText.mono _ _ _ _)
   | (with_reducible exact LeO.refl _)
   | (with_reducible exact LeO.none _)
   | (with_reducible refine LeO.ite ?_ ?_)
   | (with_reducible refine LeO.bind ?_ (fun _ => ?_))
   | exact ih0 _ _ _ _ _ _ _
   | exact impl_IndexOk.mono _ _ _ _
   | exact impl_IndexText.mono _ _ _ _
   | exact LeO.none _
   | refine LeO.ite ?_ ?_
   | refine LeO.bind ?_ (fun _ => ?_)
theorem impl_IndexRead.mono : ∀ a0 k, LeO (impl_IndexRead.f k a0) (impl_IndexRead.f (k + 1) a0) := by
 intro a0 k
 have ih0 := impl_IndexRead.mono_l k
 unfold impl_IndexRead.f
 repeat' first
   | (with_reducible exact ih0 _ _ _ _ _ _ _)
   | (with_reducible exact impl_IndexOk.mono _ _ _ _)
   | (with_reducible exact impl_IndexText.mono _ _ _ _)
   | (with_reducible exact LeO.refl _)
   | (with_reducible exact LeO.none _)
   | (with_reducible refine LeO.ite ?_ ?_)
   | (with_reducible refine LeO.bind ?_ (fun _ => ?_))
   | exact ih0 _ _ _ _ _ _ _
   | exact impl_IndexOk.mono _ _ _ _
   | exact impl_IndexText.mono _ _ _ _
   | exact LeO.none _
   | refine LeO.ite ?_ ?_
   | refine LeO.bind ?_ (fun _ => ?_)
set_option maxHeartbeats 8000000 in
set_option maxRecDepth 100000 in
theorem impl_IndexRead.calls (k : Nat) (a0 : ByteArray) (r1 : Int) (r2 : Int) (r3 : List (S40)) (r4 : Bool) (w : World) (hLD : LaidW w) (h : impl_IndexRead.f k a0 = some (r1, r2, r3, r4)) :
  Calls Tryd.prog 27 #[.string a0] w fun e w' => ∃ v2_ : Value, e = .returned (.tuple #[.agg #[.int .i64 r1, .int .i64 r2, v2_], .bool r4]) ∧ Kd.R k40 40 w' w.heap.size (fun _ => True) v2_ r3 ∧ Below w.heap.size w w' := by
 have hu25 := Tryd.underlying25
 have hu40 := Tryd.underlying40
 have HB := Aside0.mk (Below.refl w.heap.size w)
 have HLD := Aside0.mk hLD
 clear hLD
 have H : (if (a0.size : Int) > 120 then (some (0, 0, ([] : List (S40)), false)) else ((strings_TrimSuffix.f a0 (⟨#[10]⟩ : ByteArray)).bind fun t105 => ((strings_Split.f t105 (⟨#[10]⟩ : ByteArray)).bind fun t106 => (impl_IndexRead.l0 k a0 t106 (t106.length : Int) 0 0 0 ([] : List (S40)))))) = some (r1, r2, r3, r4) := h
 clear h
 by_cases c2 : (a0.size : Int) > 120
 ·rw [if_pos c2] at H
  have c2b0 : decide (120 < (a0.size : Int)) = true := decide_eq_true c2
  have c2b1 : decide (120 < a0.size) = true := decide_eq_true (by omega)
  clear c2
  simp only [Option.some.injEq, Prod.mk.injEq] at H
  obtain ⟨rfl, rfl, rfl, rfl⟩ := H
  go_enter Tryd.func27, Tryd.ntmps27
  go_wp2_with (first | ((with_reducible refine gate_dst (N := 2) rfl ?_); refine box_event ?hg (N := 2) ?hd (cs := #[.int .i64 0, .int .i64 0, .slice none 0 0]) (t := 25) ?hr ?_; (case hd => rfl); (case hg => rfl); (case hr => first | (go_simp; done) | (go_simp; rfl)); intro gb103 hg w3 hbox hb; have n0_ := Aside0.mk (below_step (by exact zB HB.out) hb); have n1_ := Aside0.mk (hbox); have n2_ := Aside0.mk ((by rw [hg]; exact (below_size (by exact zB HB.out)) : w.heap.size ≤ gb103)); have n3_ := Aside0.mk ((by rw [hg]; exact (below_size (by exact zB HB.out)) : w.heap.size ≤ gb103)); clear HB; have HB := n0_; have BK103 := n1_; have GW103 := n2_; have GE103 := n3_; clear n0_ n1_ n2_ n3_; clear hb hbox hg; obtain ⟨hcz4_0, hcz4_1, hcz4_2, hfz4_0, hfz4_1, hfz4_2⟩ := zc3f BK103.out))
  refine bodyPost_ret (results_ct rfl _ _ gb103 25 #[.int .i64 0, .int .i64 0, .slice none 0 0] (0, 0) _ rfl (by (with_reducible repeat (first | refine blk_drewN ?_ _ | refine blk_drew ?_ | refine blk_alloc ?_ _)); refine blk_put (cs := #[.int .i64 0, .int .i64 0, .slice none 0 0]) ?_ 2 _ rfl; (with_reducible repeat (first | refine blk_drewN ?_ _ | refine blk_drew ?_ | refine blk_alloc ?_ _)); refine blk_put (cs := #[.int .i64 0, .int .i64 0, .slice none 0 0]) ?_ 1 _ rfl; (with_reducible repeat (first | refine blk_drewN ?_ _ | refine blk_drew ?_ | refine blk_alloc ?_ _)); refine blk_put (cs := #[.int .i64 0, .int .i64 0, .slice none 0 0]) ?_ 0 _ rfl; exact zK BK103.out) Tryd.underlying25 rfl (by kernel_rfl)) rfl ?_
  exact ⟨_, by first | rfl | (simp [errW_none, errW_some] <;> rfl) | (simp [*, errW_none, errW_some] <;> rfl), by first | exact Kd.R_nil _ _ _ _ _ | exact Kd.N_nil _ _ _ _ _ | exact Kd.V_nil _ _ _ _ _ | exact Kd.Q_nil _ _ _ _ _ | exact Kd.S_nil _ _ _ _ _, by exact zB1 HB.out GE103.out⟩
 ·rw [if_neg c2] at H
  have c2b0 : decide (120 < (a0.size : Int)) = false := decide_eq_false c2
  have c2b1 : decide (120 < a0.size) = false := decide_eq_false (by omega)
  clear c2
  replace H := Option.bind_eq_some_iff.mp H
  obtain ⟨t105, A50, H⟩ := H
  replace H : ((strings_Split.f t105 (⟨#[10]⟩ : ByteArray)).bind fun t106 => (impl_IndexRead.l0 k a0 t106 (t106.length : Int) 0 0 0 ([] : List (S40)))) = some (r1, r2, r3, r4) := H
  have A5 := Aside0.mk A50
  clear A50
  replace H := Option.bind_eq_some_iff.mp H
  obtain ⟨t106, A60, H⟩ := H
  replace H : (impl_IndexRead.l0 k a0 t106 (t106.length : Int) 0 0 0 ([] : List (S40))) = some (r1, r2, r3, r4) := H
  have A6 := Aside0.mk A60
  clear A60
  have H' := Aside0.mk H
  clear H
  go_enter Tryd.func27, Tryd.ntmps27
  go_wp2_with (first | ((with_reducible refine gate_dst (N := 2) rfl ?_); refine box_event ?hg (N := 2) ?hd (cs := #[.int .i64 0, .int .i64 0, .slice none 0 0]) (t := 25) ?hr ?_; (case hd => rfl); (case hg => rfl); (case hr => first | (go_simp; done) | (go_simp; rfl)); intro gb103 hg w7 hbox hb; have n0_ := Aside0.mk (below_step (by exact zB HB.out) hb); have n1_ := Aside0.mk (hbox); have n2_ := Aside0.mk ((by rw [hg]; exact (below_size (by exact zB HB.out)) : w.heap.size ≤ gb103)); have n3_ := Aside0.mk ((by rw [hg]; exact (below_size (by exact zB HB.out)) : w.heap.size ≤ gb103)); clear HB; have HB := n0_; have BK103 := n1_; have GW103 := n2_; have GE103 := n3_; clear n0_ n1_ n2_ n3_; clear hb hbox hg) | ((with_reducible refine gate_dst (N := 4) rfl ?_); refine box_event ?hg (N := 4) ?hd (cs := #[.int .i64 0, .int .i64 0, .slice none 0 0]) (t := 25) ?hr ?_; (case hd => rfl); (case hg => rfl); (case hr => first | (go_simp; done) | (go_simp; rfl)); intro gb104 hg w8 hbox hb; have n0_ := Aside0.mk (blk_below (g := gb103) (o := .cells #[.int .i64 0, .int .i64 0, .slice none 0 0] 25 (0, 0)) (by exact zK BK103.out) hb); have n1_ := Aside0.mk (below_step (by exact zB1 HB.out GE103.out) hb); have n2_ := Aside0.mk (hbox); have n3_ := Aside0.mk ((by rw [hg]; exact (below_size (by exact zB1 HB.out GE103.out)) : w.heap.size ≤ gb104)); have n4_ := Aside0.mk ((by rw [hg]; exact (below_size (by exact zB1 HB.out GE103.out)) : w.heap.size ≤ gb104)); have n5_ := Aside0.mk ((by rw [hg]; exact Nat.ne_of_lt (blk_lt (g := gb103) (o := .cells #[.int .i64 0, .int .i64 0, .slice none 0 0] 25 (0, 0)) (by exact zK BK103.out)) : gb103 ≠ gb104)); have n6_ := Aside0.mk ((by rw [hg]; exact Nat.ne_of_gt (blk_lt (g := gb103) (o := .cells #[.int .i64 0, .int .i64 0, .slice none 0 0] 25 (0, 0)) (by exact zK BK103.out)) : gb104 ≠ gb103)); clear BK103; clear HB; have BK103 := n0_; have HB := n1_; have BK104 := n2_; have GW104 := n3_; have GE104 := n4_; have NB103_104 := n5_; have NB104_103 := n6_; clear n0_ n1_ n2_ n3_ n4_ n5_ n6_; clear hb hbox hg) | ((with_reducible refine gate_callee (f := 68) rfl ?_); refine goesL_ (some 19) rfl rfl Tryd.func68 (by kernel_rfl) rfl #[.string a0, .string (⟨#[10]⟩ : ByteArray)] rfl (by (try simp only [zm1, zm2, zm3]); first | done | rfl | (simp only [List.length_drop, List.length_take]; rfl)) ?_; (with_reducible refine (strings_TrimSuffix.calls a0 (⟨#[10]⟩ : ByteArray) t105 _ A5.out).mono ?_); rintro e w9 ⟨rfl, hb⟩; refine ⟨_, rfl, ?_⟩; have n0_ := Aside0.mk (blk_below (g := gb103) (o := .cells #[.int .i64 0, .int .i64 0, .slice none 0 0] 25 (0, 0)) (by exact zK BK103.out) hb); have n1_ := Aside0.mk (blk_below (g := gb104) (o := .cells #[.int .i64 0, .int .i64 0, .slice none 0 0] 25 (0, 0)) (by exact zK BK104.out) hb); have n2_ := Aside0.mk (below_step (by exact zB2 HB.out GE103.out GE104.out) hb); clear BK103; clear BK104; clear HB; have BK103 := n0_; have BK104 := n1_; have HB := n2_; clear n0_ n1_ n2_; (try clear hb); (try clear hb2); (try clear hk); (try clear hi)) | ((with_reducible refine gate_callee (f := 56) rfl ?_); refine goesL_ (some 20) rfl rfl Tryd.func56 (by kernel_rfl) rfl #[.string t105, .string (⟨#[10]⟩ : ByteArray)] rfl (by (try simp only [zm1, zm2, zm3]); first | done | rfl | (simp only [List.length_drop, List.length_take]; rfl)) ?_; (with_reducible refine (strings_Split.calls t105 (⟨#[10]⟩ : ByteArray) t106 _ ?sideL A6.out).mono ?_); (case sideL => exact HLD.out.on (by exact zB2 HB.out GE103.out GE104.out)); rintro e w10 ⟨v107, rfl, ho0, hb⟩; refine ⟨_, rfl, ?_⟩; have n0_ := Aside0.mk (Kd.R_lower ho0 (below_size (by exact zB2 HB.out GE103.out GE104.out))); have n1_ := Aside0.mk (blk_below (g := gb103) (o := .cells #[.int .i64 0, .int .i64 0, .slice none 0 0] 25 (0, 0)) (by exact zK BK103.out) hb); have n2_ := Aside0.mk (blk_below (g := gb104) (o := .cells #[.int .i64 0, .int .i64 0, .slice none 0 0] 25 (0, 0)) (by exact zK BK104.out) hb); have n3_ := Aside0.mk (below_step (by exact zB2 HB.out GE103.out GE104.out) hb); clear BK103; clear BK104; clear HB; have HO108 := n0_; have BK103 := n1_; have BK104 := n2_; have HB := n3_; clear n0_ n1_ n2_ n3_; (try clear hb); (try clear hb2); (try clear hk); (try clear hi); (try clear ho0); obtain ⟨Ao11, co11, eo11⟩ := Kd.R_slice HO108.out; subst eo11))
  go_loopg [22] k (fun kq v22 w' => ∃ (x22_1 : Int) (x105000_1 : Int) (x105001_1 : Int) (x105002_1 : List (S40)) (u105002 : Value), v22 = .int .i64 x22_1 ∧ Aside0 (impl_IndexRead.l0 kq a0 t106 (t106.length : Int) x22_1 x105000_1 x105001_1 x105002_1 = some (r1, r2, r3, r4)) ∧ Aside0 (kq ≤ k) ∧ Aside0 (Kd.R Kd.string 9 w' w.heap.size (fun _ => True) (.slice Ao11 t106.length co11) t106) ∧ Aside0 (Kd.R k40 40 w' w.heap.size (fun _ => True) u105002 x105002_1) ∧ Aside0 (w'.heap[gb103]? = some (.cells #[.int .i64 0, .int .i64 0, (.slice none 0 0)] 25 (0, 0))) ∧ Aside0 (w'.heap[gb104]? = some (.cells #[.int .i64 x105000_1, .int .i64 x105001_1, u105002] 25 (0, 0))) ∧ Aside0 (Below w.heap.size w w'))
  case atStart => exact ⟨(0), (0), (0), (([] : List (S40))), (.slice none 0 0), (by first | rfl | (simp; done) | (simp [*]; done)), H', ⟨Nat.le_refl _⟩, ⟨by exact zR HO108.out⟩, ⟨by first | exact Kd.R_nil _ _ _ _ _ | exact Kd.N_nil _ _ _ _ _ | exact Kd.V_nil _ _ _ _ _ | exact Kd.Q_nil _ _ _ _ _ | exact Kd.S_nil _ _ _ _ _⟩, ⟨by exact zK BK103.out⟩, ⟨by exact zK BK104.out⟩, ⟨by exact zB2 HB.out GE103.out GE104.out⟩⟩
  case round =>
   clear H'
   try clear c2
   try clear c2b0
   try clear c2b1
   try clear p2
   try clear c5
   try clear c6
   try clear hcz4_0
   try clear hcz4_1
   try clear hcz4_2
   try clear hfz4_0
   try clear hfz4_1
   try clear hfz4_2
   obtain ⟨x22_1, x105000_1, x105001_1, x105002_1, u105002, rfl, HA, HK1, HO_20, HO_105002, BK103, BK104, HB⟩ := hrel
   cases gk with
   | zero => exact absurd HA.out (by simp [impl_IndexRead.l0])
   | succ k1 =>
    have H := HA.out
    clear HA
    simp only [impl_IndexRead.l0] at H
    by_cases c12 : x22_1 < (t106.length : Int)
    ·rw [if_pos c12] at H
     have c12b0 : decide (x22_1 < (t106.length : Int)) = true := decide_eq_true c12
     clear c12
     by_cases c13 : 0 ≤ x22_1
     ·rw [if_pos c13] at H
      have c13b0 : decide (0 ≤ x22_1) = true := decide_eq_true c13
      clear c13
      by_cases c14 : x22_1 < (t106.length : Int)
      ·rw [if_pos c14] at H
       have c14b0 : decide (x22_1 < (t106.length : Int)) = true := decide_eq_true c14
       clear c14
       replace H := Option.bind_eq_some_iff.mp H
       obtain ⟨⟨t110, t111, t112⟩, A150, H⟩ := H
       replace H : ((strconv_Atoi.f t111).bind fun bt113 => (if x22_1 = 0 then ((strconv_Atoi.f t110).bind fun bt115 => (impl_IndexRead.l0 k1 a0 t106 (t106.length : Int) (wrap64 (x22_1 + 1)) bt115.1 bt113.1 x105002_1)) else ((impl_nameRead.f t110).bind fun bt117 => (if x105002_1.length < 5864062014805 then (impl_IndexRead.l0 k1 a0 t106 (t106.length : Int) (wrap64 (x22_1 + 1)) x105000_1 x105001_1 (x105002_1 ++ [(⟨bt117.1, bt117.2, bt113.1⟩ : S40)])) else (none))))) = some (r1, r2, r3, r4) := H
       have A15 := Aside0.mk A150
       clear A150
       replace H := Option.bind_eq_some_iff.mp H
       obtain ⟨⟨t113, t114⟩, A160, H⟩ := H
       replace H : (if x22_1 = 0 then ((strconv_Atoi.f t110).bind fun bt115 => (impl_IndexRead.l0 k1 a0 t106 (t106.length : Int) (wrap64 (x22_1 + 1)) bt115.1 t113 x105002_1)) else ((impl_nameRead.f t110).bind fun bt117 => (if x105002_1.length < 5864062014805 then (impl_IndexRead.l0 k1 a0 t106 (t106.length : Int) (wrap64 (x22_1 + 1)) x105000_1 x105001_1 (x105002_1 ++ [(⟨bt117.1, bt117.2, t113⟩ : S40)])) else (none)))) = some (r1, r2, r3, r4) := H
       have A16 := Aside0.mk A160
       clear A160
       by_cases c17 : x22_1 = 0
       ·rw [if_pos c17] at H
        have c17b0 : (x22_1 == 0) = true := beq_iff_eq.mpr c17
        have c17b1 : (x22_1 != 0) = false := bne_eq_false_iff_eq.mpr c17
        clear c17
        replace H := Option.bind_eq_some_iff.mp H
        obtain ⟨⟨t115, t116⟩, A180, H⟩ := H
        replace H : (impl_IndexRead.l0 k1 a0 t106 (t106.length : Int) (wrap64 (x22_1 + 1)) t115 t113 x105002_1) = some (r1, r2, r3, r4) := H
        have A18 := Aside0.mk A180
        clear A180
        have H' := Aside0.mk H
        clear H
        have p109 : 0 ≤ (x22_1 : Int) := of_decide_eq_true (by first | (with_reducible assumption) | assumption)
        have q109 : x22_1 < (t106.length : Int) := of_decide_eq_true (by first | (with_reducible assumption) | assumption)
        obtain ⟨ad109, e109, hx109_0⟩ := Kd.at_string (Kd.R_reads' HO_20.out).2.2 x22_1 p109 q109
        cases e109
        replace p109 := eq_true p109
        replace q109 := eq_true q109
        go_wp2_with (first | ((with_reducible refine gate_callee (f := 58) rfl ?_); refine goesL_ (some 29) rfl rfl Tryd.func58 (by kernel_rfl) rfl #[.string (rdOf ByteArray.empty t106 x22_1), .string (⟨#[32]⟩ : ByteArray)] rfl (by (try simp only [zm1, zm2, zm3]); first | done | rfl | (simp only [List.length_drop, List.length_take]; rfl)) ?_; (with_reducible refine (strings_Cut.calls (rdOf ByteArray.empty t106 x22_1) (⟨#[32]⟩ : ByteArray) t110 t111 t112 _ ?sideL A15.out).mono ?_); (case sideL => exact HLD.out.on (by exact zB2 HB.out GE103.out GE104.out)); rintro e w19 ⟨rfl, hb⟩; refine ⟨_, rfl, ?_⟩; have n0_ := Aside0.mk (Kd.R_below (by exact zR HO_20.out) hb); have n1_ := Aside0.mk (Kd.R_below (by exact zR HO_105002.out) hb); have n2_ := Aside0.mk (blk_below (g := gb103) (o := .cells #[.int .i64 0, .int .i64 0, .slice none 0 0] 25 (0, 0)) (by exact zK BK103.out) hb); have n3_ := Aside0.mk (blk_below (g := gb104) (o := .cells #[.int .i64 x105000_1, .int .i64 x105001_1, u105002] 25 (0, 0)) (by exact zK BK104.out) hb); have n4_ := Aside0.mk (below_step (by exact zB2 HB.out GE103.out GE104.out) hb); clear HO_20; clear HO_105002; clear BK103; clear BK104; clear HB; have HO_20 := n0_; have HO_105002 := n1_; have BK103 := n2_; have BK104 := n3_; have HB := n4_; clear n0_ n1_ n2_ n3_ n4_; (try clear hb); (try clear hb2); (try clear hk); (try clear hi)) | ((with_reducible refine gate_callee (f := 59) rfl ?_); refine goesL_ (some 35) rfl rfl Tryd.func59 (by kernel_rfl) rfl #[.string t111] rfl (by (try simp only [zm1, zm2, zm3]); first | done | rfl | (simp only [List.length_drop, List.length_take]; rfl)) ?_; (with_reducible refine (strconv_Atoi.calls t111 t113 t114 _ ?sideL A16.out).mono ?_); (case sideL => exact HLD.out.on (by exact zB2 HB.out GE103.out GE104.out)); rintro e w20 ⟨ev_, rfl, hb⟩; refine ⟨_, rfl, ?_⟩; have n0_ := Aside0.mk (Kd.R_below (by exact zR HO_20.out) hb); have n1_ := Aside0.mk (Kd.R_below (by exact zR HO_105002.out) hb); have n2_ := Aside0.mk (blk_below (g := gb103) (o := .cells #[.int .i64 0, .int .i64 0, .slice none 0 0] 25 (0, 0)) (by exact zK BK103.out) hb); have n3_ := Aside0.mk (blk_below (g := gb104) (o := .cells #[.int .i64 x105000_1, .int .i64 x105001_1, u105002] 25 (0, 0)) (by exact zK BK104.out) hb); have n4_ := Aside0.mk (below_step (by exact zB2 HB.out GE103.out GE104.out) hb); clear HO_20; clear HO_105002; clear BK103; clear BK104; clear HB; have HO_20 := n0_; have HO_105002 := n1_; have BK103 := n2_; have BK104 := n3_; have HB := n4_; clear n0_ n1_ n2_ n3_ n4_; (try clear hb); (try clear hb2); (try clear hk); (try clear hi); (try simp only [errW_none, errW_some])) | ((with_reducible refine gate_callee (f := 59) rfl ?_); refine goesL_ (some 42) rfl rfl Tryd.func59 (by kernel_rfl) rfl #[.string t110] rfl (by (try simp only [zm1, zm2, zm3]); first | done | rfl | (simp only [List.length_drop, List.length_take]; rfl)) ?_; (with_reducible refine (strconv_Atoi.calls t110 t115 t116 _ ?sideL A18.out).mono ?_); (case sideL => exact HLD.out.on (by exact zB2 HB.out GE103.out GE104.out)); rintro e w21 ⟨ev_, rfl, hb⟩; refine ⟨_, rfl, ?_⟩; have n0_ := Aside0.mk (Kd.R_below (by exact zR HO_20.out) hb); have n1_ := Aside0.mk (Kd.R_below (by exact zR HO_105002.out) hb); have n2_ := Aside0.mk (blk_below (g := gb103) (o := .cells #[.int .i64 0, .int .i64 0, .slice none 0 0] 25 (0, 0)) (by exact zK BK103.out) hb); have n3_ := Aside0.mk (blk_below (g := gb104) (o := .cells #[.int .i64 x105000_1, .int .i64 x105001_1, u105002] 25 (0, 0)) (by exact zK BK104.out) hb); have n4_ := Aside0.mk (below_step (by exact zB2 HB.out GE103.out GE104.out) hb); clear HO_20; clear HO_105002; clear BK103; clear BK104; clear HB; have HO_20 := n0_; have HO_105002 := n1_; have BK103 := n2_; have BK104 := n3_; have HB := n4_; clear n0_ n1_ n2_ n3_ n4_; (try clear hb); (try clear hb2); (try clear hk); (try clear hi); (try simp only [errW_none, errW_some]); have hnb22 := NB104_103.out; have hnc22 := NB103_104.out; obtain ⟨hcz23_0, hcz23_1, hcz23_2, hfz23_0, hfz23_1, hfz23_2⟩ := zc3f BK104.out))
        go_roundg k1
        case measure => have := HK1.out; omega
        case rel => exact ⟨(wrap64 (x22_1 + 1)), (t115), (t113), (x105002_1), (u105002), (by first | rfl | (simp; done) | (simp [*]; done)), H', ⟨by have := HK1.out; omega⟩, ⟨by exact zR (Kd.R_mono (Kd.R_far (p := ⟨gb104, 1, none⟩) (Kd.R_far (p := ⟨gb104, 0, none⟩) (Kd.R_types HO_20.out BK104.out (by decide)) (fun _ hk => hk.2) (.int .i64 t115)) (fun _ hk => hk.2) (.int .i64 t113)) (fun _ hk => trivial))⟩, ⟨by exact zR (Kd.R_mono (Kd.R_far (p := ⟨gb104, 1, none⟩) (Kd.R_far (p := ⟨gb104, 0, none⟩) (Kd.R_types HO_105002.out BK104.out (by decide)) (fun _ hk => hk.2) (.int .i64 t115)) (fun _ hk => hk.2) (.int .i64 t113)) (fun _ hk => trivial))⟩, ⟨by (with_reducible repeat (first | refine blk_drewN ?_ _ | refine blk_drew ?_ | refine blk_alloc ?_ _)); refine blk_far ?_ NB103_104.out _; (with_reducible repeat (first | refine blk_drewN ?_ _ | refine blk_drew ?_ | refine blk_alloc ?_ _)); refine blk_far ?_ NB103_104.out _; exact zK BK103.out⟩, ⟨by (with_reducible repeat (first | refine blk_drewN ?_ _ | refine blk_drew ?_ | refine blk_alloc ?_ _)); refine blk_put (cs := #[.int .i64 t115, .int .i64 x105001_1, u105002]) ?_ 1 _ rfl; (with_reducible repeat (first | refine blk_drewN ?_ _ | refine blk_drew ?_ | refine blk_alloc ?_ _)); refine blk_put (cs := #[.int .i64 x105000_1, .int .i64 x105001_1, u105002]) ?_ 0 _ rfl; exact zK BK104.out⟩, ⟨by exact zB2 HB.out GE103.out GE104.out⟩⟩
       ·rw [if_neg c17] at H
        have c17b0 : (x22_1 == 0) = false := beq_eq_false_iff_ne.mpr c17
        have c17b1 : (x22_1 != 0) = true := bne_iff_ne.mpr c17
        replace H := Option.bind_eq_some_iff.mp H
        obtain ⟨⟨t117, t118⟩, A240, H⟩ := H
        replace H : (if x105002_1.length < 5864062014805 then (impl_IndexRead.l0 k1 a0 t106 (t106.length : Int) (wrap64 (x22_1 + 1)) x105000_1 x105001_1 (x105002_1 ++ [(⟨t117, t118, t113⟩ : S40)])) else (none)) = some (r1, r2, r3, r4) := H
        have A24 := Aside0.mk A240
        clear A240
        by_cases c25 : x105002_1.length < 5864062014805
        ·rw [if_pos c25] at H
         have LMc25 := Aside0.mk c25
         clear c25
         obtain ⟨y119, hy119⟩ : ∃ y_ : List (S40), y_ = (x105002_1 ++ [(⟨t117, t118, t113⟩ : S40)]) := ⟨_, rfl⟩
         replace H : (impl_IndexRead.l0 k1 a0 t106 (t106.length : Int) (wrap64 (x22_1 + 1)) x105000_1 x105001_1 y119) = some (r1, r2, r3, r4) := by first | (rw [hy119]; with_reducible exact H) | (have H2_ := (Option.bind_some _ _).symm.trans H; rw [hy119]; with_reducible exact H2_) | (have H2_ := (Option.bind_some _ _).symm.trans H; with_reducible exact H2_) | with_reducible exact H | (rw [hy119]; exact H) | exact H
         have Ny119 := Aside0.mk hy119
         clear hy119
         have H' := Aside0.mk H
         clear H
         have p109 : 0 ≤ (x22_1 : Int) := of_decide_eq_true (by first | (with_reducible assumption) | assumption)
         have q109 : x22_1 < (t106.length : Int) := of_decide_eq_true (by first | (with_reducible assumption) | assumption)
         obtain ⟨ad109, e109, hx109_0⟩ := Kd.at_string (Kd.R_reads' HO_20.out).2.2 x22_1 p109 q109
         cases e109
         replace p109 := eq_true p109
         replace q109 := eq_true q109
         go_wp2_with (first | ((with_reducible refine gate_callee (f := 58) rfl ?_); refine goesL_ (some 29) rfl rfl Tryd.func58 (by kernel_rfl) rfl #[.string (rdOf ByteArray.empty t106 x22_1), .string (⟨#[32]⟩ : ByteArray)] rfl (by (try simp only [zm1, zm2, zm3]); first | done | rfl | (simp only [List.length_drop, List.length_take]; rfl)) ?_; (with_reducible refine (strings_Cut.calls (rdOf ByteArray.empty t106 x22_1) (⟨#[32]⟩ : ByteArray) t110 t111 t112 _ ?sideL A15.out).mono ?_); (case sideL => exact HLD.out.on (by exact zB2 HB.out GE103.out GE104.out)); rintro e w26 ⟨rfl, hb⟩; refine ⟨_, rfl, ?_⟩; have n0_ := Aside0.mk (Kd.R_below (by exact zR HO_20.out) hb); have n1_ := Aside0.mk (Kd.R_below (by exact zR HO_105002.out) hb); have n2_ := Aside0.mk (blk_below (g := gb103) (o := .cells #[.int .i64 0, .int .i64 0, .slice none 0 0] 25 (0, 0)) (by exact zK BK103.out) hb); have n3_ := Aside0.mk (blk_below (g := gb104) (o := .cells #[.int .i64 x105000_1, .int .i64 x105001_1, u105002] 25 (0, 0)) (by exact zK BK104.out) hb); have n4_ := Aside0.mk (below_step (by exact zB2 HB.out GE103.out GE104.out) hb); clear HO_20; clear HO_105002; clear BK103; clear BK104; clear HB; have HO_20 := n0_; have HO_105002 := n1_; have BK103 := n2_; have BK104 := n3_; have HB := n4_; clear n0_ n1_ n2_ n3_ n4_; (try clear hb); (try clear hb2); (try clear hk); (try clear hi)) | ((with_reducible refine gate_callee (f := 59) rfl ?_); refine goesL_ (some 35) rfl rfl Tryd.func59 (by kernel_rfl) rfl #[.string t111] rfl (by (try simp only [zm1, zm2, zm3]); first | done | rfl | (simp only [List.length_drop, List.length_take]; rfl)) ?_; (with_reducible refine (strconv_Atoi.calls t111 t113 t114 _ ?sideL A16.out).mono ?_); (case sideL => exact HLD.out.on (by exact zB2 HB.out GE103.out GE104.out)); rintro e w27 ⟨ev_, rfl, hb⟩; refine ⟨_, rfl, ?_⟩; have n0_ := Aside0.mk (Kd.R_below (by exact zR HO_20.out) hb); have n1_ := Aside0.mk (Kd.R_below (by exact zR HO_105002.out) hb); have n2_ := Aside0.mk (blk_below (g := gb103) (o := .cells #[.int .i64 0, .int .i64 0, .slice none 0 0] 25 (0, 0)) (by exact zK BK103.out) hb); have n3_ := Aside0.mk (blk_below (g := gb104) (o := .cells #[.int .i64 x105000_1, .int .i64 x105001_1, u105002] 25 (0, 0)) (by exact zK BK104.out) hb); have n4_ := Aside0.mk (below_step (by exact zB2 HB.out GE103.out GE104.out) hb); clear HO_20; clear HO_105002; clear BK103; clear BK104; clear HB; have HO_20 := n0_; have HO_105002 := n1_; have BK103 := n2_; have BK104 := n3_; have HB := n4_; clear n0_ n1_ n2_ n3_ n4_; (try clear hb); (try clear hb2); (try clear hk); (try clear hi); (try simp only [errW_none, errW_some])) | ((with_reducible refine gate_callee (f := 57) rfl ?_); refine goesL_ (some 50) rfl rfl Tryd.func57 (by kernel_rfl) rfl #[.string t110] rfl (by (try simp only [zm1, zm2, zm3]); first | done | rfl | (simp only [List.length_drop, List.length_take]; rfl)) ?_; (with_reducible refine (impl_nameRead.calls t110 t117 t118 _ ?sideL A24.out).mono ?_); (case sideL => exact HLD.out.on (by exact zB2 HB.out GE103.out GE104.out)); rintro e w28 ⟨rfl, hb⟩; refine ⟨_, rfl, ?_⟩; have n0_ := Aside0.mk (Kd.R_below (by exact zR HO_20.out) hb); have n1_ := Aside0.mk (Kd.R_below (by exact zR HO_105002.out) hb); have n2_ := Aside0.mk (blk_below (g := gb103) (o := .cells #[.int .i64 0, .int .i64 0, .slice none 0 0] 25 (0, 0)) (by exact zK BK103.out) hb); have n3_ := Aside0.mk (blk_below (g := gb104) (o := .cells #[.int .i64 x105000_1, .int .i64 x105001_1, u105002] 25 (0, 0)) (by exact zK BK104.out) hb); have n4_ := Aside0.mk (below_step (by exact zB2 HB.out GE103.out GE104.out) hb); clear HO_20; clear HO_105002; clear BK103; clear BK104; clear HB; have HO_20 := n0_; have HO_105002 := n1_; have BK103 := n2_; have BK104 := n3_; have HB := n4_; clear n0_ n1_ n2_ n3_ n4_; (try clear hb); (try clear hb2); (try clear hk); (try clear hi); have hnb29 := NB104_103.out; have hnc29 := NB103_104.out; obtain ⟨hcz30_0, hcz30_1, hcz30_2, hfz30_0, hfz30_1, hfz30_2⟩ := zc3f BK104.out) | ((with_reducible refine gate_builtin (b := .append) (xs := #[.tmp 54, .tmp 59]) rfl ?_); at_builtin; refine Kd.R_append k40 (w0 := w) w.heap.size rfl (.tmp 54) (.tmp 59) 23 40 (.agg #[(.int .i64 0), (.int .i64 0), (.int .i64 0)]) 24 rfl Tryd.underlying23 info40 rfl (by decide) (by omega) u105002 x105002_1 (⟨t117, t118, t113⟩ : S40) [.int .i64 t117, .int .i64 t118, .int .i64 t113] (fun _ => True) (fun _ => False) rfl rfl ?aP (fun _ hk => hk.elim) ?aF ?aO ?aB ?aS ?aL ?_; (case aP => exact k40_mkM _ _ _ (⟨t117, t118, t113⟩ : S40)); (case aB => exact (by exact zB2 HB.out GE103.out GE104.out)); (case aF => exact (fun _ _ => trivial)); (case aO => exact (by exact zR HO_105002.out)); (case aS => exact (below_size (by exact zB2 HB.out GE103.out GE104.out))); (case aL => have := LMc25.out; omega); intro v120 w31 ho hb hg hat; rw [← Ny119.out] at ho; have n0_ := Aside0.mk (Kd.R_over' (by exact zR HO_20.out) (Kd.R_typed (by exact zR HO_105002.out)) (by decide) hg); have n1_ := Aside0.mk (blk_grown (g := gb103) (o := .cells #[.int .i64 0, .int .i64 0, .slice none 0 0] 25 (0, 0)) (by exact zK BK103.out) hg (Kd.R_ne HO_105002.out BK103.out (by decide))); have n2_ := Aside0.mk (blk_grown (g := gb104) (o := .cells #[.int .i64 x105000_1, .int .i64 x105001_1, u105002] 25 (0, 0)) (by exact zK BK104.out) hg (Kd.R_ne HO_105002.out BK104.out (by decide))); have n3_ := Aside0.mk (hb); have n4_ := Aside0.mk (ho); clear HO_20; clear BK103; clear BK104; clear HB; clear HO_105002; have HO_20 := n0_; have BK103 := n1_; have BK104 := n2_; have HB := n3_; have HO121 := n4_; clear n0_ n1_ n2_ n3_ n4_; clear ho hb hg hat; obtain ⟨Ao32, co32, eo32⟩ := Kd.R_slice HO121.out; subst eo32; obtain ⟨hcz33_0, hcz33_1, hcz33_2, hfz33_0, hfz33_1, hfz33_2⟩ := zc3f BK104.out))
         go_roundg k1
         case measure => have := HK1.out; omega
         case rel => exact ⟨(wrap64 (x22_1 + 1)), (x105000_1), (x105001_1), (y119), (.slice Ao32 y119.length co32), (by first | rfl | (simp; done) | (simp [*]; done)), H', ⟨by have := HK1.out; omega⟩, ⟨by exact zR (Kd.R_mono (Kd.R_far (p := ⟨gb104, 2, none⟩) (Kd.R_types HO_20.out BK104.out (by decide)) (fun _ hk => hk.2) (.slice Ao32 y119.length co32)) (fun _ hk => trivial))⟩, ⟨by exact zR (Kd.R_mono (Kd.R_far (p := ⟨gb104, 2, none⟩) (Kd.R_types HO121.out BK104.out (by decide)) (fun _ hk => hk.2) (.slice Ao32 y119.length co32)) (fun _ hk => trivial))⟩, ⟨by (with_reducible repeat (first | refine blk_drewN ?_ _ | refine blk_drew ?_ | refine blk_alloc ?_ _)); refine blk_far ?_ NB103_104.out _; exact zK BK103.out⟩, ⟨by (with_reducible repeat (first | refine blk_drewN ?_ _ | refine blk_drew ?_ | refine blk_alloc ?_ _)); refine blk_put (cs := #[.int .i64 x105000_1, .int .i64 x105001_1, u105002]) ?_ 2 _ rfl; exact zK BK104.out⟩, ⟨by exact zB2 HB.out GE103.out GE104.out⟩⟩
        ·rw [if_neg c25] at H
         exact absurd H (by simp)
      ·rw [if_neg c14] at H
       exact absurd H (by simp)
     ·rw [if_neg c13] at H
      exact absurd H (by simp)
    ·rw [if_neg c12] at H
     have c12b0 : decide (x22_1 < (t106.length : Int)) = false := decide_eq_false c12
     clear c12
     replace H := Option.bind_eq_some_iff.mp H
     obtain ⟨t122, A340, H⟩ := H
     replace H : (if t122 = true then ((impl_IndexText.f k1 x105000_1 x105001_1 x105002_1).bind fun t123 => (if t123.toList = a0.toList then (some (x105000_1, x105001_1, x105002_1, true)) else (some (0, 0, ([] : List (S40)), false)))) else (some (0, 0, ([] : List (S40)), false))) = some (r1, r2, r3, r4) := H
     have A34 := Aside0.mk A340
     clear A340
     by_cases c35 : t122 = true
     ·subst c35
      have H1 : ((impl_IndexText.f k1 x105000_1 x105001_1 x105002_1).bind fun t123 => (if t123.toList = a0.toList then (some (x105000_1, x105001_1, x105002_1, true)) else (some (0, 0, ([] : List (S40)), false)))) = some (r1, r2, r3, r4) := by rw [if_pos rfl] at H; exact H
      clear H
      have H := H1
      clear H1
      replace H := Option.bind_eq_some_iff.mp H
      obtain ⟨t123, A360, H⟩ := H
      replace H : (if t123.toList = a0.toList then (some (x105000_1, x105001_1, x105002_1, true)) else (some (0, 0, ([] : List (S40)), false))) = some (r1, r2, r3, r4) := H
      have A36 := Aside0.mk A360
      clear A360
      by_cases c37 : t123.toList = a0.toList
      ·rw [if_pos c37] at H
       have c37b0 : (t123.toList == a0.toList) = true := beq_iff_eq.mpr c37
       have c37b1 : (t123.toList != a0.toList) = false := bne_eq_false_iff_eq.mpr c37
       clear c37
       simp only [Option.some.injEq, Prod.mk.injEq] at H
       obtain ⟨rfl, rfl, rfl, rfl⟩ := H
       have hnb38 := NB104_103.out
       have hnc38 := NB103_104.out
       obtain ⟨hcz39_0, hcz39_1, hcz39_2, hfz39_0, hfz39_1, hfz39_2⟩ := zc3f BK104.out
       obtain ⟨Ao40, co40, eo40⟩ := Kd.R_slice HO_105002.out
       subst eo40
       go_wp2_with (first | ((with_reducible refine gate_callee (f := 38) rfl ?_); refine goesL_ (some 64) rfl rfl Tryd.func38 (by kernel_rfl) rfl #[.agg #[.int .i64 x105000_1, .int .i64 x105001_1, .slice Ao40 x105002_1.length co40]] rfl (by (try simp only [zm1, zm2, zm3]); first | done | rfl | (simp only [List.length_drop, List.length_take]; rfl)) ?_; (with_reducible refine (impl_IndexOk.calls k1 x105000_1 x105001_1 _ _ x105002_1 true _ ?side1 ?side2 A34.out).mono ?_); (case side1 => exact zC (Kd.R_reads' HO_105002.out).2.2); (case side2 => exact (Kd.R_reads' HO_105002.out).2.1); rintro e w41 ⟨rfl, hb⟩; refine ⟨_, rfl, ?_⟩; have n0_ := Aside0.mk (Kd.R_below (by exact zR HO_20.out) hb); have n1_ := Aside0.mk (Kd.R_below (by exact zR HO_105002.out) hb); have n2_ := Aside0.mk (blk_below (g := gb103) (o := .cells #[.int .i64 0, .int .i64 0, .slice none 0 0] 25 (0, 0)) (by exact zK BK103.out) hb); have n3_ := Aside0.mk (blk_below (g := gb104) (o := .cells #[.int .i64 x105000_1, .int .i64 x105001_1, .slice Ao40 x105002_1.length co40] 25 (0, 0)) (by exact zK BK104.out) hb); have n4_ := Aside0.mk (below_step (by exact zB2 HB.out GE103.out GE104.out) hb); clear HO_20; clear HO_105002; clear BK103; clear BK104; clear HB; have HO_20 := n0_; have HO_105002 := n1_; have BK103 := n2_; have BK104 := n3_; have HB := n4_; clear n0_ n1_ n2_ n3_ n4_; (try clear hb); (try clear hb2); (try clear hk); (try clear hi); obtain ⟨hcz42_0, hcz42_1, hcz42_2, hfz42_0, hfz42_1, hfz42_2⟩ := zc3f BK104.out) | (go_at_call 35; (with_reducible refine (impl_IndexText.calls k1 x105000_1 x105001_1 _ _ x105002_1 t123 _ ?side1 ?side2 ?sideL A36.out).mono ?_); (case sideL => exact HLD.out.on (by exact zB2 HB.out GE103.out GE104.out)); (case side1 => exact zC (Kd.R_reads' HO_105002.out).2.2); (case side2 => exact (Kd.R_reads' HO_105002.out).2.1); rintro e w43 ⟨rfl, hb⟩; have n0_ := Aside0.mk (Kd.R_below (by exact zR HO_20.out) hb); have n1_ := Aside0.mk (Kd.R_below (by exact zR HO_105002.out) hb); have n2_ := Aside0.mk (blk_below (g := gb103) (o := .cells #[.int .i64 0, .int .i64 0, .slice none 0 0] 25 (0, 0)) (by exact zK BK103.out) hb); have n3_ := Aside0.mk (blk_below (g := gb104) (o := .cells #[.int .i64 x105000_1, .int .i64 x105001_1, .slice Ao40 x105002_1.length co40] 25 (0, 0)) (by exact zK BK104.out) hb); have n4_ := Aside0.mk (below_step (by exact zB2 HB.out GE103.out GE104.out) hb); clear HO_20; clear HO_105002; clear BK103; clear BK104; clear HB; have HO_20 := n0_; have HO_105002 := n1_; have BK103 := n2_; have BK104 := n3_; have HB := n4_; clear n0_ n1_ n2_ n3_ n4_; (try clear hb); (try clear hb2); (try clear hk); (try clear hi); obtain ⟨hcz44_0, hcz44_1, hcz44_2, hfz44_0, hfz44_1, hfz44_2⟩ := zc3f BK104.out; obtain ⟨hcz45_0, hcz45_1, hcz45_2, hfz45_0, hfz45_1, hfz45_2⟩ := zc3f BK103.out))
       refine bodyPost_ret (results_ct rfl _ _ gb103 25 #[.int .i64 x105000_1, .int .i64 x105001_1, .slice Ao40 x105002_1.length co40] (0, 0) _ rfl (by (with_reducible repeat (first | refine blk_drewN ?_ _ | refine blk_drew ?_ | refine blk_alloc ?_ _)); refine blk_put (cs := #[.int .i64 x105000_1, .int .i64 x105001_1, .slice none 0 0]) ?_ 2 _ rfl; (with_reducible repeat (first | refine blk_drewN ?_ _ | refine blk_drew ?_ | refine blk_alloc ?_ _)); refine blk_put (cs := #[.int .i64 x105000_1, .int .i64 0, .slice none 0 0]) ?_ 1 _ rfl; (with_reducible repeat (first | refine blk_drewN ?_ _ | refine blk_drew ?_ | refine blk_alloc ?_ _)); refine blk_put (cs := #[.int .i64 0, .int .i64 0, .slice none 0 0]) ?_ 0 _ rfl; exact zK BK103.out) Tryd.underlying25 rfl (by kernel_rfl)) rfl ?_
       exact ⟨_, by first | rfl | (simp [errW_none, errW_some] <;> rfl) | (simp [*, errW_none, errW_some] <;> rfl), by exact zR (Kd.R_mono (Kd.R_far (p := ⟨gb103, 2, none⟩) (Kd.R_far (p := ⟨gb103, 1, none⟩) (Kd.R_far (p := ⟨gb103, 0, none⟩) (Kd.R_types HO_105002.out BK103.out (by decide)) (fun _ hk => hk.2) (.int .i64 x105000_1)) (fun _ hk => hk.2) (.int .i64 x105001_1)) (fun _ hk => hk.2) (.slice Ao40 x105002_1.length co40)) (fun _ hk => trivial)), by exact zB2 HB.out GE103.out GE104.out⟩
      ·rw [if_neg c37] at H
       have c37b0 : (t123.toList == a0.toList) = false := beq_eq_false_iff_ne.mpr c37
       have c37b1 : (t123.toList != a0.toList) = true := bne_iff_ne.mpr c37
       simp only [Option.some.injEq, Prod.mk.injEq] at H
       obtain ⟨rfl, rfl, rfl, rfl⟩ := H
       have hnb46 := NB104_103.out
       have hnc46 := NB103_104.out
       obtain ⟨hcz47_0, hcz47_1, hcz47_2, hfz47_0, hfz47_1, hfz47_2⟩ := zc3f BK104.out
       obtain ⟨Ao48, co48, eo48⟩ := Kd.R_slice HO_105002.out
       subst eo48
       go_wp2_with (first | ((with_reducible refine gate_callee (f := 38) rfl ?_); refine goesL_ (some 64) rfl rfl Tryd.func38 (by kernel_rfl) rfl #[.agg #[.int .i64 x105000_1, .int .i64 x105001_1, .slice Ao48 x105002_1.length co48]] rfl (by (try simp only [zm1, zm2, zm3]); first | done | rfl | (simp only [List.length_drop, List.length_take]; rfl)) ?_; (with_reducible refine (impl_IndexOk.calls k1 x105000_1 x105001_1 _ _ x105002_1 true _ ?side1 ?side2 A34.out).mono ?_); (case side1 => exact zC (Kd.R_reads' HO_105002.out).2.2); (case side2 => exact (Kd.R_reads' HO_105002.out).2.1); rintro e w49 ⟨rfl, hb⟩; refine ⟨_, rfl, ?_⟩; have n0_ := Aside0.mk (Kd.R_below (by exact zR HO_20.out) hb); have n1_ := Aside0.mk (Kd.R_below (by exact zR HO_105002.out) hb); have n2_ := Aside0.mk (blk_below (g := gb103) (o := .cells #[.int .i64 0, .int .i64 0, .slice none 0 0] 25 (0, 0)) (by exact zK BK103.out) hb); have n3_ := Aside0.mk (blk_below (g := gb104) (o := .cells #[.int .i64 x105000_1, .int .i64 x105001_1, .slice Ao48 x105002_1.length co48] 25 (0, 0)) (by exact zK BK104.out) hb); have n4_ := Aside0.mk (below_step (by exact zB2 HB.out GE103.out GE104.out) hb); clear HO_20; clear HO_105002; clear BK103; clear BK104; clear HB; have HO_20 := n0_; have HO_105002 := n1_; have BK103 := n2_; have BK104 := n3_; have HB := n4_; clear n0_ n1_ n2_ n3_ n4_; (try clear hb); (try clear hb2); (try clear hk); (try clear hi); obtain ⟨hcz50_0, hcz50_1, hcz50_2, hfz50_0, hfz50_1, hfz50_2⟩ := zc3f BK104.out) | (go_at_call 35; (with_reducible refine (impl_IndexText.calls k1 x105000_1 x105001_1 _ _ x105002_1 t123 _ ?side1 ?side2 ?sideL A36.out).mono ?_); (case sideL => exact HLD.out.on (by exact zB2 HB.out GE103.out GE104.out)); (case side1 => exact zC (Kd.R_reads' HO_105002.out).2.2); (case side2 => exact (Kd.R_reads' HO_105002.out).2.1); rintro e w51 ⟨rfl, hb⟩; have n0_ := Aside0.mk (Kd.R_below (by exact zR HO_20.out) hb); have n1_ := Aside0.mk (Kd.R_below (by exact zR HO_105002.out) hb); have n2_ := Aside0.mk (blk_below (g := gb103) (o := .cells #[.int .i64 0, .int .i64 0, .slice none 0 0] 25 (0, 0)) (by exact zK BK103.out) hb); have n3_ := Aside0.mk (blk_below (g := gb104) (o := .cells #[.int .i64 x105000_1, .int .i64 x105001_1, .slice Ao48 x105002_1.length co48] 25 (0, 0)) (by exact zK BK104.out) hb); have n4_ := Aside0.mk (below_step (by exact zB2 HB.out GE103.out GE104.out) hb); clear HO_20; clear HO_105002; clear BK103; clear BK104; clear HB; have HO_20 := n0_; have HO_105002 := n1_; have BK103 := n2_; have BK104 := n3_; have HB := n4_; clear n0_ n1_ n2_ n3_ n4_; (try clear hb); (try clear hb2); (try clear hk); (try clear hi); obtain ⟨hcz52_0, hcz52_1, hcz52_2, hfz52_0, hfz52_1, hfz52_2⟩ := zc3f BK103.out))
       refine bodyPost_ret (results_ct rfl _ _ gb103 25 #[.int .i64 0, .int .i64 0, .slice none 0 0] (0, 0) _ rfl (by (with_reducible repeat (first | refine blk_drewN ?_ _ | refine blk_drew ?_ | refine blk_alloc ?_ _)); refine blk_put (cs := #[.int .i64 0, .int .i64 0, .slice none 0 0]) ?_ 2 _ rfl; (with_reducible repeat (first | refine blk_drewN ?_ _ | refine blk_drew ?_ | refine blk_alloc ?_ _)); refine blk_put (cs := #[.int .i64 0, .int .i64 0, .slice none 0 0]) ?_ 1 _ rfl; (with_reducible repeat (first | refine blk_drewN ?_ _ | refine blk_drew ?_ | refine blk_alloc ?_ _)); refine blk_put (cs := #[.int .i64 0, .int .i64 0, .slice none 0 0]) ?_ 0 _ rfl; exact zK BK103.out) Tryd.underlying25 rfl (by kernel_rfl)) rfl ?_
       exact ⟨_, by first | rfl | (simp [errW_none, errW_some] <;> rfl) | (simp [*, errW_none, errW_some] <;> rfl), by first | exact Kd.R_nil _ _ _ _ _ | exact Kd.N_nil _ _ _ _ _ | exact Kd.V_nil _ _ _ _ _ | exact Kd.Q_nil _ _ _ _ _ | exact Kd.S_nil _ _ _ _ _, by exact zB2 HB.out GE103.out GE104.out⟩
     ·replace c35 := Bool.eq_false_iff.mpr c35
      subst c35
      have H1 : (some (0, 0, ([] : List (S40)), false)) = some (r1, r2, r3, r4) := by rw [if_neg (show ¬ (false = true) by decide)] at H; exact H
      clear H
      have H := H1
      clear H1
      simp only [Option.some.injEq, Prod.mk.injEq] at H
      obtain ⟨rfl, rfl, rfl, rfl⟩ := H
      have hnb53 := NB104_103.out
      have hnc53 := NB103_104.out
      obtain ⟨hcz54_0, hcz54_1, hcz54_2, hfz54_0, hfz54_1, hfz54_2⟩ := zc3f BK104.out
      obtain ⟨Ao55, co55, eo55⟩ := Kd.R_slice HO_105002.out
      subst eo55
      go_wp2_with (first | ((with_reducible refine gate_callee (f := 38) rfl ?_); refine goesL_ (some 64) rfl rfl Tryd.func38 (by kernel_rfl) rfl #[.agg #[.int .i64 x105000_1, .int .i64 x105001_1, .slice Ao55 x105002_1.length co55]] rfl (by (try simp only [zm1, zm2, zm3]); first | done | rfl | (simp only [List.length_drop, List.length_take]; rfl)) ?_; (with_reducible refine (impl_IndexOk.calls k1 x105000_1 x105001_1 _ _ x105002_1 false _ ?side1 ?side2 A34.out).mono ?_); (case side1 => exact zC (Kd.R_reads' HO_105002.out).2.2); (case side2 => exact (Kd.R_reads' HO_105002.out).2.1); rintro e w56 ⟨rfl, hb⟩; refine ⟨_, rfl, ?_⟩; have n0_ := Aside0.mk (Kd.R_below (by exact zR HO_20.out) hb); have n1_ := Aside0.mk (Kd.R_below (by exact zR HO_105002.out) hb); have n2_ := Aside0.mk (blk_below (g := gb103) (o := .cells #[.int .i64 0, .int .i64 0, .slice none 0 0] 25 (0, 0)) (by exact zK BK103.out) hb); have n3_ := Aside0.mk (blk_below (g := gb104) (o := .cells #[.int .i64 x105000_1, .int .i64 x105001_1, .slice Ao55 x105002_1.length co55] 25 (0, 0)) (by exact zK BK104.out) hb); have n4_ := Aside0.mk (below_step (by exact zB2 HB.out GE103.out GE104.out) hb); clear HO_20; clear HO_105002; clear BK103; clear BK104; clear HB; have HO_20 := n0_; have HO_105002 := n1_; have BK103 := n2_; have BK104 := n3_; have HB := n4_; clear n0_ n1_ n2_ n3_ n4_; (try clear hb); (try clear hb2); (try clear hk); (try clear hi); obtain ⟨hcz57_0, hcz57_1, hcz57_2, hfz57_0, hfz57_1, hfz57_2⟩ := zc3f BK103.out))
      refine bodyPost_ret (results_ct rfl _ _ gb103 25 #[.int .i64 0, .int .i64 0, .slice none 0 0] (0, 0) _ rfl (by (with_reducible repeat (first | refine blk_drewN ?_ _ | refine blk_drew ?_ | refine blk_alloc ?_ _)); refine blk_put (cs := #[.int .i64 0, .int .i64 0, .slice none 0 0]) ?_ 2 _ rfl; (with_reducible repeat (first | refine blk_drewN ?_ _ | refine blk_drew ?_ | refine blk_alloc ?_ _)); refine blk_put (cs := #[.int .i64 0, .int .i64 0, .slice none 0 0]) ?_ 1 _ rfl; (with_reducible repeat (first | refine blk_drewN ?_ _ | refine blk_drew ?_ | refine blk_alloc ?_ _)); refine blk_put (cs := #[.int .i64 0, .int .i64 0, .slice none 0 0]) ?_ 0 _ rfl; exact zK BK103.out) Tryd.underlying25 rfl (by kernel_rfl)) rfl ?_
      exact ⟨_, by first | rfl | (simp [errW_none, errW_some] <;> rfl) | (simp [*, errW_none, errW_some] <;> rfl), by first | exact Kd.R_nil _ _ _ _ _ | exact Kd.N_nil _ _ _ _ _ | exact Kd.V_nil _ _ _ _ _ | exact Kd.Q_nil _ _ _ _ _ | exact Kd.S_nil _ _ _ _ _, by exact zB2 HB.out GE103.out GE104.out⟩

/-- A state of type 97 at block g of W; what its slices lead to came in by w0. -/
def IsS97 (w0 W : World) (g : Nat) (f0 : List Int) (f1 : Int) : Prop := ∃ A0 c0, W.heap[g]? = some (.cells #[.slice A0 f0.length c0, .int .i64 f1] 97 (0, 0)) ∧ w0.heap.size ≤ g ∧ Kd.C (Kd.int .u8) w0 A0 f0.length f0
theorem IsS97.grown {w0 W : World} {g : Nat} {f0 : List Int} {f1 : Int} {W1 : World} {row : Option Nat} (h : IsS97 w0 W g f0 f1) (hw : W.grownBy W1 row) (hne : some g ≠ row) : IsS97 w0 W1 g f0 f1 := by
 obtain ⟨A0, c0, hb, hg, hr0⟩ := h
 exact ⟨A0, c0, blk_grown hb hw hne, hg, hr0⟩
theorem IsS97.own_neN {w0 W : World} {g : Nat} {f0 : List Int} {f1 : Int} {α : Type} {d : Kd α} {e : Nat} {base : Nat} {ok : Nat → Prop} {v : Value} {xs : List α} (h : IsS97 w0 W g f0 f1) (ho : Kd.N d e W base ok v xs) (ht : e ≠ 97) : some g ≠ v.ownBlock := by
 obtain ⟨A0, c0, hb, hg, hr0⟩ := h
 exact Kd.N_ne ho hb ht
theorem IsS97.fresh {w0 W : World} {g : Nat} {f0 : List Int} {f1 : Int} (h : IsS97 w0 W g f0 f1) : ∀ k, W.heap.size ≤ k → k ≠ g := by
 obtain ⟨A0, c0, hb, hg, hr0⟩ := h
 exact Kd.freshB hb
theorem IsS97.kept {w0 W : World} {g : Nat} {f0 : List Int} {f1 : Int} {W1 : World} {S : Nat → Prop} (h : IsS97 w0 W g f0 f1) (hk : Kept W W1 S) (hne : ¬ S g) : IsS97 w0 W1 g f0 f1 := by
 obtain ⟨A0, c0, hb, hg, hr0⟩ := h
 exact ⟨A0, c0, blk_kept hb hk hne, hg, hr0⟩
theorem IsS97.below {w0 W : World} {g : Nat} {f0 : List Int} {f1 : Int} {W1 : World} (h : IsS97 w0 W g f0 f1) (hw : Below W.heap.size W W1) : IsS97 w0 W1 g f0 f1 := h.grown (grown_of_below hw none) (by simp)
theorem IsS97.alloc {w0 W : World} {g : Nat} {f0 : List Int} {f1 : Int} (h : IsS97 w0 W g f0 f1) (o : Obj) : IsS97 w0 (W.alloc o) g f0 f1 := h.below (below_alloc (Below.refl _ _) o)
theorem IsS97.drewN {w0 W : World} {g : Nat} {f0 : List Int} {f1 : Int} (h : IsS97 w0 W g f0 f1) (m : Nat) : IsS97 w0 (W.drewN m) g f0 f1 := h
theorem IsS97.drew {w0 W : World} {g : Nat} {f0 : List Int} {f1 : Int} (h : IsS97 w0 W g f0 f1) : IsS97 w0 W.drew g f0 f1 := h
theorem IsS97.at_ {w0 W : World} {g : Nat} {f0 : List Int} {f1 : Int} {w' : World} {m : Nat} (hq : W.drewN m = w') (h : IsS97 w0 W g f0 f1) : IsS97 w0 w' g f0 f1 := by subst hq; exact IsS97.drewN h m
theorem IsS97.apart {w0 W : World} {g : Nat} {f0 : List Int} {f1 : Int} {α : Type} {d : Kd α} {e : Nat} {base : Nat} {ok : Nat → Prop} {v : Value} {xs : List α} (h : IsS97 w0 W g f0 f1) (ho : d.R e W base ok v xs) (ht : ∀ q, q ∈ e :: d.E → q ≠ 97) : d.R e W base (fun k => ok k ∧ k ≠ g) v xs := by
 obtain ⟨A0, c0, hb, hg, hr0⟩ := h
 exact Kd.R_types ho hb ht
theorem IsS97.own_ne {w0 W : World} {g : Nat} {f0 : List Int} {f1 : Int} {α : Type} {d : Kd α} {e : Nat} {base : Nat} {ok : Nat → Prop} {v : Value} {xs : List α} (h : IsS97 w0 W g f0 f1) (ho : d.R e W base ok v xs) (ht : e ≠ 97) : some g ≠ v.ownBlock := by
 obtain ⟨A0, c0, hb, hg, hr0⟩ := h
 exact Kd.R_ne ho hb ht
theorem IsS97.apartQ {w0 W : World} {g : Nat} {f0 : List Int} {f1 : Int} {α : Type} {d : Kd α} {e : Nat} {base : Nat} {ok : Nat → Prop} {v : Value} {xs : List α} (h : IsS97 w0 W g f0 f1) (ho : d.Q e W base ok v xs) (ht : ∀ q, q ∈ e :: d.E → q ≠ 97) : d.Q e W base (fun k => ok k ∧ k ≠ g) v xs := by
 obtain ⟨A0, c0, hb, hg, hr0⟩ := h
 exact Kd.Q_types ho hb ht
theorem IsS97.own_neQ {w0 W : World} {g : Nat} {f0 : List Int} {f1 : Int} {α : Type} {d : Kd α} {e : Nat} {base : Nat} {ok : Nat → Prop} {v : Value} {xs : List α} (h : IsS97 w0 W g f0 f1) (ho : d.Q e W base ok v xs) (ht : e ≠ 97) : some g ≠ v.ownBlock := by
 obtain ⟨A0, c0, hb, hg, hr0⟩ := h
 exact Kd.Q_ne ho hb ht
theorem IsS97.apartS {w0 W : World} {g : Nat} {f0 : List Int} {f1 : Int} {α : Type} {d : Kd α} {e : Nat} {base : Nat} {ok : Nat → Prop} {v : Value} {xs : List α} (h : IsS97 w0 W g f0 f1) (ho : d.S e W base ok v xs) (ht : ∀ q, q ∈ e :: d.E → q ≠ 97) : d.S e W base (fun k => ok k ∧ k ≠ g) v xs := by
 obtain ⟨A0, c0, hb, hg, hr0⟩ := h
 exact Kd.S_types ho hb ht
theorem IsS97.own_neS {w0 W : World} {g : Nat} {f0 : List Int} {f1 : Int} {α : Type} {d : Kd α} {e : Nat} {base : Nat} {ok : Nat → Prop} {v : Value} {xs : List α} (h : IsS97 w0 W g f0 f1) (ho : d.S e W base ok v xs) (ht : e ≠ 97) : some g ≠ v.ownBlock := by
 obtain ⟨A0, c0, hb, hg, hr0⟩ := h
 exact Kd.S_ne ho hb ht
theorem IsS97.lt {w0 W : World} {g : Nat} {f0 : List Int} {f1 : Int} (h : IsS97 w0 W g f0 f1) : g < W.heap.size := by
 obtain ⟨A0, c0, hb, hg, hr0⟩ := h
 exact blk_lt hb
theorem IsS97.ge {w0 W : World} {g : Nat} {f0 : List Int} {f1 : Int} (h : IsS97 w0 W g f0 f1) : w0.heap.size ≤ g := by
 obtain ⟨A0, c0, hb, hg, hr0⟩ := h
 exact hg
theorem IsS97.ne_blk {w0 W : World} {g : Nat} {f0 : List Int} {f1 : Int} {a : Nat} {cs : Array Value} {t : TypeId} {fr : Nat × Nat} (h : IsS97 w0 W g f0 f1) (hb2 : W.heap[a]? = some (.cells cs t fr)) (ht : t ≠ 97) : g ≠ a := by
 obtain ⟨A0, c0, hb, hg, hr0⟩ := h
 rintro rfl
 rw [hb] at hb2
 injection hb2 with hb2
 injection hb2 with _ ht2
 exact ht ht2.symm
theorem IsS97.far {w0 W : World} {g : Nat} {f0 : List Int} {f1 : Int} {p : Addr} (h : IsS97 w0 W g f0 f1) (hne : g ≠ p.block) (u : Value) : IsS97 w0 (W.setCell p u) g f0 f1 := by
 obtain ⟨A0, c0, hb, hg, hr0⟩ := h
 exact ⟨A0, c0, blk_far hb hne u, hg, hr0⟩
theorem cellS97_0 {W : World} {g : Nat} {A0 : Option Addr} {c0 : Nat} {f0 : List Int} {f1 : Int} (h : W.heap[g]? = some (.cells #[.slice A0 f0.length c0, .int .i64 f1] 97 (0, 0))) : W.cell? ⟨g, 0, none⟩ = some (.slice A0 f0.length c0) := (blk_cell h 0).trans rfl
theorem cellS97_1 {W : World} {g : Nat} {A0 : Option Addr} {c0 : Nat} {f0 : List Int} {f1 : Int} (h : W.heap[g]? = some (.cells #[.slice A0 f0.length c0, .int .i64 f1] 97 (0, 0))) : W.cell? ⟨g, 1, none⟩ = some (.int .i64 f1) := (blk_cell h 1).trans rfl
theorem IsS97.set_1 {w0 W : World} {g : Nat} {f0 : List Int} {f1 : Int} (h : IsS97 w0 W g f0 f1) (x : Int) : IsS97 w0 (W.setCell ⟨g, 1, none⟩ (.int .i64 x)) g f0 x := by
 obtain ⟨A0, c0, hb, hg, hr0⟩ := h
 exact ⟨A0, c0, by simpa using blk_set hb 1 (.int .i64 x), hg, hr0⟩
theorem IsS97.new (w0 W : World) (A0 : Option Addr) (c0 : Nat) (f0 : List Int) (f1 : Int) (hB : Below w0.heap.size w0 W) (hr0 : Kd.C (Kd.int .u8) w0 A0 f0.length f0) : IsS97 w0 (W.alloc (.cells #[.slice A0 f0.length c0, .int .i64 f1] 97)) W.heap.size f0 f1 := ⟨A0, c0, by simpa using heap_alloc_new W _, hB.size, hr0⟩

/-! ### spec_l6Open: function 40 -/
def spec_l6Open.f (l0 : List Int) : Option (List Int × Int) := if (l0.length : Int) > 2000 then (if 2000 ≤ (l0.length : Int) then (some (l0.take 2000, 0)) else (none)) else (some (l0, 0))
set_option maxHeartbeats 8000000 in
set_option maxRecDepth 100000 in
theorem spec_l6Open.calls (A0 : Option Addr) (c0 : Nat) (l0 : List Int) (r1 : List Int) (r2 : Int) (w0 w : World) (hB : Below w0.heap.size w0 w) (hr0 : Kd.C (Kd.int .u8) w0 A0 l0.length l0) (hc0 : l0.length ≤ c0) (h : spec_l6Open.f l0 = some (r1, r2)) :
  Calls Tryd.prog 40 #[.slice A0 l0.length c0] w fun e w' => ∃ g_ : Nat, e = .returned (.pointer (some ⟨g_, 0, none⟩)) ∧ IsS97 w0 w' g_ r1 r2 ∧ Below w0.heap.size w0 w' ∧ Below w.heap.size w w' := by
 have hu97 := Tryd.underlying97
 have HR0 := Aside0.mk hr0
 have HC0 := Aside0.mk hc0
 clear hr0 hc0
 have HBW := Aside0.mk (Below.refl w.heap.size w)
 have HW0 := Aside0.mk hB.size
 have HB := Aside0.mk hB
 clear hB
 have H : (if (l0.length : Int) > 2000 then (if 2000 ≤ (l0.length : Int) then (some (l0.take 2000, 0)) else (none)) else (some (l0, 0))) = some (r1, r2) := h
 clear h
 by_cases c2 : (l0.length : Int) > 2000
 ·rw [if_pos c2] at H
  have c2b0 : decide (2000 < (l0.length : Int)) = true := decide_eq_true c2
  have c2b1 : decide (2000 < l0.length) = true := decide_eq_true (by omega)
  clear c2
  by_cases c3 : 2000 ≤ (l0.length : Int)
  ·rw [if_pos c3] at H
   have c3b0 := eq_true c3
   have c3b1 : decide (2000 ≤ (l0.length : Int)) = true := decide_eq_true c3
   clear c3
   simp only [Option.some.injEq, Prod.mk.injEq] at H
   obtain ⟨rfl, rfl⟩ := H
   obtain ⟨i04, hi04, _, hsz4, _⟩ := info_parts info5
   obtain ⟨hcut4, hA4, hC4⟩ := print_take_of (P := Tryd.prog) (Value.int .u8) 0 22 5 .i64 Tryd.underlying22 hi04 hsz4 A0 c0 l0 2000 (by omega) (of_decide_eq_true (by first | (with_reducible assumption) | assumption)) HC0.out
   have HR124 := Aside0.mk (Kd.C_of_reads (h1 := fun _ => rfl) (hA4 _ (Kd.reads_of_C HR0.out)))
   have HC124 := Aside0.mk hC4
   clear hA4 hC4 hi04 hsz4
   go_enter Tryd.func40, Tryd.ntmps40
   go_wp2_with (first | ((with_reducible refine gate_dst (N := 10) rfl ?_); refine box_event ?hg (N := 10) ?hd (cs := #[.slice A0 (l0.take 2000).length c0, .int .i64 0]) (t := 97) ?hr ?_; (case hd => rfl); (case hg => rfl); (case hr => first | (go_simp; done) | (go_simp; rfl)); intro gb125 hg w5 hbox hb; have n0_ := Aside0.mk (below_step HBW.out hb); have n1_ := Aside0.mk (below_step (by exact zB HB.out) hb); have n2_ := Aside0.mk (hbox); have n3_ := Aside0.mk ((by rw [hg]; exact (below_size (by exact zB HBW.out)) : w.heap.size ≤ gb125)); have n4_ := Aside0.mk ((Nat.le_trans HW0.out (by rw [hg]; exact (below_size (by exact zB HBW.out)) : w.heap.size ≤ gb125) : w0.heap.size ≤ gb125)); clear HBW; clear HB; have HBW := n0_; have HB := n1_; have BK125 := n2_; have GW125 := n3_; have GE125 := n4_; clear n0_ n1_ n2_ n3_ n4_; clear hb hbox hg))
   go_ret
   exact ⟨_, rfl, (show IsS97 w0 _ gb125 (l0.take 2000) 0 from ⟨_, _, by exact zK BK125.out, GE125.out, HR124.out⟩), by exact zB1 HB.out GE125.out, by exact zB1 HBW.out GW125.out⟩
  ·rw [if_neg c3] at H
   exact absurd H (by simp)
 ·rw [if_neg c2] at H
  have c2b0 : decide (2000 < (l0.length : Int)) = false := decide_eq_false c2
  have c2b1 : decide (2000 < l0.length) = false := decide_eq_false (by omega)
  clear c2
  simp only [Option.some.injEq, Prod.mk.injEq] at H
  obtain ⟨rfl, rfl⟩ := H
  go_enter Tryd.func40, Tryd.ntmps40
  go_wp2_with (first | ((with_reducible refine gate_dst (N := 10) rfl ?_); refine box_event ?hg (N := 10) ?hd (cs := #[.slice A0 l0.length c0, .int .i64 0]) (t := 97) ?hr ?_; (case hd => rfl); (case hg => rfl); (case hr => first | (go_simp; done) | (go_simp; rfl)); intro gb126 hg w6 hbox hb; have n0_ := Aside0.mk (below_step HBW.out hb); have n1_ := Aside0.mk (below_step (by exact zB HB.out) hb); have n2_ := Aside0.mk (hbox); have n3_ := Aside0.mk ((by rw [hg]; exact (below_size (by exact zB HBW.out)) : w.heap.size ≤ gb126)); have n4_ := Aside0.mk ((Nat.le_trans HW0.out (by rw [hg]; exact (below_size (by exact zB HBW.out)) : w.heap.size ≤ gb126) : w0.heap.size ≤ gb126)); clear HBW; clear HB; have HBW := n0_; have HB := n1_; have BK126 := n2_; have GW126 := n3_; have GE126 := n4_; clear n0_ n1_ n2_ n3_ n4_; clear hb hbox hg))
  go_ret
  exact ⟨_, rfl, (show IsS97 w0 _ gb126 l0 0 from ⟨_, _, by exact zK BK126.out, GE126.out, HR0.out⟩), by exact zB1 HB.out GE126.out, by exact zB1 HBW.out GW126.out⟩

/-! ### spec_l6Rd_pick: function 43 -/
def spec_l6Rd_pick.j0 : Nat → Int → Bool → List Int → Int → Option (Int × Int)
 | 0, _, _, _, _ => none
 | k + 1, x1, x24, x1000, x1001 => if x24 = true then (some (0, x1001)) else (if (wrap64 (x1001 - 1)) < (x1000.length : Int) then (if 0 ≤ (wrap64 (x1001 - 1)) then (if x1 = 0 then (none) else (some (Int.tmod (wrap64 (rd x1000 (wrap64 (x1001 - 1)))) x1, x1001))) else (none)) else (if (x1000.length : Int) = 0 then (none) else (if 0 ≤ (Int.tmod (wrap64 (x1001 - 1)) (x1000.length : Int)) then (if (Int.tmod (wrap64 (x1001 - 1)) (x1000.length : Int)) < (x1000.length : Int) then (if 0 ≤ (Int.tmod (wrap64 ((wrap64 ((wrap64 (x1001 - 1)) * 7)) + 3)) (x1000.length : Int)) then (if (Int.tmod (wrap64 ((wrap64 ((wrap64 (x1001 - 1)) * 7)) + 3)) (x1000.length : Int)) < (x1000.length : Int) then (if x1 = 0 then (none) else (some (Int.tmod (Go.bits .xor .i64 (wrap64 ((wrap64 ((wrap64 ((wrap64 ((wrap64 (rd x1000 (Int.tmod (wrap64 (x1001 - 1)) (x1000.length : Int)))) * 131)) + (wrap64 ((wrap64 (rd x1000 (Int.tmod (wrap64 ((wrap64 ((wrap64 (x1001 - 1)) * 7)) + 3)) (x1000.length : Int)))) * 1117)))) + (wrap64 ((wrap64 (x1001 - 1)) * 29)))) + (wrap64 ((wrap64 (Int.tdiv (wrap64 (x1001 - 1)) (x1000.length : Int))) * 53)))) (wrap64 (Int.tdiv (wrap64 ((wrap64 ((wrap64 ((wrap64 ((wrap64 (rd x1000 (Int.tmod (wrap64 (x1001 - 1)) (x1000.length : Int)))) * 131)) + (wrap64 ((wrap64 (rd x1000 (Int.tmod (wrap64 ((wrap64 ((wrap64 (x1001 - 1)) * 7)) + 3)) (x1000.length : Int)))) * 1117)))) + (wrap64 ((wrap64 (x1001 - 1)) * 29)))) + (wrap64 ((wrap64 (Int.tdiv (wrap64 (x1001 - 1)) (x1000.length : Int))) * 53)))) 64))) x1, x1001))) else (none)) else (none)) else (none)) else (none))))
def spec_l6Rd_pick.f (k : Nat) (s0_0 : List Int) (s0_1 : Int) (a1 : Int) : Option (Int × Int) := if a1 < 1 then (spec_l6Rd_pick.j0 k a1 true s0_0 (wrap64 (s0_1 + 1))) else (spec_l6Rd_pick.j0 k a1 ((s0_0.length : Int) == 0) s0_0 (wrap64 (s0_1 + 1)))
theorem spec_l6Rd_pick.mono_l : ∀ k, (∀ y0 y1 y2 y3, LeO (spec_l6Rd_pick.j0 k y0 y1 y2 y3) (spec_l6Rd_pick.j0 (k + 1) y0 y1 y2 y3))
 | 0 => fun _ _ _ _ r h => by simp [spec_l6Rd_pick.j0] at h
 | k + 1 => by
  have ih0 := spec_l6Rd_pick.mono_l k
  ·intro y0 y1 y2 y3
   unfold spec_l6Rd_pick.j0
   repeat' first
   | (with_reducible exact ih0 _ _ _ _)
   | (with_reducible exact LeO.refl _)
   | (with_reducible exact LeO.none _)
   | (with_reducible refine LeO.ite ?_ ?_)
   | (with_reducible refine LeO.bind ?_ (fun _ => ?_))
   | exact ih0 _ _ _ _
   | exact LeO.none _
   | refine LeO.ite ?_ ?_
   | refine LeO.bind ?_ (fun _ => ?_)
theorem spec_l6Rd_pick.mono : ∀ a0 a1 a2 k, LeO (spec_l6Rd_pick.f k a0 a1 a2) (spec_l6Rd_pick.f (k + 1) a0 a1 a2) := by
 intro a0 a1 a2 k
 have ih0 := spec_l6Rd_pick.mono_l k
 unfold spec_l6Rd_pick.f
 repeat' first
   | (with_reducible exact ih0 _ _ _ _)
   | (with_reducible exact LeO.refl _)
   | (with_reducible exact LeO.none _)
   | (with_reducible refine LeO.ite ?_ ?_)
   | (with_reducible refine LeO.bind ?_ (fun _ => ?_))
   | exact ih0 _ _ _ _
   | exact LeO.none _
   | refine LeO.ite ?_ ?_
   | refine LeO.bind ?_ (fun _ => ?_)
set_option maxHeartbeats 8000000 in
set_option maxRecDepth 100000 in
theorem spec_l6Rd_pick.calls (k : Nat) (g : Nat) (s0_0 : List Int) (s0_1 : Int) (a1 : Int) (r1 : Int) (r2 : Int) (w0 w : World) (hI : IsS97 w0 w g s0_0 s0_1) (hB : Below w0.heap.size w0 w) (h : spec_l6Rd_pick.f k s0_0 s0_1 a1 = some (r1, r2)) :
  Calls Tryd.prog 43 #[.pointer (some ⟨g, 0, none⟩), .int .i64 a1] w fun e w' => e = .returned (.int .i64 r1) ∧ IsS97 w0 w' g s0_0 r2 ∧ Below w0.heap.size w0 w' ∧ KeepBut w w' g none := by
 have HI0 := Aside0.mk hI
 have HK := Aside0.mk (KeepBut.refl w g none)
 have HL := Aside0.mk hB.size
 clear hI
 have HW0 := Aside0.mk hB.size
 have HB := Aside0.mk hB
 clear hB
 have H : (if a1 < 1 then (spec_l6Rd_pick.j0 k a1 true s0_0 (wrap64 (s0_1 + 1))) else (spec_l6Rd_pick.j0 k a1 ((s0_0.length : Int) == 0) s0_0 (wrap64 (s0_1 + 1)))) = some (r1, r2) := h
 clear h
 have HC3 := Aside0.mk H
 clear H
 obtain ⟨ASz4_0, cSz4_0, HGz4, hgz4, HSz4_0⟩ := HI0.out
 have hcz4_0 := cellS97_0 HGz4
 have hcz4_1 := cellS97_1 HGz4
 have hfz4_1 := blk_frozen HGz4 1
 clear HGz4 hgz4
 go_enter Tryd.func43, Tryd.ntmps43
 go_upto_region 2 with (fail)
 repeat (go_quiet (fail); go_upto_region 2 with (fail))
 go_cut [24] (fun v24 wc => ∃ (kq : Nat) (x24_2 : Bool), v24 = .bool x24_2 ∧ Aside0 (spec_l6Rd_pick.j0 kq a1 x24_2 s0_0 (wrap64 (s0_1 + 1)) = some (r1, r2)) ∧ Aside0 (kq ≤ k) ∧ Aside0 (IsS97 w0 wc g s0_0 (wrap64 (s0_1 + 1))) ∧ Aside0 (KeepBut w wc g none) ∧ Aside0 (Below w0.heap.size w0 wc))
 case first =>
  have H := HC3.out
  clear HC3
  by_cases c5 : a1 < 1
  ·rw [if_pos c5] at H
   have c5b0 : decide (a1 < 1) = true := decide_eq_true c5
   clear c5
   (first | rw [c5b0] | (simp only [i64_w, i32_w]; rw [c5b0]) | skip)
   have H' := Aside0.mk H
   clear H
   go_wp2
   repeat (go_quiet (fail); try go_wp2)
   go_meet
   case rel => exact ⟨_, (true), (by first | rfl | (simp; done) | (simp [*]; done)), H', ⟨by first | omega | exact Nat.le_refl _⟩, ⟨by repeat (first | (with_reducible first | exact HI0.out | apply IsS97.alloc | apply IsS97.drewN | apply IsS97.drew | apply IsS97.set_1) | exact HI0.out)⟩, ⟨by repeat (first | (with_reducible first | exact HK.out | apply KeepBut.set_ | apply keep_drewN | apply keep_drew | apply keep_alloc) | exact HK.out)⟩, ⟨by exact zB1 HB.out (IsS97.ge HI0.out)⟩⟩
  ·rw [if_neg c5] at H
   have c5b0 : decide (a1 < 1) = false := decide_eq_false c5
   clear c5
   (first | rw [c5b0] | (simp only [i64_w, i32_w]; rw [c5b0]) | skip)
   have H' := Aside0.mk H
   clear H
   obtain ⟨ASz6_0, cSz6_0, HGz6, hgz6, HSz6_0⟩ := HI0.out
   have hcz6_0 := cellS97_0 HGz6
   have hcz6_1 := cellS97_1 HGz6
   have hfz6_1 := blk_frozen HGz6 1
   clear HGz6 hgz6
   go_wp2
   repeat (go_quiet (fail); try go_wp2)
   go_meet
   case rel => exact ⟨_, (((s0_0.length : Int) == 0)), (by first | rfl | (simp; done) | (simp [*]; done)), H', ⟨by first | omega | exact Nat.le_refl _⟩, ⟨by repeat (first | (with_reducible first | exact HI0.out | apply IsS97.alloc | apply IsS97.drewN | apply IsS97.drew | apply IsS97.set_1) | exact HI0.out)⟩, ⟨by repeat (first | (with_reducible first | exact HK.out | apply KeepBut.set_ | apply keep_drewN | apply keep_drew | apply keep_alloc) | exact HK.out)⟩, ⟨by exact zB1 HB.out (IsS97.ge HI0.out)⟩⟩
 case rest =>
  clear HC3
  try clear p2
  try clear c4
  try clear c5
  try clear c5b0
  try clear p6
  try clear hcz4_0
  try clear hcz4_1
  try clear hcz6_0
  try clear hcz6_1
  try clear hfz4_1
  try clear hfz6_1
  obtain ⟨kq, x24_2, rfl, HA, HJ2, HI0, HK, HB⟩ := hcut
  cases kq with
  | zero => exact absurd HA.out (by simp [spec_l6Rd_pick.j0])
  | succ kj2 =>
   have H := HA.out
   clear HA
   simp only [spec_l6Rd_pick.j0] at H
   by_cases c7 : x24_2 = true
   ·subst c7
    have H1 : (some (0, (wrap64 (s0_1 + 1)))) = some (r1, r2) := by rw [if_pos rfl] at H; exact H
    clear H
    have H := H1
    clear H1
    simp only [Option.some.injEq, Prod.mk.injEq] at H
    obtain ⟨rfl, rfl⟩ := H
    go_wp2
    repeat (go_quiet (fail); try go_wp2)
    go_ret
    exact ⟨by first | rfl | (simp [errW_none, errW_some] <;> rfl) | (simp [*, errW_none, errW_some] <;> rfl), by repeat (first | (with_reducible first | exact HI0.out | apply IsS97.alloc | apply IsS97.drewN | apply IsS97.drew | apply IsS97.set_1) | exact HI0.out), by exact zB1 HB.out (IsS97.ge HI0.out), by repeat (first | (with_reducible first | exact HK.out | apply KeepBut.set_ | apply keep_drewN | apply keep_drew | apply keep_alloc) | exact HK.out)⟩
   ·replace c7 := Bool.eq_false_iff.mpr c7
    subst c7
    have H1 : (if (wrap64 ((wrap64 (s0_1 + 1)) - 1)) < (s0_0.length : Int) then (if 0 ≤ (wrap64 ((wrap64 (s0_1 + 1)) - 1)) then (if a1 = 0 then (none) else (some (Int.tmod (wrap64 (rd s0_0 (wrap64 ((wrap64 (s0_1 + 1)) - 1)))) a1, (wrap64 (s0_1 + 1))))) else (none)) else (if (s0_0.length : Int) = 0 then (none) else (if 0 ≤ (Int.tmod (wrap64 ((wrap64 (s0_1 + 1)) - 1)) (s0_0.length : Int)) then (if (Int.tmod (wrap64 ((wrap64 (s0_1 + 1)) - 1)) (s0_0.length : Int)) < (s0_0.length : Int) then (if 0 ≤ (Int.tmod (wrap64 ((wrap64 ((wrap64 ((wrap64 (s0_1 + 1)) - 1)) * 7)) + 3)) (s0_0.length : Int)) then (if (Int.tmod (wrap64 ((wrap64 ((wrap64 ((wrap64 (s0_1 + 1)) - 1)) * 7)) + 3)) (s0_0.length : Int)) < (s0_0.length : Int) then (if a1 = 0 then (none) else (some (Int.tmod (Go.bits .xor .i64 (wrap64 ((wrap64 ((wrap64 ((wrap64 ((wrap64 (rd s0_0 (Int.tmod (wrap64 ((wrap64 (s0_1 + 1)) - 1)) (s0_0.length : Int)))) * 131)) + (wrap64 ((wrap64 (rd s0_0 (Int.tmod (wrap64 ((wrap64 ((wrap64 ((wrap64 (s0_1 + 1)) - 1)) * 7)) + 3)) (s0_0.length : Int)))) * 1117)))) + (wrap64 ((wrap64 ((wrap64 (s0_1 + 1)) - 1)) * 29)))) + (wrap64 ((wrap64 (Int.tdiv (wrap64 ((wrap64 (s0_1 + 1)) - 1)) (s0_0.length : Int))) * 53)))) (wrap64 (Int.tdiv (wrap64 ((wrap64 ((wrap64 ((wrap64 ((wrap64 (rd s0_0 (Int.tmod (wrap64 ((wrap64 (s0_1 + 1)) - 1)) (s0_0.length : Int)))) * 131)) + (wrap64 ((wrap64 (rd s0_0 (Int.tmod (wrap64 ((wrap64 ((wrap64 ((wrap64 (s0_1 + 1)) - 1)) * 7)) + 3)) (s0_0.length : Int)))) * 1117)))) + (wrap64 ((wrap64 ((wrap64 (s0_1 + 1)) - 1)) * 29)))) + (wrap64 ((wrap64 (Int.tdiv (wrap64 ((wrap64 (s0_1 + 1)) - 1)) (s0_0.length : Int))) * 53)))) 64))) a1, (wrap64 (s0_1 + 1))))) else (none)) else (none)) else (none)) else (none)))) = some (r1, r2) := by rw [if_neg (show ¬ (false = true) by decide)] at H; exact H
    clear H
    have H := H1
    clear H1
    by_cases c8 : (wrap64 ((wrap64 (s0_1 + 1)) - 1)) < (s0_0.length : Int)
    ·rw [if_pos c8] at H
     have c8b0 : decide ((wrap64 ((wrap64 (s0_1 + 1)) - 1)) < (s0_0.length : Int)) = true := decide_eq_true c8
     clear c8
     obtain ⟨ji9, hji9⟩ : ∃ j_ : Int, (wrap64 ((wrap64 (s0_1 + 1)) - 1)) = j_ := ⟨_, rfl⟩
     replace H : (if 0 ≤ (ji9) then (if a1 = 0 then (none) else (some (Int.tmod (wrap64 (rd s0_0 (ji9))) a1, (wrap64 (s0_1 + 1))))) else (none)) = some (r1, r2) := by first | (rw [hji9] at H; exact H) | (simp only [hji9] at H ⊢; exact H)
     (try rw [hji9] at c8b0)
     have hji9w : (IntKind.i64.wrap ((wrap64 (s0_1 + 1)) - 1)) = ji9 := (i64_w _).trans hji9
     by_cases c10 : 0 ≤ (ji9)
     ·rw [if_pos c10] at H
      have c10b0 : decide (0 ≤ (ji9)) = true := decide_eq_true c10
      clear c10
      by_cases c11 : a1 = 0
      ·rw [if_pos c11] at H
       exact absurd H (by simp)
      ·rw [if_neg c11] at H
       have c11b0 : (a1 == 0) = false := beq_eq_false_iff_ne.mpr c11
       have c11b1 : (a1 != 0) = true := bne_iff_ne.mpr c11
       simp only [Option.some.injEq, Prod.mk.injEq] at H
       obtain ⟨rfl, rfl⟩ := H
       obtain ⟨ASz12_0, cSz12_0, HGz12, hgz12, HSz12_0⟩ := HI0.out
       have hcz12_0 := cellS97_0 HGz12
       have hcz12_1 := cellS97_1 HGz12
       have hfz12_1 := blk_frozen HGz12 1
       clear HGz12 hgz12
       have p127 : 0 ≤ ((ji9) : Int) := of_decide_eq_true (by first | (with_reducible assumption) | assumption)
       have q127 : (ji9) < (s0_0.length : Int) := of_decide_eq_true (by first | (with_reducible assumption) | assumption)
       obtain ⟨ad127, e127, hx127_0⟩ := Kd.at_int HSz12_0 (ji9) p127 q127
       cases e127
       replace hx127_0 := pw_cell_below HB.out hx127_0
       replace p127 := eq_true p127
       replace q127 := eq_true q127
       go_wp2
       repeat (go_quiet (fail); try go_wp2)
       go_ret
       exact ⟨by first | rfl | (simp [errW_none, errW_some] <;> rfl) | (simp only [← hji9]; first | rfl | (simp [errW_none, errW_some] <;> rfl)) | (simp [*, errW_none, errW_some] <;> rfl), by repeat (first | (with_reducible first | exact HI0.out | apply IsS97.alloc | apply IsS97.drewN | apply IsS97.drew | apply IsS97.set_1) | exact HI0.out), by exact zB1 HB.out (IsS97.ge HI0.out), by repeat (first | (with_reducible first | exact HK.out | apply KeepBut.set_ | apply keep_drewN | apply keep_drew | apply keep_alloc) | exact HK.out)⟩
     ·rw [if_neg c10] at H
      exact absurd H (by simp)
    ·rw [if_neg c8] at H
     have c8b0 : decide ((wrap64 ((wrap64 (s0_1 + 1)) - 1)) < (s0_0.length : Int)) = false := decide_eq_false c8
     clear c8
     by_cases c13 : (s0_0.length : Int) = 0
     ·rw [if_pos c13] at H
      exact absurd H (by simp)
     ·rw [if_neg c13] at H
      have c13b0 : ((s0_0.length : Int) == 0) = false := beq_eq_false_iff_ne.mpr c13
      have c13b1 : ((s0_0.length : Int) != 0) = true := bne_iff_ne.mpr c13
      have c13b2 : ¬ (s0_0 = []) := fun h_ => c13 (by rw [h_]; rfl)
      obtain ⟨ji14, hji14⟩ : ∃ j_ : Int, (Int.tmod (wrap64 ((wrap64 (s0_1 + 1)) - 1)) (s0_0.length : Int)) = j_ := ⟨_, rfl⟩
      replace H : (if 0 ≤ (ji14) then (if (ji14) < (s0_0.length : Int) then (if 0 ≤ (Int.tmod (wrap64 ((wrap64 ((wrap64 ((wrap64 (s0_1 + 1)) - 1)) * 7)) + 3)) (s0_0.length : Int)) then (if (Int.tmod (wrap64 ((wrap64 ((wrap64 ((wrap64 (s0_1 + 1)) - 1)) * 7)) + 3)) (s0_0.length : Int)) < (s0_0.length : Int) then (if a1 = 0 then (none) else (some (Int.tmod (Go.bits .xor .i64 (wrap64 ((wrap64 ((wrap64 ((wrap64 ((wrap64 (rd s0_0 (ji14))) * 131)) + (wrap64 ((wrap64 (rd s0_0 (Int.tmod (wrap64 ((wrap64 ((wrap64 ((wrap64 (s0_1 + 1)) - 1)) * 7)) + 3)) (s0_0.length : Int)))) * 1117)))) + (wrap64 ((wrap64 ((wrap64 (s0_1 + 1)) - 1)) * 29)))) + (wrap64 ((wrap64 (Int.tdiv (wrap64 ((wrap64 (s0_1 + 1)) - 1)) (s0_0.length : Int))) * 53)))) (wrap64 (Int.tdiv (wrap64 ((wrap64 ((wrap64 ((wrap64 ((wrap64 (rd s0_0 (ji14))) * 131)) + (wrap64 ((wrap64 (rd s0_0 (Int.tmod (wrap64 ((wrap64 ((wrap64 ((wrap64 (s0_1 + 1)) - 1)) * 7)) + 3)) (s0_0.length : Int)))) * 1117)))) + (wrap64 ((wrap64 ((wrap64 (s0_1 + 1)) - 1)) * 29)))) + (wrap64 ((wrap64 (Int.tdiv (wrap64 ((wrap64 (s0_1 + 1)) - 1)) (s0_0.length : Int))) * 53)))) 64))) a1, (wrap64 (s0_1 + 1))))) else (none)) else (none)) else (none)) else (none)) = some (r1, r2) := by first | (rw [hji14] at H; exact H) | (simp only [hji14] at H ⊢; exact H)
      by_cases c15 : 0 ≤ (ji14)
      ·rw [if_pos c15] at H
       have c15b0 : decide (0 ≤ (ji14)) = true := decide_eq_true c15
       clear c15
       by_cases c16 : (ji14) < (s0_0.length : Int)
       ·rw [if_pos c16] at H
        have c16b0 : decide ((ji14) < (s0_0.length : Int)) = true := decide_eq_true c16
        clear c16
        obtain ⟨ji17, hji17⟩ : ∃ j_ : Int, (Int.tmod (wrap64 ((wrap64 ((wrap64 ((wrap64 (s0_1 + 1)) - 1)) * 7)) + 3)) (s0_0.length : Int)) = j_ := ⟨_, rfl⟩
        replace H : (if 0 ≤ (ji17) then (if (ji17) < (s0_0.length : Int) then (if a1 = 0 then (none) else (some (Int.tmod (Go.bits .xor .i64 (wrap64 ((wrap64 ((wrap64 ((wrap64 ((wrap64 (rd s0_0 (ji14))) * 131)) + (wrap64 ((wrap64 (rd s0_0 (ji17))) * 1117)))) + (wrap64 ((wrap64 ((wrap64 (s0_1 + 1)) - 1)) * 29)))) + (wrap64 ((wrap64 (Int.tdiv (wrap64 ((wrap64 (s0_1 + 1)) - 1)) (s0_0.length : Int))) * 53)))) (wrap64 (Int.tdiv (wrap64 ((wrap64 ((wrap64 ((wrap64 ((wrap64 (rd s0_0 (ji14))) * 131)) + (wrap64 ((wrap64 (rd s0_0 (ji17))) * 1117)))) + (wrap64 ((wrap64 ((wrap64 (s0_1 + 1)) - 1)) * 29)))) + (wrap64 ((wrap64 (Int.tdiv (wrap64 ((wrap64 (s0_1 + 1)) - 1)) (s0_0.length : Int))) * 53)))) 64))) a1, (wrap64 (s0_1 + 1))))) else (none)) else (none)) = some (r1, r2) := by first | (rw [hji17] at H; exact H) | (simp only [hji17] at H ⊢; exact H)
        by_cases c18 : 0 ≤ (ji17)
        ·rw [if_pos c18] at H
         have c18b0 : decide (0 ≤ (ji17)) = true := decide_eq_true c18
         clear c18
         by_cases c19 : (ji17) < (s0_0.length : Int)
         ·rw [if_pos c19] at H
          have c19b0 : decide ((ji17) < (s0_0.length : Int)) = true := decide_eq_true c19
          clear c19
          by_cases c20 : a1 = 0
          ·rw [if_pos c20] at H
           exact absurd H (by simp)
          ·rw [if_neg c20] at H
           have c20b0 : (a1 == 0) = false := beq_eq_false_iff_ne.mpr c20
           have c20b1 : (a1 != 0) = true := bne_iff_ne.mpr c20
           simp only [Option.some.injEq, Prod.mk.injEq] at H
           obtain ⟨rfl, rfl⟩ := H
           obtain ⟨ASz21_0, cSz21_0, HGz21, hgz21, HSz21_0⟩ := HI0.out
           have hcz21_0 := cellS97_0 HGz21
           have hcz21_1 := cellS97_1 HGz21
           have hfz21_1 := blk_frozen HGz21 1
           clear HGz21 hgz21
           have p128 : 0 ≤ ((ji14) : Int) := of_decide_eq_true (by first | (with_reducible assumption) | assumption)
           have q128 : (ji14) < (s0_0.length : Int) := of_decide_eq_true (by first | (with_reducible assumption) | assumption)
           obtain ⟨ad128, e128, hx128_0⟩ := Kd.at_int HSz21_0 (ji14) p128 q128
           cases e128
           replace hx128_0 := pw_cell_below HB.out hx128_0
           replace p128 := eq_true p128
           replace q128 := eq_true q128
           have p129 : 0 ≤ ((ji17) : Int) := of_decide_eq_true (by first | (with_reducible assumption) | assumption)
           have q129 : (ji17) < (s0_0.length : Int) := of_decide_eq_true (by first | (with_reducible assumption) | assumption)
           obtain ⟨ad129, e129, hx129_0⟩ := Kd.at_int HSz21_0 (ji17) p129 q129
           obtain rfl : ad128 = ad129 := (by injection e129)
           replace hx129_0 := pw_cell_below HB.out hx129_0
           replace p129 := eq_true p129
           replace q129 := eq_true q129
           go_wp2
           repeat (go_quiet (fail); try go_wp2)
           go_ret
           exact ⟨by first | rfl | (simp [errW_none, errW_some] <;> rfl) | (simp only [← hji14, ← hji17]; first | rfl | (simp [errW_none, errW_some] <;> rfl)) | (simp [*, errW_none, errW_some] <;> rfl), by repeat (first | (with_reducible first | exact HI0.out | apply IsS97.alloc | apply IsS97.drewN | apply IsS97.drew | apply IsS97.set_1) | exact HI0.out), by exact zB1 HB.out (IsS97.ge HI0.out), by repeat (first | (with_reducible first | exact HK.out | apply KeepBut.set_ | apply keep_drewN | apply keep_drew | apply keep_alloc) | exact HK.out)⟩
         ·rw [if_neg c19] at H
          exact absurd H (by simp)
        ·rw [if_neg c18] at H
         exact absurd H (by simp)
       ·rw [if_neg c16] at H
        exact absurd H (by simp)
      ·rw [if_neg c15] at H
       exact absurd H (by simp)

/-! ### spec_l71Pkg: function 79 -/
mutual
def spec_l71Pkg.l0 : Nat → Int → Int → Int → List Int → Int → Int → Int → List (S67) → List (S69) → Option (Int × Int × (List (S67)) × (List (S69)) × Int)
 | 0, _, _, _, _, _, _, _, _, _ => none
 | k + 1, x1, x8, x9, x1000, x1001, x138000, x138001, x138002, x138003 => if x9 > 0 then (spec_l71Pkg.j1 k x1 x8 x9 (decide (x8 < 6)) x1000 x1001 x138000 x138001 x138002 x138003) else (spec_l71Pkg.j1 k x1 x8 x9 false x1000 x1001 x138000 x138001 x138002 x138003)
def spec_l71Pkg.j1 : Nat → Int → Int → Int → Bool → List Int → Int → Int → Int → List (S67) → List (S69) → Option (Int × Int × (List (S67)) × (List (S69)) × Int)
 | 0, _, _, _, _, _, _, _, _, _, _ => none
 | k + 1, x1, x8, x9, x25, x1000, x1001, x138000, x138001, x138002, x138003 => if x25 = true then ((spec_l6Rd_pick.f k x1000 x1001 10).bind fun bt142 => (if x138002.length < 8796093022208 then ((spec_l6Rd_pick.f k x1000 bt142.2 3).bind fun bt147 => (spec_l71Pkg.l0 k x1 (wrap64 ((wrap64 (x8 + 1)) + bt147.1)) (wrap64 (x9 - 1)) x1000 bt147.2 x138000 x138001 (x138002 ++ [(⟨x8, bt142.1⟩ : S67)]) x138003)) else (none))) else (spec_l71Pkg.l1 k x1 1 x1000 x1001 x138000 x138001 x138002 x138003)
def spec_l71Pkg.l1 : Nat → Int → Int → List Int → Int → Int → Int → List (S67) → List (S69) → Option (Int × Int × (List (S67)) × (List (S69)) × Int)
 | 0, _, _, _, _, _, _, _, _ => none
 | k + 1, x1, x10, x1000, x1001, x138000, x138001, x138002, x138003 => if x10 ≤ 4 then (spec_l71Pkg.j3 k x1 x10 (decide ((x138003.length : Int) < 2)) x1000 x1001 x138000 x138001 x138002 x138003) else (spec_l71Pkg.j3 k x1 x10 false x1000 x1001 x138000 x138001 x138002 x138003)
def spec_l71Pkg.j3 : Nat → Int → Int → Bool → List Int → Int → Int → Int → List (S67) → List (S69) → Option (Int × Int × (List (S67)) × (List (S69)) × Int)
 | 0, _, _, _, _, _, _, _, _, _ => none
 | k + 1, x1, x10, x49, x1000, x1001, x138000, x138001, x138002, x138003 => if x49 = true then (if x10 = x1 then (spec_l71Pkg.l1 k x1 (wrap64 (x10 + 1)) x1000 x1001 x138000 x138001 x138002 x138003) else ((spec_l6Rd_pick.f k x1000 x1001 6).bind fun bt149 => (if bt149.1 = 0 then ((spec_l6Rd_pick.f k x1000 bt149.2 2).bind fun bt151 => (if x138003.length < 8796093022208 then (spec_l71Pkg.l1 k x1 (wrap64 (x10 + 1)) x1000 bt151.2 x138000 x138001 x138002 (x138003 ++ [(⟨x10, wrap64 (1 + bt151.1)⟩ : S69)])) else (none))) else (spec_l71Pkg.l1 k x1 (wrap64 (x10 + 1)) x1000 bt149.2 x138000 x138001 x138002 x138003)))) else (some (x138000, x138001, x138002, x138003, x1001))
end
def spec_l71Pkg.f (k : Nat) (s0_0 : List Int) (s0_1 : Int) (a1 : Int) (a2 : Int) : Option (Int × Int × (List (S67)) × (List (S69)) × Int) := (spec_l6Rd_pick.f k s0_0 s0_1 4).bind fun bt138 => ((spec_l6Rd_pick.f k s0_0 bt138.2 3).bind fun bt140 => (spec_l71Pkg.l0 k a1 bt138.1 bt140.1 s0_0 bt140.2 a1 a2 (([] : List (S67))) (([] : List (S69)))))
theorem spec_l71Pkg.mono_l : ∀ k, (∀ y0 y1 y2 y3 y4 y5 y6 y7 y8, LeO (spec_l71Pkg.l0 k y0 y1 y2 y3 y4 y5 y6 y7 y8) (spec_l71Pkg.l0 (k + 1) y0 y1 y2 y3 y4 y5 y6 y7 y8)) ∧ (∀ y0 y1 y2 y3 y4 y5 y6 y7 y8 y9, LeO (spec_l71Pkg.j1 k y0 y1 y2 y3 y4 y5 y6 y7 y8 y9) (spec_l71Pkg.j1 (k + 1) y0 y1 y2 y3 y4 y5 y6 y7 y8 y9)) ∧ (∀ y0 y1 y2 y3 y4 y5 y6 y7, LeO (spec_l71Pkg.l1 k y0 y1 y2 y3 y4 y5 y6 y7) (spec_l71Pkg.l1 (k + 1) y0 y1 y2 y3 y4 y5 y6 y7)) ∧ (∀ y0 y1 y2 y3 y4 y5 y6 y7 y8, LeO (spec_l71Pkg.j3 k y0 y1 y2 y3 y4 y5 y6 y7 y8) (spec_l71Pkg.j3 (k + 1) y0 y1 y2 y3 y4 y5 y6 y7 y8))
 | 0 => ⟨fun _ _ _ _ _ _ _ _ _ r h => by simp [spec_l71Pkg.l0] at h, fun _ _ _ _ _ _ _ _ _ _ r h => by simp [spec_l71Pkg.j1] at h, fun _ _ _ _ _ _ _ _ r h => by simp [spec_l71Pkg.l1] at h, fun _ _ _ _ _ _ _ _ _ r h => by simp [spec_l71Pkg.j3] at h⟩
 | k + 1 => by
  obtain ⟨ih0, ih1, ih2, ih3⟩ := spec_l71Pkg.mono_l k
  refine ⟨?_, ?_, ?_, ?_⟩
  ·intro y0 y1 y2 y3 y4 y5 y6 y7 y8
   unfold spec_l71Pkg.l0
   repeat' first
   | (with_reducible exact ih0 _ _ _ _ _ _ _ _ _)
   | (with_reducible exact ih1 _ _ _ _ _ _ _ _ _ _)
   | (with_reducible exact ih2 _ _ _ _ _ _ _ _)
   | (with_reducible exact ih3 _ _ _ _ _ _ _ _ _)
   | (with_reducible exact spec_l6Rd_pick.mono _ _ _ _)
   | (with_reducible exact LeO.refl _)
   | (with_reducible exact LeO.none _)
   | (with_reducible refine LeO.ite ?_ ?_)
   | (with_reducible refine LeO.bind ?_ (fun _ => ?_))
   | exact ih0 _ _ _ _ _ _ _ _ _
   | exact ih1 _ _ _ _ _ _ _ _ _ _
   | exact ih2 _ _ _ _ _ _ _ _
   | exact ih3 _ _ _ _ _ _ _ _ _
   | exact spec_l6Rd_pick.mono _ _ _ _
   | exact LeO.none _
   | refine LeO.ite ?_ ?_
   | refine LeO.bind ?_ (fun _ => ?_)
  ·intro y0 y1 y2 y3 y4 y5 y6 y7 y8 y9
   unfold spec_l71Pkg.j1
   repeat' first
   | (with_reducible exact ih0 _ _ _ _ _ _ _ _ _)
   | (with_reducible exact ih1 _ _ _ _ _ _ _ _ _ _)
   | (with_reducible exact ih2 _ _ _ _ _ _ _ _)
   | (with_reducible exact ih3 _ _ _ _ _ _ _ _ _)
   | (with_reducible exact spec_l6Rd_pick.mono _ _ _ _)
   | (with_reducible exact LeO.refl _)
   | (with_reducible exact LeO.none _)
   | (with_reducible refine LeO.ite ?_ ?_)
   | (with_reducible refine LeO.bind ?_ (fun _ => ?_))
   | exact ih0 _ _ _ _ _ _ _ _ _
   | exact ih1 _ _ _ _ _ _ _ _ _ _
   | exact ih2 _ _ _ _ _ _ _ _
   | exact ih3 _ _ _ _ _ _ _ _ _
   | exact spec_l6Rd_pick.mono _ _ _ _
   | exact LeO.none _
   | refine LeO.ite ?_ ?_
   | refine LeO.bind ?_ (fun _ => ?_)
  ·intro y0 y1 y2 y3 y4 y5 y6 y7
   unfold spec_l71Pkg.l1
   repeat' first
   | (with_reducible exact ih0 _ _ _ _ _ _ _ _ _)
   | (with_reducible exact ih1 _ _ _ _ _ _ _ _ _ _)
   | (with_reducible exact ih2 _ _ _ _ _ _ _ _)
   | (with_reducible exact ih3 _ _ _ _ _ _ _ _ _)
   | (with_reducible exact spec_l6Rd_pick.mono _ _ _ _)
   | (with_reducible exact LeO.refl _)
   | (with_reducible exact LeO.none _)
   | (with_reducible refine LeO.ite ?_ ?_)
   | (with_reducible refine LeO.bind ?_ (fun _ => ?_))
   | exact ih0 _ _ _ _ _ _ _ _ _
   | exact ih1 _ _ _ _ _ _ _ _ _ _
   | exact ih2 _ _ _ _ _ _ _ _
   | exact ih3 _ _ _ _ _ _ _ _ _
   | exact spec_l6Rd_pick.mono _ _ _ _
   | exact LeO.none _
   | refine LeO.ite ?_ ?_
   | refine LeO.bind ?_ (fun _ => ?_)
  ·intro y0 y1 y2 y3 y4 y5 y6 y7 y8
   unfold spec_l71Pkg.j3
   repeat' first
   | (with_reducible exact ih0 _ _ _ _ _ _ _ _ _)
   | (with_reducible exact ih1 _ _ _ _ _ _ _ _ _ _)
   | (with_reducible exact ih2 _ _ _ _ _ _ _ _)
   | (with_reducible exact ih3 _ _ _ _ _ _ _ _ _)
   | (with_reducible exact spec_l6Rd_pick.mono _ _ _ _)
   | (with_reducible exact LeO.refl _)
   | (with_reducible exact LeO.none _)
   | (with_reducible refine LeO.ite ?_ ?_)
   | (with_reducible refine LeO.bind ?_ (fun _ => ?_))
   | exact ih0 _ _ _ _ _ _ _ _ _
   | exact ih1 _ _ _ _ _ _ _ _ _ _
   | exact ih2 _ _ _ _ _ _ _ _
   | exact ih3 _ _ _ _ _ _ _ _ _
   | exact spec_l6Rd_pick.mono _ _ _ _
   | exact LeO.none _
   | refine LeO.ite ?_ ?_
   | refine LeO.bind ?_ (fun _ => ?_)
theorem spec_l71Pkg.mono : ∀ a0 a1 a2 a3 k, LeO (spec_l71Pkg.f k a0 a1 a2 a3) (spec_l71Pkg.f (k + 1) a0 a1 a2 a3) := by
 intro a0 a1 a2 a3 k
 obtain ⟨ih0, ih1, ih2, ih3⟩ := spec_l71Pkg.mono_l k
 unfold spec_l71Pkg.f
 repeat' first
   | (with_reducible exact ih0 _ _ _ _ _ _ _ _ _)
   | (with_reducible exact ih1 _ _ _ _ _ _ _ _ _ _)
   | (with_reducible exact ih2 _ _ _ _ _ _ _ _)
   | (with_reducible exact ih3 _ _ _ _ _ _ _ _ _)
   | (with_reducible exact spec_l6Rd_pick.mono _ _ _ _)
   | (with_reducible exact LeO.refl _)
   | (with_reducible exact LeO.none _)
   | (with_reducible refine LeO.ite ?_ ?_)
   | (with_reducible refine LeO.bind ?_ (fun _ => ?_))
   | exact ih0 _ _ _ _ _ _ _ _ _
   | exact ih1 _ _ _ _ _ _ _ _ _ _
   | exact ih2 _ _ _ _ _ _ _ _
   | exact ih3 _ _ _ _ _ _ _ _ _
   | exact spec_l6Rd_pick.mono _ _ _ _
   | exact LeO.none _
   | refine LeO.ite ?_ ?_
   | refine LeO.bind ?_ (fun _ => ?_)
def spec_l71Pkg.T6 : Bool × List (List Nat × List Nat) := (true, [([], []), ([0], [0]), ([], []), ([], []), ([3], [3]), ([2, 4], [2, 4]), ([5], [5]), ([1, 6, 4], [1, 6]), ([0, 1, 2, 3, 4, 5, 6, 7], []), ([8, 7, 7, 0, 1, 2, 3, 4, 5, 6, 7], [7, 8])])
def spec_l71Pkg.B6 : List Nat := [0, 1, 0, 0, 8, 28, 60, 127, 255, 511]
theorem spec_l71Pkg.tab6 : rtab .any (opsOf Tryd.f79 6) = spec_l71Pkg.T6 := by kernel_rfl
theorem spec_l71Pkg.bits6 : waitsOk spec_l71Pkg.T6.2 spec_l71Pkg.B6 = true := by kernel_rfl
def spec_l71Pkg.T12 : Bool × List (List Nat × List Nat) := (true, [([], []), ([0], [0]), ([], []), ([], []), ([3], [3]), ([4], [4]), ([2, 5], [2, 5]), ([6], [6]), ([1, 7, 4], [1, 7]), ([0, 1, 2, 3, 4, 5, 6, 7, 8], []), ([9, 8, 8, 0, 1, 2, 3, 4, 5, 6, 7, 8], [8, 9])])
def spec_l71Pkg.B12 : List Nat := [0, 1, 0, 0, 8, 24, 60, 124, 255, 511, 1023]
theorem spec_l71Pkg.tab12 : rtab .any (opsOf Tryd.f79 12) = spec_l71Pkg.T12 := by kernel_rfl
theorem spec_l71Pkg.bits12 : waitsOk spec_l71Pkg.T12.2 spec_l71Pkg.B12 = true := by kernel_rfl
set_option maxHeartbeats 8000000 in
set_option maxRecDepth 100000 in
theorem spec_l71Pkg.calls (k : Nat) (g : Nat) (s0_0 : List Int) (s0_1 : Int) (a1 : Int) (a2 : Int) (r1 : Int) (r2 : Int) (r3 : List (S67)) (r4 : List (S69)) (r5 : Int) (w0 w : World) (hI : IsS97 w0 w g s0_0 s0_1) (hB : Below w0.heap.size w0 w) (h : spec_l71Pkg.f k s0_0 s0_1 a1 a2 = some (r1, r2, r3, r4, r5)) :
  Calls Tryd.prog 79 #[.pointer (some ⟨g, 0, none⟩), .int .i64 a1, .int .i64 a2] w fun e w' => ∃ v2_ v3_ : Value, e = .returned (.agg #[.int .i64 r1, .int .i64 r2, v2_, v3_]) ∧ Kd.R k67 67 w' w.heap.size (fun _ => True) v2_ r3 ∧ Kd.R k69 69 w' w.heap.size (fun _ => True) v3_ r4 ∧ IsS97 w0 w' g s0_0 r5 ∧ Below w0.heap.size w0 w' ∧ KeepBut w w' g none := by
 have hu31 := Tryd.underlying31
 have hu67 := Tryd.underlying67
 have hu69 := Tryd.underlying69
 have HI0 := Aside0.mk hI
 have HK := Aside0.mk (KeepBut.refl w g none)
 have HL := Aside0.mk hB.size
 clear hI
 have HW0 := Aside0.mk hB.size
 have HB := Aside0.mk hB
 clear hB
 have H : ((spec_l6Rd_pick.f k s0_0 s0_1 4).bind fun bt138 => ((spec_l6Rd_pick.f k s0_0 bt138.2 3).bind fun bt140 => (spec_l71Pkg.l0 k a1 bt138.1 bt140.1 s0_0 bt140.2 a1 a2 (([] : List (S67))) (([] : List (S69)))))) = some (r1, r2, r3, r4, r5) := h
 clear h
 obtain ⟨y131, hy131⟩ : ∃ y_ : List (S67), y_ = (([] : List (S67))) := ⟨_, rfl⟩
 replace H : ((spec_l6Rd_pick.f k s0_0 s0_1 4).bind fun bt138 => ((spec_l6Rd_pick.f k s0_0 bt138.2 3).bind fun bt140 => (spec_l71Pkg.l0 k a1 bt138.1 bt140.1 s0_0 bt140.2 a1 a2 y131 (([] : List (S69)))))) = some (r1, r2, r3, r4, r5) := by first | (rw [hy131]; with_reducible exact H) | (have H2_ := (Option.bind_some _ _).symm.trans H; rw [hy131]; with_reducible exact H2_) | (have H2_ := (Option.bind_some _ _).symm.trans H; with_reducible exact H2_) | with_reducible exact H | (rw [hy131]; exact H) | exact H
 have Ny131 := Aside0.mk hy131
 clear hy131
 obtain ⟨y134, hy134⟩ : ∃ y_ : List (S69), y_ = (([] : List (S69))) := ⟨_, rfl⟩
 replace H : ((spec_l6Rd_pick.f k s0_0 s0_1 4).bind fun bt138 => ((spec_l6Rd_pick.f k s0_0 bt138.2 3).bind fun bt140 => (spec_l71Pkg.l0 k a1 bt138.1 bt140.1 s0_0 bt140.2 a1 a2 y131 y134))) = some (r1, r2, r3, r4, r5) := by first | (rw [hy134]; with_reducible exact H) | (have H2_ := (Option.bind_some _ _).symm.trans H; rw [hy134]; with_reducible exact H2_) | (have H2_ := (Option.bind_some _ _).symm.trans H; with_reducible exact H2_) | with_reducible exact H | (rw [hy134]; exact H) | exact H
 have Ny134 := Aside0.mk hy134
 clear hy134
 replace H := Option.bind_eq_some_iff.mp H
 obtain ⟨⟨t138, t139⟩, A40, H⟩ := H
 replace H : ((spec_l6Rd_pick.f k s0_0 t139 3).bind fun bt140 => (spec_l71Pkg.l0 k a1 t138 bt140.1 s0_0 bt140.2 a1 a2 y131 y134)) = some (r1, r2, r3, r4, r5) := H
 have A4 := Aside0.mk A40
 clear A40
 replace H := Option.bind_eq_some_iff.mp H
 obtain ⟨⟨t140, t141⟩, A50, H⟩ := H
 replace H : (spec_l71Pkg.l0 k a1 t138 t140 s0_0 t141 a1 a2 y131 y134) = some (r1, r2, r3, r4, r5) := H
 have A5 := Aside0.mk A50
 clear A50
 have H' := Aside0.mk H
 clear H
 go_enter Tryd.func79, Tryd.ntmps79
 go_wp2_with (first | ((with_reducible refine gate_dst (N := 6) rfl ?_); (try (refine gate_guard (by rfl) ?_; dsimp only)); refine box_event ?hg (N := 6) ?hd (cs := #[.int .i64 0, .int .i64 0, .slice none 0 0, .slice none 0 0]) (t := 31) ?hr ?_; (case hd => rfl); (case hg => rfl); (case hr => first | (go_simp; done) | (go_simp; rfl)); intro gb130 hg w6 hbox hb; have n0_ := Aside0.mk (IsS97.below (by repeat (first | (with_reducible first | exact HI0.out | apply IsS97.alloc | apply IsS97.drewN | apply IsS97.drew | apply IsS97.set_1) | exact HI0.out)) hb); have n1_ := Aside0.mk (KeepBut.trans (by repeat (first | (with_reducible first | exact HK.out | apply KeepBut.set_ | apply keep_drewN | apply keep_drew | apply keep_alloc) | exact HK.out)) (KeepBut.of_below hb g none) (.inl rfl)); have n2_ := Aside0.mk (below_step (by exact zB1 HB.out (IsS97.ge HI0.out)) hb); have n3_ := Aside0.mk (hbox); have n4_ := Aside0.mk ((by rw [hg]; exact (keep_size (w := w) (g := g) (row := none) (by repeat (first | (with_reducible first | exact HK.out | apply KeepBut.set_ | apply keep_drewN | apply keep_drew | apply keep_alloc) | exact HK.out))) : w.heap.size ≤ gb130)); have n5_ := Aside0.mk ((Nat.le_trans HW0.out (by rw [hg]; exact (keep_size (w := w) (g := g) (row := none) (by repeat (first | (with_reducible first | exact HK.out | apply KeepBut.set_ | apply keep_drewN | apply keep_drew | apply keep_alloc) | exact HK.out))) : w.heap.size ≤ gb130) : w0.heap.size ≤ gb130)); have n6_ := Aside0.mk ((by rw [hg]; exact Nat.ne_of_lt (IsS97.lt (show IsS97 w0 _ g s0_0 s0_1 from by repeat (first | (with_reducible first | exact HI0.out | apply IsS97.alloc | apply IsS97.drewN | apply IsS97.drew | apply IsS97.set_1) | exact HI0.out))) : g ≠ gb130)); have n7_ := Aside0.mk ((by rw [hg]; exact Nat.ne_of_gt (IsS97.lt (show IsS97 w0 _ g s0_0 s0_1 from by repeat (first | (with_reducible first | exact HI0.out | apply IsS97.alloc | apply IsS97.drewN | apply IsS97.drew | apply IsS97.set_1) | exact HI0.out))) : gb130 ≠ g)); clear HI0; clear HK; clear HB; have HI0 := n0_; have HK := n1_; have HB := n2_; have BK130 := n3_; have GW130 := n4_; have GE130 := n5_; have NB0_130 := n6_; have NB130_0 := n7_; clear n0_ n1_ n2_ n3_ n4_ n5_ n6_ n7_; clear hb hbox hg) | ((with_reducible refine gate_dst (N := 13) rfl ?_); (try (refine gate_guard (by rfl) ?_; dsimp only)); refine Kd.R_lit k67 _ 67 ?hg (N := 13) ?hd (xs := ([] : List (S67))) (inner := []) (ok := fun _ => True) (okp := fun _ => True) ?hr ?hp (fun _ hk => hk) trivial (Below.refl _ _) (Nat.le_refl _) (by simp) ?_; (case hd => rfl); (case hg => rfl); (case hr => first | (go_simp; done) | (go_simp; rfl)); (case hp => exact (Reps.none _ _)); intro v132 w7 ho8 hb hg_ hnew_; clear hg_ hnew_; (first | rw [← Ny131.out] at ho8 | (simp only [Int.reduceToNat] at ho8; rw [← Ny131.out] at ho8)); have n0_ := Aside0.mk (Kd.R_lower ho8 (keep_size (w := w) (g := g) (row := none) (by repeat (first | (with_reducible first | exact HK.out | apply KeepBut.set_ | apply keep_drewN | apply keep_drew | apply keep_alloc | refine keep_far ?_ GW130.out _) | exact HK.out)))); have n1_ := Aside0.mk (IsS97.below (by repeat (first | (with_reducible first | exact HI0.out | apply IsS97.alloc | apply IsS97.drewN | apply IsS97.drew | apply IsS97.set_1 | refine IsS97.far ?_ NB0_130.out _) | exact HI0.out)) hb); have n2_ := Aside0.mk (blk_below (g := gb130) (o := .cells #[.int .i64 0, .int .i64 0, .slice none 0 0, .slice none 0 0] 31 (0, 0)) (by exact zK BK130.out) hb); have n3_ := Aside0.mk (KeepBut.trans (by repeat (first | (with_reducible first | exact HK.out | apply KeepBut.set_ | apply keep_drewN | apply keep_drew | apply keep_alloc | refine keep_far ?_ GW130.out _) | exact HK.out)) (KeepBut.of_below hb g none) (.inl rfl)); have n4_ := Aside0.mk (below_step (by exact zB2 HB.out (IsS97.ge HI0.out) GE130.out) hb); clear HI0; clear BK130; clear HK; clear HB; have HO133 := n0_; have HI0 := n1_; have BK130 := n2_; have HK := n3_; have HB := n4_; clear n0_ n1_ n2_ n3_ n4_; clear hb ho8) | ((with_reducible refine gate_dst (N := 14) rfl ?_); (try (refine gate_guard (by rfl) ?_; dsimp only)); refine Kd.R_lit k69 _ 69 ?hg (N := 14) ?hd (xs := ([] : List (S69))) (inner := []) (ok := fun _ => True) (okp := fun _ => True) ?hr ?hp (fun _ hk => hk) trivial (Below.refl _ _) (Nat.le_refl _) (by simp) ?_; (case hd => rfl); (case hg => rfl); (case hr => first | (go_simp; done) | (go_simp; rfl)); (case hp => exact (Reps.none _ _)); intro v135 w9 ho10 hb hg_ hnew_; clear hg_ hnew_; (first | rw [← Ny134.out] at ho10 | (simp only [Int.reduceToNat] at ho10; rw [← Ny134.out] at ho10)); have n0_ := Aside0.mk (Kd.R_below (by exact zR HO133.out) hb); have n1_ := Aside0.mk (Kd.R_lower ho10 (keep_size (w := w) (g := g) (row := none) (by repeat (first | (with_reducible first | exact HK.out | apply KeepBut.set_ | apply keep_drewN | apply keep_drew | apply keep_alloc | refine keep_far ?_ GW130.out _) | exact HK.out)))); have n2_ := Aside0.mk (IsS97.below (by repeat (first | (with_reducible first | exact HI0.out | apply IsS97.alloc | apply IsS97.drewN | apply IsS97.drew | apply IsS97.set_1 | refine IsS97.far ?_ NB0_130.out _) | exact HI0.out)) hb); have n3_ := Aside0.mk (blk_below (g := gb130) (o := .cells #[.int .i64 0, .int .i64 0, .slice none 0 0, .slice none 0 0] 31 (0, 0)) (by exact zK BK130.out) hb); have n4_ := Aside0.mk (KeepBut.trans (by repeat (first | (with_reducible first | exact HK.out | apply KeepBut.set_ | apply keep_drewN | apply keep_drew | apply keep_alloc | refine keep_far ?_ GW130.out _) | exact HK.out)) (KeepBut.of_below hb g none) (.inl rfl)); have n5_ := Aside0.mk (below_step (by exact zB2 HB.out (IsS97.ge HI0.out) GE130.out) hb); clear HO133; clear HI0; clear BK130; clear HK; clear HB; have HO133 := n0_; have HO136 := n1_; have HI0 := n2_; have BK130 := n3_; have HK := n4_; have HB := n5_; clear n0_ n1_ n2_ n3_ n4_ n5_; clear hb ho10; obtain ⟨Ao11, co11, eo11⟩ := Kd.R_slice HO136.out; subst eo11; obtain ⟨Ao12, co12, eo12⟩ := Kd.R_slice HO133.out; subst eo12) | ((with_reducible refine gate_dst (N := 7) rfl ?_); (try (refine gate_guard (by rfl) ?_; dsimp only)); refine box_event ?hg (N := 7) ?hd (cs := #[.int .i64 0, .int .i64 0, .slice none 0 0, .slice none 0 0]) (t := 31) ?hr ?_; (case hd => rfl); (case hg => rfl); (case hr => first | (go_simp; done) | (go_simp; rfl)); intro gb137 hg w13 hbox hb; have n0_ := Aside0.mk (Kd.R_below (by exact zR HO133.out) hb); have n1_ := Aside0.mk (Kd.R_below (by exact zR HO136.out) hb); have n2_ := Aside0.mk (IsS97.below (by repeat (first | (with_reducible first | exact HI0.out | apply IsS97.alloc | apply IsS97.drewN | apply IsS97.drew | apply IsS97.set_1 | refine IsS97.far ?_ NB0_130.out _) | exact HI0.out)) hb); have n3_ := Aside0.mk (blk_below (g := gb130) (o := .cells #[.int .i64 0, .int .i64 0, .slice none 0 0, .slice none 0 0] 31 (0, 0)) (by exact zK BK130.out) hb); have n4_ := Aside0.mk (KeepBut.trans (by repeat (first | (with_reducible first | exact HK.out | apply KeepBut.set_ | apply keep_drewN | apply keep_drew | apply keep_alloc | refine keep_far ?_ GW130.out _) | exact HK.out)) (KeepBut.of_below hb g none) (.inl rfl)); have n5_ := Aside0.mk (below_step (by exact zB2 HB.out (IsS97.ge HI0.out) GE130.out) hb); have n6_ := Aside0.mk (hbox); have n7_ := Aside0.mk ((by rw [hg]; exact (keep_size (w := w) (g := g) (row := none) (by repeat (first | (with_reducible first | exact HK.out | apply KeepBut.set_ | apply keep_drewN | apply keep_drew | apply keep_alloc | refine keep_far ?_ GW130.out _) | exact HK.out))) : w.heap.size ≤ gb137)); have n8_ := Aside0.mk ((Nat.le_trans HW0.out (by rw [hg]; exact (keep_size (w := w) (g := g) (row := none) (by repeat (first | (with_reducible first | exact HK.out | apply KeepBut.set_ | apply keep_drewN | apply keep_drew | apply keep_alloc | refine keep_far ?_ GW130.out _) | exact HK.out))) : w.heap.size ≤ gb137) : w0.heap.size ≤ gb137)); have n9_ := Aside0.mk ((by rw [hg]; exact Nat.ne_of_lt (blk_lt (g := gb130) (o := .cells #[.int .i64 0, .int .i64 0, .slice none 0 0, .slice none 0 0] 31 (0, 0)) (by exact zK BK130.out)) : gb130 ≠ gb137)); have n10_ := Aside0.mk ((by rw [hg]; exact Nat.ne_of_gt (blk_lt (g := gb130) (o := .cells #[.int .i64 0, .int .i64 0, .slice none 0 0, .slice none 0 0] 31 (0, 0)) (by exact zK BK130.out)) : gb137 ≠ gb130)); have n11_ := Aside0.mk ((by rw [hg]; exact Nat.ne_of_lt (IsS97.lt (show IsS97 w0 _ g s0_0 s0_1 from by repeat (first | (with_reducible first | exact HI0.out | apply IsS97.alloc | apply IsS97.drewN | apply IsS97.drew | apply IsS97.set_1 | refine IsS97.far ?_ NB0_130.out _) | exact HI0.out))) : g ≠ gb137)); have n12_ := Aside0.mk ((by rw [hg]; exact Nat.ne_of_gt (IsS97.lt (show IsS97 w0 _ g s0_0 s0_1 from by repeat (first | (with_reducible first | exact HI0.out | apply IsS97.alloc | apply IsS97.drewN | apply IsS97.drew | apply IsS97.set_1 | refine IsS97.far ?_ NB0_130.out _) | exact HI0.out))) : gb137 ≠ g)); clear HO133; clear HO136; clear HI0; clear BK130; clear HK; clear HB; have HO133 := n0_; have HO136 := n1_; have HI0 := n2_; have BK130 := n3_; have HK := n4_; have HB := n5_; have BK137 := n6_; have GW137 := n7_; have GE137 := n8_; have NB130_137 := n9_; have NB137_130 := n10_; have NB0_137 := n11_; have NB137_0 := n12_; clear n0_ n1_ n2_ n3_ n4_ n5_ n6_ n7_ n8_ n9_ n10_ n11_ n12_; clear hb hbox hg; have hnb14 := NB137_130.out; have hnc14 := NB130_137.out; have hnb15 := NB137_0.out; have hnc15 := NB0_137.out; obtain ⟨hcz16_0, hcz16_1, hcz16_2, hcz16_3, hfz16_0, hfz16_1, hfz16_2, hfz16_3⟩ := zc4f BK137.out) | ((with_reducible refine gate_callee (f := 43) rfl ?_); refine goesL_ (some 17) rfl rfl Tryd.func43 (by kernel_rfl) rfl #[.pointer (some ⟨g, 0, none⟩), .int .i64 4] rfl (by (try simp only [zm1, zm2, zm3]); first | done | rfl | (simp only [List.length_drop, List.length_take]; rfl)) ?_; (with_reducible refine (spec_l6Rd_pick.calls k g s0_0 s0_1 4 t138 t139 w0 _ ?side1 ?side2 A4.out).mono ?_); (case side1 => repeat (first | (with_reducible first | exact HI0.out | apply IsS97.alloc | apply IsS97.drewN | apply IsS97.drew | apply IsS97.set_1 | refine IsS97.far ?_ NB0_130.out _ | refine IsS97.far ?_ NB0_137.out _) | exact HI0.out)); (case side2 => exact zB3 HB.out (IsS97.ge HI0.out) GE130.out GE137.out); rintro e w17 ⟨rfl, hi, hb, hk⟩; refine ⟨_, rfl, ?_⟩; have n0_ := Aside0.mk (KeepBut.blk hk (g' := gb130) (o := .cells #[.int .i64 0, .int .i64 0, .slice none 0 0, .slice none 0 0] 31 (0, 0)) (by (with_reducible repeat (first | refine blk_drewN ?_ _ | refine blk_drew ?_ | refine blk_alloc ?_ _)); refine blk_far ?_ NB130_137.out _; (with_reducible repeat (first | refine blk_drewN ?_ _ | refine blk_drew ?_ | refine blk_alloc ?_ _)); refine blk_far ?_ NB130_137.out _; (with_reducible repeat (first | refine blk_drewN ?_ _ | refine blk_drew ?_ | refine blk_alloc ?_ _)); refine blk_far ?_ NB130_137.out _; (with_reducible repeat (first | refine blk_drewN ?_ _ | refine blk_drew ?_ | refine blk_alloc ?_ _)); refine blk_far ?_ NB130_137.out _; exact zK BK130.out) NB130_0.out (by simp)); have n1_ := Aside0.mk (Kd.R_mono (Kd.R_keep (IsS97.apart (show IsS97 w0 _ g s0_0 s0_1 from by repeat (first | (with_reducible first | exact HI0.out | apply IsS97.alloc | apply IsS97.drewN | apply IsS97.drew | apply IsS97.set_1 | refine IsS97.far ?_ NB0_130.out _ | refine IsS97.far ?_ NB0_137.out _) | exact HI0.out)) (by exact zR (Kd.R_mono (Kd.R_far (p := ⟨gb137, 3, none⟩) (Kd.R_far (p := ⟨gb137, 2, none⟩) (Kd.R_far (p := ⟨gb137, 1, none⟩) (Kd.R_far (p := ⟨gb137, 0, none⟩) (Kd.R_types HO133.out BK137.out (by decide)) (fun _ hk => hk.2) (.int .i64 a1)) (fun _ hk => hk.2) (.int .i64 a2)) (fun _ hk => hk.2) (.slice Ao12 y131.length co12)) (fun _ hk => hk.2) (.slice Ao11 y134.length co11)) (fun _ h_ => h_.1))) (by decide)) hk (fun _ h => h.2)) (fun _ h => h.1)); have n2_ := Aside0.mk (Kd.R_mono (Kd.R_keep (IsS97.apart (show IsS97 w0 _ g s0_0 s0_1 from by repeat (first | (with_reducible first | exact HI0.out | apply IsS97.alloc | apply IsS97.drewN | apply IsS97.drew | apply IsS97.set_1 | refine IsS97.far ?_ NB0_130.out _ | refine IsS97.far ?_ NB0_137.out _) | exact HI0.out)) (by exact zR (Kd.R_mono (Kd.R_far (p := ⟨gb137, 3, none⟩) (Kd.R_far (p := ⟨gb137, 2, none⟩) (Kd.R_far (p := ⟨gb137, 1, none⟩) (Kd.R_far (p := ⟨gb137, 0, none⟩) (Kd.R_types HO136.out BK137.out (by decide)) (fun _ hk => hk.2) (.int .i64 a1)) (fun _ hk => hk.2) (.int .i64 a2)) (fun _ hk => hk.2) (.slice Ao12 y131.length co12)) (fun _ hk => hk.2) (.slice Ao11 y134.length co11)) (fun _ h_ => h_.1))) (by decide)) hk (fun _ h => h.2)) (fun _ h => h.1)); have n3_ := Aside0.mk (KeepBut.blk hk (g' := gb137) (o := .cells #[.int .i64 a1, .int .i64 a2, .slice Ao12 y131.length co12, .slice Ao11 y134.length co11] 31 (0, 0)) (by (with_reducible repeat (first | refine blk_drewN ?_ _ | refine blk_drew ?_ | refine blk_alloc ?_ _)); refine blk_put (cs := #[.int .i64 a1, .int .i64 a2, .slice Ao12 y131.length co12, .slice none 0 0]) ?_ 3 _ rfl; (with_reducible repeat (first | refine blk_drewN ?_ _ | refine blk_drew ?_ | refine blk_alloc ?_ _)); refine blk_put (cs := #[.int .i64 a1, .int .i64 a2, .slice none 0 0, .slice none 0 0]) ?_ 2 _ rfl; (with_reducible repeat (first | refine blk_drewN ?_ _ | refine blk_drew ?_ | refine blk_alloc ?_ _)); refine blk_put (cs := #[.int .i64 a1, .int .i64 0, .slice none 0 0, .slice none 0 0]) ?_ 1 _ rfl; (with_reducible repeat (first | refine blk_drewN ?_ _ | refine blk_drew ?_ | refine blk_alloc ?_ _)); refine blk_put (cs := #[.int .i64 0, .int .i64 0, .slice none 0 0, .slice none 0 0]) ?_ 0 _ rfl; exact zK BK137.out) NB137_0.out (by simp)); have n4_ := Aside0.mk (KeepBut.trans (by repeat (first | (with_reducible first | exact HK.out | apply KeepBut.set_ | apply keep_drewN | apply keep_drew | apply keep_alloc | refine keep_far ?_ GW130.out _ | refine keep_far ?_ GW137.out _) | exact HK.out)) hk (.inl rfl)); have n5_ := Aside0.mk (hb); have n6_ := Aside0.mk (hi); clear BK130; clear HO133; clear HO136; clear BK137; clear HK; clear HB; clear HI0; have BK130 := n0_; have HO133 := n1_; have HO136 := n2_; have BK137 := n3_; have HK := n4_; have HB := n5_; have HI0 := n6_; clear n0_ n1_ n2_ n3_ n4_ n5_ n6_; (try clear hb); (try clear hb2); (try clear hk); (try clear hi)) | ((with_reducible refine gate_callee (f := 43) rfl ?_); refine goesL_ (some 19) rfl rfl Tryd.func43 (by kernel_rfl) rfl #[.pointer (some ⟨g, 0, none⟩), .int .i64 3] rfl (by (try simp only [zm1, zm2, zm3]); first | done | rfl | (simp only [List.length_drop, List.length_take]; rfl)) ?_; (with_reducible refine (spec_l6Rd_pick.calls k g s0_0 t139 3 t140 t141 w0 _ ?side1 ?side2 A5.out).mono ?_); (case side1 => repeat (first | (with_reducible first | exact HI0.out | apply IsS97.alloc | apply IsS97.drewN | apply IsS97.drew | apply IsS97.set_1 | refine IsS97.far ?_ NB0_130.out _ | refine IsS97.far ?_ NB0_137.out _) | exact HI0.out)); (case side2 => exact zB3 HB.out (IsS97.ge HI0.out) GE130.out GE137.out); rintro e w18 ⟨rfl, hi, hb, hk⟩; refine ⟨_, rfl, ?_⟩; have n0_ := Aside0.mk (KeepBut.blk hk (g' := gb130) (o := .cells #[.int .i64 0, .int .i64 0, .slice none 0 0, .slice none 0 0] 31 (0, 0)) (by exact zK BK130.out) NB130_0.out (by simp)); have n1_ := Aside0.mk (Kd.R_mono (Kd.R_keep (IsS97.apart (show IsS97 w0 _ g s0_0 t139 from by repeat (first | (with_reducible first | exact HI0.out | apply IsS97.alloc | apply IsS97.drewN | apply IsS97.drew | apply IsS97.set_1 | refine IsS97.far ?_ NB0_130.out _ | refine IsS97.far ?_ NB0_137.out _) | exact HI0.out)) (by exact zR HO133.out) (by decide)) hk (fun _ h => h.2)) (fun _ h => h.1)); have n2_ := Aside0.mk (Kd.R_mono (Kd.R_keep (IsS97.apart (show IsS97 w0 _ g s0_0 t139 from by repeat (first | (with_reducible first | exact HI0.out | apply IsS97.alloc | apply IsS97.drewN | apply IsS97.drew | apply IsS97.set_1 | refine IsS97.far ?_ NB0_130.out _ | refine IsS97.far ?_ NB0_137.out _) | exact HI0.out)) (by exact zR HO136.out) (by decide)) hk (fun _ h => h.2)) (fun _ h => h.1)); have n3_ := Aside0.mk (KeepBut.blk hk (g' := gb137) (o := .cells #[.int .i64 a1, .int .i64 a2, .slice Ao12 y131.length co12, .slice Ao11 y134.length co11] 31 (0, 0)) (by exact zK BK137.out) NB137_0.out (by simp)); have n4_ := Aside0.mk (KeepBut.trans (by repeat (first | (with_reducible first | exact HK.out | apply KeepBut.set_ | apply keep_drewN | apply keep_drew | apply keep_alloc | refine keep_far ?_ GW130.out _ | refine keep_far ?_ GW137.out _) | exact HK.out)) hk (.inl rfl)); have n5_ := Aside0.mk (hb); have n6_ := Aside0.mk (hi); clear BK130; clear HO133; clear HO136; clear BK137; clear HK; clear HB; clear HI0; have BK130 := n0_; have HO133 := n1_; have HO136 := n2_; have BK137 := n3_; have HK := n4_; have HB := n5_; have HI0 := n6_; clear n0_ n1_ n2_ n3_ n4_ n5_ n6_; (try clear hb); (try clear hb2); (try clear hk); (try clear hi)))
 go_loopg [8, 9] k (fun kq v8 v9 w' => ∃ (x8_1 : Int) (x9_1 : Int) (x1001_1 : Int) (x138002_1 : List (S67)) (u138002 : Value), v8 = .int .i64 x8_1 ∧ v9 = .int .i64 x9_1 ∧ Aside0 (spec_l71Pkg.l0 kq a1 x8_1 x9_1 s0_0 x1001_1 a1 a2 x138002_1 y134 = some (r1, r2, r3, r4, r5)) ∧ Aside0 (kq ≤ k) ∧ Aside0 (Kd.R k67 67 w' w.heap.size (fun _ => True) u138002 x138002_1) ∧ Aside0 (Kd.R k69 69 w' w.heap.size (fun _ => True) (.slice Ao11 y134.length co11) y134) ∧ Aside0 (w'.heap[gb130]? = some (.cells #[.int .i64 0, .int .i64 0, (.slice none 0 0), (.slice none 0 0)] 31 (0, 0))) ∧ Aside0 (w'.heap[gb137]? = some (.cells #[.int .i64 a1, .int .i64 a2, u138002, (.slice Ao11 y134.length co11)] 31 (0, 0))) ∧ Aside0 (IsS97 w0 w' g s0_0 x1001_1) ∧ Aside0 (KeepBut w w' g none) ∧ Aside0 (Below w0.heap.size w0 w'))
 case atStart => exact ⟨(t138), (t140), (t141), (y131), (.slice Ao12 y131.length co12), (by first | rfl | (simp; done) | (simp [*]; done)), (by first | rfl | (simp; done) | (simp [*]; done)), H', ⟨Nat.le_refl _⟩, ⟨by exact zR HO133.out⟩, ⟨by exact zR HO136.out⟩, ⟨by exact zK BK130.out⟩, ⟨by exact zK BK137.out⟩, ⟨by repeat (first | (with_reducible first | exact HI0.out | apply IsS97.alloc | apply IsS97.drewN | apply IsS97.drew | apply IsS97.set_1 | refine IsS97.far ?_ NB0_130.out _ | refine IsS97.far ?_ NB0_137.out _) | exact HI0.out)⟩, ⟨by repeat (first | (with_reducible first | exact HK.out | apply KeepBut.set_ | apply keep_drewN | apply keep_drew | apply keep_alloc | refine keep_far ?_ GW130.out _ | refine keep_far ?_ GW137.out _) | exact HK.out)⟩, ⟨by exact zB3 HB.out (IsS97.ge HI0.out) GE130.out GE137.out⟩⟩
 case round =>
  clear H'
  try clear c1
  try clear p2
  try clear c4
  try clear c7
  try clear c14
  try clear c15
  try clear hcz16_0
  try clear hcz16_1
  try clear hcz16_2
  try clear hcz16_3
  try clear hfz16_0
  try clear hfz16_1
  try clear hfz16_2
  try clear hfz16_3
  obtain ⟨x8_1, x9_1, x1001_1, x138002_1, u138002, rfl, rfl, HA, HK1, HO_138002, HO_138003, BK130, BK137, HI0, HK, HB⟩ := hrel
  cases gk with
  | zero => exact absurd HA.out (by simp [spec_l71Pkg.l0])
  | succ k1 =>
   have H := HA.out
   clear HA
   simp only [spec_l71Pkg.l0] at H
   have HC19 := Aside0.mk H
   clear H
   go_upto_region 4 with (fail)
   go_cut [25] (fun v25 wc => ∃ (kq : Nat) (x25_18 : Bool), v25 = .bool x25_18 ∧ Aside0 (spec_l71Pkg.j1 kq a1 x8_1 x9_1 x25_18 s0_0 x1001_1 a1 a2 x138002_1 y134 = some (r1, r2, r3, r4, r5)) ∧ Aside0 (kq ≤ k1) ∧ Aside0 (Kd.R k67 67 wc w.heap.size (fun _ => True) u138002 x138002_1) ∧ Aside0 (Kd.R k69 69 wc w.heap.size (fun _ => True) (.slice Ao11 y134.length co11) y134) ∧ Aside0 (wc.heap[gb130]? = some (.cells #[.int .i64 0, .int .i64 0, (.slice none 0 0), (.slice none 0 0)] 31 (0, 0))) ∧ Aside0 (wc.heap[gb137]? = some (.cells #[.int .i64 a1, .int .i64 a2, u138002, (.slice Ao11 y134.length co11)] 31 (0, 0))) ∧ Aside0 (IsS97 w0 wc g s0_0 x1001_1) ∧ Aside0 (KeepBut w wc g none) ∧ Aside0 (Below w0.heap.size w0 wc))
   case first =>
    have H := HC19.out
    clear HC19
    by_cases c20 : x9_1 > 0
    ·rw [if_pos c20] at H
     have c20b0 : decide (0 < x9_1) = true := decide_eq_true c20
     clear c20
     (first | rw [c20b0] | (simp only [i64_w, i32_w]; rw [c20b0]) | skip)
     have H' := Aside0.mk H
     clear H
     go_wp2
     go_meet
     case rel => exact ⟨_, (decide (x8_1 < 6)), (by first | rfl | (simp; done) | (simp [*]; done)), H', ⟨by have := HK1.out; first | omega | exact Nat.le_refl _⟩, ⟨by exact zR HO_138002.out⟩, ⟨by exact zR HO_138003.out⟩, ⟨by exact zK BK130.out⟩, ⟨by exact zK BK137.out⟩, ⟨by repeat (first | (with_reducible first | exact HI0.out | apply IsS97.alloc | apply IsS97.drewN | apply IsS97.drew | apply IsS97.set_1 | refine IsS97.far ?_ NB0_130.out _ | refine IsS97.far ?_ NB0_137.out _) | exact HI0.out)⟩, ⟨by repeat (first | (with_reducible first | exact HK.out | apply KeepBut.set_ | apply keep_drewN | apply keep_drew | apply keep_alloc | refine keep_far ?_ GW130.out _ | refine keep_far ?_ GW137.out _) | exact HK.out)⟩, ⟨by exact zB3 HB.out (IsS97.ge HI0.out) GE130.out GE137.out⟩⟩
    ·rw [if_neg c20] at H
     have c20b0 : decide (0 < x9_1) = false := decide_eq_false c20
     clear c20
     (first | rw [c20b0] | (simp only [i64_w, i32_w]; rw [c20b0]) | skip)
     have H' := Aside0.mk H
     clear H
     go_wp2
     go_meet
     case rel => exact ⟨_, (false), (by first | rfl | (simp; done) | (simp [*]; done)), H', ⟨by have := HK1.out; first | omega | exact Nat.le_refl _⟩, ⟨by exact zR HO_138002.out⟩, ⟨by exact zR HO_138003.out⟩, ⟨by exact zK BK130.out⟩, ⟨by exact zK BK137.out⟩, ⟨by repeat (first | (with_reducible first | exact HI0.out | apply IsS97.alloc | apply IsS97.drewN | apply IsS97.drew | apply IsS97.set_1 | refine IsS97.far ?_ NB0_130.out _ | refine IsS97.far ?_ NB0_137.out _) | exact HI0.out)⟩, ⟨by repeat (first | (with_reducible first | exact HK.out | apply KeepBut.set_ | apply keep_drewN | apply keep_drew | apply keep_alloc | refine keep_far ?_ GW130.out _ | refine keep_far ?_ GW137.out _) | exact HK.out)⟩, ⟨by exact zB3 HB.out (IsS97.ge HI0.out) GE130.out GE137.out⟩⟩
   case rest =>
    clear HC19
    try clear c1
    try clear c2
    try clear p2
    try clear c4
    try clear c7
    try clear c14
    try clear c15
    try clear c20
    try clear c20b0
    try clear hcz16_0
    try clear hcz16_1
    try clear hcz16_2
    try clear hcz16_3
    try clear hfz16_0
    try clear hfz16_1
    try clear hfz16_2
    try clear hfz16_3
    try clear p2
    obtain ⟨kq, x25_18, rfl, HA, HJ18, HO_138002, HO_138003, BK130, BK137, HI0, HK, HB⟩ := hcut
    cases kq with
    | zero => exact absurd HA.out (by simp [spec_l71Pkg.j1])
    | succ kj18 =>
     have H := HA.out
     clear HA
     simp only [spec_l71Pkg.j1] at H
     by_cases c21 : x25_18 = true
     ·subst c21
      have H1 : ((spec_l6Rd_pick.f kj18 s0_0 x1001_1 10).bind fun bt142 => (if x138002_1.length < 8796093022208 then ((spec_l6Rd_pick.f kj18 s0_0 bt142.2 3).bind fun bt147 => (spec_l71Pkg.l0 kj18 a1 (wrap64 ((wrap64 (x8_1 + 1)) + bt147.1)) (wrap64 (x9_1 - 1)) s0_0 bt147.2 a1 a2 (x138002_1 ++ [(⟨x8_1, bt142.1⟩ : S67)]) y134)) else (none))) = some (r1, r2, r3, r4, r5) := by rw [if_pos rfl] at H; exact H
      clear H
      have H := H1
      clear H1
      replace H := Option.bind_eq_some_iff.mp H
      obtain ⟨⟨t142, t143⟩, A220, H⟩ := H
      replace H : (if x138002_1.length < 8796093022208 then ((spec_l6Rd_pick.f kj18 s0_0 t143 3).bind fun bt147 => (spec_l71Pkg.l0 kj18 a1 (wrap64 ((wrap64 (x8_1 + 1)) + bt147.1)) (wrap64 (x9_1 - 1)) s0_0 bt147.2 a1 a2 (x138002_1 ++ [(⟨x8_1, t142⟩ : S67)]) y134)) else (none)) = some (r1, r2, r3, r4, r5) := H
      have A22 := Aside0.mk A220
      clear A220
      by_cases c23 : x138002_1.length < 8796093022208
      ·rw [if_pos c23] at H
       have LMc23 := Aside0.mk c23
       clear c23
       obtain ⟨y144, hy144⟩ : ∃ y_ : List (S67), y_ = (x138002_1 ++ [(⟨x8_1, t142⟩ : S67)]) := ⟨_, rfl⟩
       replace H : ((spec_l6Rd_pick.f kj18 s0_0 t143 3).bind fun bt147 => (spec_l71Pkg.l0 kj18 a1 (wrap64 ((wrap64 (x8_1 + 1)) + bt147.1)) (wrap64 (x9_1 - 1)) s0_0 bt147.2 a1 a2 y144 y134)) = some (r1, r2, r3, r4, r5) := by first | (rw [hy144]; with_reducible exact H) | (have H2_ := (Option.bind_some _ _).symm.trans H; rw [hy144]; with_reducible exact H2_) | (have H2_ := (Option.bind_some _ _).symm.trans H; with_reducible exact H2_) | with_reducible exact H | (rw [hy144]; exact H) | exact H
       have Ny144 := Aside0.mk hy144
       clear hy144
       replace H := Option.bind_eq_some_iff.mp H
       obtain ⟨⟨t147, t148⟩, A240, H⟩ := H
       replace H : (spec_l71Pkg.l0 kj18 a1 (wrap64 ((wrap64 (x8_1 + 1)) + t147)) (wrap64 (x9_1 - 1)) s0_0 t148 a1 a2 y144 y134) = some (r1, r2, r3, r4, r5) := H
       have A24 := Aside0.mk A240
       clear A240
       have H' := Aside0.mk H
       clear H
       try go_wp2
       have n0_ := Aside0.mk (Kd.R_drew HO_138002.out)
       have n1_ := Aside0.mk (Kd.R_drew HO_138003.out)
       have n2_ := Aside0.mk (blk_drew BK130.out)
       have n3_ := Aside0.mk (blk_drew BK137.out)
       have n4_ := Aside0.mk (IsS97.drew HI0.out)
       have n5_ := Aside0.mk (keep_drew HK.out)
       have n6_ := Aside0.mk (below_drew1 HB.out)
       clear HO_138002
       clear HO_138003
       clear BK130
       clear BK137
       clear HI0
       clear HK
       clear HB
       have HO_138002 := n0_
       have HO_138003 := n1_
       have BK130 := n2_
       have BK137 := n3_
       have HI0 := n4_
       have HK := n5_
       have HB := n6_
       clear n0_ n1_ n2_ n3_ n4_ n5_ n6_
       refine start_ (n := 10) (S := fun w' => w'.cell? ⟨gb137, 0, none⟩ = some (.int .i64 a1) ∧ w'.cell? ⟨gb137, 1, none⟩ = some (.int .i64 a2) ∧ w'.cell? ⟨gb137, 2, none⟩ = some (u138002) ∧ w'.cell? ⟨gb137, 3, none⟩ = some (.slice Ao11 y134.length co11)) (ds := [9]) #[false, false, false, false, false, false, false, false, false, false] (by kernel_rfl) rfl rfl ⟨(blk_cell BK137.out 0).trans rfl, (blk_cell BK137.out 1).trans rfl, (blk_cell BK137.out 2).trans rfl, (blk_cell BK137.out 3).trans rfl⟩ (fun hHeld => ?_); refine with_tabW spec_l71Pkg.tab6 spec_l71Pkg.bits6 (fun HT_ HW_ => ?_)
       generalize wc.drew = w25 at HO_138002 HO_138003 BK130 BK137 HI0 HK HB hHeld ⊢
       refine pure_ (i := 0) (N := some 28) (v := ?_) (a' := ?_) #[true, false, false, false, false, false, false, false, false, false] rfl rfl (any_of HT_.out (by kernel_rfl)) (fun _ _ _ h => h) (Or.inl ⟨by rfl, ?_⟩) ?_ ?_
       rotate_left
       ·intro w'
        go_simp
        with_reducible rfl
       rotate_left
       ·simp only [zp0, zp1, zp2, zp3, zp4, i64_w, i32_w]
        rfl
       refine pure_ (i := 2) (N := some 30) (v := ?_) (a' := ?_) #[true, false, true, false, false, false, false, false, false, false] rfl rfl (any_of HT_.out (by kernel_rfl)) (fun _ _ _ h => h) (Or.inl ⟨by rfl, ?_⟩) ?_ ?_
       rotate_left
       ·intro w'
        go_simp
        with_reducible rfl
       rotate_left
       ·simp only [zp0, zp1, zp2, zp3, zp4, i64_w, i32_w]
        rfl
       refine pure_ (i := 3) (N := some 31) (v := ?_) (a' := ?_) #[true, false, true, true, false, false, false, false, false, false] rfl rfl (any_of HT_.out (by kernel_rfl)) (fun _ _ _ h => h) (Or.inl ⟨by rfl, ?_⟩) ?_ ?_
       rotate_left
       ·intro w'
        go_simp
        with_reducible rfl
       rotate_left
       ·simp only [zp0, zp1, zp2, zp3, zp4, i64_w, i32_w]
        rfl
       refine take_ (i := 1) (N := some 29) (v := ?_) (a' := ?_) #[true, true, true, true, false, false, false, false, false, false] rfl rfl (take_ofW HT_.out HW_.out (by kernel_rfl)) (fun _ _ _ h => h) (Or.inl ⟨by rfl, ?_⟩) hHeld ?_ ?_
       rotate_left
       ·rintro w' ⟨s0, s1, s2, s3⟩
        go_simp
        with_reducible rfl
       rotate_left
       ·simp only [zp0, zp1, zp2, zp3, zp4, i64_w, i32_w]
        rfl
       refine one_ (i := 4) (N := some 32) #[true, true, true, true, true, false, false, false, false, false] rfl rfl (one_of HT_.out (by kernel_rfl)) (by decide) (fun K hK => ?_)
       refine goes_ Tryd.func43 (by kernel_rfl) rfl #[.pointer (some ⟨g, 0, none⟩), .int .i64 10] (by rfl) rfl rfl (by (try simp only [zm1, zm2, zm3]); first | done | rfl | (simp only [List.length_drop, List.length_take]; rfl)) ?_
       with_reducible refine (spec_l6Rd_pick.calls kj18 g s0_0 x1001_1 10 t142 t143 w0 _ ?side1 ?side2 A22.out).mono ?_
       (case side1 => repeat (first | (with_reducible first | exact HI0.out | apply IsS97.alloc | apply IsS97.drewN | apply IsS97.drew | apply IsS97.set_1 | refine IsS97.far ?_ NB0_130.out _ | refine IsS97.far ?_ NB0_137.out _) | exact HI0.out))
       (case side2 => exact zB3 HB.out (IsS97.ge HI0.out) GE130.out GE137.out)
       rintro e w26 ⟨rfl, hi, hb, hk⟩
       refine ⟨_, rfl, ?_⟩
       have n0_ := Aside0.mk (Kd.R_mono (Kd.R_keep (IsS97.apart (show IsS97 w0 _ g s0_0 x1001_1 from by repeat (first | (with_reducible first | exact HI0.out | apply IsS97.alloc | apply IsS97.drewN | apply IsS97.drew | apply IsS97.set_1 | refine IsS97.far ?_ NB0_130.out _ | refine IsS97.far ?_ NB0_137.out _) | exact HI0.out)) (by exact zR HO_138002.out) (by decide)) hk (fun _ h => h.2)) (fun _ h => h.1))
       have n1_ := Aside0.mk (Kd.R_mono (Kd.R_keep (IsS97.apart (show IsS97 w0 _ g s0_0 x1001_1 from by repeat (first | (with_reducible first | exact HI0.out | apply IsS97.alloc | apply IsS97.drewN | apply IsS97.drew | apply IsS97.set_1 | refine IsS97.far ?_ NB0_130.out _ | refine IsS97.far ?_ NB0_137.out _) | exact HI0.out)) (by exact zR HO_138003.out) (by decide)) hk (fun _ h => h.2)) (fun _ h => h.1))
       have n2_ := Aside0.mk (KeepBut.blk hk (g' := gb130) (o := .cells #[.int .i64 0, .int .i64 0, .slice none 0 0, .slice none 0 0] 31 (0, 0)) (by exact zK BK130.out) NB130_0.out (by simp))
       have n3_ := Aside0.mk (KeepBut.blk hk (g' := gb137) (o := .cells #[.int .i64 a1, .int .i64 a2, u138002, .slice Ao11 y134.length co11] 31 (0, 0)) (by exact zK BK137.out) NB137_0.out (by simp))
       have n4_ := Aside0.mk (KeepBut.trans (by repeat (first | (with_reducible first | exact HK.out | apply KeepBut.set_ | apply keep_drewN | apply keep_drew | apply keep_alloc | refine keep_far ?_ GW130.out _ | refine keep_far ?_ GW137.out _) | exact HK.out)) hk (.inl rfl))
       have n5_ := Aside0.mk (hb)
       have n6_ := Aside0.mk (hi)
       clear HO_138002
       clear HO_138003
       clear BK130
       clear BK137
       clear HK
       clear HB
       clear HI0
       have HO_138002 := n0_
       have HO_138003 := n1_
       have BK130 := n2_
       have BK137 := n3_
       have HK := n4_
       have HB := n5_
       have HI0 := n6_
       clear n0_ n1_ n2_ n3_ n4_ n5_ n6_
       (try clear hb)
       (try clear hb2)
       (try clear hk)
       (try clear hi)
       refine hK.out _ _ ⟨(blk_cell BK137.out 0).trans rfl, (blk_cell BK137.out 1).trans rfl, (blk_cell BK137.out 2).trans rfl, (blk_cell BK137.out 3).trans rfl⟩ (fun hHeld => ?_)
       clear hK K
       refine norm_ (a' := ?_) ?_ ?_
       rotate_left
       ·show Act.put _ (some 32) _ = _
        simp only [zp0, zp1, zp2, zp3, zp4, i64_w, i32_w]
        rfl
       refine pure_ (i := 5) (N := some 33) (v := ?_) (a' := ?_) #[true, true, true, true, true, true, false, false, false, false] rfl rfl (any_of HT_.out (by kernel_rfl)) (fun _ _ _ h => h) (Or.inl ⟨by rfl, ?_⟩) ?_ ?_
       rotate_left
       ·intro w'
        go_simp
        with_reducible rfl
       rotate_left
       ·simp only [zp0, zp1, zp2, zp3, zp4, i64_w, i32_w]
        rfl
       refine one_ (i := 6) (N := some 34) #[true, true, true, true, true, true, true, false, false, false] rfl rfl (one_of HT_.out (by kernel_rfl)) (by decide) (fun K hK => ?_)
       refine value_ (w1 := ?_) (v := ?_) (by rfl) rfl ?_ ?_
       rotate_left 2
       ·go_simp
        constructor
        ·rfl
        ·rfl
       refine hK.out _ _ ⟨(blk_cell (blk_alloc BK137.out _) 0).trans rfl, (blk_cell (blk_alloc BK137.out _) 1).trans rfl, (blk_cell (blk_alloc BK137.out _) 2).trans rfl, (blk_cell (blk_alloc BK137.out _) 3).trans rfl⟩ (fun hHeld => ?_)
       clear hK K
       refine norm_ (a' := ?_) ?_ ?_
       rotate_left
       ·show Act.put _ (some 34) _ = _
        simp only [zp0, zp1, zp2, zp3, zp4, i64_w, i32_w]
        rfl
       refine one_ (i := 7) (N := some 35) #[true, true, true, true, true, true, true, true, false, false] rfl rfl (one_of HT_.out (by kernel_rfl)) (by decide) (fun K hK => ?_)
       refine Kd.R_append_step k67 w.heap.size (by rfl) (.tmp 29) (.tmp 34) 28 67 (.agg #[(.int .i64 0), (.int .i64 0)]) 16 rfl Tryd.underlying28 info67 rfl (by decide) (by omega) u138002 x138002_1 (⟨x8_1, t142⟩ : S67) [.int .i64 x8_1, .int .i64 t142] (fun _ => True) (fun _ => False) rfl rfl ?aP (fun _ hk => hk.elim) ?aF ?aO (Below.refl _ _) ?aS ?aL ?_
       (case aP => exact k67_mkM _ _ _ (⟨x8_1, t142⟩ : S67))
       (case aF => exact (fun _ _ => trivial))
       (case aO => exact (by exact zR HO_138002.out))
       (case aS => exact (keep_size (w := w) (g := g) (row := none) (by repeat (first | (with_reducible first | exact HK.out | apply KeepBut.set_ | apply keep_drewN | apply keep_drew | apply keep_alloc | refine keep_far ?_ GW130.out _ | refine keep_far ?_ GW137.out _) | exact HK.out))))
       (case aL => have := LMc23.out; omega)
       intro v145 w27 ho hb hg hat
       rw [← Ny144.out] at ho
       have n0_ := Aside0.mk (Kd.R_over' (by exact zR HO_138003.out) (Kd.R_typed (by exact zR HO_138002.out)) (by decide) hg)
       have n1_ := Aside0.mk (blk_grown (g := gb130) (o := .cells #[.int .i64 0, .int .i64 0, .slice none 0 0, .slice none 0 0] 31 (0, 0)) (by exact zK BK130.out) hg (Kd.R_ne HO_138002.out BK130.out (by decide)))
       have n2_ := Aside0.mk (blk_grown (g := gb137) (o := .cells #[.int .i64 a1, .int .i64 a2, u138002, .slice Ao11 y134.length co11] 31 (0, 0)) (by exact zK BK137.out) hg (Kd.R_ne HO_138002.out BK137.out (by decide)))
       have n3_ := Aside0.mk (IsS97.grown (by repeat (first | (with_reducible first | exact HI0.out | apply IsS97.alloc | apply IsS97.drewN | apply IsS97.drew | apply IsS97.set_1 | refine IsS97.far ?_ NB0_130.out _ | refine IsS97.far ?_ NB0_137.out _) | exact HI0.out)) hg (IsS97.own_ne HI0.out HO_138002.out (by decide)))
       have n4_ := Aside0.mk (below_weaken (by exact zB3 HB.out (IsS97.ge HI0.out) GE130.out GE137.out) HL.out hb)
       have n5_ := Aside0.mk (KeepBut.trans (by repeat (first | (with_reducible first | exact HK.out | apply KeepBut.set_ | apply keep_drewN | apply keep_drew | apply keep_alloc | refine keep_far ?_ GW130.out _ | refine keep_far ?_ GW137.out _) | exact HK.out)) (KeepBut.of_grown hg g) (Kd.R_base2 HO_138002.out))
       have n6_ := Aside0.mk (ho)
       clear HO_138003
       clear BK130
       clear BK137
       clear HI0
       clear HB
       clear HK
       clear HO_138002
       have HO_138003 := n0_
       have BK130 := n1_
       have BK137 := n2_
       have HI0 := n3_
       have HB := n4_
       have HK := n5_
       have HO146 := n6_
       clear n0_ n1_ n2_ n3_ n4_ n5_ n6_
       clear ho hb hg hat
       obtain ⟨Ao28, co28, eo28⟩ := Kd.R_slice HO146.out
       (first | subst eo28 | (injection eo28 with f1_ f2_ f3_; have f4_ := f1_.symm; have f5_ := f3_.symm; clear f1_ f2_ f3_; subst f4_; subst f5_))
       refine hK.out _ _ ⟨(blk_cell BK137.out 0).trans rfl, (blk_cell BK137.out 1).trans rfl, (blk_cell BK137.out 2).trans rfl, (blk_cell BK137.out 3).trans rfl⟩ (fun hHeld => ?_)
       clear hK K
       refine norm_ (a' := ?_) ?_ ?_
       rotate_left
       ·show Act.put _ (some 35) _ = _
        simp only [zp0, zp1, zp2, zp3, zp4, i64_w, i32_w]
        rfl
       refine pure_ (i := 8) (N := some 36) (v := ?_) (a' := ?_) #[true, true, true, true, true, true, true, true, true, false] rfl rfl (any_of HT_.out (by kernel_rfl)) (fun _ _ _ h => h) (Or.inl ⟨by rfl, ?_⟩) ?_ ?_
       rotate_left
       ·intro w'
        go_simp
        with_reducible rfl
       rotate_left
       ·simp only [zp0, zp1, zp2, zp3, zp4, i64_w, i32_w]
        rfl
       refine last_ (i := 9) (N := none) #[true, true, true, true, true, true, true, true, true, true] rfl rfl (one_of HT_.out (by kernel_rfl)) (by decide) (fun K hK => ?_)
       have hs29 : w27.cell? ⟨gb137, 2, none⟩ = some (u138002) := (blk_cell BK137.out 2).trans rfl
       have hfs29 := blk_frozen BK137.out 2
       have hns29_0 := NB130_137.out
       have hms29_0 := NB137_130.out
       refine skip_ (w1 := ?_) (by rfl) rfl ?_ ?_
       rotate_left
       ·go_simp
        rfl
       refine hK.out _ _ ?_
       clear hK K
       refine done_ (done_of HT_.out (by kernel_rfl)) ?_
       try go_wp2_with (first | ((with_reducible refine gate_callee (f := 43) rfl ?_); refine goesL_ (some 40) rfl rfl Tryd.func43 (by kernel_rfl) rfl #[.pointer (some ⟨g, 0, none⟩), .int .i64 3] rfl (by (try simp only [zm1, zm2, zm3]); first | done | rfl | (simp only [List.length_drop, List.length_take]; rfl)) ?_; (with_reducible refine (spec_l6Rd_pick.calls kj18 g s0_0 t143 3 t147 t148 w0 _ ?side1 ?side2 A24.out).mono ?_); (case side1 => repeat (first | (with_reducible first | exact HI0.out | apply IsS97.alloc | apply IsS97.drewN | apply IsS97.drew | apply IsS97.set_1 | refine IsS97.far ?_ NB0_130.out _ | refine IsS97.far ?_ NB0_137.out _) | exact HI0.out)); (case side2 => exact zB3 HB.out (IsS97.ge HI0.out) GE130.out GE137.out); rintro e w30 ⟨rfl, hi, hb, hk⟩; refine ⟨_, rfl, ?_⟩; have n0_ := Aside0.mk (Kd.R_mono (Kd.R_keep (IsS97.apart (show IsS97 w0 _ g s0_0 t143 from by repeat (first | (with_reducible first | exact HI0.out | apply IsS97.alloc | apply IsS97.drewN | apply IsS97.drew | apply IsS97.set_1 | refine IsS97.far ?_ NB0_130.out _ | refine IsS97.far ?_ NB0_137.out _) | exact HI0.out)) (by exact zR (Kd.R_mono (Kd.R_far (p := ⟨gb137, 2, none⟩) (Kd.R_types HO_138003.out BK137.out (by decide)) (fun _ hk => hk.2) (.slice Ao28 y144.length co28)) (fun _ h_ => h_.1))) (by decide)) hk (fun _ h => h.2)) (fun _ h => h.1)); have n1_ := Aside0.mk (KeepBut.blk hk (g' := gb130) (o := .cells #[.int .i64 0, .int .i64 0, .slice none 0 0, .slice none 0 0] 31 (0, 0)) (by (with_reducible repeat (first | refine blk_drewN ?_ _ | refine blk_drew ?_ | refine blk_alloc ?_ _)); refine blk_far ?_ NB130_137.out _; exact zK BK130.out) NB130_0.out (by simp)); have n2_ := Aside0.mk (KeepBut.blk hk (g' := gb137) (o := .cells #[.int .i64 a1, .int .i64 a2, .slice Ao28 y144.length co28, .slice Ao11 y134.length co11] 31 (0, 0)) (by (with_reducible repeat (first | refine blk_drewN ?_ _ | refine blk_drew ?_ | refine blk_alloc ?_ _)); refine blk_put (cs := #[.int .i64 a1, .int .i64 a2, u138002, .slice Ao11 y134.length co11]) ?_ 2 _ rfl; exact zK BK137.out) NB137_0.out (by simp)); have n3_ := Aside0.mk (Kd.R_mono (Kd.R_keep (IsS97.apart (show IsS97 w0 _ g s0_0 t143 from by repeat (first | (with_reducible first | exact HI0.out | apply IsS97.alloc | apply IsS97.drewN | apply IsS97.drew | apply IsS97.set_1 | refine IsS97.far ?_ NB0_130.out _ | refine IsS97.far ?_ NB0_137.out _) | exact HI0.out)) (by exact zR (Kd.R_mono (Kd.R_far (p := ⟨gb137, 2, none⟩) (Kd.R_types HO146.out BK137.out (by decide)) (fun _ hk => hk.2) (.slice Ao28 y144.length co28)) (fun _ h_ => h_.1))) (by decide)) hk (fun _ h => h.2)) (fun _ h => h.1)); have n4_ := Aside0.mk (KeepBut.trans (by repeat (first | (with_reducible first | exact HK.out | apply KeepBut.set_ | apply keep_drewN | apply keep_drew | apply keep_alloc | refine keep_far ?_ GW130.out _ | refine keep_far ?_ GW137.out _) | exact HK.out)) hk (.inl rfl)); have n5_ := Aside0.mk (hb); have n6_ := Aside0.mk (hi); clear HO_138003; clear BK130; clear BK137; clear HO146; clear HK; clear HB; clear HI0; have HO_138003 := n0_; have BK130 := n1_; have BK137 := n2_; have HO146 := n3_; have HK := n4_; have HB := n5_; have HI0 := n6_; clear n0_ n1_ n2_ n3_ n4_ n5_ n6_; (try clear hb); (try clear hb2); (try clear hk); (try clear hi)))
       go_roundg kj18
       case measure => have := HK1.out; have := HJ18.out; omega
       case rel => exact ⟨(wrap64 ((wrap64 (x8_1 + 1)) + t147)), (wrap64 (x9_1 - 1)), (t148), (y144), (.slice Ao28 y144.length co28), (by first | rfl | (simp; done) | (simp [*]; done)), (by first | rfl | (simp; done) | (simp [*]; done)), H', ⟨by have := HK1.out; have := HJ18.out; omega⟩, ⟨by exact zR HO146.out⟩, ⟨by exact zR HO_138003.out⟩, ⟨by exact zK BK130.out⟩, ⟨by exact zK BK137.out⟩, ⟨by repeat (first | (with_reducible first | exact HI0.out | apply IsS97.alloc | apply IsS97.drewN | apply IsS97.drew | apply IsS97.set_1 | refine IsS97.far ?_ NB0_130.out _ | refine IsS97.far ?_ NB0_137.out _) | exact HI0.out)⟩, ⟨by repeat (first | (with_reducible first | exact HK.out | apply KeepBut.set_ | apply keep_drewN | apply keep_drew | apply keep_alloc | refine keep_far ?_ GW130.out _ | refine keep_far ?_ GW137.out _) | exact HK.out)⟩, ⟨by exact zB3 HB.out (IsS97.ge HI0.out) GE130.out GE137.out⟩⟩
      ·rw [if_neg c23] at H
       exact absurd H (by simp)
     ·replace c21 := Bool.eq_false_iff.mpr c21
      subst c21
      have H1 : (spec_l71Pkg.l1 kj18 a1 1 s0_0 x1001_1 a1 a2 x138002_1 y134) = some (r1, r2, r3, r4, r5) := by rw [if_neg (show ¬ (false = true) by decide)] at H; exact H
      clear H
      have H := H1
      clear H1
      have H' := Aside0.mk H
      clear H
      go_wp2
      go_loopg [10] kj18 (fun kq v10 w' => ∃ (x10_3 : Int) (x1001_3 : Int) (x138003_3 : List (S69)) (u138003 : Value), v10 = .int .i64 x10_3 ∧ Aside0 (spec_l71Pkg.l1 kq a1 x10_3 s0_0 x1001_3 a1 a2 x138002_1 x138003_3 = some (r1, r2, r3, r4, r5)) ∧ Aside0 (kq ≤ kj18) ∧ Aside0 (Kd.R k67 67 w' w.heap.size (fun _ => True) u138002 x138002_1) ∧ Aside0 (Kd.R k69 69 w' w.heap.size (fun _ => True) u138003 x138003_3) ∧ Aside0 (w'.heap[gb130]? = some (.cells #[.int .i64 0, .int .i64 0, (.slice none 0 0), (.slice none 0 0)] 31 (0, 0))) ∧ Aside0 (w'.heap[gb137]? = some (.cells #[.int .i64 a1, .int .i64 a2, u138002, u138003] 31 (0, 0))) ∧ Aside0 (IsS97 w0 w' g s0_0 x1001_3) ∧ Aside0 (KeepBut w w' g none) ∧ Aside0 (Below w0.heap.size w0 w'))
      case atStart => exact ⟨(1), (x1001_1), (y134), (.slice Ao11 y134.length co11), (by first | rfl | (simp; done) | (simp [*]; done)), H', ⟨Nat.le_refl _⟩, ⟨by exact zR HO_138002.out⟩, ⟨by exact zR HO_138003.out⟩, ⟨by exact zK BK130.out⟩, ⟨by exact zK BK137.out⟩, ⟨by repeat (first | (with_reducible first | exact HI0.out | apply IsS97.alloc | apply IsS97.drewN | apply IsS97.drew | apply IsS97.set_1 | refine IsS97.far ?_ NB0_130.out _ | refine IsS97.far ?_ NB0_137.out _) | exact HI0.out)⟩, ⟨by repeat (first | (with_reducible first | exact HK.out | apply KeepBut.set_ | apply keep_drewN | apply keep_drew | apply keep_alloc | refine keep_far ?_ GW130.out _ | refine keep_far ?_ GW137.out _) | exact HK.out)⟩, ⟨by exact zB3 HB.out (IsS97.ge HI0.out) GE130.out GE137.out⟩⟩
      case round =>
       clear H'
       try clear c1
       try clear c2
       try clear p2
       try clear c4
       try clear p6
       try clear c7
       try clear c14
       try clear c15
       try clear c20
       try clear c20b0
       try clear c21
       try clear c23
       try clear hcz16_0
       try clear hcz16_1
       try clear hcz16_2
       try clear hcz16_3
       try clear hfz16_0
       try clear hfz16_1
       try clear hfz16_2
       try clear hfz16_3
       try clear p2
       obtain ⟨x10_3, x1001_3, x138003_3, u138003, rfl, HA, HK3, HO_138002, HO_138003, BK130, BK137, HI0, HK, HB⟩ := hrel
       cases gk with
       | zero => exact absurd HA.out (by simp [spec_l71Pkg.l1])
       | succ k3 =>
        have H := HA.out
        clear HA
        simp only [spec_l71Pkg.l1] at H
        have HC31 := Aside0.mk H
        clear H
        go_upto_region 9 with (fail)
        go_cut [49] (fun v49 wc => ∃ (kq : Nat) (x49_30 : Bool), v49 = .bool x49_30 ∧ Aside0 (spec_l71Pkg.j3 kq a1 x10_3 x49_30 s0_0 x1001_3 a1 a2 x138002_1 x138003_3 = some (r1, r2, r3, r4, r5)) ∧ Aside0 (kq ≤ k3) ∧ Aside0 (Kd.R k67 67 wc w.heap.size (fun _ => True) u138002 x138002_1) ∧ Aside0 (Kd.R k69 69 wc w.heap.size (fun _ => True) u138003 x138003_3) ∧ Aside0 (wc.heap[gb130]? = some (.cells #[.int .i64 0, .int .i64 0, (.slice none 0 0), (.slice none 0 0)] 31 (0, 0))) ∧ Aside0 (wc.heap[gb137]? = some (.cells #[.int .i64 a1, .int .i64 a2, u138002, u138003] 31 (0, 0))) ∧ Aside0 (IsS97 w0 wc g s0_0 x1001_3) ∧ Aside0 (KeepBut w wc g none) ∧ Aside0 (Below w0.heap.size w0 wc))
        case first =>
         have H := HC31.out
         clear HC31
         by_cases c32 : x10_3 ≤ 4
         ·rw [if_pos c32] at H
          have c32b0 : decide (x10_3 ≤ 4) = true := decide_eq_true c32
          clear c32
          (first | rw [c32b0] | (simp only [i64_w, i32_w]; rw [c32b0]) | skip)
          have H' := Aside0.mk H
          clear H
          have hnb33 := NB137_130.out
          have hnc33 := NB130_137.out
          have hnb34 := NB137_0.out
          have hnc34 := NB0_137.out
          obtain ⟨hcz35_0, hcz35_1, hcz35_2, hcz35_3, hfz35_0, hfz35_1, hfz35_2, hfz35_3⟩ := zc4f BK137.out
          obtain ⟨Ao36, co36, eo36⟩ := Kd.R_slice HO_138003.out
          subst eo36
          go_wp2
          go_meet
          case rel => exact ⟨_, (decide ((x138003_3.length : Int) < 2)), (by first | rfl | (simp; done) | (simp [*]; done)), H', ⟨by have := HK1.out; have := HJ18.out; have := HK3.out; first | omega | exact Nat.le_refl _⟩, ⟨by exact zR HO_138002.out⟩, ⟨by exact zR HO_138003.out⟩, ⟨by exact zK BK130.out⟩, ⟨by exact zK BK137.out⟩, ⟨by repeat (first | (with_reducible first | exact HI0.out | apply IsS97.alloc | apply IsS97.drewN | apply IsS97.drew | apply IsS97.set_1 | refine IsS97.far ?_ NB0_130.out _ | refine IsS97.far ?_ NB0_137.out _) | exact HI0.out)⟩, ⟨by repeat (first | (with_reducible first | exact HK.out | apply KeepBut.set_ | apply keep_drewN | apply keep_drew | apply keep_alloc | refine keep_far ?_ GW130.out _ | refine keep_far ?_ GW137.out _) | exact HK.out)⟩, ⟨by exact zB3 HB.out (IsS97.ge HI0.out) GE130.out GE137.out⟩⟩
         ·rw [if_neg c32] at H
          have c32b0 : decide (x10_3 ≤ 4) = false := decide_eq_false c32
          clear c32
          (first | rw [c32b0] | (simp only [i64_w, i32_w]; rw [c32b0]) | skip)
          have H' := Aside0.mk H
          clear H
          go_wp2
          go_meet
          case rel => exact ⟨_, (false), (by first | rfl | (simp; done) | (simp [*]; done)), H', ⟨by have := HK1.out; have := HJ18.out; have := HK3.out; first | omega | exact Nat.le_refl _⟩, ⟨by exact zR HO_138002.out⟩, ⟨by exact zR HO_138003.out⟩, ⟨by exact zK BK130.out⟩, ⟨by exact zK BK137.out⟩, ⟨by repeat (first | (with_reducible first | exact HI0.out | apply IsS97.alloc | apply IsS97.drewN | apply IsS97.drew | apply IsS97.set_1 | refine IsS97.far ?_ NB0_130.out _ | refine IsS97.far ?_ NB0_137.out _) | exact HI0.out)⟩, ⟨by repeat (first | (with_reducible first | exact HK.out | apply KeepBut.set_ | apply keep_drewN | apply keep_drew | apply keep_alloc | refine keep_far ?_ GW130.out _ | refine keep_far ?_ GW137.out _) | exact HK.out)⟩, ⟨by exact zB3 HB.out (IsS97.ge HI0.out) GE130.out GE137.out⟩⟩
        case rest =>
         clear HC31
         try clear c1
         try clear c2
         try clear p2
         try clear c3
         try clear c4
         try clear p6
         try clear c7
         try clear c14
         try clear c15
         try clear c20
         try clear c20b0
         try clear c21
         try clear c23
         try clear c32
         try clear c32b0
         try clear c33
         try clear c34
         try clear hcz16_0
         try clear hcz16_1
         try clear hcz16_2
         try clear hcz16_3
         try clear hcz35_0
         try clear hcz35_1
         try clear hcz35_2
         try clear hcz35_3
         try clear hfz16_0
         try clear hfz16_1
         try clear hfz16_2
         try clear hfz16_3
         try clear hfz35_0
         try clear hfz35_1
         try clear hfz35_2
         try clear hfz35_3
         try clear p2
         try clear p6
         obtain ⟨kq, x49_30, rfl, HA, HJ30, HO_138002, HO_138003, BK130, BK137, HI0, HK, HB⟩ := hcut
         cases kq with
         | zero => exact absurd HA.out (by simp [spec_l71Pkg.j3])
         | succ kj30 =>
          have H := HA.out
          clear HA
          simp only [spec_l71Pkg.j3] at H
          by_cases c37 : x49_30 = true
          ·subst c37
           have H1 : (if x10_3 = a1 then (spec_l71Pkg.l1 kj30 a1 (wrap64 (x10_3 + 1)) s0_0 x1001_3 a1 a2 x138002_1 x138003_3) else ((spec_l6Rd_pick.f kj30 s0_0 x1001_3 6).bind fun bt149 => (if bt149.1 = 0 then ((spec_l6Rd_pick.f kj30 s0_0 bt149.2 2).bind fun bt151 => (if x138003_3.length < 8796093022208 then (spec_l71Pkg.l1 kj30 a1 (wrap64 (x10_3 + 1)) s0_0 bt151.2 a1 a2 x138002_1 (x138003_3 ++ [(⟨x10_3, wrap64 (1 + bt151.1)⟩ : S69)])) else (none))) else (spec_l71Pkg.l1 kj30 a1 (wrap64 (x10_3 + 1)) s0_0 bt149.2 a1 a2 x138002_1 x138003_3)))) = some (r1, r2, r3, r4, r5) := by rw [if_pos rfl] at H; exact H
           clear H
           have H := H1
           clear H1
           by_cases c38 : x10_3 = a1
           ·rw [if_pos c38] at H
            have c38b0 : (x10_3 == a1) = true := beq_iff_eq.mpr c38
            have c38b1 : (x10_3 != a1) = false := bne_eq_false_iff_eq.mpr c38
            clear c38
            have H' := Aside0.mk H
            clear H
            go_wp2
            go_roundg kj30
            case measure => have := HK1.out; have := HJ18.out; have := HK3.out; have := HJ30.out; omega
            case rel => exact ⟨(wrap64 (x10_3 + 1)), (x1001_3), (x138003_3), (u138003), (by first | rfl | (simp; done) | (simp [*]; done)), H', ⟨by have := HK1.out; have := HJ18.out; have := HK3.out; have := HJ30.out; omega⟩, ⟨by exact zR HO_138002.out⟩, ⟨by exact zR HO_138003.out⟩, ⟨by exact zK BK130.out⟩, ⟨by exact zK BK137.out⟩, ⟨by repeat (first | (with_reducible first | exact HI0.out | apply IsS97.alloc | apply IsS97.drewN | apply IsS97.drew | apply IsS97.set_1 | refine IsS97.far ?_ NB0_130.out _ | refine IsS97.far ?_ NB0_137.out _) | exact HI0.out)⟩, ⟨by repeat (first | (with_reducible first | exact HK.out | apply KeepBut.set_ | apply keep_drewN | apply keep_drew | apply keep_alloc | refine keep_far ?_ GW130.out _ | refine keep_far ?_ GW137.out _) | exact HK.out)⟩, ⟨by exact zB3 HB.out (IsS97.ge HI0.out) GE130.out GE137.out⟩⟩
           ·rw [if_neg c38] at H
            have c38b0 : (x10_3 == a1) = false := beq_eq_false_iff_ne.mpr c38
            have c38b1 : (x10_3 != a1) = true := bne_iff_ne.mpr c38
            replace H := Option.bind_eq_some_iff.mp H
            obtain ⟨⟨t149, t150⟩, A390, H⟩ := H
            replace H : (if t149 = 0 then ((spec_l6Rd_pick.f kj30 s0_0 t150 2).bind fun bt151 => (if x138003_3.length < 8796093022208 then (spec_l71Pkg.l1 kj30 a1 (wrap64 (x10_3 + 1)) s0_0 bt151.2 a1 a2 x138002_1 (x138003_3 ++ [(⟨x10_3, wrap64 (1 + bt151.1)⟩ : S69)])) else (none))) else (spec_l71Pkg.l1 kj30 a1 (wrap64 (x10_3 + 1)) s0_0 t150 a1 a2 x138002_1 x138003_3)) = some (r1, r2, r3, r4, r5) := H
            have A39 := Aside0.mk A390
            clear A390
            by_cases c40 : t149 = 0
            ·rw [if_pos c40] at H
             have c40b0 : (t149 == 0) = true := beq_iff_eq.mpr c40
             have c40b1 : (t149 != 0) = false := bne_eq_false_iff_eq.mpr c40
             clear c40
             replace H := Option.bind_eq_some_iff.mp H
             obtain ⟨⟨t151, t152⟩, A410, H⟩ := H
             replace H : (if x138003_3.length < 8796093022208 then (spec_l71Pkg.l1 kj30 a1 (wrap64 (x10_3 + 1)) s0_0 t152 a1 a2 x138002_1 (x138003_3 ++ [(⟨x10_3, wrap64 (1 + t151)⟩ : S69)])) else (none)) = some (r1, r2, r3, r4, r5) := H
             have A41 := Aside0.mk A410
             clear A410
             by_cases c42 : x138003_3.length < 8796093022208
             ·rw [if_pos c42] at H
              have LMc42 := Aside0.mk c42
              clear c42
              obtain ⟨y153, hy153⟩ : ∃ y_ : List (S69), y_ = (x138003_3 ++ [(⟨x10_3, wrap64 (1 + t151)⟩ : S69)]) := ⟨_, rfl⟩
              replace H : (spec_l71Pkg.l1 kj30 a1 (wrap64 (x10_3 + 1)) s0_0 t152 a1 a2 x138002_1 y153) = some (r1, r2, r3, r4, r5) := by first | (rw [hy153]; with_reducible exact H) | (have H2_ := (Option.bind_some _ _).symm.trans H; rw [hy153]; with_reducible exact H2_) | (have H2_ := (Option.bind_some _ _).symm.trans H; with_reducible exact H2_) | with_reducible exact H | (rw [hy153]; exact H) | exact H
              have Ny153 := Aside0.mk hy153
              clear hy153
              have H' := Aside0.mk H
              clear H
              try go_wp2_with (first | (go_at_call 43; (with_reducible refine (spec_l6Rd_pick.calls kj30 g s0_0 x1001_3 6 t149 t150 w0 _ ?side1 ?side2 A39.out).mono ?_); (case side1 => repeat (first | (with_reducible first | exact HI0.out | apply IsS97.alloc | apply IsS97.drewN | apply IsS97.drew | apply IsS97.set_1 | refine IsS97.far ?_ NB0_130.out _ | refine IsS97.far ?_ NB0_137.out _) | exact HI0.out)); (case side2 => exact zB3 HB.out (IsS97.ge HI0.out) GE130.out GE137.out); rintro e w43 ⟨rfl, hi, hb, hk⟩; have n0_ := Aside0.mk (Kd.R_mono (Kd.R_keep (IsS97.apart (show IsS97 w0 _ g s0_0 x1001_3 from by repeat (first | (with_reducible first | exact HI0.out | apply IsS97.alloc | apply IsS97.drewN | apply IsS97.drew | apply IsS97.set_1 | refine IsS97.far ?_ NB0_130.out _ | refine IsS97.far ?_ NB0_137.out _) | exact HI0.out)) (by exact zR HO_138002.out) (by decide)) hk (fun _ h => h.2)) (fun _ h => h.1)); have n1_ := Aside0.mk (Kd.R_mono (Kd.R_keep (IsS97.apart (show IsS97 w0 _ g s0_0 x1001_3 from by repeat (first | (with_reducible first | exact HI0.out | apply IsS97.alloc | apply IsS97.drewN | apply IsS97.drew | apply IsS97.set_1 | refine IsS97.far ?_ NB0_130.out _ | refine IsS97.far ?_ NB0_137.out _) | exact HI0.out)) (by exact zR HO_138003.out) (by decide)) hk (fun _ h => h.2)) (fun _ h => h.1)); have n2_ := Aside0.mk (KeepBut.blk hk (g' := gb130) (o := .cells #[.int .i64 0, .int .i64 0, .slice none 0 0, .slice none 0 0] 31 (0, 0)) (by exact zK BK130.out) NB130_0.out (by simp)); have n3_ := Aside0.mk (KeepBut.blk hk (g' := gb137) (o := .cells #[.int .i64 a1, .int .i64 a2, u138002, u138003] 31 (0, 0)) (by exact zK BK137.out) NB137_0.out (by simp)); have n4_ := Aside0.mk (KeepBut.trans (by repeat (first | (with_reducible first | exact HK.out | apply KeepBut.set_ | apply keep_drewN | apply keep_drew | apply keep_alloc | refine keep_far ?_ GW130.out _ | refine keep_far ?_ GW137.out _) | exact HK.out)) hk (.inl rfl)); have n5_ := Aside0.mk (hb); have n6_ := Aside0.mk (hi); clear HO_138002; clear HO_138003; clear BK130; clear BK137; clear HK; clear HB; clear HI0; have HO_138002 := n0_; have HO_138003 := n1_; have BK130 := n2_; have BK137 := n3_; have HK := n4_; have HB := n5_; have HI0 := n6_; clear n0_ n1_ n2_ n3_ n4_ n5_ n6_; (try clear hb); (try clear hb2); (try clear hk); (try clear hi)))
              have n0_ := Aside0.mk (Kd.R_drew HO_138002.out)
              have n1_ := Aside0.mk (Kd.R_drew HO_138003.out)
              have n2_ := Aside0.mk (blk_drew BK130.out)
              have n3_ := Aside0.mk (blk_drew BK137.out)
              have n4_ := Aside0.mk (IsS97.drew HI0.out)
              have n5_ := Aside0.mk (keep_drew HK.out)
              have n6_ := Aside0.mk (below_drew1 HB.out)
              clear HO_138002
              clear HO_138003
              clear BK130
              clear BK137
              clear HI0
              clear HK
              clear HB
              have HO_138002 := n0_
              have HO_138003 := n1_
              have BK130 := n2_
              have BK137 := n3_
              have HI0 := n4_
              have HK := n5_
              have HB := n6_
              clear n0_ n1_ n2_ n3_ n4_ n5_ n6_
              refine start_ (n := 11) (S := fun w' => w'.cell? ⟨gb137, 0, none⟩ = some (.int .i64 a1) ∧ w'.cell? ⟨gb137, 1, none⟩ = some (.int .i64 a2) ∧ w'.cell? ⟨gb137, 2, none⟩ = some (u138002) ∧ w'.cell? ⟨gb137, 3, none⟩ = some (u138003)) (ds := [10]) #[false, false, false, false, false, false, false, false, false, false, false] (by kernel_rfl) rfl rfl ⟨(blk_cell BK137.out 0).trans rfl, (blk_cell BK137.out 1).trans rfl, (blk_cell BK137.out 2).trans rfl, (blk_cell BK137.out 3).trans rfl⟩ (fun hHeld => ?_); refine with_tabW spec_l71Pkg.tab12 spec_l71Pkg.bits12 (fun HT_ HW_ => ?_)
              generalize w43.drew = w44 at HO_138002 HO_138003 BK130 BK137 HI0 HK HB hHeld ⊢
              refine pure_ (i := 0) (N := some 60) (v := ?_) (a' := ?_) #[true, false, false, false, false, false, false, false, false, false, false] rfl rfl (any_of HT_.out (by kernel_rfl)) (fun _ _ _ h => h) (Or.inl ⟨by rfl, ?_⟩) ?_ ?_
              rotate_left
              ·intro w'
               go_simp
               with_reducible rfl
              rotate_left
              ·simp only [zp0, zp1, zp2, zp3, zp4, i64_w, i32_w]
               rfl
              refine pure_ (i := 2) (N := some 62) (v := ?_) (a' := ?_) #[true, false, true, false, false, false, false, false, false, false, false] rfl rfl (any_of HT_.out (by kernel_rfl)) (fun _ _ _ h => h) (Or.inl ⟨by rfl, ?_⟩) ?_ ?_
              rotate_left
              ·intro w'
               go_simp
               with_reducible rfl
              rotate_left
              ·simp only [zp0, zp1, zp2, zp3, zp4, i64_w, i32_w]
               rfl
              refine pure_ (i := 3) (N := some 63) (v := ?_) (a' := ?_) #[true, false, true, true, false, false, false, false, false, false, false] rfl rfl (any_of HT_.out (by kernel_rfl)) (fun _ _ _ h => h) (Or.inl ⟨by rfl, ?_⟩) ?_ ?_
              rotate_left
              ·intro w'
               go_simp
               with_reducible rfl
              rotate_left
              ·simp only [zp0, zp1, zp2, zp3, zp4, i64_w, i32_w]
               rfl
              refine take_ (i := 1) (N := some 61) (v := ?_) (a' := ?_) #[true, true, true, true, false, false, false, false, false, false, false] rfl rfl (take_ofW HT_.out HW_.out (by kernel_rfl)) (fun _ _ _ h => h) (Or.inl ⟨by rfl, ?_⟩) hHeld ?_ ?_
              rotate_left
              ·rintro w' ⟨s0, s1, s2, s3⟩
               go_simp
               with_reducible rfl
              rotate_left
              ·simp only [zp0, zp1, zp2, zp3, zp4, i64_w, i32_w]
               rfl
              refine one_ (i := 4) (N := some 64) #[true, true, true, true, true, false, false, false, false, false, false] rfl rfl (one_of HT_.out (by kernel_rfl)) (by decide) (fun K hK => ?_)
              refine goes_ Tryd.func43 (by kernel_rfl) rfl #[.pointer (some ⟨g, 0, none⟩), .int .i64 2] (by rfl) rfl rfl (by (try simp only [zm1, zm2, zm3]); first | done | rfl | (simp only [List.length_drop, List.length_take]; rfl)) ?_
              with_reducible refine (spec_l6Rd_pick.calls kj30 g s0_0 t150 2 t151 t152 w0 _ ?side1 ?side2 A41.out).mono ?_
              (case side1 => repeat (first | (with_reducible first | exact HI0.out | apply IsS97.alloc | apply IsS97.drewN | apply IsS97.drew | apply IsS97.set_1 | refine IsS97.far ?_ NB0_130.out _ | refine IsS97.far ?_ NB0_137.out _) | exact HI0.out))
              (case side2 => exact zB3 HB.out (IsS97.ge HI0.out) GE130.out GE137.out)
              rintro e w45 ⟨rfl, hi, hb, hk⟩
              refine ⟨_, rfl, ?_⟩
              have n0_ := Aside0.mk (Kd.R_mono (Kd.R_keep (IsS97.apart (show IsS97 w0 _ g s0_0 t150 from by repeat (first | (with_reducible first | exact HI0.out | apply IsS97.alloc | apply IsS97.drewN | apply IsS97.drew | apply IsS97.set_1 | refine IsS97.far ?_ NB0_130.out _ | refine IsS97.far ?_ NB0_137.out _) | exact HI0.out)) (by exact zR HO_138002.out) (by decide)) hk (fun _ h => h.2)) (fun _ h => h.1))
              have n1_ := Aside0.mk (Kd.R_mono (Kd.R_keep (IsS97.apart (show IsS97 w0 _ g s0_0 t150 from by repeat (first | (with_reducible first | exact HI0.out | apply IsS97.alloc | apply IsS97.drewN | apply IsS97.drew | apply IsS97.set_1 | refine IsS97.far ?_ NB0_130.out _ | refine IsS97.far ?_ NB0_137.out _) | exact HI0.out)) (by exact zR HO_138003.out) (by decide)) hk (fun _ h => h.2)) (fun _ h => h.1))
              have n2_ := Aside0.mk (KeepBut.blk hk (g' := gb130) (o := .cells #[.int .i64 0, .int .i64 0, .slice none 0 0, .slice none 0 0] 31 (0, 0)) (by exact zK BK130.out) NB130_0.out (by simp))
              have n3_ := Aside0.mk (KeepBut.blk hk (g' := gb137) (o := .cells #[.int .i64 a1, .int .i64 a2, u138002, u138003] 31 (0, 0)) (by exact zK BK137.out) NB137_0.out (by simp))
              have n4_ := Aside0.mk (KeepBut.trans (by repeat (first | (with_reducible first | exact HK.out | apply KeepBut.set_ | apply keep_drewN | apply keep_drew | apply keep_alloc | refine keep_far ?_ GW130.out _ | refine keep_far ?_ GW137.out _) | exact HK.out)) hk (.inl rfl))
              have n5_ := Aside0.mk (hb)
              have n6_ := Aside0.mk (hi)
              clear HO_138002
              clear HO_138003
              clear BK130
              clear BK137
              clear HK
              clear HB
              clear HI0
              have HO_138002 := n0_
              have HO_138003 := n1_
              have BK130 := n2_
              have BK137 := n3_
              have HK := n4_
              have HB := n5_
              have HI0 := n6_
              clear n0_ n1_ n2_ n3_ n4_ n5_ n6_
              (try clear hb)
              (try clear hb2)
              (try clear hk)
              (try clear hi)
              refine hK.out _ _ ⟨(blk_cell BK137.out 0).trans rfl, (blk_cell BK137.out 1).trans rfl, (blk_cell BK137.out 2).trans rfl, (blk_cell BK137.out 3).trans rfl⟩ (fun hHeld => ?_)
              clear hK K
              refine norm_ (a' := ?_) ?_ ?_
              rotate_left
              ·show Act.put _ (some 64) _ = _
               simp only [zp0, zp1, zp2, zp3, zp4, i64_w, i32_w]
               rfl
              refine pure_ (i := 5) (N := some 65) (v := ?_) (a' := ?_) #[true, true, true, true, true, true, false, false, false, false, false] rfl rfl (any_of HT_.out (by kernel_rfl)) (fun _ _ _ h => h) (Or.inl ⟨by rfl, ?_⟩) ?_ ?_
              rotate_left
              ·intro w'
               go_simp
               with_reducible rfl
              rotate_left
              ·simp only [zp0, zp1, zp2, zp3, zp4, i64_w, i32_w]
               rfl
              refine pure_ (i := 6) (N := some 66) (v := ?_) (a' := ?_) #[true, true, true, true, true, true, true, false, false, false, false] rfl rfl (any_of HT_.out (by kernel_rfl)) (fun _ _ _ h => h) (Or.inl ⟨by rfl, ?_⟩) ?_ ?_
              rotate_left
              ·intro w'
               go_simp
               with_reducible rfl
              rotate_left
              ·simp only [zp0, zp1, zp2, zp3, zp4, i64_w, i32_w]
               rfl
              refine one_ (i := 7) (N := some 67) #[true, true, true, true, true, true, true, true, false, false, false] rfl rfl (one_of HT_.out (by kernel_rfl)) (by decide) (fun K hK => ?_)
              refine value_ (w1 := ?_) (v := ?_) (by rfl) rfl ?_ ?_
              rotate_left 2
              ·go_simp
               constructor
               ·rfl
               ·rfl
              refine hK.out _ _ ⟨(blk_cell (blk_alloc BK137.out _) 0).trans rfl, (blk_cell (blk_alloc BK137.out _) 1).trans rfl, (blk_cell (blk_alloc BK137.out _) 2).trans rfl, (blk_cell (blk_alloc BK137.out _) 3).trans rfl⟩ (fun hHeld => ?_)
              clear hK K
              refine norm_ (a' := ?_) ?_ ?_
              rotate_left
              ·show Act.put _ (some 67) _ = _
               simp only [zp0, zp1, zp2, zp3, zp4, i64_w, i32_w]
               rfl
              refine one_ (i := 8) (N := some 68) #[true, true, true, true, true, true, true, true, true, false, false] rfl rfl (one_of HT_.out (by kernel_rfl)) (by decide) (fun K hK => ?_)
              refine Kd.R_append_step k69 w.heap.size (by rfl) (.tmp 61) (.tmp 67) 29 69 (.agg #[(.int .i64 0), (.int .i64 0)]) 16 rfl Tryd.underlying29 info69 rfl (by decide) (by omega) u138003 x138003_3 (⟨x10_3, wrap64 (1 + t151)⟩ : S69) [.int .i64 x10_3, .int .i64 (wrap64 (1 + t151))] (fun _ => True) (fun _ => False) rfl rfl ?aP (fun _ hk => hk.elim) ?aF ?aO (Below.refl _ _) ?aS ?aL ?_
              (case aP => exact k69_mkM _ _ _ (⟨x10_3, wrap64 (1 + t151)⟩ : S69))
              (case aF => exact (fun _ _ => trivial))
              (case aO => exact (by exact zR HO_138003.out))
              (case aS => exact (keep_size (w := w) (g := g) (row := none) (by repeat (first | (with_reducible first | exact HK.out | apply KeepBut.set_ | apply keep_drewN | apply keep_drew | apply keep_alloc | refine keep_far ?_ GW130.out _ | refine keep_far ?_ GW137.out _) | exact HK.out))))
              (case aL => have := LMc42.out; omega)
              intro v154 w46 ho hb hg hat
              rw [← Ny153.out] at ho
              have n0_ := Aside0.mk (Kd.R_over' (by exact zR HO_138002.out) (Kd.R_typed (by exact zR HO_138003.out)) (by decide) hg)
              have n1_ := Aside0.mk (blk_grown (g := gb130) (o := .cells #[.int .i64 0, .int .i64 0, .slice none 0 0, .slice none 0 0] 31 (0, 0)) (by exact zK BK130.out) hg (Kd.R_ne HO_138003.out BK130.out (by decide)))
              have n2_ := Aside0.mk (blk_grown (g := gb137) (o := .cells #[.int .i64 a1, .int .i64 a2, u138002, u138003] 31 (0, 0)) (by exact zK BK137.out) hg (Kd.R_ne HO_138003.out BK137.out (by decide)))
              have n3_ := Aside0.mk (IsS97.grown (by repeat (first | (with_reducible first | exact HI0.out | apply IsS97.alloc | apply IsS97.drewN | apply IsS97.drew | apply IsS97.set_1 | refine IsS97.far ?_ NB0_130.out _ | refine IsS97.far ?_ NB0_137.out _) | exact HI0.out)) hg (IsS97.own_ne HI0.out HO_138003.out (by decide)))
              have n4_ := Aside0.mk (below_weaken (by exact zB3 HB.out (IsS97.ge HI0.out) GE130.out GE137.out) HL.out hb)
              have n5_ := Aside0.mk (KeepBut.trans (by repeat (first | (with_reducible first | exact HK.out | apply KeepBut.set_ | apply keep_drewN | apply keep_drew | apply keep_alloc | refine keep_far ?_ GW130.out _ | refine keep_far ?_ GW137.out _) | exact HK.out)) (KeepBut.of_grown hg g) (Kd.R_base2 HO_138003.out))
              have n6_ := Aside0.mk (ho)
              clear HO_138002
              clear BK130
              clear BK137
              clear HI0
              clear HB
              clear HK
              clear HO_138003
              have HO_138002 := n0_
              have BK130 := n1_
              have BK137 := n2_
              have HI0 := n3_
              have HB := n4_
              have HK := n5_
              have HO155 := n6_
              clear n0_ n1_ n2_ n3_ n4_ n5_ n6_
              clear ho hb hg hat
              obtain ⟨Ao47, co47, eo47⟩ := Kd.R_slice HO155.out
              (first | subst eo47 | (injection eo47 with f1_ f2_ f3_; have f4_ := f1_.symm; have f5_ := f3_.symm; clear f1_ f2_ f3_; subst f4_; subst f5_))
              refine hK.out _ _ ⟨(blk_cell BK137.out 0).trans rfl, (blk_cell BK137.out 1).trans rfl, (blk_cell BK137.out 2).trans rfl, (blk_cell BK137.out 3).trans rfl⟩ (fun hHeld => ?_)
              clear hK K
              refine norm_ (a' := ?_) ?_ ?_
              rotate_left
              ·show Act.put _ (some 68) _ = _
               simp only [zp0, zp1, zp2, zp3, zp4, i64_w, i32_w]
               rfl
              refine pure_ (i := 9) (N := some 69) (v := ?_) (a' := ?_) #[true, true, true, true, true, true, true, true, true, true, false] rfl rfl (any_of HT_.out (by kernel_rfl)) (fun _ _ _ h => h) (Or.inl ⟨by rfl, ?_⟩) ?_ ?_
              rotate_left
              ·intro w'
               go_simp
               with_reducible rfl
              rotate_left
              ·simp only [zp0, zp1, zp2, zp3, zp4, i64_w, i32_w]
               rfl
              refine last_ (i := 10) (N := none) #[true, true, true, true, true, true, true, true, true, true, true] rfl rfl (one_of HT_.out (by kernel_rfl)) (by decide) (fun K hK => ?_)
              have hs48 : w46.cell? ⟨gb137, 3, none⟩ = some (u138003) := (blk_cell BK137.out 3).trans rfl
              have hfs48 := blk_frozen BK137.out 3
              have hns48_0 := NB130_137.out
              have hms48_0 := NB137_130.out
              refine skip_ (w1 := ?_) (by rfl) rfl ?_ ?_
              rotate_left
              ·go_simp
               rfl
              refine hK.out _ _ ?_
              clear hK K
              refine done_ (done_of HT_.out (by kernel_rfl)) ?_
              try go_wp2
              go_roundg kj30
              case measure => have := HK1.out; have := HJ18.out; have := HK3.out; have := HJ30.out; omega
              case rel => exact ⟨(wrap64 (x10_3 + 1)), (t152), (y153), (.slice Ao47 y153.length co47), (by first | rfl | (simp; done) | (simp [*]; done)), H', ⟨by have := HK1.out; have := HJ18.out; have := HK3.out; have := HJ30.out; omega⟩, ⟨by exact zR (Kd.R_mono (Kd.R_far (p := ⟨gb137, 3, none⟩) (Kd.R_types HO_138002.out BK137.out (by decide)) (fun _ hk => hk.2) (.slice Ao47 y153.length co47)) (fun _ hk => trivial))⟩, ⟨by exact zR (Kd.R_mono (Kd.R_far (p := ⟨gb137, 3, none⟩) (Kd.R_types HO155.out BK137.out (by decide)) (fun _ hk => hk.2) (.slice Ao47 y153.length co47)) (fun _ hk => trivial))⟩, ⟨by (with_reducible repeat (first | refine blk_drewN ?_ _ | refine blk_drew ?_ | refine blk_alloc ?_ _)); refine blk_far ?_ NB130_137.out _; exact zK BK130.out⟩, ⟨by (with_reducible repeat (first | refine blk_drewN ?_ _ | refine blk_drew ?_ | refine blk_alloc ?_ _)); refine blk_put (cs := #[.int .i64 a1, .int .i64 a2, u138002, u138003]) ?_ 3 _ rfl; exact zK BK137.out⟩, ⟨by repeat (first | (with_reducible first | exact HI0.out | apply IsS97.alloc | apply IsS97.drewN | apply IsS97.drew | apply IsS97.set_1 | refine IsS97.far ?_ NB0_130.out _ | refine IsS97.far ?_ NB0_137.out _) | exact HI0.out)⟩, ⟨by repeat (first | (with_reducible first | exact HK.out | apply KeepBut.set_ | apply keep_drewN | apply keep_drew | apply keep_alloc | refine keep_far ?_ GW130.out _ | refine keep_far ?_ GW137.out _) | exact HK.out)⟩, ⟨by exact zB3 HB.out (IsS97.ge HI0.out) GE130.out GE137.out⟩⟩
             ·rw [if_neg c42] at H
              exact absurd H (by simp)
            ·rw [if_neg c40] at H
             have c40b0 : (t149 == 0) = false := beq_eq_false_iff_ne.mpr c40
             have c40b1 : (t149 != 0) = true := bne_iff_ne.mpr c40
             have H' := Aside0.mk H
             clear H
             go_wp2_with (first | (go_at_call 43; (with_reducible refine (spec_l6Rd_pick.calls kj30 g s0_0 x1001_3 6 t149 t150 w0 _ ?side1 ?side2 A39.out).mono ?_); (case side1 => repeat (first | (with_reducible first | exact HI0.out | apply IsS97.alloc | apply IsS97.drewN | apply IsS97.drew | apply IsS97.set_1 | refine IsS97.far ?_ NB0_130.out _ | refine IsS97.far ?_ NB0_137.out _) | exact HI0.out)); (case side2 => exact zB3 HB.out (IsS97.ge HI0.out) GE130.out GE137.out); rintro e w49 ⟨rfl, hi, hb, hk⟩; have n0_ := Aside0.mk (Kd.R_mono (Kd.R_keep (IsS97.apart (show IsS97 w0 _ g s0_0 x1001_3 from by repeat (first | (with_reducible first | exact HI0.out | apply IsS97.alloc | apply IsS97.drewN | apply IsS97.drew | apply IsS97.set_1 | refine IsS97.far ?_ NB0_130.out _ | refine IsS97.far ?_ NB0_137.out _) | exact HI0.out)) (by exact zR HO_138002.out) (by decide)) hk (fun _ h => h.2)) (fun _ h => h.1)); have n1_ := Aside0.mk (Kd.R_mono (Kd.R_keep (IsS97.apart (show IsS97 w0 _ g s0_0 x1001_3 from by repeat (first | (with_reducible first | exact HI0.out | apply IsS97.alloc | apply IsS97.drewN | apply IsS97.drew | apply IsS97.set_1 | refine IsS97.far ?_ NB0_130.out _ | refine IsS97.far ?_ NB0_137.out _) | exact HI0.out)) (by exact zR HO_138003.out) (by decide)) hk (fun _ h => h.2)) (fun _ h => h.1)); have n2_ := Aside0.mk (KeepBut.blk hk (g' := gb130) (o := .cells #[.int .i64 0, .int .i64 0, .slice none 0 0, .slice none 0 0] 31 (0, 0)) (by exact zK BK130.out) NB130_0.out (by simp)); have n3_ := Aside0.mk (KeepBut.blk hk (g' := gb137) (o := .cells #[.int .i64 a1, .int .i64 a2, u138002, u138003] 31 (0, 0)) (by exact zK BK137.out) NB137_0.out (by simp)); have n4_ := Aside0.mk (KeepBut.trans (by repeat (first | (with_reducible first | exact HK.out | apply KeepBut.set_ | apply keep_drewN | apply keep_drew | apply keep_alloc | refine keep_far ?_ GW130.out _ | refine keep_far ?_ GW137.out _) | exact HK.out)) hk (.inl rfl)); have n5_ := Aside0.mk (hb); have n6_ := Aside0.mk (hi); clear HO_138002; clear HO_138003; clear BK130; clear BK137; clear HK; clear HB; clear HI0; have HO_138002 := n0_; have HO_138003 := n1_; have BK130 := n2_; have BK137 := n3_; have HK := n4_; have HB := n5_; have HI0 := n6_; clear n0_ n1_ n2_ n3_ n4_ n5_ n6_; (try clear hb); (try clear hb2); (try clear hk); (try clear hi)))
             go_roundg kj30
             case measure => have := HK1.out; have := HJ18.out; have := HK3.out; have := HJ30.out; omega
             case rel => exact ⟨(wrap64 (x10_3 + 1)), (t150), (x138003_3), (u138003), (by first | rfl | (simp; done) | (simp [*]; done)), H', ⟨by have := HK1.out; have := HJ18.out; have := HK3.out; have := HJ30.out; omega⟩, ⟨by exact zR HO_138002.out⟩, ⟨by exact zR HO_138003.out⟩, ⟨by exact zK BK130.out⟩, ⟨by exact zK BK137.out⟩, ⟨by repeat (first | (with_reducible first | exact HI0.out | apply IsS97.alloc | apply IsS97.drewN | apply IsS97.drew | apply IsS97.set_1 | refine IsS97.far ?_ NB0_130.out _ | refine IsS97.far ?_ NB0_137.out _) | exact HI0.out)⟩, ⟨by repeat (first | (with_reducible first | exact HK.out | apply KeepBut.set_ | apply keep_drewN | apply keep_drew | apply keep_alloc | refine keep_far ?_ GW130.out _ | refine keep_far ?_ GW137.out _) | exact HK.out)⟩, ⟨by exact zB3 HB.out (IsS97.ge HI0.out) GE130.out GE137.out⟩⟩
          ·replace c37 := Bool.eq_false_iff.mpr c37
           subst c37
           have H1 : (some (a1, a2, x138002_1, x138003_3, x1001_3)) = some (r1, r2, r3, r4, r5) := by rw [if_neg (show ¬ (false = true) by decide)] at H; exact H
           clear H
           have H := H1
           clear H1
           simp only [Option.some.injEq, Prod.mk.injEq] at H
           obtain ⟨rfl, rfl, rfl, rfl, rfl⟩ := H
           have hnb50 := NB137_130.out
           have hnc50 := NB130_137.out
           have hnb51 := NB137_0.out
           have hnc51 := NB0_137.out
           obtain ⟨hcz52_0, hcz52_1, hcz52_2, hcz52_3, hfz52_0, hfz52_1, hfz52_2, hfz52_3⟩ := zc4f BK137.out
           have hnb53 := NB130_0.out
           have hnc53 := NB0_130.out
           obtain ⟨hcz54_0, hcz54_1, hcz54_2, hcz54_3, hfz54_0, hfz54_1, hfz54_2, hfz54_3⟩ := zc4f BK130.out
           obtain ⟨Ao55, co55, eo55⟩ := Kd.R_slice HO_138002.out
           subst eo55
           obtain ⟨Ao56, co56, eo56⟩ := Kd.R_slice HO_138003.out
           subst eo56
           go_wp2
           refine bodyPost_ret (results_cell_row rfl _ _ gb130 31 #[.int .i64 a1, .int .i64 a2, .slice Ao55 x138002_1.length co55, .slice Ao56 x138003_3.length co56] (0, 0) _ rfl (by (with_reducible repeat (first | refine blk_drewN ?_ _ | refine blk_drew ?_ | refine blk_alloc ?_ _)); refine blk_put (cs := #[.int .i64 a1, .int .i64 a2, .slice Ao55 x138002_1.length co55, .slice none 0 0]) ?_ 3 _ rfl; (with_reducible repeat (first | refine blk_drewN ?_ _ | refine blk_drew ?_ | refine blk_alloc ?_ _)); refine blk_put (cs := #[.int .i64 a1, .int .i64 a2, .slice none 0 0, .slice none 0 0]) ?_ 2 _ rfl; (with_reducible repeat (first | refine blk_drewN ?_ _ | refine blk_drew ?_ | refine blk_alloc ?_ _)); refine blk_put (cs := #[.int .i64 a1, .int .i64 0, .slice none 0 0, .slice none 0 0]) ?_ 1 _ rfl; (with_reducible repeat (first | refine blk_drewN ?_ _ | refine blk_drew ?_ | refine blk_alloc ?_ _)); refine blk_put (cs := #[.int .i64 0, .int .i64 0, .slice none 0 0, .slice none 0 0]) ?_ 0 _ rfl; exact zK BK130.out) Tryd.underlying31 rfl (by kernel_rfl)) rfl ?_
           exact ⟨_, _, by first | rfl | (simp [errW_none, errW_some] <;> rfl) | (simp [*, errW_none, errW_some] <;> rfl), by exact zR (Kd.R_mono (Kd.R_far (p := ⟨gb130, 3, none⟩) (Kd.R_far (p := ⟨gb130, 2, none⟩) (Kd.R_far (p := ⟨gb130, 1, none⟩) (Kd.R_far (p := ⟨gb130, 0, none⟩) (Kd.R_types HO_138002.out BK130.out (by decide)) (fun _ hk => hk.2) (.int .i64 a1)) (fun _ hk => hk.2) (.int .i64 a2)) (fun _ hk => hk.2) (.slice Ao55 x138002_1.length co55)) (fun _ hk => hk.2) (.slice Ao56 x138003_3.length co56)) (fun _ hk => trivial)), by exact zR (Kd.R_mono (Kd.R_far (p := ⟨gb130, 3, none⟩) (Kd.R_far (p := ⟨gb130, 2, none⟩) (Kd.R_far (p := ⟨gb130, 1, none⟩) (Kd.R_far (p := ⟨gb130, 0, none⟩) (Kd.R_types HO_138003.out BK130.out (by decide)) (fun _ hk => hk.2) (.int .i64 a1)) (fun _ hk => hk.2) (.int .i64 a2)) (fun _ hk => hk.2) (.slice Ao55 x138002_1.length co55)) (fun _ hk => hk.2) (.slice Ao56 x138003_3.length co56)) (fun _ hk => trivial)), by repeat (first | (with_reducible first | exact HI0.out | apply IsS97.alloc | apply IsS97.drewN | apply IsS97.drew | apply IsS97.set_1 | refine IsS97.far ?_ NB0_130.out _ | refine IsS97.far ?_ NB0_137.out _) | exact HI0.out), by exact zB3 HB.out (IsS97.ge HI0.out) GE130.out GE137.out, by repeat (first | (with_reducible first | exact HK.out | apply KeepBut.set_ | apply keep_drewN | apply keep_drew | apply keep_alloc | refine keep_far ?_ GW130.out _ | refine keep_far ?_ GW137.out _) | exact HK.out)⟩

/-! ### spec_l12Find: function 80 -/
def spec_l12Find.l0 : Nat → List (S31) → Int → Int → Int → Option (Int)
 | 0, _, _, _, _ => none
 | k + 1, x0, x1, x2, x7 => if x7 < (x0.length : Int) then (if 0 ≤ x7 then (if ((rd_T31 x0 x7).f0) = x1 then (if ((rd_T31 x0 x7).f1) = x2 then (some x7) else (spec_l12Find.l0 k x0 x1 x2 (wrap64 (x7 + 1)))) else (spec_l12Find.l0 k x0 x1 x2 (wrap64 (x7 + 1)))) else (none)) else (some (-1))
def spec_l12Find.f (k : Nat) (l0 : List (S31)) (a1 : Int) (a2 : Int) : Option (Int) := spec_l12Find.l0 k l0 a1 a2 0
theorem spec_l12Find.mono_l : ∀ k, (∀ y0 y1 y2 y3, LeO (spec_l12Find.l0 k y0 y1 y2 y3) (spec_l12Find.l0 (k + 1) y0 y1 y2 y3))
 | 0 => fun _ _ _ _ r h => by simp [spec_l12Find.l0] at h
 | k + 1 => by
  have ih0 := spec_l12Find.mono_l k
  ·intro y0 y1 y2 y3
   unfold spec_l12Find.l0
   repeat' first
   | (with_reducible exact ih0 _ _ _ _)
   | (with_reducible exact LeO.refl _)
   | (with_reducible exact LeO.none _)
   | (with_reducible refine LeO.ite ?_ ?_)
   | (with_reducible refine LeO.bind ?_ (fun _ => ?_))
   | exact ih0 _ _ _ _
   | exact LeO.none _
   | refine LeO.ite ?_ ?_
   | refine LeO.bind ?_ (fun _ => ?_)
theorem spec_l12Find.mono : ∀ a0 a1 a2 k, LeO (spec_l12Find.f k a0 a1 a2) (spec_l12Find.f (k + 1) a0 a1 a2) := by
 intro a0 a1 a2 k
 have ih0 := spec_l12Find.mono_l k
 unfold spec_l12Find.f
 repeat' first
   | (with_reducible exact ih0 _ _ _ _)
   | (with_reducible exact LeO.refl _)
   | (with_reducible exact LeO.none _)
   | (with_reducible refine LeO.ite ?_ ?_)
   | (with_reducible refine LeO.bind ?_ (fun _ => ?_))
   | exact ih0 _ _ _ _
   | exact LeO.none _
   | refine LeO.ite ?_ ?_
   | refine LeO.bind ?_ (fun _ => ?_)
set_option maxHeartbeats 8000000 in
set_option maxRecDepth 100000 in
theorem spec_l12Find.calls (k : Nat) (A0 : Option Addr) (c0 : Nat) (l0 : List (S31)) (a1 : Int) (a2 : Int) (r : Int) (w : World) (hr0 : Kd.C k31 w A0 l0.length l0) (hc0 : l0.length ≤ c0) (h : spec_l12Find.f k l0 a1 a2 = some r) :
  Calls Tryd.prog 80 #[.slice A0 l0.length c0, .int .i64 a1, .int .i64 a2] w fun e w' => e = .returned (.int .i64 r) ∧ Drawn0 w w' := by
 have HR0 := Aside0.mk hr0
 have HC0 := Aside0.mk hc0
 clear hr0 hc0
 have H : (spec_l12Find.l0 k l0 a1 a2 0) = some r := h
 clear h
 have H' := Aside0.mk H
 clear H
 go_enter Tryd.func80, Tryd.ntmps80
 go_wp2
 go_loopg [7] k (fun kq v7 w' => ∃ (x7_1 : Int), v7 = .int .i64 x7_1 ∧ Aside0 (spec_l12Find.l0 kq l0 a1 a2 x7_1 = some r) ∧ Aside0 (kq ≤ k) ∧ Drawn0 w w')
 case atStart => exact ⟨(0), (by first | rfl | (simp; done) | (simp [*]; done)), H', ⟨Nat.le_refl _⟩, by repeat (first | exact Drawn0.refl _ | apply Drawn0.step)⟩
 case round =>
  clear H'
  try clear p2
  obtain ⟨x7_1, rfl, HA, HK1, ⟨m1, rfl⟩⟩ := hrel
  cases gk with
  | zero => exact absurd HA.out (by simp [spec_l12Find.l0])
  | succ k1 =>
   have H := HA.out
   clear HA
   simp only [spec_l12Find.l0] at H
   by_cases c4 : x7_1 < (l0.length : Int)
   ·rw [if_pos c4] at H
    have c4b0 : decide (x7_1 < (l0.length : Int)) = true := decide_eq_true c4
    clear c4
    by_cases c5 : 0 ≤ x7_1
    ·rw [if_pos c5] at H
     have c5b0 : decide (0 ≤ x7_1) = true := decide_eq_true c5
     clear c5
     by_cases c6 : ((rd_T31 l0 x7_1).f0) = a1
     ·rw [if_pos c6] at H
      have c6b0 : (((rd_T31 l0 x7_1).f0) == a1) = true := beq_iff_eq.mpr c6
      have c6b1 : (((rd_T31 l0 x7_1).f0) != a1) = false := bne_eq_false_iff_eq.mpr c6
      clear c6
      by_cases c7 : ((rd_T31 l0 x7_1).f1) = a2
      ·rw [if_pos c7] at H
       have c7b0 : (((rd_T31 l0 x7_1).f1) == a2) = true := beq_iff_eq.mpr c7
       have c7b1 : (((rd_T31 l0 x7_1).f1) != a2) = false := bne_eq_false_iff_eq.mpr c7
       clear c7
       obtain rfl := Option.some.inj H
       have p156 : 0 ≤ (x7_1 : Int) := of_decide_eq_true (by first | (with_reducible assumption) | assumption)
       have q156 : x7_1 < (l0.length : Int) := of_decide_eq_true (by first | (with_reducible assumption) | assumption)
       obtain ⟨ad156, A156_2, c156_2, A156_3, c156_3, e156, hx156_0, hx156_1, hx156_2, hx156_3, hl156_2, hi156_2, hl156_3, hi156_3⟩ := at_T31 HR0.out x7_1 p156 q156
       cases e156
       have HR156_2 := Aside0.mk hi156_2
       have HC156_2 := Aside0.mk hl156_2
       clear hi156_2 hl156_2
       have HR156_3 := Aside0.mk hi156_3
       have HC156_3 := Aside0.mk hl156_3
       clear hi156_3 hl156_3
       replace p156 := eq_true p156
       replace q156 := eq_true q156
       have p157 : 0 ≤ (x7_1 : Int) := of_decide_eq_true (by first | (with_reducible assumption) | assumption)
       have q157 : x7_1 < (l0.length : Int) := of_decide_eq_true (by first | (with_reducible assumption) | assumption)
       obtain ⟨ad157, A157_2, c157_2, A157_3, c157_3, e157, hx157_0, hx157_1, hx157_2, hx157_3, hl157_2, hi157_2, hl157_3, hi157_3⟩ := at_T31 HR0.out x7_1 p157 q157
       obtain rfl : ad156 = ad157 := (by injection e157)
       have HR157_2 := Aside0.mk hi157_2
       have HC157_2 := Aside0.mk hl157_2
       clear hi157_2 hl157_2
       have HR157_3 := Aside0.mk hi157_3
       have HC157_3 := Aside0.mk hl157_3
       clear hi157_3 hl157_3
       replace p157 := eq_true p157
       replace q157 := eq_true q157
       have ea_ := Option.some.inj (hx156_2.symm.trans hx157_2)
       injection ea_ with ea_ en_ ec_
       subst ea_
       subst ec_
       clear en_
       have ea_ := Option.some.inj (hx156_3.symm.trans hx157_3)
       injection ea_ with ea_ en_ ec_
       subst ea_
       subst ec_
       clear en_
       go_wp2
       go_ret
       exact ⟨by first | rfl | (simp; done) | (simp [*]; done), by repeat (first | exact Drawn0.refl _ | apply Drawn0.step)⟩
      ·rw [if_neg c7] at H
       have c7b0 : (((rd_T31 l0 x7_1).f1) == a2) = false := beq_eq_false_iff_ne.mpr c7
       have c7b1 : (((rd_T31 l0 x7_1).f1) != a2) = true := bne_iff_ne.mpr c7
       have H' := Aside0.mk H
       clear H
       have p156 : 0 ≤ (x7_1 : Int) := of_decide_eq_true (by first | (with_reducible assumption) | assumption)
       have q156 : x7_1 < (l0.length : Int) := of_decide_eq_true (by first | (with_reducible assumption) | assumption)
       obtain ⟨ad156, A156_2, c156_2, A156_3, c156_3, e156, hx156_0, hx156_1, hx156_2, hx156_3, hl156_2, hi156_2, hl156_3, hi156_3⟩ := at_T31 HR0.out x7_1 p156 q156
       cases e156
       have HR156_2 := Aside0.mk hi156_2
       have HC156_2 := Aside0.mk hl156_2
       clear hi156_2 hl156_2
       have HR156_3 := Aside0.mk hi156_3
       have HC156_3 := Aside0.mk hl156_3
       clear hi156_3 hl156_3
       replace p156 := eq_true p156
       replace q156 := eq_true q156
       have p157 : 0 ≤ (x7_1 : Int) := of_decide_eq_true (by first | (with_reducible assumption) | assumption)
       have q157 : x7_1 < (l0.length : Int) := of_decide_eq_true (by first | (with_reducible assumption) | assumption)
       obtain ⟨ad157, A157_2, c157_2, A157_3, c157_3, e157, hx157_0, hx157_1, hx157_2, hx157_3, hl157_2, hi157_2, hl157_3, hi157_3⟩ := at_T31 HR0.out x7_1 p157 q157
       obtain rfl : ad156 = ad157 := (by injection e157)
       have HR157_2 := Aside0.mk hi157_2
       have HC157_2 := Aside0.mk hl157_2
       clear hi157_2 hl157_2
       have HR157_3 := Aside0.mk hi157_3
       have HC157_3 := Aside0.mk hl157_3
       clear hi157_3 hl157_3
       replace p157 := eq_true p157
       replace q157 := eq_true q157
       have ea_ := Option.some.inj (hx156_2.symm.trans hx157_2)
       injection ea_ with ea_ en_ ec_
       subst ea_
       subst ec_
       clear en_
       have ea_ := Option.some.inj (hx156_3.symm.trans hx157_3)
       injection ea_ with ea_ en_ ec_
       subst ea_
       subst ec_
       clear en_
       go_wp2
       go_roundg k1
       case measure => have := HK1.out; omega
       case rel => exact ⟨(wrap64 (x7_1 + 1)), (by first | rfl | (simp; done) | (simp [*]; done)), H', ⟨by have := HK1.out; omega⟩, by repeat (first | exact Drawn0.refl _ | apply Drawn0.step)⟩
     ·rw [if_neg c6] at H
      have c6b0 : (((rd_T31 l0 x7_1).f0) == a1) = false := beq_eq_false_iff_ne.mpr c6
      have c6b1 : (((rd_T31 l0 x7_1).f0) != a1) = true := bne_iff_ne.mpr c6
      have H' := Aside0.mk H
      clear H
      have p156 : 0 ≤ (x7_1 : Int) := of_decide_eq_true (by first | (with_reducible assumption) | assumption)
      have q156 : x7_1 < (l0.length : Int) := of_decide_eq_true (by first | (with_reducible assumption) | assumption)
      obtain ⟨ad156, A156_2, c156_2, A156_3, c156_3, e156, hx156_0, hx156_1, hx156_2, hx156_3, hl156_2, hi156_2, hl156_3, hi156_3⟩ := at_T31 HR0.out x7_1 p156 q156
      cases e156
      have HR156_2 := Aside0.mk hi156_2
      have HC156_2 := Aside0.mk hl156_2
      clear hi156_2 hl156_2
      have HR156_3 := Aside0.mk hi156_3
      have HC156_3 := Aside0.mk hl156_3
      clear hi156_3 hl156_3
      replace p156 := eq_true p156
      replace q156 := eq_true q156
      go_wp2
      go_roundg k1
      case measure => have := HK1.out; omega
      case rel => exact ⟨(wrap64 (x7_1 + 1)), (by first | rfl | (simp; done) | (simp [*]; done)), H', ⟨by have := HK1.out; omega⟩, by repeat (first | exact Drawn0.refl _ | apply Drawn0.step)⟩
    ·rw [if_neg c5] at H
     exact absurd H (by simp)
   ·rw [if_neg c4] at H
    have c4b0 : decide (x7_1 < (l0.length : Int)) = false := decide_eq_false c4
    clear c4
    obtain rfl := Option.some.inj H
    go_wp2
    go_ret
    exact ⟨by first | rfl | (simp; done) | (simp [*]; done), by repeat (first | exact Drawn0.refl _ | apply Drawn0.step)⟩

/-! ### spec_l3Less: function 55 -/
def spec_l3Less.f (a0 : Int) (a1 : Int) (a2 : Int) (a3 : Int) : Option (Bool) := if a0 < a2 then (some true) else (if a0 = a2 then (some (decide (a1 < a3))) else (some false))
set_option maxHeartbeats 8000000 in
set_option maxRecDepth 100000 in
theorem spec_l3Less.calls (a0 : Int) (a1 : Int) (a2 : Int) (a3 : Int) (r : Bool) (w : World) (h : spec_l3Less.f a0 a1 a2 a3 = some r) :
  Calls Tryd.prog 55 #[.int .i64 a0, .int .i64 a1, .int .i64 a2, .int .i64 a3] w fun e w' => e = .returned (.bool r) ∧ Drawn0 w w' := by
 have H : (if a0 < a2 then (some true) else (if a0 = a2 then (some (decide (a1 < a3))) else (some false))) = some r := h
 clear h
 by_cases c5 : a0 < a2
 ·rw [if_pos c5] at H
  have c5b0 : decide (a0 < a2) = true := decide_eq_true c5
  clear c5
  obtain rfl := Option.some.inj H
  go_enter Tryd.func55, Tryd.ntmps55
  go_wp2
  go_ret
  exact ⟨by first | rfl | (simp; done) | (simp [*]; done), by repeat (first | exact Drawn0.refl _ | apply Drawn0.step)⟩
 ·rw [if_neg c5] at H
  have c5b0 : decide (a0 < a2) = false := decide_eq_false c5
  clear c5
  by_cases c6 : a0 = a2
  ·rw [if_pos c6] at H
   have c6b0 : (a0 == a2) = true := beq_iff_eq.mpr c6
   have c6b1 : (a0 != a2) = false := bne_eq_false_iff_eq.mpr c6
   clear c6
   obtain rfl := Option.some.inj H
   go_enter Tryd.func55, Tryd.ntmps55
   go_wp2
   go_ret
   exact ⟨by first | rfl | (simp; done) | (simp [*]; done), by repeat (first | exact Drawn0.refl _ | apply Drawn0.step)⟩
  ·rw [if_neg c6] at H
   have c6b0 : (a0 == a2) = false := beq_eq_false_iff_ne.mpr c6
   have c6b1 : (a0 != a2) = true := bne_iff_ne.mpr c6
   obtain rfl := Option.some.inj H
   go_enter Tryd.func55, Tryd.ntmps55
   go_wp2
   go_ret
   exact ⟨by first | rfl | (simp; done) | (simp [*]; done), by repeat (first | exact Drawn0.refl _ | apply Drawn0.step)⟩

end Go.Proofs.YtkjgnnjcjkphbaaDoor.PFnIndexCut
