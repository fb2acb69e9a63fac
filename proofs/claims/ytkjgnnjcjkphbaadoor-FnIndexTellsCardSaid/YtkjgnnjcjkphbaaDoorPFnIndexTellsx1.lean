-- printed for this claim by a program out of the translation, its tactics shortened by another
import Derived.Test.YtkjgnnjcjkphbaaDoorPFnIndexTellsx0
namespace Go.Proofs.YtkjgnnjcjkphbaaDoor.PFnIndexTells
open Go.RowKit Go.Proofs.YtkjgnnjcjkphbaaDoorW.PrintWords Go.Proofs.YtkjgnnjcjkphbaaDoorW.PrintLast Go.Proofs.YtkjgnnjcjkphbaaDoorW.PrintMore
attribute [local go_sem] max2_int min2_int max_two min_two max_three min_three max_four min_four   -- for this text's walks alone
set_option linter.unusedVariables false
set_option linter.unusedSimpArgs false

theorem eqA40 (d : Nat) (w : World) (x0 y0 : Int) (x1 y1 : Int) (x2 y2 : Int) :
  (Op.equalIn (d + 2) 40 (.agg #[.int .i64 x0, .int .i64 x1, .int .i64 x2]) (.agg #[.int .i64 y0, .int .i64 y1, .int .i64 y2])).run Tryd.prog w = .ok (x0 == y0 && (x1 == y1 && (x2 == y2))) w := by
 refine eqA_of Tryd.underlying40 (by kernel_rfl) ?_
 refine eqf_cons (by rfl) (by go_simp; rfl) (by go_simp; rfl) (by go_simp) ?_
 refine eqf_cons (by rfl) (by go_simp; rfl) (by go_simp; rfl) (by go_simp) ?_
 exact eqf_last (by rfl) (by go_simp; rfl) (by go_simp; rfl) (by go_simp)

theorem eqA67 (d : Nat) (w : World) (x0 y0 : Int) (x1 y1 : Int) :
  (Op.equalIn (d + 2) 67 (.agg #[.int .i64 x0, .int .i64 x1]) (.agg #[.int .i64 y0, .int .i64 y1])).run Tryd.prog w = .ok (x0 == y0 && (x1 == y1)) w := by
 refine eqA_of Tryd.underlying67 (by kernel_rfl) ?_
 refine eqf_cons (by rfl) (by go_simp; rfl) (by go_simp; rfl) (by go_simp) ?_
 exact eqf_last (by rfl) (by go_simp; rfl) (by go_simp; rfl) (by go_simp)

theorem eqA69 (d : Nat) (w : World) (x0 y0 : Int) (x1 y1 : Int) :
  (Op.equalIn (d + 2) 69 (.agg #[.int .i64 x0, .int .i64 x1]) (.agg #[.int .i64 y0, .int .i64 y1])).run Tryd.prog w = .ok (x0 == y0 && (x1 == y1)) w := by
 refine eqA_of Tryd.underlying69 (by kernel_rfl) ?_
 refine eqf_cons (by rfl) (by go_simp; rfl) (by go_simp; rfl) (by go_simp) ?_
 exact eqf_last (by rfl) (by go_simp; rfl) (by go_simp; rfl) (by go_simp)

/-! ### spec_l6In: function 54 -/
theorem spec_l6In_b (w : World) (n a b : Int) (v : Bool) (h : inB_ n a b = v) : Calls Tryd.prog 54 #[.int .i64 n, .int .i64 a, .int .i64 b] w fun e w' => e = .returned (.bool v) ∧ w' = w := by
 subst h
 go_enter Tryd.func54, Tryd.ntmps54
 by_cases h1 : a ≤ n
 ·by_cases h2 : n ≤ b
  ·have e1 : inB_ n a b = true := by unfold inB_; rw [decide_eq_true h1, decide_eq_true h2]; rfl
   have d1 : decide (a ≤ n) = true := decide_eq_true h1
   have d2 : decide (n ≤ b) = true := decide_eq_true h2
   rw [e1]
   clear h1 h2 e1
   go_wp2
   go_ret
   exact ⟨by first | rfl | simp [*], rfl⟩
  ·have e1 : inB_ n a b = false := by unfold inB_; rw [decide_eq_false h2, Bool.and_false]
   have d1 : decide (a ≤ n) = true := decide_eq_true h1
   have d2 : decide (n ≤ b) = false := decide_eq_false h2
   rw [e1]
   clear h1 h2 e1
   go_wp2
   go_ret
   exact ⟨by first | rfl | simp [*], rfl⟩
 ·have e1 : inB_ n a b = false := by unfold inB_; rw [decide_eq_false h1, Bool.false_and]
  have d1 : decide (a ≤ n) = false := decide_eq_false h1
  rw [e1]
  clear h1 e1
  go_wp2
  go_ret
  exact ⟨by first | rfl | simp [*], rfl⟩
def spec_l6In.f (a0 : Int) (a1 : Int) (a2 : Int) : Option (Bool) := if a0 ≥ a1 then (some (decide (a0 ≤ a2))) else (some (false))
theorem spec_l6In.calls (a0 : Int) (a1 : Int) (a2 : Int) (r : Bool) (w : World) (h : spec_l6In.f a0 a1 a2 = some r) :
  Calls Tryd.prog 54 #[.int .i64 a0, .int .i64 a1, .int .i64 a2] w fun e w' => e = .returned (.bool r) ∧ Drawn0 w w' := by
 have e : inB_ a0 a1 a2 = r := by
  unfold spec_l6In.f at h; unfold inB_
  by_cases c : a0 ≥ a1
  ·rw [if_pos c] at h; rw [decide_eq_true c, Bool.true_and]; exact Option.some.inj h
  ·rw [if_neg c] at h; rw [decide_eq_false c, Bool.false_and]; exact Option.some.inj h
 exact (spec_l6In_b w a0 a1 a2 r e).mono fun _ _ h => ⟨h.1, by rw [h.2]; exact Drawn0.refl _⟩

/-! ### spec_l1Files: function 91 -/
def file1 (l : List S67) (i : Nat) : Bool := inB_ (l.getD i z67).f0 0 5 && (inB_ (l.getD i z67).f1 0 9 && (i == 0 || decide ((l.getD (i - 1) z67).f0 < (l.getD i z67).f0)))
def l1f (l : List S67) : Bool := okFrom (file1 l) l.length 0 && decide (l.length ≤ 2)
set_option maxHeartbeats 8000000 in
set_option maxRecDepth 100000 in
theorem l1f_calls (A0 : Option Addr) (c0 : Nat) (l0 : List S67) (w : World) (hr0 : Kd.C k67 w A0 l0.length l0) (hc0 : l0.length ≤ c0) :
  Calls Tryd.prog 91 #[.slice A0 l0.length c0] w fun e w' => e = .returned (.bool (l1f l0)) ∧ Drawn0 w w' := by
 have HR := Aside0.mk hr0
 have HC := Aside0.mk hc0
 have HL := Aside0.mk hr0.2.1
 clear hr0 hc0
 go_enter Tryd.func91, Tryd.ntmps91
 go_wp2
 go_loopw [3] (fun v3 w' => ∃ x : Int, 0 ≤ x ∧ x ≤ (l0.length : Int) ∧ v3 = .int .i64 x ∧ Aside0 (l1f l0 = (okFrom (file1 l0) (l0.length - x.toNat) x.toNat && decide (l0.length ≤ 2))) ∧ Drawn0 w w') (fun v3 _ => l0.length - (intOf v3).toNat)
 case atStart => exact ⟨0, by omega, by omega, rfl, ⟨rfl⟩, Drawn0.refl _⟩
 case round =>
  obtain ⟨x, hx0, hx1, rfl, HE, ⟨m1, rfl⟩⟩ := hrel
  by_cases hlt : x < (l0.length : Int)
  ·obtain ⟨ad, e, c0, c1⟩ := at_T67 HR.out x hx0 hlt
   cases e
   obtain ⟨F0, hF0⟩ : ∃ F0, F0 = (rd_T67 l0 x).f0 := ⟨_, rfl⟩
   obtain ⟨F1, hF1⟩ : ∃ F1, F1 = (rd_T67 l0 x).f1 := ⟨_, rfl⟩
   rw [← hF0] at c0
   rw [← hF1] at c1
   have HF := Aside0.mk (And.intro hF0 hF1)
   clear hF0 hF1
   obtain ⟨b1, hb1⟩ : ∃ b, inB_ F0 0 5 = b := ⟨_, rfl⟩
   obtain ⟨b2, hb2⟩ : ∃ b, inB_ F1 0 9 = b := ⟨_, rfl⟩
   have C1 := Aside0.mk (fun W => spec_l6In_b W F0 0 5 b1 hb1)
   have C2 := Aside0.mk (fun W => spec_l6In_b W F1 0 9 b2 hb2)
   have B1 := Aside0.mk hb1
   have B2 := Aside0.mk hb2
   clear hb1 hb2
   have q1 : decide (x < (l0.length : Int)) = true := decide_eq_true hlt
   have q2 : 0 ≤ x := hx0
   have HN := Aside0.mk (okFrom_at (p := file1 l0) hx0 hlt)
   have no : Aside0 (file1 l0 x.toNat = false → l1f l0 = false) := ⟨fun h_ => by rw [HE.out, HN.out, h_]; rfl⟩
   have yes : Aside0 (file1 l0 x.toNat = true → l1f l0 = (okFrom (file1 l0) (l0.length - (x + 1).toNat) (x + 1).toNat && decide (l0.length ≤ 2))) := ⟨fun h_ => by rw [HE.out, HN.out, h_]; rfl⟩
   clear HE HN
   have hb2 : b2 = true ∨ b2 = false := by cases b2 <;> simp
   have HL2 := HL.out
   cases b1 with
   | false =>
    go_wp2
    go_quiet ((go_at_call 54; (first | with_reducible refine (C1.out _).mono ?_ | with_reducible refine (C2.out _).mono ?_); exact fun _ _ h_ => ⟨h_.1, _, h_.2⟩))
    go_wp2
    go_ret
    rw [no.out (by unfold file1; rw [← show _ = (l0.getD x.toNat z67).f0 from HF.out.1, B1.out]; rfl)]
    exact ⟨by first | rfl | simp [*], by repeat (first | exact Drawn0.refl _ | apply Drawn0.step)⟩
   | true =>
    cases b2 with
    | false =>
     go_wp2
     go_quiet ((go_at_call 54; (first | with_reducible refine (C1.out _).mono ?_ | with_reducible refine (C2.out _).mono ?_); exact fun _ _ h_ => ⟨h_.1, _, h_.2⟩))
     go_wp2
     go_ret
     rw [no.out (by unfold file1; rw [← show _ = (l0.getD x.toNat z67).f0 from HF.out.1, ← show _ = (l0.getD x.toNat z67).f1 from HF.out.2, B1.out, B2.out]; rfl)]
     exact ⟨by first | rfl | simp [*], by repeat (first | exact Drawn0.refl _ | apply Drawn0.step)⟩
    | true =>
     by_cases hz : x ≤ 0
     ·have hx4 : decide (0 < x) = false := decide_eq_false (by omega)
      have Y := Aside0.mk (yes.out (by unfold file1; rw [← show _ = (l0.getD x.toNat z67).f0 from HF.out.1, ← show _ = (l0.getD x.toNat z67).f1 from HF.out.2, B1.out, B2.out, show (x.toNat == 0) = true by rw [beq_iff_eq]; omega]; rfl))
      clear yes no hz
      go_wp2
      go_quiet ((go_at_call 54; (first | with_reducible refine (C1.out _).mono ?_ | with_reducible refine (C2.out _).mono ?_); exact fun _ _ h_ => ⟨h_.1, _, h_.2⟩))
      go_wp2
      go_roundw
      case rel => exact ⟨x + 1, by omega, by omega, by first | rfl | simp, Y, by repeat (first | exact Drawn0.refl _ | apply Drawn0.step)⟩
      case measure => simp [intOf]; omega
     ·have g0 : 0 < x := by omega
      clear hz
      obtain ⟨y, hy⟩ : ∃ y, y = x - 1 := ⟨_, rfl⟩
      have hw : IntKind.i64.wrap (x - 1) = y := by rw [i64_w, hy]; unfold wrap64; omega
      obtain ⟨ad2, e2, d0, d1⟩ := at_T67 HR.out y (by omega) (by omega)
      obtain ⟨G0, hG0⟩ : ∃ G0, G0 = (rd_T67 l0 y).f0 := ⟨_, rfl⟩
      rw [← hG0] at d0
      cases e2
      have HG := Aside0.mk hG0
      clear hG0 d1
      have hx2 : 0 ≤ y := by omega
      have hx3 : decide (y < (l0.length : Int)) = true := decide_eq_true (by omega)
      have hx4 : decide (0 < x) = true := decide_eq_true g0
      have hx5 : y < (l0.length : Int) := by omega
      have HY := Aside0.mk hy
      clear hy
      have FD : Aside0 (file1 l0 x.toNat = decide (G0 < F0)) := ⟨by
       unfold file1
       rw [← show _ = (l0.getD x.toNat z67).f0 from HF.out.1, ← show _ = (l0.getD x.toNat z67).f1 from HF.out.2, B1.out, B2.out, show (x.toNat == 0) = false by rw [beq_eq_false_iff_ne]; omega, show x.toNat - 1 = y.toNat by have := HY.out; omega, ← show _ = (l0.getD y.toNat z67).f0 from HG.out]; rfl⟩
      by_cases hc : F0 ≤ G0
      ·have cb : decide (F0 ≤ G0) = true := decide_eq_true hc
       have N := Aside0.mk (no.out (by rw [FD.out, decide_eq_false (by omega)]))
       clear yes no hc
       go_wp2
       go_quiet ((go_at_call 54; (first | with_reducible refine (C1.out _).mono ?_ | with_reducible refine (C2.out _).mono ?_); exact fun _ _ h_ => ⟨h_.1, _, h_.2⟩))
       go_wp2
       go_ret
       rw [N.out]
       exact ⟨by first | rfl | simp [*], by repeat (first | exact Drawn0.refl _ | apply Drawn0.step)⟩
      ·have cb : decide (F0 ≤ G0) = false := decide_eq_false hc
       have Y := Aside0.mk (yes.out (by rw [FD.out, decide_eq_true (by omega)]))
       clear yes no hc
       go_wp2
       go_quiet ((go_at_call 54; (first | with_reducible refine (C1.out _).mono ?_ | with_reducible refine (C2.out _).mono ?_); exact fun _ _ h_ => ⟨h_.1, _, h_.2⟩))
       go_wp2
       go_roundw
       case rel => exact ⟨x + 1, by omega, by omega, by first | rfl | simp, Y, by repeat (first | exact Drawn0.refl _ | apply Drawn0.step)⟩
       case measure => simp [intOf]; omega
  ·have hxe : x = (l0.length : Int) := by omega
   have q1 : decide (x < (l0.length : Int)) = false := decide_eq_false hlt
   have E := Aside0.mk (show l1f l0 = decide ((l0.length : Int) ≤ 2) by
    rw [HE.out, hxe, Int.toNat_natCast, Nat.sub_self]
    simp only [okFrom, Bool.true_and]
    rw [Bool.eq_iff_iff, decide_eq_true_eq, decide_eq_true_eq]; omega)
   clear hxe HE
   go_wp2
   go_ret
   rw [E.out]
   exact ⟨by first | rfl | simp [*], by repeat (first | exact Drawn0.refl _ | apply Drawn0.step)⟩
def spec_l1Files.f (_k : Nat) (l0 : List S67) : Option Bool := some (l1f l0)
theorem spec_l1Files.mono : ∀ a0 k, LeO (spec_l1Files.f k a0) (spec_l1Files.f (k + 1) a0) := fun _ _ _ h => h
theorem spec_l1Files.calls (k : Nat) (A0 : Option Addr) (c0 : Nat) (l0 : List S67) (r : Bool) (w : World) (hr0 : Kd.C k67 w A0 l0.length l0) (hc0 : l0.length ≤ c0) (h : spec_l1Files.f k l0 = some r) :
  Calls Tryd.prog 91 #[.slice A0 l0.length c0] w fun e w' => e = .returned (.bool r) ∧ Below w.heap.size w w' := by
 obtain rfl := Option.some.inj h; refine (l1f_calls A0 c0 l0 w hr0 hc0).mono ?_; rintro e w' ⟨h1, n, rfl⟩; refine ⟨h1, ?_⟩; apply pw_below_drewN; exact Below.refl _ _

/-! ### spec_l1Deps: function 92 -/
def dep1 (name : Int) (l : List S69) (i : Nat) : Bool := inB_ (l.getD i z69).f0 1 4 && (!decide ((l.getD i z69).f0 = name) && (inB_ (l.getD i z69).f1 1 5 && (i == 0 || decide ((l.getD (i - 1) z69).f0 < (l.getD i z69).f0))))
def l1d (name : Int) (l : List S69) : Bool := okFrom (dep1 name l) l.length 0 && decide (l.length ≤ 2)
set_option maxHeartbeats 8000000 in
set_option maxRecDepth 100000 in
theorem l1d_calls (a0 : Int) (A0 : Option Addr) (c0 : Nat) (l0 : List S69) (w : World) (hr0 : Kd.C k69 w A0 l0.length l0) (hc0 : l0.length ≤ c0) :
  Calls Tryd.prog 92 #[.int .i64 a0, .slice A0 l0.length c0] w fun e w' => e = .returned (.bool (l1d a0 l0)) ∧ Below w.heap.size w w' := by
 have HR := Aside0.mk hr0
 have HC := Aside0.mk hc0
 have HL := Aside0.mk hr0.2.1
 have HB := Aside0.mk (Below.refl w.heap.size w)
 clear hr0 hc0
 go_enter Tryd.func92, Tryd.ntmps92
 go_wp2
 go_loopw [5] (fun v5 w' => ∃ x : Int, 0 ≤ x ∧ x ≤ (l0.length : Int) ∧ v5 = .int .i64 x ∧ Aside0 (l1d a0 l0 = (okFrom (dep1 a0 l0) (l0.length - x.toNat) x.toNat && decide (l0.length ≤ 2))) ∧ Aside0 (Below w.heap.size w w')) (fun v5 _ => l0.length - (intOf v5).toNat)
 case atStart => exact ⟨0, by omega, by omega, rfl, ⟨rfl⟩, HB⟩
 case round =>
  clear HB
  obtain ⟨x, hx0, hx1, rfl, HE, HB⟩ := hrel
  by_cases hlt : x < (l0.length : Int)
  ·obtain ⟨ad, e, c0, c1⟩ := at_T69 HR.out x hx0 hlt
   cases e
   replace c0 := (HB.out.cell (World.block_lt_of_cell? w _ c0)).trans c0
   replace c1 := (HB.out.cell (World.block_lt_of_cell? w _ c1)).trans c1
   obtain ⟨F0, hF0⟩ : ∃ F0, F0 = (rd_T69 l0 x).f0 := ⟨_, rfl⟩
   obtain ⟨F1, hF1⟩ : ∃ F1, F1 = (rd_T69 l0 x).f1 := ⟨_, rfl⟩
   rw [← hF0] at c0
   rw [← hF1] at c1
   have HF := Aside0.mk (And.intro hF0 hF1)
   clear hF0 hF1
   have q1 : decide (x < (l0.length : Int)) = true := decide_eq_true hlt
   have q2 : 0 ≤ x := hx0
   obtain ⟨b1, hb1⟩ : ∃ b, inB_ F0 1 4 = b := ⟨_, rfl⟩
   obtain ⟨b2, hb2⟩ : ∃ b, inB_ F1 1 5 = b := ⟨_, rfl⟩
   have C1 := Aside0.mk (fun W => spec_l6In_b W F0 1 4 b1 hb1)
   have C2 := Aside0.mk (fun W => spec_l6In_b W F1 1 5 b2 hb2)
   have B1 := Aside0.mk hb1
   have B2 := Aside0.mk hb2
   clear hb1 hb2
   have HN := Aside0.mk (okFrom_at (p := dep1 a0 l0) hx0 hlt)
   have no : Aside0 (dep1 a0 l0 x.toNat = false → l1d a0 l0 = false) := ⟨fun h_ => by rw [HE.out, HN.out, h_]; rfl⟩
   have yes : Aside0 (dep1 a0 l0 x.toNat = true → l1d a0 l0 = (okFrom (dep1 a0 l0) (l0.length - (x + 1).toNat) (x + 1).toNat && decide (l0.length ≤ 2))) := ⟨fun h_ => by rw [HE.out, HN.out, h_]; rfl⟩
   have D : Aside0 (dep1 a0 l0 x.toNat = (b1 && (!decide (F0 = a0) && (b2 && (x.toNat == 0 || decide ((l0.getD (x.toNat - 1) z69).f0 < F0)))))) := ⟨by
    unfold dep1
    rw [← show _ = (l0.getD x.toNat z69).f0 from HF.out.1, ← show _ = (l0.getD x.toNat z69).f1 from HF.out.2, B1.out, B2.out]⟩
   clear HE HN HF B1 B2
   have HL2 := HL.out
   go_wp2
   have n0_ := Aside0.mk (below_alloc HB.out (Obj.cells #[.int .i64 F0, .int .i64 F1] 69))
   have n1_ := (below_alloc (Below.refl wr.heap.size wr) (Obj.cells #[.int .i64 F0, .int .i64 F1] 69))
   have k0 : (wr.alloc (Obj.cells #[.int .i64 F0, .int .i64 F1] 69)).cell? ⟨wr.heap.size, 0, none⟩ = some (.int .i64 F0) := by simp
   have k1 : (wr.alloc (Obj.cells #[.int .i64 F0, .int .i64 F1] 69)).cell? ⟨wr.heap.size, 1, none⟩ = some (.int .i64 F1) := by simp
   clear HB c0 c1 n1_
   generalize wr.alloc (Obj.cells #[.int .i64 F0, .int .i64 F1] 69) = W at n0_ k0 k1 ⊢
   generalize wr.heap.size = gb at k0 k1 ⊢
   have HB := n0_
   clear n0_
   cases b1 with
   | false =>
    go_quiet ((go_at_call 54; (first | with_reducible refine (C1.out _).mono ?_ | with_reducible refine (C2.out _).mono ?_); exact fun _ _ h_ => ⟨h_.1, _, h_.2⟩))
    go_wp2
    go_ret
    rw [no.out (by rw [D.out]; rfl)]
    exact ⟨by first | rfl | simp [*], by repeat (first | exact HB.out | apply pw_below_drewN)⟩
   | true =>
    by_cases he : F0 = a0
    ·have N := Aside0.mk (no.out (by rw [D.out, decide_eq_true he]; rfl))
     have e1 : (F0 == a0) = true := beq_iff_eq.mpr he
     clear yes no D he
     go_quiet ((go_at_call 54; (first | with_reducible refine (C1.out _).mono ?_ | with_reducible refine (C2.out _).mono ?_); exact fun _ _ h_ => ⟨h_.1, _, h_.2⟩))
     go_wp2
     go_ret
     rw [N.out]
     exact ⟨by first | rfl | simp [*], by repeat (first | exact HB.out | apply pw_below_drewN)⟩
    ·have e1 : (F0 == a0) = false := beq_eq_false_iff_ne.mpr he
     replace D := Aside0.mk (D.out.trans (by rw [decide_eq_false he]))
     clear he
     cases b2 with
     | false =>
      go_quiet ((go_at_call 54; (first | with_reducible refine (C1.out _).mono ?_ | with_reducible refine (C2.out _).mono ?_); exact fun _ _ h_ => ⟨h_.1, _, h_.2⟩))
      go_wp2
      go_ret
      rw [no.out (by rw [D.out]; rfl)]
      exact ⟨by first | rfl | simp [*], by repeat (first | exact HB.out | apply pw_below_drewN)⟩
     | true =>
      by_cases hz : x ≤ 0
      ·have hx4 : decide (0 < x) = false := decide_eq_false (by omega)
       have Y := Aside0.mk (yes.out (by rw [D.out, show (x.toNat == 0) = true by rw [beq_iff_eq]; omega]; rfl))
       clear yes no D hz
       go_quiet ((go_at_call 54; (first | with_reducible refine (C1.out _).mono ?_ | with_reducible refine (C2.out _).mono ?_); exact fun _ _ h_ => ⟨h_.1, _, h_.2⟩))
       go_wp2
       go_roundw
       case rel => exact ⟨x + 1, by omega, by omega, by first | rfl | simp, Y, ⟨by repeat (first | exact HB.out | apply pw_below_drewN)⟩⟩
       case measure => simp [intOf]; omega
      ·have g0 : 0 < x := by omega
       clear hz
       obtain ⟨y, hy⟩ : ∃ y, y = x - 1 := ⟨_, rfl⟩
       have hw : IntKind.i64.wrap (x - 1) = y := by rw [i64_w, hy]; unfold wrap64; omega
       obtain ⟨ad2, e2, d0, d1⟩ := at_T69 HR.out y (by omega) (by omega)
       obtain ⟨G0, hG0⟩ : ∃ G0, G0 = (rd_T69 l0 y).f0 := ⟨_, rfl⟩
       obtain ⟨G1, hG1⟩ : ∃ G1, G1 = (rd_T69 l0 y).f1 := ⟨_, rfl⟩
       rw [← hG0] at d0
       rw [← hG1] at d1
       cases e2
       replace d0 := (HB.out.cell (World.block_lt_of_cell? w _ d0)).trans d0
       replace d1 := (HB.out.cell (World.block_lt_of_cell? w _ d1)).trans d1
       have HG := Aside0.mk hG0
       clear hG0 hG1
       have hx2 : 0 ≤ y := by omega
       have hx3 : decide (y < (l0.length : Int)) = true := decide_eq_true (by omega)
       have hx4 : decide (0 < x) = true := decide_eq_true g0
       have hx5 : y < (l0.length : Int) := by omega
       have HY := Aside0.mk hy
       clear hy
       have FD : Aside0 (dep1 a0 l0 x.toNat = decide (G0 < F0)) := ⟨by
        rw [D.out, show (x.toNat == 0) = false by rw [beq_eq_false_iff_ne]; omega, show x.toNat - 1 = y.toNat by have := HY.out; omega, ← show _ = (l0.getD y.toNat z69).f0 from HG.out]; rfl⟩
       by_cases hc : F0 ≤ G0
       ·have cb : decide (F0 ≤ G0) = true := decide_eq_true hc
        have N := Aside0.mk (no.out (by rw [FD.out, decide_eq_false (by omega)]))
        clear yes no hc D
        go_quiet ((go_at_call 54; (first | with_reducible refine (C1.out _).mono ?_ | with_reducible refine (C2.out _).mono ?_); exact fun _ _ h_ => ⟨h_.1, _, h_.2⟩))
        go_wp2
        go_ret
        rw [N.out]
        exact ⟨by first | rfl | simp [*], by repeat (first | exact HB.out | apply pw_below_drewN)⟩
       ·have cb : decide (F0 ≤ G0) = false := decide_eq_false hc
        have Y := Aside0.mk (yes.out (by rw [FD.out, decide_eq_true (by omega)]))
        clear yes no hc D
        go_quiet ((go_at_call 54; (first | with_reducible refine (C1.out _).mono ?_ | with_reducible refine (C2.out _).mono ?_); exact fun _ _ h_ => ⟨h_.1, _, h_.2⟩))
        go_wp2
        go_roundw
        case rel => exact ⟨x + 1, by omega, by omega, by first | rfl | simp, Y, ⟨by repeat (first | exact HB.out | apply pw_below_drewN)⟩⟩
        case measure => simp [intOf]; omega
  ·have hxe : x = (l0.length : Int) := by omega
   have q1 : decide (x < (l0.length : Int)) = false := decide_eq_false hlt
   have E := Aside0.mk (show l1d a0 l0 = decide ((l0.length : Int) ≤ 2) by
    rw [HE.out, hxe, Int.toNat_natCast, Nat.sub_self]
    simp only [okFrom, Bool.true_and]
    rw [Bool.eq_iff_iff, decide_eq_true_eq, decide_eq_true_eq]; omega)
   clear hxe HE
   go_wp2
   go_ret
   rw [E.out]
   exact ⟨by first | rfl | simp [*], by repeat (first | exact HB.out | apply pw_below_drewN)⟩
def spec_l1Deps.f (_k : Nat) (a0 : Int) (l1 : List S69) : Option Bool := some (l1d a0 l1)
theorem spec_l1Deps.mono : ∀ a0 a1 k, LeO (spec_l1Deps.f k a0 a1) (spec_l1Deps.f (k + 1) a0 a1) := fun _ _ _ _ h => h
theorem spec_l1Deps.calls (k : Nat) (a0 : Int) (A1 : Option Addr) (c1 : Nat) (l1 : List S69) (r : Bool) (w : World) (hr1 : Kd.C k69 w A1 l1.length l1) (hc1 : l1.length ≤ c1) (h : spec_l1Deps.f k a0 l1 = some r) :
  Calls Tryd.prog 92 #[.int .i64 a0, .slice A1 l1.length c1] w fun e w' => e = .returned (.bool r) ∧ Below w.heap.size w w' := by
 obtain rfl := Option.some.inj h; exact l1d_calls a0 A1 c1 l1 w hr1 hc1

/-! ### spec_PkgOk: function 60 -/
def spec_PkgOk.f (k : Nat) (a0_0 : Int) (a0_1 : Int) (l0_2 : List (S67)) (l0_3 : List (S69)) : Option (Bool) := (spec_l6In.f a0_0 1 4).bind fun t102 => (if t102 = true then ((spec_l6In.f a0_1 1 5).bind fun t103 => (if t103 = true then ((spec_l1Files.f k l0_2).bind fun t104 => (if t104 = true then ((spec_l1Deps.f k a0_0 l0_3).bind fun t105 => (some t105)) else (some false))) else (some false))) else (some false))
theorem spec_PkgOk.mono : ∀ a0 a1 a2 a3 k, LeO (spec_PkgOk.f k a0 a1 a2 a3) (spec_PkgOk.f (k + 1) a0 a1 a2 a3) := by
 intro a0 a1 a2 a3 k
 unfold spec_PkgOk.f
 repeat' with_reducible first | apply spec_l1Deps.mono | apply spec_l1Files.mono | exact LeO.refl _ | exact LeO.none _ | refine LeO.ite ?_ ?_ | refine LeO.bind ?_ (fun _ => ?_)
set_option maxHeartbeats 8000000 in
set_option maxRecDepth 100000 in
theorem spec_PkgOk.calls (k : Nat) (a0_0 : Int) (a0_1 : Int) (A0_2 : Option Addr) (c0_2 : Nat) (l0_2 : List (S67)) (A0_3 : Option Addr) (c0_3 : Nat) (l0_3 : List (S69)) (r : Bool) (w : World) (hr0_2 : Kd.C k67 w A0_2 l0_2.length l0_2) (hc0_2 : l0_2.length ≤ c0_2) (hr0_3 : Kd.C k69 w A0_3 l0_3.length l0_3) (hc0_3 : l0_3.length ≤ c0_3) (h : spec_PkgOk.f k a0_0 a0_1 l0_2 l0_3 = some r) :
  Calls Tryd.prog 60 #[.agg #[.int .i64 a0_0, .int .i64 a0_1, .slice A0_2 l0_2.length c0_2, .slice A0_3 l0_3.length c0_3]] w fun e w' => e = .returned (.bool r) ∧ Below w.heap.size w w' := by
 have hu31 := Tryd.underlying31; have HR0_2 := aM hr0_2; have HC0_2 := aM hc0_2; clear hr0_2 hc0_2; have HR0_3 := aM hr0_3; have HC0_3 := aM hc0_3; clear hr0_3 hc0_3; have HB := aM (Below.refl w.heap.size w); have H : ((spec_l6In.f a0_0 1 4).bind fun t102 => (if t102 = true then ((spec_l6In.f a0_1 1 5).bind fun t103 => (if t103 = true then ((spec_l1Files.f k l0_2).bind fun t104 => (if t104 = true then ((spec_l1Deps.f k a0_0 l0_3).bind fun t105 => (some t105)) else (some false))) else (some false))) else (some false))) = some r := h; clear h; replace H := Option.bind_eq_some_iff.mp H; obtain ⟨t102, A20, H⟩ := H; (try dsimp only at H); have A2 := aM A20; clear A20
 by_cases c3 : t102 = true
 ·subst c3; replace H := zy1 H; replace H := Option.bind_eq_some_iff.mp H; obtain ⟨t103, A40, H⟩ := H; (try dsimp only at H); have A4 := aM A40; clear A40
  by_cases c5 : t103 = true
  ·subst c5; replace H := zy1 H; replace H := Option.bind_eq_some_iff.mp H; obtain ⟨t104, A60, H⟩ := H; (try dsimp only at H); have A6 := aM A60; clear A60
   by_cases c7 : t104 = true
   ·subst c7; replace H := zy1 H; replace H := Option.bind_eq_some_iff.mp H; obtain ⟨t105, A80, H⟩ := H; (try dsimp only at H); have A8 := aM A80; clear A80; obtain rfl := Option.some.inj H
    go_enter Tryd.func60, Tryd.ntmps60
    go_wp2_with (first | ((with_reducible refine gate_dst (N := 1) rfl ?_); refine zbx 1 #[.int .i64 a0_0, .int .i64 a0_1, .slice A0_2 l0_2.length c0_2, .slice A0_3 l0_3.length c0_3] 31 ?_; intro gb101 hg w9 hbox hb; have _ := aM (below_step (zB HB.1) hb); have _ := aM (hbox); have _ := aM (zge hg (zB HB.1)); have _ := aM (zge hg (zB HB.1)); clear HB; rename_i HB BK101 GW101 GE101; clear hb hbox hg; obtain ⟨hcz10_0, hcz10_1, hcz10_2, hcz10_3, hfz10_0, hfz10_1, hfz10_2, hfz10_3⟩ := zc4f BK101.1) | ((with_reducible refine gate_callee (f := 54) rfl ?_); refine zgL (some 5) Tryd.func54 #[.int .i64 a0_0, .int .i64 1, .int .i64 4] ?_; (with_reducible refine (spec_l6In.calls a0_0 1 4 true _ A2.1).mono ?_); rintro e w' ⟨rfl, ⟨nd, rfl⟩⟩; refine ⟨_, rfl, ?_⟩) | (go_at_call 54; (with_reducible refine (spec_l6In.calls a0_1 1 5 true _ A4.1).mono ?_); rintro e w' ⟨rfl, ⟨nd, rfl⟩⟩) | (go_at_call 91; (with_reducible refine (spec_l1Files.calls k _ _ l0_2 true _ ?side1 ?side2 A6.1).mono ?_); (case side1 => exact (Kd.C_below HR0_2.1 (zB1 HB.1 GE101.1))); (case side2 => exact HC0_2.1); rintro e w11 ⟨rfl, hb⟩; have _ := aM (blk_below (zK BK101.1) hb); have _ := aM (below_step (zB1 HB.1 GE101.1) hb); clear BK101 HB; rename_i BK101 HB; (try clear hb); (try clear hb2); (try clear hk); (try clear hi); obtain ⟨hcz12_0, hcz12_1, hcz12_2, hcz12_3, hfz12_0, hfz12_1, hfz12_2, hfz12_3⟩ := zc4f BK101.1) | (go_at_call 92; (with_reducible refine (spec_l1Deps.calls k a0_0 _ _ l0_3 t105 _ ?side1 ?side2 A8.1).mono ?_); (case side1 => exact zC (Kd.C_below HR0_3.1 HB.1)); (case side2 => exact HC0_3.1); rintro e w13 ⟨rfl, hb⟩; have _ := aM (blk_below (zK BK101.1) hb); have _ := aM (below_step (zB1 HB.1 GE101.1) hb); clear BK101 HB; rename_i BK101 HB; (try clear hb); (try clear hb2); (try clear hk); (try clear hi)))
    go_ret
    exact ⟨by first | rfl | (simp [errW_none, errW_some] <;> rfl) | (simp [*, errW_none, errW_some] <;> rfl), by exact zB1 HB.1 GE101.1⟩
   ·replace c7 := Bool.eq_false_iff.mpr c7; subst c7; replace H := zy0 H; obtain rfl := Option.some.inj H
    go_enter Tryd.func60, Tryd.ntmps60
    go_wp2_with (first | ((with_reducible refine gate_dst (N := 1) rfl ?_); refine zbx 1 #[.int .i64 a0_0, .int .i64 a0_1, .slice A0_2 l0_2.length c0_2, .slice A0_3 l0_3.length c0_3] 31 ?_; intro gb101 hg w14 hbox hb; have _ := aM (below_step (zB HB.1) hb); have _ := aM (hbox); have _ := aM (zge hg (zB HB.1)); have _ := aM (zge hg (zB HB.1)); clear HB; rename_i HB BK101 GW101 GE101; clear hb hbox hg; obtain ⟨hcz15_0, hcz15_1, hcz15_2, hcz15_3, hfz15_0, hfz15_1, hfz15_2, hfz15_3⟩ := zc4f BK101.1) | ((with_reducible refine gate_callee (f := 54) rfl ?_); refine zgL (some 5) Tryd.func54 #[.int .i64 a0_0, .int .i64 1, .int .i64 4] ?_; (with_reducible refine (spec_l6In.calls a0_0 1 4 true _ A2.1).mono ?_); rintro e w' ⟨rfl, ⟨nd, rfl⟩⟩; refine ⟨_, rfl, ?_⟩) | (go_at_call 54; (with_reducible refine (spec_l6In.calls a0_1 1 5 true _ A4.1).mono ?_); rintro e w' ⟨rfl, ⟨nd, rfl⟩⟩) | (go_at_call 91; (with_reducible refine (spec_l1Files.calls k _ _ l0_2 false _ ?side1 ?side2 A6.1).mono ?_); (case side1 => exact (Kd.C_below HR0_2.1 (zB1 HB.1 GE101.1))); (case side2 => exact HC0_2.1); rintro e w16 ⟨rfl, hb⟩; have _ := aM (blk_below (zK BK101.1) hb); have _ := aM (below_step (zB1 HB.1 GE101.1) hb); clear BK101 HB; rename_i BK101 HB; (try clear hb); (try clear hb2); (try clear hk); (try clear hi)))
    go_ret
    exact ⟨by first | rfl | (simp [errW_none, errW_some] <;> rfl) | (simp [*, errW_none, errW_some] <;> rfl), by exact zB1 HB.1 GE101.1⟩
  ·replace c5 := Bool.eq_false_iff.mpr c5; subst c5; replace H := zy0 H; obtain rfl := Option.some.inj H
   go_enter Tryd.func60, Tryd.ntmps60
   go_wp2_with (first | ((with_reducible refine gate_dst (N := 1) rfl ?_); refine zbx 1 #[.int .i64 a0_0, .int .i64 a0_1, .slice A0_2 l0_2.length c0_2, .slice A0_3 l0_3.length c0_3] 31 ?_; intro gb101 hg w17 hbox hb; have _ := aM (below_step (zB HB.1) hb); have _ := aM (hbox); have _ := aM (zge hg (zB HB.1)); have _ := aM (zge hg (zB HB.1)); clear HB; rename_i HB BK101 GW101 GE101; clear hb hbox hg; obtain ⟨hcz18_0, hcz18_1, hcz18_2, hcz18_3, hfz18_0, hfz18_1, hfz18_2, hfz18_3⟩ := zc4f BK101.1) | ((with_reducible refine gate_callee (f := 54) rfl ?_); refine zgL (some 5) Tryd.func54 #[.int .i64 a0_0, .int .i64 1, .int .i64 4] ?_; (with_reducible refine (spec_l6In.calls a0_0 1 4 true _ A2.1).mono ?_); rintro e w' ⟨rfl, ⟨nd, rfl⟩⟩; refine ⟨_, rfl, ?_⟩) | (go_at_call 54; (with_reducible refine (spec_l6In.calls a0_1 1 5 false _ A4.1).mono ?_); rintro e w' ⟨rfl, ⟨nd, rfl⟩⟩))
   go_ret
   exact ⟨by first | rfl | (simp [errW_none, errW_some] <;> rfl) | (simp [*, errW_none, errW_some] <;> rfl), by exact zB1 HB.1 GE101.1⟩
 ·replace c3 := Bool.eq_false_iff.mpr c3; subst c3; replace H := zy0 H; obtain rfl := Option.some.inj H
  go_enter Tryd.func60, Tryd.ntmps60
  go_wp2_with (first | ((with_reducible refine gate_dst (N := 1) rfl ?_); refine zbx 1 #[.int .i64 a0_0, .int .i64 a0_1, .slice A0_2 l0_2.length c0_2, .slice A0_3 l0_3.length c0_3] 31 ?_; intro gb101 hg w19 hbox hb; have _ := aM (below_step (zB HB.1) hb); have _ := aM (hbox); have _ := aM (zge hg (zB HB.1)); have _ := aM (zge hg (zB HB.1)); clear HB; rename_i HB BK101 GW101 GE101; clear hb hbox hg; obtain ⟨hcz20_0, hcz20_1, hcz20_2, hcz20_3, hfz20_0, hfz20_1, hfz20_2, hfz20_3⟩ := zc4f BK101.1) | ((with_reducible refine gate_callee (f := 54) rfl ?_); refine zgL (some 5) Tryd.func54 #[.int .i64 a0_0, .int .i64 1, .int .i64 4] ?_; (with_reducible refine (spec_l6In.calls a0_0 1 4 false _ A2.1).mono ?_); rintro e w' ⟨rfl, ⟨nd, rfl⟩⟩; refine ⟨_, rfl, ?_⟩))
  go_ret
  exact ⟨by first | rfl | (simp [errW_none, errW_some] <;> rfl) | (simp [*, errW_none, errW_some] <;> rfl), by exact zB1 HB.1 GE101.1⟩

/-! ### spec_l6Dec: function 62 -/
def spec_l6Dec.f : Nat → Int → Option (ByteArray)
 | 0, _ => none
 | k + 1, a0 => if a0 < (-9223372036854775807) then (some (⟨#[45, 57, 50, 50, 51, 51, 55, 50, 48, 51, 54, 56, 53, 52, 55, 55, 53, 56, 48, 56]⟩ : ByteArray)) else (if a0 < 0 then ((spec_l6Dec.f k (wrap64 (-a0))).bind fun t106 => (if 1 + t106.size ≤ 9223372036854775807 then (some ((⟨#[45]⟩ : ByteArray) ++ t106)) else (none))) else (if a0 < 10 then (some (strOfNums (([(wrap64 (48 + a0)) % 256] : List Int)))) else ((spec_l6Dec.f k (wrap64 (Int.tdiv a0 10))).bind fun t110 => ((some (([(wrap64 (48 + (Int.tmod a0 10))) % 256] : List Int) : List Int)).bind fun y111 => (if t110.size + (strOfNums y111).size ≤ 9223372036854775807 then (some (t110 ++ (strOfNums y111))) else (none))))))
theorem spec_l6Dec.mono_l : ∀ k, (∀ y0, LeO (spec_l6Dec.f k y0) (spec_l6Dec.f (k + 1) y0))
 | 0 => fun _ r h => by simp [spec_l6Dec.f] at h
 | k + 1 => by
  have ih0 := spec_l6Dec.mono_l k
  ·intro y0
   unfold spec_l6Dec.f
   repeat' first
   | (with_reducible exact ih0 _)
   | (with_reducible exact LeO.refl _)
   | (with_reducible exact LeO.none _)
   | (with_reducible refine LeO.ite ?_ ?_)
   | (with_reducible refine LeO.bind ?_ (fun _ => ?_))
   | exact ih0 _
   | exact LeO.none _
   | refine LeO.ite ?_ ?_
   | refine LeO.bind ?_ (fun _ => ?_)
theorem spec_l6Dec.mono : ∀ a0 k, LeO (spec_l6Dec.f k a0) (spec_l6Dec.f (k + 1) a0) := by
 intro a0 k
 have ih0 := spec_l6Dec.mono_l k
 exact ih0 a0
def spec_l6Dec.T7 : Bool × List (List Nat × List Nat) := (true, [([], []), ([0], [0]), ([1], [1]), ([], []), ([3], [3]), ([4], [4]), ([5], [5]), ([6], [6]), ([7], [7]), ([2, 8], [2, 8]), ([9, 2, 0, 1, 2, 3, 4, 5, 6, 7, 8, 9], [9])])
def spec_l6Dec.B7 : List Nat := [0, 1, 3, 0, 8, 24, 56, 120, 248, 511, 1023]
theorem spec_l6Dec.tab7 : rtab .any (opsOf Tryd.f62 7) = spec_l6Dec.T7 := by kernel_rfl
theorem spec_l6Dec.bits7 : waitsOk spec_l6Dec.T7.2 spec_l6Dec.B7 = true := by kernel_rfl
set_option maxHeartbeats 8000000 in
set_option maxRecDepth 100000 in
theorem spec_l6Dec.calls (k : Nat) : ∀ (a0 : Int) (r : ByteArray) (w : World) (h : spec_l6Dec.f k a0 = some r),
  Calls Tryd.prog 62 #[.int .i64 a0] w fun e w' => e = .returned (.string r) ∧ Below w.heap.size w w' := by
 induction k using Nat.strongRecOn with
 | _ k ih =>
 intro a0 r w h; cases k with
 | zero => exact absurd h (by simp [spec_l6Dec.f])
 | succ k =>
 simp only [spec_l6Dec.f] at h; have HB := aM (Below.refl w.heap.size w); have H : (if a0 < (-9223372036854775807) then (some (⟨#[45, 57, 50, 50, 51, 51, 55, 50, 48, 51, 54, 56, 53, 52, 55, 55, 53, 56, 48, 56]⟩ : ByteArray)) else (if a0 < 0 then ((spec_l6Dec.f k (wrap64 (-a0))).bind fun t106 => (if 1 + t106.size ≤ 9223372036854775807 then (some ((⟨#[45]⟩ : ByteArray) ++ t106)) else (none))) else (if a0 < 10 then (some (strOfNums (([(wrap64 (48 + a0)) % 256] : List Int)))) else ((spec_l6Dec.f k (wrap64 (Int.tdiv a0 10))).bind fun t110 => ((some (([(wrap64 (48 + (Int.tmod a0 10))) % 256] : List Int) : List Int)).bind fun y111 => (if t110.size + (strOfNums y111).size ≤ 9223372036854775807 then (some (t110 ++ (strOfNums y111))) else (none))))))) = some r := h; clear h
 by_cases c2 : a0 < (-9223372036854775807)
 ·rw [if_pos c2] at H; have c2b0 : decide (a0 < (-9223372036854775807)) = true := decide_eq_true c2; clear c2; obtain rfl := Option.some.inj H
  go_enter Tryd.func62, Tryd.ntmps62
  go_wp2
  go_ret
  exact ⟨by first | rfl | (simp [errW_none, errW_some] <;> rfl) | (simp [*, errW_none, errW_some] <;> rfl), by exact zB HB.1⟩
 ·rw [if_neg c2] at H; have c2b0 : decide (a0 < (-9223372036854775807)) = false := decide_eq_false c2; clear c2
  by_cases c3 : a0 < 0
  ·rw [if_pos c3] at H; have c3b0 : decide (a0 < 0) = true := decide_eq_true c3; clear c3; replace H := Option.bind_eq_some_iff.mp H; obtain ⟨t106, A40, H⟩ := H; (try dsimp only at H); have A4 := aM A40; clear A40; replace H := zif H; obtain ⟨c5, H⟩ := H; have c5b0 := eq_true c5; have c5b1 : decide (1 + t106.size ≤ 9223372036854775807) = true := decide_eq_true c5
   try have c5b2 : (9223372036854775807 < 1 + t106.size) = False := eq_false (Nat.not_lt.2 c5)
   obtain rfl := Option.some.inj H
   go_enter Tryd.func62, Tryd.ntmps62
   go_wp2_with (first | ((with_reducible refine gate_callee (f := 62) rfl ?_); refine zgL (some 9) Tryd.func62 #[.int .i64 (wrap64 (-a0))] ?_; (with_reducible refine (ih k (by omega) (wrap64 (-a0)) t106 _ A4.1).mono ?_); rintro e w6 ⟨rfl, hb⟩; refine ⟨_, rfl, ?_⟩; have _ := aM (below_step (zB HB.1) hb); clear HB; rename_i HB; (try clear hb); (try clear hb2); (try clear hk); (try clear hi)))
   go_ret
   exact ⟨by first | rfl | (simp [errW_none, errW_some] <;> rfl) | (simp [*, errW_none, errW_some] <;> rfl), by exact zB HB.1⟩
  ·rw [if_neg c3] at H; have c3b0 : decide (a0 < 0) = false := decide_eq_false c3; clear c3
   by_cases c7 : a0 < 10
   ·rw [if_pos c7] at H; have c7b0 : decide (a0 < 10) = true := decide_eq_true c7; clear c7; obtain ⟨y107, hy107⟩ : ∃ y_ : List Int, y_ = (([(wrap64 (48 + a0)) % 256] : List Int)) := ⟨_, rfl⟩; (first | (replace H := zbs hy107 H; try dsimp only at H) | rw [← hy107] at H); have Ny107 := aM hy107; clear hy107; obtain rfl := Option.some.inj H
    go_enter Tryd.func62, Tryd.ntmps62
    go_wp2_with (first | ((with_reducible refine gate_dst (N := 16) rfl ?_); refine Kd.R_lit (Kd.int .u8) _ 5 ?hg (N := 16) ?hd (xs := ([(wrap64 (48 + a0)) % 256] : List Int)) (inner := [.int .u8 ((wrap64 (48 + a0)) % 256)]) (ok := fun _ => True) (okp := fun _ => True) ?hr ?hp (fun _ hk => hk) trivial (Below.refl _ _) (Nat.le_refl _) (by simp) ?_; (case hd => rfl); (case hg => rfl); (case hr => first | (go_simp; done) | (go_simp; rfl)); (case hp => exact (Reps.one (show Kd.M (Kd.int .u8) _ _ _ ((wrap64 (48 + a0)) % 256) [.int .u8 ((wrap64 (48 + a0)) % 256)] from rfl) (Reps.none _ _))); intro v108 w8 ho9 hb hg_ hnew_; clear hg_ hnew_; (first | rw [← Ny107.1] at ho9 | (simp only [Int.reduceToNat] at ho9; rw [← Ny107.1] at ho9)); have _ := aM (Kd.R_lower ho9 (below_size (zB HB.1))); have _ := aM (below_step (zB HB.1) hb); clear HB; rename_i HO109 HB; clear hb ho9; have hcv10 := own_string (P := Tryd.prog) Tryd.underlying22 Tryd.underlying5 Tryd.underlying9 (Kd.own_of_R HO109.1)))
    go_ret
    exact ⟨by first | rfl | (simp [errW_none, errW_some] <;> rfl) | (simp [*, errW_none, errW_some] <;> rfl), by exact zB HB.1⟩
   ·rw [if_neg c7] at H; have c7b0 : decide (a0 < 10) = false := decide_eq_false c7; clear c7; replace H := Option.bind_eq_some_iff.mp H; obtain ⟨t110, A110, H⟩ := H; (try dsimp only at H); have A11 := aM A110; clear A110; obtain ⟨y111, hy111⟩ : ∃ y_ : List Int, y_ = (([(wrap64 (48 + (Int.tmod a0 10))) % 256] : List Int)) := ⟨_, rfl⟩; (first | (replace H := zbs hy111 H; try dsimp only at H) | rw [← hy111] at H); have Ny111 := aM hy111; clear hy111; replace H := zif H; obtain ⟨c12, H⟩ := H; have c12b0 := eq_true c12; have c12b1 : decide (t110.size + (strOfNums y111).size ≤ 9223372036854775807) = true := decide_eq_true c12
    try have c12b2 : (9223372036854775807 < t110.size + (strOfNums y111).size) = False := eq_false (Nat.not_lt.2 c12)
    obtain rfl := Option.some.inj H
    go_enter Tryd.func62, Tryd.ntmps62
    try go_wp2
    have _ := aM (below_drew1 HB.1); clear HB; rename_i HB
    refine start_ (n := 11) (S := fun w' => True) (ds := []) (zA 11 0) (by kernel_rfl) rfl rfl trivial (fun hHeld => ?_); refine with_tabW spec_l6Dec.tab7 spec_l6Dec.bits7 (fun HT_ HW_ => ?_)
    generalize w.drew = w13 at HB hHeld ⊢; refine zu HT_ 0 (some 18) (zA 11 1) ?_; refine zu HT_ 1 (some 19) (zA 11 3) ?_; refine zu HT_ 3 (some 21) (zA 11 11) ?_; refine zu HT_ 4 (some 22) (zA 11 27) ?_; refine zu HT_ 5 (some 23) (zA 11 59) ?_; refine zu HT_ 6 (some 24) (zA 11 123) ?_; refine join_ (σ := Value) 2 (zA 11 511) (fun s_ => [(20, .string t110), (25, s_), (26, .string (strOfNums y111))]) (fun s_ w' => (Kd.R (Kd.int .u8) 5 w' w.heap.size (fun _ => True) s_ y111) ∧ (Below w.heap.size w w')) ?_ ?_; rotate_left
    ·intro hCont; refine two_ (i := 2) (j := 7) (Ni := some 20) (Nj := some 25) (zA 11 127) (zA 11 251) rfl rfl rfl rfl (two_of HT_.1 (by kernel_rfl)) (by decide) (by decide) (fun K hK => ?_) (fun K hK => ?_)
     ·skip
      refine zg Tryd.func62 #[.int .i64 (wrap64 (Int.tdiv a0 10))] ?_; (with_reducible refine (ih k (by omega) (wrap64 (Int.tdiv a0 10)) t110 _ A11.1).mono ?_); rintro e w14 ⟨rfl, hb⟩; refine ⟨_, rfl, ?_⟩; have _ := aM (below_step (zB HB.1) hb); clear HB; rename_i HB; (try clear hb); (try clear hb2); (try clear hk); (try clear hi); refine hK.out _ _ trivial (fun hHeld => ?_); clear hK K; refine zn (some 20) ?_; refine zo HT_ 7 (some 25) (zA 11 255) (fun K hK => ?_)
      refine Kd.R_lit_step (Kd.int .u8) _ 5 ?hg (N := 25) ?hd (xs := ([(wrap64 (48 + (Int.tmod a0 10))) % 256] : List Int)) (inner := [.int .u8 ((wrap64 (48 + (Int.tmod a0 10))) % 256)]) (ok := fun _ => True) (okp := fun _ => True) ?hr ?hp (fun _ hk => hk) trivial (Below.refl _ _) (Nat.le_refl _) (by simp) ?_; (case hd => rfl); (case hg => rfl); (case hr => first | (go_simp; done) | (go_simp; rfl)); (case hp => exact (Reps.one (show Kd.M (Kd.int .u8) _ _ _ ((wrap64 (48 + (Int.tmod a0 10))) % 256) [.int .u8 ((wrap64 (48 + (Int.tmod a0 10))) % 256)] from rfl) (Reps.none _ _)))
      intro v112 w15 ho16 hb hg_ hnew_; clear hg_ hnew_; (first | rw [← Ny111.1] at ho16 | (simp only [Int.reduceToNat] at ho16; rw [← Ny111.1] at ho16)); have _ := aM (Kd.R_lower ho16 (below_size (zB HB.1))); have _ := aM (below_step (zB HB.1) hb); clear HB; rename_i HO113 HB; clear hb ho16; refine hK.out _ _ trivial (fun hHeld => ?_); clear hK K; refine zn (some 25) ?_; refine zo HT_ 8 (some 26) (zA 11 511) (fun K hK => ?_); have hcv17 := own_string (P := Tryd.prog) Tryd.underlying22 Tryd.underlying5 Tryd.underlying9 (Kd.own_of_R HO113.1); refine value_ (w1 := ?_) (v := ?_) (by rfl) rfl ?_ ?_; rotate_left 2
      ·go_simp
       constructor
       ·rfl
       ·rfl
      clear hcv17; refine hK.out _ _ trivial (fun hHeld => ?_); clear hK K; refine zn (some 26) ?_; exact norm_ (by simp only [putAll, zp0, zp1, zp2, zp3, zp4]) (hCont (v112) _ ⟨(zR HO113.1), (zB HB.1)⟩)
     ·skip
      refine Kd.R_lit_step (Kd.int .u8) _ 5 ?hg (N := 25) ?hd (xs := ([(wrap64 (48 + (Int.tmod a0 10))) % 256] : List Int)) (inner := [.int .u8 ((wrap64 (48 + (Int.tmod a0 10))) % 256)]) (ok := fun _ => True) (okp := fun _ => True) ?hr ?hp (fun _ hk => hk) trivial (Below.refl _ _) (Nat.le_refl _) (by simp) ?_; (case hd => rfl); (case hg => rfl); (case hr => first | (go_simp; done) | (go_simp; rfl)); (case hp => exact (Reps.one (show Kd.M (Kd.int .u8) _ _ _ ((wrap64 (48 + (Int.tmod a0 10))) % 256) [.int .u8 ((wrap64 (48 + (Int.tmod a0 10))) % 256)] from rfl) (Reps.none _ _)))
      intro v112 w14 ho15 hb hg_ hnew_; clear hg_ hnew_; (first | rw [← Ny111.1] at ho15 | (simp only [Int.reduceToNat] at ho15; rw [← Ny111.1] at ho15)); have _ := aM (Kd.R_lower ho15 (below_size (zB HB.1))); have _ := aM (below_step (zB HB.1) hb); clear HB; rename_i HO113 HB; clear hb ho15; refine hK.out _ _ trivial (fun hHeld => ?_); clear hK K; refine zn (some 25) ?_; refine two_ (i := 2) (j := 8) (Ni := some 20) (Nj := some 26) (zA 11 255) (zA 11 507) rfl rfl rfl rfl (two_of HT_.1 (by kernel_rfl)) (by decide) (by decide) (fun K hK => ?_) (fun K hK => ?_)
      ·skip
       refine zg Tryd.func62 #[.int .i64 (wrap64 (Int.tdiv a0 10))] ?_; (with_reducible refine (ih k (by omega) (wrap64 (Int.tdiv a0 10)) t110 _ A11.1).mono ?_); rintro e w16 ⟨rfl, hb⟩; refine ⟨_, rfl, ?_⟩; have _ := aM (Kd.R_below (zR HO113.1) hb); have _ := aM (below_step (zB HB.1) hb); clear HO113 HB; rename_i HO113 HB; (try clear hb); (try clear hb2); (try clear hk); (try clear hi); refine hK.out _ _ trivial (fun hHeld => ?_); clear hK K; refine zn (some 20) ?_; refine zo HT_ 8 (some 26) (zA 11 511) (fun K hK => ?_); have hcv17 := own_string (P := Tryd.prog) Tryd.underlying22 Tryd.underlying5 Tryd.underlying9 (Kd.own_of_R HO113.1); refine value_ (w1 := ?_) (v := ?_) (by rfl) rfl ?_ ?_; rotate_left 2
       ·go_simp
        constructor
        ·rfl
        ·rfl
       clear hcv17; refine hK.out _ _ trivial (fun hHeld => ?_); clear hK K; refine zn (some 26) ?_; exact norm_ (by simp only [putAll, zp0, zp1, zp2, zp3, zp4]) (hCont (v112) _ ⟨(zR HO113.1), (zB HB.1)⟩)
      ·skip
       have hcv16 := own_string (P := Tryd.prog) Tryd.underlying22 Tryd.underlying5 Tryd.underlying9 (Kd.own_of_R HO113.1); refine value_ (w1 := ?_) (v := ?_) (by rfl) rfl ?_ ?_; rotate_left 2
       ·go_simp
        constructor
        ·rfl
        ·rfl
       clear hcv16; refine hK.out _ _ trivial (fun hHeld => ?_); clear hK K; refine zn (some 26) ?_; refine zo HT_ 2 (some 20) (zA 11 511) (fun K hK => ?_); refine zg Tryd.func62 #[.int .i64 (wrap64 (Int.tdiv a0 10))] ?_; (with_reducible refine (ih k (by omega) (wrap64 (Int.tdiv a0 10)) t110 _ A11.1).mono ?_); rintro e w17 ⟨rfl, hb⟩; refine ⟨_, rfl, ?_⟩; have _ := aM (Kd.R_below (zR HO113.1) hb); have _ := aM (below_step (zB HB.1) hb); clear HO113 HB; rename_i HO113 HB; (try clear hb); (try clear hb2); (try clear hk); (try clear hi); refine hK.out _ _ trivial (fun hHeld => ?_); clear hK K; refine zn (some 20) ?_; exact norm_ (by simp only [putAll, zp0, zp1, zp2, zp3, zp4]) (hCont (v112) _ ⟨(zR HO113.1), (zB HB.1)⟩)
    rintro v112 w18 ⟨h0_, h1_⟩; have n0_ : Aside0 (Kd.R (Kd.int .u8) 5 w18 w.heap.size (fun _ => True) v112 y111) := ⟨h0_⟩; have n1_ : Aside0 (Below w.heap.size w w18) := ⟨h1_⟩; clear HB h0_ h1_; have HO113 := n0_; have HB := n1_; clear n0_ n1_; have hHeld := trivial; refine norm_ (a' := ?_) ?_ ?_; rotate_left
    ·simp only [putAll, zp0, zp1, zp2, zp3, zp4]; rfl
    refine zu HT_ 9 (some 27) (zA 11 1023) ?_; refine zu HT_ 10 (some 2) (zA 11 2047) ?_; refine done_ (done_of HT_.1 (by kernel_rfl)) ?_
    try go_wp2
    go_ret
    exact ⟨by first | rfl | (simp [errW_none, errW_some] <;> rfl) | (simp [*, errW_none, errW_some] <;> rfl), by exact zB HB.1⟩

/-! ### spec_l1Name: function 61 -/
def spec_l1Name.f (k : Nat) (a0 : Int) (a1 : Int) : Option (ByteArray) := (some (([(wrap64 ((wrap64 (97 + a0)) - 1)) % 256] : List Int) : List Int)).bind fun y114 => ((spec_l6Dec.f k a1).bind fun t117 => (if (strOfNums y114).size + t117.size ≤ 9223372036854775807 then (some ((strOfNums y114) ++ t117)) else (none)))
theorem spec_l1Name.mono : ∀ a0 a1 k, LeO (spec_l1Name.f k a0 a1) (spec_l1Name.f (k + 1) a0 a1) := by
 intro a0 a1 k
 unfold spec_l1Name.f
 repeat' with_reducible first | apply spec_l6Dec.mono | exact LeO.refl _ | exact LeO.none _ | refine LeO.ite ?_ ?_ | refine LeO.bind ?_ (fun _ => ?_)
def spec_l1Name.T1 : Bool × List (List Nat × List Nat) := (true, [([], []), ([0], [0]), ([1], [1]), ([2], [2]), ([3], [3]), ([4], [4]), ([], []), ([6], [6]), ([5, 7], [5, 7]), ([8, 7, 0, 1, 2, 3, 4, 5, 6, 7, 8], [8])])
def spec_l1Name.B1 : List Nat := [0, 1, 3, 7, 15, 31, 0, 64, 255, 511]
theorem spec_l1Name.tab1 : rtab .any (opsOf Tryd.f61 1) = spec_l1Name.T1 := by kernel_rfl
theorem spec_l1Name.bits1 : waitsOk spec_l1Name.T1.2 spec_l1Name.B1 = true := by kernel_rfl
set_option maxHeartbeats 8000000 in
set_option maxRecDepth 100000 in
theorem spec_l1Name.calls (k : Nat) (a0 : Int) (a1 : Int) (r : ByteArray) (w : World) (h : spec_l1Name.f k a0 a1 = some r) :
  Calls Tryd.prog 61 #[.int .i64 a0, .int .i64 a1] w fun e w' => e = .returned (.string r) ∧ Below w.heap.size w w' := by
 have HB := aM (Below.refl w.heap.size w); have H : ((some (([(wrap64 ((wrap64 (97 + a0)) - 1)) % 256] : List Int) : List Int)).bind fun y114 => ((spec_l6Dec.f k a1).bind fun t117 => (if (strOfNums y114).size + t117.size ≤ 9223372036854775807 then (some ((strOfNums y114) ++ t117)) else (none)))) = some r := h; clear h; obtain ⟨y114, hy114⟩ : ∃ y_ : List Int, y_ = (([(wrap64 ((wrap64 (97 + a0)) - 1)) % 256] : List Int)) := ⟨_, rfl⟩; (first | (replace H := zbs hy114 H; try dsimp only at H) | rw [← hy114] at H); have Ny114 := aM hy114; clear hy114; replace H := Option.bind_eq_some_iff.mp H; obtain ⟨t117, A30, H⟩ := H; (try dsimp only at H); have A3 := aM A30; clear A30; replace H := zif H; obtain ⟨c4, H⟩ := H; have c4b0 := eq_true c4; have c4b1 : decide ((strOfNums y114).size + t117.size ≤ 9223372036854775807) = true := decide_eq_true c4
 try have c4b2 : (9223372036854775807 < (strOfNums y114).size + t117.size) = False := eq_false (Nat.not_lt.2 c4)
 obtain rfl := Option.some.inj H
 go_enter Tryd.func61, Tryd.ntmps61
 try go_wp2
 have _ := aM (below_drew1 HB.1); clear HB; rename_i HB
 refine start_ (n := 10) (S := fun w' => True) (ds := []) (zA 10 0) (by kernel_rfl) rfl rfl trivial (fun hHeld => ?_); refine with_tabW spec_l1Name.tab1 spec_l1Name.bits1 (fun HT_ HW_ => ?_)
 generalize w.drew = w5 at HB hHeld ⊢; refine zu HT_ 0 (some 5) (zA 10 1) ?_; refine zu HT_ 1 (some 6) (zA 10 3) ?_; refine zu HT_ 2 (some 7) (zA 10 7) ?_; refine zu HT_ 3 (some 8) (zA 10 15) ?_; refine zu HT_ 6 (some 11) (zA 10 79) ?_; refine join_ (σ := Value) 2 (zA 10 255) (fun s_ => [(9, s_), (10, .string (strOfNums y114)), (12, .string t117)]) (fun s_ w' => (Kd.R (Kd.int .u8) 5 w' w.heap.size (fun _ => True) s_ y114) ∧ (Below w.heap.size w w')) ?_ ?_; rotate_left
 ·intro hCont; refine two_ (i := 4) (j := 7) (Ni := some 9) (Nj := some 12) (zA 10 95) (zA 10 207) rfl rfl rfl rfl (two_of HT_.1 (by kernel_rfl)) (by decide) (by decide) (fun K hK => ?_) (fun K hK => ?_)
  ·skip
   refine Kd.R_lit_step (Kd.int .u8) _ 5 ?hg (N := 9) ?hd (xs := ([(wrap64 ((wrap64 (97 + a0)) - 1)) % 256] : List Int)) (inner := [.int .u8 ((wrap64 ((wrap64 (97 + a0)) - 1)) % 256)]) (ok := fun _ => True) (okp := fun _ => True) ?hr ?hp (fun _ hk => hk) trivial (Below.refl _ _) (Nat.le_refl _) (by simp) ?_; (case hd => rfl); (case hg => rfl); (case hr => first | (go_simp; done) | (go_simp; rfl)); (case hp => exact (Reps.one (show Kd.M (Kd.int .u8) _ _ _ ((wrap64 ((wrap64 (97 + a0)) - 1)) % 256) [.int .u8 ((wrap64 ((wrap64 (97 + a0)) - 1)) % 256)] from rfl) (Reps.none _ _)))
   intro v115 w6 ho7 hb hg_ hnew_; clear hg_ hnew_; (first | rw [← Ny114.1] at ho7 | (simp only [Int.reduceToNat] at ho7; rw [← Ny114.1] at ho7)); have _ := aM (Kd.R_lower ho7 (below_size (zB HB.1))); have _ := aM (below_step (zB HB.1) hb); clear HB; rename_i HO116 HB; clear hb ho7; refine hK.out _ _ trivial (fun hHeld => ?_); clear hK K; refine zn (some 9) ?_; refine two_ (i := 5) (j := 7) (Ni := some 10) (Nj := some 12) (zA 10 127) (zA 10 223) rfl rfl rfl rfl (two_of HT_.1 (by kernel_rfl)) (by decide) (by decide) (fun K hK => ?_) (fun K hK => ?_)
   ·skip
    have hcv8 := own_string (P := Tryd.prog) Tryd.underlying22 Tryd.underlying5 Tryd.underlying9 (Kd.own_of_R HO116.1); refine value_ (w1 := ?_) (v := ?_) (by rfl) rfl ?_ ?_; rotate_left 2
    ·go_simp
     constructor
     ·rfl
     ·rfl
    clear hcv8; refine hK.out _ _ trivial (fun hHeld => ?_); clear hK K; refine zn (some 10) ?_; refine zo HT_ 7 (some 12) (zA 10 255) (fun K hK => ?_); refine zg Tryd.func62 #[.int .i64 a1] ?_; (with_reducible refine (spec_l6Dec.calls k a1 t117 _ A3.1).mono ?_); rintro e w9 ⟨rfl, hb⟩; refine ⟨_, rfl, ?_⟩; have _ := aM (Kd.R_below (zR HO116.1) hb); have _ := aM (below_step (zB HB.1) hb); clear HO116 HB; rename_i HO116 HB; (try clear hb); (try clear hb2); (try clear hk); (try clear hi); refine hK.out _ _ trivial (fun hHeld => ?_); clear hK K; refine zn (some 12) ?_; exact norm_ (by simp only [putAll, zp0, zp1, zp2, zp3, zp4]) (hCont (v115) _ ⟨(zR HO116.1), (zB HB.1)⟩)
   ·skip
    refine zg Tryd.func62 #[.int .i64 a1] ?_; (with_reducible refine (spec_l6Dec.calls k a1 t117 _ A3.1).mono ?_); rintro e w8 ⟨rfl, hb⟩; refine ⟨_, rfl, ?_⟩; have _ := aM (Kd.R_below (zR HO116.1) hb); have _ := aM (below_step (zB HB.1) hb); clear HO116 HB; rename_i HO116 HB; (try clear hb); (try clear hb2); (try clear hk); (try clear hi); refine hK.out _ _ trivial (fun hHeld => ?_); clear hK K; refine zn (some 12) ?_; refine zo HT_ 5 (some 10) (zA 10 255) (fun K hK => ?_); have hcv9 := own_string (P := Tryd.prog) Tryd.underlying22 Tryd.underlying5 Tryd.underlying9 (Kd.own_of_R HO116.1); refine value_ (w1 := ?_) (v := ?_) (by rfl) rfl ?_ ?_; rotate_left 2
    ·go_simp
     constructor
     ·rfl
     ·rfl
    clear hcv9; refine hK.out _ _ trivial (fun hHeld => ?_); clear hK K; refine zn (some 10) ?_; exact norm_ (by simp only [putAll, zp0, zp1, zp2, zp3, zp4]) (hCont (v115) _ ⟨(zR HO116.1), (zB HB.1)⟩)
  ·skip
   refine zg Tryd.func62 #[.int .i64 a1] ?_; (with_reducible refine (spec_l6Dec.calls k a1 t117 _ A3.1).mono ?_); rintro e w6 ⟨rfl, hb⟩; refine ⟨_, rfl, ?_⟩; have _ := aM (below_step (zB HB.1) hb); clear HB; rename_i HB; (try clear hb); (try clear hb2); (try clear hk); (try clear hi); refine hK.out _ _ trivial (fun hHeld => ?_); clear hK K; refine zn (some 12) ?_; refine zo HT_ 4 (some 9) (zA 10 223) (fun K hK => ?_)
   refine Kd.R_lit_step (Kd.int .u8) _ 5 ?hg (N := 9) ?hd (xs := ([(wrap64 ((wrap64 (97 + a0)) - 1)) % 256] : List Int)) (inner := [.int .u8 ((wrap64 ((wrap64 (97 + a0)) - 1)) % 256)]) (ok := fun _ => True) (okp := fun _ => True) ?hr ?hp (fun _ hk => hk) trivial (Below.refl _ _) (Nat.le_refl _) (by simp) ?_; (case hd => rfl); (case hg => rfl); (case hr => first | (go_simp; done) | (go_simp; rfl)); (case hp => exact (Reps.one (show Kd.M (Kd.int .u8) _ _ _ ((wrap64 ((wrap64 (97 + a0)) - 1)) % 256) [.int .u8 ((wrap64 ((wrap64 (97 + a0)) - 1)) % 256)] from rfl) (Reps.none _ _)))
   intro v115 w7 ho8 hb hg_ hnew_; clear hg_ hnew_; (first | rw [← Ny114.1] at ho8 | (simp only [Int.reduceToNat] at ho8; rw [← Ny114.1] at ho8)); have _ := aM (Kd.R_lower ho8 (below_size (zB HB.1))); have _ := aM (below_step (zB HB.1) hb); clear HB; rename_i HO116 HB; clear hb ho8; refine hK.out _ _ trivial (fun hHeld => ?_); clear hK K; refine zn (some 9) ?_; refine zo HT_ 5 (some 10) (zA 10 255) (fun K hK => ?_); have hcv9 := own_string (P := Tryd.prog) Tryd.underlying22 Tryd.underlying5 Tryd.underlying9 (Kd.own_of_R HO116.1); refine value_ (w1 := ?_) (v := ?_) (by rfl) rfl ?_ ?_; rotate_left 2
   ·go_simp
    constructor
    ·rfl
    ·rfl
   clear hcv9; refine hK.out _ _ trivial (fun hHeld => ?_); clear hK K; refine zn (some 10) ?_; exact norm_ (by simp only [putAll, zp0, zp1, zp2, zp3, zp4]) (hCont (v115) _ ⟨(zR HO116.1), (zB HB.1)⟩)
 rintro v115 w10 ⟨h0_, h1_⟩; have n0_ : Aside0 (Kd.R (Kd.int .u8) 5 w10 w.heap.size (fun _ => True) v115 y114) := ⟨h0_⟩; have n1_ : Aside0 (Below w.heap.size w w10) := ⟨h1_⟩; clear HB h0_ h1_; have HO116 := n0_; have HB := n1_; clear n0_ n1_; have hHeld := trivial; refine norm_ (a' := ?_) ?_ ?_; rotate_left
 ·simp only [putAll, zp0, zp1, zp2, zp3, zp4]; rfl
 refine zu HT_ 8 (some 13) (zA 10 511) ?_; refine zu HT_ 9 (some 4) (zA 10 1023) ?_; refine done_ (done_of HT_.1 (by kernel_rfl)) ?_
 try go_wp2
 go_ret
 exact ⟨by first | rfl | (simp [errW_none, errW_some] <;> rfl) | (simp [*, errW_none, errW_some] <;> rfl), by exact zB HB.1⟩

/-! ### spec_PkgText: function 22 -/
mutual
def spec_PkgText.l0 : Nat → ByteArray → Int → Int → Int → List (S67) → List (S69) → Option (ByteArray)
 | 0, _, _, _, _, _, _ => none
 | k + 1, x3, x4, x119000, x119001, x119002, x119003 => if x4 < (x119002.length : Int) then (if x3.size + 1 ≤ 9223372036854775807 then (if 0 ≤ x4 then ((spec_l6Dec.f k ((rd_T67 x119002 x4).f0)).bind fun t122 => (if (x3 ++ (⟨#[32]⟩ : ByteArray)).size + t122.size ≤ 9223372036854775807 then (if ((x3 ++ (⟨#[32]⟩ : ByteArray)) ++ t122).size + 1 ≤ 9223372036854775807 then ((spec_l6Dec.f k ((rd_T67 x119002 x4).f1)).bind fun t124 => (if (((x3 ++ (⟨#[32]⟩ : ByteArray)) ++ t122) ++ (⟨#[58]⟩ : ByteArray)).size + t124.size ≤ 9223372036854775807 then (spec_PkgText.l0 k ((((x3 ++ (⟨#[32]⟩ : ByteArray)) ++ t122) ++ (⟨#[58]⟩ : ByteArray)) ++ t124) (wrap64 (x4 + 1)) x119000 x119001 x119002 x119003) else (none))) else (none)) else (none))) else (none)) else (none)) else (spec_PkgText.l1 k x3 0 x119000 x119001 x119002 x119003)
def spec_PkgText.l1 : Nat → ByteArray → Int → Int → Int → List (S67) → List (S69) → Option (ByteArray)
 | 0, _, _, _, _, _, _ => none
 | k + 1, x3, x5, x119000, x119001, x119002, x119003 => if x5 < (x119003.length : Int) then (if x3.size + 1 ≤ 9223372036854775807 then (if 0 ≤ x5 then ((spec_l1Name.f k ((rd_T69 x119003 x5).f0) ((rd_T69 x119003 x5).f1)).bind fun t127 => (if (x3 ++ (⟨#[32]⟩ : ByteArray)).size + t127.size ≤ 9223372036854775807 then (spec_PkgText.l1 k ((x3 ++ (⟨#[32]⟩ : ByteArray)) ++ t127) (wrap64 (x5 + 1)) x119000 x119001 x119002 x119003) else (none))) else (none)) else (none)) else (some x3)
end
def spec_PkgText.f (k : Nat) (a0_0 : Int) (a0_1 : Int) (l0_2 : List (S67)) (l0_3 : List (S69)) : Option (ByteArray) := (spec_PkgOk.f k a0_0 a0_1 l0_2 l0_3).bind fun t119 => (if t119 = true then ((spec_l1Name.f k a0_0 a0_1).bind fun t120 => (spec_PkgText.l0 k t120 0 a0_0 a0_1 l0_2 l0_3)) else (some (⟨#[]⟩ : ByteArray)))
theorem spec_PkgText.mono_l : ∀ k, (∀ y0 y1 y2 y3 y4 y5, LeO (spec_PkgText.l0 k y0 y1 y2 y3 y4 y5) (spec_PkgText.l0 (k + 1) y0 y1 y2 y3 y4 y5)) ∧ (∀ y0 y1 y2 y3 y4 y5, LeO (spec_PkgText.l1 k y0 y1 y2 y3 y4 y5) (spec_PkgText.l1 (k + 1) y0 y1 y2 y3 y4 y5))
 | 0 => ⟨fun _ _ _ _ _ _ r h => by simp [spec_PkgText.l0] at h, fun _ _ _ _ _ _ r h => by simp [spec_PkgText.l1] at h⟩
 | k + 1 => by
  obtain ⟨ih0, ih1⟩ := spec_PkgText.mono_l k
  refine ⟨?_, ?_⟩
  ·intro y0 y1 y2 y3 y4 y5
   unfold spec_PkgText.l0
   repeat' first
   | (with_reducible exact ih0 _ _ _ _ _ _)
   | (with_reducible exact ih1 _ _ _ _ _ _)
   | (with_reducible exact spec_PkgOk.mono _ _ _ _ _)
   | (with_reducible exact spec_l1Name.mono _ _ _)
   | (with_reducible exact spec_l6Dec.mono _ _)
   | (with_reducible exact LeO.refl _)
   | (with_reducible exact LeO.none _)
   | (with_reducible refine LeO.ite ?_ ?_)
   | (with_reducible refine LeO.bind ?_ (fun _ => ?_))
   | exact ih0 _ _ _ _ _ _
   | exact ih1 _ _ _ _ _ _
   | exact spec_PkgOk.mono _ _ _ _ _
   | exact spec_l1Name.mono _ _ _
   | exact spec_l6Dec.mono _ _
   | exact LeO.none _
   | refine LeO.ite ?_ ?_
   | refine LeO.bind ?_ (fun _ => ?_)
  ·intro y0 y1 y2 y3 y4 y5
   unfold spec_PkgText.l1
   repeat' first
   | (with_reducible exact ih0 _ _ _ _ _ _)
   | (with_reducible exact ih1 _ _ _ _ _ _)
   | (with_reducible exact spec_PkgOk.mono _ _ _ _ _)
   | (with_reducible exact spec_l1Name.mono _ _ _)
   | (with_reducible exact spec_l6Dec.mono _ _)
   | (with_reducible exact LeO.refl _)
   | (with_reducible exact LeO.none _)
   | (with_reducible refine LeO.ite ?_ ?_)
   | (with_reducible refine LeO.bind ?_ (fun _ => ?_))
   | exact ih0 _ _ _ _ _ _
   | exact ih1 _ _ _ _ _ _
   | exact spec_PkgOk.mono _ _ _ _ _
   | exact spec_l1Name.mono _ _ _
   | exact spec_l6Dec.mono _ _
   | exact LeO.none _
   | refine LeO.ite ?_ ?_
   | refine LeO.bind ?_ (fun _ => ?_)
theorem spec_PkgText.mono : ∀ a0 a1 a2 a3 k, LeO (spec_PkgText.f k a0 a1 a2 a3) (spec_PkgText.f (k + 1) a0 a1 a2 a3) := by
 intro a0 a1 a2 a3 k
 obtain ⟨ih0, ih1⟩ := spec_PkgText.mono_l k
 unfold spec_PkgText.f
 repeat' with_reducible first | apply ih0 | apply ih1 | apply spec_PkgOk.mono | apply spec_l1Name.mono | apply spec_l6Dec.mono | exact LeO.refl _ | exact LeO.none _ | refine LeO.ite ?_ ?_ | refine LeO.bind ?_ (fun _ => ?_)
def spec_PkgText.T7 : Bool × List (List Nat × List Nat) := (true, [([], []), ([0], [0]), ([], []), ([2], [2]), ([], []), ([3, 4], [3, 4]), ([5], [5]), ([6], [6]), ([7], [7]), ([1, 8], [1, 8]), ([9], [9]), ([], []), ([11], [11]), ([], []), ([12, 13], [12, 13]), ([14], [14]), ([15], [15]), ([16, 8], [16]), ([10, 17], [10, 17]), ([18, 17, 0, 1, 2, 3, 4, 5, 6, 7, 8, 9, 10, 11, 12, 13, 14, 15, 16, 17, 18], [0, 18])])
def spec_PkgText.B7 : List Nat := [0, 1, 0, 4, 0, 28, 60, 124, 252, 511, 1023, 0, 2048, 0, 14336, 30720, 63488, 129532, 262143, 524287]
theorem spec_PkgText.tab7 : rtab .any (opsOf Tryd.f22 7) = spec_PkgText.T7 := by kernel_rfl
theorem spec_PkgText.bits7 : waitsOk spec_PkgText.T7.2 spec_PkgText.B7 = true := by kernel_rfl
def spec_PkgText.T11 : Bool × List (List Nat × List Nat) := (true, [([], []), ([0], [0]), ([], []), ([2], [2]), ([], []), ([3, 4], [3, 4]), ([5], [5]), ([6], [6]), ([], []), ([8], [8]), ([], []), ([9, 10], [9, 10]), ([11], [11]), ([12], [12]), ([7, 13], [7, 13]), ([1, 14], [1, 14]), ([15, 14, 0, 1, 2, 3, 4, 5, 6, 7, 8, 9, 10, 11, 12, 13, 14, 15], [0, 15])])
def spec_PkgText.B11 : List Nat := [0, 1, 0, 4, 0, 28, 60, 124, 0, 256, 0, 1792, 3840, 7936, 16380, 32767, 65535]
theorem spec_PkgText.tab11 : rtab .any (opsOf Tryd.f22 11) = spec_PkgText.T11 := by kernel_rfl
theorem spec_PkgText.bits11 : waitsOk spec_PkgText.T11.2 spec_PkgText.B11 = true := by kernel_rfl
set_option maxHeartbeats 8000000 in
set_option maxRecDepth 100000 in
theorem spec_PkgText.calls (k : Nat) (a0_0 : Int) (a0_1 : Int) (A0_2 : Option Addr) (c0_2 : Nat) (l0_2 : List (S67)) (A0_3 : Option Addr) (c0_3 : Nat) (l0_3 : List (S69)) (r : ByteArray) (w : World) (hr0_2 : Kd.C k67 w A0_2 l0_2.length l0_2) (hc0_2 : l0_2.length ≤ c0_2) (hr0_3 : Kd.C k69 w A0_3 l0_3.length l0_3) (hc0_3 : l0_3.length ≤ c0_3) (h : spec_PkgText.f k a0_0 a0_1 l0_2 l0_3 = some r) :
  Calls Tryd.prog 22 #[.agg #[.int .i64 a0_0, .int .i64 a0_1, .slice A0_2 l0_2.length c0_2, .slice A0_3 l0_3.length c0_3]] w fun e w' => e = .returned (.string r) ∧ Below w.heap.size w w' := by
 have hu31 := Tryd.underlying31; have HR0_2 := aM hr0_2; have HC0_2 := aM hc0_2; clear hr0_2 hc0_2; have HR0_3 := aM hr0_3; have HC0_3 := aM hc0_3; clear hr0_3 hc0_3; have HB := aM (Below.refl w.heap.size w); have H : ((spec_PkgOk.f k a0_0 a0_1 l0_2 l0_3).bind fun t119 => (if t119 = true then ((spec_l1Name.f k a0_0 a0_1).bind fun t120 => (spec_PkgText.l0 k t120 0 a0_0 a0_1 l0_2 l0_3)) else (some (⟨#[]⟩ : ByteArray)))) = some r := h; clear h; replace H := Option.bind_eq_some_iff.mp H; obtain ⟨t119, A20, H⟩ := H; (try dsimp only at H); have A2 := aM A20; clear A20
 by_cases c3 : t119 = true
 ·subst c3; replace H := zy1 H; replace H := Option.bind_eq_some_iff.mp H; obtain ⟨t120, A40, H⟩ := H; (try dsimp only at H); have A4 := aM A40; clear A40; have H' := aM H; clear H
  go_enter Tryd.func22, Tryd.ntmps22
  go_wp2_with (first | ((with_reducible refine gate_dst (N := 1) rfl ?_); refine zbx 1 #[.int .i64 a0_0, .int .i64 a0_1, .slice A0_2 l0_2.length c0_2, .slice A0_3 l0_3.length c0_3] 31 ?_; intro gb118 hg w5 hbox hb; have _ := aM (below_step (zB HB.1) hb); have _ := aM (hbox); have _ := aM (zge hg (zB HB.1)); have _ := aM (zge hg (zB HB.1)); clear HB; rename_i HB BK118 GW118 GE118; clear hb hbox hg; obtain ⟨hcz6_0, hcz6_1, hcz6_2, hcz6_3, hfz6_0, hfz6_1, hfz6_2, hfz6_3⟩ := zc4f BK118.1) | ((with_reducible refine gate_callee (f := 60) rfl ?_); refine zgL (some 7) Tryd.func60 #[.agg #[.int .i64 a0_0, .int .i64 a0_1, .slice A0_2 l0_2.length c0_2, .slice A0_3 l0_3.length c0_3]] ?_; (with_reducible refine (spec_PkgOk.calls k a0_0 a0_1 _ _ l0_2 _ _ l0_3 true _ ?side1 ?side2 ?side3 ?side4 A2.1).mono ?_); (case side1 => exact zC (Kd.C_below HR0_2.1 HB.1)); (case side2 => exact HC0_2.1); (case side3 => exact zC (Kd.C_below HR0_3.1 HB.1)); (case side4 => exact HC0_3.1); rintro e w7 ⟨rfl, hb⟩; refine ⟨_, rfl, ?_⟩; have _ := aM (blk_below (zK BK118.1) hb); have _ := aM (below_step (zB1 HB.1 GE118.1) hb); clear BK118 HB; rename_i BK118 HB; (try clear hb); (try clear hb2); (try clear hk); (try clear hi); obtain ⟨hcz8_0, hcz8_1, hcz8_2, hcz8_3, hfz8_0, hfz8_1, hfz8_2, hfz8_3⟩ := zc4f BK118.1) | ((with_reducible refine gate_callee (f := 61) rfl ?_); refine zgL (some 13) Tryd.func61 #[.int .i64 a0_0, .int .i64 a0_1] ?_; (with_reducible refine (spec_l1Name.calls k a0_0 a0_1 t120 _ A4.1).mono ?_); rintro e w9 ⟨rfl, hb⟩; refine ⟨_, rfl, ?_⟩; have _ := aM (blk_below (zK BK118.1) hb); have _ := aM (below_step (zB1 HB.1 GE118.1) hb); clear BK118 HB; rename_i BK118 HB; (try clear hb); (try clear hb2); (try clear hk); (try clear hi)))
  go_loopg [3, 4] k (fun kq v3 v4 w' => ∃ (x3_1 : ByteArray) (x4_1 : Int), v3 = .string x3_1 ∧ v4 = .int .i64 x4_1 ∧ Aside0 (spec_PkgText.l0 kq x3_1 x4_1 a0_0 a0_1 l0_2 l0_3 = some r) ∧ Aside0 (kq ≤ k) ∧ Aside0 (w'.heap[gb118]? = some (.cells #[.int .i64 a0_0, .int .i64 a0_1, (.slice A0_2 l0_2.length c0_2), (.slice A0_3 l0_3.length c0_3)] 31 (0, 0))) ∧ Aside0 (Below w.heap.size w w'))
  case atStart => exact ⟨(t120), (0), (by first | rfl | (simp; done) | (simp [*]; done)), (by first | rfl | (simp; done) | (simp [*]; done)), H', ⟨Nat.le_refl _⟩, ⟨zK BK118.1⟩, ⟨zB1 HB.1 GE118.1⟩⟩
  case round =>
   clear H'
   try clear c2
   try clear p2
   try clear c3
   try clear c6
   try clear hcz6_0
   try clear hcz6_1
   try clear hcz6_2
   try clear hcz6_3
   try clear hcz8_0
   try clear hcz8_1
   try clear hcz8_2
   try clear hcz8_3
   try clear hfz6_0
   try clear hfz6_1
   try clear hfz6_2
   try clear hfz6_3
   try clear hfz8_0
   try clear hfz8_1
   try clear hfz8_2
   try clear hfz8_3
   obtain ⟨x3_1, x4_1, rfl, rfl, HA, HK1, BK118, HB⟩ := hrel; cases gk with
   | zero => exact absurd HA.1 (by simp [spec_PkgText.l0])
   | succ k1 =>
    have H := HA.1; clear HA; simp only [spec_PkgText.l0] at H
    by_cases c10 : x4_1 < (l0_2.length : Int)
    ·rw [if_pos c10] at H; have c10b0 : decide (x4_1 < (l0_2.length : Int)) = true := decide_eq_true c10; clear c10; replace H := zif H; obtain ⟨c11, H⟩ := H; have c11b0 := eq_true c11; have c11b1 : decide (x3_1.size + 1 ≤ 9223372036854775807) = true := decide_eq_true c11
     try have c11b2 : (9223372036854775807 < x3_1.size + 1) = False := eq_false (Nat.not_lt.2 c11)
     replace H := zif H; obtain ⟨c12, H⟩ := H; have c12b0 : decide (0 ≤ x4_1) = true := decide_eq_true c12; clear c12; replace H := Option.bind_eq_some_iff.mp H; obtain ⟨t122, A130, H⟩ := H; (try dsimp only at H); have A13 := aM A130; clear A130; replace H := zif H; obtain ⟨c14, H⟩ := H; have c14b0 := eq_true c14; have c14b1 : decide ((x3_1 ++ (⟨#[32]⟩ : ByteArray)).size + t122.size ≤ 9223372036854775807) = true := decide_eq_true c14
     try have c14b2 : (9223372036854775807 < (x3_1 ++ (⟨#[32]⟩ : ByteArray)).size + t122.size) = False := eq_false (Nat.not_lt.2 c14)
     have c14b9 : (9223372036854775807 < x3_1.size + 1 + t122.size) = False := eq_false (by have h_ := c14; simp only [ByteArray.size_append, show (⟨#[32]⟩ : ByteArray).size = 1 from rfl, show (⟨#[58]⟩ : ByteArray).size = 1 from rfl] at h_; omega); replace H := zif H; obtain ⟨c15, H⟩ := H; have c15b0 := eq_true c15; have c15b1 : decide (((x3_1 ++ (⟨#[32]⟩ : ByteArray)) ++ t122).size + 1 ≤ 9223372036854775807) = true := decide_eq_true c15
     try have c15b2 : (9223372036854775807 < ((x3_1 ++ (⟨#[32]⟩ : ByteArray)) ++ t122).size + 1) = False := eq_false (Nat.not_lt.2 c15)
     have c15b9 : (9223372036854775807 < x3_1.size + 1 + t122.size + 1) = False := eq_false (by have h_ := c15; simp only [ByteArray.size_append, show (⟨#[32]⟩ : ByteArray).size = 1 from rfl, show (⟨#[58]⟩ : ByteArray).size = 1 from rfl] at h_; omega); replace H := Option.bind_eq_some_iff.mp H; obtain ⟨t124, A160, H⟩ := H; (try dsimp only at H); have A16 := aM A160; clear A160; replace H := zif H; obtain ⟨c17, H⟩ := H; have c17b0 := eq_true c17; have c17b1 : decide ((((x3_1 ++ (⟨#[32]⟩ : ByteArray)) ++ t122) ++ (⟨#[58]⟩ : ByteArray)).size + t124.size ≤ 9223372036854775807) = true := decide_eq_true c17
     try have c17b2 : (9223372036854775807 < (((x3_1 ++ (⟨#[32]⟩ : ByteArray)) ++ t122) ++ (⟨#[58]⟩ : ByteArray)).size + t124.size) = False := eq_false (Nat.not_lt.2 c17)
     have c17b9 : (9223372036854775807 < x3_1.size + 1 + t122.size + 1 + t124.size) = False := eq_false (by have h_ := c17; simp only [ByteArray.size_append, show (⟨#[32]⟩ : ByteArray).size = 1 from rfl, show (⟨#[58]⟩ : ByteArray).size = 1 from rfl] at h_; omega); have H' := aM H; clear H; obtain ⟨hcz18_0, hcz18_1, hcz18_2, hcz18_3, hfz18_0, hfz18_1, hfz18_2, hfz18_3⟩ := zc4f BK118.1
     try go_wp2
     have _ := aM (blk_drew BK118.1); have _ := aM (below_drew1 HB.1); clear BK118 HB; rename_i BK118 HB; have p121 : 0 ≤ (x4_1 : Int) := zd; have q121 : x4_1 < (l0_2.length : Int) := zd; obtain ⟨ad121, e121, hx121_0, hx121_1⟩ := at_T67 HR0_2.1 x4_1 p121 q121; have hw121_1 := hx121_1; have hw121_0 := hx121_0; cases e121; replace hx121_0 := (HB.1.cell (World.block_lt_of_cell? w _ hx121_0)).trans hx121_0; replace hx121_1 := (HB.1.cell (World.block_lt_of_cell? w _ hx121_1)).trans hx121_1; replace p121 := eq_true p121; replace q121 := eq_true q121; have p123 : 0 ≤ (x4_1 : Int) := zd; have q123 : x4_1 < (l0_2.length : Int) := zd; obtain ⟨ad123, e123, hx123_0, hx123_1⟩ := at_T67 HR0_2.1 x4_1 p123 q123; have hw123_1 := hx123_1; have hw123_0 := hx123_0; obtain rfl : ad121 = ad123 := (by injection e123); replace hx123_0 := (HB.1.cell (World.block_lt_of_cell? w _ hx123_0)).trans hx123_0; replace hx123_1 := (HB.1.cell (World.block_lt_of_cell? w _ hx123_1)).trans hx123_1; replace p123 := eq_true p123; replace q123 := eq_true q123
     refine start_ (n := 20) (S := fun w' => w'.cell? ⟨gb118, 0, none⟩ = some (.int .i64 a0_0) ∧ w'.cell? ⟨gb118, 1, none⟩ = some (.int .i64 a0_1) ∧ w'.cell? ⟨gb118, 2, none⟩ = some (.slice (some ad121) l0_2.length c0_2) ∧ w'.cell? ⟨gb118, 3, none⟩ = some (.slice A0_3 l0_3.length c0_3) ∧ w'.cell? (ad121.add ((x4_1).toNat * 2)) = some (.int .i64 ((rd_T67 l0_2 x4_1).f0)) ∧ w'.cell? ⟨(ad121.add ((x4_1).toNat * 2)).block, (ad121.add ((x4_1).toNat * 2)).off + 1, none⟩ = some (.int .i64 ((rd_T67 l0_2 x4_1).f1)) ∧ w'.cell? (ad121.add ((x4_1).toNat * 2)) = some (.int .i64 ((rd_T67 l0_2 x4_1).f0)) ∧ w'.cell? ⟨(ad121.add ((x4_1).toNat * 2)).block, (ad121.add ((x4_1).toNat * 2)).off + 1, none⟩ = some (.int .i64 ((rd_T67 l0_2 x4_1).f1))) (ds := []) (zA 20 0) (by kernel_rfl) rfl rfl ⟨(blk_cell BK118.1 0).trans rfl, (blk_cell BK118.1 1).trans rfl, (blk_cell BK118.1 2).trans rfl, (blk_cell BK118.1 3).trans rfl, ((HB.1.cell (World.block_lt_of_cell? w _ hw121_0)).trans hw121_0), ((HB.1.cell (World.block_lt_of_cell? w _ hw121_1)).trans hw121_1), ((HB.1.cell (World.block_lt_of_cell? w _ hw123_0)).trans hw123_0), ((HB.1.cell (World.block_lt_of_cell? w _ hw123_1)).trans hw123_1)⟩ (fun hHeld => ?_); refine with_tabW spec_PkgText.tab7 spec_PkgText.bits7 (fun HT_ HW_ => ?_)
     generalize wr.drew = w19 at BK118 HB hx121_0 hx121_1 hx123_0 hx123_1 hHeld ⊢; refine zu HT_ 0 (some 21) (zA 20 1) ?_; refine zu HT_ 1 (some 22) (zA 20 3) ?_; refine zu HT_ 2 (some 23) (zA 20 7) ?_; refine zu HT_ 4 (some 25) (zA 20 23) ?_; refine zu HT_ 11 (some 32) (zA 20 2071) ?_; refine zu HT_ 13 (some 34) (zA 20 10263) ?_; refine take_ (i := 3) (N := some 24) (v := ?_) (a' := ?_) (zA 20 10271) rfl rfl (take_ofW HT_.1 HW_.1 (by kernel_rfl)) (fun _ _ _ h => h) (Or.inl ⟨by rfl, ?_⟩) hHeld ?_ ?_; rotate_left
     ·rintro w' ⟨s0, s1, s2, s3, s4, s5, s6, s7⟩
      go_simp
      (with_reducible rfl)
     rotate_left
     ·simp only [zp0, zp1, zp2, zp3, zp4, i64_w, i32_w]; rfl
     refine zu HT_ 5 (some 26) (zA 20 10303) ?_; refine zu HT_ 6 (some 27) (zA 20 10367) ?_; refine take_ (i := 7) (N := some 28) (v := ?_) (a' := ?_) (zA 20 10495) rfl rfl (take_ofW HT_.1 HW_.1 (by kernel_rfl)) (fun _ _ _ h => h) (Or.inl ⟨by rfl, ?_⟩) hHeld ?_ ?_; rotate_left
     ·rintro w' ⟨s0, s1, s2, s3, s4, s5, s6, s7⟩
      go_simp
      (with_reducible rfl)
     rotate_left
     ·simp only [zp0, zp1, zp2, zp3, zp4, i64_w, i32_w]; rfl
     refine take_ (i := 12) (N := some 33) (v := ?_) (a' := ?_) (zA 20 14591) rfl rfl (take_ofW HT_.1 HW_.1 (by kernel_rfl)) (fun _ _ _ h => h) (Or.inl ⟨by rfl, ?_⟩) hHeld ?_ ?_; rotate_left
     ·rintro w' ⟨s0, s1, s2, s3, s4, s5, s6, s7⟩
      go_simp
      (with_reducible rfl)
     rotate_left
     ·simp only [zp0, zp1, zp2, zp3, zp4, i64_w, i32_w]; rfl
     refine zu HT_ 14 (some 35) (zA 20 30975) ?_; refine zu HT_ 15 (some 36) (zA 20 63743) ?_; refine take_ (i := 16) (N := some 37) (v := ?_) (a' := ?_) (zA 20 129279) rfl rfl (take_ofW HT_.1 HW_.1 (by kernel_rfl)) (fun _ _ _ h => h) (Or.inl ⟨by rfl, ?_⟩) hHeld ?_ ?_; rotate_left
     ·rintro w' ⟨s0, s1, s2, s3, s4, s5, s6, s7⟩
      go_simp
      (with_reducible rfl)
     rotate_left
     ·simp only [zp0, zp1, zp2, zp3, zp4, i64_w, i32_w]; rfl
     refine zo HT_ 8 (some 29) (zA 20 129535) (fun K hK => ?_); refine zg Tryd.func62 #[.int .i64 ((rd_T67 l0_2 x4_1).f0)] ?_; (with_reducible refine (spec_l6Dec.calls k1 ((rd_T67 l0_2 x4_1).f0) t122 _ A13.1).mono ?_); rintro e w20 ⟨rfl, hb⟩; refine ⟨_, rfl, ?_⟩; have _ := aM (blk_below (zK BK118.1) hb); have _ := aM (below_step (zB1 HB.1 GE118.1) hb); clear BK118 HB; rename_i BK118 HB; (try clear hb); (try clear hb2); (try clear hk); (try clear hi); refine hK.out _ _ ⟨(blk_cell BK118.1 0).trans rfl, (blk_cell BK118.1 1).trans rfl, (blk_cell BK118.1 2).trans rfl, (blk_cell BK118.1 3).trans rfl, ((HB.1.cell (World.block_lt_of_cell? w _ hw121_0)).trans hw121_0), ((HB.1.cell (World.block_lt_of_cell? w _ hw121_1)).trans hw121_1), ((HB.1.cell (World.block_lt_of_cell? w _ hw123_0)).trans hw123_0), ((HB.1.cell (World.block_lt_of_cell? w _ hw123_1)).trans hw123_1)⟩ (fun hHeld => ?_); clear hK K; refine zn (some 29) ?_; refine zu HT_ 9 (some 30) (zA 20 130047) ?_; refine zu HT_ 10 (some 31) (zA 20 131071) ?_; refine zo HT_ 17 (some 38) (zA 20 262143) (fun K hK => ?_); refine zg Tryd.func62 #[.int .i64 ((rd_T67 l0_2 x4_1).f1)] ?_; (with_reducible refine (spec_l6Dec.calls k1 ((rd_T67 l0_2 x4_1).f1) t124 _ A16.1).mono ?_); rintro e w21 ⟨rfl, hb⟩; refine ⟨_, rfl, ?_⟩; have _ := aM (blk_below (zK BK118.1) hb); have _ := aM (below_step (zB1 HB.1 GE118.1) hb); clear BK118 HB; rename_i BK118 HB; (try clear hb); (try clear hb2); (try clear hk); (try clear hi); refine hK.out _ _ ⟨(blk_cell BK118.1 0).trans rfl, (blk_cell BK118.1 1).trans rfl, (blk_cell BK118.1 2).trans rfl, (blk_cell BK118.1 3).trans rfl, ((HB.1.cell (World.block_lt_of_cell? w _ hw121_0)).trans hw121_0), ((HB.1.cell (World.block_lt_of_cell? w _ hw121_1)).trans hw121_1), ((HB.1.cell (World.block_lt_of_cell? w _ hw123_0)).trans hw123_0), ((HB.1.cell (World.block_lt_of_cell? w _ hw123_1)).trans hw123_1)⟩ (fun hHeld => ?_); clear hK K; refine zn (some 38) ?_; refine zu HT_ 18 (some 39) (zA 20 524287) ?_; refine zu HT_ 19 (some 3) (zA 20 1048575) ?_; refine done_ (done_of HT_.1 (by kernel_rfl)) ?_
     try go_wp2
     go_roundg k1
     case measure => have := HK1.1; omega
     case rel => exact ⟨((((x3_1 ++ (⟨#[32]⟩ : ByteArray)) ++ t122) ++ (⟨#[58]⟩ : ByteArray)) ++ t124), (wrap64 (x4_1 + 1)), (by first | rfl | (simp; done) | (simp [*]; done)), (by first | rfl | (simp; done) | (simp [*]; done)), H', ⟨by have := HK1.1; omega⟩, ⟨zK BK118.1⟩, ⟨zB1 HB.1 GE118.1⟩⟩
    ·rw [if_neg c10] at H; have c10b0 : decide (x4_1 < (l0_2.length : Int)) = false := decide_eq_false c10; clear c10; have H' := aM H; clear H; obtain ⟨hcz22_0, hcz22_1, hcz22_2, hcz22_3, hfz22_0, hfz22_1, hfz22_2, hfz22_3⟩ := zc4f BK118.1
     go_wp2
     go_loopg [3, 5] k1 (fun kq v3 v5 w' => ∃ (x3_2 : ByteArray) (x5_2 : Int), v3 = .string x3_2 ∧ v5 = .int .i64 x5_2 ∧ Aside0 (spec_PkgText.l1 kq x3_2 x5_2 a0_0 a0_1 l0_2 l0_3 = some r) ∧ Aside0 (kq ≤ k1) ∧ Aside0 (w'.heap[gb118]? = some (.cells #[.int .i64 a0_0, .int .i64 a0_1, (.slice A0_2 l0_2.length c0_2), (.slice A0_3 l0_3.length c0_3)] 31 (0, 0))) ∧ Aside0 (Below w.heap.size w w'))
     case atStart => exact ⟨(x3_1), (0), (by first | rfl | (simp; done) | (simp [*]; done)), (by first | rfl | (simp; done) | (simp [*]; done)), H', ⟨Nat.le_refl _⟩, ⟨zK BK118.1⟩, ⟨zB1 HB.1 GE118.1⟩⟩
     case round =>
      clear H'
      try clear c1
      try clear p1
      try clear q1
      try clear hx1
      try clear c2
      try clear p2
      try clear c3
      try clear c6
      try clear p6
      try clear c10
      try clear c10b0
      try clear c11
      try clear c11b0
      try clear c11b1
      try clear c11b2
      try clear c12
      try clear c12b0
      try clear p12
      try clear q12
      try clear hx12
      try clear c14
      try clear c14b0
      try clear c14b1
      try clear c14b2
      try clear c15
      try clear c15b0
      try clear c15b1
      try clear c15b2
      try clear c17
      try clear c17b0
      try clear c17b1
      try clear c17b2
      try clear c22
      try clear hcz18_0
      try clear hcz18_1
      try clear hcz18_2
      try clear hcz18_3
      try clear hcz22_0
      try clear hcz22_1
      try clear hcz22_2
      try clear hcz22_3
      try clear hcz6_0
      try clear hcz6_1
      try clear hcz6_2
      try clear hcz6_3
      try clear hcz8_0
      try clear hcz8_1
      try clear hcz8_2
      try clear hcz8_3
      try clear hfz18_0
      try clear hfz18_1
      try clear hfz18_2
      try clear hfz18_3
      try clear hfz22_0
      try clear hfz22_1
      try clear hfz22_2
      try clear hfz22_3
      try clear hfz6_0
      try clear hfz6_1
      try clear hfz6_2
      try clear hfz6_3
      try clear hfz8_0
      try clear hfz8_1
      try clear hfz8_2
      try clear hfz8_3
      try clear hx121_0
      try clear hx121_1
      try clear hx123_0
      try clear hx123_1
      try clear p121
      try clear p123
      try clear p2
      try clear q121
      try clear q123
      obtain ⟨x3_2, x5_2, rfl, rfl, HA, HK2, BK118, HB⟩ := hrel; cases gk with
      | zero => exact absurd HA.1 (by simp [spec_PkgText.l1])
      | succ k2 =>
       have H := HA.1; clear HA; simp only [spec_PkgText.l1] at H
       by_cases c23 : x5_2 < (l0_3.length : Int)
       ·rw [if_pos c23] at H; have c23b0 : decide (x5_2 < (l0_3.length : Int)) = true := decide_eq_true c23; clear c23; replace H := zif H; obtain ⟨c24, H⟩ := H; have c24b0 := eq_true c24; have c24b1 : decide (x3_2.size + 1 ≤ 9223372036854775807) = true := decide_eq_true c24
        try have c24b2 : (9223372036854775807 < x3_2.size + 1) = False := eq_false (Nat.not_lt.2 c24)
        replace H := zif H; obtain ⟨c25, H⟩ := H; have c25b0 : decide (0 ≤ x5_2) = true := decide_eq_true c25; clear c25; replace H := Option.bind_eq_some_iff.mp H; obtain ⟨t127, A260, H⟩ := H; (try dsimp only at H); have A26 := aM A260; clear A260; replace H := zif H; obtain ⟨c27, H⟩ := H; have c27b0 := eq_true c27; have c27b1 : decide ((x3_2 ++ (⟨#[32]⟩ : ByteArray)).size + t127.size ≤ 9223372036854775807) = true := decide_eq_true c27
        try have c27b2 : (9223372036854775807 < (x3_2 ++ (⟨#[32]⟩ : ByteArray)).size + t127.size) = False := eq_false (Nat.not_lt.2 c27)
        have c27b9 : (9223372036854775807 < x3_2.size + 1 + t127.size) = False := eq_false (by have h_ := c27; simp only [ByteArray.size_append, show (⟨#[32]⟩ : ByteArray).size = 1 from rfl, show (⟨#[58]⟩ : ByteArray).size = 1 from rfl] at h_; omega); have H' := aM H; clear H; obtain ⟨hcz28_0, hcz28_1, hcz28_2, hcz28_3, hfz28_0, hfz28_1, hfz28_2, hfz28_3⟩ := zc4f BK118.1
        try go_wp2
        have _ := aM (blk_drew BK118.1); have _ := aM (below_drew1 HB.1); clear BK118 HB; rename_i BK118 HB; have p125 : 0 ≤ (x5_2 : Int) := zd; have q125 : x5_2 < (l0_3.length : Int) := zd; obtain ⟨ad125, e125, hx125_0, hx125_1⟩ := at_T69 HR0_3.1 x5_2 p125 q125; have hw125_1 := hx125_1; have hw125_0 := hx125_0; cases e125; replace hx125_0 := (HB.1.cell (World.block_lt_of_cell? w _ hx125_0)).trans hx125_0; replace hx125_1 := (HB.1.cell (World.block_lt_of_cell? w _ hx125_1)).trans hx125_1; replace p125 := eq_true p125; replace q125 := eq_true q125; have p126 : 0 ≤ (x5_2 : Int) := zd; have q126 : x5_2 < (l0_3.length : Int) := zd; obtain ⟨ad126, e126, hx126_0, hx126_1⟩ := at_T69 HR0_3.1 x5_2 p126 q126; have hw126_1 := hx126_1; have hw126_0 := hx126_0; obtain rfl : ad125 = ad126 := (by injection e126); replace hx126_0 := (HB.1.cell (World.block_lt_of_cell? w _ hx126_0)).trans hx126_0; replace hx126_1 := (HB.1.cell (World.block_lt_of_cell? w _ hx126_1)).trans hx126_1; replace p126 := eq_true p126; replace q126 := eq_true q126
        refine start_ (n := 17) (S := fun w' => w'.cell? ⟨gb118, 0, none⟩ = some (.int .i64 a0_0) ∧ w'.cell? ⟨gb118, 1, none⟩ = some (.int .i64 a0_1) ∧ w'.cell? ⟨gb118, 2, none⟩ = some (.slice A0_2 l0_2.length c0_2) ∧ w'.cell? ⟨gb118, 3, none⟩ = some (.slice (some ad125) l0_3.length c0_3) ∧ w'.cell? (ad125.add ((x5_2).toNat * 2)) = some (.int .i64 ((rd_T69 l0_3 x5_2).f0)) ∧ w'.cell? ⟨(ad125.add ((x5_2).toNat * 2)).block, (ad125.add ((x5_2).toNat * 2)).off + 1, none⟩ = some (.int .i64 ((rd_T69 l0_3 x5_2).f1)) ∧ w'.cell? (ad125.add ((x5_2).toNat * 2)) = some (.int .i64 ((rd_T69 l0_3 x5_2).f0)) ∧ w'.cell? ⟨(ad125.add ((x5_2).toNat * 2)).block, (ad125.add ((x5_2).toNat * 2)).off + 1, none⟩ = some (.int .i64 ((rd_T69 l0_3 x5_2).f1))) (ds := []) (zA 17 0) (by kernel_rfl) rfl rfl ⟨(blk_cell BK118.1 0).trans rfl, (blk_cell BK118.1 1).trans rfl, (blk_cell BK118.1 2).trans rfl, (blk_cell BK118.1 3).trans rfl, ((HB.1.cell (World.block_lt_of_cell? w _ hw125_0)).trans hw125_0), ((HB.1.cell (World.block_lt_of_cell? w _ hw125_1)).trans hw125_1), ((HB.1.cell (World.block_lt_of_cell? w _ hw126_0)).trans hw126_0), ((HB.1.cell (World.block_lt_of_cell? w _ hw126_1)).trans hw126_1)⟩ (fun hHeld => ?_); refine with_tabW spec_PkgText.tab11 spec_PkgText.bits11 (fun HT_ HW_ => ?_)
        generalize wr.drew = w29 at BK118 HB hx125_0 hx125_1 hx126_0 hx126_1 hHeld ⊢; refine zu HT_ 0 (some 47) (zA 17 1) ?_; refine zu HT_ 1 (some 48) (zA 17 3) ?_; refine zu HT_ 2 (some 49) (zA 17 7) ?_; refine zu HT_ 4 (some 51) (zA 17 23) ?_; refine zu HT_ 8 (some 55) (zA 17 279) ?_; refine zu HT_ 10 (some 57) (zA 17 1303) ?_; refine take_ (i := 3) (N := some 50) (v := ?_) (a' := ?_) (zA 17 1311) rfl rfl (take_ofW HT_.1 HW_.1 (by kernel_rfl)) (fun _ _ _ h => h) (Or.inl ⟨by rfl, ?_⟩) hHeld ?_ ?_; rotate_left
        ·rintro w' ⟨s0, s1, s2, s3, s4, s5, s6, s7⟩
         go_simp
         (with_reducible rfl)
        rotate_left
        ·simp only [zp0, zp1, zp2, zp3, zp4, i64_w, i32_w]; rfl
        refine zu HT_ 5 (some 52) (zA 17 1343) ?_; refine zu HT_ 6 (some 53) (zA 17 1407) ?_; refine take_ (i := 7) (N := some 54) (v := ?_) (a' := ?_) (zA 17 1535) rfl rfl (take_ofW HT_.1 HW_.1 (by kernel_rfl)) (fun _ _ _ h => h) (Or.inl ⟨by rfl, ?_⟩) hHeld ?_ ?_; rotate_left
        ·rintro w' ⟨s0, s1, s2, s3, s4, s5, s6, s7⟩
         go_simp
         (with_reducible rfl)
        rotate_left
        ·simp only [zp0, zp1, zp2, zp3, zp4, i64_w, i32_w]; rfl
        refine take_ (i := 9) (N := some 56) (v := ?_) (a' := ?_) (zA 17 2047) rfl rfl (take_ofW HT_.1 HW_.1 (by kernel_rfl)) (fun _ _ _ h => h) (Or.inl ⟨by rfl, ?_⟩) hHeld ?_ ?_; rotate_left
        ·rintro w' ⟨s0, s1, s2, s3, s4, s5, s6, s7⟩
         go_simp
         (with_reducible rfl)
        rotate_left
        ·simp only [zp0, zp1, zp2, zp3, zp4, i64_w, i32_w]; rfl
        refine zu HT_ 11 (some 58) (zA 17 4095) ?_; refine zu HT_ 12 (some 59) (zA 17 8191) ?_; refine take_ (i := 13) (N := some 60) (v := ?_) (a' := ?_) (zA 17 16383) rfl rfl (take_ofW HT_.1 HW_.1 (by kernel_rfl)) (fun _ _ _ h => h) (Or.inl ⟨by rfl, ?_⟩) hHeld ?_ ?_; rotate_left
        ·rintro w' ⟨s0, s1, s2, s3, s4, s5, s6, s7⟩
         go_simp
         (with_reducible rfl)
        rotate_left
        ·simp only [zp0, zp1, zp2, zp3, zp4, i64_w, i32_w]; rfl
        refine zo HT_ 14 (some 61) (zA 17 32767) (fun K hK => ?_); refine zg Tryd.func61 #[.int .i64 ((rd_T69 l0_3 x5_2).f0), .int .i64 ((rd_T69 l0_3 x5_2).f1)] ?_; (with_reducible refine (spec_l1Name.calls k2 ((rd_T69 l0_3 x5_2).f0) ((rd_T69 l0_3 x5_2).f1) t127 _ A26.1).mono ?_); rintro e w30 ⟨rfl, hb⟩; refine ⟨_, rfl, ?_⟩; have _ := aM (blk_below (zK BK118.1) hb); have _ := aM (below_step (zB1 HB.1 GE118.1) hb); clear BK118 HB; rename_i BK118 HB; (try clear hb); (try clear hb2); (try clear hk); (try clear hi); refine hK.out _ _ ⟨(blk_cell BK118.1 0).trans rfl, (blk_cell BK118.1 1).trans rfl, (blk_cell BK118.1 2).trans rfl, (blk_cell BK118.1 3).trans rfl, ((HB.1.cell (World.block_lt_of_cell? w _ hw125_0)).trans hw125_0), ((HB.1.cell (World.block_lt_of_cell? w _ hw125_1)).trans hw125_1), ((HB.1.cell (World.block_lt_of_cell? w _ hw126_0)).trans hw126_0), ((HB.1.cell (World.block_lt_of_cell? w _ hw126_1)).trans hw126_1)⟩ (fun hHeld => ?_); clear hK K; refine zn (some 61) ?_; refine zu HT_ 15 (some 62) (zA 17 65535) ?_; refine zu HT_ 16 (some 3) (zA 17 131071) ?_; refine done_ (done_of HT_.1 (by kernel_rfl)) ?_
        try go_wp2
        go_roundg k2
        case measure => have := HK1.1; have := HK2.1; omega
        case rel => exact ⟨((x3_2 ++ (⟨#[32]⟩ : ByteArray)) ++ t127), (wrap64 (x5_2 + 1)), (by first | rfl | (simp; done) | (simp [*]; done)), (by first | rfl | (simp; done) | (simp [*]; done)), H', ⟨by have := HK1.1; have := HK2.1; omega⟩, ⟨zK BK118.1⟩, ⟨zB1 HB.1 GE118.1⟩⟩
       ·rw [if_neg c23] at H; have c23b0 : decide (x5_2 < (l0_3.length : Int)) = false := decide_eq_false c23; clear c23; obtain rfl := Option.some.inj H; obtain ⟨hcz31_0, hcz31_1, hcz31_2, hcz31_3, hfz31_0, hfz31_1, hfz31_2, hfz31_3⟩ := zc4f BK118.1
        go_wp2
        go_ret
        exact ⟨by first | rfl | (simp [errW_none, errW_some] <;> rfl) | (simp [*, errW_none, errW_some] <;> rfl), by exact zB1 HB.1 GE118.1⟩
 ·replace c3 := Bool.eq_false_iff.mpr c3; subst c3; replace H := zy0 H; obtain rfl := Option.some.inj H
  go_enter Tryd.func22, Tryd.ntmps22
  go_wp2_with (first | ((with_reducible refine gate_dst (N := 1) rfl ?_); refine zbx 1 #[.int .i64 a0_0, .int .i64 a0_1, .slice A0_2 l0_2.length c0_2, .slice A0_3 l0_3.length c0_3] 31 ?_; intro gb118 hg w32 hbox hb; have _ := aM (below_step (zB HB.1) hb); have _ := aM (hbox); have _ := aM (zge hg (zB HB.1)); have _ := aM (zge hg (zB HB.1)); clear HB; rename_i HB BK118 GW118 GE118; clear hb hbox hg; obtain ⟨hcz33_0, hcz33_1, hcz33_2, hcz33_3, hfz33_0, hfz33_1, hfz33_2, hfz33_3⟩ := zc4f BK118.1) | ((with_reducible refine gate_callee (f := 60) rfl ?_); refine zgL (some 7) Tryd.func60 #[.agg #[.int .i64 a0_0, .int .i64 a0_1, .slice A0_2 l0_2.length c0_2, .slice A0_3 l0_3.length c0_3]] ?_; (with_reducible refine (spec_PkgOk.calls k a0_0 a0_1 _ _ l0_2 _ _ l0_3 false _ ?side1 ?side2 ?side3 ?side4 A2.1).mono ?_); (case side1 => exact zC (Kd.C_below HR0_2.1 HB.1)); (case side2 => exact HC0_2.1); (case side3 => exact zC (Kd.C_below HR0_3.1 HB.1)); (case side4 => exact HC0_3.1); rintro e w34 ⟨rfl, hb⟩; refine ⟨_, rfl, ?_⟩; have _ := aM (blk_below (zK BK118.1) hb); have _ := aM (below_step (zB1 HB.1 GE118.1) hb); clear BK118 HB; rename_i BK118 HB; (try clear hb); (try clear hb2); (try clear hk); (try clear hi)))
  go_ret
  exact ⟨by first | rfl | (simp [errW_none, errW_some] <;> rfl) | (simp [*, errW_none, errW_some] <;> rfl), by exact zB1 HB.1 GE118.1⟩

/-- A state of type 97 at block g of W; what its slices lead to came in by w0. -/
def IsS97 (w0 W : World) (g : Nat) (f0 : List Int) (f1 : Int) : Prop := ∃ A0 c0, W.heap[g]? = some (.cells #[.slice A0 f0.length c0, .int .i64 f1] 97 (0, 0)) ∧ w0.heap.size ≤ g ∧ Kd.C (Kd.int .u8) w0 A0 f0.length f0
theorem IsS97.grown {w0 W : World} {g : Nat} {f0 : List Int} {f1 : Int} {W1 : World} {row : Option Nat} (h : IsS97 w0 W g f0 f1) (hw : W.grownBy W1 row) (hne : some g ≠ row) : IsS97 w0 W1 g f0 f1 := by
 obtain ⟨A0, c0, hb, hg, hr0⟩ := h
 exact ⟨A0, c0, blk_grown hb hw hne, hg, hr0⟩
theorem IsS97.own_neN {w0 W : World} {g : Nat} {f0 : List Int} {f1 : Int} {α : Type} {d : Kd α} {e : Nat} {base : Nat} {ok : Nat → Prop} {v : Value} {xs : List α} (h : IsS97 w0 W g f0 f1) (ho : Kd.N d e W base ok v xs) (ht : e ≠ 97) : some g ≠ v.ownBlock := by
 obtain ⟨A0, c0, hb, hg, hr0⟩ := h
 exact Kd.N_ne ho hb ht
theorem IsS97.fresh {w0 W : World} {g : Nat} {f0 : List Int} {f1 : Int} (h : IsS97 w0 W g f0 f1) : ∀ k, W.heap.size ≤ k → k ≠ g := by
 obtain ⟨A0, c0, hb, hg, hr0⟩ := h
 exact Kd.freshB hb
theorem IsS97.kept {w0 W : World} {g : Nat} {f0 : List Int} {f1 : Int} {W1 : World} {S : Nat → Prop} (h : IsS97 w0 W g f0 f1) (hk : Kept W W1 S) (hne : ¬ S g) : IsS97 w0 W1 g f0 f1 := by
 obtain ⟨A0, c0, hb, hg, hr0⟩ := h
 exact ⟨A0, c0, blk_kept hb hk hne, hg, hr0⟩
theorem IsS97.z0 {w0 W : World} {g : Nat} {f0 : List Int} {f1 : Int} {W1 : World} (h : IsS97 w0 W g f0 f1) [k : Zb [] W W1] : IsS97 w0 W1 g f0 f1 := h.kept k.z (fun hm => by simp only [List.not_mem_nil] at hm)
theorem IsS97.z1 {w0 W : World} {g : Nat} {f0 : List Int} {f1 : Int} {W1 : World} {b0 : Nat} (h : IsS97 w0 W g f0 f1) (n0 : g ≠ b0) [k : Zb [b0] W W1] : IsS97 w0 W1 g f0 f1 := h.kept k.z (fun hm => by simp only [List.mem_cons, List.not_mem_nil, or_false] at hm; rcases hm with e <;> contradiction)
theorem IsS97.z2 {w0 W : World} {g : Nat} {f0 : List Int} {f1 : Int} {W1 : World} {b0 b1 : Nat} (h : IsS97 w0 W g f0 f1) (n0 : g ≠ b0) (n1 : g ≠ b1) [k : Zb [b0, b1] W W1] : IsS97 w0 W1 g f0 f1 := h.kept k.z (fun hm => by simp only [List.mem_cons, List.not_mem_nil, or_false] at hm; rcases hm with e | e <;> contradiction)
theorem IsS97.z3 {w0 W : World} {g : Nat} {f0 : List Int} {f1 : Int} {W1 : World} {b0 b1 b2 : Nat} (h : IsS97 w0 W g f0 f1) (n0 : g ≠ b0) (n1 : g ≠ b1) (n2 : g ≠ b2) [k : Zb [b0, b1, b2] W W1] : IsS97 w0 W1 g f0 f1 := h.kept k.z (fun hm => by simp only [List.mem_cons, List.not_mem_nil, or_false] at hm; rcases hm with e | e | e <;> contradiction)
theorem IsS97.z4 {w0 W : World} {g : Nat} {f0 : List Int} {f1 : Int} {W1 : World} {b0 b1 b2 b3 : Nat} (h : IsS97 w0 W g f0 f1) (n0 : g ≠ b0) (n1 : g ≠ b1) (n2 : g ≠ b2) (n3 : g ≠ b3) [k : Zb [b0, b1, b2, b3] W W1] : IsS97 w0 W1 g f0 f1 := h.kept k.z (fun hm => by simp only [List.mem_cons, List.not_mem_nil, or_false] at hm; rcases hm with e | e | e | e <;> contradiction)
theorem IsS97.z5 {w0 W : World} {g : Nat} {f0 : List Int} {f1 : Int} {W1 : World} {b0 b1 b2 b3 b4 : Nat} (h : IsS97 w0 W g f0 f1) (n0 : g ≠ b0) (n1 : g ≠ b1) (n2 : g ≠ b2) (n3 : g ≠ b3) (n4 : g ≠ b4) [k : Zb [b0, b1, b2, b3, b4] W W1] : IsS97 w0 W1 g f0 f1 := h.kept k.z (fun hm => by simp only [List.mem_cons, List.not_mem_nil, or_false] at hm; rcases hm with e | e | e | e | e <;> contradiction)
theorem IsS97.z6 {w0 W : World} {g : Nat} {f0 : List Int} {f1 : Int} {W1 : World} {b0 b1 b2 b3 b4 b5 : Nat} (h : IsS97 w0 W g f0 f1) (n0 : g ≠ b0) (n1 : g ≠ b1) (n2 : g ≠ b2) (n3 : g ≠ b3) (n4 : g ≠ b4) (n5 : g ≠ b5) [k : Zb [b0, b1, b2, b3, b4, b5] W W1] : IsS97 w0 W1 g f0 f1 := h.kept k.z (fun hm => by simp only [List.mem_cons, List.not_mem_nil, or_false] at hm; rcases hm with e | e | e | e | e | e <;> contradiction)
theorem IsS97.below {w0 W : World} {g : Nat} {f0 : List Int} {f1 : Int} {W1 : World} (h : IsS97 w0 W g f0 f1) (hw : Below W.heap.size W W1) : IsS97 w0 W1 g f0 f1 := h.grown (grown_of_below hw none) (by simp)
theorem IsS97.alloc {w0 W : World} {g : Nat} {f0 : List Int} {f1 : Int} (h : IsS97 w0 W g f0 f1) (o : Obj) : IsS97 w0 (W.alloc o) g f0 f1 := h.below (below_alloc (Below.refl _ _) o)
theorem IsS97.drewN {w0 W : World} {g : Nat} {f0 : List Int} {f1 : Int} (h : IsS97 w0 W g f0 f1) (m : Nat) : IsS97 w0 (W.drewN m) g f0 f1 := h
theorem IsS97.drew {w0 W : World} {g : Nat} {f0 : List Int} {f1 : Int} (h : IsS97 w0 W g f0 f1) : IsS97 w0 W.drew g f0 f1 := h
theorem IsS97.at_ {w0 W : World} {g : Nat} {f0 : List Int} {f1 : Int} {w' : World} {m : Nat} (hq : W.drewN m = w') (h : IsS97 w0 W g f0 f1) : IsS97 w0 w' g f0 f1 := by subst hq; exact IsS97.drewN h m
theorem IsS97.apart {w0 W : World} {g : Nat} {f0 : List Int} {f1 : Int} {α : Type} {d : Kd α} {e : Nat} {base : Nat} {ok : Nat → Prop} {v : Value} {xs : List α} (h : IsS97 w0 W g f0 f1) (ho : d.R e W base ok v xs) (ht : ∀ q, q ∈ e :: d.E → q ≠ 97) : d.R e W base (fun k => ok k ∧ k ≠ g) v xs := by
 obtain ⟨A0, c0, hb, hg, hr0⟩ := h
 exact Kd.R_types ho hb ht
theorem IsS97.own_ne {w0 W : World} {g : Nat} {f0 : List Int} {f1 : Int} {α : Type} {d : Kd α} {e : Nat} {base : Nat} {ok : Nat → Prop} {v : Value} {xs : List α} (h : IsS97 w0 W g f0 f1) (ho : d.R e W base ok v xs) (ht : e ≠ 97) : some g ≠ v.ownBlock := by
 obtain ⟨A0, c0, hb, hg, hr0⟩ := h
 exact Kd.R_ne ho hb ht
theorem IsS97.apartQ {w0 W : World} {g : Nat} {f0 : List Int} {f1 : Int} {α : Type} {d : Kd α} {e : Nat} {base : Nat} {ok : Nat → Prop} {v : Value} {xs : List α} (h : IsS97 w0 W g f0 f1) (ho : d.Q e W base ok v xs) (ht : ∀ q, q ∈ e :: d.E → q ≠ 97) : d.Q e W base (fun k => ok k ∧ k ≠ g) v xs := by
 obtain ⟨A0, c0, hb, hg, hr0⟩ := h
 exact Kd.Q_types ho hb ht
theorem IsS97.own_neQ {w0 W : World} {g : Nat} {f0 : List Int} {f1 : Int} {α : Type} {d : Kd α} {e : Nat} {base : Nat} {ok : Nat → Prop} {v : Value} {xs : List α} (h : IsS97 w0 W g f0 f1) (ho : d.Q e W base ok v xs) (ht : e ≠ 97) : some g ≠ v.ownBlock := by
 obtain ⟨A0, c0, hb, hg, hr0⟩ := h
 exact Kd.Q_ne ho hb ht
theorem IsS97.apartS {w0 W : World} {g : Nat} {f0 : List Int} {f1 : Int} {α : Type} {d : Kd α} {e : Nat} {base : Nat} {ok : Nat → Prop} {v : Value} {xs : List α} (h : IsS97 w0 W g f0 f1) (ho : d.S e W base ok v xs) (ht : ∀ q, q ∈ e :: d.E → q ≠ 97) : d.S e W base (fun k => ok k ∧ k ≠ g) v xs := by
 obtain ⟨A0, c0, hb, hg, hr0⟩ := h
 exact Kd.S_types ho hb ht
theorem IsS97.own_neS {w0 W : World} {g : Nat} {f0 : List Int} {f1 : Int} {α : Type} {d : Kd α} {e : Nat} {base : Nat} {ok : Nat → Prop} {v : Value} {xs : List α} (h : IsS97 w0 W g f0 f1) (ho : d.S e W base ok v xs) (ht : e ≠ 97) : some g ≠ v.ownBlock := by
 obtain ⟨A0, c0, hb, hg, hr0⟩ := h
 exact Kd.S_ne ho hb ht
theorem IsS97.lt {w0 W : World} {g : Nat} {f0 : List Int} {f1 : Int} (h : IsS97 w0 W g f0 f1) : g < W.heap.size := by
 obtain ⟨A0, c0, hb, hg, hr0⟩ := h
 exact blk_lt hb
theorem IsS97.ge {w0 W : World} {g : Nat} {f0 : List Int} {f1 : Int} (h : IsS97 w0 W g f0 f1) : w0.heap.size ≤ g := by
 obtain ⟨A0, c0, hb, hg, hr0⟩ := h
 exact hg
theorem IsS97.ne_blk {w0 W : World} {g : Nat} {f0 : List Int} {f1 : Int} {a : Nat} {cs : Array Value} {t : TypeId} {fr : Nat × Nat} (h : IsS97 w0 W g f0 f1) (hb2 : W.heap[a]? = some (.cells cs t fr)) (ht : t ≠ 97) : g ≠ a := by
 obtain ⟨A0, c0, hb, hg, hr0⟩ := h
 rintro rfl
 rw [hb] at hb2
 injection hb2 with hb2
 injection hb2 with _ ht2
 exact ht ht2.symm
theorem IsS97.far {w0 W : World} {g : Nat} {f0 : List Int} {f1 : Int} {p : Addr} (h : IsS97 w0 W g f0 f1) (hne : g ≠ p.block) (u : Value) : IsS97 w0 (W.setCell p u) g f0 f1 := by
 obtain ⟨A0, c0, hb, hg, hr0⟩ := h
 exact ⟨A0, c0, blk_far hb hne u, hg, hr0⟩
theorem cellS97_0 {W : World} {g : Nat} {A0 : Option Addr} {c0 : Nat} {f0 : List Int} {f1 : Int} (h : W.heap[g]? = some (.cells #[.slice A0 f0.length c0, .int .i64 f1] 97 (0, 0))) : W.cell? ⟨g, 0, none⟩ = some (.slice A0 f0.length c0) := (blk_cell h 0).trans rfl
theorem cellS97_1 {W : World} {g : Nat} {A0 : Option Addr} {c0 : Nat} {f0 : List Int} {f1 : Int} (h : W.heap[g]? = some (.cells #[.slice A0 f0.length c0, .int .i64 f1] 97 (0, 0))) : W.cell? ⟨g, 1, none⟩ = some (.int .i64 f1) := (blk_cell h 1).trans rfl
theorem IsS97.set_1 {w0 W : World} {g : Nat} {f0 : List Int} {f1 : Int} (h : IsS97 w0 W g f0 f1) (x : Int) : IsS97 w0 (W.setCell ⟨g, 1, none⟩ (.int .i64 x)) g f0 x := by
 obtain ⟨A0, c0, hb, hg, hr0⟩ := h
 exact ⟨A0, c0, by simpa using blk_set hb 1 (.int .i64 x), hg, hr0⟩
theorem IsS97.new (w0 W : World) (A0 : Option Addr) (c0 : Nat) (f0 : List Int) (f1 : Int) (hB : Below w0.heap.size w0 W) (hr0 : Kd.C (Kd.int .u8) w0 A0 f0.length f0) : IsS97 w0 (W.alloc (.cells #[.slice A0 f0.length c0, .int .i64 f1] 97)) W.heap.size f0 f1 := ⟨A0, c0, by simpa using heap_alloc_new W _, hB.size, hr0⟩

/-! ### spec_l6Open: function 40 -/
def spec_l6Open.f (l0 : List Int) : Option (List Int × Int) := if (l0.length : Int) > 2000 then (if 2000 ≤ (l0.length : Int) then (some (l0.take 2000, 0)) else (none)) else (some (l0, 0))
set_option maxHeartbeats 8000000 in
set_option maxRecDepth 100000 in
theorem spec_l6Open.calls (A0 : Option Addr) (c0 : Nat) (l0 : List Int) (r1 : List Int) (r2 : Int) (w0 w : World) (hB : Below w0.heap.size w0 w) (hr0 : Kd.C (Kd.int .u8) w0 A0 l0.length l0) (hc0 : l0.length ≤ c0) (h : spec_l6Open.f l0 = some (r1, r2)) :
  Calls Tryd.prog 40 #[.slice A0 l0.length c0] w fun e w' => ∃ g_ : Nat, e = .returned (.pointer (some ⟨g_, 0, none⟩)) ∧ IsS97 w0 w' g_ r1 r2 ∧ Below w0.heap.size w0 w' ∧ Below w.heap.size w w' := by
 have hu97 := Tryd.underlying97; have HR0 := aM hr0; have HC0 := aM hc0; clear hr0 hc0; have HBW := aM (Below.refl w.heap.size w); have HW0 := aM hB.size; have HB := aM hB; clear hB; have H : (if (l0.length : Int) > 2000 then (if 2000 ≤ (l0.length : Int) then (some (l0.take 2000, 0)) else (none)) else (some (l0, 0))) = some (r1, r2) := h; clear h
 by_cases c2 : (l0.length : Int) > 2000
 ·rw [if_pos c2] at H; have c2b0 : decide (2000 < (l0.length : Int)) = true := decide_eq_true c2; have c2b1 : decide (2000 < l0.length) = true := decide_eq_true (by omega); clear c2; replace H := zif H; obtain ⟨c3, H⟩ := H; have c3b0 := eq_true c3; have c3b1 : decide (2000 ≤ (l0.length : Int)) = true := decide_eq_true c3; clear c3; simp only [Option.some.injEq, Prod.mk.injEq] at H; obtain ⟨rfl, rfl⟩ := H; obtain ⟨i04, hi04, _, hsz4, _⟩ := info_parts info5; obtain ⟨hcut4, hA4, hC4⟩ := print_take_of (P := Tryd.prog) (Value.int .u8) 0 22 5 .i64 Tryd.underlying22 hi04 hsz4 A0 c0 l0 2000 (by omega) (zd) HC0.1; have HR128 := aM (Kd.C_of_reads (h1 := fun _ => rfl) (hA4 _ (Kd.reads_of_C HR0.1))); have HC128 := aM hC4; clear hA4 hC4 hi04 hsz4
  go_enter Tryd.func40, Tryd.ntmps40
  go_wp2_with (first | ((with_reducible refine gate_dst (N := 10) rfl ?_); refine zbx 10 #[.slice A0 (l0.take 2000).length c0, .int .i64 0] 97 ?_; intro gb129 hg w5 hbox hb; have _ := aM (below_step HBW.1 hb); have _ := aM (below_step (zB HB.1) hb); have _ := aM (hbox); have _ := aM (zge hg (zB HBW.1)); have _ := aM ((Nat.le_trans HW0.1 (by rw [hg]; exact (below_size (zB HBW.1)) : w.heap.size ≤ gb129) : w0.heap.size ≤ gb129)); clear HBW HB; rename_i HBW HB BK129 GW129 GE129; clear hb hbox hg))
  go_ret
  exact ⟨_, rfl, (show IsS97 w0 _ gb129 (l0.take 2000) 0 from ⟨_, _, by exact zK BK129.1, GE129.1, HR128.1⟩), by exact zB1 HB.1 GE129.1, by exact zB1 HBW.1 GW129.1⟩
 ·rw [if_neg c2] at H; have c2b0 : decide (2000 < (l0.length : Int)) = false := decide_eq_false c2; have c2b1 : decide (2000 < l0.length) = false := decide_eq_false (by omega); clear c2; simp only [Option.some.injEq, Prod.mk.injEq] at H; obtain ⟨rfl, rfl⟩ := H
  go_enter Tryd.func40, Tryd.ntmps40
  go_wp2_with (first | ((with_reducible refine gate_dst (N := 10) rfl ?_); refine zbx 10 #[.slice A0 l0.length c0, .int .i64 0] 97 ?_; intro gb130 hg w6 hbox hb; have _ := aM (below_step HBW.1 hb); have _ := aM (below_step (zB HB.1) hb); have _ := aM (hbox); have _ := aM (zge hg (zB HBW.1)); have _ := aM ((Nat.le_trans HW0.1 (by rw [hg]; exact (below_size (zB HBW.1)) : w.heap.size ≤ gb130) : w0.heap.size ≤ gb130)); clear HBW HB; rename_i HBW HB BK130 GW130 GE130; clear hb hbox hg))
  go_ret
  exact ⟨_, rfl, (show IsS97 w0 _ gb130 l0 0 from ⟨_, _, by exact zK BK130.1, GE130.1, HR0.1⟩), by exact zB1 HB.1 GE130.1, by exact zB1 HBW.1 GW130.1⟩

/-! ### spec_l6Rd_pick: function 43 -/
def spec_l6Rd_pick.j0 : Nat → Int → Bool → List Int → Int → Option (Int × Int)
 | 0, _, _, _, _ => none
 | k + 1, x1, x24, x1000, x1001 => if x24 = true then (some (0, x1001)) else (if (wrap64 (x1001 - 1)) < (x1000.length : Int) then (if 0 ≤ (wrap64 (x1001 - 1)) then (if x1 = 0 then (none) else (some (Int.tmod (wrap64 (rd x1000 (wrap64 (x1001 - 1)))) x1, x1001))) else (none)) else (if (x1000.length : Int) = 0 then (none) else (if 0 ≤ (Int.tmod (wrap64 (x1001 - 1)) (x1000.length : Int)) then (if (Int.tmod (wrap64 (x1001 - 1)) (x1000.length : Int)) < (x1000.length : Int) then (if 0 ≤ (Int.tmod (wrap64 ((wrap64 ((wrap64 (x1001 - 1)) * 7)) + 3)) (x1000.length : Int)) then (if (Int.tmod (wrap64 ((wrap64 ((wrap64 (x1001 - 1)) * 7)) + 3)) (x1000.length : Int)) < (x1000.length : Int) then (if x1 = 0 then (none) else (some (Int.tmod (Go.bits .xor .i64 (wrap64 ((wrap64 ((wrap64 ((wrap64 ((wrap64 (rd x1000 (Int.tmod (wrap64 (x1001 - 1)) (x1000.length : Int)))) * 131)) + (wrap64 ((wrap64 (rd x1000 (Int.tmod (wrap64 ((wrap64 ((wrap64 (x1001 - 1)) * 7)) + 3)) (x1000.length : Int)))) * 1117)))) + (wrap64 ((wrap64 (x1001 - 1)) * 29)))) + (wrap64 ((wrap64 (Int.tdiv (wrap64 (x1001 - 1)) (x1000.length : Int))) * 53)))) (wrap64 (Int.tdiv (wrap64 ((wrap64 ((wrap64 ((wrap64 ((wrap64 (rd x1000 (Int.tmod (wrap64 (x1001 - 1)) (x1000.length : Int)))) * 131)) + (wrap64 ((wrap64 (rd x1000 (Int.tmod (wrap64 ((wrap64 ((wrap64 (x1001 - 1)) * 7)) + 3)) (x1000.length : Int)))) * 1117)))) + (wrap64 ((wrap64 (x1001 - 1)) * 29)))) + (wrap64 ((wrap64 (Int.tdiv (wrap64 (x1001 - 1)) (x1000.length : Int))) * 53)))) 64))) x1, x1001))) else (none)) else (none)) else (none)) else (none))))
def spec_l6Rd_pick.f (k : Nat) (s0_0 : List Int) (s0_1 : Int) (a1 : Int) : Option (Int × Int) := if a1 < 1 then (spec_l6Rd_pick.j0 k a1 true s0_0 (wrap64 (s0_1 + 1))) else (spec_l6Rd_pick.j0 k a1 ((s0_0.length : Int) == 0) s0_0 (wrap64 (s0_1 + 1)))
theorem spec_l6Rd_pick.mono_l : ∀ k, (∀ y0 y1 y2 y3, LeO (spec_l6Rd_pick.j0 k y0 y1 y2 y3) (spec_l6Rd_pick.j0 (k + 1) y0 y1 y2 y3))
 | 0 => fun _ _ _ _ r h => by simp [spec_l6Rd_pick.j0] at h
 | k + 1 => by
  have ih0 := spec_l6Rd_pick.mono_l k
  ·intro y0 y1 y2 y3
   unfold spec_l6Rd_pick.j0
   repeat' first
   | (with_reducible exact ih0 _ _ _ _)
   | (with_reducible exact LeO.refl _)
   | (with_reducible exact LeO.none _)
   | (with_reducible refine LeO.ite ?_ ?_)
   | (with_reducible refine LeO.bind ?_ (fun _ => ?_))
   | exact ih0 _ _ _ _
   | exact LeO.none _
   | refine LeO.ite ?_ ?_
   | refine LeO.bind ?_ (fun _ => ?_)
theorem spec_l6Rd_pick.mono : ∀ a0 a1 a2 k, LeO (spec_l6Rd_pick.f k a0 a1 a2) (spec_l6Rd_pick.f (k + 1) a0 a1 a2) := by
 intro a0 a1 a2 k
 have ih0 := spec_l6Rd_pick.mono_l k
 unfold spec_l6Rd_pick.f
 repeat' with_reducible first | apply ih0 | exact LeO.refl _ | exact LeO.none _ | refine LeO.ite ?_ ?_ | refine LeO.bind ?_ (fun _ => ?_)
set_option maxHeartbeats 8000000 in
set_option maxRecDepth 100000 in
theorem spec_l6Rd_pick.calls (k : Nat) (g : Nat) (s0_0 : List Int) (s0_1 : Int) (a1 : Int) (r1 : Int) (r2 : Int) (w0 w : World) (hI : IsS97 w0 w g s0_0 s0_1) (hB : Below w0.heap.size w0 w) (h : spec_l6Rd_pick.f k s0_0 s0_1 a1 = some (r1, r2)) :
  Calls Tryd.prog 43 #[.pointer (some ⟨g, 0, none⟩), .int .i64 a1] w fun e w' => e = .returned (.int .i64 r1) ∧ IsS97 w0 w' g s0_0 r2 ∧ Below w0.heap.size w0 w' ∧ KeepBut w w' g none := by
 have HI0 := Aside0.mk hI
 have HK := Aside0.mk (KeepBut.refl w g none)
 have HL := Aside0.mk hB.size
 clear hI
 have HW0 := Aside0.mk hB.size
 have HB := Aside0.mk hB
 clear hB
 have H : (if a1 < 1 then (spec_l6Rd_pick.j0 k a1 true s0_0 (wrap64 (s0_1 + 1))) else (spec_l6Rd_pick.j0 k a1 ((s0_0.length : Int) == 0) s0_0 (wrap64 (s0_1 + 1)))) = some (r1, r2) := h
 clear h
 have HC3 := Aside0.mk H
 clear H
 obtain ⟨ASz4_0, cSz4_0, HGz4, hgz4, HSz4_0⟩ := HI0.out
 have hcz4_0 := cellS97_0 HGz4
 have hcz4_1 := cellS97_1 HGz4
 have hfz4_1 := blk_frozen HGz4 1
 clear HGz4 hgz4
 go_enter Tryd.func43, Tryd.ntmps43
 go_upto_region 2 with (fail)
 repeat (go_quiet (fail); go_upto_region 2 with (fail))
 go_cut [24] (fun v24 wc => ∃ (kq : Nat) (x24_2 : Bool), v24 = .bool x24_2 ∧ Aside0 (spec_l6Rd_pick.j0 kq a1 x24_2 s0_0 (wrap64 (s0_1 + 1)) = some (r1, r2)) ∧ Aside0 (kq ≤ k) ∧ Aside0 (IsS97 w0 wc g s0_0 (wrap64 (s0_1 + 1))) ∧ Aside0 (KeepBut w wc g none) ∧ Aside0 (Below w0.heap.size w0 wc))
 case first =>
  have H := HC3.out
  clear HC3
  by_cases c5 : a1 < 1
  ·rw [if_pos c5] at H
   have c5b0 : decide (a1 < 1) = true := decide_eq_true c5
   clear c5
   (first | rw [c5b0] | (simp only [i64_w, i32_w]; rw [c5b0]) | skip)
   have H' := Aside0.mk H
   clear H
   go_wp2
   repeat (go_quiet (fail); try go_wp2)
   go_meet
   case rel => exact ⟨_, (true), (by first | rfl | (simp; done) | (simp [*]; done)), H', ⟨by first | omega | exact Nat.le_refl _⟩, ⟨by repeat (first | (with_reducible first | exact HI0.out | apply IsS97.alloc | apply IsS97.drewN | apply IsS97.drew | apply IsS97.set_1) | exact HI0.out)⟩, ⟨by repeat (first | (with_reducible first | exact HK.out | apply KeepBut.set_ | apply keep_drewN | apply keep_drew | apply keep_alloc) | exact HK.out)⟩, ⟨by exact zB1 HB.out (IsS97.ge HI0.out)⟩⟩
  ·rw [if_neg c5] at H
   have c5b0 : decide (a1 < 1) = false := decide_eq_false c5
   clear c5
   (first | rw [c5b0] | (simp only [i64_w, i32_w]; rw [c5b0]) | skip)
   have H' := Aside0.mk H
   clear H
   obtain ⟨ASz6_0, cSz6_0, HGz6, hgz6, HSz6_0⟩ := HI0.out
   have hcz6_0 := cellS97_0 HGz6
   have hcz6_1 := cellS97_1 HGz6
   have hfz6_1 := blk_frozen HGz6 1
   clear HGz6 hgz6
   go_wp2
   repeat (go_quiet (fail); try go_wp2)
   go_meet
   case rel => exact ⟨_, (((s0_0.length : Int) == 0)), (by first | rfl | (simp; done) | (simp [*]; done)), H', ⟨by first | omega | exact Nat.le_refl _⟩, ⟨by repeat (first | (with_reducible first | exact HI0.out | apply IsS97.alloc | apply IsS97.drewN | apply IsS97.drew | apply IsS97.set_1) | exact HI0.out)⟩, ⟨by repeat (first | (with_reducible first | exact HK.out | apply KeepBut.set_ | apply keep_drewN | apply keep_drew | apply keep_alloc) | exact HK.out)⟩, ⟨by exact zB1 HB.out (IsS97.ge HI0.out)⟩⟩
 case rest =>
  clear HC3
  try clear p2
  try clear c4
  try clear c5
  try clear c5b0
  try clear p6
  try clear hcz4_0
  try clear hcz4_1
  try clear hcz6_0
  try clear hcz6_1
  try clear hfz4_1
  try clear hfz6_1
  obtain ⟨kq, x24_2, rfl, HA, HJ2, HI0, HK, HB⟩ := hcut
  cases kq with
  | zero => exact absurd HA.out (by simp [spec_l6Rd_pick.j0])
  | succ kj2 =>
   have H := HA.out
   clear HA
   simp only [spec_l6Rd_pick.j0] at H
   by_cases c7 : x24_2 = true
   ·subst c7
    have H1 : (some (0, (wrap64 (s0_1 + 1)))) = some (r1, r2) := by rw [if_pos rfl] at H; exact H
    clear H
    have H := H1
    clear H1
    simp only [Option.some.injEq, Prod.mk.injEq] at H
    obtain ⟨rfl, rfl⟩ := H
    go_wp2
    repeat (go_quiet (fail); try go_wp2)
    go_ret
    exact ⟨by first | rfl | (simp [errW_none, errW_some] <;> rfl) | (simp [*, errW_none, errW_some] <;> rfl), by repeat (first | (with_reducible first | exact HI0.out | apply IsS97.alloc | apply IsS97.drewN | apply IsS97.drew | apply IsS97.set_1) | exact HI0.out), by exact zB1 HB.out (IsS97.ge HI0.out), by repeat (first | (with_reducible first | exact HK.out | apply KeepBut.set_ | apply keep_drewN | apply keep_drew | apply keep_alloc) | exact HK.out)⟩
   ·replace c7 := Bool.eq_false_iff.mpr c7
    subst c7
    have H1 : (if (wrap64 ((wrap64 (s0_1 + 1)) - 1)) < (s0_0.length : Int) then (if 0 ≤ (wrap64 ((wrap64 (s0_1 + 1)) - 1)) then (if a1 = 0 then (none) else (some (Int.tmod (wrap64 (rd s0_0 (wrap64 ((wrap64 (s0_1 + 1)) - 1)))) a1, (wrap64 (s0_1 + 1))))) else (none)) else (if (s0_0.length : Int) = 0 then (none) else (if 0 ≤ (Int.tmod (wrap64 ((wrap64 (s0_1 + 1)) - 1)) (s0_0.length : Int)) then (if (Int.tmod (wrap64 ((wrap64 (s0_1 + 1)) - 1)) (s0_0.length : Int)) < (s0_0.length : Int) then (if 0 ≤ (Int.tmod (wrap64 ((wrap64 ((wrap64 ((wrap64 (s0_1 + 1)) - 1)) * 7)) + 3)) (s0_0.length : Int)) then (if (Int.tmod (wrap64 ((wrap64 ((wrap64 ((wrap64 (s0_1 + 1)) - 1)) * 7)) + 3)) (s0_0.length : Int)) < (s0_0.length : Int) then (if a1 = 0 then (none) else (some (Int.tmod (Go.bits .xor .i64 (wrap64 ((wrap64 ((wrap64 ((wrap64 ((wrap64 (rd s0_0 (Int.tmod (wrap64 ((wrap64 (s0_1 + 1)) - 1)) (s0_0.length : Int)))) * 131)) + (wrap64 ((wrap64 (rd s0_0 (Int.tmod (wrap64 ((wrap64 ((wrap64 ((wrap64 (s0_1 + 1)) - 1)) * 7)) + 3)) (s0_0.length : Int)))) * 1117)))) + (wrap64 ((wrap64 ((wrap64 (s0_1 + 1)) - 1)) * 29)))) + (wrap64 ((wrap64 (Int.tdiv (wrap64 ((wrap64 (s0_1 + 1)) - 1)) (s0_0.length : Int))) * 53)))) (wrap64 (Int.tdiv (wrap64 ((wrap64 ((wrap64 ((wrap64 ((wrap64 (rd s0_0 (Int.tmod (wrap64 ((wrap64 (s0_1 + 1)) - 1)) (s0_0.length : Int)))) * 131)) + (wrap64 ((wrap64 (rd s0_0 (Int.tmod (wrap64 ((wrap64 ((wrap64 ((wrap64 (s0_1 + 1)) - 1)) * 7)) + 3)) (s0_0.length : Int)))) * 1117)))) + (wrap64 ((wrap64 ((wrap64 (s0_1 + 1)) - 1)) * 29)))) + (wrap64 ((wrap64 (Int.tdiv (wrap64 ((wrap64 (s0_1 + 1)) - 1)) (s0_0.length : Int))) * 53)))) 64))) a1, (wrap64 (s0_1 + 1))))) else (none)) else (none)) else (none)) else (none)))) = some (r1, r2) := by rw [if_neg (show ¬ (false = true) by decide)] at H; exact H
    clear H
    have H := H1
    clear H1
    by_cases c8 : (wrap64 ((wrap64 (s0_1 + 1)) - 1)) < (s0_0.length : Int)
    ·rw [if_pos c8] at H
     have c8b0 : decide ((wrap64 ((wrap64 (s0_1 + 1)) - 1)) < (s0_0.length : Int)) = true := decide_eq_true c8
     clear c8
     obtain ⟨ji9, hji9⟩ : ∃ j_ : Int, (wrap64 ((wrap64 (s0_1 + 1)) - 1)) = j_ := ⟨_, rfl⟩
     replace H : (if 0 ≤ (ji9) then (if a1 = 0 then (none) else (some (Int.tmod (wrap64 (rd s0_0 (ji9))) a1, (wrap64 (s0_1 + 1))))) else (none)) = some (r1, r2) := by first | (rw [hji9] at H; exact H) | (simp only [hji9] at H ⊢; exact H)
     (try rw [hji9] at c8b0)
     have hji9w : (IntKind.i64.wrap ((wrap64 (s0_1 + 1)) - 1)) = ji9 := (i64_w _).trans hji9
     by_cases c10 : 0 ≤ (ji9)
     ·rw [if_pos c10] at H
      have c10b0 : decide (0 ≤ (ji9)) = true := decide_eq_true c10
      clear c10
      by_cases c11 : a1 = 0
      ·rw [if_pos c11] at H
       exact absurd H (by simp)
      ·rw [if_neg c11] at H
       have c11b0 : (a1 == 0) = false := beq_eq_false_iff_ne.mpr c11
       have c11b1 : (a1 != 0) = true := bne_iff_ne.mpr c11
       simp only [Option.some.injEq, Prod.mk.injEq] at H
       obtain ⟨rfl, rfl⟩ := H
       obtain ⟨ASz12_0, cSz12_0, HGz12, hgz12, HSz12_0⟩ := HI0.out
       have hcz12_0 := cellS97_0 HGz12
       have hcz12_1 := cellS97_1 HGz12
       have hfz12_1 := blk_frozen HGz12 1
       clear HGz12 hgz12
       have p131 : 0 ≤ ((ji9) : Int) := of_decide_eq_true (by first | (with_reducible assumption) | assumption)
       have q131 : (ji9) < (s0_0.length : Int) := of_decide_eq_true (by first | (with_reducible assumption) | assumption)
       obtain ⟨ad131, e131, hx131_0⟩ := Kd.at_int HSz12_0 (ji9) p131 q131
       cases e131
       replace hx131_0 := pw_cell_below HB.out hx131_0
       replace p131 := eq_true p131
       replace q131 := eq_true q131
       go_wp2
       repeat (go_quiet (fail); try go_wp2)
       go_ret
       exact ⟨by first | rfl | (simp [errW_none, errW_some] <;> rfl) | (simp only [← hji9]; first | rfl | (simp [errW_none, errW_some] <;> rfl)) | (simp [*, errW_none, errW_some] <;> rfl), by repeat (first | (with_reducible first | exact HI0.out | apply IsS97.alloc | apply IsS97.drewN | apply IsS97.drew | apply IsS97.set_1) | exact HI0.out), by exact zB1 HB.out (IsS97.ge HI0.out), by repeat (first | (with_reducible first | exact HK.out | apply KeepBut.set_ | apply keep_drewN | apply keep_drew | apply keep_alloc) | exact HK.out)⟩
     ·rw [if_neg c10] at H
      exact absurd H (by simp)
    ·rw [if_neg c8] at H
     have c8b0 : decide ((wrap64 ((wrap64 (s0_1 + 1)) - 1)) < (s0_0.length : Int)) = false := decide_eq_false c8
     clear c8
     by_cases c13 : (s0_0.length : Int) = 0
     ·rw [if_pos c13] at H
      exact absurd H (by simp)
     ·rw [if_neg c13] at H
      have c13b0 : ((s0_0.length : Int) == 0) = false := beq_eq_false_iff_ne.mpr c13
      have c13b1 : ((s0_0.length : Int) != 0) = true := bne_iff_ne.mpr c13
      have c13b2 : ¬ (s0_0 = []) := fun h_ => c13 (by rw [h_]; rfl)
      obtain ⟨ji14, hji14⟩ : ∃ j_ : Int, (Int.tmod (wrap64 ((wrap64 (s0_1 + 1)) - 1)) (s0_0.length : Int)) = j_ := ⟨_, rfl⟩
      replace H : (if 0 ≤ (ji14) then (if (ji14) < (s0_0.length : Int) then (if 0 ≤ (Int.tmod (wrap64 ((wrap64 ((wrap64 ((wrap64 (s0_1 + 1)) - 1)) * 7)) + 3)) (s0_0.length : Int)) then (if (Int.tmod (wrap64 ((wrap64 ((wrap64 ((wrap64 (s0_1 + 1)) - 1)) * 7)) + 3)) (s0_0.length : Int)) < (s0_0.length : Int) then (if a1 = 0 then (none) else (some (Int.tmod (Go.bits .xor .i64 (wrap64 ((wrap64 ((wrap64 ((wrap64 ((wrap64 (rd s0_0 (ji14))) * 131)) + (wrap64 ((wrap64 (rd s0_0 (Int.tmod (wrap64 ((wrap64 ((wrap64 ((wrap64 (s0_1 + 1)) - 1)) * 7)) + 3)) (s0_0.length : Int)))) * 1117)))) + (wrap64 ((wrap64 ((wrap64 (s0_1 + 1)) - 1)) * 29)))) + (wrap64 ((wrap64 (Int.tdiv (wrap64 ((wrap64 (s0_1 + 1)) - 1)) (s0_0.length : Int))) * 53)))) (wrap64 (Int.tdiv (wrap64 ((wrap64 ((wrap64 ((wrap64 ((wrap64 (rd s0_0 (ji14))) * 131)) + (wrap64 ((wrap64 (rd s0_0 (Int.tmod (wrap64 ((wrap64 ((wrap64 ((wrap64 (s0_1 + 1)) - 1)) * 7)) + 3)) (s0_0.length : Int)))) * 1117)))) + (wrap64 ((wrap64 ((wrap64 (s0_1 + 1)) - 1)) * 29)))) + (wrap64 ((wrap64 (Int.tdiv (wrap64 ((wrap64 (s0_1 + 1)) - 1)) (s0_0.length : Int))) * 53)))) 64))) a1, (wrap64 (s0_1 + 1))))) else (none)) else (none)) else (none)) else (none)) = some (r1, r2) := by first | (rw [hji14] at H; exact H) | (simp only [hji14] at H ⊢; exact H)
      by_cases c15 : 0 ≤ (ji14)
      ·rw [if_pos c15] at H
       have c15b0 : decide (0 ≤ (ji14)) = true := decide_eq_true c15
       clear c15
       by_cases c16 : (ji14) < (s0_0.length : Int)
       ·rw [if_pos c16] at H
        have c16b0 : decide ((ji14) < (s0_0.length : Int)) = true := decide_eq_true c16
        clear c16
        obtain ⟨ji17, hji17⟩ : ∃ j_ : Int, (Int.tmod (wrap64 ((wrap64 ((wrap64 ((wrap64 (s0_1 + 1)) - 1)) * 7)) + 3)) (s0_0.length : Int)) = j_ := ⟨_, rfl⟩
        replace H : (if 0 ≤ (ji17) then (if (ji17) < (s0_0.length : Int) then (if a1 = 0 then (none) else (some (Int.tmod (Go.bits .xor .i64 (wrap64 ((wrap64 ((wrap64 ((wrap64 ((wrap64 (rd s0_0 (ji14))) * 131)) + (wrap64 ((wrap64 (rd s0_0 (ji17))) * 1117)))) + (wrap64 ((wrap64 ((wrap64 (s0_1 + 1)) - 1)) * 29)))) + (wrap64 ((wrap64 (Int.tdiv (wrap64 ((wrap64 (s0_1 + 1)) - 1)) (s0_0.length : Int))) * 53)))) (wrap64 (Int.tdiv (wrap64 ((wrap64 ((wrap64 ((wrap64 ((wrap64 (rd s0_0 (ji14))) * 131)) + (wrap64 ((wrap64 (rd s0_0 (ji17))) * 1117)))) + (wrap64 ((wrap64 ((wrap64 (s0_1 + 1)) - 1)) * 29)))) + (wrap64 ((wrap64 (Int.tdiv (wrap64 ((wrap64 (s0_1 + 1)) - 1)) (s0_0.length : Int))) * 53)))) 64))) a1, (wrap64 (s0_1 + 1))))) else (none)) else (none)) = some (r1, r2) := by first | (rw [hji17] at H; exact H) | (simp only [hji17] at H ⊢; exact H)
        by_cases c18 : 0 ≤ (ji17)
        ·rw [if_pos c18] at H
         have c18b0 : decide (0 ≤ (ji17)) = true := decide_eq_true c18
         clear c18
         by_cases c19 : (ji17) < (s0_0.length : Int)
         ·rw [if_pos c19] at H
          have c19b0 : decide ((ji17) < (s0_0.length : Int)) = true := decide_eq_true c19
          clear c19
          by_cases c20 : a1 = 0
          ·rw [if_pos c20] at H
           exact absurd H (by simp)
          ·rw [if_neg c20] at H
           have c20b0 : (a1 == 0) = false := beq_eq_false_iff_ne.mpr c20
           have c20b1 : (a1 != 0) = true := bne_iff_ne.mpr c20
           simp only [Option.some.injEq, Prod.mk.injEq] at H
           obtain ⟨rfl, rfl⟩ := H
           obtain ⟨ASz21_0, cSz21_0, HGz21, hgz21, HSz21_0⟩ := HI0.out
           have hcz21_0 := cellS97_0 HGz21
           have hcz21_1 := cellS97_1 HGz21
           have hfz21_1 := blk_frozen HGz21 1
           clear HGz21 hgz21
           have p132 : 0 ≤ ((ji14) : Int) := of_decide_eq_true (by first | (with_reducible assumption) | assumption)
           have q132 : (ji14) < (s0_0.length : Int) := of_decide_eq_true (by first | (with_reducible assumption) | assumption)
           obtain ⟨ad132, e132, hx132_0⟩ := Kd.at_int HSz21_0 (ji14) p132 q132
           cases e132
           replace hx132_0 := pw_cell_below HB.out hx132_0
           replace p132 := eq_true p132
           replace q132 := eq_true q132
           have p133 : 0 ≤ ((ji17) : Int) := of_decide_eq_true (by first | (with_reducible assumption) | assumption)
           have q133 : (ji17) < (s0_0.length : Int) := of_decide_eq_true (by first | (with_reducible assumption) | assumption)
           obtain ⟨ad133, e133, hx133_0⟩ := Kd.at_int HSz21_0 (ji17) p133 q133
           obtain rfl : ad132 = ad133 := (by injection e133)
           replace hx133_0 := pw_cell_below HB.out hx133_0
           replace p133 := eq_true p133
           replace q133 := eq_true q133
           go_wp2
           repeat (go_quiet (fail); try go_wp2)
           go_ret
           exact ⟨by first | rfl | (simp [errW_none, errW_some] <;> rfl) | (simp only [← hji14, ← hji17]; first | rfl | (simp [errW_none, errW_some] <;> rfl)) | (simp [*, errW_none, errW_some] <;> rfl), by repeat (first | (with_reducible first | exact HI0.out | apply IsS97.alloc | apply IsS97.drewN | apply IsS97.drew | apply IsS97.set_1) | exact HI0.out), by exact zB1 HB.out (IsS97.ge HI0.out), by repeat (first | (with_reducible first | exact HK.out | apply KeepBut.set_ | apply keep_drewN | apply keep_drew | apply keep_alloc) | exact HK.out)⟩
         ·rw [if_neg c19] at H
          exact absurd H (by simp)
        ·rw [if_neg c18] at H
         exact absurd H (by simp)
       ·rw [if_neg c16] at H
        exact absurd H (by simp)
      ·rw [if_neg c15] at H
       exact absurd H (by simp)

/-! ### spec_l71Pkg: function 79 -/
mutual
def spec_l71Pkg.l0 : Nat → Int → Int → Int → List Int → Int → Int → Int → List (S67) → List (S69) → Option (Int × Int × (List (S67)) × (List (S69)) × Int)
 | 0, _, _, _, _, _, _, _, _, _ => none
 | k + 1, x1, x8, x9, x1000, x1001, x142000, x142001, x142002, x142003 => if x9 > 0 then (spec_l71Pkg.j1 k x1 x8 x9 (decide (x8 < 6)) x1000 x1001 x142000 x142001 x142002 x142003) else (spec_l71Pkg.j1 k x1 x8 x9 false x1000 x1001 x142000 x142001 x142002 x142003)
def spec_l71Pkg.j1 : Nat → Int → Int → Int → Bool → List Int → Int → Int → Int → List (S67) → List (S69) → Option (Int × Int × (List (S67)) × (List (S69)) × Int)
 | 0, _, _, _, _, _, _, _, _, _, _ => none
 | k + 1, x1, x8, x9, x25, x1000, x1001, x142000, x142001, x142002, x142003 => if x25 = true then ((spec_l6Rd_pick.f k x1000 x1001 10).bind fun bt146 => (if x142002.length < 8796093022208 then ((spec_l6Rd_pick.f k x1000 bt146.2 3).bind fun bt151 => (spec_l71Pkg.l0 k x1 (wrap64 ((wrap64 (x8 + 1)) + bt151.1)) (wrap64 (x9 - 1)) x1000 bt151.2 x142000 x142001 (x142002 ++ [(⟨x8, bt146.1⟩ : S67)]) x142003)) else (none))) else (spec_l71Pkg.l1 k x1 1 x1000 x1001 x142000 x142001 x142002 x142003)
def spec_l71Pkg.l1 : Nat → Int → Int → List Int → Int → Int → Int → List (S67) → List (S69) → Option (Int × Int × (List (S67)) × (List (S69)) × Int)
 | 0, _, _, _, _, _, _, _, _ => none
 | k + 1, x1, x10, x1000, x1001, x142000, x142001, x142002, x142003 => if x10 ≤ 4 then (spec_l71Pkg.j3 k x1 x10 (decide ((x142003.length : Int) < 2)) x1000 x1001 x142000 x142001 x142002 x142003) else (spec_l71Pkg.j3 k x1 x10 false x1000 x1001 x142000 x142001 x142002 x142003)
def spec_l71Pkg.j3 : Nat → Int → Int → Bool → List Int → Int → Int → Int → List (S67) → List (S69) → Option (Int × Int × (List (S67)) × (List (S69)) × Int)
 | 0, _, _, _, _, _, _, _, _, _ => none
 | k + 1, x1, x10, x49, x1000, x1001, x142000, x142001, x142002, x142003 => if x49 = true then (if x10 = x1 then (spec_l71Pkg.l1 k x1 (wrap64 (x10 + 1)) x1000 x1001 x142000 x142001 x142002 x142003) else ((spec_l6Rd_pick.f k x1000 x1001 6).bind fun bt153 => (if bt153.1 = 0 then ((spec_l6Rd_pick.f k x1000 bt153.2 2).bind fun bt155 => (if x142003.length < 8796093022208 then (spec_l71Pkg.l1 k x1 (wrap64 (x10 + 1)) x1000 bt155.2 x142000 x142001 x142002 (x142003 ++ [(⟨x10, wrap64 (1 + bt155.1)⟩ : S69)])) else (none))) else (spec_l71Pkg.l1 k x1 (wrap64 (x10 + 1)) x1000 bt153.2 x142000 x142001 x142002 x142003)))) else (some (x142000, x142001, x142002, x142003, x1001))
end
def spec_l71Pkg.f (k : Nat) (s0_0 : List Int) (s0_1 : Int) (a1 : Int) (a2 : Int) : Option (Int × Int × (List (S67)) × (List (S69)) × Int) := (spec_l6Rd_pick.f k s0_0 s0_1 4).bind fun bt142 => ((spec_l6Rd_pick.f k s0_0 bt142.2 3).bind fun bt144 => (spec_l71Pkg.l0 k a1 bt142.1 bt144.1 s0_0 bt144.2 a1 a2 (([] : List (S67))) (([] : List (S69)))))
theorem spec_l71Pkg.mono_l : ∀ k, (∀ y0 y1 y2 y3 y4 y5 y6 y7 y8, LeO (spec_l71Pkg.l0 k y0 y1 y2 y3 y4 y5 y6 y7 y8) (spec_l71Pkg.l0 (k + 1) y0 y1 y2 y3 y4 y5 y6 y7 y8)) ∧ (∀ y0 y1 y2 y3 y4 y5 y6 y7 y8 y9, LeO (spec_l71Pkg.j1 k y0 y1 y2 y3 y4 y5 y6 y7 y8 y9) (spec_l71Pkg.j1 (k + 1) y0 y1 y2 y3 y4 y5 y6 y7 y8 y9)) ∧ (∀ y0 y1 y2 y3 y4 y5 y6 y7, LeO (spec_l71Pkg.l1 k y0 y1 y2 y3 y4 y5 y6 y7) (spec_l71Pkg.l1 (k + 1) y0 y1 y2 y3 y4 y5 y6 y7)) ∧ (∀ y0 y1 y2 y3 y4 y5 y6 y7 y8, LeO (spec_l71Pkg.j3 k y0 y1 y2 y3 y4 y5 y6 y7 y8) (spec_l71Pkg.j3 (k + 1) y0 y1 y2 y3 y4 y5 y6 y7 y8))
 | 0 => ⟨fun _ _ _ _ _ _ _ _ _ r h => by simp [spec_l71Pkg.l0] at h, fun _ _ _ _ _ _ _ _ _ _ r h => by simp [spec_l71Pkg.j1] at h, fun _ _ _ _ _ _ _ _ r h => by simp [spec_l71Pkg.l1] at h, fun _ _ _ _ _ _ _ _ _ r h => by simp [spec_l71Pkg.j3] at h⟩
 | k + 1 => by
  obtain ⟨ih0, ih1, ih2, ih3⟩ := spec_l71Pkg.mono_l k
  refine ⟨?_, ?_, ?_, ?_⟩
  ·intro y0 y1 y2 y3 y4 y5 y6 y7 y8
   unfold spec_l71Pkg.l0
   repeat' first
   | (with_reducible exact ih0 _ _ _ _ _ _ _ _ _)
   | (with_reducible exact ih1 _ _ _ _ _ _ _ _ _ _)
   | (with_reducible exact ih2 _ _ _ _ _ _ _ _)
   | (with_reducible exact ih3 _ _ _ _ _ _ _ _ _)
   | (with_reducible exact spec_l6Rd_pick.mono _ _ _ _)
   | (with_reducible exact LeO.refl _)
   | (with_reducible exact LeO.none _)
   | (with_reducible refine LeO.ite ?_ ?_)
   | (with_reducible refine LeO.bind ?_ (fun _ => ?_))
   | exact ih0 _ _ _ _ _ _ _ _ _
   | exact ih1 _ _ _ _ _ _ _ _ _ _
   | exact ih2 _ _ _ _ _ _ _ _
   | exact ih3 _ _ _ _ _ _ _ _ _
   | exact spec_l6Rd_pick.mono _ _ _ _
   | exact LeO.none _
   | refine LeO.ite ?_ ?_
   | refine LeO.bind ?_ (fun _ => ?_)
  ·intro y0 y1 y2 y3 y4 y5 y6 y7 y8 y9
   unfold spec_l71Pkg.j1
   repeat' first
   | (with_reducible exact ih0 _ _ _ _ _ _ _ _ _)
   | (with_reducible exact ih1 _ _ _ _ _ _ _ _ _ _)
   | (with_reducible exact ih2 _ _ _ _ _ _ _ _)
   | (with_reducible exact ih3 _ _ _ _ _ _ _ _ _)
   | (with_reducible exact spec_l6Rd_pick.mono _ _ _ _)
   | (with_reducible exact LeO.refl _)
   | (with_reducible exact LeO.none _)
   | (with_reducible refine LeO.ite ?_ ?_)
   | (with_reducible refine LeO.bind ?_ (fun _ => ?_))
   | exact ih0 _ _ _ _ _ _ _ _ _
   | exact ih1 _ _ _ _ _ _ _ _ _ _
   | exact ih2 _ _ _ _ _ _ _ _
   | exact ih3 _ _ _ _ _ _ _ _ _
   | exact spec_l6Rd_pick.mono _ _ _ _
   | exact LeO.none _
   | refine LeO.ite ?_ ?_
   | refine LeO.bind ?_ (fun _ => ?_)
  ·intro y0 y1 y2 y3 y4 y5 y6 y7
   unfold spec_l71Pkg.l1
   repeat' first
   | (with_reducible exact ih0 _ _ _ _ _ _ _ _ _)
   | (with_reducible exact ih1 _ _ _ _ _ _ _ _ _ _)
   | (with_reducible exact ih2 _ _ _ _ _ _ _ _)
   | (with_reducible exact ih3 _ _ _ _ _ _ _ _ _)
   | (with_reducible exact spec_l6Rd_pick.mono _ _ _ _)
   | (with_reducible exact LeO.refl _)
   | (with_reducible exact LeO.none _)
   | (with_reducible refine LeO.ite ?_ ?_)
   | (with_reducible refine LeO.bind ?_ (fun _ => ?_))
   | exact ih0 _ _ _ _ _ _ _ _ _
   | exact ih1 _ _ _ _ _ _ _ _ _ _
   | exact ih2 _ _ _ _ _ _ _ _
   | exact ih3 _ _ _ _ _ _ _ _ _
   | exact spec_l6Rd_pick.mono _ _ _ _
   | exact LeO.none _
   | refine LeO.ite ?_ ?_
   | refine LeO.bind ?_ (fun _ => ?_)
  ·intro y0 y1 y2 y3 y4 y5 y6 y7 y8
   unfold spec_l71Pkg.j3
   repeat' first
   | (with_reducible exact ih0 _ _ _ _ _ _ _ _ _)
   | (with_reducible exact ih1 _ _ _ _ _ _ _ _ _ _)
   | (with_reducible exact ih2 _ _ _ _ _ _ _ _)
   | (with_reducible exact ih3 _ _ _ _ _ _ _ _ _)
   | (with_reducible exact spec_l6Rd_pick.mono _ _ _ _)
   | (with_reducible exact LeO.refl _)
   | (with_reducible exact LeO.none _)
   | (with_reducible refine LeO.ite ?_ ?_)
   | (with_reducible refine LeO.bind ?_ (fun _ => ?_))
   | exact ih0 _ _ _ _ _ _ _ _ _
   | exact ih1 _ _ _ _ _ _ _ _ _ _
   | exact ih2 _ _ _ _ _ _ _ _
   | exact ih3 _ _ _ _ _ _ _ _ _
   | exact spec_l6Rd_pick.mono _ _ _ _
   | exact LeO.none _
   | refine LeO.ite ?_ ?_
   | refine LeO.bind ?_ (fun _ => ?_)
theorem spec_l71Pkg.mono : ∀ a0 a1 a2 a3 k, LeO (spec_l71Pkg.f k a0 a1 a2 a3) (spec_l71Pkg.f (k + 1) a0 a1 a2 a3) := by
 intro a0 a1 a2 a3 k
 obtain ⟨ih0, ih1, ih2, ih3⟩ := spec_l71Pkg.mono_l k
 unfold spec_l71Pkg.f
 repeat' with_reducible first | apply ih0 | apply ih1 | apply ih2 | apply ih3 | apply spec_l6Rd_pick.mono | exact LeO.refl _ | exact LeO.none _ | refine LeO.ite ?_ ?_ | refine LeO.bind ?_ (fun _ => ?_)
def spec_l71Pkg.T6 : Bool × List (List Nat × List Nat) := (true, [([], []), ([0], [0]), ([], []), ([], []), ([3], [3]), ([2, 4], [2, 4]), ([5], [5]), ([1, 6, 4], [1, 6]), ([0, 1, 2, 3, 4, 5, 6, 7], []), ([8, 7, 7, 0, 1, 2, 3, 4, 5, 6, 7], [7, 8])])
def spec_l71Pkg.B6 : List Nat := [0, 1, 0, 0, 8, 28, 60, 127, 255, 511]
theorem spec_l71Pkg.tab6 : rtab .any (opsOf Tryd.f79 6) = spec_l71Pkg.T6 := by kernel_rfl
theorem spec_l71Pkg.bits6 : waitsOk spec_l71Pkg.T6.2 spec_l71Pkg.B6 = true := by kernel_rfl
def spec_l71Pkg.T12 : Bool × List (List Nat × List Nat) := (true, [([], []), ([0], [0]), ([], []), ([], []), ([3], [3]), ([4], [4]), ([2, 5], [2, 5]), ([6], [6]), ([1, 7, 4], [1, 7]), ([0, 1, 2, 3, 4, 5, 6, 7, 8], []), ([9, 8, 8, 0, 1, 2, 3, 4, 5, 6, 7, 8], [8, 9])])
def spec_l71Pkg.B12 : List Nat := [0, 1, 0, 0, 8, 24, 60, 124, 255, 511, 1023]
theorem spec_l71Pkg.tab12 : rtab .any (opsOf Tryd.f79 12) = spec_l71Pkg.T12 := by kernel_rfl
theorem spec_l71Pkg.bits12 : waitsOk spec_l71Pkg.T12.2 spec_l71Pkg.B12 = true := by kernel_rfl
set_option maxHeartbeats 8000000 in
set_option maxRecDepth 100000 in
theorem spec_l71Pkg.calls (k : Nat) (g : Nat) (s0_0 : List Int) (s0_1 : Int) (a1 : Int) (a2 : Int) (r1 : Int) (r2 : Int) (r3 : List (S67)) (r4 : List (S69)) (r5 : Int) (w0 w : World) (hI : IsS97 w0 w g s0_0 s0_1) (hB : Below w0.heap.size w0 w) (h : spec_l71Pkg.f k s0_0 s0_1 a1 a2 = some (r1, r2, r3, r4, r5)) :
  Calls Tryd.prog 79 #[.pointer (some ⟨g, 0, none⟩), .int .i64 a1, .int .i64 a2] w fun e w' => ∃ v2_ v3_ : Value, e = .returned (.agg #[.int .i64 r1, .int .i64 r2, v2_, v3_]) ∧ Kd.R k67 67 w' w.heap.size (fun _ => True) v2_ r3 ∧ Kd.R k69 69 w' w.heap.size (fun _ => True) v3_ r4 ∧ IsS97 w0 w' g s0_0 r5 ∧ Below w0.heap.size w0 w' ∧ KeepBut w w' g none := by
 have hu31 := Tryd.underlying31; have hu67 := Tryd.underlying67; have hu69 := Tryd.underlying69; have HI0 := aM hI; have HK := aM (KeepBut.refl w g none); have HL := aM hB.size; clear hI; have HW0 := aM hB.size; have HB := aM hB; clear hB; have H : ((spec_l6Rd_pick.f k s0_0 s0_1 4).bind fun bt142 => ((spec_l6Rd_pick.f k s0_0 bt142.2 3).bind fun bt144 => (spec_l71Pkg.l0 k a1 bt142.1 bt144.1 s0_0 bt144.2 a1 a2 (([] : List (S67))) (([] : List (S69)))))) = some (r1, r2, r3, r4, r5) := h; clear h; obtain ⟨y135, hy135⟩ : ∃ y_ : List (S67), y_ = (([] : List (S67))) := ⟨_, rfl⟩
 replace H : ((spec_l6Rd_pick.f k s0_0 s0_1 4).bind fun bt142 => ((spec_l6Rd_pick.f k s0_0 bt142.2 3).bind fun bt144 => (spec_l71Pkg.l0 k a1 bt142.1 bt144.1 s0_0 bt144.2 a1 a2 y135 (([] : List (S69)))))) = some (r1, r2, r3, r4, r5) := by first | (rw [hy135]; with_reducible exact H) | (have H2_ := (Option.bind_some _ _).symm.trans H; rw [hy135]; with_reducible exact H2_) | (have H2_ := (Option.bind_some _ _).symm.trans H; with_reducible exact H2_) | with_reducible exact H | (rw [hy135]; exact H) | exact H
 have Ny135 := aM hy135; clear hy135; obtain ⟨y138, hy138⟩ : ∃ y_ : List (S69), y_ = (([] : List (S69))) := ⟨_, rfl⟩
 replace H : ((spec_l6Rd_pick.f k s0_0 s0_1 4).bind fun bt142 => ((spec_l6Rd_pick.f k s0_0 bt142.2 3).bind fun bt144 => (spec_l71Pkg.l0 k a1 bt142.1 bt144.1 s0_0 bt144.2 a1 a2 y135 y138))) = some (r1, r2, r3, r4, r5) := by first | (rw [hy138]; with_reducible exact H) | (have H2_ := (Option.bind_some _ _).symm.trans H; rw [hy138]; with_reducible exact H2_) | (have H2_ := (Option.bind_some _ _).symm.trans H; with_reducible exact H2_) | with_reducible exact H | (rw [hy138]; exact H) | exact H
 have Ny138 := aM hy138; clear hy138; replace H := Option.bind_eq_some_iff.mp H; obtain ⟨⟨t142, t143⟩, A40, H⟩ := H; (try dsimp only at H); have A4 := aM A40; clear A40; replace H := Option.bind_eq_some_iff.mp H; obtain ⟨⟨t144, t145⟩, A50, H⟩ := H; (try dsimp only at H); have A5 := aM A50; clear A50; have H' := aM H; clear H
 go_enter Tryd.func79, Tryd.ntmps79
 go_wp2_with (first | ((with_reducible refine gate_dst (N := 6) rfl ?_); (try (refine gate_guard (by rfl) ?_; dsimp only)); refine box_event ?hg (N := 6) ?hd (cs := #[.int .i64 0, .int .i64 0, .slice none 0 0, .slice none 0 0]) (t := 31) ?hr ?_; (case hd => rfl); (case hg => rfl); (case hr => first | (go_simp; done) | (go_simp; rfl)); intro gb134 hg w6 hbox hb; have _ := aM (IsS97.below (by exact IsS97.z0 HI0.1) hb); have _ := aM (KeepBut.trans (zQ0 HK.1) (KeepBut.of_below hb g none) (.inl rfl)); have _ := aM (below_step (zB1 HB.1 (IsS97.ge HI0.1)) hb); have _ := aM (hbox); have _ := aM (zgk hg (zQ0 HK.1)); have _ := aM ((Nat.le_trans HW0.1 (by rw [hg]; exact (keep_size (w := w) (g := g) (row := none) (zQ0 HK.1)) : w.heap.size ≤ gb134) : w0.heap.size ≤ gb134)); have _ := aM ((by rw [hg]; exact Nat.ne_of_lt (IsS97.lt (show IsS97 w0 _ g s0_0 s0_1 from by exact IsS97.z0 HI0.1)) : g ≠ gb134)); have _ := aM ((by rw [hg]; exact Nat.ne_of_gt (IsS97.lt (show IsS97 w0 _ g s0_0 s0_1 from by exact IsS97.z0 HI0.1)) : gb134 ≠ g)); clear HI0 HK HB; rename_i HI0 HK HB BK134 GW134 GE134 NB0_134 NB134_0; clear hb hbox hg) | ((with_reducible refine gate_dst (N := 13) rfl ?_); (try (refine gate_guard (by rfl) ?_; dsimp only)); refine Kd.R_lit k67 _ 67 ?hg (N := 13) ?hd (xs := ([] : List (S67))) (inner := []) (ok := fun _ => True) (okp := fun _ => True) ?hr ?hp (fun _ hk => hk) trivial (Below.refl _ _) (Nat.le_refl _) (by simp) ?_; (case hd => rfl); (case hg => rfl); (case hr => first | (go_simp; done) | (go_simp; rfl)); (case hp => exact (Reps.none _ _)); intro v136 w7 ho8 hb hg_ hnew_; clear hg_ hnew_; (first | rw [← Ny135.1] at ho8 | (simp only [Int.reduceToNat] at ho8; rw [← Ny135.1] at ho8)); have _ := aM (Kd.R_lower ho8 (keep_size (w := w) (g := g) (row := none) (zQ1 HK.1 GW134.1))); have _ := aM (IsS97.below (by exact IsS97.z1 HI0.1 NB0_134.1) hb); have _ := aM (blk_below (zK BK134.1) hb); have _ := aM (KeepBut.trans (zQ1 HK.1 GW134.1) (KeepBut.of_below hb g none) (.inl rfl)); have _ := aM (below_step (zB2 HB.1 (IsS97.ge HI0.1) GE134.1) hb); clear HI0 BK134 HK HB; rename_i HO137 HI0 BK134 HK HB; clear hb ho8) | ((with_reducible refine gate_dst (N := 14) rfl ?_); (try (refine gate_guard (by rfl) ?_; dsimp only)); refine Kd.R_lit k69 _ 69 ?hg (N := 14) ?hd (xs := ([] : List (S69))) (inner := []) (ok := fun _ => True) (okp := fun _ => True) ?hr ?hp (fun _ hk => hk) trivial (Below.refl _ _) (Nat.le_refl _) (by simp) ?_; (case hd => rfl); (case hg => rfl); (case hr => first | (go_simp; done) | (go_simp; rfl)); (case hp => exact (Reps.none _ _)); intro v139 w9 ho10 hb hg_ hnew_; clear hg_ hnew_; (first | rw [← Ny138.1] at ho10 | (simp only [Int.reduceToNat] at ho10; rw [← Ny138.1] at ho10)); have _ := aM (Kd.R_below (zR HO137.1) hb); have _ := aM (Kd.R_lower ho10 (keep_size (w := w) (g := g) (row := none) (zQ1 HK.1 GW134.1))); have _ := aM (IsS97.below (by exact IsS97.z1 HI0.1 NB0_134.1) hb); have _ := aM (blk_below (zK BK134.1) hb); have _ := aM (KeepBut.trans (zQ1 HK.1 GW134.1) (KeepBut.of_below hb g none) (.inl rfl)); have _ := aM (below_step (zB2 HB.1 (IsS97.ge HI0.1) GE134.1) hb); clear HO137 HI0 BK134 HK HB; rename_i HO137 HO140 HI0 BK134 HK HB; clear hb ho10; obtain ⟨Ao11, co11, eo11⟩ := Kd.R_slice HO140.1; subst eo11; obtain ⟨Ao12, co12, eo12⟩ := Kd.R_slice HO137.1; subst eo12) | ((with_reducible refine gate_dst (N := 7) rfl ?_); (try (refine gate_guard (by rfl) ?_; dsimp only)); refine box_event ?hg (N := 7) ?hd (cs := #[.int .i64 0, .int .i64 0, .slice none 0 0, .slice none 0 0]) (t := 31) ?hr ?_; (case hd => rfl); (case hg => rfl); (case hr => first | (go_simp; done) | (go_simp; rfl)); intro gb141 hg w13 hbox hb; have _ := aM (Kd.R_below (zR HO137.1) hb); have _ := aM (Kd.R_below (zR HO140.1) hb); have _ := aM (IsS97.below (by exact IsS97.z1 HI0.1 NB0_134.1) hb); have _ := aM (blk_below (zK BK134.1) hb); have _ := aM (KeepBut.trans (zQ1 HK.1 GW134.1) (KeepBut.of_below hb g none) (.inl rfl)); have _ := aM (below_step (zB2 HB.1 (IsS97.ge HI0.1) GE134.1) hb); have _ := aM (hbox); have _ := aM (zgk hg (zQ1 HK.1 GW134.1)); have _ := aM ((Nat.le_trans HW0.1 (by rw [hg]; exact (keep_size (w := w) (g := g) (row := none) (zQ1 HK.1 GW134.1)) : w.heap.size ≤ gb141) : w0.heap.size ≤ gb141)); have _ := aM (znl hg (zK BK134.1)); have _ := aM (zng hg (zK BK134.1)); have _ := aM ((by rw [hg]; exact Nat.ne_of_lt (IsS97.lt (show IsS97 w0 _ g s0_0 s0_1 from by exact IsS97.z1 HI0.1 NB0_134.1)) : g ≠ gb141)); have _ := aM ((by rw [hg]; exact Nat.ne_of_gt (IsS97.lt (show IsS97 w0 _ g s0_0 s0_1 from by exact IsS97.z1 HI0.1 NB0_134.1)) : gb141 ≠ g)); clear HO137 HO140 HI0 BK134 HK HB; rename_i HO137 HO140 HI0 BK134 HK HB BK141 GW141 GE141 NB134_141 NB141_134 NB0_141 NB141_0; clear hb hbox hg; have hnb14 := NB141_134.1; have hnc14 := NB134_141.1; have hnb15 := NB141_0.1; have hnc15 := NB0_141.1; obtain ⟨hcz16_0, hcz16_1, hcz16_2, hcz16_3, hfz16_0, hfz16_1, hfz16_2, hfz16_3⟩ := zc4f BK141.1) | ((with_reducible refine gate_callee (f := 43) rfl ?_); refine zgL (some 17) Tryd.func43 #[.pointer (some ⟨g, 0, none⟩), .int .i64 4] ?_; (with_reducible refine (spec_l6Rd_pick.calls k g s0_0 s0_1 4 t142 t143 w0 _ ?side1 ?side2 A4.1).mono ?_); (case side1 => exact IsS97.z2 HI0.1 NB0_134.1 NB0_141.1); (case side2 => exact zB3 HB.1 (IsS97.ge HI0.1) GE134.1 GE141.1); rintro e w17 ⟨rfl, hi, hb, hk⟩; refine ⟨_, rfl, ?_⟩; have _ := aM (KeepBut.blk hk (zK1 BK134.1 NB134_141.1) NB134_0.1 (by simp)); have _ := aM (Kd.R_mono (Kd.R_keep (IsS97.apart (show IsS97 w0 _ g s0_0 s0_1 from by exact IsS97.z2 HI0.1 NB0_134.1 NB0_141.1) (zT HO137.1 BK141.1 (by decide)) (by decide)) hk (fun _ h => h.2)) (fun _ h => h.1)); have _ := aM (Kd.R_mono (Kd.R_keep (IsS97.apart (show IsS97 w0 _ g s0_0 s0_1 from by exact IsS97.z2 HI0.1 NB0_134.1 NB0_141.1) (zT HO140.1 BK141.1 (by decide)) (by decide)) hk (fun _ h => h.2)) (fun _ h => h.1)); have _ := aM (KeepBut.blk hk (g' := gb141) (o := .cells #[.int .i64 a1, .int .i64 a2, .slice Ao12 y135.length co12, .slice Ao11 y138.length co11] 31 (0, 0)) (by exact zP BK141.1 (by rfl)) NB141_0.1 (by simp)); have _ := aM (KeepBut.trans (zQ2 HK.1 GW134.1 GW141.1) hk (.inl rfl)); have _ := aM (hb); have _ := aM (hi); clear BK134 HO137 HO140 BK141 HK HB HI0; rename_i BK134 HO137 HO140 BK141 HK HB HI0; (try clear hb); (try clear hb2); (try clear hk); (try clear hi)) | ((with_reducible refine gate_callee (f := 43) rfl ?_); refine zgL (some 19) Tryd.func43 #[.pointer (some ⟨g, 0, none⟩), .int .i64 3] ?_; (with_reducible refine (spec_l6Rd_pick.calls k g s0_0 t143 3 t144 t145 w0 _ ?side1 ?side2 A5.1).mono ?_); (case side1 => exact IsS97.z2 HI0.1 NB0_134.1 NB0_141.1); (case side2 => exact zB3 HB.1 (IsS97.ge HI0.1) GE134.1 GE141.1); rintro e w18 ⟨rfl, hi, hb, hk⟩; refine ⟨_, rfl, ?_⟩; have _ := aM (KeepBut.blk hk (zK BK134.1) NB134_0.1 (by simp)); have _ := aM (Kd.R_mono (Kd.R_keep (IsS97.apart (show IsS97 w0 _ g s0_0 t143 from by exact IsS97.z2 HI0.1 NB0_134.1 NB0_141.1) (zR HO137.1) (by decide)) hk (fun _ h => h.2)) (fun _ h => h.1)); have _ := aM (Kd.R_mono (Kd.R_keep (IsS97.apart (show IsS97 w0 _ g s0_0 t143 from by exact IsS97.z2 HI0.1 NB0_134.1 NB0_141.1) (zR HO140.1) (by decide)) hk (fun _ h => h.2)) (fun _ h => h.1)); have _ := aM (KeepBut.blk hk (zK BK141.1) NB141_0.1 (by simp)); have _ := aM (KeepBut.trans (zQ2 HK.1 GW134.1 GW141.1) hk (.inl rfl)); have _ := aM (hb); have _ := aM (hi); clear BK134 HO137 HO140 BK141 HK HB HI0; rename_i BK134 HO137 HO140 BK141 HK HB HI0; (try clear hb); (try clear hb2); (try clear hk); (try clear hi)))
 go_loopg [8, 9] k (fun kq v8 v9 w' => ∃ (x8_1 : Int) (x9_1 : Int) (x1001_1 : Int) (x142002_1 : List (S67)) (u142002 : Value), v8 = .int .i64 x8_1 ∧ v9 = .int .i64 x9_1 ∧ Aside0 (spec_l71Pkg.l0 kq a1 x8_1 x9_1 s0_0 x1001_1 a1 a2 x142002_1 y138 = some (r1, r2, r3, r4, r5)) ∧ Aside0 (kq ≤ k) ∧ Aside0 (Kd.R k67 67 w' w.heap.size (fun _ => True) u142002 x142002_1) ∧ Aside0 (Kd.R k69 69 w' w.heap.size (fun _ => True) (.slice Ao11 y138.length co11) y138) ∧ Aside0 (w'.heap[gb134]? = some (.cells #[.int .i64 0, .int .i64 0, (.slice none 0 0), (.slice none 0 0)] 31 (0, 0))) ∧ Aside0 (w'.heap[gb141]? = some (.cells #[.int .i64 a1, .int .i64 a2, u142002, (.slice Ao11 y138.length co11)] 31 (0, 0))) ∧ Aside0 (IsS97 w0 w' g s0_0 x1001_1) ∧ Aside0 (KeepBut w w' g none) ∧ Aside0 (Below w0.heap.size w0 w'))
 case atStart => exact ⟨(t142), (t144), (t145), (y135), (.slice Ao12 y135.length co12), (by first | rfl | (simp; done) | (simp [*]; done)), (by first | rfl | (simp; done) | (simp [*]; done)), H', ⟨Nat.le_refl _⟩, ⟨zR HO137.1⟩, ⟨zR HO140.1⟩, ⟨zK BK134.1⟩, ⟨zK BK141.1⟩, ⟨by exact IsS97.z2 HI0.1 NB0_134.1 NB0_141.1⟩, ⟨zQ2 HK.1 GW134.1 GW141.1⟩, ⟨zB3 HB.1 (IsS97.ge HI0.1) GE134.1 GE141.1⟩⟩
 case round =>
  clear H'
  try clear c1
  try clear p2
  try clear c4
  try clear c7
  try clear c14
  try clear c15
  try clear hcz16_0
  try clear hcz16_1
  try clear hcz16_2
  try clear hcz16_3
  try clear hfz16_0
  try clear hfz16_1
  try clear hfz16_2
  try clear hfz16_3
  obtain ⟨x8_1, x9_1, x1001_1, x142002_1, u142002, rfl, rfl, HA, HK1, HO_142002, HO_142003, BK134, BK141, HI0, HK, HB⟩ := hrel; cases gk with
  | zero => exact absurd HA.1 (by simp [spec_l71Pkg.l0])
  | succ k1 =>
   have H := HA.1; clear HA; simp only [spec_l71Pkg.l0] at H; have HC19 := aM H; clear H
   go_upto_region 4 with (fail)
   go_cut [25] (fun v25 wc => ∃ (kq : Nat) (x25_18 : Bool), v25 = .bool x25_18 ∧ Aside0 (spec_l71Pkg.j1 kq a1 x8_1 x9_1 x25_18 s0_0 x1001_1 a1 a2 x142002_1 y138 = some (r1, r2, r3, r4, r5)) ∧ Aside0 (kq ≤ k1) ∧ Aside0 (Kd.R k67 67 wc w.heap.size (fun _ => True) u142002 x142002_1) ∧ Aside0 (Kd.R k69 69 wc w.heap.size (fun _ => True) (.slice Ao11 y138.length co11) y138) ∧ Aside0 (wc.heap[gb134]? = some (.cells #[.int .i64 0, .int .i64 0, (.slice none 0 0), (.slice none 0 0)] 31 (0, 0))) ∧ Aside0 (wc.heap[gb141]? = some (.cells #[.int .i64 a1, .int .i64 a2, u142002, (.slice Ao11 y138.length co11)] 31 (0, 0))) ∧ Aside0 (IsS97 w0 wc g s0_0 x1001_1) ∧ Aside0 (KeepBut w wc g none) ∧ Aside0 (Below w0.heap.size w0 wc))
   case first =>
    have H := HC19.1; clear HC19
    by_cases c20 : x9_1 > 0
    ·rw [if_pos c20] at H; have c20b0 : decide (0 < x9_1) = true := decide_eq_true c20; clear c20; (first | rw [c20b0] | (simp only [i64_w, i32_w]; rw [c20b0]) | skip); have H' := aM H; clear H
     go_wp2
     go_meet
     case rel => exact ⟨_, (decide (x8_1 < 6)), (by first | rfl | (simp; done) | (simp [*]; done)), H', ⟨by have := HK1.1; first | omega | exact Nat.le_refl _⟩, ⟨zR HO_142002.1⟩, ⟨zR HO_142003.1⟩, ⟨zK BK134.1⟩, ⟨zK BK141.1⟩, ⟨by exact IsS97.z2 HI0.1 NB0_134.1 NB0_141.1⟩, ⟨zQ2 HK.1 GW134.1 GW141.1⟩, ⟨zB3 HB.1 (IsS97.ge HI0.1) GE134.1 GE141.1⟩⟩
    ·rw [if_neg c20] at H; have c20b0 : decide (0 < x9_1) = false := decide_eq_false c20; clear c20; (first | rw [c20b0] | (simp only [i64_w, i32_w]; rw [c20b0]) | skip); have H' := aM H; clear H
     go_wp2
     go_meet
     case rel => exact ⟨_, (false), (by first | rfl | (simp; done) | (simp [*]; done)), H', ⟨by have := HK1.1; first | omega | exact Nat.le_refl _⟩, ⟨zR HO_142002.1⟩, ⟨zR HO_142003.1⟩, ⟨zK BK134.1⟩, ⟨zK BK141.1⟩, ⟨by exact IsS97.z2 HI0.1 NB0_134.1 NB0_141.1⟩, ⟨zQ2 HK.1 GW134.1 GW141.1⟩, ⟨zB3 HB.1 (IsS97.ge HI0.1) GE134.1 GE141.1⟩⟩
   case rest =>
    clear HC19
    try clear c1
    try clear c2
    try clear p2
    try clear c4
    try clear c7
    try clear c14
    try clear c15
    try clear c20
    try clear c20b0
    try clear hcz16_0
    try clear hcz16_1
    try clear hcz16_2
    try clear hcz16_3
    try clear hfz16_0
    try clear hfz16_1
    try clear hfz16_2
    try clear hfz16_3
    try clear p2
    obtain ⟨kq, x25_18, rfl, HA, HJ18, HO_142002, HO_142003, BK134, BK141, HI0, HK, HB⟩ := hcut; cases kq with
    | zero => exact absurd HA.1 (by simp [spec_l71Pkg.j1])
    | succ kj18 =>
     have H := HA.1; clear HA; simp only [spec_l71Pkg.j1] at H
     by_cases c21 : x25_18 = true
     ·subst c21; replace H := zy1 H; replace H := Option.bind_eq_some_iff.mp H; obtain ⟨⟨t146, t147⟩, A220, H⟩ := H; (try dsimp only at H); have A22 := aM A220; clear A220; replace H := zif H; obtain ⟨c23, H⟩ := H; have LMc23 := aM c23; clear c23; obtain ⟨y148, hy148⟩ : ∃ y_ : List (S67), y_ = (x142002_1 ++ [(⟨x8_1, t146⟩ : S67)]) := ⟨_, rfl⟩; (first | (replace H := zbs hy148 H; try dsimp only at H) | rw [← hy148] at H); have Ny148 := aM hy148; clear hy148; replace H := Option.bind_eq_some_iff.mp H; obtain ⟨⟨t151, t152⟩, A240, H⟩ := H; (try dsimp only at H); have A24 := aM A240; clear A240; have H' := aM H; clear H
      try go_wp2
      have _ := aM (Kd.R_drew HO_142002.1); have _ := aM (Kd.R_drew HO_142003.1); have _ := aM (blk_drew BK134.1); have _ := aM (blk_drew BK141.1); have _ := aM (IsS97.drew HI0.1); have _ := aM (keep_drew HK.1); have _ := aM (below_drew1 HB.1); clear HO_142002 HO_142003 BK134 BK141 HI0 HK HB; rename_i HO_142002 HO_142003 BK134 BK141 HI0 HK HB
      refine start_ (n := 10) (S := fun w' => w'.cell? ⟨gb141, 0, none⟩ = some (.int .i64 a1) ∧ w'.cell? ⟨gb141, 1, none⟩ = some (.int .i64 a2) ∧ w'.cell? ⟨gb141, 2, none⟩ = some (u142002) ∧ w'.cell? ⟨gb141, 3, none⟩ = some (.slice Ao11 y138.length co11)) (ds := [9]) (zA 10 0) (by kernel_rfl) rfl rfl ⟨(blk_cell BK141.1 0).trans rfl, (blk_cell BK141.1 1).trans rfl, (blk_cell BK141.1 2).trans rfl, (blk_cell BK141.1 3).trans rfl⟩ (fun hHeld => ?_); refine with_tabW spec_l71Pkg.tab6 spec_l71Pkg.bits6 (fun HT_ HW_ => ?_)
      generalize wc.drew = w25 at HO_142002 HO_142003 BK134 BK141 HI0 HK HB hHeld ⊢; refine zu HT_ 0 (some 28) (zA 10 1) ?_; refine zu HT_ 2 (some 30) (zA 10 5) ?_; refine zu HT_ 3 (some 31) (zA 10 13) ?_; refine take_ (i := 1) (N := some 29) (v := ?_) (a' := ?_) (zA 10 15) rfl rfl (take_ofW HT_.1 HW_.1 (by kernel_rfl)) (fun _ _ _ h => h) (Or.inl ⟨by rfl, ?_⟩) hHeld ?_ ?_; rotate_left
      ·rintro w' ⟨s0, s1, s2, s3⟩
       go_simp
       (with_reducible rfl)
      rotate_left
      ·simp only [zp0, zp1, zp2, zp3, zp4, i64_w, i32_w]; rfl
      refine zo HT_ 4 (some 32) (zA 10 31) (fun K hK => ?_); refine zg Tryd.func43 #[.pointer (some ⟨g, 0, none⟩), .int .i64 10] ?_; (with_reducible refine (spec_l6Rd_pick.calls kj18 g s0_0 x1001_1 10 t146 t147 w0 _ ?side1 ?side2 A22.1).mono ?_); (case side1 => exact IsS97.z2 HI0.1 NB0_134.1 NB0_141.1); (case side2 => exact zB3 HB.1 (IsS97.ge HI0.1) GE134.1 GE141.1); rintro e w26 ⟨rfl, hi, hb, hk⟩; refine ⟨_, rfl, ?_⟩; have _ := aM (Kd.R_mono (Kd.R_keep (IsS97.apart (show IsS97 w0 _ g s0_0 x1001_1 from by exact IsS97.z2 HI0.1 NB0_134.1 NB0_141.1) (zR HO_142002.1) (by decide)) hk (fun _ h => h.2)) (fun _ h => h.1)); have _ := aM (Kd.R_mono (Kd.R_keep (IsS97.apart (show IsS97 w0 _ g s0_0 x1001_1 from by exact IsS97.z2 HI0.1 NB0_134.1 NB0_141.1) (zR HO_142003.1) (by decide)) hk (fun _ h => h.2)) (fun _ h => h.1)); have _ := aM (KeepBut.blk hk (zK BK134.1) NB134_0.1 (by simp)); have _ := aM (KeepBut.blk hk (zK BK141.1) NB141_0.1 (by simp)); have _ := aM (KeepBut.trans (zQ2 HK.1 GW134.1 GW141.1) hk (.inl rfl)); have _ := aM (hb); have _ := aM (hi); clear HO_142002 HO_142003 BK134 BK141 HK HB HI0; rename_i HO_142002 HO_142003 BK134 BK141 HK HB HI0; (try clear hb); (try clear hb2); (try clear hk); (try clear hi); refine hK.out _ _ ⟨(blk_cell BK141.1 0).trans rfl, (blk_cell BK141.1 1).trans rfl, (blk_cell BK141.1 2).trans rfl, (blk_cell BK141.1 3).trans rfl⟩ (fun hHeld => ?_); clear hK K; refine zn (some 32) ?_; refine zu HT_ 5 (some 33) (zA 10 63) ?_; refine zo HT_ 6 (some 34) (zA 10 127) (fun K hK => ?_); refine value_ (w1 := ?_) (v := ?_) (by rfl) rfl ?_ ?_; rotate_left 2
      ·go_simp
       constructor
       ·rfl
       ·rfl
      refine hK.out _ _ ⟨(blk_cell (blk_alloc BK141.1 _) 0).trans rfl, (blk_cell (blk_alloc BK141.1 _) 1).trans rfl, (blk_cell (blk_alloc BK141.1 _) 2).trans rfl, (blk_cell (blk_alloc BK141.1 _) 3).trans rfl⟩ (fun hHeld => ?_); clear hK K; refine zn (some 34) ?_; refine zo HT_ 7 (some 35) (zA 10 255) (fun K hK => ?_); refine Kd.R_append_step k67 w.heap.size (by rfl) (.tmp 29) (.tmp 34) 28 67 (.agg #[(.int .i64 0), (.int .i64 0)]) 16 rfl Tryd.underlying28 info67 rfl (by decide) (by omega) u142002 x142002_1 (⟨x8_1, t146⟩ : S67) [.int .i64 x8_1, .int .i64 t146] (fun _ => True) (fun _ => False) rfl rfl ?aP (fun _ hk => hk.elim) ?aF ?aO (Below.refl _ _) ?aS ?aL ?_; (case aP => exact k67_mkM _ _ _ (⟨x8_1, t146⟩ : S67)); (case aF => exact (fun _ _ => trivial)); (case aO => exact (zR HO_142002.1)); (case aS => exact (keep_size (w := w) (g := g) (row := none) (zQ2 HK.1 GW134.1 GW141.1))); (case aL => have := LMc23.1; omega); intro v149 w27 ho hb hg hat; rw [← Ny148.1] at ho; have _ := aM (Kd.R_over' (zR HO_142003.1) (Kd.R_typed (zR HO_142002.1)) (by decide) hg); have _ := aM (blk_grown (zK BK134.1) hg (Kd.R_ne HO_142002.1 BK134.1 (by decide))); have _ := aM (blk_grown (zK BK141.1) hg (Kd.R_ne HO_142002.1 BK141.1 (by decide))); have _ := aM (IsS97.grown (by exact IsS97.z2 HI0.1 NB0_134.1 NB0_141.1) hg (IsS97.own_ne HI0.1 HO_142002.1 (by decide))); have _ := aM (below_weaken (zB3 HB.1 (IsS97.ge HI0.1) GE134.1 GE141.1) HL.1 hb); have _ := aM (KeepBut.trans (zQ2 HK.1 GW134.1 GW141.1) (KeepBut.of_grown hg g) (Kd.R_base2 HO_142002.1)); have _ := aM (ho); clear HO_142003 BK134 BK141 HI0 HB HK HO_142002; rename_i HO_142003 BK134 BK141 HI0 HB HK HO150; clear ho hb hg hat; obtain ⟨Ao28, co28, eo28⟩ := Kd.R_slice HO150.1; (first | subst eo28 | (injection eo28 with f1_ f2_ f3_; have f4_ := f1_.symm; have f5_ := f3_.symm; clear f1_ f2_ f3_; subst f4_; subst f5_)); refine hK.out _ _ ⟨(blk_cell BK141.1 0).trans rfl, (blk_cell BK141.1 1).trans rfl, (blk_cell BK141.1 2).trans rfl, (blk_cell BK141.1 3).trans rfl⟩ (fun hHeld => ?_); clear hK K; refine zn (some 35) ?_; refine zu HT_ 8 (some 36) (zA 10 511) ?_; refine last_ (i := 9) (N := none) (zA 10 1023) rfl rfl (one_of HT_.1 (by kernel_rfl)) (by decide) (fun K hK => ?_); have hs29 : w27.cell? ⟨gb141, 2, none⟩ = some (u142002) := (blk_cell BK141.1 2).trans rfl; have hfs29 := blk_frozen BK141.1 2; have hns29_0 := NB134_141.1; have hms29_0 := NB141_134.1; refine skip_ (w1 := ?_) (by rfl) rfl ?_ ?_; rotate_left
      ·go_simp
       rfl
      refine hK.out _ _ ?_; clear hK K; refine done_ (done_of HT_.1 (by kernel_rfl)) ?_
      try go_wp2_with (first | ((with_reducible refine gate_callee (f := 43) rfl ?_); refine zgL (some 40) Tryd.func43 #[.pointer (some ⟨g, 0, none⟩), .int .i64 3] ?_; (with_reducible refine (spec_l6Rd_pick.calls kj18 g s0_0 t147 3 t151 t152 w0 _ ?side1 ?side2 A24.1).mono ?_); (case side1 => exact IsS97.z2 HI0.1 NB0_134.1 NB0_141.1); (case side2 => exact zB3 HB.1 (IsS97.ge HI0.1) GE134.1 GE141.1); rintro e w30 ⟨rfl, hi, hb, hk⟩; refine ⟨_, rfl, ?_⟩; have _ := aM (Kd.R_mono (Kd.R_keep (IsS97.apart (show IsS97 w0 _ g s0_0 t147 from by exact IsS97.z2 HI0.1 NB0_134.1 NB0_141.1) (zT HO_142003.1 BK141.1 (by decide)) (by decide)) hk (fun _ h => h.2)) (fun _ h => h.1)); have _ := aM (KeepBut.blk hk (zK1 BK134.1 NB134_141.1) NB134_0.1 (by simp)); have _ := aM (KeepBut.blk hk (g' := gb141) (o := .cells #[.int .i64 a1, .int .i64 a2, .slice Ao28 y148.length co28, .slice Ao11 y138.length co11] 31 (0, 0)) (by exact zP BK141.1 (by rfl)) NB141_0.1 (by simp)); have _ := aM (Kd.R_mono (Kd.R_keep (IsS97.apart (show IsS97 w0 _ g s0_0 t147 from by exact IsS97.z2 HI0.1 NB0_134.1 NB0_141.1) (zT HO150.1 BK141.1 (by decide)) (by decide)) hk (fun _ h => h.2)) (fun _ h => h.1)); have _ := aM (KeepBut.trans (zQ2 HK.1 GW134.1 GW141.1) hk (.inl rfl)); have _ := aM (hb); have _ := aM (hi); clear HO_142003 BK134 BK141 HO150 HK HB HI0; rename_i HO_142003 BK134 BK141 HO150 HK HB HI0; (try clear hb); (try clear hb2); (try clear hk); (try clear hi)))
      go_roundg kj18
      case measure => have := HK1.1; have := HJ18.1; omega
      case rel => exact ⟨(wrap64 ((wrap64 (x8_1 + 1)) + t151)), (wrap64 (x9_1 - 1)), (t152), (y148), (.slice Ao28 y148.length co28), (by first | rfl | (simp; done) | (simp [*]; done)), (by first | rfl | (simp; done) | (simp [*]; done)), H', ⟨by have := HK1.1; have := HJ18.1; omega⟩, ⟨zR HO150.1⟩, ⟨zR HO_142003.1⟩, ⟨zK BK134.1⟩, ⟨zK BK141.1⟩, ⟨by exact IsS97.z2 HI0.1 NB0_134.1 NB0_141.1⟩, ⟨zQ2 HK.1 GW134.1 GW141.1⟩, ⟨zB3 HB.1 (IsS97.ge HI0.1) GE134.1 GE141.1⟩⟩
     ·replace c21 := Bool.eq_false_iff.mpr c21; subst c21; replace H := zy0 H; have H' := aM H; clear H
      go_wp2
      go_loopg [10] kj18 (fun kq v10 w' => ∃ (x10_3 : Int) (x1001_3 : Int) (x142003_3 : List (S69)) (u142003 : Value), v10 = .int .i64 x10_3 ∧ Aside0 (spec_l71Pkg.l1 kq a1 x10_3 s0_0 x1001_3 a1 a2 x142002_1 x142003_3 = some (r1, r2, r3, r4, r5)) ∧ Aside0 (kq ≤ kj18) ∧ Aside0 (Kd.R k67 67 w' w.heap.size (fun _ => True) u142002 x142002_1) ∧ Aside0 (Kd.R k69 69 w' w.heap.size (fun _ => True) u142003 x142003_3) ∧ Aside0 (w'.heap[gb134]? = some (.cells #[.int .i64 0, .int .i64 0, (.slice none 0 0), (.slice none 0 0)] 31 (0, 0))) ∧ Aside0 (w'.heap[gb141]? = some (.cells #[.int .i64 a1, .int .i64 a2, u142002, u142003] 31 (0, 0))) ∧ Aside0 (IsS97 w0 w' g s0_0 x1001_3) ∧ Aside0 (KeepBut w w' g none) ∧ Aside0 (Below w0.heap.size w0 w'))
      case atStart => exact ⟨(1), (x1001_1), (y138), (.slice Ao11 y138.length co11), (by first | rfl | (simp; done) | (simp [*]; done)), H', ⟨Nat.le_refl _⟩, ⟨zR HO_142002.1⟩, ⟨zR HO_142003.1⟩, ⟨zK BK134.1⟩, ⟨zK BK141.1⟩, ⟨by exact IsS97.z2 HI0.1 NB0_134.1 NB0_141.1⟩, ⟨zQ2 HK.1 GW134.1 GW141.1⟩, ⟨zB3 HB.1 (IsS97.ge HI0.1) GE134.1 GE141.1⟩⟩
      case round =>
       clear H'
       try clear c1
       try clear c2
       try clear p2
       try clear c4
       try clear p6
       try clear c7
       try clear c14
       try clear c15
       try clear c20
       try clear c20b0
       try clear c21
       try clear c23
       try clear hcz16_0
       try clear hcz16_1
       try clear hcz16_2
       try clear hcz16_3
       try clear hfz16_0
       try clear hfz16_1
       try clear hfz16_2
       try clear hfz16_3
       try clear p2
       obtain ⟨x10_3, x1001_3, x142003_3, u142003, rfl, HA, HK3, HO_142002, HO_142003, BK134, BK141, HI0, HK, HB⟩ := hrel; cases gk with
       | zero => exact absurd HA.1 (by simp [spec_l71Pkg.l1])
       | succ k3 =>
        have H := HA.1; clear HA; simp only [spec_l71Pkg.l1] at H; have HC31 := aM H; clear H
        go_upto_region 9 with (fail)
        go_cut [49] (fun v49 wc => ∃ (kq : Nat) (x49_30 : Bool), v49 = .bool x49_30 ∧ Aside0 (spec_l71Pkg.j3 kq a1 x10_3 x49_30 s0_0 x1001_3 a1 a2 x142002_1 x142003_3 = some (r1, r2, r3, r4, r5)) ∧ Aside0 (kq ≤ k3) ∧ Aside0 (Kd.R k67 67 wc w.heap.size (fun _ => True) u142002 x142002_1) ∧ Aside0 (Kd.R k69 69 wc w.heap.size (fun _ => True) u142003 x142003_3) ∧ Aside0 (wc.heap[gb134]? = some (.cells #[.int .i64 0, .int .i64 0, (.slice none 0 0), (.slice none 0 0)] 31 (0, 0))) ∧ Aside0 (wc.heap[gb141]? = some (.cells #[.int .i64 a1, .int .i64 a2, u142002, u142003] 31 (0, 0))) ∧ Aside0 (IsS97 w0 wc g s0_0 x1001_3) ∧ Aside0 (KeepBut w wc g none) ∧ Aside0 (Below w0.heap.size w0 wc))
        case first =>
         have H := HC31.1; clear HC31
         by_cases c32 : x10_3 ≤ 4
         ·rw [if_pos c32] at H; have c32b0 : decide (x10_3 ≤ 4) = true := decide_eq_true c32; clear c32; (first | rw [c32b0] | (simp only [i64_w, i32_w]; rw [c32b0]) | skip); have H' := aM H; clear H; have hnb33 := NB141_134.1; have hnc33 := NB134_141.1; have hnb34 := NB141_0.1; have hnc34 := NB0_141.1; obtain ⟨hcz35_0, hcz35_1, hcz35_2, hcz35_3, hfz35_0, hfz35_1, hfz35_2, hfz35_3⟩ := zc4f BK141.1; obtain ⟨Ao36, co36, eo36⟩ := Kd.R_slice HO_142003.1; subst eo36
          go_wp2
          go_meet
          case rel => exact ⟨_, (decide ((x142003_3.length : Int) < 2)), (by first | rfl | (simp; done) | (simp [*]; done)), H', ⟨by have := HK1.1; have := HJ18.1; have := HK3.1; first | omega | exact Nat.le_refl _⟩, ⟨zR HO_142002.1⟩, ⟨zR HO_142003.1⟩, ⟨zK BK134.1⟩, ⟨zK BK141.1⟩, ⟨by exact IsS97.z2 HI0.1 NB0_134.1 NB0_141.1⟩, ⟨zQ2 HK.1 GW134.1 GW141.1⟩, ⟨zB3 HB.1 (IsS97.ge HI0.1) GE134.1 GE141.1⟩⟩
         ·rw [if_neg c32] at H; have c32b0 : decide (x10_3 ≤ 4) = false := decide_eq_false c32; clear c32; (first | rw [c32b0] | (simp only [i64_w, i32_w]; rw [c32b0]) | skip); have H' := aM H; clear H
          go_wp2
          go_meet
          case rel => exact ⟨_, (false), (by first | rfl | (simp; done) | (simp [*]; done)), H', ⟨by have := HK1.1; have := HJ18.1; have := HK3.1; first | omega | exact Nat.le_refl _⟩, ⟨zR HO_142002.1⟩, ⟨zR HO_142003.1⟩, ⟨zK BK134.1⟩, ⟨zK BK141.1⟩, ⟨by exact IsS97.z2 HI0.1 NB0_134.1 NB0_141.1⟩, ⟨zQ2 HK.1 GW134.1 GW141.1⟩, ⟨zB3 HB.1 (IsS97.ge HI0.1) GE134.1 GE141.1⟩⟩
        case rest =>
         clear HC31
         try clear c1
         try clear c2
         try clear p2
         try clear c3
         try clear c4
         try clear p6
         try clear c7
         try clear c14
         try clear c15
         try clear c20
         try clear c20b0
         try clear c21
         try clear c23
         try clear c32
         try clear c32b0
         try clear c33
         try clear c34
         try clear hcz16_0
         try clear hcz16_1
         try clear hcz16_2
         try clear hcz16_3
         try clear hcz35_0
         try clear hcz35_1
         try clear hcz35_2
         try clear hcz35_3
         try clear hfz16_0
         try clear hfz16_1
         try clear hfz16_2
         try clear hfz16_3
         try clear hfz35_0
         try clear hfz35_1
         try clear hfz35_2
         try clear hfz35_3
         try clear p2
         try clear p6
         obtain ⟨kq, x49_30, rfl, HA, HJ30, HO_142002, HO_142003, BK134, BK141, HI0, HK, HB⟩ := hcut; cases kq with
         | zero => exact absurd HA.1 (by simp [spec_l71Pkg.j3])
         | succ kj30 =>
          have H := HA.1; clear HA; simp only [spec_l71Pkg.j3] at H
          by_cases c37 : x49_30 = true
          ·subst c37; replace H := zy1 H
           by_cases c38 : x10_3 = a1
           ·rw [if_pos c38] at H; have c38b0 : (x10_3 == a1) = true := beq_iff_eq.mpr c38; have c38b1 : (x10_3 != a1) = false := bne_eq_false_iff_eq.mpr c38; clear c38; have H' := aM H; clear H
            go_wp2
            go_roundg kj30
            case measure => have := HK1.1; have := HJ18.1; have := HK3.1; have := HJ30.1; omega
            case rel => exact ⟨(wrap64 (x10_3 + 1)), (x1001_3), (x142003_3), (u142003), (by first | rfl | (simp; done) | (simp [*]; done)), H', ⟨by have := HK1.1; have := HJ18.1; have := HK3.1; have := HJ30.1; omega⟩, ⟨zR HO_142002.1⟩, ⟨zR HO_142003.1⟩, ⟨zK BK134.1⟩, ⟨zK BK141.1⟩, ⟨by exact IsS97.z2 HI0.1 NB0_134.1 NB0_141.1⟩, ⟨zQ2 HK.1 GW134.1 GW141.1⟩, ⟨zB3 HB.1 (IsS97.ge HI0.1) GE134.1 GE141.1⟩⟩
           ·rw [if_neg c38] at H; have c38b0 : (x10_3 == a1) = false := beq_eq_false_iff_ne.mpr c38; have c38b1 : (x10_3 != a1) = true := bne_iff_ne.mpr c38; replace H := Option.bind_eq_some_iff.mp H; obtain ⟨⟨t153, t154⟩, A390, H⟩ := H; (try dsimp only at H); have A39 := aM A390; clear A390
            by_cases c40 : t153 = 0
            ·rw [if_pos c40] at H; have c40b0 : (t153 == 0) = true := beq_iff_eq.mpr c40; have c40b1 : (t153 != 0) = false := bne_eq_false_iff_eq.mpr c40; clear c40; replace H := Option.bind_eq_some_iff.mp H; obtain ⟨⟨t155, t156⟩, A410, H⟩ := H; (try dsimp only at H); have A41 := aM A410; clear A410; replace H := zif H; obtain ⟨c42, H⟩ := H; have LMc42 := aM c42; clear c42; obtain ⟨y157, hy157⟩ : ∃ y_ : List (S69), y_ = (x142003_3 ++ [(⟨x10_3, wrap64 (1 + t155)⟩ : S69)]) := ⟨_, rfl⟩; (first | (replace H := zbs hy157 H; try dsimp only at H) | rw [← hy157] at H); have Ny157 := aM hy157; clear hy157; have H' := aM H; clear H
             try go_wp2_with (first | (go_at_call 43; (with_reducible refine (spec_l6Rd_pick.calls kj30 g s0_0 x1001_3 6 t153 t154 w0 _ ?side1 ?side2 A39.1).mono ?_); (case side1 => exact IsS97.z2 HI0.1 NB0_134.1 NB0_141.1); (case side2 => exact zB3 HB.1 (IsS97.ge HI0.1) GE134.1 GE141.1); rintro e w43 ⟨rfl, hi, hb, hk⟩; have _ := aM (Kd.R_mono (Kd.R_keep (IsS97.apart (show IsS97 w0 _ g s0_0 x1001_3 from by exact IsS97.z2 HI0.1 NB0_134.1 NB0_141.1) (zR HO_142002.1) (by decide)) hk (fun _ h => h.2)) (fun _ h => h.1)); have _ := aM (Kd.R_mono (Kd.R_keep (IsS97.apart (show IsS97 w0 _ g s0_0 x1001_3 from by exact IsS97.z2 HI0.1 NB0_134.1 NB0_141.1) (zR HO_142003.1) (by decide)) hk (fun _ h => h.2)) (fun _ h => h.1)); have _ := aM (KeepBut.blk hk (zK BK134.1) NB134_0.1 (by simp)); have _ := aM (KeepBut.blk hk (zK BK141.1) NB141_0.1 (by simp)); have _ := aM (KeepBut.trans (zQ2 HK.1 GW134.1 GW141.1) hk (.inl rfl)); have _ := aM (hb); have _ := aM (hi); clear HO_142002 HO_142003 BK134 BK141 HK HB HI0; rename_i HO_142002 HO_142003 BK134 BK141 HK HB HI0; (try clear hb); (try clear hb2); (try clear hk); (try clear hi)))
             have _ := aM (Kd.R_drew HO_142002.1); have _ := aM (Kd.R_drew HO_142003.1); have _ := aM (blk_drew BK134.1); have _ := aM (blk_drew BK141.1); have _ := aM (IsS97.drew HI0.1); have _ := aM (keep_drew HK.1); have _ := aM (below_drew1 HB.1); clear HO_142002 HO_142003 BK134 BK141 HI0 HK HB; rename_i HO_142002 HO_142003 BK134 BK141 HI0 HK HB
             refine start_ (n := 11) (S := fun w' => w'.cell? ⟨gb141, 0, none⟩ = some (.int .i64 a1) ∧ w'.cell? ⟨gb141, 1, none⟩ = some (.int .i64 a2) ∧ w'.cell? ⟨gb141, 2, none⟩ = some (u142002) ∧ w'.cell? ⟨gb141, 3, none⟩ = some (u142003)) (ds := [10]) (zA 11 0) (by kernel_rfl) rfl rfl ⟨(blk_cell BK141.1 0).trans rfl, (blk_cell BK141.1 1).trans rfl, (blk_cell BK141.1 2).trans rfl, (blk_cell BK141.1 3).trans rfl⟩ (fun hHeld => ?_); refine with_tabW spec_l71Pkg.tab12 spec_l71Pkg.bits12 (fun HT_ HW_ => ?_)
             generalize w43.drew = w44 at HO_142002 HO_142003 BK134 BK141 HI0 HK HB hHeld ⊢; refine zu HT_ 0 (some 60) (zA 11 1) ?_; refine zu HT_ 2 (some 62) (zA 11 5) ?_; refine zu HT_ 3 (some 63) (zA 11 13) ?_; refine take_ (i := 1) (N := some 61) (v := ?_) (a' := ?_) (zA 11 15) rfl rfl (take_ofW HT_.1 HW_.1 (by kernel_rfl)) (fun _ _ _ h => h) (Or.inl ⟨by rfl, ?_⟩) hHeld ?_ ?_; rotate_left
             ·rintro w' ⟨s0, s1, s2, s3⟩
              go_simp
              (with_reducible rfl)
             rotate_left
             ·simp only [zp0, zp1, zp2, zp3, zp4, i64_w, i32_w]; rfl
             refine zo HT_ 4 (some 64) (zA 11 31) (fun K hK => ?_); refine zg Tryd.func43 #[.pointer (some ⟨g, 0, none⟩), .int .i64 2] ?_; (with_reducible refine (spec_l6Rd_pick.calls kj30 g s0_0 t154 2 t155 t156 w0 _ ?side1 ?side2 A41.1).mono ?_); (case side1 => exact IsS97.z2 HI0.1 NB0_134.1 NB0_141.1); (case side2 => exact zB3 HB.1 (IsS97.ge HI0.1) GE134.1 GE141.1); rintro e w45 ⟨rfl, hi, hb, hk⟩; refine ⟨_, rfl, ?_⟩; have _ := aM (Kd.R_mono (Kd.R_keep (IsS97.apart (show IsS97 w0 _ g s0_0 t154 from by exact IsS97.z2 HI0.1 NB0_134.1 NB0_141.1) (zR HO_142002.1) (by decide)) hk (fun _ h => h.2)) (fun _ h => h.1)); have _ := aM (Kd.R_mono (Kd.R_keep (IsS97.apart (show IsS97 w0 _ g s0_0 t154 from by exact IsS97.z2 HI0.1 NB0_134.1 NB0_141.1) (zR HO_142003.1) (by decide)) hk (fun _ h => h.2)) (fun _ h => h.1)); have _ := aM (KeepBut.blk hk (zK BK134.1) NB134_0.1 (by simp)); have _ := aM (KeepBut.blk hk (zK BK141.1) NB141_0.1 (by simp)); have _ := aM (KeepBut.trans (zQ2 HK.1 GW134.1 GW141.1) hk (.inl rfl)); have _ := aM (hb); have _ := aM (hi); clear HO_142002 HO_142003 BK134 BK141 HK HB HI0; rename_i HO_142002 HO_142003 BK134 BK141 HK HB HI0; (try clear hb); (try clear hb2); (try clear hk); (try clear hi); refine hK.out _ _ ⟨(blk_cell BK141.1 0).trans rfl, (blk_cell BK141.1 1).trans rfl, (blk_cell BK141.1 2).trans rfl, (blk_cell BK141.1 3).trans rfl⟩ (fun hHeld => ?_); clear hK K; refine zn (some 64) ?_; refine zu HT_ 5 (some 65) (zA 11 63) ?_; refine zu HT_ 6 (some 66) (zA 11 127) ?_; refine zo HT_ 7 (some 67) (zA 11 255) (fun K hK => ?_); refine value_ (w1 := ?_) (v := ?_) (by rfl) rfl ?_ ?_; rotate_left 2
             ·go_simp
              constructor
              ·rfl
              ·rfl
             refine hK.out _ _ ⟨(blk_cell (blk_alloc BK141.1 _) 0).trans rfl, (blk_cell (blk_alloc BK141.1 _) 1).trans rfl, (blk_cell (blk_alloc BK141.1 _) 2).trans rfl, (blk_cell (blk_alloc BK141.1 _) 3).trans rfl⟩ (fun hHeld => ?_); clear hK K; refine zn (some 67) ?_; refine zo HT_ 8 (some 68) (zA 11 511) (fun K hK => ?_); refine Kd.R_append_step k69 w.heap.size (by rfl) (.tmp 61) (.tmp 67) 29 69 (.agg #[(.int .i64 0), (.int .i64 0)]) 16 rfl Tryd.underlying29 info69 rfl (by decide) (by omega) u142003 x142003_3 (⟨x10_3, wrap64 (1 + t155)⟩ : S69) [.int .i64 x10_3, .int .i64 (wrap64 (1 + t155))] (fun _ => True) (fun _ => False) rfl rfl ?aP (fun _ hk => hk.elim) ?aF ?aO (Below.refl _ _) ?aS ?aL ?_; (case aP => exact k69_mkM _ _ _ (⟨x10_3, wrap64 (1 + t155)⟩ : S69)); (case aF => exact (fun _ _ => trivial)); (case aO => exact (zR HO_142003.1)); (case aS => exact (keep_size (w := w) (g := g) (row := none) (zQ2 HK.1 GW134.1 GW141.1))); (case aL => have := LMc42.1; omega); intro v158 w46 ho hb hg hat; rw [← Ny157.1] at ho; have _ := aM (Kd.R_over' (zR HO_142002.1) (Kd.R_typed (zR HO_142003.1)) (by decide) hg); have _ := aM (blk_grown (zK BK134.1) hg (Kd.R_ne HO_142003.1 BK134.1 (by decide))); have _ := aM (blk_grown (zK BK141.1) hg (Kd.R_ne HO_142003.1 BK141.1 (by decide))); have _ := aM (IsS97.grown (by exact IsS97.z2 HI0.1 NB0_134.1 NB0_141.1) hg (IsS97.own_ne HI0.1 HO_142003.1 (by decide))); have _ := aM (below_weaken (zB3 HB.1 (IsS97.ge HI0.1) GE134.1 GE141.1) HL.1 hb); have _ := aM (KeepBut.trans (zQ2 HK.1 GW134.1 GW141.1) (KeepBut.of_grown hg g) (Kd.R_base2 HO_142003.1)); have _ := aM (ho); clear HO_142002 BK134 BK141 HI0 HB HK HO_142003; rename_i HO_142002 BK134 BK141 HI0 HB HK HO159; clear ho hb hg hat; obtain ⟨Ao47, co47, eo47⟩ := Kd.R_slice HO159.1; (first | subst eo47 | (injection eo47 with f1_ f2_ f3_; have f4_ := f1_.symm; have f5_ := f3_.symm; clear f1_ f2_ f3_; subst f4_; subst f5_)); refine hK.out _ _ ⟨(blk_cell BK141.1 0).trans rfl, (blk_cell BK141.1 1).trans rfl, (blk_cell BK141.1 2).trans rfl, (blk_cell BK141.1 3).trans rfl⟩ (fun hHeld => ?_); clear hK K; refine zn (some 68) ?_; refine zu HT_ 9 (some 69) (zA 11 1023) ?_; refine last_ (i := 10) (N := none) (zA 11 2047) rfl rfl (one_of HT_.1 (by kernel_rfl)) (by decide) (fun K hK => ?_); have hs48 : w46.cell? ⟨gb141, 3, none⟩ = some (u142003) := (blk_cell BK141.1 3).trans rfl; have hfs48 := blk_frozen BK141.1 3; have hns48_0 := NB134_141.1; have hms48_0 := NB141_134.1; refine skip_ (w1 := ?_) (by rfl) rfl ?_ ?_; rotate_left
             ·go_simp
              rfl
             refine hK.out _ _ ?_; clear hK K; refine done_ (done_of HT_.1 (by kernel_rfl)) ?_
             try go_wp2
             go_roundg kj30
             case measure => have := HK1.1; have := HJ18.1; have := HK3.1; have := HJ30.1; omega
             case rel => exact ⟨(wrap64 (x10_3 + 1)), (t156), (y157), (.slice Ao47 y157.length co47), (by first | rfl | (simp; done) | (simp [*]; done)), H', ⟨by have := HK1.1; have := HJ18.1; have := HK3.1; have := HJ30.1; omega⟩, ⟨by exact (Kd.R_mono (zFR (g := gb141) (Kd.R_types HO_142002.1 BK141.1 (by decide)) (fun _ hk => hk.2)) (fun _ hk => trivial))⟩, ⟨by exact (Kd.R_mono (zFR (g := gb141) (Kd.R_types HO159.1 BK141.1 (by decide)) (fun _ hk => hk.2)) (fun _ hk => trivial))⟩, ⟨zK1 BK134.1 NB134_141.1⟩, ⟨by exact zP BK141.1 (by rfl)⟩, ⟨by exact IsS97.z2 HI0.1 NB0_134.1 NB0_141.1⟩, ⟨zQ2 HK.1 GW134.1 GW141.1⟩, ⟨zB3 HB.1 (IsS97.ge HI0.1) GE134.1 GE141.1⟩⟩
            ·rw [if_neg c40] at H; have c40b0 : (t153 == 0) = false := beq_eq_false_iff_ne.mpr c40; have c40b1 : (t153 != 0) = true := bne_iff_ne.mpr c40; have H' := aM H; clear H
             go_wp2_with (first | (go_at_call 43; (with_reducible refine (spec_l6Rd_pick.calls kj30 g s0_0 x1001_3 6 t153 t154 w0 _ ?side1 ?side2 A39.1).mono ?_); (case side1 => exact IsS97.z2 HI0.1 NB0_134.1 NB0_141.1); (case side2 => exact zB3 HB.1 (IsS97.ge HI0.1) GE134.1 GE141.1); rintro e w49 ⟨rfl, hi, hb, hk⟩; have _ := aM (Kd.R_mono (Kd.R_keep (IsS97.apart (show IsS97 w0 _ g s0_0 x1001_3 from by exact IsS97.z2 HI0.1 NB0_134.1 NB0_141.1) (zR HO_142002.1) (by decide)) hk (fun _ h => h.2)) (fun _ h => h.1)); have _ := aM (Kd.R_mono (Kd.R_keep (IsS97.apart (show IsS97 w0 _ g s0_0 x1001_3 from by exact IsS97.z2 HI0.1 NB0_134.1 NB0_141.1) (zR HO_142003.1) (by decide)) hk (fun _ h => h.2)) (fun _ h => h.1)); have _ := aM (KeepBut.blk hk (zK BK134.1) NB134_0.1 (by simp)); have _ := aM (KeepBut.blk hk (zK BK141.1) NB141_0.1 (by simp)); have _ := aM (KeepBut.trans (zQ2 HK.1 GW134.1 GW141.1) hk (.inl rfl)); have _ := aM (hb); have _ := aM (hi); clear HO_142002 HO_142003 BK134 BK141 HK HB HI0; rename_i HO_142002 HO_142003 BK134 BK141 HK HB HI0; (try clear hb); (try clear hb2); (try clear hk); (try clear hi)))
             go_roundg kj30
             case measure => have := HK1.1; have := HJ18.1; have := HK3.1; have := HJ30.1; omega
             case rel => exact ⟨(wrap64 (x10_3 + 1)), (t154), (x142003_3), (u142003), (by first | rfl | (simp; done) | (simp [*]; done)), H', ⟨by have := HK1.1; have := HJ18.1; have := HK3.1; have := HJ30.1; omega⟩, ⟨zR HO_142002.1⟩, ⟨zR HO_142003.1⟩, ⟨zK BK134.1⟩, ⟨zK BK141.1⟩, ⟨by exact IsS97.z2 HI0.1 NB0_134.1 NB0_141.1⟩, ⟨zQ2 HK.1 GW134.1 GW141.1⟩, ⟨zB3 HB.1 (IsS97.ge HI0.1) GE134.1 GE141.1⟩⟩
          ·replace c37 := Bool.eq_false_iff.mpr c37; subst c37; replace H := zy0 H; simp only [Option.some.injEq, Prod.mk.injEq] at H; obtain ⟨rfl, rfl, rfl, rfl, rfl⟩ := H; have hnb50 := NB141_134.1; have hnc50 := NB134_141.1; have hnb51 := NB141_0.1; have hnc51 := NB0_141.1; obtain ⟨hcz52_0, hcz52_1, hcz52_2, hcz52_3, hfz52_0, hfz52_1, hfz52_2, hfz52_3⟩ := zc4f BK141.1; have hnb53 := NB134_0.1; have hnc53 := NB0_134.1; obtain ⟨hcz54_0, hcz54_1, hcz54_2, hcz54_3, hfz54_0, hfz54_1, hfz54_2, hfz54_3⟩ := zc4f BK134.1; obtain ⟨Ao55, co55, eo55⟩ := Kd.R_slice HO_142002.1; subst eo55; obtain ⟨Ao56, co56, eo56⟩ := Kd.R_slice HO_142003.1; subst eo56
           go_wp2
           refine bodyPost_ret (results_cell_row rfl _ _ gb134 31 #[.int .i64 a1, .int .i64 a2, .slice Ao55 x142002_1.length co55, .slice Ao56 x142003_3.length co56] (0, 0) _ rfl (by exact zP BK134.1 (by rfl)) Tryd.underlying31 rfl (by kernel_rfl)) rfl ?_; exact ⟨_, _, by first | rfl | (simp [errW_none, errW_some] <;> rfl) | (simp [*, errW_none, errW_some] <;> rfl), by exact (Kd.R_mono (zFR (g := gb134) (Kd.R_types HO_142002.1 BK134.1 (by decide)) (fun _ hk => hk.2)) (fun _ hk => trivial)), by exact (Kd.R_mono (zFR (g := gb134) (Kd.R_types HO_142003.1 BK134.1 (by decide)) (fun _ hk => hk.2)) (fun _ hk => trivial)), by exact IsS97.z2 HI0.1 NB0_134.1 NB0_141.1, by exact zB3 HB.1 (IsS97.ge HI0.1) GE134.1 GE141.1, by exact zQ2 HK.1 GW134.1 GW141.1⟩

/-! ### spec_l12Find: function 80 -/
def spec_l12Find.l0 : Nat → List (S31) → Int → Int → Int → Option (Int)
 | 0, _, _, _, _ => none
 | k + 1, x0, x1, x2, x7 => if x7 < (x0.length : Int) then (if 0 ≤ x7 then (if ((rd_T31 x0 x7).f0) = x1 then (if ((rd_T31 x0 x7).f1) = x2 then (some x7) else (spec_l12Find.l0 k x0 x1 x2 (wrap64 (x7 + 1)))) else (spec_l12Find.l0 k x0 x1 x2 (wrap64 (x7 + 1)))) else (none)) else (some (-1))
def spec_l12Find.f (k : Nat) (l0 : List (S31)) (a1 : Int) (a2 : Int) : Option (Int) := spec_l12Find.l0 k l0 a1 a2 0
theorem spec_l12Find.mono_l : ∀ k, (∀ y0 y1 y2 y3, LeO (spec_l12Find.l0 k y0 y1 y2 y3) (spec_l12Find.l0 (k + 1) y0 y1 y2 y3))
 | 0 => fun _ _ _ _ r h => by simp [spec_l12Find.l0] at h
 | k + 1 => by
  have ih0 := spec_l12Find.mono_l k
  ·intro y0 y1 y2 y3
   unfold spec_l12Find.l0
   repeat' first
   | (with_reducible exact ih0 _ _ _ _)
   | (with_reducible exact LeO.refl _)
   | (with_reducible exact LeO.none _)
   | (with_reducible refine LeO.ite ?_ ?_)
   | (with_reducible refine LeO.bind ?_ (fun _ => ?_))
   | exact ih0 _ _ _ _
   | exact LeO.none _
   | refine LeO.ite ?_ ?_
   | refine LeO.bind ?_ (fun _ => ?_)
theorem spec_l12Find.mono : ∀ a0 a1 a2 k, LeO (spec_l12Find.f k a0 a1 a2) (spec_l12Find.f (k + 1) a0 a1 a2) := by
 intro a0 a1 a2 k
 have ih0 := spec_l12Find.mono_l k
 unfold spec_l12Find.f
 repeat' with_reducible first | apply ih0 | exact LeO.refl _ | exact LeO.none _ | refine LeO.ite ?_ ?_ | refine LeO.bind ?_ (fun _ => ?_)
set_option maxHeartbeats 8000000 in
set_option maxRecDepth 100000 in
theorem spec_l12Find.calls (k : Nat) (A0 : Option Addr) (c0 : Nat) (l0 : List (S31)) (a1 : Int) (a2 : Int) (r : Int) (w : World) (hr0 : Kd.C k31 w A0 l0.length l0) (hc0 : l0.length ≤ c0) (h : spec_l12Find.f k l0 a1 a2 = some r) :
  Calls Tryd.prog 80 #[.slice A0 l0.length c0, .int .i64 a1, .int .i64 a2] w fun e w' => e = .returned (.int .i64 r) ∧ Drawn0 w w' := by
 have HR0 := aM hr0; have HC0 := aM hc0; clear hr0 hc0; have H : (spec_l12Find.l0 k l0 a1 a2 0) = some r := h; clear h; have H' := aM H; clear H
 go_enter Tryd.func80, Tryd.ntmps80
 go_wp2
 go_loopg [7] k (fun kq v7 w' => ∃ (x7_1 : Int), v7 = .int .i64 x7_1 ∧ Aside0 (spec_l12Find.l0 kq l0 a1 a2 x7_1 = some r) ∧ Aside0 (kq ≤ k) ∧ Drawn0 w w')
 case atStart => exact ⟨(0), (by first | rfl | (simp; done) | (simp [*]; done)), H', ⟨Nat.le_refl _⟩, by repeat (first | exact Drawn0.refl _ | apply Drawn0.step)⟩
 case round =>
  clear H'
  try clear p2
  obtain ⟨x7_1, rfl, HA, HK1, ⟨m1, rfl⟩⟩ := hrel; cases gk with
  | zero => exact absurd HA.1 (by simp [spec_l12Find.l0])
  | succ k1 =>
   have H := HA.1; clear HA; simp only [spec_l12Find.l0] at H
   by_cases c4 : x7_1 < (l0.length : Int)
   ·rw [if_pos c4] at H; have c4b0 : decide (x7_1 < (l0.length : Int)) = true := decide_eq_true c4; clear c4; replace H := zif H; obtain ⟨c5, H⟩ := H; have c5b0 : decide (0 ≤ x7_1) = true := decide_eq_true c5; clear c5
    by_cases c6 : ((rd_T31 l0 x7_1).f0) = a1
    ·rw [if_pos c6] at H; have c6b0 : (((rd_T31 l0 x7_1).f0) == a1) = true := beq_iff_eq.mpr c6; have c6b1 : (((rd_T31 l0 x7_1).f0) != a1) = false := bne_eq_false_iff_eq.mpr c6; clear c6
     by_cases c7 : ((rd_T31 l0 x7_1).f1) = a2
     ·rw [if_pos c7] at H; have c7b0 : (((rd_T31 l0 x7_1).f1) == a2) = true := beq_iff_eq.mpr c7; have c7b1 : (((rd_T31 l0 x7_1).f1) != a2) = false := bne_eq_false_iff_eq.mpr c7; clear c7; obtain rfl := Option.some.inj H; have p160 : 0 ≤ (x7_1 : Int) := zd; have q160 : x7_1 < (l0.length : Int) := zd; obtain ⟨ad160, A160_2, c160_2, A160_3, c160_3, e160, hx160_0, hx160_1, hx160_2, hx160_3, hl160_2, hi160_2, hl160_3, hi160_3⟩ := at_T31 HR0.1 x7_1 p160 q160; cases e160; have HR160_2 := aM hi160_2; have HC160_2 := aM hl160_2; clear hi160_2 hl160_2; have HR160_3 := aM hi160_3; have HC160_3 := aM hl160_3; clear hi160_3 hl160_3; replace p160 := eq_true p160; replace q160 := eq_true q160; have p161 : 0 ≤ (x7_1 : Int) := zd; have q161 : x7_1 < (l0.length : Int) := zd; obtain ⟨ad161, A161_2, c161_2, A161_3, c161_3, e161, hx161_0, hx161_1, hx161_2, hx161_3, hl161_2, hi161_2, hl161_3, hi161_3⟩ := at_T31 HR0.1 x7_1 p161 q161; obtain rfl : ad160 = ad161 := (by injection e161); have HR161_2 := aM hi161_2; have HC161_2 := aM hl161_2; clear hi161_2 hl161_2; have HR161_3 := aM hi161_3; have HC161_3 := aM hl161_3; clear hi161_3 hl161_3; replace p161 := eq_true p161; replace q161 := eq_true q161; have ea_ := Option.some.inj (hx160_2.symm.trans hx161_2); injection ea_ with ea_ en_ ec_; subst ea_; subst ec_; clear en_; have ea_ := Option.some.inj (hx160_3.symm.trans hx161_3); injection ea_ with ea_ en_ ec_; subst ea_; subst ec_; clear en_
      go_wp2
      go_ret
      exact ⟨by first | rfl | (simp; done) | (simp [*]; done), by repeat (first | exact Drawn0.refl _ | apply Drawn0.step)⟩
     ·rw [if_neg c7] at H; have c7b0 : (((rd_T31 l0 x7_1).f1) == a2) = false := beq_eq_false_iff_ne.mpr c7; have c7b1 : (((rd_T31 l0 x7_1).f1) != a2) = true := bne_iff_ne.mpr c7; have H' := aM H; clear H; have p160 : 0 ≤ (x7_1 : Int) := zd; have q160 : x7_1 < (l0.length : Int) := zd; obtain ⟨ad160, A160_2, c160_2, A160_3, c160_3, e160, hx160_0, hx160_1, hx160_2, hx160_3, hl160_2, hi160_2, hl160_3, hi160_3⟩ := at_T31 HR0.1 x7_1 p160 q160; cases e160; have HR160_2 := aM hi160_2; have HC160_2 := aM hl160_2; clear hi160_2 hl160_2; have HR160_3 := aM hi160_3; have HC160_3 := aM hl160_3; clear hi160_3 hl160_3; replace p160 := eq_true p160; replace q160 := eq_true q160; have p161 : 0 ≤ (x7_1 : Int) := zd; have q161 : x7_1 < (l0.length : Int) := zd; obtain ⟨ad161, A161_2, c161_2, A161_3, c161_3, e161, hx161_0, hx161_1, hx161_2, hx161_3, hl161_2, hi161_2, hl161_3, hi161_3⟩ := at_T31 HR0.1 x7_1 p161 q161; obtain rfl : ad160 = ad161 := (by injection e161); have HR161_2 := aM hi161_2; have HC161_2 := aM hl161_2; clear hi161_2 hl161_2; have HR161_3 := aM hi161_3; have HC161_3 := aM hl161_3; clear hi161_3 hl161_3; replace p161 := eq_true p161; replace q161 := eq_true q161; have ea_ := Option.some.inj (hx160_2.symm.trans hx161_2); injection ea_ with ea_ en_ ec_; subst ea_; subst ec_; clear en_; have ea_ := Option.some.inj (hx160_3.symm.trans hx161_3); injection ea_ with ea_ en_ ec_; subst ea_; subst ec_; clear en_
      go_wp2
      go_roundg k1
      case measure => have := HK1.1; omega
      case rel => exact ⟨(wrap64 (x7_1 + 1)), (by first | rfl | (simp; done) | (simp [*]; done)), H', ⟨by have := HK1.1; omega⟩, by repeat (first | exact Drawn0.refl _ | apply Drawn0.step)⟩
    ·rw [if_neg c6] at H; have c6b0 : (((rd_T31 l0 x7_1).f0) == a1) = false := beq_eq_false_iff_ne.mpr c6; have c6b1 : (((rd_T31 l0 x7_1).f0) != a1) = true := bne_iff_ne.mpr c6; have H' := aM H; clear H; have p160 : 0 ≤ (x7_1 : Int) := zd; have q160 : x7_1 < (l0.length : Int) := zd; obtain ⟨ad160, A160_2, c160_2, A160_3, c160_3, e160, hx160_0, hx160_1, hx160_2, hx160_3, hl160_2, hi160_2, hl160_3, hi160_3⟩ := at_T31 HR0.1 x7_1 p160 q160; cases e160; have HR160_2 := aM hi160_2; have HC160_2 := aM hl160_2; clear hi160_2 hl160_2; have HR160_3 := aM hi160_3; have HC160_3 := aM hl160_3; clear hi160_3 hl160_3; replace p160 := eq_true p160; replace q160 := eq_true q160
     go_wp2
     go_roundg k1
     case measure => have := HK1.1; omega
     case rel => exact ⟨(wrap64 (x7_1 + 1)), (by first | rfl | (simp; done) | (simp [*]; done)), H', ⟨by have := HK1.1; omega⟩, by repeat (first | exact Drawn0.refl _ | apply Drawn0.step)⟩
   ·rw [if_neg c4] at H; have c4b0 : decide (x7_1 < (l0.length : Int)) = false := decide_eq_false c4; clear c4; obtain rfl := Option.some.inj H
    go_wp2
    go_ret
    exact ⟨by first | rfl | (simp; done) | (simp [*]; done), by repeat (first | exact Drawn0.refl _ | apply Drawn0.step)⟩

/-! ### spec_l3Less: function 55 -/
def spec_l3Less.f (a0 : Int) (a1 : Int) (a2 : Int) (a3 : Int) : Option (Bool) := if a0 < a2 then (some true) else (if a0 = a2 then (some (decide (a1 < a3))) else (some false))
set_option maxHeartbeats 8000000 in
set_option maxRecDepth 100000 in
theorem spec_l3Less.calls (a0 : Int) (a1 : Int) (a2 : Int) (a3 : Int) (r : Bool) (w : World) (h : spec_l3Less.f a0 a1 a2 a3 = some r) :
  Calls Tryd.prog 55 #[.int .i64 a0, .int .i64 a1, .int .i64 a2, .int .i64 a3] w fun e w' => e = .returned (.bool r) ∧ Drawn0 w w' := by
 have H : (if a0 < a2 then (some true) else (if a0 = a2 then (some (decide (a1 < a3))) else (some false))) = some r := h; clear h
 by_cases c5 : a0 < a2
 ·rw [if_pos c5] at H; have c5b0 : decide (a0 < a2) = true := decide_eq_true c5; clear c5; obtain rfl := Option.some.inj H
  go_enter Tryd.func55, Tryd.ntmps55
  go_wp2
  go_ret
  exact ⟨by first | rfl | (simp; done) | (simp [*]; done), by repeat (first | exact Drawn0.refl _ | apply Drawn0.step)⟩
 ·rw [if_neg c5] at H; have c5b0 : decide (a0 < a2) = false := decide_eq_false c5; clear c5
  by_cases c6 : a0 = a2
  ·rw [if_pos c6] at H; have c6b0 : (a0 == a2) = true := beq_iff_eq.mpr c6; have c6b1 : (a0 != a2) = false := bne_eq_false_iff_eq.mpr c6; clear c6; obtain rfl := Option.some.inj H
   go_enter Tryd.func55, Tryd.ntmps55
   go_wp2
   go_ret
   exact ⟨by first | rfl | (simp; done) | (simp [*]; done), by repeat (first | exact Drawn0.refl _ | apply Drawn0.step)⟩
  ·rw [if_neg c6] at H; have c6b0 : (a0 == a2) = false := beq_eq_false_iff_ne.mpr c6; have c6b1 : (a0 != a2) = true := bne_iff_ne.mpr c6; obtain rfl := Option.some.inj H
   go_enter Tryd.func55, Tryd.ntmps55
   go_wp2
   go_ret
   exact ⟨by first | rfl | (simp; done) | (simp [*]; done), by repeat (first | exact Drawn0.refl _ | apply Drawn0.step)⟩

end Go.Proofs.YtkjgnnjcjkphbaaDoor.PFnIndexTells
