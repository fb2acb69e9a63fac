-- printed for this claim by a program out of the translation, its tactics shortened by another
import Derived.Test.YtkjgnnjcjkphbaaDoorPFnIndexTellsx5
namespace Go.Proofs.YtkjgnnjcjkphbaaDoor.PFnIndexTells
open Go.RowKit Go.Proofs.YtkjgnnjcjkphbaaDoorW.PrintWords Go.Proofs.YtkjgnnjcjkphbaaDoorW.PrintLast Go.Proofs.YtkjgnnjcjkphbaaDoorW.PrintMore
attribute [local go_sem] max2_int min2_int max_two min_two max_three min_three max_four min_four   -- for this text's walks alone
set_option linter.unusedVariables false
set_option linter.unusedSimpArgs false

/-! ### impl_PkgRead: function 19 -/
def impl_PkgRead.l0 : Nat → ByteArray → List ByteArray → Int → Int → Int → Int → List (S67) → List (S69) → Option (Int × Int × (List (S67)) × (List (S69)) × Bool)
 | 0, _, _, _, _, _, _, _, _ => none
 | k + 1, x0, x33, x34, x35, x423000, x423001, x423002, x423003 => if x35 < x34 then (if 0 ≤ x35 then (if x35 < (x33.length : Int) then ((strings_Cut.f (rdOf ByteArray.empty x33 x35) (⟨#[58]⟩ : ByteArray)).bind fun bt431 => (if bt431.2.2 = true then ((strconv_Atoi.f bt431.1).bind fun bt434 => ((strconv_Atoi.f bt431.2.1).bind fun bt436 => (if x423002.length < 8796093022208 then (impl_PkgRead.l0 k x0 x33 x34 (wrap64 (x35 + 1)) x423000 x423001 (x423002 ++ [(⟨bt434.1, bt436.1⟩ : S67)]) x423003) else (none)))) else ((impl_nameRead.f (rdOf ByteArray.empty x33 x35)).bind fun bt441 => (if x423003.length < 8796093022208 then (impl_PkgRead.l0 k x0 x33 x34 (wrap64 (x35 + 1)) x423000 x423001 x423002 (x423003 ++ [(⟨bt441.1, bt441.2⟩ : S69)])) else (none))))) else (none)) else (none)) else ((impl_PkgOk.f k x423000 x423001 x423002 x423003).bind fun t446 => (if t446 = true then ((impl_PkgText.f k x423000 x423001 x423002 x423003).bind fun t447 => (if t447.toList = x0.toList then (some (x423000, x423001, x423002, x423003, true)) else (some (0, 0, ([] : List (S67)), ([] : List (S69)), false)))) else (some (0, 0, ([] : List (S67)), ([] : List (S69)), false))))
def impl_PkgRead.f (k : Nat) (a0 : ByteArray) : Option (Int × Int × (List (S67)) × (List (S69)) × Bool) := if (a0.size : Int) > 30 then (some (0, 0, ([] : List (S67)), ([] : List (S69)), false)) else ((strings_Split.f a0 (⟨#[32]⟩ : ByteArray)).bind fun t419 => (if 0 < (t419.length : Int) then ((impl_nameRead.f (rdOf ByteArray.empty t419 0)).bind fun bt424 => (if 1 ≤ (t419.length : Int) then ((some (t419.drop 1 : List ByteArray)).bind fun y426 => (impl_PkgRead.l0 k a0 y426 (y426.length : Int) 0 bt424.1 bt424.2 ([] : List (S67)) ([] : List (S69)))) else (none))) else (none)))
theorem impl_PkgRead.mono_l : ∀ k, (∀ y0 y1 y2 y3 y4 y5 y6 y7, LeO (impl_PkgRead.l0 k y0 y1 y2 y3 y4 y5 y6 y7) (impl_PkgRead.l0 (k + 1) y0 y1 y2 y3 y4 y5 y6 y7))
 | 0 => fun _ _ _ _ _ _ _ _ r h => by simp [impl_PkgRead.l0] at h
 | k + 1 => by
  have ih0 := impl_PkgRead.mono_l k
  ·intro y0 y1 y2 y3 y4 y5 y6 y7
   unfold impl_PkgRead.l0
   repeat' first
   | (with_reducible exact ih0 _ _ _ _ _ _ _ _)
   | (with_reducible exact impl_PkgOk.mono _ _ _ _ _)
   | (with_reducible exact impl_PkgText.mono _ _ _ _ _)
   | (with_reducible exact LeO.refl _)
   | (with_reducible exact LeO.none _)
   | (with_reducible refine LeO.ite ?_ ?_)
   | (with_reducible refine LeO.bind ?_ (fun _ => ?_))
   | exact ih0 _ _ _ _ _ _ _ _
   | exact impl_PkgOk.mono _ _ _ _ _
   | exact impl_PkgText.mono _ _ _ _ _
   | exact LeO.none _
   | refine LeO.ite ?_ ?_
   | refine LeO.bind ?_ (fun _ => ?_)
theorem impl_PkgRead.mono : ∀ a0 k, LeO (impl_PkgRead.f k a0) (impl_PkgRead.f (k + 1) a0) := by
 intro a0 k
 have ih0 := impl_PkgRead.mono_l k
 unfold impl_PkgRead.f
 repeat' with_reducible first | apply ih0 | apply impl_PkgOk.mono | apply impl_PkgText.mono | exact LeO.refl _ | exact LeO.none _ | refine LeO.ite ?_ ?_ | refine LeO.bind ?_ (fun _ => ?_)
theorem zcell {w w1 : World} {a : Addr} (h : w1.heap[a.block]? = w.heap[a.block]?) : w1.cell? a = w.cell? a := by unfold World.cell?; rw [h]
theorem zadd (a : Addr) (n : Nat) : (a.add n).block = a.block := by unfold Addr.add; split <;> rfl
theorem zdrop {a b : Addr} {c : Prop} {d : Decidable c} {n : Nat} (h : some a = (if c then some b else (some b : Option Addr).map (·.add n))) : a.block = b.block := by
 split at h
 ·rw [Option.some.inj h]
 ·rw [Option.some.inj h, zadd]
set_option maxHeartbeats 8000000 in
set_option maxRecDepth 100000 in
theorem impl_PkgRead.calls (k : Nat) (a0 : ByteArray) (r1 : Int) (r2 : Int) (r3 : List (S67)) (r4 : List (S69)) (r5 : Bool) (w : World) (hLD : LaidW w) (h : impl_PkgRead.f k a0 = some (r1, r2, r3, r4, r5)) :
  Calls Tryd.prog 19 #[.string a0] w fun e w' => ∃ v2_ v3_ : Value, e = .returned (.tuple #[.agg #[.int .i64 r1, .int .i64 r2, v2_, v3_], .bool r5]) ∧ Kd.R k67 67 w' w.heap.size (fun _ => True) v2_ r3 ∧ Kd.R k69 69 w' w.heap.size (fun _ => True) v3_ r4 ∧ Below w.heap.size w w' := by
 have hu31 := Tryd.underlying31; have hu67 := Tryd.underlying67; have hu69 := Tryd.underlying69; have HB := aM (Below.refl w.heap.size w); have HLD := aM hLD; clear hLD; have H : (if (a0.size : Int) > 30 then (some (0, 0, ([] : List (S67)), ([] : List (S69)), false)) else ((strings_Split.f a0 (⟨#[32]⟩ : ByteArray)).bind fun t419 => (if 0 < (t419.length : Int) then ((impl_nameRead.f (rdOf ByteArray.empty t419 0)).bind fun bt424 => (if 1 ≤ (t419.length : Int) then ((some (t419.drop 1 : List ByteArray)).bind fun y426 => (impl_PkgRead.l0 k a0 y426 (y426.length : Int) 0 bt424.1 bt424.2 ([] : List (S67)) ([] : List (S69)))) else (none))) else (none)))) = some (r1, r2, r3, r4, r5) := h; clear h
 by_cases c2 : (a0.size : Int) > 30
 ·rw [if_pos c2] at H; have c2b0 : decide (30 < (a0.size : Int)) = true := decide_eq_true c2; have c2b1 : decide (30 < a0.size) = true := decide_eq_true (by omega); clear c2; simp only [Option.some.injEq, Prod.mk.injEq] at H; obtain ⟨rfl, rfl, rfl, rfl, rfl⟩ := H
  go_enter Tryd.func19, Tryd.ntmps19
  go_wp2_with (first | ((with_reducible refine gate_dst (N := 2) rfl ?_); refine zbx 2 #[.int .i64 0, .int .i64 0, .slice none 0 0, .slice none 0 0] 31 ?_; intro gb418 hg w3 hbox hb; have _ := aM (below_step (zB HB.1) hb); have _ := aM (hbox); have _ := aM (zge hg (zB HB.1)); have _ := aM (zge hg (zB HB.1)); clear HB; rename_i HB BK418 GW418 GE418; clear hb hbox hg; obtain ⟨hcz4_0, hcz4_1, hcz4_2, hcz4_3, hfz4_0, hfz4_1, hfz4_2, hfz4_3⟩ := zc4f BK418.1))
  refine bodyPost_ret (results_ct rfl _ _ gb418 31 #[.int .i64 0, .int .i64 0, .slice none 0 0, .slice none 0 0] (0, 0) _ rfl (by exact zP BK418.1 (by rfl)) Tryd.underlying31 rfl (by kernel_rfl)) rfl ?_; exact ⟨_, _, by first | rfl | (simp [errW_none, errW_some] <;> rfl) | (simp [*, errW_none, errW_some] <;> rfl), by first | exact Kd.R_nil _ _ _ _ _ | exact Kd.N_nil _ _ _ _ _ | exact Kd.V_nil _ _ _ _ _ | exact Kd.Q_nil _ _ _ _ _ | exact Kd.S_nil _ _ _ _ _, by first | exact Kd.R_nil _ _ _ _ _ | exact Kd.N_nil _ _ _ _ _ | exact Kd.V_nil _ _ _ _ _ | exact Kd.Q_nil _ _ _ _ _ | exact Kd.S_nil _ _ _ _ _, by exact zB1 HB.1 GE418.1⟩
 ·rw [if_neg c2] at H; have c2b0 : decide (30 < (a0.size : Int)) = false := decide_eq_false c2; have c2b1 : decide (30 < a0.size) = false := decide_eq_false (by omega); clear c2; replace H := Option.bind_eq_some_iff.mp H; obtain ⟨t419, A50, H⟩ := H; (try dsimp only at H); have A5 := aM A50; clear A50; replace H := zif H; obtain ⟨c6, H⟩ := H; have c6b0 : decide (0 < (t419.length : Int)) = true := decide_eq_true c6; have c6b1 : decide (0 < t419.length) = true := decide_eq_true (by omega); clear c6; replace H := Option.bind_eq_some_iff.mp H; obtain ⟨⟨t424, t425⟩, A70, H⟩ := H; (try dsimp only at H); have A7 := aM A70; clear A70; replace H := zif H; obtain ⟨c8, H⟩ := H; have c8b0 := eq_true c8; have c8b1 : decide (1 ≤ (t419.length : Int)) = true := decide_eq_true c8; clear c8; obtain ⟨y426, hy426⟩ : ∃ y_ : List ByteArray, y_ = (t419.drop 1) := ⟨_, rfl⟩; (first | (replace H := zbs hy426 H; try dsimp only at H) | rw [← hy426] at H); have Ny426 := aM hy426; clear hy426; have H' := aM H; clear H
  go_enter Tryd.func19, Tryd.ntmps19
  go_wp2_with (first | ((with_reducible refine gate_dst (N := 2) rfl ?_); refine zbx 2 #[.int .i64 0, .int .i64 0, .slice none 0 0, .slice none 0 0] 31 ?_; intro gb418 hg w9 hbox hb; have _ := aM (below_step (zB HB.1) hb); have _ := aM (hbox); have _ := aM (zge hg (zB HB.1)); have _ := aM (zge hg (zB HB.1)); clear HB; rename_i HB BK418 GW418 GE418; clear hb hbox hg) | ((with_reducible refine gate_callee (f := 56) rfl ?_); refine zgL (some 22) Tryd.func56 #[.string a0, .string (⟨#[32]⟩ : ByteArray)] ?_; (with_reducible refine (strings_Split.calls a0 (⟨#[32]⟩ : ByteArray) t419 _ ?sideL A5.1).mono ?_); (case sideL => exact HLD.1.on (zB1 HB.1 GE418.1)); rintro e w10 ⟨v420, rfl, ho0, hb⟩; refine ⟨_, rfl, ?_⟩; have _ := aM (Kd.R_lower ho0 (below_size (zB1 HB.1 GE418.1))); have _ := aM (blk_below (zK BK418.1) hb); have _ := aM (below_step (zB1 HB.1 GE418.1) hb); clear BK418 HB; rename_i HO421 BK418 HB; (try clear hb); (try clear hb2); (try clear hk); (try clear hi); (try clear ho0)) | ((with_reducible refine gate_dst (N := 5) rfl ?_); refine zbx 5 #[.int .i64 0, .int .i64 0, .slice none 0 0, .slice none 0 0] 31 ?_; intro gb422 hg w11 hbox hb; have _ := aM (Kd.R_below (zR HO421.1) hb); have _ := aM (blk_below (zK BK418.1) hb); have _ := aM (below_step (zB1 HB.1 GE418.1) hb); have _ := aM (hbox); have _ := aM (zge hg (zB1 HB.1 GE418.1)); have _ := aM (zge hg (zB1 HB.1 GE418.1)); have _ := aM (znl hg (zK BK418.1)); have _ := aM (zng hg (zK BK418.1)); clear HO421 BK418 HB; rename_i HO421 BK418 HB BK422 GW422 GE422 NB418_422 NB422_418; clear hb hbox hg; obtain ⟨Ao12, co12, eo12⟩ := Kd.R_slice HO421.1; subst eo12; have p423 : 0 ≤ (0 : Int) := (by omega); have q423 : 0 < (t419.length : Int) := zd; obtain ⟨ad423, e423, hx423_0⟩ := Kd.at_string (Kd.R_reads' HO421.1).2.2 0 p423 q423; cases e423; have qi423 : (0 < t419.length) = True := eq_true (by omega); (try rw [show ((0 : Int)).toNat = 0 from rfl] at hx423_0); (try rw [Addr.add_zero'] at hx423_0); replace p423 := eq_true p423; replace q423 := eq_true q423) | ((with_reducible refine gate_callee (f := 57) rfl ?_); refine zgL (some 27) Tryd.func57 #[.string (rdOf ByteArray.empty t419 0)] ?_; (with_reducible refine (impl_nameRead.calls (rdOf ByteArray.empty t419 0) t424 t425 _ ?sideL A7.1).mono ?_); (case sideL => exact HLD.1.on (zB2 HB.1 GE418.1 GE422.1)); rintro e w13 ⟨rfl, hb⟩; refine ⟨_, rfl, ?_⟩; have _ := aM (Kd.R_below (zR HO421.1) hb); have _ := aM (blk_below (zK BK418.1) hb); have _ := aM (blk_below (zK BK422.1) hb); have _ := aM (below_step (zB2 HB.1 GE418.1 GE422.1) hb); clear HO421 BK418 BK422 HB; rename_i HO421 BK418 BK422 HB; (try clear hb); (try clear hb2); (try clear hk); (try clear hi); have hnb14 := NB422_418.1; have hnc14 := NB418_422.1; obtain ⟨hcz15_0, hcz15_1, hcz15_2, hcz15_3, hfz15_0, hfz15_1, hfz15_2, hfz15_3⟩ := zc4f BK422.1) | ((with_reducible refine gate_store (t := 3) (p := 30) rfl ?_); refine store_event (t := 3) (p := 30) (v := ?vo_w16) (w1 := (w13.setCell ⟨gb422, 0, none⟩ (.int .i64 t424))) ?hg ?ho ?hn ?hr ?_; (case ho => rfl); (case hg => rfl); (case hn => rfl); (case hr => first | (go_simp; done) | (go_simp; rfl)); intro w16 hw; have _ : Aside0 (Kd.R Kd.string 9 w16 w.heap.size (fun _ => True) (.slice (some ad423) t419.length co12) t419) := ⟨(by rw [hw]; exact (by exact (Kd.R_mono (zFR (g := gb422) (Kd.R_types HO421.1 BK422.1 (by decide)) (fun _ hk => hk.2)) (fun _ hk => trivial))))⟩; have _ : Aside0 (w16.heap[gb418]? = some (.cells #[.int .i64 0, .int .i64 0, .slice none 0 0, .slice none 0 0] 31 (0, 0))) := ⟨(by rw [hw]; exact (zK1 BK418.1 NB418_422.1))⟩; have _ : Aside0 (w16.heap[gb422]? = some (.cells #[.int .i64 t424, .int .i64 0, .slice none 0 0, .slice none 0 0] 31 (0, 0))) := ⟨(by rw [hw]; exact (by exact zP BK422.1 (by rfl)))⟩; have _ : Aside0 (Below w.heap.size w w16) := ⟨(by rw [hw]; exact (zB2 HB.1 GE418.1 GE422.1))⟩; clear hw HO421 BK418 BK422 HB; rename_i HO421 BK418 BK422 HB; obtain ⟨hcz17_0, hcz17_1, hcz17_2, hcz17_3, hfz17_0, hfz17_1, hfz17_2, hfz17_3⟩ := zc4f BK422.1) | ((with_reducible refine gate_store (t := 3) (p := 31) rfl ?_); refine store_event (t := 3) (p := 31) (v := ?vo_w18) (w1 := (w16.setCell ⟨gb422, 1, none⟩ (.int .i64 t425))) ?hg ?ho ?hn ?hr ?_; (case ho => rfl); (case hg => rfl); (case hn => rfl); (case hr => first | (go_simp; done) | (go_simp; rfl)); intro w18 hw; have _ : Aside0 (Kd.R Kd.string 9 w18 w.heap.size (fun _ => True) (.slice (some ad423) t419.length co12) t419) := ⟨(by rw [hw]; exact (by exact (Kd.R_mono (zFR (g := gb422) (Kd.R_types HO421.1 BK422.1 (by decide)) (fun _ hk => hk.2)) (fun _ hk => trivial))))⟩; have _ : Aside0 (w18.heap[gb418]? = some (.cells #[.int .i64 0, .int .i64 0, .slice none 0 0, .slice none 0 0] 31 (0, 0))) := ⟨(by rw [hw]; exact (zK1 BK418.1 NB418_422.1))⟩; have _ : Aside0 (w18.heap[gb422]? = some (.cells #[.int .i64 t424, .int .i64 t425, .slice none 0 0, .slice none 0 0] 31 (0, 0))) := ⟨(by rw [hw]; exact (by exact zP BK422.1 (by rfl)))⟩; have _ : Aside0 (Below w.heap.size w w18) := ⟨(by rw [hw]; exact (zB2 HB.1 GE418.1 GE422.1))⟩; clear hw HO421 BK418 BK422 HB; rename_i HO421 BK418 BK422 HB; have q19 : (1 : Int) ≤ ((t419.length : Int) : Int) := zd; obtain ⟨i019, hi019, _, hsz19, _⟩ := info_parts info9; have hroom19 : t419.length ≤ co12 := (Kd.R_reads' HO421.1).2.1; have hC19 : Kd.C Kd.string _ (some ad423) t419.length t419 := (Kd.R_reads' HO421.1).2.2; have hcut19 := cut_from (P := Tryd.prog) 63 9 .i64 Tryd.underlying63 hi019 1 hsz19 (some ad423) t419.length co12 1 (by omega) q19; have hr19 := Kd.C_drop (m := (1 : Int).toNat) (c := co12) hC19 (by omega) hroom19; obtain ⟨A19, hA19⟩ : ∃ A1, A1 = (if co12 = (1 : Int).toNat then (some ad423) else ((some ad423) : Option Addr).map (·.add ((1 : Int).toNat * 1))) := ⟨_, rfl⟩; obtain ⟨c19, hc19⟩ : ∃ c1, c1 = co12 - (1 : Int).toNat := ⟨_, rfl⟩; have hy19 : y426.length = t419.length - (1 : Int).toNat := (by rw [Ny426.1, List.length_drop] <;> omega); rw [show (t419).drop (1 : Int).toNat = y426 from Ny426.1.symm] at hr19; replace hr19 : Kd.C Kd.string _ A19 y426.length y426 := (by rw [hA19]; exact hr19); rw [← hy19, ← hA19, ← hc19] at hcut19; have HR429 := aM hr19; have HC429 := aM (show y426.length ≤ c19 from by rw [hy19, hc19]; exact Nat.sub_le_sub_right hroom19 _); clear hr19 hC19 hroom19 hi019 hsz19 hc19; have KY19 := aM hy19; have KA19 := aM hA19; clear hy19 hA19; have KL19 := aM (show 1 ≤ t419.length from by omega); replace q19 := eq_true q19))
  have hp_ : 0 < t419.length := of_decide_eq_true c6b1; obtain ⟨gS_, cS_, eS_, _, _, CS, hS_⟩ := Kd.R_form HO421.1 hp_
  have hB_ : ad423.block = gS_ := by injection eS_ with e1; injection e1 with e1; rw [e1]
  rw [← hB_] at hS_; have BKS0 := aM hS_; have BKS := aM hS_; have NBS := aM (blk_ne hS_ BK422.1 (by decide)); clear hS_ hp_ hB_ eS_
  go_loopg [35] k (fun kq v35 w' => ∃ (x35_1 : Int) (x423002_1 : List (S67)) (x423003_1 : List (S69)) (u423002 : Value) (u423003 : Value), v35 = .int .i64 x35_1 ∧ Aside0 (impl_PkgRead.l0 kq a0 y426 (y426.length : Int) x35_1 t424 t425 x423002_1 x423003_1 = some (r1, r2, r3, r4, r5)) ∧ Aside0 (kq ≤ k) ∧ Aside0 (Kd.R k67 67 w' w.heap.size (fun _ => True) u423002 x423002_1) ∧ Aside0 (Kd.R k69 69 w' w.heap.size (fun _ => True) u423003 x423003_1) ∧ Aside0 (w'.heap[gb418]? = some (.cells #[.int .i64 0, .int .i64 0, (.slice none 0 0), (.slice none 0 0)] 31 (0, 0))) ∧ Aside0 (w'.heap[gb422]? = some (.cells #[.int .i64 t424, .int .i64 t425, u423002, u423003] 31 (0, 0))) ∧ Aside0 (Below w.heap.size w w') ∧ Aside0 (w'.heap[ad423.block]? = some (.cells CS 9 (0, 0))))
  case atStart => exact ⟨(0), (([] : List (S67))), (([] : List (S69))), (.slice none 0 0), (.slice none 0 0), (by first | rfl | (simp; done) | (simp [*]; done)), H', ⟨Nat.le_refl _⟩, ⟨by first | exact Kd.R_nil _ _ _ _ _ | exact Kd.N_nil _ _ _ _ _ | exact Kd.V_nil _ _ _ _ _ | exact Kd.Q_nil _ _ _ _ _ | exact Kd.S_nil _ _ _ _ _⟩, ⟨by first | exact Kd.R_nil _ _ _ _ _ | exact Kd.N_nil _ _ _ _ _ | exact Kd.V_nil _ _ _ _ _ | exact Kd.Q_nil _ _ _ _ _ | exact Kd.S_nil _ _ _ _ _⟩, ⟨zK BK418.1⟩, ⟨zK BK422.1⟩, ⟨zB2 HB.1 GE418.1 GE422.1⟩, ⟨zK BKS.1⟩⟩
  case round =>
   clear H'
   try clear c1
   try clear q1
   try clear c2
   try clear c2b0
   try clear c2b1
   try clear p2
   try clear p4
   try clear q4
   try clear hx4
   try clear qi4
   try clear c5
   try clear c6
   try clear c6b0
   try clear c6b1
   try clear c8
   try clear c8b0
   try clear c8b1
   try clear c14
   try clear c19
   try clear q19
   try clear hcz15_0
   try clear hcz15_1
   try clear hcz15_2
   try clear hcz15_3
   try clear hcz17_0
   try clear hcz17_1
   try clear hcz17_2
   try clear hcz17_3
   try clear hcz4_0
   try clear hcz4_1
   try clear hcz4_2
   try clear hcz4_3
   try clear hfz15_0
   try clear hfz15_1
   try clear hfz15_2
   try clear hfz15_3
   try clear hfz17_0
   try clear hfz17_1
   try clear hfz17_2
   try clear hfz17_3
   try clear hfz4_0
   try clear hfz4_1
   try clear hfz4_2
   try clear hfz4_3
   try clear hx423_0
   try clear p423
   try clear q19
   try clear q423
   obtain ⟨x35_1, x423002_1, x423003_1, u423002, u423003, rfl, HA, HK1, HO_423002, HO_423003, BK418, BK422, HB, BKS⟩ := hrel; cases gk with
   | zero => exact absurd HA.1 (by simp [impl_PkgRead.l0])
   | succ k1 =>
    have H := HA.1; clear HA; simp only [impl_PkgRead.l0] at H
    by_cases c20 : x35_1 < (y426.length : Int)
    ·rw [if_pos c20] at H; have c20b0 : decide (x35_1 < (y426.length : Int)) = true := decide_eq_true c20; clear c20; replace H := zif H; obtain ⟨c21, H⟩ := H; have c21b0 : decide (0 ≤ x35_1) = true := decide_eq_true c21; clear c21; replace H := zif H; obtain ⟨c22, H⟩ := H; have c22b0 : decide (x35_1 < (y426.length : Int)) = true := decide_eq_true c22; clear c22; replace H := Option.bind_eq_some_iff.mp H; obtain ⟨⟨t431, t432, t433⟩, A230, H⟩ := H; (try dsimp only at H); have A23 := aM A230; clear A230
     by_cases c24 : t433 = true
     ·subst c24; replace H := zy1 H; replace H := Option.bind_eq_some_iff.mp H; obtain ⟨⟨t434, t435⟩, A250, H⟩ := H; (try dsimp only at H); have A25 := aM A250; clear A250; replace H := Option.bind_eq_some_iff.mp H; obtain ⟨⟨t436, t437⟩, A260, H⟩ := H; (try dsimp only at H); have A26 := aM A260; clear A260; replace H := zif H; obtain ⟨c27, H⟩ := H; have LMc27 := aM c27; clear c27; obtain ⟨y438, hy438⟩ : ∃ y_ : List (S67), y_ = (x423002_1 ++ [(⟨t434, t436⟩ : S67)]) := ⟨_, rfl⟩; (first | (replace H := zbs hy438 H; try dsimp only at H) | rw [← hy438] at H); have Ny438 := aM hy438; clear hy438; have H' := aM H; clear H; have p430 : 0 ≤ (x35_1 : Int) := zd; have q430 : x35_1 < (y426.length : Int) := zd; obtain ⟨ad430, e430, hx430_0⟩ := Kd.at_string HR429.1 x35_1 p430 q430; cases e430; replace hx430_0 := (zcell (w := w18) (w1 := wr) (by rw [zadd, zdrop KA19.1]; exact BKS.1.trans BKS0.1.symm)).trans hx430_0; replace p430 := eq_true p430; replace q430 := eq_true q430
      go_wp2_with (first | ((with_reducible refine gate_callee (f := 58) rfl ?_); refine zgL (some 41) Tryd.func58 #[.string (rdOf ByteArray.empty y426 x35_1), .string (⟨#[58]⟩ : ByteArray)] ?_; (with_reducible refine (strings_Cut.calls (rdOf ByteArray.empty y426 x35_1) (⟨#[58]⟩ : ByteArray) t431 t432 true _ ?sideL A23.1).mono ?_); (case sideL => exact HLD.1.on (zB2 HB.1 GE418.1 GE422.1)); rintro e w28 ⟨rfl, hb⟩; refine ⟨_, rfl, ?_⟩; have n0_ := aM (Kd.R_below (zR HO_423002.1) hb); have n1_ := aM (Kd.R_below (zR HO_423003.1) hb); have n2_ := aM (blk_below (zK BK418.1) hb); have mS_ := aM (blk_below (g := ad423.block) (o := .cells CS 9 (0, 0)) (zK BKS.1) hb); have n3_ := aM (blk_below (zK BK422.1) hb); have n4_ := aM (below_step (zB2 HB.1 GE418.1 GE422.1) hb); clear HO_423002 HO_423003 BK418 BKS BK422 HB; have HO_423002 := n0_; have HO_423003 := n1_; have BK418 := n2_; have BKS := mS_; clear mS_; have BK422 := n3_; have HB := n4_; clear n0_ n1_ n2_ n3_ n4_; (try clear hb); (try clear hb2); (try clear hk); (try clear hi)) | ((with_reducible refine gate_callee (f := 59) rfl ?_); refine zgL (some 48) Tryd.func59 #[.string t431] ?_; (with_reducible refine (strconv_Atoi.calls t431 t434 t435 _ ?sideL A25.1).mono ?_); (case sideL => exact HLD.1.on (zB2 HB.1 GE418.1 GE422.1)); rintro e w29 ⟨ev_, rfl, hb⟩; refine ⟨_, rfl, ?_⟩; have n0_ := aM (Kd.R_below (zR HO_423002.1) hb); have n1_ := aM (Kd.R_below (zR HO_423003.1) hb); have n2_ := aM (blk_below (zK BK418.1) hb); have mS_ := aM (blk_below (g := ad423.block) (o := .cells CS 9 (0, 0)) (zK BKS.1) hb); have n3_ := aM (blk_below (zK BK422.1) hb); have n4_ := aM (below_step (zB2 HB.1 GE418.1 GE422.1) hb); clear HO_423002 HO_423003 BK418 BKS BK422 HB; have HO_423002 := n0_; have HO_423003 := n1_; have BK418 := n2_; have BKS := mS_; clear mS_; have BK422 := n3_; have HB := n4_; clear n0_ n1_ n2_ n3_ n4_; (try clear hb); (try clear hb2); (try clear hk); (try clear hi); (try simp only [errW_none, errW_some])) | ((with_reducible refine gate_callee (f := 59) rfl ?_); refine zgL (some 53) Tryd.func59 #[.string t432] ?_; (with_reducible refine (strconv_Atoi.calls t432 t436 t437 _ ?sideL A26.1).mono ?_); (case sideL => exact HLD.1.on (zB2 HB.1 GE418.1 GE422.1)); rintro e w30 ⟨ev_, rfl, hb⟩; refine ⟨_, rfl, ?_⟩; have n0_ := aM (Kd.R_below (zR HO_423002.1) hb); have n1_ := aM (Kd.R_below (zR HO_423003.1) hb); have n2_ := aM (blk_below (zK BK418.1) hb); have mS_ := aM (blk_below (g := ad423.block) (o := .cells CS 9 (0, 0)) (zK BKS.1) hb); have n3_ := aM (blk_below (zK BK422.1) hb); have n4_ := aM (below_step (zB2 HB.1 GE418.1 GE422.1) hb); clear HO_423002 HO_423003 BK418 BKS BK422 HB; have HO_423002 := n0_; have HO_423003 := n1_; have BK418 := n2_; have BKS := mS_; clear mS_; have BK422 := n3_; have HB := n4_; clear n0_ n1_ n2_ n3_ n4_; (try clear hb); (try clear hb2); (try clear hk); (try clear hi); (try simp only [errW_none, errW_some]); have hnb31 := NB422_418.1; have hnc31 := NB418_422.1; obtain ⟨hcz32_0, hcz32_1, hcz32_2, hcz32_3, hfz32_0, hfz32_1, hfz32_2, hfz32_3⟩ := zc4f BK422.1) | ((with_reducible refine gate_builtin (b := .append) (xs := #[.tmp 57, .tmp 61]) rfl ?_); at_builtin; refine Kd.R_append k67 (w0 := w) w.heap.size rfl (.tmp 57) (.tmp 61) 28 67 (.agg #[(.int .i64 0), (.int .i64 0)]) 16 rfl Tryd.underlying28 info67 rfl (by decide) (by omega) u423002 x423002_1 (⟨t434, t436⟩ : S67) [.int .i64 t434, .int .i64 t436] (fun _ => True) (fun _ => False) rfl rfl ?aP (fun _ hk => hk.elim) ?aF ?aO ?aB ?aS ?aL ?_; (case aP => exact k67_mkM _ _ _ (⟨t434, t436⟩ : S67)); (case aB => exact (zB2 HB.1 GE418.1 GE422.1)); (case aF => exact (fun _ _ => trivial)); (case aO => exact (zR HO_423002.1)); (case aS => exact (below_size (zB2 HB.1 GE418.1 GE422.1))); (case aL => have := LMc27.1; omega); intro v439 w33 ho hb hg hat; rw [← Ny438.1] at ho; have n0_ := aM (Kd.R_over' (zR HO_423003.1) (Kd.R_typed (zR HO_423002.1)) (by decide) hg); have n1_ := aM (blk_grown (zK BK418.1) hg (Kd.R_ne HO_423002.1 BK418.1 (by decide))); have mS_ := aM (blk_grown (g := ad423.block) (o := .cells CS 9 (0, 0)) (zK BKS.1) hg (Kd.R_ne HO_423002.1 BKS.1 (by decide))); have n2_ := aM (blk_grown (zK BK422.1) hg (Kd.R_ne HO_423002.1 BK422.1 (by decide))); have n3_ := aM (hb); have n4_ := aM (ho); clear HO_423003 BK418 BKS BK422 HB HO_423002; have HO_423003 := n0_; have BK418 := n1_; have BKS := mS_; clear mS_; have BK422 := n2_; have HB := n3_; have HO440 := n4_; clear n0_ n1_ n2_ n3_ n4_ ho hb hg hat; obtain ⟨Ao34, co34, eo34⟩ := Kd.R_slice HO440.1; subst eo34; obtain ⟨hcz35_0, hcz35_1, hcz35_2, hcz35_3, hfz35_0, hfz35_1, hfz35_2, hfz35_3⟩ := zc4f BK422.1))
      go_roundg k1
      case measure => have := HK1.1; omega
      case rel => exact ⟨(wrap64 (x35_1 + 1)), (y438), (x423003_1), (.slice Ao34 y438.length co34), (u423003), (by first | rfl | (simp; done) | (simp [*]; done)), H', ⟨by have := HK1.1; omega⟩, ⟨by exact (Kd.R_mono (zFR (g := gb422) (Kd.R_types HO440.1 BK422.1 (by decide)) (fun _ hk => hk.2)) (fun _ hk => trivial))⟩, ⟨by exact (Kd.R_mono (zFR (g := gb422) (Kd.R_types HO_423003.1 BK422.1 (by decide)) (fun _ hk => hk.2)) (fun _ hk => trivial))⟩, ⟨zK1 BK418.1 NB418_422.1⟩, ⟨by exact zP BK422.1 (by rfl)⟩, ⟨zB2 HB.1 GE418.1 GE422.1⟩, ⟨zK1 BKS.1 NBS.1⟩⟩
     ·replace c24 := Bool.eq_false_iff.mpr c24; subst c24; replace H := zy0 H; replace H := Option.bind_eq_some_iff.mp H; obtain ⟨⟨t441, t442⟩, A360, H⟩ := H; (try dsimp only at H); have A36 := aM A360; clear A360; replace H := zif H; obtain ⟨c37, H⟩ := H; have LMc37 := aM c37; clear c37; obtain ⟨y443, hy443⟩ : ∃ y_ : List (S69), y_ = (x423003_1 ++ [(⟨t441, t442⟩ : S69)]) := ⟨_, rfl⟩; (first | (replace H := zbs hy443 H; try dsimp only at H) | rw [← hy443] at H); have Ny443 := aM hy443; clear hy443; have H' := aM H; clear H; have p430 : 0 ≤ (x35_1 : Int) := zd; have q430 : x35_1 < (y426.length : Int) := zd; obtain ⟨ad430, e430, hx430_0⟩ := Kd.at_string HR429.1 x35_1 p430 q430; cases e430; replace hx430_0 := (zcell (w := w18) (w1 := wr) (by rw [zadd, zdrop KA19.1]; exact BKS.1.trans BKS0.1.symm)).trans hx430_0; replace p430 := eq_true p430; replace q430 := eq_true q430
      go_wp2_with (first | ((with_reducible refine gate_callee (f := 58) rfl ?_); refine zgL (some 41) Tryd.func58 #[.string (rdOf ByteArray.empty y426 x35_1), .string (⟨#[58]⟩ : ByteArray)] ?_; (with_reducible refine (strings_Cut.calls (rdOf ByteArray.empty y426 x35_1) (⟨#[58]⟩ : ByteArray) t431 t432 false _ ?sideL A23.1).mono ?_); (case sideL => exact HLD.1.on (zB2 HB.1 GE418.1 GE422.1)); rintro e w38 ⟨rfl, hb⟩; refine ⟨_, rfl, ?_⟩; have n0_ := aM (Kd.R_below (zR HO_423002.1) hb); have n1_ := aM (Kd.R_below (zR HO_423003.1) hb); have n2_ := aM (blk_below (zK BK418.1) hb); have mS_ := aM (blk_below (g := ad423.block) (o := .cells CS 9 (0, 0)) (zK BKS.1) hb); have n3_ := aM (blk_below (zK BK422.1) hb); have n4_ := aM (below_step (zB2 HB.1 GE418.1 GE422.1) hb); clear HO_423002 HO_423003 BK418 BKS BK422 HB; have HO_423002 := n0_; have HO_423003 := n1_; have BK418 := n2_; have BKS := mS_; clear mS_; have BK422 := n3_; have HB := n4_; clear n0_ n1_ n2_ n3_ n4_; (try clear hb); (try clear hb2); (try clear hk); (try clear hi)) | ((with_reducible refine gate_callee (f := 57) rfl ?_); refine zgL (some 66) Tryd.func57 #[.string (rdOf ByteArray.empty y426 x35_1)] ?_; (with_reducible refine (impl_nameRead.calls (rdOf ByteArray.empty y426 x35_1) t441 t442 _ ?sideL A36.1).mono ?_); (case sideL => exact HLD.1.on (zB2 HB.1 GE418.1 GE422.1)); rintro e w39 ⟨rfl, hb⟩; refine ⟨_, rfl, ?_⟩; have n0_ := aM (Kd.R_below (zR HO_423002.1) hb); have n1_ := aM (Kd.R_below (zR HO_423003.1) hb); have n2_ := aM (blk_below (zK BK418.1) hb); have mS_ := aM (blk_below (g := ad423.block) (o := .cells CS 9 (0, 0)) (zK BKS.1) hb); have n3_ := aM (blk_below (zK BK422.1) hb); have n4_ := aM (below_step (zB2 HB.1 GE418.1 GE422.1) hb); clear HO_423002 HO_423003 BK418 BKS BK422 HB; have HO_423002 := n0_; have HO_423003 := n1_; have BK418 := n2_; have BKS := mS_; clear mS_; have BK422 := n3_; have HB := n4_; clear n0_ n1_ n2_ n3_ n4_; (try clear hb); (try clear hb2); (try clear hk); (try clear hi); have hnb40 := NB422_418.1; have hnc40 := NB418_422.1; obtain ⟨hcz41_0, hcz41_1, hcz41_2, hcz41_3, hfz41_0, hfz41_1, hfz41_2, hfz41_3⟩ := zc4f BK422.1) | ((with_reducible refine gate_builtin (b := .append) (xs := #[.tmp 70, .tmp 74]) rfl ?_); at_builtin; refine Kd.R_append k69 (w0 := w) w.heap.size rfl (.tmp 70) (.tmp 74) 29 69 (.agg #[(.int .i64 0), (.int .i64 0)]) 16 rfl Tryd.underlying29 info69 rfl (by decide) (by omega) u423003 x423003_1 (⟨t441, t442⟩ : S69) [.int .i64 t441, .int .i64 t442] (fun _ => True) (fun _ => False) rfl rfl ?aP (fun _ hk => hk.elim) ?aF ?aO ?aB ?aS ?aL ?_; (case aP => exact k69_mkM _ _ _ (⟨t441, t442⟩ : S69)); (case aB => exact (zB2 HB.1 GE418.1 GE422.1)); (case aF => exact (fun _ _ => trivial)); (case aO => exact (zR HO_423003.1)); (case aS => exact (below_size (zB2 HB.1 GE418.1 GE422.1))); (case aL => have := LMc37.1; omega); intro v444 w42 ho hb hg hat; rw [← Ny443.1] at ho; have n0_ := aM (Kd.R_over' (zR HO_423002.1) (Kd.R_typed (zR HO_423003.1)) (by decide) hg); have n1_ := aM (blk_grown (zK BK418.1) hg (Kd.R_ne HO_423003.1 BK418.1 (by decide))); have mS_ := aM (blk_grown (g := ad423.block) (o := .cells CS 9 (0, 0)) (zK BKS.1) hg (Kd.R_ne HO_423003.1 BKS.1 (by decide))); have n2_ := aM (blk_grown (zK BK422.1) hg (Kd.R_ne HO_423003.1 BK422.1 (by decide))); have n3_ := aM (hb); have n4_ := aM (ho); clear HO_423002 BK418 BKS BK422 HB HO_423003; have HO_423002 := n0_; have BK418 := n1_; have BKS := mS_; clear mS_; have BK422 := n2_; have HB := n3_; have HO445 := n4_; clear n0_ n1_ n2_ n3_ n4_ ho hb hg hat; obtain ⟨Ao43, co43, eo43⟩ := Kd.R_slice HO445.1; subst eo43; obtain ⟨hcz44_0, hcz44_1, hcz44_2, hcz44_3, hfz44_0, hfz44_1, hfz44_2, hfz44_3⟩ := zc4f BK422.1))
      go_roundg k1
      case measure => have := HK1.1; omega
      case rel => exact ⟨(wrap64 (x35_1 + 1)), (x423002_1), (y443), (u423002), (.slice Ao43 y443.length co43), (by first | rfl | (simp; done) | (simp [*]; done)), H', ⟨by have := HK1.1; omega⟩, ⟨by exact (Kd.R_mono (zFR (g := gb422) (Kd.R_types HO_423002.1 BK422.1 (by decide)) (fun _ hk => hk.2)) (fun _ hk => trivial))⟩, ⟨by exact (Kd.R_mono (zFR (g := gb422) (Kd.R_types HO445.1 BK422.1 (by decide)) (fun _ hk => hk.2)) (fun _ hk => trivial))⟩, ⟨zK1 BK418.1 NB418_422.1⟩, ⟨by exact zP BK422.1 (by rfl)⟩, ⟨zB2 HB.1 GE418.1 GE422.1⟩, ⟨zK1 BKS.1 NBS.1⟩⟩
    ·rw [if_neg c20] at H; have c20b0 : decide (x35_1 < (y426.length : Int)) = false := decide_eq_false c20; clear c20; replace H := Option.bind_eq_some_iff.mp H; obtain ⟨t446, A450, H⟩ := H; (try dsimp only at H); have A45 := aM A450; clear A450
     by_cases c46 : t446 = true
     ·subst c46; replace H := zy1 H; replace H := Option.bind_eq_some_iff.mp H; obtain ⟨t447, A470, H⟩ := H; (try dsimp only at H); have A47 := aM A470; clear A470
      by_cases c48 : t447.toList = a0.toList
      ·rw [if_pos c48] at H; have c48b0 : (t447.toList == a0.toList) = true := beq_iff_eq.mpr c48; have c48b1 : (t447.toList != a0.toList) = false := bne_eq_false_iff_eq.mpr c48; clear c48; simp only [Option.some.injEq, Prod.mk.injEq] at H; obtain ⟨rfl, rfl, rfl, rfl, rfl⟩ := H; have hnb49 := NB422_418.1; have hnc49 := NB418_422.1; obtain ⟨hcz50_0, hcz50_1, hcz50_2, hcz50_3, hfz50_0, hfz50_1, hfz50_2, hfz50_3⟩ := zc4f BK422.1; obtain ⟨Ao51, co51, eo51⟩ := Kd.R_slice HO_423002.1; subst eo51; obtain ⟨Ao52, co52, eo52⟩ := Kd.R_slice HO_423003.1; subst eo52
       go_wp2_with (first | ((with_reducible refine gate_callee (f := 23) rfl ?_); refine zgL (some 79) Tryd.func23 #[.agg #[.int .i64 t424, .int .i64 t425, .slice Ao51 x423002_1.length co51, .slice Ao52 x423003_1.length co52]] ?_; (with_reducible refine (impl_PkgOk.calls k1 t424 t425 _ _ x423002_1 _ _ x423003_1 true _ ?side1 ?side2 ?side3 ?side4 A45.1).mono ?_); (case side1 => exact zC (Kd.R_reads' HO_423002.1).2.2); (case side2 => exact (Kd.R_reads' HO_423002.1).2.1); (case side3 => exact zC (Kd.R_reads' HO_423003.1).2.2); (case side4 => exact (Kd.R_reads' HO_423003.1).2.1); rintro e w53 ⟨rfl, hb⟩; refine ⟨_, rfl, ?_⟩; have n0_ := aM (Kd.R_below (zR HO_423002.1) hb); have n1_ := aM (Kd.R_below (zR HO_423003.1) hb); have n2_ := aM (blk_below (zK BK418.1) hb); have mS_ := aM (blk_below (g := ad423.block) (o := .cells CS 9 (0, 0)) (zK BKS.1) hb); have n3_ := aM (blk_below (zK BK422.1) hb); have n4_ := aM (below_step (zB2 HB.1 GE418.1 GE422.1) hb); clear HO_423002 HO_423003 BK418 BKS BK422 HB; have HO_423002 := n0_; have HO_423003 := n1_; have BK418 := n2_; have BKS := mS_; clear mS_; have BK422 := n3_; have HB := n4_; clear n0_ n1_ n2_ n3_ n4_; (try clear hb); (try clear hb2); (try clear hk); (try clear hi); obtain ⟨hcz54_0, hcz54_1, hcz54_2, hcz54_3, hfz54_0, hfz54_1, hfz54_2, hfz54_3⟩ := zc4f BK422.1) | (go_at_call 17; (with_reducible refine (impl_PkgText.calls k1 t424 t425 _ _ x423002_1 _ _ x423003_1 t447 _ ?side1 ?side2 ?side3 ?side4 A47.1).mono ?_); (case side1 => exact zC (Kd.R_reads' HO_423002.1).2.2); (case side2 => exact (Kd.R_reads' HO_423002.1).2.1); (case side3 => exact zC (Kd.R_reads' HO_423003.1).2.2); (case side4 => exact (Kd.R_reads' HO_423003.1).2.1); rintro e w55 ⟨rfl, hb⟩; have n0_ := aM (Kd.R_below (zR HO_423002.1) hb); have n1_ := aM (Kd.R_below (zR HO_423003.1) hb); have n2_ := aM (blk_below (zK BK418.1) hb); have mS_ := aM (blk_below (g := ad423.block) (o := .cells CS 9 (0, 0)) (zK BKS.1) hb); have n3_ := aM (blk_below (zK BK422.1) hb); have n4_ := aM (below_step (zB2 HB.1 GE418.1 GE422.1) hb); clear HO_423002 HO_423003 BK418 BKS BK422 HB; have HO_423002 := n0_; have HO_423003 := n1_; have BK418 := n2_; have BKS := mS_; clear mS_; have BK422 := n3_; have HB := n4_; clear n0_ n1_ n2_ n3_ n4_; (try clear hb); (try clear hb2); (try clear hk); (try clear hi); obtain ⟨hcz56_0, hcz56_1, hcz56_2, hcz56_3, hfz56_0, hfz56_1, hfz56_2, hfz56_3⟩ := zc4f BK422.1; obtain ⟨hcz57_0, hcz57_1, hcz57_2, hcz57_3, hfz57_0, hfz57_1, hfz57_2, hfz57_3⟩ := zc4f BK418.1))
       refine bodyPost_ret (results_ct rfl _ _ gb418 31 #[.int .i64 t424, .int .i64 t425, .slice Ao51 x423002_1.length co51, .slice Ao52 x423003_1.length co52] (0, 0) _ rfl (by exact zP BK418.1 (by rfl)) Tryd.underlying31 rfl (by kernel_rfl)) rfl ?_; exact ⟨_, _, by first | rfl | (simp [errW_none, errW_some] <;> rfl) | (simp [*, errW_none, errW_some] <;> rfl), by exact (Kd.R_mono (zFR (g := gb418) (Kd.R_types HO_423002.1 BK418.1 (by decide)) (fun _ hk => hk.2)) (fun _ hk => trivial)), by exact (Kd.R_mono (zFR (g := gb418) (Kd.R_types HO_423003.1 BK418.1 (by decide)) (fun _ hk => hk.2)) (fun _ hk => trivial)), by exact zB2 HB.1 GE418.1 GE422.1⟩
      ·rw [if_neg c48] at H; have c48b0 : (t447.toList == a0.toList) = false := beq_eq_false_iff_ne.mpr c48; have c48b1 : (t447.toList != a0.toList) = true := bne_iff_ne.mpr c48; simp only [Option.some.injEq, Prod.mk.injEq] at H; obtain ⟨rfl, rfl, rfl, rfl, rfl⟩ := H; have hnb58 := NB422_418.1; have hnc58 := NB418_422.1; obtain ⟨hcz59_0, hcz59_1, hcz59_2, hcz59_3, hfz59_0, hfz59_1, hfz59_2, hfz59_3⟩ := zc4f BK422.1; obtain ⟨Ao60, co60, eo60⟩ := Kd.R_slice HO_423002.1; subst eo60; obtain ⟨Ao61, co61, eo61⟩ := Kd.R_slice HO_423003.1; subst eo61
       go_wp2_with (first | ((with_reducible refine gate_callee (f := 23) rfl ?_); refine zgL (some 79) Tryd.func23 #[.agg #[.int .i64 t424, .int .i64 t425, .slice Ao60 x423002_1.length co60, .slice Ao61 x423003_1.length co61]] ?_; (with_reducible refine (impl_PkgOk.calls k1 t424 t425 _ _ x423002_1 _ _ x423003_1 true _ ?side1 ?side2 ?side3 ?side4 A45.1).mono ?_); (case side1 => exact zC (Kd.R_reads' HO_423002.1).2.2); (case side2 => exact (Kd.R_reads' HO_423002.1).2.1); (case side3 => exact zC (Kd.R_reads' HO_423003.1).2.2); (case side4 => exact (Kd.R_reads' HO_423003.1).2.1); rintro e w62 ⟨rfl, hb⟩; refine ⟨_, rfl, ?_⟩; have n0_ := aM (Kd.R_below (zR HO_423002.1) hb); have n1_ := aM (Kd.R_below (zR HO_423003.1) hb); have n2_ := aM (blk_below (zK BK418.1) hb); have mS_ := aM (blk_below (g := ad423.block) (o := .cells CS 9 (0, 0)) (zK BKS.1) hb); have n3_ := aM (blk_below (zK BK422.1) hb); have n4_ := aM (below_step (zB2 HB.1 GE418.1 GE422.1) hb); clear HO_423002 HO_423003 BK418 BKS BK422 HB; have HO_423002 := n0_; have HO_423003 := n1_; have BK418 := n2_; have BKS := mS_; clear mS_; have BK422 := n3_; have HB := n4_; clear n0_ n1_ n2_ n3_ n4_; (try clear hb); (try clear hb2); (try clear hk); (try clear hi); obtain ⟨hcz63_0, hcz63_1, hcz63_2, hcz63_3, hfz63_0, hfz63_1, hfz63_2, hfz63_3⟩ := zc4f BK422.1) | (go_at_call 17; (with_reducible refine (impl_PkgText.calls k1 t424 t425 _ _ x423002_1 _ _ x423003_1 t447 _ ?side1 ?side2 ?side3 ?side4 A47.1).mono ?_); (case side1 => exact zC (Kd.R_reads' HO_423002.1).2.2); (case side2 => exact (Kd.R_reads' HO_423002.1).2.1); (case side3 => exact zC (Kd.R_reads' HO_423003.1).2.2); (case side4 => exact (Kd.R_reads' HO_423003.1).2.1); rintro e w64 ⟨rfl, hb⟩; have n0_ := aM (Kd.R_below (zR HO_423002.1) hb); have n1_ := aM (Kd.R_below (zR HO_423003.1) hb); have n2_ := aM (blk_below (zK BK418.1) hb); have mS_ := aM (blk_below (g := ad423.block) (o := .cells CS 9 (0, 0)) (zK BKS.1) hb); have n3_ := aM (blk_below (zK BK422.1) hb); have n4_ := aM (below_step (zB2 HB.1 GE418.1 GE422.1) hb); clear HO_423002 HO_423003 BK418 BKS BK422 HB; have HO_423002 := n0_; have HO_423003 := n1_; have BK418 := n2_; have BKS := mS_; clear mS_; have BK422 := n3_; have HB := n4_; clear n0_ n1_ n2_ n3_ n4_; (try clear hb); (try clear hb2); (try clear hk); (try clear hi); obtain ⟨hcz65_0, hcz65_1, hcz65_2, hcz65_3, hfz65_0, hfz65_1, hfz65_2, hfz65_3⟩ := zc4f BK418.1))
       refine bodyPost_ret (results_ct rfl _ _ gb418 31 #[.int .i64 0, .int .i64 0, .slice none 0 0, .slice none 0 0] (0, 0) _ rfl (by exact zP BK418.1 (by rfl)) Tryd.underlying31 rfl (by kernel_rfl)) rfl ?_; exact ⟨_, _, by first | rfl | (simp [errW_none, errW_some] <;> rfl) | (simp [*, errW_none, errW_some] <;> rfl), by first | exact Kd.R_nil _ _ _ _ _ | exact Kd.N_nil _ _ _ _ _ | exact Kd.V_nil _ _ _ _ _ | exact Kd.Q_nil _ _ _ _ _ | exact Kd.S_nil _ _ _ _ _, by first | exact Kd.R_nil _ _ _ _ _ | exact Kd.N_nil _ _ _ _ _ | exact Kd.V_nil _ _ _ _ _ | exact Kd.Q_nil _ _ _ _ _ | exact Kd.S_nil _ _ _ _ _, by exact zB2 HB.1 GE418.1 GE422.1⟩
     ·replace c46 := Bool.eq_false_iff.mpr c46; subst c46; replace H := zy0 H; simp only [Option.some.injEq, Prod.mk.injEq] at H; obtain ⟨rfl, rfl, rfl, rfl, rfl⟩ := H; have hnb66 := NB422_418.1; have hnc66 := NB418_422.1; obtain ⟨hcz67_0, hcz67_1, hcz67_2, hcz67_3, hfz67_0, hfz67_1, hfz67_2, hfz67_3⟩ := zc4f BK422.1; obtain ⟨Ao68, co68, eo68⟩ := Kd.R_slice HO_423002.1; subst eo68; obtain ⟨Ao69, co69, eo69⟩ := Kd.R_slice HO_423003.1; subst eo69
      go_wp2_with (first | ((with_reducible refine gate_callee (f := 23) rfl ?_); refine zgL (some 79) Tryd.func23 #[.agg #[.int .i64 t424, .int .i64 t425, .slice Ao68 x423002_1.length co68, .slice Ao69 x423003_1.length co69]] ?_; (with_reducible refine (impl_PkgOk.calls k1 t424 t425 _ _ x423002_1 _ _ x423003_1 false _ ?side1 ?side2 ?side3 ?side4 A45.1).mono ?_); (case side1 => exact zC (Kd.R_reads' HO_423002.1).2.2); (case side2 => exact (Kd.R_reads' HO_423002.1).2.1); (case side3 => exact zC (Kd.R_reads' HO_423003.1).2.2); (case side4 => exact (Kd.R_reads' HO_423003.1).2.1); rintro e w70 ⟨rfl, hb⟩; refine ⟨_, rfl, ?_⟩; have n0_ := aM (Kd.R_below (zR HO_423002.1) hb); have n1_ := aM (Kd.R_below (zR HO_423003.1) hb); have n2_ := aM (blk_below (zK BK418.1) hb); have mS_ := aM (blk_below (g := ad423.block) (o := .cells CS 9 (0, 0)) (zK BKS.1) hb); have n3_ := aM (blk_below (zK BK422.1) hb); have n4_ := aM (below_step (zB2 HB.1 GE418.1 GE422.1) hb); clear HO_423002 HO_423003 BK418 BKS BK422 HB; have HO_423002 := n0_; have HO_423003 := n1_; have BK418 := n2_; have BKS := mS_; clear mS_; have BK422 := n3_; have HB := n4_; clear n0_ n1_ n2_ n3_ n4_; (try clear hb); (try clear hb2); (try clear hk); (try clear hi); obtain ⟨hcz71_0, hcz71_1, hcz71_2, hcz71_3, hfz71_0, hfz71_1, hfz71_2, hfz71_3⟩ := zc4f BK418.1))
      refine bodyPost_ret (results_ct rfl _ _ gb418 31 #[.int .i64 0, .int .i64 0, .slice none 0 0, .slice none 0 0] (0, 0) _ rfl (by exact zP BK418.1 (by rfl)) Tryd.underlying31 rfl (by kernel_rfl)) rfl ?_; exact ⟨_, _, by first | rfl | (simp [errW_none, errW_some] <;> rfl) | (simp [*, errW_none, errW_some] <;> rfl), by first | exact Kd.R_nil _ _ _ _ _ | exact Kd.N_nil _ _ _ _ _ | exact Kd.V_nil _ _ _ _ _ | exact Kd.Q_nil _ _ _ _ _ | exact Kd.S_nil _ _ _ _ _, by first | exact Kd.R_nil _ _ _ _ _ | exact Kd.N_nil _ _ _ _ _ | exact Kd.V_nil _ _ _ _ _ | exact Kd.Q_nil _ _ _ _ _ | exact Kd.S_nil _ _ _ _ _, by exact zB2 HB.1 GE418.1 GE422.1⟩

/-! ### impl_IndexOk: function 38 -/
def ixm1 (l : List S40) (i : Nat) : Bool := inB_ (l.getD i z40).f0 1 4 && (inB_ (l.getD i z40).f1 1 5 && (inB_ (l.getD i z40).f2 0 9972 && (i == 0 || (decide ((l.getD (i - 1) z40).f0 < (l.getD i z40).f0) || (decide ((l.getD (i - 1) z40).f0 = (l.getD i z40).f0) && decide ((l.getD (i - 1) z40).f1 < (l.getD i z40).f1))))))
def ixB (a u : Int) (l : List S40) : Bool := okFrom (ixm1 l) l.length 0 && (inB_ a 1 30 && (inB_ u 0 60 && decide (l.length ≤ 8)))
set_option maxHeartbeats 8000000 in
set_option maxRecDepth 100000 in
theorem ixo_calls (a u : Int) (A2 : Option Addr) (c2 : Nat) (l2 : List S40) (w : World) (hr2 : Kd.C k40 w A2 l2.length l2) :
  Calls Tryd.prog 38 #[.agg #[.int .i64 a, .int .i64 u, .slice A2 l2.length c2]] w fun e w' => e = .returned (.bool (ixB a u l2)) ∧ Below w.heap.size w w' := by
 have HR2 := Aside0.mk hr2
 have HL2 := Aside0.mk hr2.2.1
 clear hr2
 have HE : Aside0 (ixB a u l2 = (okFrom (ixm1 l2) (l2.length - (0 : Int).toNat) (0 : Int).toNat && (inB_ a 1 30 && (inB_ u 0 60 && decide (l2.length ≤ 8))))) := ⟨rfl⟩
 go_enter Tryd.func38, Tryd.ntmps38
 go_wp2
 have n0_ := Aside0.mk (below_alloc (Below.refl w.heap.size w) (Obj.cells #[.int .i64 a, .int .i64 u, .slice A2 l2.length c2] 25))
 have n1_ := Aside0.mk (blk_new w (Obj.cells #[.int .i64 a, .int .i64 u, .slice A2 l2.length c2] 25))
 generalize w.alloc (Obj.cells #[.int .i64 a, .int .i64 u, .slice A2 l2.length c2] 25) = W0 at n0_ n1_ ⊢
 obtain ⟨gb, hgb⟩ : ∃ g, g = w.heap.size := ⟨_, rfl⟩
 rw [← hgb] at n1_ ⊢
 have HB := n0_
 have BK := n1_
 clear n0_ n1_ hgb
 go_loopw [8] (fun v5 w' => ∃ x : Int, 0 ≤ x ∧ x ≤ (l2.length : Int) ∧ v5 = .int .i64 x ∧ Aside0 (ixB a u l2 = (okFrom (ixm1 l2) (l2.length - x.toNat) x.toNat && (inB_ a 1 30 && (inB_ u 0 60 && decide (l2.length ≤ 8))))) ∧ Aside0 (w'.heap[gb]? = some (.cells #[.int .i64 a, .int .i64 u, .slice A2 l2.length c2] 25 (0, 0))) ∧ Aside0 (Below w.heap.size w w')) (fun v5 _ => l2.length - (intOf v5).toNat)
 case atStart => exact ⟨0, by omega, by omega, rfl, HE, BK, HB⟩
 case round =>
  clear HE HB BK
  obtain ⟨x, hx0, hx1, rfl, HE, BK, HB⟩ := hrel
  have HL := HL2.out
  by_cases hlt : x < (l2.length : Int)
  ·obtain ⟨ad, e, m0, m1, m2⟩ := at_T40 HR2.out x hx0 hlt
   cases e
   replace m0 := (HB.out.cell (World.block_lt_of_cell? w _ m0)).trans m0
   replace m1 := (HB.out.cell (World.block_lt_of_cell? w _ m1)).trans m1
   replace m2 := (HB.out.cell (World.block_lt_of_cell? w _ m2)).trans m2
   obtain ⟨F0, hF0⟩ : ∃ F0, F0 = (rd_T40 l2 x).f0 := ⟨_, rfl⟩
   obtain ⟨F1, hF1⟩ : ∃ F1, F1 = (rd_T40 l2 x).f1 := ⟨_, rfl⟩
   obtain ⟨F2, hF2⟩ : ∃ F2, F2 = (rd_T40 l2 x).f2 := ⟨_, rfl⟩
   rw [← hF0] at m0
   rw [← hF1] at m1
   rw [← hF2] at m2
   have HF := Aside0.mk (And.intro hF0 (And.intro hF1 hF2))
   clear hF0 hF1 hF2
   have q1 : decide (x < (l2.length : Int)) = true := decide_eq_true hlt
   have q2 : 0 ≤ x := hx0
   obtain ⟨b1, hb1⟩ : ∃ b, inB_ F0 1 4 = b := ⟨_, rfl⟩
   obtain ⟨b2, hb2⟩ : ∃ b, inB_ F1 1 5 = b := ⟨_, rfl⟩
   obtain ⟨b3, hb3⟩ : ∃ b, inB_ F2 0 9972 = b := ⟨_, rfl⟩
   have C1 := Aside0.mk (fun W => (impl_isName_b W F0 b1 hb1).mono fun _ _ h => And.intro h.1 h.2.symm)
   have C2 := Aside0.mk (fun W => (impl_isVer_b W F1 b2 hb2).mono fun _ _ h => And.intro h.1 h.2.symm)
   have C3 := Aside0.mk (fun W => (impl_in_b W F2 0 9972 b3 hb3).mono fun _ _ h => And.intro h.1 h.2.symm)
   have B1 := Aside0.mk hb1
   have B2 := Aside0.mk hb2
   have B3 := Aside0.mk hb3
   clear hb1 hb2 hb3
   have HN := Aside0.mk (okFrom_at (p := ixm1 l2) hx0 hlt)
   have no : Aside0 (ixm1 l2 x.toNat = false → ixB a u l2 = false) := ⟨fun h_ => by rw [HE.out, HN.out, h_]; rfl⟩
   have yes : Aside0 (ixm1 l2 x.toNat = true → ixB a u l2 = (okFrom (ixm1 l2) (l2.length - (x + 1).toNat) (x + 1).toNat && (inB_ a 1 30 && (inB_ u 0 60 && decide (l2.length ≤ 8))))) := ⟨fun h_ => by rw [HE.out, HN.out, h_]; rfl⟩
   have D : Aside0 (ixm1 l2 x.toNat = (b1 && (b2 && (b3 && (x.toNat == 0 || (decide ((l2.getD (x.toNat - 1) z40).f0 < F0) || (decide ((l2.getD (x.toNat - 1) z40).f0 = F0) && decide ((l2.getD (x.toNat - 1) z40).f1 < F1)))))))) := ⟨by
    unfold ixm1
    rw [← show _ = (l2.getD x.toNat z40).f0 from HF.out.1, ← show _ = (l2.getD x.toNat z40).f1 from HF.out.2.1, ← show _ = (l2.getD x.toNat z40).f2 from HF.out.2.2, B1.out, B2.out, B3.out]⟩
   clear HE HN HF B1 B2 B3
   have HNB := Aside0.mk (show w.heap.size ≤ wr.heap.size from HB.out.size)
   cases b1 with
   | false =>
    go_wp2_with (first | (go_at_call 63; with_reducible refine (C1.out _).mono ?_; rintro e wz ⟨rfl, rfl⟩) | (go_at_call 64; with_reducible refine (C2.out _).mono ?_; rintro e wz ⟨rfl, rfl⟩) | (go_at_call 65; with_reducible refine (C3.out _).mono ?_; rintro e wz ⟨rfl, rfl⟩))
    go_wp2
    go_ret
    rw [no.out (by rw [D.out]; rfl)]
    exact ⟨by first | rfl | simp [*], by repeat (first | exact HB.out | apply pw_below_drewN | apply below_alloc)⟩
   | true =>
    cases b2 with
    | false =>
     go_wp2_with (first | (go_at_call 63; with_reducible refine (C1.out _).mono ?_; rintro e wz ⟨rfl, rfl⟩) | (go_at_call 64; with_reducible refine (C2.out _).mono ?_; rintro e wz ⟨rfl, rfl⟩) | (go_at_call 65; with_reducible refine (C3.out _).mono ?_; rintro e wz ⟨rfl, rfl⟩))
     go_wp2
     go_ret
     rw [no.out (by rw [D.out]; rfl)]
     exact ⟨by first | rfl | simp [*], by repeat (first | exact HB.out | apply pw_below_drewN | apply below_alloc)⟩
    | true =>
     cases b3 with
     | false =>
      go_wp2_with (first | (go_at_call 63; with_reducible refine (C1.out _).mono ?_; rintro e wz ⟨rfl, rfl⟩) | (go_at_call 64; with_reducible refine (C2.out _).mono ?_; rintro e wz ⟨rfl, rfl⟩) | (go_at_call 65; with_reducible refine (C3.out _).mono ?_; rintro e wz ⟨rfl, rfl⟩))
      go_wp2
      go_ret
      rw [no.out (by rw [D.out]; rfl)]
      exact ⟨by first | rfl | simp [*], by repeat (first | exact HB.out | apply pw_below_drewN | apply below_alloc)⟩
     | true =>
      go_wp2_with (first | (go_at_call 63; with_reducible refine (C1.out _).mono ?_; rintro e wz ⟨rfl, rfl⟩) | (go_at_call 64; with_reducible refine (C2.out _).mono ?_; rintro e wz ⟨rfl, rfl⟩) | (go_at_call 65; with_reducible refine (C3.out _).mono ?_; rintro e wz ⟨rfl, rfl⟩))
      have n0_ := Aside0.mk (below_alloc HB.out (Obj.cells #[.int .i64 F0, .int .i64 F1, .int .i64 F2] 40))
      have n1_ := Aside0.mk (blk_alloc BK.out (Obj.cells #[.int .i64 F0, .int .i64 F1, .int .i64 F2] 40))
      have f0 : (wr.alloc (Obj.cells #[.int .i64 F0, .int .i64 F1, .int .i64 F2] 40)).cell? ⟨wr.heap.size, 0, none⟩ = some (.int .i64 F0) := by simp
      have f1 : (wr.alloc (Obj.cells #[.int .i64 F0, .int .i64 F1, .int .i64 F2] 40)).cell? ⟨wr.heap.size, 1, none⟩ = some (.int .i64 F1) := by simp
      clear HB BK m0 m1 m2
      generalize wr.alloc (Obj.cells #[.int .i64 F0, .int .i64 F1, .int .i64 F2] 40) = W at n0_ n1_ f0 f1 ⊢
      generalize wr.heap.size = gf at f0 f1 ⊢
      have HB := n0_
      have BK := n1_
      clear n0_ n1_
      have k2 : W.cell? ⟨gb, 2, none⟩ = some (.slice (some ad) l2.length c2) := (blk_cell BK.out 2).trans rfl
      by_cases hz : x ≤ 0
      ·have hx4 : decide (0 < x) = false := decide_eq_false (by omega)
       have Y := Aside0.mk (yes.out (by rw [D.out, show (x.toNat == 0) = true by rw [beq_iff_eq]; omega]; rfl))
       clear yes no D hz
       go_quiet (fail)
       go_wp2
       go_roundw
       case rel => exact ⟨x + 1, by omega, by omega, by first | rfl | simp, Y, ⟨by (with_reducible repeat (first | refine blk_drewN ?_ _)); exact BK.out⟩, ⟨by repeat (first | exact HB.out | apply pw_below_drewN)⟩⟩
       case measure => simp [intOf]; omega
      ·have g0 : 0 < x := by omega
       clear hz
       obtain ⟨y, hy⟩ : ∃ y, y = x - 1 := ⟨_, rfl⟩
       have hw : IntKind.i64.wrap (x - 1) = y := by rw [i64_w, hy]; unfold wrap64; omega
       obtain ⟨ad2, e2, d0, d1, d2⟩ := at_T40 HR2.out y (by omega) (by omega)
       obtain ⟨G0, hG0⟩ : ∃ G0, G0 = (rd_T40 l2 y).f0 := ⟨_, rfl⟩
       obtain ⟨G1, hG1⟩ : ∃ G1, G1 = (rd_T40 l2 y).f1 := ⟨_, rfl⟩
       rw [← hG0] at d0
       rw [← hG1] at d1
       cases e2
       replace d0 := (HB.out.cell (World.block_lt_of_cell? w _ d0)).trans d0
       replace d1 := (HB.out.cell (World.block_lt_of_cell? w _ d1)).trans d1
       have HG := Aside0.mk (And.intro hG0 hG1)
       clear hG0 hG1 d2
       have hx2 : 0 ≤ y := by omega
       have hx3 : decide (y < (l2.length : Int)) = true := decide_eq_true (by omega)
       have hx4 : decide (0 < x) = true := decide_eq_true g0
       have hx5 : y < (l2.length : Int) := by omega
       have HY := Aside0.mk hy
       clear hy
       have FD : Aside0 (ixm1 l2 x.toNat = (decide (G0 < F0) || (decide (G0 = F0) && decide (G1 < F1)))) := ⟨by
        rw [D.out, show (x.toNat == 0) = false by rw [beq_eq_false_iff_ne]; omega, show x.toNat - 1 = y.toNat by have := HY.out; omega, ← show _ = (l2.getD y.toNat z40).f0 from HG.out.1, ← show _ = (l2.getD y.toNat z40).f1 from HG.out.2]; rfl⟩
       by_cases hc : F0 < G0
       ·have cb : decide (F0 < G0) = true := decide_eq_true hc
        have N := Aside0.mk (no.out (by rw [FD.out, decide_eq_false (show ¬ G0 < F0 by omega), decide_eq_false (show ¬ G0 = F0 by omega)]; rfl))
        clear yes no hc D FD
        go_quiet (fail)
        go_wp2
        go_ret
        rw [N.out]
        exact ⟨by first | rfl | simp [*], by repeat (first | exact HB.out | apply pw_below_drewN | apply below_alloc)⟩
       ·have cb : decide (F0 < G0) = false := decide_eq_false hc
        by_cases hc2 : F0 = G0
        ·have cb2 : (F0 == G0) = true := beq_iff_eq.mpr hc2
         by_cases hc3 : F1 ≤ G1
         ·have cb3 : decide (F1 ≤ G1) = true := decide_eq_true hc3
          have N := Aside0.mk (no.out (by rw [FD.out, decide_eq_false (show ¬ G0 < F0 by omega), decide_eq_false (show ¬ G1 < F1 by omega), Bool.and_false]; rfl))
          clear yes no hc hc2 hc3 D FD
          go_quiet (fail)
          go_wp2
          go_ret
          rw [N.out]
          exact ⟨by first | rfl | simp [*], by repeat (first | exact HB.out | apply pw_below_drewN | apply below_alloc)⟩
         ·have cb3 : decide (F1 ≤ G1) = false := decide_eq_false hc3
          have Y := Aside0.mk (yes.out (by rw [FD.out, decide_eq_true (show G0 = F0 by omega), decide_eq_true (show G1 < F1 by omega), Bool.and_true, Bool.or_true]))
          clear yes no hc hc2 hc3 D FD
          go_quiet (fail)
          go_wp2
          go_roundw
          case rel => exact ⟨x + 1, by omega, by omega, by first | rfl | simp, Y, ⟨by (with_reducible repeat (first | refine blk_drewN ?_ _)); exact BK.out⟩, ⟨by repeat (first | exact HB.out | apply pw_below_drewN)⟩⟩
          case measure => simp [intOf]; omega
        ·have cb2 : (F0 == G0) = false := beq_eq_false_iff_ne.mpr hc2
         have Y := Aside0.mk (yes.out (by rw [FD.out, decide_eq_true (show G0 < F0 by omega)]; rfl))
         clear yes no hc hc2 D FD
         go_quiet (fail)
         go_wp2
         go_roundw
         case rel => exact ⟨x + 1, by omega, by omega, by first | rfl | simp, Y, ⟨by (with_reducible repeat (first | refine blk_drewN ?_ _)); exact BK.out⟩, ⟨by repeat (first | exact HB.out | apply pw_below_drewN)⟩⟩
         case measure => simp [intOf]; omega
  ·have hxe : x = (l2.length : Int) := by omega
   have q1 : decide (x < (l2.length : Int)) = false := decide_eq_false hlt
   have E := Aside0.mk (show ixB a u l2 = (inB_ a 1 30 && (inB_ u 0 60 && decide (l2.length ≤ 8))) by
    rw [HE.out, hxe, Int.toNat_natCast, Nat.sub_self]
    rfl)
   clear hxe HE
   have k0 : wr.cell? ⟨gb, 0, none⟩ = some (.int .i64 a) := (blk_cell BK.out 0).trans rfl
   have k1 : wr.cell? ⟨gb, 1, none⟩ = some (.int .i64 u) := (blk_cell BK.out 1).trans rfl
   have k2 : wr.cell? ⟨gb, 2, none⟩ = some (.slice A2 l2.length c2) := (blk_cell BK.out 2).trans rfl
   obtain ⟨bA, hbA⟩ : ∃ b, inB_ a 1 30 = b := ⟨_, rfl⟩
   obtain ⟨bB, hbB⟩ : ∃ b, inB_ u 0 60 = b := ⟨_, rfl⟩
   have CA := Aside0.mk (fun W => (impl_in_b W a 1 30 bA hbA).mono fun _ _ h => And.intro h.1 h.2.symm)
   have CB := Aside0.mk (fun W => (impl_in_b W u 0 60 bB hbB).mono fun _ _ h => And.intro h.1 h.2.symm)
   rw [hbA, hbB] at E
   clear hbA hbB
   cases bA with
   | false =>
    go_wp2_with (first | (go_at_call 65; with_reducible refine (CA.out _).mono ?_; rintro e wz ⟨rfl, rfl⟩) | (go_at_call 65; with_reducible refine (CB.out _).mono ?_; rintro e wz ⟨rfl, rfl⟩))
    go_ret
    rw [E.out]
    exact ⟨by first | rfl | simp [*], by exact HB.out⟩
   | true =>
    cases bB with
    | false =>
     go_wp2_with (first | (go_at_call 65; with_reducible refine (CA.out _).mono ?_; rintro e wz ⟨rfl, rfl⟩) | (go_at_call 65; with_reducible refine (CB.out _).mono ?_; rintro e wz ⟨rfl, rfl⟩))
     go_ret
     rw [E.out]
     exact ⟨by first | rfl | simp [*], by exact HB.out⟩
    | true =>
     have E2 := Aside0.mk (E.out.trans (show (true && (true && decide (l2.length ≤ 8))) = decide ((l2.length : Int) ≤ 8) by rw [Bool.true_and, Bool.true_and, Bool.eq_iff_iff, decide_eq_true_eq, decide_eq_true_eq]; omega))
     go_wp2_with (first | (go_at_call 65; with_reducible refine (CA.out _).mono ?_; rintro e wz ⟨rfl, rfl⟩) | (go_at_call 65; with_reducible refine (CB.out _).mono ?_; rintro e wz ⟨rfl, rfl⟩))
     go_ret
     rw [E2.out]
     exact ⟨by first | rfl | simp [*], by exact HB.out⟩
def impl_IndexOk.f (_k : Nat) (a u : Int) (l2 : List S40) : Option Bool := some (ixB a u l2)
theorem impl_IndexOk.mono : ∀ a0 a1 a2 k, LeO (impl_IndexOk.f k a0 a1 a2) (impl_IndexOk.f (k + 1) a0 a1 a2) := fun _ _ _ _ _ h => h
theorem impl_IndexOk.calls (k : Nat) (a0_0 : Int) (a0_1 : Int) (A0_2 : Option Addr) (c0_2 : Nat) (l0_2 : List S40) (r : Bool) (w : World) (hr0_2 : Kd.C k40 w A0_2 l0_2.length l0_2) (hc0_2 : l0_2.length ≤ c0_2) (h : impl_IndexOk.f k a0_0 a0_1 l0_2 = some r) :
  Calls Tryd.prog 38 #[.agg #[.int .i64 a0_0, .int .i64 a0_1, .slice A0_2 l0_2.length c0_2]] w fun e w' => e = .returned (.bool r) ∧ Below w.heap.size w w' := by
 obtain rfl := Option.some.inj h; exact ixo_calls a0_0 a0_1 A0_2 c0_2 l0_2 w hr0_2

/-! ### impl_Meta_84: function 84 -/
def impl_Meta_84.l0 : Nat → List (S40) → Int → Int → Int → Int → Int → Option (Int)
 | 0, _, _, _, _, _, _ => none
 | k + 1, x0, x7, x8, x449000, x449001, x449002 => if x8 < x7 then (if 0 ≤ x8 then (if x8 < (x0.length : Int) then (if (x449000 == ((rd_T40 x0 x8).f0) && (x449001 == ((rd_T40 x0 x8).f1) && (x449002 == ((rd_T40 x0 x8).f2)))) = true then (some x8) else (impl_Meta_84.l0 k x0 x7 (wrap64 (x8 + 1)) x449000 x449001 x449002)) else (none)) else (none)) else (some (-1))
def impl_Meta_84.f (k : Nat) (l0 : List (S40)) (a1_0 : Int) (a1_1 : Int) (a1_2 : Int) : Option (Int) := impl_Meta_84.l0 k l0 (l0.length : Int) 0 a1_0 a1_1 a1_2
theorem impl_Meta_84.mono_l : ∀ k, (∀ y0 y1 y2 y3 y4 y5, LeO (impl_Meta_84.l0 k y0 y1 y2 y3 y4 y5) (impl_Meta_84.l0 (k + 1) y0 y1 y2 y3 y4 y5))
 | 0 => fun _ _ _ _ _ _ r h => by simp [impl_Meta_84.l0] at h
 | k + 1 => by
  have ih0 := impl_Meta_84.mono_l k
  ·intro y0 y1 y2 y3 y4 y5
   unfold impl_Meta_84.l0
   repeat' first
   | (with_reducible exact ih0 _ _ _ _ _ _)
   | (with_reducible exact LeO.refl _)
   | (with_reducible exact LeO.none _)
   | (with_reducible refine LeO.ite ?_ ?_)
   | (with_reducible refine LeO.bind ?_ (fun _ => ?_))
   | exact ih0 _ _ _ _ _ _
   | exact LeO.none _
   | refine LeO.ite ?_ ?_
   | refine LeO.bind ?_ (fun _ => ?_)
theorem impl_Meta_84.mono : ∀ a0 a1 a2 a3 k, LeO (impl_Meta_84.f k a0 a1 a2 a3) (impl_Meta_84.f (k + 1) a0 a1 a2 a3) := by
 intro a0 a1 a2 a3 k
 have ih0 := impl_Meta_84.mono_l k
 unfold impl_Meta_84.f
 repeat' with_reducible first | apply ih0 | exact LeO.refl _ | exact LeO.none _ | refine LeO.ite ?_ ?_ | refine LeO.bind ?_ (fun _ => ?_)
set_option maxHeartbeats 8000000 in
set_option maxRecDepth 100000 in
theorem impl_Meta_84.calls (k : Nat) (A0 : Option Addr) (c0 : Nat) (l0 : List (S40)) (a1_0 : Int) (a1_1 : Int) (a1_2 : Int) (r : Int) (w : World) (hr0 : Kd.C k40 w A0 l0.length l0) (hc0 : l0.length ≤ c0) (h : impl_Meta_84.f k l0 a1_0 a1_1 a1_2 = some r) :
  Calls Tryd.prog 84 #[.slice A0 l0.length c0, .agg #[.int .i64 a1_0, .int .i64 a1_1, .int .i64 a1_2]] w fun e w' => e = .returned (.int .i64 r) ∧ Below w.heap.size w w' := by
 have hu40 := Tryd.underlying40; have HR0 := aM hr0; have HC0 := aM hc0; clear hr0 hc0; have HB := aM (Below.refl w.heap.size w); have H : (impl_Meta_84.l0 k l0 (l0.length : Int) 0 a1_0 a1_1 a1_2) = some r := h; clear h; have H' := aM H; clear H
 go_enter Tryd.func84, Tryd.ntmps84
 go_wp2_with (first | ((with_reducible refine gate_dst (N := 3) rfl ?_); refine zbx 3 #[.int .i64 a1_0, .int .i64 a1_1, .int .i64 a1_2] 40 ?_; intro gb448 hg w3 hbox hb; have _ := aM (below_step (zB HB.1) hb); have _ := aM (hbox); have _ := aM (zge hg (zB HB.1)); have _ := aM (zge hg (zB HB.1)); clear HB; rename_i HB BK448 GW448 GE448; clear hb hbox hg))
 repeat (go_quiet (fail); try go_wp2_with (first | ((with_reducible refine gate_dst (N := 3) rfl ?_); refine zbx 3 #[.int .i64 a1_0, .int .i64 a1_1, .int .i64 a1_2] 40 ?_; intro gb448 hg w3 hbox hb; have _ := aM (below_step (zB HB.1) hb); have _ := aM (hbox); have _ := aM (zge hg (zB HB.1)); have _ := aM (zge hg (zB HB.1)); clear HB; rename_i HB BK448 GW448 GE448; clear hb hbox hg)))
 go_loopg [8] k (fun kq v8 w' => ∃ (x8_1 : Int), v8 = .int .i64 x8_1 ∧ Aside0 (impl_Meta_84.l0 kq l0 (l0.length : Int) x8_1 a1_0 a1_1 a1_2 = some r) ∧ Aside0 (kq ≤ k) ∧ Aside0 (w'.heap[gb448]? = some (.cells #[.int .i64 a1_0, .int .i64 a1_1, .int .i64 a1_2] 40 (0, 0))) ∧ Aside0 (Below w.heap.size w w'))
 case atStart => exact ⟨(0), (by first | rfl | (simp; done) | (simp [*]; done)), H', ⟨Nat.le_refl _⟩, ⟨zK BK448.1⟩, ⟨zB1 HB.1 GE448.1⟩⟩
 case round =>
  clear H'
  try clear p2
  obtain ⟨x8_1, rfl, HA, HK1, BK448, HB⟩ := hrel; cases gk with
  | zero => exact absurd HA.1 (by simp [impl_Meta_84.l0])
  | succ k1 =>
   have H := HA.1; clear HA; simp only [impl_Meta_84.l0] at H
   by_cases c4 : x8_1 < (l0.length : Int)
   ·rw [if_pos c4] at H; have c4b0 : decide (x8_1 < (l0.length : Int)) = true := decide_eq_true c4; clear c4; replace H := zif H; obtain ⟨c5, H⟩ := H; have c5b0 : decide (0 ≤ x8_1) = true := decide_eq_true c5; clear c5; replace H := zif H; obtain ⟨c6, H⟩ := H; have c6b0 : decide (x8_1 < (l0.length : Int)) = true := decide_eq_true c6; clear c6
    by_cases c7 : (a1_0 == ((rd_T40 l0 x8_1).f0) && (a1_1 == ((rd_T40 l0 x8_1).f1) && (a1_2 == ((rd_T40 l0 x8_1).f2)))) = true
    ·rw [if_pos c7] at H; have c7b0 : (a1_0 == ((rd_T40 l0 x8_1).f0) && (a1_1 == ((rd_T40 l0 x8_1).f1) && (a1_2 == ((rd_T40 l0 x8_1).f2)))) = true := c7
     obtain ⟨c7z0, c7z1, c7z2⟩ : (a1_0 = (rd_T40 l0 x8_1).f0) = True ∧ (a1_1 = (rd_T40 l0 x8_1).f1) = True ∧ (a1_2 = (rd_T40 l0 x8_1).f2) = True := by simpa using c7
     (try (have c7b1 : decide (a1_0 = ((rd_T40 l0 x8_1).f0) && (a1_1 == ((rd_T40 l0 x8_1).f1) && (a1_2 == ((rd_T40 l0 x8_1).f2)))) = true := by simpa using c7)); (try (have c7b2 : (a1_0 == ((rd_T40 l0 x8_1).f0) && (a1_1 == ((rd_T40 l0 x8_1).f1) && (a1_2 == ((rd_T40 l0 x8_1).f2)))) = true := by simpa using c7)); clear c7; obtain rfl := Option.some.inj H; obtain ⟨hcz8_0, hcz8_1, hcz8_2, hfz8_0, hfz8_1, hfz8_2⟩ := zc3f BK448.1; have p449 : 0 ≤ (x8_1 : Int) := zd; have q449 : x8_1 < (l0.length : Int) := zd; obtain ⟨ad449, e449, hx449_0, hx449_1, hx449_2⟩ := at_T40 HR0.1 x8_1 p449 q449; cases e449; replace hx449_0 := (HB.1.cell (World.block_lt_of_cell? w _ hx449_0)).trans hx449_0; replace hx449_1 := (HB.1.cell (World.block_lt_of_cell? w _ hx449_1)).trans hx449_1; replace hx449_2 := (HB.1.cell (World.block_lt_of_cell? w _ hx449_2)).trans hx449_2; replace p449 := eq_true p449; replace q449 := eq_true q449
     go_wp2
     repeat (go_quiet (fail); try go_wp2)
     go_ret
     exact ⟨by first | rfl | (simp [errW_none, errW_some] <;> rfl) | (simp [*, errW_none, errW_some] <;> rfl), by exact zB1 HB.1 GE448.1⟩
    ·rw [if_neg c7] at H
     have c7z : ∀ (α : Type) (X Y : α), (if a1_0 = (rd_T40 l0 x8_1).f0 then (if a1_1 = (rd_T40 l0 x8_1).f1 then (if a1_2 = (rd_T40 l0 x8_1).f2 then X else Y) else Y) else Y) = Y := by intro α X Y; (repeat' split) <;> first | rfl | (exfalso; simp_all)
     have c7b0 : (a1_0 == ((rd_T40 l0 x8_1).f0) && (a1_1 == ((rd_T40 l0 x8_1).f1) && (a1_2 == ((rd_T40 l0 x8_1).f2)))) = false := by simpa using c7
     (try (have c7b1 : decide (a1_0 = ((rd_T40 l0 x8_1).f0) && (a1_1 == ((rd_T40 l0 x8_1).f1) && (a1_2 == ((rd_T40 l0 x8_1).f2)))) = false := by simpa using c7)); (try (have c7b2 : (a1_0 == ((rd_T40 l0 x8_1).f0) && (a1_1 == ((rd_T40 l0 x8_1).f1) && (a1_2 == ((rd_T40 l0 x8_1).f2)))) = false := by simpa using c7)); (try (have c7b3 : ¬ (a1_0 = ((rd_T40 l0 x8_1).f0) && (a1_1 == ((rd_T40 l0 x8_1).f1) && (a1_2 == ((rd_T40 l0 x8_1).f2)))) := by simpa using c7)); clear c7; have H' := aM H; clear H; obtain ⟨hcz9_0, hcz9_1, hcz9_2, hfz9_0, hfz9_1, hfz9_2⟩ := zc3f BK448.1; have p449 : 0 ≤ (x8_1 : Int) := zd; have q449 : x8_1 < (l0.length : Int) := zd; obtain ⟨ad449, e449, hx449_0, hx449_1, hx449_2⟩ := at_T40 HR0.1 x8_1 p449 q449; cases e449; replace hx449_0 := (HB.1.cell (World.block_lt_of_cell? w _ hx449_0)).trans hx449_0; replace hx449_1 := (HB.1.cell (World.block_lt_of_cell? w _ hx449_1)).trans hx449_1; replace hx449_2 := (HB.1.cell (World.block_lt_of_cell? w _ hx449_2)).trans hx449_2; replace p449 := eq_true p449; replace q449 := eq_true q449
     go_wp2
     repeat (go_quiet (fail); try go_wp2)
     go_roundg k1
     case measure => have := HK1.1; omega
     case rel => exact ⟨(wrap64 (x8_1 + 1)), (by first | rfl | (simp; done) | (simp [*]; done)), H', ⟨by have := HK1.1; omega⟩, ⟨zK BK448.1⟩, ⟨zB1 HB.1 GE448.1⟩⟩
   ·rw [if_neg c4] at H; have c4b0 : decide (x8_1 < (l0.length : Int)) = false := decide_eq_false c4; clear c4; obtain rfl := Option.some.inj H
    go_wp2
    repeat (go_quiet (fail); try go_wp2)
    go_ret
    exact ⟨by first | rfl | (simp [errW_none, errW_some] <;> rfl) | (simp [*, errW_none, errW_some] <;> rfl), by exact zB1 HB.1 GE448.1⟩

/-! ### impl_Meta_48: function 48 -/
def impl_Meta_48.f (k : Nat) (l0 : List (S40)) (a1_0 : Int) (a1_1 : Int) (a1_2 : Int) : Option (Bool) := (impl_Meta_84.f k l0 a1_0 a1_1 a1_2).bind fun t451 => (some (decide (t451 ≥ 0)))
theorem impl_Meta_48.mono : ∀ a0 a1 a2 a3 k, LeO (impl_Meta_48.f k a0 a1 a2 a3) (impl_Meta_48.f (k + 1) a0 a1 a2 a3) := by
 intro a0 a1 a2 a3 k
 unfold impl_Meta_48.f
 repeat' with_reducible first | apply impl_Meta_84.mono | exact LeO.refl _ | exact LeO.none _ | refine LeO.ite ?_ ?_ | refine LeO.bind ?_ (fun _ => ?_)
set_option maxHeartbeats 8000000 in
set_option maxRecDepth 100000 in
theorem impl_Meta_48.calls (k : Nat) (A0 : Option Addr) (c0 : Nat) (l0 : List (S40)) (a1_0 : Int) (a1_1 : Int) (a1_2 : Int) (r : Bool) (w : World) (hr0 : Kd.C k40 w A0 l0.length l0) (hc0 : l0.length ≤ c0) (h : impl_Meta_48.f k l0 a1_0 a1_1 a1_2 = some r) :
  Calls Tryd.prog 48 #[.slice A0 l0.length c0, .agg #[.int .i64 a1_0, .int .i64 a1_1, .int .i64 a1_2]] w fun e w' => e = .returned (.bool r) ∧ Below w.heap.size w w' := by
 have hu40 := Tryd.underlying40; have HR0 := aM hr0; have HC0 := aM hc0; clear hr0 hc0; have HB := aM (Below.refl w.heap.size w); have H : ((impl_Meta_84.f k l0 a1_0 a1_1 a1_2).bind fun t451 => (some (decide (t451 ≥ 0)))) = some r := h; clear h; replace H := Option.bind_eq_some_iff.mp H; obtain ⟨t451, A30, H⟩ := H; (try dsimp only at H); have A3 := aM A30; clear A30; obtain rfl := Option.some.inj H
 go_enter Tryd.func48, Tryd.ntmps48
 go_wp2_with (first | ((with_reducible refine gate_dst (N := 3) rfl ?_); refine zbx 3 #[.int .i64 a1_0, .int .i64 a1_1, .int .i64 a1_2] 40 ?_; intro gb450 hg w4 hbox hb; have _ := aM (below_step (zB HB.1) hb); have _ := aM (hbox); have _ := aM (zge hg (zB HB.1)); have _ := aM (zge hg (zB HB.1)); clear HB; rename_i HB BK450 GW450 GE450; clear hb hbox hg; obtain ⟨hcz5_0, hcz5_1, hcz5_2, hfz5_0, hfz5_1, hfz5_2⟩ := zc3f BK450.1) | ((with_reducible refine gate_callee (f := 84) rfl ?_); refine zgL (some 7) Tryd.func84 #[.slice A0 l0.length c0, .agg #[.int .i64 a1_0, .int .i64 a1_1, .int .i64 a1_2]] ?_; (with_reducible refine (impl_Meta_84.calls k _ _ l0 a1_0 a1_1 a1_2 t451 _ ?side1 ?side2 A3.1).mono ?_); (case side1 => exact zC (Kd.C_below HR0.1 HB.1)); (case side2 => exact HC0.1); rintro e w6 ⟨rfl, hb⟩; refine ⟨_, rfl, ?_⟩; have _ := aM (blk_below (zK BK450.1) hb); have _ := aM (below_step (zB1 HB.1 GE450.1) hb); clear BK450 HB; rename_i BK450 HB; (try clear hb); (try clear hb2); (try clear hk); (try clear hi)))
 go_ret
 exact ⟨by first | rfl | (simp [errW_none, errW_some] <;> rfl) | (simp [*, errW_none, errW_some] <;> rfl), by exact zB1 HB.1 GE450.1⟩

/-! ### impl_SumOf: function 20 -/
def impl_SumOf.l0 : Nat → ByteArray → Int → Int → Option (Int)
 | 0, _, _, _ => none
 | k + 1, x0, x3, x4 => if x4 < (x0.size : Int) then (if 0 ≤ x4 then (impl_SumOf.l0 k x0 (Int.tmod (wrap64 ((wrap64 ((wrap64 (31 * x3)) + (wrap64 (bt x0 x4)))) + 1)) 9973) (wrap64 (x4 + 1))) else (none)) else (some x3)
def impl_SumOf.f (k : Nat) (a0 : ByteArray) : Option (Int) := impl_SumOf.l0 k a0 7 0
theorem impl_SumOf.mono_l : ∀ k, (∀ y0 y1 y2, LeO (impl_SumOf.l0 k y0 y1 y2) (impl_SumOf.l0 (k + 1) y0 y1 y2))
 | 0 => fun _ _ _ r h => by simp [impl_SumOf.l0] at h
 | k + 1 => by
  have ih0 := impl_SumOf.mono_l k
  ·intro y0 y1 y2
   unfold impl_SumOf.l0
   repeat' first
   | (with_reducible exact ih0 _ _ _)
   | (with_reducible exact LeO.refl _)
   | (with_reducible exact LeO.none _)
   | (with_reducible refine LeO.ite ?_ ?_)
theorem impl_SumOf.mono : ∀ a0 k, LeO (impl_SumOf.f k a0) (impl_SumOf.f (k + 1) a0) := by
 intro a0 k
 unfold impl_SumOf.f
 exact impl_SumOf.mono_l k _ _ _
theorem sum_world (w : World) (e : TypeId) (s : ByteArray) : Below w.heap.size w (Lib.bytesWorld w e s) :=
 ⟨rfl, rfl, rfl, by rw [Lib.bytesWorld_size]; omega, fun i hi => Lib.bytesWorld_at_old w e s i hi⟩
theorem sum_cell (w : World) (e : TypeId) (s : ByteArray) (j : Nat) (hj : j < s.size) : (Lib.bytesWorld w e s).cell? ⟨w.heap.size, j, none⟩ = some (.int .u8 (bt s (j : Int))) := by
 rw [Lib.bytesWorld_cell w e s j hj]
 have e1 : s.data.toList.getD j 0 = s[j] := by
  simp only [List.getD, Array.getElem?_toList]
  have : j < s.data.size := hj
  rw [Array.getElem?_eq_getElem this]; rfl
 rw [e1, bt, dif_pos (by simpa using hj)]; rfl
set_option maxHeartbeats 8000000 in
set_option maxRecDepth 100000 in
theorem impl_SumOf.calls (k : Nat) (a0 : ByteArray) (r : Int) (w : World) (h : impl_SumOf.f k a0 = some r) :
  Calls Tryd.prog 20 #[.string a0] w fun e w' => e = .returned (.int .i64 r) ∧ Below w.heap.size w w' := by
 have H : (impl_SumOf.l0 k a0 7 0) = some r := h; clear h; have H' := aM H; clear H; obtain ⟨W, hW⟩ : ∃ W, W = Lib.bytesWorld w 5 a0 := ⟨_, rfl⟩; have hrun := Lib.run_convert_string_bytes (P := Tryd.prog) w 9 22 5 a0 Tryd.underlying9 Tryd.underlying22 Tryd.underlying5; have HB := aM (sum_world w 5 a0)
 have HC := aM (fun (x : Int) (h0 : 0 ≤ x) (h1 : x < (a0.size : Int)) => (show (Lib.bytesWorld w 5 a0).cell? ⟨w.heap.size, x.toNat, none⟩ = some (.int .u8 (bt a0 x)) by
  rw [sum_cell w 5 a0 x.toNat (by omega), Int.toNat_of_nonneg h0]))
 rw [← hW] at hrun HB HC; clear hW
 go_enter Tryd.func20, Tryd.ntmps20
 go_wp2
 go_loopg [3, 9] k (fun kq v3 v9 w' => ∃ (x3_1 : Int) (x4_1 : Int), v3 = .int .i64 x3_1 ∧ v9 = .int .i64 x4_1 ∧ Aside0 (impl_SumOf.l0 kq a0 x3_1 x4_1 = some r) ∧ Aside0 (kq ≤ k) ∧ Drawn0 W w')
 case atStart => exact ⟨(7), (0), (by first | rfl | (simp; done) | (simp [*]; done)), (by first | rfl | (simp; done) | (simp [*]; done)), H', ⟨Nat.le_refl _⟩, by repeat (first | exact Drawn0.refl _ | apply Drawn0.step)⟩
 case round =>
  clear H'; obtain ⟨x3_1, x4_1, rfl, rfl, HA, HK1, ⟨m1, rfl⟩⟩ := hrel; cases gk with
  | zero => exact absurd HA.1 (by simp [impl_SumOf.l0])
  | succ k1 =>
   have H := HA.1; clear HA; simp only [impl_SumOf.l0] at H
   by_cases c2 : x4_1 < (a0.size : Int)
   ·rw [if_pos c2] at H; replace H := zif H; obtain ⟨c3, H⟩ := H; have H' := aM H; clear H; have hx4 := HC.1 x4_1 c3 c2; have c2b0 : decide (x4_1 < (a0.size : Int)) = true := decide_eq_true c2; have c3b0 : decide (0 ≤ x4_1) = true := decide_eq_true c3; have q4 : x4_1 < (a0.size : Int) := c2; replace c3 := eq_true c3; replace q4 := eq_true q4; clear c2
    go_wp2
    go_roundg k1
    case measure => have := HK1.1; omega
    case rel => exact ⟨(Int.tmod (wrap64 ((wrap64 ((wrap64 (31 * x3_1)) + (wrap64 (bt a0 x4_1)))) + 1)) 9973), (wrap64 (x4_1 + 1)), (by first | rfl | (simp; done) | (simp [*]; done)), (by first | rfl | (simp; done) | (simp [*]; done)), H', ⟨by have := HK1.1; omega⟩, by repeat (first | exact Drawn0.refl _ | apply Drawn0.step)⟩
   ·rw [if_neg c2] at H; have c2b0 : decide (x4_1 < (a0.size : Int)) = false := decide_eq_false c2; clear c2; obtain rfl := Option.some.inj H
    go_wp2
    go_ret
    exact ⟨by first | rfl | (simp; done) | (simp [*]; done), pw_below_drewN HB.1 _⟩

/-! ### impl_metaOf: function 49 -/
def impl_metaOf.f (k : Nat) (a0_0 : Int) (a0_1 : Int) (l0_2 : List (S67)) (l0_3 : List (S69)) : Option (Int × Int × Int) := (impl_PkgText.f k a0_0 a0_1 l0_2 l0_3).bind fun t454 => ((impl_SumOf.f k t454).bind fun t455 => (some (a0_0, a0_1, t455)))
theorem impl_metaOf.mono : ∀ a0 a1 a2 a3 k, LeO (impl_metaOf.f k a0 a1 a2 a3) (impl_metaOf.f (k + 1) a0 a1 a2 a3) := by
 intro a0 a1 a2 a3 k
 unfold impl_metaOf.f
 repeat' with_reducible first | apply impl_PkgText.mono | apply impl_SumOf.mono | exact LeO.refl _ | exact LeO.none _ | refine LeO.ite ?_ ?_ | refine LeO.bind ?_ (fun _ => ?_)
def impl_metaOf.T1 : Bool × List (List Nat × List Nat) := (true, [([], []), ([0], [0]), ([], []), ([2], [2]), ([], []), ([4], [4]), ([5, 5], [5]), ([1, 3, 6], [1, 3, 6]), ([7, 6, 0, 1, 2, 3, 4, 5, 6, 7], [7])])
def impl_metaOf.B1 : List Nat := [0, 1, 0, 4, 0, 16, 48, 127, 255]
theorem impl_metaOf.tab1 : rtab .any (opsOf Tryd.f49 1) = impl_metaOf.T1 := by kernel_rfl
theorem impl_metaOf.bits1 : waitsOk impl_metaOf.T1.2 impl_metaOf.B1 = true := by kernel_rfl
set_option maxHeartbeats 8000000 in
set_option maxRecDepth 100000 in
theorem impl_metaOf.calls (k : Nat) (a0_0 : Int) (a0_1 : Int) (A0_2 : Option Addr) (c0_2 : Nat) (l0_2 : List (S67)) (A0_3 : Option Addr) (c0_3 : Nat) (l0_3 : List (S69)) (r1 : Int) (r2 : Int) (r3 : Int) (w : World) (hr0_2 : Kd.C k67 w A0_2 l0_2.length l0_2) (hc0_2 : l0_2.length ≤ c0_2) (hr0_3 : Kd.C k69 w A0_3 l0_3.length l0_3) (hc0_3 : l0_3.length ≤ c0_3) (h : impl_metaOf.f k a0_0 a0_1 l0_2 l0_3 = some (r1, r2, r3)) :
  Calls Tryd.prog 49 #[.agg #[.int .i64 a0_0, .int .i64 a0_1, .slice A0_2 l0_2.length c0_2, .slice A0_3 l0_3.length c0_3]] w fun e w' => e = .returned (.agg #[.int .i64 r1, .int .i64 r2, .int .i64 r3]) ∧ Below w.heap.size w w' := by
 have hu31 := Tryd.underlying31; have hu40 := Tryd.underlying40; have HR0_2 := aM hr0_2; have HC0_2 := aM hc0_2; clear hr0_2 hc0_2; have HR0_3 := aM hr0_3; have HC0_3 := aM hc0_3; clear hr0_3 hc0_3; have HB := aM (Below.refl w.heap.size w); have H : ((impl_PkgText.f k a0_0 a0_1 l0_2 l0_3).bind fun t454 => ((impl_SumOf.f k t454).bind fun t455 => (some (a0_0, a0_1, t455)))) = some (r1, r2, r3) := h; clear h; replace H := Option.bind_eq_some_iff.mp H; obtain ⟨t454, A20, H⟩ := H; (try dsimp only at H); have A2 := aM A20; clear A20; replace H := Option.bind_eq_some_iff.mp H; obtain ⟨t455, A30, H⟩ := H; (try dsimp only at H); have A3 := aM A30; clear A30; simp only [Option.some.injEq, Prod.mk.injEq] at H; obtain ⟨rfl, rfl, rfl⟩ := H
 go_enter Tryd.func49, Tryd.ntmps49
 try go_wp2_with (first | ((with_reducible refine gate_dst (N := 1) rfl ?_); refine zbx 1 #[.int .i64 a0_0, .int .i64 a0_1, .slice A0_2 l0_2.length c0_2, .slice A0_3 l0_3.length c0_3] 31 ?_; intro gb452 hg w4 hbox hb; have _ := aM (below_step (zB HB.1) hb); have _ := aM (hbox); have _ := aM (zge hg (zB HB.1)); have _ := aM (zge hg (zB HB.1)); clear HB; rename_i HB BK452 GW452 GE452; clear hb hbox hg) | ((with_reducible refine gate_dst (N := 2) rfl ?_); refine zbx 2 #[.int .i64 0, .int .i64 0, .int .i64 0] 40 ?_; intro gb453 hg w5 hbox hb; have _ := aM (blk_below (zK BK452.1) hb); have _ := aM (below_step (zB1 HB.1 GE452.1) hb); have _ := aM (hbox); have _ := aM (zge hg (zB1 HB.1 GE452.1)); have _ := aM (zge hg (zB1 HB.1 GE452.1)); have _ := aM (znl hg (zK BK452.1)); have _ := aM (zng hg (zK BK452.1)); clear BK452 HB; rename_i BK452 HB BK453 GW453 GE453 NB452_453 NB453_452; clear hb hbox hg))
 have _ := aM (blk_drew BK452.1); have _ := aM (blk_drew BK453.1); have _ := aM (below_drew1 HB.1); clear BK452 BK453 HB; rename_i BK452 BK453 HB
 refine start_ (n := 9) (S := fun w' => w'.cell? ⟨gb452, 0, none⟩ = some (.int .i64 a0_0) ∧ w'.cell? ⟨gb452, 1, none⟩ = some (.int .i64 a0_1) ∧ w'.cell? ⟨gb452, 2, none⟩ = some (.slice A0_2 l0_2.length c0_2) ∧ w'.cell? ⟨gb452, 3, none⟩ = some (.slice A0_3 l0_3.length c0_3)) (ds := []) (zA 9 0) (by kernel_rfl) rfl rfl ⟨(blk_cell BK452.1 0).trans rfl, (blk_cell BK452.1 1).trans rfl, (blk_cell BK452.1 2).trans rfl, (blk_cell BK452.1 3).trans rfl⟩ (fun hHeld => ?_); refine with_tabW impl_metaOf.tab1 impl_metaOf.bits1 (fun HT_ HW_ => ?_)
 generalize w5.drew = w6 at BK452 BK453 HB hHeld ⊢; refine zu HT_ 0 (some 3) (zA 9 1) ?_; refine zu HT_ 2 (some 5) (zA 9 5) ?_; refine take_ (i := 1) (N := some 4) (v := ?_) (a' := ?_) (zA 9 7) rfl rfl (take_ofW HT_.1 HW_.1 (by kernel_rfl)) (fun _ _ _ h => h) (Or.inl ⟨by rfl, ?_⟩) hHeld ?_ ?_; rotate_left
 ·rintro w' ⟨s0, s1, s2, s3⟩
  go_simp
  (with_reducible rfl)
 rotate_left
 ·simp only [zp0, zp1, zp2, zp3, zp4, i64_w, i32_w]; rfl
 refine take_ (i := 3) (N := some 6) (v := ?_) (a' := ?_) (zA 9 15) rfl rfl (take_ofW HT_.1 HW_.1 (by kernel_rfl)) (fun _ _ _ h => h) (Or.inl ⟨by rfl, ?_⟩) hHeld ?_ ?_; rotate_left
 ·rintro w' ⟨s0, s1, s2, s3⟩
  go_simp
  (with_reducible rfl)
 rotate_left
 ·simp only [zp0, zp1, zp2, zp3, zp4, i64_w, i32_w]; rfl
 refine take_ (i := 4) (N := some 7) (v := ?_) (a' := ?_) (zA 9 31) rfl rfl (take_ofW HT_.1 HW_.1 (by kernel_rfl)) (fun _ _ _ h => h) (Or.inl ⟨by rfl, ?_⟩) hHeld ?_ ?_; rotate_left
 ·rintro w' ⟨s0, s1, s2, s3⟩
  go_simp
  (with_reducible rfl)
 rotate_left
 ·simp only [zp0, zp1, zp2, zp3, zp4, i64_w, i32_w]; rfl
 refine zo HT_ 5 (some 8) (zA 9 63) (fun K hK => ?_); refine zg Tryd.func17 #[.agg #[.int .i64 a0_0, .int .i64 a0_1, .slice A0_2 l0_2.length c0_2, .slice A0_3 l0_3.length c0_3]] ?_; (with_reducible refine (impl_PkgText.calls k a0_0 a0_1 _ _ l0_2 _ _ l0_3 t454 _ ?side1 ?side2 ?side3 ?side4 A2.1).mono ?_); (case side1 => exact zC (Kd.C_below HR0_2.1 HB.1)); (case side2 => exact HC0_2.1); (case side3 => exact zC (Kd.C_below HR0_3.1 HB.1)); (case side4 => exact HC0_3.1); rintro e w7 ⟨rfl, hb⟩; refine ⟨_, rfl, ?_⟩; have _ := aM (blk_below (zK BK452.1) hb); have _ := aM (blk_below (zK BK453.1) hb); have _ := aM (below_step (zB2 HB.1 GE452.1 GE453.1) hb); clear BK452 BK453 HB; rename_i BK452 BK453 HB; (try clear hb); (try clear hb2); (try clear hk); (try clear hi); refine hK.out _ _ ⟨(blk_cell BK452.1 0).trans rfl, (blk_cell BK452.1 1).trans rfl, (blk_cell BK452.1 2).trans rfl, (blk_cell BK452.1 3).trans rfl⟩ (fun hHeld => ?_); clear hK K; refine zn (some 8) ?_; refine zo HT_ 6 (some 9) (zA 9 127) (fun K hK => ?_); refine zg Tryd.func20 #[.string t454] ?_; (with_reducible refine (impl_SumOf.calls k t454 t455 _ A3.1).mono ?_); rintro e w8 ⟨rfl, hb⟩; refine ⟨_, rfl, ?_⟩; have _ := aM (blk_below (zK BK452.1) hb); have _ := aM (blk_below (zK BK453.1) hb); have _ := aM (below_step (zB2 HB.1 GE452.1 GE453.1) hb); clear BK452 BK453 HB; rename_i BK452 BK453 HB; (try clear hb); (try clear hb2); (try clear hk); (try clear hi); refine hK.out _ _ ⟨(blk_cell BK452.1 0).trans rfl, (blk_cell BK452.1 1).trans rfl, (blk_cell BK452.1 2).trans rfl, (blk_cell BK452.1 3).trans rfl⟩ (fun hHeld => ?_); clear hK K; refine zn (some 9) ?_; refine zu HT_ 7 (some 10) (zA 9 255) ?_; refine zo HT_ 8 none (zA 9 511) (fun K hK => ?_); have hs9 : w8.cell? ⟨gb453, 0, none⟩ = some (.int .i64 0) := (blk_cell BK453.1 0).trans rfl; have hfs9 := blk_frozen BK453.1 0; have hns9_0 := NB452_453.1; have hms9_0 := NB453_452.1; have hs10 : w8.cell? ⟨gb453, 1, none⟩ = some (.int .i64 0) := (blk_cell BK453.1 1).trans rfl; have hfs10 := blk_frozen BK453.1 1; have hns10_0 := NB452_453.1; have hms10_0 := NB453_452.1; have hs11 : w8.cell? ⟨gb453, 2, none⟩ = some (.int .i64 0) := (blk_cell BK453.1 2).trans rfl; have hfs11 := blk_frozen BK453.1 2; have hns11_0 := NB452_453.1; have hms11_0 := NB453_452.1; refine skip_ (w1 := ?_) (by rfl) rfl ?_ ?_; rotate_left
 ·go_simp
  rfl
 refine hK.out _ _ ⟨((cell_far (p := ⟨gb453, _, none⟩) NB452_453.1 _).trans (((cell_far (p := ⟨gb453, _, none⟩) NB452_453.1 _).trans (((cell_far (p := ⟨gb453, _, none⟩) NB452_453.1 _).trans (hHeld.1)))))), ((cell_far (p := ⟨gb453, _, none⟩) NB452_453.1 _).trans (((cell_far (p := ⟨gb453, _, none⟩) NB452_453.1 _).trans (((cell_far (p := ⟨gb453, _, none⟩) NB452_453.1 _).trans (hHeld.2.1)))))), ((cell_far (p := ⟨gb453, _, none⟩) NB452_453.1 _).trans (((cell_far (p := ⟨gb453, _, none⟩) NB452_453.1 _).trans (((cell_far (p := ⟨gb453, _, none⟩) NB452_453.1 _).trans (hHeld.2.2.1)))))), ((cell_far (p := ⟨gb453, _, none⟩) NB452_453.1 _).trans (((cell_far (p := ⟨gb453, _, none⟩) NB452_453.1 _).trans (((cell_far (p := ⟨gb453, _, none⟩) NB452_453.1 _).trans (hHeld.2.2.2))))))⟩ (fun hHeld => ?_); clear hK K; refine done_ (done_of HT_.1 (by kernel_rfl)) ?_
 try go_wp2
 refine bodyPost_ret (results_cell_row rfl _ _ gb453 40 #[.int .i64 a0_0, .int .i64 a0_1, .int .i64 t455] (0, 0) _ rfl (by exact zP BK453.1 (by rfl)) Tryd.underlying40 rfl (by kernel_rfl)) rfl ?_; exact ⟨by first | rfl | (simp [errW_none, errW_some] <;> rfl) | (simp [*, errW_none, errW_some] <;> rfl), by exact zB2 HB.1 GE452.1 GE453.1⟩

/-! ### impl_IndexHas: function 15 -/
def impl_IndexHas.j0 : Nat → Bool → Int → Int → List (S67) → List (S69) → Option (Int × Int × (List (S67)) × (List (S69)) × Bool)
 | 0, _, _, _, _, _ => none
 | k + 1, x27, x468000, x468001, x468002, x468003 => if x27 = true then (some (0, 0, ([] : List (S67)), ([] : List (S69)), false)) else (some (x468000, x468001, x468002, x468003, true))
def impl_IndexHas.f (k : Nat) (a0_0 : Int) (a0_1 : Int) (l0_2 : List (S40)) (a1 : ByteArray) : Option (Int × Int × (List (S67)) × (List (S69)) × Bool) := (impl_PkgRead.f k a1).bind fun bt458 => (if bt458.2.2.2.2 = true then ((impl_IndexOk.f k a0_0 a0_1 l0_2).bind fun t468 => (if t468 = true then ((impl_metaOf.f k bt458.1 bt458.2.1 bt458.2.2.1 bt458.2.2.2.1).bind fun bt469 => ((impl_Meta_48.f k l0_2 bt469.1 bt469.2.1 bt469.2.2).bind fun t472 => (impl_IndexHas.j0 k (!t472) bt458.1 bt458.2.1 bt458.2.2.1 bt458.2.2.2.1))) else (impl_IndexHas.j0 k true bt458.1 bt458.2.1 bt458.2.2.1 bt458.2.2.2.1))) else (impl_IndexHas.j0 k true bt458.1 bt458.2.1 bt458.2.2.1 bt458.2.2.2.1))
theorem impl_IndexHas.mono_l : ∀ k, (∀ y0 y1 y2 y3 y4, LeO (impl_IndexHas.j0 k y0 y1 y2 y3 y4) (impl_IndexHas.j0 (k + 1) y0 y1 y2 y3 y4))
 | 0 => fun _ _ _ _ _ r h => by simp [impl_IndexHas.j0] at h
 | k + 1 => by
  have ih0 := impl_IndexHas.mono_l k
  ·intro y0 y1 y2 y3 y4
   unfold impl_IndexHas.j0
   repeat' first
   | (with_reducible exact ih0 _ _ _ _ _)
   | (with_reducible exact impl_IndexOk.mono _ _ _ _)
   | (with_reducible exact impl_Meta_48.mono _ _ _ _ _)
   | (with_reducible exact impl_PkgRead.mono _ _)
   | (with_reducible exact impl_metaOf.mono _ _ _ _ _)
   | (with_reducible exact LeO.refl _)
   | (with_reducible exact LeO.none _)
   | (with_reducible refine LeO.ite ?_ ?_)
   | (with_reducible refine LeO.bind ?_ (fun _ => ?_))
   | exact ih0 _ _ _ _ _
   | exact impl_IndexOk.mono _ _ _ _
   | exact impl_Meta_48.mono _ _ _ _ _
   | exact impl_PkgRead.mono _ _
   | exact impl_metaOf.mono _ _ _ _ _
   | exact LeO.none _
   | refine LeO.ite ?_ ?_
   | refine LeO.bind ?_ (fun _ => ?_)
theorem impl_IndexHas.mono : ∀ a0 a1 a2 a3 k, LeO (impl_IndexHas.f k a0 a1 a2 a3) (impl_IndexHas.f (k + 1) a0 a1 a2 a3) := by
 intro a0 a1 a2 a3 k
 have ih0 := impl_IndexHas.mono_l k
 unfold impl_IndexHas.f
 repeat' with_reducible first | apply ih0 | apply impl_IndexOk.mono | apply impl_Meta_48.mono | apply impl_PkgRead.mono | apply impl_metaOf.mono | exact LeO.refl _ | exact LeO.none _ | refine LeO.ite ?_ ?_ | refine LeO.bind ?_ (fun _ => ?_)
def impl_IndexHas.T2 : Bool × List (List Nat × List Nat) := (true, [([], []), ([0], [0]), ([1], [1]), ([2], [2]), ([3, 2, 2], [2, 3]), ([4, 2], [2, 4]), ([2, 5], [2, 5]), ([6, 4], [6]), ([7], [7]), ([8, 7], [7, 8]), ([7], [7]), ([10, 7, 7], [7, 10]), ([9, 11, 11, 7], [7, 9, 11]), ([12, 7], [7, 12]), ([7, 13], [7, 13])])
def impl_IndexHas.B2 : List Nat := [0, 1, 3, 7, 15, 31, 63, 127, 255, 511, 255, 1279, 4095, 8191, 16383]
theorem impl_IndexHas.tab2 : rtab .any (opsOf Tryd.f15 2) = impl_IndexHas.T2 := by kernel_rfl
theorem impl_IndexHas.bits2 : waitsOk impl_IndexHas.T2.2 impl_IndexHas.B2 = true := by kernel_rfl
set_option maxHeartbeats 8000000 in
set_option maxRecDepth 100000 in
theorem impl_IndexHas.calls (k : Nat) (a0_0 : Int) (a0_1 : Int) (A0_2 : Option Addr) (c0_2 : Nat) (l0_2 : List (S40)) (a1 : ByteArray) (r1 : Int) (r2 : Int) (r3 : List (S67)) (r4 : List (S69)) (r5 : Bool) (w : World) (hr0_2 : Kd.C k40 w A0_2 l0_2.length l0_2) (hc0_2 : l0_2.length ≤ c0_2) (hLD : LaidW w) (h : impl_IndexHas.f k a0_0 a0_1 l0_2 a1 = some (r1, r2, r3, r4, r5)) :
  Calls Tryd.prog 15 #[.agg #[.int .i64 a0_0, .int .i64 a0_1, .slice A0_2 l0_2.length c0_2], .string a1] w fun e w' => ∃ v2_ v3_ : Value, e = .returned (.tuple #[.agg #[.int .i64 r1, .int .i64 r2, v2_, v3_], .bool r5]) ∧ Kd.R k67 67 w' w.heap.size (fun _ => True) v2_ r3 ∧ Kd.R k69 69 w' w.heap.size (fun _ => True) v3_ r4 ∧ Below w.heap.size w w' := by
 have hu25 := Tryd.underlying25; have hu31 := Tryd.underlying31; have HR0_2 := aM hr0_2; have HC0_2 := aM hc0_2; clear hr0_2 hc0_2; have HB := aM (Below.refl w.heap.size w); have HLD := aM hLD; clear hLD; have H : ((impl_PkgRead.f k a1).bind fun bt458 => (if bt458.2.2.2.2 = true then ((impl_IndexOk.f k a0_0 a0_1 l0_2).bind fun t468 => (if t468 = true then ((impl_metaOf.f k bt458.1 bt458.2.1 bt458.2.2.1 bt458.2.2.2.1).bind fun bt469 => ((impl_Meta_48.f k l0_2 bt469.1 bt469.2.1 bt469.2.2).bind fun t472 => (impl_IndexHas.j0 k (!t472) bt458.1 bt458.2.1 bt458.2.2.1 bt458.2.2.2.1))) else (impl_IndexHas.j0 k true bt458.1 bt458.2.1 bt458.2.2.1 bt458.2.2.2.1))) else (impl_IndexHas.j0 k true bt458.1 bt458.2.1 bt458.2.2.1 bt458.2.2.2.1))) = some (r1, r2, r3, r4, r5) := h; clear h; replace H := Option.bind_eq_some_iff.mp H; obtain ⟨⟨t458, t459, t460, t463, t466⟩, A30, H⟩ := H; (try dsimp only at H); have A3 := aM A30; clear A30; have HC4 := aM H; clear H
 go_enter Tryd.func15, Tryd.ntmps15
 go_upto_region 2 with (first | ((with_reducible refine gate_dst (N := 2) rfl ?_); refine zbx 2 #[.int .i64 a0_0, .int .i64 a0_1, .slice A0_2 l0_2.length c0_2] 25 ?_; intro gb456 hg w5 hbox hb; have _ := aM (below_step (zB HB.1) hb); have _ := aM (hbox); have _ := aM (zge hg (zB HB.1)); have _ := aM (zge hg (zB HB.1)); clear HB; rename_i HB BK456 GW456 GE456; clear hb hbox hg) | ((with_reducible refine gate_dst (N := 4) rfl ?_); refine zbx 4 #[.int .i64 0, .int .i64 0, .slice none 0 0, .slice none 0 0] 31 ?_; intro gb457 hg w6 hbox hb; have _ := aM (blk_below (zK BK456.1) hb); have _ := aM (below_step (zB1 HB.1 GE456.1) hb); have _ := aM (hbox); have _ := aM (zge hg (zB1 HB.1 GE456.1)); have _ := aM (zge hg (zB1 HB.1 GE456.1)); have _ := aM (znl hg (zK BK456.1)); have _ := aM (zng hg (zK BK456.1)); clear BK456 HB; rename_i BK456 HB BK457 GW457 GE457 NB456_457 NB457_456; clear hb hbox hg) | ((with_reducible refine gate_callee (f := 19) rfl ?_); refine zgL (some 10) Tryd.func19 #[.string a1] ?_; (with_reducible refine (impl_PkgRead.calls k a1 t458 t459 t460 t463 t466 _ ?sideL A3.1).mono ?_); (case sideL => exact HLD.1.on (zB2 HB.1 GE456.1 GE457.1)); rintro e w7 ⟨v461, v464, rfl, ho0, ho1, hb⟩; refine ⟨_, rfl, ?_⟩; have _ := aM (Kd.R_lower ho0 (below_size (zB2 HB.1 GE456.1 GE457.1))); have _ := aM (Kd.R_lower ho1 (below_size (zB2 HB.1 GE456.1 GE457.1))); have _ := aM (blk_below (zK BK456.1) hb); have _ := aM (blk_below (zK BK457.1) hb); have _ := aM (below_step (zB2 HB.1 GE456.1 GE457.1) hb); clear BK456 BK457 HB; rename_i HO462 HO465 BK456 BK457 HB; (try clear hb); (try clear hb2); (try clear hk); (try clear hi); (try clear ho0); (try clear ho1)) | ((with_reducible refine gate_dst (N := 6) rfl ?_); refine zbx 6 #[.int .i64 0, .int .i64 0, .slice none 0 0, .slice none 0 0] 31 ?_; intro gb467 hg w8 hbox hb; have _ := aM (Kd.R_below (zR HO462.1) hb); have _ := aM (Kd.R_below (zR HO465.1) hb); have _ := aM (blk_below (zK BK456.1) hb); have _ := aM (blk_below (zK BK457.1) hb); have _ := aM (below_step (zB2 HB.1 GE456.1 GE457.1) hb); have _ := aM (hbox); have _ := aM (zge hg (zB2 HB.1 GE456.1 GE457.1)); have _ := aM (zge hg (zB2 HB.1 GE456.1 GE457.1)); have _ := aM (znl hg (zK BK456.1)); have _ := aM (zng hg (zK BK456.1)); have _ := aM (znl hg (zK BK457.1)); have _ := aM (zng hg (zK BK457.1)); clear HO462 HO465 BK456 BK457 HB; rename_i HO462 HO465 BK456 BK457 HB BK467 GW467 GE467 NB456_467 NB467_456 NB457_467 NB467_457; clear hb hbox hg; have hnb9 := NB467_456.1; have hnc9 := NB456_467.1; have hnb10 := NB467_457.1; have hnc10 := NB457_467.1; obtain ⟨hcz11_0, hcz11_1, hcz11_2, hcz11_3, hfz11_0, hfz11_1, hfz11_2, hfz11_3⟩ := zc4f BK467.1; obtain ⟨Ao12, co12, eo12⟩ := Kd.R_slice HO462.1; subst eo12; obtain ⟨Ao13, co13, eo13⟩ := Kd.R_slice HO465.1; subst eo13))
 (try simp only [zp0, zp1, zp2, zp3, zp4])
 go_cut [27] (fun v27 wc => ∃ (kq : Nat) (x27_3 : Bool), v27 = .bool x27_3 ∧ Aside0 (impl_IndexHas.j0 kq x27_3 t458 t459 t460 t463 = some (r1, r2, r3, r4, r5)) ∧ Aside0 (kq ≤ k) ∧ Aside0 (Kd.R k67 67 wc w.heap.size (fun _ => True) (.slice Ao12 t460.length co12) t460) ∧ Aside0 (Kd.R k69 69 wc w.heap.size (fun _ => True) (.slice Ao13 t463.length co13) t463) ∧ Aside0 (wc.heap[gb456]? = some (.cells #[.int .i64 a0_0, .int .i64 a0_1, (.slice A0_2 l0_2.length c0_2)] 25 (0, 0))) ∧ Aside0 (wc.heap[gb457]? = some (.cells #[.int .i64 0, .int .i64 0, (.slice none 0 0), (.slice none 0 0)] 31 (0, 0))) ∧ Aside0 (wc.heap[gb467]? = some (.cells #[.int .i64 t458, .int .i64 t459, (.slice Ao12 t460.length co12), (.slice Ao13 t463.length co13)] 31 (0, 0))) ∧ Aside0 (Below w.heap.size w wc))
 case first =>
  have H := HC4.1; clear HC4
  by_cases c14 : t466 = true
  ·subst c14; replace H := zy1 H; replace H := Option.bind_eq_some_iff.mp H; obtain ⟨t468, A150, H⟩ := H; (try dsimp only at H); have A15 := aM A150; clear A150
   by_cases c16 : t468 = true
   ·subst c16; replace H := zy1 H; replace H := Option.bind_eq_some_iff.mp H; obtain ⟨⟨t469, t470, t471⟩, A170, H⟩ := H; (try dsimp only at H); have A17 := aM A170; clear A170; replace H := Option.bind_eq_some_iff.mp H; obtain ⟨t472, A180, H⟩ := H; (try dsimp only at H); have A18 := aM A180; clear A180; have H' := aM H; clear H
    try go_wp2
    have n0_ : Aside0 (Kd.R k67 67 ((((w8.setCell ⟨gb467, 0, none⟩ (.int .i64 t458)).setCell ⟨gb467, 1, none⟩ (.int .i64 t459)).setCell ⟨gb467, 2, none⟩ (.slice Ao12 t460.length co12)).setCell ⟨gb467, 3, none⟩ (.slice Ao13 t463.length co13)) w.heap.size (fun _ => True) (.slice Ao12 t460.length co12) t460) := ⟨by exact (Kd.R_mono (zFR (g := gb467) (Kd.R_types HO462.1 BK467.1 (by decide)) (fun _ hk => hk.2)) (fun _ hk => trivial))⟩; have n1_ : Aside0 (Kd.R k69 69 ((((w8.setCell ⟨gb467, 0, none⟩ (.int .i64 t458)).setCell ⟨gb467, 1, none⟩ (.int .i64 t459)).setCell ⟨gb467, 2, none⟩ (.slice Ao12 t460.length co12)).setCell ⟨gb467, 3, none⟩ (.slice Ao13 t463.length co13)) w.heap.size (fun _ => True) (.slice Ao13 t463.length co13) t463) := ⟨by exact (Kd.R_mono (zFR (g := gb467) (Kd.R_types HO465.1 BK467.1 (by decide)) (fun _ hk => hk.2)) (fun _ hk => trivial))⟩; have n2_ : Aside0 (((((w8.setCell ⟨gb467, 0, none⟩ (.int .i64 t458)).setCell ⟨gb467, 1, none⟩ (.int .i64 t459)).setCell ⟨gb467, 2, none⟩ (.slice Ao12 t460.length co12)).setCell ⟨gb467, 3, none⟩ (.slice Ao13 t463.length co13)).heap[gb456]? = some (.cells #[.int .i64 a0_0, .int .i64 a0_1, .slice A0_2 l0_2.length c0_2] 25 (0, 0))) := ⟨zK1 BK456.1 NB456_467.1⟩; have n3_ : Aside0 (((((w8.setCell ⟨gb467, 0, none⟩ (.int .i64 t458)).setCell ⟨gb467, 1, none⟩ (.int .i64 t459)).setCell ⟨gb467, 2, none⟩ (.slice Ao12 t460.length co12)).setCell ⟨gb467, 3, none⟩ (.slice Ao13 t463.length co13)).heap[gb457]? = some (.cells #[.int .i64 0, .int .i64 0, .slice none 0 0, .slice none 0 0] 31 (0, 0))) := ⟨zK1 BK457.1 NB457_467.1⟩; have n4_ : Aside0 (((((w8.setCell ⟨gb467, 0, none⟩ (.int .i64 t458)).setCell ⟨gb467, 1, none⟩ (.int .i64 t459)).setCell ⟨gb467, 2, none⟩ (.slice Ao12 t460.length co12)).setCell ⟨gb467, 3, none⟩ (.slice Ao13 t463.length co13)).heap[gb467]? = some (.cells #[.int .i64 t458, .int .i64 t459, .slice Ao12 t460.length co12, .slice Ao13 t463.length co13] 31 (0, 0))) := ⟨by exact zP BK467.1 (by rfl)⟩; have n5_ : Aside0 (Below w.heap.size w ((((w8.setCell ⟨gb467, 0, none⟩ (.int .i64 t458)).setCell ⟨gb467, 1, none⟩ (.int .i64 t459)).setCell ⟨gb467, 2, none⟩ (.slice Ao12 t460.length co12)).setCell ⟨gb467, 3, none⟩ (.slice Ao13 t463.length co13))) := ⟨zB3 HB.1 GE456.1 GE457.1 GE467.1⟩; (try clear HO462); (try clear HO465); (try clear BK456); (try clear BK457); (try clear BK467); (try clear HB); generalize ((((w8.setCell ⟨gb467, 0, none⟩ (.int .i64 t458)).setCell ⟨gb467, 1, none⟩ (.int .i64 t459)).setCell ⟨gb467, 2, none⟩ (.slice Ao12 t460.length co12)).setCell ⟨gb467, 3, none⟩ (.slice Ao13 t463.length co13)) = w19 at n0_ n1_ n2_ n3_ n4_ n5_ ⊢; have HO462 := n0_; have HO465 := n1_; have BK456 := n2_; have BK457 := n3_; have BK467 := n4_; have HB := n5_; clear n0_ n1_ n2_ n3_ n4_ n5_; have _ := aM (Kd.R_drew HO462.1); have _ := aM (Kd.R_drew HO465.1); have _ := aM (blk_drew BK456.1); have _ := aM (blk_drew BK457.1); have _ := aM (blk_drew BK467.1); have _ := aM (below_drew1 HB.1); clear HO462 HO465 BK456 BK457 BK467 HB; rename_i HO462 HO465 BK456 BK457 BK467 HB
    refine start_ (n := 15) (S := fun w' => w'.cell? ⟨gb456, 0, none⟩ = some (.int .i64 a0_0) ∧ w'.cell? ⟨gb456, 1, none⟩ = some (.int .i64 a0_1) ∧ w'.cell? ⟨gb456, 2, none⟩ = some (.slice A0_2 l0_2.length c0_2) ∧ w'.cell? ⟨gb467, 0, none⟩ = some (.int .i64 t458) ∧ w'.cell? ⟨gb467, 1, none⟩ = some (.int .i64 t459) ∧ w'.cell? ⟨gb467, 2, none⟩ = some (.slice Ao12 t460.length co12) ∧ w'.cell? ⟨gb467, 3, none⟩ = some (.slice Ao13 t463.length co13)) (ds := []) (zA 15 0) (by kernel_rfl) rfl rfl ⟨(blk_cell BK456.1 0).trans rfl, (blk_cell BK456.1 1).trans rfl, (blk_cell BK456.1 2).trans rfl, (blk_cell BK467.1 0).trans rfl, (blk_cell BK467.1 1).trans rfl, (blk_cell BK467.1 2).trans rfl, (blk_cell BK467.1 3).trans rfl⟩ (fun hHeld => ?_); refine with_tabW impl_IndexHas.tab2 impl_IndexHas.bits2 (fun HT_ HW_ => ?_)
    generalize w19.drew = w20 at HO462 HO465 BK456 BK457 BK467 HB hHeld ⊢; refine zu HT_ 0 (some 13) (zA 15 1) ?_; refine zu HT_ 1 (some 14) (zA 15 3) ?_; refine zu HT_ 2 (some 15) (zA 15 7) ?_; refine take_ (i := 3) (N := some 16) (v := ?_) (a' := ?_) (zA 15 15) rfl rfl (take_ofW HT_.1 HW_.1 (by kernel_rfl)) (fun _ _ _ h => h) (Or.inl ⟨by rfl, ?_⟩) hHeld ?_ ?_; rotate_left
    ·rintro w' ⟨s0, s1, s2, s3, s4, s5, s6⟩
     go_simp
     (with_reducible rfl)
    rotate_left
    ·simp only [zp0, zp1, zp2, zp3, zp4, i64_w, i32_w]; rfl
    refine zo HT_ 4 (some 17) (zA 15 31) (fun K hK => ?_); refine zg Tryd.func38 #[.agg #[.int .i64 a0_0, .int .i64 a0_1, .slice A0_2 l0_2.length c0_2]] ?_; (with_reducible refine (impl_IndexOk.calls k a0_0 a0_1 _ _ l0_2 true _ ?side1 ?side2 A15.1).mono ?_); (case side1 => exact zC (Kd.C_below HR0_2.1 HB.1)); (case side2 => exact HC0_2.1); rintro e w21 ⟨rfl, hb⟩; refine ⟨_, rfl, ?_⟩; have _ := aM (Kd.R_below (zR HO462.1) hb); have _ := aM (Kd.R_below (zR HO465.1) hb); have _ := aM (blk_below (zK BK456.1) hb); have _ := aM (blk_below (zK BK457.1) hb); have _ := aM (blk_below (zK BK467.1) hb); have _ := aM (below_step (zB3 HB.1 GE456.1 GE457.1 GE467.1) hb); clear HO462 HO465 BK456 BK457 BK467 HB; rename_i HO462 HO465 BK456 BK457 BK467 HB; (try clear hb); (try clear hb2); (try clear hk); (try clear hi); refine hK.out _ _ ⟨(blk_cell BK456.1 0).trans rfl, (blk_cell BK456.1 1).trans rfl, (blk_cell BK456.1 2).trans rfl, (blk_cell BK467.1 0).trans rfl, (blk_cell BK467.1 1).trans rfl, (blk_cell BK467.1 2).trans rfl, (blk_cell BK467.1 3).trans rfl⟩ (fun hHeld => ?_); clear hK K; refine zn (some 17) ?_; refine zu HT_ 5 (some 18) (zA 15 63) ?_; refine zu HT_ 6 (some 19) (zA 15 127) ?_; refine zu HT_ 7 (some 20) (zA 15 255) ?_; refine zu HT_ 8 (some 21) (zA 15 511) ?_; refine take_ (i := 9) (N := some 22) (v := ?_) (a' := ?_) (zA 15 1023) rfl rfl (take_ofW HT_.1 HW_.1 (by kernel_rfl)) (fun _ _ _ h => h) (Or.inl ⟨by rfl, ?_⟩) hHeld ?_ ?_; rotate_left
    ·rintro w' ⟨s0, s1, s2, s3, s4, s5, s6⟩
     go_simp
     (with_reducible rfl)
    rotate_left
    ·simp only [zp0, zp1, zp2, zp3, zp4, i64_w, i32_w]; rfl
    refine take_ (i := 10) (N := some 23) (v := ?_) (a' := ?_) (zA 15 2047) rfl rfl (take_ofW HT_.1 HW_.1 (by kernel_rfl)) (fun _ _ _ h => h) (Or.inl ⟨by rfl, ?_⟩) hHeld ?_ ?_; rotate_left
    ·rintro w' ⟨s0, s1, s2, s3, s4, s5, s6⟩
     go_simp
     (with_reducible rfl)
    rotate_left
    ·simp only [zp0, zp1, zp2, zp3, zp4, i64_w, i32_w]; rfl
    refine zo HT_ 11 (some 24) (zA 15 4095) (fun K hK => ?_); refine zg Tryd.func49 #[.agg #[.int .i64 t458, .int .i64 t459, .slice Ao12 t460.length co12, .slice Ao13 t463.length co13]] ?_; (with_reducible refine (impl_metaOf.calls k t458 t459 _ _ t460 _ _ t463 t469 t470 t471 _ ?side1 ?side2 ?side3 ?side4 A17.1).mono ?_); (case side1 => exact zC (Kd.R_reads' HO462.1).2.2); (case side2 => exact (Kd.R_reads' HO462.1).2.1); (case side3 => exact zC (Kd.R_reads' HO465.1).2.2); (case side4 => exact (Kd.R_reads' HO465.1).2.1); rintro e w22 ⟨rfl, hb⟩; refine ⟨_, rfl, ?_⟩; have _ := aM (Kd.R_below (zR HO462.1) hb); have _ := aM (Kd.R_below (zR HO465.1) hb); have _ := aM (blk_below (zK BK456.1) hb); have _ := aM (blk_below (zK BK457.1) hb); have _ := aM (blk_below (zK BK467.1) hb); have _ := aM (below_step (zB3 HB.1 GE456.1 GE457.1 GE467.1) hb); clear HO462 HO465 BK456 BK457 BK467 HB; rename_i HO462 HO465 BK456 BK457 BK467 HB; (try clear hb); (try clear hb2); (try clear hk); (try clear hi); refine hK.out _ _ ⟨(blk_cell BK456.1 0).trans rfl, (blk_cell BK456.1 1).trans rfl, (blk_cell BK456.1 2).trans rfl, (blk_cell BK467.1 0).trans rfl, (blk_cell BK467.1 1).trans rfl, (blk_cell BK467.1 2).trans rfl, (blk_cell BK467.1 3).trans rfl⟩ (fun hHeld => ?_); clear hK K; refine zn (some 24) ?_; refine zo HT_ 12 (some 25) (zA 15 8191) (fun K hK => ?_); refine zg Tryd.func48 #[.slice A0_2 l0_2.length c0_2, .agg #[.int .i64 t469, .int .i64 t470, .int .i64 t471]] ?_; (with_reducible refine (impl_Meta_48.calls k _ _ l0_2 t469 t470 t471 t472 _ ?side1 ?side2 A18.1).mono ?_); (case side1 => exact zC (Kd.C_below HR0_2.1 HB.1)); (case side2 => exact HC0_2.1); rintro e w23 ⟨rfl, hb⟩; refine ⟨_, rfl, ?_⟩; have _ := aM (Kd.R_below (zR HO462.1) hb); have _ := aM (Kd.R_below (zR HO465.1) hb); have _ := aM (blk_below (zK BK456.1) hb); have _ := aM (blk_below (zK BK457.1) hb); have _ := aM (blk_below (zK BK467.1) hb); have _ := aM (below_step (zB3 HB.1 GE456.1 GE457.1 GE467.1) hb); clear HO462 HO465 BK456 BK457 BK467 HB; rename_i HO462 HO465 BK456 BK457 BK467 HB; (try clear hb); (try clear hb2); (try clear hk); (try clear hi); refine hK.out _ _ ⟨(blk_cell BK456.1 0).trans rfl, (blk_cell BK456.1 1).trans rfl, (blk_cell BK456.1 2).trans rfl, (blk_cell BK467.1 0).trans rfl, (blk_cell BK467.1 1).trans rfl, (blk_cell BK467.1 2).trans rfl, (blk_cell BK467.1 3).trans rfl⟩ (fun hHeld => ?_); clear hK K; refine zn (some 25) ?_; refine zu HT_ 13 (some 26) (zA 15 16383) ?_; refine zu HT_ 14 (some 27) (zA 15 32767) ?_; refine done_ (done_of HT_.1 (by kernel_rfl)) ?_
    try go_wp2
    go_meet
    case rel => exact ⟨_, (!t472), (by first | rfl | (simp; done) | (simp [*]; done)), H', ⟨by first | omega | exact Nat.le_refl _⟩, ⟨zR HO462.1⟩, ⟨zR HO465.1⟩, ⟨zK BK456.1⟩, ⟨zK BK457.1⟩, ⟨zK BK467.1⟩, ⟨zB3 HB.1 GE456.1 GE457.1 GE467.1⟩⟩
   ·replace c16 := Bool.eq_false_iff.mpr c16; subst c16; replace H := zy0 H; have H' := aM H; clear H
    try go_wp2
    have n0_ : Aside0 (Kd.R k67 67 ((((w8.setCell ⟨gb467, 0, none⟩ (.int .i64 t458)).setCell ⟨gb467, 1, none⟩ (.int .i64 t459)).setCell ⟨gb467, 2, none⟩ (.slice Ao12 t460.length co12)).setCell ⟨gb467, 3, none⟩ (.slice Ao13 t463.length co13)) w.heap.size (fun _ => True) (.slice Ao12 t460.length co12) t460) := ⟨by exact (Kd.R_mono (zFR (g := gb467) (Kd.R_types HO462.1 BK467.1 (by decide)) (fun _ hk => hk.2)) (fun _ hk => trivial))⟩; have n1_ : Aside0 (Kd.R k69 69 ((((w8.setCell ⟨gb467, 0, none⟩ (.int .i64 t458)).setCell ⟨gb467, 1, none⟩ (.int .i64 t459)).setCell ⟨gb467, 2, none⟩ (.slice Ao12 t460.length co12)).setCell ⟨gb467, 3, none⟩ (.slice Ao13 t463.length co13)) w.heap.size (fun _ => True) (.slice Ao13 t463.length co13) t463) := ⟨by exact (Kd.R_mono (zFR (g := gb467) (Kd.R_types HO465.1 BK467.1 (by decide)) (fun _ hk => hk.2)) (fun _ hk => trivial))⟩; have n2_ : Aside0 (((((w8.setCell ⟨gb467, 0, none⟩ (.int .i64 t458)).setCell ⟨gb467, 1, none⟩ (.int .i64 t459)).setCell ⟨gb467, 2, none⟩ (.slice Ao12 t460.length co12)).setCell ⟨gb467, 3, none⟩ (.slice Ao13 t463.length co13)).heap[gb456]? = some (.cells #[.int .i64 a0_0, .int .i64 a0_1, .slice A0_2 l0_2.length c0_2] 25 (0, 0))) := ⟨zK1 BK456.1 NB456_467.1⟩; have n3_ : Aside0 (((((w8.setCell ⟨gb467, 0, none⟩ (.int .i64 t458)).setCell ⟨gb467, 1, none⟩ (.int .i64 t459)).setCell ⟨gb467, 2, none⟩ (.slice Ao12 t460.length co12)).setCell ⟨gb467, 3, none⟩ (.slice Ao13 t463.length co13)).heap[gb457]? = some (.cells #[.int .i64 0, .int .i64 0, .slice none 0 0, .slice none 0 0] 31 (0, 0))) := ⟨zK1 BK457.1 NB457_467.1⟩; have n4_ : Aside0 (((((w8.setCell ⟨gb467, 0, none⟩ (.int .i64 t458)).setCell ⟨gb467, 1, none⟩ (.int .i64 t459)).setCell ⟨gb467, 2, none⟩ (.slice Ao12 t460.length co12)).setCell ⟨gb467, 3, none⟩ (.slice Ao13 t463.length co13)).heap[gb467]? = some (.cells #[.int .i64 t458, .int .i64 t459, .slice Ao12 t460.length co12, .slice Ao13 t463.length co13] 31 (0, 0))) := ⟨by exact zP BK467.1 (by rfl)⟩; have n5_ : Aside0 (Below w.heap.size w ((((w8.setCell ⟨gb467, 0, none⟩ (.int .i64 t458)).setCell ⟨gb467, 1, none⟩ (.int .i64 t459)).setCell ⟨gb467, 2, none⟩ (.slice Ao12 t460.length co12)).setCell ⟨gb467, 3, none⟩ (.slice Ao13 t463.length co13))) := ⟨zB3 HB.1 GE456.1 GE457.1 GE467.1⟩; (try clear HO462); (try clear HO465); (try clear BK456); (try clear BK457); (try clear BK467); (try clear HB); generalize ((((w8.setCell ⟨gb467, 0, none⟩ (.int .i64 t458)).setCell ⟨gb467, 1, none⟩ (.int .i64 t459)).setCell ⟨gb467, 2, none⟩ (.slice Ao12 t460.length co12)).setCell ⟨gb467, 3, none⟩ (.slice Ao13 t463.length co13)) = w24 at n0_ n1_ n2_ n3_ n4_ n5_ ⊢; have HO462 := n0_; have HO465 := n1_; have BK456 := n2_; have BK457 := n3_; have BK467 := n4_; have HB := n5_; clear n0_ n1_ n2_ n3_ n4_ n5_; have _ := aM (Kd.R_drew HO462.1); have _ := aM (Kd.R_drew HO465.1); have _ := aM (blk_drew BK456.1); have _ := aM (blk_drew BK457.1); have _ := aM (blk_drew BK467.1); have _ := aM (below_drew1 HB.1); clear HO462 HO465 BK456 BK457 BK467 HB; rename_i HO462 HO465 BK456 BK457 BK467 HB
    refine start_ (n := 15) (S := fun w' => w'.cell? ⟨gb456, 0, none⟩ = some (.int .i64 a0_0) ∧ w'.cell? ⟨gb456, 1, none⟩ = some (.int .i64 a0_1) ∧ w'.cell? ⟨gb456, 2, none⟩ = some (.slice A0_2 l0_2.length c0_2)) (ds := []) (zA 15 0) (by kernel_rfl) rfl rfl ⟨(blk_cell BK456.1 0).trans rfl, (blk_cell BK456.1 1).trans rfl, (blk_cell BK456.1 2).trans rfl⟩ (fun hHeld => ?_); refine with_tabW impl_IndexHas.tab2 impl_IndexHas.bits2 (fun HT_ HW_ => ?_)
    generalize w24.drew = w25 at HO462 HO465 BK456 BK457 BK467 HB hHeld ⊢; refine zu HT_ 0 (some 13) (zA 15 1) ?_; refine zu HT_ 1 (some 14) (zA 15 3) ?_; refine zu HT_ 2 (some 15) (zA 15 7) ?_; refine take_ (i := 3) (N := some 16) (v := ?_) (a' := ?_) (zA 15 15) rfl rfl (take_ofW HT_.1 HW_.1 (by kernel_rfl)) (fun _ _ _ h => h) (Or.inl ⟨by rfl, ?_⟩) hHeld ?_ ?_; rotate_left
    ·rintro w' ⟨s0, s1, s2⟩
     go_simp
     (with_reducible rfl)
    rotate_left
    ·simp only [zp0, zp1, zp2, zp3, zp4, i64_w, i32_w]; rfl
    refine zo HT_ 4 (some 17) (zA 15 31) (fun K hK => ?_); refine zg Tryd.func38 #[.agg #[.int .i64 a0_0, .int .i64 a0_1, .slice A0_2 l0_2.length c0_2]] ?_; (with_reducible refine (impl_IndexOk.calls k a0_0 a0_1 _ _ l0_2 false _ ?side1 ?side2 A15.1).mono ?_); (case side1 => exact zC (Kd.C_below HR0_2.1 HB.1)); (case side2 => exact HC0_2.1); rintro e w26 ⟨rfl, hb⟩; refine ⟨_, rfl, ?_⟩; have _ := aM (Kd.R_below (zR HO462.1) hb); have _ := aM (Kd.R_below (zR HO465.1) hb); have _ := aM (blk_below (zK BK456.1) hb); have _ := aM (blk_below (zK BK457.1) hb); have _ := aM (blk_below (zK BK467.1) hb); have _ := aM (below_step (zB3 HB.1 GE456.1 GE457.1 GE467.1) hb); clear HO462 HO465 BK456 BK457 BK467 HB; rename_i HO462 HO465 BK456 BK457 BK467 HB; (try clear hb); (try clear hb2); (try clear hk); (try clear hi); refine hK.out _ _ ⟨(blk_cell BK456.1 0).trans rfl, (blk_cell BK456.1 1).trans rfl, (blk_cell BK456.1 2).trans rfl⟩ (fun hHeld => ?_); clear hK K; refine zn (some 17) ?_; refine zu HT_ 5 (some 18) (zA 15 63) ?_; refine zu HT_ 6 (some 19) (zA 15 127) ?_; refine zu HT_ 7 (some 20) (zA 15 255) ?_; refine zu0 HT_ 8 (some 21) (zA 15 511) ?_; refine zu0 HT_ 9 (some 22) (zA 15 1023) ?_; refine zu0 HT_ 10 (some 23) (zA 15 2047) ?_; refine zu0 HT_ 11 (some 24) (zA 15 4095) ?_; refine zu0 HT_ 12 (some 25) (zA 15 8191) ?_; refine zu0 HT_ 13 (some 26) (zA 15 16383) ?_; refine zu HT_ 14 (some 27) (zA 15 32767) ?_; refine done_ (done_of HT_.1 (by kernel_rfl)) ?_
    try go_wp2
    go_meet
    case rel => exact ⟨_, (true), (by first | rfl | (simp; done) | (simp [*]; done)), H', ⟨by first | omega | exact Nat.le_refl _⟩, ⟨zR HO462.1⟩, ⟨zR HO465.1⟩, ⟨zK BK456.1⟩, ⟨zK BK457.1⟩, ⟨zK BK467.1⟩, ⟨zB3 HB.1 GE456.1 GE457.1 GE467.1⟩⟩
  ·replace c14 := Bool.eq_false_iff.mpr c14; subst c14; replace H := zy0 H; have H' := aM H; clear H
   try go_wp2
   have n0_ : Aside0 (Kd.R k67 67 ((((w8.setCell ⟨gb467, 0, none⟩ (.int .i64 t458)).setCell ⟨gb467, 1, none⟩ (.int .i64 t459)).setCell ⟨gb467, 2, none⟩ (.slice Ao12 t460.length co12)).setCell ⟨gb467, 3, none⟩ (.slice Ao13 t463.length co13)) w.heap.size (fun _ => True) (.slice Ao12 t460.length co12) t460) := ⟨by exact (Kd.R_mono (zFR (g := gb467) (Kd.R_types HO462.1 BK467.1 (by decide)) (fun _ hk => hk.2)) (fun _ hk => trivial))⟩; have n1_ : Aside0 (Kd.R k69 69 ((((w8.setCell ⟨gb467, 0, none⟩ (.int .i64 t458)).setCell ⟨gb467, 1, none⟩ (.int .i64 t459)).setCell ⟨gb467, 2, none⟩ (.slice Ao12 t460.length co12)).setCell ⟨gb467, 3, none⟩ (.slice Ao13 t463.length co13)) w.heap.size (fun _ => True) (.slice Ao13 t463.length co13) t463) := ⟨by exact (Kd.R_mono (zFR (g := gb467) (Kd.R_types HO465.1 BK467.1 (by decide)) (fun _ hk => hk.2)) (fun _ hk => trivial))⟩; have n2_ : Aside0 (((((w8.setCell ⟨gb467, 0, none⟩ (.int .i64 t458)).setCell ⟨gb467, 1, none⟩ (.int .i64 t459)).setCell ⟨gb467, 2, none⟩ (.slice Ao12 t460.length co12)).setCell ⟨gb467, 3, none⟩ (.slice Ao13 t463.length co13)).heap[gb456]? = some (.cells #[.int .i64 a0_0, .int .i64 a0_1, .slice A0_2 l0_2.length c0_2] 25 (0, 0))) := ⟨zK1 BK456.1 NB456_467.1⟩; have n3_ : Aside0 (((((w8.setCell ⟨gb467, 0, none⟩ (.int .i64 t458)).setCell ⟨gb467, 1, none⟩ (.int .i64 t459)).setCell ⟨gb467, 2, none⟩ (.slice Ao12 t460.length co12)).setCell ⟨gb467, 3, none⟩ (.slice Ao13 t463.length co13)).heap[gb457]? = some (.cells #[.int .i64 0, .int .i64 0, .slice none 0 0, .slice none 0 0] 31 (0, 0))) := ⟨zK1 BK457.1 NB457_467.1⟩; have n4_ : Aside0 (((((w8.setCell ⟨gb467, 0, none⟩ (.int .i64 t458)).setCell ⟨gb467, 1, none⟩ (.int .i64 t459)).setCell ⟨gb467, 2, none⟩ (.slice Ao12 t460.length co12)).setCell ⟨gb467, 3, none⟩ (.slice Ao13 t463.length co13)).heap[gb467]? = some (.cells #[.int .i64 t458, .int .i64 t459, .slice Ao12 t460.length co12, .slice Ao13 t463.length co13] 31 (0, 0))) := ⟨by exact zP BK467.1 (by rfl)⟩; have n5_ : Aside0 (Below w.heap.size w ((((w8.setCell ⟨gb467, 0, none⟩ (.int .i64 t458)).setCell ⟨gb467, 1, none⟩ (.int .i64 t459)).setCell ⟨gb467, 2, none⟩ (.slice Ao12 t460.length co12)).setCell ⟨gb467, 3, none⟩ (.slice Ao13 t463.length co13))) := ⟨zB3 HB.1 GE456.1 GE457.1 GE467.1⟩; (try clear HO462); (try clear HO465); (try clear BK456); (try clear BK457); (try clear BK467); (try clear HB); generalize ((((w8.setCell ⟨gb467, 0, none⟩ (.int .i64 t458)).setCell ⟨gb467, 1, none⟩ (.int .i64 t459)).setCell ⟨gb467, 2, none⟩ (.slice Ao12 t460.length co12)).setCell ⟨gb467, 3, none⟩ (.slice Ao13 t463.length co13)) = w27 at n0_ n1_ n2_ n3_ n4_ n5_ ⊢; have HO462 := n0_; have HO465 := n1_; have BK456 := n2_; have BK457 := n3_; have BK467 := n4_; have HB := n5_; clear n0_ n1_ n2_ n3_ n4_ n5_; have _ := aM (Kd.R_drew HO462.1); have _ := aM (Kd.R_drew HO465.1); have _ := aM (blk_drew BK456.1); have _ := aM (blk_drew BK457.1); have _ := aM (blk_drew BK467.1); have _ := aM (below_drew1 HB.1); clear HO462 HO465 BK456 BK457 BK467 HB; rename_i HO462 HO465 BK456 BK457 BK467 HB
   refine start_ (n := 15) (S := fun w' => True) (ds := []) (zA 15 0) (by kernel_rfl) rfl rfl trivial (fun hHeld => ?_); refine with_tabW impl_IndexHas.tab2 impl_IndexHas.bits2 (fun HT_ HW_ => ?_)
   generalize w27.drew = w28 at HO462 HO465 BK456 BK457 BK467 HB hHeld ⊢; refine zu HT_ 0 (some 13) (zA 15 1) ?_; refine zu HT_ 1 (some 14) (zA 15 3) ?_; refine zu HT_ 2 (some 15) (zA 15 7) ?_; refine zu0 HT_ 3 (some 16) (zA 15 15) ?_; refine zu0 HT_ 4 (some 17) (zA 15 31) ?_; refine zu0 HT_ 5 (some 18) (zA 15 63) ?_; refine zu HT_ 6 (some 19) (zA 15 127) ?_; refine zu HT_ 7 (some 20) (zA 15 255) ?_; refine zu0 HT_ 8 (some 21) (zA 15 511) ?_; refine zu0 HT_ 9 (some 22) (zA 15 1023) ?_; refine zu0 HT_ 10 (some 23) (zA 15 2047) ?_; refine zu0 HT_ 11 (some 24) (zA 15 4095) ?_; refine zu0 HT_ 12 (some 25) (zA 15 8191) ?_; refine zu0 HT_ 13 (some 26) (zA 15 16383) ?_; refine zu HT_ 14 (some 27) (zA 15 32767) ?_; refine done_ (done_of HT_.1 (by kernel_rfl)) ?_
   try go_wp2
   go_meet
   case rel => exact ⟨_, (true), (by first | rfl | (simp; done) | (simp [*]; done)), H', ⟨by first | omega | exact Nat.le_refl _⟩, ⟨zR HO462.1⟩, ⟨zR HO465.1⟩, ⟨zK BK456.1⟩, ⟨zK BK457.1⟩, ⟨zK BK467.1⟩, ⟨zB3 HB.1 GE456.1 GE457.1 GE467.1⟩⟩
 case rest =>
  clear HC4
  try clear c1
  try clear p2
  try clear c3
  try clear c4
  try clear c14
  try clear c16
  obtain ⟨kq, x27_3, rfl, HA, HJ3, HO_468002, HO_468003, BK456, BK457, BK467, HB⟩ := hcut; cases kq with
  | zero => exact absurd HA.1 (by simp [impl_IndexHas.j0])
  | succ kj3 =>
   have H := HA.1; clear HA; simp only [impl_IndexHas.j0] at H
   by_cases c29 : x27_3 = true
   ·subst c29; replace H := zy1 H; simp only [Option.some.injEq, Prod.mk.injEq] at H; obtain ⟨rfl, rfl, rfl, rfl, rfl⟩ := H; have hnb30 := NB457_456.1; have hnc30 := NB456_457.1; have hnb31 := NB457_467.1; have hnc31 := NB467_457.1; obtain ⟨hcz32_0, hcz32_1, hcz32_2, hcz32_3, hfz32_0, hfz32_1, hfz32_2, hfz32_3⟩ := zc4f BK457.1
    go_wp2
    refine bodyPost_ret (results_ct rfl _ _ gb457 31 #[.int .i64 0, .int .i64 0, .slice none 0 0, .slice none 0 0] (0, 0) _ rfl (by exact zP BK457.1 (by rfl)) Tryd.underlying31 rfl (by kernel_rfl)) rfl ?_; exact ⟨_, _, by first | rfl | (simp [errW_none, errW_some] <;> rfl) | (simp [*, errW_none, errW_some] <;> rfl), by first | exact Kd.R_nil _ _ _ _ _ | exact Kd.N_nil _ _ _ _ _ | exact Kd.V_nil _ _ _ _ _ | exact Kd.Q_nil _ _ _ _ _ | exact Kd.S_nil _ _ _ _ _, by first | exact Kd.R_nil _ _ _ _ _ | exact Kd.N_nil _ _ _ _ _ | exact Kd.V_nil _ _ _ _ _ | exact Kd.Q_nil _ _ _ _ _ | exact Kd.S_nil _ _ _ _ _, by exact zB3 HB.1 GE456.1 GE457.1 GE467.1⟩
   ·replace c29 := Bool.eq_false_iff.mpr c29; subst c29; replace H := zy0 H; simp only [Option.some.injEq, Prod.mk.injEq] at H; obtain ⟨rfl, rfl, rfl, rfl, rfl⟩ := H; have hnb33 := NB467_456.1; have hnc33 := NB456_467.1; have hnb34 := NB467_457.1; have hnc34 := NB457_467.1; obtain ⟨hcz35_0, hcz35_1, hcz35_2, hcz35_3, hfz35_0, hfz35_1, hfz35_2, hfz35_3⟩ := zc4f BK467.1; have hnb36 := NB457_456.1; have hnc36 := NB456_457.1; obtain ⟨hcz37_0, hcz37_1, hcz37_2, hcz37_3, hfz37_0, hfz37_1, hfz37_2, hfz37_3⟩ := zc4f BK457.1
    go_wp2
    refine bodyPost_ret (results_ct rfl _ _ gb457 31 #[.int .i64 t458, .int .i64 t459, .slice Ao12 t460.length co12, .slice Ao13 t463.length co13] (0, 0) _ rfl (by exact zP BK457.1 (by rfl)) Tryd.underlying31 rfl (by kernel_rfl)) rfl ?_; exact ⟨_, _, by first | rfl | (simp [errW_none, errW_some] <;> rfl) | (simp [*, errW_none, errW_some] <;> rfl), by exact (Kd.R_mono (zFR (g := gb457) (Kd.R_types HO_468002.1 BK457.1 (by decide)) (fun _ hk => hk.2)) (fun _ hk => trivial)), by exact (Kd.R_mono (zFR (g := gb457) (Kd.R_types HO_468003.1 BK457.1 (by decide)) (fun _ hk => hk.2)) (fun _ hk => trivial)), by exact zB3 HB.1 GE456.1 GE457.1 GE467.1⟩

attribute [local go_sem high] eqA67 eqA69

/-! ### laws_luPkg: function 16 -/
mutual
def laws_luPkg.j0 : Nat → Bool → Int → Int → List (S67) → List (S69) → Int → Int → List (S67) → List (S69) → Option (Bool)
 | 0, _, _, _, _, _, _, _, _, _ => none
 | k + 1, x36, x474000, x474001, x474002, x474003, x475000, x475001, x475002, x475003 => if x36 = true then (some false) else (laws_luPkg.l0 k 0 x474000 x474001 x474002 x474003 x475000 x475001 x475002 x475003)
def laws_luPkg.l0 : Nat → Int → Int → Int → List (S67) → List (S69) → Int → Int → List (S67) → List (S69) → Option (Bool)
 | 0, _, _, _, _, _, _, _, _, _ => none
 | k + 1, x5, x474000, x474001, x474002, x474003, x475000, x475001, x475002, x475003 => if x5 < (x474002.length : Int) then (if 0 ≤ x5 then (if x5 < (x475002.length : Int) then (if (!(((rd_T67 x474002 x5).f0) == ((rd_T67 x475002 x5).f0)) || (!(((rd_T67 x474002 x5).f1) == ((rd_T67 x475002 x5).f1)))) = true then (some false) else (laws_luPkg.l0 k (wrap64 (x5 + 1)) x474000 x474001 x474002 x474003 x475000 x475001 x475002 x475003)) else (none)) else (none)) else (laws_luPkg.l1 k 0 x474000 x474001 x474002 x474003 x475000 x475001 x475002 x475003)
def laws_luPkg.l1 : Nat → Int → Int → Int → List (S67) → List (S69) → Int → Int → List (S67) → List (S69) → Option (Bool)
 | 0, _, _, _, _, _, _, _, _, _ => none
 | k + 1, x6, x474000, x474001, x474002, x474003, x475000, x475001, x475002, x475003 => if x6 < (x474003.length : Int) then (if 0 ≤ x6 then (if x6 < (x475003.length : Int) then (if (!(((rd_T69 x474003 x6).f0) == ((rd_T69 x475003 x6).f0)) || (!(((rd_T69 x474003 x6).f1) == ((rd_T69 x475003 x6).f1)))) = true then (some false) else (laws_luPkg.l1 k (wrap64 (x6 + 1)) x474000 x474001 x474002 x474003 x475000 x475001 x475002 x475003)) else (none)) else (none)) else (some true)
end
def laws_luPkg.f (k : Nat) (a0_0 : Int) (a0_1 : Int) (l0_2 : List (S67)) (l0_3 : List (S69)) (a1_0 : Int) (a1_1 : Int) (l1_2 : List (S67)) (l1_3 : List (S69)) : Option (Bool) := if a0_0 = a1_0 then (if a0_1 = a1_1 then (if (l0_2.length : Int) = (l1_2.length : Int) then (laws_luPkg.j0 k ((l0_3.length : Int) != (l1_3.length : Int)) a0_0 a0_1 l0_2 l0_3 a1_0 a1_1 l1_2 l1_3) else (laws_luPkg.j0 k true a0_0 a0_1 l0_2 l0_3 a1_0 a1_1 l1_2 l1_3)) else (laws_luPkg.j0 k true a0_0 a0_1 l0_2 l0_3 a1_0 a1_1 l1_2 l1_3)) else (laws_luPkg.j0 k true a0_0 a0_1 l0_2 l0_3 a1_0 a1_1 l1_2 l1_3)
theorem laws_luPkg.mono_l : ∀ k, (∀ y0 y1 y2 y3 y4 y5 y6 y7 y8, LeO (laws_luPkg.j0 k y0 y1 y2 y3 y4 y5 y6 y7 y8) (laws_luPkg.j0 (k + 1) y0 y1 y2 y3 y4 y5 y6 y7 y8)) ∧ (∀ y0 y1 y2 y3 y4 y5 y6 y7 y8, LeO (laws_luPkg.l0 k y0 y1 y2 y3 y4 y5 y6 y7 y8) (laws_luPkg.l0 (k + 1) y0 y1 y2 y3 y4 y5 y6 y7 y8)) ∧ (∀ y0 y1 y2 y3 y4 y5 y6 y7 y8, LeO (laws_luPkg.l1 k y0 y1 y2 y3 y4 y5 y6 y7 y8) (laws_luPkg.l1 (k + 1) y0 y1 y2 y3 y4 y5 y6 y7 y8))
 | 0 => ⟨fun _ _ _ _ _ _ _ _ _ r h => by simp [laws_luPkg.j0] at h, fun _ _ _ _ _ _ _ _ _ r h => by simp [laws_luPkg.l0] at h, fun _ _ _ _ _ _ _ _ _ r h => by simp [laws_luPkg.l1] at h⟩
 | k + 1 => by
  obtain ⟨ih0, ih1, ih2⟩ := laws_luPkg.mono_l k
  refine ⟨?_, ?_, ?_⟩
  ·intro y0 y1 y2 y3 y4 y5 y6 y7 y8
   unfold laws_luPkg.j0
   repeat' first
   | (with_reducible exact ih0 _ _ _ _ _ _ _ _ _)
   | (with_reducible exact ih1 _ _ _ _ _ _ _ _ _)
   | (with_reducible exact ih2 _ _ _ _ _ _ _ _ _)
   | (with_reducible exact LeO.refl _)
   | (with_reducible exact LeO.none _)
   | (with_reducible refine LeO.ite ?_ ?_)
   | (with_reducible refine LeO.bind ?_ (fun _ => ?_))
   | exact ih0 _ _ _ _ _ _ _ _ _
   | exact ih1 _ _ _ _ _ _ _ _ _
   | exact ih2 _ _ _ _ _ _ _ _ _
   | exact LeO.none _
   | refine LeO.ite ?_ ?_
   | refine LeO.bind ?_ (fun _ => ?_)
  ·intro y0 y1 y2 y3 y4 y5 y6 y7 y8
   unfold laws_luPkg.l0
   repeat' first
   | (with_reducible exact ih0 _ _ _ _ _ _ _ _ _)
   | (with_reducible exact ih1 _ _ _ _ _ _ _ _ _)
   | (with_reducible exact ih2 _ _ _ _ _ _ _ _ _)
   | (with_reducible exact LeO.refl _)
   | (with_reducible exact LeO.none _)
   | (with_reducible refine LeO.ite ?_ ?_)
   | (with_reducible refine LeO.bind ?_ (fun _ => ?_))
   | exact ih0 _ _ _ _ _ _ _ _ _
   | exact ih1 _ _ _ _ _ _ _ _ _
   | exact ih2 _ _ _ _ _ _ _ _ _
   | exact LeO.none _
   | refine LeO.ite ?_ ?_
   | refine LeO.bind ?_ (fun _ => ?_)
  ·intro y0 y1 y2 y3 y4 y5 y6 y7 y8
   unfold laws_luPkg.l1
   repeat' first
   | (with_reducible exact ih0 _ _ _ _ _ _ _ _ _)
   | (with_reducible exact ih1 _ _ _ _ _ _ _ _ _)
   | (with_reducible exact ih2 _ _ _ _ _ _ _ _ _)
   | (with_reducible exact LeO.refl _)
   | (with_reducible exact LeO.none _)
   | (with_reducible refine LeO.ite ?_ ?_)
   | (with_reducible refine LeO.bind ?_ (fun _ => ?_))
   | exact ih0 _ _ _ _ _ _ _ _ _
   | exact ih1 _ _ _ _ _ _ _ _ _
   | exact ih2 _ _ _ _ _ _ _ _ _
   | exact LeO.none _
   | refine LeO.ite ?_ ?_
   | refine LeO.bind ?_ (fun _ => ?_)
theorem laws_luPkg.mono : ∀ a0 a1 a2 a3 a4 a5 a6 a7 k, LeO (laws_luPkg.f k a0 a1 a2 a3 a4 a5 a6 a7) (laws_luPkg.f (k + 1) a0 a1 a2 a3 a4 a5 a6 a7) := by
 intro a0 a1 a2 a3 a4 a5 a6 a7 k
 obtain ⟨ih0, ih1, ih2⟩ := laws_luPkg.mono_l k
 unfold laws_luPkg.f
 repeat' with_reducible first | apply ih0 | apply ih1 | apply ih2 | exact LeO.refl _ | exact LeO.none _ | refine LeO.ite ?_ ?_ | refine LeO.bind ?_ (fun _ => ?_)
set_option maxHeartbeats 8000000 in
set_option maxRecDepth 100000 in
theorem laws_luPkg.calls (k : Nat) (a0_0 : Int) (a0_1 : Int) (A0_2 : Option Addr) (c0_2 : Nat) (l0_2 : List (S67)) (A0_3 : Option Addr) (c0_3 : Nat) (l0_3 : List (S69)) (a1_0 : Int) (a1_1 : Int) (A1_2 : Option Addr) (c1_2 : Nat) (l1_2 : List (S67)) (A1_3 : Option Addr) (c1_3 : Nat) (l1_3 : List (S69)) (r : Bool) (w : World) (hr0_2 : Kd.C k67 w A0_2 l0_2.length l0_2) (hc0_2 : l0_2.length ≤ c0_2) (hr0_3 : Kd.C k69 w A0_3 l0_3.length l0_3) (hc0_3 : l0_3.length ≤ c0_3) (hr1_2 : Kd.C k67 w A1_2 l1_2.length l1_2) (hc1_2 : l1_2.length ≤ c1_2) (hr1_3 : Kd.C k69 w A1_3 l1_3.length l1_3) (hc1_3 : l1_3.length ≤ c1_3) (h : laws_luPkg.f k a0_0 a0_1 l0_2 l0_3 a1_0 a1_1 l1_2 l1_3 = some r) :
  Calls Tryd.prog 16 #[.agg #[.int .i64 a0_0, .int .i64 a0_1, .slice A0_2 l0_2.length c0_2, .slice A0_3 l0_3.length c0_3], .agg #[.int .i64 a1_0, .int .i64 a1_1, .slice A1_2 l1_2.length c1_2, .slice A1_3 l1_3.length c1_3]] w fun e w' => e = .returned (.bool r) ∧ Below w.heap.size w w' := by
 have hu31 := Tryd.underlying31; have hu67 := Tryd.underlying67; have hu69 := Tryd.underlying69; have HR0_2 := aM hr0_2; have HC0_2 := aM hc0_2; clear hr0_2 hc0_2; have HR0_3 := aM hr0_3; have HC0_3 := aM hc0_3; clear hr0_3 hc0_3; have HR1_2 := aM hr1_2; have HC1_2 := aM hc1_2; clear hr1_2 hc1_2; have HR1_3 := aM hr1_3; have HC1_3 := aM hc1_3; clear hr1_3 hc1_3; have HB := aM (Below.refl w.heap.size w); have H : (if a0_0 = a1_0 then (if a0_1 = a1_1 then (if (l0_2.length : Int) = (l1_2.length : Int) then (laws_luPkg.j0 k ((l0_3.length : Int) != (l1_3.length : Int)) a0_0 a0_1 l0_2 l0_3 a1_0 a1_1 l1_2 l1_3) else (laws_luPkg.j0 k true a0_0 a0_1 l0_2 l0_3 a1_0 a1_1 l1_2 l1_3)) else (laws_luPkg.j0 k true a0_0 a0_1 l0_2 l0_3 a1_0 a1_1 l1_2 l1_3)) else (laws_luPkg.j0 k true a0_0 a0_1 l0_2 l0_3 a1_0 a1_1 l1_2 l1_3)) = some r := h; clear h; have HC3 := aM H; clear H
 go_enter Tryd.func16, Tryd.ntmps16
 go_upto_region 1 with (first | ((with_reducible refine gate_dst (N := 2) rfl ?_); (try (refine gate_guard (by rfl) ?_; dsimp only)); refine box_event ?hg (N := 2) ?hd (cs := #[.int .i64 a0_0, .int .i64 a0_1, .slice A0_2 l0_2.length c0_2, .slice A0_3 l0_3.length c0_3]) (t := 31) ?hr ?_; (case hd => rfl); (case hg => rfl); (case hr => first | (go_simp; done) | (go_simp; rfl)); intro gb473 hg w4 hbox hb; have _ := aM (below_step (zB HB.1) hb); have _ := aM (hbox); have _ := aM (zge hg (zB HB.1)); have _ := aM (zge hg (zB HB.1)); clear HB; rename_i HB BK473 GW473 GE473; clear hb hbox hg) | ((with_reducible refine gate_dst (N := 3) rfl ?_); (try (refine gate_guard (by rfl) ?_; dsimp only)); refine box_event ?hg (N := 3) ?hd (cs := #[.int .i64 a1_0, .int .i64 a1_1, .slice A1_2 l1_2.length c1_2, .slice A1_3 l1_3.length c1_3]) (t := 31) ?hr ?_; (case hd => rfl); (case hg => rfl); (case hr => first | (go_simp; done) | (go_simp; rfl)); intro gb474 hg w5 hbox hb; have _ := aM (blk_below (zK BK473.1) hb); have _ := aM (below_step (zB1 HB.1 GE473.1) hb); have _ := aM (hbox); have _ := aM (zge hg (zB1 HB.1 GE473.1)); have _ := aM (zge hg (zB1 HB.1 GE473.1)); have _ := aM (znl hg (zK BK473.1)); have _ := aM (zng hg (zK BK473.1)); clear BK473 HB; rename_i BK473 HB BK474 GW474 GE474 NB473_474 NB474_473; clear hb hbox hg))
 repeat (go_quiet (fail); go_upto_region 1 with (first | ((with_reducible refine gate_dst (N := 2) rfl ?_); (try (refine gate_guard (by rfl) ?_; dsimp only)); refine box_event ?hg (N := 2) ?hd (cs := #[.int .i64 a0_0, .int .i64 a0_1, .slice A0_2 l0_2.length c0_2, .slice A0_3 l0_3.length c0_3]) (t := 31) ?hr ?_; (case hd => rfl); (case hg => rfl); (case hr => first | (go_simp; done) | (go_simp; rfl)); intro gb473 hg w4 hbox hb; have _ := aM (below_step (zB HB.1) hb); have _ := aM (hbox); have _ := aM (zge hg (zB HB.1)); have _ := aM (zge hg (zB HB.1)); clear HB; rename_i HB BK473 GW473 GE473; clear hb hbox hg) | ((with_reducible refine gate_dst (N := 3) rfl ?_); (try (refine gate_guard (by rfl) ?_; dsimp only)); refine box_event ?hg (N := 3) ?hd (cs := #[.int .i64 a1_0, .int .i64 a1_1, .slice A1_2 l1_2.length c1_2, .slice A1_3 l1_3.length c1_3]) (t := 31) ?hr ?_; (case hd => rfl); (case hg => rfl); (case hr => first | (go_simp; done) | (go_simp; rfl)); intro gb474 hg w5 hbox hb; have _ := aM (blk_below (zK BK473.1) hb); have _ := aM (below_step (zB1 HB.1 GE473.1) hb); have _ := aM (hbox); have _ := aM (zge hg (zB1 HB.1 GE473.1)); have _ := aM (zge hg (zB1 HB.1 GE473.1)); have _ := aM (znl hg (zK BK473.1)); have _ := aM (zng hg (zK BK473.1)); clear BK473 HB; rename_i BK473 HB BK474 GW474 GE474 NB473_474 NB474_473; clear hb hbox hg)))
 (try simp only [zp0, zp1, zp2, zp3, zp4])
 go_cut [36] (fun v36 wc => ∃ (kq : Nat) (x36_2 : Bool), v36 = .bool x36_2 ∧ Aside0 (laws_luPkg.j0 kq x36_2 a0_0 a0_1 l0_2 l0_3 a1_0 a1_1 l1_2 l1_3 = some r) ∧ Aside0 (kq ≤ k) ∧ Aside0 (wc.heap[gb473]? = some (.cells #[.int .i64 a0_0, .int .i64 a0_1, (.slice A0_2 l0_2.length c0_2), (.slice A0_3 l0_3.length c0_3)] 31 (0, 0))) ∧ Aside0 (wc.heap[gb474]? = some (.cells #[.int .i64 a1_0, .int .i64 a1_1, (.slice A1_2 l1_2.length c1_2), (.slice A1_3 l1_3.length c1_3)] 31 (0, 0))) ∧ Aside0 (Below w.heap.size w wc))
 case first =>
  have H := HC3.1; clear HC3
  by_cases c6 : a0_0 = a1_0
  ·rw [if_pos c6] at H; have c6b0 : (a0_0 == a1_0) = true := beq_iff_eq.mpr c6; have c6b1 : (a0_0 != a1_0) = false := bne_eq_false_iff_eq.mpr c6; clear c6; (first | rw [c6b0] | (simp only [i64_w, i32_w]; rw [c6b0]) | skip)
   by_cases c7 : a0_1 = a1_1
   ·rw [if_pos c7] at H; have c7b0 : (a0_1 == a1_1) = true := beq_iff_eq.mpr c7; have c7b1 : (a0_1 != a1_1) = false := bne_eq_false_iff_eq.mpr c7; clear c7
    by_cases c8 : (l0_2.length : Int) = (l1_2.length : Int)
    ·rw [if_pos c8] at H; have c8b0 : ((l0_2.length : Int) == (l1_2.length : Int)) = true := beq_iff_eq.mpr c8; have c8b1 : ((l0_2.length : Int) != (l1_2.length : Int)) = false := bne_eq_false_iff_eq.mpr c8
     have c8b2 : (l0_2.length == l1_2.length) = true := by first | simpa using c8 | (simp at c8 ⊢; omega)
     clear c8; have H' := aM H; clear H; have hnb9 := NB473_474.1; have hnc9 := NB474_473.1; obtain ⟨hcz10_0, hcz10_1, hcz10_2, hcz10_3, hfz10_0, hfz10_1, hfz10_2, hfz10_3⟩ := zc4f BK473.1; obtain ⟨hcz11_0, hcz11_1, hcz11_2, hcz11_3, hfz11_0, hfz11_1, hfz11_2, hfz11_3⟩ := zc4f BK474.1
     go_wp2
     repeat (go_quiet (fail); try go_wp2)
     go_meet
     case rel => exact ⟨_, (((l0_3.length : Int) != (l1_3.length : Int))), (by first | rfl | (simp; done) | (simp [*]; done)), H', ⟨by first | omega | exact Nat.le_refl _⟩, ⟨zK BK473.1⟩, ⟨zK BK474.1⟩, ⟨zB2 HB.1 GE473.1 GE474.1⟩⟩
    ·rw [if_neg c8] at H; have c8b0 : ((l0_2.length : Int) == (l1_2.length : Int)) = false := beq_eq_false_iff_ne.mpr c8; have c8b1 : ((l0_2.length : Int) != (l1_2.length : Int)) = true := bne_iff_ne.mpr c8
     have c8b2 : (l0_2.length == l1_2.length) = false := by first | simpa using c8 | (simp at c8 ⊢; omega)
     have H' := aM H; clear H; have hnb12 := NB473_474.1; have hnc12 := NB474_473.1; obtain ⟨hcz13_0, hcz13_1, hcz13_2, hcz13_3, hfz13_0, hfz13_1, hfz13_2, hfz13_3⟩ := zc4f BK473.1; obtain ⟨hcz14_0, hcz14_1, hcz14_2, hcz14_3, hfz14_0, hfz14_1, hfz14_2, hfz14_3⟩ := zc4f BK474.1
     go_wp2
     repeat (go_quiet (fail); try go_wp2)
     go_meet
     case rel => exact ⟨_, (true), (by first | rfl | (simp; done) | (simp [*]; done)), H', ⟨by first | omega | exact Nat.le_refl _⟩, ⟨zK BK473.1⟩, ⟨zK BK474.1⟩, ⟨zB2 HB.1 GE473.1 GE474.1⟩⟩
   ·rw [if_neg c7] at H; have c7b0 : (a0_1 == a1_1) = false := beq_eq_false_iff_ne.mpr c7; have c7b1 : (a0_1 != a1_1) = true := bne_iff_ne.mpr c7; have H' := aM H; clear H; have hnb15 := NB473_474.1; have hnc15 := NB474_473.1; obtain ⟨hcz16_0, hcz16_1, hcz16_2, hcz16_3, hfz16_0, hfz16_1, hfz16_2, hfz16_3⟩ := zc4f BK473.1; obtain ⟨hcz17_0, hcz17_1, hcz17_2, hcz17_3, hfz17_0, hfz17_1, hfz17_2, hfz17_3⟩ := zc4f BK474.1
    go_wp2
    repeat (go_quiet (fail); try go_wp2)
    go_meet
    case rel => exact ⟨_, (true), (by first | rfl | (simp; done) | (simp [*]; done)), H', ⟨by first | omega | exact Nat.le_refl _⟩, ⟨zK BK473.1⟩, ⟨zK BK474.1⟩, ⟨zB2 HB.1 GE473.1 GE474.1⟩⟩
  ·rw [if_neg c6] at H; have c6b0 : (a0_0 == a1_0) = false := beq_eq_false_iff_ne.mpr c6; have c6b1 : (a0_0 != a1_0) = true := bne_iff_ne.mpr c6; (first | rw [c6b0] | (simp only [i64_w, i32_w]; rw [c6b0]) | skip); have H' := aM H; clear H; have hnb18 := NB473_474.1; have hnc18 := NB474_473.1; obtain ⟨hcz19_0, hcz19_1, hcz19_2, hcz19_3, hfz19_0, hfz19_1, hfz19_2, hfz19_3⟩ := zc4f BK473.1; obtain ⟨hcz20_0, hcz20_1, hcz20_2, hcz20_3, hfz20_0, hfz20_1, hfz20_2, hfz20_3⟩ := zc4f BK474.1
   go_wp2
   repeat (go_quiet (fail); try go_wp2)
   go_meet
   case rel => exact ⟨_, (true), (by first | rfl | (simp; done) | (simp [*]; done)), H', ⟨by first | omega | exact Nat.le_refl _⟩, ⟨zK BK473.1⟩, ⟨zK BK474.1⟩, ⟨zB2 HB.1 GE473.1 GE474.1⟩⟩
 case rest =>
  clear HC3
  try clear c1
  try clear p2
  try clear c6
  try clear c6b0
  try clear c6b1
  try clear c7
  try clear c7b0
  try clear c7b1
  try clear c8
  try clear c8b0
  try clear c8b1
  try clear c8b2
  try clear c9
  try clear c12
  try clear c15
  try clear c16
  try clear c18
  try clear hcz10_0
  try clear hcz10_1
  try clear hcz10_2
  try clear hcz10_3
  try clear hcz11_0
  try clear hcz11_1
  try clear hcz11_2
  try clear hcz11_3
  try clear hcz13_0
  try clear hcz13_1
  try clear hcz13_2
  try clear hcz13_3
  try clear hcz14_0
  try clear hcz14_1
  try clear hcz14_2
  try clear hcz14_3
  try clear hcz16_0
  try clear hcz16_1
  try clear hcz16_2
  try clear hcz16_3
  try clear hcz17_0
  try clear hcz17_1
  try clear hcz17_2
  try clear hcz17_3
  try clear hcz19_0
  try clear hcz19_1
  try clear hcz19_2
  try clear hcz19_3
  try clear hcz20_0
  try clear hcz20_1
  try clear hcz20_2
  try clear hcz20_3
  try clear hfz10_0
  try clear hfz10_1
  try clear hfz10_2
  try clear hfz10_3
  try clear hfz11_0
  try clear hfz11_1
  try clear hfz11_2
  try clear hfz11_3
  try clear hfz13_0
  try clear hfz13_1
  try clear hfz13_2
  try clear hfz13_3
  try clear hfz14_0
  try clear hfz14_1
  try clear hfz14_2
  try clear hfz14_3
  try clear hfz16_0
  try clear hfz16_1
  try clear hfz16_2
  try clear hfz16_3
  try clear hfz17_0
  try clear hfz17_1
  try clear hfz17_2
  try clear hfz17_3
  try clear hfz19_0
  try clear hfz19_1
  try clear hfz19_2
  try clear hfz19_3
  try clear hfz20_0
  try clear hfz20_1
  try clear hfz20_2
  try clear hfz20_3
  obtain ⟨kq, x36_2, rfl, HA, HJ2, BK473, BK474, HB⟩ := hcut; cases kq with
  | zero => exact absurd HA.1 (by simp [laws_luPkg.j0])
  | succ kj2 =>
   have H := HA.1; clear HA; simp only [laws_luPkg.j0] at H
   by_cases c21 : x36_2 = true
   ·subst c21; replace H := zy1 H; obtain rfl := Option.some.inj H
    go_wp2
    repeat (go_quiet (fail); try go_wp2)
    go_ret
    exact ⟨by first | rfl | (simp [errW_none, errW_some] <;> rfl) | (simp [*, errW_none, errW_some] <;> rfl), by exact zB2 HB.1 GE473.1 GE474.1⟩
   ·replace c21 := Bool.eq_false_iff.mpr c21; subst c21; replace H := zy0 H; have H' := aM H; clear H
    go_wp2
    repeat (go_quiet (fail); try go_wp2)
    go_loopg [5] kj2 (fun kq v5 w' => ∃ (x5_2 : Int), v5 = .int .i64 x5_2 ∧ Aside0 (laws_luPkg.l0 kq x5_2 a0_0 a0_1 l0_2 l0_3 a1_0 a1_1 l1_2 l1_3 = some r) ∧ Aside0 (kq ≤ kj2) ∧ Aside0 (w'.heap[gb473]? = some (.cells #[.int .i64 a0_0, .int .i64 a0_1, (.slice A0_2 l0_2.length c0_2), (.slice A0_3 l0_3.length c0_3)] 31 (0, 0))) ∧ Aside0 (w'.heap[gb474]? = some (.cells #[.int .i64 a1_0, .int .i64 a1_1, (.slice A1_2 l1_2.length c1_2), (.slice A1_3 l1_3.length c1_3)] 31 (0, 0))) ∧ Aside0 (Below w.heap.size w w'))
    case atStart => exact ⟨(0), (by first | rfl | (simp; done) | (simp [*]; done)), H', ⟨Nat.le_refl _⟩, ⟨zK BK473.1⟩, ⟨zK BK474.1⟩, ⟨zB2 HB.1 GE473.1 GE474.1⟩⟩
    case round =>
     clear H'
     try clear c1
     try clear c2
     try clear p2
     try clear c6
     try clear c6b0
     try clear c6b1
     try clear c7
     try clear c7b0
     try clear c7b1
     try clear c8
     try clear c8b0
     try clear c8b1
     try clear c8b2
     try clear c9
     try clear c12
     try clear c15
     try clear c16
     try clear c18
     try clear c21
     try clear hcz10_0
     try clear hcz10_1
     try clear hcz10_2
     try clear hcz10_3
     try clear hcz11_0
     try clear hcz11_1
     try clear hcz11_2
     try clear hcz11_3
     try clear hcz13_0
     try clear hcz13_1
     try clear hcz13_2
     try clear hcz13_3
     try clear hcz14_0
     try clear hcz14_1
     try clear hcz14_2
     try clear hcz14_3
     try clear hcz16_0
     try clear hcz16_1
     try clear hcz16_2
     try clear hcz16_3
     try clear hcz17_0
     try clear hcz17_1
     try clear hcz17_2
     try clear hcz17_3
     try clear hcz19_0
     try clear hcz19_1
     try clear hcz19_2
     try clear hcz19_3
     try clear hcz20_0
     try clear hcz20_1
     try clear hcz20_2
     try clear hcz20_3
     try clear hfz10_0
     try clear hfz10_1
     try clear hfz10_2
     try clear hfz10_3
     try clear hfz11_0
     try clear hfz11_1
     try clear hfz11_2
     try clear hfz11_3
     try clear hfz13_0
     try clear hfz13_1
     try clear hfz13_2
     try clear hfz13_3
     try clear hfz14_0
     try clear hfz14_1
     try clear hfz14_2
     try clear hfz14_3
     try clear hfz16_0
     try clear hfz16_1
     try clear hfz16_2
     try clear hfz16_3
     try clear hfz17_0
     try clear hfz17_1
     try clear hfz17_2
     try clear hfz17_3
     try clear hfz19_0
     try clear hfz19_1
     try clear hfz19_2
     try clear hfz19_3
     try clear hfz20_0
     try clear hfz20_1
     try clear hfz20_2
     try clear hfz20_3
     try clear p2
     obtain ⟨x5_2, rfl, HA, HK2, BK473, BK474, HB⟩ := hrel; cases gk with
     | zero => exact absurd HA.1 (by simp [laws_luPkg.l0])
     | succ k2 =>
      have H := HA.1; clear HA; simp only [laws_luPkg.l0] at H
      by_cases c22 : x5_2 < (l0_2.length : Int)
      ·rw [if_pos c22] at H; have c22b0 : decide (x5_2 < (l0_2.length : Int)) = true := decide_eq_true c22; clear c22; replace H := zif H; obtain ⟨c23, H⟩ := H; have c23b0 : decide (0 ≤ x5_2) = true := decide_eq_true c23; clear c23; replace H := zif H; obtain ⟨c24, H⟩ := H; have c24b0 : decide (x5_2 < (l1_2.length : Int)) = true := decide_eq_true c24; clear c24
       by_cases c25 : (!(((rd_T67 l0_2 x5_2).f0) == ((rd_T67 l1_2 x5_2).f0)) || (!(((rd_T67 l0_2 x5_2).f1) == ((rd_T67 l1_2 x5_2).f1)))) = true
       ·rw [if_pos c25] at H; have c25b0 : (!(((rd_T67 l0_2 x5_2).f0) == ((rd_T67 l1_2 x5_2).f0)) || (!(((rd_T67 l0_2 x5_2).f1) == ((rd_T67 l1_2 x5_2).f1)))) = true := c25; clear c25; obtain rfl := Option.some.inj H; have hnb26 := NB473_474.1; have hnc26 := NB474_473.1; obtain ⟨hcz27_0, hcz27_1, hcz27_2, hcz27_3, hfz27_0, hfz27_1, hfz27_2, hfz27_3⟩ := zc4f BK473.1; have p475 : 0 ≤ (x5_2 : Int) := zd; have q475 : x5_2 < (l0_2.length : Int) := zd; obtain ⟨ad475, e475, hx475_0, hx475_1⟩ := at_T67 HR0_2.1 x5_2 p475 q475; cases e475; replace hx475_0 := (HB.1.cell (World.block_lt_of_cell? w _ hx475_0)).trans hx475_0; replace hx475_1 := (HB.1.cell (World.block_lt_of_cell? w _ hx475_1)).trans hx475_1; replace p475 := eq_true p475; replace q475 := eq_true q475; obtain ⟨hcz28_0, hcz28_1, hcz28_2, hcz28_3, hfz28_0, hfz28_1, hfz28_2, hfz28_3⟩ := zc4f BK474.1; have p476 : 0 ≤ (x5_2 : Int) := zd; have q476 : x5_2 < (l1_2.length : Int) := zd; obtain ⟨ad476, e476, hx476_0, hx476_1⟩ := at_T67 HR1_2.1 x5_2 p476 q476; cases e476; replace hx476_0 := (HB.1.cell (World.block_lt_of_cell? w _ hx476_0)).trans hx476_0; replace hx476_1 := (HB.1.cell (World.block_lt_of_cell? w _ hx476_1)).trans hx476_1; replace p476 := eq_true p476; replace q476 := eq_true q476
        go_wp2
        repeat (go_quiet (fail); try go_wp2)
        go_ret
        exact ⟨by first | rfl | (simp [errW_none, errW_some] <;> rfl) | (simp [*, errW_none, errW_some] <;> rfl), by exact zB2 HB.1 GE473.1 GE474.1⟩
       ·rw [if_neg c25] at H
        have c25b0 : (!(((rd_T67 l0_2 x5_2).f0) == ((rd_T67 l1_2 x5_2).f0)) || (!(((rd_T67 l0_2 x5_2).f1) == ((rd_T67 l1_2 x5_2).f1)))) = false := by simpa using c25
        clear c25; have H' := aM H; clear H; have hnb29 := NB473_474.1; have hnc29 := NB474_473.1; obtain ⟨hcz30_0, hcz30_1, hcz30_2, hcz30_3, hfz30_0, hfz30_1, hfz30_2, hfz30_3⟩ := zc4f BK473.1; have p475 : 0 ≤ (x5_2 : Int) := zd; have q475 : x5_2 < (l0_2.length : Int) := zd; obtain ⟨ad475, e475, hx475_0, hx475_1⟩ := at_T67 HR0_2.1 x5_2 p475 q475; cases e475; replace hx475_0 := (HB.1.cell (World.block_lt_of_cell? w _ hx475_0)).trans hx475_0; replace hx475_1 := (HB.1.cell (World.block_lt_of_cell? w _ hx475_1)).trans hx475_1; replace p475 := eq_true p475; replace q475 := eq_true q475; obtain ⟨hcz31_0, hcz31_1, hcz31_2, hcz31_3, hfz31_0, hfz31_1, hfz31_2, hfz31_3⟩ := zc4f BK474.1; have p476 : 0 ≤ (x5_2 : Int) := zd; have q476 : x5_2 < (l1_2.length : Int) := zd; obtain ⟨ad476, e476, hx476_0, hx476_1⟩ := at_T67 HR1_2.1 x5_2 p476 q476; cases e476; replace hx476_0 := (HB.1.cell (World.block_lt_of_cell? w _ hx476_0)).trans hx476_0; replace hx476_1 := (HB.1.cell (World.block_lt_of_cell? w _ hx476_1)).trans hx476_1; replace p476 := eq_true p476; replace q476 := eq_true q476
        go_wp2
        repeat (go_quiet (fail); try go_wp2)
        go_roundg k2
        case measure => have := HJ2.1; have := HK2.1; omega
        case rel => exact ⟨(wrap64 (x5_2 + 1)), (by first | rfl | (simp; done) | (simp [*]; done)), H', ⟨by have := HJ2.1; have := HK2.1; omega⟩, ⟨zK BK473.1⟩, ⟨zK BK474.1⟩, ⟨zB2 HB.1 GE473.1 GE474.1⟩⟩
      ·rw [if_neg c22] at H; have c22b0 : decide (x5_2 < (l0_2.length : Int)) = false := decide_eq_false c22; clear c22; have H' := aM H; clear H; have hnb32 := NB473_474.1; have hnc32 := NB474_473.1; obtain ⟨hcz33_0, hcz33_1, hcz33_2, hcz33_3, hfz33_0, hfz33_1, hfz33_2, hfz33_3⟩ := zc4f BK473.1
       go_wp2
       repeat (go_quiet (fail); try go_wp2)
       go_loopg [6] k2 (fun kq v6 w' => ∃ (x6_3 : Int), v6 = .int .i64 x6_3 ∧ Aside0 (laws_luPkg.l1 kq x6_3 a0_0 a0_1 l0_2 l0_3 a1_0 a1_1 l1_2 l1_3 = some r) ∧ Aside0 (kq ≤ k2) ∧ Aside0 (w'.heap[gb473]? = some (.cells #[.int .i64 a0_0, .int .i64 a0_1, (.slice A0_2 l0_2.length c0_2), (.slice A0_3 l0_3.length c0_3)] 31 (0, 0))) ∧ Aside0 (w'.heap[gb474]? = some (.cells #[.int .i64 a1_0, .int .i64 a1_1, (.slice A1_2 l1_2.length c1_2), (.slice A1_3 l1_3.length c1_3)] 31 (0, 0))) ∧ Aside0 (Below w.heap.size w w'))
       case atStart => exact ⟨(0), (by first | rfl | (simp; done) | (simp [*]; done)), H', ⟨Nat.le_refl _⟩, ⟨zK BK473.1⟩, ⟨zK BK474.1⟩, ⟨zB2 HB.1 GE473.1 GE474.1⟩⟩
       case round =>
        clear H'
        try clear c1
        try clear c2
        try clear p2
        try clear c3
        try clear p4
        try clear q4
        try clear hx4
        try clear c6
        try clear c6b0
        try clear c6b1
        try clear p6
        try clear c7
        try clear c7b0
        try clear c7b1
        try clear c8
        try clear c8b0
        try clear c8b1
        try clear c8b2
        try clear c9
        try clear c12
        try clear c15
        try clear c16
        try clear c18
        try clear c21
        try clear c22
        try clear c22b0
        try clear c23
        try clear c23b0
        try clear c24
        try clear c24b0
        try clear c25
        try clear c25b0
        try clear c26
        try clear c29
        try clear c32
        try clear hcz10_0
        try clear hcz10_1
        try clear hcz10_2
        try clear hcz10_3
        try clear hcz11_0
        try clear hcz11_1
        try clear hcz11_2
        try clear hcz11_3
        try clear hcz13_0
        try clear hcz13_1
        try clear hcz13_2
        try clear hcz13_3
        try clear hcz14_0
        try clear hcz14_1
        try clear hcz14_2
        try clear hcz14_3
        try clear hcz16_0
        try clear hcz16_1
        try clear hcz16_2
        try clear hcz16_3
        try clear hcz17_0
        try clear hcz17_1
        try clear hcz17_2
        try clear hcz17_3
        try clear hcz19_0
        try clear hcz19_1
        try clear hcz19_2
        try clear hcz19_3
        try clear hcz20_0
        try clear hcz20_1
        try clear hcz20_2
        try clear hcz20_3
        try clear hcz27_0
        try clear hcz27_1
        try clear hcz27_2
        try clear hcz27_3
        try clear hcz28_0
        try clear hcz28_1
        try clear hcz28_2
        try clear hcz28_3
        try clear hcz30_0
        try clear hcz30_1
        try clear hcz30_2
        try clear hcz30_3
        try clear hcz31_0
        try clear hcz31_1
        try clear hcz31_2
        try clear hcz31_3
        try clear hcz33_0
        try clear hcz33_1
        try clear hcz33_2
        try clear hcz33_3
        try clear hfz10_0
        try clear hfz10_1
        try clear hfz10_2
        try clear hfz10_3
        try clear hfz11_0
        try clear hfz11_1
        try clear hfz11_2
        try clear hfz11_3
        try clear hfz13_0
        try clear hfz13_1
        try clear hfz13_2
        try clear hfz13_3
        try clear hfz14_0
        try clear hfz14_1
        try clear hfz14_2
        try clear hfz14_3
        try clear hfz16_0
        try clear hfz16_1
        try clear hfz16_2
        try clear hfz16_3
        try clear hfz17_0
        try clear hfz17_1
        try clear hfz17_2
        try clear hfz17_3
        try clear hfz19_0
        try clear hfz19_1
        try clear hfz19_2
        try clear hfz19_3
        try clear hfz20_0
        try clear hfz20_1
        try clear hfz20_2
        try clear hfz20_3
        try clear hfz27_0
        try clear hfz27_1
        try clear hfz27_2
        try clear hfz27_3
        try clear hfz28_0
        try clear hfz28_1
        try clear hfz28_2
        try clear hfz28_3
        try clear hfz30_0
        try clear hfz30_1
        try clear hfz30_2
        try clear hfz30_3
        try clear hfz31_0
        try clear hfz31_1
        try clear hfz31_2
        try clear hfz31_3
        try clear hfz33_0
        try clear hfz33_1
        try clear hfz33_2
        try clear hfz33_3
        try clear hx475_0
        try clear hx475_1
        try clear hx476_0
        try clear hx476_1
        try clear p2
        try clear p475
        try clear p476
        try clear q475
        try clear q476
        obtain ⟨x6_3, rfl, HA, HK3, BK473, BK474, HB⟩ := hrel; cases gk with
        | zero => exact absurd HA.1 (by simp [laws_luPkg.l1])
        | succ k3 =>
         have H := HA.1; clear HA; simp only [laws_luPkg.l1] at H
         by_cases c34 : x6_3 < (l0_3.length : Int)
         ·rw [if_pos c34] at H; have c34b0 : decide (x6_3 < (l0_3.length : Int)) = true := decide_eq_true c34; clear c34; replace H := zif H; obtain ⟨c35, H⟩ := H; have c35b0 : decide (0 ≤ x6_3) = true := decide_eq_true c35; clear c35; replace H := zif H; obtain ⟨c36, H⟩ := H; have c36b0 : decide (x6_3 < (l1_3.length : Int)) = true := decide_eq_true c36; clear c36
          by_cases c37 : (!(((rd_T69 l0_3 x6_3).f0) == ((rd_T69 l1_3 x6_3).f0)) || (!(((rd_T69 l0_3 x6_3).f1) == ((rd_T69 l1_3 x6_3).f1)))) = true
          ·rw [if_pos c37] at H; have c37b0 : (!(((rd_T69 l0_3 x6_3).f0) == ((rd_T69 l1_3 x6_3).f0)) || (!(((rd_T69 l0_3 x6_3).f1) == ((rd_T69 l1_3 x6_3).f1)))) = true := c37; clear c37; obtain rfl := Option.some.inj H; have hnb38 := NB473_474.1; have hnc38 := NB474_473.1; obtain ⟨hcz39_0, hcz39_1, hcz39_2, hcz39_3, hfz39_0, hfz39_1, hfz39_2, hfz39_3⟩ := zc4f BK473.1; have p477 : 0 ≤ (x6_3 : Int) := zd; have q477 : x6_3 < (l0_3.length : Int) := zd; obtain ⟨ad477, e477, hx477_0, hx477_1⟩ := at_T69 HR0_3.1 x6_3 p477 q477; cases e477; replace hx477_0 := (HB.1.cell (World.block_lt_of_cell? w _ hx477_0)).trans hx477_0; replace hx477_1 := (HB.1.cell (World.block_lt_of_cell? w _ hx477_1)).trans hx477_1; replace p477 := eq_true p477; replace q477 := eq_true q477; obtain ⟨hcz40_0, hcz40_1, hcz40_2, hcz40_3, hfz40_0, hfz40_1, hfz40_2, hfz40_3⟩ := zc4f BK474.1; have p478 : 0 ≤ (x6_3 : Int) := zd; have q478 : x6_3 < (l1_3.length : Int) := zd; obtain ⟨ad478, e478, hx478_0, hx478_1⟩ := at_T69 HR1_3.1 x6_3 p478 q478; cases e478; replace hx478_0 := (HB.1.cell (World.block_lt_of_cell? w _ hx478_0)).trans hx478_0; replace hx478_1 := (HB.1.cell (World.block_lt_of_cell? w _ hx478_1)).trans hx478_1; replace p478 := eq_true p478; replace q478 := eq_true q478
           go_wp2
           repeat (go_quiet (fail); try go_wp2)
           go_ret
           exact ⟨by first | rfl | (simp [errW_none, errW_some] <;> rfl) | (simp [*, errW_none, errW_some] <;> rfl), by exact zB2 HB.1 GE473.1 GE474.1⟩
          ·rw [if_neg c37] at H
           have c37b0 : (!(((rd_T69 l0_3 x6_3).f0) == ((rd_T69 l1_3 x6_3).f0)) || (!(((rd_T69 l0_3 x6_3).f1) == ((rd_T69 l1_3 x6_3).f1)))) = false := by simpa using c37
           clear c37; have H' := aM H; clear H; have hnb41 := NB473_474.1; have hnc41 := NB474_473.1; obtain ⟨hcz42_0, hcz42_1, hcz42_2, hcz42_3, hfz42_0, hfz42_1, hfz42_2, hfz42_3⟩ := zc4f BK473.1; have p477 : 0 ≤ (x6_3 : Int) := zd; have q477 : x6_3 < (l0_3.length : Int) := zd; obtain ⟨ad477, e477, hx477_0, hx477_1⟩ := at_T69 HR0_3.1 x6_3 p477 q477; cases e477; replace hx477_0 := (HB.1.cell (World.block_lt_of_cell? w _ hx477_0)).trans hx477_0; replace hx477_1 := (HB.1.cell (World.block_lt_of_cell? w _ hx477_1)).trans hx477_1; replace p477 := eq_true p477; replace q477 := eq_true q477; obtain ⟨hcz43_0, hcz43_1, hcz43_2, hcz43_3, hfz43_0, hfz43_1, hfz43_2, hfz43_3⟩ := zc4f BK474.1; have p478 : 0 ≤ (x6_3 : Int) := zd; have q478 : x6_3 < (l1_3.length : Int) := zd; obtain ⟨ad478, e478, hx478_0, hx478_1⟩ := at_T69 HR1_3.1 x6_3 p478 q478; cases e478; replace hx478_0 := (HB.1.cell (World.block_lt_of_cell? w _ hx478_0)).trans hx478_0; replace hx478_1 := (HB.1.cell (World.block_lt_of_cell? w _ hx478_1)).trans hx478_1; replace p478 := eq_true p478; replace q478 := eq_true q478
           go_wp2
           repeat (go_quiet (fail); try go_wp2)
           go_roundg k3
           case measure => have := HJ2.1; have := HK2.1; have := HK3.1; omega
           case rel => exact ⟨(wrap64 (x6_3 + 1)), (by first | rfl | (simp; done) | (simp [*]; done)), H', ⟨by have := HJ2.1; have := HK2.1; have := HK3.1; omega⟩, ⟨zK BK473.1⟩, ⟨zK BK474.1⟩, ⟨zB2 HB.1 GE473.1 GE474.1⟩⟩
         ·rw [if_neg c34] at H; have c34b0 : decide (x6_3 < (l0_3.length : Int)) = false := decide_eq_false c34; clear c34; obtain rfl := Option.some.inj H; have hnb44 := NB473_474.1; have hnc44 := NB474_473.1; obtain ⟨hcz45_0, hcz45_1, hcz45_2, hcz45_3, hfz45_0, hfz45_1, hfz45_2, hfz45_3⟩ := zc4f BK473.1
          go_wp2
          repeat (go_quiet (fail); try go_wp2)
          go_ret
          exact ⟨by first | rfl | (simp [errW_none, errW_some] <;> rfl) | (simp [*, errW_none, errW_some] <;> rfl), by exact zB2 HB.1 GE473.1 GE474.1⟩

attribute [local go_sem high] eqA40

end Go.Proofs.YtkjgnnjcjkphbaaDoor.PFnIndexTells
