-- printed for this claim by a program out of the translation, its tactics shortened by another
import Derived.Test.YtkjgnnjcjkphbaaGreatDoorPFnExactIndexHasx2
namespace Go.Proofs.YtkjgnnjcjkphbaaGreatDoor.PFnExactIndexHas
open Go.RowKit Go.Proofs.YtkjgnnjcjkphbaaGreatDoorW.PrintWords Go.Proofs.YtkjgnnjcjkphbaaGreatDoorW.PrintLast Go.Proofs.YtkjgnnjcjkphbaaGreatDoorW.PrintMore
attribute [local go_sem] max2_int min2_int max_two min_two max_three min_three max_four min_four   -- for this text's walks alone
set_option linter.unusedVariables false
set_option linter.unusedSimpArgs false

/-! ### impl_PkgRead: function 17 -/
def impl_PkgRead.l0 : Nat → ByteArray → List ByteArray → Int → Int → Int → Int → List (S71) → List (S73) → Option (Int × Int × (List (S71)) × (List (S73)) × Bool)
 | 0, _, _, _, _, _, _, _, _ => none
 | k + 1, x0, x33, x34, x35, x211000, x211001, x211002, x211003 => if x35 < x34 then (if 0 ≤ x35 then (if x35 < (x33.length : Int) then ((strings_Cut.f (rdOf ByteArray.empty x33 x35) (⟨#[58]⟩ : ByteArray)).bind fun bt219 => (if bt219.2.2 = true then ((strconv_Atoi.f bt219.1).bind fun bt222 => ((strconv_Atoi.f bt219.2.1).bind fun bt224 => (if x211002.length < 8796093022208 then (impl_PkgRead.l0 k x0 x33 x34 (wrap64 (x35 + 1)) x211000 x211001 (x211002 ++ [(⟨bt222.1, bt224.1⟩ : S71)]) x211003) else (none)))) else ((impl_nameRead.f (rdOf ByteArray.empty x33 x35)).bind fun bt229 => (if x211003.length < 8796093022208 then (impl_PkgRead.l0 k x0 x33 x34 (wrap64 (x35 + 1)) x211000 x211001 x211002 (x211003 ++ [(⟨bt229.1, bt229.2⟩ : S73)])) else (none))))) else (none)) else (none)) else ((impl_PkgOk.f k x211000 x211001 x211002 x211003).bind fun t234 => (if t234 = true then ((impl_PkgText.f k x211000 x211001 x211002 x211003).bind fun t235 => (if t235.toList = x0.toList then (some (x211000, x211001, x211002, x211003, true)) else (some (0, 0, ([] : List (S71)), ([] : List (S73)), false)))) else (some (0, 0, ([] : List (S71)), ([] : List (S73)), false))))
def impl_PkgRead.f (k : Nat) (a0 : ByteArray) : Option (Int × Int × (List (S71)) × (List (S73)) × Bool) := if (a0.size : Int) > 30 then (some (0, 0, ([] : List (S71)), ([] : List (S73)), false)) else ((strings_Split.f a0 (⟨#[32]⟩ : ByteArray)).bind fun t207 => (if 0 < (t207.length : Int) then ((impl_nameRead.f (rdOf ByteArray.empty t207 0)).bind fun bt212 => (if 1 ≤ (t207.length : Int) then ((some (t207.drop 1 : List ByteArray)).bind fun y214 => (impl_PkgRead.l0 k a0 y214 (y214.length : Int) 0 bt212.1 bt212.2 ([] : List (S71)) ([] : List (S73)))) else (none))) else (none)))
theorem impl_PkgRead.mono_l : ∀ k, (∀ y0 y1 y2 y3 y4 y5 y6 y7, LeO (impl_PkgRead.l0 k y0 y1 y2 y3 y4 y5 y6 y7) (impl_PkgRead.l0 (k + 1) y0 y1 y2 y3 y4 y5 y6 y7))
 | 0 => fun _ _ _ _ _ _ _ _ r h => by simp [impl_PkgRead.l0] at h
 | k + 1 => by
  have ih0 := impl_PkgRead.mono_l k
  ·intro y0 y1 y2 y3 y4 y5 y6 y7
   unfold impl_PkgRead.l0
   repeat' first
   | (with_reducible exact ih0 _ _ _ _ _ _ _ _)
   | (with_reducible exact impl_PkgOk.mono _ _ _ _ _)
   | (with_reducible exact impl_PkgText.mono _ _ _ _ _)
   | (with_reducible exact LeO.refl _)
   | (with_reducible exact LeO.none _)
   | (with_reducible refine LeO.ite ?_ ?_)
   | (with_reducible refine LeO.bind ?_ (fun _ => ?_))
   | exact ih0 _ _ _ _ _ _ _ _
   | exact impl_PkgOk.mono _ _ _ _ _
   | exact impl_PkgText.mono _ _ _ _ _
   | exact LeO.none _
   | refine LeO.ite ?_ ?_
   | refine LeO.bind ?_ (fun _ => ?_)
theorem impl_PkgRead.mono : ∀ a0 k, LeO (impl_PkgRead.f k a0) (impl_PkgRead.f (k + 1) a0) := by
 intro a0 k
 have ih0 := impl_PkgRead.mono_l k
 unfold impl_PkgRead.f
 repeat' with_reducible first | apply ih0 | apply impl_PkgOk.mono | apply impl_PkgText.mono | exact LeO.refl _ | exact LeO.none _ | refine LeO.ite ?_ ?_ | refine LeO.bind ?_ (fun _ => ?_)
theorem zcell {w w1 : World} {a : Addr} (h : w1.heap[a.block]? = w.heap[a.block]?) : w1.cell? a = w.cell? a := by unfold World.cell?; rw [h]
theorem zadd (a : Addr) (n : Nat) : (a.add n).block = a.block := by unfold Addr.add; split <;> rfl
theorem zdrop {a b : Addr} {c : Prop} {d : Decidable c} {n : Nat} (h : some a = (if c then some b else (some b : Option Addr).map (·.add n))) : a.block = b.block := by
 split at h
 ·rw [Option.some.inj h]
 ·rw [Option.some.inj h, zadd]
set_option maxHeartbeats 8000000 in
set_option maxRecDepth 100000 in
theorem impl_PkgRead.calls (k : Nat) (a0 : ByteArray) (r1 : Int) (r2 : Int) (r3 : List (S71)) (r4 : List (S73)) (r5 : Bool) (w : World) (hLD : LaidW w) (h : impl_PkgRead.f k a0 = some (r1, r2, r3, r4, r5)) :
  Calls Tryz.prog 17 #[.string a0] w fun e w' => ∃ v2_ v3_ : Value, e = .returned (.tuple #[.agg #[.int .i64 r1, .int .i64 r2, v2_, v3_], .bool r5]) ∧ Kd.R k71 71 w' w.heap.size (fun _ => True) v2_ r3 ∧ Kd.R k73 73 w' w.heap.size (fun _ => True) v3_ r4 ∧ Below w.heap.size w w' := by
 have hu29 := Tryz.underlying29; have hu71 := Tryz.underlying71; have hu73 := Tryz.underlying73; have HB := aM (Below.refl w.heap.size w); have HLD := aM hLD; clear hLD; have H : (if (a0.size : Int) > 30 then (some (0, 0, ([] : List (S71)), ([] : List (S73)), false)) else ((strings_Split.f a0 (⟨#[32]⟩ : ByteArray)).bind fun t207 => (if 0 < (t207.length : Int) then ((impl_nameRead.f (rdOf ByteArray.empty t207 0)).bind fun bt212 => (if 1 ≤ (t207.length : Int) then ((some (t207.drop 1 : List ByteArray)).bind fun y214 => (impl_PkgRead.l0 k a0 y214 (y214.length : Int) 0 bt212.1 bt212.2 ([] : List (S71)) ([] : List (S73)))) else (none))) else (none)))) = some (r1, r2, r3, r4, r5) := h; clear h
 by_cases c2 : (a0.size : Int) > 30
 ·rw [if_pos c2] at H; have c2b0 : decide (30 < (a0.size : Int)) = true := decide_eq_true c2; have c2b1 : decide (30 < a0.size) = true := decide_eq_true (by omega); clear c2; simp only [Option.some.injEq, Prod.mk.injEq] at H; obtain ⟨rfl, rfl, rfl, rfl, rfl⟩ := H
  go_enter Tryz.func17, Tryz.ntmps17
  go_wp2_with (first | ((with_reducible refine gate_dst (N := 2) rfl ?_); refine zbx 2 #[.int .i64 0, .int .i64 0, .slice none 0 0, .slice none 0 0] 29 ?_; intro gb206 hg w3 hbox hb; have _ := aM (below_step (zB HB.1) hb); have _ := aM (hbox); have _ := aM (zge hg (zB HB.1)); have _ := aM (zge hg (zB HB.1)); clear HB; rename_i HB BK206 GW206 GE206; clear hb hbox hg; obtain ⟨hcz4_0, hcz4_1, hcz4_2, hcz4_3, hfz4_0, hfz4_1, hfz4_2, hfz4_3⟩ := zc4f BK206.1))
  refine bodyPost_ret (results_ct rfl _ _ gb206 29 #[.int .i64 0, .int .i64 0, .slice none 0 0, .slice none 0 0] (0, 0) _ rfl (by exact zP BK206.1 (by rfl)) Tryz.underlying29 rfl (by kernel_rfl)) rfl ?_; exact ⟨_, _, by first | rfl | (simp [errW_none, errW_some] <;> rfl) | (simp [*, errW_none, errW_some] <;> rfl), by first | exact Kd.R_nil _ _ _ _ _ | exact Kd.N_nil _ _ _ _ _ | exact Kd.V_nil _ _ _ _ _ | exact Kd.Q_nil _ _ _ _ _ | exact Kd.S_nil _ _ _ _ _, by first | exact Kd.R_nil _ _ _ _ _ | exact Kd.N_nil _ _ _ _ _ | exact Kd.V_nil _ _ _ _ _ | exact Kd.Q_nil _ _ _ _ _ | exact Kd.S_nil _ _ _ _ _, by exact zB1 HB.1 GE206.1⟩
 ·rw [if_neg c2] at H; have c2b0 : decide (30 < (a0.size : Int)) = false := decide_eq_false c2; have c2b1 : decide (30 < a0.size) = false := decide_eq_false (by omega); clear c2; replace H := Option.bind_eq_some_iff.mp H; obtain ⟨t207, A50, H⟩ := H; (try dsimp only at H); have A5 := aM A50; clear A50; replace H := zif H; obtain ⟨c6, H⟩ := H; have c6b0 : decide (0 < (t207.length : Int)) = true := decide_eq_true c6; have c6b1 : decide (0 < t207.length) = true := decide_eq_true (by omega); clear c6; replace H := Option.bind_eq_some_iff.mp H; obtain ⟨⟨t212, t213⟩, A70, H⟩ := H; (try dsimp only at H); have A7 := aM A70; clear A70; replace H := zif H; obtain ⟨c8, H⟩ := H; have c8b0 := eq_true c8; have c8b1 : decide (1 ≤ (t207.length : Int)) = true := decide_eq_true c8; clear c8; obtain ⟨y214, hy214⟩ : ∃ y_ : List ByteArray, y_ = (t207.drop 1) := ⟨_, rfl⟩; (first | (replace H := zbs hy214 H; try dsimp only at H) | rw [← hy214] at H); have Ny214 := aM hy214; clear hy214; have H' := aM H; clear H
  go_enter Tryz.func17, Tryz.ntmps17
  go_wp2_with (first | ((with_reducible refine gate_dst (N := 2) rfl ?_); refine zbx 2 #[.int .i64 0, .int .i64 0, .slice none 0 0, .slice none 0 0] 29 ?_; intro gb206 hg w9 hbox hb; have _ := aM (below_step (zB HB.1) hb); have _ := aM (hbox); have _ := aM (zge hg (zB HB.1)); have _ := aM (zge hg (zB HB.1)); clear HB; rename_i HB BK206 GW206 GE206; clear hb hbox hg) | ((with_reducible refine gate_callee (f := 34) rfl ?_); refine zgL (some 22) Tryz.func34 #[.string a0, .string (⟨#[32]⟩ : ByteArray)] ?_; (with_reducible refine (strings_Split.calls a0 (⟨#[32]⟩ : ByteArray) t207 _ ?sideL A5.1).mono ?_); (case sideL => exact HLD.1.on (zB1 HB.1 GE206.1)); rintro e w10 ⟨v208, rfl, ho0, hb⟩; refine ⟨_, rfl, ?_⟩; have _ := aM (Kd.R_lower ho0 (below_size (zB1 HB.1 GE206.1))); have _ := aM (blk_below (zK BK206.1) hb); have _ := aM (below_step (zB1 HB.1 GE206.1) hb); clear BK206 HB; rename_i HO209 BK206 HB; (try clear hb); (try clear hb2); (try clear hk); (try clear hi); (try clear ho0)) | ((with_reducible refine gate_dst (N := 5) rfl ?_); refine zbx 5 #[.int .i64 0, .int .i64 0, .slice none 0 0, .slice none 0 0] 29 ?_; intro gb210 hg w11 hbox hb; have _ := aM (Kd.R_below (zR HO209.1) hb); have _ := aM (blk_below (zK BK206.1) hb); have _ := aM (below_step (zB1 HB.1 GE206.1) hb); have _ := aM (hbox); have _ := aM (zge hg (zB1 HB.1 GE206.1)); have _ := aM (zge hg (zB1 HB.1 GE206.1)); have _ := aM (znl hg (zK BK206.1)); have _ := aM (zng hg (zK BK206.1)); clear HO209 BK206 HB; rename_i HO209 BK206 HB BK210 GW210 GE210 NB206_210 NB210_206; clear hb hbox hg; obtain ⟨Ao12, co12, eo12⟩ := Kd.R_slice HO209.1; subst eo12; have p211 : 0 ≤ (0 : Int) := (by omega); have q211 : 0 < (t207.length : Int) := zd; obtain ⟨ad211, e211, hx211_0⟩ := Kd.at_string (Kd.R_reads' HO209.1).2.2 0 p211 q211; cases e211; have qi211 : (0 < t207.length) = True := eq_true (by omega); (try rw [show ((0 : Int)).toNat = 0 from rfl] at hx211_0); (try rw [Addr.add_zero'] at hx211_0); replace p211 := eq_true p211; replace q211 := eq_true q211) | ((with_reducible refine gate_callee (f := 35) rfl ?_); refine zgL (some 27) Tryz.func35 #[.string (rdOf ByteArray.empty t207 0)] ?_; (with_reducible refine (impl_nameRead.calls (rdOf ByteArray.empty t207 0) t212 t213 _ ?sideL A7.1).mono ?_); (case sideL => exact HLD.1.on (zB2 HB.1 GE206.1 GE210.1)); rintro e w13 ⟨rfl, hb⟩; refine ⟨_, rfl, ?_⟩; have _ := aM (Kd.R_below (zR HO209.1) hb); have _ := aM (blk_below (zK BK206.1) hb); have _ := aM (blk_below (zK BK210.1) hb); have _ := aM (below_step (zB2 HB.1 GE206.1 GE210.1) hb); clear HO209 BK206 BK210 HB; rename_i HO209 BK206 BK210 HB; (try clear hb); (try clear hb2); (try clear hk); (try clear hi); have hnb14 := NB210_206.1; have hnc14 := NB206_210.1; obtain ⟨hcz15_0, hcz15_1, hcz15_2, hcz15_3, hfz15_0, hfz15_1, hfz15_2, hfz15_3⟩ := zc4f BK210.1) | ((with_reducible refine gate_store (t := 3) (p := 30) rfl ?_); refine store_event (t := 3) (p := 30) (v := ?vo_w16) (w1 := (w13.setCell ⟨gb210, 0, none⟩ (.int .i64 t212))) ?hg ?ho ?hn ?hr ?_; (case ho => rfl); (case hg => rfl); (case hn => rfl); (case hr => first | (go_simp; done) | (go_simp; rfl)); intro w16 hw; have _ : Aside0 (Kd.R Kd.string 9 w16 w.heap.size (fun _ => True) (.slice (some ad211) t207.length co12) t207) := ⟨(by rw [hw]; exact (by exact (Kd.R_mono (zFR (g := gb210) (Kd.R_types HO209.1 BK210.1 (by decide)) (fun _ hk => hk.2)) (fun _ hk => trivial))))⟩; have _ : Aside0 (w16.heap[gb206]? = some (.cells #[.int .i64 0, .int .i64 0, .slice none 0 0, .slice none 0 0] 29 (0, 0))) := ⟨(by rw [hw]; exact (zK1 BK206.1 NB206_210.1))⟩; have _ : Aside0 (w16.heap[gb210]? = some (.cells #[.int .i64 t212, .int .i64 0, .slice none 0 0, .slice none 0 0] 29 (0, 0))) := ⟨(by rw [hw]; exact (by exact zP BK210.1 (by rfl)))⟩; have _ : Aside0 (Below w.heap.size w w16) := ⟨(by rw [hw]; exact (zB2 HB.1 GE206.1 GE210.1))⟩; clear hw HO209 BK206 BK210 HB; rename_i HO209 BK206 BK210 HB; obtain ⟨hcz17_0, hcz17_1, hcz17_2, hcz17_3, hfz17_0, hfz17_1, hfz17_2, hfz17_3⟩ := zc4f BK210.1) | ((with_reducible refine gate_store (t := 3) (p := 31) rfl ?_); refine store_event (t := 3) (p := 31) (v := ?vo_w18) (w1 := (w16.setCell ⟨gb210, 1, none⟩ (.int .i64 t213))) ?hg ?ho ?hn ?hr ?_; (case ho => rfl); (case hg => rfl); (case hn => rfl); (case hr => first | (go_simp; done) | (go_simp; rfl)); intro w18 hw; have _ : Aside0 (Kd.R Kd.string 9 w18 w.heap.size (fun _ => True) (.slice (some ad211) t207.length co12) t207) := ⟨(by rw [hw]; exact (by exact (Kd.R_mono (zFR (g := gb210) (Kd.R_types HO209.1 BK210.1 (by decide)) (fun _ hk => hk.2)) (fun _ hk => trivial))))⟩; have _ : Aside0 (w18.heap[gb206]? = some (.cells #[.int .i64 0, .int .i64 0, .slice none 0 0, .slice none 0 0] 29 (0, 0))) := ⟨(by rw [hw]; exact (zK1 BK206.1 NB206_210.1))⟩; have _ : Aside0 (w18.heap[gb210]? = some (.cells #[.int .i64 t212, .int .i64 t213, .slice none 0 0, .slice none 0 0] 29 (0, 0))) := ⟨(by rw [hw]; exact (by exact zP BK210.1 (by rfl)))⟩; have _ : Aside0 (Below w.heap.size w w18) := ⟨(by rw [hw]; exact (zB2 HB.1 GE206.1 GE210.1))⟩; clear hw HO209 BK206 BK210 HB; rename_i HO209 BK206 BK210 HB; have q19 : (1 : Int) ≤ ((t207.length : Int) : Int) := zd; obtain ⟨i019, hi019, _, hsz19, _⟩ := info_parts info9; have hroom19 : t207.length ≤ co12 := (Kd.R_reads' HO209.1).2.1; have hC19 : Kd.C Kd.string _ (some ad211) t207.length t207 := (Kd.R_reads' HO209.1).2.2; have hcut19 := cut_from (P := Tryz.prog) 60 9 .i64 Tryz.underlying60 hi019 1 hsz19 (some ad211) t207.length co12 1 (by omega) q19; have hr19 := Kd.C_drop (m := (1 : Int).toNat) (c := co12) hC19 (by omega) hroom19; obtain ⟨A19, hA19⟩ : ∃ A1, A1 = (if co12 = (1 : Int).toNat then (some ad211) else ((some ad211) : Option Addr).map (·.add ((1 : Int).toNat * 1))) := ⟨_, rfl⟩; obtain ⟨c19, hc19⟩ : ∃ c1, c1 = co12 - (1 : Int).toNat := ⟨_, rfl⟩; have hy19 : y214.length = t207.length - (1 : Int).toNat := (by rw [Ny214.1, List.length_drop] <;> omega); rw [show (t207).drop (1 : Int).toNat = y214 from Ny214.1.symm] at hr19; replace hr19 : Kd.C Kd.string _ A19 y214.length y214 := (by rw [hA19]; exact hr19); rw [← hy19, ← hA19, ← hc19] at hcut19; have HR217 := aM hr19; have HC217 := aM (show y214.length ≤ c19 from by rw [hy19, hc19]; exact Nat.sub_le_sub_right hroom19 _); clear hr19 hC19 hroom19 hi019 hsz19 hc19; have KY19 := aM hy19; have KA19 := aM hA19; clear hy19 hA19; have KL19 := aM (show 1 ≤ t207.length from by omega); replace q19 := eq_true q19))
  have hp_ : 0 < t207.length := of_decide_eq_true c6b1; obtain ⟨gS_, cS_, eS_, _, _, CS, hS_⟩ := Kd.R_form HO209.1 hp_
  have hB_ : ad211.block = gS_ := by injection eS_ with e1; injection e1 with e1; rw [e1]
  rw [← hB_] at hS_; have BKS0 := aM hS_; have BKS := aM hS_; have NBS := aM (blk_ne hS_ BK210.1 (by decide)); clear hS_ hp_ hB_ eS_
  go_loopg [35] k (fun kq v35 w' => ∃ (x35_1 : Int) (x211002_1 : List (S71)) (x211003_1 : List (S73)) (u211002 : Value) (u211003 : Value), v35 = .int .i64 x35_1 ∧ Aside0 (impl_PkgRead.l0 kq a0 y214 (y214.length : Int) x35_1 t212 t213 x211002_1 x211003_1 = some (r1, r2, r3, r4, r5)) ∧ Aside0 (kq ≤ k) ∧ Aside0 (Kd.R k71 71 w' w.heap.size (fun _ => True) u211002 x211002_1) ∧ Aside0 (Kd.R k73 73 w' w.heap.size (fun _ => True) u211003 x211003_1) ∧ Aside0 (w'.heap[gb206]? = some (.cells #[.int .i64 0, .int .i64 0, (.slice none 0 0), (.slice none 0 0)] 29 (0, 0))) ∧ Aside0 (w'.heap[gb210]? = some (.cells #[.int .i64 t212, .int .i64 t213, u211002, u211003] 29 (0, 0))) ∧ Aside0 (Below w.heap.size w w') ∧ Aside0 (w'.heap[ad211.block]? = some (.cells CS 9 (0, 0))))
  case atStart => exact ⟨(0), (([] : List (S71))), (([] : List (S73))), (.slice none 0 0), (.slice none 0 0), (by first | rfl | (simp; done) | (simp [*]; done)), H', ⟨Nat.le_refl _⟩, ⟨by first | exact Kd.R_nil _ _ _ _ _ | exact Kd.N_nil _ _ _ _ _ | exact Kd.V_nil _ _ _ _ _ | exact Kd.Q_nil _ _ _ _ _ | exact Kd.S_nil _ _ _ _ _⟩, ⟨by first | exact Kd.R_nil _ _ _ _ _ | exact Kd.N_nil _ _ _ _ _ | exact Kd.V_nil _ _ _ _ _ | exact Kd.Q_nil _ _ _ _ _ | exact Kd.S_nil _ _ _ _ _⟩, ⟨zK BK206.1⟩, ⟨zK BK210.1⟩, ⟨zB2 HB.1 GE206.1 GE210.1⟩, ⟨zK BKS.1⟩⟩
  case round =>
   clear H'
   try clear c1
   try clear q1
   try clear c2
   try clear c2b0
   try clear c2b1
   try clear p2
   try clear q2
   try clear hx2
   try clear qi2
   try clear c3
   try clear c6
   try clear c6b0
   try clear c6b1
   try clear c8
   try clear c8b0
   try clear c8b1
   try clear c14
   try clear c17
   try clear c19
   try clear q19
   try clear hcz15_0
   try clear hcz15_1
   try clear hcz15_2
   try clear hcz15_3
   try clear hcz17_0
   try clear hcz17_1
   try clear hcz17_2
   try clear hcz17_3
   try clear hcz4_0
   try clear hcz4_1
   try clear hcz4_2
   try clear hcz4_3
   try clear hfz15_0
   try clear hfz15_1
   try clear hfz15_2
   try clear hfz15_3
   try clear hfz17_0
   try clear hfz17_1
   try clear hfz17_2
   try clear hfz17_3
   try clear hfz4_0
   try clear hfz4_1
   try clear hfz4_2
   try clear hfz4_3
   try clear hx211_0
   try clear p211
   try clear q19
   try clear q211
   obtain ⟨x35_1, x211002_1, x211003_1, u211002, u211003, rfl, HA, HK1, HO_211002, HO_211003, BK206, BK210, HB, BKS⟩ := hrel; cases gk with
   | zero => exact absurd HA.1 (by simp [impl_PkgRead.l0])
   | succ k1 =>
    have H := HA.1; clear HA; simp only [impl_PkgRead.l0] at H
    by_cases c20 : x35_1 < (y214.length : Int)
    ·rw [if_pos c20] at H; have c20b0 : decide (x35_1 < (y214.length : Int)) = true := decide_eq_true c20; clear c20; replace H := zif H; obtain ⟨c21, H⟩ := H; have c21b0 : decide (0 ≤ x35_1) = true := decide_eq_true c21; clear c21; replace H := zif H; obtain ⟨c22, H⟩ := H; have c22b0 : decide (x35_1 < (y214.length : Int)) = true := decide_eq_true c22; clear c22; replace H := Option.bind_eq_some_iff.mp H; obtain ⟨⟨t219, t220, t221⟩, A230, H⟩ := H; (try dsimp only at H); have A23 := aM A230; clear A230
     by_cases c24 : t221 = true
     ·subst c24; replace H := zy1 H; replace H := Option.bind_eq_some_iff.mp H; obtain ⟨⟨t222, t223⟩, A250, H⟩ := H; (try dsimp only at H); have A25 := aM A250; clear A250; replace H := Option.bind_eq_some_iff.mp H; obtain ⟨⟨t224, t225⟩, A260, H⟩ := H; (try dsimp only at H); have A26 := aM A260; clear A260; replace H := zif H; obtain ⟨c27, H⟩ := H; have LMc27 := aM c27; clear c27; obtain ⟨y226, hy226⟩ : ∃ y_ : List (S71), y_ = (x211002_1 ++ [(⟨t222, t224⟩ : S71)]) := ⟨_, rfl⟩; (first | (replace H := zbs hy226 H; try dsimp only at H) | rw [← hy226] at H); have Ny226 := aM hy226; clear hy226; have H' := aM H; clear H; have p218 : 0 ≤ (x35_1 : Int) := zd; have q218 : x35_1 < (y214.length : Int) := zd; obtain ⟨ad218, e218, hx218_0⟩ := Kd.at_string HR217.1 x35_1 p218 q218; cases e218; replace hx218_0 := (zcell (w := w18) (w1 := wr) (by rw [zadd, zdrop KA19.1]; exact BKS.1.trans BKS0.1.symm)).trans hx218_0; replace p218 := eq_true p218; replace q218 := eq_true q218
      go_wp2_with (first | ((with_reducible refine gate_callee (f := 36) rfl ?_); refine zgL (some 41) Tryz.func36 #[.string (rdOf ByteArray.empty y214 x35_1), .string (⟨#[58]⟩ : ByteArray)] ?_; (with_reducible refine (strings_Cut.calls (rdOf ByteArray.empty y214 x35_1) (⟨#[58]⟩ : ByteArray) t219 t220 true _ ?sideL A23.1).mono ?_); (case sideL => exact HLD.1.on (zB2 HB.1 GE206.1 GE210.1)); rintro e w28 ⟨rfl, hb⟩; refine ⟨_, rfl, ?_⟩; have n0_ := aM (Kd.R_below (zR HO_211002.1) hb); have n1_ := aM (Kd.R_below (zR HO_211003.1) hb); have n2_ := aM (blk_below (zK BK206.1) hb); have mS_ := aM (blk_below (g := ad211.block) (o := .cells CS 9 (0, 0)) (zK BKS.1) hb); have n3_ := aM (blk_below (zK BK210.1) hb); have n4_ := aM (below_step (zB2 HB.1 GE206.1 GE210.1) hb); clear HO_211002 HO_211003 BK206 BKS BK210 HB; have HO_211002 := n0_; have HO_211003 := n1_; have BK206 := n2_; have BKS := mS_; clear mS_; have BK210 := n3_; have HB := n4_; clear n0_ n1_ n2_ n3_ n4_; (try clear hb); (try clear hb2); (try clear hk); (try clear hi)) | ((with_reducible refine gate_callee (f := 37) rfl ?_); refine zgL (some 48) Tryz.func37 #[.string t219] ?_; (with_reducible refine (strconv_Atoi.calls t219 t222 t223 _ ?sideL A25.1).mono ?_); (case sideL => exact HLD.1.on (zB2 HB.1 GE206.1 GE210.1)); rintro e w29 ⟨ev_, rfl, hb⟩; refine ⟨_, rfl, ?_⟩; have n0_ := aM (Kd.R_below (zR HO_211002.1) hb); have n1_ := aM (Kd.R_below (zR HO_211003.1) hb); have n2_ := aM (blk_below (zK BK206.1) hb); have mS_ := aM (blk_below (g := ad211.block) (o := .cells CS 9 (0, 0)) (zK BKS.1) hb); have n3_ := aM (blk_below (zK BK210.1) hb); have n4_ := aM (below_step (zB2 HB.1 GE206.1 GE210.1) hb); clear HO_211002 HO_211003 BK206 BKS BK210 HB; have HO_211002 := n0_; have HO_211003 := n1_; have BK206 := n2_; have BKS := mS_; clear mS_; have BK210 := n3_; have HB := n4_; clear n0_ n1_ n2_ n3_ n4_; (try clear hb); (try clear hb2); (try clear hk); (try clear hi); (try simp only [errW_none, errW_some])) | ((with_reducible refine gate_callee (f := 37) rfl ?_); refine zgL (some 53) Tryz.func37 #[.string t220] ?_; (with_reducible refine (strconv_Atoi.calls t220 t224 t225 _ ?sideL A26.1).mono ?_); (case sideL => exact HLD.1.on (zB2 HB.1 GE206.1 GE210.1)); rintro e w30 ⟨ev_, rfl, hb⟩; refine ⟨_, rfl, ?_⟩; have n0_ := aM (Kd.R_below (zR HO_211002.1) hb); have n1_ := aM (Kd.R_below (zR HO_211003.1) hb); have n2_ := aM (blk_below (zK BK206.1) hb); have mS_ := aM (blk_below (g := ad211.block) (o := .cells CS 9 (0, 0)) (zK BKS.1) hb); have n3_ := aM (blk_below (zK BK210.1) hb); have n4_ := aM (below_step (zB2 HB.1 GE206.1 GE210.1) hb); clear HO_211002 HO_211003 BK206 BKS BK210 HB; have HO_211002 := n0_; have HO_211003 := n1_; have BK206 := n2_; have BKS := mS_; clear mS_; have BK210 := n3_; have HB := n4_; clear n0_ n1_ n2_ n3_ n4_; (try clear hb); (try clear hb2); (try clear hk); (try clear hi); (try simp only [errW_none, errW_some]); have hnb31 := NB210_206.1; have hnc31 := NB206_210.1; obtain ⟨hcz32_0, hcz32_1, hcz32_2, hcz32_3, hfz32_0, hfz32_1, hfz32_2, hfz32_3⟩ := zc4f BK210.1) | ((with_reducible refine gate_builtin (b := .append) (xs := #[.tmp 57, .tmp 61]) rfl ?_); at_builtin; refine Kd.R_append k71 (w0 := w) w.heap.size rfl (.tmp 57) (.tmp 61) 26 71 (.agg #[(.int .i64 0), (.int .i64 0)]) 16 rfl Tryz.underlying26 info71 rfl (by decide) (by omega) u211002 x211002_1 (⟨t222, t224⟩ : S71) [.int .i64 t222, .int .i64 t224] (fun _ => True) (fun _ => False) rfl rfl ?aP (fun _ hk => hk.elim) ?aF ?aO ?aB ?aS ?aL ?_; (case aP => exact k71_mkM _ _ _ (⟨t222, t224⟩ : S71)); (case aB => exact (zB2 HB.1 GE206.1 GE210.1)); (case aF => exact (fun _ _ => trivial)); (case aO => exact (zR HO_211002.1)); (case aS => exact (below_size (zB2 HB.1 GE206.1 GE210.1))); (case aL => have := LMc27.1; omega); intro v227 w33 ho hb hg hat; rw [← Ny226.1] at ho; have n0_ := aM (Kd.R_over' (zR HO_211003.1) (Kd.R_typed (zR HO_211002.1)) (by decide) hg); have n1_ := aM (blk_grown (zK BK206.1) hg (Kd.R_ne HO_211002.1 BK206.1 (by decide))); have mS_ := aM (blk_grown (g := ad211.block) (o := .cells CS 9 (0, 0)) (zK BKS.1) hg (Kd.R_ne HO_211002.1 BKS.1 (by decide))); have n2_ := aM (blk_grown (zK BK210.1) hg (Kd.R_ne HO_211002.1 BK210.1 (by decide))); have n3_ := aM (hb); have n4_ := aM (ho); clear HO_211003 BK206 BKS BK210 HB HO_211002; have HO_211003 := n0_; have BK206 := n1_; have BKS := mS_; clear mS_; have BK210 := n2_; have HB := n3_; have HO228 := n4_; clear n0_ n1_ n2_ n3_ n4_ ho hb hg hat; obtain ⟨Ao34, co34, eo34⟩ := Kd.R_slice HO228.1; subst eo34; obtain ⟨hcz35_0, hcz35_1, hcz35_2, hcz35_3, hfz35_0, hfz35_1, hfz35_2, hfz35_3⟩ := zc4f BK210.1))
      go_roundg k1
      case measure => have := HK1.1; omega
      case rel => exact ⟨(wrap64 (x35_1 + 1)), (y226), (x211003_1), (.slice Ao34 y226.length co34), (u211003), (by first | rfl | (simp; done) | (simp [*]; done)), H', ⟨by have := HK1.1; omega⟩, ⟨by exact (Kd.R_mono (zFR (g := gb210) (Kd.R_types HO228.1 BK210.1 (by decide)) (fun _ hk => hk.2)) (fun _ hk => trivial))⟩, ⟨by exact (Kd.R_mono (zFR (g := gb210) (Kd.R_types HO_211003.1 BK210.1 (by decide)) (fun _ hk => hk.2)) (fun _ hk => trivial))⟩, ⟨zK1 BK206.1 NB206_210.1⟩, ⟨by exact zP BK210.1 (by rfl)⟩, ⟨zB2 HB.1 GE206.1 GE210.1⟩, ⟨zK1 BKS.1 NBS.1⟩⟩
     ·replace c24 := Bool.eq_false_iff.mpr c24; subst c24; replace H := zy0 H; replace H := Option.bind_eq_some_iff.mp H; obtain ⟨⟨t229, t230⟩, A360, H⟩ := H; (try dsimp only at H); have A36 := aM A360; clear A360; replace H := zif H; obtain ⟨c37, H⟩ := H; have LMc37 := aM c37; clear c37; obtain ⟨y231, hy231⟩ : ∃ y_ : List (S73), y_ = (x211003_1 ++ [(⟨t229, t230⟩ : S73)]) := ⟨_, rfl⟩; (first | (replace H := zbs hy231 H; try dsimp only at H) | rw [← hy231] at H); have Ny231 := aM hy231; clear hy231; have H' := aM H; clear H; have p218 : 0 ≤ (x35_1 : Int) := zd; have q218 : x35_1 < (y214.length : Int) := zd; obtain ⟨ad218, e218, hx218_0⟩ := Kd.at_string HR217.1 x35_1 p218 q218; cases e218; replace hx218_0 := (zcell (w := w18) (w1 := wr) (by rw [zadd, zdrop KA19.1]; exact BKS.1.trans BKS0.1.symm)).trans hx218_0; replace p218 := eq_true p218; replace q218 := eq_true q218
      go_wp2_with (first | ((with_reducible refine gate_callee (f := 36) rfl ?_); refine zgL (some 41) Tryz.func36 #[.string (rdOf ByteArray.empty y214 x35_1), .string (⟨#[58]⟩ : ByteArray)] ?_; (with_reducible refine (strings_Cut.calls (rdOf ByteArray.empty y214 x35_1) (⟨#[58]⟩ : ByteArray) t219 t220 false _ ?sideL A23.1).mono ?_); (case sideL => exact HLD.1.on (zB2 HB.1 GE206.1 GE210.1)); rintro e w38 ⟨rfl, hb⟩; refine ⟨_, rfl, ?_⟩; have n0_ := aM (Kd.R_below (zR HO_211002.1) hb); have n1_ := aM (Kd.R_below (zR HO_211003.1) hb); have n2_ := aM (blk_below (zK BK206.1) hb); have mS_ := aM (blk_below (g := ad211.block) (o := .cells CS 9 (0, 0)) (zK BKS.1) hb); have n3_ := aM (blk_below (zK BK210.1) hb); have n4_ := aM (below_step (zB2 HB.1 GE206.1 GE210.1) hb); clear HO_211002 HO_211003 BK206 BKS BK210 HB; have HO_211002 := n0_; have HO_211003 := n1_; have BK206 := n2_; have BKS := mS_; clear mS_; have BK210 := n3_; have HB := n4_; clear n0_ n1_ n2_ n3_ n4_; (try clear hb); (try clear hb2); (try clear hk); (try clear hi)) | ((with_reducible refine gate_callee (f := 35) rfl ?_); refine zgL (some 66) Tryz.func35 #[.string (rdOf ByteArray.empty y214 x35_1)] ?_; (with_reducible refine (impl_nameRead.calls (rdOf ByteArray.empty y214 x35_1) t229 t230 _ ?sideL A36.1).mono ?_); (case sideL => exact HLD.1.on (zB2 HB.1 GE206.1 GE210.1)); rintro e w39 ⟨rfl, hb⟩; refine ⟨_, rfl, ?_⟩; have n0_ := aM (Kd.R_below (zR HO_211002.1) hb); have n1_ := aM (Kd.R_below (zR HO_211003.1) hb); have n2_ := aM (blk_below (zK BK206.1) hb); have mS_ := aM (blk_below (g := ad211.block) (o := .cells CS 9 (0, 0)) (zK BKS.1) hb); have n3_ := aM (blk_below (zK BK210.1) hb); have n4_ := aM (below_step (zB2 HB.1 GE206.1 GE210.1) hb); clear HO_211002 HO_211003 BK206 BKS BK210 HB; have HO_211002 := n0_; have HO_211003 := n1_; have BK206 := n2_; have BKS := mS_; clear mS_; have BK210 := n3_; have HB := n4_; clear n0_ n1_ n2_ n3_ n4_; (try clear hb); (try clear hb2); (try clear hk); (try clear hi); have hnb40 := NB210_206.1; have hnc40 := NB206_210.1; obtain ⟨hcz41_0, hcz41_1, hcz41_2, hcz41_3, hfz41_0, hfz41_1, hfz41_2, hfz41_3⟩ := zc4f BK210.1) | ((with_reducible refine gate_builtin (b := .append) (xs := #[.tmp 70, .tmp 74]) rfl ?_); at_builtin; refine Kd.R_append k73 (w0 := w) w.heap.size rfl (.tmp 70) (.tmp 74) 27 73 (.agg #[(.int .i64 0), (.int .i64 0)]) 16 rfl Tryz.underlying27 info73 rfl (by decide) (by omega) u211003 x211003_1 (⟨t229, t230⟩ : S73) [.int .i64 t229, .int .i64 t230] (fun _ => True) (fun _ => False) rfl rfl ?aP (fun _ hk => hk.elim) ?aF ?aO ?aB ?aS ?aL ?_; (case aP => exact k73_mkM _ _ _ (⟨t229, t230⟩ : S73)); (case aB => exact (zB2 HB.1 GE206.1 GE210.1)); (case aF => exact (fun _ _ => trivial)); (case aO => exact (zR HO_211003.1)); (case aS => exact (below_size (zB2 HB.1 GE206.1 GE210.1))); (case aL => have := LMc37.1; omega); intro v232 w42 ho hb hg hat; rw [← Ny231.1] at ho; have n0_ := aM (Kd.R_over' (zR HO_211002.1) (Kd.R_typed (zR HO_211003.1)) (by decide) hg); have n1_ := aM (blk_grown (zK BK206.1) hg (Kd.R_ne HO_211003.1 BK206.1 (by decide))); have mS_ := aM (blk_grown (g := ad211.block) (o := .cells CS 9 (0, 0)) (zK BKS.1) hg (Kd.R_ne HO_211003.1 BKS.1 (by decide))); have n2_ := aM (blk_grown (zK BK210.1) hg (Kd.R_ne HO_211003.1 BK210.1 (by decide))); have n3_ := aM (hb); have n4_ := aM (ho); clear HO_211002 BK206 BKS BK210 HB HO_211003; have HO_211002 := n0_; have BK206 := n1_; have BKS := mS_; clear mS_; have BK210 := n2_; have HB := n3_; have HO233 := n4_; clear n0_ n1_ n2_ n3_ n4_ ho hb hg hat; obtain ⟨Ao43, co43, eo43⟩ := Kd.R_slice HO233.1; subst eo43; obtain ⟨hcz44_0, hcz44_1, hcz44_2, hcz44_3, hfz44_0, hfz44_1, hfz44_2, hfz44_3⟩ := zc4f BK210.1))
      go_roundg k1
      case measure => have := HK1.1; omega
      case rel => exact ⟨(wrap64 (x35_1 + 1)), (x211002_1), (y231), (u211002), (.slice Ao43 y231.length co43), (by first | rfl | (simp; done) | (simp [*]; done)), H', ⟨by have := HK1.1; omega⟩, ⟨by exact (Kd.R_mono (zFR (g := gb210) (Kd.R_types HO_211002.1 BK210.1 (by decide)) (fun _ hk => hk.2)) (fun _ hk => trivial))⟩, ⟨by exact (Kd.R_mono (zFR (g := gb210) (Kd.R_types HO233.1 BK210.1 (by decide)) (fun _ hk => hk.2)) (fun _ hk => trivial))⟩, ⟨zK1 BK206.1 NB206_210.1⟩, ⟨by exact zP BK210.1 (by rfl)⟩, ⟨zB2 HB.1 GE206.1 GE210.1⟩, ⟨zK1 BKS.1 NBS.1⟩⟩
    ·rw [if_neg c20] at H; have c20b0 : decide (x35_1 < (y214.length : Int)) = false := decide_eq_false c20; clear c20; replace H := Option.bind_eq_some_iff.mp H; obtain ⟨t234, A450, H⟩ := H; (try dsimp only at H); have A45 := aM A450; clear A450
     by_cases c46 : t234 = true
     ·subst c46; replace H := zy1 H; replace H := Option.bind_eq_some_iff.mp H; obtain ⟨t235, A470, H⟩ := H; (try dsimp only at H); have A47 := aM A470; clear A470
      by_cases c48 : t235.toList = a0.toList
      ·rw [if_pos c48] at H; have c48b0 : (t235.toList == a0.toList) = true := beq_iff_eq.mpr c48; have c48b1 : (t235.toList != a0.toList) = false := bne_eq_false_iff_eq.mpr c48; clear c48; simp only [Option.some.injEq, Prod.mk.injEq] at H; obtain ⟨rfl, rfl, rfl, rfl, rfl⟩ := H; have hnb49 := NB210_206.1; have hnc49 := NB206_210.1; obtain ⟨hcz50_0, hcz50_1, hcz50_2, hcz50_3, hfz50_0, hfz50_1, hfz50_2, hfz50_3⟩ := zc4f BK210.1; obtain ⟨Ao51, co51, eo51⟩ := Kd.R_slice HO_211002.1; subst eo51; obtain ⟨Ao52, co52, eo52⟩ := Kd.R_slice HO_211003.1; subst eo52
       go_wp2_with (first | ((with_reducible refine gate_callee (f := 38) rfl ?_); refine zgL (some 79) Tryz.func38 #[.agg #[.int .i64 t212, .int .i64 t213, .slice Ao51 x211002_1.length co51, .slice Ao52 x211003_1.length co52]] ?_; (with_reducible refine (impl_PkgOk.calls k1 t212 t213 _ _ x211002_1 _ _ x211003_1 true _ ?side1 ?side2 ?side3 ?side4 A45.1).mono ?_); (case side1 => exact zC (Kd.R_reads' HO_211002.1).2.2); (case side2 => exact (Kd.R_reads' HO_211002.1).2.1); (case side3 => exact zC (Kd.R_reads' HO_211003.1).2.2); (case side4 => exact (Kd.R_reads' HO_211003.1).2.1); rintro e w53 ⟨rfl, hb⟩; refine ⟨_, rfl, ?_⟩; have n0_ := aM (Kd.R_below (zR HO_211002.1) hb); have n1_ := aM (Kd.R_below (zR HO_211003.1) hb); have n2_ := aM (blk_below (zK BK206.1) hb); have mS_ := aM (blk_below (g := ad211.block) (o := .cells CS 9 (0, 0)) (zK BKS.1) hb); have n3_ := aM (blk_below (zK BK210.1) hb); have n4_ := aM (below_step (zB2 HB.1 GE206.1 GE210.1) hb); clear HO_211002 HO_211003 BK206 BKS BK210 HB; have HO_211002 := n0_; have HO_211003 := n1_; have BK206 := n2_; have BKS := mS_; clear mS_; have BK210 := n3_; have HB := n4_; clear n0_ n1_ n2_ n3_ n4_; (try clear hb); (try clear hb2); (try clear hk); (try clear hi); obtain ⟨hcz54_0, hcz54_1, hcz54_2, hcz54_3, hfz54_0, hfz54_1, hfz54_2, hfz54_3⟩ := zc4f BK210.1) | (go_at_call 39; (with_reducible refine (impl_PkgText.calls k1 t212 t213 _ _ x211002_1 _ _ x211003_1 t235 _ ?side1 ?side2 ?side3 ?side4 A47.1).mono ?_); (case side1 => exact zC (Kd.R_reads' HO_211002.1).2.2); (case side2 => exact (Kd.R_reads' HO_211002.1).2.1); (case side3 => exact zC (Kd.R_reads' HO_211003.1).2.2); (case side4 => exact (Kd.R_reads' HO_211003.1).2.1); rintro e w55 ⟨rfl, hb⟩; have n0_ := aM (Kd.R_below (zR HO_211002.1) hb); have n1_ := aM (Kd.R_below (zR HO_211003.1) hb); have n2_ := aM (blk_below (zK BK206.1) hb); have mS_ := aM (blk_below (g := ad211.block) (o := .cells CS 9 (0, 0)) (zK BKS.1) hb); have n3_ := aM (blk_below (zK BK210.1) hb); have n4_ := aM (below_step (zB2 HB.1 GE206.1 GE210.1) hb); clear HO_211002 HO_211003 BK206 BKS BK210 HB; have HO_211002 := n0_; have HO_211003 := n1_; have BK206 := n2_; have BKS := mS_; clear mS_; have BK210 := n3_; have HB := n4_; clear n0_ n1_ n2_ n3_ n4_; (try clear hb); (try clear hb2); (try clear hk); (try clear hi); obtain ⟨hcz56_0, hcz56_1, hcz56_2, hcz56_3, hfz56_0, hfz56_1, hfz56_2, hfz56_3⟩ := zc4f BK210.1; obtain ⟨hcz57_0, hcz57_1, hcz57_2, hcz57_3, hfz57_0, hfz57_1, hfz57_2, hfz57_3⟩ := zc4f BK206.1))
       refine bodyPost_ret (results_ct rfl _ _ gb206 29 #[.int .i64 t212, .int .i64 t213, .slice Ao51 x211002_1.length co51, .slice Ao52 x211003_1.length co52] (0, 0) _ rfl (by exact zP BK206.1 (by rfl)) Tryz.underlying29 rfl (by kernel_rfl)) rfl ?_; exact ⟨_, _, by first | rfl | (simp [errW_none, errW_some] <;> rfl) | (simp [*, errW_none, errW_some] <;> rfl), by exact (Kd.R_mono (zFR (g := gb206) (Kd.R_types HO_211002.1 BK206.1 (by decide)) (fun _ hk => hk.2)) (fun _ hk => trivial)), by exact (Kd.R_mono (zFR (g := gb206) (Kd.R_types HO_211003.1 BK206.1 (by decide)) (fun _ hk => hk.2)) (fun _ hk => trivial)), by exact zB2 HB.1 GE206.1 GE210.1⟩
      ·rw [if_neg c48] at H; have c48b0 : (t235.toList == a0.toList) = false := beq_eq_false_iff_ne.mpr c48; have c48b1 : (t235.toList != a0.toList) = true := bne_iff_ne.mpr c48; simp only [Option.some.injEq, Prod.mk.injEq] at H; obtain ⟨rfl, rfl, rfl, rfl, rfl⟩ := H; have hnb58 := NB210_206.1; have hnc58 := NB206_210.1; obtain ⟨hcz59_0, hcz59_1, hcz59_2, hcz59_3, hfz59_0, hfz59_1, hfz59_2, hfz59_3⟩ := zc4f BK210.1; obtain ⟨Ao60, co60, eo60⟩ := Kd.R_slice HO_211002.1; subst eo60; obtain ⟨Ao61, co61, eo61⟩ := Kd.R_slice HO_211003.1; subst eo61
       go_wp2_with (first | ((with_reducible refine gate_callee (f := 38) rfl ?_); refine zgL (some 79) Tryz.func38 #[.agg #[.int .i64 t212, .int .i64 t213, .slice Ao60 x211002_1.length co60, .slice Ao61 x211003_1.length co61]] ?_; (with_reducible refine (impl_PkgOk.calls k1 t212 t213 _ _ x211002_1 _ _ x211003_1 true _ ?side1 ?side2 ?side3 ?side4 A45.1).mono ?_); (case side1 => exact zC (Kd.R_reads' HO_211002.1).2.2); (case side2 => exact (Kd.R_reads' HO_211002.1).2.1); (case side3 => exact zC (Kd.R_reads' HO_211003.1).2.2); (case side4 => exact (Kd.R_reads' HO_211003.1).2.1); rintro e w62 ⟨rfl, hb⟩; refine ⟨_, rfl, ?_⟩; have n0_ := aM (Kd.R_below (zR HO_211002.1) hb); have n1_ := aM (Kd.R_below (zR HO_211003.1) hb); have n2_ := aM (blk_below (zK BK206.1) hb); have mS_ := aM (blk_below (g := ad211.block) (o := .cells CS 9 (0, 0)) (zK BKS.1) hb); have n3_ := aM (blk_below (zK BK210.1) hb); have n4_ := aM (below_step (zB2 HB.1 GE206.1 GE210.1) hb); clear HO_211002 HO_211003 BK206 BKS BK210 HB; have HO_211002 := n0_; have HO_211003 := n1_; have BK206 := n2_; have BKS := mS_; clear mS_; have BK210 := n3_; have HB := n4_; clear n0_ n1_ n2_ n3_ n4_; (try clear hb); (try clear hb2); (try clear hk); (try clear hi); obtain ⟨hcz63_0, hcz63_1, hcz63_2, hcz63_3, hfz63_0, hfz63_1, hfz63_2, hfz63_3⟩ := zc4f BK210.1) | (go_at_call 39; (with_reducible refine (impl_PkgText.calls k1 t212 t213 _ _ x211002_1 _ _ x211003_1 t235 _ ?side1 ?side2 ?side3 ?side4 A47.1).mono ?_); (case side1 => exact zC (Kd.R_reads' HO_211002.1).2.2); (case side2 => exact (Kd.R_reads' HO_211002.1).2.1); (case side3 => exact zC (Kd.R_reads' HO_211003.1).2.2); (case side4 => exact (Kd.R_reads' HO_211003.1).2.1); rintro e w64 ⟨rfl, hb⟩; have n0_ := aM (Kd.R_below (zR HO_211002.1) hb); have n1_ := aM (Kd.R_below (zR HO_211003.1) hb); have n2_ := aM (blk_below (zK BK206.1) hb); have mS_ := aM (blk_below (g := ad211.block) (o := .cells CS 9 (0, 0)) (zK BKS.1) hb); have n3_ := aM (blk_below (zK BK210.1) hb); have n4_ := aM (below_step (zB2 HB.1 GE206.1 GE210.1) hb); clear HO_211002 HO_211003 BK206 BKS BK210 HB; have HO_211002 := n0_; have HO_211003 := n1_; have BK206 := n2_; have BKS := mS_; clear mS_; have BK210 := n3_; have HB := n4_; clear n0_ n1_ n2_ n3_ n4_; (try clear hb); (try clear hb2); (try clear hk); (try clear hi); obtain ⟨hcz65_0, hcz65_1, hcz65_2, hcz65_3, hfz65_0, hfz65_1, hfz65_2, hfz65_3⟩ := zc4f BK206.1))
       refine bodyPost_ret (results_ct rfl _ _ gb206 29 #[.int .i64 0, .int .i64 0, .slice none 0 0, .slice none 0 0] (0, 0) _ rfl (by exact zP BK206.1 (by rfl)) Tryz.underlying29 rfl (by kernel_rfl)) rfl ?_; exact ⟨_, _, by first | rfl | (simp [errW_none, errW_some] <;> rfl) | (simp [*, errW_none, errW_some] <;> rfl), by first | exact Kd.R_nil _ _ _ _ _ | exact Kd.N_nil _ _ _ _ _ | exact Kd.V_nil _ _ _ _ _ | exact Kd.Q_nil _ _ _ _ _ | exact Kd.S_nil _ _ _ _ _, by first | exact Kd.R_nil _ _ _ _ _ | exact Kd.N_nil _ _ _ _ _ | exact Kd.V_nil _ _ _ _ _ | exact Kd.Q_nil _ _ _ _ _ | exact Kd.S_nil _ _ _ _ _, by exact zB2 HB.1 GE206.1 GE210.1⟩
     ·replace c46 := Bool.eq_false_iff.mpr c46; subst c46; replace H := zy0 H; simp only [Option.some.injEq, Prod.mk.injEq] at H; obtain ⟨rfl, rfl, rfl, rfl, rfl⟩ := H; have hnb66 := NB210_206.1; have hnc66 := NB206_210.1; obtain ⟨hcz67_0, hcz67_1, hcz67_2, hcz67_3, hfz67_0, hfz67_1, hfz67_2, hfz67_3⟩ := zc4f BK210.1; obtain ⟨Ao68, co68, eo68⟩ := Kd.R_slice HO_211002.1; subst eo68; obtain ⟨Ao69, co69, eo69⟩ := Kd.R_slice HO_211003.1; subst eo69
      go_wp2_with (first | ((with_reducible refine gate_callee (f := 38) rfl ?_); refine zgL (some 79) Tryz.func38 #[.agg #[.int .i64 t212, .int .i64 t213, .slice Ao68 x211002_1.length co68, .slice Ao69 x211003_1.length co69]] ?_; (with_reducible refine (impl_PkgOk.calls k1 t212 t213 _ _ x211002_1 _ _ x211003_1 false _ ?side1 ?side2 ?side3 ?side4 A45.1).mono ?_); (case side1 => exact zC (Kd.R_reads' HO_211002.1).2.2); (case side2 => exact (Kd.R_reads' HO_211002.1).2.1); (case side3 => exact zC (Kd.R_reads' HO_211003.1).2.2); (case side4 => exact (Kd.R_reads' HO_211003.1).2.1); rintro e w70 ⟨rfl, hb⟩; refine ⟨_, rfl, ?_⟩; have n0_ := aM (Kd.R_below (zR HO_211002.1) hb); have n1_ := aM (Kd.R_below (zR HO_211003.1) hb); have n2_ := aM (blk_below (zK BK206.1) hb); have mS_ := aM (blk_below (g := ad211.block) (o := .cells CS 9 (0, 0)) (zK BKS.1) hb); have n3_ := aM (blk_below (zK BK210.1) hb); have n4_ := aM (below_step (zB2 HB.1 GE206.1 GE210.1) hb); clear HO_211002 HO_211003 BK206 BKS BK210 HB; have HO_211002 := n0_; have HO_211003 := n1_; have BK206 := n2_; have BKS := mS_; clear mS_; have BK210 := n3_; have HB := n4_; clear n0_ n1_ n2_ n3_ n4_; (try clear hb); (try clear hb2); (try clear hk); (try clear hi); obtain ⟨hcz71_0, hcz71_1, hcz71_2, hcz71_3, hfz71_0, hfz71_1, hfz71_2, hfz71_3⟩ := zc4f BK206.1))
      refine bodyPost_ret (results_ct rfl _ _ gb206 29 #[.int .i64 0, .int .i64 0, .slice none 0 0, .slice none 0 0] (0, 0) _ rfl (by exact zP BK206.1 (by rfl)) Tryz.underlying29 rfl (by kernel_rfl)) rfl ?_; exact ⟨_, _, by first | rfl | (simp [errW_none, errW_some] <;> rfl) | (simp [*, errW_none, errW_some] <;> rfl), by first | exact Kd.R_nil _ _ _ _ _ | exact Kd.N_nil _ _ _ _ _ | exact Kd.V_nil _ _ _ _ _ | exact Kd.Q_nil _ _ _ _ _ | exact Kd.S_nil _ _ _ _ _, by first | exact Kd.R_nil _ _ _ _ _ | exact Kd.N_nil _ _ _ _ _ | exact Kd.V_nil _ _ _ _ _ | exact Kd.Q_nil _ _ _ _ _ | exact Kd.S_nil _ _ _ _ _, by exact zB2 HB.1 GE206.1 GE210.1⟩

/-! ### impl_IndexOk: function 18 -/
def ixm1 (l : List S47) (i : Nat) : Bool := inB_ (l.getD i z47).f0 1 4 && (inB_ (l.getD i z47).f1 1 5 && (inB_ (l.getD i z47).f2 0 9972 && (i == 0 || (decide ((l.getD (i - 1) z47).f0 < (l.getD i z47).f0) || (decide ((l.getD (i - 1) z47).f0 = (l.getD i z47).f0) && decide ((l.getD (i - 1) z47).f1 < (l.getD i z47).f1))))))
def ixB (a u : Int) (l : List S47) : Bool := okFrom (ixm1 l) l.length 0 && (inB_ a 1 30 && (inB_ u 0 60 && decide (l.length ≤ 8)))
set_option maxHeartbeats 8000000 in
set_option maxRecDepth 100000 in
theorem ixo_calls (a u : Int) (A2 : Option Addr) (c2 : Nat) (l2 : List S47) (w : World) (hr2 : Kd.C k47 w A2 l2.length l2) :
  Calls Tryz.prog 18 #[.agg #[.int .i64 a, .int .i64 u, .slice A2 l2.length c2]] w fun e w' => e = .returned (.bool (ixB a u l2)) ∧ Below w.heap.size w w' := by
 have HR2 := Aside0.mk hr2
 have HL2 := Aside0.mk hr2.2.1
 clear hr2
 have HE : Aside0 (ixB a u l2 = (okFrom (ixm1 l2) (l2.length - (0 : Int).toNat) (0 : Int).toNat && (inB_ a 1 30 && (inB_ u 0 60 && decide (l2.length ≤ 8))))) := ⟨rfl⟩
 go_enter Tryz.func18, Tryz.ntmps18
 go_wp2
 have n0_ := Aside0.mk (below_alloc (Below.refl w.heap.size w) (Obj.cells #[.int .i64 a, .int .i64 u, .slice A2 l2.length c2] 34))
 have n1_ := Aside0.mk (blk_new w (Obj.cells #[.int .i64 a, .int .i64 u, .slice A2 l2.length c2] 34))
 generalize w.alloc (Obj.cells #[.int .i64 a, .int .i64 u, .slice A2 l2.length c2] 34) = W0 at n0_ n1_ ⊢
 obtain ⟨gb, hgb⟩ : ∃ g, g = w.heap.size := ⟨_, rfl⟩
 rw [← hgb] at n1_ ⊢
 have HB := n0_
 have BK := n1_
 clear n0_ n1_ hgb
 go_loopw [8] (fun v5 w' => ∃ x : Int, 0 ≤ x ∧ x ≤ (l2.length : Int) ∧ v5 = .int .i64 x ∧ Aside0 (ixB a u l2 = (okFrom (ixm1 l2) (l2.length - x.toNat) x.toNat && (inB_ a 1 30 && (inB_ u 0 60 && decide (l2.length ≤ 8))))) ∧ Aside0 (w'.heap[gb]? = some (.cells #[.int .i64 a, .int .i64 u, .slice A2 l2.length c2] 34 (0, 0))) ∧ Aside0 (Below w.heap.size w w')) (fun v5 _ => l2.length - (intOf v5).toNat)
 case atStart => exact ⟨0, by omega, by omega, rfl, HE, BK, HB⟩
 case round =>
  clear HE HB BK
  obtain ⟨x, hx0, hx1, rfl, HE, BK, HB⟩ := hrel
  have HL := HL2.out
  by_cases hlt : x < (l2.length : Int)
  ·obtain ⟨ad, e, m0, m1, m2⟩ := at_T47 HR2.out x hx0 hlt
   cases e
   replace m0 := (HB.out.cell (World.block_lt_of_cell? w _ m0)).trans m0
   replace m1 := (HB.out.cell (World.block_lt_of_cell? w _ m1)).trans m1
   replace m2 := (HB.out.cell (World.block_lt_of_cell? w _ m2)).trans m2
   obtain ⟨F0, hF0⟩ : ∃ F0, F0 = (rd_T47 l2 x).f0 := ⟨_, rfl⟩
   obtain ⟨F1, hF1⟩ : ∃ F1, F1 = (rd_T47 l2 x).f1 := ⟨_, rfl⟩
   obtain ⟨F2, hF2⟩ : ∃ F2, F2 = (rd_T47 l2 x).f2 := ⟨_, rfl⟩
   rw [← hF0] at m0
   rw [← hF1] at m1
   rw [← hF2] at m2
   have HF := Aside0.mk (And.intro hF0 (And.intro hF1 hF2))
   clear hF0 hF1 hF2
   have q1 : decide (x < (l2.length : Int)) = true := decide_eq_true hlt
   have q2 : 0 ≤ x := hx0
   obtain ⟨b1, hb1⟩ : ∃ b, inB_ F0 1 4 = b := ⟨_, rfl⟩
   obtain ⟨b2, hb2⟩ : ∃ b, inB_ F1 1 5 = b := ⟨_, rfl⟩
   obtain ⟨b3, hb3⟩ : ∃ b, inB_ F2 0 9972 = b := ⟨_, rfl⟩
   have C1 := Aside0.mk (fun W => (impl_isName_b W F0 b1 hb1).mono fun _ _ h => And.intro h.1 h.2.symm)
   have C2 := Aside0.mk (fun W => (impl_isVer_b W F1 b2 hb2).mono fun _ _ h => And.intro h.1 h.2.symm)
   have C3 := Aside0.mk (fun W => (impl_in_b W F2 0 9972 b3 hb3).mono fun _ _ h => And.intro h.1 h.2.symm)
   have B1 := Aside0.mk hb1
   have B2 := Aside0.mk hb2
   have B3 := Aside0.mk hb3
   clear hb1 hb2 hb3
   have HN := Aside0.mk (okFrom_at (p := ixm1 l2) hx0 hlt)
   have no : Aside0 (ixm1 l2 x.toNat = false → ixB a u l2 = false) := ⟨fun h_ => by rw [HE.out, HN.out, h_]; rfl⟩
   have yes : Aside0 (ixm1 l2 x.toNat = true → ixB a u l2 = (okFrom (ixm1 l2) (l2.length - (x + 1).toNat) (x + 1).toNat && (inB_ a 1 30 && (inB_ u 0 60 && decide (l2.length ≤ 8))))) := ⟨fun h_ => by rw [HE.out, HN.out, h_]; rfl⟩
   have D : Aside0 (ixm1 l2 x.toNat = (b1 && (b2 && (b3 && (x.toNat == 0 || (decide ((l2.getD (x.toNat - 1) z47).f0 < F0) || (decide ((l2.getD (x.toNat - 1) z47).f0 = F0) && decide ((l2.getD (x.toNat - 1) z47).f1 < F1)))))))) := ⟨by
    unfold ixm1
    rw [← show _ = (l2.getD x.toNat z47).f0 from HF.out.1, ← show _ = (l2.getD x.toNat z47).f1 from HF.out.2.1, ← show _ = (l2.getD x.toNat z47).f2 from HF.out.2.2, B1.out, B2.out, B3.out]⟩
   clear HE HN HF B1 B2 B3
   have HNB := Aside0.mk (show w.heap.size ≤ wr.heap.size from HB.out.size)
   cases b1 with
   | false =>
    go_wp2_with (first | (go_at_call 40; with_reducible refine (C1.out _).mono ?_; rintro e wz ⟨rfl, rfl⟩) | (go_at_call 41; with_reducible refine (C2.out _).mono ?_; rintro e wz ⟨rfl, rfl⟩) | (go_at_call 42; with_reducible refine (C3.out _).mono ?_; rintro e wz ⟨rfl, rfl⟩))
    go_wp2
    go_ret
    rw [no.out (by rw [D.out]; rfl)]
    exact ⟨by first | rfl | simp [*], by repeat (first | exact HB.out | apply pw_below_drewN | apply below_alloc)⟩
   | true =>
    cases b2 with
    | false =>
     go_wp2_with (first | (go_at_call 40; with_reducible refine (C1.out _).mono ?_; rintro e wz ⟨rfl, rfl⟩) | (go_at_call 41; with_reducible refine (C2.out _).mono ?_; rintro e wz ⟨rfl, rfl⟩) | (go_at_call 42; with_reducible refine (C3.out _).mono ?_; rintro e wz ⟨rfl, rfl⟩))
     go_wp2
     go_ret
     rw [no.out (by rw [D.out]; rfl)]
     exact ⟨by first | rfl | simp [*], by repeat (first | exact HB.out | apply pw_below_drewN | apply below_alloc)⟩
    | true =>
     cases b3 with
     | false =>
      go_wp2_with (first | (go_at_call 40; with_reducible refine (C1.out _).mono ?_; rintro e wz ⟨rfl, rfl⟩) | (go_at_call 41; with_reducible refine (C2.out _).mono ?_; rintro e wz ⟨rfl, rfl⟩) | (go_at_call 42; with_reducible refine (C3.out _).mono ?_; rintro e wz ⟨rfl, rfl⟩))
      go_wp2
      go_ret
      rw [no.out (by rw [D.out]; rfl)]
      exact ⟨by first | rfl | simp [*], by repeat (first | exact HB.out | apply pw_below_drewN | apply below_alloc)⟩
     | true =>
      go_wp2_with (first | (go_at_call 40; with_reducible refine (C1.out _).mono ?_; rintro e wz ⟨rfl, rfl⟩) | (go_at_call 41; with_reducible refine (C2.out _).mono ?_; rintro e wz ⟨rfl, rfl⟩) | (go_at_call 42; with_reducible refine (C3.out _).mono ?_; rintro e wz ⟨rfl, rfl⟩))
      have n0_ := Aside0.mk (below_alloc HB.out (Obj.cells #[.int .i64 F0, .int .i64 F1, .int .i64 F2] 47))
      have n1_ := Aside0.mk (blk_alloc BK.out (Obj.cells #[.int .i64 F0, .int .i64 F1, .int .i64 F2] 47))
      have f0 : (wr.alloc (Obj.cells #[.int .i64 F0, .int .i64 F1, .int .i64 F2] 47)).cell? ⟨wr.heap.size, 0, none⟩ = some (.int .i64 F0) := by simp
      have f1 : (wr.alloc (Obj.cells #[.int .i64 F0, .int .i64 F1, .int .i64 F2] 47)).cell? ⟨wr.heap.size, 1, none⟩ = some (.int .i64 F1) := by simp
      clear HB BK m0 m1 m2
      generalize wr.alloc (Obj.cells #[.int .i64 F0, .int .i64 F1, .int .i64 F2] 47) = W at n0_ n1_ f0 f1 ⊢
      generalize wr.heap.size = gf at f0 f1 ⊢
      have HB := n0_
      have BK := n1_
      clear n0_ n1_
      have k2 : W.cell? ⟨gb, 2, none⟩ = some (.slice (some ad) l2.length c2) := (blk_cell BK.out 2).trans rfl
      by_cases hz : x ≤ 0
      ·have hx4 : decide (0 < x) = false := decide_eq_false (by omega)
       have Y := Aside0.mk (yes.out (by rw [D.out, show (x.toNat == 0) = true by rw [beq_iff_eq]; omega]; rfl))
       clear yes no D hz
       go_quiet (fail)
       go_wp2
       go_roundw
       case rel => exact ⟨x + 1, by omega, by omega, by first | rfl | simp, Y, ⟨by (with_reducible repeat (first | refine blk_drewN ?_ _)); exact BK.out⟩, ⟨by repeat (first | exact HB.out | apply pw_below_drewN)⟩⟩
       case measure => simp [intOf]; omega
      ·have g0 : 0 < x := by omega
       clear hz
       obtain ⟨y, hy⟩ : ∃ y, y = x - 1 := ⟨_, rfl⟩
       have hw : IntKind.i64.wrap (x - 1) = y := by rw [i64_w, hy]; unfold wrap64; omega
       obtain ⟨ad2, e2, d0, d1, d2⟩ := at_T47 HR2.out y (by omega) (by omega)
       obtain ⟨G0, hG0⟩ : ∃ G0, G0 = (rd_T47 l2 y).f0 := ⟨_, rfl⟩
       obtain ⟨G1, hG1⟩ : ∃ G1, G1 = (rd_T47 l2 y).f1 := ⟨_, rfl⟩
       rw [← hG0] at d0
       rw [← hG1] at d1
       cases e2
       replace d0 := (HB.out.cell (World.block_lt_of_cell? w _ d0)).trans d0
       replace d1 := (HB.out.cell (World.block_lt_of_cell? w _ d1)).trans d1
       have HG := Aside0.mk (And.intro hG0 hG1)
       clear hG0 hG1 d2
       have hx2 : 0 ≤ y := by omega
       have hx3 : decide (y < (l2.length : Int)) = true := decide_eq_true (by omega)
       have hx4 : decide (0 < x) = true := decide_eq_true g0
       have hx5 : y < (l2.length : Int) := by omega
       have HY := Aside0.mk hy
       clear hy
       have FD : Aside0 (ixm1 l2 x.toNat = (decide (G0 < F0) || (decide (G0 = F0) && decide (G1 < F1)))) := ⟨by
        rw [D.out, show (x.toNat == 0) = false by rw [beq_eq_false_iff_ne]; omega, show x.toNat - 1 = y.toNat by have := HY.out; omega, ← show _ = (l2.getD y.toNat z47).f0 from HG.out.1, ← show _ = (l2.getD y.toNat z47).f1 from HG.out.2]; rfl⟩
       by_cases hc : F0 < G0
       ·have cb : decide (F0 < G0) = true := decide_eq_true hc
        have N := Aside0.mk (no.out (by rw [FD.out, decide_eq_false (show ¬ G0 < F0 by omega), decide_eq_false (show ¬ G0 = F0 by omega)]; rfl))
        clear yes no hc D FD
        go_quiet (fail)
        go_wp2
        go_ret
        rw [N.out]
        exact ⟨by first | rfl | simp [*], by repeat (first | exact HB.out | apply pw_below_drewN | apply below_alloc)⟩
       ·have cb : decide (F0 < G0) = false := decide_eq_false hc
        by_cases hc2 : F0 = G0
        ·have cb2 : (F0 == G0) = true := beq_iff_eq.mpr hc2
         by_cases hc3 : F1 ≤ G1
         ·have cb3 : decide (F1 ≤ G1) = true := decide_eq_true hc3
          have N := Aside0.mk (no.out (by rw [FD.out, decide_eq_false (show ¬ G0 < F0 by omega), decide_eq_false (show ¬ G1 < F1 by omega), Bool.and_false]; rfl))
          clear yes no hc hc2 hc3 D FD
          go_quiet (fail)
          go_wp2
          go_ret
          rw [N.out]
          exact ⟨by first | rfl | simp [*], by repeat (first | exact HB.out | apply pw_below_drewN | apply below_alloc)⟩
         ·have cb3 : decide (F1 ≤ G1) = false := decide_eq_false hc3
          have Y := Aside0.mk (yes.out (by rw [FD.out, decide_eq_true (show G0 = F0 by omega), decide_eq_true (show G1 < F1 by omega), Bool.and_true, Bool.or_true]))
          clear yes no hc hc2 hc3 D FD
          go_quiet (fail)
          go_wp2
          go_roundw
          case rel => exact ⟨x + 1, by omega, by omega, by first | rfl | simp, Y, ⟨by (with_reducible repeat (first | refine blk_drewN ?_ _)); exact BK.out⟩, ⟨by repeat (first | exact HB.out | apply pw_below_drewN)⟩⟩
          case measure => simp [intOf]; omega
        ·have cb2 : (F0 == G0) = false := beq_eq_false_iff_ne.mpr hc2
         have Y := Aside0.mk (yes.out (by rw [FD.out, decide_eq_true (show G0 < F0 by omega)]; rfl))
         clear yes no hc hc2 D FD
         go_quiet (fail)
         go_wp2
         go_roundw
         case rel => exact ⟨x + 1, by omega, by omega, by first | rfl | simp, Y, ⟨by (with_reducible repeat (first | refine blk_drewN ?_ _)); exact BK.out⟩, ⟨by repeat (first | exact HB.out | apply pw_below_drewN)⟩⟩
         case measure => simp [intOf]; omega
  ·have hxe : x = (l2.length : Int) := by omega
   have q1 : decide (x < (l2.length : Int)) = false := decide_eq_false hlt
   have E := Aside0.mk (show ixB a u l2 = (inB_ a 1 30 && (inB_ u 0 60 && decide (l2.length ≤ 8))) by
    rw [HE.out, hxe, Int.toNat_natCast, Nat.sub_self]
    rfl)
   clear hxe HE
   have k0 : wr.cell? ⟨gb, 0, none⟩ = some (.int .i64 a) := (blk_cell BK.out 0).trans rfl
   have k1 : wr.cell? ⟨gb, 1, none⟩ = some (.int .i64 u) := (blk_cell BK.out 1).trans rfl
   have k2 : wr.cell? ⟨gb, 2, none⟩ = some (.slice A2 l2.length c2) := (blk_cell BK.out 2).trans rfl
   obtain ⟨bA, hbA⟩ : ∃ b, inB_ a 1 30 = b := ⟨_, rfl⟩
   obtain ⟨bB, hbB⟩ : ∃ b, inB_ u 0 60 = b := ⟨_, rfl⟩
   have CA := Aside0.mk (fun W => (impl_in_b W a 1 30 bA hbA).mono fun _ _ h => And.intro h.1 h.2.symm)
   have CB := Aside0.mk (fun W => (impl_in_b W u 0 60 bB hbB).mono fun _ _ h => And.intro h.1 h.2.symm)
   rw [hbA, hbB] at E
   clear hbA hbB
   cases bA with
   | false =>
    go_wp2_with (first | (go_at_call 42; with_reducible refine (CA.out _).mono ?_; rintro e wz ⟨rfl, rfl⟩) | (go_at_call 42; with_reducible refine (CB.out _).mono ?_; rintro e wz ⟨rfl, rfl⟩))
    go_ret
    rw [E.out]
    exact ⟨by first | rfl | simp [*], by exact HB.out⟩
   | true =>
    cases bB with
    | false =>
     go_wp2_with (first | (go_at_call 42; with_reducible refine (CA.out _).mono ?_; rintro e wz ⟨rfl, rfl⟩) | (go_at_call 42; with_reducible refine (CB.out _).mono ?_; rintro e wz ⟨rfl, rfl⟩))
     go_ret
     rw [E.out]
     exact ⟨by first | rfl | simp [*], by exact HB.out⟩
    | true =>
     have E2 := Aside0.mk (E.out.trans (show (true && (true && decide (l2.length ≤ 8))) = decide ((l2.length : Int) ≤ 8) by rw [Bool.true_and, Bool.true_and, Bool.eq_iff_iff, decide_eq_true_eq, decide_eq_true_eq]; omega))
     go_wp2_with (first | (go_at_call 42; with_reducible refine (CA.out _).mono ?_; rintro e wz ⟨rfl, rfl⟩) | (go_at_call 42; with_reducible refine (CB.out _).mono ?_; rintro e wz ⟨rfl, rfl⟩))
     go_ret
     rw [E2.out]
     exact ⟨by first | rfl | simp [*], by exact HB.out⟩
def impl_IndexOk.f (_k : Nat) (a u : Int) (l2 : List S47) : Option Bool := some (ixB a u l2)
theorem impl_IndexOk.mono : ∀ a0 a1 a2 k, LeO (impl_IndexOk.f k a0 a1 a2) (impl_IndexOk.f (k + 1) a0 a1 a2) := fun _ _ _ _ _ h => h
theorem impl_IndexOk.calls (k : Nat) (a0_0 : Int) (a0_1 : Int) (A0_2 : Option Addr) (c0_2 : Nat) (l0_2 : List S47) (r : Bool) (w : World) (hr0_2 : Kd.C k47 w A0_2 l0_2.length l0_2) (hc0_2 : l0_2.length ≤ c0_2) (h : impl_IndexOk.f k a0_0 a0_1 l0_2 = some r) :
  Calls Tryz.prog 18 #[.agg #[.int .i64 a0_0, .int .i64 a0_1, .slice A0_2 l0_2.length c0_2]] w fun e w' => e = .returned (.bool r) ∧ Below w.heap.size w w' := by
 obtain rfl := Option.some.inj h; exact ixo_calls a0_0 a0_1 A0_2 c0_2 l0_2 w hr0_2

/-! ### impl_Meta_43: function 43 -/
def impl_Meta_43.l0 : Nat → List (S47) → Int → Int → Int → Int → Int → Option (Int)
 | 0, _, _, _, _, _, _ => none
 | k + 1, x0, x7, x8, x237000, x237001, x237002 => if x8 < x7 then (if 0 ≤ x8 then (if x8 < (x0.length : Int) then (if (x237000 == ((rd_T47 x0 x8).f0) && (x237001 == ((rd_T47 x0 x8).f1) && (x237002 == ((rd_T47 x0 x8).f2)))) = true then (some x8) else (impl_Meta_43.l0 k x0 x7 (wrap64 (x8 + 1)) x237000 x237001 x237002)) else (none)) else (none)) else (some (-1))
def impl_Meta_43.f (k : Nat) (l0 : List (S47)) (a1_0 : Int) (a1_1 : Int) (a1_2 : Int) : Option (Int) := impl_Meta_43.l0 k l0 (l0.length : Int) 0 a1_0 a1_1 a1_2
theorem impl_Meta_43.mono_l : ∀ k, (∀ y0 y1 y2 y3 y4 y5, LeO (impl_Meta_43.l0 k y0 y1 y2 y3 y4 y5) (impl_Meta_43.l0 (k + 1) y0 y1 y2 y3 y4 y5))
 | 0 => fun _ _ _ _ _ _ r h => by simp [impl_Meta_43.l0] at h
 | k + 1 => by
  have ih0 := impl_Meta_43.mono_l k
  ·intro y0 y1 y2 y3 y4 y5
   unfold impl_Meta_43.l0
   repeat' first
   | (with_reducible exact ih0 _ _ _ _ _ _)
   | (with_reducible exact LeO.refl _)
   | (with_reducible exact LeO.none _)
   | (with_reducible refine LeO.ite ?_ ?_)
   | (with_reducible refine LeO.bind ?_ (fun _ => ?_))
   | exact ih0 _ _ _ _ _ _
   | exact LeO.none _
   | refine LeO.ite ?_ ?_
   | refine LeO.bind ?_ (fun _ => ?_)
theorem impl_Meta_43.mono : ∀ a0 a1 a2 a3 k, LeO (impl_Meta_43.f k a0 a1 a2 a3) (impl_Meta_43.f (k + 1) a0 a1 a2 a3) := by
 intro a0 a1 a2 a3 k
 have ih0 := impl_Meta_43.mono_l k
 unfold impl_Meta_43.f
 repeat' with_reducible first | apply ih0 | exact LeO.refl _ | exact LeO.none _ | refine LeO.ite ?_ ?_ | refine LeO.bind ?_ (fun _ => ?_)
set_option maxHeartbeats 8000000 in
set_option maxRecDepth 100000 in
theorem impl_Meta_43.calls (k : Nat) (A0 : Option Addr) (c0 : Nat) (l0 : List (S47)) (a1_0 : Int) (a1_1 : Int) (a1_2 : Int) (r : Int) (w : World) (hr0 : Kd.C k47 w A0 l0.length l0) (hc0 : l0.length ≤ c0) (h : impl_Meta_43.f k l0 a1_0 a1_1 a1_2 = some r) :
  Calls Tryz.prog 43 #[.slice A0 l0.length c0, .agg #[.int .i64 a1_0, .int .i64 a1_1, .int .i64 a1_2]] w fun e w' => e = .returned (.int .i64 r) ∧ Below w.heap.size w w' := by
 have hu47 := Tryz.underlying47; have HR0 := aM hr0; have HC0 := aM hc0; clear hr0 hc0; have HB := aM (Below.refl w.heap.size w); have H : (impl_Meta_43.l0 k l0 (l0.length : Int) 0 a1_0 a1_1 a1_2) = some r := h; clear h; have H' := aM H; clear H
 go_enter Tryz.func43, Tryz.ntmps43
 go_wp2_with (first | ((with_reducible refine gate_dst (N := 3) rfl ?_); refine zbx 3 #[.int .i64 a1_0, .int .i64 a1_1, .int .i64 a1_2] 47 ?_; intro gb236 hg w3 hbox hb; have _ := aM (below_step (zB HB.1) hb); have _ := aM (hbox); have _ := aM (zge hg (zB HB.1)); have _ := aM (zge hg (zB HB.1)); clear HB; rename_i HB BK236 GW236 GE236; clear hb hbox hg))
 repeat (go_quiet (fail); try go_wp2_with (first | ((with_reducible refine gate_dst (N := 3) rfl ?_); refine zbx 3 #[.int .i64 a1_0, .int .i64 a1_1, .int .i64 a1_2] 47 ?_; intro gb236 hg w3 hbox hb; have _ := aM (below_step (zB HB.1) hb); have _ := aM (hbox); have _ := aM (zge hg (zB HB.1)); have _ := aM (zge hg (zB HB.1)); clear HB; rename_i HB BK236 GW236 GE236; clear hb hbox hg)))
 go_loopg [8] k (fun kq v8 w' => ∃ (x8_1 : Int), v8 = .int .i64 x8_1 ∧ Aside0 (impl_Meta_43.l0 kq l0 (l0.length : Int) x8_1 a1_0 a1_1 a1_2 = some r) ∧ Aside0 (kq ≤ k) ∧ Aside0 (w'.heap[gb236]? = some (.cells #[.int .i64 a1_0, .int .i64 a1_1, .int .i64 a1_2] 47 (0, 0))) ∧ Aside0 (Below w.heap.size w w'))
 case atStart => exact ⟨(0), (by first | rfl | (simp; done) | (simp [*]; done)), H', ⟨Nat.le_refl _⟩, ⟨zK BK236.1⟩, ⟨zB1 HB.1 GE236.1⟩⟩
 case round =>
  clear H'
  try clear p2
  obtain ⟨x8_1, rfl, HA, HK1, BK236, HB⟩ := hrel; cases gk with
  | zero => exact absurd HA.1 (by simp [impl_Meta_43.l0])
  | succ k1 =>
   have H := HA.1; clear HA; simp only [impl_Meta_43.l0] at H
   by_cases c4 : x8_1 < (l0.length : Int)
   ·rw [if_pos c4] at H; have c4b0 : decide (x8_1 < (l0.length : Int)) = true := decide_eq_true c4; clear c4; replace H := zif H; obtain ⟨c5, H⟩ := H; have c5b0 : decide (0 ≤ x8_1) = true := decide_eq_true c5; clear c5; replace H := zif H; obtain ⟨c6, H⟩ := H; have c6b0 : decide (x8_1 < (l0.length : Int)) = true := decide_eq_true c6; clear c6
    by_cases c7 : (a1_0 == ((rd_T47 l0 x8_1).f0) && (a1_1 == ((rd_T47 l0 x8_1).f1) && (a1_2 == ((rd_T47 l0 x8_1).f2)))) = true
    ·rw [if_pos c7] at H; have c7b0 : (a1_0 == ((rd_T47 l0 x8_1).f0) && (a1_1 == ((rd_T47 l0 x8_1).f1) && (a1_2 == ((rd_T47 l0 x8_1).f2)))) = true := c7
     obtain ⟨c7z0, c7z1, c7z2⟩ : (a1_0 = (rd_T47 l0 x8_1).f0) = True ∧ (a1_1 = (rd_T47 l0 x8_1).f1) = True ∧ (a1_2 = (rd_T47 l0 x8_1).f2) = True := by simpa using c7
     (try (have c7b1 : decide (a1_0 = ((rd_T47 l0 x8_1).f0) && (a1_1 == ((rd_T47 l0 x8_1).f1) && (a1_2 == ((rd_T47 l0 x8_1).f2)))) = true := by simpa using c7)); (try (have c7b2 : (a1_0 == ((rd_T47 l0 x8_1).f0) && (a1_1 == ((rd_T47 l0 x8_1).f1) && (a1_2 == ((rd_T47 l0 x8_1).f2)))) = true := by simpa using c7)); clear c7; obtain rfl := Option.some.inj H; obtain ⟨hcz8_0, hcz8_1, hcz8_2, hfz8_0, hfz8_1, hfz8_2⟩ := zc3f BK236.1; have p237 : 0 ≤ (x8_1 : Int) := zd; have q237 : x8_1 < (l0.length : Int) := zd; obtain ⟨ad237, e237, hx237_0, hx237_1, hx237_2⟩ := at_T47 HR0.1 x8_1 p237 q237; cases e237; replace hx237_0 := (HB.1.cell (World.block_lt_of_cell? w _ hx237_0)).trans hx237_0; replace hx237_1 := (HB.1.cell (World.block_lt_of_cell? w _ hx237_1)).trans hx237_1; replace hx237_2 := (HB.1.cell (World.block_lt_of_cell? w _ hx237_2)).trans hx237_2; replace p237 := eq_true p237; replace q237 := eq_true q237
     go_wp2
     repeat (go_quiet (fail); try go_wp2)
     go_ret
     exact ⟨by first | rfl | (simp [errW_none, errW_some] <;> rfl) | (simp [*, errW_none, errW_some] <;> rfl), by exact zB1 HB.1 GE236.1⟩
    ·rw [if_neg c7] at H
     have c7z : ∀ (α : Type) (X Y : α), (if a1_0 = (rd_T47 l0 x8_1).f0 then (if a1_1 = (rd_T47 l0 x8_1).f1 then (if a1_2 = (rd_T47 l0 x8_1).f2 then X else Y) else Y) else Y) = Y := by intro α X Y; (repeat' split) <;> first | rfl | (exfalso; simp_all)
     have c7b0 : (a1_0 == ((rd_T47 l0 x8_1).f0) && (a1_1 == ((rd_T47 l0 x8_1).f1) && (a1_2 == ((rd_T47 l0 x8_1).f2)))) = false := by simpa using c7
     (try (have c7b1 : decide (a1_0 = ((rd_T47 l0 x8_1).f0) && (a1_1 == ((rd_T47 l0 x8_1).f1) && (a1_2 == ((rd_T47 l0 x8_1).f2)))) = false := by simpa using c7)); (try (have c7b2 : (a1_0 == ((rd_T47 l0 x8_1).f0) && (a1_1 == ((rd_T47 l0 x8_1).f1) && (a1_2 == ((rd_T47 l0 x8_1).f2)))) = false := by simpa using c7)); (try (have c7b3 : ¬ (a1_0 = ((rd_T47 l0 x8_1).f0) && (a1_1 == ((rd_T47 l0 x8_1).f1) && (a1_2 == ((rd_T47 l0 x8_1).f2)))) := by simpa using c7)); clear c7; have H' := aM H; clear H; obtain ⟨hcz9_0, hcz9_1, hcz9_2, hfz9_0, hfz9_1, hfz9_2⟩ := zc3f BK236.1; have p237 : 0 ≤ (x8_1 : Int) := zd; have q237 : x8_1 < (l0.length : Int) := zd; obtain ⟨ad237, e237, hx237_0, hx237_1, hx237_2⟩ := at_T47 HR0.1 x8_1 p237 q237; cases e237; replace hx237_0 := (HB.1.cell (World.block_lt_of_cell? w _ hx237_0)).trans hx237_0; replace hx237_1 := (HB.1.cell (World.block_lt_of_cell? w _ hx237_1)).trans hx237_1; replace hx237_2 := (HB.1.cell (World.block_lt_of_cell? w _ hx237_2)).trans hx237_2; replace p237 := eq_true p237; replace q237 := eq_true q237
     go_wp2
     repeat (go_quiet (fail); try go_wp2)
     go_roundg k1
     case measure => have := HK1.1; omega
     case rel => exact ⟨(wrap64 (x8_1 + 1)), (by first | rfl | (simp; done) | (simp [*]; done)), H', ⟨by have := HK1.1; omega⟩, ⟨zK BK236.1⟩, ⟨zB1 HB.1 GE236.1⟩⟩
   ·rw [if_neg c4] at H; have c4b0 : decide (x8_1 < (l0.length : Int)) = false := decide_eq_false c4; clear c4; obtain rfl := Option.some.inj H
    go_wp2
    repeat (go_quiet (fail); try go_wp2)
    go_ret
    exact ⟨by first | rfl | (simp [errW_none, errW_some] <;> rfl) | (simp [*, errW_none, errW_some] <;> rfl), by exact zB1 HB.1 GE236.1⟩

/-! ### impl_Meta_19: function 19 -/
def impl_Meta_19.f (k : Nat) (l0 : List (S47)) (a1_0 : Int) (a1_1 : Int) (a1_2 : Int) : Option (Bool) := (impl_Meta_43.f k l0 a1_0 a1_1 a1_2).bind fun t239 => (some (decide (t239 ≥ 0)))
theorem impl_Meta_19.mono : ∀ a0 a1 a2 a3 k, LeO (impl_Meta_19.f k a0 a1 a2 a3) (impl_Meta_19.f (k + 1) a0 a1 a2 a3) := by
 intro a0 a1 a2 a3 k
 unfold impl_Meta_19.f
 repeat' with_reducible first | apply impl_Meta_43.mono | exact LeO.refl _ | exact LeO.none _ | refine LeO.ite ?_ ?_ | refine LeO.bind ?_ (fun _ => ?_)
set_option maxHeartbeats 8000000 in
set_option maxRecDepth 100000 in
theorem impl_Meta_19.calls (k : Nat) (A0 : Option Addr) (c0 : Nat) (l0 : List (S47)) (a1_0 : Int) (a1_1 : Int) (a1_2 : Int) (r : Bool) (w : World) (hr0 : Kd.C k47 w A0 l0.length l0) (hc0 : l0.length ≤ c0) (h : impl_Meta_19.f k l0 a1_0 a1_1 a1_2 = some r) :
  Calls Tryz.prog 19 #[.slice A0 l0.length c0, .agg #[.int .i64 a1_0, .int .i64 a1_1, .int .i64 a1_2]] w fun e w' => e = .returned (.bool r) ∧ Below w.heap.size w w' := by
 have hu47 := Tryz.underlying47; have HR0 := aM hr0; have HC0 := aM hc0; clear hr0 hc0; have HB := aM (Below.refl w.heap.size w); have H : ((impl_Meta_43.f k l0 a1_0 a1_1 a1_2).bind fun t239 => (some (decide (t239 ≥ 0)))) = some r := h; clear h; replace H := Option.bind_eq_some_iff.mp H; obtain ⟨t239, A30, H⟩ := H; (try dsimp only at H); have A3 := aM A30; clear A30; obtain rfl := Option.some.inj H
 go_enter Tryz.func19, Tryz.ntmps19
 go_wp2_with (first | ((with_reducible refine gate_dst (N := 3) rfl ?_); refine zbx 3 #[.int .i64 a1_0, .int .i64 a1_1, .int .i64 a1_2] 47 ?_; intro gb238 hg w4 hbox hb; have _ := aM (below_step (zB HB.1) hb); have _ := aM (hbox); have _ := aM (zge hg (zB HB.1)); have _ := aM (zge hg (zB HB.1)); clear HB; rename_i HB BK238 GW238 GE238; clear hb hbox hg; obtain ⟨hcz5_0, hcz5_1, hcz5_2, hfz5_0, hfz5_1, hfz5_2⟩ := zc3f BK238.1) | ((with_reducible refine gate_callee (f := 43) rfl ?_); refine zgL (some 7) Tryz.func43 #[.slice A0 l0.length c0, .agg #[.int .i64 a1_0, .int .i64 a1_1, .int .i64 a1_2]] ?_; (with_reducible refine (impl_Meta_43.calls k _ _ l0 a1_0 a1_1 a1_2 t239 _ ?side1 ?side2 A3.1).mono ?_); (case side1 => exact zC (Kd.C_below HR0.1 HB.1)); (case side2 => exact HC0.1); rintro e w6 ⟨rfl, hb⟩; refine ⟨_, rfl, ?_⟩; have _ := aM (blk_below (zK BK238.1) hb); have _ := aM (below_step (zB1 HB.1 GE238.1) hb); clear BK238 HB; rename_i BK238 HB; (try clear hb); (try clear hb2); (try clear hk); (try clear hi)))
 go_ret
 exact ⟨by first | rfl | (simp [errW_none, errW_some] <;> rfl) | (simp [*, errW_none, errW_some] <;> rfl), by exact zB1 HB.1 GE238.1⟩

/-! ### impl_SumOf: function 44 -/
def impl_SumOf.l0 : Nat → ByteArray → Int → Int → Option (Int)
 | 0, _, _, _ => none
 | k + 1, x0, x3, x4 => if x4 < (x0.size : Int) then (if 0 ≤ x4 then (impl_SumOf.l0 k x0 (Int.tmod (wrap64 ((wrap64 ((wrap64 (31 * x3)) + (wrap64 (bt x0 x4)))) + 1)) 9973) (wrap64 (x4 + 1))) else (none)) else (some x3)
def impl_SumOf.f (k : Nat) (a0 : ByteArray) : Option (Int) := impl_SumOf.l0 k a0 7 0
theorem impl_SumOf.mono_l : ∀ k, (∀ y0 y1 y2, LeO (impl_SumOf.l0 k y0 y1 y2) (impl_SumOf.l0 (k + 1) y0 y1 y2))
 | 0 => fun _ _ _ r h => by simp [impl_SumOf.l0] at h
 | k + 1 => by
  have ih0 := impl_SumOf.mono_l k
  ·intro y0 y1 y2
   unfold impl_SumOf.l0
   repeat' first
   | (with_reducible exact ih0 _ _ _)
   | (with_reducible exact LeO.refl _)
   | (with_reducible exact LeO.none _)
   | (with_reducible refine LeO.ite ?_ ?_)
theorem impl_SumOf.mono : ∀ a0 k, LeO (impl_SumOf.f k a0) (impl_SumOf.f (k + 1) a0) := by
 intro a0 k
 unfold impl_SumOf.f
 exact impl_SumOf.mono_l k _ _ _
theorem sum_world (w : World) (e : TypeId) (s : ByteArray) : Below w.heap.size w (Lib.bytesWorld w e s) :=
 ⟨rfl, rfl, rfl, by rw [Lib.bytesWorld_size]; omega, fun i hi => Lib.bytesWorld_at_old w e s i hi⟩
theorem sum_cell (w : World) (e : TypeId) (s : ByteArray) (j : Nat) (hj : j < s.size) : (Lib.bytesWorld w e s).cell? ⟨w.heap.size, j, none⟩ = some (.int .u8 (bt s (j : Int))) := by
 rw [Lib.bytesWorld_cell w e s j hj]
 have e1 : s.data.toList.getD j 0 = s[j] := by
  simp only [List.getD, Array.getElem?_toList]
  have : j < s.data.size := hj
  rw [Array.getElem?_eq_getElem this]; rfl
 rw [e1, bt, dif_pos (by simpa using hj)]; rfl
set_option maxHeartbeats 8000000 in
set_option maxRecDepth 100000 in
theorem impl_SumOf.calls (k : Nat) (a0 : ByteArray) (r : Int) (w : World) (h : impl_SumOf.f k a0 = some r) :
  Calls Tryz.prog 44 #[.string a0] w fun e w' => e = .returned (.int .i64 r) ∧ Below w.heap.size w w' := by
 have H : (impl_SumOf.l0 k a0 7 0) = some r := h; clear h; have H' := aM H; clear H; obtain ⟨W, hW⟩ : ∃ W, W = Lib.bytesWorld w 5 a0 := ⟨_, rfl⟩; have hrun := Lib.run_convert_string_bytes (P := Tryz.prog) w 9 85 5 a0 Tryz.underlying9 Tryz.underlying85 Tryz.underlying5; have HB := aM (sum_world w 5 a0)
 have HC := aM (fun (x : Int) (h0 : 0 ≤ x) (h1 : x < (a0.size : Int)) => (show (Lib.bytesWorld w 5 a0).cell? ⟨w.heap.size, x.toNat, none⟩ = some (.int .u8 (bt a0 x)) by
  rw [sum_cell w 5 a0 x.toNat (by omega), Int.toNat_of_nonneg h0]))
 rw [← hW] at hrun HB HC; clear hW
 go_enter Tryz.func44, Tryz.ntmps44
 go_wp2
 go_loopg [3, 9] k (fun kq v3 v9 w' => ∃ (x3_1 : Int) (x4_1 : Int), v3 = .int .i64 x3_1 ∧ v9 = .int .i64 x4_1 ∧ Aside0 (impl_SumOf.l0 kq a0 x3_1 x4_1 = some r) ∧ Aside0 (kq ≤ k) ∧ Drawn0 W w')
 case atStart => exact ⟨(7), (0), (by first | rfl | (simp; done) | (simp [*]; done)), (by first | rfl | (simp; done) | (simp [*]; done)), H', ⟨Nat.le_refl _⟩, by repeat (first | exact Drawn0.refl _ | apply Drawn0.step)⟩
 case round =>
  clear H'; obtain ⟨x3_1, x4_1, rfl, rfl, HA, HK1, ⟨m1, rfl⟩⟩ := hrel; cases gk with
  | zero => exact absurd HA.1 (by simp [impl_SumOf.l0])
  | succ k1 =>
   have H := HA.1; clear HA; simp only [impl_SumOf.l0] at H
   by_cases c2 : x4_1 < (a0.size : Int)
   ·rw [if_pos c2] at H; replace H := zif H; obtain ⟨c3, H⟩ := H; have H' := aM H; clear H; have hx4 := HC.1 x4_1 c3 c2; have c2b0 : decide (x4_1 < (a0.size : Int)) = true := decide_eq_true c2; have c3b0 : decide (0 ≤ x4_1) = true := decide_eq_true c3; have q4 : x4_1 < (a0.size : Int) := c2; replace c3 := eq_true c3; replace q4 := eq_true q4; clear c2
    go_wp2
    go_roundg k1
    case measure => have := HK1.1; omega
    case rel => exact ⟨(Int.tmod (wrap64 ((wrap64 ((wrap64 (31 * x3_1)) + (wrap64 (bt a0 x4_1)))) + 1)) 9973), (wrap64 (x4_1 + 1)), (by first | rfl | (simp; done) | (simp [*]; done)), (by first | rfl | (simp; done) | (simp [*]; done)), H', ⟨by have := HK1.1; omega⟩, by repeat (first | exact Drawn0.refl _ | apply Drawn0.step)⟩
   ·rw [if_neg c2] at H; have c2b0 : decide (x4_1 < (a0.size : Int)) = false := decide_eq_false c2; clear c2; obtain rfl := Option.some.inj H
    go_wp2
    go_ret
    exact ⟨by first | rfl | (simp; done) | (simp [*]; done), pw_below_drewN HB.1 _⟩

/-! ### impl_metaOf: function 20 -/
def impl_metaOf.f (k : Nat) (a0_0 : Int) (a0_1 : Int) (l0_2 : List (S71)) (l0_3 : List (S73)) : Option (Int × Int × Int) := (impl_PkgText.f k a0_0 a0_1 l0_2 l0_3).bind fun t242 => ((impl_SumOf.f k t242).bind fun t243 => (some (a0_0, a0_1, t243)))
theorem impl_metaOf.mono : ∀ a0 a1 a2 a3 k, LeO (impl_metaOf.f k a0 a1 a2 a3) (impl_metaOf.f (k + 1) a0 a1 a2 a3) := by
 intro a0 a1 a2 a3 k
 unfold impl_metaOf.f
 repeat' with_reducible first | apply impl_PkgText.mono | apply impl_SumOf.mono | exact LeO.refl _ | exact LeO.none _ | refine LeO.ite ?_ ?_ | refine LeO.bind ?_ (fun _ => ?_)
def impl_metaOf.T1 : Bool × List (List Nat × List Nat) := (true, [([], []), ([0], [0]), ([], []), ([2], [2]), ([], []), ([4], [4]), ([5, 5], [5]), ([1, 3, 6], [1, 3, 6]), ([7, 6, 0, 1, 2, 3, 4, 5, 6, 7], [7])])
def impl_metaOf.B1 : List Nat := [0, 1, 0, 4, 0, 16, 48, 127, 255]
theorem impl_metaOf.tab1 : rtab .any (opsOf Tryz.f20 1) = impl_metaOf.T1 := by kernel_rfl
theorem impl_metaOf.bits1 : waitsOk impl_metaOf.T1.2 impl_metaOf.B1 = true := by kernel_rfl
set_option maxHeartbeats 8000000 in
set_option maxRecDepth 100000 in
theorem impl_metaOf.calls (k : Nat) (a0_0 : Int) (a0_1 : Int) (A0_2 : Option Addr) (c0_2 : Nat) (l0_2 : List (S71)) (A0_3 : Option Addr) (c0_3 : Nat) (l0_3 : List (S73)) (r1 : Int) (r2 : Int) (r3 : Int) (w : World) (hr0_2 : Kd.C k71 w A0_2 l0_2.length l0_2) (hc0_2 : l0_2.length ≤ c0_2) (hr0_3 : Kd.C k73 w A0_3 l0_3.length l0_3) (hc0_3 : l0_3.length ≤ c0_3) (h : impl_metaOf.f k a0_0 a0_1 l0_2 l0_3 = some (r1, r2, r3)) :
  Calls Tryz.prog 20 #[.agg #[.int .i64 a0_0, .int .i64 a0_1, .slice A0_2 l0_2.length c0_2, .slice A0_3 l0_3.length c0_3]] w fun e w' => e = .returned (.agg #[.int .i64 r1, .int .i64 r2, .int .i64 r3]) ∧ Below w.heap.size w w' := by
 have hu29 := Tryz.underlying29; have hu47 := Tryz.underlying47; have HR0_2 := aM hr0_2; have HC0_2 := aM hc0_2; clear hr0_2 hc0_2; have HR0_3 := aM hr0_3; have HC0_3 := aM hc0_3; clear hr0_3 hc0_3; have HB := aM (Below.refl w.heap.size w); have H : ((impl_PkgText.f k a0_0 a0_1 l0_2 l0_3).bind fun t242 => ((impl_SumOf.f k t242).bind fun t243 => (some (a0_0, a0_1, t243)))) = some (r1, r2, r3) := h; clear h; replace H := Option.bind_eq_some_iff.mp H; obtain ⟨t242, A20, H⟩ := H; (try dsimp only at H); have A2 := aM A20; clear A20; replace H := Option.bind_eq_some_iff.mp H; obtain ⟨t243, A30, H⟩ := H; (try dsimp only at H); have A3 := aM A30; clear A30; simp only [Option.some.injEq, Prod.mk.injEq] at H; obtain ⟨rfl, rfl, rfl⟩ := H
 go_enter Tryz.func20, Tryz.ntmps20
 try go_wp2_with (first | ((with_reducible refine gate_dst (N := 1) rfl ?_); refine zbx 1 #[.int .i64 a0_0, .int .i64 a0_1, .slice A0_2 l0_2.length c0_2, .slice A0_3 l0_3.length c0_3] 29 ?_; intro gb240 hg w4 hbox hb; have _ := aM (below_step (zB HB.1) hb); have _ := aM (hbox); have _ := aM (zge hg (zB HB.1)); have _ := aM (zge hg (zB HB.1)); clear HB; rename_i HB BK240 GW240 GE240; clear hb hbox hg) | ((with_reducible refine gate_dst (N := 2) rfl ?_); refine zbx 2 #[.int .i64 0, .int .i64 0, .int .i64 0] 47 ?_; intro gb241 hg w5 hbox hb; have _ := aM (blk_below (zK BK240.1) hb); have _ := aM (below_step (zB1 HB.1 GE240.1) hb); have _ := aM (hbox); have _ := aM (zge hg (zB1 HB.1 GE240.1)); have _ := aM (zge hg (zB1 HB.1 GE240.1)); have _ := aM (znl hg (zK BK240.1)); have _ := aM (zng hg (zK BK240.1)); clear BK240 HB; rename_i BK240 HB BK241 GW241 GE241 NB240_241 NB241_240; clear hb hbox hg))
 have _ := aM (blk_drew BK240.1); have _ := aM (blk_drew BK241.1); have _ := aM (below_drew1 HB.1); clear BK240 BK241 HB; rename_i BK240 BK241 HB
 refine start_ (n := 9) (S := fun w' => w'.cell? ⟨gb240, 0, none⟩ = some (.int .i64 a0_0) ∧ w'.cell? ⟨gb240, 1, none⟩ = some (.int .i64 a0_1) ∧ w'.cell? ⟨gb240, 2, none⟩ = some (.slice A0_2 l0_2.length c0_2) ∧ w'.cell? ⟨gb240, 3, none⟩ = some (.slice A0_3 l0_3.length c0_3)) (ds := []) (zA 9 0) (by kernel_rfl) rfl rfl ⟨(blk_cell BK240.1 0).trans rfl, (blk_cell BK240.1 1).trans rfl, (blk_cell BK240.1 2).trans rfl, (blk_cell BK240.1 3).trans rfl⟩ (fun hHeld => ?_); refine with_tabW impl_metaOf.tab1 impl_metaOf.bits1 (fun HT_ HW_ => ?_)
 generalize w5.drew = w6 at BK240 BK241 HB hHeld ⊢; refine zu HT_ 0 (some 3) (zA 9 1) ?_; refine zu HT_ 2 (some 5) (zA 9 5) ?_; refine take_ (i := 1) (N := some 4) (v := ?_) (a' := ?_) (zA 9 7) rfl rfl (take_ofW HT_.1 HW_.1 (by kernel_rfl)) (fun _ _ _ h => h) (Or.inl ⟨by rfl, ?_⟩) hHeld ?_ ?_; rotate_left
 ·rintro w' ⟨s0, s1, s2, s3⟩
  go_simp
  (with_reducible rfl)
 rotate_left
 ·simp only [zp0, zp1, zp2, zp3, zp4, i64_w, i32_w]; rfl
 refine take_ (i := 3) (N := some 6) (v := ?_) (a' := ?_) (zA 9 15) rfl rfl (take_ofW HT_.1 HW_.1 (by kernel_rfl)) (fun _ _ _ h => h) (Or.inl ⟨by rfl, ?_⟩) hHeld ?_ ?_; rotate_left
 ·rintro w' ⟨s0, s1, s2, s3⟩
  go_simp
  (with_reducible rfl)
 rotate_left
 ·simp only [zp0, zp1, zp2, zp3, zp4, i64_w, i32_w]; rfl
 refine take_ (i := 4) (N := some 7) (v := ?_) (a' := ?_) (zA 9 31) rfl rfl (take_ofW HT_.1 HW_.1 (by kernel_rfl)) (fun _ _ _ h => h) (Or.inl ⟨by rfl, ?_⟩) hHeld ?_ ?_; rotate_left
 ·rintro w' ⟨s0, s1, s2, s3⟩
  go_simp
  (with_reducible rfl)
 rotate_left
 ·simp only [zp0, zp1, zp2, zp3, zp4, i64_w, i32_w]; rfl
 refine zo HT_ 5 (some 8) (zA 9 63) (fun K hK => ?_); refine zg Tryz.func39 #[.agg #[.int .i64 a0_0, .int .i64 a0_1, .slice A0_2 l0_2.length c0_2, .slice A0_3 l0_3.length c0_3]] ?_; (with_reducible refine (impl_PkgText.calls k a0_0 a0_1 _ _ l0_2 _ _ l0_3 t242 _ ?side1 ?side2 ?side3 ?side4 A2.1).mono ?_); (case side1 => exact zC (Kd.C_below HR0_2.1 HB.1)); (case side2 => exact HC0_2.1); (case side3 => exact zC (Kd.C_below HR0_3.1 HB.1)); (case side4 => exact HC0_3.1); rintro e w7 ⟨rfl, hb⟩; refine ⟨_, rfl, ?_⟩; have _ := aM (blk_below (zK BK240.1) hb); have _ := aM (blk_below (zK BK241.1) hb); have _ := aM (below_step (zB2 HB.1 GE240.1 GE241.1) hb); clear BK240 BK241 HB; rename_i BK240 BK241 HB; (try clear hb); (try clear hb2); (try clear hk); (try clear hi); refine hK.out _ _ ⟨(blk_cell BK240.1 0).trans rfl, (blk_cell BK240.1 1).trans rfl, (blk_cell BK240.1 2).trans rfl, (blk_cell BK240.1 3).trans rfl⟩ (fun hHeld => ?_); clear hK K; refine zn (some 8) ?_; refine zo HT_ 6 (some 9) (zA 9 127) (fun K hK => ?_); refine zg Tryz.func44 #[.string t242] ?_; (with_reducible refine (impl_SumOf.calls k t242 t243 _ A3.1).mono ?_); rintro e w8 ⟨rfl, hb⟩; refine ⟨_, rfl, ?_⟩; have _ := aM (blk_below (zK BK240.1) hb); have _ := aM (blk_below (zK BK241.1) hb); have _ := aM (below_step (zB2 HB.1 GE240.1 GE241.1) hb); clear BK240 BK241 HB; rename_i BK240 BK241 HB; (try clear hb); (try clear hb2); (try clear hk); (try clear hi); refine hK.out _ _ ⟨(blk_cell BK240.1 0).trans rfl, (blk_cell BK240.1 1).trans rfl, (blk_cell BK240.1 2).trans rfl, (blk_cell BK240.1 3).trans rfl⟩ (fun hHeld => ?_); clear hK K; refine zn (some 9) ?_; refine zu HT_ 7 (some 10) (zA 9 255) ?_; refine zo HT_ 8 none (zA 9 511) (fun K hK => ?_); have hs9 : w8.cell? ⟨gb241, 0, none⟩ = some (.int .i64 0) := (blk_cell BK241.1 0).trans rfl; have hfs9 := blk_frozen BK241.1 0; have hns9_0 := NB240_241.1; have hms9_0 := NB241_240.1; have hs10 : w8.cell? ⟨gb241, 1, none⟩ = some (.int .i64 0) := (blk_cell BK241.1 1).trans rfl; have hfs10 := blk_frozen BK241.1 1; have hns10_0 := NB240_241.1; have hms10_0 := NB241_240.1; have hs11 : w8.cell? ⟨gb241, 2, none⟩ = some (.int .i64 0) := (blk_cell BK241.1 2).trans rfl; have hfs11 := blk_frozen BK241.1 2; have hns11_0 := NB240_241.1; have hms11_0 := NB241_240.1; refine skip_ (w1 := ?_) (by rfl) rfl ?_ ?_; rotate_left
 ·go_simp
  rfl
 refine hK.out _ _ ⟨((cell_far (p := ⟨gb241, _, none⟩) NB240_241.1 _).trans (((cell_far (p := ⟨gb241, _, none⟩) NB240_241.1 _).trans (((cell_far (p := ⟨gb241, _, none⟩) NB240_241.1 _).trans (hHeld.1)))))), ((cell_far (p := ⟨gb241, _, none⟩) NB240_241.1 _).trans (((cell_far (p := ⟨gb241, _, none⟩) NB240_241.1 _).trans (((cell_far (p := ⟨gb241, _, none⟩) NB240_241.1 _).trans (hHeld.2.1)))))), ((cell_far (p := ⟨gb241, _, none⟩) NB240_241.1 _).trans (((cell_far (p := ⟨gb241, _, none⟩) NB240_241.1 _).trans (((cell_far (p := ⟨gb241, _, none⟩) NB240_241.1 _).trans (hHeld.2.2.1)))))), ((cell_far (p := ⟨gb241, _, none⟩) NB240_241.1 _).trans (((cell_far (p := ⟨gb241, _, none⟩) NB240_241.1 _).trans (((cell_far (p := ⟨gb241, _, none⟩) NB240_241.1 _).trans (hHeld.2.2.2))))))⟩ (fun hHeld => ?_); clear hK K; refine done_ (done_of HT_.1 (by kernel_rfl)) ?_
 try go_wp2
 refine bodyPost_ret (results_cell_row rfl _ _ gb241 47 #[.int .i64 a0_0, .int .i64 a0_1, .int .i64 t243] (0, 0) _ rfl (by exact zP BK241.1 (by rfl)) Tryz.underlying47 rfl (by kernel_rfl)) rfl ?_; exact ⟨by first | rfl | (simp [errW_none, errW_some] <;> rfl) | (simp [*, errW_none, errW_some] <;> rfl), by exact zB2 HB.1 GE240.1 GE241.1⟩

/-! ### impl_IndexHas: function 7 -/
def impl_IndexHas.j0 : Nat → Bool → Int → Int → List (S71) → List (S73) → Option (Int × Int × (List (S71)) × (List (S73)) × Bool)
 | 0, _, _, _, _, _ => none
 | k + 1, x27, x256000, x256001, x256002, x256003 => if x27 = true then (some (0, 0, ([] : List (S71)), ([] : List (S73)), false)) else (some (x256000, x256001, x256002, x256003, true))
def impl_IndexHas.f (k : Nat) (a0_0 : Int) (a0_1 : Int) (l0_2 : List (S47)) (a1 : ByteArray) : Option (Int × Int × (List (S71)) × (List (S73)) × Bool) := (impl_PkgRead.f k a1).bind fun bt246 => (if bt246.2.2.2.2 = true then ((impl_IndexOk.f k a0_0 a0_1 l0_2).bind fun t256 => (if t256 = true then ((impl_metaOf.f k bt246.1 bt246.2.1 bt246.2.2.1 bt246.2.2.2.1).bind fun bt257 => ((impl_Meta_19.f k l0_2 bt257.1 bt257.2.1 bt257.2.2).bind fun t260 => (impl_IndexHas.j0 k (!t260) bt246.1 bt246.2.1 bt246.2.2.1 bt246.2.2.2.1))) else (impl_IndexHas.j0 k true bt246.1 bt246.2.1 bt246.2.2.1 bt246.2.2.2.1))) else (impl_IndexHas.j0 k true bt246.1 bt246.2.1 bt246.2.2.1 bt246.2.2.2.1))
theorem impl_IndexHas.mono_l : ∀ k, (∀ y0 y1 y2 y3 y4, LeO (impl_IndexHas.j0 k y0 y1 y2 y3 y4) (impl_IndexHas.j0 (k + 1) y0 y1 y2 y3 y4))
 | 0 => fun _ _ _ _ _ r h => by simp [impl_IndexHas.j0] at h
 | k + 1 => by
  have ih0 := impl_IndexHas.mono_l k
  ·intro y0 y1 y2 y3 y4
   unfold impl_IndexHas.j0
   repeat' first
   | (with_reducible exact ih0 _ _ _ _ _)
   | (with_reducible exact impl_IndexOk.mono _ _ _ _)
   | (with_reducible exact impl_Meta_19.mono _ _ _ _ _)
   | (with_reducible exact impl_PkgRead.mono _ _)
   | (with_reducible exact impl_metaOf.mono _ _ _ _ _)
   | (with_reducible exact LeO.refl _)
   | (with_reducible exact LeO.none _)
   | (with_reducible refine LeO.ite ?_ ?_)
   | (with_reducible refine LeO.bind ?_ (fun _ => ?_))
   | exact ih0 _ _ _ _ _
   | exact impl_IndexOk.mono _ _ _ _
   | exact impl_Meta_19.mono _ _ _ _ _
   | exact impl_PkgRead.mono _ _
   | exact impl_metaOf.mono _ _ _ _ _
   | exact LeO.none _
   | refine LeO.ite ?_ ?_
   | refine LeO.bind ?_ (fun _ => ?_)
theorem impl_IndexHas.mono : ∀ a0 a1 a2 a3 k, LeO (impl_IndexHas.f k a0 a1 a2 a3) (impl_IndexHas.f (k + 1) a0 a1 a2 a3) := by
 intro a0 a1 a2 a3 k
 have ih0 := impl_IndexHas.mono_l k
 unfold impl_IndexHas.f
 repeat' with_reducible first | apply ih0 | apply impl_IndexOk.mono | apply impl_Meta_19.mono | apply impl_PkgRead.mono | apply impl_metaOf.mono | exact LeO.refl _ | exact LeO.none _ | refine LeO.ite ?_ ?_ | refine LeO.bind ?_ (fun _ => ?_)
def impl_IndexHas.T2 : Bool × List (List Nat × List Nat) := (true, [([], []), ([0], [0]), ([1], [1]), ([2], [2]), ([3, 2, 2], [2, 3]), ([4, 2], [2, 4]), ([2, 5], [2, 5]), ([6, 4], [6]), ([7], [7]), ([8, 7], [7, 8]), ([7], [7]), ([10, 7, 7], [7, 10]), ([9, 11, 11, 7], [7, 9, 11]), ([12, 7], [7, 12]), ([7, 13], [7, 13])])
def impl_IndexHas.B2 : List Nat := [0, 1, 3, 7, 15, 31, 63, 127, 255, 511, 255, 1279, 4095, 8191, 16383]
theorem impl_IndexHas.tab2 : rtab .any (opsOf Tryz.f7 2) = impl_IndexHas.T2 := by kernel_rfl
theorem impl_IndexHas.bits2 : waitsOk impl_IndexHas.T2.2 impl_IndexHas.B2 = true := by kernel_rfl
set_option maxHeartbeats 8000000 in
set_option maxRecDepth 100000 in
theorem impl_IndexHas.calls (k : Nat) (a0_0 : Int) (a0_1 : Int) (A0_2 : Option Addr) (c0_2 : Nat) (l0_2 : List (S47)) (a1 : ByteArray) (r1 : Int) (r2 : Int) (r3 : List (S71)) (r4 : List (S73)) (r5 : Bool) (w : World) (hr0_2 : Kd.C k47 w A0_2 l0_2.length l0_2) (hc0_2 : l0_2.length ≤ c0_2) (hLD : LaidW w) (h : impl_IndexHas.f k a0_0 a0_1 l0_2 a1 = some (r1, r2, r3, r4, r5)) :
  Calls Tryz.prog 7 #[.agg #[.int .i64 a0_0, .int .i64 a0_1, .slice A0_2 l0_2.length c0_2], .string a1] w fun e w' => ∃ v2_ v3_ : Value, e = .returned (.tuple #[.agg #[.int .i64 r1, .int .i64 r2, v2_, v3_], .bool r5]) ∧ Kd.R k71 71 w' w.heap.size (fun _ => True) v2_ r3 ∧ Kd.R k73 73 w' w.heap.size (fun _ => True) v3_ r4 ∧ Below w.heap.size w w' := by
 have hu34 := Tryz.underlying34; have hu29 := Tryz.underlying29; have HR0_2 := aM hr0_2; have HC0_2 := aM hc0_2; clear hr0_2 hc0_2; have HB := aM (Below.refl w.heap.size w); have HLD := aM hLD; clear hLD; have H : ((impl_PkgRead.f k a1).bind fun bt246 => (if bt246.2.2.2.2 = true then ((impl_IndexOk.f k a0_0 a0_1 l0_2).bind fun t256 => (if t256 = true then ((impl_metaOf.f k bt246.1 bt246.2.1 bt246.2.2.1 bt246.2.2.2.1).bind fun bt257 => ((impl_Meta_19.f k l0_2 bt257.1 bt257.2.1 bt257.2.2).bind fun t260 => (impl_IndexHas.j0 k (!t260) bt246.1 bt246.2.1 bt246.2.2.1 bt246.2.2.2.1))) else (impl_IndexHas.j0 k true bt246.1 bt246.2.1 bt246.2.2.1 bt246.2.2.2.1))) else (impl_IndexHas.j0 k true bt246.1 bt246.2.1 bt246.2.2.1 bt246.2.2.2.1))) = some (r1, r2, r3, r4, r5) := h; clear h; replace H := Option.bind_eq_some_iff.mp H; obtain ⟨⟨t246, t247, t248, t251, t254⟩, A30, H⟩ := H; (try dsimp only at H); have A3 := aM A30; clear A30; have HC4 := aM H; clear H
 go_enter Tryz.func7, Tryz.ntmps7
 go_upto_region 2 with (first | ((with_reducible refine gate_dst (N := 2) rfl ?_); refine zbx 2 #[.int .i64 a0_0, .int .i64 a0_1, .slice A0_2 l0_2.length c0_2] 34 ?_; intro gb244 hg w5 hbox hb; have _ := aM (below_step (zB HB.1) hb); have _ := aM (hbox); have _ := aM (zge hg (zB HB.1)); have _ := aM (zge hg (zB HB.1)); clear HB; rename_i HB BK244 GW244 GE244; clear hb hbox hg) | ((with_reducible refine gate_dst (N := 4) rfl ?_); refine zbx 4 #[.int .i64 0, .int .i64 0, .slice none 0 0, .slice none 0 0] 29 ?_; intro gb245 hg w6 hbox hb; have _ := aM (blk_below (zK BK244.1) hb); have _ := aM (below_step (zB1 HB.1 GE244.1) hb); have _ := aM (hbox); have _ := aM (zge hg (zB1 HB.1 GE244.1)); have _ := aM (zge hg (zB1 HB.1 GE244.1)); have _ := aM (znl hg (zK BK244.1)); have _ := aM (zng hg (zK BK244.1)); clear BK244 HB; rename_i BK244 HB BK245 GW245 GE245 NB244_245 NB245_244; clear hb hbox hg) | ((with_reducible refine gate_callee (f := 17) rfl ?_); refine zgL (some 10) Tryz.func17 #[.string a1] ?_; (with_reducible refine (impl_PkgRead.calls k a1 t246 t247 t248 t251 t254 _ ?sideL A3.1).mono ?_); (case sideL => exact HLD.1.on (zB2 HB.1 GE244.1 GE245.1)); rintro e w7 ⟨v249, v252, rfl, ho0, ho1, hb⟩; refine ⟨_, rfl, ?_⟩; have _ := aM (Kd.R_lower ho0 (below_size (zB2 HB.1 GE244.1 GE245.1))); have _ := aM (Kd.R_lower ho1 (below_size (zB2 HB.1 GE244.1 GE245.1))); have _ := aM (blk_below (zK BK244.1) hb); have _ := aM (blk_below (zK BK245.1) hb); have _ := aM (below_step (zB2 HB.1 GE244.1 GE245.1) hb); clear BK244 BK245 HB; rename_i HO250 HO253 BK244 BK245 HB; (try clear hb); (try clear hb2); (try clear hk); (try clear hi); (try clear ho0); (try clear ho1)) | ((with_reducible refine gate_dst (N := 6) rfl ?_); refine zbx 6 #[.int .i64 0, .int .i64 0, .slice none 0 0, .slice none 0 0] 29 ?_; intro gb255 hg w8 hbox hb; have _ := aM (Kd.R_below (zR HO250.1) hb); have _ := aM (Kd.R_below (zR HO253.1) hb); have _ := aM (blk_below (zK BK244.1) hb); have _ := aM (blk_below (zK BK245.1) hb); have _ := aM (below_step (zB2 HB.1 GE244.1 GE245.1) hb); have _ := aM (hbox); have _ := aM (zge hg (zB2 HB.1 GE244.1 GE245.1)); have _ := aM (zge hg (zB2 HB.1 GE244.1 GE245.1)); have _ := aM (znl hg (zK BK244.1)); have _ := aM (zng hg (zK BK244.1)); have _ := aM (znl hg (zK BK245.1)); have _ := aM (zng hg (zK BK245.1)); clear HO250 HO253 BK244 BK245 HB; rename_i HO250 HO253 BK244 BK245 HB BK255 GW255 GE255 NB244_255 NB255_244 NB245_255 NB255_245; clear hb hbox hg; have hnb9 := NB255_244.1; have hnc9 := NB244_255.1; have hnb10 := NB255_245.1; have hnc10 := NB245_255.1; obtain ⟨hcz11_0, hcz11_1, hcz11_2, hcz11_3, hfz11_0, hfz11_1, hfz11_2, hfz11_3⟩ := zc4f BK255.1; obtain ⟨Ao12, co12, eo12⟩ := Kd.R_slice HO250.1; subst eo12; obtain ⟨Ao13, co13, eo13⟩ := Kd.R_slice HO253.1; subst eo13))
 (try simp only [zp0, zp1, zp2, zp3, zp4])
 go_cut [27] (fun v27 wc => ∃ (kq : Nat) (x27_3 : Bool), v27 = .bool x27_3 ∧ Aside0 (impl_IndexHas.j0 kq x27_3 t246 t247 t248 t251 = some (r1, r2, r3, r4, r5)) ∧ Aside0 (kq ≤ k) ∧ Aside0 (Kd.R k71 71 wc w.heap.size (fun _ => True) (.slice Ao12 t248.length co12) t248) ∧ Aside0 (Kd.R k73 73 wc w.heap.size (fun _ => True) (.slice Ao13 t251.length co13) t251) ∧ Aside0 (wc.heap[gb244]? = some (.cells #[.int .i64 a0_0, .int .i64 a0_1, (.slice A0_2 l0_2.length c0_2)] 34 (0, 0))) ∧ Aside0 (wc.heap[gb245]? = some (.cells #[.int .i64 0, .int .i64 0, (.slice none 0 0), (.slice none 0 0)] 29 (0, 0))) ∧ Aside0 (wc.heap[gb255]? = some (.cells #[.int .i64 t246, .int .i64 t247, (.slice Ao12 t248.length co12), (.slice Ao13 t251.length co13)] 29 (0, 0))) ∧ Aside0 (Below w.heap.size w wc))
 case first =>
  have H := HC4.1; clear HC4
  by_cases c14 : t254 = true
  ·subst c14; replace H := zy1 H; replace H := Option.bind_eq_some_iff.mp H; obtain ⟨t256, A150, H⟩ := H; (try dsimp only at H); have A15 := aM A150; clear A150
   by_cases c16 : t256 = true
   ·subst c16; replace H := zy1 H; replace H := Option.bind_eq_some_iff.mp H; obtain ⟨⟨t257, t258, t259⟩, A170, H⟩ := H; (try dsimp only at H); have A17 := aM A170; clear A170; replace H := Option.bind_eq_some_iff.mp H; obtain ⟨t260, A180, H⟩ := H; (try dsimp only at H); have A18 := aM A180; clear A180; have H' := aM H; clear H
    try go_wp2
    have n0_ : Aside0 (Kd.R k71 71 ((((w8.setCell ⟨gb255, 0, none⟩ (.int .i64 t246)).setCell ⟨gb255, 1, none⟩ (.int .i64 t247)).setCell ⟨gb255, 2, none⟩ (.slice Ao12 t248.length co12)).setCell ⟨gb255, 3, none⟩ (.slice Ao13 t251.length co13)) w.heap.size (fun _ => True) (.slice Ao12 t248.length co12) t248) := ⟨by exact (Kd.R_mono (zFR (g := gb255) (Kd.R_types HO250.1 BK255.1 (by decide)) (fun _ hk => hk.2)) (fun _ hk => trivial))⟩; have n1_ : Aside0 (Kd.R k73 73 ((((w8.setCell ⟨gb255, 0, none⟩ (.int .i64 t246)).setCell ⟨gb255, 1, none⟩ (.int .i64 t247)).setCell ⟨gb255, 2, none⟩ (.slice Ao12 t248.length co12)).setCell ⟨gb255, 3, none⟩ (.slice Ao13 t251.length co13)) w.heap.size (fun _ => True) (.slice Ao13 t251.length co13) t251) := ⟨by exact (Kd.R_mono (zFR (g := gb255) (Kd.R_types HO253.1 BK255.1 (by decide)) (fun _ hk => hk.2)) (fun _ hk => trivial))⟩; have n2_ : Aside0 (((((w8.setCell ⟨gb255, 0, none⟩ (.int .i64 t246)).setCell ⟨gb255, 1, none⟩ (.int .i64 t247)).setCell ⟨gb255, 2, none⟩ (.slice Ao12 t248.length co12)).setCell ⟨gb255, 3, none⟩ (.slice Ao13 t251.length co13)).heap[gb244]? = some (.cells #[.int .i64 a0_0, .int .i64 a0_1, .slice A0_2 l0_2.length c0_2] 34 (0, 0))) := ⟨zK1 BK244.1 NB244_255.1⟩; have n3_ : Aside0 (((((w8.setCell ⟨gb255, 0, none⟩ (.int .i64 t246)).setCell ⟨gb255, 1, none⟩ (.int .i64 t247)).setCell ⟨gb255, 2, none⟩ (.slice Ao12 t248.length co12)).setCell ⟨gb255, 3, none⟩ (.slice Ao13 t251.length co13)).heap[gb245]? = some (.cells #[.int .i64 0, .int .i64 0, .slice none 0 0, .slice none 0 0] 29 (0, 0))) := ⟨zK1 BK245.1 NB245_255.1⟩; have n4_ : Aside0 (((((w8.setCell ⟨gb255, 0, none⟩ (.int .i64 t246)).setCell ⟨gb255, 1, none⟩ (.int .i64 t247)).setCell ⟨gb255, 2, none⟩ (.slice Ao12 t248.length co12)).setCell ⟨gb255, 3, none⟩ (.slice Ao13 t251.length co13)).heap[gb255]? = some (.cells #[.int .i64 t246, .int .i64 t247, .slice Ao12 t248.length co12, .slice Ao13 t251.length co13] 29 (0, 0))) := ⟨by exact zP BK255.1 (by rfl)⟩; have n5_ : Aside0 (Below w.heap.size w ((((w8.setCell ⟨gb255, 0, none⟩ (.int .i64 t246)).setCell ⟨gb255, 1, none⟩ (.int .i64 t247)).setCell ⟨gb255, 2, none⟩ (.slice Ao12 t248.length co12)).setCell ⟨gb255, 3, none⟩ (.slice Ao13 t251.length co13))) := ⟨zB3 HB.1 GE244.1 GE245.1 GE255.1⟩; (try clear HO250); (try clear HO253); (try clear BK244); (try clear BK245); (try clear BK255); (try clear HB); generalize ((((w8.setCell ⟨gb255, 0, none⟩ (.int .i64 t246)).setCell ⟨gb255, 1, none⟩ (.int .i64 t247)).setCell ⟨gb255, 2, none⟩ (.slice Ao12 t248.length co12)).setCell ⟨gb255, 3, none⟩ (.slice Ao13 t251.length co13)) = w19 at n0_ n1_ n2_ n3_ n4_ n5_ ⊢; have HO250 := n0_; have HO253 := n1_; have BK244 := n2_; have BK245 := n3_; have BK255 := n4_; have HB := n5_; clear n0_ n1_ n2_ n3_ n4_ n5_; have _ := aM (Kd.R_drew HO250.1); have _ := aM (Kd.R_drew HO253.1); have _ := aM (blk_drew BK244.1); have _ := aM (blk_drew BK245.1); have _ := aM (blk_drew BK255.1); have _ := aM (below_drew1 HB.1); clear HO250 HO253 BK244 BK245 BK255 HB; rename_i HO250 HO253 BK244 BK245 BK255 HB
    refine start_ (n := 15) (S := fun w' => w'.cell? ⟨gb244, 0, none⟩ = some (.int .i64 a0_0) ∧ w'.cell? ⟨gb244, 1, none⟩ = some (.int .i64 a0_1) ∧ w'.cell? ⟨gb244, 2, none⟩ = some (.slice A0_2 l0_2.length c0_2) ∧ w'.cell? ⟨gb255, 0, none⟩ = some (.int .i64 t246) ∧ w'.cell? ⟨gb255, 1, none⟩ = some (.int .i64 t247) ∧ w'.cell? ⟨gb255, 2, none⟩ = some (.slice Ao12 t248.length co12) ∧ w'.cell? ⟨gb255, 3, none⟩ = some (.slice Ao13 t251.length co13)) (ds := []) (zA 15 0) (by kernel_rfl) rfl rfl ⟨(blk_cell BK244.1 0).trans rfl, (blk_cell BK244.1 1).trans rfl, (blk_cell BK244.1 2).trans rfl, (blk_cell BK255.1 0).trans rfl, (blk_cell BK255.1 1).trans rfl, (blk_cell BK255.1 2).trans rfl, (blk_cell BK255.1 3).trans rfl⟩ (fun hHeld => ?_); refine with_tabW impl_IndexHas.tab2 impl_IndexHas.bits2 (fun HT_ HW_ => ?_)
    generalize w19.drew = w20 at HO250 HO253 BK244 BK245 BK255 HB hHeld ⊢; refine zu HT_ 0 (some 13) (zA 15 1) ?_; refine zu HT_ 1 (some 14) (zA 15 3) ?_; refine zu HT_ 2 (some 15) (zA 15 7) ?_; refine take_ (i := 3) (N := some 16) (v := ?_) (a' := ?_) (zA 15 15) rfl rfl (take_ofW HT_.1 HW_.1 (by kernel_rfl)) (fun _ _ _ h => h) (Or.inl ⟨by rfl, ?_⟩) hHeld ?_ ?_; rotate_left
    ·rintro w' ⟨s0, s1, s2, s3, s4, s5, s6⟩
     go_simp
     (with_reducible rfl)
    rotate_left
    ·simp only [zp0, zp1, zp2, zp3, zp4, i64_w, i32_w]; rfl
    refine zo HT_ 4 (some 17) (zA 15 31) (fun K hK => ?_); refine zg Tryz.func18 #[.agg #[.int .i64 a0_0, .int .i64 a0_1, .slice A0_2 l0_2.length c0_2]] ?_; (with_reducible refine (impl_IndexOk.calls k a0_0 a0_1 _ _ l0_2 true _ ?side1 ?side2 A15.1).mono ?_); (case side1 => exact zC (Kd.C_below HR0_2.1 HB.1)); (case side2 => exact HC0_2.1); rintro e w21 ⟨rfl, hb⟩; refine ⟨_, rfl, ?_⟩; have _ := aM (Kd.R_below (zR HO250.1) hb); have _ := aM (Kd.R_below (zR HO253.1) hb); have _ := aM (blk_below (zK BK244.1) hb); have _ := aM (blk_below (zK BK245.1) hb); have _ := aM (blk_below (zK BK255.1) hb); have _ := aM (below_step (zB3 HB.1 GE244.1 GE245.1 GE255.1) hb); clear HO250 HO253 BK244 BK245 BK255 HB; rename_i HO250 HO253 BK244 BK245 BK255 HB; (try clear hb); (try clear hb2); (try clear hk); (try clear hi); refine hK.out _ _ ⟨(blk_cell BK244.1 0).trans rfl, (blk_cell BK244.1 1).trans rfl, (blk_cell BK244.1 2).trans rfl, (blk_cell BK255.1 0).trans rfl, (blk_cell BK255.1 1).trans rfl, (blk_cell BK255.1 2).trans rfl, (blk_cell BK255.1 3).trans rfl⟩ (fun hHeld => ?_); clear hK K; refine zn (some 17) ?_; refine zu HT_ 5 (some 18) (zA 15 63) ?_; refine zu HT_ 6 (some 19) (zA 15 127) ?_; refine zu HT_ 7 (some 20) (zA 15 255) ?_; refine zu HT_ 8 (some 21) (zA 15 511) ?_; refine take_ (i := 9) (N := some 22) (v := ?_) (a' := ?_) (zA 15 1023) rfl rfl (take_ofW HT_.1 HW_.1 (by kernel_rfl)) (fun _ _ _ h => h) (Or.inl ⟨by rfl, ?_⟩) hHeld ?_ ?_; rotate_left
    ·rintro w' ⟨s0, s1, s2, s3, s4, s5, s6⟩
     go_simp
     (with_reducible rfl)
    rotate_left
    ·simp only [zp0, zp1, zp2, zp3, zp4, i64_w, i32_w]; rfl
    refine take_ (i := 10) (N := some 23) (v := ?_) (a' := ?_) (zA 15 2047) rfl rfl (take_ofW HT_.1 HW_.1 (by kernel_rfl)) (fun _ _ _ h => h) (Or.inl ⟨by rfl, ?_⟩) hHeld ?_ ?_; rotate_left
    ·rintro w' ⟨s0, s1, s2, s3, s4, s5, s6⟩
     go_simp
     (with_reducible rfl)
    rotate_left
    ·simp only [zp0, zp1, zp2, zp3, zp4, i64_w, i32_w]; rfl
    refine zo HT_ 11 (some 24) (zA 15 4095) (fun K hK => ?_); refine zg Tryz.func20 #[.agg #[.int .i64 t246, .int .i64 t247, .slice Ao12 t248.length co12, .slice Ao13 t251.length co13]] ?_; (with_reducible refine (impl_metaOf.calls k t246 t247 _ _ t248 _ _ t251 t257 t258 t259 _ ?side1 ?side2 ?side3 ?side4 A17.1).mono ?_); (case side1 => exact zC (Kd.R_reads' HO250.1).2.2); (case side2 => exact (Kd.R_reads' HO250.1).2.1); (case side3 => exact zC (Kd.R_reads' HO253.1).2.2); (case side4 => exact (Kd.R_reads' HO253.1).2.1); rintro e w22 ⟨rfl, hb⟩; refine ⟨_, rfl, ?_⟩; have _ := aM (Kd.R_below (zR HO250.1) hb); have _ := aM (Kd.R_below (zR HO253.1) hb); have _ := aM (blk_below (zK BK244.1) hb); have _ := aM (blk_below (zK BK245.1) hb); have _ := aM (blk_below (zK BK255.1) hb); have _ := aM (below_step (zB3 HB.1 GE244.1 GE245.1 GE255.1) hb); clear HO250 HO253 BK244 BK245 BK255 HB; rename_i HO250 HO253 BK244 BK245 BK255 HB; (try clear hb); (try clear hb2); (try clear hk); (try clear hi); refine hK.out _ _ ⟨(blk_cell BK244.1 0).trans rfl, (blk_cell BK244.1 1).trans rfl, (blk_cell BK244.1 2).trans rfl, (blk_cell BK255.1 0).trans rfl, (blk_cell BK255.1 1).trans rfl, (blk_cell BK255.1 2).trans rfl, (blk_cell BK255.1 3).trans rfl⟩ (fun hHeld => ?_); clear hK K; refine zn (some 24) ?_; refine zo HT_ 12 (some 25) (zA 15 8191) (fun K hK => ?_); refine zg Tryz.func19 #[.slice A0_2 l0_2.length c0_2, .agg #[.int .i64 t257, .int .i64 t258, .int .i64 t259]] ?_; (with_reducible refine (impl_Meta_19.calls k _ _ l0_2 t257 t258 t259 t260 _ ?side1 ?side2 A18.1).mono ?_); (case side1 => exact zC (Kd.C_below HR0_2.1 HB.1)); (case side2 => exact HC0_2.1); rintro e w23 ⟨rfl, hb⟩; refine ⟨_, rfl, ?_⟩; have _ := aM (Kd.R_below (zR HO250.1) hb); have _ := aM (Kd.R_below (zR HO253.1) hb); have _ := aM (blk_below (zK BK244.1) hb); have _ := aM (blk_below (zK BK245.1) hb); have _ := aM (blk_below (zK BK255.1) hb); have _ := aM (below_step (zB3 HB.1 GE244.1 GE245.1 GE255.1) hb); clear HO250 HO253 BK244 BK245 BK255 HB; rename_i HO250 HO253 BK244 BK245 BK255 HB; (try clear hb); (try clear hb2); (try clear hk); (try clear hi); refine hK.out _ _ ⟨(blk_cell BK244.1 0).trans rfl, (blk_cell BK244.1 1).trans rfl, (blk_cell BK244.1 2).trans rfl, (blk_cell BK255.1 0).trans rfl, (blk_cell BK255.1 1).trans rfl, (blk_cell BK255.1 2).trans rfl, (blk_cell BK255.1 3).trans rfl⟩ (fun hHeld => ?_); clear hK K; refine zn (some 25) ?_; refine zu HT_ 13 (some 26) (zA 15 16383) ?_; refine zu HT_ 14 (some 27) (zA 15 32767) ?_; refine done_ (done_of HT_.1 (by kernel_rfl)) ?_
    try go_wp2
    go_meet
    case rel => exact ⟨_, (!t260), (by first | rfl | (simp; done) | (simp [*]; done)), H', ⟨by first | omega | exact Nat.le_refl _⟩, ⟨zR HO250.1⟩, ⟨zR HO253.1⟩, ⟨zK BK244.1⟩, ⟨zK BK245.1⟩, ⟨zK BK255.1⟩, ⟨zB3 HB.1 GE244.1 GE245.1 GE255.1⟩⟩
   ·replace c16 := Bool.eq_false_iff.mpr c16; subst c16; replace H := zy0 H; have H' := aM H; clear H
    try go_wp2
    have n0_ : Aside0 (Kd.R k71 71 ((((w8.setCell ⟨gb255, 0, none⟩ (.int .i64 t246)).setCell ⟨gb255, 1, none⟩ (.int .i64 t247)).setCell ⟨gb255, 2, none⟩ (.slice Ao12 t248.length co12)).setCell ⟨gb255, 3, none⟩ (.slice Ao13 t251.length co13)) w.heap.size (fun _ => True) (.slice Ao12 t248.length co12) t248) := ⟨by exact (Kd.R_mono (zFR (g := gb255) (Kd.R_types HO250.1 BK255.1 (by decide)) (fun _ hk => hk.2)) (fun _ hk => trivial))⟩; have n1_ : Aside0 (Kd.R k73 73 ((((w8.setCell ⟨gb255, 0, none⟩ (.int .i64 t246)).setCell ⟨gb255, 1, none⟩ (.int .i64 t247)).setCell ⟨gb255, 2, none⟩ (.slice Ao12 t248.length co12)).setCell ⟨gb255, 3, none⟩ (.slice Ao13 t251.length co13)) w.heap.size (fun _ => True) (.slice Ao13 t251.length co13) t251) := ⟨by exact (Kd.R_mono (zFR (g := gb255) (Kd.R_types HO253.1 BK255.1 (by decide)) (fun _ hk => hk.2)) (fun _ hk => trivial))⟩; have n2_ : Aside0 (((((w8.setCell ⟨gb255, 0, none⟩ (.int .i64 t246)).setCell ⟨gb255, 1, none⟩ (.int .i64 t247)).setCell ⟨gb255, 2, none⟩ (.slice Ao12 t248.length co12)).setCell ⟨gb255, 3, none⟩ (.slice Ao13 t251.length co13)).heap[gb244]? = some (.cells #[.int .i64 a0_0, .int .i64 a0_1, .slice A0_2 l0_2.length c0_2] 34 (0, 0))) := ⟨zK1 BK244.1 NB244_255.1⟩; have n3_ : Aside0 (((((w8.setCell ⟨gb255, 0, none⟩ (.int .i64 t246)).setCell ⟨gb255, 1, none⟩ (.int .i64 t247)).setCell ⟨gb255, 2, none⟩ (.slice Ao12 t248.length co12)).setCell ⟨gb255, 3, none⟩ (.slice Ao13 t251.length co13)).heap[gb245]? = some (.cells #[.int .i64 0, .int .i64 0, .slice none 0 0, .slice none 0 0] 29 (0, 0))) := ⟨zK1 BK245.1 NB245_255.1⟩; have n4_ : Aside0 (((((w8.setCell ⟨gb255, 0, none⟩ (.int .i64 t246)).setCell ⟨gb255, 1, none⟩ (.int .i64 t247)).setCell ⟨gb255, 2, none⟩ (.slice Ao12 t248.length co12)).setCell ⟨gb255, 3, none⟩ (.slice Ao13 t251.length co13)).heap[gb255]? = some (.cells #[.int .i64 t246, .int .i64 t247, .slice Ao12 t248.length co12, .slice Ao13 t251.length co13] 29 (0, 0))) := ⟨by exact zP BK255.1 (by rfl)⟩; have n5_ : Aside0 (Below w.heap.size w ((((w8.setCell ⟨gb255, 0, none⟩ (.int .i64 t246)).setCell ⟨gb255, 1, none⟩ (.int .i64 t247)).setCell ⟨gb255, 2, none⟩ (.slice Ao12 t248.length co12)).setCell ⟨gb255, 3, none⟩ (.slice Ao13 t251.length co13))) := ⟨zB3 HB.1 GE244.1 GE245.1 GE255.1⟩; (try clear HO250); (try clear HO253); (try clear BK244); (try clear BK245); (try clear BK255); (try clear HB); generalize ((((w8.setCell ⟨gb255, 0, none⟩ (.int .i64 t246)).setCell ⟨gb255, 1, none⟩ (.int .i64 t247)).setCell ⟨gb255, 2, none⟩ (.slice Ao12 t248.length co12)).setCell ⟨gb255, 3, none⟩ (.slice Ao13 t251.length co13)) = w24 at n0_ n1_ n2_ n3_ n4_ n5_ ⊢; have HO250 := n0_; have HO253 := n1_; have BK244 := n2_; have BK245 := n3_; have BK255 := n4_; have HB := n5_; clear n0_ n1_ n2_ n3_ n4_ n5_; have _ := aM (Kd.R_drew HO250.1); have _ := aM (Kd.R_drew HO253.1); have _ := aM (blk_drew BK244.1); have _ := aM (blk_drew BK245.1); have _ := aM (blk_drew BK255.1); have _ := aM (below_drew1 HB.1); clear HO250 HO253 BK244 BK245 BK255 HB; rename_i HO250 HO253 BK244 BK245 BK255 HB
    refine start_ (n := 15) (S := fun w' => w'.cell? ⟨gb244, 0, none⟩ = some (.int .i64 a0_0) ∧ w'.cell? ⟨gb244, 1, none⟩ = some (.int .i64 a0_1) ∧ w'.cell? ⟨gb244, 2, none⟩ = some (.slice A0_2 l0_2.length c0_2)) (ds := []) (zA 15 0) (by kernel_rfl) rfl rfl ⟨(blk_cell BK244.1 0).trans rfl, (blk_cell BK244.1 1).trans rfl, (blk_cell BK244.1 2).trans rfl⟩ (fun hHeld => ?_); refine with_tabW impl_IndexHas.tab2 impl_IndexHas.bits2 (fun HT_ HW_ => ?_)
    generalize w24.drew = w25 at HO250 HO253 BK244 BK245 BK255 HB hHeld ⊢; refine zu HT_ 0 (some 13) (zA 15 1) ?_; refine zu HT_ 1 (some 14) (zA 15 3) ?_; refine zu HT_ 2 (some 15) (zA 15 7) ?_; refine take_ (i := 3) (N := some 16) (v := ?_) (a' := ?_) (zA 15 15) rfl rfl (take_ofW HT_.1 HW_.1 (by kernel_rfl)) (fun _ _ _ h => h) (Or.inl ⟨by rfl, ?_⟩) hHeld ?_ ?_; rotate_left
    ·rintro w' ⟨s0, s1, s2⟩
     go_simp
     (with_reducible rfl)
    rotate_left
    ·simp only [zp0, zp1, zp2, zp3, zp4, i64_w, i32_w]; rfl
    refine zo HT_ 4 (some 17) (zA 15 31) (fun K hK => ?_); refine zg Tryz.func18 #[.agg #[.int .i64 a0_0, .int .i64 a0_1, .slice A0_2 l0_2.length c0_2]] ?_; (with_reducible refine (impl_IndexOk.calls k a0_0 a0_1 _ _ l0_2 false _ ?side1 ?side2 A15.1).mono ?_); (case side1 => exact zC (Kd.C_below HR0_2.1 HB.1)); (case side2 => exact HC0_2.1); rintro e w26 ⟨rfl, hb⟩; refine ⟨_, rfl, ?_⟩; have _ := aM (Kd.R_below (zR HO250.1) hb); have _ := aM (Kd.R_below (zR HO253.1) hb); have _ := aM (blk_below (zK BK244.1) hb); have _ := aM (blk_below (zK BK245.1) hb); have _ := aM (blk_below (zK BK255.1) hb); have _ := aM (below_step (zB3 HB.1 GE244.1 GE245.1 GE255.1) hb); clear HO250 HO253 BK244 BK245 BK255 HB; rename_i HO250 HO253 BK244 BK245 BK255 HB; (try clear hb); (try clear hb2); (try clear hk); (try clear hi); refine hK.out _ _ ⟨(blk_cell BK244.1 0).trans rfl, (blk_cell BK244.1 1).trans rfl, (blk_cell BK244.1 2).trans rfl⟩ (fun hHeld => ?_); clear hK K; refine zn (some 17) ?_; refine zu HT_ 5 (some 18) (zA 15 63) ?_; refine zu HT_ 6 (some 19) (zA 15 127) ?_; refine zu HT_ 7 (some 20) (zA 15 255) ?_; refine zu0 HT_ 8 (some 21) (zA 15 511) ?_; refine zu0 HT_ 9 (some 22) (zA 15 1023) ?_; refine zu0 HT_ 10 (some 23) (zA 15 2047) ?_; refine zu0 HT_ 11 (some 24) (zA 15 4095) ?_; refine zu0 HT_ 12 (some 25) (zA 15 8191) ?_; refine zu0 HT_ 13 (some 26) (zA 15 16383) ?_; refine zu HT_ 14 (some 27) (zA 15 32767) ?_; refine done_ (done_of HT_.1 (by kernel_rfl)) ?_
    try go_wp2
    go_meet
    case rel => exact ⟨_, (true), (by first | rfl | (simp; done) | (simp [*]; done)), H', ⟨by first | omega | exact Nat.le_refl _⟩, ⟨zR HO250.1⟩, ⟨zR HO253.1⟩, ⟨zK BK244.1⟩, ⟨zK BK245.1⟩, ⟨zK BK255.1⟩, ⟨zB3 HB.1 GE244.1 GE245.1 GE255.1⟩⟩
  ·replace c14 := Bool.eq_false_iff.mpr c14; subst c14; replace H := zy0 H; have H' := aM H; clear H
   try go_wp2
   have n0_ : Aside0 (Kd.R k71 71 ((((w8.setCell ⟨gb255, 0, none⟩ (.int .i64 t246)).setCell ⟨gb255, 1, none⟩ (.int .i64 t247)).setCell ⟨gb255, 2, none⟩ (.slice Ao12 t248.length co12)).setCell ⟨gb255, 3, none⟩ (.slice Ao13 t251.length co13)) w.heap.size (fun _ => True) (.slice Ao12 t248.length co12) t248) := ⟨by exact (Kd.R_mono (zFR (g := gb255) (Kd.R_types HO250.1 BK255.1 (by decide)) (fun _ hk => hk.2)) (fun _ hk => trivial))⟩; have n1_ : Aside0 (Kd.R k73 73 ((((w8.setCell ⟨gb255, 0, none⟩ (.int .i64 t246)).setCell ⟨gb255, 1, none⟩ (.int .i64 t247)).setCell ⟨gb255, 2, none⟩ (.slice Ao12 t248.length co12)).setCell ⟨gb255, 3, none⟩ (.slice Ao13 t251.length co13)) w.heap.size (fun _ => True) (.slice Ao13 t251.length co13) t251) := ⟨by exact (Kd.R_mono (zFR (g := gb255) (Kd.R_types HO253.1 BK255.1 (by decide)) (fun _ hk => hk.2)) (fun _ hk => trivial))⟩; have n2_ : Aside0 (((((w8.setCell ⟨gb255, 0, none⟩ (.int .i64 t246)).setCell ⟨gb255, 1, none⟩ (.int .i64 t247)).setCell ⟨gb255, 2, none⟩ (.slice Ao12 t248.length co12)).setCell ⟨gb255, 3, none⟩ (.slice Ao13 t251.length co13)).heap[gb244]? = some (.cells #[.int .i64 a0_0, .int .i64 a0_1, .slice A0_2 l0_2.length c0_2] 34 (0, 0))) := ⟨zK1 BK244.1 NB244_255.1⟩; have n3_ : Aside0 (((((w8.setCell ⟨gb255, 0, none⟩ (.int .i64 t246)).setCell ⟨gb255, 1, none⟩ (.int .i64 t247)).setCell ⟨gb255, 2, none⟩ (.slice Ao12 t248.length co12)).setCell ⟨gb255, 3, none⟩ (.slice Ao13 t251.length co13)).heap[gb245]? = some (.cells #[.int .i64 0, .int .i64 0, .slice none 0 0, .slice none 0 0] 29 (0, 0))) := ⟨zK1 BK245.1 NB245_255.1⟩; have n4_ : Aside0 (((((w8.setCell ⟨gb255, 0, none⟩ (.int .i64 t246)).setCell ⟨gb255, 1, none⟩ (.int .i64 t247)).setCell ⟨gb255, 2, none⟩ (.slice Ao12 t248.length co12)).setCell ⟨gb255, 3, none⟩ (.slice Ao13 t251.length co13)).heap[gb255]? = some (.cells #[.int .i64 t246, .int .i64 t247, .slice Ao12 t248.length co12, .slice Ao13 t251.length co13] 29 (0, 0))) := ⟨by exact zP BK255.1 (by rfl)⟩; have n5_ : Aside0 (Below w.heap.size w ((((w8.setCell ⟨gb255, 0, none⟩ (.int .i64 t246)).setCell ⟨gb255, 1, none⟩ (.int .i64 t247)).setCell ⟨gb255, 2, none⟩ (.slice Ao12 t248.length co12)).setCell ⟨gb255, 3, none⟩ (.slice Ao13 t251.length co13))) := ⟨zB3 HB.1 GE244.1 GE245.1 GE255.1⟩; (try clear HO250); (try clear HO253); (try clear BK244); (try clear BK245); (try clear BK255); (try clear HB); generalize ((((w8.setCell ⟨gb255, 0, none⟩ (.int .i64 t246)).setCell ⟨gb255, 1, none⟩ (.int .i64 t247)).setCell ⟨gb255, 2, none⟩ (.slice Ao12 t248.length co12)).setCell ⟨gb255, 3, none⟩ (.slice Ao13 t251.length co13)) = w27 at n0_ n1_ n2_ n3_ n4_ n5_ ⊢; have HO250 := n0_; have HO253 := n1_; have BK244 := n2_; have BK245 := n3_; have BK255 := n4_; have HB := n5_; clear n0_ n1_ n2_ n3_ n4_ n5_; have _ := aM (Kd.R_drew HO250.1); have _ := aM (Kd.R_drew HO253.1); have _ := aM (blk_drew BK244.1); have _ := aM (blk_drew BK245.1); have _ := aM (blk_drew BK255.1); have _ := aM (below_drew1 HB.1); clear HO250 HO253 BK244 BK245 BK255 HB; rename_i HO250 HO253 BK244 BK245 BK255 HB
   refine start_ (n := 15) (S := fun w' => True) (ds := []) (zA 15 0) (by kernel_rfl) rfl rfl trivial (fun hHeld => ?_); refine with_tabW impl_IndexHas.tab2 impl_IndexHas.bits2 (fun HT_ HW_ => ?_)
   generalize w27.drew = w28 at HO250 HO253 BK244 BK245 BK255 HB hHeld ⊢; refine zu HT_ 0 (some 13) (zA 15 1) ?_; refine zu HT_ 1 (some 14) (zA 15 3) ?_; refine zu HT_ 2 (some 15) (zA 15 7) ?_; refine zu0 HT_ 3 (some 16) (zA 15 15) ?_; refine zu0 HT_ 4 (some 17) (zA 15 31) ?_; refine zu0 HT_ 5 (some 18) (zA 15 63) ?_; refine zu HT_ 6 (some 19) (zA 15 127) ?_; refine zu HT_ 7 (some 20) (zA 15 255) ?_; refine zu0 HT_ 8 (some 21) (zA 15 511) ?_; refine zu0 HT_ 9 (some 22) (zA 15 1023) ?_; refine zu0 HT_ 10 (some 23) (zA 15 2047) ?_; refine zu0 HT_ 11 (some 24) (zA 15 4095) ?_; refine zu0 HT_ 12 (some 25) (zA 15 8191) ?_; refine zu0 HT_ 13 (some 26) (zA 15 16383) ?_; refine zu HT_ 14 (some 27) (zA 15 32767) ?_; refine done_ (done_of HT_.1 (by kernel_rfl)) ?_
   try go_wp2
   go_meet
   case rel => exact ⟨_, (true), (by first | rfl | (simp; done) | (simp [*]; done)), H', ⟨by first | omega | exact Nat.le_refl _⟩, ⟨zR HO250.1⟩, ⟨zR HO253.1⟩, ⟨zK BK244.1⟩, ⟨zK BK245.1⟩, ⟨zK BK255.1⟩, ⟨zB3 HB.1 GE244.1 GE245.1 GE255.1⟩⟩
 case rest =>
  clear HC4
  try clear c1
  try clear c2
  try clear p2
  try clear c14
  try clear c16
  try clear c18
  try clear c19
  try clear c20
  obtain ⟨kq, x27_3, rfl, HA, HJ3, HO_256002, HO_256003, BK244, BK245, BK255, HB⟩ := hcut; cases kq with
  | zero => exact absurd HA.1 (by simp [impl_IndexHas.j0])
  | succ kj3 =>
   have H := HA.1; clear HA; simp only [impl_IndexHas.j0] at H
   by_cases c29 : x27_3 = true
   ·subst c29; replace H := zy1 H; simp only [Option.some.injEq, Prod.mk.injEq] at H; obtain ⟨rfl, rfl, rfl, rfl, rfl⟩ := H; have hnb30 := NB245_244.1; have hnc30 := NB244_245.1; have hnb31 := NB245_255.1; have hnc31 := NB255_245.1; obtain ⟨hcz32_0, hcz32_1, hcz32_2, hcz32_3, hfz32_0, hfz32_1, hfz32_2, hfz32_3⟩ := zc4f BK245.1
    go_wp2
    refine bodyPost_ret (results_ct rfl _ _ gb245 29 #[.int .i64 0, .int .i64 0, .slice none 0 0, .slice none 0 0] (0, 0) _ rfl (by exact zP BK245.1 (by rfl)) Tryz.underlying29 rfl (by kernel_rfl)) rfl ?_; exact ⟨_, _, by first | rfl | (simp [errW_none, errW_some] <;> rfl) | (simp [*, errW_none, errW_some] <;> rfl), by first | exact Kd.R_nil _ _ _ _ _ | exact Kd.N_nil _ _ _ _ _ | exact Kd.V_nil _ _ _ _ _ | exact Kd.Q_nil _ _ _ _ _ | exact Kd.S_nil _ _ _ _ _, by first | exact Kd.R_nil _ _ _ _ _ | exact Kd.N_nil _ _ _ _ _ | exact Kd.V_nil _ _ _ _ _ | exact Kd.Q_nil _ _ _ _ _ | exact Kd.S_nil _ _ _ _ _, by exact zB3 HB.1 GE244.1 GE245.1 GE255.1⟩
   ·replace c29 := Bool.eq_false_iff.mpr c29; subst c29; replace H := zy0 H; simp only [Option.some.injEq, Prod.mk.injEq] at H; obtain ⟨rfl, rfl, rfl, rfl, rfl⟩ := H; have hnb33 := NB255_244.1; have hnc33 := NB244_255.1; have hnb34 := NB255_245.1; have hnc34 := NB245_255.1; obtain ⟨hcz35_0, hcz35_1, hcz35_2, hcz35_3, hfz35_0, hfz35_1, hfz35_2, hfz35_3⟩ := zc4f BK255.1; have hnb36 := NB245_244.1; have hnc36 := NB244_245.1; obtain ⟨hcz37_0, hcz37_1, hcz37_2, hcz37_3, hfz37_0, hfz37_1, hfz37_2, hfz37_3⟩ := zc4f BK245.1
    go_wp2
    refine bodyPost_ret (results_ct rfl _ _ gb245 29 #[.int .i64 t246, .int .i64 t247, .slice Ao12 t248.length co12, .slice Ao13 t251.length co13] (0, 0) _ rfl (by exact zP BK245.1 (by rfl)) Tryz.underlying29 rfl (by kernel_rfl)) rfl ?_; exact ⟨_, _, by first | rfl | (simp [errW_none, errW_some] <;> rfl) | (simp [*, errW_none, errW_some] <;> rfl), by exact (Kd.R_mono (zFR (g := gb245) (Kd.R_types HO_256002.1 BK245.1 (by decide)) (fun _ hk => hk.2)) (fun _ hk => trivial)), by exact (Kd.R_mono (zFR (g := gb245) (Kd.R_types HO_256003.1 BK245.1 (by decide)) (fun _ hk => hk.2)) (fun _ hk => trivial)), by exact zB3 HB.1 GE244.1 GE245.1 GE255.1⟩

/-! ### laws_eqFile: function 45 -/
def laws_eqFile.f (a0_0 : Int) (a0_1 : Int) (a1_0 : Int) (a1_1 : Int) : Option (Bool) := if a0_0 = a1_0 then (if a0_1 = a1_1 then (some true) else (some false)) else (some false)
set_option maxHeartbeats 8000000 in
set_option maxRecDepth 100000 in
theorem laws_eqFile.calls (a0_0 : Int) (a0_1 : Int) (a1_0 : Int) (a1_1 : Int) (r : Bool) (w : World) (h : laws_eqFile.f a0_0 a0_1 a1_0 a1_1 = some r) :
  Calls Tryz.prog 45 #[.agg #[.int .i64 a0_0, .int .i64 a0_1], .agg #[.int .i64 a1_0, .int .i64 a1_1]] w fun e w' => e = .returned (.bool r) ∧ Below w.heap.size w w' := by
 have hu71 := Tryz.underlying71; have HB := aM (Below.refl w.heap.size w); have H : (if a0_0 = a1_0 then (if a0_1 = a1_1 then (some true) else (some false)) else (some false)) = some r := h; clear h
 by_cases c3 : a0_0 = a1_0
 ·rw [if_pos c3] at H; have c3b0 : (a0_0 == a1_0) = true := beq_iff_eq.mpr c3; have c3b1 : (a0_0 != a1_0) = false := bne_eq_false_iff_eq.mpr c3; clear c3
  by_cases c4 : a0_1 = a1_1
  ·rw [if_pos c4] at H; have c4b0 : (a0_1 == a1_1) = true := beq_iff_eq.mpr c4; have c4b1 : (a0_1 != a1_1) = false := bne_eq_false_iff_eq.mpr c4; clear c4; obtain rfl := Option.some.inj H
   go_enter Tryz.func45, Tryz.ntmps45
   go_wp2_with (first | ((with_reducible refine gate_dst (N := 2) rfl ?_); refine zbx 2 #[.int .i64 a0_0, .int .i64 a0_1] 71 ?_; intro gb261 hg w5 hbox hb; have _ := aM (below_step (zB HB.1) hb); have _ := aM (hbox); have _ := aM (zge hg (zB HB.1)); have _ := aM (zge hg (zB HB.1)); clear HB; rename_i HB BK261 GW261 GE261; clear hb hbox hg) | ((with_reducible refine gate_dst (N := 3) rfl ?_); refine zbx 3 #[.int .i64 a1_0, .int .i64 a1_1] 71 ?_; intro gb262 hg w6 hbox hb; have _ := aM (blk_below (zK BK261.1) hb); have _ := aM (below_step (zB1 HB.1 GE261.1) hb); have _ := aM (hbox); have _ := aM (zge hg (zB1 HB.1 GE261.1)); have _ := aM (zge hg (zB1 HB.1 GE261.1)); have _ := aM (znl hg (zK BK261.1)); have _ := aM (zng hg (zK BK261.1)); clear BK261 HB; rename_i BK261 HB BK262 GW262 GE262 NB261_262 NB262_261; clear hb hbox hg; have hnb7 := NB261_262.1; have hnc7 := NB262_261.1; obtain ⟨hcz8_0, hcz8_1, hfz8_0, hfz8_1⟩ := zc2f BK261.1; obtain ⟨hcz9_0, hcz9_1, hfz9_0, hfz9_1⟩ := zc2f BK262.1))
   go_ret
   exact ⟨by first | rfl | (simp [errW_none, errW_some] <;> rfl) | (simp [*, errW_none, errW_some] <;> rfl), by exact zB2 HB.1 GE261.1 GE262.1⟩
  ·rw [if_neg c4] at H; have c4b0 : (a0_1 == a1_1) = false := beq_eq_false_iff_ne.mpr c4; have c4b1 : (a0_1 != a1_1) = true := bne_iff_ne.mpr c4; obtain rfl := Option.some.inj H
   go_enter Tryz.func45, Tryz.ntmps45
   go_wp2_with (first | ((with_reducible refine gate_dst (N := 2) rfl ?_); refine zbx 2 #[.int .i64 a0_0, .int .i64 a0_1] 71 ?_; intro gb261 hg w10 hbox hb; have _ := aM (below_step (zB HB.1) hb); have _ := aM (hbox); have _ := aM (zge hg (zB HB.1)); have _ := aM (zge hg (zB HB.1)); clear HB; rename_i HB BK261 GW261 GE261; clear hb hbox hg) | ((with_reducible refine gate_dst (N := 3) rfl ?_); refine zbx 3 #[.int .i64 a1_0, .int .i64 a1_1] 71 ?_; intro gb262 hg w11 hbox hb; have _ := aM (blk_below (zK BK261.1) hb); have _ := aM (below_step (zB1 HB.1 GE261.1) hb); have _ := aM (hbox); have _ := aM (zge hg (zB1 HB.1 GE261.1)); have _ := aM (zge hg (zB1 HB.1 GE261.1)); have _ := aM (znl hg (zK BK261.1)); have _ := aM (zng hg (zK BK261.1)); clear BK261 HB; rename_i BK261 HB BK262 GW262 GE262 NB261_262 NB262_261; clear hb hbox hg; have hnb12 := NB261_262.1; have hnc12 := NB262_261.1; obtain ⟨hcz13_0, hcz13_1, hfz13_0, hfz13_1⟩ := zc2f BK261.1; obtain ⟨hcz14_0, hcz14_1, hfz14_0, hfz14_1⟩ := zc2f BK262.1))
   go_ret
   exact ⟨by first | rfl | (simp [errW_none, errW_some] <;> rfl) | (simp [*, errW_none, errW_some] <;> rfl), by exact zB2 HB.1 GE261.1 GE262.1⟩
 ·rw [if_neg c3] at H; have c3b0 : (a0_0 == a1_0) = false := beq_eq_false_iff_ne.mpr c3; have c3b1 : (a0_0 != a1_0) = true := bne_iff_ne.mpr c3; obtain rfl := Option.some.inj H
  go_enter Tryz.func45, Tryz.ntmps45
  go_wp2_with (first | ((with_reducible refine gate_dst (N := 2) rfl ?_); refine zbx 2 #[.int .i64 a0_0, .int .i64 a0_1] 71 ?_; intro gb261 hg w15 hbox hb; have _ := aM (below_step (zB HB.1) hb); have _ := aM (hbox); have _ := aM (zge hg (zB HB.1)); have _ := aM (zge hg (zB HB.1)); clear HB; rename_i HB BK261 GW261 GE261; clear hb hbox hg) | ((with_reducible refine gate_dst (N := 3) rfl ?_); refine zbx 3 #[.int .i64 a1_0, .int .i64 a1_1] 71 ?_; intro gb262 hg w16 hbox hb; have _ := aM (blk_below (zK BK261.1) hb); have _ := aM (below_step (zB1 HB.1 GE261.1) hb); have _ := aM (hbox); have _ := aM (zge hg (zB1 HB.1 GE261.1)); have _ := aM (zge hg (zB1 HB.1 GE261.1)); have _ := aM (znl hg (zK BK261.1)); have _ := aM (zng hg (zK BK261.1)); clear BK261 HB; rename_i BK261 HB BK262 GW262 GE262 NB261_262 NB262_261; clear hb hbox hg; have hnb17 := NB261_262.1; have hnc17 := NB262_261.1; obtain ⟨hcz18_0, hcz18_1, hfz18_0, hfz18_1⟩ := zc2f BK261.1; obtain ⟨hcz19_0, hcz19_1, hfz19_0, hfz19_1⟩ := zc2f BK262.1))
  go_ret
  exact ⟨by first | rfl | (simp [errW_none, errW_some] <;> rfl) | (simp [*, errW_none, errW_some] <;> rfl), by exact zB2 HB.1 GE261.1 GE262.1⟩

/-! ### laws_eqFileS: function 21 -/
def laws_eqFileS.l0 : Nat → List (S71) → List (S71) → Int → Option (Bool)
 | 0, _, _, _ => none
 | k + 1, x0, x1, x5 => if x5 < (x0.length : Int) then (if 0 ≤ x5 then (if x5 < (x1.length : Int) then ((laws_eqFile.f ((rd_T71 x0 x5).f0) ((rd_T71 x0 x5).f1) ((rd_T71 x1 x5).f0) ((rd_T71 x1 x5).f1)).bind fun t265 => (if t265 = true then (laws_eqFileS.l0 k x0 x1 (wrap64 (x5 + 1))) else (some false))) else (none)) else (none)) else (some true)
def laws_eqFileS.f (k : Nat) (l0 : List (S71)) (l1 : List (S71)) : Option (Bool) := if (l0.length : Int) = (l1.length : Int) then (laws_eqFileS.l0 k l0 l1 0) else (some false)
theorem laws_eqFileS.mono_l : ∀ k, (∀ y0 y1 y2, LeO (laws_eqFileS.l0 k y0 y1 y2) (laws_eqFileS.l0 (k + 1) y0 y1 y2))
 | 0 => fun _ _ _ r h => by simp [laws_eqFileS.l0] at h
 | k + 1 => by
  have ih0 := laws_eqFileS.mono_l k
  ·intro y0 y1 y2
   unfold laws_eqFileS.l0
   repeat' first
   | (with_reducible exact ih0 _ _ _)
   | (with_reducible exact LeO.refl _)
   | (with_reducible exact LeO.none _)
   | (with_reducible refine LeO.ite ?_ ?_)
   | (with_reducible refine LeO.bind ?_ (fun _ => ?_))
   | exact ih0 _ _ _
   | exact LeO.none _
   | refine LeO.ite ?_ ?_
   | refine LeO.bind ?_ (fun _ => ?_)
theorem laws_eqFileS.mono : ∀ a0 a1 k, LeO (laws_eqFileS.f k a0 a1) (laws_eqFileS.f (k + 1) a0 a1) := by
 intro a0 a1 k
 have ih0 := laws_eqFileS.mono_l k
 unfold laws_eqFileS.f
 repeat' with_reducible first | apply ih0 | exact LeO.refl _ | exact LeO.none _ | refine LeO.ite ?_ ?_ | refine LeO.bind ?_ (fun _ => ?_)
def laws_eqFileS.T6 : Bool × List (List Nat × List Nat) := (true, [([], []), ([], []), ([0, 1], [0, 1]), ([2], [2]), ([], []), ([], []), ([4, 5], [4, 5]), ([6], [6]), ([3, 7], [3, 7]), ([8], [8])])
def laws_eqFileS.B6 : List Nat := [0, 0, 3, 7, 0, 0, 48, 112, 255, 511]
theorem laws_eqFileS.tab6 : rtab .any (opsOf Tryz.f21 6) = laws_eqFileS.T6 := by kernel_rfl
theorem laws_eqFileS.bits6 : waitsOk laws_eqFileS.T6.2 laws_eqFileS.B6 = true := by kernel_rfl
set_option maxHeartbeats 8000000 in
set_option maxRecDepth 100000 in
theorem laws_eqFileS.calls (k : Nat) (A0 : Option Addr) (c0 : Nat) (l0 : List (S71)) (A1 : Option Addr) (c1 : Nat) (l1 : List (S71)) (r : Bool) (w : World) (hr0 : Kd.C k71 w A0 l0.length l0) (hc0 : l0.length ≤ c0) (hr1 : Kd.C k71 w A1 l1.length l1) (hc1 : l1.length ≤ c1) (h : laws_eqFileS.f k l0 l1 = some r) :
  Calls Tryz.prog 21 #[.slice A0 l0.length c0, .slice A1 l1.length c1] w fun e w' => e = .returned (.bool r) ∧ Below w.heap.size w w' := by
 have hu71 := Tryz.underlying71; have HR0 := aM hr0; have HC0 := aM hc0; clear hr0 hc0; have HR1 := aM hr1; have HC1 := aM hc1; clear hr1 hc1; have HB := aM (Below.refl w.heap.size w); have H : (if (l0.length : Int) = (l1.length : Int) then (laws_eqFileS.l0 k l0 l1 0) else (some false)) = some r := h; clear h
 by_cases c3 : (l0.length : Int) = (l1.length : Int)
 ·rw [if_pos c3] at H; have c3b0 : ((l0.length : Int) == (l1.length : Int)) = true := beq_iff_eq.mpr c3; have c3b1 : ((l0.length : Int) != (l1.length : Int)) = false := bne_eq_false_iff_eq.mpr c3
  have c3b2 : (l0.length == l1.length) = true := by first | simpa using c3 | (simp at c3 ⊢; omega)
  clear c3; have H' := aM H; clear H
  go_enter Tryz.func21, Tryz.ntmps21
  go_wp2
  go_loopg [5] k (fun kq v5 w' => ∃ (x5_1 : Int), v5 = .int .i64 x5_1 ∧ Aside0 (laws_eqFileS.l0 kq l0 l1 x5_1 = some r) ∧ Aside0 (kq ≤ k) ∧ Aside0 (Below w.heap.size w w'))
  case atStart => exact ⟨(0), (by first | rfl | (simp; done) | (simp [*]; done)), H', ⟨Nat.le_refl _⟩, ⟨zB HB.1⟩⟩
  case round =>
   clear H'
   try clear c1
   try clear c2
   try clear p2
   try clear c3
   try clear c3b0
   try clear c3b1
   try clear c3b2
   obtain ⟨x5_1, rfl, HA, HK1, HB⟩ := hrel; cases gk with
   | zero => exact absurd HA.1 (by simp [laws_eqFileS.l0])
   | succ k1 =>
    have H := HA.1; clear HA; simp only [laws_eqFileS.l0] at H
    by_cases c4 : x5_1 < (l0.length : Int)
    ·rw [if_pos c4] at H; have c4b0 : decide (x5_1 < (l0.length : Int)) = true := decide_eq_true c4; clear c4; replace H := zif H; obtain ⟨c5, H⟩ := H; have c5b0 : decide (0 ≤ x5_1) = true := decide_eq_true c5; clear c5; replace H := zif H; obtain ⟨c6, H⟩ := H; have c6b0 : decide (x5_1 < (l1.length : Int)) = true := decide_eq_true c6; clear c6; replace H := Option.bind_eq_some_iff.mp H; obtain ⟨t265, A70, H⟩ := H; (try dsimp only at H); have A7 := aM A70; clear A70
     by_cases c8 : t265 = true
     ·subst c8; replace H := zy1 H; have H' := aM H; clear H
      try go_wp2
      have _ := aM (below_drew1 HB.1); clear HB; rename_i HB; have p263 : 0 ≤ (x5_1 : Int) := zd; have q263 : x5_1 < (l0.length : Int) := zd; obtain ⟨ad263, e263, hx263_0, hx263_1⟩ := at_T71 HR0.1 x5_1 p263 q263; have hw263_1 := hx263_1; have hw263_0 := hx263_0; cases e263; replace hx263_0 := (HB.1.cell (World.block_lt_of_cell? w _ hx263_0)).trans hx263_0; replace hx263_1 := (HB.1.cell (World.block_lt_of_cell? w _ hx263_1)).trans hx263_1; replace p263 := eq_true p263; replace q263 := eq_true q263; have p264 : 0 ≤ (x5_1 : Int) := zd; have q264 : x5_1 < (l1.length : Int) := zd; obtain ⟨ad264, e264, hx264_0, hx264_1⟩ := at_T71 HR1.1 x5_1 p264 q264; have hw264_1 := hx264_1; have hw264_0 := hx264_0; cases e264; replace hx264_0 := (HB.1.cell (World.block_lt_of_cell? w _ hx264_0)).trans hx264_0; replace hx264_1 := (HB.1.cell (World.block_lt_of_cell? w _ hx264_1)).trans hx264_1; replace p264 := eq_true p264; replace q264 := eq_true q264
      refine start_ (n := 10) (S := fun w' => w'.cell? (ad263.add ((x5_1).toNat * 2)) = some (.int .i64 ((rd_T71 l0 x5_1).f0)) ∧ w'.cell? ⟨(ad263.add ((x5_1).toNat * 2)).block, (ad263.add ((x5_1).toNat * 2)).off + 1, none⟩ = some (.int .i64 ((rd_T71 l0 x5_1).f1)) ∧ w'.cell? (ad264.add ((x5_1).toNat * 2)) = some (.int .i64 ((rd_T71 l1 x5_1).f0)) ∧ w'.cell? ⟨(ad264.add ((x5_1).toNat * 2)).block, (ad264.add ((x5_1).toNat * 2)).off + 1, none⟩ = some (.int .i64 ((rd_T71 l1 x5_1).f1))) (ds := []) (zA 10 0) (by kernel_rfl) rfl rfl ⟨((HB.1.cell (World.block_lt_of_cell? w _ hw263_0)).trans hw263_0), ((HB.1.cell (World.block_lt_of_cell? w _ hw263_1)).trans hw263_1), ((HB.1.cell (World.block_lt_of_cell? w _ hw264_0)).trans hw264_0), ((HB.1.cell (World.block_lt_of_cell? w _ hw264_1)).trans hw264_1)⟩ (fun hHeld => ?_); refine with_tabW laws_eqFileS.tab6 laws_eqFileS.bits6 (fun HT_ HW_ => ?_)
      generalize wr.drew = w9 at HB hx263_0 hx263_1 hx264_0 hx264_1 hHeld ⊢; refine zu HT_ 0 (some 17) (zA 10 1) ?_; refine zu HT_ 1 (some 18) (zA 10 3) ?_; refine zu HT_ 2 (some 19) (zA 10 7) ?_; refine zu HT_ 4 (some 21) (zA 10 23) ?_; refine zu HT_ 5 (some 22) (zA 10 55) ?_; refine zu HT_ 6 (some 23) (zA 10 119) ?_; refine take_ (i := 3) (N := some 20) (v := ?_) (a' := ?_) (zA 10 127) rfl rfl (take_ofW HT_.1 HW_.1 (by kernel_rfl)) (fun _ _ _ h => h) (Or.inl ⟨by rfl, ?_⟩) hHeld ?_ ?_; rotate_left
      ·rintro w' ⟨s0, s1, s2, s3⟩
       go_simp
       (with_reducible rfl)
      rotate_left
      ·simp only [zp0, zp1, zp2, zp3, zp4, i64_w, i32_w]; rfl
      refine take_ (i := 7) (N := some 24) (v := ?_) (a' := ?_) (zA 10 255) rfl rfl (take_ofW HT_.1 HW_.1 (by kernel_rfl)) (fun _ _ _ h => h) (Or.inl ⟨by rfl, ?_⟩) hHeld ?_ ?_; rotate_left
      ·rintro w' ⟨s0, s1, s2, s3⟩
       go_simp
       (with_reducible rfl)
      rotate_left
      ·simp only [zp0, zp1, zp2, zp3, zp4, i64_w, i32_w]; rfl
      refine zo HT_ 8 (some 25) (zA 10 511) (fun K hK => ?_); refine zg Tryz.func45 #[.agg #[.int .i64 ((rd_T71 l0 x5_1).f0), .int .i64 ((rd_T71 l0 x5_1).f1)], .agg #[.int .i64 ((rd_T71 l1 x5_1).f0), .int .i64 ((rd_T71 l1 x5_1).f1)]] ?_; (with_reducible refine (laws_eqFile.calls ((rd_T71 l0 x5_1).f0) ((rd_T71 l0 x5_1).f1) ((rd_T71 l1 x5_1).f0) ((rd_T71 l1 x5_1).f1) true _ A7.1).mono ?_); rintro e w10 ⟨rfl, hb⟩; refine ⟨_, rfl, ?_⟩; have _ := aM (below_step (zB HB.1) hb); clear HB; rename_i HB; (try clear hb); (try clear hb2); (try clear hk); (try clear hi); refine hK.out _ _ ⟨((HB.1.cell (World.block_lt_of_cell? w _ hw263_0)).trans hw263_0), ((HB.1.cell (World.block_lt_of_cell? w _ hw263_1)).trans hw263_1), ((HB.1.cell (World.block_lt_of_cell? w _ hw264_0)).trans hw264_0), ((HB.1.cell (World.block_lt_of_cell? w _ hw264_1)).trans hw264_1)⟩ (fun hHeld => ?_); clear hK K; refine zn (some 25) ?_; refine zu HT_ 9 (some 26) (zA 10 1023) ?_; refine done_ (done_of HT_.1 (by kernel_rfl)) ?_
      try go_wp2
      go_roundg k1
      case measure => have := HK1.1; omega
      case rel => exact ⟨(wrap64 (x5_1 + 1)), (by first | rfl | (simp; done) | (simp [*]; done)), H', ⟨by have := HK1.1; omega⟩, ⟨zB HB.1⟩⟩
     ·replace c8 := Bool.eq_false_iff.mpr c8; subst c8; replace H := zy0 H; obtain rfl := Option.some.inj H
      try go_wp2
      have _ := aM (below_drew1 HB.1); clear HB; rename_i HB; have p263 : 0 ≤ (x5_1 : Int) := zd; have q263 : x5_1 < (l0.length : Int) := zd; obtain ⟨ad263, e263, hx263_0, hx263_1⟩ := at_T71 HR0.1 x5_1 p263 q263; have hw263_1 := hx263_1; have hw263_0 := hx263_0; cases e263; replace hx263_0 := (HB.1.cell (World.block_lt_of_cell? w _ hx263_0)).trans hx263_0; replace hx263_1 := (HB.1.cell (World.block_lt_of_cell? w _ hx263_1)).trans hx263_1; replace p263 := eq_true p263; replace q263 := eq_true q263; have p264 : 0 ≤ (x5_1 : Int) := zd; have q264 : x5_1 < (l1.length : Int) := zd; obtain ⟨ad264, e264, hx264_0, hx264_1⟩ := at_T71 HR1.1 x5_1 p264 q264; have hw264_1 := hx264_1; have hw264_0 := hx264_0; cases e264; replace hx264_0 := (HB.1.cell (World.block_lt_of_cell? w _ hx264_0)).trans hx264_0; replace hx264_1 := (HB.1.cell (World.block_lt_of_cell? w _ hx264_1)).trans hx264_1; replace p264 := eq_true p264; replace q264 := eq_true q264
      refine start_ (n := 10) (S := fun w' => w'.cell? (ad263.add ((x5_1).toNat * 2)) = some (.int .i64 ((rd_T71 l0 x5_1).f0)) ∧ w'.cell? ⟨(ad263.add ((x5_1).toNat * 2)).block, (ad263.add ((x5_1).toNat * 2)).off + 1, none⟩ = some (.int .i64 ((rd_T71 l0 x5_1).f1)) ∧ w'.cell? (ad264.add ((x5_1).toNat * 2)) = some (.int .i64 ((rd_T71 l1 x5_1).f0)) ∧ w'.cell? ⟨(ad264.add ((x5_1).toNat * 2)).block, (ad264.add ((x5_1).toNat * 2)).off + 1, none⟩ = some (.int .i64 ((rd_T71 l1 x5_1).f1))) (ds := []) (zA 10 0) (by kernel_rfl) rfl rfl ⟨((HB.1.cell (World.block_lt_of_cell? w _ hw263_0)).trans hw263_0), ((HB.1.cell (World.block_lt_of_cell? w _ hw263_1)).trans hw263_1), ((HB.1.cell (World.block_lt_of_cell? w _ hw264_0)).trans hw264_0), ((HB.1.cell (World.block_lt_of_cell? w _ hw264_1)).trans hw264_1)⟩ (fun hHeld => ?_); refine with_tabW laws_eqFileS.tab6 laws_eqFileS.bits6 (fun HT_ HW_ => ?_)
      generalize wr.drew = w11 at HB hx263_0 hx263_1 hx264_0 hx264_1 hHeld ⊢; refine zu HT_ 0 (some 17) (zA 10 1) ?_; refine zu HT_ 1 (some 18) (zA 10 3) ?_; refine zu HT_ 2 (some 19) (zA 10 7) ?_; refine zu HT_ 4 (some 21) (zA 10 23) ?_; refine zu HT_ 5 (some 22) (zA 10 55) ?_; refine zu HT_ 6 (some 23) (zA 10 119) ?_; refine take_ (i := 3) (N := some 20) (v := ?_) (a' := ?_) (zA 10 127) rfl rfl (take_ofW HT_.1 HW_.1 (by kernel_rfl)) (fun _ _ _ h => h) (Or.inl ⟨by rfl, ?_⟩) hHeld ?_ ?_; rotate_left
      ·rintro w' ⟨s0, s1, s2, s3⟩
       go_simp
       (with_reducible rfl)
      rotate_left
      ·simp only [zp0, zp1, zp2, zp3, zp4, i64_w, i32_w]; rfl
      refine take_ (i := 7) (N := some 24) (v := ?_) (a' := ?_) (zA 10 255) rfl rfl (take_ofW HT_.1 HW_.1 (by kernel_rfl)) (fun _ _ _ h => h) (Or.inl ⟨by rfl, ?_⟩) hHeld ?_ ?_; rotate_left
      ·rintro w' ⟨s0, s1, s2, s3⟩
       go_simp
       (with_reducible rfl)
      rotate_left
      ·simp only [zp0, zp1, zp2, zp3, zp4, i64_w, i32_w]; rfl
      refine zo HT_ 8 (some 25) (zA 10 511) (fun K hK => ?_); refine zg Tryz.func45 #[.agg #[.int .i64 ((rd_T71 l0 x5_1).f0), .int .i64 ((rd_T71 l0 x5_1).f1)], .agg #[.int .i64 ((rd_T71 l1 x5_1).f0), .int .i64 ((rd_T71 l1 x5_1).f1)]] ?_; (with_reducible refine (laws_eqFile.calls ((rd_T71 l0 x5_1).f0) ((rd_T71 l0 x5_1).f1) ((rd_T71 l1 x5_1).f0) ((rd_T71 l1 x5_1).f1) false _ A7.1).mono ?_); rintro e w12 ⟨rfl, hb⟩; refine ⟨_, rfl, ?_⟩; have _ := aM (below_step (zB HB.1) hb); clear HB; rename_i HB; (try clear hb); (try clear hb2); (try clear hk); (try clear hi); refine hK.out _ _ ⟨((HB.1.cell (World.block_lt_of_cell? w _ hw263_0)).trans hw263_0), ((HB.1.cell (World.block_lt_of_cell? w _ hw263_1)).trans hw263_1), ((HB.1.cell (World.block_lt_of_cell? w _ hw264_0)).trans hw264_0), ((HB.1.cell (World.block_lt_of_cell? w _ hw264_1)).trans hw264_1)⟩ (fun hHeld => ?_); clear hK K; refine zn (some 25) ?_; refine zu HT_ 9 (some 26) (zA 10 1023) ?_; refine done_ (done_of HT_.1 (by kernel_rfl)) ?_
      try go_wp2
      go_ret
      exact ⟨by first | rfl | (simp [errW_none, errW_some] <;> rfl) | (simp [*, errW_none, errW_some] <;> rfl), by exact zB HB.1⟩
    ·rw [if_neg c4] at H; have c4b0 : decide (x5_1 < (l0.length : Int)) = false := decide_eq_false c4; clear c4; obtain rfl := Option.some.inj H
     go_wp2
     go_ret
     exact ⟨by first | rfl | (simp [errW_none, errW_some] <;> rfl) | (simp [*, errW_none, errW_some] <;> rfl), by exact zB HB.1⟩
 ·rw [if_neg c3] at H; have c3b0 : ((l0.length : Int) == (l1.length : Int)) = false := beq_eq_false_iff_ne.mpr c3; have c3b1 : ((l0.length : Int) != (l1.length : Int)) = true := bne_iff_ne.mpr c3
  have c3b2 : (l0.length == l1.length) = false := by first | simpa using c3 | (simp at c3 ⊢; omega)
  obtain rfl := Option.some.inj H
  go_enter Tryz.func21, Tryz.ntmps21
  go_wp2
  go_ret
  exact ⟨by first | rfl | (simp [errW_none, errW_some] <;> rfl) | (simp [*, errW_none, errW_some] <;> rfl), by exact zB HB.1⟩

/-! ### laws_eqDep: function 46 -/
def laws_eqDep.f (a0_0 : Int) (a0_1 : Int) (a1_0 : Int) (a1_1 : Int) : Option (Bool) := if a0_0 = a1_0 then (if a0_1 = a1_1 then (some true) else (some false)) else (some false)
set_option maxHeartbeats 8000000 in
set_option maxRecDepth 100000 in
theorem laws_eqDep.calls (a0_0 : Int) (a0_1 : Int) (a1_0 : Int) (a1_1 : Int) (r : Bool) (w : World) (h : laws_eqDep.f a0_0 a0_1 a1_0 a1_1 = some r) :
  Calls Tryz.prog 46 #[.agg #[.int .i64 a0_0, .int .i64 a0_1], .agg #[.int .i64 a1_0, .int .i64 a1_1]] w fun e w' => e = .returned (.bool r) ∧ Below w.heap.size w w' := by
 have hu73 := Tryz.underlying73; have HB := aM (Below.refl w.heap.size w); have H : (if a0_0 = a1_0 then (if a0_1 = a1_1 then (some true) else (some false)) else (some false)) = some r := h; clear h
 by_cases c3 : a0_0 = a1_0
 ·rw [if_pos c3] at H; have c3b0 : (a0_0 == a1_0) = true := beq_iff_eq.mpr c3; have c3b1 : (a0_0 != a1_0) = false := bne_eq_false_iff_eq.mpr c3; clear c3
  by_cases c4 : a0_1 = a1_1
  ·rw [if_pos c4] at H; have c4b0 : (a0_1 == a1_1) = true := beq_iff_eq.mpr c4; have c4b1 : (a0_1 != a1_1) = false := bne_eq_false_iff_eq.mpr c4; clear c4; obtain rfl := Option.some.inj H
   go_enter Tryz.func46, Tryz.ntmps46
   go_wp2_with (first | ((with_reducible refine gate_dst (N := 2) rfl ?_); refine zbx 2 #[.int .i64 a0_0, .int .i64 a0_1] 73 ?_; intro gb266 hg w5 hbox hb; have _ := aM (below_step (zB HB.1) hb); have _ := aM (hbox); have _ := aM (zge hg (zB HB.1)); have _ := aM (zge hg (zB HB.1)); clear HB; rename_i HB BK266 GW266 GE266; clear hb hbox hg) | ((with_reducible refine gate_dst (N := 3) rfl ?_); refine zbx 3 #[.int .i64 a1_0, .int .i64 a1_1] 73 ?_; intro gb267 hg w6 hbox hb; have _ := aM (blk_below (zK BK266.1) hb); have _ := aM (below_step (zB1 HB.1 GE266.1) hb); have _ := aM (hbox); have _ := aM (zge hg (zB1 HB.1 GE266.1)); have _ := aM (zge hg (zB1 HB.1 GE266.1)); have _ := aM (znl hg (zK BK266.1)); have _ := aM (zng hg (zK BK266.1)); clear BK266 HB; rename_i BK266 HB BK267 GW267 GE267 NB266_267 NB267_266; clear hb hbox hg; have hnb7 := NB266_267.1; have hnc7 := NB267_266.1; obtain ⟨hcz8_0, hcz8_1, hfz8_0, hfz8_1⟩ := zc2f BK266.1; obtain ⟨hcz9_0, hcz9_1, hfz9_0, hfz9_1⟩ := zc2f BK267.1))
   go_ret
   exact ⟨by first | rfl | (simp [errW_none, errW_some] <;> rfl) | (simp [*, errW_none, errW_some] <;> rfl), by exact zB2 HB.1 GE266.1 GE267.1⟩
  ·rw [if_neg c4] at H; have c4b0 : (a0_1 == a1_1) = false := beq_eq_false_iff_ne.mpr c4; have c4b1 : (a0_1 != a1_1) = true := bne_iff_ne.mpr c4; obtain rfl := Option.some.inj H
   go_enter Tryz.func46, Tryz.ntmps46
   go_wp2_with (first | ((with_reducible refine gate_dst (N := 2) rfl ?_); refine zbx 2 #[.int .i64 a0_0, .int .i64 a0_1] 73 ?_; intro gb266 hg w10 hbox hb; have _ := aM (below_step (zB HB.1) hb); have _ := aM (hbox); have _ := aM (zge hg (zB HB.1)); have _ := aM (zge hg (zB HB.1)); clear HB; rename_i HB BK266 GW266 GE266; clear hb hbox hg) | ((with_reducible refine gate_dst (N := 3) rfl ?_); refine zbx 3 #[.int .i64 a1_0, .int .i64 a1_1] 73 ?_; intro gb267 hg w11 hbox hb; have _ := aM (blk_below (zK BK266.1) hb); have _ := aM (below_step (zB1 HB.1 GE266.1) hb); have _ := aM (hbox); have _ := aM (zge hg (zB1 HB.1 GE266.1)); have _ := aM (zge hg (zB1 HB.1 GE266.1)); have _ := aM (znl hg (zK BK266.1)); have _ := aM (zng hg (zK BK266.1)); clear BK266 HB; rename_i BK266 HB BK267 GW267 GE267 NB266_267 NB267_266; clear hb hbox hg; have hnb12 := NB266_267.1; have hnc12 := NB267_266.1; obtain ⟨hcz13_0, hcz13_1, hfz13_0, hfz13_1⟩ := zc2f BK266.1; obtain ⟨hcz14_0, hcz14_1, hfz14_0, hfz14_1⟩ := zc2f BK267.1))
   go_ret
   exact ⟨by first | rfl | (simp [errW_none, errW_some] <;> rfl) | (simp [*, errW_none, errW_some] <;> rfl), by exact zB2 HB.1 GE266.1 GE267.1⟩
 ·rw [if_neg c3] at H; have c3b0 : (a0_0 == a1_0) = false := beq_eq_false_iff_ne.mpr c3; have c3b1 : (a0_0 != a1_0) = true := bne_iff_ne.mpr c3; obtain rfl := Option.some.inj H
  go_enter Tryz.func46, Tryz.ntmps46
  go_wp2_with (first | ((with_reducible refine gate_dst (N := 2) rfl ?_); refine zbx 2 #[.int .i64 a0_0, .int .i64 a0_1] 73 ?_; intro gb266 hg w15 hbox hb; have _ := aM (below_step (zB HB.1) hb); have _ := aM (hbox); have _ := aM (zge hg (zB HB.1)); have _ := aM (zge hg (zB HB.1)); clear HB; rename_i HB BK266 GW266 GE266; clear hb hbox hg) | ((with_reducible refine gate_dst (N := 3) rfl ?_); refine zbx 3 #[.int .i64 a1_0, .int .i64 a1_1] 73 ?_; intro gb267 hg w16 hbox hb; have _ := aM (blk_below (zK BK266.1) hb); have _ := aM (below_step (zB1 HB.1 GE266.1) hb); have _ := aM (hbox); have _ := aM (zge hg (zB1 HB.1 GE266.1)); have _ := aM (zge hg (zB1 HB.1 GE266.1)); have _ := aM (znl hg (zK BK266.1)); have _ := aM (zng hg (zK BK266.1)); clear BK266 HB; rename_i BK266 HB BK267 GW267 GE267 NB266_267 NB267_266; clear hb hbox hg; have hnb17 := NB266_267.1; have hnc17 := NB267_266.1; obtain ⟨hcz18_0, hcz18_1, hfz18_0, hfz18_1⟩ := zc2f BK266.1; obtain ⟨hcz19_0, hcz19_1, hfz19_0, hfz19_1⟩ := zc2f BK267.1))
  go_ret
  exact ⟨by first | rfl | (simp [errW_none, errW_some] <;> rfl) | (simp [*, errW_none, errW_some] <;> rfl), by exact zB2 HB.1 GE266.1 GE267.1⟩

/-! ### laws_eqDepS: function 22 -/
def laws_eqDepS.l0 : Nat → List (S73) → List (S73) → Int → Option (Bool)
 | 0, _, _, _ => none
 | k + 1, x0, x1, x5 => if x5 < (x0.length : Int) then (if 0 ≤ x5 then (if x5 < (x1.length : Int) then ((laws_eqDep.f ((rd_T73 x0 x5).f0) ((rd_T73 x0 x5).f1) ((rd_T73 x1 x5).f0) ((rd_T73 x1 x5).f1)).bind fun t270 => (if t270 = true then (laws_eqDepS.l0 k x0 x1 (wrap64 (x5 + 1))) else (some false))) else (none)) else (none)) else (some true)
def laws_eqDepS.f (k : Nat) (l0 : List (S73)) (l1 : List (S73)) : Option (Bool) := if (l0.length : Int) = (l1.length : Int) then (laws_eqDepS.l0 k l0 l1 0) else (some false)
theorem laws_eqDepS.mono_l : ∀ k, (∀ y0 y1 y2, LeO (laws_eqDepS.l0 k y0 y1 y2) (laws_eqDepS.l0 (k + 1) y0 y1 y2))
 | 0 => fun _ _ _ r h => by simp [laws_eqDepS.l0] at h
 | k + 1 => by
  have ih0 := laws_eqDepS.mono_l k
  ·intro y0 y1 y2
   unfold laws_eqDepS.l0
   repeat' first
   | (with_reducible exact ih0 _ _ _)
   | (with_reducible exact LeO.refl _)
   | (with_reducible exact LeO.none _)
   | (with_reducible refine LeO.ite ?_ ?_)
   | (with_reducible refine LeO.bind ?_ (fun _ => ?_))
   | exact ih0 _ _ _
   | exact LeO.none _
   | refine LeO.ite ?_ ?_
   | refine LeO.bind ?_ (fun _ => ?_)
theorem laws_eqDepS.mono : ∀ a0 a1 k, LeO (laws_eqDepS.f k a0 a1) (laws_eqDepS.f (k + 1) a0 a1) := by
 intro a0 a1 k
 have ih0 := laws_eqDepS.mono_l k
 unfold laws_eqDepS.f
 repeat' with_reducible first | apply ih0 | exact LeO.refl _ | exact LeO.none _ | refine LeO.ite ?_ ?_ | refine LeO.bind ?_ (fun _ => ?_)
def laws_eqDepS.T6 : Bool × List (List Nat × List Nat) := (true, [([], []), ([], []), ([0, 1], [0, 1]), ([2], [2]), ([], []), ([], []), ([4, 5], [4, 5]), ([6], [6]), ([3, 7], [3, 7]), ([8], [8])])
def laws_eqDepS.B6 : List Nat := [0, 0, 3, 7, 0, 0, 48, 112, 255, 511]
theorem laws_eqDepS.tab6 : rtab .any (opsOf Tryz.f22 6) = laws_eqDepS.T6 := by kernel_rfl
theorem laws_eqDepS.bits6 : waitsOk laws_eqDepS.T6.2 laws_eqDepS.B6 = true := by kernel_rfl
set_option maxHeartbeats 8000000 in
set_option maxRecDepth 100000 in
theorem laws_eqDepS.calls (k : Nat) (A0 : Option Addr) (c0 : Nat) (l0 : List (S73)) (A1 : Option Addr) (c1 : Nat) (l1 : List (S73)) (r : Bool) (w : World) (hr0 : Kd.C k73 w A0 l0.length l0) (hc0 : l0.length ≤ c0) (hr1 : Kd.C k73 w A1 l1.length l1) (hc1 : l1.length ≤ c1) (h : laws_eqDepS.f k l0 l1 = some r) :
  Calls Tryz.prog 22 #[.slice A0 l0.length c0, .slice A1 l1.length c1] w fun e w' => e = .returned (.bool r) ∧ Below w.heap.size w w' := by
 have hu73 := Tryz.underlying73; have HR0 := aM hr0; have HC0 := aM hc0; clear hr0 hc0; have HR1 := aM hr1; have HC1 := aM hc1; clear hr1 hc1; have HB := aM (Below.refl w.heap.size w); have H : (if (l0.length : Int) = (l1.length : Int) then (laws_eqDepS.l0 k l0 l1 0) else (some false)) = some r := h; clear h
 by_cases c3 : (l0.length : Int) = (l1.length : Int)
 ·rw [if_pos c3] at H; have c3b0 : ((l0.length : Int) == (l1.length : Int)) = true := beq_iff_eq.mpr c3; have c3b1 : ((l0.length : Int) != (l1.length : Int)) = false := bne_eq_false_iff_eq.mpr c3
  have c3b2 : (l0.length == l1.length) = true := by first | simpa using c3 | (simp at c3 ⊢; omega)
  clear c3; have H' := aM H; clear H
  go_enter Tryz.func22, Tryz.ntmps22
  go_wp2
  go_loopg [5] k (fun kq v5 w' => ∃ (x5_1 : Int), v5 = .int .i64 x5_1 ∧ Aside0 (laws_eqDepS.l0 kq l0 l1 x5_1 = some r) ∧ Aside0 (kq ≤ k) ∧ Aside0 (Below w.heap.size w w'))
  case atStart => exact ⟨(0), (by first | rfl | (simp; done) | (simp [*]; done)), H', ⟨Nat.le_refl _⟩, ⟨zB HB.1⟩⟩
  case round =>
   clear H'
   try clear c1
   try clear c2
   try clear p2
   try clear c3
   try clear c3b0
   try clear c3b1
   try clear c3b2
   obtain ⟨x5_1, rfl, HA, HK1, HB⟩ := hrel; cases gk with
   | zero => exact absurd HA.1 (by simp [laws_eqDepS.l0])
   | succ k1 =>
    have H := HA.1; clear HA; simp only [laws_eqDepS.l0] at H
    by_cases c4 : x5_1 < (l0.length : Int)
    ·rw [if_pos c4] at H; have c4b0 : decide (x5_1 < (l0.length : Int)) = true := decide_eq_true c4; clear c4; replace H := zif H; obtain ⟨c5, H⟩ := H; have c5b0 : decide (0 ≤ x5_1) = true := decide_eq_true c5; clear c5; replace H := zif H; obtain ⟨c6, H⟩ := H; have c6b0 : decide (x5_1 < (l1.length : Int)) = true := decide_eq_true c6; clear c6; replace H := Option.bind_eq_some_iff.mp H; obtain ⟨t270, A70, H⟩ := H; (try dsimp only at H); have A7 := aM A70; clear A70
     by_cases c8 : t270 = true
     ·subst c8; replace H := zy1 H; have H' := aM H; clear H
      try go_wp2
      have _ := aM (below_drew1 HB.1); clear HB; rename_i HB; have p268 : 0 ≤ (x5_1 : Int) := zd; have q268 : x5_1 < (l0.length : Int) := zd; obtain ⟨ad268, e268, hx268_0, hx268_1⟩ := at_T73 HR0.1 x5_1 p268 q268; have hw268_1 := hx268_1; have hw268_0 := hx268_0; cases e268; replace hx268_0 := (HB.1.cell (World.block_lt_of_cell? w _ hx268_0)).trans hx268_0; replace hx268_1 := (HB.1.cell (World.block_lt_of_cell? w _ hx268_1)).trans hx268_1; replace p268 := eq_true p268; replace q268 := eq_true q268; have p269 : 0 ≤ (x5_1 : Int) := zd; have q269 : x5_1 < (l1.length : Int) := zd; obtain ⟨ad269, e269, hx269_0, hx269_1⟩ := at_T73 HR1.1 x5_1 p269 q269; have hw269_1 := hx269_1; have hw269_0 := hx269_0; cases e269; replace hx269_0 := (HB.1.cell (World.block_lt_of_cell? w _ hx269_0)).trans hx269_0; replace hx269_1 := (HB.1.cell (World.block_lt_of_cell? w _ hx269_1)).trans hx269_1; replace p269 := eq_true p269; replace q269 := eq_true q269
      refine start_ (n := 10) (S := fun w' => w'.cell? (ad268.add ((x5_1).toNat * 2)) = some (.int .i64 ((rd_T73 l0 x5_1).f0)) ∧ w'.cell? ⟨(ad268.add ((x5_1).toNat * 2)).block, (ad268.add ((x5_1).toNat * 2)).off + 1, none⟩ = some (.int .i64 ((rd_T73 l0 x5_1).f1)) ∧ w'.cell? (ad269.add ((x5_1).toNat * 2)) = some (.int .i64 ((rd_T73 l1 x5_1).f0)) ∧ w'.cell? ⟨(ad269.add ((x5_1).toNat * 2)).block, (ad269.add ((x5_1).toNat * 2)).off + 1, none⟩ = some (.int .i64 ((rd_T73 l1 x5_1).f1))) (ds := []) (zA 10 0) (by kernel_rfl) rfl rfl ⟨((HB.1.cell (World.block_lt_of_cell? w _ hw268_0)).trans hw268_0), ((HB.1.cell (World.block_lt_of_cell? w _ hw268_1)).trans hw268_1), ((HB.1.cell (World.block_lt_of_cell? w _ hw269_0)).trans hw269_0), ((HB.1.cell (World.block_lt_of_cell? w _ hw269_1)).trans hw269_1)⟩ (fun hHeld => ?_); refine with_tabW laws_eqDepS.tab6 laws_eqDepS.bits6 (fun HT_ HW_ => ?_)
      generalize wr.drew = w9 at HB hx268_0 hx268_1 hx269_0 hx269_1 hHeld ⊢; refine zu HT_ 0 (some 17) (zA 10 1) ?_; refine zu HT_ 1 (some 18) (zA 10 3) ?_; refine zu HT_ 2 (some 19) (zA 10 7) ?_; refine zu HT_ 4 (some 21) (zA 10 23) ?_; refine zu HT_ 5 (some 22) (zA 10 55) ?_; refine zu HT_ 6 (some 23) (zA 10 119) ?_; refine take_ (i := 3) (N := some 20) (v := ?_) (a' := ?_) (zA 10 127) rfl rfl (take_ofW HT_.1 HW_.1 (by kernel_rfl)) (fun _ _ _ h => h) (Or.inl ⟨by rfl, ?_⟩) hHeld ?_ ?_; rotate_left
      ·rintro w' ⟨s0, s1, s2, s3⟩
       go_simp
       (with_reducible rfl)
      rotate_left
      ·simp only [zp0, zp1, zp2, zp3, zp4, i64_w, i32_w]; rfl
      refine take_ (i := 7) (N := some 24) (v := ?_) (a' := ?_) (zA 10 255) rfl rfl (take_ofW HT_.1 HW_.1 (by kernel_rfl)) (fun _ _ _ h => h) (Or.inl ⟨by rfl, ?_⟩) hHeld ?_ ?_; rotate_left
      ·rintro w' ⟨s0, s1, s2, s3⟩
       go_simp
       (with_reducible rfl)
      rotate_left
      ·simp only [zp0, zp1, zp2, zp3, zp4, i64_w, i32_w]; rfl
      refine zo HT_ 8 (some 25) (zA 10 511) (fun K hK => ?_); refine zg Tryz.func46 #[.agg #[.int .i64 ((rd_T73 l0 x5_1).f0), .int .i64 ((rd_T73 l0 x5_1).f1)], .agg #[.int .i64 ((rd_T73 l1 x5_1).f0), .int .i64 ((rd_T73 l1 x5_1).f1)]] ?_; (with_reducible refine (laws_eqDep.calls ((rd_T73 l0 x5_1).f0) ((rd_T73 l0 x5_1).f1) ((rd_T73 l1 x5_1).f0) ((rd_T73 l1 x5_1).f1) true _ A7.1).mono ?_); rintro e w10 ⟨rfl, hb⟩; refine ⟨_, rfl, ?_⟩; have _ := aM (below_step (zB HB.1) hb); clear HB; rename_i HB; (try clear hb); (try clear hb2); (try clear hk); (try clear hi); refine hK.out _ _ ⟨((HB.1.cell (World.block_lt_of_cell? w _ hw268_0)).trans hw268_0), ((HB.1.cell (World.block_lt_of_cell? w _ hw268_1)).trans hw268_1), ((HB.1.cell (World.block_lt_of_cell? w _ hw269_0)).trans hw269_0), ((HB.1.cell (World.block_lt_of_cell? w _ hw269_1)).trans hw269_1)⟩ (fun hHeld => ?_); clear hK K; refine zn (some 25) ?_; refine zu HT_ 9 (some 26) (zA 10 1023) ?_; refine done_ (done_of HT_.1 (by kernel_rfl)) ?_
      try go_wp2
      go_roundg k1
      case measure => have := HK1.1; omega
      case rel => exact ⟨(wrap64 (x5_1 + 1)), (by first | rfl | (simp; done) | (simp [*]; done)), H', ⟨by have := HK1.1; omega⟩, ⟨zB HB.1⟩⟩
     ·replace c8 := Bool.eq_false_iff.mpr c8; subst c8; replace H := zy0 H; obtain rfl := Option.some.inj H
      try go_wp2
      have _ := aM (below_drew1 HB.1); clear HB; rename_i HB; have p268 : 0 ≤ (x5_1 : Int) := zd; have q268 : x5_1 < (l0.length : Int) := zd; obtain ⟨ad268, e268, hx268_0, hx268_1⟩ := at_T73 HR0.1 x5_1 p268 q268; have hw268_1 := hx268_1; have hw268_0 := hx268_0; cases e268; replace hx268_0 := (HB.1.cell (World.block_lt_of_cell? w _ hx268_0)).trans hx268_0; replace hx268_1 := (HB.1.cell (World.block_lt_of_cell? w _ hx268_1)).trans hx268_1; replace p268 := eq_true p268; replace q268 := eq_true q268; have p269 : 0 ≤ (x5_1 : Int) := zd; have q269 : x5_1 < (l1.length : Int) := zd; obtain ⟨ad269, e269, hx269_0, hx269_1⟩ := at_T73 HR1.1 x5_1 p269 q269; have hw269_1 := hx269_1; have hw269_0 := hx269_0; cases e269; replace hx269_0 := (HB.1.cell (World.block_lt_of_cell? w _ hx269_0)).trans hx269_0; replace hx269_1 := (HB.1.cell (World.block_lt_of_cell? w _ hx269_1)).trans hx269_1; replace p269 := eq_true p269; replace q269 := eq_true q269
      refine start_ (n := 10) (S := fun w' => w'.cell? (ad268.add ((x5_1).toNat * 2)) = some (.int .i64 ((rd_T73 l0 x5_1).f0)) ∧ w'.cell? ⟨(ad268.add ((x5_1).toNat * 2)).block, (ad268.add ((x5_1).toNat * 2)).off + 1, none⟩ = some (.int .i64 ((rd_T73 l0 x5_1).f1)) ∧ w'.cell? (ad269.add ((x5_1).toNat * 2)) = some (.int .i64 ((rd_T73 l1 x5_1).f0)) ∧ w'.cell? ⟨(ad269.add ((x5_1).toNat * 2)).block, (ad269.add ((x5_1).toNat * 2)).off + 1, none⟩ = some (.int .i64 ((rd_T73 l1 x5_1).f1))) (ds := []) (zA 10 0) (by kernel_rfl) rfl rfl ⟨((HB.1.cell (World.block_lt_of_cell? w _ hw268_0)).trans hw268_0), ((HB.1.cell (World.block_lt_of_cell? w _ hw268_1)).trans hw268_1), ((HB.1.cell (World.block_lt_of_cell? w _ hw269_0)).trans hw269_0), ((HB.1.cell (World.block_lt_of_cell? w _ hw269_1)).trans hw269_1)⟩ (fun hHeld => ?_); refine with_tabW laws_eqDepS.tab6 laws_eqDepS.bits6 (fun HT_ HW_ => ?_)
      generalize wr.drew = w11 at HB hx268_0 hx268_1 hx269_0 hx269_1 hHeld ⊢; refine zu HT_ 0 (some 17) (zA 10 1) ?_; refine zu HT_ 1 (some 18) (zA 10 3) ?_; refine zu HT_ 2 (some 19) (zA 10 7) ?_; refine zu HT_ 4 (some 21) (zA 10 23) ?_; refine zu HT_ 5 (some 22) (zA 10 55) ?_; refine zu HT_ 6 (some 23) (zA 10 119) ?_; refine take_ (i := 3) (N := some 20) (v := ?_) (a' := ?_) (zA 10 127) rfl rfl (take_ofW HT_.1 HW_.1 (by kernel_rfl)) (fun _ _ _ h => h) (Or.inl ⟨by rfl, ?_⟩) hHeld ?_ ?_; rotate_left
      ·rintro w' ⟨s0, s1, s2, s3⟩
       go_simp
       (with_reducible rfl)
      rotate_left
      ·simp only [zp0, zp1, zp2, zp3, zp4, i64_w, i32_w]; rfl
      refine take_ (i := 7) (N := some 24) (v := ?_) (a' := ?_) (zA 10 255) rfl rfl (take_ofW HT_.1 HW_.1 (by kernel_rfl)) (fun _ _ _ h => h) (Or.inl ⟨by rfl, ?_⟩) hHeld ?_ ?_; rotate_left
      ·rintro w' ⟨s0, s1, s2, s3⟩
       go_simp
       (with_reducible rfl)
      rotate_left
      ·simp only [zp0, zp1, zp2, zp3, zp4, i64_w, i32_w]; rfl
      refine zo HT_ 8 (some 25) (zA 10 511) (fun K hK => ?_); refine zg Tryz.func46 #[.agg #[.int .i64 ((rd_T73 l0 x5_1).f0), .int .i64 ((rd_T73 l0 x5_1).f1)], .agg #[.int .i64 ((rd_T73 l1 x5_1).f0), .int .i64 ((rd_T73 l1 x5_1).f1)]] ?_; (with_reducible refine (laws_eqDep.calls ((rd_T73 l0 x5_1).f0) ((rd_T73 l0 x5_1).f1) ((rd_T73 l1 x5_1).f0) ((rd_T73 l1 x5_1).f1) false _ A7.1).mono ?_); rintro e w12 ⟨rfl, hb⟩; refine ⟨_, rfl, ?_⟩; have _ := aM (below_step (zB HB.1) hb); clear HB; rename_i HB; (try clear hb); (try clear hb2); (try clear hk); (try clear hi); refine hK.out _ _ ⟨((HB.1.cell (World.block_lt_of_cell? w _ hw268_0)).trans hw268_0), ((HB.1.cell (World.block_lt_of_cell? w _ hw268_1)).trans hw268_1), ((HB.1.cell (World.block_lt_of_cell? w _ hw269_0)).trans hw269_0), ((HB.1.cell (World.block_lt_of_cell? w _ hw269_1)).trans hw269_1)⟩ (fun hHeld => ?_); clear hK K; refine zn (some 25) ?_; refine zu HT_ 9 (some 26) (zA 10 1023) ?_; refine done_ (done_of HT_.1 (by kernel_rfl)) ?_
      try go_wp2
      go_ret
      exact ⟨by first | rfl | (simp [errW_none, errW_some] <;> rfl) | (simp [*, errW_none, errW_some] <;> rfl), by exact zB HB.1⟩
    ·rw [if_neg c4] at H; have c4b0 : decide (x5_1 < (l0.length : Int)) = false := decide_eq_false c4; clear c4; obtain rfl := Option.some.inj H
     go_wp2
     go_ret
     exact ⟨by first | rfl | (simp [errW_none, errW_some] <;> rfl) | (simp [*, errW_none, errW_some] <;> rfl), by exact zB HB.1⟩
 ·rw [if_neg c3] at H; have c3b0 : ((l0.length : Int) == (l1.length : Int)) = false := beq_eq_false_iff_ne.mpr c3; have c3b1 : ((l0.length : Int) != (l1.length : Int)) = true := bne_iff_ne.mpr c3
  have c3b2 : (l0.length == l1.length) = false := by first | simpa using c3 | (simp at c3 ⊢; omega)
  obtain rfl := Option.some.inj H
  go_enter Tryz.func22, Tryz.ntmps22
  go_wp2
  go_ret
  exact ⟨by first | rfl | (simp [errW_none, errW_some] <;> rfl) | (simp [*, errW_none, errW_some] <;> rfl), by exact zB HB.1⟩

/-! ### laws_eqPkg: function 8 -/
def laws_eqPkg.f (k : Nat) (a0_0 : Int) (a0_1 : Int) (l0_2 : List (S71)) (l0_3 : List (S73)) (a1_0 : Int) (a1_1 : Int) (l1_2 : List (S71)) (l1_3 : List (S73)) : Option (Bool) := if a0_0 = a1_0 then (if a0_1 = a1_1 then ((laws_eqFileS.f k l0_2 l1_2).bind fun t273 => (if t273 = true then ((laws_eqDepS.f k l0_3 l1_3).bind fun t274 => (if t274 = true then (some true) else (some false))) else (some false))) else (some false)) else (some false)
theorem laws_eqPkg.mono : ∀ a0 a1 a2 a3 a4 a5 a6 a7 k, LeO (laws_eqPkg.f k a0 a1 a2 a3 a4 a5 a6 a7) (laws_eqPkg.f (k + 1) a0 a1 a2 a3 a4 a5 a6 a7) := by
 intro a0 a1 a2 a3 a4 a5 a6 a7 k
 unfold laws_eqPkg.f
 repeat' with_reducible first | apply laws_eqDepS.mono | apply laws_eqFileS.mono | exact LeO.refl _ | exact LeO.none _ | refine LeO.ite ?_ ?_ | refine LeO.bind ?_ (fun _ => ?_)
set_option maxHeartbeats 8000000 in
set_option maxRecDepth 100000 in
theorem laws_eqPkg.calls (k : Nat) (a0_0 : Int) (a0_1 : Int) (A0_2 : Option Addr) (c0_2 : Nat) (l0_2 : List (S71)) (A0_3 : Option Addr) (c0_3 : Nat) (l0_3 : List (S73)) (a1_0 : Int) (a1_1 : Int) (A1_2 : Option Addr) (c1_2 : Nat) (l1_2 : List (S71)) (A1_3 : Option Addr) (c1_3 : Nat) (l1_3 : List (S73)) (r : Bool) (w : World) (hr0_2 : Kd.C k71 w A0_2 l0_2.length l0_2) (hc0_2 : l0_2.length ≤ c0_2) (hr0_3 : Kd.C k73 w A0_3 l0_3.length l0_3) (hc0_3 : l0_3.length ≤ c0_3) (hr1_2 : Kd.C k71 w A1_2 l1_2.length l1_2) (hc1_2 : l1_2.length ≤ c1_2) (hr1_3 : Kd.C k73 w A1_3 l1_3.length l1_3) (hc1_3 : l1_3.length ≤ c1_3) (h : laws_eqPkg.f k a0_0 a0_1 l0_2 l0_3 a1_0 a1_1 l1_2 l1_3 = some r) :
  Calls Tryz.prog 8 #[.agg #[.int .i64 a0_0, .int .i64 a0_1, .slice A0_2 l0_2.length c0_2, .slice A0_3 l0_3.length c0_3], .agg #[.int .i64 a1_0, .int .i64 a1_1, .slice A1_2 l1_2.length c1_2, .slice A1_3 l1_3.length c1_3]] w fun e w' => e = .returned (.bool r) ∧ Below w.heap.size w w' := by
 have hu29 := Tryz.underlying29; have HR0_2 := aM hr0_2; have HC0_2 := aM hc0_2; clear hr0_2 hc0_2; have HR0_3 := aM hr0_3; have HC0_3 := aM hc0_3; clear hr0_3 hc0_3; have HR1_2 := aM hr1_2; have HC1_2 := aM hc1_2; clear hr1_2 hc1_2; have HR1_3 := aM hr1_3; have HC1_3 := aM hc1_3; clear hr1_3 hc1_3; have HB := aM (Below.refl w.heap.size w); have H : (if a0_0 = a1_0 then (if a0_1 = a1_1 then ((laws_eqFileS.f k l0_2 l1_2).bind fun t273 => (if t273 = true then ((laws_eqDepS.f k l0_3 l1_3).bind fun t274 => (if t274 = true then (some true) else (some false))) else (some false))) else (some false)) else (some false)) = some r := h; clear h
 by_cases c3 : a0_0 = a1_0
 ·rw [if_pos c3] at H; have c3b0 : (a0_0 == a1_0) = true := beq_iff_eq.mpr c3; have c3b1 : (a0_0 != a1_0) = false := bne_eq_false_iff_eq.mpr c3; clear c3
  by_cases c4 : a0_1 = a1_1
  ·rw [if_pos c4] at H; have c4b0 : (a0_1 == a1_1) = true := beq_iff_eq.mpr c4; have c4b1 : (a0_1 != a1_1) = false := bne_eq_false_iff_eq.mpr c4; clear c4; replace H := Option.bind_eq_some_iff.mp H; obtain ⟨t273, A50, H⟩ := H; (try dsimp only at H); have A5 := aM A50; clear A50
   by_cases c6 : t273 = true
   ·subst c6; replace H := zy1 H; replace H := Option.bind_eq_some_iff.mp H; obtain ⟨t274, A70, H⟩ := H; (try dsimp only at H); have A7 := aM A70; clear A70
    by_cases c8 : t274 = true
    ·subst c8; replace H := zy1 H; obtain rfl := Option.some.inj H
     go_enter Tryz.func8, Tryz.ntmps8
     go_wp2_with (first | ((with_reducible refine gate_dst (N := 2) rfl ?_); refine zbx 2 #[.int .i64 a0_0, .int .i64 a0_1, .slice A0_2 l0_2.length c0_2, .slice A0_3 l0_3.length c0_3] 29 ?_; intro gb271 hg w9 hbox hb; have _ := aM (below_step (zB HB.1) hb); have _ := aM (hbox); have _ := aM (zge hg (zB HB.1)); have _ := aM (zge hg (zB HB.1)); clear HB; rename_i HB BK271 GW271 GE271; clear hb hbox hg) | ((with_reducible refine gate_dst (N := 3) rfl ?_); refine zbx 3 #[.int .i64 a1_0, .int .i64 a1_1, .slice A1_2 l1_2.length c1_2, .slice A1_3 l1_3.length c1_3] 29 ?_; intro gb272 hg w10 hbox hb; have _ := aM (blk_below (zK BK271.1) hb); have _ := aM (below_step (zB1 HB.1 GE271.1) hb); have _ := aM (hbox); have _ := aM (zge hg (zB1 HB.1 GE271.1)); have _ := aM (zge hg (zB1 HB.1 GE271.1)); have _ := aM (znl hg (zK BK271.1)); have _ := aM (zng hg (zK BK271.1)); clear BK271 HB; rename_i BK271 HB BK272 GW272 GE272 NB271_272 NB272_271; clear hb hbox hg; have hnb11 := NB271_272.1; have hnc11 := NB272_271.1; obtain ⟨hcz12_0, hcz12_1, hcz12_2, hcz12_3, hfz12_0, hfz12_1, hfz12_2, hfz12_3⟩ := zc4f BK271.1; obtain ⟨hcz13_0, hcz13_1, hcz13_2, hcz13_3, hfz13_0, hfz13_1, hfz13_2, hfz13_3⟩ := zc4f BK272.1) | ((with_reducible refine gate_callee (f := 21) rfl ?_); refine zgL (some 19) Tryz.func21 #[.slice A0_2 l0_2.length c0_2, .slice A1_2 l1_2.length c1_2] ?_; (with_reducible refine (laws_eqFileS.calls k _ _ l0_2 _ _ l1_2 true _ ?side1 ?side2 ?side3 ?side4 A5.1).mono ?_); (case side1 => exact zC (Kd.C_below HR0_2.1 HB.1)); (case side2 => exact HC0_2.1); (case side3 => exact zC (Kd.C_below HR1_2.1 HB.1)); (case side4 => exact HC1_2.1); rintro e w14 ⟨rfl, hb⟩; refine ⟨_, rfl, ?_⟩; have _ := aM (blk_below (zK BK271.1) hb); have _ := aM (blk_below (zK BK272.1) hb); have _ := aM (below_step (zB2 HB.1 GE271.1 GE272.1) hb); clear BK271 BK272 HB; rename_i BK271 BK272 HB; (try clear hb); (try clear hb2); (try clear hk); (try clear hi); obtain ⟨hcz15_0, hcz15_1, hcz15_2, hcz15_3, hfz15_0, hfz15_1, hfz15_2, hfz15_3⟩ := zc4f BK271.1; obtain ⟨hcz16_0, hcz16_1, hcz16_2, hcz16_3, hfz16_0, hfz16_1, hfz16_2, hfz16_3⟩ := zc4f BK272.1) | ((with_reducible refine gate_callee (f := 22) rfl ?_); refine zgL (some 25) Tryz.func22 #[.slice A0_3 l0_3.length c0_3, .slice A1_3 l1_3.length c1_3] ?_; (with_reducible refine (laws_eqDepS.calls k _ _ l0_3 _ _ l1_3 true _ ?side1 ?side2 ?side3 ?side4 A7.1).mono ?_); (case side1 => exact zC (Kd.C_below HR0_3.1 HB.1)); (case side2 => exact HC0_3.1); (case side3 => exact zC (Kd.C_below HR1_3.1 HB.1)); (case side4 => exact HC1_3.1); rintro e w17 ⟨rfl, hb⟩; refine ⟨_, rfl, ?_⟩; have _ := aM (blk_below (zK BK271.1) hb); have _ := aM (blk_below (zK BK272.1) hb); have _ := aM (below_step (zB2 HB.1 GE271.1 GE272.1) hb); clear BK271 BK272 HB; rename_i BK271 BK272 HB; (try clear hb); (try clear hb2); (try clear hk); (try clear hi)))
     go_ret
     exact ⟨by first | rfl | (simp [errW_none, errW_some] <;> rfl) | (simp [*, errW_none, errW_some] <;> rfl), by exact zB2 HB.1 GE271.1 GE272.1⟩
    ·replace c8 := Bool.eq_false_iff.mpr c8; subst c8; replace H := zy0 H; obtain rfl := Option.some.inj H
     go_enter Tryz.func8, Tryz.ntmps8
     go_wp2_with (first | ((with_reducible refine gate_dst (N := 2) rfl ?_); refine zbx 2 #[.int .i64 a0_0, .int .i64 a0_1, .slice A0_2 l0_2.length c0_2, .slice A0_3 l0_3.length c0_3] 29 ?_; intro gb271 hg w18 hbox hb; have _ := aM (below_step (zB HB.1) hb); have _ := aM (hbox); have _ := aM (zge hg (zB HB.1)); have _ := aM (zge hg (zB HB.1)); clear HB; rename_i HB BK271 GW271 GE271; clear hb hbox hg) | ((with_reducible refine gate_dst (N := 3) rfl ?_); refine zbx 3 #[.int .i64 a1_0, .int .i64 a1_1, .slice A1_2 l1_2.length c1_2, .slice A1_3 l1_3.length c1_3] 29 ?_; intro gb272 hg w19 hbox hb; have _ := aM (blk_below (zK BK271.1) hb); have _ := aM (below_step (zB1 HB.1 GE271.1) hb); have _ := aM (hbox); have _ := aM (zge hg (zB1 HB.1 GE271.1)); have _ := aM (zge hg (zB1 HB.1 GE271.1)); have _ := aM (znl hg (zK BK271.1)); have _ := aM (zng hg (zK BK271.1)); clear BK271 HB; rename_i BK271 HB BK272 GW272 GE272 NB271_272 NB272_271; clear hb hbox hg; have hnb20 := NB271_272.1; have hnc20 := NB272_271.1; obtain ⟨hcz21_0, hcz21_1, hcz21_2, hcz21_3, hfz21_0, hfz21_1, hfz21_2, hfz21_3⟩ := zc4f BK271.1; obtain ⟨hcz22_0, hcz22_1, hcz22_2, hcz22_3, hfz22_0, hfz22_1, hfz22_2, hfz22_3⟩ := zc4f BK272.1) | ((with_reducible refine gate_callee (f := 21) rfl ?_); refine zgL (some 19) Tryz.func21 #[.slice A0_2 l0_2.length c0_2, .slice A1_2 l1_2.length c1_2] ?_; (with_reducible refine (laws_eqFileS.calls k _ _ l0_2 _ _ l1_2 true _ ?side1 ?side2 ?side3 ?side4 A5.1).mono ?_); (case side1 => exact zC (Kd.C_below HR0_2.1 HB.1)); (case side2 => exact HC0_2.1); (case side3 => exact zC (Kd.C_below HR1_2.1 HB.1)); (case side4 => exact HC1_2.1); rintro e w23 ⟨rfl, hb⟩; refine ⟨_, rfl, ?_⟩; have _ := aM (blk_below (zK BK271.1) hb); have _ := aM (blk_below (zK BK272.1) hb); have _ := aM (below_step (zB2 HB.1 GE271.1 GE272.1) hb); clear BK271 BK272 HB; rename_i BK271 BK272 HB; (try clear hb); (try clear hb2); (try clear hk); (try clear hi); obtain ⟨hcz24_0, hcz24_1, hcz24_2, hcz24_3, hfz24_0, hfz24_1, hfz24_2, hfz24_3⟩ := zc4f BK271.1; obtain ⟨hcz25_0, hcz25_1, hcz25_2, hcz25_3, hfz25_0, hfz25_1, hfz25_2, hfz25_3⟩ := zc4f BK272.1) | ((with_reducible refine gate_callee (f := 22) rfl ?_); refine zgL (some 25) Tryz.func22 #[.slice A0_3 l0_3.length c0_3, .slice A1_3 l1_3.length c1_3] ?_; (with_reducible refine (laws_eqDepS.calls k _ _ l0_3 _ _ l1_3 false _ ?side1 ?side2 ?side3 ?side4 A7.1).mono ?_); (case side1 => exact zC (Kd.C_below HR0_3.1 HB.1)); (case side2 => exact HC0_3.1); (case side3 => exact zC (Kd.C_below HR1_3.1 HB.1)); (case side4 => exact HC1_3.1); rintro e w26 ⟨rfl, hb⟩; refine ⟨_, rfl, ?_⟩; have _ := aM (blk_below (zK BK271.1) hb); have _ := aM (blk_below (zK BK272.1) hb); have _ := aM (below_step (zB2 HB.1 GE271.1 GE272.1) hb); clear BK271 BK272 HB; rename_i BK271 BK272 HB; (try clear hb); (try clear hb2); (try clear hk); (try clear hi)))
     go_ret
     exact ⟨by first | rfl | (simp [errW_none, errW_some] <;> rfl) | (simp [*, errW_none, errW_some] <;> rfl), by exact zB2 HB.1 GE271.1 GE272.1⟩
   ·replace c6 := Bool.eq_false_iff.mpr c6; subst c6; replace H := zy0 H; obtain rfl := Option.some.inj H
    go_enter Tryz.func8, Tryz.ntmps8
    go_wp2_with (first | ((with_reducible refine gate_dst (N := 2) rfl ?_); refine zbx 2 #[.int .i64 a0_0, .int .i64 a0_1, .slice A0_2 l0_2.length c0_2, .slice A0_3 l0_3.length c0_3] 29 ?_; intro gb271 hg w27 hbox hb; have _ := aM (below_step (zB HB.1) hb); have _ := aM (hbox); have _ := aM (zge hg (zB HB.1)); have _ := aM (zge hg (zB HB.1)); clear HB; rename_i HB BK271 GW271 GE271; clear hb hbox hg) | ((with_reducible refine gate_dst (N := 3) rfl ?_); refine zbx 3 #[.int .i64 a1_0, .int .i64 a1_1, .slice A1_2 l1_2.length c1_2, .slice A1_3 l1_3.length c1_3] 29 ?_; intro gb272 hg w28 hbox hb; have _ := aM (blk_below (zK BK271.1) hb); have _ := aM (below_step (zB1 HB.1 GE271.1) hb); have _ := aM (hbox); have _ := aM (zge hg (zB1 HB.1 GE271.1)); have _ := aM (zge hg (zB1 HB.1 GE271.1)); have _ := aM (znl hg (zK BK271.1)); have _ := aM (zng hg (zK BK271.1)); clear BK271 HB; rename_i BK271 HB BK272 GW272 GE272 NB271_272 NB272_271; clear hb hbox hg; have hnb29 := NB271_272.1; have hnc29 := NB272_271.1; obtain ⟨hcz30_0, hcz30_1, hcz30_2, hcz30_3, hfz30_0, hfz30_1, hfz30_2, hfz30_3⟩ := zc4f BK271.1; obtain ⟨hcz31_0, hcz31_1, hcz31_2, hcz31_3, hfz31_0, hfz31_1, hfz31_2, hfz31_3⟩ := zc4f BK272.1) | ((with_reducible refine gate_callee (f := 21) rfl ?_); refine zgL (some 19) Tryz.func21 #[.slice A0_2 l0_2.length c0_2, .slice A1_2 l1_2.length c1_2] ?_; (with_reducible refine (laws_eqFileS.calls k _ _ l0_2 _ _ l1_2 false _ ?side1 ?side2 ?side3 ?side4 A5.1).mono ?_); (case side1 => exact zC (Kd.C_below HR0_2.1 HB.1)); (case side2 => exact HC0_2.1); (case side3 => exact zC (Kd.C_below HR1_2.1 HB.1)); (case side4 => exact HC1_2.1); rintro e w32 ⟨rfl, hb⟩; refine ⟨_, rfl, ?_⟩; have _ := aM (blk_below (zK BK271.1) hb); have _ := aM (blk_below (zK BK272.1) hb); have _ := aM (below_step (zB2 HB.1 GE271.1 GE272.1) hb); clear BK271 BK272 HB; rename_i BK271 BK272 HB; (try clear hb); (try clear hb2); (try clear hk); (try clear hi)))
    go_ret
    exact ⟨by first | rfl | (simp [errW_none, errW_some] <;> rfl) | (simp [*, errW_none, errW_some] <;> rfl), by exact zB2 HB.1 GE271.1 GE272.1⟩
  ·rw [if_neg c4] at H; have c4b0 : (a0_1 == a1_1) = false := beq_eq_false_iff_ne.mpr c4; have c4b1 : (a0_1 != a1_1) = true := bne_iff_ne.mpr c4; obtain rfl := Option.some.inj H
   go_enter Tryz.func8, Tryz.ntmps8
   go_wp2_with (first | ((with_reducible refine gate_dst (N := 2) rfl ?_); refine zbx 2 #[.int .i64 a0_0, .int .i64 a0_1, .slice A0_2 l0_2.length c0_2, .slice A0_3 l0_3.length c0_3] 29 ?_; intro gb271 hg w33 hbox hb; have _ := aM (below_step (zB HB.1) hb); have _ := aM (hbox); have _ := aM (zge hg (zB HB.1)); have _ := aM (zge hg (zB HB.1)); clear HB; rename_i HB BK271 GW271 GE271; clear hb hbox hg) | ((with_reducible refine gate_dst (N := 3) rfl ?_); refine zbx 3 #[.int .i64 a1_0, .int .i64 a1_1, .slice A1_2 l1_2.length c1_2, .slice A1_3 l1_3.length c1_3] 29 ?_; intro gb272 hg w34 hbox hb; have _ := aM (blk_below (zK BK271.1) hb); have _ := aM (below_step (zB1 HB.1 GE271.1) hb); have _ := aM (hbox); have _ := aM (zge hg (zB1 HB.1 GE271.1)); have _ := aM (zge hg (zB1 HB.1 GE271.1)); have _ := aM (znl hg (zK BK271.1)); have _ := aM (zng hg (zK BK271.1)); clear BK271 HB; rename_i BK271 HB BK272 GW272 GE272 NB271_272 NB272_271; clear hb hbox hg; have hnb35 := NB271_272.1; have hnc35 := NB272_271.1; obtain ⟨hcz36_0, hcz36_1, hcz36_2, hcz36_3, hfz36_0, hfz36_1, hfz36_2, hfz36_3⟩ := zc4f BK271.1; obtain ⟨hcz37_0, hcz37_1, hcz37_2, hcz37_3, hfz37_0, hfz37_1, hfz37_2, hfz37_3⟩ := zc4f BK272.1))
   go_ret
   exact ⟨by first | rfl | (simp [errW_none, errW_some] <;> rfl) | (simp [*, errW_none, errW_some] <;> rfl), by exact zB2 HB.1 GE271.1 GE272.1⟩
 ·rw [if_neg c3] at H; have c3b0 : (a0_0 == a1_0) = false := beq_eq_false_iff_ne.mpr c3; have c3b1 : (a0_0 != a1_0) = true := bne_iff_ne.mpr c3; obtain rfl := Option.some.inj H
  go_enter Tryz.func8, Tryz.ntmps8
  go_wp2_with (first | ((with_reducible refine gate_dst (N := 2) rfl ?_); refine zbx 2 #[.int .i64 a0_0, .int .i64 a0_1, .slice A0_2 l0_2.length c0_2, .slice A0_3 l0_3.length c0_3] 29 ?_; intro gb271 hg w38 hbox hb; have _ := aM (below_step (zB HB.1) hb); have _ := aM (hbox); have _ := aM (zge hg (zB HB.1)); have _ := aM (zge hg (zB HB.1)); clear HB; rename_i HB BK271 GW271 GE271; clear hb hbox hg) | ((with_reducible refine gate_dst (N := 3) rfl ?_); refine zbx 3 #[.int .i64 a1_0, .int .i64 a1_1, .slice A1_2 l1_2.length c1_2, .slice A1_3 l1_3.length c1_3] 29 ?_; intro gb272 hg w39 hbox hb; have _ := aM (blk_below (zK BK271.1) hb); have _ := aM (below_step (zB1 HB.1 GE271.1) hb); have _ := aM (hbox); have _ := aM (zge hg (zB1 HB.1 GE271.1)); have _ := aM (zge hg (zB1 HB.1 GE271.1)); have _ := aM (znl hg (zK BK271.1)); have _ := aM (zng hg (zK BK271.1)); clear BK271 HB; rename_i BK271 HB BK272 GW272 GE272 NB271_272 NB272_271; clear hb hbox hg; have hnb40 := NB271_272.1; have hnc40 := NB272_271.1; obtain ⟨hcz41_0, hcz41_1, hcz41_2, hcz41_3, hfz41_0, hfz41_1, hfz41_2, hfz41_3⟩ := zc4f BK271.1; obtain ⟨hcz42_0, hcz42_1, hcz42_2, hcz42_3, hfz42_0, hfz42_1, hfz42_2, hfz42_3⟩ := zc4f BK272.1))
  go_ret
  exact ⟨by first | rfl | (simp [errW_none, errW_some] <;> rfl) | (simp [*, errW_none, errW_some] <;> rfl), by exact zB2 HB.1 GE271.1 GE272.1⟩

/-! ### laws_eqMeta: function 47 -/
def laws_eqMeta.f (a0_0 : Int) (a0_1 : Int) (a0_2 : Int) (a1_0 : Int) (a1_1 : Int) (a1_2 : Int) : Option (Bool) := if a0_0 = a1_0 then (if a0_1 = a1_1 then (if a0_2 = a1_2 then (some true) else (some false)) else (some false)) else (some false)
set_option maxHeartbeats 8000000 in
set_option maxRecDepth 100000 in
theorem laws_eqMeta.calls (a0_0 : Int) (a0_1 : Int) (a0_2 : Int) (a1_0 : Int) (a1_1 : Int) (a1_2 : Int) (r : Bool) (w : World) (h : laws_eqMeta.f a0_0 a0_1 a0_2 a1_0 a1_1 a1_2 = some r) :
  Calls Tryz.prog 47 #[.agg #[.int .i64 a0_0, .int .i64 a0_1, .int .i64 a0_2], .agg #[.int .i64 a1_0, .int .i64 a1_1, .int .i64 a1_2]] w fun e w' => e = .returned (.bool r) ∧ Below w.heap.size w w' := by
 have hu47 := Tryz.underlying47; have HB := aM (Below.refl w.heap.size w); have H : (if a0_0 = a1_0 then (if a0_1 = a1_1 then (if a0_2 = a1_2 then (some true) else (some false)) else (some false)) else (some false)) = some r := h; clear h
 by_cases c3 : a0_0 = a1_0
 ·rw [if_pos c3] at H; have c3b0 : (a0_0 == a1_0) = true := beq_iff_eq.mpr c3; have c3b1 : (a0_0 != a1_0) = false := bne_eq_false_iff_eq.mpr c3; clear c3
  by_cases c4 : a0_1 = a1_1
  ·rw [if_pos c4] at H; have c4b0 : (a0_1 == a1_1) = true := beq_iff_eq.mpr c4; have c4b1 : (a0_1 != a1_1) = false := bne_eq_false_iff_eq.mpr c4; clear c4
   by_cases c5 : a0_2 = a1_2
   ·rw [if_pos c5] at H; have c5b0 : (a0_2 == a1_2) = true := beq_iff_eq.mpr c5; have c5b1 : (a0_2 != a1_2) = false := bne_eq_false_iff_eq.mpr c5; clear c5; obtain rfl := Option.some.inj H
    go_enter Tryz.func47, Tryz.ntmps47
    go_wp2_with (first | ((with_reducible refine gate_dst (N := 2) rfl ?_); refine zbx 2 #[.int .i64 a0_0, .int .i64 a0_1, .int .i64 a0_2] 47 ?_; intro gb275 hg w6 hbox hb; have _ := aM (below_step (zB HB.1) hb); have _ := aM (hbox); have _ := aM (zge hg (zB HB.1)); have _ := aM (zge hg (zB HB.1)); clear HB; rename_i HB BK275 GW275 GE275; clear hb hbox hg) | ((with_reducible refine gate_dst (N := 3) rfl ?_); refine zbx 3 #[.int .i64 a1_0, .int .i64 a1_1, .int .i64 a1_2] 47 ?_; intro gb276 hg w7 hbox hb; have _ := aM (blk_below (zK BK275.1) hb); have _ := aM (below_step (zB1 HB.1 GE275.1) hb); have _ := aM (hbox); have _ := aM (zge hg (zB1 HB.1 GE275.1)); have _ := aM (zge hg (zB1 HB.1 GE275.1)); have _ := aM (znl hg (zK BK275.1)); have _ := aM (zng hg (zK BK275.1)); clear BK275 HB; rename_i BK275 HB BK276 GW276 GE276 NB275_276 NB276_275; clear hb hbox hg; have hnb8 := NB275_276.1; have hnc8 := NB276_275.1; obtain ⟨hcz9_0, hcz9_1, hcz9_2, hfz9_0, hfz9_1, hfz9_2⟩ := zc3f BK275.1; obtain ⟨hcz10_0, hcz10_1, hcz10_2, hfz10_0, hfz10_1, hfz10_2⟩ := zc3f BK276.1))
    go_ret
    exact ⟨by first | rfl | (simp [errW_none, errW_some] <;> rfl) | (simp [*, errW_none, errW_some] <;> rfl), by exact zB2 HB.1 GE275.1 GE276.1⟩
   ·rw [if_neg c5] at H; have c5b0 : (a0_2 == a1_2) = false := beq_eq_false_iff_ne.mpr c5; have c5b1 : (a0_2 != a1_2) = true := bne_iff_ne.mpr c5; obtain rfl := Option.some.inj H
    go_enter Tryz.func47, Tryz.ntmps47
    go_wp2_with (first | ((with_reducible refine gate_dst (N := 2) rfl ?_); refine zbx 2 #[.int .i64 a0_0, .int .i64 a0_1, .int .i64 a0_2] 47 ?_; intro gb275 hg w11 hbox hb; have _ := aM (below_step (zB HB.1) hb); have _ := aM (hbox); have _ := aM (zge hg (zB HB.1)); have _ := aM (zge hg (zB HB.1)); clear HB; rename_i HB BK275 GW275 GE275; clear hb hbox hg) | ((with_reducible refine gate_dst (N := 3) rfl ?_); refine zbx 3 #[.int .i64 a1_0, .int .i64 a1_1, .int .i64 a1_2] 47 ?_; intro gb276 hg w12 hbox hb; have _ := aM (blk_below (zK BK275.1) hb); have _ := aM (below_step (zB1 HB.1 GE275.1) hb); have _ := aM (hbox); have _ := aM (zge hg (zB1 HB.1 GE275.1)); have _ := aM (zge hg (zB1 HB.1 GE275.1)); have _ := aM (znl hg (zK BK275.1)); have _ := aM (zng hg (zK BK275.1)); clear BK275 HB; rename_i BK275 HB BK276 GW276 GE276 NB275_276 NB276_275; clear hb hbox hg; have hnb13 := NB275_276.1; have hnc13 := NB276_275.1; obtain ⟨hcz14_0, hcz14_1, hcz14_2, hfz14_0, hfz14_1, hfz14_2⟩ := zc3f BK275.1; obtain ⟨hcz15_0, hcz15_1, hcz15_2, hfz15_0, hfz15_1, hfz15_2⟩ := zc3f BK276.1))
    go_ret
    exact ⟨by first | rfl | (simp [errW_none, errW_some] <;> rfl) | (simp [*, errW_none, errW_some] <;> rfl), by exact zB2 HB.1 GE275.1 GE276.1⟩
  ·rw [if_neg c4] at H; have c4b0 : (a0_1 == a1_1) = false := beq_eq_false_iff_ne.mpr c4; have c4b1 : (a0_1 != a1_1) = true := bne_iff_ne.mpr c4; obtain rfl := Option.some.inj H
   go_enter Tryz.func47, Tryz.ntmps47
   go_wp2_with (first | ((with_reducible refine gate_dst (N := 2) rfl ?_); refine zbx 2 #[.int .i64 a0_0, .int .i64 a0_1, .int .i64 a0_2] 47 ?_; intro gb275 hg w16 hbox hb; have _ := aM (below_step (zB HB.1) hb); have _ := aM (hbox); have _ := aM (zge hg (zB HB.1)); have _ := aM (zge hg (zB HB.1)); clear HB; rename_i HB BK275 GW275 GE275; clear hb hbox hg) | ((with_reducible refine gate_dst (N := 3) rfl ?_); refine zbx 3 #[.int .i64 a1_0, .int .i64 a1_1, .int .i64 a1_2] 47 ?_; intro gb276 hg w17 hbox hb; have _ := aM (blk_below (zK BK275.1) hb); have _ := aM (below_step (zB1 HB.1 GE275.1) hb); have _ := aM (hbox); have _ := aM (zge hg (zB1 HB.1 GE275.1)); have _ := aM (zge hg (zB1 HB.1 GE275.1)); have _ := aM (znl hg (zK BK275.1)); have _ := aM (zng hg (zK BK275.1)); clear BK275 HB; rename_i BK275 HB BK276 GW276 GE276 NB275_276 NB276_275; clear hb hbox hg; have hnb18 := NB275_276.1; have hnc18 := NB276_275.1; obtain ⟨hcz19_0, hcz19_1, hcz19_2, hfz19_0, hfz19_1, hfz19_2⟩ := zc3f BK275.1; obtain ⟨hcz20_0, hcz20_1, hcz20_2, hfz20_0, hfz20_1, hfz20_2⟩ := zc3f BK276.1))
   go_ret
   exact ⟨by first | rfl | (simp [errW_none, errW_some] <;> rfl) | (simp [*, errW_none, errW_some] <;> rfl), by exact zB2 HB.1 GE275.1 GE276.1⟩
 ·rw [if_neg c3] at H; have c3b0 : (a0_0 == a1_0) = false := beq_eq_false_iff_ne.mpr c3; have c3b1 : (a0_0 != a1_0) = true := bne_iff_ne.mpr c3; obtain rfl := Option.some.inj H
  go_enter Tryz.func47, Tryz.ntmps47
  go_wp2_with (first | ((with_reducible refine gate_dst (N := 2) rfl ?_); refine zbx 2 #[.int .i64 a0_0, .int .i64 a0_1, .int .i64 a0_2] 47 ?_; intro gb275 hg w21 hbox hb; have _ := aM (below_step (zB HB.1) hb); have _ := aM (hbox); have _ := aM (zge hg (zB HB.1)); have _ := aM (zge hg (zB HB.1)); clear HB; rename_i HB BK275 GW275 GE275; clear hb hbox hg) | ((with_reducible refine gate_dst (N := 3) rfl ?_); refine zbx 3 #[.int .i64 a1_0, .int .i64 a1_1, .int .i64 a1_2] 47 ?_; intro gb276 hg w22 hbox hb; have _ := aM (blk_below (zK BK275.1) hb); have _ := aM (below_step (zB1 HB.1 GE275.1) hb); have _ := aM (hbox); have _ := aM (zge hg (zB1 HB.1 GE275.1)); have _ := aM (zge hg (zB1 HB.1 GE275.1)); have _ := aM (znl hg (zK BK275.1)); have _ := aM (zng hg (zK BK275.1)); clear BK275 HB; rename_i BK275 HB BK276 GW276 GE276 NB275_276 NB276_275; clear hb hbox hg; have hnb23 := NB275_276.1; have hnc23 := NB276_275.1; obtain ⟨hcz24_0, hcz24_1, hcz24_2, hfz24_0, hfz24_1, hfz24_2⟩ := zc3f BK275.1; obtain ⟨hcz25_0, hcz25_1, hcz25_2, hfz25_0, hfz25_1, hfz25_2⟩ := zc3f BK276.1))
  go_ret
  exact ⟨by first | rfl | (simp [errW_none, errW_some] <;> rfl) | (simp [*, errW_none, errW_some] <;> rfl), by exact zB2 HB.1 GE275.1 GE276.1⟩

end Go.Proofs.YtkjgnnjcjkphbaaGreatDoor.PFnExactIndexHas
