/- The law FnExactIndexText: at every input its call returns true and leaves its arguments as they were: the row, out of the contract of its function and of what was proved of the numbers and lists. No further condition. -/
import Derived.Test.YtlmgnnpmcdeclaaDoorRows
import Derived.Test.YtlmgnnpmcdeclaaDoorPureFnExactIndexText
import Derived.WalkKit
import Derived.Test.YtlmgnnpmcdeclaaDoorTie
import Derived.Test.YtlmgnnpmcdeclaaDoorCards
import Derived.LaidMore
import Derived.Lay
import Derived.SevenTiedAt
import Derived.Stop.Joined
import Derived.Lib.LaidTab
import Derived.Stop.LaidErr
import Derived.ProofKit
import Derived.OpenShut
import Derived.ShutString
import Derived.ChangeOld
import Derived.Below
import Derived.Carry
import Derived.SizedLaws
import Derived.Deep.Slices
import Derived.Deep.Strs
import Derived.ChangeSame
import Derived.Lib.SmallJoins
namespace Go.Proofs.YtlmgnnpmcdeclaaDoor.fnExactIndexText
open Go.ChangeShapes Go.WideShapes Go.ChangeAt Go.RowKit Go.Deep Go.Proofs.YtlmgnnpmcdeclaaDoor.PFnExactIndexText Go.Proofs.YtlmgnnpmcdeclaaDoorW.PrintWords
open Go.ChangeMaps (open_string shut_string)
set_option linter.unusedVariables false
theorem own : ownKnob Tryd.prog.godebug = none := by kernel_rfl
theorem laidOut : laidOutB Tryd.prog = true := by kernel_rfl
section
variable {H : Type} {enc : TypeId × Value → H} {P : Program} {w : World}
/-- A slice that is read, as a row of elements of a kind. -/
theorem op_slice {α : Type} (d : Kd α) {t e : TypeId} (ht : P.underlying t = some (.slice e)) (hC : P.cellsOf e = d.sz)
    (hE : ∀ fuel cs x, DataW.trod enc P w 0 (fun _ => true) true fuel e cs = some x → ∃ y, d.K w y cs) {fuel : Nat} {cs : List Value} {x : DataW H × List MemPlace} (h : DataW.trod enc P w 0 (fun _ => true) true fuel t cs = some x) :
    ∃ (A : Option Addr) (c : Nat) (l : List α), cs = [.slice A l.length c] ∧ l.length ≤ c ∧ Kd.C d w A l.length l := by
  rcases Go.Deep.open_slice ht h with ⟨rfl, _⟩ | ⟨a, len, cap, m, n, D, Pl, rfl, _, hl, hm, hmm, _, hi⟩
  · exact ⟨none, 0, [], rfl, Nat.le_refl _, rfl, by simp, fun h => absurd h (Nat.lt_irrefl 0)⟩
  · have key : ∀ k, k ≤ len → ∃ l : List α, l.length = k ∧ ∀ j p, l[j]? = some p → ∃ c, c.length = d.sz ∧ d.K w p c ∧ ∀ i u, c[i]? = some u → w.cell? (a.add (j * d.sz + i)) = some u := by
      intro k
      induction k with
      | zero => intro _; exact ⟨[], rfl, fun j p hj => by simp at hj⟩
      | succ k ih =>
        intro hk
        obtain ⟨l, hl', hf⟩ := ih (by omega)
        obtain ⟨cs', hc, ht'⟩ := hi k (by rw [hmm, if_pos rfl]; omega)
        obtain ⟨y, hy⟩ := hE _ _ _ ht'
        rw [hC] at hc
        obtain ⟨_, hcl, hat⟩ := World.cells?_some hc
        refine ⟨l ++ [y], by simp [hl'], fun j p hj => ?_⟩
        by_cases hlt : j < l.length
        · rw [List.getElem?_append_left hlt] at hj
          exact hf j p hj
        · rw [List.getElem?_append_right (by omega)] at hj
          have hj0 : j - l.length = 0 := by
            have := (List.getElem?_eq_some_iff.1 hj).1
            simp at this; omega
          rw [hj0] at hj
          obtain rfl : y = p := by simpa using hj
          obtain rfl : j = k := by omega
          refine ⟨cs', d.K_len hy, hy, fun i u hu => ?_⟩
          have hil : i < cs'.length := (List.getElem?_eq_some_iff.1 hu).1
          rw [← Go.Deep.add_add, hat i (by rw [d.K_len hy] at hil; exact hil), hu]
    obtain ⟨l, rfl, hf⟩ := key len (Nat.le_refl _)
    exact ⟨some a, cap, l, rfl, hl, rfl, by simp only [maxLen] at hm; omega, fun _ => ⟨a, rfl, hf⟩⟩
theorem op_struct2 {t : TypeId} {f0 f1 : Field} (ht : P.underlying t = some (.struct #[f0, f1])) (hl : (decide (P.cellsOf t = P.cellsOf f0.type + P.cellsOf f1.type) && (f0.offset == 0 && f1.offset == P.cellsOf f0.type)) = true) {fuel : Nat} {cs : List Value} {x : DataW H × List MemPlace} (h : DataW.trod enc P w 0 (fun _ => true) true fuel t cs = some x) :
    ∃ n c0 y0 c1 y1, cs = c0 ++ c1 ∧ DataW.trod enc P w 0 (fun _ => true) true n f0.type c0 = some y0 ∧ DataW.trod enc P w 0 (fun _ => true) true n f1.type c1 = some y1 := by
  simp only [Bool.and_eq_true, decide_eq_true_eq, beq_iff_eq] at hl
  obtain ⟨hl, e0, e1⟩ := hl
  obtain ⟨y0, y1, n, _, hlen, h0, h1⟩ := trod_struct2 ht h
  refine ⟨n, _, y0, _, y1, ?_, h0, h1⟩
  rw [e0, e1, List.drop_zero, List.take_of_length_le (l := cs.drop _) (by rw [List.length_drop]; omega), List.take_append_drop]
theorem op_struct3 {t : TypeId} {f0 f1 f2 : Field} (ht : P.underlying t = some (.struct #[f0, f1, f2])) (hl : (decide (P.cellsOf t = P.cellsOf f0.type + P.cellsOf f1.type + P.cellsOf f2.type) && (f0.offset == 0 && (f1.offset == P.cellsOf f0.type && f2.offset == P.cellsOf f0.type + P.cellsOf f1.type))) = true) {fuel : Nat} {cs : List Value} {x : DataW H × List MemPlace} (h : DataW.trod enc P w 0 (fun _ => true) true fuel t cs = some x) :
    ∃ n c0 y0 c1 y1 c2 y2, cs = c0 ++ (c1 ++ c2) ∧ DataW.trod enc P w 0 (fun _ => true) true n f0.type c0 = some y0 ∧ DataW.trod enc P w 0 (fun _ => true) true n f1.type c1 = some y1 ∧ DataW.trod enc P w 0 (fun _ => true) true n f2.type c2 = some y2 := by
  simp only [Bool.and_eq_true, decide_eq_true_eq, beq_iff_eq] at hl
  obtain ⟨hl, e0, e1, e2⟩ := hl
  obtain ⟨y0, y1, y2, n, _, hlen, h0, h1, h2⟩ := trod_struct3 ht h
  refine ⟨n, _, y0, _, y1, _, y2, ?_, h0, h1, h2⟩
  rw [e0, e1, e2, List.drop_zero, List.take_of_length_le (l := cs.drop (_ + _)) (by rw [List.length_drop]; omega), ← List.drop_drop, List.take_append_drop, List.take_append_drop]
theorem op_struct4 {t : TypeId} {f0 f1 f2 f3 : Field} (ht : P.underlying t = some (.struct #[f0, f1, f2, f3])) (hl : (decide (P.cellsOf t = P.cellsOf f0.type + P.cellsOf f1.type + P.cellsOf f2.type + P.cellsOf f3.type) && (f0.offset == 0 && (f1.offset == P.cellsOf f0.type && (f2.offset == P.cellsOf f0.type + P.cellsOf f1.type && f3.offset == P.cellsOf f0.type + P.cellsOf f1.type + P.cellsOf f2.type)))) = true) {fuel : Nat} {cs : List Value} {x : DataW H × List MemPlace} (h : DataW.trod enc P w 0 (fun _ => true) true fuel t cs = some x) :
    ∃ n c0 y0 c1 y1 c2 y2 c3 y3, cs = c0 ++ (c1 ++ (c2 ++ c3)) ∧ DataW.trod enc P w 0 (fun _ => true) true n f0.type c0 = some y0 ∧ DataW.trod enc P w 0 (fun _ => true) true n f1.type c1 = some y1 ∧ DataW.trod enc P w 0 (fun _ => true) true n f2.type c2 = some y2 ∧ DataW.trod enc P w 0 (fun _ => true) true n f3.type c3 = some y3 := by
  simp only [Bool.and_eq_true, decide_eq_true_eq, beq_iff_eq] at hl
  obtain ⟨hl, e0, e1, e2, e3⟩ := hl
  obtain ⟨y0, y1, y2, y3, n, _, hlen, h0, h1, h2, h3⟩ := Go.Joins.trod_struct4 ht h
  refine ⟨n, _, y0, _, y1, _, y2, _, y3, ?_, h0, h1, h2, h3⟩
  rw [e0, e1, e2, e3, List.drop_zero, List.take_of_length_le (l := cs.drop (_ + _ + _)) (by rw [List.length_drop]; omega)]
  simp only [← List.drop_drop, List.take_append_drop]
end
theorem op3 {H : Type} {enc : TypeId × Value → H} {W : World} {fuel : Nat} {cs : List Value} {x : DataW H × List MemPlace} (h : DataW.trod enc Tryd.prog W 0 (fun _ => true) true fuel 3 cs = some x) : ∃ (a0 : Int), cs = [.int .i64 a0] := by
  obtain ⟨a, h, _⟩ := DataW.trod_int Tryd.underlying3 h
  exact ⟨a, h⟩
theorem op93 {H : Type} {enc : TypeId × Value → H} {W : World} {fuel : Nat} {cs : List Value} {x : DataW H × List MemPlace} (h : DataW.trod enc Tryd.prog W 0 (fun _ => true) true fuel 93 cs = some x) : ∃ (a0 : Int) (a1 : Int) (a2 : Int), cs = [.int .i64 a0, .int .i64 a1, .int .i64 a2] := by
  obtain ⟨n, s0, y0, s1, y1, s2, y2, rfl, h0, h1, h2⟩ := op_struct3 Tryd.underlying93 (by kernel_rfl) h
  obtain ⟨a0, rfl⟩ := op3 h0
  obtain ⟨a1, rfl⟩ := op3 h1
  obtain ⟨a2, rfl⟩ := op3 h2
  exact ⟨a0, a1, a2, rfl⟩
theorem op31 {H : Type} {enc : TypeId × Value → H} {W : World} {fuel : Nat} {cs : List Value} {x : DataW H × List MemPlace} (h : DataW.trod enc Tryd.prog W 0 (fun _ => true) true fuel 31 cs = some x) : ∃ (A0 : Option Addr) (c0 : Nat) (l0 : List (S93)), cs = [.slice A0 l0.length c0] ∧ l0.length ≤ c0 ∧ Kd.C k93 W A0 l0.length l0 := by
  refine op_slice k93 Tryd.underlying31 (by kernel_rfl) (fun fuel cs x he => ?_) h
  · obtain ⟨a0, a1, a2, rfl⟩ := op93 he
    exact ⟨⟨a0, a1, a2⟩, k93_mk W ⟨a0, a1, a2⟩⟩
theorem op33 {H : Type} {enc : TypeId × Value → H} {W : World} {fuel : Nat} {cs : List Value} {x : DataW H × List MemPlace} (h : DataW.trod enc Tryd.prog W 0 (fun _ => true) true fuel 33 cs = some x) : ∃ (a0 : Int) (a1 : Int) (A2 : Option Addr) (c2 : Nat) (l2 : List (S93)), cs = [.int .i64 a0, .int .i64 a1, .slice A2 l2.length c2] ∧ l2.length ≤ c2 ∧ Kd.C k93 W A2 l2.length l2 := by
  obtain ⟨n, s0, y0, s1, y1, s2, y2, rfl, h0, h1, h2⟩ := op_struct3 Tryd.underlying33 (by kernel_rfl) h
  obtain ⟨a0, rfl⟩ := op3 h0
  obtain ⟨a1, rfl⟩ := op3 h1
  obtain ⟨A2, c2, l2, rfl, f2_0, f2_1⟩ := op31 h2
  exact ⟨a0, a1, A2, c2, l2, rfl, f2_0, f2_1⟩
theorem laid_w {W : World} (h : laidMetH Tryd.prog Rows.fnExactIndexTextRow.laid W) : LaidW W := by
  rw [MakeChecks.laidMetH_plain _ _ _ (by kernel_rfl)] at h
  have h2 : laidMet Tryd.prog _ W := h.tail.tail
  exact ⟨Lib.tabIs_of_head (g := 0) (t := 119) (n := 20) (by kernel_rfl) (by kernel_rfl) Tryd.underlying119 Tryd.underlying113 (by kernel_rfl) (by kernel_rfl) h2⟩
set_option maxRecDepth 100000 in
theorem lifted (os : Os) (started : os.Started) (H : Type) (enc : TypeId × Value → H) :
    ReturnsInHanded {} Tryd.checked os 4 .any (fun w args => (Rows.fnExactIndexTextSpec.pre enc Tryd.prog Tryd.f4 Rows.fnExactIndexTextRow.domain false w args ∧ laidMetH Tryd.prog Rows.fnExactIndexTextRow.laid w) ∧ sizedMet enc Tryd.prog Tryd.f4 (OpenSpec.ofChange Rows.fnExactIndexTextSpec) false w args) (Rows.fnExactIndexTextSpec.post enc Tryd.prog Tryd.f4 false true false false) := by
  refine returnsInHanded_of_change_and (C := Tryd.checked) (X := fun w _ => laidMetH Tryd.prog Rows.fnExactIndexTextRow.laid w) (fun _ _ _ hh h => h.of_heap hh) own started (by kernel_rfl) Tryd.func4
    (ChangeSpec.witness_shaped (enc := enc) (C := Tryd.checked) (os := os) (X := fun w _ => laidMetH Tryd.prog Rows.fnExactIndexTextRow.laid w) false (World.laidAll Tryd.prog os Rows.fnExactIndexTextRow.laid) #[.agg #[.int .i64 0, .int .i64 0, .slice none 0 0]] 16 (World.laidAll_os _ _ _)
      (World.shaped_of_ZipB (by kernel_rfl) (by kernel_rfl)) (by kernel_rfl) (by kernel_rfl) (by kernel_rfl)
      (by rw [MakeChecks.laidMetH_plain _ _ _ (by kernel_rfl)]; exact laidMet_laidAll _ (by kernel_rfl) (by kernel_rfl))) ?_
  intro W base args ds gs before hval0 hW hcnd hsz0 hL _
  have hsz : (DataW.weightsEach Tryd.prog (Tryd.f4.params.toList ++ Rows.fnExactIndexTextSpec.plain.varTypes Tryd.prog) (ds ++ gs)).all (· ≤ reachBytes) = true := hsz0
  have hval : ∀ (j : Nat) t v, Tryd.f4.params[j]? = some t → args[j]? = some v → Value.okWide Tryd.prog W .any base t v := hval0
  have hW' := hW
  obtain ⟨p, q, hA0, hV, rfl, hfz, hnd⟩ := hW
  have hA : DataW.TrodAll enc Tryd.prog W 0 (fun _ => true) true Tryd.f4.params.toList args.toList ds p := hA0
  rw [Tryd.params4] at hA hval hsz
  obtain ⟨v0, vs0, d0, ds0, p0, q0, hargs, rfl, rfl, h0, r0⟩ := trodAll_cons hA
  obtain ⟨rfl, rfl, rfl⟩ := trodAll_nil r0
  obtain rfl : args = #[v0] := by cases args; simp_all
  obtain ⟨rfl, rfl⟩ := trodVars_none hV
  have k0 := h0
  have lt0 : ∀ x ∈ p0, x.block < W.heap.size := by obtain ⟨m, hm⟩ := k0; exact DataW.trod_lt m _ _ _ hm
  obtain ⟨b0, rfl, _⟩ := okWide_struct Tryd.underlying33 (hval 0 33 v0 rfl rfl)
  obtain ⟨fuel0, g0⟩ := h0
  obtain ⟨a0_0, a0_1, A0_2, c0_2, l0_2, e0, m0_2, z0_2⟩ := op33 g0
  have e0' := congrArg List.toArray e0
  simp only [Value.cells, Array.toArray_toList] at e0'
  subst e0'
  clear hA0 hval0 hsz0 hsz
  obtain ⟨k, hk⟩ := Pure.FnExactIndexText a0_0 a0_1 l0_2 (Nat.le_trans (Nat.le_of_eq rfl) z0_2.2.1)
  refine (PFnExactIndexText.laws_FnExactIndexText.calls k a0_0 a0_1 _ _ l0_2 true W z0_2 m0_2 (laid_w hL) hk).mono fun e W' ⟨he, bel⟩ => ?_
  subst he
  exact ⟨_, rfl, _, _, _, [], _, [], hW', trodAll_mk1 (shut_bool Tryd.underlying4 _), (trodAll_cons_mk (Below.trod laidOut (by kernel_rfl) (of_decide_eq_true (by kernel_rfl)) k0 bel lt0) trodAll_mk0), rfl, bel.frame _, fun h => by cases h⟩
theorem over : Rows.fnExactIndexTextRow.holds Tryd.pinned (OpenSpec.ofChange Rows.fnExactIndexTextSpec) :=
  OpenClaim.holds_of_wide 4 Tryd.f4 rfl rfl rfl rfl rfl rfl rfl ⟨rfl, rfl, rfl, rfl, rfl⟩ rfl rfl rfl rfl rfl (by kernel_rfl) Tryd.func4 (by kernel_rfl)
    (of_decide_eq_true (by kernel_rfl)) (by unfold Func.isWrapper; first | (rw [if_pos (by decide +kernel)]; kernel_rfl) | (rw [if_neg (by decide +kernel)]; exact ⟨rfl, rfl⟩))
    (fun os started H enc _ => lifted os started H enc)
theorem proved : Rows.FnExactIndexTextSaid := over
theorem card : Claim7.holds Tryd.pinned (.plain (OpenSpec.ofChange Rows.fnExactIndexTextSpec)) Rows.fnExactIndexTextCard :=
  Claim7.holds_tied_plain_at .later [] [.data, .data, .data] true (true, "94d8854106733394b0f7fcf677f6de89e280f109c33349d4199bb2f1f266ffc5") false over (fun _ h => by cases h) (by kernel_rfl) (fun _ h => by cases h) fnExactIndexText_row_tie rfl ⟨rfl, rfl⟩ (by kernel_rfl) rfl
    (fun f fn hf hfn => by
      obtain rfl : f = 4 := Option.some.inj ((show Tryd.prog.funcNamed "loop.example/purser/laws.FnExactIndexText" = some 4 by kernel_rfl).symm.trans hf) |>.symm
      obtain rfl : fn = Tryd.f4 := (Option.some.inj (Tryd.func4.symm.trans hfn)).symm
      exact ⟨by kernel_rfl, fun j t ht => by
        rw [Tryd.params4] at ht
        have hm : t ∈ [33] := by simpa using Array.mem_of_getElem? ht
        have hall : ([33].all fun u => !Tryd.prog.wantsStandIn u) = true := by kernel_rfl
        exact (show Tryd.prog.wantsStandIn t = false by simpa using List.all_eq_true.1 hall t hm)⟩)
    (by kernel_rfl)
end Go.Proofs.YtlmgnnpmcdeclaaDoor.fnExactIndexText
namespace Go.Proofs.YtlmgnnpmcdeclaaDoor
/-- The row, under a short name, for the claim. -/
theorem fnExactIndexText_holds : Rows.FnExactIndexTextCardSaid := fnExactIndexText.card
#print axioms fnExactIndexText_holds
end Go.Proofs.YtlmgnnpmcdeclaaDoor
