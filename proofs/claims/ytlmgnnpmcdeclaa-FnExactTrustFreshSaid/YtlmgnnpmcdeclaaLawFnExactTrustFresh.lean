/- The law FnExactTrustFresh: at every input its call returns true and leaves its arguments as they were: the row, out of the contract of its function and of what was proved of the numbers and lists. No further condition. -/
import Derived.Test.YtlmgnnpmcdeclaaRows
import Derived.Test.YtlmgnnpmcdeclaaPureFnExactTrustFresh
import Derived.WalkKit
import Derived.ProofKit
import Derived.OpenShut
import Derived.ShutString
import Derived.ChangeOld
import Derived.Below
import Derived.Carry
import Derived.SizedLaws
import Derived.Deep.Slices
import Derived.Deep.Strs
import Derived.ChangeSame
import Derived.Lib.SmallJoins
namespace Go.Proofs.Ytlmgnnpmcdeclaa.fnExactTrustFresh
open Go.ChangeShapes Go.WideShapes Go.ChangeAt Go.RowKit Go.Deep Go.Proofs.Ytlmgnnpmcdeclaa.PFnExactTrustFresh Go.Proofs.YtlmgnnpmcdeclaaW.PrintWords
open Go.ChangeMaps (open_string shut_string)
set_option linter.unusedVariables false
theorem own : ownKnob Try.prog.godebug = none := by kernel_rfl
theorem laidOut : laidOutB Try.prog = true := by kernel_rfl
section
variable {H : Type} {enc : TypeId × Value → H} {P : Program} {w : World}
/-- A slice that is read, as a row of elements of a kind. -/
theorem op_slice {α : Type} (d : Kd α) {t e : TypeId} (ht : P.underlying t = some (.slice e)) (hC : P.cellsOf e = d.sz)
    (hE : ∀ fuel cs x, DataW.trod enc P w 0 (fun _ => true) true fuel e cs = some x → ∃ y, d.K w y cs) {fuel : Nat} {cs : List Value} {x : DataW H × List MemPlace} (h : DataW.trod enc P w 0 (fun _ => true) true fuel t cs = some x) :
    ∃ (A : Option Addr) (c : Nat) (l : List α), cs = [.slice A l.length c] ∧ l.length ≤ c ∧ Kd.C d w A l.length l := by
  rcases Go.Deep.open_slice ht h with ⟨rfl, _⟩ | ⟨a, len, cap, m, n, D, Pl, rfl, _, hl, hm, hmm, _, hi⟩
  · exact ⟨none, 0, [], rfl, Nat.le_refl _, rfl, by simp, fun h => absurd h (Nat.lt_irrefl 0)⟩
  · have key : ∀ k, k ≤ len → ∃ l : List α, l.length = k ∧ ∀ j p, l[j]? = some p → ∃ c, c.length = d.sz ∧ d.K w p c ∧ ∀ i u, c[i]? = some u → w.cell? (a.add (j * d.sz + i)) = some u := by
      intro k
      induction k with
      | zero => intro _; exact ⟨[], rfl, fun j p hj => by simp at hj⟩
      | succ k ih =>
        intro hk
        obtain ⟨l, hl', hf⟩ := ih (by omega)
        obtain ⟨cs', hc, ht'⟩ := hi k (by rw [hmm, if_pos rfl]; omega)
        obtain ⟨y, hy⟩ := hE _ _ _ ht'
        rw [hC] at hc
        obtain ⟨_, hcl, hat⟩ := World.cells?_some hc
        refine ⟨l ++ [y], by simp [hl'], fun j p hj => ?_⟩
        by_cases hlt : j < l.length
        · rw [List.getElem?_append_left hlt] at hj
          exact hf j p hj
        · rw [List.getElem?_append_right (by omega)] at hj
          have hj0 : j - l.length = 0 := by
            have := (List.getElem?_eq_some_iff.1 hj).1
            simp at this; omega
          rw [hj0] at hj
          obtain rfl : y = p := by simpa using hj
          obtain rfl : j = k := by omega
          refine ⟨cs', d.K_len hy, hy, fun i u hu => ?_⟩
          have hil : i < cs'.length := (List.getElem?_eq_some_iff.1 hu).1
          rw [← Go.Deep.add_add, hat i (by rw [d.K_len hy] at hil; exact hil), hu]
    obtain ⟨l, rfl, hf⟩ := key len (Nat.le_refl _)
    exact ⟨some a, cap, l, rfl, hl, rfl, by simp only [maxLen] at hm; omega, fun _ => ⟨a, rfl, hf⟩⟩
theorem op_struct2 {t : TypeId} {f0 f1 : Field} (ht : P.underlying t = some (.struct #[f0, f1])) (hl : (decide (P.cellsOf t = P.cellsOf f0.type + P.cellsOf f1.type) && (f0.offset == 0 && f1.offset == P.cellsOf f0.type)) = true) {fuel : Nat} {cs : List Value} {x : DataW H × List MemPlace} (h : DataW.trod enc P w 0 (fun _ => true) true fuel t cs = some x) :
    ∃ n c0 y0 c1 y1, cs = c0 ++ c1 ∧ DataW.trod enc P w 0 (fun _ => true) true n f0.type c0 = some y0 ∧ DataW.trod enc P w 0 (fun _ => true) true n f1.type c1 = some y1 := by
  simp only [Bool.and_eq_true, decide_eq_true_eq, beq_iff_eq] at hl
  obtain ⟨hl, e0, e1⟩ := hl
  obtain ⟨y0, y1, n, _, hlen, h0, h1⟩ := trod_struct2 ht h
  refine ⟨n, _, y0, _, y1, ?_, h0, h1⟩
  rw [e0, e1, List.drop_zero, List.take_of_length_le (l := cs.drop _) (by rw [List.length_drop]; omega), List.take_append_drop]
theorem op_struct3 {t : TypeId} {f0 f1 f2 : Field} (ht : P.underlying t = some (.struct #[f0, f1, f2])) (hl : (decide (P.cellsOf t = P.cellsOf f0.type + P.cellsOf f1.type + P.cellsOf f2.type) && (f0.offset == 0 && (f1.offset == P.cellsOf f0.type && f2.offset == P.cellsOf f0.type + P.cellsOf f1.type))) = true) {fuel : Nat} {cs : List Value} {x : DataW H × List MemPlace} (h : DataW.trod enc P w 0 (fun _ => true) true fuel t cs = some x) :
    ∃ n c0 y0 c1 y1 c2 y2, cs = c0 ++ (c1 ++ c2) ∧ DataW.trod enc P w 0 (fun _ => true) true n f0.type c0 = some y0 ∧ DataW.trod enc P w 0 (fun _ => true) true n f1.type c1 = some y1 ∧ DataW.trod enc P w 0 (fun _ => true) true n f2.type c2 = some y2 := by
  simp only [Bool.and_eq_true, decide_eq_true_eq, beq_iff_eq] at hl
  obtain ⟨hl, e0, e1, e2⟩ := hl
  obtain ⟨y0, y1, y2, n, _, hlen, h0, h1, h2⟩ := trod_struct3 ht h
  refine ⟨n, _, y0, _, y1, _, y2, ?_, h0, h1, h2⟩
  rw [e0, e1, e2, List.drop_zero, List.take_of_length_le (l := cs.drop (_ + _)) (by rw [List.length_drop]; omega), ← List.drop_drop, List.take_append_drop, List.take_append_drop]
theorem op_struct4 {t : TypeId} {f0 f1 f2 f3 : Field} (ht : P.underlying t = some (.struct #[f0, f1, f2, f3])) (hl : (decide (P.cellsOf t = P.cellsOf f0.type + P.cellsOf f1.type + P.cellsOf f2.type + P.cellsOf f3.type) && (f0.offset == 0 && (f1.offset == P.cellsOf f0.type && (f2.offset == P.cellsOf f0.type + P.cellsOf f1.type && f3.offset == P.cellsOf f0.type + P.cellsOf f1.type + P.cellsOf f2.type)))) = true) {fuel : Nat} {cs : List Value} {x : DataW H × List MemPlace} (h : DataW.trod enc P w 0 (fun _ => true) true fuel t cs = some x) :
    ∃ n c0 y0 c1 y1 c2 y2 c3 y3, cs = c0 ++ (c1 ++ (c2 ++ c3)) ∧ DataW.trod enc P w 0 (fun _ => true) true n f0.type c0 = some y0 ∧ DataW.trod enc P w 0 (fun _ => true) true n f1.type c1 = some y1 ∧ DataW.trod enc P w 0 (fun _ => true) true n f2.type c2 = some y2 ∧ DataW.trod enc P w 0 (fun _ => true) true n f3.type c3 = some y3 := by
  simp only [Bool.and_eq_true, decide_eq_true_eq, beq_iff_eq] at hl
  obtain ⟨hl, e0, e1, e2, e3⟩ := hl
  obtain ⟨y0, y1, y2, y3, n, _, hlen, h0, h1, h2, h3⟩ := Go.Joins.trod_struct4 ht h
  refine ⟨n, _, y0, _, y1, _, y2, _, y3, ?_, h0, h1, h2, h3⟩
  rw [e0, e1, e2, e3, List.drop_zero, List.take_of_length_le (l := cs.drop (_ + _ + _)) (by rw [List.length_drop]; omega)]
  simp only [← List.drop_drop, List.take_append_drop]
end
theorem op3 {H : Type} {enc : TypeId × Value → H} {W : World} {fuel : Nat} {cs : List Value} {x : DataW H × List MemPlace} (h : DataW.trod enc Try.prog W 0 (fun _ => true) true fuel 3 cs = some x) : ∃ (a0 : Int), cs = [.int .i64 a0] := by
  obtain ⟨a, h, _⟩ := DataW.trod_int Try.underlying3 h
  exact ⟨a, h⟩
theorem op31 {H : Type} {enc : TypeId × Value → H} {W : World} {fuel : Nat} {cs : List Value} {x : DataW H × List MemPlace} (h : DataW.trod enc Try.prog W 0 (fun _ => true) true fuel 31 cs = some x) : ∃ (A0 : Option Addr) (c0 : Nat) (l0 : List (Int)), cs = [.slice A0 l0.length c0] ∧ l0.length ≤ c0 ∧ Kd.C (Kd.int .i64) W A0 l0.length l0 := by
  refine op_slice (Kd.int .i64) Try.underlying31 (by kernel_rfl) (fun fuel cs x he => ?_) h
  · obtain ⟨a, rfl⟩ := op3 he
    exact ⟨a, rfl⟩
theorem op33 {H : Type} {enc : TypeId × Value → H} {W : World} {fuel : Nat} {cs : List Value} {x : DataW H × List MemPlace} (h : DataW.trod enc Try.prog W 0 (fun _ => true) true fuel 33 cs = some x) : ∃ (a0 : Int) (A1 : Option Addr) (c1 : Nat) (l1 : List (Int)) (a2 : Int), cs = [.int .i64 a0, .slice A1 l1.length c1, .int .i64 a2] ∧ l1.length ≤ c1 ∧ Kd.C (Kd.int .i64) W A1 l1.length l1 := by
  obtain ⟨n, s0, y0, s1, y1, s2, y2, rfl, h0, h1, h2⟩ := op_struct3 Try.underlying33 (by kernel_rfl) h
  obtain ⟨a0, rfl⟩ := op3 h0
  obtain ⟨A1, c1, l1, rfl, f1_0, f1_1⟩ := op31 h1
  obtain ⟨a2, rfl⟩ := op3 h2
  exact ⟨a0, A1, c1, l1, a2, rfl, f1_0, f1_1⟩
theorem op4 {H : Type} {enc : TypeId × Value → H} {W : World} {fuel : Nat} {cs : List Value} {x : DataW H × List MemPlace} (h : DataW.trod enc Try.prog W 0 (fun _ => true) true fuel 4 cs = some x) : ∃ (a0 : Bool), cs = [.bool a0] := by
  obtain ⟨a, h, _⟩ := DataW.trod_bool Try.underlying4 h
  exact ⟨a, h⟩
theorem op120 {H : Type} {enc : TypeId × Value → H} {W : World} {fuel : Nat} {cs : List Value} {x : DataW H × List MemPlace} (h : DataW.trod enc Try.prog W 0 (fun _ => true) true fuel 120 cs = some x) : ∃ (a0 : Int) (a1 : Int) (a2 : Int), cs = [.int .i64 a0, .int .i64 a1, .int .i64 a2] := by
  obtain ⟨n, s0, y0, s1, y1, s2, y2, rfl, h0, h1, h2⟩ := op_struct3 Try.underlying120 (by kernel_rfl) h
  obtain ⟨a0, rfl⟩ := op3 h0
  obtain ⟨a1, rfl⟩ := op3 h1
  obtain ⟨a2, rfl⟩ := op3 h2
  exact ⟨a0, a1, a2, rfl⟩
theorem op34 {H : Type} {enc : TypeId × Value → H} {W : World} {fuel : Nat} {cs : List Value} {x : DataW H × List MemPlace} (h : DataW.trod enc Try.prog W 0 (fun _ => true) true fuel 34 cs = some x) : ∃ (A0 : Option Addr) (c0 : Nat) (l0 : List (S120)), cs = [.slice A0 l0.length c0] ∧ l0.length ≤ c0 ∧ Kd.C k120 W A0 l0.length l0 := by
  refine op_slice k120 Try.underlying34 (by kernel_rfl) (fun fuel cs x he => ?_) h
  · obtain ⟨a0, a1, a2, rfl⟩ := op120 he
    exact ⟨⟨a0, a1, a2⟩, k120_mk W ⟨a0, a1, a2⟩⟩
theorem op36 {H : Type} {enc : TypeId × Value → H} {W : World} {fuel : Nat} {cs : List Value} {x : DataW H × List MemPlace} (h : DataW.trod enc Try.prog W 0 (fun _ => true) true fuel 36 cs = some x) : ∃ (a0 : Int) (a1 : Int) (A2 : Option Addr) (c2 : Nat) (l2 : List (S120)), cs = [.int .i64 a0, .int .i64 a1, .slice A2 l2.length c2] ∧ l2.length ≤ c2 ∧ Kd.C k120 W A2 l2.length l2 := by
  obtain ⟨n, s0, y0, s1, y1, s2, y2, rfl, h0, h1, h2⟩ := op_struct3 Try.underlying36 (by kernel_rfl) h
  obtain ⟨a0, rfl⟩ := op3 h0
  obtain ⟨a1, rfl⟩ := op3 h1
  obtain ⟨A2, c2, l2, rfl, f2_0, f2_1⟩ := op34 h2
  exact ⟨a0, a1, A2, c2, l2, rfl, f2_0, f2_1⟩
theorem op38 {H : Type} {enc : TypeId × Value → H} {W : World} {fuel : Nat} {cs : List Value} {x : DataW H × List MemPlace} (h : DataW.trod enc Try.prog W 0 (fun _ => true) true fuel 38 cs = some x) : ∃ (a0 : Int) (A1 : Option Addr) (c1 : Nat) (l1 : List (Int)) (a2 : Int) (a3 : Bool) (a4 : Int) (a5 : Int) (A6 : Option Addr) (c6 : Nat) (l6 : List (S120)), cs = [.int .i64 a0, .slice A1 l1.length c1, .int .i64 a2, .bool a3, .int .i64 a4, .int .i64 a5, .slice A6 l6.length c6] ∧ l1.length ≤ c1 ∧ Kd.C (Kd.int .i64) W A1 l1.length l1 ∧ l6.length ≤ c6 ∧ Kd.C k120 W A6 l6.length l6 := by
  obtain ⟨n, s0, y0, s1, y1, s2, y2, rfl, h0, h1, h2⟩ := op_struct3 Try.underlying38 (by kernel_rfl) h
  obtain ⟨a0, A1, c1, l1, a2, rfl, f1_0, f1_1⟩ := op33 h0
  obtain ⟨a3, rfl⟩ := op4 h1
  obtain ⟨a4, a5, A6, c6, l6, rfl, f6_0, f6_1⟩ := op36 h2
  exact ⟨a0, A1, c1, l1, a2, a3, a4, a5, A6, c6, l6, rfl, f1_0, f1_1, f6_0, f6_1⟩
set_option maxRecDepth 100000 in
theorem lifted (os : Os) (started : os.Started) (H : Type) (enc : TypeId × Value → H) :
    ReturnsInHanded {} Try.checked os 6 .any (Rows.fnExactTrustFreshSpec.pre6 enc Try.prog Try.f6 Rows.fnExactTrustFreshRow.domain false) (Rows.fnExactTrustFreshSpec.post enc Try.prog Try.f6 false true false false) := by
  refine returnsInHanded_of_change_sized (C := Try.checked) own started (by kernel_rfl) Try.func6
    (ChangeSpec.witness6 (enc := enc) (C := Try.checked) false ⟨#[], #[.agg #[.int .i64 0, .slice none 0 0, .int .i64 0, .bool false, .int .i64 0, .int .i64 0, .slice none 0 0], .int .i64 0], []⟩ 16 (by kernel_rfl) (by kernel_rfl) (by kernel_rfl) (by kernel_rfl)) ?_
  intro W base args ds gs before hval0 hW hcnd hsz0 _
  have hsz : (DataW.weightsEach Try.prog (Try.f6.params.toList ++ Rows.fnExactTrustFreshSpec.plain.varTypes Try.prog) (ds ++ gs)).all (· ≤ reachBytes) = true := hsz0
  have hval : ∀ (j : Nat) t v, Try.f6.params[j]? = some t → args[j]? = some v → Value.okWide Try.prog W .any base t v := hval0
  have hW' := hW
  obtain ⟨p, q, hA0, hV, rfl, hfz, hnd⟩ := hW
  have hA : DataW.TrodAll enc Try.prog W 0 (fun _ => true) true Try.f6.params.toList args.toList ds p := hA0
  rw [Try.params6] at hA hval hsz
  obtain ⟨v0, vs0, d0, ds0, p0, q0, hargs, rfl, rfl, h0, r0⟩ := trodAll_cons hA
  obtain ⟨v1, vs1, d1, ds1, p1, q1, rfl, rfl, rfl, h1, r1⟩ := trodAll_cons r0
  obtain ⟨rfl, rfl, rfl⟩ := trodAll_nil r1
  obtain rfl : args = #[v0, v1] := by cases args; simp_all
  obtain ⟨rfl, rfl⟩ := trodVars_none hV
  have k0 := h0
  have lt0 : ∀ x ∈ p0, x.block < W.heap.size := by obtain ⟨m, hm⟩ := k0; exact DataW.trod_lt m _ _ _ hm
  obtain ⟨b0, rfl, _⟩ := okWide_struct Try.underlying38 (hval 0 38 v0 rfl rfl)
  obtain ⟨fuel0, g0⟩ := h0
  obtain ⟨a0_0, A0_1, c0_1, l0_1, a0_2, a0_3, a0_4, a0_5, A0_6, c0_6, l0_6, e0, m0_1, z0_1, m0_6, z0_6⟩ := op38 g0
  have e0' := congrArg List.toArray e0
  simp only [Value.cells, Array.toArray_toList] at e0'
  subst e0'
  obtain ⟨a1, rfl, rfl, rfl, w1⟩ := open_int Try.underlying3 (hval 1 3 v1 rfl rfl) h1
  clear hA0 hval0 hsz0 hsz
  obtain ⟨k, hk⟩ := Pure.FnExactTrustFresh a0_0 l0_1 a0_2 a0_3 a0_4 a0_5 l0_6 a1 (Nat.le_trans (Nat.le_of_eq rfl) z0_1.2.1) (Nat.le_trans (Nat.le_of_eq rfl) z0_6.2.1)
  refine (PFnExactTrustFresh.laws_FnExactTrustFresh.calls k a0_0 _ _ l0_1 a0_2 a0_3 a0_4 a0_5 _ _ l0_6 a1 true W z0_1 m0_1 z0_6 m0_6 hk).mono fun e W' ⟨he, bel⟩ => ?_
  subst he
  exact ⟨_, rfl, _, _, _, [], _, [], hW', trodAll_mk1 (shut_bool Try.underlying4 _), (trodAll_cons_mk (Below.trod laidOut (by kernel_rfl) (of_decide_eq_true (by kernel_rfl)) k0 bel lt0) (trodAll_cons_mk (shut_int Try.underlying3 w1) trodAll_mk0)), rfl, bel.frame _, fun h => by cases h⟩
theorem over : Rows.fnExactTrustFreshRow.holds Try.pinned (OpenSpec.ofChange Rows.fnExactTrustFreshSpec) :=
  OpenClaim.holds_of_wide 6 Try.f6 rfl rfl rfl rfl rfl rfl rfl ⟨rfl, rfl, rfl, rfl, rfl⟩ rfl rfl rfl rfl rfl (by kernel_rfl) Try.func6 (by kernel_rfl)
    (of_decide_eq_true (by kernel_rfl)) (by unfold Func.isWrapper; first | (rw [if_pos (by decide +kernel)]; kernel_rfl) | (rw [if_neg (by decide +kernel)]; exact ⟨rfl, rfl⟩))
    (fun os started H enc _ => lifted os started H enc)
theorem proved : Rows.FnExactTrustFreshSaid := over
end Go.Proofs.Ytlmgnnpmcdeclaa.fnExactTrustFresh
namespace Go.Proofs.Ytlmgnnpmcdeclaa
/-- The row, under a short name, for the claim. -/
theorem fnExactTrustFresh_holds : Rows.FnExactTrustFreshSaid := fnExactTrustFresh.proved
#print axioms fnExactTrustFresh_holds
end Go.Proofs.Ytlmgnnpmcdeclaa
