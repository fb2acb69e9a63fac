/- The law FnExactStoreOk: at every input its call returns true and leaves its arguments as they were: the row, out of the contract of its function and of what was proved of the numbers and lists. No further condition. -/
import Derived.Test.YtlmgnnpmcdeclaaRows
import Derived.Test.YtlmgnnpmcdeclaaPureFnExactStoreOk
import Derived.WalkKit
import Derived.ProofKit
import Derived.OpenShut
import Derived.ShutString
import Derived.ChangeOld
import Derived.Below
import Derived.Carry
import Derived.SizedLaws
import Derived.Deep.Slices
import Derived.Deep.Strs
import Derived.ChangeSame
import Derived.Lib.SmallJoins
namespace Go.Proofs.Ytlmgnnpmcdeclaa.fnExactStoreOk
open Go.ChangeShapes Go.WideShapes Go.ChangeAt Go.RowKit Go.Deep Go.Proofs.Ytlmgnnpmcdeclaa.PFnExactStoreOk Go.Proofs.YtlmgnnpmcdeclaaW.PrintWords
open Go.ChangeMaps (open_string shut_string)
set_option linter.unusedVariables false
theorem own : ownKnob Try.prog.godebug = none := by kernel_rfl
theorem laidOut : laidOutB Try.prog = true := by kernel_rfl
section
variable {H : Type} {enc : TypeId × Value → H} {P : Program} {w : World}
/-- A slice that is read, as a row of elements of a kind. -/
theorem op_slice {α : Type} (d : Kd α) {t e : TypeId} (ht : P.underlying t = some (.slice e)) (hC : P.cellsOf e = d.sz)
    (hE : ∀ fuel cs x, DataW.trod enc P w 0 (fun _ => true) true fuel e cs = some x → ∃ y, d.K w y cs) {fuel : Nat} {cs : List Value} {x : DataW H × List MemPlace} (h : DataW.trod enc P w 0 (fun _ => true) true fuel t cs = some x) :
    ∃ (A : Option Addr) (c : Nat) (l : List α), cs = [.slice A l.length c] ∧ l.length ≤ c ∧ Kd.C d w A l.length l := by
  rcases Go.Deep.open_slice ht h with ⟨rfl, _⟩ | ⟨a, len, cap, m, n, D, Pl, rfl, _, hl, hm, hmm, _, hi⟩
  · exact ⟨none, 0, [], rfl, Nat.le_refl _, rfl, by simp, fun h => absurd h (Nat.lt_irrefl 0)⟩
  · have key : ∀ k, k ≤ len → ∃ l : List α, l.length = k ∧ ∀ j p, l[j]? = some p → ∃ c, c.length = d.sz ∧ d.K w p c ∧ ∀ i u, c[i]? = some u → w.cell? (a.add (j * d.sz + i)) = some u := by
      intro k
      induction k with
      | zero => intro _; exact ⟨[], rfl, fun j p hj => by simp at hj⟩
      | succ k ih =>
        intro hk
        obtain ⟨l, hl', hf⟩ := ih (by omega)
        obtain ⟨cs', hc, ht'⟩ := hi k (by rw [hmm, if_pos rfl]; omega)
        obtain ⟨y, hy⟩ := hE _ _ _ ht'
        rw [hC] at hc
        obtain ⟨_, hcl, hat⟩ := World.cells?_some hc
        refine ⟨l ++ [y], by simp [hl'], fun j p hj => ?_⟩
        by_cases hlt : j < l.length
        · rw [List.getElem?_append_left hlt] at hj
          exact hf j p hj
        · rw [List.getElem?_append_right (by omega)] at hj
          have hj0 : j - l.length = 0 := by
            have := (List.getElem?_eq_some_iff.1 hj).1
            simp at this; omega
          rw [hj0] at hj
          obtain rfl : y = p := by simpa using hj
          obtain rfl : j = k := by omega
          refine ⟨cs', d.K_len hy, hy, fun i u hu => ?_⟩
          have hil : i < cs'.length := (List.getElem?_eq_some_iff.1 hu).1
          rw [← Go.Deep.add_add, hat i (by rw [d.K_len hy] at hil; exact hil), hu]
    obtain ⟨l, rfl, hf⟩ := key len (Nat.le_refl _)
    exact ⟨some a, cap, l, rfl, hl, rfl, by simp only [maxLen] at hm; omega, fun _ => ⟨a, rfl, hf⟩⟩
theorem op_struct2 {t : TypeId} {f0 f1 : Field} (ht : P.underlying t = some (.struct #[f0, f1])) (hl : (decide (P.cellsOf t = P.cellsOf f0.type + P.cellsOf f1.type) && (f0.offset == 0 && f1.offset == P.cellsOf f0.type)) = true) {fuel : Nat} {cs : List Value} {x : DataW H × List MemPlace} (h : DataW.trod enc P w 0 (fun _ => true) true fuel t cs = some x) :
    ∃ n c0 y0 c1 y1, cs = c0 ++ c1 ∧ DataW.trod enc P w 0 (fun _ => true) true n f0.type c0 = some y0 ∧ DataW.trod enc P w 0 (fun _ => true) true n f1.type c1 = some y1 := by
  simp only [Bool.and_eq_true, decide_eq_true_eq, beq_iff_eq] at hl
  obtain ⟨hl, e0, e1⟩ := hl
  obtain ⟨y0, y1, n, _, hlen, h0, h1⟩ := trod_struct2 ht h
  refine ⟨n, _, y0, _, y1, ?_, h0, h1⟩
  rw [e0, e1, List.drop_zero, List.take_of_length_le (l := cs.drop _) (by rw [List.length_drop]; omega), List.take_append_drop]
theorem op_struct3 {t : TypeId} {f0 f1 f2 : Field} (ht : P.underlying t = some (.struct #[f0, f1, f2])) (hl : (decide (P.cellsOf t = P.cellsOf f0.type + P.cellsOf f1.type + P.cellsOf f2.type) && (f0.offset == 0 && (f1.offset == P.cellsOf f0.type && f2.offset == P.cellsOf f0.type + P.cellsOf f1.type))) = true) {fuel : Nat} {cs : List Value} {x : DataW H × List MemPlace} (h : DataW.trod enc P w 0 (fun _ => true) true fuel t cs = some x) :
    ∃ n c0 y0 c1 y1 c2 y2, cs = c0 ++ (c1 ++ c2) ∧ DataW.trod enc P w 0 (fun _ => true) true n f0.type c0 = some y0 ∧ DataW.trod enc P w 0 (fun _ => true) true n f1.type c1 = some y1 ∧ DataW.trod enc P w 0 (fun _ => true) true n f2.type c2 = some y2 := by
  simp only [Bool.and_eq_true, decide_eq_true_eq, beq_iff_eq] at hl
  obtain ⟨hl, e0, e1, e2⟩ := hl
  obtain ⟨y0, y1, y2, n, _, hlen, h0, h1, h2⟩ := trod_struct3 ht h
  refine ⟨n, _, y0, _, y1, _, y2, ?_, h0, h1, h2⟩
  rw [e0, e1, e2, List.drop_zero, List.take_of_length_le (l := cs.drop (_ + _)) (by rw [List.length_drop]; omega), ← List.drop_drop, List.take_append_drop, List.take_append_drop]
theorem op_struct4 {t : TypeId} {f0 f1 f2 f3 : Field} (ht : P.underlying t = some (.struct #[f0, f1, f2, f3])) (hl : (decide (P.cellsOf t = P.cellsOf f0.type + P.cellsOf f1.type + P.cellsOf f2.type + P.cellsOf f3.type) && (f0.offset == 0 && (f1.offset == P.cellsOf f0.type && (f2.offset == P.cellsOf f0.type + P.cellsOf f1.type && f3.offset == P.cellsOf f0.type + P.cellsOf f1.type + P.cellsOf f2.type)))) = true) {fuel : Nat} {cs : List Value} {x : DataW H × List MemPlace} (h : DataW.trod enc P w 0 (fun _ => true) true fuel t cs = some x) :
    ∃ n c0 y0 c1 y1 c2 y2 c3 y3, cs = c0 ++ (c1 ++ (c2 ++ c3)) ∧ DataW.trod enc P w 0 (fun _ => true) true n f0.type c0 = some y0 ∧ DataW.trod enc P w 0 (fun _ => true) true n f1.type c1 = some y1 ∧ DataW.trod enc P w 0 (fun _ => true) true n f2.type c2 = some y2 ∧ DataW.trod enc P w 0 (fun _ => true) true n f3.type c3 = some y3 := by
  simp only [Bool.and_eq_true, decide_eq_true_eq, beq_iff_eq] at hl
  obtain ⟨hl, e0, e1, e2, e3⟩ := hl
  obtain ⟨y0, y1, y2, y3, n, _, hlen, h0, h1, h2, h3⟩ := Go.Joins.trod_struct4 ht h
  refine ⟨n, _, y0, _, y1, _, y2, _, y3, ?_, h0, h1, h2, h3⟩
  rw [e0, e1, e2, e3, List.drop_zero, List.take_of_length_le (l := cs.drop (_ + _ + _)) (by rw [List.length_drop]; omega)]
  simp only [← List.drop_drop, List.take_append_drop]
end
theorem op3 {H : Type} {enc : TypeId × Value → H} {W : World} {fuel : Nat} {cs : List Value} {x : DataW H × List MemPlace} (h : DataW.trod enc Try.prog W 0 (fun _ => true) true fuel 3 cs = some x) : ∃ (a0 : Int), cs = [.int .i64 a0] := by
  obtain ⟨a, h, _⟩ := DataW.trod_int Try.underlying3 h
  exact ⟨a, h⟩
theorem op123 {H : Type} {enc : TypeId × Value → H} {W : World} {fuel : Nat} {cs : List Value} {x : DataW H × List MemPlace} (h : DataW.trod enc Try.prog W 0 (fun _ => true) true fuel 123 cs = some x) : ∃ (a0 : Int) (a1 : Int), cs = [.int .i64 a0, .int .i64 a1] := by
  obtain ⟨n, s0, y0, s1, y1, rfl, h0, h1⟩ := op_struct2 Try.underlying123 (by kernel_rfl) h
  obtain ⟨a0, rfl⟩ := op3 h0
  obtain ⟨a1, rfl⟩ := op3 h1
  exact ⟨a0, a1, rfl⟩
theorem op76 {H : Type} {enc : TypeId × Value → H} {W : World} {fuel : Nat} {cs : List Value} {x : DataW H × List MemPlace} (h : DataW.trod enc Try.prog W 0 (fun _ => true) true fuel 76 cs = some x) : ∃ (A0 : Option Addr) (c0 : Nat) (l0 : List (S123)), cs = [.slice A0 l0.length c0] ∧ l0.length ≤ c0 ∧ Kd.C k123 W A0 l0.length l0 := by
  refine op_slice k123 Try.underlying76 (by kernel_rfl) (fun fuel cs x he => ?_) h
  · obtain ⟨a0, a1, rfl⟩ := op123 he
    exact ⟨⟨a0, a1⟩, k123_mk W ⟨a0, a1⟩⟩
theorem op125 {H : Type} {enc : TypeId × Value → H} {W : World} {fuel : Nat} {cs : List Value} {x : DataW H × List MemPlace} (h : DataW.trod enc Try.prog W 0 (fun _ => true) true fuel 125 cs = some x) : ∃ (a0 : Int) (a1 : Int), cs = [.int .i64 a0, .int .i64 a1] := by
  obtain ⟨n, s0, y0, s1, y1, rfl, h0, h1⟩ := op_struct2 Try.underlying125 (by kernel_rfl) h
  obtain ⟨a0, rfl⟩ := op3 h0
  obtain ⟨a1, rfl⟩ := op3 h1
  exact ⟨a0, a1, rfl⟩
theorem op77 {H : Type} {enc : TypeId × Value → H} {W : World} {fuel : Nat} {cs : List Value} {x : DataW H × List MemPlace} (h : DataW.trod enc Try.prog W 0 (fun _ => true) true fuel 77 cs = some x) : ∃ (A0 : Option Addr) (c0 : Nat) (l0 : List (S125)), cs = [.slice A0 l0.length c0] ∧ l0.length ≤ c0 ∧ Kd.C k125 W A0 l0.length l0 := by
  refine op_slice k125 Try.underlying77 (by kernel_rfl) (fun fuel cs x he => ?_) h
  · obtain ⟨a0, a1, rfl⟩ := op125 he
    exact ⟨⟨a0, a1⟩, k125_mk W ⟨a0, a1⟩⟩
theorem op79 {H : Type} {enc : TypeId × Value → H} {W : World} {fuel : Nat} {cs : List Value} {x : DataW H × List MemPlace} (h : DataW.trod enc Try.prog W 0 (fun _ => true) true fuel 79 cs = some x) : ∃ (a0 : Int) (a1 : Int) (A2 : Option Addr) (c2 : Nat) (l2 : List (S123)) (A3 : Option Addr) (c3 : Nat) (l3 : List (S125)), cs = [.int .i64 a0, .int .i64 a1, .slice A2 l2.length c2, .slice A3 l3.length c3] ∧ l2.length ≤ c2 ∧ Kd.C k123 W A2 l2.length l2 ∧ l3.length ≤ c3 ∧ Kd.C k125 W A3 l3.length l3 := by
  obtain ⟨n, s0, y0, s1, y1, s2, y2, s3, y3, rfl, h0, h1, h2, h3⟩ := op_struct4 Try.underlying79 (by kernel_rfl) h
  obtain ⟨a0, rfl⟩ := op3 h0
  obtain ⟨a1, rfl⟩ := op3 h1
  obtain ⟨A2, c2, l2, rfl, f2_0, f2_1⟩ := op76 h2
  obtain ⟨A3, c3, l3, rfl, f3_0, f3_1⟩ := op77 h3
  exact ⟨a0, a1, A2, c2, l2, A3, c3, l3, rfl, f2_0, f2_1, f3_0, f3_1⟩
theorem op50 {H : Type} {enc : TypeId × Value → H} {W : World} {fuel : Nat} {cs : List Value} {x : DataW H × List MemPlace} (h : DataW.trod enc Try.prog W 0 (fun _ => true) true fuel 50 cs = some x) : ∃ (A0 : Option Addr) (c0 : Nat) (l0 : List (S79)), cs = [.slice A0 l0.length c0] ∧ l0.length ≤ c0 ∧ Kd.C k79 W A0 l0.length l0 := by
  refine op_slice k79 Try.underlying50 (by kernel_rfl) (fun fuel cs x he => ?_) h
  · obtain ⟨a0, a1, A2, c2, l2, A3, c3, l3, rfl, h2, g2, h3, g3⟩ := op79 he
    exact ⟨⟨a0, a1, l2, l3⟩, k79_mk W ⟨a0, a1, l2, l3⟩ h2 g2 h3 g3⟩
set_option maxRecDepth 100000 in
theorem lifted (os : Os) (started : os.Started) (H : Type) (enc : TypeId × Value → H) :
    ReturnsInHanded {} Try.checked os 5 .any (Rows.fnExactStoreOkSpec.pre6 enc Try.prog Try.f5 Rows.fnExactStoreOkRow.domain false) (Rows.fnExactStoreOkSpec.post enc Try.prog Try.f5 false true false false) := by
  refine returnsInHanded_of_change_sized (C := Try.checked) own started (by kernel_rfl) Try.func5
    (ChangeSpec.witness6 (enc := enc) (C := Try.checked) false ⟨#[], #[.slice none 0 0], []⟩ 16 (by kernel_rfl) (by kernel_rfl) (by kernel_rfl) (by kernel_rfl)) ?_
  intro W base args ds gs before hval0 hW hcnd hsz0 _
  have hsz : (DataW.weightsEach Try.prog (Try.f5.params.toList ++ Rows.fnExactStoreOkSpec.plain.varTypes Try.prog) (ds ++ gs)).all (· ≤ reachBytes) = true := hsz0
  have hval : ∀ (j : Nat) t v, Try.f5.params[j]? = some t → args[j]? = some v → Value.okWide Try.prog W .any base t v := hval0
  have hW' := hW
  obtain ⟨p, q, hA0, hV, rfl, hfz, hnd⟩ := hW
  have hA : DataW.TrodAll enc Try.prog W 0 (fun _ => true) true Try.f5.params.toList args.toList ds p := hA0
  rw [Try.params5] at hA hval hsz
  obtain ⟨v0, vs0, d0, ds0, p0, q0, hargs, rfl, rfl, h0, r0⟩ := trodAll_cons hA
  obtain ⟨rfl, rfl, rfl⟩ := trodAll_nil r0
  obtain rfl : args = #[v0] := by cases args; simp_all
  obtain ⟨rfl, rfl⟩ := trodVars_none hV
  have k0 := h0
  have lt0 : ∀ x ∈ p0, x.block < W.heap.size := by obtain ⟨m, hm⟩ := k0; exact DataW.trod_lt m _ _ _ hm
  obtain ⟨x0, len0, cap0, rfl⟩ := okWide_slice Try.underlying50 (hval 0 50 v0 rfl rfl)
  obtain ⟨fuel0, g0⟩ := h0
  obtain ⟨A0, c0, l0, e0, m0, z0⟩ := op50 g0
  simp only [Value.cells, List.cons.injEq, Value.slice.injEq, and_true] at e0
  obtain ⟨rfl, rfl, rfl⟩ := e0
  clear hA0 hval0 hsz0 hsz
  have b0 : ∀ p ∈ l0, p.f2.length ≤ 9223372036854775807 ∧ p.f3.length ≤ 9223372036854775807 := by
    intro p hp
    obtain ⟨j, hj, rfl⟩ := List.getElem_of_mem hp
    obtain ⟨ad, _, hc⟩ := z0.2.2 (by omega)
    obtain ⟨c, _, hK, _⟩ := hc j _ (List.getElem?_eq_getElem hj)
    obtain ⟨_, _, _, _, ⟨_, _, _, _, ⟨_, _, _, ⟨_, _, _, _, r2⟩, ⟨_, _, _, _, r3⟩⟩⟩⟩ := hK
    exact ⟨r2.2.1, r3.2.1⟩
  obtain ⟨k, hk⟩ := Pure.FnExactStoreOk l0 (Nat.le_trans (Nat.le_of_eq rfl) z0.2.1) b0
  refine (PFnExactStoreOk.laws_FnExactStoreOk.calls k _ _ l0 true W z0 m0 hk).mono fun e W' ⟨he, bel⟩ => ?_
  subst he
  exact ⟨_, rfl, _, _, _, [], _, [], hW', trodAll_mk1 (shut_bool Try.underlying4 _), (trodAll_cons_mk (Below.trod laidOut (by kernel_rfl) (of_decide_eq_true (by kernel_rfl)) k0 bel lt0) trodAll_mk0), rfl, bel.frame _, fun h => by cases h⟩
theorem over : Rows.fnExactStoreOkRow.holds Try.pinned (OpenSpec.ofChange Rows.fnExactStoreOkSpec) :=
  OpenClaim.holds_of_wide 5 Try.f5 rfl rfl rfl rfl rfl rfl rfl ⟨rfl, rfl, rfl, rfl, rfl⟩ rfl rfl rfl rfl rfl (by kernel_rfl) Try.func5 (by kernel_rfl)
    (of_decide_eq_true (by kernel_rfl)) (by unfold Func.isWrapper; first | (rw [if_pos (by decide +kernel)]; kernel_rfl) | (rw [if_neg (by decide +kernel)]; exact ⟨rfl, rfl⟩))
    (fun os started H enc _ => lifted os started H enc)
theorem proved : Rows.FnExactStoreOkSaid := over
end Go.Proofs.Ytlmgnnpmcdeclaa.fnExactStoreOk
namespace Go.Proofs.Ytlmgnnpmcdeclaa
/-- The row, under a short name, for the claim. -/
theorem fnExactStoreOk_holds : Rows.FnExactStoreOkSaid := fnExactStoreOk.proved
#print axioms fnExactStoreOk_holds
end Go.Proofs.Ytlmgnnpmcdeclaa
