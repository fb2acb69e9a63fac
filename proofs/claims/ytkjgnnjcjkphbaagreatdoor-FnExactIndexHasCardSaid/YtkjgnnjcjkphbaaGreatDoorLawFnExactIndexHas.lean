/- The law FnExactIndexHas: at every input its call returns true and leaves its arguments as they were: the row, out of the contract of its function and of what was proved of the numbers and lists. No further condition. -/
import Derived.Test.YtkjgnnjcjkphbaaGreatDoorRows
import Derived.Test.YtkjgnnjcjkphbaaGreatDoorPureFnExactIndexHas
import Derived.WalkKit
import Derived.Test.YtkjgnnjcjkphbaaGreatDoorTie
import Derived.Test.YtkjgnnjcjkphbaaGreatDoorCards
import Derived.LaidMore
import Derived.Lay
import Derived.SevenTiedAt
import Derived.Stop.Joined
import Derived.Shelf.Vars
import Derived.Lib.LaidTab
import Derived.Stop.LaidErr
import Derived.ProofKit
import Derived.OpenShut
import Derived.ShutString
import Derived.ChangeOld
import Derived.Below
import Derived.Carry
import Derived.SizedLaws
import Derived.Deep.Slices
import Derived.Deep.Strs
import Derived.ChangeSame
import Derived.Lib.SmallJoins
namespace Go.Proofs.YtkjgnnjcjkphbaaGreatDoor.fnExactIndexHas
open Go.ChangeShapes Go.WideShapes Go.ChangeAt Go.RowKit Go.Deep Go.Proofs.YtkjgnnjcjkphbaaGreatDoor.PFnExactIndexHas Go.Proofs.YtkjgnnjcjkphbaaGreatDoorW.PrintWords
open Go.ChangeMaps (open_string shut_string)
set_option linter.unusedVariables false
theorem own : ownKnob Tryz.prog.godebug = none := by kernel_rfl
theorem laidOut : laidOutB Tryz.prog = true := by kernel_rfl
section
variable {H : Type} {enc : TypeId × Value → H} {P : Program} {w : World}
/-- A slice that is read, as a row of elements of a kind. -/
theorem op_slice {α : Type} (d : Kd α) {t e : TypeId} (ht : P.underlying t = some (.slice e)) (hC : P.cellsOf e = d.sz)
    (hE : ∀ fuel cs x, DataW.trod enc P w 0 (fun _ => true) true fuel e cs = some x → ∃ y, d.K w y cs) {fuel : Nat} {cs : List Value} {x : DataW H × List MemPlace} (h : DataW.trod enc P w 0 (fun _ => true) true fuel t cs = some x) :
    ∃ (A : Option Addr) (c : Nat) (l : List α), cs = [.slice A l.length c] ∧ l.length ≤ c ∧ Kd.C d w A l.length l := by
  rcases Go.Deep.open_slice ht h with ⟨rfl, _⟩ | ⟨a, len, cap, m, n, D, Pl, rfl, _, hl, hm, hmm, _, hi⟩
  · exact ⟨none, 0, [], rfl, Nat.le_refl _, rfl, by simp, fun h => absurd h (Nat.lt_irrefl 0)⟩
  · have key : ∀ k, k ≤ len → ∃ l : List α, l.length = k ∧ ∀ j p, l[j]? = some p → ∃ c, c.length = d.sz ∧ d.K w p c ∧ ∀ i u, c[i]? = some u → w.cell? (a.add (j * d.sz + i)) = some u := by
      intro k
      induction k with
      | zero => intro _; exact ⟨[], rfl, fun j p hj => by simp at hj⟩
      | succ k ih =>
        intro hk
        obtain ⟨l, hl', hf⟩ := ih (by omega)
        obtain ⟨cs', hc, ht'⟩ := hi k (by rw [hmm, if_pos rfl]; omega)
        obtain ⟨y, hy⟩ := hE _ _ _ ht'
        rw [hC] at hc
        obtain ⟨_, hcl, hat⟩ := World.cells?_some hc
        refine ⟨l ++ [y], by simp [hl'], fun j p hj => ?_⟩
        by_cases hlt : j < l.length
        · rw [List.getElem?_append_left hlt] at hj
          exact hf j p hj
        · rw [List.getElem?_append_right (by omega)] at hj
          have hj0 : j - l.length = 0 := by
            have := (List.getElem?_eq_some_iff.1 hj).1
            simp at this; omega
          rw [hj0] at hj
          obtain rfl : y = p := by simpa using hj
          obtain rfl : j = k := by omega
          refine ⟨cs', d.K_len hy, hy, fun i u hu => ?_⟩
          have hil : i < cs'.length := (List.getElem?_eq_some_iff.1 hu).1
          rw [← Go.Deep.add_add, hat i (by rw [d.K_len hy] at hil; exact hil), hu]
    obtain ⟨l, rfl, hf⟩ := key len (Nat.le_refl _)
    exact ⟨some a, cap, l, rfl, hl, rfl, by simp only [maxLen] at hm; omega, fun _ => ⟨a, rfl, hf⟩⟩
theorem op_struct2 {t : TypeId} {f0 f1 : Field} (ht : P.underlying t = some (.struct #[f0, f1])) (hl : (decide (P.cellsOf t = P.cellsOf f0.type + P.cellsOf f1.type) && (f0.offset == 0 && f1.offset == P.cellsOf f0.type)) = true) {fuel : Nat} {cs : List Value} {x : DataW H × List MemPlace} (h : DataW.trod enc P w 0 (fun _ => true) true fuel t cs = some x) :
    ∃ n c0 y0 c1 y1, cs = c0 ++ c1 ∧ DataW.trod enc P w 0 (fun _ => true) true n f0.type c0 = some y0 ∧ DataW.trod enc P w 0 (fun _ => true) true n f1.type c1 = some y1 := by
  simp only [Bool.and_eq_true, decide_eq_true_eq, beq_iff_eq] at hl
  obtain ⟨hl, e0, e1⟩ := hl
  obtain ⟨y0, y1, n, _, hlen, h0, h1⟩ := trod_struct2 ht h
  refine ⟨n, _, y0, _, y1, ?_, h0, h1⟩
  rw [e0, e1, List.drop_zero, List.take_of_length_le (l := cs.drop _) (by rw [List.length_drop]; omega), List.take_append_drop]
theorem op_struct3 {t : TypeId} {f0 f1 f2 : Field} (ht : P.underlying t = some (.struct #[f0, f1, f2])) (hl : (decide (P.cellsOf t = P.cellsOf f0.type + P.cellsOf f1.type + P.cellsOf f2.type) && (f0.offset == 0 && (f1.offset == P.cellsOf f0.type && f2.offset == P.cellsOf f0.type + P.cellsOf f1.type))) = true) {fuel : Nat} {cs : List Value} {x : DataW H × List MemPlace} (h : DataW.trod enc P w 0 (fun _ => true) true fuel t cs = some x) :
    ∃ n c0 y0 c1 y1 c2 y2, cs = c0 ++ (c1 ++ c2) ∧ DataW.trod enc P w 0 (fun _ => true) true n f0.type c0 = some y0 ∧ DataW.trod enc P w 0 (fun _ => true) true n f1.type c1 = some y1 ∧ DataW.trod enc P w 0 (fun _ => true) true n f2.type c2 = some y2 := by
  simp only [Bool.and_eq_true, decide_eq_true_eq, beq_iff_eq] at hl
  obtain ⟨hl, e0, e1, e2⟩ := hl
  obtain ⟨y0, y1, y2, n, _, hlen, h0, h1, h2⟩ := trod_struct3 ht h
  refine ⟨n, _, y0, _, y1, _, y2, ?_, h0, h1, h2⟩
  rw [e0, e1, e2, List.drop_zero, List.take_of_length_le (l := cs.drop (_ + _)) (by rw [List.length_drop]; omega), ← List.drop_drop, List.take_append_drop, List.take_append_drop]
theorem op_struct4 {t : TypeId} {f0 f1 f2 f3 : Field} (ht : P.underlying t = some (.struct #[f0, f1, f2, f3])) (hl : (decide (P.cellsOf t = P.cellsOf f0.type + P.cellsOf f1.type + P.cellsOf f2.type + P.cellsOf f3.type) && (f0.offset == 0 && (f1.offset == P.cellsOf f0.type && (f2.offset == P.cellsOf f0.type + P.cellsOf f1.type && f3.offset == P.cellsOf f0.type + P.cellsOf f1.type + P.cellsOf f2.type)))) = true) {fuel : Nat} {cs : List Value} {x : DataW H × List MemPlace} (h : DataW.trod enc P w 0 (fun _ => true) true fuel t cs = some x) :
    ∃ n c0 y0 c1 y1 c2 y2 c3 y3, cs = c0 ++ (c1 ++ (c2 ++ c3)) ∧ DataW.trod enc P w 0 (fun _ => true) true n f0.type c0 = some y0 ∧ DataW.trod enc P w 0 (fun _ => true) true n f1.type c1 = some y1 ∧ DataW.trod enc P w 0 (fun _ => true) true n f2.type c2 = some y2 ∧ DataW.trod enc P w 0 (fun _ => true) true n f3.type c3 = some y3 := by
  simp only [Bool.and_eq_true, decide_eq_true_eq, beq_iff_eq] at hl
  obtain ⟨hl, e0, e1, e2, e3⟩ := hl
  obtain ⟨y0, y1, y2, y3, n, _, hlen, h0, h1, h2, h3⟩ := Go.Joins.trod_struct4 ht h
  refine ⟨n, _, y0, _, y1, _, y2, _, y3, ?_, h0, h1, h2, h3⟩
  rw [e0, e1, e2, e3, List.drop_zero, List.take_of_length_le (l := cs.drop (_ + _ + _)) (by rw [List.length_drop]; omega)]
  simp only [← List.drop_drop, List.take_append_drop]
end
theorem op3 {H : Type} {enc : TypeId × Value → H} {W : World} {fuel : Nat} {cs : List Value} {x : DataW H × List MemPlace} (h : DataW.trod enc Tryz.prog W 0 (fun _ => true) true fuel 3 cs = some x) : ∃ (a0 : Int), cs = [.int .i64 a0] := by
  obtain ⟨a, h, _⟩ := DataW.trod_int Tryz.underlying3 h
  exact ⟨a, h⟩
theorem op59 {H : Type} {enc : TypeId × Value → H} {W : World} {fuel : Nat} {cs : List Value} {x : DataW H × List MemPlace} (h : DataW.trod enc Tryz.prog W 0 (fun _ => true) true fuel 59 cs = some x) : ∃ (a0 : Int) (a1 : Int) (a2 : Int), cs = [.int .i64 a0, .int .i64 a1, .int .i64 a2] := by
  obtain ⟨n, s0, y0, s1, y1, s2, y2, rfl, h0, h1, h2⟩ := op_struct3 Tryz.underlying59 (by kernel_rfl) h
  obtain ⟨a0, rfl⟩ := op3 h0
  obtain ⟨a1, rfl⟩ := op3 h1
  obtain ⟨a2, rfl⟩ := op3 h2
  exact ⟨a0, a1, a2, rfl⟩
theorem op22 {H : Type} {enc : TypeId × Value → H} {W : World} {fuel : Nat} {cs : List Value} {x : DataW H × List MemPlace} (h : DataW.trod enc Tryz.prog W 0 (fun _ => true) true fuel 22 cs = some x) : ∃ (A0 : Option Addr) (c0 : Nat) (l0 : List (S59)), cs = [.slice A0 l0.length c0] ∧ l0.length ≤ c0 ∧ Kd.C k59 W A0 l0.length l0 := by
  refine op_slice k59 Tryz.underlying22 (by kernel_rfl) (fun fuel cs x he => ?_) h
  · obtain ⟨a0, a1, a2, rfl⟩ := op59 he
    exact ⟨⟨a0, a1, a2⟩, k59_mk W ⟨a0, a1, a2⟩⟩
theorem op24 {H : Type} {enc : TypeId × Value → H} {W : World} {fuel : Nat} {cs : List Value} {x : DataW H × List MemPlace} (h : DataW.trod enc Tryz.prog W 0 (fun _ => true) true fuel 24 cs = some x) : ∃ (a0 : Int) (a1 : Int) (A2 : Option Addr) (c2 : Nat) (l2 : List (S59)), cs = [.int .i64 a0, .int .i64 a1, .slice A2 l2.length c2] ∧ l2.length ≤ c2 ∧ Kd.C k59 W A2 l2.length l2 := by
  obtain ⟨n, s0, y0, s1, y1, s2, y2, rfl, h0, h1, h2⟩ := op_struct3 Tryz.underlying24 (by kernel_rfl) h
  obtain ⟨a0, rfl⟩ := op3 h0
  obtain ⟨a1, rfl⟩ := op3 h1
  obtain ⟨A2, c2, l2, rfl, f2_0, f2_1⟩ := op22 h2
  exact ⟨a0, a1, A2, c2, l2, rfl, f2_0, f2_1⟩
/-- What the row lists AND the world's shape, handed to the contract. -/
theorem returns_and_shaped {H : Type} {enc : TypeId × Value → H} {a : Assume} {C : Checked} {os : Os} {f : FuncId} {fn : Func} {s : ChangeSpec} {conds : List PathCond} {apart fresh handsOn again : Bool} {X : World → Array Value → Prop}
    (hX : ∀ (w w' : World) (args : Array Value), w.heap = w'.heap → X w args → X w' args)
    (own : ownKnob C.prog.godebug = none) (started : os.Started) (noInit : C.prog.inits.idxOf? f = none) (hfn : C.prog.funcs[f]? = some fn)
    (witness : ∃ (w : World) (tape : Tape) (i : Input), w.os = os ∧ (w.forCall tape i).Shaped C.prog ∧ i.vars = [] ∧ Input.okWide C.prog (w.forCall tape i) .any w.heap.size f i ∧
      ((s.pre enc C.prog fn conds apart (w.forCall tape i).memory i.args ∧ X (w.forCall tape i).memory i.args) ∧ sizedMet enc C.prog fn (OpenSpec.ofChange s) apart (w.forCall tape i).memory i.args) ∧ a.holds C.prog (lone (Frame.enter C.prog f i.args .normal) [] (w.forCall tape i)))
    (contract : ∀ (W : World) (base : Nat) (args : Array Value) (ds gs : List (DataW H)) (before : List MemPlace),
      (∀ (j : Nat) t v, fn.params[j]? = some t → args[j]? = some v → Value.okWide C.prog W .any base t v) →
      DataW.Whole enc C.prog fn.params.toList s.vars apart W args.toList ds gs before →
      conds.all (PathCond.test C.prog ⟨fn.params.toList, ds, s.plain.varTypes C.prog, gs⟩) = true →
      (DataW.weightsEach C.prog (fn.params.toList ++ s.plain.varTypes C.prog) (ds ++ gs)).all (· ≤ reachBytes) = true → (X W args ∧ W.ShapedOpen C.prog) →
      a.holds C.prog (lone (Frame.enter C.prog f args .normal) [] W) →
      Calls C.prog f args W fun e W' => ∃ v, e = .returned v ∧ s.post enc C.prog fn apart fresh handsOn again W args v W') :
    ReturnsInHanded a C os f .any (fun w args => (s.pre enc C.prog fn conds apart w args ∧ X w args) ∧ sizedMet enc C.prog fn (OpenSpec.ofChange s) apart w args) (s.post enc C.prog fn apart fresh handsOn again) := by
  refine returnsInHanded_of_calls own started noInit witness ?_
  intro w tape i _ hsh _ hok hpre hholds
  obtain ⟨_, _, _, fn', hfn', _, _, _, _, hval⟩ := hok
  have e : fn' = fn := Option.some.inj (hfn'.symm.trans hfn)
  subst e
  obtain ⟨⟨⟨ds, gs, before, hw, hc⟩, hx⟩, hz⟩ := hpre
  have hw' := DataW.Whole.of_heap (w' := w.forCall tape i) (by rfl) hw
  refine (contract (w.forCall tape i) w.heap.size i.args ds gs before hval hw' hc (hz.weights hw) ⟨hX _ _ _ (by rfl) hx, hsh⟩ hholds).mono fun e W' ⟨v, he, hp⟩ => ?_
  subst he
  exact ChangeSpec.post_blind hp
theorem star_ : "*" ++ "errors.errorString" = "*errors.errorString" := by decide
theorem starNamed (u : TypeId) (h : Tryz.prog.typeName? 3 u = some "*errors.errorString") : u = 122 :=
  typeName_ptr_named (nm := "errors.errorString") (by rw [star_]; kernel_rfl) (by kernel_rfl) (by decide) u (by rw [star_]; exact h)
open Go.Proofs.YtkjgnnjcjkphbaaGreatDoorW.PrintWords in
theorem laid_w {W : World} (h : laidMetH Tryz.prog Rows.fnExactIndexHasRow.laid W ∧ W.ShapedOpen Tryz.prog) : LaidW W := by
  obtain ⟨h, hs⟩ := h
  rw [MakeChecks.laidMetH_plain _ _ _ (by kernel_rfl)] at h
  have h2 : laidMet Tryz.prog _ W := h.tail.tail
  have h3 : laidMet Tryz.prog _ W := h.tail.tail.tail.tail
  have h4 : laidMet Tryz.prog _ W := h.tail.tail.tail.tail.tail
  obtain ⟨a0, s0, v0, _⟩ := laid_sentinel (g := 2) (ti := 67) (tp := 122) (te := 124) (ts := 9) h3 (by kernel_rfl) (by kernel_rfl) Tryz.underlying67 starNamed Tryz.underlying122 Tryz.underlying124 rfl rfl Tryz.underlying9 (by kernel_rfl) (by kernel_rfl)
  obtain ⟨a1, s1, v1, _⟩ := laid_sentinel (g := 1) (ti := 67) (tp := 122) (te := 124) (ts := 9) h4 (by kernel_rfl) (by kernel_rfl) Tryz.underlying67 starNamed Tryz.underlying122 Tryz.underlying124 rfl rfl Tryz.underlying9 (by kernel_rfl) (by kernel_rfl)
  refine ⟨Lib.tabIs_of_head (g := 5) (t := 135) (n := 20) (by kernel_rfl) (by kernel_rfl) Tryz.underlying135 Tryz.underlying107 (by kernel_rfl) (by kernel_rfl) h2, cell_of_shapedOpen_int (t := 3) (zero := #[.int .i64 0]) hs (by decide +kernel) (by kernel_rfl) rfl (by kernel_rfl) (by kernel_rfl) Tryz.underlying3, ⟨_, by simpa using World.var?_cell (show Tryz.prog.globalNamed "strconv.ErrSyntax" = some 1 by kernel_rfl) v1 0, .inr ⟨_, _, rfl⟩⟩, ⟨_, by simpa using World.var?_cell (show Tryz.prog.globalNamed "strconv.ErrRange" = some 2 by kernel_rfl) v0 0, .inr ⟨_, _, rfl⟩⟩⟩
set_option maxRecDepth 100000 in
theorem lifted (os : Os) (started : os.Started) (H : Type) (enc : TypeId × Value → H) :
    ReturnsInHanded {} Tryz.checked os 3 .any (fun w args => (Rows.fnExactIndexHasSpec.pre enc Tryz.prog Tryz.f3 Rows.fnExactIndexHasRow.domain false w args ∧ laidMetH Tryz.prog Rows.fnExactIndexHasRow.laid w) ∧ sizedMet enc Tryz.prog Tryz.f3 (OpenSpec.ofChange Rows.fnExactIndexHasSpec) false w args) (Rows.fnExactIndexHasSpec.post enc Tryz.prog Tryz.f3 false true false false) := by
  refine returns_and_shaped (C := Tryz.checked) (X := fun w _ => laidMetH Tryz.prog Rows.fnExactIndexHasRow.laid w) (fun _ _ _ hh h => h.of_heap hh) own started (by kernel_rfl) Tryz.func3
    (ChangeSpec.witness_shaped (enc := enc) (C := Tryz.checked) (os := os) (X := fun w _ => laidMetH Tryz.prog Rows.fnExactIndexHasRow.laid w) false (World.laidAll Tryz.prog os Rows.fnExactIndexHasRow.laid) #[.agg #[.int .i64 0, .int .i64 0, .slice none 0 0], .string ByteArray.empty] 16 (World.laidAll_os _ _ _)
      (World.shaped_of_ZipB (by kernel_rfl) (by kernel_rfl)) (by kernel_rfl) (by kernel_rfl) (by kernel_rfl)
      (by rw [MakeChecks.laidMetH_plain _ _ _ (by kernel_rfl)]; exact laidMet_laidAll _ (by kernel_rfl) (by kernel_rfl))) ?_
  intro W base args ds gs before hval0 hW hcnd hsz0 hL _
  have hsz : (DataW.weightsEach Tryz.prog (Tryz.f3.params.toList ++ Rows.fnExactIndexHasSpec.plain.varTypes Tryz.prog) (ds ++ gs)).all (· ≤ reachBytes) = true := hsz0
  have hval : ∀ (j : Nat) t v, Tryz.f3.params[j]? = some t → args[j]? = some v → Value.okWide Tryz.prog W .any base t v := hval0
  have hW' := hW
  obtain ⟨p, q, hA0, hV, rfl, hfz, hnd⟩ := hW
  have hA : DataW.TrodAll enc Tryz.prog W 0 (fun _ => true) true Tryz.f3.params.toList args.toList ds p := hA0
  rw [Tryz.params3] at hA hval hsz
  obtain ⟨v0, vs0, d0, ds0, p0, q0, hargs, rfl, rfl, h0, r0⟩ := trodAll_cons hA
  obtain ⟨v1, vs1, d1, ds1, p1, q1, rfl, rfl, rfl, h1, r1⟩ := trodAll_cons r0
  obtain ⟨rfl, rfl, rfl⟩ := trodAll_nil r1
  obtain rfl : args = #[v0, v1] := by cases args; simp_all
  obtain ⟨rfl, rfl⟩ := trodVars_none hV
  have k0 := h0
  have lt0 : ∀ x ∈ p0, x.block < W.heap.size := by obtain ⟨m, hm⟩ := k0; exact DataW.trod_lt m _ _ _ hm
  obtain ⟨b0, rfl, _⟩ := okWide_struct Tryz.underlying24 (hval 0 24 v0 rfl rfl)
  obtain ⟨fuel0, g0⟩ := h0
  obtain ⟨a0_0, a0_1, A0_2, c0_2, l0_2, e0, m0_2, z0_2⟩ := op24 g0
  have e0' := congrArg List.toArray e0
  simp only [Value.cells, Array.toArray_toList] at e0'
  subst e0'
  obtain ⟨a1, rfl, rfl, rfl, y1⟩ := open_string Tryz.underlying9 (hval 1 9 v1 rfl rfl) h1
  have w1 : a1.size ≤ 140737488351232 := by
    have z := sized_string hsz (j := 1) (t := 9) rfl rfl
    rw [Array.length_toList] at z
    exact z
  clear hA0 hval0 hsz0 hsz
  obtain ⟨k, hk⟩ := Pure.FnExactIndexHas a0_0 a0_1 l0_2 a1 (Nat.le_trans (Nat.le_of_eq rfl) z0_2.2.1) w1
  refine (PFnExactIndexHas.laws_FnExactIndexHas.calls k a0_0 a0_1 _ _ l0_2 a1 true W z0_2 m0_2 (laid_w hL) hk).mono fun e W' ⟨he, bel⟩ => ?_
  subst he
  exact ⟨_, rfl, _, _, _, [], _, [], hW', trodAll_mk1 (shut_bool Tryz.underlying4 _), (trodAll_cons_mk (Below.trod laidOut (by kernel_rfl) (of_decide_eq_true (by kernel_rfl)) k0 bel lt0) (trodAll_cons_mk (shut_string Tryz.underlying9 y1) trodAll_mk0)), rfl, bel.frame _, fun h => by cases h⟩
theorem over : Rows.fnExactIndexHasRow.holds Tryz.pinned (OpenSpec.ofChange Rows.fnExactIndexHasSpec) :=
  OpenClaim.holds_of_wide 3 Tryz.f3 rfl rfl rfl rfl rfl rfl rfl ⟨rfl, rfl, rfl, rfl, rfl⟩ rfl rfl rfl rfl rfl (by kernel_rfl) Tryz.func3 (by kernel_rfl)
    (of_decide_eq_true (by kernel_rfl)) (by unfold Func.isWrapper; first | (rw [if_pos (by decide +kernel)]; kernel_rfl) | (rw [if_neg (by decide +kernel)]; exact ⟨rfl, rfl⟩))
    (fun os started H enc _ => lifted os started H enc)
theorem proved : Rows.FnExactIndexHasSaid := over
theorem card : Claim7.holds Tryz.pinned (.plain (OpenSpec.ofChange Rows.fnExactIndexHasSpec)) Rows.fnExactIndexHasCard :=
  Claim7.holds_tied_plain_at .later [] [.data, .data, .data, .data, .sentinel, .sentinel, .pinned] true (true, "6e1e5c9c72f4a5113a2d6c1dbdce37f3ce46a7978fe1ca1a748c6fb47203ec92") true over (fun _ h => by cases h) (by kernel_rfl) (fun _ h => by cases h) fnExactIndexHas_row_tie rfl ⟨rfl, rfl⟩ (by kernel_rfl) rfl
    (fun f fn hf hfn => by
      obtain rfl : f = 3 := Option.some.inj ((show Tryz.prog.funcNamed "loop.example/purser/laws.FnExactIndexHas" = some 3 by kernel_rfl).symm.trans hf) |>.symm
      obtain rfl : fn = Tryz.f3 := (Option.some.inj (Tryz.func3.symm.trans hfn)).symm
      exact ⟨by kernel_rfl, fun j t ht => by
        rw [Tryz.params3] at ht
        have hm : t ∈ [24, 9] := by simpa using Array.mem_of_getElem? ht
        have hall : ([24, 9].all fun u => !Tryz.prog.wantsStandIn u) = true := by kernel_rfl
        exact (show Tryz.prog.wantsStandIn t = false by simpa using List.all_eq_true.1 hall t hm)⟩)
    (by kernel_rfl)
end Go.Proofs.YtkjgnnjcjkphbaaGreatDoor.fnExactIndexHas
namespace Go.Proofs.YtkjgnnjcjkphbaaGreatDoor
/-- The row, under a short name, for the claim. -/
theorem fnExactIndexHas_holds : Rows.FnExactIndexHasCardSaid := fnExactIndexHas.card
#print axioms fnExactIndexHas_holds
end Go.Proofs.YtkjgnnjcjkphbaaGreatDoor
