/- What is left of the law FnExactSumOf, proved: the printed function answers true at every argument within the bounds of the statement. No further condition. -/
import Derived.Test.YtlmjkafijdakaaaPFnExactSumOfx1
import Derived.Test.YtlmjkafijdakaaaWSized
set_option linter.unusedVariables false
set_option linter.unusedSimpArgs false
namespace Go.Proofs.Ytlmjkafijdakaaa
/-- The printed row asks for this word by its short name. -/
theorem PrintWords.sized_ints : type_of% @Go.Proofs.YtlmjkafijdakaaaW.PrintWords.sized_ints := @Go.Proofs.YtlmjkafijdakaaaW.PrintWords.sized_ints
end Go.Proofs.Ytlmjkafijdakaaa
namespace Go.Proofs.Ytlmjkafijdakaaa.Pure
open Go.RowKit Go.Proofs.Ytlmjkafijdakaaa.PFnExactSumOf Go.Proofs.YtlmjkafijdakaaaW.PrintWords Go.Proofs.YtlmjkafijdakaaaW.PrintLast Go.Proofs.YtlmjkafijdakaaaW.PrintMore

-- ev
/-! Ways to reckon a printed function from some number of rounds on. -/
theorem Ev.pos {α : Type} {c : Prop} {d : Decidable c} {f g : Nat → Option α} {r : α} (h : c) (e : Ev f r) : Ev (fun k => if c then f k else g k) r := Ev.congr (fun _ => if_pos h) e
theorem Ev.neg {α : Type} {c : Prop} {d : Decidable c} {f g : Nat → Option α} {r : α} (h : ¬ c) (e : Ev g r) : Ev (fun k => if c then f k else g k) r := Ev.congr (fun _ => if_neg h) e
theorem Ev.con {α : Type} {x : Option α} {r : α} (h : x = some r) : Ev (fun _ => x) r := ⟨0, fun _ _ => h⟩
theorem Ev.eq {α : Type} {r r' : α} (h : r' = r) : Ev (fun _ => some r') r := ⟨0, fun _ _ => by rw [h]⟩
theorem Ev.re {α : Type} {g : Nat → Option α} {r r' : α} (e : Ev g r') (h : r' = r) : Ev g r := h ▸ e
theorem Ev.down {α : Type} {g : Nat → Option α} {r : α} (e : Ev (fun k => g (k + 1)) r) : Ev g r := Ev.step (fun _ => rfl) e
theorem Ev.one {α : Type} {g : Nat → Option α} {r r' : α} (a : Ev g r) (b : Ev g r') : r = r' := by
  obtain ⟨K, a⟩ := a
  obtain ⟨K', b⟩ := b
  have h := a (K + K') (by omega)
  rw [b (K + K') (by omega)] at h
  exact (Option.some.inj h).symm
theorem w64 {n : Int} (h0 : -9223372036854775808 ≤ n) (h1 : n ≤ 9223372036854775807) : wrap64 n = n := by unfold wrap64; omega
/-- p of i, i + 1, .., d of them. -/
def allFrom (p : Nat → Bool) : Nat → Nat → Bool
  | 0, _ => true
  | d + 1, i => p i && allFrom p d (i + 1)
theorem allFrom_iff {p : Nat → Bool} : ∀ {d i : Nat}, allFrom p d i = true ↔ ∀ j, i ≤ j → j < i + d → p j = true
  | 0, i => by simp only [allFrom, true_iff]; intro j h1 h2; omega
  | d + 1, i => by
    simp only [allFrom, Bool.and_eq_true, allFrom_iff (d := d)]
    constructor
    · intro h j h1 h2
      rcases Nat.eq_or_lt_of_le h1 with e | e
      · exact e ▸ h.1
      · exact h.2 j e (by omega)
    · intro h
      exact ⟨h i (Nat.le_refl _) (by omega), fun j h1 h2 => h j (by omega) (by omega)⟩
theorem allFrom_congr {p q : Nat → Bool} : ∀ {d i : Nat}, (∀ j, i ≤ j → j < i + d → p j = q j) → allFrom p d i = allFrom q d i
  | 0, _, _ => rfl
  | d + 1, i, h => by
    simp only [allFrom]
    rw [h i (Nat.le_refl _) (by omega), allFrom_congr (fun j h1 h2 => h j (by omega) (by omega))]
/-- A loop that looks whether p holds at each place. -/
theorem check_loop {F : Nat → Int → Option Bool} {p : Nat → Bool} {n : Nat} (hend : Ev (fun k => F k (n : Int)) true)
    (hgo : ∀ i : Nat, i < n → p i = true → ∀ r, Ev (fun k => F k ((i + 1 : Nat) : Int)) r → Ev (fun k => F k (i : Int)) r)
    (hno : ∀ i : Nat, i < n → p i = false → Ev (fun k => F k (i : Int)) false) : ∀ d i : Nat, i + d = n → Ev (fun k => F k (i : Int)) (allFrom p d i)
  | 0, i, h => by
    obtain rfl : i = n := by omega
    exact hend
  | d + 1, i, h => by
    simp only [allFrom]
    cases hp : p i with
    | true => exact hgo i (by omega) hp _ (check_loop hend hgo hno d (i + 1) (by omega))
    | false => exact hno i (by omega) hp
/-- A loop that goes on from place to place. -/
theorem step_loop {α : Type} {F : Nat → Int → Option α} {R : Nat → α} {n : Nat} (hend : Ev (fun k => F k (n : Int)) (R n))
    (hgo : ∀ i : Nat, i < n → Ev (fun k => F k ((i + 1 : Nat) : Int)) (R (i + 1)) → Ev (fun k => F k (i : Int)) (R i)) : ∀ d i : Nat, i + d = n → Ev (fun k => F k (i : Int)) (R i)
  | 0, i, h => by
    obtain rfl : i = n := by omega
    exact hend
  | d + 1, i, h => hgo i (by omega) (step_loop hend hgo d (i + 1) (by omega))
theorem rd_nat (l : List Int) (i : Nat) : rd l (i : Int) = l.getD i 0 := by unfold rd; rw [Int.toNat_natCast]
theorem getD_of_lt {α : Type} {l : List α} {i : Nat} {d : α} (h : i < l.length) : l.getD i d = l[i] := by simp [List.getD, h]
theorem notGe (a b : Int) : (!decide (a ≥ b)) = decide (a < b) := by rw [Bool.eq_iff_iff]; simp
theorem notLe (a b : Int) : (!decide (b ≤ a)) = decide (a < b) := by rw [Bool.eq_iff_iff]; simp

-- strm
/-! Texts as lists of numbers. -/
theorem bytesOf_append (a b : ByteArray) : bytesOf (a ++ b) = bytesOf a ++ bytesOf b := by
  unfold bytesOf
  rw [ByteArray.data_append, Array.toList_append, List.map_append]
theorem bytesOf_str {l : List Int} (h : ∀ x ∈ l, 0 ≤ x ∧ x ≤ 255) : bytesOf (strOfNums l) = l := by
  unfold bytesOf
  rw [strOfNums_data, List.map_map]
  conv => rhs; rw [← List.map_id l]
  apply List.map_congr_left
  intro x hx
  have := h x hx
  simp only [Function.comp, id]
  rw [UInt8.toNat_ofNat_of_lt' (by simp only [UInt8.size]; omega)]
  omega
theorem bytesOf_inj {a b : ByteArray} (h : bytesOf a = bytesOf b) : a = b := by
  unfold bytesOf at h
  apply ByteArray.ext
  apply Array.toList_inj.1
  have inj : ∀ l l' : List UInt8, l.map (fun b => (b.toNat : Int)) = l'.map (fun b => (b.toNat : Int)) → l = l' := by
    intro l
    induction l with
    | nil => intro l' h; cases l' with
      | nil => rfl
      | cons x l' => simp at h
    | cons x l ih =>
      intro l' h
      cases l' with
      | nil => simp at h
      | cons y l' =>
        simp only [List.map_cons, List.cons.injEq] at h
        have : x = y := UInt8.toNat_inj.1 (by omega)
        rw [this, ih l' h.2]
  exact inj _ _ h
theorem bytesOf_range (s : ByteArray) : ∀ x ∈ bytesOf s, 0 ≤ x ∧ x ≤ 255 := by
  intro x hx
  unfold bytesOf at hx
  obtain ⟨b, _, rfl⟩ := List.mem_map.1 hx
  have := b.toNat_lt
  omega
theorem str_bytesOf (s : ByteArray) : strOfNums (bytesOf s) = s := bytesOf_inj (bytesOf_str (bytesOf_range s))
theorem str_append (a b : List Int) : strOfNums a ++ strOfNums b = strOfNums (a ++ b) := by
  apply ByteArray.ext
  apply Array.toList_inj.1
  rw [ByteArray.data_append, Array.toList_append, strOfNums_data, strOfNums_data, strOfNums_data, List.map_append]
theorem str_inj {a b : List Int} (ha : ∀ x ∈ a, 0 ≤ x ∧ x ≤ 255) (hb : ∀ x ∈ b, 0 ≤ x ∧ x ≤ 255) (h : strOfNums a = strOfNums b) : a = b := by
  rw [← bytesOf_str ha, h, bytesOf_str hb]
theorem bytesOf_extract (s : ByteArray) (i j : Nat) : bytesOf (s.extract i j) = ((bytesOf s).take j).drop i := by
  unfold bytesOf
  rw [ByteArray.data_extract, Array.toList_extract, List.extract_eq_take_drop, List.map_take, List.map_drop, List.drop_take]

-- summ
def sum1 (n b : Int) : Int := (31 * n + b + 1) % 9973
def sumFrom (n : Int) (l : List Int) : Int := l.foldl sum1 n
def sumL (l : List Int) : Int := sumFrom 7 l
theorem sum1_range (n b : Int) : 0 ≤ sum1 n b ∧ sum1 n b < 9973 := by unfold sum1; omega
theorem sumFrom_range {n : Int} (l : List Int) (h : 0 ≤ n ∧ n < 9973) : 0 ≤ sumFrom n l ∧ sumFrom n l < 9973 := by
  unfold sumFrom
  induction l generalizing n with
  | nil => exact h
  | cons b l ih => exact ih (sum1_range n b)
theorem sumFrom_append (n : Int) (a b : List Int) : sumFrom n (a ++ b) = sumFrom (sumFrom n a) b := List.foldl_append
theorem sum1_inj {n m b : Int} (hn : 0 ≤ n ∧ n < 9973) (hm : 0 ≤ m ∧ m < 9973) (h : sum1 n b = sum1 m b) : n = m := by unfold sum1 at h; omega
theorem sumFrom_inj {n m : Int} (l : List Int) (hn : 0 ≤ n ∧ n < 9973) (hm : 0 ≤ m ∧ m < 9973) (h : sumFrom n l = sumFrom m l) : n = m := by
  unfold sumFrom at h
  induction l generalizing n m with
  | nil => exact h
  | cons b l ih => exact sum1_inj hn hm (ih (sum1_range n b) (sum1_range m b) h)
/-- One byte changed is found. -/
theorem sumL_byte (p q : List Int) {c d : Int} (hc : 0 ≤ c ∧ c ≤ 255) (hd : 0 ≤ d ∧ d ≤ 255) (h : c ≠ d) : sumL (p ++ [c] ++ q) ≠ sumL (p ++ [d] ++ q) := by
  intro e
  unfold sumL at e
  rw [sumFrom_append, sumFrom_append, sumFrom_append, sumFrom_append] at e
  have e2 := sumFrom_inj q (sumFrom_range [c] (sumFrom_range p (by omega))) (sumFrom_range [d] (sumFrom_range p (by omega))) e
  have := sumFrom_range p (n := 7) (by omega)
  simp only [sumFrom, List.foldl_cons, List.foldl_nil] at e2 this
  unfold sum1 at e2
  omega

-- spec_SumOf
theorem spec_SumOf_v (s : ByteArray) (hs : s.size ≤ 140737488351232) : Ev (fun k => spec_SumOf.f k s) (sumL (bytesOf s)) := by
  unfold spec_SumOf.f
  have hl := bytesOf_length s
  have key : ∀ d i : Nat, i + d = s.size → Ev (fun k => spec_SumOf.l0 k s (sumL ((bytesOf s).take i)) (i : Int)) (sumL (bytesOf s)) := by
    intro d
    induction d with
    | zero =>
      intro i hi
      refine Ev.down ?_
      simp only [spec_SumOf.l0]
      refine Ev.neg (by omega) (Ev.eq ?_)
      rw [List.take_of_length_le (by omega)]
    | succ d ih =>
      intro i hi
      have hr := ih (i + 1) (by omega)
      have hn := sumFrom_range (n := 7) ((bytesOf s).take i) (by omega)
      have hb := bt_range s i
      have e : bt s i = (bytesOf s)[i]'(by omega) := by rw [← rd_bytesOf, rd_nat, getD_of_lt (by omega)]
      rw [List.take_succ_eq_append_getElem (by omega), ← e] at hr
      unfold sumL at hr ⊢
      rw [sumFrom_append] at hr
      refine Ev.down ?_
      simp only [spec_SumOf.l0]
      refine Ev.pos (by omega) (Ev.pos (by omega) ?_)
      rw [w64 (n := bt s i) (by omega) (by omega), w64 (n := 31 * _) (by omega) (by omega), w64 (n := 31 * _ + _) (by omega) (by omega), w64 (n := _ + 1) (by omega) (by omega), w64 (n := (i : Int) + 1) (by omega) (by omega), Int.tmod_eq_emod_of_nonneg (by omega)]
      exact hr
  exact key s.size 0 (by omega)

-- impl_SumOf
theorem impl_SumOf_v (s : ByteArray) (hs : s.size ≤ 140737488351232) : Ev (fun k => impl_SumOf.f k s) (sumL (bytesOf s)) := by
  unfold impl_SumOf.f
  have hl := bytesOf_length s
  have key : ∀ d i : Nat, i + d = s.size → Ev (fun k => impl_SumOf.l0 k s (sumL ((bytesOf s).take i)) (i : Int)) (sumL (bytesOf s)) := by
    intro d
    induction d with
    | zero =>
      intro i hi
      refine Ev.down ?_
      simp only [impl_SumOf.l0]
      refine Ev.neg (by omega) (Ev.eq ?_)
      rw [List.take_of_length_le (by omega)]
    | succ d ih =>
      intro i hi
      have hr := ih (i + 1) (by omega)
      have hn := sumFrom_range (n := 7) ((bytesOf s).take i) (by omega)
      have hb := bt_range s i
      have e : bt s i = (bytesOf s)[i]'(by omega) := by rw [← rd_bytesOf, rd_nat, getD_of_lt (by omega)]
      rw [List.take_succ_eq_append_getElem (by omega), ← e] at hr
      unfold sumL at hr ⊢
      rw [sumFrom_append] at hr
      refine Ev.down ?_
      simp only [impl_SumOf.l0]
      refine Ev.pos (by omega) (Ev.pos (by omega) ?_)
      rw [w64 (n := bt s i) (by omega) (by omega), w64 (n := 31 * _) (by omega) (by omega), w64 (n := 31 * _ + _) (by omega) (by omega), w64 (n := _ + 1) (by omega) (by omega), w64 (n := (i : Int) + 1) (by omega) (by omega), Int.tmod_eq_emod_of_nonneg (by omega)]
      exact hr
  exact key s.size 0 (by omega)

-- the law
theorem FnExactSumOf : laws_FnExactSumOf.Pure := by
  intro s hs
  refine Ev.rounds (g := fun k => laws_FnExactSumOf.f k s) ?_
  unfold laws_FnExactSumOf.f
  by_cases h : (s.size : Int) > 1048576
  · exact Ev.pos h (Ev.now _)
  · exact Ev.neg h (Ev.bind (spec_SumOf_v s hs) (Ev.bind (impl_SumOf_v s hs) (Ev.pos rfl (Ev.now _))))

end Go.Proofs.Ytlmjkafijdakaaa.Pure
