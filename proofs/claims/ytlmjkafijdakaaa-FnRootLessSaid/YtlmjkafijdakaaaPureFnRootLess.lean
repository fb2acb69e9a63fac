/- What is left of the law FnRootLess, proved: the printed function answers true at every argument within the bounds of the statement. No further condition. -/
import Derived.Test.YtlmjkafijdakaaaPFnRootLessx3
import Derived.Test.YtlmjkafijdakaaaWSized
set_option linter.unusedVariables false
set_option linter.unusedSimpArgs false
namespace Go.Proofs.Ytlmjkafijdakaaa
/-- The printed row asks for this word by its short name. -/
theorem PrintWords.sized_ints : type_of% @Go.Proofs.YtlmjkafijdakaaaW.PrintWords.sized_ints := @Go.Proofs.YtlmjkafijdakaaaW.PrintWords.sized_ints
end Go.Proofs.Ytlmjkafijdakaaa
namespace Go.Proofs.Ytlmjkafijdakaaa.Pure
open Go.RowKit Go.Proofs.Ytlmjkafijdakaaa.PFnRootLess Go.Proofs.YtlmjkafijdakaaaW.PrintWords Go.Proofs.YtlmjkafijdakaaaW.PrintLast Go.Proofs.YtlmjkafijdakaaaW.PrintMore

-- ev
/-! Ways to reckon a printed function from some number of rounds on. -/
theorem Ev.pos {α : Type} {c : Prop} {d : Decidable c} {f g : Nat → Option α} {r : α} (h : c) (e : Ev f r) : Ev (fun k => if c then f k else g k) r := Ev.congr (fun _ => if_pos h) e
theorem Ev.neg {α : Type} {c : Prop} {d : Decidable c} {f g : Nat → Option α} {r : α} (h : ¬ c) (e : Ev g r) : Ev (fun k => if c then f k else g k) r := Ev.congr (fun _ => if_neg h) e
theorem Ev.con {α : Type} {x : Option α} {r : α} (h : x = some r) : Ev (fun _ => x) r := ⟨0, fun _ _ => h⟩
theorem Ev.eq {α : Type} {r r' : α} (h : r' = r) : Ev (fun _ => some r') r := ⟨0, fun _ _ => by rw [h]⟩
theorem Ev.re {α : Type} {g : Nat → Option α} {r r' : α} (e : Ev g r') (h : r' = r) : Ev g r := h ▸ e
theorem Ev.down {α : Type} {g : Nat → Option α} {r : α} (e : Ev (fun k => g (k + 1)) r) : Ev g r := Ev.step (fun _ => rfl) e
theorem Ev.one {α : Type} {g : Nat → Option α} {r r' : α} (a : Ev g r) (b : Ev g r') : r = r' := by
  obtain ⟨K, a⟩ := a
  obtain ⟨K', b⟩ := b
  have h := a (K + K') (by omega)
  rw [b (K + K') (by omega)] at h
  exact (Option.some.inj h).symm
theorem w64 {n : Int} (h0 : -9223372036854775808 ≤ n) (h1 : n ≤ 9223372036854775807) : wrap64 n = n := by unfold wrap64; omega
/-- p of i, i + 1, .., d of them. -/
def allFrom (p : Nat → Bool) : Nat → Nat → Bool
  | 0, _ => true
  | d + 1, i => p i && allFrom p d (i + 1)
theorem allFrom_iff {p : Nat → Bool} : ∀ {d i : Nat}, allFrom p d i = true ↔ ∀ j, i ≤ j → j < i + d → p j = true
  | 0, i => by simp only [allFrom, true_iff]; intro j h1 h2; omega
  | d + 1, i => by
    simp only [allFrom, Bool.and_eq_true, allFrom_iff (d := d)]
    constructor
    · intro h j h1 h2
      rcases Nat.eq_or_lt_of_le h1 with e | e
      · exact e ▸ h.1
      · exact h.2 j e (by omega)
    · intro h
      exact ⟨h i (Nat.le_refl _) (by omega), fun j h1 h2 => h j (by omega) (by omega)⟩
theorem allFrom_congr {p q : Nat → Bool} : ∀ {d i : Nat}, (∀ j, i ≤ j → j < i + d → p j = q j) → allFrom p d i = allFrom q d i
  | 0, _, _ => rfl
  | d + 1, i, h => by
    simp only [allFrom]
    rw [h i (Nat.le_refl _) (by omega), allFrom_congr (fun j h1 h2 => h j (by omega) (by omega))]
/-- A loop that looks whether p holds at each place. -/
theorem check_loop {F : Nat → Int → Option Bool} {p : Nat → Bool} {n : Nat} (hend : Ev (fun k => F k (n : Int)) true)
    (hgo : ∀ i : Nat, i < n → p i = true → ∀ r, Ev (fun k => F k ((i + 1 : Nat) : Int)) r → Ev (fun k => F k (i : Int)) r)
    (hno : ∀ i : Nat, i < n → p i = false → Ev (fun k => F k (i : Int)) false) : ∀ d i : Nat, i + d = n → Ev (fun k => F k (i : Int)) (allFrom p d i)
  | 0, i, h => by
    obtain rfl : i = n := by omega
    exact hend
  | d + 1, i, h => by
    simp only [allFrom]
    cases hp : p i with
    | true => exact hgo i (by omega) hp _ (check_loop hend hgo hno d (i + 1) (by omega))
    | false => exact hno i (by omega) hp
/-- A loop that goes on from place to place. -/
theorem step_loop {α : Type} {F : Nat → Int → Option α} {R : Nat → α} {n : Nat} (hend : Ev (fun k => F k (n : Int)) (R n))
    (hgo : ∀ i : Nat, i < n → Ev (fun k => F k ((i + 1 : Nat) : Int)) (R (i + 1)) → Ev (fun k => F k (i : Int)) (R i)) : ∀ d i : Nat, i + d = n → Ev (fun k => F k (i : Int)) (R i)
  | 0, i, h => by
    obtain rfl : i = n := by omega
    exact hend
  | d + 1, i, h => hgo i (by omega) (step_loop hend hgo d (i + 1) (by omega))
theorem rd_nat (l : List Int) (i : Nat) : rd l (i : Int) = l.getD i 0 := by unfold rd; rw [Int.toNat_natCast]
theorem getD_of_lt {α : Type} {l : List α} {i : Nat} {d : α} (h : i < l.length) : l.getD i d = l[i] := by simp [List.getD, h]
theorem notGe (a b : Int) : (!decide (a ≥ b)) = decide (a < b) := by rw [Bool.eq_iff_iff]; simp
theorem notLe (a b : Int) : (!decide (b ≤ a)) = decide (a < b) := by rw [Bool.eq_iff_iff]; simp

-- keys
/-! Keys. -/
def kOk1 (l : List Int) (i : Nat) : Bool := (decide (1 ≤ l.getD i 0) && decide (l.getD i 0 ≤ 6)) && (i == 0 || decide (l.getD (i - 1) 0 < l.getD i 0))
/-- The keys are ok: 1 to 6, ascending. -/
def keysOk (l : List Int) : Bool := allFrom (kOk1 l) l.length 0
def KOk (l : List Int) : Prop := l.Pairwise (· < ·) ∧ ∀ x ∈ l, 1 ≤ x ∧ x ≤ 6
theorem kOk1_iff {l : List Int} {i : Nat} : kOk1 l i = true ↔ (1 ≤ l.getD i 0 ∧ l.getD i 0 ≤ 6) ∧ (i = 0 ∨ l.getD (i - 1) 0 < l.getD i 0) := by
  simp [kOk1]
/-- From one to the next ascending is ascending. -/
theorem asc_of_next {l : List Int} (h : ∀ i, 0 < i → i < l.length → l.getD (i - 1) 0 < l.getD i 0) : ∀ j i, i < j → j < l.length → l.getD i 0 < l.getD j 0 := by
  intro j
  induction j with
  | zero => intro i h1; omega
  | succ j ih =>
    intro i h1 h2
    have hj := h (j + 1) (by omega) h2
    simp only [Nat.add_sub_cancel] at hj
    rcases Nat.eq_or_lt_of_le (Nat.le_of_lt_succ h1) with e | e
    · rw [e]; exact hj
    · have := ih i e (by omega); omega
theorem keysOk_iff {l : List Int} : keysOk l = true ↔ KOk l := by
  unfold keysOk KOk
  rw [allFrom_iff]
  constructor
  · intro h
    have h' : ∀ j, j < l.length → _ := fun j hj => kOk1_iff.1 (h j (Nat.zero_le _) (by omega))
    refine ⟨?_, ?_⟩
    · rw [List.pairwise_iff_getElem]
      intro i j hi hj hij
      have := asc_of_next (fun i hi0 hi => (h' i hi).2.resolve_left (by omega)) j i hij hj
      rwa [getD_of_lt hi, getD_of_lt hj] at this
    · intro x hx
      obtain ⟨i, hi, rfl⟩ := List.getElem_of_mem hx
      have := (h' i hi).1
      rwa [getD_of_lt hi] at this
  · rintro ⟨h1, h2⟩ j - hj
    have hj : j < l.length := by omega
    rw [kOk1_iff]
    refine ⟨?_, ?_⟩
    · rw [getD_of_lt hj]; exact h2 _ (List.getElem_mem _)
    · rcases Nat.eq_zero_or_pos j with e | e
      · exact .inl e
      · refine .inr ?_
        rw [getD_of_lt hj, getD_of_lt (by omega)]
        exact List.pairwise_iff_getElem.1 h1 _ _ _ _ (by omega)
instance (l : List Int) : Decidable (KOk l) := decidable_of_iff _ keysOk_iff
/-- How many of a are in b. -/
def bothN (a b : List Int) : Nat := (a.filter (fun x => b.contains x)).length
def both (a b : List Int) : Int := if keysOk a = true ∧ keysOk b = true then (bothN a b : Int) else -1
theorem bothN_le (a b : List Int) : bothN a b ≤ a.length := List.length_filter_le _ _
/-- All ok keys. -/
def allKeys : List (List Int) := [1, 2, 3, 4, 5, 6].foldr (fun x ls => ls.map (x :: ·) ++ ls) [[]]
theorem asc_mem : ∀ (us : List Int) (l : List Int), us.Pairwise (· < ·) → l.Pairwise (· < ·) → (∀ x ∈ l, x ∈ us) → l ∈ us.foldr (fun x ls => ls.map (x :: ·) ++ ls) [[]]
  | [], l, _, _, h => by
    cases l with
    | nil => simp
    | cons a l => have := h a (by simp); simp at this
  | u :: us, l, hu, hl, h => by
    simp only [List.foldr_cons, List.mem_append, List.mem_map]
    rw [List.pairwise_cons] at hu
    cases l with
    | nil => exact .inr (asc_mem us [] hu.2 List.Pairwise.nil (by simp))
    | cons a l =>
      rw [List.pairwise_cons] at hl
      by_cases e : a = u
      · subst e
        refine .inl ⟨l, asc_mem us l hu.2 hl.2 (fun x hx => ?_), rfl⟩
        have h1 := hl.1 x hx
        have h2 := h x (by simp [hx])
        simp only [List.mem_cons] at h2
        rcases h2 with h2 | h2
        · omega
        · exact h2
      · refine .inr (asc_mem us (a :: l) hu.2 (List.pairwise_cons.2 hl) (fun x hx => ?_))
        have h2 := h x hx
        simp only [List.mem_cons] at h2 hx
        rcases h2 with h2 | h2
        · exfalso
          have ha := h a (by simp)
          simp only [List.mem_cons] at ha
          rcases ha with ha | ha
          · exact e ha
          · have := hu.1 a ha
            rcases hx with hx | hx
            · omega
            · have := hl.1 x hx; omega
        · exact h2
theorem mem_allKeys {l : List Int} (h : KOk l) : l ∈ allKeys := by
  refine asc_mem [1, 2, 3, 4, 5, 6] l (by decide) h.1 (fun x hx => ?_)
  have := h.2 x hx
  simp only [List.mem_cons, List.not_mem_nil, or_false]
  omega
theorem KOk.len {l : List Int} (h : KOk l) : l.length ≤ 6 := by
  have : ∀ l ∈ allKeys, l.length ≤ 6 := by decide
  exact this l (mem_allKeys h)
theorem KOk.nodup {l : List Int} (h : KOk l) : l.Nodup := h.1.imp (fun h => by omega)

-- rootm
def rootOk (num : Int) (ks : List Int) (need : Int) : Bool := (decide (1 ≤ num) && decide (num ≤ 9)) && (keysOk ks && (decide (1 ≤ need) && decide (need ≤ ks.length)))
def rootSigned (num : Int) (ks : List Int) (need : Int) (sig : List Int) : Bool := rootOk num ks need && (keysOk sig && decide (need ≤ bothN ks sig))
theorem rootOk_iff {num : Int} {ks : List Int} {need : Int} : rootOk num ks need = true ↔ (1 ≤ num ∧ num ≤ 9) ∧ KOk ks ∧ 1 ≤ need ∧ need ≤ ks.length := by
  unfold rootOk
  simp only [Bool.and_eq_true, decide_eq_true_eq, keysOk_iff]
theorem rootSigned_iff {num : Int} {ks : List Int} {need : Int} {sig : List Int} : rootSigned num ks need sig = true ↔ rootOk num ks need = true ∧ KOk sig ∧ need ≤ bothN ks sig := by
  unfold rootSigned
  simp only [Bool.and_eq_true, decide_eq_true_eq, keysOk_iff]
theorem both_ok {a b : List Int} (ha : KOk a) (hb : KOk b) : both a b = (bothN a b : Int) := by unfold both; rw [if_pos ⟨keysOk_iff.2 ha, keysOk_iff.2 hb⟩]
/-- One root is signed, too, and is the next. -/
def rootNext (num : Int) (ks : List Int) (need : Int) (num' : Int) (ks' : List Int) (need' : Int) (sig : List Int) : Bool := rootSigned num ks need sig && (rootSigned num' ks' need' sig && decide (num' = num + 1))

-- spec_l6In
theorem l6In_v (a b c : Int) : spec_l6In.f a b c = some (decide (b ≤ a) && decide (a ≤ c)) := by
  unfold spec_l6In.f
  by_cases h : a ≥ b
  · rw [if_pos h]; simp; omega
  · rw [if_neg h]; simp; omega

-- spec_KeysOk
theorem spec_KeysOk_v (l : List Int) (hl : l.length ≤ 17592186044416) : Ev (fun k => spec_KeysOk.f k l) (keysOk l) := by
  unfold spec_KeysOk.f
  refine check_loop (F := fun k i => spec_KeysOk.l0 k l i) (p := kOk1 l) (n := l.length) ?_ ?_ ?_ l.length 0 (by omega)
  · refine Ev.down ?_
    simp only [spec_KeysOk.l0]
    exact Ev.neg (by omega) (Ev.now _)
  · intro i hi hp r hr
    obtain ⟨⟨h1, h2⟩, h3⟩ := kOk1_iff.1 hp
    refine Ev.down ?_
    simp only [spec_KeysOk.l0]
    refine Ev.pos (by omega) (Ev.pos (by omega) (Ev.bind (Ev.con (l6In_v _ _ _)) ?_))
    rw [rd_nat]
    refine Ev.pos (by simp only [Bool.and_eq_true, decide_eq_true_eq]; omega) ?_
    by_cases h0 : i = 0
    · refine Ev.neg (by omega) ?_
      rw [w64 (by omega) (by omega)]
      exact hr
    · refine Ev.pos (by omega) ?_
      rw [w64 (n := (i : Int) - 1) (by omega) (by omega), w64 (n := (i : Int) + 1) (by omega) (by omega)]
      refine Ev.pos (by omega) (Ev.pos (by omega) (Ev.neg ?_ hr))
      rw [show (i : Int) - 1 = ((i - 1 : Nat) : Int) by omega, rd_nat]
      have := h3.resolve_left h0
      omega
  · intro i hi hp
    have hp' : ¬ kOk1 l i = true := by simp [hp]
    rw [kOk1_iff] at hp'
    refine Ev.down ?_
    simp only [spec_KeysOk.l0]
    refine Ev.pos (by omega) (Ev.pos (by omega) (Ev.bind (Ev.con (l6In_v _ _ _)) ?_))
    rw [rd_nat]
    by_cases hr : 1 ≤ l.getD i 0 ∧ l.getD i 0 ≤ 6
    · refine Ev.pos (by simp only [Bool.and_eq_true, decide_eq_true_eq]; omega) ?_
      have h0 : i ≠ 0 := fun e => hp' ⟨hr, .inl e⟩
      refine Ev.pos (by omega) ?_
      rw [w64 (n := (i : Int) - 1) (by omega) (by omega)]
      refine Ev.pos (by omega) (Ev.pos (by omega) (Ev.pos ?_ (Ev.now _)))
      rw [show (i : Int) - 1 = ((i - 1 : Nat) : Int) by omega, rd_nat]
      have : ¬ l.getD (i - 1) 0 < l.getD i 0 := fun e => hp' ⟨hr, .inr e⟩
      omega
    · exact Ev.neg (by simp only [Bool.and_eq_true, decide_eq_true_eq]; exact hr) (Ev.now _)

-- spec_RootOk
theorem spec_RootOk_v (num : Int) (ks : List Int) (need : Int) (hl : ks.length ≤ 17592186044416) : Ev (fun k => spec_RootOk.f k num ks need) (rootOk num ks need) := by
  unfold spec_RootOk.f rootOk
  refine Ev.bind (Ev.con (l6In_v _ _ _)) ?_
  by_cases h1 : (decide (1 ≤ num) && decide (num ≤ 9)) = true
  · refine Ev.pos h1 (Ev.bind (spec_KeysOk_v ks hl) ?_)
    by_cases h2 : keysOk ks = true
    · refine Ev.pos h2 (Ev.bind (Ev.con (l6In_v _ _ _)) (Ev.eq ?_))
      rw [h1, h2]; rfl
    · refine Ev.neg h2 (Ev.eq ?_)
      rw [Bool.not_eq_true] at h2
      rw [h1, h2]; rfl
  · refine Ev.neg h1 (Ev.eq ?_)
    rw [Bool.not_eq_true] at h1
    rw [h1]; rfl

-- impl_in
theorem in_v (a b c : Int) : impl_in.f a b c = some (decide (b ≤ a) && decide (a ≤ c)) := by
  unfold impl_in.f
  by_cases h : a ≥ b
  · rw [if_pos h]; simp; omega
  · rw [if_neg h]; simp; omega

-- impl_KeysOk
theorem impl_KeysOk_v (l : List Int) (hl : l.length ≤ 17592186044416) : Ev (fun k => impl_KeysOk.f k l) (keysOk l) := by
  unfold impl_KeysOk.f
  refine check_loop (F := fun k i => impl_KeysOk.l0 k l l l.length i) (p := kOk1 l) (n := l.length) ?_ ?_ ?_ l.length 0 (by omega)
  · refine Ev.down ?_
    simp only [impl_KeysOk.l0]
    exact Ev.neg (by omega) (Ev.now _)
  · intro i hi hp r hr
    obtain ⟨⟨h1, h2⟩, h3⟩ := kOk1_iff.1 hp
    refine Ev.down ?_
    simp only [impl_KeysOk.l0]
    refine Ev.pos (by omega) (Ev.pos (by omega) (Ev.pos (by omega) (Ev.bind (Ev.con (in_v _ _ _)) ?_)))
    rw [rd_nat]
    refine Ev.pos (by simp only [Bool.and_eq_true, decide_eq_true_eq]; omega) ?_
    by_cases h0 : i = 0
    · refine Ev.neg (by omega) ?_
      rw [w64 (by omega) (by omega)]
      exact hr
    · refine Ev.pos (by omega) ?_
      rw [w64 (n := (i : Int) - 1) (by omega) (by omega), w64 (n := (i : Int) + 1) (by omega) (by omega)]
      refine Ev.pos (by omega) (Ev.pos (by omega) (Ev.neg ?_ hr))
      rw [show (i : Int) - 1 = ((i - 1 : Nat) : Int) by omega, rd_nat]
      have := h3.resolve_left h0
      omega
  · intro i hi hp
    have hp' : ¬ kOk1 l i = true := by simp [hp]
    rw [kOk1_iff] at hp'
    refine Ev.down ?_
    simp only [impl_KeysOk.l0]
    refine Ev.pos (by omega) (Ev.pos (by omega) (Ev.pos (by omega) (Ev.bind (Ev.con (in_v _ _ _)) ?_)))
    rw [rd_nat]
    by_cases hr : 1 ≤ l.getD i 0 ∧ l.getD i 0 ≤ 6
    · refine Ev.pos (by simp only [Bool.and_eq_true, decide_eq_true_eq]; omega) ?_
      have h0 : i ≠ 0 := fun e => hp' ⟨hr, .inl e⟩
      refine Ev.pos (by omega) ?_
      rw [w64 (n := (i : Int) - 1) (by omega) (by omega)]
      refine Ev.pos (by omega) (Ev.pos (by omega) (Ev.pos ?_ (Ev.now _)))
      rw [show (i : Int) - 1 = ((i - 1 : Nat) : Int) by omega, rd_nat]
      have : ¬ l.getD (i - 1) 0 < l.getD i 0 := fun e => hp' ⟨hr, .inr e⟩
      omega
    · exact Ev.neg (by simp only [Bool.and_eq_true, decide_eq_true_eq]; exact hr) (Ev.now _)

-- impl_RootOk
theorem impl_RootOk_v (num : Int) (ks : List Int) (need : Int) (hl : ks.length ≤ 17592186044416) : Ev (fun k => impl_RootOk.f k num ks need) (rootOk num ks need) := by
  unfold impl_RootOk.f rootOk
  refine Ev.bind (Ev.con (in_v _ _ _)) ?_
  by_cases h1 : (decide (1 ≤ num) && decide (num ≤ 9)) = true
  · refine Ev.pos h1 (Ev.bind (impl_KeysOk_v ks hl) ?_)
    by_cases h2 : keysOk ks = true
    · refine Ev.pos h2 (Ev.bind (Ev.con (in_v _ _ _)) (Ev.eq ?_))
      rw [h1, h2]; rfl
    · refine Ev.neg h2 (Ev.eq ?_)
      rw [Bool.not_eq_true] at h2
      rw [h1, h2]; rfl
  · refine Ev.neg h1 (Ev.eq ?_)
    rw [Bool.not_eq_true] at h1
    rw [h1]; rfl

-- spec_l6Open
/-- Bytes to draw from. -/
def BY (b : List Int) : Prop := (∀ x ∈ b, 0 ≤ x ∧ x ≤ 255) ∧ b.length ≤ 2000
theorem open_v (l : List Int) (hw : ∀ x ∈ l, (Lit.int .u8 x).wf = true) : ∃ b, spec_l6Open.f l = some (b, 0) ∧ BY b := by
  have h : ∀ x ∈ l, 0 ≤ x ∧ x ≤ 255 := by
    intro x hx
    have := hw x hx
    have e1 : IntKind.u8.min = 0 := rfl
    have e2 : IntKind.u8.max = 255 := rfl
    simp [Lit.wf, e1, e2] at this
    omega
  unfold spec_l6Open.f
  by_cases hl : (l.length : Int) > 2000
  · rw [if_pos hl, if_pos (by omega)]
    exact ⟨_, rfl, fun x hx => h x (List.mem_of_mem_take hx), by rw [List.length_take]; omega⟩
  · rw [if_neg hl]
    exact ⟨_, rfl, h, by omega⟩

-- spec_l6Rd_pick
theorem xor_i64 (a b : Nat) (ha : a < 4611686018427387904) (hb : b < 4611686018427387904) : Go.bits .xor .i64 (a : Int) (b : Int) = ((a ^^^ b : Nat) : Int) := by
  have hx : a ^^^ b < 2 ^ 62 := Nat.xor_lt_two_pow (by omega) (by omega)
  have e1 : a % 2 ^ 64 = a := Nat.mod_eq_of_lt (by omega)
  have e2 : b % 2 ^ 64 = b := Nat.mod_eq_of_lt (by omega)
  have e3 : ((BitVec.ofInt 64 (a : Int)) ^^^ (BitVec.ofInt 64 (b : Int))).toNat = a ^^^ b := by
    rw [BitVec.toNat_xor, BitVec.ofInt_natCast, BitVec.ofInt_natCast, BitVec.toNat_ofNat, BitVec.toNat_ofNat, e1, e2]
  show IntKind.i64.wrap (((BitVec.ofInt 64 (a : Int)) ^^^ (BitVec.ofInt 64 (b : Int))).toNat : Int) = _
  rw [e3, IntKind.wrap_i64]
  omega
theorem rd_by {b : List Int} (hb : BY b) (i : Int) : 0 ≤ rd b i ∧ rd b i ≤ 255 := by
  unfold rd
  by_cases h : i.toNat < b.length
  · rw [getD_of_lt h]
    exact hb.1 _ (List.getElem_mem _)
  · rw [show b.getD i.toNat 0 = 0 by simp [List.getD, h]]
    omega
/-- A number is drawn: 0 to n - 1; 0, if there is none. -/
theorem pick_v {b : List Int} (hb : BY b) (p n : Int) (h0 : 0 ≤ p) (h1 : p ≤ 1000000) (hn : n ≤ 1000000000) : ∃ v, Ev (fun k => spec_l6Rd_pick.f k b p n) (v, p + 1) ∧ 0 ≤ v ∧ (v < n ∨ v = 0) := by
  unfold spec_l6Rd_pick.f
  rw [w64 (n := p + 1) (by omega) (by omega)]
  by_cases h : n < 1
  · refine ⟨0, Ev.pos h (Ev.down ?_), by omega, .inr rfl⟩
    simp only [spec_l6Rd_pick.j0]
    exact Ev.pos (by simp) (Ev.now _)
  · have hlen := hb.2
    by_cases hl : b.length = 0
    · refine ⟨0, Ev.neg h (Ev.down ?_), by omega, .inr rfl⟩
      simp only [spec_l6Rd_pick.j0]
      exact Ev.pos (by simp [hl]) (Ev.now _)
    · have e1 : p + 1 - 1 = p := by omega
      have tm : ∀ x : Int, 0 ≤ x → 0 ≤ Int.tmod x n ∧ Int.tmod x n < n := fun x hx => by
        rw [Int.tmod_eq_emod_of_nonneg hx]
        exact ⟨Int.emod_nonneg _ (by omega), Int.emod_lt_of_pos _ (by omega)⟩
      by_cases hlt : p < (b.length : Int)
      · obtain ⟨r1, r2⟩ := rd_by hb p
        obtain ⟨t1, t2⟩ := tm (rd b p) r1
        refine ⟨Int.tmod (rd b p) n, Ev.neg h (Ev.down ?_), t1, .inl t2⟩
        simp only [spec_l6Rd_pick.j0]
        rw [e1, w64 (n := p) (by omega) (by omega), w64 (n := rd b p) (by omega) (by omega)]
        exact Ev.neg (by rw [beq_iff_eq]; omega) (Ev.pos hlt (Ev.pos h0 (Ev.neg (by omega) (Ev.now _))))
      · have lm : ∀ x : Int, 0 ≤ x → 0 ≤ Int.tmod x (b.length : Int) ∧ Int.tmod x (b.length : Int) < (b.length : Int) := fun x hx => by
          rw [Int.tmod_eq_emod_of_nonneg hx]
          exact ⟨Int.emod_nonneg _ (by omega), Int.emod_lt_of_pos _ (by omega)⟩
        obtain ⟨a1, a2⟩ := lm p h0
        obtain ⟨c1, c2⟩ := lm (p * 7 + 3) (by omega)
        obtain ⟨r1, r2⟩ := rd_by hb (Int.tmod p (b.length : Int))
        obtain ⟨s1, s2⟩ := rd_by hb (Int.tmod (p * 7 + 3) (b.length : Int))
        have q1 : 0 ≤ Int.tdiv p (b.length : Int) ∧ Int.tdiv p (b.length : Int) ≤ p := by
          rw [Int.tdiv_eq_ediv_of_nonneg h0]
          exact ⟨Int.ediv_nonneg h0 (by omega), Int.ediv_le_self _ h0⟩
        obtain ⟨q1, q2⟩ := q1
        obtain ⟨X, hX⟩ : ∃ X, X = rd b (Int.tmod p (b.length : Int)) * 131 + rd b (Int.tmod (p * 7 + 3) (b.length : Int)) * 1117 + p * 29 + Int.tdiv p (b.length : Int) * 53 := ⟨_, rfl⟩
        have X0 : 0 ≤ X := by omega
        have X1 : X ≤ 1000000000 := by omega
        have D : Int.tdiv X 64 = X / 64 := Int.tdiv_eq_ediv_of_nonneg X0
        have Y0 : 0 ≤ Go.bits .xor .i64 X (X / 64) := by
          obtain ⟨m, rfl⟩ := Int.eq_ofNat_of_zero_le X0
          rw [show ((m : Int) / 64) = ((m / 64 : Nat) : Int) by omega, xor_i64 _ _ (by omega) (by omega)]
          omega
        obtain ⟨t1, t2⟩ := tm _ Y0
        refine ⟨Int.tmod (Go.bits .xor .i64 X (X / 64)) n, Ev.neg h (Ev.down ?_), t1, .inl t2⟩
        simp only [spec_l6Rd_pick.j0]
        rw [e1, w64 (n := p) (by omega) (by omega), w64 (n := p * 7) (by omega) (by omega), w64 (n := p * 7 + 3) (by omega) (by omega)]
        refine Ev.neg (by rw [beq_iff_eq]; omega) (Ev.neg hlt (Ev.neg (by omega) (Ev.pos a1 (Ev.pos a2 (Ev.pos c1 (Ev.pos c2 (Ev.neg (by omega) ?_)))))))
        rw [w64 (n := rd b (Int.tmod p (b.length : Int))) (by omega) (by omega), w64 (n := rd b (Int.tmod (p * 7 + 3) (b.length : Int))) (by omega) (by omega), w64 (n := Int.tdiv p (b.length : Int)) (by omega) (by omega)]
        rw [w64 (n := rd b (Int.tmod p (b.length : Int)) * 131) (by omega) (by omega), w64 (n := rd b (Int.tmod (p * 7 + 3) (b.length : Int)) * 1117) (by omega) (by omega), w64 (n := p * 29) (by omega) (by omega), w64 (n := Int.tdiv p (b.length : Int) * 53) (by omega) (by omega)]
        rw [w64 (n := rd b (Int.tmod p (b.length : Int)) * 131 + rd b (Int.tmod (p * 7 + 3) (b.length : Int)) * 1117) (by omega) (by omega), w64 (n := rd b (Int.tmod p (b.length : Int)) * 131 + rd b (Int.tmod (p * 7 + 3) (b.length : Int)) * 1117 + p * 29) (by omega) (by omega), ← hX, w64 (n := X) (by omega) (by omega), D, w64 (n := X / 64) (by omega) (by omega)]
        exact Ev.now _

-- spec_l71Keys
theorem l71Keys_v {b : List Int} (hb : BY b) (p : Int) (h0 : 0 ≤ p) (h1 : p ≤ 900000) : ∃ (ks : List Int) (p' : Int), Ev (fun k => spec_l71Keys.f k b p) (ks, p') ∧ ks.length ≤ 7 ∧ (∀ x ∈ ks, 0 ≤ x ∧ x ≤ 7) ∧ p ≤ p' ∧ p' ≤ p + 8 := by
  unfold spec_l71Keys.f
  have key : ∀ d : Nat, d ≤ 6 → ∀ (acc : List Int) (p : Int), acc.length ≤ 6 - d → (∀ x ∈ acc, 0 ≤ x ∧ x ≤ 7) → 0 ≤ p → p + d ≤ 950000 → ∃ (ks : List Int) (p' : Int), Ev (fun k => spec_l71Keys.l0 k acc (7 - (d : Int)) b p) (ks, p') ∧ ks.length ≤ 7 ∧ (∀ x ∈ ks, 0 ≤ x ∧ x ≤ 7) ∧ p ≤ p' ∧ p' ≤ p + d + 2 := by
    intro d
    induction d with
    | zero =>
      intro _ acc p ha hx h0 h1
      obtain ⟨v, hv, v0, v1⟩ := pick_v hb p 16 h0 (by omega) (by omega)
      by_cases e : v = 0
      · obtain ⟨u, hu, u0, u1⟩ := pick_v hb (p + 1) 3 (by omega) (by omega) (by omega)
        refine ⟨acc ++ [rd [0, 7, 1] u], p + 1 + 1, Ev.down ?_, by simp; omega, ?_, by omega, by omega⟩
        · simp only [spec_l71Keys.l0]
          refine Ev.neg (by omega) (Ev.bind hv (Ev.pos e ?_))
          refine Ev.bind (f := fun k y => _) (Ev.now _) (Ev.bind hu ?_)
          exact Ev.pos u0 (Ev.pos (by simp; omega) (Ev.pos (by omega) (Ev.now _)))
        · intro x hx'
          rcases List.mem_append.1 hx' with h | h
          · exact hx x h
          · rw [List.mem_singleton.1 h]
            have : u = 0 ∨ u = 1 ∨ u = 2 := by omega
            rcases this with rfl | rfl | rfl <;> simp [rd]
      · refine ⟨acc, p + 1, Ev.down ?_, by omega, hx, by omega, by omega⟩
        simp only [spec_l71Keys.l0]
        exact Ev.neg (by omega) (Ev.bind hv (Ev.neg e (Ev.now _)))
    | succ d ih =>
      intro hd acc p ha hx h0 h1
      obtain ⟨v, hv, v0, v1⟩ := pick_v hb p 2 h0 (by omega) (by omega)
      have ew : wrap64 (7 - ((d + 1 : Nat) : Int) + 1) = 7 - (d : Int) := by rw [w64 (by omega) (by omega)]; omega
      by_cases e : v = 0
      · obtain ⟨ks, p', hk, k1, k2, k3, k4⟩ := ih (by omega) (acc ++ [7 - ((d + 1 : Nat) : Int)]) (p + 1) (by simp; omega) (fun x hx' => by
          rcases List.mem_append.1 hx' with h | h
          · exact hx x h
          · rw [List.mem_singleton.1 h]; omega) (by omega) (by omega)
        refine ⟨ks, p', Ev.down ?_, k1, k2, by omega, by omega⟩
        simp only [spec_l71Keys.l0]
        refine Ev.pos (by omega) (Ev.bind hv (Ev.pos e (Ev.pos (by omega) ?_)))
        rw [ew]
        exact hk
      · obtain ⟨ks, p', hk, k1, k2, k3, k4⟩ := ih (by omega) acc (p + 1) (by omega) hx (by omega) (by omega)
        refine ⟨ks, p', Ev.down ?_, k1, k2, by omega, by omega⟩
        simp only [spec_l71Keys.l0]
        refine Ev.pos (by omega) (Ev.bind hv (Ev.neg e ?_))
        rw [ew]
        exact hk
  obtain ⟨ks, p', hk, k1, k2, k3, k4⟩ := key 6 (Nat.le_refl _) [] p (by simp) (by simp) h0 (by omega)
  exact ⟨ks, p', hk, k1, k2, k3, by omega⟩

-- spec_l71Root
theorem l71Root_v {b : List Int} (hb : BY b) (p : Int) (h0 : 0 ≤ p) (h1 : p ≤ 800000) : ∃ (num : Int) (ks : List Int) (need p' : Int), Ev (fun k => spec_l71Root.f k b p) (num, ks, need, p') ∧ 1 ≤ ks.length ∧ ks.length ≤ 7 ∧ 0 ≤ num ∧ num ≤ 10 ∧ 0 ≤ need ∧ need ≤ 8 ∧ p ≤ p' ∧ p' ≤ p + 20 := by
  have join : ∀ (ks : List Int) (p : Int), 1 ≤ ks.length → ks.length ≤ 7 → 0 ≤ p → p ≤ 900000 → ∃ (num need p' : Int), Ev (fun k => spec_l71Root.j0 k ks b p) (num, ks, need, p') ∧ 0 ≤ num ∧ num ≤ 10 ∧ 0 ≤ need ∧ need ≤ 8 ∧ p ≤ p' ∧ p' ≤ p + 5 := by
    intro ks p k1 k2 h0 h1
    obtain ⟨v, hv, v0, v1⟩ := pick_v hb p 3 h0 (by omega) (by omega)
    obtain ⟨u, hu, u0, u1⟩ := pick_v hb (p + 1) (ks.length : Int) (by omega) (by omega) (by omega)
    obtain ⟨t, ht, t0, t1⟩ := pick_v hb (p + 1 + 1) 20 (by omega) (by omega) (by omega)
    by_cases e : t = 0
    · obtain ⟨s, hs, s0, s1⟩ := pick_v hb (p + 1 + 1 + 1) 3 (by omega) (by omega) (by omega)
      refine ⟨rd [0, 9, 10] s, 1 + u, p + 1 + 1 + 1 + 1, Ev.down ?_, ?_, ?_, by omega, by omega, by omega, by omega⟩
      · simp only [spec_l71Root.j0]
        refine Ev.bind hv (Ev.bind hu (Ev.bind ht (Ev.pos e ?_)))
        refine Ev.bind (f := fun k y => _) (Ev.now _) (Ev.bind hs ?_)
        rw [w64 (n := 1 + u) (by omega) (by omega)]
        exact Ev.pos s0 (Ev.pos (by simp; omega) (Ev.now _))
      all_goals
        have : s = 0 ∨ s = 1 ∨ s = 2 := by omega
        rcases this with rfl | rfl | rfl <;> simp [rd]
    · by_cases e2 : t = 1
      · obtain ⟨s, hs, s0, s1⟩ := pick_v hb (p + 1 + 1 + 1) 2 (by omega) (by omega) (by omega)
        refine ⟨1 + v, rd [0, (ks.length : Int) + 1] s, p + 1 + 1 + 1 + 1, Ev.down ?_, by omega, by omega, ?_, ?_, by omega, by omega⟩
        · simp only [spec_l71Root.j0]
          refine Ev.bind hv (Ev.bind hu (Ev.bind ht (Ev.neg e (Ev.pos e2 ?_))))
          rw [w64 (n := (ks.length : Int) + 1) (by omega) (by omega), w64 (n := 1 + v) (by omega) (by omega)]
          refine Ev.bind (f := fun k y => _) (Ev.now _) (Ev.bind hs ?_)
          exact Ev.pos s0 (Ev.pos (by simp; omega) (Ev.now _))
        all_goals
          have : s = 0 ∨ s = 1 := by omega
          rcases this with rfl | rfl <;> simp [rd] <;> omega
      · refine ⟨1 + v, 1 + u, p + 1 + 1 + 1, Ev.down ?_, by omega, by omega, by omega, by omega, by omega, by omega⟩
        simp only [spec_l71Root.j0]
        refine Ev.bind hv (Ev.bind hu (Ev.bind ht (Ev.neg e (Ev.neg e2 ?_))))
        rw [w64 (n := 1 + u) (by omega) (by omega), w64 (n := 1 + v) (by omega) (by omega)]
        exact Ev.now _
  unfold spec_l71Root.f
  obtain ⟨ks, q, hk, k1, k2, k3, k4⟩ := l71Keys_v hb p h0 (by omega)
  by_cases e : (ks.length : Int) = 0
  · obtain ⟨v, hv, v0, v1⟩ := pick_v hb q 6 (by omega) (by omega) (by omega)
    obtain ⟨num, need, p', hj, a1, a2, a3, a4, a5, a6⟩ := join [1 + v] (q + 1) (by simp) (by simp) (by omega) (by omega)
    refine ⟨num, [1 + v], need, p', Ev.bind hk (Ev.pos e (Ev.bind hv ?_)), by simp, by simp, a1, a2, a3, a4, by omega, by omega⟩
    rw [w64 (n := 1 + v) (by omega) (by omega)]
    exact hj
  · obtain ⟨num, need, p', hj, a1, a2, a3, a4, a5, a6⟩ := join ks q (by omega) k1 (by omega) (by omega)
    exact ⟨num, ks, need, p', Ev.bind hk (Ev.neg e hj), by omega, k1, a1, a2, a3, a4, by omega, by omega⟩

-- spec_DrawRootOk
theorem DrawRootOk_v (l : List Int) (hw : ∀ x ∈ l, (Lit.int .u8 x).wf = true) : ∃ (num : Int) (ks : List Int) (need : Int), Ev (fun k => spec_DrawRootOk.f k l) (num, ks, need) ∧ 1 ≤ ks.length ∧ ks.length ≤ 7 ∧ 0 ≤ num ∧ num ≤ 10 ∧ 0 ≤ need ∧ need ≤ 9 := by
  obtain ⟨b, ho, hb⟩ := open_v l hw
  obtain ⟨num, ks, need, p, hr, k1, k2, n1, n2, d1, d2, p1, p2⟩ := l71Root_v hb 0 (by omega) (by omega)
  obtain ⟨v, hv, v0, v1⟩ := pick_v hb p 3 (by omega) (by omega) (by omega)
  unfold spec_DrawRootOk.f
  by_cases e : v = 0
  · obtain ⟨u, hu, u0, u1⟩ := pick_v hb (p + 1) ((ks.length : Int) + 2) (by omega) (by omega) (by omega)
    refine ⟨num, ks, u, Ev.bind (Ev.con ho) (Ev.bind hr (Ev.bind hv (Ev.pos e ?_))), k1, k2, n1, n2, u0, by omega⟩
    rw [w64 (n := (ks.length : Int) + 2) (by omega) (by omega)]
    exact Ev.bind hu (Ev.now _)
  · exact ⟨num, ks, need, Ev.bind (Ev.con ho) (Ev.bind hr (Ev.bind hv (Ev.neg e (Ev.now _)))), k1, k2, n1, n2, d1, by omega⟩

-- the law
theorem kcut_sub {α : Type} (l : List α) (m : Nat) : (l.take m ++ l.drop (m + 1)).Sublist l := by
  have h := List.Sublist.append (List.Sublist.refl (l.take m)) (List.drop_sublist 1 (l.drop m))
  rw [List.drop_drop, List.take_append_drop] at h
  exact h
theorem KOk_sub {l s : List Int} (h : KOk l) (hs : s.Sublist l) : KOk s := ⟨h.1.sublist hs, fun x hx => h.2 x (hs.mem hx)⟩
theorem FnRootLess : laws_FnRootLess.Pure := by
  intro l more hm hs hw hm' hs' hw'
  refine Ev.rounds (g := fun k => laws_FnRootLess.f k l more) ?_
  unfold laws_FnRootLess.f
  by_cases h : (l.length : Int) > 1048576
  · refine Ev.pos h (Ev.down ?_)
    simp only [laws_FnRootLess.j0]
    exact Ev.pos (by simp) (Ev.now _)
  · refine Ev.neg h (Ev.down ?_)
    simp only [laws_FnRootLess.j0]
    by_cases h' : (more.length : Int) > 1048576
    · exact Ev.pos (decide_eq_true h') (Ev.now _)
    · obtain ⟨num, ks, need, hd, k1, k2, n1, n2, d1, d2⟩ := DrawRootOk_v l hw
      refine Ev.neg (by simpa using h') (Ev.bind hd (Ev.bind (impl_RootOk_v num ks need (by omega)) (Ev.bind (spec_RootOk_v num ks need (by omega)) (Ev.neg (by simp) (Ev.down ?_)))))
      simp only [laws_FnRootLess.j1]
      cases ok : rootOk num ks need with
      | false => exact Ev.pos (by simp) (Ev.bind (spec_RootOk_v num ks need (by omega)) (Ev.eq (by rw [ok]; rfl)))
      | true =>
        obtain ⟨⟨o1, o2⟩, o3, o4, o5⟩ := rootOk_iff.1 ok
        have hz' : (ks.length : Int) ≠ 0 := by omega
        have e0 : 0 ≤ (more.length : Int) % (ks.length : Int) := Int.emod_nonneg _ hz'
        have e1 : (more.length : Int) % (ks.length : Int) < (ks.length : Int) := Int.emod_lt_of_pos _ (by omega)
        obtain ⟨m, hm⟩ := Int.eq_ofNat_of_zero_le e0
        rw [hm] at e1 ⊢
        have ml : m < ks.length := by omega
        have ew : wrap64 ((m : Int) + 1) = ((m + 1 : Nat) : Int) := by rw [w64 (by omega) (by omega)]; rfl
        rw [ew, Int.toNat_natCast, Int.toNat_natCast]
        refine Ev.neg (by simp) (Ev.neg hz' (Ev.bind (f := fun k y => _) (Ev.now _) (Ev.pos (by omega) (Ev.pos (by omega) (Ev.bind (f := fun k y => _) (Ev.now _) (Ev.pos (by simp; omega) (Ev.bind (f := fun k y => _) (Ev.now _) ?_)))))))
        refine Ev.pos (by omega) (Ev.pos (by omega) (Ev.bind (f := fun k y => _) (Ev.now _) (Ev.pos (by simp; omega) ?_)))
        rw [List.nil_append]
        have sub := kcut_sub ks m
        have len : (ks.take m ++ ks.drop (m + 1)).length = ks.length - 1 := by
          rw [List.length_append, List.length_take, List.length_drop]; omega
        have kc : rootOk num (ks.take m ++ ks.drop (m + 1)) need = decide (need < (ks.length : Int)) := by
          rw [Bool.eq_iff_iff, rootOk_iff, decide_eq_true_eq, len]
          constructor
          · rintro ⟨_, _, _, h5⟩; omega
          · intro h5; exact ⟨⟨o1, o2⟩, KOk_sub o3 sub, o4, by omega⟩
        refine Ev.bind (impl_RootOk_v num _ need (by have := sub.length_le; omega)) (Ev.pos (by rw [kc]; simp) (Ev.bind (impl_RootOk_v num ks 1 (by omega)) (Ev.pos (rootOk_iff.2 ⟨⟨o1, o2⟩, o3, by omega, by omega⟩) (Ev.bind (impl_RootOk_v num ks 0 (by omega)) (Ev.eq ?_)))))
        have k0 : rootOk num ks 0 = false := by
          rw [← Bool.not_eq_true, rootOk_iff]
          rintro ⟨_, _, h4, _⟩; omega
        rw [k0]; rfl

end Go.Proofs.Ytlmjkafijdakaaa.Pure
