/- What is left of the law FnExactRootNext, proved: the printed function answers true at every argument within the bounds of the statement. No further condition. -/
import Derived.Test.YtkdmgbolbjedfaaPFnExactRootNextx5
import Derived.Test.YtkdmgbolbjedfaaWSized
set_option linter.unusedVariables false
set_option linter.unusedSimpArgs false
namespace Go.Proofs.Ytkdmgbolbjedfaa
/-- The printed row asks for this word by its short name. -/
theorem PrintWords.sized_ints : type_of% @Go.Proofs.YtkdmgbolbjedfaaW.PrintWords.sized_ints := @Go.Proofs.YtkdmgbolbjedfaaW.PrintWords.sized_ints
end Go.Proofs.Ytkdmgbolbjedfaa
namespace Go.Proofs.Ytkdmgbolbjedfaa.Pure
open Go.RowKit Go.Proofs.Ytkdmgbolbjedfaa.PFnExactRootNext Go.Proofs.YtkdmgbolbjedfaaW.PrintWords Go.Proofs.YtkdmgbolbjedfaaW.PrintLast Go.Proofs.YtkdmgbolbjedfaaW.PrintMore

-- ev
/-! Ways to reckon a printed function from some number of rounds on. -/
theorem Ev.pos {α : Type} {c : Prop} {d : Decidable c} {f g : Nat → Option α} {r : α} (h : c) (e : Ev f r) : Ev (fun k => if c then f k else g k) r := Ev.congr (fun _ => if_pos h) e
theorem Ev.neg {α : Type} {c : Prop} {d : Decidable c} {f g : Nat → Option α} {r : α} (h : ¬ c) (e : Ev g r) : Ev (fun k => if c then f k else g k) r := Ev.congr (fun _ => if_neg h) e
theorem Ev.con {α : Type} {x : Option α} {r : α} (h : x = some r) : Ev (fun _ => x) r := ⟨0, fun _ _ => h⟩
theorem Ev.eq {α : Type} {r r' : α} (h : r' = r) : Ev (fun _ => some r') r := ⟨0, fun _ _ => by rw [h]⟩
theorem Ev.re {α : Type} {g : Nat → Option α} {r r' : α} (e : Ev g r') (h : r' = r) : Ev g r := h ▸ e
theorem Ev.down {α : Type} {g : Nat → Option α} {r : α} (e : Ev (fun k => g (k + 1)) r) : Ev g r := Ev.step (fun _ => rfl) e
theorem Ev.one {α : Type} {g : Nat → Option α} {r r' : α} (a : Ev g r) (b : Ev g r') : r = r' := by
  obtain ⟨K, a⟩ := a
  obtain ⟨K', b⟩ := b
  have h := a (K + K') (by omega)
  rw [b (K + K') (by omega)] at h
  exact (Option.some.inj h).symm
theorem w64 {n : Int} (h0 : -9223372036854775808 ≤ n) (h1 : n ≤ 9223372036854775807) : wrap64 n = n := by unfold wrap64; omega
/-- p of i, i + 1, .., d of them. -/
def allFrom (p : Nat → Bool) : Nat → Nat → Bool
  | 0, _ => true
  | d + 1, i => p i && allFrom p d (i + 1)
theorem allFrom_iff {p : Nat → Bool} : ∀ {d i : Nat}, allFrom p d i = true ↔ ∀ j, i ≤ j → j < i + d → p j = true
  | 0, i => by simp only [allFrom, true_iff]; intro j h1 h2; omega
  | d + 1, i => by
    simp only [allFrom, Bool.and_eq_true, allFrom_iff (d := d)]
    constructor
    · intro h j h1 h2
      rcases Nat.eq_or_lt_of_le h1 with e | e
      · exact e ▸ h.1
      · exact h.2 j e (by omega)
    · intro h
      exact ⟨h i (Nat.le_refl _) (by omega), fun j h1 h2 => h j (by omega) (by omega)⟩
theorem allFrom_congr {p q : Nat → Bool} : ∀ {d i : Nat}, (∀ j, i ≤ j → j < i + d → p j = q j) → allFrom p d i = allFrom q d i
  | 0, _, _ => rfl
  | d + 1, i, h => by
    simp only [allFrom]
    rw [h i (Nat.le_refl _) (by omega), allFrom_congr (fun j h1 h2 => h j (by omega) (by omega))]
/-- A loop that looks whether p holds at each place. -/
theorem check_loop {F : Nat → Int → Option Bool} {p : Nat → Bool} {n : Nat} (hend : Ev (fun k => F k (n : Int)) true)
    (hgo : ∀ i : Nat, i < n → p i = true → ∀ r, Ev (fun k => F k ((i + 1 : Nat) : Int)) r → Ev (fun k => F k (i : Int)) r)
    (hno : ∀ i : Nat, i < n → p i = false → Ev (fun k => F k (i : Int)) false) : ∀ d i : Nat, i + d = n → Ev (fun k => F k (i : Int)) (allFrom p d i)
  | 0, i, h => by
    obtain rfl : i = n := by omega
    exact hend
  | d + 1, i, h => by
    simp only [allFrom]
    cases hp : p i with
    | true => exact hgo i (by omega) hp _ (check_loop hend hgo hno d (i + 1) (by omega))
    | false => exact hno i (by omega) hp
/-- A loop that goes on from place to place. -/
theorem step_loop {α : Type} {F : Nat → Int → Option α} {R : Nat → α} {n : Nat} (hend : Ev (fun k => F k (n : Int)) (R n))
    (hgo : ∀ i : Nat, i < n → Ev (fun k => F k ((i + 1 : Nat) : Int)) (R (i + 1)) → Ev (fun k => F k (i : Int)) (R i)) : ∀ d i : Nat, i + d = n → Ev (fun k => F k (i : Int)) (R i)
  | 0, i, h => by
    obtain rfl : i = n := by omega
    exact hend
  | d + 1, i, h => hgo i (by omega) (step_loop hend hgo d (i + 1) (by omega))
theorem rd_nat (l : List Int) (i : Nat) : rd l (i : Int) = l.getD i 0 := by unfold rd; rw [Int.toNat_natCast]
theorem getD_of_lt {α : Type} {l : List α} {i : Nat} {d : α} (h : i < l.length) : l.getD i d = l[i] := by simp [List.getD, h]

-- laws_szIntS
theorem szIntS_v (l : List Int) (left : Int) (hl : l.length ≤ 9223372036854775807) (h0 : 0 ≤ left) (h1 : left ≤ 1048576) : laws_szIntS.f l left = some (if (l.length : Int) ≤ left then left - l.length else -1) := by
  unfold laws_szIntS.f
  rw [w64 (by omega) (by omega)]
  by_cases h : (l.length : Int) ≤ left
  · rw [if_neg (by omega), if_pos h]
  · rw [if_pos (by omega), if_neg h]

-- laws_szRoot
theorem szRoot_v (a : Int) (l : List Int) (b left : Int) (hl : l.length ≤ 9223372036854775807) (h0 : 0 ≤ left) (h1 : left ≤ 1048576) : laws_szRoot.f a l b left = some (if (l.length : Int) ≤ left then left - l.length else -1) := by
  unfold laws_szRoot.f
  rw [szIntS_v l left hl h0 h1, Option.bind_some]
  by_cases h : (l.length : Int) ≤ left
  · rw [if_pos h, if_neg (by omega)]
  · rw [if_neg h, if_pos (by omega)]

-- laws_szSigRoot
theorem szSigRoot_v (a : Int) (l : List Int) (b : Int) (s : List Int) (left : Int) (hl : l.length ≤ 9223372036854775807) (hs : s.length ≤ 9223372036854775807) (h0 : 0 ≤ left) (h1 : left ≤ 1048576) : laws_szSigRoot.f a l b s left = some (if (l.length : Int) ≤ left ∧ (s.length : Int) ≤ left - l.length then left - l.length - s.length else -1) := by
  unfold laws_szSigRoot.f
  rw [szRoot_v a l b left hl h0 h1, Option.bind_some]
  by_cases h : (l.length : Int) ≤ left
  · rw [if_pos h, if_neg (by omega), szIntS_v s _ hs (by omega) (by omega), Option.bind_some]
    by_cases h2 : (s.length : Int) ≤ left - l.length
    · rw [if_pos h2, if_neg (by omega), if_pos ⟨h, h2⟩]
    · rw [if_neg h2, if_pos (by omega), if_neg (fun e => h2 e.2)]
  · rw [if_neg h, if_pos (by omega), if_neg (fun e => h e.1)]

-- keys
/-! Keys. -/
def kOk1 (l : List Int) (i : Nat) : Bool := (decide (1 ≤ l.getD i 0) && decide (l.getD i 0 ≤ 6)) && (i == 0 || decide (l.getD (i - 1) 0 < l.getD i 0))
/-- The keys are ok: 1 to 6, ascending. -/
def keysOk (l : List Int) : Bool := allFrom (kOk1 l) l.length 0
def KOk (l : List Int) : Prop := l.Pairwise (· < ·) ∧ ∀ x ∈ l, 1 ≤ x ∧ x ≤ 6
theorem kOk1_iff {l : List Int} {i : Nat} : kOk1 l i = true ↔ (1 ≤ l.getD i 0 ∧ l.getD i 0 ≤ 6) ∧ (i = 0 ∨ l.getD (i - 1) 0 < l.getD i 0) := by
  simp [kOk1]
/-- From one to the next ascending is ascending. -/
theorem asc_of_next {l : List Int} (h : ∀ i, 0 < i → i < l.length → l.getD (i - 1) 0 < l.getD i 0) : ∀ j i, i < j → j < l.length → l.getD i 0 < l.getD j 0 := by
  intro j
  induction j with
  | zero => intro i h1; omega
  | succ j ih =>
    intro i h1 h2
    have hj := h (j + 1) (by omega) h2
    simp only [Nat.add_sub_cancel] at hj
    rcases Nat.eq_or_lt_of_le (Nat.le_of_lt_succ h1) with e | e
    · rw [e]; exact hj
    · have := ih i e (by omega); omega
theorem keysOk_iff {l : List Int} : keysOk l = true ↔ KOk l := by
  unfold keysOk KOk
  rw [allFrom_iff]
  constructor
  · intro h
    have h' : ∀ j, j < l.length → _ := fun j hj => kOk1_iff.1 (h j (Nat.zero_le _) (by omega))
    refine ⟨?_, ?_⟩
    · rw [List.pairwise_iff_getElem]
      intro i j hi hj hij
      have := asc_of_next (fun i hi0 hi => (h' i hi).2.resolve_left (by omega)) j i hij hj
      rwa [getD_of_lt hi, getD_of_lt hj] at this
    · intro x hx
      obtain ⟨i, hi, rfl⟩ := List.getElem_of_mem hx
      have := (h' i hi).1
      rwa [getD_of_lt hi] at this
  · rintro ⟨h1, h2⟩ j - hj
    have hj : j < l.length := by omega
    rw [kOk1_iff]
    refine ⟨?_, ?_⟩
    · rw [getD_of_lt hj]; exact h2 _ (List.getElem_mem _)
    · rcases Nat.eq_zero_or_pos j with e | e
      · exact .inl e
      · refine .inr ?_
        rw [getD_of_lt hj, getD_of_lt (by omega)]
        exact List.pairwise_iff_getElem.1 h1 _ _ _ _ (by omega)
instance (l : List Int) : Decidable (KOk l) := decidable_of_iff _ keysOk_iff
/-- How many of a are in b. -/
def bothN (a b : List Int) : Nat := (a.filter (fun x => b.contains x)).length
def both (a b : List Int) : Int := if keysOk a = true ∧ keysOk b = true then (bothN a b : Int) else -1
theorem bothN_le (a b : List Int) : bothN a b ≤ a.length := List.length_filter_le _ _
/-- All ok keys. -/
def allKeys : List (List Int) := [1, 2, 3, 4, 5, 6].foldr (fun x ls => ls.map (x :: ·) ++ ls) [[]]
theorem asc_mem : ∀ (us : List Int) (l : List Int), us.Pairwise (· < ·) → l.Pairwise (· < ·) → (∀ x ∈ l, x ∈ us) → l ∈ us.foldr (fun x ls => ls.map (x :: ·) ++ ls) [[]]
  | [], l, _, _, h => by
    cases l with
    | nil => simp
    | cons a l => have := h a (by simp); simp at this
  | u :: us, l, hu, hl, h => by
    simp only [List.foldr_cons, List.mem_append, List.mem_map]
    rw [List.pairwise_cons] at hu
    cases l with
    | nil => exact .inr (asc_mem us [] hu.2 List.Pairwise.nil (by simp))
    | cons a l =>
      rw [List.pairwise_cons] at hl
      by_cases e : a = u
      · subst e
        refine .inl ⟨l, asc_mem us l hu.2 hl.2 (fun x hx => ?_), rfl⟩
        have h1 := hl.1 x hx
        have h2 := h x (by simp [hx])
        simp only [List.mem_cons] at h2
        rcases h2 with h2 | h2
        · omega
        · exact h2
      · refine .inr (asc_mem us (a :: l) hu.2 (List.pairwise_cons.2 hl) (fun x hx => ?_))
        have h2 := h x hx
        simp only [List.mem_cons] at h2 hx
        rcases h2 with h2 | h2
        · exfalso
          have ha := h a (by simp)
          simp only [List.mem_cons] at ha
          rcases ha with ha | ha
          · exact e ha
          · have := hu.1 a ha
            rcases hx with hx | hx
            · omega
            · have := hl.1 x hx; omega
        · exact h2
theorem mem_allKeys {l : List Int} (h : KOk l) : l ∈ allKeys := by
  refine asc_mem [1, 2, 3, 4, 5, 6] l (by decide) h.1 (fun x hx => ?_)
  have := h.2 x hx
  simp only [List.mem_cons, List.not_mem_nil, or_false]
  omega
theorem KOk.len {l : List Int} (h : KOk l) : l.length ≤ 6 := by
  have : ∀ l ∈ allKeys, l.length ≤ 6 := by decide
  exact this l (mem_allKeys h)
theorem KOk.nodup {l : List Int} (h : KOk l) : l.Nodup := h.1.imp (fun h => by omega)

-- laws_toIntS
theorem toIntS_v (l : List Int) (hl : l.length ≤ 17592186044416) : Ev (fun k => laws_toIntS.f k l) l := by
  unfold laws_toIntS.f
  refine Ev.pos (by omega) (Ev.pos (by omega) ?_)
  rw [Int.toNat_natCast]
  have := step_loop (F := fun k i => laws_toIntS.l0 k l (l.take i.toNat ++ List.replicate (l.length - i.toNat) 0) i) (R := fun _ => l) (n := l.length) ?_ ?_ l.length 0 (by omega)
  · simpa using this
  · refine Ev.down ?_
    simp only [laws_toIntS.l0]
    refine Ev.neg (by omega) ?_
    simp only [Int.toNat_natCast, List.take_length, Nat.sub_self, List.replicate_zero, List.append_nil]
    exact Ev.now _
  · intro i hi hr
    refine Ev.down ?_
    simp only [laws_toIntS.l0]
    refine Ev.pos (by omega) (Ev.pos (by omega) (Ev.pos (by simp only [Int.toNat_natCast, List.length_append, List.length_take, List.length_replicate]; omega) ?_))
    rw [w64 (by omega) (by omega)]
    simp only [Int.toNat_natCast] at hr ⊢
    have e : (l.take i ++ List.replicate (l.length - i) 0).set i (rd l i) = l.take (i + 1) ++ List.replicate (l.length - (i + 1)) 0 := by
      rw [rd_nat, getD_of_lt hi]
      apply List.ext_getElem
      · simp only [List.length_set, List.length_append, List.length_take, List.length_replicate]; omega
      · intro j h1 h2
        simp only [List.length_set, List.length_append, List.length_take, List.length_replicate] at h1
        rw [List.getElem_set]
        by_cases hij : i = j
        · subst hij
          rw [if_pos rfl, List.getElem_append_left (by simp; omega)]
          simp
        · rw [if_neg hij]
          by_cases hlt : j < i
          · rw [List.getElem_append_left (by simp; omega), List.getElem_append_left (by simp; omega)]; simp
          · rw [List.getElem_append_right (by simp; omega), List.getElem_append_right (by simp; omega)]; simp
    rw [e]
    exact hr

-- laws_toRoot
theorem toRoot_v (a : Int) (l : List Int) (b : Int) (hl : l.length ≤ 17592186044416) : Ev (fun k => laws_toRoot.f k a l b) (a, l, b) := by
  unfold laws_toRoot.f
  exact Ev.bind (toIntS_v l hl) (Ev.now _)

-- laws_toSigRoot
theorem toSigRoot_v (a : Int) (l : List Int) (b : Int) (s : List Int) (hl : l.length ≤ 17592186044416) (hs : s.length ≤ 17592186044416) : Ev (fun k => laws_toSigRoot.f k a l b s) (a, l, b, s) := by
  unfold laws_toSigRoot.f
  exact Ev.bind (toRoot_v a l b hl) (Ev.bind (toIntS_v s hs) (Ev.now _))

-- laws_eqIntS
theorem eqIntS_v (a b : List Int) (hl : a.length ≤ 17592186044416) : Ev (fun k => laws_eqIntS.f k a b) (a == b) := by
  unfold laws_eqIntS.f
  by_cases h : a.length = b.length
  · refine Ev.pos (by omega) ?_
    refine Ev.re (check_loop (F := fun k i => laws_eqIntS.l0 k a b i) (p := fun i => a.getD i 0 == b.getD i 0) (n := a.length) ?_ ?_ ?_ a.length 0 (by omega)) ?_
    · refine Ev.down ?_
      simp only [laws_eqIntS.l0]
      exact Ev.neg (by omega) (Ev.now _)
    · intro i hi hp r hr
      refine Ev.down ?_
      simp only [laws_eqIntS.l0]
      refine Ev.pos (by omega) (Ev.pos (by omega) (Ev.pos (by omega) ?_))
      rw [rd_nat, rd_nat, w64 (by omega) (by omega)]
      exact Ev.pos (beq_iff_eq.1 hp) hr
    · intro i hi hp
      refine Ev.down ?_
      simp only [laws_eqIntS.l0]
      refine Ev.pos (by omega) (Ev.pos (by omega) (Ev.pos (by omega) ?_))
      rw [rd_nat, rd_nat]
      exact Ev.neg (beq_eq_false_iff_ne.1 hp) (Ev.now _)
    · rw [Bool.eq_iff_iff, allFrom_iff, beq_iff_eq]
      constructor
      · intro hh
        refine List.ext_getElem h (fun i h1 h2 => ?_)
        have := beq_iff_eq.1 (hh i (by omega) (by omega))
        rwa [getD_of_lt h1, getD_of_lt h2] at this
      · rintro rfl j - -
        simp
  · refine Ev.neg (by omega) (Ev.eq ?_)
    symm
    rw [beq_eq_false_iff_ne]
    exact fun e => h (by rw [e])

-- laws_eqRoot
theorem eqRoot_same (a : Int) (l : List Int) (b : Int) (hl : l.length ≤ 17592186044416) : Ev (fun k => laws_eqRoot.f k a l b a l b) true := by
  unfold laws_eqRoot.f
  exact Ev.pos rfl (Ev.bind (eqIntS_v l l hl) (Ev.pos (by simp) (Ev.pos rfl (Ev.now _))))

-- laws_eqSigRoot
theorem eqSigRoot_same (a : Int) (l : List Int) (b : Int) (s : List Int) (hl : l.length ≤ 17592186044416) (hs : s.length ≤ 17592186044416) : Ev (fun k => laws_eqSigRoot.f k a l b s a l b s) true := by
  unfold laws_eqSigRoot.f
  exact Ev.bind (eqRoot_same a l b hl) (Ev.pos rfl (Ev.bind (eqIntS_v s s hs) (Ev.pos (by simp) (Ev.now _))))

-- rootm
def rootOk (num : Int) (ks : List Int) (need : Int) : Bool := (decide (1 ≤ num) && decide (num ≤ 9)) && (keysOk ks && (decide (1 ≤ need) && decide (need ≤ ks.length)))
def rootSigned (num : Int) (ks : List Int) (need : Int) (sig : List Int) : Bool := rootOk num ks need && (keysOk sig && decide (need ≤ bothN ks sig))
theorem rootOk_iff {num : Int} {ks : List Int} {need : Int} : rootOk num ks need = true ↔ (1 ≤ num ∧ num ≤ 9) ∧ KOk ks ∧ 1 ≤ need ∧ need ≤ ks.length := by
  unfold rootOk
  simp only [Bool.and_eq_true, decide_eq_true_eq, keysOk_iff]
theorem rootSigned_iff {num : Int} {ks : List Int} {need : Int} {sig : List Int} : rootSigned num ks need sig = true ↔ rootOk num ks need = true ∧ KOk sig ∧ need ≤ bothN ks sig := by
  unfold rootSigned
  simp only [Bool.and_eq_true, decide_eq_true_eq, keysOk_iff]
theorem both_ok {a b : List Int} (ha : KOk a) (hb : KOk b) : both a b = (bothN a b : Int) := by unfold both; rw [if_pos ⟨keysOk_iff.2 ha, keysOk_iff.2 hb⟩]
/-- One root is signed, too, and is the next. -/
def rootNext (num : Int) (ks : List Int) (need : Int) (num' : Int) (ks' : List Int) (need' : Int) (sig : List Int) : Bool := rootSigned num ks need sig && (rootSigned num' ks' need' sig && decide (num' = num + 1))

-- spec_l6In
theorem l6In_v (a b c : Int) : spec_l6In.f a b c = some (decide (b ≤ a) && decide (a ≤ c)) := by
  unfold spec_l6In.f
  by_cases h : a ≥ b
  · rw [if_pos h]; simp; omega
  · rw [if_neg h]; simp; omega

-- spec_KeysOk
theorem spec_KeysOk_v (l : List Int) (hl : l.length ≤ 17592186044416) : Ev (fun k => spec_KeysOk.f k l) (keysOk l) := by
  unfold spec_KeysOk.f
  refine check_loop (F := fun k i => spec_KeysOk.l0 k l i) (p := kOk1 l) (n := l.length) ?_ ?_ ?_ l.length 0 (by omega)
  · refine Ev.down ?_
    simp only [spec_KeysOk.l0]
    exact Ev.neg (by omega) (Ev.now _)
  · intro i hi hp r hr
    obtain ⟨⟨h1, h2⟩, h3⟩ := kOk1_iff.1 hp
    refine Ev.down ?_
    simp only [spec_KeysOk.l0]
    refine Ev.pos (by omega) (Ev.pos (by omega) (Ev.bind (Ev.con (l6In_v _ _ _)) ?_))
    rw [rd_nat]
    refine Ev.pos (by simp only [Bool.and_eq_true, decide_eq_true_eq]; omega) ?_
    by_cases h0 : i = 0
    · refine Ev.neg (by omega) ?_
      rw [w64 (by omega) (by omega)]
      exact hr
    · refine Ev.pos (by omega) ?_
      rw [w64 (n := (i : Int) - 1) (by omega) (by omega), w64 (n := (i : Int) + 1) (by omega) (by omega)]
      refine Ev.pos (by omega) (Ev.pos (by omega) (Ev.neg ?_ hr))
      rw [show (i : Int) - 1 = ((i - 1 : Nat) : Int) by omega, rd_nat]
      have := h3.resolve_left h0
      omega
  · intro i hi hp
    have hp' : ¬ kOk1 l i = true := by simp [hp]
    rw [kOk1_iff] at hp'
    refine Ev.down ?_
    simp only [spec_KeysOk.l0]
    refine Ev.pos (by omega) (Ev.pos (by omega) (Ev.bind (Ev.con (l6In_v _ _ _)) ?_))
    rw [rd_nat]
    by_cases hr : 1 ≤ l.getD i 0 ∧ l.getD i 0 ≤ 6
    · refine Ev.pos (by simp only [Bool.and_eq_true, decide_eq_true_eq]; omega) ?_
      have h0 : i ≠ 0 := fun e => hp' ⟨hr, .inl e⟩
      refine Ev.pos (by omega) ?_
      rw [w64 (n := (i : Int) - 1) (by omega) (by omega)]
      refine Ev.pos (by omega) (Ev.pos (by omega) (Ev.pos ?_ (Ev.now _)))
      rw [show (i : Int) - 1 = ((i - 1 : Nat) : Int) by omega, rd_nat]
      have : ¬ l.getD (i - 1) 0 < l.getD i 0 := fun e => hp' ⟨hr, .inr e⟩
      omega
    · exact Ev.neg (by simp only [Bool.and_eq_true, decide_eq_true_eq]; exact hr) (Ev.now _)

-- spec_RootOk
theorem spec_RootOk_v (num : Int) (ks : List Int) (need : Int) (hl : ks.length ≤ 17592186044416) : Ev (fun k => spec_RootOk.f k num ks need) (rootOk num ks need) := by
  unfold spec_RootOk.f rootOk
  refine Ev.bind (Ev.con (l6In_v _ _ _)) ?_
  by_cases h1 : (decide (1 ≤ num) && decide (num ≤ 9)) = true
  · refine Ev.pos h1 (Ev.bind (spec_KeysOk_v ks hl) ?_)
    by_cases h2 : keysOk ks = true
    · refine Ev.pos h2 (Ev.bind (Ev.con (l6In_v _ _ _)) (Ev.eq ?_))
      rw [h1, h2]; rfl
    · refine Ev.neg h2 (Ev.eq ?_)
      rw [Bool.not_eq_true] at h2
      rw [h1, h2]; rfl
  · refine Ev.neg h1 (Ev.eq ?_)
    rw [Bool.not_eq_true] at h1
    rw [h1]; rfl

-- spec_l2Both
/-- How many of pairs are the same. -/
def pairN (a b : List Int) : Nat := (a.map (fun x => b.count x)).sum
theorem l2Both_v (a b : List Int) (ha : a.length ≤ 1048577) (hb : b.length ≤ 1048577) : Ev (fun k => spec_l2Both.f k a b) (pairN a b : Int) := by
  unfold spec_l2Both.f
  have bnd : ∀ a : List Int, pairN a b ≤ a.length * b.length := by
    intro a
    induction a with
    | nil => simp [pairN]
    | cons x a ih =>
      have h1 : b.count x ≤ b.length := List.count_le_length
      have h2 : pairN (x :: a) b = b.count x + pairN a b := by simp [pairN]
      rw [h2, List.length_cons, Nat.succ_mul]
      omega
  have inner : ∀ (i : Nat), i < a.length → ∀ r, (Ev (fun k => spec_l2Both.l0 k a b ((pairN (a.take (i + 1)) b : Nat) : Int) ((i + 1 : Nat) : Int)) r) →
      ∀ d j : Nat, j + d = b.length → Ev (fun k => spec_l2Both.l1 k a b ((pairN (a.take i) b + (b.take j).count (a.getD i 0) : Nat) : Int) (i : Int) (j : Int)) r := by
    intro i hi r hr d
    have hb1 := bnd (a.take i)
    have hb2 : (a.take i).length * b.length ≤ 1048577 * 1048577 := Nat.mul_le_mul (by simp; omega) hb
    induction d with
    | zero =>
      intro j hj
      refine Ev.down ?_
      simp only [spec_l2Both.l1]
      refine Ev.neg (by omega) ?_
      rw [w64 (by omega) (by omega)]
      have hs : pairN (a.take (i + 1)) b = pairN (a.take i) b + b.count a[i] := by
        unfold pairN
        rw [List.take_succ_eq_append_getElem hi, List.map_append, List.sum_append, List.map_singleton, List.sum_singleton]
      have e : pairN (a.take i) b + (b.take j).count (a.getD i 0) = pairN (a.take (i + 1)) b := by
        rw [hs, getD_of_lt hi, List.take_of_length_le (by omega : b.length ≤ j)]
      rw [e]
      exact hr
    | succ d ih =>
      intro j hj
      have hc1 : (b.take j).count (a.getD i 0) ≤ (b.take j).length := List.count_le_length
      rw [List.length_take] at hc1
      have := ih (j + 1) (by omega)
      rw [List.take_succ_eq_append_getElem (by omega), List.count_append] at this
      refine Ev.down ?_
      simp only [spec_l2Both.l1]
      refine Ev.pos (by omega) (Ev.pos (by omega) (Ev.pos (by omega) (Ev.pos (by omega) ?_)))
      rw [rd_nat, rd_nat, getD_of_lt (l := b) (by omega : j < b.length)]
      by_cases e : a.getD i 0 = b[j]
      · refine Ev.pos e ?_
        rw [w64 (by omega) (by omega), w64 (by omega) (by omega)]
        rw [e] at this ⊢
        simp only [List.count_cons_self, List.count_nil] at this
        rw [show ((pairN (List.take i a) b + List.count b[j] (List.take j b) : Nat) : Int) + 1 = ((pairN (List.take i a) b + (List.count b[j] (List.take j b) + (0 + 1)) : Nat) : Int) by omega]
        exact this
      · refine Ev.neg e ?_
        rw [w64 (by omega) (by omega)]
        rw [List.count_cons_of_ne (fun h => e h.symm), List.count_nil] at this
        exact this
  have outer : ∀ d i : Nat, i + d = a.length → Ev (fun k => spec_l2Both.l0 k a b ((pairN (a.take i) b : Nat) : Int) (i : Int)) (pairN a b : Int) := by
    intro d
    induction d with
    | zero =>
      intro i hi
      refine Ev.down ?_
      simp only [spec_l2Both.l0]
      refine Ev.neg (by omega) (Ev.eq ?_)
      rw [List.take_of_length_le (by omega)]
    | succ d ih =>
      intro i hi
      refine Ev.down ?_
      simp only [spec_l2Both.l0]
      refine Ev.pos (by omega) ?_
      exact inner i (by omega) _ (ih (i + 1) (by omega)) b.length 0 (by omega)
  exact outer a.length 0 (by omega)
theorem pairN_eq {a b : List Int} (hb : b.Nodup) : pairN a b = bothN a b := by
  unfold pairN bothN
  induction a with
  | nil => rfl
  | cons x a ih =>
    rw [List.map_cons, List.sum_cons, ih, List.filter_cons]
    by_cases h : x ∈ b
    · rw [if_pos (by simpa using h), List.length_cons, hb.count, if_pos h]; omega
    · rw [if_neg (by simpa using h), List.count_eq_zero.2 h]; omega

-- spec_RootSigned
theorem spec_RootSigned_v (num : Int) (ks : List Int) (need : Int) (sig : List Int) (hl : ks.length ≤ 1048577) (hs : sig.length ≤ 1048577) : Ev (fun k => spec_RootSigned.f k num ks need sig) (rootSigned num ks need sig) := by
  unfold spec_RootSigned.f rootSigned
  refine Ev.bind (spec_RootOk_v num ks need (by omega)) ?_
  by_cases h1 : rootOk num ks need = true
  · refine Ev.pos h1 (Ev.bind (spec_KeysOk_v sig (by omega)) ?_)
    by_cases h2 : keysOk sig = true
    · refine Ev.pos h2 (Ev.bind (l2Both_v ks sig hl hs) (Ev.eq ?_))
      rw [pairN_eq (keysOk_iff.1 h2).nodup, h1, h2]; rfl
    · refine Ev.neg h2 (Ev.eq ?_)
      rw [Bool.not_eq_true] at h2
      rw [h1, h2]; rfl
  · refine Ev.neg h1 (Ev.eq ?_)
    rw [Bool.not_eq_true] at h1
    rw [h1]; rfl

-- spec_RootNext
theorem spec_RootNext_v (num : Int) (ks : List Int) (need num' : Int) (ks' : List Int) (need' : Int) (sig : List Int) (hl : ks.length ≤ 1048577) (hl' : ks'.length ≤ 1048577) (hs : sig.length ≤ 1048577) :
    Ev (fun k => spec_RootNext.f k num ks need num' ks' need' sig) (rootNext num ks need num' ks' need' sig) := by
  unfold spec_RootNext.f rootNext
  refine Ev.bind (spec_RootSigned_v num ks need sig hl hs) ?_
  by_cases h1 : rootSigned num ks need sig = true
  · refine Ev.pos h1 (Ev.bind (spec_RootSigned_v num' ks' need' sig hl' hs) ?_)
    by_cases h2 : rootSigned num' ks' need' sig = true
    · refine Ev.pos h2 (Ev.eq ?_)
      have := (rootOk_iff.1 (rootSigned_iff.1 h1).1).1
      rw [h1, h2, w64 (by omega) (by omega)]
      simp only [Bool.true_and]
      rw [Bool.eq_iff_iff, beq_iff_eq, decide_eq_true_eq]
    · refine Ev.neg h2 (Ev.eq ?_)
      rw [Bool.not_eq_true] at h2
      rw [h1, h2]; rfl
  · refine Ev.neg h1 (Ev.eq ?_)
    rw [Bool.not_eq_true] at h1
    rw [h1]; rfl

-- impl_in
theorem in_v (a b c : Int) : impl_in.f a b c = some (decide (b ≤ a) && decide (a ≤ c)) := by
  unfold impl_in.f
  by_cases h : a ≥ b
  · rw [if_pos h]; simp; omega
  · rw [if_neg h]; simp; omega

-- impl_KeysOk
theorem impl_KeysOk_v (l : List Int) (hl : l.length ≤ 17592186044416) : Ev (fun k => impl_KeysOk.f k l) (keysOk l) := by
  unfold impl_KeysOk.f
  refine check_loop (F := fun k i => impl_KeysOk.l0 k l l l.length i) (p := kOk1 l) (n := l.length) ?_ ?_ ?_ l.length 0 (by omega)
  · refine Ev.down ?_
    simp only [impl_KeysOk.l0]
    exact Ev.neg (by omega) (Ev.now _)
  · intro i hi hp r hr
    obtain ⟨⟨h1, h2⟩, h3⟩ := kOk1_iff.1 hp
    refine Ev.down ?_
    simp only [impl_KeysOk.l0]
    refine Ev.pos (by omega) (Ev.pos (by omega) (Ev.pos (by omega) (Ev.bind (Ev.con (in_v _ _ _)) ?_)))
    rw [rd_nat]
    refine Ev.pos (by simp only [Bool.and_eq_true, decide_eq_true_eq]; omega) ?_
    by_cases h0 : i = 0
    · refine Ev.neg (by omega) ?_
      rw [w64 (by omega) (by omega)]
      exact hr
    · refine Ev.pos (by omega) ?_
      rw [w64 (n := (i : Int) - 1) (by omega) (by omega), w64 (n := (i : Int) + 1) (by omega) (by omega)]
      refine Ev.pos (by omega) (Ev.pos (by omega) (Ev.neg ?_ hr))
      rw [show (i : Int) - 1 = ((i - 1 : Nat) : Int) by omega, rd_nat]
      have := h3.resolve_left h0
      omega
  · intro i hi hp
    have hp' : ¬ kOk1 l i = true := by simp [hp]
    rw [kOk1_iff] at hp'
    refine Ev.down ?_
    simp only [impl_KeysOk.l0]
    refine Ev.pos (by omega) (Ev.pos (by omega) (Ev.pos (by omega) (Ev.bind (Ev.con (in_v _ _ _)) ?_)))
    rw [rd_nat]
    by_cases hr : 1 ≤ l.getD i 0 ∧ l.getD i 0 ≤ 6
    · refine Ev.pos (by simp only [Bool.and_eq_true, decide_eq_true_eq]; omega) ?_
      have h0 : i ≠ 0 := fun e => hp' ⟨hr, .inl e⟩
      refine Ev.pos (by omega) ?_
      rw [w64 (n := (i : Int) - 1) (by omega) (by omega)]
      refine Ev.pos (by omega) (Ev.pos (by omega) (Ev.pos ?_ (Ev.now _)))
      rw [show (i : Int) - 1 = ((i - 1 : Nat) : Int) by omega, rd_nat]
      have : ¬ l.getD (i - 1) 0 < l.getD i 0 := fun e => hp' ⟨hr, .inr e⟩
      omega
    · exact Ev.neg (by simp only [Bool.and_eq_true, decide_eq_true_eq]; exact hr) (Ev.now _)

-- impl_RootOk
theorem impl_RootOk_v (num : Int) (ks : List Int) (need : Int) (hl : ks.length ≤ 17592186044416) : Ev (fun k => impl_RootOk.f k num ks need) (rootOk num ks need) := by
  unfold impl_RootOk.f rootOk
  refine Ev.bind (Ev.con (in_v _ _ _)) ?_
  by_cases h1 : (decide (1 ≤ num) && decide (num ≤ 9)) = true
  · refine Ev.pos h1 (Ev.bind (impl_KeysOk_v ks hl) ?_)
    by_cases h2 : keysOk ks = true
    · refine Ev.pos h2 (Ev.bind (Ev.con (in_v _ _ _)) (Ev.eq ?_))
      rw [h1, h2]; rfl
    · refine Ev.neg h2 (Ev.eq ?_)
      rw [Bool.not_eq_true] at h2
      rw [h1, h2]; rfl
  · refine Ev.neg h1 (Ev.eq ?_)
    rw [Bool.not_eq_true] at h1
    rw [h1]; rfl

-- slices_Contains_int_int
theorem contains_v (l : List Int) (x : Int) (hl : l.length ≤ 17592186044416) : Ev (fun k => slices_Contains_int_int.f k l x) (l.contains x) := by
  unfold slices_Contains_int_int.f
  have key : ∀ d i : Nat, i + d = l.length → ∃ r : Int, Ev (fun k => slices_Index_int_int.l0 k l x l.length (i : Int)) r ∧ (0 ≤ r ↔ ∃ j, i ≤ j ∧ j < l.length ∧ l.getD j 0 = x) := by
    intro d
    induction d with
    | zero =>
      intro i hi
      refine ⟨-1, Ev.down ?_, ?_⟩
      · simp only [slices_Index_int_int.l0]
        exact Ev.neg (by omega) (Ev.now _)
      · constructor
        · intro h; omega
        · rintro ⟨j, h1, h2, -⟩; omega
    | succ d ih =>
      intro i hi
      by_cases e : x = l.getD i 0
      · refine ⟨(i : Int), Ev.down ?_, ?_⟩
        · simp only [slices_Index_int_int.l0]
          refine Ev.pos (by omega) (Ev.pos (by omega) (Ev.pos (by omega) ?_))
          rw [rd_nat]
          exact Ev.pos e (Ev.now _)
        · exact ⟨fun _ => ⟨i, Nat.le_refl _, by omega, e.symm⟩, fun _ => by omega⟩
      · obtain ⟨r, hr, hi'⟩ := ih (i + 1) (by omega)
        refine ⟨r, Ev.down ?_, ?_⟩
        · simp only [slices_Index_int_int.l0]
          refine Ev.pos (by omega) (Ev.pos (by omega) (Ev.pos (by omega) ?_))
          rw [rd_nat, w64 (by omega) (by omega)]
          exact Ev.neg e hr
        · rw [hi']
          constructor
          · rintro ⟨j, h1, h2, h3⟩; exact ⟨j, by omega, h2, h3⟩
          · rintro ⟨j, h1, h2, h3⟩
            refine ⟨j, ?_, h2, h3⟩
            rcases Nat.eq_or_lt_of_le h1 with e' | e'
            · subst e'; exact absurd h3.symm e
            · exact e'
  obtain ⟨r, hr, hi⟩ := key l.length 0 (by omega)
  refine Ev.bind (f := fun _ t => some (decide (t ≥ 0))) (show Ev (fun k => slices_Index_int_int.f k l x) r from hr) (Ev.eq ?_)
  rw [Bool.eq_iff_iff, decide_eq_true_eq, List.contains_iff_mem]
  show 0 ≤ r ↔ _
  rw [hi]
  constructor
  · rintro ⟨j, -, h2, h3⟩
    rw [getD_of_lt h2] at h3
    exact h3 ▸ List.getElem_mem _
  · intro h
    obtain ⟨j, hj, e⟩ := List.getElem_of_mem h
    exact ⟨j, Nat.zero_le _, hj, by rw [getD_of_lt hj]; exact e⟩

-- impl_KeysBoth
theorem impl_KeysBoth_v (a b : List Int) (ha : a.length ≤ 17592186044416) (hb : b.length ≤ 17592186044416) : Ev (fun k => impl_KeysBoth.f k a b) (both a b) := by
  unfold impl_KeysBoth.f
  have loop : Ev (fun k => impl_KeysBoth.l0 k b 0 a a.length 0) (bothN a b : Int) := by
    have key : ∀ d i : Nat, i + d = a.length → Ev (fun k => impl_KeysBoth.l0 k b (bothN (a.take i) b : Int) a a.length (i : Int)) (bothN a b : Int) := by
      intro d
      induction d with
      | zero =>
        intro i hi
        refine Ev.down ?_
        simp only [impl_KeysBoth.l0]
        refine Ev.neg (by omega) (Ev.eq ?_)
        rw [List.take_of_length_le (by omega)]
      | succ d ih =>
        intro i hi
        refine Ev.down ?_
        simp only [impl_KeysBoth.l0]
        refine Ev.pos (by omega) (Ev.pos (by omega) (Ev.pos (by omega) (Ev.bind (contains_v b _ hb) ?_)))
        have hlen := bothN_le (a.take i) b
        rw [List.length_take] at hlen
        have hs : bothN (a.take (i + 1)) b = bothN (a.take i) b + if b.contains (rd a i) = true then 1 else 0 := by
          rw [rd_nat, getD_of_lt (by omega)]
          unfold bothN
          rw [List.take_succ_eq_append_getElem (by omega), List.filter_append, List.length_append]
          congr 1
          by_cases hc : b.contains a[i] = true
          · rw [if_pos hc, List.filter_cons_of_pos hc]; rfl
          · rw [if_neg hc, List.filter_cons_of_neg hc]; rfl
        have := ih (i + 1) (by omega)
        rw [hs] at this
        by_cases hc : b.contains (rd a i) = true
        · rw [if_pos hc] at this
          refine Ev.pos hc ?_
          rw [w64 (by omega) (by omega), w64 (by omega) (by omega)]
          exact this
        · rw [if_neg hc] at this
          refine Ev.neg hc ?_
          rw [w64 (by omega) (by omega)]
          exact this
    exact key a.length 0 (by omega)
  refine Ev.bind (impl_KeysOk_v a ha) ?_
  unfold both
  cases h1 : keysOk a with
  | false =>
    refine Ev.neg (by simp) (Ev.down ?_)
    simp only [impl_KeysBoth.j0]
    refine Ev.pos (by simp) (Ev.eq ?_)
    rw [if_neg (by simp)]
  | true =>
    refine Ev.pos (by simp) (Ev.bind (impl_KeysOk_v b hb) (Ev.down ?_))
    simp only [impl_KeysBoth.j0]
    cases h2 : keysOk b with
    | false =>
      refine Ev.pos (by simp) (Ev.eq ?_)
      rw [if_neg (by simp)]
    | true =>
      refine Ev.neg (by simp) ?_
      rw [if_pos (by simp)]
      exact loop

-- impl_RootSigned
theorem impl_RootSigned_v (num : Int) (ks : List Int) (need : Int) (sig : List Int) (hl : ks.length ≤ 17592186044416) (hs : sig.length ≤ 17592186044416) : Ev (fun k => impl_RootSigned.f k num ks need sig) (rootSigned num ks need sig) := by
  unfold impl_RootSigned.f rootSigned
  refine Ev.bind (impl_RootOk_v num ks need hl) ?_
  by_cases h1 : rootOk num ks need = true
  · refine Ev.pos h1 (Ev.bind (impl_KeysOk_v sig hs) ?_)
    by_cases h2 : keysOk sig = true
    · refine Ev.pos h2 (Ev.bind (impl_KeysBoth_v ks sig hl hs) (Ev.eq ?_))
      rw [both_ok (rootOk_iff.1 h1).2.1 (keysOk_iff.1 h2), h1, h2]; rfl
    · refine Ev.neg h2 (Ev.eq ?_)
      rw [Bool.not_eq_true] at h2
      rw [h1, h2]; rfl
  · refine Ev.neg h1 (Ev.eq ?_)
    rw [Bool.not_eq_true] at h1
    rw [h1]; rfl

-- impl_RootNext
theorem impl_RootNext_v (num : Int) (ks : List Int) (need num' : Int) (ks' : List Int) (need' : Int) (sig : List Int) (hl : ks.length ≤ 17592186044416) (hl' : ks'.length ≤ 17592186044416) (hs : sig.length ≤ 17592186044416) :
    Ev (fun k => impl_RootNext.f k num ks need num' ks' need' sig) (rootNext num ks need num' ks' need' sig) := by
  unfold impl_RootNext.f rootNext
  refine Ev.bind (impl_RootSigned_v num ks need sig hl hs) ?_
  by_cases h1 : rootSigned num ks need sig = true
  · refine Ev.pos h1 (Ev.bind (impl_RootSigned_v num' ks' need' sig hl' hs) ?_)
    by_cases h2 : rootSigned num' ks' need' sig = true
    · refine Ev.pos h2 (Ev.eq ?_)
      have := (rootOk_iff.1 (rootSigned_iff.1 h1).1).1
      rw [h1, h2, w64 (by omega) (by omega)]
      simp only [Bool.true_and]
      rw [Bool.eq_iff_iff, beq_iff_eq, decide_eq_true_eq]
    · refine Ev.neg h2 (Ev.eq ?_)
      rw [Bool.not_eq_true] at h2
      rw [h1, h2]; rfl
  · refine Ev.neg h1 (Ev.eq ?_)
    rw [Bool.not_eq_true] at h1
    rw [h1]; rfl

-- the law
theorem FnExactRootNext (a : Int) (l : List Int) (b a' : Int) (l' : List Int) (b' : Int) (s : List Int) (hl : l.length ≤ 9223372036854775807) (hl' : l'.length ≤ 9223372036854775807) (hs : s.length ≤ 9223372036854775807) : ∃ k, laws_FnExactRootNext.f k a l b a' l' b' s = some true := by
  refine Ev.rounds (g := fun k => laws_FnExactRootNext.f k a l b a' l' b' s) ?_
  unfold laws_FnExactRootNext.f
  refine Ev.bind (Ev.con (szRoot_v a l b _ hl (by omega) (by omega))) ?_
  by_cases h : (l.length : Int) ≤ 1048576
  · rw [if_pos h]
    refine Ev.neg (by omega) (Ev.bind (Ev.con (szSigRoot_v a' l' b' s _ hl' hs (by omega) (by omega))) ?_)
    by_cases h2 : (l'.length : Int) ≤ 1048576 - l.length ∧ (s.length : Int) ≤ 1048576 - l.length - l'.length
    · rw [if_pos h2]
      refine Ev.neg (by omega) (Ev.bind (toRoot_v a l b (by omega)) (Ev.bind (toSigRoot_v a' l' b' s (by omega) (by omega)) (Ev.bind (spec_RootNext_v a l b a' l' b' s (by omega) (by omega) (by omega)) ?_)))
      refine Ev.bind (toRoot_v a l b (by omega)) (Ev.bind (toSigRoot_v a' l' b' s (by omega) (by omega)) (Ev.bind (impl_RootNext_v a l b a' l' b' s (by omega) (by omega) (by omega)) (Ev.neg (by simp) ?_)))
      exact Ev.bind (toRoot_v a l b (by omega)) (Ev.bind (eqRoot_same a l b (by omega)) (Ev.pos rfl (Ev.bind (toSigRoot_v a' l' b' s (by omega) (by omega)) (Ev.bind (eqSigRoot_same a' l' b' s (by omega) (by omega)) (Ev.pos rfl (Ev.now _))))))
    · rw [if_neg h2]
      exact Ev.pos (by omega) (Ev.now _)
  · rw [if_neg h]
    exact Ev.pos (by omega) (Ev.now _)

end Go.Proofs.Ytkdmgbolbjedfaa.Pure
