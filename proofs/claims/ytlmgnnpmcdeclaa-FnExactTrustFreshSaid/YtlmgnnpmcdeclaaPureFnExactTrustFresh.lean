/- What is left of the law FnExactTrustFresh, proved: the printed function answers true at every argument within the bounds of the statement. No further condition. -/
import Derived.Test.YtlmgnnpmcdeclaaPFnExactTrustFreshx6
import Derived.Test.YtlmgnnpmcdeclaaWSized
set_option linter.unusedVariables false
set_option linter.unusedSimpArgs false
namespace Go.Proofs.Ytlmgnnpmcdeclaa
/-- The printed row asks for this word by its short name. -/
theorem PrintWords.sized_ints : type_of% @Go.Proofs.YtlmgnnpmcdeclaaW.PrintWords.sized_ints := @Go.Proofs.YtlmgnnpmcdeclaaW.PrintWords.sized_ints
end Go.Proofs.Ytlmgnnpmcdeclaa
namespace Go.Proofs.Ytlmgnnpmcdeclaa.Pure
open Go.RowKit Go.Proofs.Ytlmgnnpmcdeclaa.PFnExactTrustFresh Go.Proofs.YtlmgnnpmcdeclaaW.PrintWords Go.Proofs.YtlmgnnpmcdeclaaW.PrintLast Go.Proofs.YtlmgnnpmcdeclaaW.PrintMore

-- ev
/-! Ways to reckon a printed function from some number of rounds on. -/
theorem Ev.pos {α : Type} {c : Prop} {d : Decidable c} {f g : Nat → Option α} {r : α} (h : c) (e : Ev f r) : Ev (fun k => if c then f k else g k) r := Ev.congr (fun _ => if_pos h) e
theorem Ev.neg {α : Type} {c : Prop} {d : Decidable c} {f g : Nat → Option α} {r : α} (h : ¬ c) (e : Ev g r) : Ev (fun k => if c then f k else g k) r := Ev.congr (fun _ => if_neg h) e
theorem Ev.con {α : Type} {x : Option α} {r : α} (h : x = some r) : Ev (fun _ => x) r := ⟨0, fun _ _ => h⟩
theorem Ev.eq {α : Type} {r r' : α} (h : r' = r) : Ev (fun _ => some r') r := ⟨0, fun _ _ => by rw [h]⟩
theorem Ev.re {α : Type} {g : Nat → Option α} {r r' : α} (e : Ev g r') (h : r' = r) : Ev g r := h ▸ e
theorem Ev.down {α : Type} {g : Nat → Option α} {r : α} (e : Ev (fun k => g (k + 1)) r) : Ev g r := Ev.step (fun _ => rfl) e
theorem Ev.one {α : Type} {g : Nat → Option α} {r r' : α} (a : Ev g r) (b : Ev g r') : r = r' := by
  obtain ⟨K, a⟩ := a
  obtain ⟨K', b⟩ := b
  have h := a (K + K') (by omega)
  rw [b (K + K') (by omega)] at h
  exact (Option.some.inj h).symm
theorem w64 {n : Int} (h0 : -9223372036854775808 ≤ n) (h1 : n ≤ 9223372036854775807) : wrap64 n = n := by unfold wrap64; omega
/-- p of i, i + 1, .., d of them. -/
def allFrom (p : Nat → Bool) : Nat → Nat → Bool
  | 0, _ => true
  | d + 1, i => p i && allFrom p d (i + 1)
theorem allFrom_iff {p : Nat → Bool} : ∀ {d i : Nat}, allFrom p d i = true ↔ ∀ j, i ≤ j → j < i + d → p j = true
  | 0, i => by simp only [allFrom, true_iff]; intro j h1 h2; omega
  | d + 1, i => by
    simp only [allFrom, Bool.and_eq_true, allFrom_iff (d := d)]
    constructor
    · intro h j h1 h2
      rcases Nat.eq_or_lt_of_le h1 with e | e
      · exact e ▸ h.1
      · exact h.2 j e (by omega)
    · intro h
      exact ⟨h i (Nat.le_refl _) (by omega), fun j h1 h2 => h j (by omega) (by omega)⟩
theorem allFrom_congr {p q : Nat → Bool} : ∀ {d i : Nat}, (∀ j, i ≤ j → j < i + d → p j = q j) → allFrom p d i = allFrom q d i
  | 0, _, _ => rfl
  | d + 1, i, h => by
    simp only [allFrom]
    rw [h i (Nat.le_refl _) (by omega), allFrom_congr (fun j h1 h2 => h j (by omega) (by omega))]
/-- A loop that looks whether p holds at each place. -/
theorem check_loop {F : Nat → Int → Option Bool} {p : Nat → Bool} {n : Nat} (hend : Ev (fun k => F k (n : Int)) true)
    (hgo : ∀ i : Nat, i < n → p i = true → ∀ r, Ev (fun k => F k ((i + 1 : Nat) : Int)) r → Ev (fun k => F k (i : Int)) r)
    (hno : ∀ i : Nat, i < n → p i = false → Ev (fun k => F k (i : Int)) false) : ∀ d i : Nat, i + d = n → Ev (fun k => F k (i : Int)) (allFrom p d i)
  | 0, i, h => by
    obtain rfl : i = n := by omega
    exact hend
  | d + 1, i, h => by
    simp only [allFrom]
    cases hp : p i with
    | true => exact hgo i (by omega) hp _ (check_loop hend hgo hno d (i + 1) (by omega))
    | false => exact hno i (by omega) hp
/-- A loop that goes on from place to place. -/
theorem step_loop {α : Type} {F : Nat → Int → Option α} {R : Nat → α} {n : Nat} (hend : Ev (fun k => F k (n : Int)) (R n))
    (hgo : ∀ i : Nat, i < n → Ev (fun k => F k ((i + 1 : Nat) : Int)) (R (i + 1)) → Ev (fun k => F k (i : Int)) (R i)) : ∀ d i : Nat, i + d = n → Ev (fun k => F k (i : Int)) (R i)
  | 0, i, h => by
    obtain rfl : i = n := by omega
    exact hend
  | d + 1, i, h => hgo i (by omega) (step_loop hend hgo d (i + 1) (by omega))
theorem rd_nat (l : List Int) (i : Nat) : rd l (i : Int) = l.getD i 0 := by unfold rd; rw [Int.toNat_natCast]
theorem getD_of_lt {α : Type} {l : List α} {i : Nat} {d : α} (h : i < l.length) : l.getD i d = l[i] := by simp [List.getD, h]

-- laws_szIntS
theorem szIntS_v (l : List Int) (left : Int) (hl : l.length ≤ 9223372036854775807) (h0 : 0 ≤ left) (h1 : left ≤ 1048576) : laws_szIntS.f l left = some (if (l.length : Int) ≤ left then left - l.length else -1) := by
  unfold laws_szIntS.f
  rw [w64 (by omega) (by omega)]
  by_cases h : (l.length : Int) ≤ left
  · rw [if_neg (by omega), if_pos h]
  · rw [if_pos (by omega), if_neg h]

-- laws_szRoot
theorem szRoot_v (a : Int) (l : List Int) (b left : Int) (hl : l.length ≤ 9223372036854775807) (h0 : 0 ≤ left) (h1 : left ≤ 1048576) : laws_szRoot.f a l b left = some (if (l.length : Int) ≤ left then left - l.length else -1) := by
  unfold laws_szRoot.f
  rw [szIntS_v l left hl h0 h1, Option.bind_some]
  by_cases h : (l.length : Int) ≤ left
  · rw [if_pos h, if_neg (by omega)]
  · rw [if_neg h, if_pos (by omega)]

-- laws_szIndex
theorem szIndex_v (a b : Int) (l : List S120) (left : Int) (hl : l.length ≤ 9223372036854775807) (h0 : 0 ≤ left) (h1 : left ≤ 1048576) : laws_szIndex.f a b l left = some (if (l.length : Int) ≤ left then left - l.length else -1) := by
  have e : laws_szMetaS.f l left = some (if (l.length : Int) ≤ left then left - l.length else -1) := by
    unfold laws_szMetaS.f
    rw [w64 (by omega) (by omega)]
    by_cases h : (l.length : Int) ≤ left
    · rw [if_neg (by omega), if_pos h]
    · rw [if_pos (by omega), if_neg h]
  unfold laws_szIndex.f
  rw [e, Option.bind_some]
  by_cases h : (l.length : Int) ≤ left
  · rw [if_pos h, if_neg (by omega)]
  · rw [if_neg h, if_pos (by omega)]

-- laws_szTrust
theorem szTrust_v (a : Int) (ks : List Int) (b : Int) (has : Bool) (num till : Int) (l : List S120) (left : Int) (hk : ks.length ≤ 9223372036854775807) (hl : l.length ≤ 9223372036854775807) (h0 : 0 ≤ left) (h1 : left ≤ 1048576) : laws_szTrust.f a ks b has num till l left = some (if (ks.length : Int) ≤ left ∧ (l.length : Int) ≤ left - ks.length then left - ks.length - l.length else -1) := by
  unfold laws_szTrust.f
  rw [szRoot_v a ks b left hk h0 h1, Option.bind_some]
  by_cases h : (ks.length : Int) ≤ left
  · rw [if_pos h, if_neg (by omega), szIndex_v num till l _ hl (by omega) (by omega), Option.bind_some]
    by_cases h2 : (l.length : Int) ≤ left - ks.length
    · rw [if_pos h2, if_neg (by omega), if_pos ⟨h, h2⟩]
    · rw [if_neg h2, if_pos (by omega), if_neg (fun e => h2 e.2)]
  · rw [if_neg h, if_pos (by omega), if_neg (fun e => h e.1)]

-- keys
/-! Keys. -/
def kOk1 (l : List Int) (i : Nat) : Bool := (decide (1 ≤ l.getD i 0) && decide (l.getD i 0 ≤ 6)) && (i == 0 || decide (l.getD (i - 1) 0 < l.getD i 0))
/-- The keys are ok: 1 to 6, ascending. -/
def keysOk (l : List Int) : Bool := allFrom (kOk1 l) l.length 0
def KOk (l : List Int) : Prop := l.Pairwise (· < ·) ∧ ∀ x ∈ l, 1 ≤ x ∧ x ≤ 6
theorem kOk1_iff {l : List Int} {i : Nat} : kOk1 l i = true ↔ (1 ≤ l.getD i 0 ∧ l.getD i 0 ≤ 6) ∧ (i = 0 ∨ l.getD (i - 1) 0 < l.getD i 0) := by
  simp [kOk1]
/-- From one to the next ascending is ascending. -/
theorem asc_of_next {l : List Int} (h : ∀ i, 0 < i → i < l.length → l.getD (i - 1) 0 < l.getD i 0) : ∀ j i, i < j → j < l.length → l.getD i 0 < l.getD j 0 := by
  intro j
  induction j with
  | zero => intro i h1; omega
  | succ j ih =>
    intro i h1 h2
    have hj := h (j + 1) (by omega) h2
    simp only [Nat.add_sub_cancel] at hj
    rcases Nat.eq_or_lt_of_le (Nat.le_of_lt_succ h1) with e | e
    · rw [e]; exact hj
    · have := ih i e (by omega); omega
theorem keysOk_iff {l : List Int} : keysOk l = true ↔ KOk l := by
  unfold keysOk KOk
  rw [allFrom_iff]
  constructor
  · intro h
    have h' : ∀ j, j < l.length → _ := fun j hj => kOk1_iff.1 (h j (Nat.zero_le _) (by omega))
    refine ⟨?_, ?_⟩
    · rw [List.pairwise_iff_getElem]
      intro i j hi hj hij
      have := asc_of_next (fun i hi0 hi => (h' i hi).2.resolve_left (by omega)) j i hij hj
      rwa [getD_of_lt hi, getD_of_lt hj] at this
    · intro x hx
      obtain ⟨i, hi, rfl⟩ := List.getElem_of_mem hx
      have := (h' i hi).1
      rwa [getD_of_lt hi] at this
  · rintro ⟨h1, h2⟩ j - hj
    have hj : j < l.length := by omega
    rw [kOk1_iff]
    refine ⟨?_, ?_⟩
    · rw [getD_of_lt hj]; exact h2 _ (List.getElem_mem _)
    · rcases Nat.eq_zero_or_pos j with e | e
      · exact .inl e
      · refine .inr ?_
        rw [getD_of_lt hj, getD_of_lt (by omega)]
        exact List.pairwise_iff_getElem.1 h1 _ _ _ _ (by omega)
instance (l : List Int) : Decidable (KOk l) := decidable_of_iff _ keysOk_iff
/-- How many of a are in b. -/
def bothN (a b : List Int) : Nat := (a.filter (fun x => b.contains x)).length
def both (a b : List Int) : Int := if keysOk a = true ∧ keysOk b = true then (bothN a b : Int) else -1
theorem bothN_le (a b : List Int) : bothN a b ≤ a.length := List.length_filter_le _ _
/-- All ok keys. -/
def allKeys : List (List Int) := [1, 2, 3, 4, 5, 6].foldr (fun x ls => ls.map (x :: ·) ++ ls) [[]]
theorem asc_mem : ∀ (us : List Int) (l : List Int), us.Pairwise (· < ·) → l.Pairwise (· < ·) → (∀ x ∈ l, x ∈ us) → l ∈ us.foldr (fun x ls => ls.map (x :: ·) ++ ls) [[]]
  | [], l, _, _, h => by
    cases l with
    | nil => simp
    | cons a l => have := h a (by simp); simp at this
  | u :: us, l, hu, hl, h => by
    simp only [List.foldr_cons, List.mem_append, List.mem_map]
    rw [List.pairwise_cons] at hu
    cases l with
    | nil => exact .inr (asc_mem us [] hu.2 List.Pairwise.nil (by simp))
    | cons a l =>
      rw [List.pairwise_cons] at hl
      by_cases e : a = u
      · subst e
        refine .inl ⟨l, asc_mem us l hu.2 hl.2 (fun x hx => ?_), rfl⟩
        have h1 := hl.1 x hx
        have h2 := h x (by simp [hx])
        simp only [List.mem_cons] at h2
        rcases h2 with h2 | h2
        · omega
        · exact h2
      · refine .inr (asc_mem us (a :: l) hu.2 (List.pairwise_cons.2 hl) (fun x hx => ?_))
        have h2 := h x hx
        simp only [List.mem_cons] at h2 hx
        rcases h2 with h2 | h2
        · exfalso
          have ha := h a (by simp)
          simp only [List.mem_cons] at ha
          rcases ha with ha | ha
          · exact e ha
          · have := hu.1 a ha
            rcases hx with hx | hx
            · omega
            · have := hl.1 x hx; omega
        · exact h2
theorem mem_allKeys {l : List Int} (h : KOk l) : l ∈ allKeys := by
  refine asc_mem [1, 2, 3, 4, 5, 6] l (by decide) h.1 (fun x hx => ?_)
  have := h.2 x hx
  simp only [List.mem_cons, List.not_mem_nil, or_false]
  omega
theorem KOk.len {l : List Int} (h : KOk l) : l.length ≤ 6 := by
  have : ∀ l ∈ allKeys, l.length ≤ 6 := by decide
  exact this l (mem_allKeys h)
theorem KOk.nodup {l : List Int} (h : KOk l) : l.Nodup := h.1.imp (fun h => by omega)

-- laws_toIntS
theorem toIntS_v (l : List Int) (hl : l.length ≤ 17592186044416) : Ev (fun k => laws_toIntS.f k l) l := by
  unfold laws_toIntS.f
  refine Ev.pos (by omega) (Ev.pos (by omega) ?_)
  rw [Int.toNat_natCast]
  have := step_loop (F := fun k i => laws_toIntS.l0 k l (l.take i.toNat ++ List.replicate (l.length - i.toNat) 0) i) (R := fun _ => l) (n := l.length) ?_ ?_ l.length 0 (by omega)
  · simpa using this
  · refine Ev.down ?_
    simp only [laws_toIntS.l0]
    refine Ev.neg (by omega) ?_
    simp only [Int.toNat_natCast, List.take_length, Nat.sub_self, List.replicate_zero, List.append_nil]
    exact Ev.now _
  · intro i hi hr
    refine Ev.down ?_
    simp only [laws_toIntS.l0]
    refine Ev.pos (by omega) (Ev.pos (by omega) (Ev.pos (by simp only [Int.toNat_natCast, List.length_append, List.length_take, List.length_replicate]; omega) ?_))
    rw [w64 (by omega) (by omega)]
    simp only [Int.toNat_natCast] at hr ⊢
    have e : (l.take i ++ List.replicate (l.length - i) 0).set i (rd l i) = l.take (i + 1) ++ List.replicate (l.length - (i + 1)) 0 := by
      rw [rd_nat, getD_of_lt hi]
      apply List.ext_getElem
      · simp only [List.length_set, List.length_append, List.length_take, List.length_replicate]; omega
      · intro j h1 h2
        simp only [List.length_set, List.length_append, List.length_take, List.length_replicate] at h1
        rw [List.getElem_set]
        by_cases hij : i = j
        · subst hij
          rw [if_pos rfl, List.getElem_append_left (by simp; omega)]
          simp
        · rw [if_neg hij]
          by_cases hlt : j < i
          · rw [List.getElem_append_left (by simp; omega), List.getElem_append_left (by simp; omega)]; simp
          · rw [List.getElem_append_right (by simp; omega), List.getElem_append_right (by simp; omega)]; simp
    rw [e]
    exact hr

-- laws_toRoot
theorem toRoot_v (a : Int) (l : List Int) (b : Int) (hl : l.length ≤ 17592186044416) : Ev (fun k => laws_toRoot.f k a l b) (a, l, b) := by
  unfold laws_toRoot.f
  exact Ev.bind (toIntS_v l hl) (Ev.now _)

-- metam
/-! What an index tells. -/
abbrev Mt := S100
instance : DecidableEq S100 := fun x y => decidable_of_iff (x.f0 = y.f0 ∧ x.f1 = y.f1 ∧ x.f2 = y.f2) (by obtain ⟨a, b, c⟩ := x; obtain ⟨d, e, f⟩ := y; simp)
theorem rdM_nat (l : List Mt) (i : Nat) : rd_T100 l (i : Int) = l.getD i z100 := by unfold rd_T100; rw [Int.toNat_natCast]
def inB (n a b : Int) : Bool := decide (a ≤ n) && decide (n ≤ b)
theorem inB_iff {n a b : Int} : inB n a b = true ↔ a ≤ n ∧ n ≤ b := by unfold inB; rw [Bool.and_eq_true, decide_eq_true_eq, decide_eq_true_eq]
def lessB (n v m w : Int) : Bool := decide (n < m) || decide (n = m) && decide (v < w)
theorem lessB_iff {n v m w : Int} : lessB n v m w = true ↔ n < m ∨ n = m ∧ v < w := by unfold lessB; simp only [Bool.or_eq_true, Bool.and_eq_true, decide_eq_true_eq]
def metaOk1 (l : List Mt) (i : Nat) : Bool := (inB (l.getD i z100).f0 1 4 && (inB (l.getD i z100).f1 1 5 && inB (l.getD i z100).f2 0 9972)) &&
  (i == 0 || lessB (l.getD (i - 1) z100).f0 (l.getD (i - 1) z100).f1 (l.getD i z100).f0 (l.getD i z100).f1)
def metasOk (l : List Mt) : Bool := allFrom (metaOk1 l) l.length 0
def indexOk (num till : Int) (l : List Mt) : Bool := (inB num 1 30 && (inB till 0 60 && decide (l.length ≤ 8))) && metasOk l

-- laws_toMetaS
abbrev LMt := S120
def toM (x : LMt) : Mt := ⟨x.f0, x.f1, x.f2⟩
theorem set_map_take {α β : Type} (g : α → β) (l : List α) (z : β) (i : Nat) (hi : i < l.length) : ((l.take i).map g ++ List.replicate (l.length - i) z).set i (g l[i]) = (l.take (i + 1)).map g ++ List.replicate (l.length - (i + 1)) z := by
  apply List.ext_getElem
  · simp only [List.length_set, List.length_append, List.length_map, List.length_take, List.length_replicate]; omega
  · intro j h1 h2
    simp only [List.length_set, List.length_append, List.length_map, List.length_take, List.length_replicate] at h1
    rw [List.getElem_set]
    by_cases hij : i = j
    · subst hij
      rw [if_pos rfl, List.getElem_append_left (by simp; omega)]
      simp
    · rw [if_neg hij]
      by_cases hlt : j < i
      · rw [List.getElem_append_left (by simp; omega), List.getElem_append_left (by simp; omega)]; simp
      · rw [List.getElem_append_right (by simp; omega), List.getElem_append_right (by simp; omega)]; simp
theorem toMetaS_v (l : List LMt) (hl : l.length ≤ 1048577) : Ev (fun k => laws_toMetaS.f k l) (l.map toM) := by
  unfold laws_toMetaS.f
  refine Ev.pos (by omega) (Ev.pos (by omega) ?_)
  rw [Int.toNat_natCast]
  have := step_loop (F := fun k i => laws_toMetaS.l0 k l ((l.take i.toNat).map toM ++ List.replicate (l.length - i.toNat) z100) i) (R := fun _ => l.map toM) (n := l.length) ?_ ?_ l.length 0 (by omega)
  · simpa using this
  · refine Ev.down ?_
    simp only [laws_toMetaS.l0]
    refine Ev.neg (by omega) ?_
    simp only [Int.toNat_natCast, List.take_length, Nat.sub_self, List.replicate_zero, List.append_nil]
    exact Ev.now _
  · intro i hi hr
    refine Ev.down ?_
    simp only [laws_toMetaS.l0]
    refine Ev.pos (by omega) (Ev.pos (by omega) (Ev.bind (Ev.con rfl) (Ev.pos (by simp only [Int.toNat_natCast, List.length_append, List.length_map, List.length_take, List.length_replicate]; omega) ?_)))
    rw [w64 (by omega) (by omega)]
    simp only [Int.toNat_natCast] at hr ⊢
    have e := set_map_take toM l z100 i hi
    have e2 : toM l[i] = ⟨(rd_T120 l i).f0, (rd_T120 l i).f1, (rd_T120 l i).f2⟩ := by
      unfold rd_T120
      rw [Int.toNat_natCast, getD_of_lt hi]; rfl
    rw [e2] at e
    rw [e]
    exact hr

-- laws_toIndex
theorem toIndex_v (a b : Int) (l : List LMt) (hl : l.length ≤ 1048577) : Ev (fun k => laws_toIndex.f k a b l) (a, b, l.map toM) := by
  unfold laws_toIndex.f
  exact Ev.bind (toMetaS_v l hl) (Ev.now _)

-- laws_toTrust
theorem toTrust_v (a : Int) (ks : List Int) (b : Int) (has : Bool) (num till : Int) (l : List LMt) (hk : ks.length ≤ 17592186044416) (hl : l.length ≤ 1048577) : Ev (fun k => laws_toTrust.f k a ks b has num till l) (a, ks, b, has, num, till, l.map toM) := by
  unfold laws_toTrust.f
  exact Ev.bind (toRoot_v a ks b hk) (Ev.bind (toIndex_v num till l hl) (Ev.now _))

-- laws_eqIntS
theorem eqIntS_v (a b : List Int) (hl : a.length ≤ 17592186044416) : Ev (fun k => laws_eqIntS.f k a b) (a == b) := by
  unfold laws_eqIntS.f
  by_cases h : a.length = b.length
  · refine Ev.pos (by omega) ?_
    refine Ev.re (check_loop (F := fun k i => laws_eqIntS.l0 k a b i) (p := fun i => a.getD i 0 == b.getD i 0) (n := a.length) ?_ ?_ ?_ a.length 0 (by omega)) ?_
    · refine Ev.down ?_
      simp only [laws_eqIntS.l0]
      exact Ev.neg (by omega) (Ev.now _)
    · intro i hi hp r hr
      refine Ev.down ?_
      simp only [laws_eqIntS.l0]
      refine Ev.pos (by omega) (Ev.pos (by omega) (Ev.pos (by omega) ?_))
      rw [rd_nat, rd_nat, w64 (by omega) (by omega)]
      exact Ev.pos (beq_iff_eq.1 hp) hr
    · intro i hi hp
      refine Ev.down ?_
      simp only [laws_eqIntS.l0]
      refine Ev.pos (by omega) (Ev.pos (by omega) (Ev.pos (by omega) ?_))
      rw [rd_nat, rd_nat]
      exact Ev.neg (beq_eq_false_iff_ne.1 hp) (Ev.now _)
    · rw [Bool.eq_iff_iff, allFrom_iff, beq_iff_eq]
      constructor
      · intro hh
        refine List.ext_getElem h (fun i h1 h2 => ?_)
        have := beq_iff_eq.1 (hh i (by omega) (by omega))
        rwa [getD_of_lt h1, getD_of_lt h2] at this
      · rintro rfl j - -
        simp
  · refine Ev.neg (by omega) (Ev.eq ?_)
    symm
    rw [beq_eq_false_iff_ne]
    exact fun e => h (by rw [e])

-- laws_eqRoot
theorem eqRoot_same (a : Int) (l : List Int) (b : Int) (hl : l.length ≤ 17592186044416) : Ev (fun k => laws_eqRoot.f k a l b a l b) true := by
  unfold laws_eqRoot.f
  exact Ev.pos rfl (Ev.bind (eqIntS_v l l hl) (Ev.pos (by simp) (Ev.pos rfl (Ev.now _))))

-- laws_eqMetaS
theorem eqMeta_v (x y : Mt) : laws_eqMeta.f x.f0 x.f1 x.f2 y.f0 y.f1 y.f2 = some (decide (x = y)) := by
  obtain ⟨a, b, c⟩ := x
  obtain ⟨d, e, f⟩ := y
  unfold laws_eqMeta.f
  by_cases h1 : a = d
  · rw [if_pos h1]
    by_cases h2 : b = e
    · rw [if_pos h2]
      by_cases h3 : c = f
      · rw [if_pos h3, decide_eq_true (by rw [h1, h2, h3])]
      · rw [if_neg h3, decide_eq_false (fun h => h3 (S100.mk.inj h).2.2)]
    · rw [if_neg h2, decide_eq_false (fun h => h2 (S100.mk.inj h).2.1)]
  · rw [if_neg h1, decide_eq_false (fun h => h1 (S100.mk.inj h).1)]
theorem eqMetaS_v (a b : List Mt) (hl : a.length ≤ 17592186044416) : Ev (fun k => laws_eqMetaS.f k a b) (decide (a = b)) := by
  unfold laws_eqMetaS.f
  by_cases h : a.length = b.length
  · refine Ev.pos (by omega) ?_
    refine Ev.re (check_loop (F := fun k i => laws_eqMetaS.l0 k a b i) (p := fun i => decide (a.getD i z100 = b.getD i z100)) (n := a.length) ?_ ?_ ?_ a.length 0 (by omega)) ?_
    · refine Ev.down ?_
      simp only [laws_eqMetaS.l0]
      exact Ev.neg (by omega) (Ev.now _)
    · intro i hi hp r hr
      refine Ev.down ?_
      simp only [laws_eqMetaS.l0]
      rw [rdM_nat, rdM_nat]
      refine Ev.pos (by omega) (Ev.pos (by omega) (Ev.pos (by omega) (Ev.bind (Ev.con (eqMeta_v _ _)) (Ev.pos hp ?_))))
      rw [w64 (by omega) (by omega)]
      exact hr
    · intro i hi hp
      refine Ev.down ?_
      simp only [laws_eqMetaS.l0]
      rw [rdM_nat, rdM_nat]
      exact Ev.pos (by omega) (Ev.pos (by omega) (Ev.pos (by omega) (Ev.bind (Ev.con (eqMeta_v _ _)) (Ev.neg (by rw [hp]; simp) (Ev.now _)))))
    · rw [Bool.eq_iff_iff, allFrom_iff, decide_eq_true_eq]
      constructor
      · intro hh
        refine List.ext_getElem h (fun i h1 h2 => ?_)
        have := of_decide_eq_true (hh i (by omega) (by omega))
        rwa [getD_of_lt h1, getD_of_lt h2] at this
      · rintro rfl j - -
        simp
  · refine Ev.neg (by omega) (Ev.eq ?_)
    symm
    rw [decide_eq_false_iff_not]
    exact fun e => h (by rw [e])

-- laws_eqIndex
theorem eqIndex_same (a b : Int) (l : List Mt) (hl : l.length ≤ 17592186044416) : Ev (fun k => laws_eqIndex.f k a b l a b l) true := by
  unfold laws_eqIndex.f
  exact Ev.pos rfl (Ev.pos rfl (Ev.bind (eqMetaS_v l l hl) (Ev.pos (by simp) (Ev.now _))))

-- laws_eqTrust
theorem eqTrust_same (a : Int) (ks : List Int) (b : Int) (has : Bool) (num till : Int) (l : List Mt) (hk : ks.length ≤ 17592186044416) (hl : l.length ≤ 17592186044416) : Ev (fun k => laws_eqTrust.f k a ks b has num till l a ks b has num till l) true := by
  unfold laws_eqTrust.f
  exact Ev.bind (eqRoot_same a ks b hk) (Ev.pos rfl (Ev.neg (by simp) (Ev.bind (eqIndex_same num till l hl) (Ev.pos rfl (Ev.now _)))))

-- rootm
def rootOk (num : Int) (ks : List Int) (need : Int) : Bool := (decide (1 ≤ num) && decide (num ≤ 9)) && (keysOk ks && (decide (1 ≤ need) && decide (need ≤ ks.length)))
def rootSigned (num : Int) (ks : List Int) (need : Int) (sig : List Int) : Bool := rootOk num ks need && (keysOk sig && decide (need ≤ bothN ks sig))
theorem rootOk_iff {num : Int} {ks : List Int} {need : Int} : rootOk num ks need = true ↔ (1 ≤ num ∧ num ≤ 9) ∧ KOk ks ∧ 1 ≤ need ∧ need ≤ ks.length := by
  unfold rootOk
  simp only [Bool.and_eq_true, decide_eq_true_eq, keysOk_iff]
theorem rootSigned_iff {num : Int} {ks : List Int} {need : Int} {sig : List Int} : rootSigned num ks need sig = true ↔ rootOk num ks need = true ∧ KOk sig ∧ need ≤ bothN ks sig := by
  unfold rootSigned
  simp only [Bool.and_eq_true, decide_eq_true_eq, keysOk_iff]
theorem both_ok {a b : List Int} (ha : KOk a) (hb : KOk b) : both a b = (bothN a b : Int) := by unfold both; rw [if_pos ⟨keysOk_iff.2 ha, keysOk_iff.2 hb⟩]
/-- One root is signed, too, and is the next. -/
def rootNext (num : Int) (ks : List Int) (need : Int) (num' : Int) (ks' : List Int) (need' : Int) (sig : List Int) : Bool := rootSigned num ks need sig && (rootSigned num' ks' need' sig && decide (num' = num + 1))

-- trustm
def noIndex (num till : Int) (l : List Mt) : Bool := decide (num = 0) && (decide (till = 0) && decide (l.length = 0))
def trustOk (a : Int) (ks : List Int) (b : Int) (has : Bool) (num till : Int) (l : List Mt) : Bool := rootOk a ks b && (if has = true then indexOk num till l else noIndex num till l)

-- spec_l6In
theorem l6In_v (a b c : Int) : spec_l6In.f a b c = some (decide (b ≤ a) && decide (a ≤ c)) := by
  unfold spec_l6In.f
  by_cases h : a ≥ b
  · rw [if_pos h]; simp; omega
  · rw [if_neg h]; simp; omega

-- spec_KeysOk
theorem spec_KeysOk_v (l : List Int) (hl : l.length ≤ 17592186044416) : Ev (fun k => spec_KeysOk.f k l) (keysOk l) := by
  unfold spec_KeysOk.f
  refine check_loop (F := fun k i => spec_KeysOk.l0 k l i) (p := kOk1 l) (n := l.length) ?_ ?_ ?_ l.length 0 (by omega)
  · refine Ev.down ?_
    simp only [spec_KeysOk.l0]
    exact Ev.neg (by omega) (Ev.now _)
  · intro i hi hp r hr
    obtain ⟨⟨h1, h2⟩, h3⟩ := kOk1_iff.1 hp
    refine Ev.down ?_
    simp only [spec_KeysOk.l0]
    refine Ev.pos (by omega) (Ev.pos (by omega) (Ev.bind (Ev.con (l6In_v _ _ _)) ?_))
    rw [rd_nat]
    refine Ev.pos (by simp only [Bool.and_eq_true, decide_eq_true_eq]; omega) ?_
    by_cases h0 : i = 0
    · refine Ev.neg (by omega) ?_
      rw [w64 (by omega) (by omega)]
      exact hr
    · refine Ev.pos (by omega) ?_
      rw [w64 (n := (i : Int) - 1) (by omega) (by omega), w64 (n := (i : Int) + 1) (by omega) (by omega)]
      refine Ev.pos (by omega) (Ev.pos (by omega) (Ev.neg ?_ hr))
      rw [show (i : Int) - 1 = ((i - 1 : Nat) : Int) by omega, rd_nat]
      have := h3.resolve_left h0
      omega
  · intro i hi hp
    have hp' : ¬ kOk1 l i = true := by simp [hp]
    rw [kOk1_iff] at hp'
    refine Ev.down ?_
    simp only [spec_KeysOk.l0]
    refine Ev.pos (by omega) (Ev.pos (by omega) (Ev.bind (Ev.con (l6In_v _ _ _)) ?_))
    rw [rd_nat]
    by_cases hr : 1 ≤ l.getD i 0 ∧ l.getD i 0 ≤ 6
    · refine Ev.pos (by simp only [Bool.and_eq_true, decide_eq_true_eq]; omega) ?_
      have h0 : i ≠ 0 := fun e => hp' ⟨hr, .inl e⟩
      refine Ev.pos (by omega) ?_
      rw [w64 (n := (i : Int) - 1) (by omega) (by omega)]
      refine Ev.pos (by omega) (Ev.pos (by omega) (Ev.pos ?_ (Ev.now _)))
      rw [show (i : Int) - 1 = ((i - 1 : Nat) : Int) by omega, rd_nat]
      have : ¬ l.getD (i - 1) 0 < l.getD i 0 := fun e => hp' ⟨hr, .inr e⟩
      omega
    · exact Ev.neg (by simp only [Bool.and_eq_true, decide_eq_true_eq]; exact hr) (Ev.now _)

-- spec_RootOk
theorem spec_RootOk_v (num : Int) (ks : List Int) (need : Int) (hl : ks.length ≤ 17592186044416) : Ev (fun k => spec_RootOk.f k num ks need) (rootOk num ks need) := by
  unfold spec_RootOk.f rootOk
  refine Ev.bind (Ev.con (l6In_v _ _ _)) ?_
  by_cases h1 : (decide (1 ≤ num) && decide (num ≤ 9)) = true
  · refine Ev.pos h1 (Ev.bind (spec_KeysOk_v ks hl) ?_)
    by_cases h2 : keysOk ks = true
    · refine Ev.pos h2 (Ev.bind (Ev.con (l6In_v _ _ _)) (Ev.eq ?_))
      rw [h1, h2]; rfl
    · refine Ev.neg h2 (Ev.eq ?_)
      rw [Bool.not_eq_true] at h2
      rw [h1, h2]; rfl
  · refine Ev.neg h1 (Ev.eq ?_)
    rw [Bool.not_eq_true] at h1
    rw [h1]; rfl

-- spec_l3Less
theorem l3Less_v (n v m w : Int) : spec_l3Less.f n v m w = some (lessB n v m w) := by
  unfold spec_l3Less.f lessB
  by_cases h : n < m
  · rw [if_pos h, decide_eq_true h]; rfl
  · rw [if_neg h, decide_eq_false h]
    by_cases e : n = m
    · rw [if_pos e, decide_eq_true e]; rfl
    · rw [if_neg e, decide_eq_false e]; rfl

-- spec_IndexOk
theorem spec_IndexOk_v (num till : Int) (l : List Mt) (hl : l.length ≤ 17592186044416) : Ev (fun k => spec_IndexOk.f k num till l) (indexOk num till l) := by
  have l6In_v : ∀ a b c : Int, spec_l6In.f a b c = some (inB a b c) := l6In_v
  unfold spec_IndexOk.f indexOk
  have no : Ev (fun k => spec_IndexOk.j0 k true num till l) false := by
    refine Ev.down ?_
    simp only [spec_IndexOk.j0]
    exact Ev.pos trivial (Ev.now _)
  have nope : ∀ i : Int, ∀ a b c, Ev (fun k => spec_IndexOk.j2 k i true num till l a b c) false := by
    intro i a b c
    refine Ev.down ?_
    simp only [spec_IndexOk.j2]
    exact Ev.pos trivial (Ev.now _)
  have loop : Ev (fun k => spec_IndexOk.l0 k 0 num till l) (metasOk l) := by
    refine check_loop (F := fun k i => spec_IndexOk.l0 k i num till l) (p := metaOk1 l) (n := l.length) ?_ ?_ ?_ l.length 0 (by omega)
    · refine Ev.down ?_
      simp only [spec_IndexOk.l0]
      exact Ev.neg (by omega) (Ev.now _)
    · intro i hi hp r hr
      unfold metaOk1 at hp
      simp only [Bool.and_eq_true, Bool.or_eq_true, beq_iff_eq] at hp
      obtain ⟨⟨h1, h2, h3⟩, h4⟩ := hp
      refine Ev.down ?_
      simp only [spec_IndexOk.l0]
      rw [rdM_nat]
      refine Ev.pos (by omega) (Ev.pos (by omega) (Ev.bind (Ev.con (l6In_v _ _ _)) (Ev.pos h1 (Ev.bind (Ev.con (l6In_v _ _ _)) (Ev.pos h2 (Ev.bind (Ev.con (l6In_v _ _ _)) ?_))))))
      rw [h3]
      refine Ev.down ?_
      simp only [spec_IndexOk.j2]
      refine Ev.neg (by simp) ?_
      rw [w64 (n := (i : Int) + 1) (by omega) (by omega)]
      by_cases h0 : i = 0
      · exact Ev.neg (by omega) hr
      · refine Ev.pos (by omega) ?_
        rw [w64 (n := (i : Int) - 1) (by omega) (by omega)]
        refine Ev.pos (by omega) (Ev.pos (by omega) (Ev.bind (Ev.con (l3Less_v _ _ _ _)) ?_))
        rw [show (i : Int) - 1 = ((i - 1 : Nat) : Int) by omega, rdM_nat]
        exact Ev.pos (h4.resolve_left h0) hr
    · intro i hi hp
      unfold metaOk1 at hp
      refine Ev.down ?_
      simp only [spec_IndexOk.l0]
      rw [rdM_nat]
      refine Ev.pos (by omega) (Ev.pos (by omega) (Ev.bind (Ev.con (l6In_v _ _ _)) ?_))
      cases h1 : inB (l.getD i z100).f0 1 4 with
      | false => exact Ev.neg (by simp) (nope _ _ _ _)
      | true =>
        refine Ev.pos (by simp) (Ev.bind (Ev.con (l6In_v _ _ _)) ?_)
        cases h2 : inB (l.getD i z100).f1 1 5 with
        | false => exact Ev.neg (by simp) (nope _ _ _ _)
        | true =>
          refine Ev.pos (by simp) (Ev.bind (Ev.con (l6In_v _ _ _)) ?_)
          cases h3 : inB (l.getD i z100).f2 0 9972 with
          | false => exact nope _ _ _ _
          | true =>
            rw [h1, h2, h3] at hp
            simp only [Bool.and_self, Bool.true_and, Bool.or_eq_false_iff, beq_eq_false_iff_ne] at hp
            refine Ev.down ?_
            simp only [spec_IndexOk.j2]
            refine Ev.neg (by simp) (Ev.pos (by omega) ?_)
            rw [w64 (n := (i : Int) - 1) (by omega) (by omega)]
            refine Ev.pos (by omega) (Ev.pos (by omega) (Ev.bind (Ev.con (l3Less_v _ _ _ _)) ?_))
            rw [show (i : Int) - 1 = ((i - 1 : Nat) : Int) by omega, rdM_nat]
            exact Ev.neg (by rw [hp.2]; simp) (Ev.now _)
  refine Ev.bind (Ev.con (l6In_v _ _ _)) ?_
  cases h1 : inB num 1 30 with
  | false => exact Ev.neg (by simp) no
  | true =>
    refine Ev.pos (by simp) (Ev.bind (Ev.con (l6In_v _ _ _)) ?_)
    cases h2 : inB till 0 60 with
    | false => exact Ev.neg (by simp) no
    | true =>
      refine Ev.pos (by simp) ?_
      by_cases h3 : l.length ≤ 8
      · rw [decide_eq_false (show ¬ ((l.length : Int) > 8) by omega), decide_eq_true h3]
        refine Ev.down ?_
        simp only [spec_IndexOk.j0]
        exact Ev.neg (by simp) loop
      · rw [decide_eq_true (show ((l.length : Int) > 8) by omega), decide_eq_false h3]
        exact no

-- spec_TrustOk
theorem spec_TrustOk_v (a : Int) (ks : List Int) (b : Int) (has : Bool) (num till : Int) (l : List Mt) (hk : ks.length ≤ 17592186044416) (hl : l.length ≤ 17592186044416) : Ev (fun k => spec_TrustOk.f k a ks b has num till l) (trustOk a ks b has num till l) := by
  unfold spec_TrustOk.f trustOk
  refine Ev.bind (spec_RootOk_v a ks b hk) ?_
  cases rootOk a ks b with
  | false => exact Ev.neg (by simp) (Ev.now _)
  | true =>
    refine Ev.pos rfl ?_
    cases has with
    | true => exact Ev.pos rfl (Ev.bind (spec_IndexOk_v num till l hl) (Ev.eq rfl))
    | false =>
      refine Ev.neg (by simp) ?_
      simp only [Bool.true_and, Bool.false_eq_true, if_false]
      unfold noIndex
      by_cases h1 : num = 0
      · refine Ev.pos h1 ?_
        by_cases h2 : till = 0
        · refine Ev.pos h2 (Ev.eq ?_)
          rw [decide_eq_true h1, decide_eq_true h2, Bool.eq_iff_iff]
          simp
        · refine Ev.neg h2 (Ev.eq ?_)
          rw [decide_eq_false h2]; simp
      · refine Ev.neg h1 (Ev.eq ?_)
        rw [decide_eq_false h1]; simp

-- spec_TrustFresh
theorem spec_TrustFresh_v (a : Int) (ks : List Int) (b : Int) (has : Bool) (num till : Int) (l : List Mt) (now : Int) (hk : ks.length ≤ 17592186044416) (hl : l.length ≤ 17592186044416) : Ev (fun k => spec_TrustFresh.f k a ks b has num till l now) (trustOk a ks b has num till l && (has && inB now 0 till)) := by
  unfold spec_TrustFresh.f
  refine Ev.bind (spec_TrustOk_v a ks b has num till l hk hl) ?_
  cases trustOk a ks b has num till l with
  | false => exact Ev.neg (by simp) (Ev.now _)
  | true =>
    refine Ev.pos rfl ?_
    cases has with
    | true => exact Ev.pos rfl (Ev.bind (Ev.con (l6In_v _ _ _)) (Ev.eq rfl))
    | false => exact Ev.neg (by simp) (Ev.now _)

-- impl_in
theorem in_v (a b c : Int) : impl_in.f a b c = some (decide (b ≤ a) && decide (a ≤ c)) := by
  unfold impl_in.f
  by_cases h : a ≥ b
  · rw [if_pos h]; simp; omega
  · rw [if_neg h]; simp; omega

-- impl_KeysOk
theorem impl_KeysOk_v (l : List Int) (hl : l.length ≤ 17592186044416) : Ev (fun k => impl_KeysOk.f k l) (keysOk l) := by
  unfold impl_KeysOk.f
  refine check_loop (F := fun k i => impl_KeysOk.l0 k l l l.length i) (p := kOk1 l) (n := l.length) ?_ ?_ ?_ l.length 0 (by omega)
  · refine Ev.down ?_
    simp only [impl_KeysOk.l0]
    exact Ev.neg (by omega) (Ev.now _)
  · intro i hi hp r hr
    obtain ⟨⟨h1, h2⟩, h3⟩ := kOk1_iff.1 hp
    refine Ev.down ?_
    simp only [impl_KeysOk.l0]
    refine Ev.pos (by omega) (Ev.pos (by omega) (Ev.pos (by omega) (Ev.bind (Ev.con (in_v _ _ _)) ?_)))
    rw [rd_nat]
    refine Ev.pos (by simp only [Bool.and_eq_true, decide_eq_true_eq]; omega) ?_
    by_cases h0 : i = 0
    · refine Ev.neg (by omega) ?_
      rw [w64 (by omega) (by omega)]
      exact hr
    · refine Ev.pos (by omega) ?_
      rw [w64 (n := (i : Int) - 1) (by omega) (by omega), w64 (n := (i : Int) + 1) (by omega) (by omega)]
      refine Ev.pos (by omega) (Ev.pos (by omega) (Ev.neg ?_ hr))
      rw [show (i : Int) - 1 = ((i - 1 : Nat) : Int) by omega, rd_nat]
      have := h3.resolve_left h0
      omega
  · intro i hi hp
    have hp' : ¬ kOk1 l i = true := by simp [hp]
    rw [kOk1_iff] at hp'
    refine Ev.down ?_
    simp only [impl_KeysOk.l0]
    refine Ev.pos (by omega) (Ev.pos (by omega) (Ev.pos (by omega) (Ev.bind (Ev.con (in_v _ _ _)) ?_)))
    rw [rd_nat]
    by_cases hr : 1 ≤ l.getD i 0 ∧ l.getD i 0 ≤ 6
    · refine Ev.pos (by simp only [Bool.and_eq_true, decide_eq_true_eq]; omega) ?_
      have h0 : i ≠ 0 := fun e => hp' ⟨hr, .inl e⟩
      refine Ev.pos (by omega) ?_
      rw [w64 (n := (i : Int) - 1) (by omega) (by omega)]
      refine Ev.pos (by omega) (Ev.pos (by omega) (Ev.pos ?_ (Ev.now _)))
      rw [show (i : Int) - 1 = ((i - 1 : Nat) : Int) by omega, rd_nat]
      have : ¬ l.getD (i - 1) 0 < l.getD i 0 := fun e => hp' ⟨hr, .inr e⟩
      omega
    · exact Ev.neg (by simp only [Bool.and_eq_true, decide_eq_true_eq]; exact hr) (Ev.now _)

-- impl_RootOk
theorem impl_RootOk_v (num : Int) (ks : List Int) (need : Int) (hl : ks.length ≤ 17592186044416) : Ev (fun k => impl_RootOk.f k num ks need) (rootOk num ks need) := by
  unfold impl_RootOk.f rootOk
  refine Ev.bind (Ev.con (in_v _ _ _)) ?_
  by_cases h1 : (decide (1 ≤ num) && decide (num ≤ 9)) = true
  · refine Ev.pos h1 (Ev.bind (impl_KeysOk_v ks hl) ?_)
    by_cases h2 : keysOk ks = true
    · refine Ev.pos h2 (Ev.bind (Ev.con (in_v _ _ _)) (Ev.eq ?_))
      rw [h1, h2]; rfl
    · refine Ev.neg h2 (Ev.eq ?_)
      rw [Bool.not_eq_true] at h2
      rw [h1, h2]; rfl
  · refine Ev.neg h1 (Ev.eq ?_)
    rw [Bool.not_eq_true] at h1
    rw [h1]; rfl

-- impl_isName
theorem isName_v (a : Int) : impl_isName.f a = some (inB a 1 4) := by unfold impl_isName.f; rw [in_v]; rfl

-- impl_isVer
theorem isVer_v (a : Int) : impl_isVer.f a = some (inB a 1 5) := by unfold impl_isVer.f; rw [in_v]; rfl

-- impl_IndexOk
theorem impl_IndexOk_v (num till : Int) (l : List Mt) (hl : l.length ≤ 17592186044416) : Ev (fun k => impl_IndexOk.f k num till l) (indexOk num till l) := by
  have in_v : ∀ a b c : Int, impl_in.f a b c = some (inB a b c) := in_v
  unfold impl_IndexOk.f
  have nope : ∀ i j : Int, ∀ a b c, Ev (fun k => impl_IndexOk.j1 k i l l.length j true num till l a b c) false := by
    intro i j a b c
    refine Ev.down ?_
    simp only [impl_IndexOk.j1]
    exact Ev.pos trivial (Ev.now _)
  have loop : ∀ d i : Nat, i + d = l.length → Ev (fun k => impl_IndexOk.l0 k l l.length (i : Int) num till l) ((inB num 1 30 && (inB till 0 60 && decide (l.length ≤ 8))) && allFrom (metaOk1 l) d i) := by
    intro d
    induction d with
    | zero =>
      intro i hi
      refine Ev.down ?_
      simp only [impl_IndexOk.l0]
      refine Ev.neg (by omega) (Ev.bind (Ev.con (in_v _ _ _)) ?_)
      cases h1 : inB num 1 30 with
      | false => exact Ev.neg (by simp) (Ev.now _)
      | true =>
        refine Ev.pos (by simp) (Ev.bind (Ev.con (in_v _ _ _)) ?_)
        cases h2 : inB till 0 60 with
        | false => exact Ev.neg (by simp) (Ev.now _)
        | true =>
          refine Ev.pos (by simp) (Ev.eq ?_)
          simp only [allFrom, Bool.and_true, Bool.true_and]
          rw [Bool.eq_iff_iff, decide_eq_true_eq, decide_eq_true_eq]; omega
    | succ d ih =>
      intro i hi
      have hr := ih (i + 1) (by omega)
      refine Ev.down ?_
      simp only [impl_IndexOk.l0, allFrom]
      rw [rdM_nat]
      refine Ev.pos (by omega) (Ev.pos (by omega) (Ev.pos (by omega) (Ev.bind (Ev.con (isName_v _)) ?_)))
      cases hp : metaOk1 l i with
      | true =>
        unfold metaOk1 at hp
        simp only [Bool.and_eq_true, Bool.or_eq_true, beq_iff_eq] at hp
        obtain ⟨⟨h1, h2, h3⟩, h4⟩ := hp
        refine Ev.pos h1 (Ev.bind (Ev.con (isVer_v _)) (Ev.pos h2 (Ev.bind (Ev.con (in_v _ _ _)) ?_)))
        rw [h3, Bool.true_and]
        refine Ev.down ?_
        simp only [impl_IndexOk.j1]
        refine Ev.neg (by simp) ?_
        rw [w64 (n := (i : Int) + 1) (by omega) (by omega)]
        by_cases h0 : i = 0
        · exact Ev.neg (by omega) hr
        · refine Ev.pos (by omega) ?_
          rw [w64 (n := (i : Int) - 1) (by omega) (by omega)]
          refine Ev.pos (by omega) (Ev.pos (by omega) ?_)
          rw [show (i : Int) - 1 = ((i - 1 : Nat) : Int) by omega, rdM_nat]
          have h5 := lessB_iff.1 (h4.resolve_left h0)
          refine Ev.neg (by omega) ?_
          by_cases e : (l.getD i z100).f0 = (l.getD (i - 1) z100).f0
          · exact Ev.pos e (Ev.neg (by omega) hr)
          · exact Ev.neg e hr
      | false =>
        rw [Bool.false_and, Bool.and_false]
        unfold metaOk1 at hp
        cases h1 : inB (l.getD i z100).f0 1 4 with
        | false => exact Ev.neg (by simp) (nope _ _ _ _ _)
        | true =>
          refine Ev.pos (by simp) (Ev.bind (Ev.con (isVer_v _)) ?_)
          cases h2 : inB (l.getD i z100).f1 1 5 with
          | false => exact Ev.neg (by simp) (nope _ _ _ _ _)
          | true =>
            refine Ev.pos (by simp) (Ev.bind (Ev.con (in_v _ _ _)) ?_)
            cases h3 : inB (l.getD i z100).f2 0 9972 with
            | false => exact nope _ _ _ _ _
            | true =>
              rw [h1, h2, h3] at hp
              simp only [Bool.and_self, Bool.true_and, Bool.or_eq_false_iff, beq_eq_false_iff_ne] at hp
              have h5 : ¬ lessB (l.getD (i - 1) z100).f0 (l.getD (i - 1) z100).f1 (l.getD i z100).f0 (l.getD i z100).f1 = true := by rw [hp.2]; simp
              rw [lessB_iff] at h5
              refine Ev.down ?_
              simp only [impl_IndexOk.j1]
              refine Ev.neg (by simp) (Ev.pos (by omega) ?_)
              rw [w64 (n := (i : Int) - 1) (by omega) (by omega)]
              refine Ev.pos (by omega) (Ev.pos (by omega) ?_)
              rw [show (i : Int) - 1 = ((i - 1 : Nat) : Int) by omega, rdM_nat]
              by_cases e0 : (l.getD i z100).f0 < (l.getD (i - 1) z100).f0
              · exact Ev.pos e0 (Ev.now _)
              · refine Ev.neg e0 ?_
                by_cases e : (l.getD i z100).f0 = (l.getD (i - 1) z100).f0
                · exact Ev.pos e (Ev.pos (by omega) (Ev.now _))
                · exact absurd (Or.inl (by omega)) h5
  unfold indexOk metasOk
  exact loop l.length 0 (by omega)

-- impl_TrustOk
theorem sameNil_v (num till : Int) (l : List Mt) : Ev (fun k => impl_Index_same.f k num till l 0 0 ([] : List Mt)) (noIndex num till l) := by
  unfold impl_Index_same.f noIndex
  by_cases h1 : num = 0
  · refine Ev.pos h1 ?_
    by_cases h2 : till = 0
    · refine Ev.pos h2 ?_
      rw [decide_eq_true h1, decide_eq_true h2]
      refine Ev.bind (a := decide (l.length = 0)) ?_ (Ev.eq (by simp))
      unfold impl_Meta.f
      by_cases h3 : l.length = 0
      · rw [decide_eq_true h3]
        refine Ev.pos (by rw [h3]; rfl) (Ev.down ?_)
        simp only [impl_Meta.l0]
        exact Ev.neg (by omega) (Ev.now _)
      · rw [decide_eq_false h3]
        exact Ev.neg (by rw [List.length_nil]; omega) (Ev.now _)
    · refine Ev.neg h2 (Ev.eq ?_)
      rw [decide_eq_false h2]; simp
  · refine Ev.neg h1 (Ev.eq ?_)
    rw [decide_eq_false h1]; simp
theorem impl_TrustOk_v (a : Int) (ks : List Int) (b : Int) (has : Bool) (num till : Int) (l : List Mt) (hk : ks.length ≤ 17592186044416) (hl : l.length ≤ 17592186044416) : Ev (fun k => impl_TrustOk.f k a ks b has num till l) (trustOk a ks b has num till l) := by
  unfold impl_TrustOk.f trustOk
  refine Ev.bind (impl_RootOk_v a ks b hk) ?_
  cases rootOk a ks b with
  | false => exact Ev.neg (by simp) (Ev.now _)
  | true =>
    refine Ev.pos rfl ?_
    cases has with
    | true => exact Ev.pos rfl (Ev.bind (impl_IndexOk_v num till l hl) (Ev.eq rfl))
    | false => exact Ev.neg (by simp) (Ev.bind (sameNil_v num till l) (Ev.eq (by simp)))

-- impl_TrustFresh
theorem impl_TrustFresh_v (a : Int) (ks : List Int) (b : Int) (has : Bool) (num till : Int) (l : List Mt) (now : Int) (hk : ks.length ≤ 17592186044416) (hl : l.length ≤ 17592186044416) : Ev (fun k => impl_TrustFresh.f k a ks b has num till l now) (trustOk a ks b has num till l && (has && inB now 0 till)) := by
  unfold impl_TrustFresh.f
  refine Ev.bind (impl_TrustOk_v a ks b has num till l hk hl) ?_
  cases trustOk a ks b has num till l with
  | false => exact Ev.neg (by simp) (Ev.now _)
  | true =>
    refine Ev.pos rfl ?_
    cases has with
    | true => exact Ev.pos rfl (Ev.bind (Ev.con (in_v _ _ _)) (Ev.eq rfl))
    | false => exact Ev.neg (by simp) (Ev.now _)

-- the law
theorem FnExactTrustFresh (a : Int) (ks : List Int) (b : Int) (has : Bool) (num till : Int) (l : List LMt) (now : Int) (hk : ks.length ≤ 9223372036854775807) (hl : l.length ≤ 9223372036854775807) : ∃ k, laws_FnExactTrustFresh.f k a ks b has num till l now = some true := by
  refine Ev.rounds (g := fun k => laws_FnExactTrustFresh.f k a ks b has num till l now) ?_
  unfold laws_FnExactTrustFresh.f
  refine Ev.bind (Ev.con (szTrust_v a ks b has num till l _ hk hl (by omega) (by omega))) ?_
  by_cases h : (ks.length : Int) ≤ 1048576 ∧ (l.length : Int) ≤ 1048576 - ks.length
  · rw [if_pos h]
    have hm : (l.map toM).length ≤ 17592186044416 := by rw [List.length_map]; omega
    refine Ev.neg (by omega) (Ev.bind (toTrust_v a ks b has num till l (by omega) (by omega)) (Ev.bind (spec_TrustFresh_v a ks b has num till _ now (by omega) hm) ?_))
    refine Ev.bind (toTrust_v a ks b has num till l (by omega) (by omega)) (Ev.bind (impl_TrustFresh_v a ks b has num till _ now (by omega) hm) (Ev.neg (by simp) ?_))
    exact Ev.bind (toTrust_v a ks b has num till l (by omega) (by omega)) (Ev.bind (eqTrust_same a ks b has num till _ (by omega) hm) (Ev.pos rfl (Ev.now _)))
  · rw [if_neg h]
    exact Ev.pos (by omega) (Ev.now _)

end Go.Proofs.Ytlmgnnpmcdeclaa.Pure
