/- What is left of the law FnExactIndexText, proved: the printed function answers true at every argument within the bounds of the statement. No further condition. -/
import Derived.Test.YtlmgnnpmcdeclaaDoorPFnExactIndexTextx2
set_option linter.unusedVariables false
set_option linter.unusedSimpArgs false
namespace Go.Proofs.YtlmgnnpmcdeclaaDoor
/-- The printed row asks for this word by its short name. -/
theorem PrintWords.sized_ints : type_of% @Go.Proofs.YtlmgnnpmcdeclaaDoorW.PrintWords.sized_ints := @Go.Proofs.YtlmgnnpmcdeclaaDoorW.PrintWords.sized_ints
end Go.Proofs.YtlmgnnpmcdeclaaDoor
namespace Go.Proofs.YtlmgnnpmcdeclaaDoor.Pure
open Go.RowKit Go.Proofs.YtlmgnnpmcdeclaaDoor.PFnExactIndexText Go.Proofs.YtlmgnnpmcdeclaaDoorW.PrintWords Go.Proofs.YtlmgnnpmcdeclaaDoorW.PrintLast Go.Proofs.YtlmgnnpmcdeclaaDoorW.PrintMore

-- ev
/-! Ways to reckon a printed function from some number of rounds on. -/
theorem Ev.pos {α : Type} {c : Prop} {d : Decidable c} {f g : Nat → Option α} {r : α} (h : c) (e : Ev f r) : Ev (fun k => if c then f k else g k) r := Ev.congr (fun _ => if_pos h) e
theorem Ev.neg {α : Type} {c : Prop} {d : Decidable c} {f g : Nat → Option α} {r : α} (h : ¬ c) (e : Ev g r) : Ev (fun k => if c then f k else g k) r := Ev.congr (fun _ => if_neg h) e
theorem Ev.con {α : Type} {x : Option α} {r : α} (h : x = some r) : Ev (fun _ => x) r := ⟨0, fun _ _ => h⟩
theorem Ev.eq {α : Type} {r r' : α} (h : r' = r) : Ev (fun _ => some r') r := ⟨0, fun _ _ => by rw [h]⟩
theorem Ev.re {α : Type} {g : Nat → Option α} {r r' : α} (e : Ev g r') (h : r' = r) : Ev g r := h ▸ e
theorem Ev.down {α : Type} {g : Nat → Option α} {r : α} (e : Ev (fun k => g (k + 1)) r) : Ev g r := Ev.step (fun _ => rfl) e
theorem Ev.one {α : Type} {g : Nat → Option α} {r r' : α} (a : Ev g r) (b : Ev g r') : r = r' := by
  obtain ⟨K, a⟩ := a
  obtain ⟨K', b⟩ := b
  have h := a (K + K') (by omega)
  rw [b (K + K') (by omega)] at h
  exact (Option.some.inj h).symm
theorem w64 {n : Int} (h0 : -9223372036854775808 ≤ n) (h1 : n ≤ 9223372036854775807) : wrap64 n = n := by unfold wrap64; omega
/-- p of i, i + 1, .., d of them. -/
def allFrom (p : Nat → Bool) : Nat → Nat → Bool
  | 0, _ => true
  | d + 1, i => p i && allFrom p d (i + 1)
theorem allFrom_iff {p : Nat → Bool} : ∀ {d i : Nat}, allFrom p d i = true ↔ ∀ j, i ≤ j → j < i + d → p j = true
  | 0, i => by simp only [allFrom, true_iff]; intro j h1 h2; omega
  | d + 1, i => by
    simp only [allFrom, Bool.and_eq_true, allFrom_iff (d := d)]
    constructor
    · intro h j h1 h2
      rcases Nat.eq_or_lt_of_le h1 with e | e
      · exact e ▸ h.1
      · exact h.2 j e (by omega)
    · intro h
      exact ⟨h i (Nat.le_refl _) (by omega), fun j h1 h2 => h j (by omega) (by omega)⟩
theorem allFrom_congr {p q : Nat → Bool} : ∀ {d i : Nat}, (∀ j, i ≤ j → j < i + d → p j = q j) → allFrom p d i = allFrom q d i
  | 0, _, _ => rfl
  | d + 1, i, h => by
    simp only [allFrom]
    rw [h i (Nat.le_refl _) (by omega), allFrom_congr (fun j h1 h2 => h j (by omega) (by omega))]
/-- A loop that looks whether p holds at each place. -/
theorem check_loop {F : Nat → Int → Option Bool} {p : Nat → Bool} {n : Nat} (hend : Ev (fun k => F k (n : Int)) true)
    (hgo : ∀ i : Nat, i < n → p i = true → ∀ r, Ev (fun k => F k ((i + 1 : Nat) : Int)) r → Ev (fun k => F k (i : Int)) r)
    (hno : ∀ i : Nat, i < n → p i = false → Ev (fun k => F k (i : Int)) false) : ∀ d i : Nat, i + d = n → Ev (fun k => F k (i : Int)) (allFrom p d i)
  | 0, i, h => by
    obtain rfl : i = n := by omega
    exact hend
  | d + 1, i, h => by
    simp only [allFrom]
    cases hp : p i with
    | true => exact hgo i (by omega) hp _ (check_loop hend hgo hno d (i + 1) (by omega))
    | false => exact hno i (by omega) hp
/-- A loop that goes on from place to place. -/
theorem step_loop {α : Type} {F : Nat → Int → Option α} {R : Nat → α} {n : Nat} (hend : Ev (fun k => F k (n : Int)) (R n))
    (hgo : ∀ i : Nat, i < n → Ev (fun k => F k ((i + 1 : Nat) : Int)) (R (i + 1)) → Ev (fun k => F k (i : Int)) (R i)) : ∀ d i : Nat, i + d = n → Ev (fun k => F k (i : Int)) (R i)
  | 0, i, h => by
    obtain rfl : i = n := by omega
    exact hend
  | d + 1, i, h => hgo i (by omega) (step_loop hend hgo d (i + 1) (by omega))
theorem rd_nat (l : List Int) (i : Nat) : rd l (i : Int) = l.getD i 0 := by unfold rd; rw [Int.toNat_natCast]
theorem getD_of_lt {α : Type} {l : List α} {i : Nat} {d : α} (h : i < l.length) : l.getD i d = l[i] := by simp [List.getD, h]
theorem notGe (a b : Int) : (!decide (a ≥ b)) = decide (a < b) := by rw [Bool.eq_iff_iff]; simp
theorem notLe (a b : Int) : (!decide (b ≤ a)) = decide (a < b) := by rw [Bool.eq_iff_iff]; simp

-- laws_szIndex
theorem szIndex_v (a b : Int) (l : List S93) (left : Int) (hl : l.length ≤ 9223372036854775807) (h0 : 0 ≤ left) (h1 : left ≤ 1048576) : laws_szIndex.f a b l left = some (if (l.length : Int) ≤ left then left - l.length else -1) := by
  have e : laws_szMetaS.f l left = some (if (l.length : Int) ≤ left then left - l.length else -1) := by
    unfold laws_szMetaS.f
    rw [w64 (by omega) (by omega)]
    by_cases h : (l.length : Int) ≤ left
    · rw [if_neg (by omega), if_pos h]
    · rw [if_pos (by omega), if_neg h]
  unfold laws_szIndex.f
  rw [e, Option.bind_some]
  by_cases h : (l.length : Int) ≤ left
  · rw [if_pos h, if_neg (by omega)]
  · rw [if_neg h, if_pos (by omega)]

-- keys
/-! Keys. -/
def kOk1 (l : List Int) (i : Nat) : Bool := (decide (1 ≤ l.getD i 0) && decide (l.getD i 0 ≤ 6)) && (i == 0 || decide (l.getD (i - 1) 0 < l.getD i 0))
/-- The keys are ok: 1 to 6, ascending. -/
def keysOk (l : List Int) : Bool := allFrom (kOk1 l) l.length 0
def KOk (l : List Int) : Prop := l.Pairwise (· < ·) ∧ ∀ x ∈ l, 1 ≤ x ∧ x ≤ 6
theorem kOk1_iff {l : List Int} {i : Nat} : kOk1 l i = true ↔ (1 ≤ l.getD i 0 ∧ l.getD i 0 ≤ 6) ∧ (i = 0 ∨ l.getD (i - 1) 0 < l.getD i 0) := by
  simp [kOk1]
/-- From one to the next ascending is ascending. -/
theorem asc_of_next {l : List Int} (h : ∀ i, 0 < i → i < l.length → l.getD (i - 1) 0 < l.getD i 0) : ∀ j i, i < j → j < l.length → l.getD i 0 < l.getD j 0 := by
  intro j
  induction j with
  | zero => intro i h1; omega
  | succ j ih =>
    intro i h1 h2
    have hj := h (j + 1) (by omega) h2
    simp only [Nat.add_sub_cancel] at hj
    rcases Nat.eq_or_lt_of_le (Nat.le_of_lt_succ h1) with e | e
    · rw [e]; exact hj
    · have := ih i e (by omega); omega
theorem keysOk_iff {l : List Int} : keysOk l = true ↔ KOk l := by
  unfold keysOk KOk
  rw [allFrom_iff]
  constructor
  · intro h
    have h' : ∀ j, j < l.length → _ := fun j hj => kOk1_iff.1 (h j (Nat.zero_le _) (by omega))
    refine ⟨?_, ?_⟩
    · rw [List.pairwise_iff_getElem]
      intro i j hi hj hij
      have := asc_of_next (fun i hi0 hi => (h' i hi).2.resolve_left (by omega)) j i hij hj
      rwa [getD_of_lt hi, getD_of_lt hj] at this
    · intro x hx
      obtain ⟨i, hi, rfl⟩ := List.getElem_of_mem hx
      have := (h' i hi).1
      rwa [getD_of_lt hi] at this
  · rintro ⟨h1, h2⟩ j - hj
    have hj : j < l.length := by omega
    rw [kOk1_iff]
    refine ⟨?_, ?_⟩
    · rw [getD_of_lt hj]; exact h2 _ (List.getElem_mem _)
    · rcases Nat.eq_zero_or_pos j with e | e
      · exact .inl e
      · refine .inr ?_
        rw [getD_of_lt hj, getD_of_lt (by omega)]
        exact List.pairwise_iff_getElem.1 h1 _ _ _ _ (by omega)
instance (l : List Int) : Decidable (KOk l) := decidable_of_iff _ keysOk_iff
/-- How many of a are in b. -/
def bothN (a b : List Int) : Nat := (a.filter (fun x => b.contains x)).length
def both (a b : List Int) : Int := if keysOk a = true ∧ keysOk b = true then (bothN a b : Int) else -1
theorem bothN_le (a b : List Int) : bothN a b ≤ a.length := List.length_filter_le _ _
/-- All ok keys. -/
def allKeys : List (List Int) := [1, 2, 3, 4, 5, 6].foldr (fun x ls => ls.map (x :: ·) ++ ls) [[]]
theorem asc_mem : ∀ (us : List Int) (l : List Int), us.Pairwise (· < ·) → l.Pairwise (· < ·) → (∀ x ∈ l, x ∈ us) → l ∈ us.foldr (fun x ls => ls.map (x :: ·) ++ ls) [[]]
  | [], l, _, _, h => by
    cases l with
    | nil => simp
    | cons a l => have := h a (by simp); simp at this
  | u :: us, l, hu, hl, h => by
    simp only [List.foldr_cons, List.mem_append, List.mem_map]
    rw [List.pairwise_cons] at hu
    cases l with
    | nil => exact .inr (asc_mem us [] hu.2 List.Pairwise.nil (by simp))
    | cons a l =>
      rw [List.pairwise_cons] at hl
      by_cases e : a = u
      · subst e
        refine .inl ⟨l, asc_mem us l hu.2 hl.2 (fun x hx => ?_), rfl⟩
        have h1 := hl.1 x hx
        have h2 := h x (by simp [hx])
        simp only [List.mem_cons] at h2
        rcases h2 with h2 | h2
        · omega
        · exact h2
      · refine .inr (asc_mem us (a :: l) hu.2 (List.pairwise_cons.2 hl) (fun x hx => ?_))
        have h2 := h x hx
        simp only [List.mem_cons] at h2 hx
        rcases h2 with h2 | h2
        · exfalso
          have ha := h a (by simp)
          simp only [List.mem_cons] at ha
          rcases ha with ha | ha
          · exact e ha
          · have := hu.1 a ha
            rcases hx with hx | hx
            · omega
            · have := hl.1 x hx; omega
        · exact h2
theorem mem_allKeys {l : List Int} (h : KOk l) : l ∈ allKeys := by
  refine asc_mem [1, 2, 3, 4, 5, 6] l (by decide) h.1 (fun x hx => ?_)
  have := h.2 x hx
  simp only [List.mem_cons, List.not_mem_nil, or_false]
  omega
theorem KOk.len {l : List Int} (h : KOk l) : l.length ≤ 6 := by
  have : ∀ l ∈ allKeys, l.length ≤ 6 := by decide
  exact this l (mem_allKeys h)
theorem KOk.nodup {l : List Int} (h : KOk l) : l.Nodup := h.1.imp (fun h => by omega)

-- metam0
def inB (n a b : Int) : Bool := decide (a ≤ n) && decide (n ≤ b)
theorem inB_iff {n a b : Int} : inB n a b = true ↔ a ≤ n ∧ n ≤ b := by unfold inB; rw [Bool.and_eq_true, decide_eq_true_eq, decide_eq_true_eq]
def lessB (n v m w : Int) : Bool := decide (n < m) || decide (n = m) && decide (v < w)
theorem lessB_iff {n v m w : Int} : lessB n v m w = true ↔ n < m ∨ n = m ∧ v < w := by unfold lessB; simp only [Bool.or_eq_true, Bool.and_eq_true, decide_eq_true_eq]

-- metam
/-! What an index tells. -/
abbrev Mt := S73
instance : DecidableEq S73 := fun x y => decidable_of_iff (x.f0 = y.f0 ∧ x.f1 = y.f1 ∧ x.f2 = y.f2) (by obtain ⟨a, b, c⟩ := x; obtain ⟨d, e, f⟩ := y; simp)
theorem rdM_nat (l : List Mt) (i : Nat) : rd_T73 l (i : Int) = l.getD i z73 := by unfold rd_T73; rw [Int.toNat_natCast]
def metaOk1 (l : List Mt) (i : Nat) : Bool := (inB (l.getD i z73).f0 1 4 && (inB (l.getD i z73).f1 1 5 && inB (l.getD i z73).f2 0 9972)) &&
  (i == 0 || lessB (l.getD (i - 1) z73).f0 (l.getD (i - 1) z73).f1 (l.getD i z73).f0 (l.getD i z73).f1)
def metasOk (l : List Mt) : Bool := allFrom (metaOk1 l) l.length 0
def indexOk (num till : Int) (l : List Mt) : Bool := (inB num 1 30 && (inB till 0 60 && decide (l.length ≤ 8))) && metasOk l

-- settake
theorem set_map_take {α β : Type} (g : α → β) (l : List α) (z : β) (i : Nat) (hi : i < l.length) : ((l.take i).map g ++ List.replicate (l.length - i) z).set i (g l[i]) = (l.take (i + 1)).map g ++ List.replicate (l.length - (i + 1)) z := by
  apply List.ext_getElem
  · simp only [List.length_set, List.length_append, List.length_map, List.length_take, List.length_replicate]; omega
  · intro j h1 h2
    simp only [List.length_set, List.length_append, List.length_map, List.length_take, List.length_replicate] at h1
    rw [List.getElem_set]
    by_cases hij : i = j
    · subst hij
      rw [if_pos rfl, List.getElem_append_left (by simp; omega)]
      simp
    · rw [if_neg hij]
      by_cases hlt : j < i
      · rw [List.getElem_append_left (by simp; omega), List.getElem_append_left (by simp; omega)]; simp
      · rw [List.getElem_append_right (by simp; omega), List.getElem_append_right (by simp; omega)]; simp

-- laws_toMetaS
abbrev LMt := S93
def toM (x : LMt) : Mt := ⟨x.f0, x.f1, x.f2⟩
theorem toMetaS_v (l : List LMt) (hl : l.length ≤ 1048577) : Ev (fun k => laws_toMetaS.f k l) (l.map toM) := by
  unfold laws_toMetaS.f
  refine Ev.pos (by omega) (Ev.pos (by omega) ?_)
  rw [Int.toNat_natCast]
  have := step_loop (F := fun k i => laws_toMetaS.l0 k l ((l.take i.toNat).map toM ++ List.replicate (l.length - i.toNat) z73) i) (R := fun _ => l.map toM) (n := l.length) ?_ ?_ l.length 0 (by omega)
  · simpa using this
  · refine Ev.down ?_
    simp only [laws_toMetaS.l0]
    refine Ev.neg (by omega) ?_
    simp only [Int.toNat_natCast, List.take_length, Nat.sub_self, List.replicate_zero, List.append_nil]
    exact Ev.now _
  · intro i hi hr
    refine Ev.down ?_
    simp only [laws_toMetaS.l0]
    refine Ev.pos (by omega) (Ev.pos (by omega) (Ev.bind (Ev.con rfl) (Ev.pos (by simp only [Int.toNat_natCast, List.length_append, List.length_map, List.length_take, List.length_replicate]; omega) ?_)))
    rw [w64 (by omega) (by omega)]
    simp only [Int.toNat_natCast] at hr ⊢
    have e := set_map_take toM l z73 i hi
    have e2 : toM l[i] = ⟨(rd_T93 l i).f0, (rd_T93 l i).f1, (rd_T93 l i).f2⟩ := by
      unfold rd_T93
      rw [Int.toNat_natCast, getD_of_lt hi]; rfl
    rw [e2] at e
    rw [e]
    exact hr

-- laws_toIndex
theorem toIndex_v (a b : Int) (l : List LMt) (hl : l.length ≤ 1048577) : Ev (fun k => laws_toIndex.f k a b l) (a, b, l.map toM) := by
  unfold laws_toIndex.f
  exact Ev.bind (toMetaS_v l hl) (Ev.now _)

-- laws_eqMetaS
theorem eqMeta_v (x y : Mt) : laws_eqMeta.f x.f0 x.f1 x.f2 y.f0 y.f1 y.f2 = some (decide (x = y)) := by
  obtain ⟨a, b, c⟩ := x
  obtain ⟨d, e, f⟩ := y
  unfold laws_eqMeta.f
  by_cases h1 : a = d
  · rw [if_pos h1]
    by_cases h2 : b = e
    · rw [if_pos h2]
      by_cases h3 : c = f
      · rw [if_pos h3, decide_eq_true (by rw [h1, h2, h3])]
      · rw [if_neg h3, decide_eq_false (fun h => h3 (S73.mk.inj h).2.2)]
    · rw [if_neg h2, decide_eq_false (fun h => h2 (S73.mk.inj h).2.1)]
  · rw [if_neg h1, decide_eq_false (fun h => h1 (S73.mk.inj h).1)]
theorem eqMetaS_v (a b : List Mt) (hl : a.length ≤ 17592186044416) : Ev (fun k => laws_eqMetaS.f k a b) (decide (a = b)) := by
  unfold laws_eqMetaS.f
  by_cases h : a.length = b.length
  · refine Ev.pos (by omega) ?_
    refine Ev.re (check_loop (F := fun k i => laws_eqMetaS.l0 k a b i) (p := fun i => decide (a.getD i z73 = b.getD i z73)) (n := a.length) ?_ ?_ ?_ a.length 0 (by omega)) ?_
    · refine Ev.down ?_
      simp only [laws_eqMetaS.l0]
      exact Ev.neg (by omega) (Ev.now _)
    · intro i hi hp r hr
      refine Ev.down ?_
      simp only [laws_eqMetaS.l0]
      rw [rdM_nat, rdM_nat]
      refine Ev.pos (by omega) (Ev.pos (by omega) (Ev.pos (by omega) (Ev.bind (Ev.con (eqMeta_v _ _)) (Ev.pos hp ?_))))
      rw [w64 (by omega) (by omega)]
      exact hr
    · intro i hi hp
      refine Ev.down ?_
      simp only [laws_eqMetaS.l0]
      rw [rdM_nat, rdM_nat]
      exact Ev.pos (by omega) (Ev.pos (by omega) (Ev.pos (by omega) (Ev.bind (Ev.con (eqMeta_v _ _)) (Ev.neg (by rw [hp]; simp) (Ev.now _)))))
    · rw [Bool.eq_iff_iff, allFrom_iff, decide_eq_true_eq]
      constructor
      · intro hh
        refine List.ext_getElem h (fun i h1 h2 => ?_)
        have := of_decide_eq_true (hh i (by omega) (by omega))
        rwa [getD_of_lt h1, getD_of_lt h2] at this
      · rintro rfl j - -
        simp
  · refine Ev.neg (by omega) (Ev.eq ?_)
    symm
    rw [decide_eq_false_iff_not]
    exact fun e => h (by rw [e])

-- laws_eqIndex
theorem eqIndex_same (a b : Int) (l : List Mt) (hl : l.length ≤ 17592186044416) : Ev (fun k => laws_eqIndex.f k a b l a b l) true := by
  unfold laws_eqIndex.f
  exact Ev.pos rfl (Ev.pos rfl (Ev.bind (eqMetaS_v l l hl) (Ev.pos (by simp) (Ev.now _))))

-- strm
/-! Texts as lists of numbers. -/
theorem bytesOf_append (a b : ByteArray) : bytesOf (a ++ b) = bytesOf a ++ bytesOf b := by
  unfold bytesOf
  rw [ByteArray.data_append, Array.toList_append, List.map_append]
theorem bytesOf_str {l : List Int} (h : ∀ x ∈ l, 0 ≤ x ∧ x ≤ 255) : bytesOf (strOfNums l) = l := by
  unfold bytesOf
  rw [strOfNums_data, List.map_map]
  conv => rhs; rw [← List.map_id l]
  apply List.map_congr_left
  intro x hx
  have := h x hx
  simp only [Function.comp, id]
  rw [UInt8.toNat_ofNat_of_lt' (by simp only [UInt8.size]; omega)]
  omega
theorem bytesOf_inj {a b : ByteArray} (h : bytesOf a = bytesOf b) : a = b := by
  unfold bytesOf at h
  apply ByteArray.ext
  apply Array.toList_inj.1
  have inj : ∀ l l' : List UInt8, l.map (fun b => (b.toNat : Int)) = l'.map (fun b => (b.toNat : Int)) → l = l' := by
    intro l
    induction l with
    | nil => intro l' h; cases l' with
      | nil => rfl
      | cons x l' => simp at h
    | cons x l ih =>
      intro l' h
      cases l' with
      | nil => simp at h
      | cons y l' =>
        simp only [List.map_cons, List.cons.injEq] at h
        have : x = y := UInt8.toNat_inj.1 (by omega)
        rw [this, ih l' h.2]
  exact inj _ _ h
theorem bytesOf_range (s : ByteArray) : ∀ x ∈ bytesOf s, 0 ≤ x ∧ x ≤ 255 := by
  intro x hx
  unfold bytesOf at hx
  obtain ⟨b, _, rfl⟩ := List.mem_map.1 hx
  have := b.toNat_lt
  omega
theorem str_bytesOf (s : ByteArray) : strOfNums (bytesOf s) = s := bytesOf_inj (bytesOf_str (bytesOf_range s))
theorem str_append (a b : List Int) : strOfNums a ++ strOfNums b = strOfNums (a ++ b) := by
  apply ByteArray.ext
  apply Array.toList_inj.1
  rw [ByteArray.data_append, Array.toList_append, strOfNums_data, strOfNums_data, strOfNums_data, List.map_append]
theorem str_inj {a b : List Int} (ha : ∀ x ∈ a, 0 ≤ x ∧ x ≤ 255) (hb : ∀ x ∈ b, 0 ≤ x ∧ x ≤ 255) (h : strOfNums a = strOfNums b) : a = b := by
  rw [← bytesOf_str ha, h, bytesOf_str hb]
theorem bytesOf_extract (s : ByteArray) (i j : Nat) : bytesOf (s.extract i j) = ((bytesOf s).take j).drop i := by
  unfold bytesOf
  rw [ByteArray.data_extract, Array.toList_extract, List.extract_eq_take_drop, List.map_take, List.map_drop, List.drop_take]

-- txt0
theorem toList_str (l : List Int) : (strOfNums l).toList = l.map fun n => UInt8.ofNat n.toNat := by rw [ByteArray.toList_eq]; rfl
theorem toList_inj {a b : ByteArray} : a.toList = b.toList ↔ a = b := by
  rw [ByteArray.toList_eq, ByteArray.toList_eq]
  exact ⟨fun h => ByteArray.ext (Array.toList_inj.1 h), fun h => by rw [h]⟩
theorem str_isnil (l : List Int) : ((strOfNums l).toList == ([] : List UInt8)) = decide (l = []) := by
  rw [toList_str]
  cases l <;> rfl

-- idxtext
/-! An index's text, number by number. -/
def metaL (m : Mt) : List Int := [96 + m.f0, 48 + m.f1, 32] ++ dg m.f2 ++ [10]
def idxL (n u : Int) (ms : List Mt) : List Int := (dg n ++ [32] ++ dg u ++ [10]) ++ ms.flatMap metaL
def idxS (n u : Int) (ms : List Mt) : ByteArray := if indexOk n u ms = true then strOfNums (idxL n u ms) else strOfNums []
theorem idxOk_range {n u : Int} {ms : List Mt} (h : indexOk n u ms = true) : (1 ≤ n ∧ n ≤ 30) ∧ (0 ≤ u ∧ u ≤ 60) ∧ ms.length ≤ 8 ∧ ∀ m ∈ ms, (1 ≤ m.f0 ∧ m.f0 ≤ 4) ∧ (1 ≤ m.f1 ∧ m.f1 ≤ 5) ∧ (0 ≤ m.f2 ∧ m.f2 ≤ 9972) := by
  unfold indexOk metasOk at h
  simp only [Bool.and_eq_true, inB_iff, decide_eq_true_eq, allFrom_iff] at h
  obtain ⟨⟨h1, h2, h3⟩, h4⟩ := h
  refine ⟨h1, h2, h3, fun m hm => ?_⟩
  obtain ⟨i, hi, rfl⟩ := List.getElem_of_mem hm
  have := h4 i (Nat.zero_le _) (by omega)
  unfold metaOk1 at this
  rw [getD_of_lt hi] at this
  simp only [Bool.and_eq_true, inB_iff] at this
  exact this.1
theorem dg_ge {n : Int} (h0 : 0 ≤ n) (h1 : n ≤ 9999) : ∀ d ∈ dg n, 48 ≤ d ∧ d ≤ 57 := by
  intro d hd
  unfold dg at hd
  split at hd
  · simp only [List.mem_cons, List.not_mem_nil, or_false] at hd; omega
  · split at hd
    · simp only [List.mem_cons, List.not_mem_nil, or_false] at hd; omega
    · split at hd <;> simp only [List.mem_cons, List.not_mem_nil, or_false] at hd <;> omega
theorem dg_inj {a b : Int} (ha : 0 ≤ a ∧ a ≤ 9999) (hb : 0 ≤ b ∧ b ≤ 9999) (h : dg a = dg b) : a = b := by
  unfold dg at h
  repeat' split at h
  all_goals simp only [List.cons.injEq, and_true, reduceCtorEq, and_false] at h
  all_goals omega
theorem dg_cut : ∀ (a b : List Int) (x y : Int) (r s : List Int), (∀ d ∈ a, 48 ≤ d) → (∀ d ∈ b, 48 ≤ d) → x < 48 → y < 48 → a ++ x :: r = b ++ y :: s → a = b ∧ x = y ∧ r = s
  | [], [], x, y, r, s, _, _, _, _, h => by
    simp only [List.nil_append, List.cons.injEq] at h
    exact ⟨rfl, h.1, h.2⟩
  | [], d :: b, x, y, r, s, _, hb, hx, _, h => by
    simp only [List.nil_append, List.cons_append, List.cons.injEq] at h
    have := hb d List.mem_cons_self
    omega
  | d :: a, [], x, y, r, s, ha, _, _, hy, h => by
    simp only [List.nil_append, List.cons_append, List.cons.injEq] at h
    have := ha d List.mem_cons_self
    omega
  | d :: a, e :: b, x, y, r, s, ha, hb, hx, hy, h => by
    simp only [List.cons_append, List.cons.injEq] at h
    obtain ⟨h1, h2, h3⟩ := dg_cut a b x y r s (fun d hd => ha d (List.mem_cons_of_mem _ hd)) (fun d hd => hb d (List.mem_cons_of_mem _ hd)) hx hy h.2
    exact ⟨by rw [h.1, h1], h2, h3⟩
def MtIn (m : Mt) : Prop := (1 ≤ m.f0 ∧ m.f0 ≤ 4) ∧ (1 ≤ m.f1 ∧ m.f1 ≤ 5) ∧ (0 ≤ m.f2 ∧ m.f2 ≤ 9972)
theorem metas_inj : ∀ (l l' : List Mt), (∀ m ∈ l, MtIn m) → (∀ m ∈ l', MtIn m) → l.flatMap metaL = l'.flatMap metaL → l = l'
  | [], [], _, _, _ => rfl
  | [], m :: l', _, _, h => by simp [metaL] at h
  | m :: l, [], _, _, h => by simp [metaL] at h
  | m :: l, m' :: l', hl, hl', h => by
    obtain ⟨_, _, a⟩ := hl m List.mem_cons_self
    obtain ⟨_, _, b⟩ := hl' m' List.mem_cons_self
    simp only [List.flatMap_cons, metaL, List.append_assoc, List.cons_append, List.nil_append, List.cons.injEq, true_and] at h
    obtain ⟨h1, h2, h3⟩ := h
    obtain ⟨h4, _, h5⟩ := dg_cut _ _ 10 10 _ _ (fun d hd => (dg_ge a.1 (by omega) d hd).1) (fun d hd => (dg_ge b.1 (by omega) d hd).1) (by omega) (by omega) h3
    have h6 := dg_inj (by omega) (by omega) h4
    rw [metas_inj l l' (fun x hx => hl x (List.mem_cons_of_mem _ hx)) (fun x hx => hl' x (List.mem_cons_of_mem _ hx)) h5]
    congr 1
    cases m; cases m'
    simp only at h1 h2 h6
    obtain rfl := show _ = _ by exact (Int.add_left_cancel h1)
    obtain rfl := show _ = _ by exact (Int.add_left_cancel h2)
    obtain rfl := h6
    rfl
theorem idxL_inj {n u n' u' : Int} {ms ms' : List Mt} (h : indexOk n u ms = true) (h' : indexOk n' u' ms' = true) (e : idxL n u ms = idxL n' u' ms') : n = n' ∧ u = u' ∧ ms = ms' := by
  obtain ⟨a, b, _, c⟩ := idxOk_range h
  obtain ⟨a', b', _, c'⟩ := idxOk_range h'
  unfold idxL at e
  simp only [List.append_assoc, List.cons_append, List.nil_append] at e
  obtain ⟨e1, _, e2⟩ := dg_cut _ _ 32 32 _ _ (fun d hd => (dg_ge (n := n) (by omega) (by omega) d hd).1) (fun d hd => (dg_ge (n := n') (by omega) (by omega) d hd).1) (by omega) (by omega) e
  obtain ⟨e3, _, e4⟩ := dg_cut _ _ 10 10 _ _ (fun d hd => (dg_ge (n := u) (by omega) (by omega) d hd).1) (fun d hd => (dg_ge (n := u') (by omega) (by omega) d hd).1) (by omega) (by omega) e2
  exact ⟨dg_inj (by omega) (by omega) e1, dg_inj (by omega) (by omega) e3, metas_inj ms ms' c c' e4⟩
theorem idxL_range {n u : Int} {ms : List Mt} (h : indexOk n u ms = true) : ∀ x ∈ idxL n u ms, 0 ≤ x ∧ x ≤ 255 := by
  obtain ⟨a, b, _, c⟩ := idxOk_range h
  intro x hx
  unfold idxL at hx
  simp only [List.mem_append, List.mem_cons, List.not_mem_nil, or_false, List.mem_flatMap] at hx
  rcases hx with (((hx | rfl) | hx) | rfl) | ⟨m, hm, hx⟩
  · have := dg_ge (by omega) (by omega) x hx; omega
  · omega
  · have := dg_ge (by omega) (by omega) x hx; omega
  · omega
  · have := c m hm
    unfold metaL at hx
    simp only [List.mem_append, List.mem_cons, List.not_mem_nil, or_false] at hx
    rcases hx with ((rfl | rfl | rfl) | hx) | rfl
    · omega
    · omega
    · omega
    · have := dg_ge (by omega) (by omega) x hx; omega
    · omega
theorem idxL_ne (n u : Int) (ms : List Mt) : idxL n u ms ≠ [] := by unfold idxL; simp
theorem idxS_ok {n u : Int} {ms : List Mt} (h : indexOk n u ms = true) : idxS n u ms = strOfNums (idxL n u ms) := if_pos h
theorem idxS_no {n u : Int} {ms : List Mt} (h : indexOk n u ms = false) : idxS n u ms = strOfNums [] := if_neg (by rw [h]; decide)
theorem idxS_eq_iff {n u n' u' : Int} {ms ms' : List Mt} (h : indexOk n u ms = true) (h' : indexOk n' u' ms' = true) : idxS n u ms = idxS n' u' ms' ↔ n = n' ∧ u = u' ∧ ms = ms' := by
  rw [idxS_ok h, idxS_ok h']
  exact ⟨fun e => idxL_inj h h' (str_inj (idxL_range h) (idxL_range h') e), fun ⟨a, b, c⟩ => by rw [a, b, c]⟩

-- spec_l6In
theorem l6In_v (a b c : Int) : spec_l6In.f a b c = some (decide (b ≤ a) && decide (a ≤ c)) := by
  unfold spec_l6In.f
  by_cases h : a ≥ b
  · rw [if_pos h]; simp; omega
  · rw [if_neg h]; simp; omega

-- spec_l3Less
theorem l3Less_v (n v m w : Int) : spec_l3Less.f n v m w = some (lessB n v m w) := by
  unfold spec_l3Less.f lessB
  by_cases h : n < m
  · rw [if_pos h, decide_eq_true h]; rfl
  · rw [if_neg h, decide_eq_false h]
    by_cases e : n = m
    · rw [if_pos e, decide_eq_true e]; rfl
    · rw [if_neg e, decide_eq_false e]; rfl

-- spec_IndexOk
theorem spec_IndexOk_v (num till : Int) (l : List Mt) (hl : l.length ≤ 17592186044416) : Ev (fun k => spec_IndexOk.f k num till l) (indexOk num till l) := by
  have l6In_v : ∀ a b c : Int, spec_l6In.f a b c = some (inB a b c) := l6In_v
  unfold spec_IndexOk.f indexOk
  have no : Ev (fun k => spec_IndexOk.j0 k true num till l) false := by
    refine Ev.down ?_
    simp only [spec_IndexOk.j0]
    exact Ev.pos trivial (Ev.now _)
  have nope : ∀ i : Int, ∀ a b c, Ev (fun k => spec_IndexOk.j2 k i true num till l a b c) false := by
    intro i a b c
    refine Ev.down ?_
    simp only [spec_IndexOk.j2]
    exact Ev.pos trivial (Ev.now _)
  have loop : Ev (fun k => spec_IndexOk.l0 k 0 num till l) (metasOk l) := by
    refine check_loop (F := fun k i => spec_IndexOk.l0 k i num till l) (p := metaOk1 l) (n := l.length) ?_ ?_ ?_ l.length 0 (by omega)
    · refine Ev.down ?_
      simp only [spec_IndexOk.l0]
      exact Ev.neg (by omega) (Ev.now _)
    · intro i hi hp r hr
      unfold metaOk1 at hp
      simp only [Bool.and_eq_true, Bool.or_eq_true, beq_iff_eq] at hp
      obtain ⟨⟨h1, h2, h3⟩, h4⟩ := hp
      refine Ev.down ?_
      simp only [spec_IndexOk.l0]
      rw [rdM_nat]
      refine Ev.pos (by omega) (Ev.pos (by omega) (Ev.bind (Ev.con (l6In_v _ _ _)) (Ev.pos h1 (Ev.bind (Ev.con (l6In_v _ _ _)) (Ev.pos h2 (Ev.bind (Ev.con (l6In_v _ _ _)) ?_))))))
      rw [h3]
      refine Ev.down ?_
      simp only [spec_IndexOk.j2]
      refine Ev.neg (by simp) ?_
      rw [w64 (n := (i : Int) + 1) (by omega) (by omega)]
      by_cases h0 : i = 0
      · exact Ev.neg (by omega) hr
      · refine Ev.pos (by omega) ?_
        rw [w64 (n := (i : Int) - 1) (by omega) (by omega)]
        refine Ev.pos (by omega) (Ev.pos (by omega) (Ev.bind (Ev.con (l3Less_v _ _ _ _)) ?_))
        rw [show (i : Int) - 1 = ((i - 1 : Nat) : Int) by omega, rdM_nat]
        exact Ev.pos (h4.resolve_left h0) hr
    · intro i hi hp
      unfold metaOk1 at hp
      refine Ev.down ?_
      simp only [spec_IndexOk.l0]
      rw [rdM_nat]
      refine Ev.pos (by omega) (Ev.pos (by omega) (Ev.bind (Ev.con (l6In_v _ _ _)) ?_))
      cases h1 : inB (l.getD i z73).f0 1 4 with
      | false => exact Ev.neg (by simp) (nope _ _ _ _)
      | true =>
        refine Ev.pos (by simp) (Ev.bind (Ev.con (l6In_v _ _ _)) ?_)
        cases h2 : inB (l.getD i z73).f1 1 5 with
        | false => exact Ev.neg (by simp) (nope _ _ _ _)
        | true =>
          refine Ev.pos (by simp) (Ev.bind (Ev.con (l6In_v _ _ _)) ?_)
          cases h3 : inB (l.getD i z73).f2 0 9972 with
          | false => exact nope _ _ _ _
          | true =>
            rw [h1, h2, h3] at hp
            simp only [Bool.and_self, Bool.true_and, Bool.or_eq_false_iff, beq_eq_false_iff_ne] at hp
            refine Ev.down ?_
            simp only [spec_IndexOk.j2]
            refine Ev.neg (by simp) (Ev.pos (by omega) ?_)
            rw [w64 (n := (i : Int) - 1) (by omega) (by omega)]
            refine Ev.pos (by omega) (Ev.pos (by omega) (Ev.bind (Ev.con (l3Less_v _ _ _ _)) ?_))
            rw [show (i : Int) - 1 = ((i - 1 : Nat) : Int) by omega, rdM_nat]
            exact Ev.neg (by rw [hp.2]; simp) (Ev.now _)
  refine Ev.bind (Ev.con (l6In_v _ _ _)) ?_
  cases h1 : inB num 1 30 with
  | false => exact Ev.neg (by simp) no
  | true =>
    refine Ev.pos (by simp) (Ev.bind (Ev.con (l6In_v _ _ _)) ?_)
    cases h2 : inB till 0 60 with
    | false => exact Ev.neg (by simp) no
    | true =>
      refine Ev.pos (by simp) ?_
      by_cases h3 : l.length ≤ 8
      · rw [decide_eq_false (show ¬ ((l.length : Int) > 8) by omega), decide_eq_true h3]
        refine Ev.down ?_
        simp only [spec_IndexOk.j0]
        exact Ev.neg (by simp) loop
      · rw [decide_eq_true (show ((l.length : Int) > 8) by omega), decide_eq_false h3]
        exact no

-- spec_l6Dec
/-- One figure. -/
theorem l6Dec_1 (n : Int) (h0 : 0 ≤ n) (h1 : n ≤ 9) : Ev (fun k => spec_l6Dec.f k n) (strOfNums [48 + n]) := by
  refine Ev.down ?_
  simp only [spec_l6Dec.f]
  refine Ev.neg (by omega) (Ev.neg (by omega) (Ev.pos (by omega) (Ev.eq ?_)))
  rw [w64 (by omega) (by omega), Int.emod_eq_of_lt (by omega) (by omega)]

-- spec_l1Name
theorem l1Name_v (a v : Int) (h0 : 0 ≤ a) (h1 : a ≤ 9) (h2 : 0 ≤ v) (h3 : v ≤ 9) : Ev (fun k => spec_l1Name.f k a v) (strOfNums [96 + a, 48 + v]) := by
  unfold spec_l1Name.f
  refine Ev.bind (f := fun k y => _) (Ev.now _) (Ev.bind (l6Dec_1 v h2 h3) (Ev.pos (by rw [strOfNums_size, strOfNums_size]; simp) (Ev.eq ?_)))
  rw [str_append, w64 (n := 97 + a) (by omega) (by omega), w64 (by omega) (by omega), Int.emod_eq_of_lt (by omega) (by omega), show 97 + a - 1 = 96 + a by omega]
  rfl

-- spec_l6DecN
theorem l6Dec_step (n : Int) (l : List Int) (h0 : 10 ≤ n) (h1 : n ≤ 9999) (hl : l.length ≤ 10) (h : Ev (fun k => spec_l6Dec.f k (n / 10)) (strOfNums l)) : Ev (fun k => spec_l6Dec.f k n) (strOfNums (l ++ [48 + n % 10])) := by
  refine Ev.down ?_
  simp only [spec_l6Dec.f]
  rw [Int.tdiv_eq_ediv_of_nonneg (by omega), Int.tmod_eq_emod_of_nonneg (by omega), w64 (n := n / 10) (by omega) (by omega), w64 (n := 48 + n % 10) (by omega) (by omega), Int.emod_eq_of_lt (a := 48 + n % 10) (by omega) (by omega)]
  refine Ev.neg (by omega) (Ev.neg (by omega) (Ev.neg (by omega) (Ev.bind h (Ev.bind (f := fun k y => _) (Ev.now _) (Ev.pos (by rw [strOfNums_size, strOfNums_size]; simp; omega) (Ev.eq ?_))))))
  rw [str_append]
theorem l6Dec_v (n : Int) (h0 : 0 ≤ n) (h1 : n ≤ 9999) : Ev (fun k => spec_l6Dec.f k n) (strOfNums (dg n)) := by
  unfold dg
  by_cases c1 : n < 10
  · rw [if_pos c1]
    exact l6Dec_1 n h0 (by omega)
  · rw [if_neg c1]
    by_cases c2 : n < 100
    · rw [if_pos c2]
      exact l6Dec_step n [48 + n / 10] (by omega) h1 (by simp) (l6Dec_1 _ (by omega) (by omega))
    · rw [if_neg c2]
      have s2 := l6Dec_step (n / 10) [48 + n / 10 / 10]
      by_cases c3 : n < 1000
      · rw [if_pos c3]
        rw [show n / 100 = n / 10 / 10 by omega]
        exact l6Dec_step n [48 + n / 10 / 10, 48 + n / 10 % 10] (by omega) h1 (by simp) (s2 (by omega) (by omega) (by simp) (l6Dec_1 _ (by omega) (by omega)))
      · rw [if_neg c3]
        rw [show n / 1000 = n / 10 / 10 / 10 by omega, show n / 100 = n / 10 / 10 by omega]
        exact l6Dec_step n [48 + n / 10 / 10 / 10, 48 + n / 10 / 10 % 10, 48 + n / 10 % 10] (by omega) h1 (by simp)
          (l6Dec_step (n / 10) [48 + n / 10 / 10 / 10, 48 + n / 10 / 10 % 10] (by omega) (by omega) (by simp)
            (l6Dec_step (n / 10 / 10) [48 + n / 10 / 10 / 10] (by omega) (by omega) (by simp) (l6Dec_1 _ (by omega) (by omega))))

-- spec_IndexText
theorem spec_IndexText_v (n u : Int) (ms : List Mt) (hl : ms.length ≤ 17592186044416) : Ev (fun k => spec_IndexText.f k n u ms) (idxS n u ms) := by
  unfold spec_IndexText.f idxS
  refine Ev.bind (spec_IndexOk_v n u ms hl) ?_
  cases ok : indexOk n u ms with
  | false => exact Ev.neg (by simp) (Ev.eq rfl)
  | true =>
    obtain ⟨⟨n0, n1⟩, ⟨u0, u1⟩, lm, rm⟩ := idxOk_range ok
    rw [if_pos rfl, show (⟨#[32]⟩ : ByteArray) = strOfNums [32] from rfl, show (⟨#[10]⟩ : ByteArray) = strOfNums [10] from rfl, ]
    have ln := dg_len n
    have lu := dg_len u
    have rows : ∀ d i : Nat, i + d = ms.length → ∀ acc : List Int, acc.length ≤ 50 + 8 * i → Ev (fun k => spec_IndexText.l0 k (strOfNums acc) (i : Int) n u ms) (strOfNums (acc ++ (ms.drop i).flatMap metaL)) := by
      intro d
      induction d with
      | zero =>
        intro i hi acc ha
        refine Ev.down ?_
        simp only [spec_IndexText.l0]
        refine Ev.neg (by omega) (Ev.eq ?_)
        rw [List.drop_of_length_le (by omega)]; simp
      | succ d ih =>
        intro i hi acc ha
        have hil : i < ms.length := by omega
        have l2 := dg_len ms[i].f2
        have hr := ih (i + 1) (by omega) (acc ++ metaL ms[i]) (by rw [List.length_append]; simp only [metaL, List.length_append, List.length_cons, List.length_nil]; omega)
        obtain ⟨⟨a0, a1⟩, ⟨b0, b1⟩, c0, c1⟩ := rm ms[i] (List.getElem_mem _)
        refine Ev.down ?_
        simp only [spec_IndexText.l0]
        rw [rdM_nat, getD_of_lt hil, show (⟨#[32]⟩ : ByteArray) = strOfNums [32] from rfl, show (⟨#[10]⟩ : ByteArray) = strOfNums [10] from rfl]
        refine Ev.pos (by omega) (Ev.pos (by omega) (Ev.bind (l1Name_v _ _ (by omega) (by omega) (by omega) (by omega)) ?_))
        rw [str_append, str_append]
        refine Ev.pos (by rw [strOfNums_size, strOfNums_size]; simp only [List.length_append, List.length_cons, List.length_nil]; omega) (Ev.pos (by rw [strOfNums_size]; simp only [List.length_append, List.length_cons, List.length_nil]; omega) (Ev.bind (l6Dec_v _ (by omega) (by omega)) ?_))
        rw [str_append, str_append]
        refine Ev.pos (by rw [strOfNums_size, strOfNums_size]; simp only [List.length_append, List.length_cons, List.length_nil]; omega) (Ev.pos (by rw [strOfNums_size]; simp only [List.length_append, List.length_cons, List.length_nil]; omega) ?_)
        rw [w64 (by omega) (by omega), List.drop_eq_getElem_cons hil, List.flatMap_cons, ← List.append_assoc]
        have e : acc ++ [96 + ms[i].f0, 48 + ms[i].f1] ++ [32] ++ dg ms[i].f2 ++ [10] = acc ++ metaL ms[i] := by simp [metaL]
        rw [e]
        exact hr
    refine Ev.pos rfl (Ev.bind (l6Dec_v n (by omega) (by omega)) (Ev.pos (by rw [strOfNums_size]; omega) (Ev.bind (l6Dec_v u (by omega) (by omega)) ?_)))
    rw [str_append, str_append, str_append]
    refine Ev.pos (by rw [strOfNums_size, strOfNums_size]; simp only [List.length_append, List.length_cons, List.length_nil]; omega) (Ev.pos (by rw [strOfNums_size]; simp only [List.length_append, List.length_cons, List.length_nil]; omega) ?_)
    have := rows ms.length 0 (by omega) (dg n ++ [32] ++ dg u ++ [10]) (by simp only [List.length_append, List.length_cons, List.length_nil]; omega)
    simpa [idxL] using this

-- impl_IndexOk
theorem ixB_eq (num till : Int) (l : List Mt) : ixB num till l = indexOk num till l := by
  have e : ∀ d i, okFrom (ixm1 l) d i = allFrom (metaOk1 l) d i := by
    intro d
    induction d with
    | zero => intro i; rfl
    | succ d ih =>
      intro i
      show (_ && _) = (_ && _)
      rw [ih]
      congr 1
      unfold ixm1 metaOk1 lessB
      simp only [Bool.and_assoc]
      rfl
  unfold ixB indexOk metasOk
  rw [e, Bool.and_comm]
  rfl
theorem impl_IndexOk_v (num till : Int) (l : List Mt) (hl : l.length ≤ 17592186044416) : Ev (fun k => impl_IndexOk.f k num till l) (indexOk num till l) := by
  rw [← ixB_eq]
  exact Ev.now _

-- impl_IndexText
theorem impl_IndexText_v (n u : Int) (ms : List Mt) : Ev (fun k => impl_IndexText.f k n u ms) (idxS n u ms) := by
  have e : itS n u ms = idxS n u ms := by
    unfold itS idxS
    rw [ixB_eq]
    rfl
  rw [← e]
  exact Ev.now _

-- the law
theorem FnExactIndexText (a b : Int) (l : List LMt) (hl : l.length ≤ 9223372036854775807) : ∃ k, laws_FnExactIndexText.f k a b l = some true := by
  refine Ev.rounds (g := fun k => laws_FnExactIndexText.f k a b l) ?_
  unfold laws_FnExactIndexText.f
  refine Ev.bind (Ev.con (szIndex_v a b l _ hl (by omega) (by omega))) ?_
  by_cases h : (l.length : Int) ≤ 1048576
  · rw [if_pos h]
    have hm : (l.map toM).length ≤ 17592186044416 := by rw [List.length_map]; omega
    refine Ev.neg (by omega) (Ev.bind (toIndex_v a b l (by omega)) (Ev.bind (spec_IndexText_v a b _ hm) ?_))
    refine Ev.bind (toIndex_v a b l (by omega)) (Ev.bind (impl_IndexText_v a b _) (Ev.pos rfl ?_))
    exact Ev.bind (toIndex_v a b l (by omega)) (Ev.bind (eqIndex_same _ _ _ hm) (Ev.pos rfl (Ev.now _)))
  · rw [if_neg h]
    exact Ev.pos (by omega) (Ev.now _)

end Go.Proofs.YtlmgnnpmcdeclaaDoor.Pure
