/- What is left of the law FnExactIndexHas, proved: the printed function answers true at every argument within the bounds of the statement. No further condition. -/
import Derived.Test.YtkjgnnjcjkphbaaGreatDoorPFnExactIndexHasx5
set_option linter.unusedVariables false
set_option linter.unusedSimpArgs false
namespace Go.Proofs.YtkjgnnjcjkphbaaGreatDoor
/-- The printed row asks for this word by its short name. -/
theorem PrintWords.sized_ints : type_of% @Go.Proofs.YtkjgnnjcjkphbaaGreatDoorW.PrintWords.sized_ints := @Go.Proofs.YtkjgnnjcjkphbaaGreatDoorW.PrintWords.sized_ints
end Go.Proofs.YtkjgnnjcjkphbaaGreatDoor
namespace Go.Proofs.YtkjgnnjcjkphbaaGreatDoor.Pure
open Go.RowKit Go.Proofs.YtkjgnnjcjkphbaaGreatDoor.PFnExactIndexHas Go.Proofs.YtkjgnnjcjkphbaaGreatDoorW.PrintWords Go.Proofs.YtkjgnnjcjkphbaaGreatDoorW.PrintLast Go.Proofs.YtkjgnnjcjkphbaaGreatDoorW.PrintMore

-- ev
/-! Ways to reckon a printed function from some number of rounds on. -/
theorem Ev.pos {α : Type} {c : Prop} {d : Decidable c} {f g : Nat → Option α} {r : α} (h : c) (e : Ev f r) : Ev (fun k => if c then f k else g k) r := Ev.congr (fun _ => if_pos h) e
theorem Ev.neg {α : Type} {c : Prop} {d : Decidable c} {f g : Nat → Option α} {r : α} (h : ¬ c) (e : Ev g r) : Ev (fun k => if c then f k else g k) r := Ev.congr (fun _ => if_neg h) e
theorem Ev.con {α : Type} {x : Option α} {r : α} (h : x = some r) : Ev (fun _ => x) r := ⟨0, fun _ _ => h⟩
theorem Ev.eq {α : Type} {r r' : α} (h : r' = r) : Ev (fun _ => some r') r := ⟨0, fun _ _ => by rw [h]⟩
theorem Ev.re {α : Type} {g : Nat → Option α} {r r' : α} (e : Ev g r') (h : r' = r) : Ev g r := h ▸ e
theorem Ev.down {α : Type} {g : Nat → Option α} {r : α} (e : Ev (fun k => g (k + 1)) r) : Ev g r := Ev.step (fun _ => rfl) e
theorem Ev.one {α : Type} {g : Nat → Option α} {r r' : α} (a : Ev g r) (b : Ev g r') : r = r' := by
  obtain ⟨K, a⟩ := a
  obtain ⟨K', b⟩ := b
  have h := a (K + K') (by omega)
  rw [b (K + K') (by omega)] at h
  exact (Option.some.inj h).symm
theorem w64 {n : Int} (h0 : -9223372036854775808 ≤ n) (h1 : n ≤ 9223372036854775807) : wrap64 n = n := by unfold wrap64; omega
/-- p of i, i + 1, .., d of them. -/
def allFrom (p : Nat → Bool) : Nat → Nat → Bool
  | 0, _ => true
  | d + 1, i => p i && allFrom p d (i + 1)
theorem allFrom_iff {p : Nat → Bool} : ∀ {d i : Nat}, allFrom p d i = true ↔ ∀ j, i ≤ j → j < i + d → p j = true
  | 0, i => by simp only [allFrom, true_iff]; intro j h1 h2; omega
  | d + 1, i => by
    simp only [allFrom, Bool.and_eq_true, allFrom_iff (d := d)]
    constructor
    · intro h j h1 h2
      rcases Nat.eq_or_lt_of_le h1 with e | e
      · exact e ▸ h.1
      · exact h.2 j e (by omega)
    · intro h
      exact ⟨h i (Nat.le_refl _) (by omega), fun j h1 h2 => h j (by omega) (by omega)⟩
theorem allFrom_congr {p q : Nat → Bool} : ∀ {d i : Nat}, (∀ j, i ≤ j → j < i + d → p j = q j) → allFrom p d i = allFrom q d i
  | 0, _, _ => rfl
  | d + 1, i, h => by
    simp only [allFrom]
    rw [h i (Nat.le_refl _) (by omega), allFrom_congr (fun j h1 h2 => h j (by omega) (by omega))]
/-- A loop that looks whether p holds at each place. -/
theorem check_loop {F : Nat → Int → Option Bool} {p : Nat → Bool} {n : Nat} (hend : Ev (fun k => F k (n : Int)) true)
    (hgo : ∀ i : Nat, i < n → p i = true → ∀ r, Ev (fun k => F k ((i + 1 : Nat) : Int)) r → Ev (fun k => F k (i : Int)) r)
    (hno : ∀ i : Nat, i < n → p i = false → Ev (fun k => F k (i : Int)) false) : ∀ d i : Nat, i + d = n → Ev (fun k => F k (i : Int)) (allFrom p d i)
  | 0, i, h => by
    obtain rfl : i = n := by omega
    exact hend
  | d + 1, i, h => by
    simp only [allFrom]
    cases hp : p i with
    | true => exact hgo i (by omega) hp _ (check_loop hend hgo hno d (i + 1) (by omega))
    | false => exact hno i (by omega) hp
/-- A loop that goes on from place to place. -/
theorem step_loop {α : Type} {F : Nat → Int → Option α} {R : Nat → α} {n : Nat} (hend : Ev (fun k => F k (n : Int)) (R n))
    (hgo : ∀ i : Nat, i < n → Ev (fun k => F k ((i + 1 : Nat) : Int)) (R (i + 1)) → Ev (fun k => F k (i : Int)) (R i)) : ∀ d i : Nat, i + d = n → Ev (fun k => F k (i : Int)) (R i)
  | 0, i, h => by
    obtain rfl : i = n := by omega
    exact hend
  | d + 1, i, h => hgo i (by omega) (step_loop hend hgo d (i + 1) (by omega))
theorem rd_nat (l : List Int) (i : Nat) : rd l (i : Int) = l.getD i 0 := by unfold rd; rw [Int.toNat_natCast]
theorem getD_of_lt {α : Type} {l : List α} {i : Nat} {d : α} (h : i < l.length) : l.getD i d = l[i] := by simp [List.getD, h]
theorem notGe (a b : Int) : (!decide (a ≥ b)) = decide (a < b) := by rw [Bool.eq_iff_iff]; simp
theorem notLe (a b : Int) : (!decide (b ≤ a)) = decide (a < b) := by rw [Bool.eq_iff_iff]; simp

-- laws_szIndex
theorem szIndex_v (a b : Int) (l : List S59) (left : Int) (hl : l.length ≤ 9223372036854775807) (h0 : 0 ≤ left) (h1 : left ≤ 1048576) : laws_szIndex.f a b l left = some (if (l.length : Int) ≤ left then left - l.length else -1) := by
  have e : laws_szMetaS.f l left = some (if (l.length : Int) ≤ left then left - l.length else -1) := by
    unfold laws_szMetaS.f
    rw [w64 (by omega) (by omega)]
    by_cases h : (l.length : Int) ≤ left
    · rw [if_neg (by omega), if_pos h]
    · rw [if_pos (by omega), if_neg h]
  unfold laws_szIndex.f
  rw [e, Option.bind_some]
  by_cases h : (l.length : Int) ≤ left
  · rw [if_pos h, if_neg (by omega)]
  · rw [if_neg h, if_pos (by omega)]

-- keys
/-! Keys. -/
def kOk1 (l : List Int) (i : Nat) : Bool := (decide (1 ≤ l.getD i 0) && decide (l.getD i 0 ≤ 6)) && (i == 0 || decide (l.getD (i - 1) 0 < l.getD i 0))
/-- The keys are ok: 1 to 6, ascending. -/
def keysOk (l : List Int) : Bool := allFrom (kOk1 l) l.length 0
def KOk (l : List Int) : Prop := l.Pairwise (· < ·) ∧ ∀ x ∈ l, 1 ≤ x ∧ x ≤ 6
theorem kOk1_iff {l : List Int} {i : Nat} : kOk1 l i = true ↔ (1 ≤ l.getD i 0 ∧ l.getD i 0 ≤ 6) ∧ (i = 0 ∨ l.getD (i - 1) 0 < l.getD i 0) := by
  simp [kOk1]
/-- From one to the next ascending is ascending. -/
theorem asc_of_next {l : List Int} (h : ∀ i, 0 < i → i < l.length → l.getD (i - 1) 0 < l.getD i 0) : ∀ j i, i < j → j < l.length → l.getD i 0 < l.getD j 0 := by
  intro j
  induction j with
  | zero => intro i h1; omega
  | succ j ih =>
    intro i h1 h2
    have hj := h (j + 1) (by omega) h2
    simp only [Nat.add_sub_cancel] at hj
    rcases Nat.eq_or_lt_of_le (Nat.le_of_lt_succ h1) with e | e
    · rw [e]; exact hj
    · have := ih i e (by omega); omega
theorem keysOk_iff {l : List Int} : keysOk l = true ↔ KOk l := by
  unfold keysOk KOk
  rw [allFrom_iff]
  constructor
  · intro h
    have h' : ∀ j, j < l.length → _ := fun j hj => kOk1_iff.1 (h j (Nat.zero_le _) (by omega))
    refine ⟨?_, ?_⟩
    · rw [List.pairwise_iff_getElem]
      intro i j hi hj hij
      have := asc_of_next (fun i hi0 hi => (h' i hi).2.resolve_left (by omega)) j i hij hj
      rwa [getD_of_lt hi, getD_of_lt hj] at this
    · intro x hx
      obtain ⟨i, hi, rfl⟩ := List.getElem_of_mem hx
      have := (h' i hi).1
      rwa [getD_of_lt hi] at this
  · rintro ⟨h1, h2⟩ j - hj
    have hj : j < l.length := by omega
    rw [kOk1_iff]
    refine ⟨?_, ?_⟩
    · rw [getD_of_lt hj]; exact h2 _ (List.getElem_mem _)
    · rcases Nat.eq_zero_or_pos j with e | e
      · exact .inl e
      · refine .inr ?_
        rw [getD_of_lt hj, getD_of_lt (by omega)]
        exact List.pairwise_iff_getElem.1 h1 _ _ _ _ (by omega)
instance (l : List Int) : Decidable (KOk l) := decidable_of_iff _ keysOk_iff
/-- How many of a are in b. -/
def bothN (a b : List Int) : Nat := (a.filter (fun x => b.contains x)).length
def both (a b : List Int) : Int := if keysOk a = true ∧ keysOk b = true then (bothN a b : Int) else -1
theorem bothN_le (a b : List Int) : bothN a b ≤ a.length := List.length_filter_le _ _
/-- All ok keys. -/
def allKeys : List (List Int) := [1, 2, 3, 4, 5, 6].foldr (fun x ls => ls.map (x :: ·) ++ ls) [[]]
theorem asc_mem : ∀ (us : List Int) (l : List Int), us.Pairwise (· < ·) → l.Pairwise (· < ·) → (∀ x ∈ l, x ∈ us) → l ∈ us.foldr (fun x ls => ls.map (x :: ·) ++ ls) [[]]
  | [], l, _, _, h => by
    cases l with
    | nil => simp
    | cons a l => have := h a (by simp); simp at this
  | u :: us, l, hu, hl, h => by
    simp only [List.foldr_cons, List.mem_append, List.mem_map]
    rw [List.pairwise_cons] at hu
    cases l with
    | nil => exact .inr (asc_mem us [] hu.2 List.Pairwise.nil (by simp))
    | cons a l =>
      rw [List.pairwise_cons] at hl
      by_cases e : a = u
      · subst e
        refine .inl ⟨l, asc_mem us l hu.2 hl.2 (fun x hx => ?_), rfl⟩
        have h1 := hl.1 x hx
        have h2 := h x (by simp [hx])
        simp only [List.mem_cons] at h2
        rcases h2 with h2 | h2
        · omega
        · exact h2
      · refine .inr (asc_mem us (a :: l) hu.2 (List.pairwise_cons.2 hl) (fun x hx => ?_))
        have h2 := h x hx
        simp only [List.mem_cons] at h2 hx
        rcases h2 with h2 | h2
        · exfalso
          have ha := h a (by simp)
          simp only [List.mem_cons] at ha
          rcases ha with ha | ha
          · exact e ha
          · have := hu.1 a ha
            rcases hx with hx | hx
            · omega
            · have := hl.1 x hx; omega
        · exact h2
theorem mem_allKeys {l : List Int} (h : KOk l) : l ∈ allKeys := by
  refine asc_mem [1, 2, 3, 4, 5, 6] l (by decide) h.1 (fun x hx => ?_)
  have := h.2 x hx
  simp only [List.mem_cons, List.not_mem_nil, or_false]
  omega
theorem KOk.len {l : List Int} (h : KOk l) : l.length ≤ 6 := by
  have : ∀ l ∈ allKeys, l.length ≤ 6 := by decide
  exact this l (mem_allKeys h)
theorem KOk.nodup {l : List Int} (h : KOk l) : l.Nodup := h.1.imp (fun h => by omega)

-- metam0
def inB (n a b : Int) : Bool := decide (a ≤ n) && decide (n ≤ b)
theorem inB_iff {n a b : Int} : inB n a b = true ↔ a ≤ n ∧ n ≤ b := by unfold inB; rw [Bool.and_eq_true, decide_eq_true_eq, decide_eq_true_eq]
def lessB (n v m w : Int) : Bool := decide (n < m) || decide (n = m) && decide (v < w)
theorem lessB_iff {n v m w : Int} : lessB n v m w = true ↔ n < m ∨ n = m ∧ v < w := by unfold lessB; simp only [Bool.or_eq_true, Bool.and_eq_true, decide_eq_true_eq]

-- metam
/-! What an index tells. -/
abbrev Mt := S47
instance : DecidableEq S47 := fun x y => decidable_of_iff (x.f0 = y.f0 ∧ x.f1 = y.f1 ∧ x.f2 = y.f2) (by obtain ⟨a, b, c⟩ := x; obtain ⟨d, e, f⟩ := y; simp)
theorem rdM_nat (l : List Mt) (i : Nat) : rd_T47 l (i : Int) = l.getD i z47 := by unfold rd_T47; rw [Int.toNat_natCast]
def metaOk1 (l : List Mt) (i : Nat) : Bool := (inB (l.getD i z47).f0 1 4 && (inB (l.getD i z47).f1 1 5 && inB (l.getD i z47).f2 0 9972)) &&
  (i == 0 || lessB (l.getD (i - 1) z47).f0 (l.getD (i - 1) z47).f1 (l.getD i z47).f0 (l.getD i z47).f1)
def metasOk (l : List Mt) : Bool := allFrom (metaOk1 l) l.length 0
def indexOk (num till : Int) (l : List Mt) : Bool := (inB num 1 30 && (inB till 0 60 && decide (l.length ≤ 8))) && metasOk l

-- settake
theorem set_map_take {α β : Type} (g : α → β) (l : List α) (z : β) (i : Nat) (hi : i < l.length) : ((l.take i).map g ++ List.replicate (l.length - i) z).set i (g l[i]) = (l.take (i + 1)).map g ++ List.replicate (l.length - (i + 1)) z := by
  apply List.ext_getElem
  · simp only [List.length_set, List.length_append, List.length_map, List.length_take, List.length_replicate]; omega
  · intro j h1 h2
    simp only [List.length_set, List.length_append, List.length_map, List.length_take, List.length_replicate] at h1
    rw [List.getElem_set]
    by_cases hij : i = j
    · subst hij
      rw [if_pos rfl, List.getElem_append_left (by simp; omega)]
      simp
    · rw [if_neg hij]
      by_cases hlt : j < i
      · rw [List.getElem_append_left (by simp; omega), List.getElem_append_left (by simp; omega)]; simp
      · rw [List.getElem_append_right (by simp; omega), List.getElem_append_right (by simp; omega)]; simp

-- laws_toMetaS
abbrev LMt := S59
def toM (x : LMt) : Mt := ⟨x.f0, x.f1, x.f2⟩
theorem toMetaS_v (l : List LMt) (hl : l.length ≤ 1048577) : Ev (fun k => laws_toMetaS.f k l) (l.map toM) := by
  unfold laws_toMetaS.f
  refine Ev.pos (by omega) (Ev.pos (by omega) ?_)
  rw [Int.toNat_natCast]
  have := step_loop (F := fun k i => laws_toMetaS.l0 k l ((l.take i.toNat).map toM ++ List.replicate (l.length - i.toNat) z47) i) (R := fun _ => l.map toM) (n := l.length) ?_ ?_ l.length 0 (by omega)
  · simpa using this
  · refine Ev.down ?_
    simp only [laws_toMetaS.l0]
    refine Ev.neg (by omega) ?_
    simp only [Int.toNat_natCast, List.take_length, Nat.sub_self, List.replicate_zero, List.append_nil]
    exact Ev.now _
  · intro i hi hr
    refine Ev.down ?_
    simp only [laws_toMetaS.l0]
    refine Ev.pos (by omega) (Ev.pos (by omega) (Ev.bind (Ev.con rfl) (Ev.pos (by simp only [Int.toNat_natCast, List.length_append, List.length_map, List.length_take, List.length_replicate]; omega) ?_)))
    rw [w64 (by omega) (by omega)]
    simp only [Int.toNat_natCast] at hr ⊢
    have e := set_map_take toM l z47 i hi
    have e2 : toM l[i] = ⟨(rd_T59 l i).f0, (rd_T59 l i).f1, (rd_T59 l i).f2⟩ := by
      unfold rd_T59
      rw [Int.toNat_natCast, getD_of_lt hi]; rfl
    rw [e2] at e
    rw [e]
    exact hr

-- laws_toIndex
theorem toIndex_v (a b : Int) (l : List LMt) (hl : l.length ≤ 1048577) : Ev (fun k => laws_toIndex.f k a b l) (a, b, l.map toM) := by
  unfold laws_toIndex.f
  exact Ev.bind (toMetaS_v l hl) (Ev.now _)

-- strm
/-! Texts as lists of numbers. -/
theorem bytesOf_append (a b : ByteArray) : bytesOf (a ++ b) = bytesOf a ++ bytesOf b := by
  unfold bytesOf
  rw [ByteArray.data_append, Array.toList_append, List.map_append]
theorem bytesOf_str {l : List Int} (h : ∀ x ∈ l, 0 ≤ x ∧ x ≤ 255) : bytesOf (strOfNums l) = l := by
  unfold bytesOf
  rw [strOfNums_data, List.map_map]
  conv => rhs; rw [← List.map_id l]
  apply List.map_congr_left
  intro x hx
  have := h x hx
  simp only [Function.comp, id]
  rw [UInt8.toNat_ofNat_of_lt' (by simp only [UInt8.size]; omega)]
  omega
theorem bytesOf_inj {a b : ByteArray} (h : bytesOf a = bytesOf b) : a = b := by
  unfold bytesOf at h
  apply ByteArray.ext
  apply Array.toList_inj.1
  have inj : ∀ l l' : List UInt8, l.map (fun b => (b.toNat : Int)) = l'.map (fun b => (b.toNat : Int)) → l = l' := by
    intro l
    induction l with
    | nil => intro l' h; cases l' with
      | nil => rfl
      | cons x l' => simp at h
    | cons x l ih =>
      intro l' h
      cases l' with
      | nil => simp at h
      | cons y l' =>
        simp only [List.map_cons, List.cons.injEq] at h
        have : x = y := UInt8.toNat_inj.1 (by omega)
        rw [this, ih l' h.2]
  exact inj _ _ h
theorem bytesOf_range (s : ByteArray) : ∀ x ∈ bytesOf s, 0 ≤ x ∧ x ≤ 255 := by
  intro x hx
  unfold bytesOf at hx
  obtain ⟨b, _, rfl⟩ := List.mem_map.1 hx
  have := b.toNat_lt
  omega
theorem str_bytesOf (s : ByteArray) : strOfNums (bytesOf s) = s := bytesOf_inj (bytesOf_str (bytesOf_range s))
theorem str_append (a b : List Int) : strOfNums a ++ strOfNums b = strOfNums (a ++ b) := by
  apply ByteArray.ext
  apply Array.toList_inj.1
  rw [ByteArray.data_append, Array.toList_append, strOfNums_data, strOfNums_data, strOfNums_data, List.map_append]
theorem str_inj {a b : List Int} (ha : ∀ x ∈ a, 0 ≤ x ∧ x ≤ 255) (hb : ∀ x ∈ b, 0 ≤ x ∧ x ≤ 255) (h : strOfNums a = strOfNums b) : a = b := by
  rw [← bytesOf_str ha, h, bytesOf_str hb]
theorem bytesOf_extract (s : ByteArray) (i j : Nat) : bytesOf (s.extract i j) = ((bytesOf s).take j).drop i := by
  unfold bytesOf
  rw [ByteArray.data_extract, Array.toList_extract, List.extract_eq_take_drop, List.map_take, List.map_drop, List.drop_take]

-- btm
/-! A byte of a text. -/
theorem bt_bytes (s : ByteArray) (i : Nat) (h : i < s.size) : bt s (i : Int) = (bytesOf s)[i]'(by unfold bytesOf; simpa using h) := by
  unfold bt bytesOf
  rw [dif_pos (by simpa using h)]
  simp
  rfl
theorem bytesOf_len (s : ByteArray) : (bytesOf s).length = s.size := by
  unfold bytesOf
  rw [List.length_map, Array.length_toList]
  rfl
theorem bt_str (l : List Int) (hl : ∀ b ∈ l, 0 ≤ b ∧ b ≤ 255) (i : Nat) (h : i < l.length) : bt (strOfNums l) (i : Int) = l[i] := by
  rw [bt_bytes _ _ (by rw [strOfNums_size]; exact h)]
  simp only [bytesOf_str hl]

-- txt0
theorem toList_str (l : List Int) : (strOfNums l).toList = l.map fun n => UInt8.ofNat n.toNat := by rw [ByteArray.toList_eq]; rfl
theorem toList_inj {a b : ByteArray} : a.toList = b.toList ↔ a = b := by
  rw [ByteArray.toList_eq, ByteArray.toList_eq]
  exact ⟨fun h => ByteArray.ext (Array.toList_inj.1 h), fun h => by rw [h]⟩
theorem str_isnil (l : List Int) : ((strOfNums l).toList == ([] : List UInt8)) = decide (l = []) := by
  rw [toList_str]
  cases l <;> rfl

-- pkgm
/-! Packages: files and what is needed. -/
abbrev Fl := S71
abbrev Dp := S73
instance : DecidableEq S71 := fun x y => decidable_of_iff (x.f0 = y.f0 ∧ x.f1 = y.f1) (by obtain ⟨a, b⟩ := x; obtain ⟨d, e⟩ := y; simp)
instance : DecidableEq S73 := fun x y => decidable_of_iff (x.f0 = y.f0 ∧ x.f1 = y.f1) (by obtain ⟨a, b⟩ := x; obtain ⟨d, e⟩ := y; simp)
theorem rdF_nat (l : List Fl) (i : Nat) : rd_T71 l (i : Int) = l.getD i z71 := by unfold rd_T71; rw [Int.toNat_natCast]
theorem rdD_nat (l : List Dp) (i : Nat) : rd_T73 l (i : Int) = l.getD i z73 := by unfold rd_T73; rw [Int.toNat_natCast]
def fileOk1 (l : List Fl) (i : Nat) : Bool := inB (l.getD i z71).f0 0 5 && (inB (l.getD i z71).f1 0 9 && (i == 0 || decide ((l.getD (i - 1) z71).f0 < (l.getD i z71).f0)))
def depOk1 (name : Int) (l : List Dp) (i : Nat) : Bool := inB (l.getD i z73).f0 1 4 && (!decide ((l.getD i z73).f0 = name) && (inB (l.getD i z73).f1 1 5 && (i == 0 || decide ((l.getD (i - 1) z73).f0 < (l.getD i z73).f0))))
def filesOk (l : List Fl) : Bool := allFrom (fileOk1 l) l.length 0 && decide (l.length ≤ 2)
def depsOk (name : Int) (l : List Dp) : Bool := allFrom (depOk1 name l) l.length 0 && decide (l.length ≤ 2)
def pkgOk (n v : Int) (fs : List Fl) (ds : List Dp) : Bool := inB n 1 4 && (inB v 1 5 && (filesOk fs && depsOk n ds))

-- pkgtext
/-- A package's text, number by number. -/
def fileL (f : Fl) : List Int := [32, 48 + f.f0, 58, 48 + f.f1]
def depL (d : Dp) : List Int := [32, 96 + d.f0, 48 + d.f1]
def pkgL (n v : Int) (fs : List Fl) (ds : List Dp) : List Int := [96 + n, 48 + v] ++ (fs.flatMap fileL ++ ds.flatMap depL)
def pkgS (n v : Int) (fs : List Fl) (ds : List Dp) : ByteArray := if pkgOk n v fs ds = true then strOfNums (pkgL n v fs ds) else strOfNums []
theorem str_empty : (⟨#[]⟩ : ByteArray) = strOfNums [] := rfl
/-- What ok numbers are. -/
theorem fileOk_range {l : List Fl} (h : filesOk l = true) : l.length ≤ 2 ∧ ∀ f ∈ l, (0 ≤ f.f0 ∧ f.f0 ≤ 5) ∧ (0 ≤ f.f1 ∧ f.f1 ≤ 9) := by
  unfold filesOk at h
  rw [Bool.and_eq_true, decide_eq_true_eq, allFrom_iff] at h
  refine ⟨h.2, fun f hf => ?_⟩
  obtain ⟨i, hi, rfl⟩ := List.getElem_of_mem hf
  have := h.1 i (Nat.zero_le _) (by omega)
  unfold fileOk1 at this
  rw [getD_of_lt hi] at this
  simp only [Bool.and_eq_true, inB_iff] at this
  exact ⟨this.1, this.2.1⟩
theorem depOk_range {n : Int} {l : List Dp} (h : depsOk n l = true) : l.length ≤ 2 ∧ ∀ d ∈ l, (1 ≤ d.f0 ∧ d.f0 ≤ 4) ∧ (1 ≤ d.f1 ∧ d.f1 ≤ 5) := by
  unfold depsOk at h
  rw [Bool.and_eq_true, decide_eq_true_eq, allFrom_iff] at h
  refine ⟨h.2, fun f hf => ?_⟩
  obtain ⟨i, hi, rfl⟩ := List.getElem_of_mem hf
  have := h.1 i (Nat.zero_le _) (by omega)
  unfold depOk1 at this
  rw [getD_of_lt hi] at this
  simp only [Bool.and_eq_true, inB_iff] at this
  exact ⟨this.1, this.2.2.1⟩
theorem pkgOk_range {n v : Int} {fs : List Fl} {ds : List Dp} (h : pkgOk n v fs ds = true) : (1 ≤ n ∧ n ≤ 4) ∧ (1 ≤ v ∧ v ≤ 5) ∧ (fs.length ≤ 2 ∧ ∀ f ∈ fs, (0 ≤ f.f0 ∧ f.f0 ≤ 5) ∧ (0 ≤ f.f1 ∧ f.f1 ≤ 9)) ∧ (ds.length ≤ 2 ∧ ∀ d ∈ ds, (1 ≤ d.f0 ∧ d.f0 ≤ 4) ∧ (1 ≤ d.f1 ∧ d.f1 ≤ 5)) := by
  unfold pkgOk at h
  simp only [Bool.and_eq_true, inB_iff] at h
  exact ⟨h.1, h.2.1, fileOk_range h.2.2.1, depOk_range h.2.2.2⟩
theorem flat_len {α : Type} (g : α → List Int) (k : Nat) (l : List α) (h : ∀ x ∈ l, (g x).length = k) : (l.flatMap g).length = k * l.length := by
  induction l with
  | nil => simp
  | cons x l ih =>
    rw [List.flatMap_cons, List.length_append, h x (by simp), ih (fun y hy => h y (by simp [hy])), List.length_cons, Nat.mul_succ]; omega
theorem pkgL_len (n v : Int) (fs : List Fl) (ds : List Dp) : (pkgL n v fs ds).length = 2 + 4 * fs.length + 3 * ds.length := by
  unfold pkgL
  rw [List.length_append, List.length_append, flat_len fileL 4 fs (fun _ _ => rfl), flat_len depL 3 ds (fun _ _ => rfl)]
  simp only [List.length_cons, List.length_nil]; omega
theorem pkgS_size (n v : Int) (fs : List Fl) (ds : List Dp) : (pkgS n v fs ds).size ≤ 16 := by
  unfold pkgS
  by_cases h : pkgOk n v fs ds = true
  · have := pkgOk_range h
    rw [if_pos h, strOfNums_size, pkgL_len]; omega
  · rw [if_neg h, strOfNums_size]; simp

-- txt
theorem pkgL_range {n v : Int} {fs : List Fl} {ds : List Dp} (h : pkgOk n v fs ds = true) : ∀ x ∈ pkgL n v fs ds, 0 ≤ x ∧ x ≤ 255 := by
  obtain ⟨hn, hv, ⟨_, hf⟩, _, hd⟩ := pkgOk_range h
  intro x hx
  unfold pkgL at hx
  simp only [List.mem_append, List.mem_cons, List.not_mem_nil, or_false, List.mem_flatMap] at hx
  rcases hx with (rfl | rfl) | ⟨f, hf1, hx⟩ | ⟨d, hd1, hx⟩
  · omega
  · omega
  · have := hf f hf1
    simp only [fileL, List.mem_cons, List.not_mem_nil, or_false] at hx
    rcases hx with rfl | rfl | rfl | rfl <;> omega
  · have := hd d hd1
    simp only [depL, List.mem_cons, List.not_mem_nil, or_false] at hx
    rcases hx with rfl | rfl | rfl <;> omega
theorem pkgL_ne (n v : Int) (fs : List Fl) (ds : List Dp) : pkgL n v fs ds ≠ [] := by unfold pkgL; simp
theorem pkgS_ok {n v : Int} {fs : List Fl} {ds : List Dp} (h : pkgOk n v fs ds = true) : pkgS n v fs ds = strOfNums (pkgL n v fs ds) := if_pos h
theorem pkgS_no {n v : Int} {fs : List Fl} {ds : List Dp} (h : pkgOk n v fs ds = false) : pkgS n v fs ds = strOfNums [] := if_neg (by rw [h]; decide)

-- pkginj
theorem flat_inj : ∀ (fs fs' : List Fl) (ds ds' : List Dp), (∀ f ∈ fs, f.f0 ≤ 5) → (∀ f ∈ fs', f.f0 ≤ 5) → (∀ d ∈ ds, 1 ≤ d.f0) → (∀ d ∈ ds', 1 ≤ d.f0) →
    fs.flatMap fileL ++ ds.flatMap depL = fs'.flatMap fileL ++ ds'.flatMap depL → fs = fs' ∧ ds = ds'
  | [], [], [], [], _, _, _, _, _ => ⟨rfl, rfl⟩
  | [], [], [], d :: ds', _, _, _, _, h => by simp [depL] at h
  | [], [], d :: ds, [], _, _, _, _, h => by simp [depL] at h
  | [], [], d :: ds, d' :: ds', _, _, hd, hd', h => by
    simp only [List.flatMap_nil, List.nil_append, List.flatMap_cons, depL, List.cons_append, List.cons.injEq, true_and] at h
    obtain ⟨h1, h2, h3⟩ := h
    have := (flat_inj [] [] ds ds' (by simp) (by simp) (fun x hx => hd x (List.mem_cons_of_mem _ hx)) (fun x hx => hd' x (List.mem_cons_of_mem _ hx)) (by simpa using h3)).2
    refine ⟨rfl, ?_⟩
    rw [this]
    cases d; cases d'
    simp only at h1 h2
    obtain rfl := show _ = _ by exact (Int.add_left_cancel h1)
    obtain rfl := show _ = _ by exact (Int.add_left_cancel h2)
    rfl
  | [], f :: fs', ds, ds', _, hf', hd, _, h => by
    exfalso
    have hf := hf' f List.mem_cons_self
    cases ds with
    | nil => simp [fileL] at h
    | cons d ds =>
      have hd1 := hd d List.mem_cons_self
      simp only [List.flatMap_nil, List.nil_append, List.flatMap_cons, depL, fileL, List.cons_append, List.cons.injEq, true_and] at h
      omega
  | f :: fs, [], ds, ds', hf', _, _, hd, h => by
    exfalso
    have hf := hf' f List.mem_cons_self
    cases ds' with
    | nil => simp [fileL] at h
    | cons d ds' =>
      have hd1 := hd d List.mem_cons_self
      simp only [List.flatMap_nil, List.nil_append, List.flatMap_cons, depL, fileL, List.cons_append, List.cons.injEq, true_and] at h
      omega
  | f :: fs, f' :: fs', ds, ds', hf, hf', hd, hd', h => by
    simp only [List.flatMap_cons, fileL, List.cons_append, List.nil_append, List.cons.injEq, true_and] at h
    obtain ⟨h1, h2, h3⟩ := h
    obtain ⟨e1, e2⟩ := flat_inj fs fs' ds ds' (fun x hx => hf x (List.mem_cons_of_mem _ hx)) (fun x hx => hf' x (List.mem_cons_of_mem _ hx)) hd hd' h3
    refine ⟨?_, e2⟩
    rw [e1]
    cases f; cases f'
    simp only at h1 h2
    obtain rfl := show _ = _ by exact (Int.add_left_cancel h1)
    obtain rfl := show _ = _ by exact (Int.add_left_cancel h2)
    rfl
/-- The texts of ok packages are the same just if they are. -/
theorem pkgL_inj {n v n' v' : Int} {fs fs' : List Fl} {ds ds' : List Dp} (h : pkgOk n v fs ds = true) (h' : pkgOk n' v' fs' ds' = true) (e : pkgL n v fs ds = pkgL n' v' fs' ds') : n = n' ∧ v = v' ∧ fs = fs' ∧ ds = ds' := by
  obtain ⟨_, _, ⟨_, hf⟩, _, hd⟩ := pkgOk_range h
  obtain ⟨_, _, ⟨_, hf'⟩, _, hd'⟩ := pkgOk_range h'
  unfold pkgL at e
  simp only [List.cons_append, List.nil_append, List.cons.injEq] at e
  obtain ⟨e1, e2, e3⟩ := e
  obtain ⟨e4, e5⟩ := flat_inj fs fs' ds ds' (fun f k => (hf f k).1.2) (fun f k => (hf' f k).1.2) (fun d k => (hd d k).1.1) (fun d k => (hd' d k).1.1) e3
  exact ⟨by omega, by omega, e4, e5⟩
theorem pkgS_eq_iff {n v n' v' : Int} {fs fs' : List Fl} {ds ds' : List Dp} (h : pkgOk n v fs ds = true) (h' : pkgOk n' v' fs' ds' = true) : pkgS n v fs ds = pkgS n' v' fs' ds' ↔ n = n' ∧ v = v' ∧ fs = fs' ∧ ds = ds' := by
  rw [pkgS_ok h, pkgS_ok h']
  exact ⟨fun e => pkgL_inj h h' (str_inj (pkgL_range h) (pkgL_range h') e), fun ⟨a, b, c, d⟩ => by rw [a, b, c, d]⟩

-- pkgread
/-! What a package's text is read as. -/
def fileW (f : Fl) : List Int := [48 + f.f0, 58, 48 + f.f1]
def depW (d : Dp) : List Int := [96 + d.f0, 48 + d.f1]
def pkgWords (fs : List Fl) (ds : List Dp) : List (List Int) := fs.map fileW ++ ds.map depW
theorem pkgL_words (n v : Int) (fs : List Fl) (ds : List Dp) : pkgL n v fs ds = [96 + n, 48 + v] ++ (pkgWords fs ds).flatMap (32 :: ·) := by
  unfold pkgL pkgWords
  rw [List.flatMap_append, List.flatMap_map, List.flatMap_map]
  rfl
/-- (n, v, fs, ds, b) is what a text is read as. -/
def RD (s : ByteArray) (n v : Int) (fs : List Fl) (ds : List Dp) (b : Bool) : Prop :=
  (b = true ∧ pkgOk n v fs ds = true ∧ s = strOfNums (pkgL n v fs ds)) ∨ (b = false ∧ n = 0 ∧ v = 0 ∧ fs = [] ∧ ds = [] ∧ ∀ n v fs ds, pkgOk n v fs ds = true → s ≠ strOfNums (pkgL n v fs ds))
theorem RD_one {s : ByteArray} {n v n' v' : Int} {fs fs' : List Fl} {ds ds' : List Dp} {b b' : Bool} (h : RD s n v fs ds b) (h' : RD s n' v' fs' ds' b') : n = n' ∧ v = v' ∧ fs = fs' ∧ ds = ds' ∧ b = b' := by
  rcases h with ⟨rfl, h1, h2⟩ | ⟨rfl, rfl, rfl, rfl, rfl, h6⟩
  · rcases h' with ⟨rfl, k1, k2⟩ | ⟨_, _, _, _, _, k6⟩
    · obtain ⟨e1, e2, e3, e4⟩ := pkgL_inj h1 k1 (str_inj (pkgL_range h1) (pkgL_range k1) (h2.symm.trans k2))
      exact ⟨e1, e2, e3, e4, rfl⟩
    · exact absurd h2 (k6 _ _ _ _ h1)
  · rcases h' with ⟨rfl, k1, k2⟩ | ⟨rfl, rfl, rfl, rfl, rfl, k6⟩
    · exact absurd k2 (h6 _ _ _ _ k1)
    · exact ⟨rfl, rfl, rfl, rfl, rfl⟩
theorem pkgW_no (c : Int) (hc : c = 32) {n v : Int} {fs : List Fl} {ds : List Dp} (h : pkgOk n v fs ds = true) : (∀ b ∈ ([96 + n, 48 + v] : List Int), b ≠ c) ∧ ∀ w ∈ pkgWords fs ds, ∀ b ∈ w, b ≠ c := by
  obtain ⟨hn, hv, ⟨_, hf⟩, _, hd⟩ := pkgOk_range h
  subst hc
  refine ⟨fun b hb => ?_, fun w hw b hb => ?_⟩
  · simp only [List.mem_cons, List.not_mem_nil, or_false] at hb
    omega
  · unfold pkgWords at hw
    rcases List.mem_append.1 hw with hw | hw
    · obtain ⟨f, hf1, rfl⟩ := List.mem_map.1 hw
      have := hf f hf1
      simp only [fileW, List.mem_cons, List.not_mem_nil, or_false] at hb
      omega
    · obtain ⟨d, hd1, rfl⟩ := List.mem_map.1 hw
      have := hd d hd1
      simp only [depW, List.mem_cons, List.not_mem_nil, or_false] at hb
      omega
theorem pkgL_size {n v : Int} {fs : List Fl} {ds : List Dp} (h : pkgOk n v fs ds = true) : (strOfNums (pkgL n v fs ds)).size ≤ 30 := by
  obtain ⟨_, _, ⟨hf, _⟩, hd, _⟩ := pkgOk_range h
  rw [strOfNums_size, pkgL_len]
  omega

-- pkgcut
/-! A package's text ends with no space. -/
theorem last_word : ∀ (ws : List (List Int)) (u : List Int), (u ≠ [] ∧ ∀ b ∈ u, b ≠ 32) → (∀ w ∈ ws, w ≠ [] ∧ ∀ b ∈ w, b ≠ 32) → ∃ x, (u ++ ws.flatMap (32 :: ·)).getLast? = some x ∧ x ≠ 32
  | [], u, hu, _ => by
    rw [List.flatMap_nil, List.append_nil]
    exact ⟨u.getLast hu.1, List.getLast?_eq_some_getLast hu.1, hu.2 _ (List.getLast_mem hu.1)⟩
  | w :: ws, u, hu, hw => by
    obtain ⟨x, h1, h2⟩ := last_word ws w (hw w List.mem_cons_self) (fun v hv => hw v (List.mem_cons_of_mem _ hv))
    refine ⟨x, ?_, h2⟩
    rw [List.flatMap_cons, List.cons_append, List.getLast?_append, List.getLast?_cons, h1]
    rfl
theorem pkgL_last {n v : Int} {fs : List Fl} {ds : List Dp} (h : pkgOk n v fs ds = true) : ∃ x, (pkgL n v fs ds).getLast? = some x ∧ x ≠ 32 := by
  obtain ⟨h1, h2⟩ := pkgW_no 32 rfl h
  rw [pkgL_words]
  refine last_word _ _ ⟨by simp, h1⟩ (fun w hw => ⟨?_, h2 w hw⟩)
  unfold pkgWords at hw
  rcases List.mem_append.1 hw with hw | hw
  · obtain ⟨f, _, rfl⟩ := List.mem_map.1 hw
    simp [fileW]
  · obtain ⟨f, _, rfl⟩ := List.mem_map.1 hw
    simp [depW]
theorem RD_len {s : ByteArray} {n v : Int} {fs : List Fl} {ds : List Dp} {b : Bool} (h : RD s n v fs ds b) : fs.length ≤ 2 ∧ ds.length ≤ 2 := by
  rcases h with ⟨_, ok, _⟩ | ⟨_, _, _, rfl, rfl, _⟩
  · obtain ⟨_, _, ⟨a, _⟩, c, _⟩ := pkgOk_range ok
    exact ⟨a, c⟩
  · simp
/-- A text with a space behind it is no package. -/
theorem RD_behind {l : List Int} (hl : ∀ x ∈ l, 0 ≤ x ∧ x ≤ 255) {n v : Int} {fs : List Fl} {ds : List Dp} {b : Bool} (h : RD (strOfNums (l ++ [32])) n v fs ds b) : b = false := by
  rcases h with ⟨_, ok, e⟩ | ⟨h, _⟩
  · have e2 := str_inj (fun x hx => by rcases List.mem_append.1 hx with h | h; exact hl x h; rw [List.mem_singleton.1 h]; omega) (pkgL_range ok) e
    obtain ⟨x, h1, h2⟩ := pkgL_last ok
    rw [← e2, List.getLast?_append] at h1
    exact absurd (Option.some.inj h1).symm h2
  · exact h
/-- A text with a space ahead is no package. -/
theorem RD_ahead {l : List Int} (hl : ∀ x ∈ l, 0 ≤ x ∧ x ≤ 255) {n v : Int} {fs : List Fl} {ds : List Dp} {b : Bool} (h : RD (strOfNums (32 :: l)) n v fs ds b) : b = false := by
  rcases h with ⟨_, ok, e⟩ | ⟨h, _⟩
  · have e2 := str_inj (fun x hx => by rcases List.mem_cons.1 hx with h | h; rw [h]; omega; exact hl x h) (pkgL_range ok) e
    obtain ⟨hn, _⟩ := pkgOk_range ok
    unfold pkgL at e2
    rw [List.cons_append] at e2
    have := (List.cons.inj e2).1
    omega
  · exact h

-- summ
def sum1 (n b : Int) : Int := (31 * n + b + 1) % 9973
def sumFrom (n : Int) (l : List Int) : Int := l.foldl sum1 n
def sumL (l : List Int) : Int := sumFrom 7 l
theorem sum1_range (n b : Int) : 0 ≤ sum1 n b ∧ sum1 n b < 9973 := by unfold sum1; omega
theorem sumFrom_range {n : Int} (l : List Int) (h : 0 ≤ n ∧ n < 9973) : 0 ≤ sumFrom n l ∧ sumFrom n l < 9973 := by
  unfold sumFrom
  induction l generalizing n with
  | nil => exact h
  | cons b l ih => exact ih (sum1_range n b)
theorem sumFrom_append (n : Int) (a b : List Int) : sumFrom n (a ++ b) = sumFrom (sumFrom n a) b := List.foldl_append
theorem sum1_inj {n m b : Int} (hn : 0 ≤ n ∧ n < 9973) (hm : 0 ≤ m ∧ m < 9973) (h : sum1 n b = sum1 m b) : n = m := by unfold sum1 at h; omega
theorem sumFrom_inj {n m : Int} (l : List Int) (hn : 0 ≤ n ∧ n < 9973) (hm : 0 ≤ m ∧ m < 9973) (h : sumFrom n l = sumFrom m l) : n = m := by
  unfold sumFrom at h
  induction l generalizing n m with
  | nil => exact h
  | cons b l ih => exact sum1_inj hn hm (ih (sum1_range n b) (sum1_range m b) h)
/-- One byte changed is found. -/
theorem sumL_byte (p q : List Int) {c d : Int} (hc : 0 ≤ c ∧ c ≤ 255) (hd : 0 ≤ d ∧ d ≤ 255) (h : c ≠ d) : sumL (p ++ [c] ++ q) ≠ sumL (p ++ [d] ++ q) := by
  intro e
  unfold sumL at e
  rw [sumFrom_append, sumFrom_append, sumFrom_append, sumFrom_append] at e
  have e2 := sumFrom_inj q (sumFrom_range [c] (sumFrom_range p (by omega))) (sumFrom_range [d] (sumFrom_range p (by omega))) e
  have := sumFrom_range p (n := 7) (by omega)
  simp only [sumFrom, List.foldl_cons, List.foldl_nil] at e2 this
  unfold sum1 at e2
  omega

-- idxhas
/-! A text that an index tells of. -/
def hasM (ms : List Mt) (n v t : Int) : Bool := ms.any fun m => m.f0 == n && (m.f1 == v && m.f2 == t)
theorem hasM_cons (m : Mt) (ms : List Mt) (n v t : Int) : hasM (m :: ms) n v t = ((m.f0 == n && (m.f1 == v && m.f2 == t)) || hasM ms n v t) := by unfold hasM; rw [List.any_cons]
theorem hasM_iff {ms : List Mt} {n v t : Int} : hasM ms n v t = true ↔ ∃ m ∈ ms, m.f0 = n ∧ m.f1 = v ∧ m.f2 = t := by
  unfold hasM
  rw [List.any_eq_true]
  constructor
  · rintro ⟨m, h, e⟩
    simp only [Bool.and_eq_true, beq_iff_eq] at e
    exact ⟨m, h, e⟩
  · rintro ⟨m, h, e⟩
    exact ⟨m, h, by simp only [Bool.and_eq_true, beq_iff_eq]; exact e⟩
/-- (n, v, fs, ds, b) is what an index has of a text. -/
def IH (num till : Int) (ms : List Mt) (s : ByteArray) (n v : Int) (fs : List Fl) (ds : List Dp) (b : Bool) : Prop :=
  (b = true ∧ indexOk num till ms = true ∧ RD s n v fs ds true ∧ hasM ms n v (sumL (bytesOf s)) = true) ∨
  (b = false ∧ n = 0 ∧ v = 0 ∧ fs = [] ∧ ds = [] ∧ ∀ n v fs ds, RD s n v fs ds true → ¬ (indexOk num till ms = true ∧ hasM ms n v (sumL (bytesOf s)) = true))
theorem IH_one {num till : Int} {ms : List Mt} {s : ByteArray} {n v n' v' : Int} {fs fs' : List Fl} {ds ds' : List Dp} {b b' : Bool} (h : IH num till ms s n v fs ds b) (h' : IH num till ms s n' v' fs' ds' b') : n = n' ∧ v = v' ∧ fs = fs' ∧ ds = ds' ∧ b = b' := by
  rcases h with ⟨rfl, h1, h2, h3⟩ | ⟨rfl, rfl, rfl, rfl, rfl, h6⟩
  · rcases h' with ⟨rfl, k1, k2, k3⟩ | ⟨_, _, _, _, _, k6⟩
    · obtain ⟨e1, e2, e3, e4, _⟩ := RD_one h2 k2
      exact ⟨e1, e2, e3, e4, rfl⟩
    · exact absurd ⟨h1, h3⟩ (k6 _ _ _ _ h2)
  · rcases h' with ⟨rfl, k1, k2, k3⟩ | ⟨rfl, rfl, rfl, rfl, rfl, k6⟩
    · exact absurd ⟨k1, k3⟩ (h6 _ _ _ _ k2)
    · exact ⟨rfl, rfl, rfl, rfl, rfl⟩
theorem IH_len {num till : Int} {ms : List Mt} {s : ByteArray} {n v : Int} {fs : List Fl} {ds : List Dp} {b : Bool} (h : IH num till ms s n v fs ds b) : fs.length ≤ 2 ∧ ds.length ≤ 2 := by
  rcases h with ⟨_, _, h, _⟩ | ⟨_, _, _, rfl, rfl, _⟩
  · exact RD_len h
  · simp

-- cutm
/-! A text, cut at a byte. -/
theorem cutN_fold (s : ByteArray) (c : Int) : ∀ n, n ≤ s.size → cutN s c n = ((bytesOf s).take n).foldl (cutStep c) [⟨#[]⟩]
  | 0, _ => by simp [cutN]
  | n + 1, h => by
    unfold cutN
    rw [cutN_fold s c n (by omega), bt_bytes s n (by omega), List.take_succ_eq_append_getElem (by rw [bytesOf_len]; omega), List.foldl_append]
    rfl
theorem cutN_all (s : ByteArray) (c : Int) : cutN s c s.size = (bytesOf s).foldl (cutStep c) [⟨#[]⟩] := by
  rw [cutN_fold s c s.size (Nat.le_refl _), ← bytesOf_len, List.take_length]
theorem cut_word (c : Int) : ∀ (u : List Int) (pre : List ByteArray) (x : List Int), (∀ b ∈ u, b ≠ c) → u.foldl (cutStep c) (pre ++ [strOfNums x]) = pre ++ [strOfNums (x ++ u)]
  | [], pre, x, _ => by simp
  | b :: u, pre, x, h => by
    have e : cutStep c (pre ++ [strOfNums x]) b = pre ++ [strOfNums (x ++ [b])] := by
      unfold cutStep
      rw [if_neg (h b List.mem_cons_self), List.length_append, List.length_singleton, Nat.add_sub_cancel]
      rw [List.getD_eq_getElem?_getD, List.getElem?_append_right (Nat.le_refl _), Nat.sub_self, List.set_append_right _ _ (Nat.le_refl _), Nat.sub_self]
      simp [str_append]
    rw [List.foldl_cons, e, cut_word c u pre (x ++ [b]) (fun d hd => h d (List.mem_cons_of_mem _ hd))]
    simp
theorem cut_words (c : Int) : ∀ (ws : List (List Int)) (pre : List ByteArray) (x : List Int), (∀ w ∈ ws, ∀ b ∈ w, b ≠ c) → (ws.flatMap (c :: ·)).foldl (cutStep c) (pre ++ [strOfNums x]) = pre ++ [strOfNums x] ++ ws.map strOfNums
  | [], pre, x, _ => by simp
  | w :: ws, pre, x, h => by
    have e : cutStep c (pre ++ [strOfNums x]) c = (pre ++ [strOfNums x]) ++ [strOfNums []] := by unfold cutStep; rw [if_pos rfl]; rfl
    rw [List.flatMap_cons, List.cons_append, List.foldl_cons, e, List.foldl_append, cut_word c w _ [] (h w List.mem_cons_self), List.nil_append, cut_words c ws _ w (fun v hv => h v (List.mem_cons_of_mem _ hv))]
    simp
theorem cut_text (c : Int) (u : List Int) (ws : List (List Int)) (hu : ∀ b ∈ u, b ≠ c) (hw : ∀ w ∈ ws, ∀ b ∈ w, b ≠ c) : (u ++ ws.flatMap (c :: ·)).foldl (cutStep c) [⟨#[]⟩] = strOfNums u :: ws.map strOfNums := by
  rw [List.foldl_append]
  have e := cut_word c u [] [] hu
  simp only [List.nil_append] at e
  rw [show ([⟨#[]⟩] : List ByteArray) = [strOfNums []] from rfl, e]
  have e2 := cut_words c ws [] u hw
  rw [List.nil_append] at e2
  rw [e2]
  rfl

-- spec_l6In
theorem l6In_v (a b c : Int) : spec_l6In.f a b c = some (decide (b ≤ a) && decide (a ≤ c)) := by
  unfold spec_l6In.f
  by_cases h : a ≥ b
  · rw [if_pos h]; simp; omega
  · rw [if_neg h]; simp; omega

-- spec_l1Files
theorem l1Files_v (l : List Fl) (hl : l.length ≤ 17592186044416) : Ev (fun k => spec_l1Files.f k l) (filesOk l) := by
  have e : l1f l = filesOk l := by
    unfold l1f filesOk
    have : ∀ d i, okFrom (file1 l) d i = allFrom (fileOk1 l) d i := by
      intro d
      induction d with
      | zero => intro i; rfl
      | succ d ih => intro i; show (_ && _) = (_ && _); rw [ih]; rfl
    rw [this]
  rw [← e]
  exact Ev.now _

-- spec_l1Deps
theorem l1Deps_v (name : Int) (l : List Dp) (hl : l.length ≤ 17592186044416) : Ev (fun k => spec_l1Deps.f k name l) (depsOk name l) := by
  have e : l1d name l = depsOk name l := by
    unfold l1d depsOk
    have : ∀ d i, okFrom (dep1 name l) d i = allFrom (depOk1 name l) d i := by
      intro d
      induction d with
      | zero => intro i; rfl
      | succ d ih => intro i; show (_ && _) = (_ && _); rw [ih]; rfl
    rw [this]
  rw [← e]
  exact Ev.now _

-- spec_PkgOk
theorem spec_PkgOk_v (n v : Int) (fs : List Fl) (ds : List Dp) (hf : fs.length ≤ 17592186044416) (hd : ds.length ≤ 17592186044416) : Ev (fun k => spec_PkgOk.f k n v fs ds) (pkgOk n v fs ds) := by
  have l6In_v : ∀ a b c : Int, spec_l6In.f a b c = some (inB a b c) := l6In_v
  unfold spec_PkgOk.f pkgOk
  refine Ev.bind (Ev.con (l6In_v _ _ _)) ?_
  cases inB n 1 4 with
  | false => exact Ev.neg (by simp) (Ev.now _)
  | true =>
    refine Ev.pos rfl (Ev.bind (Ev.con (l6In_v _ _ _)) ?_)
    cases inB v 1 5 with
    | false => exact Ev.neg (by simp) (Ev.now _)
    | true =>
      refine Ev.pos rfl (Ev.bind (l1Files_v fs hf) ?_)
      cases filesOk fs with
      | false => exact Ev.neg (by simp) (Ev.now _)
      | true => exact Ev.pos rfl (Ev.bind (l1Deps_v n ds hd) (Ev.eq (by simp)))

-- spec_l6Dec
/-- One figure. -/
theorem l6Dec_1 (n : Int) (h0 : 0 ≤ n) (h1 : n ≤ 9) : Ev (fun k => spec_l6Dec.f k n) (strOfNums [48 + n]) := by
  refine Ev.down ?_
  simp only [spec_l6Dec.f]
  refine Ev.neg (by omega) (Ev.neg (by omega) (Ev.pos (by omega) (Ev.eq ?_)))
  rw [w64 (by omega) (by omega), Int.emod_eq_of_lt (by omega) (by omega)]

-- spec_l1Name
theorem l1Name_v (a v : Int) (h0 : 0 ≤ a) (h1 : a ≤ 9) (h2 : 0 ≤ v) (h3 : v ≤ 9) : Ev (fun k => spec_l1Name.f k a v) (strOfNums [96 + a, 48 + v]) := by
  unfold spec_l1Name.f
  refine Ev.bind (f := fun k y => _) (Ev.now _) (Ev.bind (l6Dec_1 v h2 h3) (Ev.pos (by rw [strOfNums_size, strOfNums_size]; simp) (Ev.eq ?_)))
  rw [str_append, w64 (n := 97 + a) (by omega) (by omega), w64 (by omega) (by omega), Int.emod_eq_of_lt (by omega) (by omega), show 97 + a - 1 = 96 + a by omega]
  rfl

-- spec_PkgText
theorem spec_PkgText_v (n v : Int) (fs : List Fl) (ds : List Dp) (hf : fs.length ≤ 17592186044416) (hd : ds.length ≤ 17592186044416) : Ev (fun k => spec_PkgText.f k n v fs ds) (pkgS n v fs ds) := by
  unfold spec_PkgText.f pkgS
  refine Ev.bind (spec_PkgOk_v n v fs ds hf hd) ?_
  cases ok : pkgOk n v fs ds with
  | false => exact Ev.neg (by simp) (Ev.eq rfl)
  | true =>
    obtain ⟨⟨n0, n1⟩, ⟨v0, v1⟩, ⟨lf, rf⟩, ⟨ld, rd_⟩⟩ := pkgOk_range ok
    refine Ev.pos rfl (Ev.bind (l1Name_v n v (by omega) (by omega) (by omega) (by omega)) ?_)
    rw [if_pos rfl]
    have deps : ∀ d i : Nat, i + d = ds.length → ∀ acc : List Int, acc.length ≤ 100 + 3 * i → Ev (fun k => spec_PkgText.l1 k (strOfNums acc) (i : Int) n v fs ds) (strOfNums (acc ++ (ds.drop i).flatMap depL)) := by
      intro d
      induction d with
      | zero =>
        intro i hi acc ha
        refine Ev.down ?_
        simp only [spec_PkgText.l1]
        refine Ev.neg (by omega) (Ev.eq ?_)
        rw [List.drop_of_length_le (by omega)]; simp
      | succ d ih =>
        intro i hi acc ha
        have hil : i < ds.length := by omega
        have hr := ih (i + 1) (by omega) (acc ++ depL ds[i]) (by rw [List.length_append]; simp only [depL, List.length_cons, List.length_nil]; omega)
        obtain ⟨⟨a0, a1⟩, ⟨b0, b1⟩⟩ := rd_ ds[i] (List.getElem_mem _)
        refine Ev.down ?_
        simp only [spec_PkgText.l1]
        rw [rdD_nat, getD_of_lt hil, show (⟨#[32]⟩ : ByteArray) = strOfNums [32] from rfl, str_append]
        refine Ev.pos (by omega) (Ev.pos (by rw [strOfNums_size]; omega) (Ev.pos (by omega) (Ev.bind (l1Name_v _ _ (by omega) (by omega) (by omega) (by omega)) (Ev.pos (by rw [strOfNums_size, strOfNums_size, List.length_append]; simp only [List.length_cons, List.length_nil]; omega) ?_))))
        rw [str_append, w64 (by omega) (by omega), List.drop_eq_getElem_cons hil, List.flatMap_cons, ← List.append_assoc]
        have e : acc ++ [32] ++ [96 + ds[i].f0, 48 + ds[i].f1] = acc ++ depL ds[i] := by simp [depL]
        rw [e]
        exact hr
    have files : ∀ d i : Nat, i + d = fs.length → ∀ acc : List Int, acc.length ≤ 50 + 4 * i → Ev (fun k => spec_PkgText.l0 k (strOfNums acc) (i : Int) n v fs ds) (strOfNums (acc ++ ((fs.drop i).flatMap fileL ++ ds.flatMap depL))) := by
      intro d
      induction d with
      | zero =>
        intro i hi acc ha
        refine Ev.down ?_
        simp only [spec_PkgText.l0]
        refine Ev.neg (by omega) ?_
        rw [List.drop_of_length_le (by omega)]
        have := deps ds.length 0 (by omega) acc (by omega)
        simpa using this
      | succ d ih =>
        intro i hi acc ha
        have hil : i < fs.length := by omega
        have hr := ih (i + 1) (by omega) (acc ++ fileL fs[i]) (by rw [List.length_append]; simp only [fileL, List.length_cons, List.length_nil]; omega)
        obtain ⟨⟨a0, a1⟩, ⟨b0, b1⟩⟩ := rf fs[i] (List.getElem_mem _)
        refine Ev.down ?_
        simp only [spec_PkgText.l0]
        rw [rdF_nat, getD_of_lt hil, show (⟨#[32]⟩ : ByteArray) = strOfNums [32] from rfl, show (⟨#[58]⟩ : ByteArray) = strOfNums [58] from rfl, str_append]
        refine Ev.pos (by omega) (Ev.pos (by rw [strOfNums_size]; omega) (Ev.pos (by omega) (Ev.bind (l6Dec_1 _ (by omega) (by omega)) ?_)))
        rw [str_append, str_append]
        refine Ev.pos (by rw [strOfNums_size, strOfNums_size, List.length_append]; simp only [List.length_cons, List.length_nil]; omega) (Ev.pos (by rw [strOfNums_size, List.length_append, List.length_append]; simp only [List.length_cons, List.length_nil]; omega) (Ev.bind (l6Dec_1 _ (by omega) (by omega)) ?_))
        refine Ev.pos (by rw [strOfNums_size, strOfNums_size]; simp only [List.length_append, List.length_cons, List.length_nil]; omega) ?_
        rw [str_append, w64 (by omega) (by omega), List.drop_eq_getElem_cons hil, List.flatMap_cons]
        have e : acc ++ [32] ++ [48 + fs[i].f0] ++ [58] ++ [48 + fs[i].f1] = acc ++ fileL fs[i] := by simp [fileL]
        rw [e, List.append_assoc (fileL fs[i]), ← List.append_assoc acc]
        exact hr
    exact files fs.length 0 (by omega) [96 + n, 48 + v] (by simp)

-- spec_PkgRead
abbrev PSt := Int × Int × List Fl × List Dp
def spW (i : Nat) (w : ByteArray) (st : PSt) : PSt :=
  if i = 0 then (if w.size = 2 then (wrap64 (wrap64 (wrap64 (bt w 0) - 97) + 1), wrap64 (wrap64 (bt w 1) - 48), st.2.2.1, st.2.2.2) else st)
  else if w.size = 3 then (st.1, st.2.1, st.2.2.1 ++ [⟨wrap64 (wrap64 (bt w 0) - 48), wrap64 (wrap64 (bt w 2) - 48)⟩], st.2.2.2)
  else if w.size = 2 then (st.1, st.2.1, st.2.2.1, st.2.2.2 ++ [⟨wrap64 (wrap64 (wrap64 (bt w 0) - 97) + 1), wrap64 (wrap64 (bt w 1) - 48)⟩])
  else st
def spAll : Nat → List ByteArray → PSt → PSt
  | _, [], st => st
  | i, w :: ws, st => spAll (i + 1) ws (spW i w st)
def spFin (s : ByteArray) (st : PSt) : Int × Int × List Fl × List Dp × Bool :=
  if (pkgS st.1 st.2.1 st.2.2.1 st.2.2.2).toList = s.toList then (if s.toList = ([] : List UInt8) then (0, 0, [], [], false) else (st.1, st.2.1, st.2.2.1, st.2.2.2, true)) else (0, 0, [], [], false)
theorem spFin_no {s : ByteArray} {st : PSt} (e : ¬ (pkgS st.1 st.2.1 st.2.2.1 st.2.2.2).toList = s.toList) : spFin s st = (0, 0, [], [], false) := if_neg e
theorem spFin_nil {s : ByteArray} {st : PSt} (e : (pkgS st.1 st.2.1 st.2.2.1 st.2.2.2).toList = s.toList) (e2 : s.toList = ([] : List UInt8)) : spFin s st = (0, 0, [], [], false) := (if_pos e).trans (if_pos e2)
theorem spFin_yes {s : ByteArray} {st : PSt} (e : (pkgS st.1 st.2.1 st.2.2.1 st.2.2.2).toList = s.toList) (e2 : ¬ s.toList = ([] : List UInt8)) : spFin s st = (st.1, st.2.1, st.2.2.1, st.2.2.2, true) := (if_pos e).trans (if_neg e2)
theorem spAll_cons (i : Nat) (w : ByteArray) (ws : List ByteArray) (st : PSt) : spAll i (w :: ws) st = spAll (i + 1) ws (spW i w st) := rfl
theorem sp_loop (s : ByteArray) (W : List ByteArray) (hW : W.length ≤ 4097) : ∀ d i : Nat, i + d = W.length → ∀ st : PSt, st.2.2.1.length ≤ i → st.2.2.2.length ≤ i →
    Ev (fun k => spec_PkgRead.l0 k s W (i : Int) st.1 st.2.1 st.2.2.1 st.2.2.2) (spFin s (spAll i (W.drop i) st)) := by
  intro d
  induction d with
  | zero =>
    intro i hi st h1 h2
    refine Ev.down ?_
    simp only [spec_PkgRead.l0]
    rw [List.drop_of_length_le (by omega)]
    refine Ev.neg (by omega) (Ev.bind (spec_PkgText_v _ _ _ _ (by omega) (by omega)) ?_)
    rw [show spAll i [] st = st from rfl]
    by_cases e : (pkgS st.1 st.2.1 st.2.2.1 st.2.2.2).toList = s.toList
    · refine Ev.pos e ?_
      by_cases e2 : s.toList = ([] : List UInt8)
      · exact Ev.pos e2 (Ev.eq (spFin_nil e e2).symm)
      · exact Ev.neg e2 (Ev.eq (spFin_yes e e2).symm)
    · exact Ev.neg e (Ev.eq (spFin_no e).symm)
  | succ d ih =>
    intro i hi st h1 h2
    have hil : i < W.length := by omega
    rw [List.drop_eq_getElem_cons hil]
    rw [spAll_cons]
    obtain ⟨w, hw⟩ : ∃ w, w = W[i] := ⟨_, rfl⟩
    have hrd : rdOf ByteArray.empty W (i : Int) = w := by unfold rdOf; rw [Int.toNat_natCast, getD_of_lt hil, hw]
    rw [← hw]
    have step := ih (i + 1) (by omega) (spW i w st)
    have e64 : wrap64 ((i : Int) + 1) = ((i + 1 : Nat) : Int) := by rw [w64 (by omega) (by omega)]; rfl
    refine Ev.down ?_
    simp only [spec_PkgRead.l0]
    rw [hrd]
    refine Ev.pos (by omega) (Ev.pos (by omega) ?_)
    by_cases e0 : i = 0
    · subst e0
      refine Ev.pos rfl (Ev.down ?_)
      simp only [spec_PkgRead.j1]
      by_cases e2 : w.size = 2
      · have e3 : spW 0 w st = (wrap64 (wrap64 (wrap64 (bt w 0) - 97) + 1), wrap64 (wrap64 (bt w 1) - 48), st.2.2.1, st.2.2.2) := by unfold spW; rw [if_pos rfl, if_pos e2]
        rw [e3] at step ⊢
        refine Ev.pos (by rw [e2]; rfl) (Ev.pos (by omega) (Ev.pos (by omega) ?_))
        rw [e64]
        exact step (by dsimp only; omega) (by dsimp only; omega)
      · have e3 : spW 0 w st = st := by unfold spW; rw [if_pos rfl, if_neg e2]
        rw [e3] at step ⊢
        refine Ev.neg (by rw [beq_iff_eq]; omega) (Ev.neg (by omega) (Ev.down ?_))
        simp only [spec_PkgRead.j2]
        refine Ev.neg (by simp) (Ev.neg (by omega) ?_)
        rw [e64]
        exact step (by omega) (by omega)
    · refine Ev.neg (by omega) (Ev.down ?_)
      simp only [spec_PkgRead.j1]
      refine Ev.neg (by simp) (Ev.pos (by omega) (Ev.down ?_))
      simp only [spec_PkgRead.j2]
      by_cases e2 : w.size = 3
      · have e3 : spW i w st = (st.1, st.2.1, st.2.2.1 ++ [⟨wrap64 (wrap64 (bt w 0) - 48), wrap64 (wrap64 (bt w 2) - 48)⟩], st.2.2.2) := by unfold spW; rw [if_neg e0, if_pos e2]
        rw [e3] at step ⊢
        refine Ev.pos (by rw [e2]; rfl) (Ev.pos (by omega) (Ev.pos (by omega) (Ev.pos (by omega) ?_)))
        rw [e64]
        exact step (by simp only [List.length_append, List.length_singleton]; omega) (by dsimp only; omega)
      · refine Ev.neg (by rw [beq_iff_eq]; omega) (Ev.pos (by omega) ?_)
        by_cases e4 : w.size = 2
        · have e3 : spW i w st = (st.1, st.2.1, st.2.2.1, st.2.2.2 ++ [⟨wrap64 (wrap64 (wrap64 (bt w 0) - 97) + 1), wrap64 (wrap64 (bt w 1) - 48)⟩]) := by unfold spW; rw [if_neg e0, if_neg e2, if_pos e4]
          rw [e3] at step ⊢
          refine Ev.pos (by omega) (Ev.pos (by omega) (Ev.pos (by omega) (Ev.pos (by omega) ?_)))
          rw [e64]
          exact step (by dsimp only; omega) (by simp only [List.length_append, List.length_singleton]; omega)
        · have e3 : spW i w st = st := by unfold spW; rw [if_neg e0, if_neg e2, if_neg e4]
          rw [e3] at step ⊢
          refine Ev.neg (by omega) ?_
          rw [e64]
          exact step (by omega) (by omega)
theorem spW_file (i : Nat) (hi : i ≠ 0) (f : Fl) (hf : (0 ≤ f.f0 ∧ f.f0 ≤ 5) ∧ (0 ≤ f.f1 ∧ f.f1 ≤ 9)) (st : PSt) : spW i (strOfNums (fileW f)) st = (st.1, st.2.1, st.2.2.1 ++ [f], st.2.2.2) := by
  have hr : ∀ b ∈ fileW f, 0 ≤ b ∧ b ≤ 255 := by intro b hb; simp only [fileW, List.mem_cons, List.not_mem_nil, or_false] at hb; omega
  have h0 := bt_str _ hr 0 (by simp [fileW])
  have h2 := bt_str _ hr 2 (by simp [fileW])
  simp only [fileW, List.getElem_cons_zero, List.getElem_cons_succ] at h0 h2
  unfold spW
  rw [if_neg hi, if_pos (by rw [strOfNums_size]; rfl)]
  rw [show bt (strOfNums (fileW f)) 0 = 48 + f.f0 from h0, show bt (strOfNums (fileW f)) 2 = 48 + f.f1 from h2]
  rw [w64 (n := 48 + f.f0) (by omega) (by omega), w64 (n := 48 + f.f1) (by omega) (by omega), w64 (n := 48 + f.f0 - 48) (by omega) (by omega), w64 (n := 48 + f.f1 - 48) (by omega) (by omega), show 48 + f.f0 - 48 = f.f0 by omega, show 48 + f.f1 - 48 = f.f1 by omega]
theorem spW_dep (i : Nat) (hi : i ≠ 0) (f : Dp) (hf : (1 ≤ f.f0 ∧ f.f0 ≤ 4) ∧ (1 ≤ f.f1 ∧ f.f1 ≤ 5)) (st : PSt) : spW i (strOfNums (depW f)) st = (st.1, st.2.1, st.2.2.1, st.2.2.2 ++ [f]) := by
  have hr : ∀ b ∈ depW f, 0 ≤ b ∧ b ≤ 255 := by intro b hb; simp only [depW, List.mem_cons, List.not_mem_nil, or_false] at hb; omega
  have h0 := bt_str _ hr 0 (by simp [depW])
  have h2 := bt_str _ hr 1 (by simp [depW])
  simp only [depW, List.getElem_cons_zero, List.getElem_cons_succ] at h0 h2
  unfold spW
  rw [if_neg hi, if_neg (by rw [strOfNums_size]; simp [depW]), if_pos (by rw [strOfNums_size]; rfl)]
  rw [show bt (strOfNums (depW f)) 0 = 96 + f.f0 from h0, show bt (strOfNums (depW f)) 1 = 48 + f.f1 from h2]
  rw [w64 (n := 96 + f.f0) (by omega) (by omega), w64 (n := 48 + f.f1) (by omega) (by omega), w64 (n := 96 + f.f0 - 97) (by omega) (by omega), w64 (n := 48 + f.f1 - 48) (by omega) (by omega), w64 (n := 96 + f.f0 - 97 + 1) (by omega) (by omega), show 96 + f.f0 - 97 + 1 = f.f0 by omega, show 48 + f.f1 - 48 = f.f1 by omega]
theorem spAll_deps : ∀ (ds : List Dp), (∀ d ∈ ds, (1 ≤ d.f0 ∧ d.f0 ≤ 4) ∧ (1 ≤ d.f1 ∧ d.f1 ≤ 5)) → ∀ (i : Nat), i ≠ 0 → ∀ st : PSt, spAll i ((ds.map depW).map strOfNums) st = (st.1, st.2.1, st.2.2.1, st.2.2.2 ++ ds)
  | [], _, _, _, st => by simp [spAll]
  | d :: ds, h, i, hi, st => by
    simp only [List.map_cons, spAll]
    rw [spW_dep i hi d (h d List.mem_cons_self), spAll_deps ds (fun x hx => h x (List.mem_cons_of_mem _ hx)) (i + 1) (by omega)]
    simp
theorem spAll_words : ∀ (fs : List Fl) (ds : List Dp), (∀ f ∈ fs, (0 ≤ f.f0 ∧ f.f0 ≤ 5) ∧ (0 ≤ f.f1 ∧ f.f1 ≤ 9)) → (∀ d ∈ ds, (1 ≤ d.f0 ∧ d.f0 ≤ 4) ∧ (1 ≤ d.f1 ∧ d.f1 ≤ 5)) → ∀ (i : Nat), i ≠ 0 → ∀ st : PSt,
    spAll i ((pkgWords fs ds).map strOfNums) st = (st.1, st.2.1, st.2.2.1 ++ fs, st.2.2.2 ++ ds)
  | [], ds, _, hd, i, hi, st => by
    have := spAll_deps ds hd i hi st
    simpa [pkgWords] using this
  | f :: fs, ds, hf, hd, i, hi, st => by
    rw [show (pkgWords (f :: fs) ds).map strOfNums = strOfNums (fileW f) :: (pkgWords fs ds).map strOfNums from rfl, spAll_cons, spW_file i hi f (hf f List.mem_cons_self), spAll_words fs ds (fun x hx => hf x (List.mem_cons_of_mem _ hx)) hd (i + 1) (by omega)]
    simp
theorem cut_pkg {n v : Int} {fs : List Fl} {ds : List Dp} (h : pkgOk n v fs ds = true) : cutN (strOfNums (pkgL n v fs ds)) 32 (strOfNums (pkgL n v fs ds)).size = strOfNums [96 + n, 48 + v] :: (pkgWords fs ds).map strOfNums := by
  rw [cutN_all, bytesOf_str (pkgL_range h), pkgL_words]
  obtain ⟨h1, h2⟩ := pkgW_no 32 rfl h
  exact cut_text 32 _ _ h1 h2
theorem sp_parse {n v : Int} {fs : List Fl} {ds : List Dp} (h : pkgOk n v fs ds = true) : spAll 0 (strOfNums [96 + n, 48 + v] :: (pkgWords fs ds).map strOfNums) (0, 0, [], []) = (n, v, fs, ds) := by
  obtain ⟨hn, hv, ⟨_, hf⟩, _, hd⟩ := pkgOk_range h
  have hr : ∀ b ∈ ([96 + n, 48 + v] : List Int), 0 ≤ b ∧ b ≤ 255 := by intro b hb; simp only [List.mem_cons, List.not_mem_nil, or_false] at hb; omega
  have h0 := bt_str _ hr 0 (by simp)
  have h2 := bt_str _ hr 1 (by simp)
  simp only [List.getElem_cons_zero, List.getElem_cons_succ] at h0 h2
  rw [spAll_cons, spAll_words fs ds hf hd (0 + 1) (by omega)]
  unfold spW
  rw [if_pos rfl, if_pos (by rw [strOfNums_size]; rfl)]
  rw [show bt (strOfNums [96 + n, 48 + v]) 0 = 96 + n from h0, show bt (strOfNums [96 + n, 48 + v]) 1 = 48 + v from h2]
  rw [w64 (n := 96 + n) (by omega) (by omega), w64 (n := 48 + v) (by omega) (by omega), w64 (n := 96 + n - 97) (by omega) (by omega), w64 (n := 48 + v - 48) (by omega) (by omega), w64 (n := 96 + n - 97 + 1) (by omega) (by omega), show 96 + n - 97 + 1 = n by omega, show 48 + v - 48 = v by omega]
  simp
theorem spec_PkgRead_v (s : ByteArray) : ∃ (n v : Int) (fs : List Fl) (ds : List Dp) (b : Bool), Ev (fun k => spec_PkgRead.f k s) (n, v, fs, ds, b) ∧ RD s n v fs ds b := by
  unfold spec_PkgRead.f
  by_cases h : (s.size : Int) > 30
  · exact ⟨0, 0, [], [], false, Ev.pos h (Ev.now _), .inr ⟨rfl, rfl, rfl, rfl, rfl, fun n v fs ds ok e => by have := pkgL_size ok; rw [← e] at this; omega⟩⟩
  · have hc : spec_l1Cut.f s 32 = some (cutN s 32 s.size) := by unfold spec_l1Cut.f; rw [if_pos (by omega)]
    have hl := cutN_len s 32 s.size
    have hE := sp_loop s (cutN s 32 s.size) (by omega) (cutN s 32 s.size).length 0 (by omega) (0, 0, [], []) (by simp) (by simp)
    rw [List.drop_zero] at hE
    obtain ⟨st, hst⟩ : ∃ st, st = spAll 0 (cutN s 32 s.size) (0, 0, [], []) := ⟨_, rfl⟩
    rw [← hst] at hE
    have E : Ev (fun k => if (s.size : Int) > 30 then some (0, 0, ([] : List Fl), ([] : List Dp), false) else ((spec_l1Cut.f s 32).bind fun t => spec_PkgRead.l0 k s t 0 0 0 [] [])) (spFin s st) := Ev.neg h (Ev.bind (Ev.con hc) hE)
    have key : ∀ n v fs ds, pkgOk n v fs ds = true → s = strOfNums (pkgL n v fs ds) → (pkgS st.1 st.2.1 st.2.2.1 st.2.2.2).toList = s.toList := by
      intro n v fs ds ok e
      have e1 : st = (n, v, fs, ds) := by rw [hst, e, cut_pkg ok, sp_parse ok]
      rw [e1]
      dsimp only
      rw [pkgS_ok ok, e]
    refine ⟨(spFin s st).1, (spFin s st).2.1, (spFin s st).2.2.1, (spFin s st).2.2.2.1, (spFin s st).2.2.2.2, E, ?_⟩
    by_cases e : (pkgS st.1 st.2.1 st.2.2.1 st.2.2.2).toList = s.toList
    · have es := toList_inj.1 e
      by_cases e2 : s.toList = ([] : List UInt8)
      · rw [spFin_nil e e2]
        refine .inr ⟨rfl, rfl, rfl, rfl, rfl, fun n v fs ds ok e3 => ?_⟩
        rw [e3, toList_str] at e2
        exact pkgL_ne n v fs ds (List.map_eq_nil_iff.1 e2)
      · rw [spFin_yes e e2]
        cases ok : pkgOk st.1 st.2.1 st.2.2.1 st.2.2.2 with
        | true => exact .inl ⟨rfl, ok, by rw [← es, pkgS_ok ok]⟩
        | false =>
          rw [pkgS_no ok] at e
          exact absurd (by rw [← e, toList_str]; rfl) e2
    · rw [spFin_no e]
      exact .inr ⟨rfl, rfl, rfl, rfl, rfl, fun n v fs ds ok e3 => e (key n v fs ds ok e3)⟩

-- spec_l3Less
theorem l3Less_v (n v m w : Int) : spec_l3Less.f n v m w = some (lessB n v m w) := by
  unfold spec_l3Less.f lessB
  by_cases h : n < m
  · rw [if_pos h, decide_eq_true h]; rfl
  · rw [if_neg h, decide_eq_false h]
    by_cases e : n = m
    · rw [if_pos e, decide_eq_true e]; rfl
    · rw [if_neg e, decide_eq_false e]; rfl

-- spec_IndexOk
theorem spec_IndexOk_v (num till : Int) (l : List Mt) (hl : l.length ≤ 17592186044416) : Ev (fun k => spec_IndexOk.f k num till l) (indexOk num till l) := by
  have l6In_v : ∀ a b c : Int, spec_l6In.f a b c = some (inB a b c) := l6In_v
  unfold spec_IndexOk.f indexOk
  have no : Ev (fun k => spec_IndexOk.j0 k true num till l) false := by
    refine Ev.down ?_
    simp only [spec_IndexOk.j0]
    exact Ev.pos trivial (Ev.now _)
  have nope : ∀ i : Int, ∀ a b c, Ev (fun k => spec_IndexOk.j2 k i true num till l a b c) false := by
    intro i a b c
    refine Ev.down ?_
    simp only [spec_IndexOk.j2]
    exact Ev.pos trivial (Ev.now _)
  have loop : Ev (fun k => spec_IndexOk.l0 k 0 num till l) (metasOk l) := by
    refine check_loop (F := fun k i => spec_IndexOk.l0 k i num till l) (p := metaOk1 l) (n := l.length) ?_ ?_ ?_ l.length 0 (by omega)
    · refine Ev.down ?_
      simp only [spec_IndexOk.l0]
      exact Ev.neg (by omega) (Ev.now _)
    · intro i hi hp r hr
      unfold metaOk1 at hp
      simp only [Bool.and_eq_true, Bool.or_eq_true, beq_iff_eq] at hp
      obtain ⟨⟨h1, h2, h3⟩, h4⟩ := hp
      refine Ev.down ?_
      simp only [spec_IndexOk.l0]
      rw [rdM_nat]
      refine Ev.pos (by omega) (Ev.pos (by omega) (Ev.bind (Ev.con (l6In_v _ _ _)) (Ev.pos h1 (Ev.bind (Ev.con (l6In_v _ _ _)) (Ev.pos h2 (Ev.bind (Ev.con (l6In_v _ _ _)) ?_))))))
      rw [h3]
      refine Ev.down ?_
      simp only [spec_IndexOk.j2]
      refine Ev.neg (by simp) ?_
      rw [w64 (n := (i : Int) + 1) (by omega) (by omega)]
      by_cases h0 : i = 0
      · exact Ev.neg (by omega) hr
      · refine Ev.pos (by omega) ?_
        rw [w64 (n := (i : Int) - 1) (by omega) (by omega)]
        refine Ev.pos (by omega) (Ev.pos (by omega) (Ev.bind (Ev.con (l3Less_v _ _ _ _)) ?_))
        rw [show (i : Int) - 1 = ((i - 1 : Nat) : Int) by omega, rdM_nat]
        exact Ev.pos (h4.resolve_left h0) hr
    · intro i hi hp
      unfold metaOk1 at hp
      refine Ev.down ?_
      simp only [spec_IndexOk.l0]
      rw [rdM_nat]
      refine Ev.pos (by omega) (Ev.pos (by omega) (Ev.bind (Ev.con (l6In_v _ _ _)) ?_))
      cases h1 : inB (l.getD i z47).f0 1 4 with
      | false => exact Ev.neg (by simp) (nope _ _ _ _)
      | true =>
        refine Ev.pos (by simp) (Ev.bind (Ev.con (l6In_v _ _ _)) ?_)
        cases h2 : inB (l.getD i z47).f1 1 5 with
        | false => exact Ev.neg (by simp) (nope _ _ _ _)
        | true =>
          refine Ev.pos (by simp) (Ev.bind (Ev.con (l6In_v _ _ _)) ?_)
          cases h3 : inB (l.getD i z47).f2 0 9972 with
          | false => exact nope _ _ _ _
          | true =>
            rw [h1, h2, h3] at hp
            simp only [Bool.and_self, Bool.true_and, Bool.or_eq_false_iff, beq_eq_false_iff_ne] at hp
            refine Ev.down ?_
            simp only [spec_IndexOk.j2]
            refine Ev.neg (by simp) (Ev.pos (by omega) ?_)
            rw [w64 (n := (i : Int) - 1) (by omega) (by omega)]
            refine Ev.pos (by omega) (Ev.pos (by omega) (Ev.bind (Ev.con (l3Less_v _ _ _ _)) ?_))
            rw [show (i : Int) - 1 = ((i - 1 : Nat) : Int) by omega, rdM_nat]
            exact Ev.neg (by rw [hp.2]; simp) (Ev.now _)
  refine Ev.bind (Ev.con (l6In_v _ _ _)) ?_
  cases h1 : inB num 1 30 with
  | false => exact Ev.neg (by simp) no
  | true =>
    refine Ev.pos (by simp) (Ev.bind (Ev.con (l6In_v _ _ _)) ?_)
    cases h2 : inB till 0 60 with
    | false => exact Ev.neg (by simp) no
    | true =>
      refine Ev.pos (by simp) ?_
      by_cases h3 : l.length ≤ 8
      · rw [decide_eq_false (show ¬ ((l.length : Int) > 8) by omega), decide_eq_true h3]
        refine Ev.down ?_
        simp only [spec_IndexOk.j0]
        exact Ev.neg (by simp) loop
      · rw [decide_eq_true (show ((l.length : Int) > 8) by omega), decide_eq_false h3]
        exact no

-- spec_SumOf
theorem spec_SumOf_v (s : ByteArray) (hs : s.size ≤ 140737488351232) : Ev (fun k => spec_SumOf.f k s) (sumL (bytesOf s)) := by
  unfold spec_SumOf.f
  have hl := bytesOf_length s
  have key : ∀ d i : Nat, i + d = s.size → Ev (fun k => spec_SumOf.l0 k s (sumL ((bytesOf s).take i)) (i : Int)) (sumL (bytesOf s)) := by
    intro d
    induction d with
    | zero =>
      intro i hi
      refine Ev.down ?_
      simp only [spec_SumOf.l0]
      refine Ev.neg (by omega) (Ev.eq ?_)
      rw [List.take_of_length_le (by omega)]
    | succ d ih =>
      intro i hi
      have hr := ih (i + 1) (by omega)
      have hn := sumFrom_range (n := 7) ((bytesOf s).take i) (by omega)
      have hb := bt_range s i
      have e : bt s i = (bytesOf s)[i]'(by omega) := by rw [← rd_bytesOf, rd_nat, getD_of_lt (by omega)]
      rw [List.take_succ_eq_append_getElem (by omega), ← e] at hr
      unfold sumL at hr ⊢
      rw [sumFrom_append] at hr
      refine Ev.down ?_
      simp only [spec_SumOf.l0]
      refine Ev.pos (by omega) (Ev.pos (by omega) ?_)
      rw [w64 (n := bt s i) (by omega) (by omega), w64 (n := 31 * _) (by omega) (by omega), w64 (n := 31 * _ + _) (by omega) (by omega), w64 (n := _ + 1) (by omega) (by omega), w64 (n := (i : Int) + 1) (by omega) (by omega), Int.tmod_eq_emod_of_nonneg (by omega)]
      exact hr
  exact key s.size 0 (by omega)

-- spec_IndexHas
def hasFin (ms : List Mt) (n v : Int) (fs : List Fl) (ds : List Dp) (t : Int) : Int × Int × List Fl × List Dp × Bool := if hasM ms n v t = true then (n, v, fs, ds, true) else (0, 0, [], [], false)
theorem l3Has_loop (s : ByteArray) (hs : s.size ≤ 140737488351232) (num till : Int) (ms : List Mt) (hl : ms.length ≤ 17592186044416) (n v : Int) (fs : List Fl) (ds : List Dp) : ∀ d i : Nat, i + d = ms.length →
    Ev (fun k => spec_l3Has.l0 k s (i : Int) num till ms n v fs ds) (hasFin (ms.drop i) n v fs ds (sumL (bytesOf s))) := by
  intro d
  induction d with
  | zero =>
    intro i hi
    refine Ev.down ?_
    simp only [spec_l3Has.l0]
    rw [List.drop_of_length_le (by omega)]
    exact Ev.neg (by omega) (Ev.now _)
  | succ d ih =>
    intro i hi
    have hil : i < ms.length := by omega
    have step := ih (i + 1) (by omega)
    have e64 : wrap64 ((i : Int) + 1) = ((i + 1 : Nat) : Int) := by rw [w64 (by omega) (by omega)]; rfl
    rw [List.drop_eq_getElem_cons hil]
    refine Ev.down ?_
    simp only [spec_l3Has.l0]
    rw [rdM_nat, getD_of_lt hil]
    obtain ⟨m, hm⟩ : ∃ m, m = ms[i] := ⟨_, rfl⟩
    rw [← hm]
    have no : (m.f0 == n && (m.f1 == v && m.f2 == sumL (bytesOf s))) = false → Ev (fun k => spec_l3Has.j1 k s (i : Int) false num till ms n v fs ds) (hasFin (m :: ms.drop (i + 1)) n v fs ds (sumL (bytesOf s))) := fun c => by
      have e : hasFin (m :: ms.drop (i + 1)) n v fs ds (sumL (bytesOf s)) = hasFin (ms.drop (i + 1)) n v fs ds (sumL (bytesOf s)) := by unfold hasFin; rw [hasM_cons, c, Bool.false_or]
      rw [e]
      refine Ev.down ?_
      simp only [spec_l3Has.j1]
      rw [e64]
      exact Ev.neg (by simp) step
    refine Ev.pos (by omega) (Ev.pos (by omega) ?_)
    by_cases h1 : m.f0 = n
    · refine Ev.pos h1 ?_
      by_cases h2 : m.f1 = v
      · refine Ev.pos h2 (Ev.bind (spec_SumOf_v s hs) ?_)
        by_cases h3 : m.f2 = sumL (bytesOf s)
        · rw [beq_iff_eq.2 h3]
          refine Ev.down ?_
          simp only [spec_l3Has.j1]
          refine Ev.pos trivial (Ev.eq ?_)
          unfold hasFin
          rw [hasM_cons, beq_iff_eq.2 h1, beq_iff_eq.2 h2, beq_iff_eq.2 h3]
          rfl
        · rw [beq_eq_false_iff_ne.2 h3]
          exact no (by rw [beq_eq_false_iff_ne.2 h3]; simp)
      · exact Ev.neg h2 (no (by rw [beq_eq_false_iff_ne.2 h2]; simp))
    · exact Ev.neg h1 (no (by rw [beq_eq_false_iff_ne.2 h1]; simp))
theorem spec_IndexHas_v (num till : Int) (ms : List Mt) (hl : ms.length ≤ 17592186044416) (s : ByteArray) (hs : s.size ≤ 140737488351232) : ∃ (n v : Int) (fs : List Fl) (ds : List Dp) (b : Bool), Ev (fun k => spec_IndexHas.f k num till ms s) (n, v, fs, ds, b) ∧ IH num till ms s n v fs ds b := by
  unfold spec_IndexHas.f
  have O := spec_IndexOk_v num till ms hl
  cases ok : indexOk num till ms with
  | false =>
    rw [ok] at O
    exact ⟨0, 0, [], [], false, Ev.bind O (Ev.neg (by simp) (Ev.now _)), .inr ⟨rfl, rfl, rfl, rfl, rfl, fun _ _ _ _ _ h => by rw [ok] at h; exact absurd h.1 (by decide)⟩⟩
  | true =>
    rw [ok] at O
    obtain ⟨n, v, fs, ds, b, e1, r1⟩ := spec_PkgRead_v s
    unfold spec_l3Has.f
    cases b with
    | false =>
      refine ⟨0, 0, [], [], false, Ev.bind O (Ev.pos rfl (Ev.bind (Ev.bind e1 (Ev.neg (by simp) (Ev.now _))) (Ev.now _))), .inr ⟨rfl, rfl, rfl, rfl, rfl, fun n' v' fs' ds' h _ => ?_⟩⟩
      exact absurd (RD_one r1 h).2.2.2.2 (by decide)
    | true =>
      have L := l3Has_loop s hs num till ms hl n v fs ds ms.length 0 (by omega)
      rw [List.drop_zero] at L
      refine ⟨_, _, _, _, _, Ev.bind O (Ev.pos rfl (Ev.bind (Ev.bind e1 (Ev.pos rfl L)) (Ev.now _))), ?_⟩
      unfold hasFin
      by_cases h : hasM ms n v (sumL (bytesOf s)) = true
      · rw [if_pos h]
        exact .inl ⟨rfl, ok, r1, h⟩
      · rw [if_neg h]
        refine .inr ⟨rfl, rfl, rfl, rfl, rfl, fun n' v' fs' ds' r2 k => h ?_⟩
        obtain ⟨rfl, rfl, _⟩ := RD_one r1 r2
        exact k.2

-- splitm
/-! A text, split at a byte by the library. -/
abbrev u8s (l : List Int) : List UInt8 := l.map fun n => UInt8.ofNat n.toNat
theorem u8s_ne {x c : Int} (hx : 0 ≤ x ∧ x ≤ 255) (hc : 0 ≤ c ∧ c ≤ 255) (h : x ≠ c) : UInt8.ofNat x.toNat ≠ UInt8.ofNat c.toNat := fun e => by
  have e := congrArg UInt8.toNat e
  rw [UInt8.toNat_ofNat_of_lt' (by simp only [UInt8.size]; omega), UInt8.toNat_ofNat_of_lt' (by simp only [UInt8.size]; omega)] at e
  omega
theorem index_hit (c : UInt8) : ∀ (u r : List UInt8), (∀ b ∈ u, b ≠ c) → Lib.index (u ++ c :: r) [c] = (u.length : Int)
  | [], r, _ => by
    unfold Lib.index
    rw [List.nil_append]
    simp [List.isPrefixOf]
  | b :: u, r, h => by
    have ih := index_hit c u r (fun d hd => h d (List.mem_cons_of_mem _ hd))
    have h1 : (c == b) = false := beq_eq_false_iff_ne.2 (fun e => h b List.mem_cons_self e.symm)
    rw [List.cons_append]
    unfold Lib.index
    rw [ih]
    have h2 : ((u.length : Int) == -1) = false := by rw [beq_eq_false_iff_ne]; omega
    simp [List.isPrefixOf, h1, h2]
theorem index_miss (c : UInt8) : ∀ (u : List UInt8), (∀ b ∈ u, b ≠ c) → Lib.index u [c] = -1
  | [], _ => rfl
  | b :: u, h => by
    have ih := index_miss c u (fun d hd => h d (List.mem_cons_of_mem _ hd))
    have h1 : (c == b) = false := beq_eq_false_iff_ne.2 (fun e => h b List.mem_cons_self e.symm)
    unfold Lib.index
    rw [ih]
    simp [List.isPrefixOf, h1]
theorem count_words (c : UInt8) : ∀ (ws : List (List UInt8)) (u : List UInt8), (∀ b ∈ u, b ≠ c) → (∀ w ∈ ws, ∀ b ∈ w, b ≠ c) → Lib.count (u ++ ws.flatMap (c :: ·)) [c] = ws.length
  | [], u, hu, _ => by
    rw [List.flatMap_nil, List.append_nil, Lib.count_miss (index_miss c u hu)]
    rfl
  | w :: ws, u, hu, hw => by
    rw [List.flatMap_cons, List.cons_append, Lib.count_hit (by simp) (index_hit c u _ hu), show ([c] : List UInt8).length = 1 from rfl]
    rw [show u ++ c :: (w ++ ws.flatMap (c :: ·)) = (u ++ [c]) ++ (w ++ ws.flatMap (c :: ·)) by simp, List.drop_left' (by simp), count_words c ws w (hw w List.mem_cons_self) (fun v hv => hw v (List.mem_cons_of_mem _ hv)), List.length_cons]
    omega
theorem split_words (c : UInt8) : ∀ (ws : List (List UInt8)) (u : List UInt8), (∀ b ∈ u, b ≠ c) → (∀ w ∈ ws, ∀ b ∈ w, b ≠ c) → Lib.splitK [c] 0 ws.length (u ++ ws.flatMap (c :: ·)) = u :: ws
  | [], u, hu, _ => by
    rw [List.flatMap_nil, List.append_nil]
    rfl
  | w :: ws, u, hu, hw => by
    rw [List.flatMap_cons, List.cons_append, List.length_cons]
    unfold Lib.splitK
    rw [index_hit c u _ hu]
    have h2 : ((u.length : Int) == -1) = false := by rw [beq_eq_false_iff_ne]; omega
    rw [h2, if_neg (by decide), show ([c] : List UInt8).length = 1 from rfl, Int.toNat_natCast, Nat.add_zero, List.take_left]
    rw [show u ++ c :: (w ++ ws.flatMap (c :: ·)) = (u ++ [c]) ++ (w ++ ws.flatMap (c :: ·)) by simp, List.drop_left' (by simp), split_words c ws w (hw w List.mem_cons_self) (fun v hv => hw v (List.mem_cons_of_mem _ hv))]
theorem str_data_inj {a b : ByteArray} (h : a.data.toList = b.data.toList) : a = b := ByteArray.ext (Array.toList_inj.1 h)
theorem datas_inj : ∀ (a b : List ByteArray), a.map (·.data.toList) = b.map (·.data.toList) → a = b
  | [], [], _ => rfl
  | [], _ :: _, h => by simp at h
  | _ :: _, [], h => by simp at h
  | x :: a, y :: b, h => by
    simp only [List.map_cons, List.cons.injEq] at h
    rw [str_data_inj h.1, datas_inj a b h.2]
theorem u8s_words (c : Int) : ∀ ws : List (List Int), u8s (ws.flatMap (c :: ·)) = (ws.map u8s).flatMap (UInt8.ofNat c.toNat :: ·)
  | [] => rfl
  | w :: ws => by
    have ih := u8s_words c ws
    unfold u8s at ih ⊢
    simp only [List.flatMap_cons, List.map_append, List.map_cons, ih, List.map_flatMap, List.cons_append]
theorem split_text (c : Int) (hc : 0 ≤ c ∧ c ≤ 255) (u : List Int) (ws : List (List Int)) (hu : ∀ b ∈ u, (0 ≤ b ∧ b ≤ 255) ∧ b ≠ c) (hw : ∀ w ∈ ws, ∀ b ∈ w, (0 ≤ b ∧ b ≤ 255) ∧ b ≠ c) :
    Lib.splitB (strOfNums [c]) 0 (Lib.countB (strOfNums (u ++ ws.flatMap (c :: ·))) (strOfNums [c])) (strOfNums (u ++ ws.flatMap (c :: ·))) = strOfNums u :: ws.map strOfNums := by
  have h1 : ∀ b ∈ u8s u, b ≠ UInt8.ofNat c.toNat := fun b hb => by
    obtain ⟨x, hx, rfl⟩ := List.mem_map.1 hb
    exact u8s_ne (hu x hx).1 hc (hu x hx).2
  have h2 : ∀ w ∈ ws.map u8s, ∀ b ∈ w, b ≠ UInt8.ofNat c.toNat := fun w hw' b hb => by
    obtain ⟨v, hv, rfl⟩ := List.mem_map.1 hw'
    obtain ⟨x, hx, rfl⟩ := List.mem_map.1 hb
    exact u8s_ne (hw v hv x hx).1 hc (hw v hv x hx).2
  have ed : (strOfNums (u ++ ws.flatMap (c :: ·))).data.toList = u8s u ++ (ws.map u8s).flatMap (UInt8.ofNat c.toNat :: ·) := by
    rw [strOfNums_data, List.map_append]
    exact congrArg _ (u8s_words c ws)
  have es : (strOfNums [c]).data.toList = [UInt8.ofNat c.toNat] := by rw [strOfNums_data]; rfl
  apply datas_inj
  rw [Lib.splitB_data]
  unfold Lib.countB
  rw [ed, es, count_words _ _ _ h1 h2, split_words _ _ _ h1 h2, List.map_cons, List.map_map, strOfNums_data]
  congr 1
theorem cut_hit (c : Int) (hc : 0 ≤ c ∧ c ≤ 255) (u r : List Int) (hu : ∀ b ∈ u, (0 ≤ b ∧ b ≤ 255) ∧ b ≠ c) :
    Lib.cut (strOfNums (u ++ c :: r)).data.toList (strOfNums [c]).data.toList = ((strOfNums u).data.toList, (strOfNums r).data.toList, true) := by
  have h1 : ∀ b ∈ u8s u, b ≠ UInt8.ofNat c.toNat := fun b hb => by
    obtain ⟨x, hx, rfl⟩ := List.mem_map.1 hb
    exact u8s_ne (hu x hx).1 hc (hu x hx).2
  have ed : (strOfNums (u ++ c :: r)).data.toList = u8s u ++ UInt8.ofNat c.toNat :: u8s r := by
    rw [strOfNums_data, List.map_append]; rfl
  have es : (strOfNums [c]).data.toList = [UInt8.ofNat c.toNat] := by rw [strOfNums_data]; rfl
  unfold Lib.cut
  rw [ed, es, index_hit _ _ _ h1, if_pos (by omega), Int.toNat_natCast, List.take_left, show ([UInt8.ofNat c.toNat] : List UInt8).length = 1 from rfl]
  rw [show u8s u ++ UInt8.ofNat c.toNat :: u8s r = (u8s u ++ [UInt8.ofNat c.toNat]) ++ u8s r by simp, List.drop_left' (by simp), strOfNums_data, strOfNums_data]
theorem cut_miss (c : Int) (hc : 0 ≤ c ∧ c ≤ 255) (u : List Int) (hu : ∀ b ∈ u, (0 ≤ b ∧ b ≤ 255) ∧ b ≠ c) :
    Lib.cut (strOfNums u).data.toList (strOfNums [c]).data.toList = ((strOfNums u).data.toList, [], false) := by
  have h1 : ∀ b ∈ u8s u, b ≠ UInt8.ofNat c.toNat := fun b hb => by
    obtain ⟨x, hx, rfl⟩ := List.mem_map.1 hb
    exact u8s_ne (hu x hx).1 hc (hu x hx).2
  have es : (strOfNums [c]).data.toList = [UInt8.ofNat c.toNat] := by rw [strOfNums_data]; rfl
  unfold Lib.cut
  rw [es, strOfNums_data, index_miss _ _ h1, if_neg (by omega)]
/-- Figures are read back. -/
theorem parse_step (acc d : Nat) (r : List UInt8) (hd : d ≤ 9) (ha : acc ≤ 100000) : Lib.parseUint10 acc (UInt8.ofNat (48 + d) :: r) = Lib.parseUint10 (acc * 10 + d) r := by
  have e : (UInt8.ofNat (48 + d)).toNat = 48 + d := UInt8.toNat_ofNat_of_lt' (by simp only [UInt8.size]; omega)
  conv => lhs; unfold Lib.parseUint10
  rw [e, if_pos (by omega), if_neg (by omega), if_neg (by omega), Nat.add_sub_cancel_left]
theorem dg_u8 (n : Nat) : u8s (dg n) = if n < 10 then [UInt8.ofNat (48 + n)] else if n < 100 then [UInt8.ofNat (48 + n / 10), UInt8.ofNat (48 + n % 10)] else if n < 1000 then [UInt8.ofNat (48 + n / 100), UInt8.ofNat (48 + n / 10 % 10), UInt8.ofNat (48 + n % 10)] else [UInt8.ofNat (48 + n / 1000), UInt8.ofNat (48 + n / 100 % 10), UInt8.ofNat (48 + n / 10 % 10), UInt8.ofNat (48 + n % 10)] := by
  have k : ∀ (x : Nat) (y : Int), (48 + x : Int) = y → UInt8.ofNat y.toNat = UInt8.ofNat (48 + x) := fun x y hy => by rw [← hy]; rfl
  unfold u8s dg
  by_cases h1 : n < 10
  · rw [if_pos h1, if_pos (by omega)]
    simp only [List.map_cons, List.map_nil, k n _ rfl]
  · rw [if_neg h1, if_neg (by omega)]
    by_cases h2 : n < 100
    · rw [if_pos h2, if_pos (by omega)]
      simp only [List.map_cons, List.map_nil]
      rw [k (n / 10) (48 + (n : Int) / 10) (by omega), k (n % 10) (48 + (n : Int) % 10) (by omega)]
    · rw [if_neg h2, if_neg (by omega)]
      by_cases h3 : n < 1000
      · rw [if_pos h3, if_pos (by omega)]
        simp only [List.map_cons, List.map_nil]
        rw [k (n / 100) (48 + (n : Int) / 100) (by omega), k (n / 10 % 10) (48 + (n : Int) / 10 % 10) (by omega), k (n % 10) (48 + (n : Int) % 10) (by omega)]
      · rw [if_neg h3, if_neg (by omega)]
        simp only [List.map_cons, List.map_nil]
        rw [k (n / 1000) (48 + (n : Int) / 1000) (by omega), k (n / 100 % 10) (48 + (n : Int) / 100 % 10) (by omega), k (n / 10 % 10) (48 + (n : Int) / 10 % 10) (by omega), k (n % 10) (48 + (n : Int) % 10) (by omega)]
theorem parse_dg (n : Nat) (h : n ≤ 9999) : Lib.parseUint10 0 (u8s (dg n)) = .ok n := by
  rw [dg_u8]
  by_cases h1 : n < 10
  · rw [if_pos h1, parse_step _ _ _ (by omega) (by omega), Nat.zero_mul, Nat.zero_add]; rfl
  · rw [if_neg h1]
    by_cases h2 : n < 100
    · rw [if_pos h2, parse_step _ _ _ (by omega) (by omega), parse_step _ _ _ (by omega) (by omega)]
      unfold Lib.parseUint10
      congr 1; omega
    · rw [if_neg h2]
      by_cases h3 : n < 1000
      · rw [if_pos h3, parse_step _ _ _ (by omega) (by omega), parse_step _ _ _ (by omega) (by omega), parse_step _ _ _ (by omega) (by omega)]
        unfold Lib.parseUint10
        congr 1; omega
      · rw [if_neg h3, parse_step _ _ _ (by omega) (by omega), parse_step _ _ _ (by omega) (by omega), parse_step _ _ _ (by omega) (by omega), parse_step _ _ _ (by omega) (by omega)]
        unfold Lib.parseUint10
        congr 1; omega
theorem dg_head (n : Nat) (h : n ≤ 9999) : ∃ d l, u8s (dg n) = UInt8.ofNat (48 + d) :: l ∧ d ≤ 9 := by
  rw [dg_u8]
  by_cases h1 : n < 10
  · rw [if_pos h1]; exact ⟨_, _, rfl, by omega⟩
  · rw [if_neg h1]
    by_cases h2 : n < 100
    · rw [if_pos h2]; exact ⟨_, _, rfl, by omega⟩
    · rw [if_neg h2]
      by_cases h3 : n < 1000
      · rw [if_pos h3]; exact ⟨_, _, rfl, by omega⟩
      · rw [if_neg h3]; exact ⟨_, _, rfl, by omega⟩
theorem atoi_dgN (n : Nat) (h : n ≤ 9999) : atV (strOfNums (dg n)) = n := by
  have hp := parse_dg n h
  obtain ⟨d, l, e, hd⟩ := dg_head n h
  have e8 : (UInt8.ofNat (48 + d)).toNat = 48 + d := UInt8.toNat_ofNat_of_lt' (by simp only [UInt8.size]; omega)
  have ha : Lib.atoiAll (u8s (dg n)) = .ok (n : Int) := by
    rw [e] at hp ⊢
    unfold Lib.atoiAll Lib.parseMag
    dsimp only
    rw [e8, if_neg (show ¬ (48 + d = 43 ∨ 48 + d = 45) by omega), if_neg (by simp), hp]
    dsimp only
    rw [if_neg (show ¬ (¬ 48 + d = 45 ∧ 9223372036854775808 ≤ n) by omega), if_neg (show ¬ (48 + d = 45 ∧ 9223372036854775808 < n) by omega), if_neg (show ¬ 48 + d = 45 by omega)]
  unfold atV
  rw [strOfNums_data]
  unfold u8s at ha
  rw [ha]
theorem atoi_dg (n : Int) (h0 : 0 ≤ n) (h : n ≤ 9999) : atV (strOfNums (dg n)) = n := by
  have := atoi_dgN n.toNat (by omega)
  rwa [Int.toNat_of_nonneg h0] at this
theorem atoi_fig (n : Int) (h0 : 0 ≤ n) (h : n ≤ 9) : atV (strOfNums [48 + n]) = n := by
  have := atoi_dg n h0 (by omega)
  unfold dg at this
  rwa [if_pos (by omega)] at this

-- libread
/-! What a word is read as by the library. -/
def nmV (w : ByteArray) : Int × Int := if w.toList = ([] : List UInt8) then (0, 0) else (wrap64 (wrap64 (wrap64 (bt w 0) - 97) + 1), atV (w.extract 1 w.size))
theorem nameRead_v (w : ByteArray) (h : w.size ≤ 281474976710656) : impl_nameRead.f w = some (nmV w) := by
  unfold impl_nameRead.f nmV
  by_cases e : w.toList = ([] : List UInt8)
  · rw [if_pos e, if_pos e]
  · rw [if_neg e, if_neg e]
    have hs : 0 < w.size := by
      rcases Nat.eq_zero_or_pos w.size with h0 | h0
      · exact absurd (by rw [ByteArray.toList_eq]; exact List.eq_nil_of_length_eq_zero (by rw [Array.length_toList]; exact h0)) e
      · exact h0
    rw [if_pos (by omega)]
    unfold strconv_Atoi.f
    rw [if_pos (by rw [ByteArray.size_extract]; omega)]
    simp only [Option.bind_some]
    rw [if_pos (by omega)]
def ctV (w sep : ByteArray) : ByteArray × ByteArray × Bool := (⟨(Lib.cut w.data.toList sep.data.toList).1.toArray⟩, ⟨(Lib.cut w.data.toList sep.data.toList).2.1.toArray⟩, (Lib.cut w.data.toList sep.data.toList).2.2)
theorem cut_v (w sep : ByteArray) (h : w.size ≤ 1000000) : strings_Cut.f w sep = some (ctV w sep) := by
  unfold strings_Cut.f ctV
  rw [if_pos (by omega)]
theorem cut_len (s sep : List UInt8) : (Lib.cut s sep).1.length ≤ s.length ∧ (Lib.cut s sep).2.1.length ≤ s.length := by
  unfold Lib.cut
  split
  · dsimp only
    rw [List.length_take, List.length_drop]
    omega
  · exact ⟨Nat.le_refl _, Nat.zero_le _⟩
theorem ctV_size (w sep : ByteArray) : (ctV w sep).1.size ≤ w.size ∧ (ctV w sep).2.1.size ≤ w.size := by
  have h := cut_len w.data.toList sep.data.toList
  have hz : w.data.toList.length ≤ w.size := Nat.le_of_eq (Lib.size_eq w).symm
  exact ⟨Nat.le_trans (show (ctV w sep).1.size ≤ w.data.toList.length from h.1) hz, Nat.le_trans (show (ctV w sep).2.1.size ≤ w.data.toList.length from h.2) hz⟩
theorem atoi_v (w : ByteArray) (h : w.size ≤ 1000000) : strconv_Atoi.f w = some (atV w, none) := by
  unfold strconv_Atoi.f
  rw [if_pos (by omega)]
theorem splitB_size (sep : ByteArray) : ∀ (k : Nat) (s : ByteArray), ∀ w ∈ Lib.splitB sep 0 k s, w.size ≤ s.size
  | 0, s, w, hw => by
    rw [Lib.splitB_zero, List.mem_singleton] at hw
    rw [hw]
    exact Nat.le_refl _
  | k + 1, s, w, hw => by
    unfold Lib.splitB at hw
    split at hw
    · rw [List.mem_singleton] at hw
      rw [hw]
      exact Nat.le_refl _
    · rcases List.mem_cons.1 hw with rfl | hw
      · rw [ByteArray.size_extract]; omega
      · have := splitB_size sep k _ w hw
        rw [ByteArray.size_extract] at this
        omega
theorem splitB_ne (sep : ByteArray) : ∀ (k : Nat) (s : ByteArray), Lib.splitB sep 0 k s ≠ []
  | 0, s => by rw [Lib.splitB_zero]; simp
  | k + 1, s => by unfold Lib.splitB; split <;> simp
theorem split_v (s sep : ByteArray) (h : s.size ≤ 4000) (h1 : 1 ≤ sep.size) : ∃ w ws, strings_Split.f s sep = some (w :: ws) ∧ w :: ws = Lib.splitB sep 0 (Lib.countB s sep) s ∧ ws.length ≤ 4002 ∧ ∀ x ∈ w :: ws, x.size ≤ 4000 := by
  have a := Lib.splitB_length_le sep 0 (Lib.countB s sep) s
  have b := Lib.count_le s.data.toList sep.data.toList
  have c := splitB_size sep (Lib.countB s sep) s
  have d := splitB_ne sep (Lib.countB s sep) s
  rw [← Lib.size_eq] at b
  unfold strings_Split.f
  rw [if_pos ⟨by omega, h1⟩]
  obtain ⟨L, hL⟩ : ∃ L, L = Lib.splitB sep 0 (Lib.countB s sep) s := ⟨_, rfl⟩
  rw [← hL] at a c d ⊢
  cases L with
  | nil => exact absurd rfl d
  | cons w ws =>
    refine ⟨w, ws, rfl, rfl, ?_, fun x hx => Nat.le_trans (c x hx) h⟩
    rw [List.length_cons] at a
    have : Lib.countB s sep ≤ s.size + 1 := b
    omega
theorem str_extract (l : List Int) (hl : ∀ x ∈ l, 0 ≤ x ∧ x ≤ 255) (i j : Nat) : (strOfNums l).extract i j = strOfNums ((l.take j).drop i) := by
  apply bytesOf_inj
  rw [bytesOf_extract, bytesOf_str hl, bytesOf_str (fun x hx => hl x (List.mem_of_mem_take (List.mem_of_mem_drop hx)))]
theorem nmV_word (n v : Int) (hn : 1 ≤ n ∧ n ≤ 4) (hv : 1 ≤ v ∧ v ≤ 5) : nmV (strOfNums [96 + n, 48 + v]) = (n, v) := by
  have hr : ∀ b ∈ ([96 + n, 48 + v] : List Int), 0 ≤ b ∧ b ≤ 255 := by intro b hb; simp only [List.mem_cons, List.not_mem_nil, or_false] at hb; omega
  have h0 := bt_str _ hr 0 (by simp)
  simp only [List.getElem_cons_zero] at h0
  unfold nmV
  rw [if_neg (by rw [toList_str]; simp), show bt (strOfNums [96 + n, 48 + v]) 0 = 96 + n from h0, strOfNums_size, str_extract _ hr]
  rw [show (([96 + n, 48 + v] : List Int).take ([96 + n, 48 + v] : List Int).length).drop 1 = [48 + v] from rfl, atoi_fig v (by omega) (by omega)]
  rw [w64 (n := 96 + n) (by omega) (by omega), w64 (n := 96 + n - 97) (by omega) (by omega), w64 (n := 96 + n - 97 + 1) (by omega) (by omega), show 96 + n - 97 + 1 = n by omega]
theorem data_back (s : ByteArray) : (⟨s.data.toList.toArray⟩ : ByteArray) = s := rfl

-- impl_PkgOk
theorem pkB_eq (n v : Int) (fs : List Fl) (ds : List Dp) : pkB n v fs ds = pkgOk n v fs ds := by
  have eF : ∀ d i, okFrom (pkf1 fs) d i = allFrom (fileOk1 fs) d i := by
    intro d
    induction d with
    | zero => intro i; rfl
    | succ d ih => intro i; show (_ && _) = (_ && _); rw [ih]; rfl
  have eD : ∀ d i, okFrom (pkd1 n ds) d i = allFrom (depOk1 n ds) d i := by
    intro d
    induction d with
    | zero => intro i; rfl
    | succ d ih => intro i; show (_ && _) = (_ && _); rw [ih]; rfl
  unfold pkB pkpre pkgOk filesOk depsOk
  rw [eF, eD]
  show (inB n 1 4 && (inB v 1 5 && (decide (fs.length ≤ 2) && decide (ds.length ≤ 2))) && (allFrom (fileOk1 fs) fs.length 0 && allFrom (depOk1 n ds) ds.length 0)) = _
  cases inB n 1 4 <;> cases inB v 1 5 <;> cases allFrom (fileOk1 fs) fs.length 0 <;> cases allFrom (depOk1 n ds) ds.length 0 <;> cases decide (fs.length ≤ 2) <;> cases decide (ds.length ≤ 2) <;> rfl
theorem impl_PkgOk_v (n v : Int) (fs : List Fl) (ds : List Dp) (hf : fs.length ≤ 17592186044416) (hd : ds.length ≤ 17592186044416) : Ev (fun k => impl_PkgOk.f k n v fs ds) (pkgOk n v fs ds) := by
  rw [← pkB_eq]
  exact Ev.now _

-- impl_PkgText
theorem impl_PkgText_v (n v : Int) (fs : List Fl) (ds : List Dp) : Ev (fun k => impl_PkgText.f k n v fs ds) (pkgS n v fs ds) := by
  have e : ptS n v fs ds = pkgS n v fs ds := by
    unfold ptS pkgS
    rw [pkB_eq]
    rfl
  rw [← e]
  exact Ev.now _

-- impl_PkgRead
abbrev ISt := Int × Int × List Fl × List Dp
def ipW (w : ByteArray) (st : ISt) : ISt := if (ctV w ⟨#[58]⟩).2.2 = true then (st.1, st.2.1, st.2.2.1 ++ [⟨atV (ctV w ⟨#[58]⟩).1, atV (ctV w ⟨#[58]⟩).2.1⟩], st.2.2.2) else (st.1, st.2.1, st.2.2.1, st.2.2.2 ++ [⟨(nmV w).1, (nmV w).2⟩])
def ipAll : List ByteArray → ISt → ISt
  | [], st => st
  | w :: ws, st => ipAll ws (ipW w st)
def ipFin (s : ByteArray) (st : ISt) : Int × Int × List Fl × List Dp × Bool :=
  if pkgOk st.1 st.2.1 st.2.2.1 st.2.2.2 = true then (if (pkgS st.1 st.2.1 st.2.2.1 st.2.2.2).toList = s.toList then (st.1, st.2.1, st.2.2.1, st.2.2.2, true) else (0, 0, [], [], false)) else (0, 0, [], [], false)
theorem ipFin_bad {s : ByteArray} {st : ISt} (e : ¬ pkgOk st.1 st.2.1 st.2.2.1 st.2.2.2 = true) : ipFin s st = (0, 0, [], [], false) := if_neg e
theorem ipFin_no {s : ByteArray} {st : ISt} (e : pkgOk st.1 st.2.1 st.2.2.1 st.2.2.2 = true) (e2 : ¬ (pkgS st.1 st.2.1 st.2.2.1 st.2.2.2).toList = s.toList) : ipFin s st = (0, 0, [], [], false) := (if_pos e).trans (if_neg e2)
theorem ipFin_yes {s : ByteArray} {st : ISt} (e : pkgOk st.1 st.2.1 st.2.2.1 st.2.2.2 = true) (e2 : (pkgS st.1 st.2.1 st.2.2.1 st.2.2.2).toList = s.toList) : ipFin s st = (st.1, st.2.1, st.2.2.1, st.2.2.2, true) := (if_pos e).trans (if_pos e2)
theorem ipAll_cons (w : ByteArray) (ws : List ByteArray) (st : ISt) : ipAll (w :: ws) st = ipAll ws (ipW w st) := rfl
theorem ip_loop (s : ByteArray) (W : List ByteArray) (hW : W.length ≤ 4097) (hz : ∀ w ∈ W, w.size ≤ 4096) : ∀ d i : Nat, i + d = W.length → ∀ st : ISt, st.2.2.1.length ≤ i → st.2.2.2.length ≤ i →
    Ev (fun k => impl_PkgRead.l0 k s W (W.length : Int) (i : Int) st.1 st.2.1 st.2.2.1 st.2.2.2) (ipFin s (ipAll (W.drop i) st)) := by
  intro d
  induction d with
  | zero =>
    intro i hi st h1 h2
    refine Ev.down ?_
    simp only [impl_PkgRead.l0]
    rw [List.drop_of_length_le (by omega)]
    refine Ev.neg (by omega) (Ev.bind (impl_PkgOk_v _ _ _ _ (by omega) (by omega)) ?_)
    rw [show ipAll [] st = st from rfl]
    by_cases e : pkgOk st.1 st.2.1 st.2.2.1 st.2.2.2 = true
    · refine Ev.pos e (Ev.bind (impl_PkgText_v _ _ _ _) ?_)
      by_cases e2 : (pkgS st.1 st.2.1 st.2.2.1 st.2.2.2).toList = s.toList
      · exact Ev.pos e2 (Ev.eq (ipFin_yes e e2).symm)
      · exact Ev.neg e2 (Ev.eq (ipFin_no e e2).symm)
    · exact Ev.neg e (Ev.eq (ipFin_bad e).symm)
  | succ d ih =>
    intro i hi st h1 h2
    have hil : i < W.length := by omega
    rw [List.drop_eq_getElem_cons hil]
    rw [ipAll_cons]
    have hs := hz W[i] (List.getElem_mem _)
    obtain ⟨w, hw⟩ : ∃ w, w = W[i] := ⟨_, rfl⟩
    have hrd : rdOf ByteArray.empty W (i : Int) = w := by unfold rdOf; rw [Int.toNat_natCast, getD_of_lt hil, hw]
    rw [← hw] at hs ⊢
    have step := ih (i + 1) (by omega) (ipW w st)
    have e64 : wrap64 ((i : Int) + 1) = ((i + 1 : Nat) : Int) := by rw [w64 (by omega) (by omega)]; rfl
    obtain ⟨c1, c2⟩ := ctV_size w ⟨#[58]⟩
    refine Ev.down ?_
    simp only [impl_PkgRead.l0]
    rw [hrd, e64]
    refine Ev.pos (by omega) (Ev.pos (by omega) (Ev.pos (by omega) (Ev.bind (Ev.con (cut_v w _ (by omega))) ?_)))
    by_cases e : (ctV w ⟨#[58]⟩).2.2 = true
    · have e3 : ipW w st = (st.1, st.2.1, st.2.2.1 ++ [⟨atV (ctV w ⟨#[58]⟩).1, atV (ctV w ⟨#[58]⟩).2.1⟩], st.2.2.2) := by unfold ipW; rw [if_pos e]
      rw [e3] at step ⊢
      refine Ev.pos e (Ev.bind (Ev.con (atoi_v _ (by omega))) (Ev.bind (Ev.con (atoi_v _ (by omega))) (Ev.pos (by omega) ?_)))
      exact step (by simp only [List.length_append, List.length_singleton]; omega) (by dsimp only; omega)
    · have e3 : ipW w st = (st.1, st.2.1, st.2.2.1, st.2.2.2 ++ [⟨(nmV w).1, (nmV w).2⟩]) := by unfold ipW; rw [if_neg e]
      rw [e3] at step ⊢
      refine Ev.neg e (Ev.bind (Ev.con (nameRead_v w (by omega))) (Ev.pos (by omega) ?_))
      exact step (by dsimp only; omega) (by simp only [List.length_append, List.length_singleton]; omega)
theorem ipW_file (f : Fl) (hf : (0 ≤ f.f0 ∧ f.f0 ≤ 5) ∧ (0 ≤ f.f1 ∧ f.f1 ≤ 9)) (st : ISt) : ipW (strOfNums (fileW f)) st = (st.1, st.2.1, st.2.2.1 ++ [f], st.2.2.2) := by
  have e : ctV (strOfNums (fileW f)) ⟨#[58]⟩ = (strOfNums [48 + f.f0], strOfNums [48 + f.f1], true) := by
    have h := cut_hit 58 (by omega) [48 + f.f0] [48 + f.f1] (by intro b hb; simp only [List.mem_cons, List.not_mem_nil, or_false] at hb; omega)
    unfold ctV
    rw [show (⟨#[58]⟩ : ByteArray) = strOfNums [58] from rfl, show fileW f = [48 + f.f0] ++ 58 :: [48 + f.f1] from rfl, h]
  unfold ipW
  rw [e, if_pos rfl, atoi_fig _ (by omega) (by omega), atoi_fig _ (by omega) (by omega)]
theorem ipW_dep (d : Dp) (hd : (1 ≤ d.f0 ∧ d.f0 ≤ 4) ∧ (1 ≤ d.f1 ∧ d.f1 ≤ 5)) (st : ISt) : ipW (strOfNums (depW d)) st = (st.1, st.2.1, st.2.2.1, st.2.2.2 ++ [d]) := by
  have e : (ctV (strOfNums (depW d)) ⟨#[58]⟩).2.2 = false := by
    have h := cut_miss 58 (by omega) (depW d) (by intro b hb; simp only [depW, List.mem_cons, List.not_mem_nil, or_false] at hb; omega)
    unfold ctV
    rw [show (⟨#[58]⟩ : ByteArray) = strOfNums [58] from rfl, h]
  unfold ipW
  rw [e, if_neg (by decide)]
  unfold depW
  rw [nmV_word _ _ hd.1 hd.2]
theorem ipAll_deps : ∀ (ds : List Dp), (∀ d ∈ ds, (1 ≤ d.f0 ∧ d.f0 ≤ 4) ∧ (1 ≤ d.f1 ∧ d.f1 ≤ 5)) → ∀ st : ISt, ipAll ((ds.map depW).map strOfNums) st = (st.1, st.2.1, st.2.2.1, st.2.2.2 ++ ds)
  | [], _, st => by simp [ipAll]
  | d :: ds, h, st => by
    simp only [List.map_cons, ipAll]
    rw [ipW_dep d (h d List.mem_cons_self), ipAll_deps ds (fun x hx => h x (List.mem_cons_of_mem _ hx))]
    simp
theorem ipAll_words : ∀ (fs : List Fl) (ds : List Dp), (∀ f ∈ fs, (0 ≤ f.f0 ∧ f.f0 ≤ 5) ∧ (0 ≤ f.f1 ∧ f.f1 ≤ 9)) → (∀ d ∈ ds, (1 ≤ d.f0 ∧ d.f0 ≤ 4) ∧ (1 ≤ d.f1 ∧ d.f1 ≤ 5)) → ∀ st : ISt,
    ipAll ((pkgWords fs ds).map strOfNums) st = (st.1, st.2.1, st.2.2.1 ++ fs, st.2.2.2 ++ ds)
  | [], ds, _, hd, st => by
    have := ipAll_deps ds hd st
    simpa [pkgWords] using this
  | f :: fs, ds, hf, hd, st => by
    rw [show (pkgWords (f :: fs) ds).map strOfNums = strOfNums (fileW f) :: (pkgWords fs ds).map strOfNums from rfl, ipAll_cons, ipW_file f (hf f List.mem_cons_self), ipAll_words fs ds (fun x hx => hf x (List.mem_cons_of_mem _ hx)) hd]
    simp
theorem pkgW_bytes {n v : Int} {fs : List Fl} {ds : List Dp} (h : pkgOk n v fs ds = true) : (∀ b ∈ ([96 + n, 48 + v] : List Int), (0 ≤ b ∧ b ≤ 255) ∧ b ≠ 32) ∧ ∀ w ∈ pkgWords fs ds, ∀ b ∈ w, (0 ≤ b ∧ b ≤ 255) ∧ b ≠ 32 := by
  obtain ⟨h1, h2⟩ := pkgW_no 32 rfl h
  have hr := pkgL_range h
  rw [pkgL_words] at hr
  refine ⟨fun b hb => ⟨hr b (List.mem_append_left _ hb), h1 b hb⟩, fun w hw b hb => ⟨hr b (List.mem_append_right _ (List.mem_flatMap.2 ⟨w, hw, List.mem_cons_of_mem _ hb⟩)), h2 w hw b hb⟩⟩
theorem split_pkg {n v : Int} {fs : List Fl} {ds : List Dp} (h : pkgOk n v fs ds = true) : Lib.splitB ⟨#[32]⟩ 0 (Lib.countB (strOfNums (pkgL n v fs ds)) ⟨#[32]⟩) (strOfNums (pkgL n v fs ds)) = strOfNums [96 + n, 48 + v] :: (pkgWords fs ds).map strOfNums := by
  obtain ⟨h1, h2⟩ := pkgW_bytes h
  rw [show (⟨#[32]⟩ : ByteArray) = strOfNums [32] from rfl, pkgL_words]
  exact split_text 32 (by omega) _ _ h1 h2
theorem impl_PkgRead_v (s : ByteArray) : ∃ (n v : Int) (fs : List Fl) (ds : List Dp) (b : Bool), Ev (fun k => impl_PkgRead.f k s) (n, v, fs, ds, b) ∧ RD s n v fs ds b := by
  unfold impl_PkgRead.f
  by_cases h : (s.size : Int) > 30
  · exact ⟨0, 0, [], [], false, Ev.pos h (Ev.now _), .inr ⟨rfl, rfl, rfl, rfl, rfl, fun n v fs ds ok e => by have := pkgL_size ok; rw [← e] at this; omega⟩⟩
  · obtain ⟨w, ws, e1, e2, e3, e4⟩ := split_v s ⟨#[32]⟩ (by omega) (by decide)
    have hE := ip_loop s ws (by omega) (fun x hx => Nat.le_trans (e4 x (List.mem_cons_of_mem _ hx)) (by omega)) ws.length 0 (by omega) ((nmV w).1, (nmV w).2, [], []) (by simp) (by simp)
    rw [List.drop_zero] at hE
    obtain ⟨st, hst⟩ : ∃ st, st = ipAll ws ((nmV w).1, (nmV w).2, [], []) := ⟨_, rfl⟩
    rw [← hst] at hE
    have e5 : rdOf ByteArray.empty (w :: ws) 0 = w := rfl
    refine ⟨(ipFin s st).1, (ipFin s st).2.1, (ipFin s st).2.2.1, (ipFin s st).2.2.2.1, (ipFin s st).2.2.2.2, Ev.neg h (Ev.bind (Ev.con e1) (Ev.pos (by simp) (Ev.bind (Ev.con (by rw [e5]; exact nameRead_v w (Nat.le_trans (e4 w List.mem_cons_self) (by omega)))) (Ev.pos (by rw [List.length_cons]; omega) (Ev.bind (Ev.now _) hE))))), ?_⟩
    have key : ∀ n v fs ds, pkgOk n v fs ds = true → s = strOfNums (pkgL n v fs ds) → st = (n, v, fs, ds) := by
      intro n v fs ds ok e
      rw [e, split_pkg ok] at e2
      obtain ⟨rfl, rfl⟩ := List.cons.inj e2
      obtain ⟨hn, hv, ⟨_, hf⟩, _, hd⟩ := pkgOk_range ok
      rw [hst, nmV_word n v hn hv, ipAll_words fs ds hf hd]
      simp
    by_cases ok : pkgOk st.1 st.2.1 st.2.2.1 st.2.2.2 = true
    · by_cases e : (pkgS st.1 st.2.1 st.2.2.1 st.2.2.2).toList = s.toList
      · rw [ipFin_yes ok e]
        exact .inl ⟨rfl, ok, by rw [← toList_inj.1 e, pkgS_ok ok]⟩
      · rw [ipFin_no ok e]
        refine .inr ⟨rfl, rfl, rfl, rfl, rfl, fun n v fs ds ok' e' => e ?_⟩
        rw [key n v fs ds ok' e']
        dsimp only
        rw [pkgS_ok ok', e']
    · rw [ipFin_bad ok]
      refine .inr ⟨rfl, rfl, rfl, rfl, rfl, fun n v fs ds ok' e' => ok ?_⟩
      rw [key n v fs ds ok' e']
      exact ok'

-- impl_IndexOk
theorem ixB_eq (num till : Int) (l : List Mt) : ixB num till l = indexOk num till l := by
  have e : ∀ d i, okFrom (ixm1 l) d i = allFrom (metaOk1 l) d i := by
    intro d
    induction d with
    | zero => intro i; rfl
    | succ d ih =>
      intro i
      show (_ && _) = (_ && _)
      rw [ih]
      congr 1
      unfold ixm1 metaOk1 lessB
      simp only [Bool.and_assoc]
      rfl
  unfold ixB indexOk metasOk
  rw [e, Bool.and_comm]
  rfl
theorem impl_IndexOk_v (num till : Int) (l : List Mt) (hl : l.length ≤ 17592186044416) : Ev (fun k => impl_IndexOk.f k num till l) (indexOk num till l) := by
  rw [← ixB_eq]
  exact Ev.now _

-- impl_SumOf
theorem impl_SumOf_v (s : ByteArray) (hs : s.size ≤ 140737488351232) : Ev (fun k => impl_SumOf.f k s) (sumL (bytesOf s)) := by
  unfold impl_SumOf.f
  have hl := bytesOf_length s
  have key : ∀ d i : Nat, i + d = s.size → Ev (fun k => impl_SumOf.l0 k s (sumL ((bytesOf s).take i)) (i : Int)) (sumL (bytesOf s)) := by
    intro d
    induction d with
    | zero =>
      intro i hi
      refine Ev.down ?_
      simp only [impl_SumOf.l0]
      refine Ev.neg (by omega) (Ev.eq ?_)
      rw [List.take_of_length_le (by omega)]
    | succ d ih =>
      intro i hi
      have hr := ih (i + 1) (by omega)
      have hn := sumFrom_range (n := 7) ((bytesOf s).take i) (by omega)
      have hb := bt_range s i
      have e : bt s i = (bytesOf s)[i]'(by omega) := by rw [← rd_bytesOf, rd_nat, getD_of_lt (by omega)]
      rw [List.take_succ_eq_append_getElem (by omega), ← e] at hr
      unfold sumL at hr ⊢
      rw [sumFrom_append] at hr
      refine Ev.down ?_
      simp only [impl_SumOf.l0]
      refine Ev.pos (by omega) (Ev.pos (by omega) ?_)
      rw [w64 (n := bt s i) (by omega) (by omega), w64 (n := 31 * _) (by omega) (by omega), w64 (n := 31 * _ + _) (by omega) (by omega), w64 (n := _ + 1) (by omega) (by omega), w64 (n := (i : Int) + 1) (by omega) (by omega), Int.tmod_eq_emod_of_nonneg (by omega)]
      exact hr
  exact key s.size 0 (by omega)

-- impl_IndexHas
theorem sIndex_loop (ms : List Mt) (hl : ms.length ≤ 17592186044416) (n v t : Int) : ∀ d i : Nat, i + d = ms.length → ∃ r, Ev (fun k => impl_Meta_43.l0 k ms (ms.length : Int) (i : Int) n v t) r ∧ decide (r ≥ 0) = hasM (ms.drop i) n v t := by
  intro d
  induction d with
  | zero =>
    intro i hi
    refine ⟨-1, Ev.down ?_, by rw [List.drop_of_length_le (by omega)]; rfl⟩
    simp only [impl_Meta_43.l0]
    exact Ev.neg (by omega) (Ev.now _)
  | succ d ih =>
    intro i hi
    have hil : i < ms.length := by omega
    obtain ⟨r, hr, h1⟩ := ih (i + 1) (by omega)
    have e64 : wrap64 ((i : Int) + 1) = ((i + 1 : Nat) : Int) := by rw [w64 (by omega) (by omega)]; rfl
    rw [List.drop_eq_getElem_cons hil, hasM_cons]
    obtain ⟨m, hm⟩ : ∃ m, m = ms[i] := ⟨_, rfl⟩
    have hrd : rd_T47 ms (i : Int) = m := by rw [rdM_nat, getD_of_lt hil, hm]
    rw [← hm]
    have c : (n == m.f0 && (v == m.f1 && t == m.f2)) = (m.f0 == n && (m.f1 == v && m.f2 == t)) := by
      rw [Bool.eq_iff_iff]
      simp only [Bool.and_eq_true, beq_iff_eq]
      exact ⟨fun ⟨a, b, c⟩ => ⟨a.symm, b.symm, c.symm⟩, fun ⟨a, b, c⟩ => ⟨a.symm, b.symm, c.symm⟩⟩
    cases hc : (m.f0 == n && (m.f1 == v && m.f2 == t)) with
    | true =>
      refine ⟨(i : Int), Ev.down ?_, by rw [Bool.true_or, decide_eq_true_eq]; omega⟩
      simp only [impl_Meta_43.l0]
      rw [hrd, c, hc]
      exact Ev.pos (by omega) (Ev.pos (by omega) (Ev.pos (by omega) (Ev.pos rfl (Ev.now _))))
    | false =>
      refine ⟨r, Ev.down ?_, by rw [Bool.false_or]; exact h1⟩
      simp only [impl_Meta_43.l0]
      rw [hrd, c, hc, e64]
      exact Ev.pos (by omega) (Ev.pos (by omega) (Ev.pos (by omega) (Ev.neg (by simp) hr)))
theorem sContains_v (ms : List Mt) (hl : ms.length ≤ 17592186044416) (n v t : Int) : Ev (fun k => impl_Meta_19.f k ms n v t) (hasM ms n v t) := by
  obtain ⟨r, hr, h⟩ := sIndex_loop ms hl n v t ms.length 0 (by omega)
  rw [List.drop_zero] at h
  unfold impl_Meta_19.f impl_Meta_43.f
  exact Ev.bind hr (Ev.eq h)
theorem impl_IndexHas_v (num till : Int) (ms : List Mt) (hl : ms.length ≤ 17592186044416) (s : ByteArray) : ∃ (n v : Int) (fs : List Fl) (ds : List Dp) (b : Bool), Ev (fun k => impl_IndexHas.f k num till ms s) (n, v, fs, ds, b) ∧ IH num till ms s n v fs ds b := by
  unfold impl_IndexHas.f
  obtain ⟨n, v, fs, ds, b, e1, r1⟩ := impl_PkgRead_v s
  have O := impl_IndexOk_v num till ms hl
  have no : Ev (fun k => impl_IndexHas.j0 k true n v fs ds) (0, 0, [], [], false) := by
    refine Ev.down ?_
    simp only [impl_IndexHas.j0]
    exact Ev.pos trivial (Ev.now _)
  cases b with
  | false =>
    refine ⟨0, 0, [], [], false, Ev.bind e1 (Ev.neg (by simp) no), .inr ⟨rfl, rfl, rfl, rfl, rfl, fun n' v' fs' ds' h _ => ?_⟩⟩
    exact absurd (RD_one r1 h).2.2.2.2 (by decide)
  | true =>
    cases ok : indexOk num till ms with
    | false =>
      rw [ok] at O
      exact ⟨0, 0, [], [], false, Ev.bind e1 (Ev.pos rfl (Ev.bind O (Ev.neg (by simp) no))), .inr ⟨rfl, rfl, rfl, rfl, rfl, fun _ _ _ _ _ h => by rw [ok] at h; exact absurd h.1 (by decide)⟩⟩
    | true =>
      rw [ok] at O
      have es : pkgS n v fs ds = s := by
        rcases r1 with ⟨_, k, e⟩ | ⟨h, _⟩
        · rw [pkgS_ok k, e]
        · exact absurd h (by decide)
      have sz : s.size ≤ 16 := by rw [← es]; exact pkgS_size n v fs ds
      have T := impl_PkgText_v n v fs ds
      rw [es] at T
      have C := sContains_v ms hl n v (sumL (bytesOf s))
      have M : Ev (fun k => impl_metaOf.f k n v fs ds) (n, v, sumL (bytesOf s)) := by
        unfold impl_metaOf.f
        exact Ev.bind T (Ev.bind (impl_SumOf_v s (by omega)) (Ev.now _))
      cases h : hasM ms n v (sumL (bytesOf s)) with
      | true =>
        rw [h] at C
        refine ⟨n, v, fs, ds, true, Ev.bind e1 (Ev.pos rfl (Ev.bind O (Ev.pos rfl (Ev.bind M (Ev.bind C (Ev.down ?_)))))), .inl ⟨rfl, ok, r1, h⟩⟩
        simp only [impl_IndexHas.j0]
        exact Ev.neg (by simp) (Ev.now _)
      | false =>
        rw [h] at C
        refine ⟨0, 0, [], [], false, Ev.bind e1 (Ev.pos rfl (Ev.bind O (Ev.pos rfl (Ev.bind M (Ev.bind C no))))), .inr ⟨rfl, rfl, rfl, rfl, rfl, fun n' v' fs' ds' r2 k => ?_⟩⟩
        obtain ⟨rfl, rfl, _⟩ := RD_one r1 r2
        rw [h] at k
        exact absurd k.2 (by decide)

-- laws_eqMetaS
theorem eqMeta_v (x y : Mt) : laws_eqMeta.f x.f0 x.f1 x.f2 y.f0 y.f1 y.f2 = some (decide (x = y)) := by
  obtain ⟨a, b, c⟩ := x
  obtain ⟨d, e, f⟩ := y
  unfold laws_eqMeta.f
  by_cases h1 : a = d
  · rw [if_pos h1]
    by_cases h2 : b = e
    · rw [if_pos h2]
      by_cases h3 : c = f
      · rw [if_pos h3, decide_eq_true (by rw [h1, h2, h3])]
      · rw [if_neg h3, decide_eq_false (fun h => h3 (S47.mk.inj h).2.2)]
    · rw [if_neg h2, decide_eq_false (fun h => h2 (S47.mk.inj h).2.1)]
  · rw [if_neg h1, decide_eq_false (fun h => h1 (S47.mk.inj h).1)]
theorem eqMetaS_v (a b : List Mt) (hl : a.length ≤ 17592186044416) : Ev (fun k => laws_eqMetaS.f k a b) (decide (a = b)) := by
  unfold laws_eqMetaS.f
  by_cases h : a.length = b.length
  · refine Ev.pos (by omega) ?_
    refine Ev.re (check_loop (F := fun k i => laws_eqMetaS.l0 k a b i) (p := fun i => decide (a.getD i z47 = b.getD i z47)) (n := a.length) ?_ ?_ ?_ a.length 0 (by omega)) ?_
    · refine Ev.down ?_
      simp only [laws_eqMetaS.l0]
      exact Ev.neg (by omega) (Ev.now _)
    · intro i hi hp r hr
      refine Ev.down ?_
      simp only [laws_eqMetaS.l0]
      rw [rdM_nat, rdM_nat]
      refine Ev.pos (by omega) (Ev.pos (by omega) (Ev.pos (by omega) (Ev.bind (Ev.con (eqMeta_v _ _)) (Ev.pos hp ?_))))
      rw [w64 (by omega) (by omega)]
      exact hr
    · intro i hi hp
      refine Ev.down ?_
      simp only [laws_eqMetaS.l0]
      rw [rdM_nat, rdM_nat]
      exact Ev.pos (by omega) (Ev.pos (by omega) (Ev.pos (by omega) (Ev.bind (Ev.con (eqMeta_v _ _)) (Ev.neg (by rw [hp]; simp) (Ev.now _)))))
    · rw [Bool.eq_iff_iff, allFrom_iff, decide_eq_true_eq]
      constructor
      · intro hh
        refine List.ext_getElem h (fun i h1 h2 => ?_)
        have := of_decide_eq_true (hh i (by omega) (by omega))
        rwa [getD_of_lt h1, getD_of_lt h2] at this
      · rintro rfl j - -
        simp
  · refine Ev.neg (by omega) (Ev.eq ?_)
    symm
    rw [decide_eq_false_iff_not]
    exact fun e => h (by rw [e])

-- laws_eqIndex
theorem eqIndex_same (a b : Int) (l : List Mt) (hl : l.length ≤ 17592186044416) : Ev (fun k => laws_eqIndex.f k a b l a b l) true := by
  unfold laws_eqIndex.f
  exact Ev.pos rfl (Ev.pos rfl (Ev.bind (eqMetaS_v l l hl) (Ev.pos (by simp) (Ev.now _))))

-- laws_eqFileS
theorem eqFile_v (x y : Fl) : laws_eqFile.f x.f0 x.f1 y.f0 y.f1 = some (decide (x = y)) := by
  obtain ⟨a, b⟩ := x
  obtain ⟨d, e⟩ := y
  unfold laws_eqFile.f
  by_cases h1 : a = d
  · rw [if_pos h1]
    by_cases h2 : b = e
    · rw [if_pos h2, decide_eq_true (by rw [h1, h2])]
    · rw [if_neg h2, decide_eq_false (fun h => h2 (S71.mk.inj h).2)]
  · rw [if_neg h1, decide_eq_false (fun h => h1 (S71.mk.inj h).1)]
theorem eqFileS_v (a b : List Fl) (hl : a.length ≤ 17592186044416) : Ev (fun k => laws_eqFileS.f k a b) (decide (a = b)) := by
  unfold laws_eqFileS.f
  by_cases h : a.length = b.length
  · refine Ev.pos (by omega) ?_
    refine Ev.re (check_loop (F := fun k i => laws_eqFileS.l0 k a b i) (p := fun i => decide (a.getD i z71 = b.getD i z71)) (n := a.length) ?_ ?_ ?_ a.length 0 (by omega)) ?_
    · refine Ev.down ?_
      simp only [laws_eqFileS.l0]
      exact Ev.neg (by omega) (Ev.now _)
    · intro i hi hp r hr
      refine Ev.down ?_
      simp only [laws_eqFileS.l0]
      rw [rdF_nat, rdF_nat]
      refine Ev.pos (by omega) (Ev.pos (by omega) (Ev.pos (by omega) (Ev.bind (Ev.con (eqFile_v _ _)) (Ev.pos hp ?_))))
      rw [w64 (by omega) (by omega)]
      exact hr
    · intro i hi hp
      refine Ev.down ?_
      simp only [laws_eqFileS.l0]
      rw [rdF_nat, rdF_nat]
      exact Ev.pos (by omega) (Ev.pos (by omega) (Ev.pos (by omega) (Ev.bind (Ev.con (eqFile_v _ _)) (Ev.neg (by rw [hp]; simp) (Ev.now _)))))
    · rw [Bool.eq_iff_iff, allFrom_iff, decide_eq_true_eq]
      constructor
      · intro hh
        refine List.ext_getElem h (fun i h1 h2 => ?_)
        have := of_decide_eq_true (hh i (by omega) (by omega))
        rwa [getD_of_lt h1, getD_of_lt h2] at this
      · rintro rfl j - -
        simp
  · refine Ev.neg (by omega) (Ev.eq ?_)
    symm
    rw [decide_eq_false_iff_not]
    exact fun e => h (by rw [e])

-- laws_eqDepS
theorem eqDep_v (x y : Dp) : laws_eqDep.f x.f0 x.f1 y.f0 y.f1 = some (decide (x = y)) := by
  obtain ⟨a, b⟩ := x
  obtain ⟨d, e⟩ := y
  unfold laws_eqDep.f
  by_cases h1 : a = d
  · rw [if_pos h1]
    by_cases h2 : b = e
    · rw [if_pos h2, decide_eq_true (by rw [h1, h2])]
    · rw [if_neg h2, decide_eq_false (fun h => h2 (S73.mk.inj h).2)]
  · rw [if_neg h1, decide_eq_false (fun h => h1 (S73.mk.inj h).1)]
theorem eqDepS_v (a b : List Dp) (hl : a.length ≤ 17592186044416) : Ev (fun k => laws_eqDepS.f k a b) (decide (a = b)) := by
  unfold laws_eqDepS.f
  by_cases h : a.length = b.length
  · refine Ev.pos (by omega) ?_
    refine Ev.re (check_loop (F := fun k i => laws_eqDepS.l0 k a b i) (p := fun i => decide (a.getD i z73 = b.getD i z73)) (n := a.length) ?_ ?_ ?_ a.length 0 (by omega)) ?_
    · refine Ev.down ?_
      simp only [laws_eqDepS.l0]
      exact Ev.neg (by omega) (Ev.now _)
    · intro i hi hp r hr
      refine Ev.down ?_
      simp only [laws_eqDepS.l0]
      rw [rdD_nat, rdD_nat]
      refine Ev.pos (by omega) (Ev.pos (by omega) (Ev.pos (by omega) (Ev.bind (Ev.con (eqDep_v _ _)) (Ev.pos hp ?_))))
      rw [w64 (by omega) (by omega)]
      exact hr
    · intro i hi hp
      refine Ev.down ?_
      simp only [laws_eqDepS.l0]
      rw [rdD_nat, rdD_nat]
      exact Ev.pos (by omega) (Ev.pos (by omega) (Ev.pos (by omega) (Ev.bind (Ev.con (eqDep_v _ _)) (Ev.neg (by rw [hp]; simp) (Ev.now _)))))
    · rw [Bool.eq_iff_iff, allFrom_iff, decide_eq_true_eq]
      constructor
      · intro hh
        refine List.ext_getElem h (fun i h1 h2 => ?_)
        have := of_decide_eq_true (hh i (by omega) (by omega))
        rwa [getD_of_lt h1, getD_of_lt h2] at this
      · rintro rfl j - -
        simp
  · refine Ev.neg (by omega) (Ev.eq ?_)
    symm
    rw [decide_eq_false_iff_not]
    exact fun e => h (by rw [e])

-- laws_eqPkg
theorem eqPkg_v (a b : Int) (fs : List Fl) (ds : List Dp) (a' b' : Int) (fs' : List Fl) (ds' : List Dp) (hf : fs.length ≤ 17592186044416) (hd : ds.length ≤ 17592186044416) : Ev (fun k => laws_eqPkg.f k a b fs ds a' b' fs' ds') (decide (a = a' ∧ b = b' ∧ fs = fs' ∧ ds = ds')) := by
  unfold laws_eqPkg.f
  by_cases h1 : a = a'
  · refine Ev.pos h1 ?_
    by_cases h2 : b = b'
    · refine Ev.pos h2 (Ev.bind (eqFileS_v fs fs' hf) ?_)
      by_cases h3 : fs = fs'
      · refine Ev.pos (decide_eq_true h3) (Ev.bind (eqDepS_v ds ds' hd) ?_)
        by_cases h4 : ds = ds'
        · exact Ev.pos (decide_eq_true h4) (Ev.eq (by simp [h1, h2, h3, h4]))
        · exact Ev.neg (by simpa using h4) (Ev.eq (by simp [h4]))
      · exact Ev.neg (by simpa using h3) (Ev.eq (by simp [h3]))
    · exact Ev.neg h2 (Ev.eq (by simp [h2]))
  · exact Ev.neg h1 (Ev.eq (by simp [h1]))

-- laws_markIndex
/-! Numbers laid into an index's rows, and read again. -/
def numM : Int → List Mt → List Mt
  | _, [] => []
  | k, _ :: fs => ⟨k, k + 1, k + 2⟩ :: numM (k + 3) fs
theorem setM_mid {α : Type} (pre : List α) (a b : α) (rest : List α) : (pre ++ a :: rest).set pre.length b = pre ++ b :: rest := by
  rw [List.set_append_right _ _ (Nat.le_refl _), Nat.sub_self, List.set_cons_zero]
theorem getM_mid {α : Type} (pre : List α) (a d : α) (rest : List α) : (pre ++ a :: rest).getD pre.length d = a := by
  rw [List.getD_eq_getElem?_getD, List.getElem?_append_right (Nat.le_refl _), Nat.sub_self]; rfl
theorem markM_loop : ∀ (rest pre : List Mt) (x : Int), 0 ≤ x → x + 3 * rest.length ≤ 1000000000 → pre.length + rest.length ≤ 1000000000 → Ev (fun k => laws_markMetaS.l0 k (pre ++ rest) x (pre.length : Int)) (x + 3 * rest.length, pre ++ numM x rest)
  | [], pre, x, _, _, _ => by
    refine Ev.down ?_
    simp only [laws_markMetaS.l0]
    exact Ev.neg (by simp) (Ev.eq (by simp [numM]))
  | f :: rest, pre, x, h0, h1, h2 => by
    rw [List.length_cons] at h1 h2
    have ih := markM_loop rest (pre ++ [⟨x, x + 1, x + 2⟩]) (x + 3) (by omega) (by omega) (by rw [List.length_append, List.length_singleton]; omega)
    rw [List.append_assoc, List.singleton_append, List.length_append, List.length_singleton, List.append_assoc, List.singleton_append] at ih
    refine Ev.down ?_
    simp only [laws_markMetaS.l0]
    rw [w64 (n := (pre.length : Int) + 1) (by omega) (by omega), w64 (n := x + 1) (by omega) (by omega), w64 (n := x + 1 + 1) (by omega) (by omega), w64 (n := x + 1 + 1 + 1) (by omega) (by omega), Int.toNat_natCast]
    refine Ev.pos (by rw [List.length_append, List.length_cons]; omega) (Ev.pos (by omega) (Ev.bind (Ev.now _) (Ev.bind (Ev.now _) ?_)))
    rw [rdM_nat, getM_mid, setM_mid, rdM_nat, getM_mid, setM_mid, rdM_nat, getM_mid, setM_mid, show x + 1 + 1 = x + 2 by omega, show x + 2 + 1 = x + 3 by omega]
    exact Ev.re ih (by rw [numM, List.length_cons, show x + 3 + 3 * (rest.length : Int) = x + 3 * ((rest.length + 1 : Nat) : Int) by omega])
theorem markIndex_v (n u : Int) (ms : List Mt) (hm : ms.length ≤ 100000000) : Ev (fun k => laws_markIndex.f k n u ms 1) (1 + 3 * ms.length, numM 1 ms) := by
  unfold laws_markIndex.f laws_markMetaS.f
  exact Ev.bind (markM_loop ms [] 1 (by omega) (by omega) (by simp; omega)) (Ev.now _)

-- laws_markPkg
/-! Numbers laid into a package's rows, and read again. -/
def numF : Int → List Fl → List Fl
  | _, [] => []
  | k, _ :: fs => ⟨k, k + 1⟩ :: numF (k + 2) fs
def numD : Int → List Dp → List Dp
  | _, [] => []
  | k, _ :: ds => ⟨k, k + 1⟩ :: numD (k + 2) ds
theorem numF_len : ∀ (k : Int) (l : List Fl), (numF k l).length = l.length
  | _, [] => rfl
  | k, _ :: fs => by simp only [numF, List.length_cons, numF_len (k + 2) fs]
theorem numD_len : ∀ (k : Int) (l : List Dp), (numD k l).length = l.length
  | _, [] => rfl
  | k, _ :: fs => by simp only [numD, List.length_cons, numD_len (k + 2) fs]
theorem set_mid {α : Type} (pre : List α) (a b : α) (rest : List α) : (pre ++ a :: rest).set pre.length b = pre ++ b :: rest := by
  rw [List.set_append_right _ _ (Nat.le_refl _), Nat.sub_self, List.set_cons_zero]
theorem getD_mid {α : Type} (pre : List α) (a d : α) (rest : List α) : (pre ++ a :: rest).getD pre.length d = a := by
  rw [List.getD_eq_getElem?_getD, List.getElem?_append_right (Nat.le_refl _), Nat.sub_self]; rfl
theorem markF_loop : ∀ (rest pre : List Fl) (x : Int), 0 ≤ x → x + 2 * rest.length ≤ 1000000000 → pre.length + rest.length ≤ 1000000000 → Ev (fun k => laws_markFileS.l0 k (pre ++ rest) x (pre.length : Int)) (x + 2 * rest.length, pre ++ numF x rest)
  | [], pre, x, _, _, _ => by
    refine Ev.down ?_
    simp only [laws_markFileS.l0]
    exact Ev.neg (by simp) (Ev.eq (by simp [numF]))
  | f :: rest, pre, x, h0, h1, h2 => by
    rw [List.length_cons] at h1 h2
    have ih := markF_loop rest (pre ++ [⟨x, x + 1⟩]) (x + 2) (by omega) (by omega) (by rw [List.length_append, List.length_singleton]; omega)
    rw [List.append_assoc, List.singleton_append, List.length_append, List.length_singleton, List.append_assoc, List.singleton_append] at ih
    refine Ev.down ?_
    simp only [laws_markFileS.l0]
    rw [w64 (n := (pre.length : Int) + 1) (by omega) (by omega), w64 (n := x + 1) (by omega) (by omega), w64 (n := x + 1 + 1) (by omega) (by omega), Int.toNat_natCast, set_mid]
    refine Ev.pos (by rw [List.length_append, List.length_cons]; omega) (Ev.pos (by omega) (Ev.bind (Ev.now _) ?_))
    rw [rdF_nat, getD_mid, rdF_nat, getD_mid, set_mid, show x + 1 + 1 = x + 2 by omega]
    exact Ev.re ih (by rw [numF, List.length_cons, show x + 2 + 2 * (rest.length : Int) = x + 2 * ((rest.length + 1 : Nat) : Int) by omega])
theorem heldF_loop : ∀ (rest pre : List Fl) (x : Int), 0 ≤ x → x + 2 * rest.length ≤ 1000000000 → pre.length + rest.length ≤ 1000000000 → Ev (fun k => laws_heldFileS.l0 k (pre ++ numF x rest) x (pre.length : Int)) (x + 2 * rest.length)
  | [], pre, x, _, _, _ => by
    refine Ev.down ?_
    simp only [laws_heldFileS.l0]
    exact Ev.neg (by simp [numF]) (Ev.eq (by simp))
  | f :: rest, pre, x, h0, h1, h2 => by
    rw [List.length_cons] at h1 h2
    have ih := heldF_loop rest (pre ++ [⟨x, x + 1⟩]) (x + 2) (by omega) (by omega) (by rw [List.length_append, List.length_singleton]; omega)
    rw [List.append_assoc, List.singleton_append, List.length_append, List.length_singleton] at ih
    refine Ev.down ?_
    rw [show numF x (f :: rest) = ⟨x, x + 1⟩ :: numF (x + 2) rest from rfl]
    simp only [laws_heldFileS.l0]
    rw [w64 (n := (pre.length : Int) + 1) (by omega) (by omega), w64 (n := x + 1) (by omega) (by omega), w64 (n := x + 1 + 1) (by omega) (by omega), rdF_nat, getD_mid, show x + 1 + 1 = x + 2 by omega]
    refine Ev.pos (by rw [List.length_append, List.length_cons]; omega) (Ev.pos (by omega) (Ev.pos rfl (Ev.pos rfl ?_)))
    exact Ev.re ih (by rw [List.length_cons]; omega)
theorem markD_loop : ∀ (rest pre : List Dp) (x : Int), 0 ≤ x → x + 2 * rest.length ≤ 1000000000 → pre.length + rest.length ≤ 1000000000 → Ev (fun k => laws_markDepS.l0 k (pre ++ rest) x (pre.length : Int)) (x + 2 * rest.length, pre ++ numD x rest)
  | [], pre, x, _, _, _ => by
    refine Ev.down ?_
    simp only [laws_markDepS.l0]
    exact Ev.neg (by simp) (Ev.eq (by simp [numD]))
  | f :: rest, pre, x, h0, h1, h2 => by
    rw [List.length_cons] at h1 h2
    have ih := markD_loop rest (pre ++ [⟨x, x + 1⟩]) (x + 2) (by omega) (by omega) (by rw [List.length_append, List.length_singleton]; omega)
    rw [List.append_assoc, List.singleton_append, List.length_append, List.length_singleton, List.append_assoc, List.singleton_append] at ih
    refine Ev.down ?_
    simp only [laws_markDepS.l0]
    rw [w64 (n := (pre.length : Int) + 1) (by omega) (by omega), w64 (n := x + 1) (by omega) (by omega), w64 (n := x + 1 + 1) (by omega) (by omega), Int.toNat_natCast, set_mid]
    refine Ev.pos (by rw [List.length_append, List.length_cons]; omega) (Ev.pos (by omega) (Ev.bind (Ev.now _) ?_))
    rw [rdD_nat, getD_mid, rdD_nat, getD_mid, set_mid, show x + 1 + 1 = x + 2 by omega]
    exact Ev.re ih (by rw [numD, List.length_cons, show x + 2 + 2 * (rest.length : Int) = x + 2 * ((rest.length + 1 : Nat) : Int) by omega])
theorem heldD_loop : ∀ (rest pre : List Dp) (x : Int), 0 ≤ x → x + 2 * rest.length ≤ 1000000000 → pre.length + rest.length ≤ 1000000000 → Ev (fun k => laws_heldDepS.l0 k (pre ++ numD x rest) x (pre.length : Int)) (x + 2 * rest.length)
  | [], pre, x, _, _, _ => by
    refine Ev.down ?_
    simp only [laws_heldDepS.l0]
    exact Ev.neg (by simp [numD]) (Ev.eq (by simp))
  | f :: rest, pre, x, h0, h1, h2 => by
    rw [List.length_cons] at h1 h2
    have ih := heldD_loop rest (pre ++ [⟨x, x + 1⟩]) (x + 2) (by omega) (by omega) (by rw [List.length_append, List.length_singleton]; omega)
    rw [List.append_assoc, List.singleton_append, List.length_append, List.length_singleton] at ih
    refine Ev.down ?_
    rw [show numD x (f :: rest) = ⟨x, x + 1⟩ :: numD (x + 2) rest from rfl]
    simp only [laws_heldDepS.l0]
    rw [w64 (n := (pre.length : Int) + 1) (by omega) (by omega), w64 (n := x + 1) (by omega) (by omega), w64 (n := x + 1 + 1) (by omega) (by omega), rdD_nat, getD_mid, show x + 1 + 1 = x + 2 by omega]
    refine Ev.pos (by rw [List.length_append, List.length_cons]; omega) (Ev.pos (by omega) (Ev.pos rfl (Ev.pos rfl ?_)))
    exact Ev.re ih (by rw [List.length_cons]; omega)
theorem markPkg_v (n v : Int) (fs : List Fl) (ds : List Dp) (hf : fs.length ≤ 1000) (hd : ds.length ≤ 1000) : Ev (fun k => laws_markPkg.f k n v fs ds 1) (1 + 2 * fs.length + 2 * ds.length, numF 1 fs, numD (1 + 2 * fs.length) ds) := by
  unfold laws_markPkg.f laws_markFileS.f laws_markDepS.f
  exact Ev.bind (markF_loop fs [] 1 (by omega) (by omega) (by simp; omega)) (Ev.bind (markD_loop ds [] (1 + 2 * fs.length) (by omega) (by omega) (by simp; omega)) (Ev.now _))
theorem heldPkg_v (n v : Int) (fs : List Fl) (ds : List Dp) (hf : fs.length ≤ 1000) (hd : ds.length ≤ 1000) : Ev (fun k => laws_heldPkg.f k n v (numF 1 fs) (numD (1 + 2 * fs.length) ds) 1) (1 + 2 * fs.length + 2 * ds.length) := by
  unfold laws_heldPkg.f laws_heldFileS.f laws_heldDepS.f
  exact Ev.bind (heldF_loop fs [] 1 (by omega) (by omega) (by simp; omega)) (Ev.neg (by omega) (Ev.bind (heldD_loop ds [] (1 + 2 * fs.length) (by omega) (by omega) (by simp; omega)) (Ev.neg (by omega) (Ev.now _))))

-- the law
theorem FnExactIndexHas (a b : Int) (l : List LMt) (s : ByteArray) (hl : l.length ≤ 9223372036854775807) (hs : s.size ≤ 140737488351232) : ∃ k, laws_FnExactIndexHas.f k a b l s = some true := by
  refine Ev.rounds (g := fun k => laws_FnExactIndexHas.f k a b l s) ?_
  unfold laws_FnExactIndexHas.f
  by_cases h0 : (s.size : Int) > 1048576
  · exact Ev.pos h0 (Ev.now _)
  · refine Ev.neg h0 (Ev.bind (Ev.con (szIndex_v a b l _ hl (by omega) (by omega))) ?_)
    by_cases h : (l.length : Int) ≤ 1048576
    · rw [if_pos h]
      have hm : (l.map toM).length ≤ 17592186044416 := by rw [List.length_map]; omega
      have hm2 : (l.map toM).length ≤ 1048576 := by rw [List.length_map]; omega
      have T := toIndex_v a b l (by omega)
      obtain ⟨ms, hms⟩ : ∃ ms, ms = l.map toM := ⟨_, rfl⟩
      rw [← hms] at T hm hm2
      obtain ⟨n, v, fs, ds, r, e1, r1⟩ := spec_IndexHas_v a b ms hm s hs
      obtain ⟨n', v', fs', ds', r', e2, r2⟩ := impl_IndexHas_v a b ms hm s
      obtain ⟨rfl, rfl, rfl, rfl, rfl⟩ := IH_one r1 r2
      obtain ⟨lf, ld⟩ := IH_len r1
      have E := eqPkg_v n v fs ds n v fs ds (by omega) (by omega)
      have X := eqIndex_same a b ms hm
      have held := heldPkg_v n v fs ds (by omega) (by omega)
      refine Ev.neg (by omega) (Ev.bind T (Ev.bind e1 (Ev.bind T (Ev.bind e2 (Ev.bind E (Ev.pos (by simp) (Ev.down ?_)))))))
      simp only [laws_FnExactIndexHas.j0]
      refine Ev.neg (by simp) (Ev.bind T (Ev.bind X (Ev.pos rfl (Ev.bind (markIndex_v a b ms (by omega)) (Ev.neg (by dsimp only; omega) (Ev.bind E (Ev.pos (by simp) (Ev.down ?_))))))))
      simp only [laws_FnExactIndexHas.j1]
      refine Ev.neg (by simp) (Ev.bind (markPkg_v n v fs ds (by omega) (by omega)) (Ev.bind held (Ev.neg (by omega) (Ev.pos rfl (Ev.bind T (Ev.bind e2 (Ev.bind E (Ev.pos (by simp) (Ev.down ?_)))))))))
      simp only [laws_FnExactIndexHas.j2]
      exact Ev.neg (by simp) (Ev.bind held (Ev.neg (by omega) (Ev.pos rfl (Ev.now _))))
    · rw [if_neg h]
      exact Ev.pos (by omega) (Ev.now _)

end Go.Proofs.YtkjgnnjcjkphbaaGreatDoor.Pure
