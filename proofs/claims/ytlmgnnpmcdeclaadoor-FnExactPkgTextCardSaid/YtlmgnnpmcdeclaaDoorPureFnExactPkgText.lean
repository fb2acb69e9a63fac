/- What is left of the law FnExactPkgText, proved: the printed function answers true at every argument within the bounds of the statement. No further condition. -/
import Derived.Test.YtlmgnnpmcdeclaaDoorPFnExactPkgTextx2
set_option linter.unusedVariables false
set_option linter.unusedSimpArgs false
namespace Go.Proofs.YtlmgnnpmcdeclaaDoor
/-- The printed row asks for this word by its short name. -/
theorem PrintWords.sized_ints : type_of% @Go.Proofs.YtlmgnnpmcdeclaaDoorW.PrintWords.sized_ints := @Go.Proofs.YtlmgnnpmcdeclaaDoorW.PrintWords.sized_ints
end Go.Proofs.YtlmgnnpmcdeclaaDoor
namespace Go.Proofs.YtlmgnnpmcdeclaaDoor.Pure
open Go.RowKit Go.Proofs.YtlmgnnpmcdeclaaDoor.PFnExactPkgText Go.Proofs.YtlmgnnpmcdeclaaDoorW.PrintWords Go.Proofs.YtlmgnnpmcdeclaaDoorW.PrintLast Go.Proofs.YtlmgnnpmcdeclaaDoorW.PrintMore

-- ev
/-! Ways to reckon a printed function from some number of rounds on. -/
theorem Ev.pos {α : Type} {c : Prop} {d : Decidable c} {f g : Nat → Option α} {r : α} (h : c) (e : Ev f r) : Ev (fun k => if c then f k else g k) r := Ev.congr (fun _ => if_pos h) e
theorem Ev.neg {α : Type} {c : Prop} {d : Decidable c} {f g : Nat → Option α} {r : α} (h : ¬ c) (e : Ev g r) : Ev (fun k => if c then f k else g k) r := Ev.congr (fun _ => if_neg h) e
theorem Ev.con {α : Type} {x : Option α} {r : α} (h : x = some r) : Ev (fun _ => x) r := ⟨0, fun _ _ => h⟩
theorem Ev.eq {α : Type} {r r' : α} (h : r' = r) : Ev (fun _ => some r') r := ⟨0, fun _ _ => by rw [h]⟩
theorem Ev.re {α : Type} {g : Nat → Option α} {r r' : α} (e : Ev g r') (h : r' = r) : Ev g r := h ▸ e
theorem Ev.down {α : Type} {g : Nat → Option α} {r : α} (e : Ev (fun k => g (k + 1)) r) : Ev g r := Ev.step (fun _ => rfl) e
theorem Ev.one {α : Type} {g : Nat → Option α} {r r' : α} (a : Ev g r) (b : Ev g r') : r = r' := by
  obtain ⟨K, a⟩ := a
  obtain ⟨K', b⟩ := b
  have h := a (K + K') (by omega)
  rw [b (K + K') (by omega)] at h
  exact (Option.some.inj h).symm
theorem w64 {n : Int} (h0 : -9223372036854775808 ≤ n) (h1 : n ≤ 9223372036854775807) : wrap64 n = n := by unfold wrap64; omega
/-- p of i, i + 1, .., d of them. -/
def allFrom (p : Nat → Bool) : Nat → Nat → Bool
  | 0, _ => true
  | d + 1, i => p i && allFrom p d (i + 1)
theorem allFrom_iff {p : Nat → Bool} : ∀ {d i : Nat}, allFrom p d i = true ↔ ∀ j, i ≤ j → j < i + d → p j = true
  | 0, i => by simp only [allFrom, true_iff]; intro j h1 h2; omega
  | d + 1, i => by
    simp only [allFrom, Bool.and_eq_true, allFrom_iff (d := d)]
    constructor
    · intro h j h1 h2
      rcases Nat.eq_or_lt_of_le h1 with e | e
      · exact e ▸ h.1
      · exact h.2 j e (by omega)
    · intro h
      exact ⟨h i (Nat.le_refl _) (by omega), fun j h1 h2 => h j (by omega) (by omega)⟩
theorem allFrom_congr {p q : Nat → Bool} : ∀ {d i : Nat}, (∀ j, i ≤ j → j < i + d → p j = q j) → allFrom p d i = allFrom q d i
  | 0, _, _ => rfl
  | d + 1, i, h => by
    simp only [allFrom]
    rw [h i (Nat.le_refl _) (by omega), allFrom_congr (fun j h1 h2 => h j (by omega) (by omega))]
/-- A loop that looks whether p holds at each place. -/
theorem check_loop {F : Nat → Int → Option Bool} {p : Nat → Bool} {n : Nat} (hend : Ev (fun k => F k (n : Int)) true)
    (hgo : ∀ i : Nat, i < n → p i = true → ∀ r, Ev (fun k => F k ((i + 1 : Nat) : Int)) r → Ev (fun k => F k (i : Int)) r)
    (hno : ∀ i : Nat, i < n → p i = false → Ev (fun k => F k (i : Int)) false) : ∀ d i : Nat, i + d = n → Ev (fun k => F k (i : Int)) (allFrom p d i)
  | 0, i, h => by
    obtain rfl : i = n := by omega
    exact hend
  | d + 1, i, h => by
    simp only [allFrom]
    cases hp : p i with
    | true => exact hgo i (by omega) hp _ (check_loop hend hgo hno d (i + 1) (by omega))
    | false => exact hno i (by omega) hp
/-- A loop that goes on from place to place. -/
theorem step_loop {α : Type} {F : Nat → Int → Option α} {R : Nat → α} {n : Nat} (hend : Ev (fun k => F k (n : Int)) (R n))
    (hgo : ∀ i : Nat, i < n → Ev (fun k => F k ((i + 1 : Nat) : Int)) (R (i + 1)) → Ev (fun k => F k (i : Int)) (R i)) : ∀ d i : Nat, i + d = n → Ev (fun k => F k (i : Int)) (R i)
  | 0, i, h => by
    obtain rfl : i = n := by omega
    exact hend
  | d + 1, i, h => hgo i (by omega) (step_loop hend hgo d (i + 1) (by omega))
theorem rd_nat (l : List Int) (i : Nat) : rd l (i : Int) = l.getD i 0 := by unfold rd; rw [Int.toNat_natCast]
theorem getD_of_lt {α : Type} {l : List α} {i : Nat} {d : α} (h : i < l.length) : l.getD i d = l[i] := by simp [List.getD, h]
theorem notGe (a b : Int) : (!decide (a ≥ b)) = decide (a < b) := by rw [Bool.eq_iff_iff]; simp
theorem notLe (a b : Int) : (!decide (b ≤ a)) = decide (a < b) := by rw [Bool.eq_iff_iff]; simp

-- metam0
def inB (n a b : Int) : Bool := decide (a ≤ n) && decide (n ≤ b)
theorem inB_iff {n a b : Int} : inB n a b = true ↔ a ≤ n ∧ n ≤ b := by unfold inB; rw [Bool.and_eq_true, decide_eq_true_eq, decide_eq_true_eq]
def lessB (n v m w : Int) : Bool := decide (n < m) || decide (n = m) && decide (v < w)
theorem lessB_iff {n v m w : Int} : lessB n v m w = true ↔ n < m ∨ n = m ∧ v < w := by unfold lessB; simp only [Bool.or_eq_true, Bool.and_eq_true, decide_eq_true_eq]

-- pkgm
/-! Packages: files and what is needed. -/
abbrev Fl := S63
abbrev Dp := S66
instance : DecidableEq S63 := fun x y => decidable_of_iff (x.f0 = y.f0 ∧ x.f1 = y.f1) (by obtain ⟨a, b⟩ := x; obtain ⟨d, e⟩ := y; simp)
instance : DecidableEq S66 := fun x y => decidable_of_iff (x.f0 = y.f0 ∧ x.f1 = y.f1) (by obtain ⟨a, b⟩ := x; obtain ⟨d, e⟩ := y; simp)
theorem rdF_nat (l : List Fl) (i : Nat) : rd_T63 l (i : Int) = l.getD i z63 := by unfold rd_T63; rw [Int.toNat_natCast]
theorem rdD_nat (l : List Dp) (i : Nat) : rd_T66 l (i : Int) = l.getD i z66 := by unfold rd_T66; rw [Int.toNat_natCast]
def fileOk1 (l : List Fl) (i : Nat) : Bool := inB (l.getD i z63).f0 0 5 && (inB (l.getD i z63).f1 0 9 && (i == 0 || decide ((l.getD (i - 1) z63).f0 < (l.getD i z63).f0)))
def depOk1 (name : Int) (l : List Dp) (i : Nat) : Bool := inB (l.getD i z66).f0 1 4 && (!decide ((l.getD i z66).f0 = name) && (inB (l.getD i z66).f1 1 5 && (i == 0 || decide ((l.getD (i - 1) z66).f0 < (l.getD i z66).f0))))
def filesOk (l : List Fl) : Bool := allFrom (fileOk1 l) l.length 0 && decide (l.length ≤ 2)
def depsOk (name : Int) (l : List Dp) : Bool := allFrom (depOk1 name l) l.length 0 && decide (l.length ≤ 2)
def pkgOk (n v : Int) (fs : List Fl) (ds : List Dp) : Bool := inB n 1 4 && (inB v 1 5 && (filesOk fs && depsOk n ds))

-- settake
theorem set_map_take {α β : Type} (g : α → β) (l : List α) (z : β) (i : Nat) (hi : i < l.length) : ((l.take i).map g ++ List.replicate (l.length - i) z).set i (g l[i]) = (l.take (i + 1)).map g ++ List.replicate (l.length - (i + 1)) z := by
  apply List.ext_getElem
  · simp only [List.length_set, List.length_append, List.length_map, List.length_take, List.length_replicate]; omega
  · intro j h1 h2
    simp only [List.length_set, List.length_append, List.length_map, List.length_take, List.length_replicate] at h1
    rw [List.getElem_set]
    by_cases hij : i = j
    · subst hij
      rw [if_pos rfl, List.getElem_append_left (by simp; omega)]
      simp
    · rw [if_neg hij]
      by_cases hlt : j < i
      · rw [List.getElem_append_left (by simp; omega), List.getElem_append_left (by simp; omega)]; simp
      · rw [List.getElem_append_right (by simp; omega), List.getElem_append_right (by simp; omega)]; simp

-- laws_toFileS
abbrev LFl := S96
def toF (x : LFl) : Fl := ⟨x.f0, x.f1⟩
theorem toFileS_v (l : List LFl) (hl : l.length ≤ 1048577) : Ev (fun k => laws_toFileS.f k l) (l.map toF) := by
  unfold laws_toFileS.f
  refine Ev.pos (by omega) (Ev.pos (by omega) ?_)
  rw [Int.toNat_natCast]
  have := step_loop (F := fun k i => laws_toFileS.l0 k l ((l.take i.toNat).map toF ++ List.replicate (l.length - i.toNat) z63) i) (R := fun _ => l.map toF) (n := l.length) ?_ ?_ l.length 0 (by omega)
  · simpa using this
  · refine Ev.down ?_
    simp only [laws_toFileS.l0]
    refine Ev.neg (by omega) ?_
    simp only [Int.toNat_natCast, List.take_length, Nat.sub_self, List.replicate_zero, List.append_nil]
    exact Ev.now _
  · intro i hi hr
    refine Ev.down ?_
    simp only [laws_toFileS.l0]
    refine Ev.pos (by omega) (Ev.pos (by omega) (Ev.bind (Ev.con rfl) (Ev.pos (by simp only [Int.toNat_natCast, List.length_append, List.length_map, List.length_take, List.length_replicate]; omega) ?_)))
    rw [w64 (by omega) (by omega)]
    simp only [Int.toNat_natCast] at hr ⊢
    have e := set_map_take toF l z63 i hi
    have e2 : toF l[i] = ⟨(rd_T96 l i).f0, (rd_T96 l i).f1⟩ := by
      unfold rd_T96
      rw [Int.toNat_natCast, getD_of_lt hi]; rfl
    rw [e2] at e
    rw [e]
    exact hr
theorem szFileS_v (l : List S96) (left : Int) (hl : l.length ≤ 9223372036854775807) (h0 : 0 ≤ left) (h1 : left ≤ 1048576) : laws_szFileS.f l left = some (if (l.length : Int) ≤ left then left - l.length else -1) := by
  unfold laws_szFileS.f
  rw [w64 (by omega) (by omega)]
  by_cases h : (l.length : Int) ≤ left
  · rw [if_neg (by omega), if_pos h]
  · rw [if_pos (by omega), if_neg h]

-- laws_toDepS
abbrev LDp := S98
def toD (x : LDp) : Dp := ⟨x.f0, x.f1⟩
theorem toDepS_v (l : List LDp) (hl : l.length ≤ 1048577) : Ev (fun k => laws_toDepS.f k l) (l.map toD) := by
  unfold laws_toDepS.f
  refine Ev.pos (by omega) (Ev.pos (by omega) ?_)
  rw [Int.toNat_natCast]
  have := step_loop (F := fun k i => laws_toDepS.l0 k l ((l.take i.toNat).map toD ++ List.replicate (l.length - i.toNat) z66) i) (R := fun _ => l.map toD) (n := l.length) ?_ ?_ l.length 0 (by omega)
  · simpa using this
  · refine Ev.down ?_
    simp only [laws_toDepS.l0]
    refine Ev.neg (by omega) ?_
    simp only [Int.toNat_natCast, List.take_length, Nat.sub_self, List.replicate_zero, List.append_nil]
    exact Ev.now _
  · intro i hi hr
    refine Ev.down ?_
    simp only [laws_toDepS.l0]
    refine Ev.pos (by omega) (Ev.pos (by omega) (Ev.bind (Ev.con rfl) (Ev.pos (by simp only [Int.toNat_natCast, List.length_append, List.length_map, List.length_take, List.length_replicate]; omega) ?_)))
    rw [w64 (by omega) (by omega)]
    simp only [Int.toNat_natCast] at hr ⊢
    have e := set_map_take toD l z66 i hi
    have e2 : toD l[i] = ⟨(rd_T98 l i).f0, (rd_T98 l i).f1⟩ := by
      unfold rd_T98
      rw [Int.toNat_natCast, getD_of_lt hi]; rfl
    rw [e2] at e
    rw [e]
    exact hr
theorem szDepS_v (l : List S98) (left : Int) (hl : l.length ≤ 9223372036854775807) (h0 : 0 ≤ left) (h1 : left ≤ 1048576) : laws_szDepS.f l left = some (if (l.length : Int) ≤ left then left - l.length else -1) := by
  unfold laws_szDepS.f
  rw [w64 (by omega) (by omega)]
  by_cases h : (l.length : Int) ≤ left
  · rw [if_neg (by omega), if_pos h]
  · rw [if_pos (by omega), if_neg h]

-- laws_szPkg
theorem szPkg_v (a b : Int) (fs : List LFl) (ds : List LDp) (left : Int) (hf : fs.length ≤ 9223372036854775807) (hd : ds.length ≤ 9223372036854775807) (h0 : 0 ≤ left) (h1 : left ≤ 1048576) : laws_szPkg.f a b fs ds left = some (if (fs.length : Int) ≤ left ∧ (ds.length : Int) ≤ left - fs.length then left - fs.length - ds.length else -1) := by
  unfold laws_szPkg.f
  rw [szFileS_v fs left hf h0 h1, Option.bind_some]
  by_cases h : (fs.length : Int) ≤ left
  · rw [if_pos h, if_neg (by omega), szDepS_v ds _ hd (by omega) (by omega), Option.bind_some]
    by_cases h2 : (ds.length : Int) ≤ left - fs.length
    · rw [if_pos h2, if_neg (by omega), if_pos ⟨h, h2⟩]
    · rw [if_neg h2, if_pos (by omega), if_neg (fun e => h2 e.2)]
  · rw [if_neg h, if_pos (by omega), if_neg (fun e => h e.1)]

-- laws_toPkg
theorem toPkg_v (a b : Int) (fs : List LFl) (ds : List LDp) (hf : fs.length ≤ 1048577) (hd : ds.length ≤ 1048577) : Ev (fun k => laws_toPkg.f k a b fs ds) (a, b, fs.map toF, ds.map toD) := by
  unfold laws_toPkg.f
  exact Ev.bind (toFileS_v fs hf) (Ev.bind (toDepS_v ds hd) (Ev.now _))

-- laws_eqFileS
theorem eqFile_v (x y : Fl) : laws_eqFile.f x.f0 x.f1 y.f0 y.f1 = some (decide (x = y)) := by
  obtain ⟨a, b⟩ := x
  obtain ⟨d, e⟩ := y
  unfold laws_eqFile.f
  by_cases h1 : a = d
  · rw [if_pos h1]
    by_cases h2 : b = e
    · rw [if_pos h2, decide_eq_true (by rw [h1, h2])]
    · rw [if_neg h2, decide_eq_false (fun h => h2 (S63.mk.inj h).2)]
  · rw [if_neg h1, decide_eq_false (fun h => h1 (S63.mk.inj h).1)]
theorem eqFileS_v (a b : List Fl) (hl : a.length ≤ 17592186044416) : Ev (fun k => laws_eqFileS.f k a b) (decide (a = b)) := by
  unfold laws_eqFileS.f
  by_cases h : a.length = b.length
  · refine Ev.pos (by omega) ?_
    refine Ev.re (check_loop (F := fun k i => laws_eqFileS.l0 k a b i) (p := fun i => decide (a.getD i z63 = b.getD i z63)) (n := a.length) ?_ ?_ ?_ a.length 0 (by omega)) ?_
    · refine Ev.down ?_
      simp only [laws_eqFileS.l0]
      exact Ev.neg (by omega) (Ev.now _)
    · intro i hi hp r hr
      refine Ev.down ?_
      simp only [laws_eqFileS.l0]
      rw [rdF_nat, rdF_nat]
      refine Ev.pos (by omega) (Ev.pos (by omega) (Ev.pos (by omega) (Ev.bind (Ev.con (eqFile_v _ _)) (Ev.pos hp ?_))))
      rw [w64 (by omega) (by omega)]
      exact hr
    · intro i hi hp
      refine Ev.down ?_
      simp only [laws_eqFileS.l0]
      rw [rdF_nat, rdF_nat]
      exact Ev.pos (by omega) (Ev.pos (by omega) (Ev.pos (by omega) (Ev.bind (Ev.con (eqFile_v _ _)) (Ev.neg (by rw [hp]; simp) (Ev.now _)))))
    · rw [Bool.eq_iff_iff, allFrom_iff, decide_eq_true_eq]
      constructor
      · intro hh
        refine List.ext_getElem h (fun i h1 h2 => ?_)
        have := of_decide_eq_true (hh i (by omega) (by omega))
        rwa [getD_of_lt h1, getD_of_lt h2] at this
      · rintro rfl j - -
        simp
  · refine Ev.neg (by omega) (Ev.eq ?_)
    symm
    rw [decide_eq_false_iff_not]
    exact fun e => h (by rw [e])

-- laws_eqDepS
theorem eqDep_v (x y : Dp) : laws_eqDep.f x.f0 x.f1 y.f0 y.f1 = some (decide (x = y)) := by
  obtain ⟨a, b⟩ := x
  obtain ⟨d, e⟩ := y
  unfold laws_eqDep.f
  by_cases h1 : a = d
  · rw [if_pos h1]
    by_cases h2 : b = e
    · rw [if_pos h2, decide_eq_true (by rw [h1, h2])]
    · rw [if_neg h2, decide_eq_false (fun h => h2 (S66.mk.inj h).2)]
  · rw [if_neg h1, decide_eq_false (fun h => h1 (S66.mk.inj h).1)]
theorem eqDepS_v (a b : List Dp) (hl : a.length ≤ 17592186044416) : Ev (fun k => laws_eqDepS.f k a b) (decide (a = b)) := by
  unfold laws_eqDepS.f
  by_cases h : a.length = b.length
  · refine Ev.pos (by omega) ?_
    refine Ev.re (check_loop (F := fun k i => laws_eqDepS.l0 k a b i) (p := fun i => decide (a.getD i z66 = b.getD i z66)) (n := a.length) ?_ ?_ ?_ a.length 0 (by omega)) ?_
    · refine Ev.down ?_
      simp only [laws_eqDepS.l0]
      exact Ev.neg (by omega) (Ev.now _)
    · intro i hi hp r hr
      refine Ev.down ?_
      simp only [laws_eqDepS.l0]
      rw [rdD_nat, rdD_nat]
      refine Ev.pos (by omega) (Ev.pos (by omega) (Ev.pos (by omega) (Ev.bind (Ev.con (eqDep_v _ _)) (Ev.pos hp ?_))))
      rw [w64 (by omega) (by omega)]
      exact hr
    · intro i hi hp
      refine Ev.down ?_
      simp only [laws_eqDepS.l0]
      rw [rdD_nat, rdD_nat]
      exact Ev.pos (by omega) (Ev.pos (by omega) (Ev.pos (by omega) (Ev.bind (Ev.con (eqDep_v _ _)) (Ev.neg (by rw [hp]; simp) (Ev.now _)))))
    · rw [Bool.eq_iff_iff, allFrom_iff, decide_eq_true_eq]
      constructor
      · intro hh
        refine List.ext_getElem h (fun i h1 h2 => ?_)
        have := of_decide_eq_true (hh i (by omega) (by omega))
        rwa [getD_of_lt h1, getD_of_lt h2] at this
      · rintro rfl j - -
        simp
  · refine Ev.neg (by omega) (Ev.eq ?_)
    symm
    rw [decide_eq_false_iff_not]
    exact fun e => h (by rw [e])

-- laws_eqPkg
theorem eqPkg_v (a b : Int) (fs : List Fl) (ds : List Dp) (a' b' : Int) (fs' : List Fl) (ds' : List Dp) (hf : fs.length ≤ 17592186044416) (hd : ds.length ≤ 17592186044416) : Ev (fun k => laws_eqPkg.f k a b fs ds a' b' fs' ds') (decide (a = a' ∧ b = b' ∧ fs = fs' ∧ ds = ds')) := by
  unfold laws_eqPkg.f
  by_cases h1 : a = a'
  · refine Ev.pos h1 ?_
    by_cases h2 : b = b'
    · refine Ev.pos h2 (Ev.bind (eqFileS_v fs fs' hf) ?_)
      by_cases h3 : fs = fs'
      · refine Ev.pos (decide_eq_true h3) (Ev.bind (eqDepS_v ds ds' hd) ?_)
        by_cases h4 : ds = ds'
        · exact Ev.pos (decide_eq_true h4) (Ev.eq (by simp [h1, h2, h3, h4]))
        · exact Ev.neg (by simpa using h4) (Ev.eq (by simp [h4]))
      · exact Ev.neg (by simpa using h3) (Ev.eq (by simp [h3]))
    · exact Ev.neg h2 (Ev.eq (by simp [h2]))
  · exact Ev.neg h1 (Ev.eq (by simp [h1]))

-- strm
/-! Texts as lists of numbers. -/
theorem bytesOf_append (a b : ByteArray) : bytesOf (a ++ b) = bytesOf a ++ bytesOf b := by
  unfold bytesOf
  rw [ByteArray.data_append, Array.toList_append, List.map_append]
theorem bytesOf_str {l : List Int} (h : ∀ x ∈ l, 0 ≤ x ∧ x ≤ 255) : bytesOf (strOfNums l) = l := by
  unfold bytesOf
  rw [strOfNums_data, List.map_map]
  conv => rhs; rw [← List.map_id l]
  apply List.map_congr_left
  intro x hx
  have := h x hx
  simp only [Function.comp, id]
  rw [UInt8.toNat_ofNat_of_lt' (by simp only [UInt8.size]; omega)]
  omega
theorem bytesOf_inj {a b : ByteArray} (h : bytesOf a = bytesOf b) : a = b := by
  unfold bytesOf at h
  apply ByteArray.ext
  apply Array.toList_inj.1
  have inj : ∀ l l' : List UInt8, l.map (fun b => (b.toNat : Int)) = l'.map (fun b => (b.toNat : Int)) → l = l' := by
    intro l
    induction l with
    | nil => intro l' h; cases l' with
      | nil => rfl
      | cons x l' => simp at h
    | cons x l ih =>
      intro l' h
      cases l' with
      | nil => simp at h
      | cons y l' =>
        simp only [List.map_cons, List.cons.injEq] at h
        have : x = y := UInt8.toNat_inj.1 (by omega)
        rw [this, ih l' h.2]
  exact inj _ _ h
theorem bytesOf_range (s : ByteArray) : ∀ x ∈ bytesOf s, 0 ≤ x ∧ x ≤ 255 := by
  intro x hx
  unfold bytesOf at hx
  obtain ⟨b, _, rfl⟩ := List.mem_map.1 hx
  have := b.toNat_lt
  omega
theorem str_bytesOf (s : ByteArray) : strOfNums (bytesOf s) = s := bytesOf_inj (bytesOf_str (bytesOf_range s))
theorem str_append (a b : List Int) : strOfNums a ++ strOfNums b = strOfNums (a ++ b) := by
  apply ByteArray.ext
  apply Array.toList_inj.1
  rw [ByteArray.data_append, Array.toList_append, strOfNums_data, strOfNums_data, strOfNums_data, List.map_append]
theorem str_inj {a b : List Int} (ha : ∀ x ∈ a, 0 ≤ x ∧ x ≤ 255) (hb : ∀ x ∈ b, 0 ≤ x ∧ x ≤ 255) (h : strOfNums a = strOfNums b) : a = b := by
  rw [← bytesOf_str ha, h, bytesOf_str hb]
theorem bytesOf_extract (s : ByteArray) (i j : Nat) : bytesOf (s.extract i j) = ((bytesOf s).take j).drop i := by
  unfold bytesOf
  rw [ByteArray.data_extract, Array.toList_extract, List.extract_eq_take_drop, List.map_take, List.map_drop, List.drop_take]

-- pkgtext
/-- A package's text, number by number. -/
def fileL (f : Fl) : List Int := [32, 48 + f.f0, 58, 48 + f.f1]
def depL (d : Dp) : List Int := [32, 96 + d.f0, 48 + d.f1]
def pkgL (n v : Int) (fs : List Fl) (ds : List Dp) : List Int := [96 + n, 48 + v] ++ (fs.flatMap fileL ++ ds.flatMap depL)
def pkgS (n v : Int) (fs : List Fl) (ds : List Dp) : ByteArray := if pkgOk n v fs ds = true then strOfNums (pkgL n v fs ds) else strOfNums []
theorem str_empty : (⟨#[]⟩ : ByteArray) = strOfNums [] := rfl
/-- What ok numbers are. -/
theorem fileOk_range {l : List Fl} (h : filesOk l = true) : l.length ≤ 2 ∧ ∀ f ∈ l, (0 ≤ f.f0 ∧ f.f0 ≤ 5) ∧ (0 ≤ f.f1 ∧ f.f1 ≤ 9) := by
  unfold filesOk at h
  rw [Bool.and_eq_true, decide_eq_true_eq, allFrom_iff] at h
  refine ⟨h.2, fun f hf => ?_⟩
  obtain ⟨i, hi, rfl⟩ := List.getElem_of_mem hf
  have := h.1 i (Nat.zero_le _) (by omega)
  unfold fileOk1 at this
  rw [getD_of_lt hi] at this
  simp only [Bool.and_eq_true, inB_iff] at this
  exact ⟨this.1, this.2.1⟩
theorem depOk_range {n : Int} {l : List Dp} (h : depsOk n l = true) : l.length ≤ 2 ∧ ∀ d ∈ l, (1 ≤ d.f0 ∧ d.f0 ≤ 4) ∧ (1 ≤ d.f1 ∧ d.f1 ≤ 5) := by
  unfold depsOk at h
  rw [Bool.and_eq_true, decide_eq_true_eq, allFrom_iff] at h
  refine ⟨h.2, fun f hf => ?_⟩
  obtain ⟨i, hi, rfl⟩ := List.getElem_of_mem hf
  have := h.1 i (Nat.zero_le _) (by omega)
  unfold depOk1 at this
  rw [getD_of_lt hi] at this
  simp only [Bool.and_eq_true, inB_iff] at this
  exact ⟨this.1, this.2.2.1⟩
theorem pkgOk_range {n v : Int} {fs : List Fl} {ds : List Dp} (h : pkgOk n v fs ds = true) : (1 ≤ n ∧ n ≤ 4) ∧ (1 ≤ v ∧ v ≤ 5) ∧ (fs.length ≤ 2 ∧ ∀ f ∈ fs, (0 ≤ f.f0 ∧ f.f0 ≤ 5) ∧ (0 ≤ f.f1 ∧ f.f1 ≤ 9)) ∧ (ds.length ≤ 2 ∧ ∀ d ∈ ds, (1 ≤ d.f0 ∧ d.f0 ≤ 4) ∧ (1 ≤ d.f1 ∧ d.f1 ≤ 5)) := by
  unfold pkgOk at h
  simp only [Bool.and_eq_true, inB_iff] at h
  exact ⟨h.1, h.2.1, fileOk_range h.2.2.1, depOk_range h.2.2.2⟩
theorem flat_len {α : Type} (g : α → List Int) (k : Nat) (l : List α) (h : ∀ x ∈ l, (g x).length = k) : (l.flatMap g).length = k * l.length := by
  induction l with
  | nil => simp
  | cons x l ih =>
    rw [List.flatMap_cons, List.length_append, h x (by simp), ih (fun y hy => h y (by simp [hy])), List.length_cons, Nat.mul_succ]; omega
theorem pkgL_len (n v : Int) (fs : List Fl) (ds : List Dp) : (pkgL n v fs ds).length = 2 + 4 * fs.length + 3 * ds.length := by
  unfold pkgL
  rw [List.length_append, List.length_append, flat_len fileL 4 fs (fun _ _ => rfl), flat_len depL 3 ds (fun _ _ => rfl)]
  simp only [List.length_cons, List.length_nil]; omega
theorem pkgS_size (n v : Int) (fs : List Fl) (ds : List Dp) : (pkgS n v fs ds).size ≤ 16 := by
  unfold pkgS
  by_cases h : pkgOk n v fs ds = true
  · have := pkgOk_range h
    rw [if_pos h, strOfNums_size, pkgL_len]; omega
  · rw [if_neg h, strOfNums_size]; simp

-- spec_l6In
theorem l6In_v (a b c : Int) : spec_l6In.f a b c = some (decide (b ≤ a) && decide (a ≤ c)) := by
  unfold spec_l6In.f
  by_cases h : a ≥ b
  · rw [if_pos h]; simp; omega
  · rw [if_neg h]; simp; omega

-- spec_l1Files
theorem l1Files_v (l : List Fl) (hl : l.length ≤ 17592186044416) : Ev (fun k => spec_l1Files.f k l) (filesOk l) := by
  have e : l1f l = filesOk l := by
    unfold l1f filesOk
    have : ∀ d i, okFrom (file1 l) d i = allFrom (fileOk1 l) d i := by
      intro d
      induction d with
      | zero => intro i; rfl
      | succ d ih => intro i; show (_ && _) = (_ && _); rw [ih]; rfl
    rw [this]
  rw [← e]
  exact Ev.now _

-- spec_l1Deps
theorem l1Deps_v (name : Int) (l : List Dp) (hl : l.length ≤ 17592186044416) : Ev (fun k => spec_l1Deps.f k name l) (depsOk name l) := by
  have e : l1d name l = depsOk name l := by
    unfold l1d depsOk
    have : ∀ d i, okFrom (dep1 name l) d i = allFrom (depOk1 name l) d i := by
      intro d
      induction d with
      | zero => intro i; rfl
      | succ d ih => intro i; show (_ && _) = (_ && _); rw [ih]; rfl
    rw [this]
  rw [← e]
  exact Ev.now _

-- spec_PkgOk
theorem spec_PkgOk_v (n v : Int) (fs : List Fl) (ds : List Dp) (hf : fs.length ≤ 17592186044416) (hd : ds.length ≤ 17592186044416) : Ev (fun k => spec_PkgOk.f k n v fs ds) (pkgOk n v fs ds) := by
  have l6In_v : ∀ a b c : Int, spec_l6In.f a b c = some (inB a b c) := l6In_v
  unfold spec_PkgOk.f pkgOk
  refine Ev.bind (Ev.con (l6In_v _ _ _)) ?_
  cases inB n 1 4 with
  | false => exact Ev.neg (by simp) (Ev.now _)
  | true =>
    refine Ev.pos rfl (Ev.bind (Ev.con (l6In_v _ _ _)) ?_)
    cases inB v 1 5 with
    | false => exact Ev.neg (by simp) (Ev.now _)
    | true =>
      refine Ev.pos rfl (Ev.bind (l1Files_v fs hf) ?_)
      cases filesOk fs with
      | false => exact Ev.neg (by simp) (Ev.now _)
      | true => exact Ev.pos rfl (Ev.bind (l1Deps_v n ds hd) (Ev.eq (by simp)))

-- spec_l6Dec
/-- One figure. -/
theorem l6Dec_1 (n : Int) (h0 : 0 ≤ n) (h1 : n ≤ 9) : Ev (fun k => spec_l6Dec.f k n) (strOfNums [48 + n]) := by
  refine Ev.down ?_
  simp only [spec_l6Dec.f]
  refine Ev.neg (by omega) (Ev.neg (by omega) (Ev.pos (by omega) (Ev.eq ?_)))
  rw [w64 (by omega) (by omega), Int.emod_eq_of_lt (by omega) (by omega)]

-- spec_l1Name
theorem l1Name_v (a v : Int) (h0 : 0 ≤ a) (h1 : a ≤ 9) (h2 : 0 ≤ v) (h3 : v ≤ 9) : Ev (fun k => spec_l1Name.f k a v) (strOfNums [96 + a, 48 + v]) := by
  unfold spec_l1Name.f
  refine Ev.bind (f := fun k y => _) (Ev.now _) (Ev.bind (l6Dec_1 v h2 h3) (Ev.pos (by rw [strOfNums_size, strOfNums_size]; simp) (Ev.eq ?_)))
  rw [str_append, w64 (n := 97 + a) (by omega) (by omega), w64 (by omega) (by omega), Int.emod_eq_of_lt (by omega) (by omega), show 97 + a - 1 = 96 + a by omega]
  rfl

-- spec_PkgText
theorem spec_PkgText_v (n v : Int) (fs : List Fl) (ds : List Dp) (hf : fs.length ≤ 17592186044416) (hd : ds.length ≤ 17592186044416) : Ev (fun k => spec_PkgText.f k n v fs ds) (pkgS n v fs ds) := by
  unfold spec_PkgText.f pkgS
  refine Ev.bind (spec_PkgOk_v n v fs ds hf hd) ?_
  cases ok : pkgOk n v fs ds with
  | false => exact Ev.neg (by simp) (Ev.eq rfl)
  | true =>
    obtain ⟨⟨n0, n1⟩, ⟨v0, v1⟩, ⟨lf, rf⟩, ⟨ld, rd_⟩⟩ := pkgOk_range ok
    refine Ev.pos rfl (Ev.bind (l1Name_v n v (by omega) (by omega) (by omega) (by omega)) ?_)
    rw [if_pos rfl]
    have deps : ∀ d i : Nat, i + d = ds.length → ∀ acc : List Int, acc.length ≤ 100 + 3 * i → Ev (fun k => spec_PkgText.l1 k (strOfNums acc) (i : Int) n v fs ds) (strOfNums (acc ++ (ds.drop i).flatMap depL)) := by
      intro d
      induction d with
      | zero =>
        intro i hi acc ha
        refine Ev.down ?_
        simp only [spec_PkgText.l1]
        refine Ev.neg (by omega) (Ev.eq ?_)
        rw [List.drop_of_length_le (by omega)]; simp
      | succ d ih =>
        intro i hi acc ha
        have hil : i < ds.length := by omega
        have hr := ih (i + 1) (by omega) (acc ++ depL ds[i]) (by rw [List.length_append]; simp only [depL, List.length_cons, List.length_nil]; omega)
        obtain ⟨⟨a0, a1⟩, ⟨b0, b1⟩⟩ := rd_ ds[i] (List.getElem_mem _)
        refine Ev.down ?_
        simp only [spec_PkgText.l1]
        rw [rdD_nat, getD_of_lt hil, show (⟨#[32]⟩ : ByteArray) = strOfNums [32] from rfl, str_append]
        refine Ev.pos (by omega) (Ev.pos (by rw [strOfNums_size]; omega) (Ev.pos (by omega) (Ev.bind (l1Name_v _ _ (by omega) (by omega) (by omega) (by omega)) (Ev.pos (by rw [strOfNums_size, strOfNums_size, List.length_append]; simp only [List.length_cons, List.length_nil]; omega) ?_))))
        rw [str_append, w64 (by omega) (by omega), List.drop_eq_getElem_cons hil, List.flatMap_cons, ← List.append_assoc]
        have e : acc ++ [32] ++ [96 + ds[i].f0, 48 + ds[i].f1] = acc ++ depL ds[i] := by simp [depL]
        rw [e]
        exact hr
    have files : ∀ d i : Nat, i + d = fs.length → ∀ acc : List Int, acc.length ≤ 50 + 4 * i → Ev (fun k => spec_PkgText.l0 k (strOfNums acc) (i : Int) n v fs ds) (strOfNums (acc ++ ((fs.drop i).flatMap fileL ++ ds.flatMap depL))) := by
      intro d
      induction d with
      | zero =>
        intro i hi acc ha
        refine Ev.down ?_
        simp only [spec_PkgText.l0]
        refine Ev.neg (by omega) ?_
        rw [List.drop_of_length_le (by omega)]
        have := deps ds.length 0 (by omega) acc (by omega)
        simpa using this
      | succ d ih =>
        intro i hi acc ha
        have hil : i < fs.length := by omega
        have hr := ih (i + 1) (by omega) (acc ++ fileL fs[i]) (by rw [List.length_append]; simp only [fileL, List.length_cons, List.length_nil]; omega)
        obtain ⟨⟨a0, a1⟩, ⟨b0, b1⟩⟩ := rf fs[i] (List.getElem_mem _)
        refine Ev.down ?_
        simp only [spec_PkgText.l0]
        rw [rdF_nat, getD_of_lt hil, show (⟨#[32]⟩ : ByteArray) = strOfNums [32] from rfl, show (⟨#[58]⟩ : ByteArray) = strOfNums [58] from rfl, str_append]
        refine Ev.pos (by omega) (Ev.pos (by rw [strOfNums_size]; omega) (Ev.pos (by omega) (Ev.bind (l6Dec_1 _ (by omega) (by omega)) ?_)))
        rw [str_append, str_append]
        refine Ev.pos (by rw [strOfNums_size, strOfNums_size, List.length_append]; simp only [List.length_cons, List.length_nil]; omega) (Ev.pos (by rw [strOfNums_size, List.length_append, List.length_append]; simp only [List.length_cons, List.length_nil]; omega) (Ev.bind (l6Dec_1 _ (by omega) (by omega)) ?_))
        refine Ev.pos (by rw [strOfNums_size, strOfNums_size]; simp only [List.length_append, List.length_cons, List.length_nil]; omega) ?_
        rw [str_append, w64 (by omega) (by omega), List.drop_eq_getElem_cons hil, List.flatMap_cons]
        have e : acc ++ [32] ++ [48 + fs[i].f0] ++ [58] ++ [48 + fs[i].f1] = acc ++ fileL fs[i] := by simp [fileL]
        rw [e, List.append_assoc (fileL fs[i]), ← List.append_assoc acc]
        exact hr
    exact files fs.length 0 (by omega) [96 + n, 48 + v] (by simp)

-- impl_PkgOk
theorem pkB_eq (n v : Int) (fs : List Fl) (ds : List Dp) : pkB n v fs ds = pkgOk n v fs ds := by
  have eF : ∀ d i, okFrom (pkf1 fs) d i = allFrom (fileOk1 fs) d i := by
    intro d
    induction d with
    | zero => intro i; rfl
    | succ d ih => intro i; show (_ && _) = (_ && _); rw [ih]; rfl
  have eD : ∀ d i, okFrom (pkd1 n ds) d i = allFrom (depOk1 n ds) d i := by
    intro d
    induction d with
    | zero => intro i; rfl
    | succ d ih => intro i; show (_ && _) = (_ && _); rw [ih]; rfl
  unfold pkB pkpre pkgOk filesOk depsOk
  rw [eF, eD]
  show (inB n 1 4 && (inB v 1 5 && (decide (fs.length ≤ 2) && decide (ds.length ≤ 2))) && (allFrom (fileOk1 fs) fs.length 0 && allFrom (depOk1 n ds) ds.length 0)) = _
  cases inB n 1 4 <;> cases inB v 1 5 <;> cases allFrom (fileOk1 fs) fs.length 0 <;> cases allFrom (depOk1 n ds) ds.length 0 <;> cases decide (fs.length ≤ 2) <;> cases decide (ds.length ≤ 2) <;> rfl
theorem impl_PkgOk_v (n v : Int) (fs : List Fl) (ds : List Dp) (hf : fs.length ≤ 17592186044416) (hd : ds.length ≤ 17592186044416) : Ev (fun k => impl_PkgOk.f k n v fs ds) (pkgOk n v fs ds) := by
  rw [← pkB_eq]
  exact Ev.now _

-- impl_PkgText
theorem impl_PkgText_v (n v : Int) (fs : List Fl) (ds : List Dp) : Ev (fun k => impl_PkgText.f k n v fs ds) (pkgS n v fs ds) := by
  have e : ptS n v fs ds = pkgS n v fs ds := by
    unfold ptS pkgS
    rw [pkB_eq]
    rfl
  rw [← e]
  exact Ev.now _

-- the law
theorem FnExactPkgText (a b : Int) (fs : List LFl) (ds : List LDp) (hf : fs.length ≤ 9223372036854775807) (hd : ds.length ≤ 9223372036854775807) : ∃ k, laws_FnExactPkgText.f k a b fs ds = some true := by
  refine Ev.rounds (g := fun k => laws_FnExactPkgText.f k a b fs ds) ?_
  unfold laws_FnExactPkgText.f
  refine Ev.bind (Ev.con (szPkg_v a b fs ds _ hf hd (by omega) (by omega))) ?_
  by_cases h : (fs.length : Int) ≤ 1048576 ∧ (ds.length : Int) ≤ 1048576 - fs.length
  · rw [if_pos h]
    have hm : (fs.map toF).length ≤ 17592186044416 := by rw [List.length_map]; omega
    have hn : (ds.map toD).length ≤ 17592186044416 := by rw [List.length_map]; omega
    refine Ev.neg (by omega) (Ev.bind (toPkg_v a b fs ds (by omega) (by omega)) (Ev.bind (spec_PkgText_v a b _ _ hm hn) ?_))
    refine Ev.bind (toPkg_v a b fs ds (by omega) (by omega)) (Ev.bind (impl_PkgText_v a b _ _) (Ev.pos rfl ?_))
    exact Ev.bind (toPkg_v a b fs ds (by omega) (by omega)) (Ev.bind (eqPkg_v _ _ _ _ _ _ _ _ hm hn) (Ev.pos (by simp) (Ev.now _)))
  · rw [if_neg h]
    exact Ev.pos (by omega) (Ev.now _)

end Go.Proofs.YtlmgnnpmcdeclaaDoor.Pure
