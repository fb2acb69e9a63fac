/- What is left of the law FnPkgLess, proved: the printed function answers true at every argument within the bounds of the statement. No further condition. -/
import Derived.Test.YtkdmgbolbjedfaaPFnPkgLessx5
set_option linter.unusedVariables false
set_option linter.unusedSimpArgs false
namespace Go.Proofs.Ytkdmgbolbjedfaa
/-- The printed row asks for this word by its short name. -/
theorem PrintWords.sized_ints : type_of% @Go.Proofs.YtkdmgbolbjedfaaW.PrintWords.sized_ints := @Go.Proofs.YtkdmgbolbjedfaaW.PrintWords.sized_ints
end Go.Proofs.Ytkdmgbolbjedfaa
namespace Go.Proofs.Ytkdmgbolbjedfaa.Pure
open Go.RowKit Go.Proofs.Ytkdmgbolbjedfaa.PFnPkgLess Go.Proofs.YtkdmgbolbjedfaaW.PrintWords Go.Proofs.YtkdmgbolbjedfaaW.PrintLast Go.Proofs.YtkdmgbolbjedfaaW.PrintMore

-- ev
/-! Ways to reckon a printed function from some number of rounds on. -/
theorem Ev.pos {α : Type} {c : Prop} {d : Decidable c} {f g : Nat → Option α} {r : α} (h : c) (e : Ev f r) : Ev (fun k => if c then f k else g k) r := Ev.congr (fun _ => if_pos h) e
theorem Ev.neg {α : Type} {c : Prop} {d : Decidable c} {f g : Nat → Option α} {r : α} (h : ¬ c) (e : Ev g r) : Ev (fun k => if c then f k else g k) r := Ev.congr (fun _ => if_neg h) e
theorem Ev.con {α : Type} {x : Option α} {r : α} (h : x = some r) : Ev (fun _ => x) r := ⟨0, fun _ _ => h⟩
theorem Ev.eq {α : Type} {r r' : α} (h : r' = r) : Ev (fun _ => some r') r := ⟨0, fun _ _ => by rw [h]⟩
theorem Ev.re {α : Type} {g : Nat → Option α} {r r' : α} (e : Ev g r') (h : r' = r) : Ev g r := h ▸ e
theorem Ev.down {α : Type} {g : Nat → Option α} {r : α} (e : Ev (fun k => g (k + 1)) r) : Ev g r := Ev.step (fun _ => rfl) e
theorem Ev.one {α : Type} {g : Nat → Option α} {r r' : α} (a : Ev g r) (b : Ev g r') : r = r' := by
  obtain ⟨K, a⟩ := a
  obtain ⟨K', b⟩ := b
  have h := a (K + K') (by omega)
  rw [b (K + K') (by omega)] at h
  exact (Option.some.inj h).symm
theorem w64 {n : Int} (h0 : -9223372036854775808 ≤ n) (h1 : n ≤ 9223372036854775807) : wrap64 n = n := by unfold wrap64; omega
/-- p of i, i + 1, .., d of them. -/
def allFrom (p : Nat → Bool) : Nat → Nat → Bool
  | 0, _ => true
  | d + 1, i => p i && allFrom p d (i + 1)
theorem allFrom_iff {p : Nat → Bool} : ∀ {d i : Nat}, allFrom p d i = true ↔ ∀ j, i ≤ j → j < i + d → p j = true
  | 0, i => by simp only [allFrom, true_iff]; intro j h1 h2; omega
  | d + 1, i => by
    simp only [allFrom, Bool.and_eq_true, allFrom_iff (d := d)]
    constructor
    · intro h j h1 h2
      rcases Nat.eq_or_lt_of_le h1 with e | e
      · exact e ▸ h.1
      · exact h.2 j e (by omega)
    · intro h
      exact ⟨h i (Nat.le_refl _) (by omega), fun j h1 h2 => h j (by omega) (by omega)⟩
theorem allFrom_congr {p q : Nat → Bool} : ∀ {d i : Nat}, (∀ j, i ≤ j → j < i + d → p j = q j) → allFrom p d i = allFrom q d i
  | 0, _, _ => rfl
  | d + 1, i, h => by
    simp only [allFrom]
    rw [h i (Nat.le_refl _) (by omega), allFrom_congr (fun j h1 h2 => h j (by omega) (by omega))]
/-- A loop that looks whether p holds at each place. -/
theorem check_loop {F : Nat → Int → Option Bool} {p : Nat → Bool} {n : Nat} (hend : Ev (fun k => F k (n : Int)) true)
    (hgo : ∀ i : Nat, i < n → p i = true → ∀ r, Ev (fun k => F k ((i + 1 : Nat) : Int)) r → Ev (fun k => F k (i : Int)) r)
    (hno : ∀ i : Nat, i < n → p i = false → Ev (fun k => F k (i : Int)) false) : ∀ d i : Nat, i + d = n → Ev (fun k => F k (i : Int)) (allFrom p d i)
  | 0, i, h => by
    obtain rfl : i = n := by omega
    exact hend
  | d + 1, i, h => by
    simp only [allFrom]
    cases hp : p i with
    | true => exact hgo i (by omega) hp _ (check_loop hend hgo hno d (i + 1) (by omega))
    | false => exact hno i (by omega) hp
/-- A loop that goes on from place to place. -/
theorem step_loop {α : Type} {F : Nat → Int → Option α} {R : Nat → α} {n : Nat} (hend : Ev (fun k => F k (n : Int)) (R n))
    (hgo : ∀ i : Nat, i < n → Ev (fun k => F k ((i + 1 : Nat) : Int)) (R (i + 1)) → Ev (fun k => F k (i : Int)) (R i)) : ∀ d i : Nat, i + d = n → Ev (fun k => F k (i : Int)) (R i)
  | 0, i, h => by
    obtain rfl : i = n := by omega
    exact hend
  | d + 1, i, h => hgo i (by omega) (step_loop hend hgo d (i + 1) (by omega))
theorem rd_nat (l : List Int) (i : Nat) : rd l (i : Int) = l.getD i 0 := by unfold rd; rw [Int.toNat_natCast]
theorem getD_of_lt {α : Type} {l : List α} {i : Nat} {d : α} (h : i < l.length) : l.getD i d = l[i] := by simp [List.getD, h]
theorem notGe (a b : Int) : (!decide (a ≥ b)) = decide (a < b) := by rw [Bool.eq_iff_iff]; simp
theorem notLe (a b : Int) : (!decide (b ≤ a)) = decide (a < b) := by rw [Bool.eq_iff_iff]; simp

-- metam0
def inB (n a b : Int) : Bool := decide (a ≤ n) && decide (n ≤ b)
theorem inB_iff {n a b : Int} : inB n a b = true ↔ a ≤ n ∧ n ≤ b := by unfold inB; rw [Bool.and_eq_true, decide_eq_true_eq, decide_eq_true_eq]
def lessB (n v m w : Int) : Bool := decide (n < m) || decide (n = m) && decide (v < w)
theorem lessB_iff {n v m w : Int} : lessB n v m w = true ↔ n < m ∨ n = m ∧ v < w := by unfold lessB; simp only [Bool.or_eq_true, Bool.and_eq_true, decide_eq_true_eq]

-- pkgm
/-! Packages: files and what is needed. -/
abbrev Fl := S82
abbrev Dp := S30
instance : DecidableEq S82 := fun x y => decidable_of_iff (x.f0 = y.f0 ∧ x.f1 = y.f1) (by obtain ⟨a, b⟩ := x; obtain ⟨d, e⟩ := y; simp)
instance : DecidableEq S30 := fun x y => decidable_of_iff (x.f0 = y.f0 ∧ x.f1 = y.f1) (by obtain ⟨a, b⟩ := x; obtain ⟨d, e⟩ := y; simp)
theorem rdF_nat (l : List Fl) (i : Nat) : rd_T82 l (i : Int) = l.getD i z82 := by unfold rd_T82; rw [Int.toNat_natCast]
theorem rdD_nat (l : List Dp) (i : Nat) : rd_T30 l (i : Int) = l.getD i z30 := by unfold rd_T30; rw [Int.toNat_natCast]
def fileOk1 (l : List Fl) (i : Nat) : Bool := inB (l.getD i z82).f0 0 5 && (inB (l.getD i z82).f1 0 9 && (i == 0 || decide ((l.getD (i - 1) z82).f0 < (l.getD i z82).f0)))
def depOk1 (name : Int) (l : List Dp) (i : Nat) : Bool := inB (l.getD i z30).f0 1 4 && (!decide ((l.getD i z30).f0 = name) && (inB (l.getD i z30).f1 1 5 && (i == 0 || decide ((l.getD (i - 1) z30).f0 < (l.getD i z30).f0))))
def filesOk (l : List Fl) : Bool := allFrom (fileOk1 l) l.length 0 && decide (l.length ≤ 2)
def depsOk (name : Int) (l : List Dp) : Bool := allFrom (depOk1 name l) l.length 0 && decide (l.length ≤ 2)
def pkgOk (n v : Int) (fs : List Fl) (ds : List Dp) : Bool := inB n 1 4 && (inB v 1 5 && (filesOk fs && depsOk n ds))

-- pkgless
/-! Ascending: what is left out leaves the rest so. -/
theorem allFrom_getD {α : Type} {R : α → Bool} {Q : α → α → Bool} {l : List α} {z : α} (p : Nat → Bool) (hp : ∀ i, i < l.length → p i = (R (l.getD i z) && (i == 0 || Q (l.getD (i - 1) z) (l.getD i z)))) (hQ : ∀ a b c, Q a b = true → Q b c = true → Q a c = true) :
    allFrom p l.length 0 = true ↔ (∀ x ∈ l, R x = true) ∧ l.Pairwise (fun x y => Q x y = true) := by
  rw [allFrom_iff]
  constructor
  · intro h
    have h' : ∀ i, i < l.length → R (l.getD i z) = true ∧ (i = 0 ∨ Q (l.getD (i - 1) z) (l.getD i z) = true) := by
      intro i hi
      have := h i (Nat.zero_le _) (by omega)
      rw [hp i hi] at this
      simpa using this
    refine ⟨fun x hx => ?_, ?_⟩
    · obtain ⟨i, hi, rfl⟩ := List.getElem_of_mem hx
      have := (h' i hi).1
      rwa [getD_of_lt hi] at this
    · have key : ∀ j i, i < j → j < l.length → Q (l.getD i z) (l.getD j z) = true := by
        intro j
        induction j with
        | zero => intro i h1; omega
        | succ j ih =>
          intro i h1 h2
          have hj := (h' (j + 1) h2).2.resolve_left (by omega)
          simp only [Nat.add_sub_cancel] at hj
          rcases Nat.eq_or_lt_of_le (Nat.le_of_lt_succ h1) with e | e
          · rw [e]; exact hj
          · exact hQ _ _ _ (ih i e (by omega)) hj
      rw [List.pairwise_iff_getElem]
      intro i j hi hj hij
      have := key j i hij hj
      rwa [getD_of_lt hi, getD_of_lt hj] at this
  · rintro ⟨h1, h2⟩ i - hi
    have hi : i < l.length := by omega
    rw [hp i hi, getD_of_lt hi, h1 _ (List.getElem_mem _), Bool.true_and]
    by_cases h0 : i = 0
    · simp [h0]
    · rw [getD_of_lt (show i - 1 < l.length by omega), List.pairwise_iff_getElem.1 h2 (i - 1) i (by omega) hi (by omega)]; simp
theorem filesOk_iff {l : List Fl} : filesOk l = true ↔ ((∀ x ∈ l, (inB x.f0 0 5 && inB x.f1 0 9) = true) ∧ l.Pairwise (fun x y => decide (x.f0 < y.f0) = true)) ∧ l.length ≤ 2 := by
  unfold filesOk
  rw [Bool.and_eq_true, decide_eq_true_eq, allFrom_getD (R := fun x : Fl => inB x.f0 0 5 && inB x.f1 0 9) (Q := fun x y : Fl => decide (x.f0 < y.f0)) (z := z82)]
  · intro i hi
    unfold fileOk1
    rw [Bool.and_assoc]
  · intro a b c h1 h2
    simp only [decide_eq_true_eq] at h1 h2 ⊢
    omega
theorem filesOk_sub {l l' : List Fl} (h : filesOk l = true) (hs : l'.Sublist l) : filesOk l' = true := by
  rw [filesOk_iff] at h ⊢
  exact ⟨⟨fun x hx => h.1.1 x (hs.mem hx), h.1.2.sublist hs⟩, Nat.le_trans hs.length_le h.2⟩
theorem cut_sub {α : Type} (l : List α) (k : Nat) : (l.take k ++ l.drop (k + 1)).Sublist l := by
  have h : l.take k ++ l.drop k = l := List.take_append_drop k l
  have h2 : (l.drop (k + 1)).Sublist (l.drop k) := by
    rw [show k + 1 = k + 1 from rfl, ← List.drop_drop]
    exact List.drop_sublist 1 _
  have h3 := (List.Sublist.refl (l.take k)).append h2
  rwa [h] at h3

-- spec_l6In
theorem l6In_v (a b c : Int) : spec_l6In.f a b c = some (decide (b ≤ a) && decide (a ≤ c)) := by
  unfold spec_l6In.f
  by_cases h : a ≥ b
  · rw [if_pos h]; simp; omega
  · rw [if_neg h]; simp; omega

-- spec_l1Files
theorem l1Files_v (l : List Fl) (hl : l.length ≤ 17592186044416) : Ev (fun k => spec_l1Files.f k l) (filesOk l) := by
  have l6In_v : ∀ a b c : Int, spec_l6In.f a b c = some (inB a b c) := l6In_v
  unfold spec_l1Files.f filesOk
  have yes : ∀ i : Int, Ev (fun k => spec_l1Files.j1 k l i true) false := by
    intro i
    refine Ev.down ?_
    simp only [spec_l1Files.j1]
    exact Ev.pos trivial (Ev.now _)
  have loop : ∀ d i : Nat, i + d = l.length → Ev (fun k => spec_l1Files.l0 k l (i : Int)) (allFrom (fileOk1 l) d i && decide (l.length ≤ 2)) := by
    intro d
    induction d with
    | zero =>
      intro i hi
      refine Ev.down ?_
      simp only [spec_l1Files.l0, allFrom]
      refine Ev.neg (by omega) (Ev.eq ?_)
      rw [Bool.true_and, Bool.eq_iff_iff, decide_eq_true_eq, decide_eq_true_eq]; omega
    | succ d ih =>
      intro i hi
      have hr := ih (i + 1) (by omega)
      have no : ∀ b : Bool, Ev (fun k => spec_l1Files.j1 k l i b) (!b && (allFrom (fileOk1 l) d (i + 1) && decide (l.length ≤ 2))) := by
        intro b
        cases b with
        | true => exact yes _
        | false =>
          refine Ev.down ?_
          simp only [spec_l1Files.j1]
          refine Ev.neg (by simp) ?_
          rw [w64 (by omega) (by omega), Bool.not_false, Bool.true_and]
          exact hr
      refine Ev.down ?_
      simp only [spec_l1Files.l0, allFrom, fileOk1]
      rw [rdF_nat]
      refine Ev.pos (by omega) (Ev.pos (by omega) (Ev.bind (Ev.con (l6In_v _ _ _)) ?_))
      cases inB (l.getD i z82).f0 0 5 with
      | false => exact Ev.neg (by simp) (Ev.re (yes _) (by simp))
      | true =>
        refine Ev.pos rfl (Ev.bind (Ev.con (l6In_v _ _ _)) ?_)
        cases inB (l.getD i z82).f1 0 9 with
        | false => exact Ev.neg (by simp) (Ev.re (yes _) (by simp))
        | true =>
          refine Ev.pos rfl ?_
          by_cases h0 : i = 0
          · refine Ev.neg (by omega) (Ev.re (no _) ?_)
            rw [h0]; simp
          · refine Ev.pos (by omega) ?_
            rw [w64 (n := (i : Int) - 1) (by omega) (by omega)]
            refine Ev.pos (by omega) (Ev.pos (by omega) (Ev.re (no _) ?_))
            rw [show (i : Int) - 1 = ((i - 1 : Nat) : Int) by omega, rdF_nat, show (i == 0) = false by simpa using h0]
            simp only [Bool.true_and, Bool.false_or]
            rw [notGe]
            simp only [Bool.and_assoc]
  exact loop l.length 0 (by omega)

-- spec_l1Deps
theorem l1Deps_v (name : Int) (l : List Dp) (hl : l.length ≤ 17592186044416) : Ev (fun k => spec_l1Deps.f k name l) (depsOk name l) := by
  have l6In_v : ∀ a b c : Int, spec_l6In.f a b c = some (inB a b c) := l6In_v
  unfold spec_l1Deps.f depsOk
  have yes : ∀ i : Int, Ev (fun k => spec_l1Deps.j1 k name l i true) false := by
    intro i
    refine Ev.down ?_
    simp only [spec_l1Deps.j1]
    exact Ev.pos trivial (Ev.now _)
  have loop : ∀ d i : Nat, i + d = l.length → Ev (fun k => spec_l1Deps.l0 k name l (i : Int)) (allFrom (depOk1 name l) d i && decide (l.length ≤ 2)) := by
    intro d
    induction d with
    | zero =>
      intro i hi
      refine Ev.down ?_
      simp only [spec_l1Deps.l0, allFrom]
      refine Ev.neg (by omega) (Ev.eq ?_)
      rw [Bool.true_and, Bool.eq_iff_iff, decide_eq_true_eq, decide_eq_true_eq]; omega
    | succ d ih =>
      intro i hi
      have hr := ih (i + 1) (by omega)
      have no : ∀ b : Bool, Ev (fun k => spec_l1Deps.j1 k name l i b) (!b && (allFrom (depOk1 name l) d (i + 1) && decide (l.length ≤ 2))) := by
        intro b
        cases b with
        | true => exact yes _
        | false =>
          refine Ev.down ?_
          simp only [spec_l1Deps.j1]
          refine Ev.neg (by simp) ?_
          rw [w64 (by omega) (by omega), Bool.not_false, Bool.true_and]
          exact hr
      refine Ev.down ?_
      simp only [spec_l1Deps.l0, allFrom, depOk1]
      rw [rdD_nat]
      refine Ev.pos (by omega) (Ev.pos (by omega) (Ev.bind (Ev.con (l6In_v _ _ _)) ?_))
      cases inB (l.getD i z30).f0 1 4 with
      | false => exact Ev.neg (by simp) (Ev.re (yes _) (by simp))
      | true =>
        refine Ev.pos rfl ?_
        by_cases e : (l.getD i z30).f0 = name
        · exact Ev.pos e (Ev.re (yes _) (by rw [decide_eq_true e]; simp))
        · rw [decide_eq_false e]
          refine Ev.neg e (Ev.bind (Ev.con (l6In_v _ _ _)) ?_)
          cases inB (l.getD i z30).f1 1 5 with
          | false => exact Ev.neg (by simp) (Ev.re (yes _) (by simp))
          | true =>
            refine Ev.pos rfl ?_
            by_cases h0 : i = 0
            · refine Ev.neg (by omega) (Ev.re (no _) ?_)
              rw [h0]; simp
            · refine Ev.pos (by omega) ?_
              rw [w64 (n := (i : Int) - 1) (by omega) (by omega)]
              refine Ev.pos (by omega) (Ev.pos (by omega) (Ev.re (no _) ?_))
              rw [show (i : Int) - 1 = ((i - 1 : Nat) : Int) by omega, rdD_nat, show (i == 0) = false by simpa using h0]
              simp only [Bool.true_and, Bool.false_or, Bool.not_false]
              rw [notGe]
              simp only [Bool.and_assoc]
  exact loop l.length 0 (by omega)

-- spec_PkgOk
theorem spec_PkgOk_v (n v : Int) (fs : List Fl) (ds : List Dp) (hf : fs.length ≤ 17592186044416) (hd : ds.length ≤ 17592186044416) : Ev (fun k => spec_PkgOk.f k n v fs ds) (pkgOk n v fs ds) := by
  have l6In_v : ∀ a b c : Int, spec_l6In.f a b c = some (inB a b c) := l6In_v
  unfold spec_PkgOk.f pkgOk
  refine Ev.bind (Ev.con (l6In_v _ _ _)) ?_
  cases inB n 1 4 with
  | false => exact Ev.neg (by simp) (Ev.now _)
  | true =>
    refine Ev.pos rfl (Ev.bind (Ev.con (l6In_v _ _ _)) ?_)
    cases inB v 1 5 with
    | false => exact Ev.neg (by simp) (Ev.now _)
    | true =>
      refine Ev.pos rfl (Ev.bind (l1Files_v fs hf) ?_)
      cases filesOk fs with
      | false => exact Ev.neg (by simp) (Ev.now _)
      | true => exact Ev.pos rfl (Ev.bind (l1Deps_v n ds hd) (Ev.eq (by simp)))

-- impl_in
theorem in_v (a b c : Int) : impl_in.f a b c = some (decide (b ≤ a) && decide (a ≤ c)) := by
  unfold impl_in.f
  by_cases h : a ≥ b
  · rw [if_pos h]; simp; omega
  · rw [if_neg h]; simp; omega

-- impl_isName
theorem isName_v (a : Int) : impl_isName.f a = some (inB a 1 4) := by unfold impl_isName.f; rw [in_v]; rfl

-- impl_isVer
theorem isVer_v (a : Int) : impl_isVer.f a = some (inB a 1 5) := by unfold impl_isVer.f; rw [in_v]; rfl

-- impl_PkgOk
theorem impl_PkgOk_v (n v : Int) (fs : List Fl) (ds : List Dp) (hf : fs.length ≤ 17592186044416) (hd : ds.length ≤ 17592186044416) : Ev (fun k => impl_PkgOk.f k n v fs ds) (pkgOk n v fs ds) := by
  have in_v : ∀ a b c : Int, impl_in.f a b c = some (inB a b c) := in_v
  have yes0 : Ev (fun k => impl_PkgOk.j0 k true n v fs ds) false := by
    refine Ev.down ?_
    simp only [impl_PkgOk.j0]
    exact Ev.pos trivial (Ev.now _)
  have yes2 : ∀ i : Int, Ev (fun k => impl_PkgOk.j2 k fs fs.length i true n v fs ds) false := by
    intro i
    refine Ev.down ?_
    simp only [impl_PkgOk.j2]
    exact Ev.pos trivial (Ev.now _)
  have yes4 : ∀ i : Int, Ev (fun k => impl_PkgOk.j4 k ds ds.length i true n v fs ds) false := by
    intro i
    refine Ev.down ?_
    simp only [impl_PkgOk.j4]
    exact Ev.pos trivial (Ev.now _)
  have deps : ∀ d i : Nat, i + d = ds.length → Ev (fun k => impl_PkgOk.l1 k ds ds.length (i : Int) n v fs ds) (allFrom (depOk1 n ds) d i) := by
    intro d
    induction d with
    | zero =>
      intro i hi
      refine Ev.down ?_
      simp only [impl_PkgOk.l1, allFrom]
      exact Ev.neg (by omega) (Ev.now _)
    | succ d ih =>
      intro i hi
      have hr := ih (i + 1) (by omega)
      have no : ∀ b : Bool, Ev (fun k => impl_PkgOk.j4 k ds ds.length i b n v fs ds) (!b && allFrom (depOk1 n ds) d (i + 1)) := by
        intro b
        cases b with
        | true => exact yes4 _
        | false =>
          refine Ev.down ?_
          simp only [impl_PkgOk.j4]
          refine Ev.neg (by simp) ?_
          rw [w64 (by omega) (by omega), Bool.not_false, Bool.true_and]
          exact hr
      refine Ev.down ?_
      simp only [impl_PkgOk.l1, allFrom, depOk1]
      rw [rdD_nat]
      refine Ev.pos (by omega) (Ev.pos (by omega) (Ev.pos (by omega) (Ev.bind (Ev.con (isName_v _)) ?_)))
      cases inB (ds.getD i z30).f0 1 4 with
      | false => exact Ev.neg (by simp) (Ev.re (yes4 _) (by simp))
      | true =>
        refine Ev.pos rfl ?_
        by_cases e : (ds.getD i z30).f0 = n
        · exact Ev.pos e (Ev.re (yes4 _) (by rw [decide_eq_true e]; simp))
        · rw [decide_eq_false e]
          refine Ev.neg e (Ev.bind (Ev.con (isVer_v _)) ?_)
          cases inB (ds.getD i z30).f1 1 5 with
          | false => exact Ev.neg (by simp) (Ev.re (yes4 _) (by simp))
          | true =>
            refine Ev.pos rfl ?_
            by_cases h0 : i = 0
            · refine Ev.neg (by omega) (Ev.re (no _) ?_)
              rw [h0]; simp
            · refine Ev.pos (by omega) ?_
              rw [w64 (n := (i : Int) - 1) (by omega) (by omega)]
              refine Ev.pos (by omega) (Ev.pos (by omega) (Ev.re (no _) ?_))
              rw [show (i : Int) - 1 = ((i - 1 : Nat) : Int) by omega, rdD_nat, show (i == 0) = false by simpa using h0]
              simp only [Bool.true_and, Bool.false_or, Bool.not_false]
              rw [notLe]
  have files : ∀ d i : Nat, i + d = fs.length → Ev (fun k => impl_PkgOk.l0 k fs fs.length (i : Int) n v fs ds) (allFrom (fileOk1 fs) d i && allFrom (depOk1 n ds) ds.length 0) := by
    intro d
    induction d with
    | zero =>
      intro i hi
      refine Ev.down ?_
      simp only [impl_PkgOk.l0, allFrom, Bool.true_and]
      exact Ev.neg (by omega) (deps ds.length 0 (by omega))
    | succ d ih =>
      intro i hi
      have hr := ih (i + 1) (by omega)
      have no : ∀ b : Bool, Ev (fun k => impl_PkgOk.j2 k fs fs.length i b n v fs ds) (!b && (allFrom (fileOk1 fs) d (i + 1) && allFrom (depOk1 n ds) ds.length 0)) := by
        intro b
        cases b with
        | true => exact yes2 _
        | false =>
          refine Ev.down ?_
          simp only [impl_PkgOk.j2]
          refine Ev.neg (by simp) ?_
          rw [w64 (by omega) (by omega), Bool.not_false, Bool.true_and]
          exact hr
      refine Ev.down ?_
      simp only [impl_PkgOk.l0, allFrom, fileOk1]
      rw [rdF_nat]
      refine Ev.pos (by omega) (Ev.pos (by omega) (Ev.pos (by omega) (Ev.bind (Ev.con (in_v _ _ _)) ?_)))
      cases inB (fs.getD i z82).f0 0 5 with
      | false => exact Ev.neg (by simp) (Ev.re (yes2 _) (by simp))
      | true =>
        refine Ev.pos rfl (Ev.bind (Ev.con (in_v _ _ _)) ?_)
        cases inB (fs.getD i z82).f1 0 9 with
        | false => exact Ev.neg (by simp) (Ev.re (yes2 _) (by simp))
        | true =>
          refine Ev.pos rfl ?_
          by_cases h0 : i = 0
          · refine Ev.neg (by omega) (Ev.re (no _) ?_)
            rw [h0]; simp
          · refine Ev.pos (by omega) ?_
            rw [w64 (n := (i : Int) - 1) (by omega) (by omega)]
            refine Ev.pos (by omega) (Ev.pos (by omega) (Ev.re (no _) ?_))
            rw [show (i : Int) - 1 = ((i - 1 : Nat) : Int) by omega, rdF_nat, show (i == 0) = false by simpa using h0]
            simp only [Bool.true_and, Bool.false_or]
            rw [notLe]
            simp only [Bool.and_assoc]
  unfold impl_PkgOk.f pkgOk filesOk depsOk
  refine Ev.bind (Ev.con (isName_v _)) ?_
  cases inB n 1 4 with
  | false => exact Ev.neg (by simp) yes0
  | true =>
    refine Ev.pos rfl (Ev.bind (Ev.con (isVer_v _)) ?_)
    cases inB v 1 5 with
    | false => exact Ev.neg (by simp) yes0
    | true =>
      refine Ev.pos rfl ?_
      by_cases h1 : (fs.length : Int) > 2
      · refine Ev.pos h1 (Ev.re yes0 ?_)
        rw [decide_eq_false (show ¬ fs.length ≤ 2 by omega)]; simp
      · refine Ev.neg h1 ?_
        rw [decide_eq_true (show fs.length ≤ 2 by omega)]
        by_cases h2 : (ds.length : Int) > 2
        · rw [decide_eq_true h2, decide_eq_false (show ¬ ds.length ≤ 2 by omega)]
          exact Ev.re yes0 (by simp)
        · rw [decide_eq_false h2, decide_eq_true (show ds.length ≤ 2 by omega)]
          refine Ev.down ?_
          simp only [impl_PkgOk.j0]
          exact Ev.neg (by simp) (Ev.re (files fs.length 0 (by omega)) (by simp))

-- spec_l6Open
/-- Bytes to draw from. -/
def BY (b : List Int) : Prop := (∀ x ∈ b, 0 ≤ x ∧ x ≤ 255) ∧ b.length ≤ 2000
theorem open_v (l : List Int) (hw : ∀ x ∈ l, (Lit.int .u8 x).wf = true) : ∃ b, spec_l6Open.f l = some (b, 0) ∧ BY b := by
  have h : ∀ x ∈ l, 0 ≤ x ∧ x ≤ 255 := by
    intro x hx
    have := hw x hx
    have e1 : IntKind.u8.min = 0 := rfl
    have e2 : IntKind.u8.max = 255 := rfl
    simp [Lit.wf, e1, e2] at this
    omega
  unfold spec_l6Open.f
  by_cases hl : (l.length : Int) > 2000
  · rw [if_pos hl, if_pos (by omega)]
    exact ⟨_, rfl, fun x hx => h x (List.mem_of_mem_take hx), by rw [List.length_take]; omega⟩
  · rw [if_neg hl]
    exact ⟨_, rfl, h, by omega⟩

-- spec_l6Rd_pick
theorem xor_i64 (a b : Nat) (ha : a < 4611686018427387904) (hb : b < 4611686018427387904) : Go.bits .xor .i64 (a : Int) (b : Int) = ((a ^^^ b : Nat) : Int) := by
  have hx : a ^^^ b < 2 ^ 62 := Nat.xor_lt_two_pow (by omega) (by omega)
  have e1 : a % 2 ^ 64 = a := Nat.mod_eq_of_lt (by omega)
  have e2 : b % 2 ^ 64 = b := Nat.mod_eq_of_lt (by omega)
  have e3 : ((BitVec.ofInt 64 (a : Int)) ^^^ (BitVec.ofInt 64 (b : Int))).toNat = a ^^^ b := by
    rw [BitVec.toNat_xor, BitVec.ofInt_natCast, BitVec.ofInt_natCast, BitVec.toNat_ofNat, BitVec.toNat_ofNat, e1, e2]
  show IntKind.i64.wrap (((BitVec.ofInt 64 (a : Int)) ^^^ (BitVec.ofInt 64 (b : Int))).toNat : Int) = _
  rw [e3, IntKind.wrap_i64]
  omega
theorem rd_by {b : List Int} (hb : BY b) (i : Int) : 0 ≤ rd b i ∧ rd b i ≤ 255 := by
  unfold rd
  by_cases h : i.toNat < b.length
  · rw [getD_of_lt h]
    exact hb.1 _ (List.getElem_mem _)
  · rw [show b.getD i.toNat 0 = 0 by simp [List.getD, h]]
    omega
/-- A number is drawn: 0 to n - 1; 0, if there is none. -/
theorem pick_v {b : List Int} (hb : BY b) (p n : Int) (h0 : 0 ≤ p) (h1 : p ≤ 1000000) (hn : n ≤ 1000000000) : ∃ v, Ev (fun k => spec_l6Rd_pick.f k b p n) (v, p + 1) ∧ 0 ≤ v ∧ (v < n ∨ v = 0) := by
  unfold spec_l6Rd_pick.f
  rw [w64 (n := p + 1) (by omega) (by omega)]
  by_cases h : n < 1
  · refine ⟨0, Ev.pos h (Ev.down ?_), by omega, .inr rfl⟩
    simp only [spec_l6Rd_pick.j0]
    exact Ev.pos (by simp) (Ev.now _)
  · have hlen := hb.2
    by_cases hl : b.length = 0
    · refine ⟨0, Ev.neg h (Ev.down ?_), by omega, .inr rfl⟩
      simp only [spec_l6Rd_pick.j0]
      exact Ev.pos (by simp [hl]) (Ev.now _)
    · have e1 : p + 1 - 1 = p := by omega
      have tm : ∀ x : Int, 0 ≤ x → 0 ≤ Int.tmod x n ∧ Int.tmod x n < n := fun x hx => by
        rw [Int.tmod_eq_emod_of_nonneg hx]
        exact ⟨Int.emod_nonneg _ (by omega), Int.emod_lt_of_pos _ (by omega)⟩
      by_cases hlt : p < (b.length : Int)
      · obtain ⟨r1, r2⟩ := rd_by hb p
        obtain ⟨t1, t2⟩ := tm (rd b p) r1
        refine ⟨Int.tmod (rd b p) n, Ev.neg h (Ev.down ?_), t1, .inl t2⟩
        simp only [spec_l6Rd_pick.j0]
        rw [e1, w64 (n := p) (by omega) (by omega), w64 (n := rd b p) (by omega) (by omega)]
        exact Ev.neg (by rw [beq_iff_eq]; omega) (Ev.pos hlt (Ev.pos h0 (Ev.neg (by omega) (Ev.now _))))
      · have lm : ∀ x : Int, 0 ≤ x → 0 ≤ Int.tmod x (b.length : Int) ∧ Int.tmod x (b.length : Int) < (b.length : Int) := fun x hx => by
          rw [Int.tmod_eq_emod_of_nonneg hx]
          exact ⟨Int.emod_nonneg _ (by omega), Int.emod_lt_of_pos _ (by omega)⟩
        obtain ⟨a1, a2⟩ := lm p h0
        obtain ⟨c1, c2⟩ := lm (p * 7 + 3) (by omega)
        obtain ⟨r1, r2⟩ := rd_by hb (Int.tmod p (b.length : Int))
        obtain ⟨s1, s2⟩ := rd_by hb (Int.tmod (p * 7 + 3) (b.length : Int))
        have q1 : 0 ≤ Int.tdiv p (b.length : Int) ∧ Int.tdiv p (b.length : Int) ≤ p := by
          rw [Int.tdiv_eq_ediv_of_nonneg h0]
          exact ⟨Int.ediv_nonneg h0 (by omega), Int.ediv_le_self _ h0⟩
        obtain ⟨q1, q2⟩ := q1
        obtain ⟨X, hX⟩ : ∃ X, X = rd b (Int.tmod p (b.length : Int)) * 131 + rd b (Int.tmod (p * 7 + 3) (b.length : Int)) * 1117 + p * 29 + Int.tdiv p (b.length : Int) * 53 := ⟨_, rfl⟩
        have X0 : 0 ≤ X := by omega
        have X1 : X ≤ 1000000000 := by omega
        have D : Int.tdiv X 64 = X / 64 := Int.tdiv_eq_ediv_of_nonneg X0
        have Y0 : 0 ≤ Go.bits .xor .i64 X (X / 64) := by
          obtain ⟨m, rfl⟩ := Int.eq_ofNat_of_zero_le X0
          rw [show ((m : Int) / 64) = ((m / 64 : Nat) : Int) by omega, xor_i64 _ _ (by omega) (by omega)]
          omega
        obtain ⟨t1, t2⟩ := tm _ Y0
        refine ⟨Int.tmod (Go.bits .xor .i64 X (X / 64)) n, Ev.neg h (Ev.down ?_), t1, .inl t2⟩
        simp only [spec_l6Rd_pick.j0]
        rw [e1, w64 (n := p) (by omega) (by omega), w64 (n := p * 7) (by omega) (by omega), w64 (n := p * 7 + 3) (by omega) (by omega)]
        refine Ev.neg (by rw [beq_iff_eq]; omega) (Ev.neg hlt (Ev.neg (by omega) (Ev.pos a1 (Ev.pos a2 (Ev.pos c1 (Ev.pos c2 (Ev.neg (by omega) ?_)))))))
        rw [w64 (n := rd b (Int.tmod p (b.length : Int))) (by omega) (by omega), w64 (n := rd b (Int.tmod (p * 7 + 3) (b.length : Int))) (by omega) (by omega), w64 (n := Int.tdiv p (b.length : Int)) (by omega) (by omega)]
        rw [w64 (n := rd b (Int.tmod p (b.length : Int)) * 131) (by omega) (by omega), w64 (n := rd b (Int.tmod (p * 7 + 3) (b.length : Int)) * 1117) (by omega) (by omega), w64 (n := p * 29) (by omega) (by omega), w64 (n := Int.tdiv p (b.length : Int) * 53) (by omega) (by omega)]
        rw [w64 (n := rd b (Int.tmod p (b.length : Int)) * 131 + rd b (Int.tmod (p * 7 + 3) (b.length : Int)) * 1117) (by omega) (by omega), w64 (n := rd b (Int.tmod p (b.length : Int)) * 131 + rd b (Int.tmod (p * 7 + 3) (b.length : Int)) * 1117 + p * 29) (by omega) (by omega), ← hX, w64 (n := X) (by omega) (by omega), D, w64 (n := X / 64) (by omega) (by omega)]
        exact Ev.now _

-- spec_l71Pkg
theorem l71Pkg_v {b : List Int} (hb : BY b) (p name ver : Int) (h0 : 0 ≤ p) (h1 : p ≤ 800000) : ∃ (fs : List Fl) (ds : List Dp) (p' : Int), Ev (fun k => spec_l71Pkg.f k b p name ver) (name, ver, fs, ds, p') ∧ fs.length ≤ 2 ∧ ds.length ≤ 2 ∧ p ≤ p' ∧ p' ≤ p + 20 := by
  have deps : ∀ d : Nat, d ≤ 4 → ∀ (p : Int) (fs : List Fl) (ds : List Dp), ds.length ≤ 2 → 0 ≤ p → p + 2 * d ≤ 900000 → ∃ (ds' : List Dp) (p' : Int), Ev (fun k => spec_l71Pkg.l1 k name (5 - (d : Int)) b p name ver fs ds) (name, ver, fs, ds', p') ∧ ds'.length ≤ 2 ∧ p ≤ p' ∧ p' ≤ p + 2 * d := by
    have stop : ∀ (d : Int) (p : Int) (fs : List Fl) (ds : List Dp), Ev (fun k => spec_l71Pkg.j3 k name d false b p name ver fs ds) (name, ver, fs, ds, p) := by
      intro d p fs ds
      refine Ev.down ?_
      simp only [spec_l71Pkg.j3]
      exact Ev.neg (by simp) (Ev.now _)
    intro d
    induction d with
    | zero =>
      intro _ p fs ds hd h0 h1
      refine ⟨ds, p, Ev.down ?_, hd, by omega, by omega⟩
      simp only [spec_l71Pkg.l1]
      exact Ev.neg (by omega) (stop _ _ _ _)
    | succ d ih =>
      intro hd p fs ds hl h0 h1
      have ew : wrap64 (5 - ((d + 1 : Nat) : Int) + 1) = 5 - (d : Int) := by rw [w64 (by omega) (by omega)]; omega
      by_cases h2 : (ds.length : Int) < 2
      · by_cases e : 5 - ((d + 1 : Nat) : Int) = name
        · obtain ⟨ds', p', hr, k1, k2, k3⟩ := ih (by omega) p fs ds hl h0 (by omega)
          refine ⟨ds', p', Ev.down ?_, k1, k2, by omega⟩
          simp only [spec_l71Pkg.l1]
          refine Ev.pos (by omega) ?_
          rw [decide_eq_true h2]
          refine Ev.down ?_
          simp only [spec_l71Pkg.j3]
          refine Ev.pos trivial (Ev.pos e ?_)
          rw [ew]; exact hr
        · obtain ⟨v, hv, v0, v1⟩ := pick_v hb p 6 h0 (by omega) (by omega)
          by_cases e2 : v = 0
          · obtain ⟨u, hu, u0, u1⟩ := pick_v hb (p + 1) 2 (by omega) (by omega) (by omega)
            obtain ⟨ds', p', hr, k1, k2, k3⟩ := ih (by omega) (p + 1 + 1) fs (ds ++ [⟨5 - ((d + 1 : Nat) : Int), 1 + u⟩]) (by simp; omega) (by omega) (by omega)
            refine ⟨ds', p', Ev.down ?_, k1, by omega, by omega⟩
            simp only [spec_l71Pkg.l1]
            refine Ev.pos (by omega) ?_
            rw [decide_eq_true h2]
            refine Ev.down ?_
            simp only [spec_l71Pkg.j3]
            refine Ev.pos trivial (Ev.neg e (Ev.bind hv (Ev.pos e2 (Ev.bind hu (Ev.pos (by omega) ?_)))))
            rw [ew, w64 (n := 1 + u) (by omega) (by omega)]; exact hr
          · obtain ⟨ds', p', hr, k1, k2, k3⟩ := ih (by omega) (p + 1) fs ds hl (by omega) (by omega)
            refine ⟨ds', p', Ev.down ?_, k1, by omega, by omega⟩
            simp only [spec_l71Pkg.l1]
            refine Ev.pos (by omega) ?_
            rw [decide_eq_true h2]
            refine Ev.down ?_
            simp only [spec_l71Pkg.j3]
            refine Ev.pos trivial (Ev.neg e (Ev.bind hv (Ev.neg e2 ?_)))
            rw [ew]; exact hr
      · refine ⟨ds, p, Ev.down ?_, hl, by omega, by omega⟩
        simp only [spec_l71Pkg.l1]
        refine Ev.pos (by omega) ?_
        rw [decide_eq_false h2]
        exact stop _ _ _ _
  have files : ∀ n : Nat, n ≤ 2 → ∀ (p a : Int) (fs : List Fl), fs.length ≤ 2 - n → 0 ≤ a → a ≤ 100 - 10 * n → 0 ≤ p → p + 2 * n ≤ 850000 → ∃ (fs' : List Fl) (ds' : List Dp) (p' : Int), Ev (fun k => spec_l71Pkg.l0 k name a (n : Int) b p name ver fs []) (name, ver, fs', ds', p') ∧ fs'.length ≤ 2 ∧ ds'.length ≤ 2 ∧ p ≤ p' ∧ p' ≤ p + 2 * n + 8 := by
    have stop : ∀ (a n p : Int) (fs : List Fl), 0 ≤ p → p ≤ 850000 → ∃ (ds' : List Dp) (p' : Int), Ev (fun k => spec_l71Pkg.j1 k name a n false b p name ver fs []) (name, ver, fs, ds', p') ∧ ds'.length ≤ 2 ∧ p ≤ p' ∧ p' ≤ p + 8 := by
      intro a n p fs h0 h1
      obtain ⟨ds', p', hr, k1, k2, k3⟩ := deps 4 (Nat.le_refl _) p fs [] (by simp) h0 (by omega)
      refine ⟨ds', p', Ev.down ?_, k1, k2, by omega⟩
      simp only [spec_l71Pkg.j1]
      exact Ev.neg (by simp) hr
    intro n
    induction n with
    | zero =>
      intro _ p a fs hl ha ha' h0 h1
      obtain ⟨ds', p', hr, k1, k2, k3⟩ := stop a 0 p fs h0 (by omega)
      refine ⟨fs, ds', p', Ev.down ?_, by omega, k1, k2, by omega⟩
      simp only [spec_l71Pkg.l0]
      exact Ev.neg (by omega) hr
    | succ n ih =>
      intro hn p a fs hl ha ha' h0 h1
      by_cases h6 : a < 6
      · obtain ⟨v, hv, v0, v1⟩ := pick_v hb p 10 h0 (by omega) (by omega)
        obtain ⟨u, hu, u0, u1⟩ := pick_v hb (p + 1) 3 (by omega) (by omega) (by omega)
        obtain ⟨fs', ds', p', hr, k0, k1, k2, k3⟩ := ih (by omega) (p + 1 + 1) (a + 1 + u) (fs ++ [⟨a, v⟩]) (by simp; omega) (by omega) (by omega) (by omega) (by omega)
        refine ⟨fs', ds', p', Ev.down ?_, k0, k1, by omega, by omega⟩
        simp only [spec_l71Pkg.l0]
        refine Ev.pos (by omega) ?_
        rw [decide_eq_true h6]
        refine Ev.down ?_
        simp only [spec_l71Pkg.j1]
        refine Ev.pos trivial (Ev.bind hv (Ev.pos (by omega) (Ev.bind hu ?_)))
        rw [w64 (n := a + 1) (by omega) (by omega), w64 (n := a + 1 + u) (by omega) (by omega), w64 (n := ((n + 1 : Nat) : Int) - 1) (by omega) (by omega), show ((n + 1 : Nat) : Int) - 1 = (n : Int) by omega]
        exact hr
      · obtain ⟨ds', p', hr, k1, k2, k3⟩ := stop a ((n + 1 : Nat) : Int) p fs h0 (by omega)
        refine ⟨fs, ds', p', Ev.down ?_, by omega, k1, k2, by omega⟩
        simp only [spec_l71Pkg.l0]
        refine Ev.pos (by omega) ?_
        rw [decide_eq_false h6]
        exact hr
  unfold spec_l71Pkg.f
  obtain ⟨v, hv, v0, v1⟩ := pick_v hb p 4 h0 (by omega) (by omega)
  obtain ⟨u, hu, u0, u1⟩ := pick_v hb (p + 1) 3 (by omega) (by omega) (by omega)
  obtain ⟨m, rfl⟩ := Int.eq_ofNat_of_zero_le u0
  obtain ⟨fs', ds', p', hr, k0, k1, k2, k3⟩ := files m (by omega) (p + 1 + 1) v [] (by simp) v0 (by omega) (by omega) (by omega)
  exact ⟨fs', ds', p', Ev.bind hv (Ev.bind hu hr), k0, k1, by omega, by omega⟩

-- spec_l71Any
theorem l71Any_v {b : List Int} (hb : BY b) (p : Int) (h0 : 0 ≤ p) (h1 : p ≤ 700000) : ∃ (name ver : Int) (fs : List Fl) (ds : List Dp) (p' : Int), Ev (fun k => spec_l71Any.f k b p) (name, ver, fs, ds, p') ∧ fs.length ≤ 3 ∧ ds.length ≤ 3 ∧ p ≤ p' ∧ p' ≤ p + 40 := by
  unfold spec_l71Any.f
  obtain ⟨v, hv, v0, v1⟩ := pick_v hb p 4 h0 (by omega) (by omega)
  obtain ⟨u, hu, u0, u1⟩ := pick_v hb (p + 1) 3 (by omega) (by omega) (by omega)
  obtain ⟨fs, ds, q, hq, k1, k2, k3, k4⟩ := l71Pkg_v hb (p + 1 + 1) (wrap64 (1 + v)) (wrap64 (1 + u)) (by omega) (by omega)
  obtain ⟨t, ht, t0, t1⟩ := pick_v hb q 20 (by omega) (by omega) (by omega)
  obtain ⟨s2, hs2, a0, a1⟩ := pick_v hb (q + 1) 2 (by omega) (by omega) (by omega)
  by_cases e0 : t = 0
  · refine ⟨_, _, _, _, _, Ev.bind hv (Ev.bind hu (Ev.bind hq (Ev.bind ht (Ev.pos e0 (Ev.bind (f := fun k y => _) (Ev.now _) (Ev.bind hs2 (Ev.pos a0 (Ev.pos (by simp; omega) (Ev.now _))))))))), by dsimp only; omega, by dsimp only; omega, by dsimp only; omega, by dsimp only; omega⟩
  · by_cases e1 : t = 1
    · refine ⟨_, _, _, _, _, Ev.bind hv (Ev.bind hu (Ev.bind hq (Ev.bind ht (Ev.neg e0 (Ev.pos e1 (Ev.bind (f := fun k y => _) (Ev.now _) (Ev.bind hs2 (Ev.pos a0 (Ev.pos (by simp; omega) (Ev.now _)))))))))), by dsimp only; omega, by dsimp only; omega, by dsimp only; omega, by dsimp only; omega⟩
    · by_cases e2 : t = 2
      · obtain ⟨s7, hs7, _, _⟩ := pick_v hb (q + 1) 7 (by omega) (by omega) (by omega)
        obtain ⟨s12, hs12, _, _⟩ := pick_v hb (q + 1 + 1) 12 (by omega) (by omega) (by omega)
        refine ⟨_, _, _, _, _, Ev.bind hv (Ev.bind hu (Ev.bind hq (Ev.bind ht (Ev.neg e0 (Ev.neg e1 (Ev.pos e2 (Ev.bind hs7 (Ev.bind hs12 (Ev.pos (by dsimp only; omega) (Ev.now _)))))))))), by (simp only [List.length_append, List.length_cons, List.length_nil]; omega), by (dsimp only; omega), by (dsimp only; omega), by (dsimp only; omega)⟩
      · by_cases e3 : t = 3
        · obtain ⟨s6, hs6, _, _⟩ := pick_v hb (q + 1) 6 (by omega) (by omega) (by omega)
          obtain ⟨s7, hs7, _, _⟩ := pick_v hb (q + 1 + 1) 7 (by omega) (by omega) (by omega)
          refine ⟨_, _, _, _, _, Ev.bind hv (Ev.bind hu (Ev.bind hq (Ev.bind ht (Ev.neg e0 (Ev.neg e1 (Ev.neg e2 (Ev.pos e3 (Ev.bind hs6 (Ev.bind hs7 (Ev.pos (by dsimp only; omega) (Ev.now _))))))))))), by (dsimp only; omega), by (simp only [List.length_append, List.length_cons, List.length_nil]; omega), by (dsimp only; omega), by (dsimp only; omega)⟩
        · exact ⟨_, _, _, _, _, Ev.bind hv (Ev.bind hu (Ev.bind hq (Ev.bind ht (Ev.neg e0 (Ev.neg e1 (Ev.neg e2 (Ev.neg e3 (Ev.now _)))))))), by dsimp only; omega, by dsimp only; omega, by dsimp only; omega, by dsimp only; omega⟩

-- spec_DrawPkgOk
theorem DrawPkgOk_v (l : List Int) (hw : ∀ x ∈ l, (Lit.int .u8 x).wf = true) : ∃ (name ver : Int) (fs : List Fl) (ds : List Dp), Ev (fun k => spec_DrawPkgOk.f k l) (name, ver, fs, ds) ∧ fs.length ≤ 4 ∧ ds.length ≤ 3 := by
  obtain ⟨b, ho, hb⟩ := open_v l hw
  obtain ⟨name, ver, fs, ds, p, hr, k1, k2, k3, k4⟩ := l71Any_v hb 0 (by omega) (by omega)
  obtain ⟨v, hv, v0, v1⟩ := pick_v hb p 3 (by omega) (by omega) (by omega)
  unfold spec_DrawPkgOk.f
  by_cases e : v = 0
  · obtain ⟨s7, hs7, _, _⟩ := pick_v hb (p + 1) 7 (by omega) (by omega) (by omega)
    obtain ⟨s12, hs12, _, _⟩ := pick_v hb (p + 1 + 1) 12 (by omega) (by omega) (by omega)
    exact ⟨_, _, _, _, Ev.bind (Ev.con ho) (Ev.bind hr (Ev.bind hv (Ev.pos e (Ev.bind hs7 (Ev.bind hs12 (Ev.pos (by dsimp only; omega) (Ev.now _))))))), by (simp only [List.length_append, List.length_cons, List.length_nil]; omega), by (dsimp only; omega)⟩
  · exact ⟨_, _, _, _, Ev.bind (Ev.con ho) (Ev.bind hr (Ev.bind hv (Ev.neg e (Ev.now _)))), by (dsimp only; omega), by (dsimp only; omega)⟩

-- the law
theorem FnPkgLess : laws_FnPkgLess.Pure := by
  intro l more hm hs hw hm' hs' hw'
  refine Ev.rounds (g := fun k => laws_FnPkgLess.f k l more) ?_
  unfold laws_FnPkgLess.f
  by_cases h : (l.length : Int) > 1048576
  · refine Ev.pos h (Ev.down ?_)
    simp only [laws_FnPkgLess.j0]
    exact Ev.pos (by simp) (Ev.now _)
  · refine Ev.neg h (Ev.down ?_)
    simp only [laws_FnPkgLess.j0]
    by_cases h' : (more.length : Int) > 1048576
    · exact Ev.pos (decide_eq_true h') (Ev.now _)
    · obtain ⟨name, ver, fs, ds, hd, k1, k2⟩ := DrawPkgOk_v l hw
      refine Ev.neg (by simpa using h') (Ev.bind hd (Ev.bind (impl_PkgOk_v name ver fs ds (by omega) (by omega)) (Ev.bind (spec_PkgOk_v name ver fs ds (by omega) (by omega)) (Ev.neg (by simp) (Ev.down ?_)))))
      simp only [laws_FnPkgLess.j1]
      cases ok : pkgOk name ver fs ds with
      | false => exact Ev.pos (by simp) (Ev.bind (spec_PkgOk_v name ver fs ds (by omega) (by omega)) (Ev.eq (by rw [ok]; rfl)))
      | true =>
        refine Ev.neg (by simp) ?_
        have ok2 := ok
        unfold pkgOk at ok2
        simp only [Bool.and_eq_true] at ok2
        obtain ⟨o1, o2, o3, o4⟩ := ok2
        have last : ∀ x : List Fl, x.length ≤ 4 → filesOk x = true → Ev (fun k => laws_FnPkgLess.j2 k name ver fs ds name ver x ds) true := by
          intro x hx hf
          refine Ev.down ?_
          simp only [laws_FnPkgLess.j2]
          refine Ev.bind (impl_PkgOk_v name ver x ds (by omega) (by omega)) (Ev.pos ?_ (Ev.bind (impl_PkgOk_v name ver fs [] (by omega) (by simp)) (Ev.pos ?_ (Ev.bind (impl_PkgOk_v name ver fs [⟨name, 1⟩] (by omega) (by simp)) (Ev.eq ?_)))))
          · unfold pkgOk; rw [o1, o2, hf, o4]; rfl
          · unfold pkgOk; rw [o1, o2, o3]; rfl
          · have : depsOk name [⟨name, 1⟩] = false := by
              unfold depsOk
              simp [allFrom, depOk1]
            unfold pkgOk; rw [this]; simp
        by_cases hz : (fs.length : Int) > 0
        · have e0 : 0 ≤ (more.length : Int) % (fs.length : Int) := Int.emod_nonneg _ (by omega)
          have e1 : (more.length : Int) % (fs.length : Int) < (fs.length : Int) := Int.emod_lt_of_pos _ hz
          obtain ⟨m, hm⟩ := Int.eq_ofNat_of_zero_le e0
          rw [hm] at e1 ⊢
          have ew : wrap64 ((m : Int) + 1) = ((m + 1 : Nat) : Int) := by rw [w64 (by omega) (by omega)]; rfl
          refine Ev.pos hz (Ev.neg (by omega) (Ev.bind (f := fun k y => _) (Ev.now _) (Ev.pos (by omega) (Ev.pos (by omega) (Ev.bind (f := fun k y => _) (Ev.now _) (Ev.pos (by simp; omega) (Ev.bind (f := fun k y => _) (Ev.now _) ?_)))))))
          rw [ew]
          refine Ev.pos (by omega) (Ev.pos (by omega) (Ev.bind (f := fun k y => _) (Ev.now _) (Ev.pos (by simp; omega) ?_)))
          rw [List.nil_append, Int.toNat_natCast, Int.toNat_natCast]
          have sub := cut_sub fs m
          exact last _ (by have := sub.length_le; omega) (filesOk_sub o3 sub)
        · exact Ev.neg hz (last fs (by omega) o3)

end Go.Proofs.Ytkdmgbolbjedfaa.Pure
