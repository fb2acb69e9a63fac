/- What is left of the law FnStoreLess, proved: the printed function answers true at every argument within the bounds of the statement. No further condition. -/
import Derived.Test.YtlmgnnpmcdeclaaPFnStoreLessx4
set_option linter.unusedVariables false
set_option linter.unusedSimpArgs false
namespace Go.Proofs.Ytlmgnnpmcdeclaa
/-- The printed row asks for this word by its short name. -/
theorem PrintWords.sized_ints : type_of% @Go.Proofs.YtlmgnnpmcdeclaaW.PrintWords.sized_ints := @Go.Proofs.YtlmgnnpmcdeclaaW.PrintWords.sized_ints
end Go.Proofs.Ytlmgnnpmcdeclaa
namespace Go.Proofs.Ytlmgnnpmcdeclaa.Pure
open Go.RowKit Go.Proofs.Ytlmgnnpmcdeclaa.PFnStoreLess Go.Proofs.YtlmgnnpmcdeclaaW.PrintWords Go.Proofs.YtlmgnnpmcdeclaaW.PrintLast Go.Proofs.YtlmgnnpmcdeclaaW.PrintMore

-- ev
/-! Ways to reckon a printed function from some number of rounds on. -/
theorem Ev.pos {α : Type} {c : Prop} {d : Decidable c} {f g : Nat → Option α} {r : α} (h : c) (e : Ev f r) : Ev (fun k => if c then f k else g k) r := Ev.congr (fun _ => if_pos h) e
theorem Ev.neg {α : Type} {c : Prop} {d : Decidable c} {f g : Nat → Option α} {r : α} (h : ¬ c) (e : Ev g r) : Ev (fun k => if c then f k else g k) r := Ev.congr (fun _ => if_neg h) e
theorem Ev.con {α : Type} {x : Option α} {r : α} (h : x = some r) : Ev (fun _ => x) r := ⟨0, fun _ _ => h⟩
theorem Ev.eq {α : Type} {r r' : α} (h : r' = r) : Ev (fun _ => some r') r := ⟨0, fun _ _ => by rw [h]⟩
theorem Ev.re {α : Type} {g : Nat → Option α} {r r' : α} (e : Ev g r') (h : r' = r) : Ev g r := h ▸ e
theorem Ev.down {α : Type} {g : Nat → Option α} {r : α} (e : Ev (fun k => g (k + 1)) r) : Ev g r := Ev.step (fun _ => rfl) e
theorem Ev.one {α : Type} {g : Nat → Option α} {r r' : α} (a : Ev g r) (b : Ev g r') : r = r' := by
  obtain ⟨K, a⟩ := a
  obtain ⟨K', b⟩ := b
  have h := a (K + K') (by omega)
  rw [b (K + K') (by omega)] at h
  exact (Option.some.inj h).symm
theorem w64 {n : Int} (h0 : -9223372036854775808 ≤ n) (h1 : n ≤ 9223372036854775807) : wrap64 n = n := by unfold wrap64; omega
/-- p of i, i + 1, .., d of them. -/
def allFrom (p : Nat → Bool) : Nat → Nat → Bool
  | 0, _ => true
  | d + 1, i => p i && allFrom p d (i + 1)
theorem allFrom_iff {p : Nat → Bool} : ∀ {d i : Nat}, allFrom p d i = true ↔ ∀ j, i ≤ j → j < i + d → p j = true
  | 0, i => by simp only [allFrom, true_iff]; intro j h1 h2; omega
  | d + 1, i => by
    simp only [allFrom, Bool.and_eq_true, allFrom_iff (d := d)]
    constructor
    · intro h j h1 h2
      rcases Nat.eq_or_lt_of_le h1 with e | e
      · exact e ▸ h.1
      · exact h.2 j e (by omega)
    · intro h
      exact ⟨h i (Nat.le_refl _) (by omega), fun j h1 h2 => h j (by omega) (by omega)⟩
theorem allFrom_congr {p q : Nat → Bool} : ∀ {d i : Nat}, (∀ j, i ≤ j → j < i + d → p j = q j) → allFrom p d i = allFrom q d i
  | 0, _, _ => rfl
  | d + 1, i, h => by
    simp only [allFrom]
    rw [h i (Nat.le_refl _) (by omega), allFrom_congr (fun j h1 h2 => h j (by omega) (by omega))]
/-- A loop that looks whether p holds at each place. -/
theorem check_loop {F : Nat → Int → Option Bool} {p : Nat → Bool} {n : Nat} (hend : Ev (fun k => F k (n : Int)) true)
    (hgo : ∀ i : Nat, i < n → p i = true → ∀ r, Ev (fun k => F k ((i + 1 : Nat) : Int)) r → Ev (fun k => F k (i : Int)) r)
    (hno : ∀ i : Nat, i < n → p i = false → Ev (fun k => F k (i : Int)) false) : ∀ d i : Nat, i + d = n → Ev (fun k => F k (i : Int)) (allFrom p d i)
  | 0, i, h => by
    obtain rfl : i = n := by omega
    exact hend
  | d + 1, i, h => by
    simp only [allFrom]
    cases hp : p i with
    | true => exact hgo i (by omega) hp _ (check_loop hend hgo hno d (i + 1) (by omega))
    | false => exact hno i (by omega) hp
/-- A loop that goes on from place to place. -/
theorem step_loop {α : Type} {F : Nat → Int → Option α} {R : Nat → α} {n : Nat} (hend : Ev (fun k => F k (n : Int)) (R n))
    (hgo : ∀ i : Nat, i < n → Ev (fun k => F k ((i + 1 : Nat) : Int)) (R (i + 1)) → Ev (fun k => F k (i : Int)) (R i)) : ∀ d i : Nat, i + d = n → Ev (fun k => F k (i : Int)) (R i)
  | 0, i, h => by
    obtain rfl : i = n := by omega
    exact hend
  | d + 1, i, h => hgo i (by omega) (step_loop hend hgo d (i + 1) (by omega))
theorem rd_nat (l : List Int) (i : Nat) : rd l (i : Int) = l.getD i 0 := by unfold rd; rw [Int.toNat_natCast]
theorem getD_of_lt {α : Type} {l : List α} {i : Nat} {d : α} (h : i < l.length) : l.getD i d = l[i] := by simp [List.getD, h]
theorem notGe (a b : Int) : (!decide (a ≥ b)) = decide (a < b) := by rw [Bool.eq_iff_iff]; simp
theorem notLe (a b : Int) : (!decide (b ≤ a)) = decide (a < b) := by rw [Bool.eq_iff_iff]; simp

-- metam0
def inB (n a b : Int) : Bool := decide (a ≤ n) && decide (n ≤ b)
theorem inB_iff {n a b : Int} : inB n a b = true ↔ a ≤ n ∧ n ≤ b := by unfold inB; rw [Bool.and_eq_true, decide_eq_true_eq, decide_eq_true_eq]
def lessB (n v m w : Int) : Bool := decide (n < m) || decide (n = m) && decide (v < w)
theorem lessB_iff {n v m w : Int} : lessB n v m w = true ↔ n < m ∨ n = m ∧ v < w := by unfold lessB; simp only [Bool.or_eq_true, Bool.and_eq_true, decide_eq_true_eq]

-- pkgm
/-! Packages: files and what is needed. -/
abbrev Fl := S89
abbrev Dp := S91
instance : DecidableEq S89 := fun x y => decidable_of_iff (x.f0 = y.f0 ∧ x.f1 = y.f1) (by obtain ⟨a, b⟩ := x; obtain ⟨d, e⟩ := y; simp)
instance : DecidableEq S91 := fun x y => decidable_of_iff (x.f0 = y.f0 ∧ x.f1 = y.f1) (by obtain ⟨a, b⟩ := x; obtain ⟨d, e⟩ := y; simp)
theorem rdF_nat (l : List Fl) (i : Nat) : rd_T89 l (i : Int) = l.getD i z89 := by unfold rd_T89; rw [Int.toNat_natCast]
theorem rdD_nat (l : List Dp) (i : Nat) : rd_T91 l (i : Int) = l.getD i z91 := by unfold rd_T91; rw [Int.toNat_natCast]
def fileOk1 (l : List Fl) (i : Nat) : Bool := inB (l.getD i z89).f0 0 5 && (inB (l.getD i z89).f1 0 9 && (i == 0 || decide ((l.getD (i - 1) z89).f0 < (l.getD i z89).f0)))
def depOk1 (name : Int) (l : List Dp) (i : Nat) : Bool := inB (l.getD i z91).f0 1 4 && (!decide ((l.getD i z91).f0 = name) && (inB (l.getD i z91).f1 1 5 && (i == 0 || decide ((l.getD (i - 1) z91).f0 < (l.getD i z91).f0))))
def filesOk (l : List Fl) : Bool := allFrom (fileOk1 l) l.length 0 && decide (l.length ≤ 2)
def depsOk (name : Int) (l : List Dp) : Bool := allFrom (depOk1 name l) l.length 0 && decide (l.length ≤ 2)
def pkgOk (n v : Int) (fs : List Fl) (ds : List Dp) : Bool := inB n 1 4 && (inB v 1 5 && (filesOk fs && depsOk n ds))

-- pkgless
/-! Ascending: what is left out leaves the rest so. -/
theorem allFrom_getD {α : Type} {R : α → Bool} {Q : α → α → Bool} {l : List α} {z : α} (p : Nat → Bool) (hp : ∀ i, i < l.length → p i = (R (l.getD i z) && (i == 0 || Q (l.getD (i - 1) z) (l.getD i z)))) (hQ : ∀ a b c, Q a b = true → Q b c = true → Q a c = true) :
    allFrom p l.length 0 = true ↔ (∀ x ∈ l, R x = true) ∧ l.Pairwise (fun x y => Q x y = true) := by
  rw [allFrom_iff]
  constructor
  · intro h
    have h' : ∀ i, i < l.length → R (l.getD i z) = true ∧ (i = 0 ∨ Q (l.getD (i - 1) z) (l.getD i z) = true) := by
      intro i hi
      have := h i (Nat.zero_le _) (by omega)
      rw [hp i hi] at this
      simpa using this
    refine ⟨fun x hx => ?_, ?_⟩
    · obtain ⟨i, hi, rfl⟩ := List.getElem_of_mem hx
      have := (h' i hi).1
      rwa [getD_of_lt hi] at this
    · have key : ∀ j i, i < j → j < l.length → Q (l.getD i z) (l.getD j z) = true := by
        intro j
        induction j with
        | zero => intro i h1; omega
        | succ j ih =>
          intro i h1 h2
          have hj := (h' (j + 1) h2).2.resolve_left (by omega)
          simp only [Nat.add_sub_cancel] at hj
          rcases Nat.eq_or_lt_of_le (Nat.le_of_lt_succ h1) with e | e
          · rw [e]; exact hj
          · exact hQ _ _ _ (ih i e (by omega)) hj
      rw [List.pairwise_iff_getElem]
      intro i j hi hj hij
      have := key j i hij hj
      rwa [getD_of_lt hi, getD_of_lt hj] at this
  · rintro ⟨h1, h2⟩ i - hi
    have hi : i < l.length := by omega
    rw [hp i hi, getD_of_lt hi, h1 _ (List.getElem_mem _), Bool.true_and]
    by_cases h0 : i = 0
    · simp [h0]
    · rw [getD_of_lt (show i - 1 < l.length by omega), List.pairwise_iff_getElem.1 h2 (i - 1) i (by omega) hi (by omega)]; simp
theorem filesOk_iff {l : List Fl} : filesOk l = true ↔ ((∀ x ∈ l, (inB x.f0 0 5 && inB x.f1 0 9) = true) ∧ l.Pairwise (fun x y => decide (x.f0 < y.f0) = true)) ∧ l.length ≤ 2 := by
  unfold filesOk
  rw [Bool.and_eq_true, decide_eq_true_eq, allFrom_getD (R := fun x : Fl => inB x.f0 0 5 && inB x.f1 0 9) (Q := fun x y : Fl => decide (x.f0 < y.f0)) (z := z89)]
  · intro i hi
    unfold fileOk1
    rw [Bool.and_assoc]
  · intro a b c h1 h2
    simp only [decide_eq_true_eq] at h1 h2 ⊢
    omega
theorem filesOk_sub {l l' : List Fl} (h : filesOk l = true) (hs : l'.Sublist l) : filesOk l' = true := by
  rw [filesOk_iff] at h ⊢
  exact ⟨⟨fun x hx => h.1.1 x (hs.mem hx), h.1.2.sublist hs⟩, Nat.le_trans hs.length_le h.2⟩
theorem cut_sub {α : Type} (l : List α) (k : Nat) : (l.take k ++ l.drop (k + 1)).Sublist l := by
  have h : l.take k ++ l.drop k = l := List.take_append_drop k l
  have h2 : (l.drop (k + 1)).Sublist (l.drop k) := by
    rw [show k + 1 = k + 1 from rfl, ← List.drop_drop]
    exact List.drop_sublist 1 _
  have h3 := (List.Sublist.refl (l.take k)).append h2
  rwa [h] at h3

-- storem
abbrev Pk := S29
theorem rdP_nat (l : List Pk) (i : Nat) : rd_T29 l (i : Int) = l.getD i z29 := by unfold rd_T29; rw [Int.toNat_natCast]
def pOk (p : Pk) : Bool := pkgOk p.f0 p.f1 p.f2 p.f3
def storeOk1 (l : List Pk) (i : Nat) : Bool := pOk (l.getD i z29) && (i == 0 || lessB (l.getD (i - 1) z29).f0 (l.getD (i - 1) z29).f1 (l.getD i z29).f0 (l.getD i z29).f1)
def storeOk (l : List Pk) : Bool := allFrom (storeOk1 l) l.length 0
/-- No list inside is too long. -/
def Fit (l : List Pk) : Prop := ∀ p ∈ l, p.f2.length ≤ 1048577 ∧ p.f3.length ≤ 1048577
theorem Fit.get {l : List Pk} (h : Fit l) {i : Nat} (hi : i < l.length) : (l.getD i z29).f2.length ≤ 1048577 ∧ (l.getD i z29).f3.length ≤ 1048577 := by rw [getD_of_lt hi]; exact h _ (List.getElem_mem _)

-- spec_l6In
theorem l6In_v (a b c : Int) : spec_l6In.f a b c = some (decide (b ≤ a) && decide (a ≤ c)) := by
  unfold spec_l6In.f
  by_cases h : a ≥ b
  · rw [if_pos h]; simp; omega
  · rw [if_neg h]; simp; omega

-- spec_l1Files
theorem l1Files_v (l : List Fl) (hl : l.length ≤ 17592186044416) : Ev (fun k => spec_l1Files.f k l) (filesOk l) := by
  have e : l1f l = filesOk l := by
    unfold l1f filesOk
    have : ∀ d i, okFrom (file1 l) d i = allFrom (fileOk1 l) d i := by
      intro d
      induction d with
      | zero => intro i; rfl
      | succ d ih => intro i; show (_ && _) = (_ && _); rw [ih]; rfl
    rw [this]
  rw [← e]
  exact Ev.now _

-- spec_l1Deps
theorem l1Deps_v (name : Int) (l : List Dp) (hl : l.length ≤ 17592186044416) : Ev (fun k => spec_l1Deps.f k name l) (depsOk name l) := by
  have e : l1d name l = depsOk name l := by
    unfold l1d depsOk
    have : ∀ d i, okFrom (dep1 name l) d i = allFrom (depOk1 name l) d i := by
      intro d
      induction d with
      | zero => intro i; rfl
      | succ d ih => intro i; show (_ && _) = (_ && _); rw [ih]; rfl
    rw [this]
  rw [← e]
  exact Ev.now _

-- spec_PkgOk
theorem spec_PkgOk_v (n v : Int) (fs : List Fl) (ds : List Dp) (hf : fs.length ≤ 17592186044416) (hd : ds.length ≤ 17592186044416) : Ev (fun k => spec_PkgOk.f k n v fs ds) (pkgOk n v fs ds) := by
  have l6In_v : ∀ a b c : Int, spec_l6In.f a b c = some (inB a b c) := l6In_v
  unfold spec_PkgOk.f pkgOk
  refine Ev.bind (Ev.con (l6In_v _ _ _)) ?_
  cases inB n 1 4 with
  | false => exact Ev.neg (by simp) (Ev.now _)
  | true =>
    refine Ev.pos rfl (Ev.bind (Ev.con (l6In_v _ _ _)) ?_)
    cases inB v 1 5 with
    | false => exact Ev.neg (by simp) (Ev.now _)
    | true =>
      refine Ev.pos rfl (Ev.bind (l1Files_v fs hf) ?_)
      cases filesOk fs with
      | false => exact Ev.neg (by simp) (Ev.now _)
      | true => exact Ev.pos rfl (Ev.bind (l1Deps_v n ds hd) (Ev.eq (by simp)))

-- spec_l3Less
theorem l3Less_v (n v m w : Int) : spec_l3Less.f n v m w = some (lessB n v m w) := by
  unfold spec_l3Less.f lessB
  by_cases h : n < m
  · rw [if_pos h, decide_eq_true h]; rfl
  · rw [if_neg h, decide_eq_false h]
    by_cases e : n = m
    · rw [if_pos e, decide_eq_true e]; rfl
    · rw [if_neg e, decide_eq_false e]; rfl

-- spec_l3Pkgs
theorem l3Pkgs_v (l : List Pk) (hl : l.length ≤ 17592186044416) (hF : Fit l) : Ev (fun k => spec_l3Pkgs.f k l) (storeOk l) := by
  unfold spec_l3Pkgs.f
  refine check_loop (F := fun k i => spec_l3Pkgs.l0 k l i) (p := storeOk1 l) (n := l.length) ?_ ?_ ?_ l.length 0 (by omega)
  · refine Ev.down ?_
    simp only [spec_l3Pkgs.l0]
    exact Ev.neg (by omega) (Ev.now _)
  · intro i hi hp r hr
    obtain ⟨f1, f2⟩ := hF.get hi
    unfold storeOk1 pOk at hp
    simp only [Bool.and_eq_true, Bool.or_eq_true, beq_iff_eq] at hp
    obtain ⟨h1, h2⟩ := hp
    refine Ev.down ?_
    simp only [spec_l3Pkgs.l0]
    rw [rdP_nat]
    refine Ev.pos (by omega) (Ev.pos (by omega) (Ev.bind (spec_PkgOk_v _ _ _ _ (by omega) (by omega)) (Ev.pos h1 ?_)))
    rw [w64 (n := (i : Int) + 1) (by omega) (by omega)]
    by_cases h0 : i = 0
    · exact Ev.neg (by omega) hr
    · refine Ev.pos (by omega) ?_
      rw [w64 (n := (i : Int) - 1) (by omega) (by omega)]
      refine Ev.pos (by omega) (Ev.pos (by omega) (Ev.bind (Ev.con (l3Less_v _ _ _ _)) ?_))
      rw [show (i : Int) - 1 = ((i - 1 : Nat) : Int) by omega, rdP_nat]
      exact Ev.pos (h2.resolve_left h0) hr
  · intro i hi hp
    obtain ⟨f1, f2⟩ := hF.get hi
    unfold storeOk1 pOk at hp
    refine Ev.down ?_
    simp only [spec_l3Pkgs.l0]
    rw [rdP_nat]
    refine Ev.pos (by omega) (Ev.pos (by omega) (Ev.bind (spec_PkgOk_v _ _ _ _ (by omega) (by omega)) ?_))
    cases h1 : pkgOk (l.getD i z29).f0 (l.getD i z29).f1 (l.getD i z29).f2 (l.getD i z29).f3 with
    | false => exact Ev.neg (by simp) (Ev.now _)
    | true =>
      rw [h1] at hp
      simp only [Bool.true_and, Bool.or_eq_false_iff, beq_eq_false_iff_ne] at hp
      refine Ev.pos rfl (Ev.pos (by omega) ?_)
      rw [w64 (n := (i : Int) - 1) (by omega) (by omega)]
      refine Ev.pos (by omega) (Ev.pos (by omega) (Ev.bind (Ev.con (l3Less_v _ _ _ _)) ?_))
      rw [show (i : Int) - 1 = ((i - 1 : Nat) : Int) by omega, rdP_nat]
      exact Ev.neg (by rw [hp.2]; simp) (Ev.now _)

-- spec_StoreOk
theorem spec_StoreOk_v (l : List Pk) (hl : l.length ≤ 17592186044416) (hF : Fit l) : Ev (fun k => spec_StoreOk.f k l) (storeOk l) := by
  unfold spec_StoreOk.f
  exact Ev.bind (l3Pkgs_v l hl hF) (Ev.now _)

-- impl_PkgOk
theorem impl_PkgOk_v (n v : Int) (fs : List Fl) (ds : List Dp) (hf : fs.length ≤ 17592186044416) (hd : ds.length ≤ 17592186044416) : Ev (fun k => impl_PkgOk.f k n v fs ds) (pkgOk n v fs ds) := by
  have eF : ∀ d i, okFrom (pkf1 fs) d i = allFrom (fileOk1 fs) d i := by
    intro d
    induction d with
    | zero => intro i; rfl
    | succ d ih => intro i; show (_ && _) = (_ && _); rw [ih]; rfl
  have eD : ∀ d i, okFrom (pkd1 n ds) d i = allFrom (depOk1 n ds) d i := by
    intro d
    induction d with
    | zero => intro i; rfl
    | succ d ih => intro i; show (_ && _) = (_ && _); rw [ih]; rfl
  have e : pkB n v fs ds = pkgOk n v fs ds := by
    unfold pkB pkpre pkgOk filesOk depsOk
    rw [eF, eD]
    show (inB n 1 4 && (inB v 1 5 && (decide (fs.length ≤ 2) && decide (ds.length ≤ 2))) && (allFrom (fileOk1 fs) fs.length 0 && allFrom (depOk1 n ds) ds.length 0)) = _
    cases inB n 1 4 <;> cases inB v 1 5 <;> cases allFrom (fileOk1 fs) fs.length 0 <;> cases allFrom (depOk1 n ds) ds.length 0 <;> cases decide (fs.length ≤ 2) <;> cases decide (ds.length ≤ 2) <;> rfl
  rw [← e]
  exact Ev.now _

-- impl_Pkg_compare
def cmpI (a b : Int) : Int := if a < b then -1 else if a > b then 1 else 0
theorem compare_v (a b : Int) : cmp_Compare_int.f a b = some (cmpI a b) := by
  unfold cmp_Compare_int.f cmp_isNaN_int.f cmpI
  simp only [Option.bind_some, bne_self_eq_false, Bool.false_eq_true, if_false]
  by_cases h : a < b
  · rw [if_pos h, if_pos h]
  · rw [if_neg h, if_neg h]
    by_cases h2 : a > b
    · rw [if_pos h2, if_pos h2]
    · rw [if_neg h2, if_neg h2]
theorem or_v (a b : Int) : Ev (fun k => cmp_Or_int.f k [a, b]) (if a = 0 then b else a) := by
  unfold cmp_Or_int.f
  refine Ev.down ?_
  simp only [cmp_Or_int.l0]
  refine Ev.pos (by simp) (Ev.pos (by omega) (Ev.pos (by simp) ?_))
  by_cases h : a = 0
  · refine Ev.pos (show rd [a, b] 0 = 0 from h) ?_
    rw [w64 (by omega) (by omega), if_pos h]
    refine Ev.down ?_
    simp only [cmp_Or_int.l0]
    refine Ev.pos (by simp) (Ev.pos (by omega) (Ev.pos (by simp) ?_))
    by_cases h2 : b = 0
    · refine Ev.pos (show rd [a, b] (0 + 1) = 0 from h2) ?_
      rw [w64 (by omega) (by omega)]
      refine Ev.down ?_
      simp only [cmp_Or_int.l0]
      exact Ev.neg (by simp) (Ev.eq h2.symm)
    · exact Ev.neg (show ¬ rd [a, b] (0 + 1) = 0 from h2) (Ev.eq rfl)
  · rw [if_neg h]
    exact Ev.neg (show ¬ rd [a, b] 0 = 0 from h) (Ev.eq rfl)
theorem pkgCompare_v (a b : Int) (fs : List Fl) (ds : List Dp) (a' b' : Int) (fs' : List Fl) (ds' : List Dp) : Ev (fun k => impl_Pkg_compare.f k a b fs ds a' b' fs' ds') (if cmpI a a' = 0 then cmpI b b' else cmpI a a') := by
  unfold impl_Pkg_compare.f
  exact Ev.bind (Ev.con (compare_v _ _)) (Ev.bind (Ev.con (compare_v _ _)) (Ev.bind (or_v _ _) (Ev.now _)))
theorem cmp_less (a b a' b' : Int) : (if cmpI a a' = 0 then cmpI b b' else cmpI a a') < 0 ↔ a < a' ∨ a = a' ∧ b < b' := by
  unfold cmpI
  repeat' split
  all_goals omega

-- impl_StoreOk
theorem impl_StoreOk_v (l : List Pk) (hl : l.length ≤ 17592186044416) (hF : Fit l) : Ev (fun k => impl_StoreOk.f k l) (storeOk l) := by
  unfold impl_StoreOk.f
  refine check_loop (F := fun k i => impl_StoreOk.l0 k l l l.length i) (p := storeOk1 l) (n := l.length) ?_ ?_ ?_ l.length 0 (by omega)
  · refine Ev.down ?_
    simp only [impl_StoreOk.l0]
    exact Ev.neg (by omega) (Ev.now _)
  · intro i hi hp r hr
    obtain ⟨f1, f2⟩ := hF.get hi
    unfold storeOk1 pOk at hp
    simp only [Bool.and_eq_true, Bool.or_eq_true, beq_iff_eq] at hp
    obtain ⟨h1, h2⟩ := hp
    refine Ev.down ?_
    simp only [impl_StoreOk.l0]
    rw [rdP_nat]
    refine Ev.pos (by omega) (Ev.pos (by omega) (Ev.pos (by omega) (Ev.bind (impl_PkgOk_v _ _ _ _ (by omega) (by omega)) (Ev.pos h1 ?_))))
    rw [w64 (n := (i : Int) + 1) (by omega) (by omega)]
    by_cases h0 : i = 0
    · exact Ev.neg (by omega) hr
    · refine Ev.pos (by omega) ?_
      rw [w64 (n := (i : Int) - 1) (by omega) (by omega)]
      refine Ev.pos (by omega) (Ev.pos (by omega) (Ev.bind (pkgCompare_v _ _ _ _ _ _ _ _) ?_))
      rw [show (i : Int) - 1 = ((i - 1 : Nat) : Int) by omega, rdP_nat]
      refine Ev.neg ?_ hr
      have := (cmp_less _ _ _ _).2 (lessB_iff.1 (h2.resolve_left h0))
      omega
  · intro i hi hp
    obtain ⟨f1, f2⟩ := hF.get hi
    unfold storeOk1 pOk at hp
    refine Ev.down ?_
    simp only [impl_StoreOk.l0]
    rw [rdP_nat]
    refine Ev.pos (by omega) (Ev.pos (by omega) (Ev.pos (by omega) (Ev.bind (impl_PkgOk_v _ _ _ _ (by omega) (by omega)) ?_)))
    cases h1 : pkgOk (l.getD i z29).f0 (l.getD i z29).f1 (l.getD i z29).f2 (l.getD i z29).f3 with
    | false => exact Ev.neg (by simp) (Ev.now _)
    | true =>
      rw [h1] at hp
      simp only [Bool.true_and, Bool.or_eq_false_iff, beq_eq_false_iff_ne] at hp
      refine Ev.pos rfl (Ev.pos (by omega) ?_)
      rw [w64 (n := (i : Int) - 1) (by omega) (by omega)]
      refine Ev.pos (by omega) (Ev.pos (by omega) (Ev.bind (pkgCompare_v _ _ _ _ _ _ _ _) ?_))
      rw [show (i : Int) - 1 = ((i - 1 : Nat) : Int) by omega, rdP_nat]
      refine Ev.pos ?_ (Ev.now _)
      have h5 : ¬ (lessB (l.getD (i - 1) z29).f0 (l.getD (i - 1) z29).f1 (l.getD i z29).f0 (l.getD i z29).f1 = true) := by rw [hp.2]; simp
      rw [lessB_iff, ← cmp_less] at h5
      omega

-- spec_l6Open
/-- Bytes to draw from. -/
def BY (b : List Int) : Prop := (∀ x ∈ b, 0 ≤ x ∧ x ≤ 255) ∧ b.length ≤ 2000
theorem open_v (l : List Int) (hw : ∀ x ∈ l, (Lit.int .u8 x).wf = true) : ∃ b, spec_l6Open.f l = some (b, 0) ∧ BY b := by
  have h : ∀ x ∈ l, 0 ≤ x ∧ x ≤ 255 := by
    intro x hx
    have := hw x hx
    have e1 : IntKind.u8.min = 0 := rfl
    have e2 : IntKind.u8.max = 255 := rfl
    simp [Lit.wf, e1, e2] at this
    omega
  unfold spec_l6Open.f
  by_cases hl : (l.length : Int) > 2000
  · rw [if_pos hl, if_pos (by omega)]
    exact ⟨_, rfl, fun x hx => h x (List.mem_of_mem_take hx), by rw [List.length_take]; omega⟩
  · rw [if_neg hl]
    exact ⟨_, rfl, h, by omega⟩

-- spec_l12Find
theorem l12Find_v (l : List Pk) (n v : Int) (hl : l.length ≤ 17592186044416) : ∃ r : Int, Ev (fun k => spec_l12Find.f k l n v) r := by
  unfold spec_l12Find.f
  have loop : ∀ d i : Nat, i + d = l.length → ∃ r, Ev (fun k => spec_l12Find.l0 k l n v (i : Int)) r := by
    intro d
    induction d with
    | zero =>
      intro i hi
      refine ⟨-1, Ev.down ?_⟩
      simp only [spec_l12Find.l0]
      exact Ev.neg (by omega) (Ev.now _)
    | succ d ih =>
      intro i hi
      obtain ⟨r, hr⟩ := ih (i + 1) (by omega)
      have e : wrap64 ((i : Int) + 1) = ((i + 1 : Nat) : Int) := by rw [w64 (by omega) (by omega)]; rfl
      by_cases h1 : (rd_T29 l (i : Int)).f0 = n
      · by_cases h2 : (rd_T29 l (i : Int)).f1 = v
        · refine ⟨(i : Int), Ev.down ?_⟩
          simp only [spec_l12Find.l0]
          exact Ev.pos (by omega) (Ev.pos (by omega) (Ev.pos h1 (Ev.pos h2 (Ev.now _))))
        · refine ⟨r, Ev.down ?_⟩
          simp only [spec_l12Find.l0]
          rw [e]
          exact Ev.pos (by omega) (Ev.pos (by omega) (Ev.pos h1 (Ev.neg h2 hr)))
      · refine ⟨r, Ev.down ?_⟩
        simp only [spec_l12Find.l0]
        rw [e]
        exact Ev.pos (by omega) (Ev.pos (by omega) (Ev.neg h1 hr))
  exact loop l.length 0 (by omega)

-- spec_l12With
/-- No package holds more than two files or two needs. -/
def Small (l : List Pk) : Prop := ∀ p ∈ l, p.f2.length ≤ 2 ∧ p.f3.length ≤ 2
theorem Small.add {l : List Pk} (h : Small l) {p : Pk} (h2 : p.f2.length ≤ 2) (h3 : p.f3.length ≤ 2) : Small (l ++ [p]) := by
  intro q hq
  rcases List.mem_append.1 hq with e | e
  · exact h q e
  · rw [List.mem_singleton.1 e]; exact ⟨h2, h3⟩
theorem Small.fit {l : List Pk} (h : Small l) : Fit l := fun p hp => ⟨by have := (h p hp).1; omega, by have := (h p hp).2; omega⟩
theorem Small.get {l : List Pk} (h : Small l) {i : Nat} (hi : i < l.length) : (l.getD i z29).f2.length ≤ 2 ∧ (l.getD i z29).f3.length ≤ 2 := by rw [getD_of_lt hi]; exact h _ (List.getElem_mem _)
theorem l12With_v (l : List Pk) (n v : Int) (fs : List Fl) (ds : List Dp) (hl : l.length ≤ 1000) (hF : Small l) (h2 : fs.length ≤ 2) (h3 : ds.length ≤ 2) : ∃ r : List Pk, Ev (fun k => spec_l12With.f k l n v fs ds) r ∧ r.length ≤ 2 * l.length + 1 ∧ Small r := by
  unfold spec_l12With.f
  have second : ∀ d i : Nat, i + d = l.length → ∀ out : List Pk, out.length + d ≤ 5000 → Small out → ∃ r : List Pk, Ev (fun k => spec_l12With.l1 k l out (i : Int) n v fs ds) r ∧ r.length ≤ out.length + d ∧ Small r := by
    intro d
    induction d with
    | zero =>
      intro i hi out ho hs
      refine ⟨out, Ev.down ?_, by omega, hs⟩
      simp only [spec_l12With.l1]
      exact Ev.neg (by omega) (Ev.now _)
    | succ d ih =>
      intro i hi out ho hs
      have e : wrap64 ((i : Int) + 1) = ((i + 1 : Nat) : Int) := by rw [w64 (by omega) (by omega)]; rfl
      cases c : lessB n v (l.getD i z29).f0 (l.getD i z29).f1 with
      | true =>
        obtain ⟨r, hr, r1, r2⟩ := ih (i + 1) (by omega) (out ++ [⟨(l.getD i z29).f0, (l.getD i z29).f1, (l.getD i z29).f2, (l.getD i z29).f3⟩]) (by rw [List.length_append, List.length_singleton]; omega) (hs.add (hF.get (i := i) (by omega)).1 (hF.get (i := i) (by omega)).2)
        refine ⟨r, Ev.down ?_, by rw [List.length_append, List.length_singleton] at r1; omega, r2⟩
        simp only [spec_l12With.l1]
        rw [e, rdP_nat]
        exact Ev.pos (by omega) (Ev.pos (by omega) (Ev.bind (Ev.con (l3Less_v _ _ _ _)) (Ev.pos c (Ev.pos (by omega) hr))))
      | false =>
        obtain ⟨r, hr, r1, r2⟩ := ih (i + 1) (by omega) out (by omega) hs
        refine ⟨r, Ev.down ?_, by omega, r2⟩
        simp only [spec_l12With.l1]
        rw [e, rdP_nat]
        exact Ev.pos (by omega) (Ev.pos (by omega) (Ev.bind (Ev.con (l3Less_v _ _ _ _)) (Ev.neg (by rw [c]; simp) hr)))
  have first : ∀ d i : Nat, i + d = l.length → ∀ out : List Pk, out.length ≤ i → Small out → ∃ r : List Pk, Ev (fun k => spec_l12With.l0 k l out (i : Int) n v fs ds) r ∧ r.length ≤ 2 * l.length + 1 ∧ Small r := by
    intro d
    induction d with
    | zero =>
      intro i hi out ho hs
      obtain ⟨r, hr, r1, r2⟩ := second l.length 0 (by omega) (out ++ [⟨n, v, fs, ds⟩]) (by rw [List.length_append, List.length_singleton]; omega) (hs.add h2 h3)
      refine ⟨r, Ev.down ?_, by rw [List.length_append, List.length_singleton] at r1; omega, r2⟩
      simp only [spec_l12With.l0]
      exact Ev.neg (by omega) (Ev.pos (by omega) hr)
    | succ d ih =>
      intro i hi out ho hs
      have e : wrap64 ((i : Int) + 1) = ((i + 1 : Nat) : Int) := by rw [w64 (by omega) (by omega)]; rfl
      cases c : lessB (l.getD i z29).f0 (l.getD i z29).f1 n v with
      | true =>
        obtain ⟨r, hr, r1, r2⟩ := ih (i + 1) (by omega) (out ++ [⟨(l.getD i z29).f0, (l.getD i z29).f1, (l.getD i z29).f2, (l.getD i z29).f3⟩]) (by rw [List.length_append, List.length_singleton]; omega) (hs.add (hF.get (i := i) (by omega)).1 (hF.get (i := i) (by omega)).2)
        refine ⟨r, Ev.down ?_, r1, r2⟩
        simp only [spec_l12With.l0]
        rw [e, rdP_nat]
        exact Ev.pos (by omega) (Ev.pos (by omega) (Ev.bind (Ev.con (l3Less_v _ _ _ _)) (Ev.pos c (Ev.pos (by omega) hr))))
      | false =>
        obtain ⟨r, hr, r1, r2⟩ := ih (i + 1) (by omega) out (by omega) hs
        refine ⟨r, Ev.down ?_, r1, r2⟩
        simp only [spec_l12With.l0]
        rw [e, rdP_nat]
        exact Ev.pos (by omega) (Ev.pos (by omega) (Ev.bind (Ev.con (l3Less_v _ _ _ _)) (Ev.neg (by rw [c]; simp) hr)))
  exact first l.length 0 (by omega) [] (Nat.zero_le _) (fun p hp => absurd hp (List.not_mem_nil))

-- spec_l6Rd_pick
theorem xor_i64 (a b : Nat) (ha : a < 4611686018427387904) (hb : b < 4611686018427387904) : Go.bits .xor .i64 (a : Int) (b : Int) = ((a ^^^ b : Nat) : Int) := by
  have hx : a ^^^ b < 2 ^ 62 := Nat.xor_lt_two_pow (by omega) (by omega)
  have e1 : a % 2 ^ 64 = a := Nat.mod_eq_of_lt (by omega)
  have e2 : b % 2 ^ 64 = b := Nat.mod_eq_of_lt (by omega)
  have e3 : ((BitVec.ofInt 64 (a : Int)) ^^^ (BitVec.ofInt 64 (b : Int))).toNat = a ^^^ b := by
    rw [BitVec.toNat_xor, BitVec.ofInt_natCast, BitVec.ofInt_natCast, BitVec.toNat_ofNat, BitVec.toNat_ofNat, e1, e2]
  show IntKind.i64.wrap (((BitVec.ofInt 64 (a : Int)) ^^^ (BitVec.ofInt 64 (b : Int))).toNat : Int) = _
  rw [e3, IntKind.wrap_i64]
  omega
theorem rd_by {b : List Int} (hb : BY b) (i : Int) : 0 ≤ rd b i ∧ rd b i ≤ 255 := by
  unfold rd
  by_cases h : i.toNat < b.length
  · rw [getD_of_lt h]
    exact hb.1 _ (List.getElem_mem _)
  · rw [show b.getD i.toNat 0 = 0 by simp [List.getD, h]]
    omega
/-- A number is drawn: 0 to n - 1; 0, if there is none. -/
theorem pick_v {b : List Int} (hb : BY b) (p n : Int) (h0 : 0 ≤ p) (h1 : p ≤ 1000000) (hn : n ≤ 1000000000) : ∃ v, Ev (fun k => spec_l6Rd_pick.f k b p n) (v, p + 1) ∧ 0 ≤ v ∧ (v < n ∨ v = 0) := by
  unfold spec_l6Rd_pick.f
  rw [w64 (n := p + 1) (by omega) (by omega)]
  by_cases h : n < 1
  · refine ⟨0, Ev.pos h (Ev.down ?_), by omega, .inr rfl⟩
    simp only [spec_l6Rd_pick.j0]
    exact Ev.pos (by simp) (Ev.now _)
  · have hlen := hb.2
    by_cases hl : b.length = 0
    · refine ⟨0, Ev.neg h (Ev.down ?_), by omega, .inr rfl⟩
      simp only [spec_l6Rd_pick.j0]
      exact Ev.pos (by simp [hl]) (Ev.now _)
    · have e1 : p + 1 - 1 = p := by omega
      have tm : ∀ x : Int, 0 ≤ x → 0 ≤ Int.tmod x n ∧ Int.tmod x n < n := fun x hx => by
        rw [Int.tmod_eq_emod_of_nonneg hx]
        exact ⟨Int.emod_nonneg _ (by omega), Int.emod_lt_of_pos _ (by omega)⟩
      by_cases hlt : p < (b.length : Int)
      · obtain ⟨r1, r2⟩ := rd_by hb p
        obtain ⟨t1, t2⟩ := tm (rd b p) r1
        refine ⟨Int.tmod (rd b p) n, Ev.neg h (Ev.down ?_), t1, .inl t2⟩
        simp only [spec_l6Rd_pick.j0]
        rw [e1, w64 (n := p) (by omega) (by omega), w64 (n := rd b p) (by omega) (by omega)]
        exact Ev.neg (by rw [beq_iff_eq]; omega) (Ev.pos hlt (Ev.pos h0 (Ev.neg (by omega) (Ev.now _))))
      · have lm : ∀ x : Int, 0 ≤ x → 0 ≤ Int.tmod x (b.length : Int) ∧ Int.tmod x (b.length : Int) < (b.length : Int) := fun x hx => by
          rw [Int.tmod_eq_emod_of_nonneg hx]
          exact ⟨Int.emod_nonneg _ (by omega), Int.emod_lt_of_pos _ (by omega)⟩
        obtain ⟨a1, a2⟩ := lm p h0
        obtain ⟨c1, c2⟩ := lm (p * 7 + 3) (by omega)
        obtain ⟨r1, r2⟩ := rd_by hb (Int.tmod p (b.length : Int))
        obtain ⟨s1, s2⟩ := rd_by hb (Int.tmod (p * 7 + 3) (b.length : Int))
        have q1 : 0 ≤ Int.tdiv p (b.length : Int) ∧ Int.tdiv p (b.length : Int) ≤ p := by
          rw [Int.tdiv_eq_ediv_of_nonneg h0]
          exact ⟨Int.ediv_nonneg h0 (by omega), Int.ediv_le_self _ h0⟩
        obtain ⟨q1, q2⟩ := q1
        obtain ⟨X, hX⟩ : ∃ X, X = rd b (Int.tmod p (b.length : Int)) * 131 + rd b (Int.tmod (p * 7 + 3) (b.length : Int)) * 1117 + p * 29 + Int.tdiv p (b.length : Int) * 53 := ⟨_, rfl⟩
        have X0 : 0 ≤ X := by omega
        have X1 : X ≤ 1000000000 := by omega
        have D : Int.tdiv X 64 = X / 64 := Int.tdiv_eq_ediv_of_nonneg X0
        have Y0 : 0 ≤ Go.bits .xor .i64 X (X / 64) := by
          obtain ⟨m, rfl⟩ := Int.eq_ofNat_of_zero_le X0
          rw [show ((m : Int) / 64) = ((m / 64 : Nat) : Int) by omega, xor_i64 _ _ (by omega) (by omega)]
          omega
        obtain ⟨t1, t2⟩ := tm _ Y0
        refine ⟨Int.tmod (Go.bits .xor .i64 X (X / 64)) n, Ev.neg h (Ev.down ?_), t1, .inl t2⟩
        simp only [spec_l6Rd_pick.j0]
        rw [e1, w64 (n := p) (by omega) (by omega), w64 (n := p * 7) (by omega) (by omega), w64 (n := p * 7 + 3) (by omega) (by omega)]
        refine Ev.neg (by rw [beq_iff_eq]; omega) (Ev.neg hlt (Ev.neg (by omega) (Ev.pos a1 (Ev.pos a2 (Ev.pos c1 (Ev.pos c2 (Ev.neg (by omega) ?_)))))))
        rw [w64 (n := rd b (Int.tmod p (b.length : Int))) (by omega) (by omega), w64 (n := rd b (Int.tmod (p * 7 + 3) (b.length : Int))) (by omega) (by omega), w64 (n := Int.tdiv p (b.length : Int)) (by omega) (by omega)]
        rw [w64 (n := rd b (Int.tmod p (b.length : Int)) * 131) (by omega) (by omega), w64 (n := rd b (Int.tmod (p * 7 + 3) (b.length : Int)) * 1117) (by omega) (by omega), w64 (n := p * 29) (by omega) (by omega), w64 (n := Int.tdiv p (b.length : Int) * 53) (by omega) (by omega)]
        rw [w64 (n := rd b (Int.tmod p (b.length : Int)) * 131 + rd b (Int.tmod (p * 7 + 3) (b.length : Int)) * 1117) (by omega) (by omega), w64 (n := rd b (Int.tmod p (b.length : Int)) * 131 + rd b (Int.tmod (p * 7 + 3) (b.length : Int)) * 1117 + p * 29) (by omega) (by omega), ← hX, w64 (n := X) (by omega) (by omega), D, w64 (n := X / 64) (by omega) (by omega)]
        exact Ev.now _

-- spec_l71Pkg
theorem l71Pkg_v {b : List Int} (hb : BY b) (p name ver : Int) (h0 : 0 ≤ p) (h1 : p ≤ 800000) : ∃ (fs : List Fl) (ds : List Dp) (p' : Int), Ev (fun k => spec_l71Pkg.f k b p name ver) (name, ver, fs, ds, p') ∧ fs.length ≤ 2 ∧ ds.length ≤ 2 ∧ p ≤ p' ∧ p' ≤ p + 20 := by
  have deps : ∀ d : Nat, d ≤ 4 → ∀ (p : Int) (fs : List Fl) (ds : List Dp), ds.length ≤ 2 → 0 ≤ p → p + 2 * d ≤ 900000 → ∃ (ds' : List Dp) (p' : Int), Ev (fun k => spec_l71Pkg.l1 k name (5 - (d : Int)) b p name ver fs ds) (name, ver, fs, ds', p') ∧ ds'.length ≤ 2 ∧ p ≤ p' ∧ p' ≤ p + 2 * d := by
    have stop : ∀ (d : Int) (p : Int) (fs : List Fl) (ds : List Dp), Ev (fun k => spec_l71Pkg.j3 k name d false b p name ver fs ds) (name, ver, fs, ds, p) := by
      intro d p fs ds
      refine Ev.down ?_
      simp only [spec_l71Pkg.j3]
      exact Ev.neg (by simp) (Ev.now _)
    intro d
    induction d with
    | zero =>
      intro _ p fs ds hd h0 h1
      refine ⟨ds, p, Ev.down ?_, hd, by omega, by omega⟩
      simp only [spec_l71Pkg.l1]
      exact Ev.neg (by omega) (stop _ _ _ _)
    | succ d ih =>
      intro hd p fs ds hl h0 h1
      have ew : wrap64 (5 - ((d + 1 : Nat) : Int) + 1) = 5 - (d : Int) := by rw [w64 (by omega) (by omega)]; omega
      by_cases h2 : (ds.length : Int) < 2
      · by_cases e : 5 - ((d + 1 : Nat) : Int) = name
        · obtain ⟨ds', p', hr, k1, k2, k3⟩ := ih (by omega) p fs ds hl h0 (by omega)
          refine ⟨ds', p', Ev.down ?_, k1, k2, by omega⟩
          simp only [spec_l71Pkg.l1]
          refine Ev.pos (by omega) ?_
          rw [decide_eq_true h2]
          refine Ev.down ?_
          simp only [spec_l71Pkg.j3]
          refine Ev.pos trivial (Ev.pos e ?_)
          rw [ew]; exact hr
        · obtain ⟨v, hv, v0, v1⟩ := pick_v hb p 6 h0 (by omega) (by omega)
          by_cases e2 : v = 0
          · obtain ⟨u, hu, u0, u1⟩ := pick_v hb (p + 1) 2 (by omega) (by omega) (by omega)
            obtain ⟨ds', p', hr, k1, k2, k3⟩ := ih (by omega) (p + 1 + 1) fs (ds ++ [⟨5 - ((d + 1 : Nat) : Int), 1 + u⟩]) (by simp; omega) (by omega) (by omega)
            refine ⟨ds', p', Ev.down ?_, k1, by omega, by omega⟩
            simp only [spec_l71Pkg.l1]
            refine Ev.pos (by omega) ?_
            rw [decide_eq_true h2]
            refine Ev.down ?_
            simp only [spec_l71Pkg.j3]
            refine Ev.pos trivial (Ev.neg e (Ev.bind hv (Ev.pos e2 (Ev.bind hu (Ev.pos (by omega) ?_)))))
            rw [ew, w64 (n := 1 + u) (by omega) (by omega)]; exact hr
          · obtain ⟨ds', p', hr, k1, k2, k3⟩ := ih (by omega) (p + 1) fs ds hl (by omega) (by omega)
            refine ⟨ds', p', Ev.down ?_, k1, by omega, by omega⟩
            simp only [spec_l71Pkg.l1]
            refine Ev.pos (by omega) ?_
            rw [decide_eq_true h2]
            refine Ev.down ?_
            simp only [spec_l71Pkg.j3]
            refine Ev.pos trivial (Ev.neg e (Ev.bind hv (Ev.neg e2 ?_)))
            rw [ew]; exact hr
      · refine ⟨ds, p, Ev.down ?_, hl, by omega, by omega⟩
        simp only [spec_l71Pkg.l1]
        refine Ev.pos (by omega) ?_
        rw [decide_eq_false h2]
        exact stop _ _ _ _
  have files : ∀ n : Nat, n ≤ 2 → ∀ (p a : Int) (fs : List Fl), fs.length ≤ 2 - n → 0 ≤ a → a ≤ 100 - 10 * n → 0 ≤ p → p + 2 * n ≤ 850000 → ∃ (fs' : List Fl) (ds' : List Dp) (p' : Int), Ev (fun k => spec_l71Pkg.l0 k name a (n : Int) b p name ver fs []) (name, ver, fs', ds', p') ∧ fs'.length ≤ 2 ∧ ds'.length ≤ 2 ∧ p ≤ p' ∧ p' ≤ p + 2 * n + 8 := by
    have stop : ∀ (a n p : Int) (fs : List Fl), 0 ≤ p → p ≤ 850000 → ∃ (ds' : List Dp) (p' : Int), Ev (fun k => spec_l71Pkg.j1 k name a n false b p name ver fs []) (name, ver, fs, ds', p') ∧ ds'.length ≤ 2 ∧ p ≤ p' ∧ p' ≤ p + 8 := by
      intro a n p fs h0 h1
      obtain ⟨ds', p', hr, k1, k2, k3⟩ := deps 4 (Nat.le_refl _) p fs [] (by simp) h0 (by omega)
      refine ⟨ds', p', Ev.down ?_, k1, k2, by omega⟩
      simp only [spec_l71Pkg.j1]
      exact Ev.neg (by simp) hr
    intro n
    induction n with
    | zero =>
      intro _ p a fs hl ha ha' h0 h1
      obtain ⟨ds', p', hr, k1, k2, k3⟩ := stop a 0 p fs h0 (by omega)
      refine ⟨fs, ds', p', Ev.down ?_, by omega, k1, k2, by omega⟩
      simp only [spec_l71Pkg.l0]
      exact Ev.neg (by omega) hr
    | succ n ih =>
      intro hn p a fs hl ha ha' h0 h1
      by_cases h6 : a < 6
      · obtain ⟨v, hv, v0, v1⟩ := pick_v hb p 10 h0 (by omega) (by omega)
        obtain ⟨u, hu, u0, u1⟩ := pick_v hb (p + 1) 3 (by omega) (by omega) (by omega)
        obtain ⟨fs', ds', p', hr, k0, k1, k2, k3⟩ := ih (by omega) (p + 1 + 1) (a + 1 + u) (fs ++ [⟨a, v⟩]) (by simp; omega) (by omega) (by omega) (by omega) (by omega)
        refine ⟨fs', ds', p', Ev.down ?_, k0, k1, by omega, by omega⟩
        simp only [spec_l71Pkg.l0]
        refine Ev.pos (by omega) ?_
        rw [decide_eq_true h6]
        refine Ev.down ?_
        simp only [spec_l71Pkg.j1]
        refine Ev.pos trivial (Ev.bind hv (Ev.pos (by omega) (Ev.bind hu ?_)))
        rw [w64 (n := a + 1) (by omega) (by omega), w64 (n := a + 1 + u) (by omega) (by omega), w64 (n := ((n + 1 : Nat) : Int) - 1) (by omega) (by omega), show ((n + 1 : Nat) : Int) - 1 = (n : Int) by omega]
        exact hr
      · obtain ⟨ds', p', hr, k1, k2, k3⟩ := stop a ((n + 1 : Nat) : Int) p fs h0 (by omega)
        refine ⟨fs, ds', p', Ev.down ?_, by omega, k1, k2, by omega⟩
        simp only [spec_l71Pkg.l0]
        refine Ev.pos (by omega) ?_
        rw [decide_eq_false h6]
        exact hr
  unfold spec_l71Pkg.f
  obtain ⟨v, hv, v0, v1⟩ := pick_v hb p 4 h0 (by omega) (by omega)
  obtain ⟨u, hu, u0, u1⟩ := pick_v hb (p + 1) 3 (by omega) (by omega) (by omega)
  obtain ⟨m, rfl⟩ := Int.eq_ofNat_of_zero_le u0
  obtain ⟨fs', ds', p', hr, k0, k1, k2, k3⟩ := files m (by omega) (p + 1 + 1) v [] (by simp) v0 (by omega) (by omega) (by omega)
  exact ⟨fs', ds', p', Ev.bind hv (Ev.bind hu hr), k0, k1, by omega, by omega⟩

-- spec_l71Pkgs
theorem l71Pkgs_v {b : List Int} (hb : BY b) (p : Int) (h0 : 0 ≤ p) (h1 : p ≤ 700000) : ∃ (l : List Pk) (p' : Int), Ev (fun k => spec_l71Pkgs.f k b p) (l, p') ∧ l.length ≤ 127 ∧ Small l ∧ p ≤ p' ∧ p' ≤ p + 200 := by
  unfold spec_l71Pkgs.f
  have loop : ∀ d : Nat, d ≤ 7 → ∀ (l : List Pk) (p : Int), l.length + 1 ≤ 2 ^ (7 - d) → Small l → 0 ≤ p → p + 22 * d ≤ 750000 → ∃ (l' : List Pk) (p' : Int), Ev (fun k => spec_l71Pkgs.l0 k l (d : Int) b p) (l', p') ∧ l'.length ≤ 127 ∧ Small l' ∧ p ≤ p' ∧ p' ≤ p + 22 * d := by
    intro d
    induction d with
    | zero =>
      intro _ l p hl hs hp hq
      refine ⟨l, p, Ev.down ?_, by simp at hl; omega, hs, by omega, by omega⟩
      simp only [spec_l71Pkgs.l0]
      exact Ev.neg (by omega) (Ev.now _)
    | succ d ih =>
      intro hd l p hl hs hp hq
      have pw : 2 ^ (7 - d) = 2 * 2 ^ (7 - (d + 1)) := by rw [show 7 - d = (7 - (d + 1)) + 1 by omega, Nat.pow_succ]; omega
      have pm : 2 ^ (7 - (d + 1)) ≤ 2 ^ 7 := Nat.pow_le_pow_right (by omega) (by omega)
      obtain ⟨u, hu, u0, u1⟩ := pick_v hb p 4 (by omega) (by omega) (by omega)
      obtain ⟨v, hv, v0, v1⟩ := pick_v hb (p + 1) 3 (by omega) (by omega) (by omega)
      obtain ⟨fs, ds, q, hq', f1, f2, q1, q2⟩ := l71Pkg_v hb (p + 1 + 1) (wrap64 (1 + u)) (wrap64 (1 + v)) (by omega) (by omega)
      obtain ⟨t, ht⟩ := l12Find_v l (wrap64 (1 + u)) (wrap64 (1 + v)) (by omega)
      have e : wrap64 (((d + 1 : Nat) : Int) - 1) = (d : Int) := by rw [w64 (by omega) (by omega)]; omega
      by_cases ct : t < 0
      · obtain ⟨l2, hl2, g1, g2⟩ := l12With_v l (wrap64 (1 + u)) (wrap64 (1 + v)) fs ds (by omega) hs f1 f2
        obtain ⟨l', p', hr, r1, r2, r3, r4⟩ := ih (by omega) l2 q (by omega) g2 (by omega) (by omega)
        refine ⟨l', p', Ev.down ?_, r1, r2, by omega, by omega⟩
        simp only [spec_l71Pkgs.l0]
        rw [e]
        exact Ev.pos (by omega) (Ev.bind hu (Ev.bind hv (Ev.bind hq' (Ev.bind ht (Ev.pos ct (Ev.bind hl2 hr))))))
      · obtain ⟨l', p', hr, r1, r2, r3, r4⟩ := ih (by omega) l q (by omega) hs (by omega) (by omega)
        refine ⟨l', p', Ev.down ?_, r1, r2, by omega, by omega⟩
        simp only [spec_l71Pkgs.l0]
        rw [e]
        exact Ev.pos (by omega) (Ev.bind hu (Ev.bind hv (Ev.bind hq' (Ev.bind ht (Ev.neg ct hr)))))
  obtain ⟨n, hn, n0, n1⟩ := pick_v hb p 8 (by omega) (by omega) (by omega)
  obtain ⟨m, rfl⟩ := Int.eq_ofNat_of_zero_le n0
  obtain ⟨l', p', hr, r1, r2, r3, r4⟩ := loop m (by omega) [] (p + 1) (by simpa using Nat.one_le_two_pow) (fun p hp => absurd hp (List.not_mem_nil)) (by omega) (by omega)
  exact ⟨l', p', Ev.bind hn hr, r1, r2, by omega, by omega⟩

-- spec_l71Any
theorem l71Any_v {b : List Int} (hb : BY b) (p : Int) (h0 : 0 ≤ p) (h1 : p ≤ 700000) : ∃ (name ver : Int) (fs : List Fl) (ds : List Dp) (p' : Int), Ev (fun k => spec_l71Any.f k b p) (name, ver, fs, ds, p') ∧ fs.length ≤ 3 ∧ ds.length ≤ 3 ∧ p ≤ p' ∧ p' ≤ p + 40 := by
  unfold spec_l71Any.f
  obtain ⟨v, hv, v0, v1⟩ := pick_v hb p 4 h0 (by omega) (by omega)
  obtain ⟨u, hu, u0, u1⟩ := pick_v hb (p + 1) 3 (by omega) (by omega) (by omega)
  obtain ⟨fs, ds, q, hq, k1, k2, k3, k4⟩ := l71Pkg_v hb (p + 1 + 1) (wrap64 (1 + v)) (wrap64 (1 + u)) (by omega) (by omega)
  obtain ⟨t, ht, t0, t1⟩ := pick_v hb q 20 (by omega) (by omega) (by omega)
  obtain ⟨s2, hs2, a0, a1⟩ := pick_v hb (q + 1) 2 (by omega) (by omega) (by omega)
  by_cases e0 : t = 0
  · refine ⟨_, _, _, _, _, Ev.bind hv (Ev.bind hu (Ev.bind hq (Ev.bind ht (Ev.pos e0 (Ev.bind (f := fun k y => _) (Ev.now _) (Ev.bind hs2 (Ev.pos a0 (Ev.pos (by simp; omega) (Ev.now _))))))))), by dsimp only; omega, by dsimp only; omega, by dsimp only; omega, by dsimp only; omega⟩
  · by_cases e1 : t = 1
    · refine ⟨_, _, _, _, _, Ev.bind hv (Ev.bind hu (Ev.bind hq (Ev.bind ht (Ev.neg e0 (Ev.pos e1 (Ev.bind (f := fun k y => _) (Ev.now _) (Ev.bind hs2 (Ev.pos a0 (Ev.pos (by simp; omega) (Ev.now _)))))))))), by dsimp only; omega, by dsimp only; omega, by dsimp only; omega, by dsimp only; omega⟩
    · by_cases e2 : t = 2
      · obtain ⟨s7, hs7, _, _⟩ := pick_v hb (q + 1) 7 (by omega) (by omega) (by omega)
        obtain ⟨s12, hs12, _, _⟩ := pick_v hb (q + 1 + 1) 12 (by omega) (by omega) (by omega)
        refine ⟨_, _, _, _, _, Ev.bind hv (Ev.bind hu (Ev.bind hq (Ev.bind ht (Ev.neg e0 (Ev.neg e1 (Ev.pos e2 (Ev.bind hs7 (Ev.bind hs12 (Ev.pos (by dsimp only; omega) (Ev.now _)))))))))), by (simp only [List.length_append, List.length_cons, List.length_nil]; omega), by (dsimp only; omega), by (dsimp only; omega), by (dsimp only; omega)⟩
      · by_cases e3 : t = 3
        · obtain ⟨s6, hs6, _, _⟩ := pick_v hb (q + 1) 6 (by omega) (by omega) (by omega)
          obtain ⟨s7, hs7, _, _⟩ := pick_v hb (q + 1 + 1) 7 (by omega) (by omega) (by omega)
          refine ⟨_, _, _, _, _, Ev.bind hv (Ev.bind hu (Ev.bind hq (Ev.bind ht (Ev.neg e0 (Ev.neg e1 (Ev.neg e2 (Ev.pos e3 (Ev.bind hs6 (Ev.bind hs7 (Ev.pos (by dsimp only; omega) (Ev.now _))))))))))), by (dsimp only; omega), by (simp only [List.length_append, List.length_cons, List.length_nil]; omega), by (dsimp only; omega), by (dsimp only; omega)⟩
        · exact ⟨_, _, _, _, _, Ev.bind hv (Ev.bind hu (Ev.bind hq (Ev.bind ht (Ev.neg e0 (Ev.neg e1 (Ev.neg e2 (Ev.neg e3 (Ev.now _)))))))), by dsimp only; omega, by dsimp only; omega, by dsimp only; omega, by dsimp only; omega⟩

-- spec_l71Off
def Small3 (l : List Pk) : Prop := ∀ p ∈ l, p.f2.length ≤ 3 ∧ p.f3.length ≤ 3
theorem Small3.add {l : List Pk} (h : Small3 l) {p : Pk} (h2 : p.f2.length ≤ 3) (h3 : p.f3.length ≤ 3) : Small3 (l ++ [p]) := by
  intro q hq
  rcases List.mem_append.1 hq with e | e
  · exact h q e
  · rw [List.mem_singleton.1 e]; exact ⟨h2, h3⟩
theorem Small3.set {l : List Pk} (h : Small3 l) (i : Nat) {p : Pk} (h2 : p.f2.length ≤ 3) (h3 : p.f3.length ≤ 3) : Small3 (l.set i p) := by
  intro q hq
  rcases List.mem_or_eq_of_mem_set hq with e | e
  · exact h q e
  · rw [e]; exact ⟨h2, h3⟩
theorem Small3.fit {l : List Pk} (h : Small3 l) : Fit l := fun p hp => ⟨by have := (h p hp).1; omega, by have := (h p hp).2; omega⟩
theorem Small.three {l : List Pk} (h : Small l) : Small3 l := fun p hp => ⟨by have := (h p hp).1; omega, by have := (h p hp).2; omega⟩
theorem l71Off_v {b : List Int} (hb : BY b) (p : Int) (h0 : 0 ≤ p) (h1 : p ≤ 600000) : ∃ (l : List Pk) (p' : Int), Ev (fun k => spec_l71Off.f k b p) (l, p') ∧ l.length ≤ 128 ∧ Small3 l ∧ p ≤ p' ∧ p' ≤ p + 300 := by
  unfold spec_l71Off.f
  obtain ⟨l, q, hq, l1, l2, q1, q2⟩ := l71Pkgs_v hb p (by omega) (by omega)
  obtain ⟨t, ht, t0, t1⟩ := pick_v hb q 20 (by omega) (by omega) (by omega)
  by_cases e0 : t = 0
  · obtain ⟨n, v, fs, ds, q', ha, f1, d1, g1, g2⟩ := l71Any_v hb (q + 1) (by omega) (by omega)
    exact ⟨_, q', Ev.bind hq (Ev.bind ht (Ev.pos e0 (Ev.bind ha (Ev.pos (by dsimp only; omega) (Ev.now _))))), by (simp only [List.length_append, List.length_singleton]; omega), l2.three.add f1 d1, by omega, by omega⟩
  · by_cases e1 : t = 1
    · by_cases hz : (l.length : Int) > 0
      · obtain ⟨s, hs, s0, s1⟩ := pick_v hb (q + 1) (l.length : Int) (by omega) (by omega) (by omega)
        obtain ⟨n, v, fs, ds, q', ha, f1, d1, g1, g2⟩ := l71Any_v hb (q + 1 + 1) (by omega) (by omega)
        exact ⟨_, q', Ev.bind hq (Ev.bind ht (Ev.neg e0 (Ev.pos e1 (Ev.pos hz (Ev.bind hs (Ev.bind ha (Ev.pos s0 (Ev.pos (by dsimp only; omega) (Ev.now _))))))))), by (simp only [List.length_set]; omega), l2.three.set _ f1 d1, by omega, by omega⟩
      · exact ⟨l, q + 1, Ev.bind hq (Ev.bind ht (Ev.neg e0 (Ev.pos e1 (Ev.neg hz (Ev.now _))))), by omega, l2.three, by omega, by omega⟩
    · exact ⟨l, q + 1, Ev.bind hq (Ev.bind ht (Ev.neg e0 (Ev.neg e1 (Ev.now _)))), by omega, l2.three, by omega, by omega⟩

-- spec_DrawStoreOk
theorem DrawStoreOk_v (l : List Int) (hw : ∀ x ∈ l, (Lit.int .u8 x).wf = true) : ∃ s : List Pk, Ev (fun k => spec_DrawStoreOk.f k l) s ∧ s.length ≤ 129 ∧ Small3 s := by
  obtain ⟨b, ho, hb⟩ := open_v l hw
  obtain ⟨s, p, hr, s1, s2, p1, p2⟩ := l71Off_v hb 0 (by omega) (by omega)
  obtain ⟨v, hv, v0, v1⟩ := pick_v hb p 4 (by omega) (by omega) (by omega)
  unfold spec_DrawStoreOk.f
  by_cases e : v = 0
  · obtain ⟨n, v', fs, ds, q', ha, f1, d1, g1, g2⟩ := l71Any_v hb (p + 1) (by omega) (by omega)
    exact ⟨_, Ev.bind (Ev.con ho) (Ev.bind hr (Ev.bind hv (Ev.pos e (Ev.bind ha (Ev.pos (by dsimp only; omega) (Ev.now _)))))), by (simp only [List.length_append, List.length_singleton]; omega), s2.add f1 d1⟩
  · exact ⟨s, Ev.bind (Ev.con ho) (Ev.bind hr (Ev.bind hv (Ev.neg e (Ev.now _)))), by omega, s2⟩

-- the law
theorem storeOk_iff {l : List Pk} : storeOk l = true ↔ (∀ x ∈ l, pOk x = true) ∧ l.Pairwise (fun x y => lessB x.f0 x.f1 y.f0 y.f1 = true) := by
  unfold storeOk
  rw [allFrom_getD (R := fun x : Pk => pOk x) (Q := fun x y : Pk => lessB x.f0 x.f1 y.f0 y.f1) (z := z29) (storeOk1 l) (fun i _ => rfl)]
  intro a b c h1 h2
  rw [lessB_iff] at h1 h2 ⊢
  omega
theorem storeOk_sub {l s : List Pk} (h : storeOk l = true) (hs : s.Sublist l) : storeOk s = true := by
  obtain ⟨h1, h2⟩ := storeOk_iff.1 h
  exact storeOk_iff.2 ⟨fun x hx => h1 x (hs.mem hx), h2.sublist hs⟩
theorem store_twice {a b : List Pk} {x : Pk} (h : x ∈ b) : storeOk (a ++ [x] ++ b) = false := by
  rw [← Bool.not_eq_true, storeOk_iff]
  rintro ⟨_, hp⟩
  have := (List.pairwise_append.1 hp).2.2 x (List.mem_append_right _ (List.mem_singleton.2 rfl)) x h
  rw [lessB_iff] at this
  omega
theorem Small3.sub {l s : List Pk} (h : Small3 l) (hs : ∀ p ∈ s, p ∈ l) : Small3 s := fun p hp => h p (hs p hp)
theorem FnStoreLess : laws_FnStoreLess.Pure := by
  intro l more hm hs hw hm' hs' hw'
  refine Ev.rounds (g := fun k => laws_FnStoreLess.f k l more) ?_
  unfold laws_FnStoreLess.f
  by_cases h : (l.length : Int) > 1048576
  · refine Ev.pos h (Ev.down ?_)
    simp only [laws_FnStoreLess.j0]
    exact Ev.pos (by simp) (Ev.now _)
  · refine Ev.neg h (Ev.down ?_)
    simp only [laws_FnStoreLess.j0]
    by_cases h' : (more.length : Int) > 1048576
    · exact Ev.pos (decide_eq_true h') (Ev.now _)
    · obtain ⟨s, hd, k1, k2⟩ := DrawStoreOk_v l hw
      refine Ev.neg (by simpa using h') (Ev.bind hd (Ev.bind (impl_StoreOk_v s (by omega) k2.fit) (Ev.bind (spec_StoreOk_v s (by omega) k2.fit) (Ev.neg (by simp) ?_))))
      have no : Ev (fun k => laws_FnStoreLess.j1 k more s (storeOk s) true) true := by
        refine Ev.down ?_
        simp only [laws_FnStoreLess.j1]
        exact Ev.pos trivial (Ev.bind (spec_StoreOk_v s (by omega) k2.fit) (Ev.eq (by simp)))
      cases ok : storeOk s with
      | false =>
        rw [ok] at no
        exact Ev.neg (by simp) no
      | true =>
        rw [ok] at no
        refine Ev.pos rfl ?_
        by_cases hz : ((s.length : Int) == 0) = true
        · exact Ev.re (r' := true) (by rw [hz]; exact no) rfl
        · rw [Bool.not_eq_true] at hz
          have hz' : (s.length : Int) ≠ 0 := beq_eq_false_iff_ne.1 hz
          refine Ev.down ?_
          simp only [laws_FnStoreLess.j1]
          have e0 : 0 ≤ (more.length : Int) % (s.length : Int) := Int.emod_nonneg _ hz'
          have e1 : (more.length : Int) % (s.length : Int) < (s.length : Int) := Int.emod_lt_of_pos _ (by omega)
          obtain ⟨m, hm⟩ := Int.eq_ofNat_of_zero_le e0
          rw [hm] at e1 ⊢
          have ml : m < s.length := by omega
          have ew : wrap64 ((m : Int) + 1) = ((m + 1 : Nat) : Int) := by rw [w64 (by omega) (by omega)]; rfl
          rw [ew, Int.toNat_natCast, Int.toNat_natCast, rdP_nat, getD_of_lt ml]
          refine Ev.neg (by simpa using hz') (Ev.neg hz' (Ev.bind (f := fun k y => _) (Ev.now _) (Ev.pos (by omega) (Ev.pos (by omega) (Ev.bind (f := fun k y => _) (Ev.now _) (Ev.pos (by simp; omega) (Ev.bind (f := fun k y => _) (Ev.now _) ?_)))))))
          refine Ev.pos (by omega) (Ev.pos (by omega) (Ev.bind (f := fun k y => _) (Ev.now _) (Ev.pos (by simp; omega) (Ev.bind (f := fun k y => _) (Ev.now _) (Ev.bind (f := fun k y => _) (Ev.now _) (Ev.pos (by simp; omega) (Ev.bind (f := fun k y => _) (Ev.now _) (Ev.pos (by omega) (Ev.bind (f := fun k y => _) (Ev.now _) (Ev.pos (by simp; omega) (Ev.bind (f := fun k y => _) (Ev.now _) (Ev.bind (f := fun k y => _) (Ev.now _) (Ev.pos (by simp; omega) ?_)))))))))))))
          rw [List.nil_append]
          have sub := cut_sub s m
          have sl := sub.length_le
          have kc : storeOk (s.take m ++ s.drop (m + 1)) = true := storeOk_sub ok sub
          have me : s[m] ∈ s.drop m := by rw [List.drop_eq_getElem_cons ml]; exact List.mem_cons_self
          refine Ev.bind (impl_StoreOk_v _ (by omega) (k2.sub (fun p hp => sub.mem hp)).fit) (Ev.pos kc (Ev.bind (impl_StoreOk_v _ (by simp; omega) (k2.sub (fun p hp => ?_)).fit) (Ev.eq ?_)))
          · rcases List.mem_append.1 hp with e | e
            · rcases List.mem_append.1 e with e | e
              · exact List.mem_of_mem_take e
              · rw [List.mem_singleton.1 e]; exact List.getElem_mem ml
            · exact List.mem_of_mem_drop e
          · rw [show (⟨s[m].f0, s[m].f1, s[m].f2, s[m].f3⟩ : Pk) = s[m] from rfl, store_twice me]; rfl

end Go.Proofs.Ytlmgnnpmcdeclaa.Pure
