/- What is left of the law FnExactStoreOk, proved: the printed function answers true at every argument within the bounds of the statement. No further condition. -/
import Derived.Test.YtlmgnnpmcdeclaaPFnExactStoreOkx4
set_option linter.unusedVariables false
set_option linter.unusedSimpArgs false
namespace Go.Proofs.Ytlmgnnpmcdeclaa
/-- The printed row asks for this word by its short name. -/
theorem PrintWords.sized_ints : type_of% @Go.Proofs.YtlmgnnpmcdeclaaW.PrintWords.sized_ints := @Go.Proofs.YtlmgnnpmcdeclaaW.PrintWords.sized_ints
end Go.Proofs.Ytlmgnnpmcdeclaa
namespace Go.Proofs.Ytlmgnnpmcdeclaa.Pure
open Go.RowKit Go.Proofs.Ytlmgnnpmcdeclaa.PFnExactStoreOk Go.Proofs.YtlmgnnpmcdeclaaW.PrintWords Go.Proofs.YtlmgnnpmcdeclaaW.PrintLast Go.Proofs.YtlmgnnpmcdeclaaW.PrintMore

-- ev
/-! Ways to reckon a printed function from some number of rounds on. -/
theorem Ev.pos {α : Type} {c : Prop} {d : Decidable c} {f g : Nat → Option α} {r : α} (h : c) (e : Ev f r) : Ev (fun k => if c then f k else g k) r := Ev.congr (fun _ => if_pos h) e
theorem Ev.neg {α : Type} {c : Prop} {d : Decidable c} {f g : Nat → Option α} {r : α} (h : ¬ c) (e : Ev g r) : Ev (fun k => if c then f k else g k) r := Ev.congr (fun _ => if_neg h) e
theorem Ev.con {α : Type} {x : Option α} {r : α} (h : x = some r) : Ev (fun _ => x) r := ⟨0, fun _ _ => h⟩
theorem Ev.eq {α : Type} {r r' : α} (h : r' = r) : Ev (fun _ => some r') r := ⟨0, fun _ _ => by rw [h]⟩
theorem Ev.re {α : Type} {g : Nat → Option α} {r r' : α} (e : Ev g r') (h : r' = r) : Ev g r := h ▸ e
theorem Ev.down {α : Type} {g : Nat → Option α} {r : α} (e : Ev (fun k => g (k + 1)) r) : Ev g r := Ev.step (fun _ => rfl) e
theorem Ev.one {α : Type} {g : Nat → Option α} {r r' : α} (a : Ev g r) (b : Ev g r') : r = r' := by
  obtain ⟨K, a⟩ := a
  obtain ⟨K', b⟩ := b
  have h := a (K + K') (by omega)
  rw [b (K + K') (by omega)] at h
  exact (Option.some.inj h).symm
theorem w64 {n : Int} (h0 : -9223372036854775808 ≤ n) (h1 : n ≤ 9223372036854775807) : wrap64 n = n := by unfold wrap64; omega
/-- p of i, i + 1, .., d of them. -/
def allFrom (p : Nat → Bool) : Nat → Nat → Bool
  | 0, _ => true
  | d + 1, i => p i && allFrom p d (i + 1)
theorem allFrom_iff {p : Nat → Bool} : ∀ {d i : Nat}, allFrom p d i = true ↔ ∀ j, i ≤ j → j < i + d → p j = true
  | 0, i => by simp only [allFrom, true_iff]; intro j h1 h2; omega
  | d + 1, i => by
    simp only [allFrom, Bool.and_eq_true, allFrom_iff (d := d)]
    constructor
    · intro h j h1 h2
      rcases Nat.eq_or_lt_of_le h1 with e | e
      · exact e ▸ h.1
      · exact h.2 j e (by omega)
    · intro h
      exact ⟨h i (Nat.le_refl _) (by omega), fun j h1 h2 => h j (by omega) (by omega)⟩
theorem allFrom_congr {p q : Nat → Bool} : ∀ {d i : Nat}, (∀ j, i ≤ j → j < i + d → p j = q j) → allFrom p d i = allFrom q d i
  | 0, _, _ => rfl
  | d + 1, i, h => by
    simp only [allFrom]
    rw [h i (Nat.le_refl _) (by omega), allFrom_congr (fun j h1 h2 => h j (by omega) (by omega))]
/-- A loop that looks whether p holds at each place. -/
theorem check_loop {F : Nat → Int → Option Bool} {p : Nat → Bool} {n : Nat} (hend : Ev (fun k => F k (n : Int)) true)
    (hgo : ∀ i : Nat, i < n → p i = true → ∀ r, Ev (fun k => F k ((i + 1 : Nat) : Int)) r → Ev (fun k => F k (i : Int)) r)
    (hno : ∀ i : Nat, i < n → p i = false → Ev (fun k => F k (i : Int)) false) : ∀ d i : Nat, i + d = n → Ev (fun k => F k (i : Int)) (allFrom p d i)
  | 0, i, h => by
    obtain rfl : i = n := by omega
    exact hend
  | d + 1, i, h => by
    simp only [allFrom]
    cases hp : p i with
    | true => exact hgo i (by omega) hp _ (check_loop hend hgo hno d (i + 1) (by omega))
    | false => exact hno i (by omega) hp
/-- A loop that goes on from place to place. -/
theorem step_loop {α : Type} {F : Nat → Int → Option α} {R : Nat → α} {n : Nat} (hend : Ev (fun k => F k (n : Int)) (R n))
    (hgo : ∀ i : Nat, i < n → Ev (fun k => F k ((i + 1 : Nat) : Int)) (R (i + 1)) → Ev (fun k => F k (i : Int)) (R i)) : ∀ d i : Nat, i + d = n → Ev (fun k => F k (i : Int)) (R i)
  | 0, i, h => by
    obtain rfl : i = n := by omega
    exact hend
  | d + 1, i, h => hgo i (by omega) (step_loop hend hgo d (i + 1) (by omega))
theorem rd_nat (l : List Int) (i : Nat) : rd l (i : Int) = l.getD i 0 := by unfold rd; rw [Int.toNat_natCast]
theorem getD_of_lt {α : Type} {l : List α} {i : Nat} {d : α} (h : i < l.length) : l.getD i d = l[i] := by simp [List.getD, h]
theorem notGe (a b : Int) : (!decide (a ≥ b)) = decide (a < b) := by rw [Bool.eq_iff_iff]; simp
theorem notLe (a b : Int) : (!decide (b ≤ a)) = decide (a < b) := by rw [Bool.eq_iff_iff]; simp

-- metam0
def inB (n a b : Int) : Bool := decide (a ≤ n) && decide (n ≤ b)
theorem inB_iff {n a b : Int} : inB n a b = true ↔ a ≤ n ∧ n ≤ b := by unfold inB; rw [Bool.and_eq_true, decide_eq_true_eq, decide_eq_true_eq]
def lessB (n v m w : Int) : Bool := decide (n < m) || decide (n = m) && decide (v < w)
theorem lessB_iff {n v m w : Int} : lessB n v m w = true ↔ n < m ∨ n = m ∧ v < w := by unfold lessB; simp only [Bool.or_eq_true, Bool.and_eq_true, decide_eq_true_eq]

-- pkgm
/-! Packages: files and what is needed. -/
abbrev Fl := S89
abbrev Dp := S91
instance : DecidableEq S89 := fun x y => decidable_of_iff (x.f0 = y.f0 ∧ x.f1 = y.f1) (by obtain ⟨a, b⟩ := x; obtain ⟨d, e⟩ := y; simp)
instance : DecidableEq S91 := fun x y => decidable_of_iff (x.f0 = y.f0 ∧ x.f1 = y.f1) (by obtain ⟨a, b⟩ := x; obtain ⟨d, e⟩ := y; simp)
theorem rdF_nat (l : List Fl) (i : Nat) : rd_T89 l (i : Int) = l.getD i z89 := by unfold rd_T89; rw [Int.toNat_natCast]
theorem rdD_nat (l : List Dp) (i : Nat) : rd_T91 l (i : Int) = l.getD i z91 := by unfold rd_T91; rw [Int.toNat_natCast]
def fileOk1 (l : List Fl) (i : Nat) : Bool := inB (l.getD i z89).f0 0 5 && (inB (l.getD i z89).f1 0 9 && (i == 0 || decide ((l.getD (i - 1) z89).f0 < (l.getD i z89).f0)))
def depOk1 (name : Int) (l : List Dp) (i : Nat) : Bool := inB (l.getD i z91).f0 1 4 && (!decide ((l.getD i z91).f0 = name) && (inB (l.getD i z91).f1 1 5 && (i == 0 || decide ((l.getD (i - 1) z91).f0 < (l.getD i z91).f0))))
def filesOk (l : List Fl) : Bool := allFrom (fileOk1 l) l.length 0 && decide (l.length ≤ 2)
def depsOk (name : Int) (l : List Dp) : Bool := allFrom (depOk1 name l) l.length 0 && decide (l.length ≤ 2)
def pkgOk (n v : Int) (fs : List Fl) (ds : List Dp) : Bool := inB n 1 4 && (inB v 1 5 && (filesOk fs && depsOk n ds))

-- storem
abbrev Pk := S29
theorem rdP_nat (l : List Pk) (i : Nat) : rd_T29 l (i : Int) = l.getD i z29 := by unfold rd_T29; rw [Int.toNat_natCast]
def pOk (p : Pk) : Bool := pkgOk p.f0 p.f1 p.f2 p.f3
def storeOk1 (l : List Pk) (i : Nat) : Bool := pOk (l.getD i z29) && (i == 0 || lessB (l.getD (i - 1) z29).f0 (l.getD (i - 1) z29).f1 (l.getD i z29).f0 (l.getD i z29).f1)
def storeOk (l : List Pk) : Bool := allFrom (storeOk1 l) l.length 0
/-- No list inside is too long. -/
def Fit (l : List Pk) : Prop := ∀ p ∈ l, p.f2.length ≤ 1048577 ∧ p.f3.length ≤ 1048577
theorem Fit.get {l : List Pk} (h : Fit l) {i : Nat} (hi : i < l.length) : (l.getD i z29).f2.length ≤ 1048577 ∧ (l.getD i z29).f3.length ≤ 1048577 := by rw [getD_of_lt hi]; exact h _ (List.getElem_mem _)

-- settake
theorem set_map_take {α β : Type} (g : α → β) (l : List α) (z : β) (i : Nat) (hi : i < l.length) : ((l.take i).map g ++ List.replicate (l.length - i) z).set i (g l[i]) = (l.take (i + 1)).map g ++ List.replicate (l.length - (i + 1)) z := by
  apply List.ext_getElem
  · simp only [List.length_set, List.length_append, List.length_map, List.length_take, List.length_replicate]; omega
  · intro j h1 h2
    simp only [List.length_set, List.length_append, List.length_map, List.length_take, List.length_replicate] at h1
    rw [List.getElem_set]
    by_cases hij : i = j
    · subst hij
      rw [if_pos rfl, List.getElem_append_left (by simp; omega)]
      simp
    · rw [if_neg hij]
      by_cases hlt : j < i
      · rw [List.getElem_append_left (by simp; omega), List.getElem_append_left (by simp; omega)]; simp
      · rw [List.getElem_append_right (by simp; omega), List.getElem_append_right (by simp; omega)]; simp

-- laws_toFileS
abbrev LFl := S123
def toF (x : LFl) : Fl := ⟨x.f0, x.f1⟩
theorem toFileS_v (l : List LFl) (hl : l.length ≤ 1048577) : Ev (fun k => laws_toFileS.f k l) (l.map toF) := by
  unfold laws_toFileS.f
  refine Ev.pos (by omega) (Ev.pos (by omega) ?_)
  rw [Int.toNat_natCast]
  have := step_loop (F := fun k i => laws_toFileS.l0 k l ((l.take i.toNat).map toF ++ List.replicate (l.length - i.toNat) z89) i) (R := fun _ => l.map toF) (n := l.length) ?_ ?_ l.length 0 (by omega)
  · simpa using this
  · refine Ev.down ?_
    simp only [laws_toFileS.l0]
    refine Ev.neg (by omega) ?_
    simp only [Int.toNat_natCast, List.take_length, Nat.sub_self, List.replicate_zero, List.append_nil]
    exact Ev.now _
  · intro i hi hr
    refine Ev.down ?_
    simp only [laws_toFileS.l0]
    refine Ev.pos (by omega) (Ev.pos (by omega) (Ev.bind (Ev.con rfl) (Ev.pos (by simp only [Int.toNat_natCast, List.length_append, List.length_map, List.length_take, List.length_replicate]; omega) ?_)))
    rw [w64 (by omega) (by omega)]
    simp only [Int.toNat_natCast] at hr ⊢
    have e := set_map_take toF l z89 i hi
    have e2 : toF l[i] = ⟨(rd_T123 l i).f0, (rd_T123 l i).f1⟩ := by
      unfold rd_T123
      rw [Int.toNat_natCast, getD_of_lt hi]; rfl
    rw [e2] at e
    rw [e]
    exact hr
theorem szFileS_v (l : List S123) (left : Int) (hl : l.length ≤ 9223372036854775807) (h0 : 0 ≤ left) (h1 : left ≤ 1048576) : laws_szFileS.f l left = some (if (l.length : Int) ≤ left then left - l.length else -1) := by
  unfold laws_szFileS.f
  rw [w64 (by omega) (by omega)]
  by_cases h : (l.length : Int) ≤ left
  · rw [if_neg (by omega), if_pos h]
  · rw [if_pos (by omega), if_neg h]

-- laws_toDepS
abbrev LDp := S125
def toD (x : LDp) : Dp := ⟨x.f0, x.f1⟩
theorem toDepS_v (l : List LDp) (hl : l.length ≤ 1048577) : Ev (fun k => laws_toDepS.f k l) (l.map toD) := by
  unfold laws_toDepS.f
  refine Ev.pos (by omega) (Ev.pos (by omega) ?_)
  rw [Int.toNat_natCast]
  have := step_loop (F := fun k i => laws_toDepS.l0 k l ((l.take i.toNat).map toD ++ List.replicate (l.length - i.toNat) z91) i) (R := fun _ => l.map toD) (n := l.length) ?_ ?_ l.length 0 (by omega)
  · simpa using this
  · refine Ev.down ?_
    simp only [laws_toDepS.l0]
    refine Ev.neg (by omega) ?_
    simp only [Int.toNat_natCast, List.take_length, Nat.sub_self, List.replicate_zero, List.append_nil]
    exact Ev.now _
  · intro i hi hr
    refine Ev.down ?_
    simp only [laws_toDepS.l0]
    refine Ev.pos (by omega) (Ev.pos (by omega) (Ev.bind (Ev.con rfl) (Ev.pos (by simp only [Int.toNat_natCast, List.length_append, List.length_map, List.length_take, List.length_replicate]; omega) ?_)))
    rw [w64 (by omega) (by omega)]
    simp only [Int.toNat_natCast] at hr ⊢
    have e := set_map_take toD l z91 i hi
    have e2 : toD l[i] = ⟨(rd_T125 l i).f0, (rd_T125 l i).f1⟩ := by
      unfold rd_T125
      rw [Int.toNat_natCast, getD_of_lt hi]; rfl
    rw [e2] at e
    rw [e]
    exact hr
theorem szDepS_v (l : List S125) (left : Int) (hl : l.length ≤ 9223372036854775807) (h0 : 0 ≤ left) (h1 : left ≤ 1048576) : laws_szDepS.f l left = some (if (l.length : Int) ≤ left then left - l.length else -1) := by
  unfold laws_szDepS.f
  rw [w64 (by omega) (by omega)]
  by_cases h : (l.length : Int) ≤ left
  · rw [if_neg (by omega), if_pos h]
  · rw [if_pos (by omega), if_neg h]

-- laws_toPkg
theorem toPkg_v (a b : Int) (fs : List LFl) (ds : List LDp) (hf : fs.length ≤ 1048577) (hd : ds.length ≤ 1048577) : Ev (fun k => laws_toPkg.f k a b fs ds) (a, b, fs.map toF, ds.map toD) := by
  unfold laws_toPkg.f
  exact Ev.bind (toFileS_v fs hf) (Ev.bind (toDepS_v ds hd) (Ev.now _))

-- laws_szPkg
theorem szPkg_v (a b : Int) (fs : List LFl) (ds : List LDp) (left : Int) (hf : fs.length ≤ 9223372036854775807) (hd : ds.length ≤ 9223372036854775807) (h0 : 0 ≤ left) (h1 : left ≤ 1048576) : laws_szPkg.f a b fs ds left = some (if (fs.length : Int) ≤ left ∧ (ds.length : Int) ≤ left - fs.length then left - fs.length - ds.length else -1) := by
  unfold laws_szPkg.f
  rw [szFileS_v fs left hf h0 h1, Option.bind_some]
  by_cases h : (fs.length : Int) ≤ left
  · rw [if_pos h, if_neg (by omega), szDepS_v ds _ hd (by omega) (by omega), Option.bind_some]
    by_cases h2 : (ds.length : Int) ≤ left - fs.length
    · rw [if_pos h2, if_neg (by omega), if_pos ⟨h, h2⟩]
    · rw [if_neg h2, if_pos (by omega), if_neg (fun e => h2 e.2)]
  · rw [if_neg h, if_pos (by omega), if_neg (fun e => h e.1)]

-- laws_toPkgS
abbrev LPk := S79
def toP (p : LPk) : Pk := ⟨p.f0, p.f1, p.f2.map toF, p.f3.map toD⟩
def LFit (l : List LPk) : Prop := ∀ p ∈ l, p.f2.length ≤ 1048576 ∧ p.f3.length ≤ 1048576
theorem toPkgS_v (l : List LPk) (hl : l.length ≤ 1048577) (hF : LFit l) : Ev (fun k => laws_toPkgS.f k l) (l.map toP) := by
  unfold laws_toPkgS.f
  refine Ev.pos (by omega) (Ev.pos (by omega) ?_)
  rw [Int.toNat_natCast]
  have := step_loop (F := fun k i => laws_toPkgS.l0 k l ((l.take i.toNat).map toP ++ List.replicate (l.length - i.toNat) z29) i) (R := fun _ => l.map toP) (n := l.length) ?_ ?_ l.length 0 (by omega)
  · simpa using this
  · refine Ev.down ?_
    simp only [laws_toPkgS.l0]
    refine Ev.neg (by omega) ?_
    simp only [Int.toNat_natCast, List.take_length, Nat.sub_self, List.replicate_zero, List.append_nil]
    exact Ev.now _
  · intro i hi hr
    have e3 : rd_T79 l i = l[i] := by unfold rd_T79; rw [Int.toNat_natCast, getD_of_lt hi]
    obtain ⟨b1, b2⟩ := hF l[i] (List.getElem_mem _)
    refine Ev.down ?_
    simp only [laws_toPkgS.l0]
    rw [e3]
    refine Ev.pos (by omega) (Ev.pos (by omega) (Ev.bind (toPkg_v _ _ _ _ (by omega) (by omega)) (Ev.pos (by simp only [Int.toNat_natCast, List.length_append, List.length_map, List.length_take, List.length_replicate]; omega) ?_)))
    rw [w64 (by omega) (by omega)]
    simp only [Int.toNat_natCast] at hr ⊢
    have e := set_map_take toP l z29 i hi
    rw [show toP l[i] = ⟨l[i].f0, l[i].f1, l[i].f2.map toF, l[i].f3.map toD⟩ from rfl] at e
    rw [e]
    exact hr
theorem szPkgS_v (l : List LPk) (hl : l.length ≤ 9223372036854775807) (hF : ∀ p ∈ l, p.f2.length ≤ 9223372036854775807 ∧ p.f3.length ≤ 9223372036854775807) : ∃ r, Ev (fun k => laws_szPkgS.f k l 1048576) r ∧ (¬ r < 0 → l.length ≤ 1048576 ∧ LFit l) := by
  unfold laws_szPkgS.f
  rw [w64 (by omega) (by omega)]
  by_cases h : (l.length : Int) ≤ 1048576
  · have loop : ∀ d i : Nat, i + d = l.length → ∀ left : Int, 0 ≤ left → left ≤ 1048576 → ∃ r, Ev (fun k => laws_szPkgS.l0 k l left (i : Int)) r ∧ (¬ r < 0 → ∀ j (hj : j < l.length), i ≤ j → (l[j]'hj).f2.length ≤ 1048576 ∧ (l[j]'hj).f3.length ≤ 1048576) := by
      intro d
      induction d with
      | zero =>
        intro i hi left h0 h1
        refine ⟨left, Ev.down ?_, fun _ j hj hij => by omega⟩
        simp only [laws_szPkgS.l0]
        exact Ev.neg (by omega) (Ev.now _)
      | succ d ih =>
        intro i hi left h0 h1
        have hil : i < l.length := by omega
        have e3 : rd_T79 l i = l[i] := by unfold rd_T79; rw [Int.toNat_natCast, getD_of_lt hil]
        obtain ⟨b1, b2⟩ := hF l[i] (List.getElem_mem _)
        have sz := szPkg_v l[i].f0 l[i].f1 l[i].f2 l[i].f3 left b1 b2 h0 h1
        by_cases c : (l[i].f2.length : Int) ≤ left ∧ (l[i].f3.length : Int) ≤ left - l[i].f2.length
        · rw [if_pos c] at sz
          obtain ⟨r, hr, hh⟩ := ih (i + 1) (by omega) (left - l[i].f2.length - l[i].f3.length) (by omega) (by omega)
          refine ⟨r, Ev.down ?_, fun hr0 j hj hij => ?_⟩
          · simp only [laws_szPkgS.l0]
            rw [e3]
            refine Ev.pos (by omega) (Ev.pos (by omega) (Ev.bind (Ev.con sz) (Ev.neg (by omega) ?_)))
            rw [w64 (by omega) (by omega)]
            exact hr
          · rcases Nat.eq_or_lt_of_le hij with e | e
            · subst e; omega
            · exact hh hr0 j hj e
        · rw [if_neg c] at sz
          refine ⟨-1, Ev.down ?_, fun hr0 => absurd (by omega) hr0⟩
          simp only [laws_szPkgS.l0]
          rw [e3]
          exact Ev.pos (by omega) (Ev.pos (by omega) (Ev.bind (Ev.con sz) (Ev.pos (by omega) (Ev.now _))))
    obtain ⟨r, hr, hh⟩ := loop l.length 0 (by omega) (1048576 - l.length) (by omega) (by omega)
    refine ⟨r, Ev.neg (by omega) hr, fun hr0 => ⟨by omega, fun p hp => ?_⟩⟩
    obtain ⟨j, hj, rfl⟩ := List.getElem_of_mem hp
    exact hh hr0 j hj (Nat.zero_le _)
  · exact ⟨-1, Ev.pos (by omega) (Ev.now _), fun hr0 => absurd (by omega) hr0⟩
theorem fit_map {l : List LPk} (h : LFit l) : Fit (l.map toP) := by
  intro p hp
  obtain ⟨q, hq, rfl⟩ := List.mem_map.1 hp
  have := h q hq
  simp only [toP, List.length_map]
  omega

-- laws_eqFileS
theorem eqFile_v (x y : Fl) : laws_eqFile.f x.f0 x.f1 y.f0 y.f1 = some (decide (x = y)) := by
  obtain ⟨a, b⟩ := x
  obtain ⟨d, e⟩ := y
  unfold laws_eqFile.f
  by_cases h1 : a = d
  · rw [if_pos h1]
    by_cases h2 : b = e
    · rw [if_pos h2, decide_eq_true (by rw [h1, h2])]
    · rw [if_neg h2, decide_eq_false (fun h => h2 (S89.mk.inj h).2)]
  · rw [if_neg h1, decide_eq_false (fun h => h1 (S89.mk.inj h).1)]
theorem eqFileS_v (a b : List Fl) (hl : a.length ≤ 17592186044416) : Ev (fun k => laws_eqFileS.f k a b) (decide (a = b)) := by
  unfold laws_eqFileS.f
  by_cases h : a.length = b.length
  · refine Ev.pos (by omega) ?_
    refine Ev.re (check_loop (F := fun k i => laws_eqFileS.l0 k a b i) (p := fun i => decide (a.getD i z89 = b.getD i z89)) (n := a.length) ?_ ?_ ?_ a.length 0 (by omega)) ?_
    · refine Ev.down ?_
      simp only [laws_eqFileS.l0]
      exact Ev.neg (by omega) (Ev.now _)
    · intro i hi hp r hr
      refine Ev.down ?_
      simp only [laws_eqFileS.l0]
      rw [rdF_nat, rdF_nat]
      refine Ev.pos (by omega) (Ev.pos (by omega) (Ev.pos (by omega) (Ev.bind (Ev.con (eqFile_v _ _)) (Ev.pos hp ?_))))
      rw [w64 (by omega) (by omega)]
      exact hr
    · intro i hi hp
      refine Ev.down ?_
      simp only [laws_eqFileS.l0]
      rw [rdF_nat, rdF_nat]
      exact Ev.pos (by omega) (Ev.pos (by omega) (Ev.pos (by omega) (Ev.bind (Ev.con (eqFile_v _ _)) (Ev.neg (by rw [hp]; simp) (Ev.now _)))))
    · rw [Bool.eq_iff_iff, allFrom_iff, decide_eq_true_eq]
      constructor
      · intro hh
        refine List.ext_getElem h (fun i h1 h2 => ?_)
        have := of_decide_eq_true (hh i (by omega) (by omega))
        rwa [getD_of_lt h1, getD_of_lt h2] at this
      · rintro rfl j - -
        simp
  · refine Ev.neg (by omega) (Ev.eq ?_)
    symm
    rw [decide_eq_false_iff_not]
    exact fun e => h (by rw [e])

-- laws_eqDepS
theorem eqDep_v (x y : Dp) : laws_eqDep.f x.f0 x.f1 y.f0 y.f1 = some (decide (x = y)) := by
  obtain ⟨a, b⟩ := x
  obtain ⟨d, e⟩ := y
  unfold laws_eqDep.f
  by_cases h1 : a = d
  · rw [if_pos h1]
    by_cases h2 : b = e
    · rw [if_pos h2, decide_eq_true (by rw [h1, h2])]
    · rw [if_neg h2, decide_eq_false (fun h => h2 (S91.mk.inj h).2)]
  · rw [if_neg h1, decide_eq_false (fun h => h1 (S91.mk.inj h).1)]
theorem eqDepS_v (a b : List Dp) (hl : a.length ≤ 17592186044416) : Ev (fun k => laws_eqDepS.f k a b) (decide (a = b)) := by
  unfold laws_eqDepS.f
  by_cases h : a.length = b.length
  · refine Ev.pos (by omega) ?_
    refine Ev.re (check_loop (F := fun k i => laws_eqDepS.l0 k a b i) (p := fun i => decide (a.getD i z91 = b.getD i z91)) (n := a.length) ?_ ?_ ?_ a.length 0 (by omega)) ?_
    · refine Ev.down ?_
      simp only [laws_eqDepS.l0]
      exact Ev.neg (by omega) (Ev.now _)
    · intro i hi hp r hr
      refine Ev.down ?_
      simp only [laws_eqDepS.l0]
      rw [rdD_nat, rdD_nat]
      refine Ev.pos (by omega) (Ev.pos (by omega) (Ev.pos (by omega) (Ev.bind (Ev.con (eqDep_v _ _)) (Ev.pos hp ?_))))
      rw [w64 (by omega) (by omega)]
      exact hr
    · intro i hi hp
      refine Ev.down ?_
      simp only [laws_eqDepS.l0]
      rw [rdD_nat, rdD_nat]
      exact Ev.pos (by omega) (Ev.pos (by omega) (Ev.pos (by omega) (Ev.bind (Ev.con (eqDep_v _ _)) (Ev.neg (by rw [hp]; simp) (Ev.now _)))))
    · rw [Bool.eq_iff_iff, allFrom_iff, decide_eq_true_eq]
      constructor
      · intro hh
        refine List.ext_getElem h (fun i h1 h2 => ?_)
        have := of_decide_eq_true (hh i (by omega) (by omega))
        rwa [getD_of_lt h1, getD_of_lt h2] at this
      · rintro rfl j - -
        simp
  · refine Ev.neg (by omega) (Ev.eq ?_)
    symm
    rw [decide_eq_false_iff_not]
    exact fun e => h (by rw [e])

-- laws_eqPkg
theorem eqPkg_v (a b : Int) (fs : List Fl) (ds : List Dp) (a' b' : Int) (fs' : List Fl) (ds' : List Dp) (hf : fs.length ≤ 17592186044416) (hd : ds.length ≤ 17592186044416) : Ev (fun k => laws_eqPkg.f k a b fs ds a' b' fs' ds') (decide (a = a' ∧ b = b' ∧ fs = fs' ∧ ds = ds')) := by
  unfold laws_eqPkg.f
  by_cases h1 : a = a'
  · refine Ev.pos h1 ?_
    by_cases h2 : b = b'
    · refine Ev.pos h2 (Ev.bind (eqFileS_v fs fs' hf) ?_)
      by_cases h3 : fs = fs'
      · refine Ev.pos (decide_eq_true h3) (Ev.bind (eqDepS_v ds ds' hd) ?_)
        by_cases h4 : ds = ds'
        · exact Ev.pos (decide_eq_true h4) (Ev.eq (by simp [h1, h2, h3, h4]))
        · exact Ev.neg (by simpa using h4) (Ev.eq (by simp [h4]))
      · exact Ev.neg (by simpa using h3) (Ev.eq (by simp [h3]))
    · exact Ev.neg h2 (Ev.eq (by simp [h2]))
  · exact Ev.neg h1 (Ev.eq (by simp [h1]))

-- laws_eqPkgS
theorem eqPkgS_same (l : List Pk) (hl : l.length ≤ 17592186044416) (hF : Fit l) : Ev (fun k => laws_eqPkgS.f k l l) true := by
  unfold laws_eqPkgS.f
  refine Ev.pos rfl (step_loop (F := fun k i => laws_eqPkgS.l0 k l l i) (R := fun _ => true) (n := l.length) ?_ ?_ l.length 0 (by omega))
  · refine Ev.down ?_
    simp only [laws_eqPkgS.l0]
    exact Ev.neg (by omega) (Ev.now _)
  · intro i hi hr
    obtain ⟨f1, f2⟩ := hF.get hi
    refine Ev.down ?_
    simp only [laws_eqPkgS.l0]
    rw [rdP_nat]
    refine Ev.pos (by omega) (Ev.pos (by omega) (Ev.pos (by omega) (Ev.bind (eqPkg_v _ _ _ _ _ _ _ _ (by omega) (by omega)) (Ev.pos (by simp) ?_))))
    rw [w64 (by omega) (by omega)]
    exact hr

-- spec_l6In
theorem l6In_v (a b c : Int) : spec_l6In.f a b c = some (decide (b ≤ a) && decide (a ≤ c)) := by
  unfold spec_l6In.f
  by_cases h : a ≥ b
  · rw [if_pos h]; simp; omega
  · rw [if_neg h]; simp; omega

-- spec_l1Files
theorem l1Files_v (l : List Fl) (hl : l.length ≤ 17592186044416) : Ev (fun k => spec_l1Files.f k l) (filesOk l) := by
  have l6In_v : ∀ a b c : Int, spec_l6In.f a b c = some (inB a b c) := l6In_v
  unfold spec_l1Files.f filesOk
  have yes : ∀ i : Int, Ev (fun k => spec_l1Files.j1 k l i true) false := by
    intro i
    refine Ev.down ?_
    simp only [spec_l1Files.j1]
    exact Ev.pos trivial (Ev.now _)
  have loop : ∀ d i : Nat, i + d = l.length → Ev (fun k => spec_l1Files.l0 k l (i : Int)) (allFrom (fileOk1 l) d i && decide (l.length ≤ 2)) := by
    intro d
    induction d with
    | zero =>
      intro i hi
      refine Ev.down ?_
      simp only [spec_l1Files.l0, allFrom]
      refine Ev.neg (by omega) (Ev.eq ?_)
      rw [Bool.true_and, Bool.eq_iff_iff, decide_eq_true_eq, decide_eq_true_eq]; omega
    | succ d ih =>
      intro i hi
      have hr := ih (i + 1) (by omega)
      have no : ∀ b : Bool, Ev (fun k => spec_l1Files.j1 k l i b) (!b && (allFrom (fileOk1 l) d (i + 1) && decide (l.length ≤ 2))) := by
        intro b
        cases b with
        | true => exact yes _
        | false =>
          refine Ev.down ?_
          simp only [spec_l1Files.j1]
          refine Ev.neg (by simp) ?_
          rw [w64 (by omega) (by omega), Bool.not_false, Bool.true_and]
          exact hr
      refine Ev.down ?_
      simp only [spec_l1Files.l0, allFrom, fileOk1]
      rw [rdF_nat]
      refine Ev.pos (by omega) (Ev.pos (by omega) (Ev.bind (Ev.con (l6In_v _ _ _)) ?_))
      cases inB (l.getD i z89).f0 0 5 with
      | false => exact Ev.neg (by simp) (Ev.re (yes _) (by simp))
      | true =>
        refine Ev.pos rfl (Ev.bind (Ev.con (l6In_v _ _ _)) ?_)
        cases inB (l.getD i z89).f1 0 9 with
        | false => exact Ev.neg (by simp) (Ev.re (yes _) (by simp))
        | true =>
          refine Ev.pos rfl ?_
          by_cases h0 : i = 0
          · refine Ev.neg (by omega) (Ev.re (no _) ?_)
            rw [h0]; simp
          · refine Ev.pos (by omega) ?_
            rw [w64 (n := (i : Int) - 1) (by omega) (by omega)]
            refine Ev.pos (by omega) (Ev.pos (by omega) (Ev.re (no _) ?_))
            rw [show (i : Int) - 1 = ((i - 1 : Nat) : Int) by omega, rdF_nat, show (i == 0) = false by simpa using h0]
            simp only [Bool.true_and, Bool.false_or]
            rw [notGe]
            simp only [Bool.and_assoc]
  exact loop l.length 0 (by omega)

-- spec_l1Deps
theorem l1Deps_v (name : Int) (l : List Dp) (hl : l.length ≤ 17592186044416) : Ev (fun k => spec_l1Deps.f k name l) (depsOk name l) := by
  have l6In_v : ∀ a b c : Int, spec_l6In.f a b c = some (inB a b c) := l6In_v
  unfold spec_l1Deps.f depsOk
  have yes : ∀ i : Int, Ev (fun k => spec_l1Deps.j1 k name l i true) false := by
    intro i
    refine Ev.down ?_
    simp only [spec_l1Deps.j1]
    exact Ev.pos trivial (Ev.now _)
  have loop : ∀ d i : Nat, i + d = l.length → Ev (fun k => spec_l1Deps.l0 k name l (i : Int)) (allFrom (depOk1 name l) d i && decide (l.length ≤ 2)) := by
    intro d
    induction d with
    | zero =>
      intro i hi
      refine Ev.down ?_
      simp only [spec_l1Deps.l0, allFrom]
      refine Ev.neg (by omega) (Ev.eq ?_)
      rw [Bool.true_and, Bool.eq_iff_iff, decide_eq_true_eq, decide_eq_true_eq]; omega
    | succ d ih =>
      intro i hi
      have hr := ih (i + 1) (by omega)
      have no : ∀ b : Bool, Ev (fun k => spec_l1Deps.j1 k name l i b) (!b && (allFrom (depOk1 name l) d (i + 1) && decide (l.length ≤ 2))) := by
        intro b
        cases b with
        | true => exact yes _
        | false =>
          refine Ev.down ?_
          simp only [spec_l1Deps.j1]
          refine Ev.neg (by simp) ?_
          rw [w64 (by omega) (by omega), Bool.not_false, Bool.true_and]
          exact hr
      refine Ev.down ?_
      simp only [spec_l1Deps.l0, allFrom, depOk1]
      rw [rdD_nat]
      refine Ev.pos (by omega) (Ev.pos (by omega) (Ev.bind (Ev.con (l6In_v _ _ _)) ?_))
      cases inB (l.getD i z91).f0 1 4 with
      | false => exact Ev.neg (by simp) (Ev.re (yes _) (by simp))
      | true =>
        refine Ev.pos rfl ?_
        by_cases e : (l.getD i z91).f0 = name
        · exact Ev.pos e (Ev.re (yes _) (by rw [decide_eq_true e]; simp))
        · rw [decide_eq_false e]
          refine Ev.neg e (Ev.bind (Ev.con (l6In_v _ _ _)) ?_)
          cases inB (l.getD i z91).f1 1 5 with
          | false => exact Ev.neg (by simp) (Ev.re (yes _) (by simp))
          | true =>
            refine Ev.pos rfl ?_
            by_cases h0 : i = 0
            · refine Ev.neg (by omega) (Ev.re (no _) ?_)
              rw [h0]; simp
            · refine Ev.pos (by omega) ?_
              rw [w64 (n := (i : Int) - 1) (by omega) (by omega)]
              refine Ev.pos (by omega) (Ev.pos (by omega) (Ev.re (no _) ?_))
              rw [show (i : Int) - 1 = ((i - 1 : Nat) : Int) by omega, rdD_nat, show (i == 0) = false by simpa using h0]
              simp only [Bool.true_and, Bool.false_or, Bool.not_false]
              rw [notGe]
              simp only [Bool.and_assoc]
  exact loop l.length 0 (by omega)

-- spec_PkgOk
theorem spec_PkgOk_v (n v : Int) (fs : List Fl) (ds : List Dp) (hf : fs.length ≤ 17592186044416) (hd : ds.length ≤ 17592186044416) : Ev (fun k => spec_PkgOk.f k n v fs ds) (pkgOk n v fs ds) := by
  have l6In_v : ∀ a b c : Int, spec_l6In.f a b c = some (inB a b c) := l6In_v
  unfold spec_PkgOk.f pkgOk
  refine Ev.bind (Ev.con (l6In_v _ _ _)) ?_
  cases inB n 1 4 with
  | false => exact Ev.neg (by simp) (Ev.now _)
  | true =>
    refine Ev.pos rfl (Ev.bind (Ev.con (l6In_v _ _ _)) ?_)
    cases inB v 1 5 with
    | false => exact Ev.neg (by simp) (Ev.now _)
    | true =>
      refine Ev.pos rfl (Ev.bind (l1Files_v fs hf) ?_)
      cases filesOk fs with
      | false => exact Ev.neg (by simp) (Ev.now _)
      | true => exact Ev.pos rfl (Ev.bind (l1Deps_v n ds hd) (Ev.eq (by simp)))

-- spec_l3Less
theorem l3Less_v (n v m w : Int) : spec_l3Less.f n v m w = some (lessB n v m w) := by
  unfold spec_l3Less.f lessB
  by_cases h : n < m
  · rw [if_pos h, decide_eq_true h]; rfl
  · rw [if_neg h, decide_eq_false h]
    by_cases e : n = m
    · rw [if_pos e, decide_eq_true e]; rfl
    · rw [if_neg e, decide_eq_false e]; rfl

-- spec_l3Pkgs
theorem l3Pkgs_v (l : List Pk) (hl : l.length ≤ 17592186044416) (hF : Fit l) : Ev (fun k => spec_l3Pkgs.f k l) (storeOk l) := by
  unfold spec_l3Pkgs.f
  refine check_loop (F := fun k i => spec_l3Pkgs.l0 k l i) (p := storeOk1 l) (n := l.length) ?_ ?_ ?_ l.length 0 (by omega)
  · refine Ev.down ?_
    simp only [spec_l3Pkgs.l0]
    exact Ev.neg (by omega) (Ev.now _)
  · intro i hi hp r hr
    obtain ⟨f1, f2⟩ := hF.get hi
    unfold storeOk1 pOk at hp
    simp only [Bool.and_eq_true, Bool.or_eq_true, beq_iff_eq] at hp
    obtain ⟨h1, h2⟩ := hp
    refine Ev.down ?_
    simp only [spec_l3Pkgs.l0]
    rw [rdP_nat]
    refine Ev.pos (by omega) (Ev.pos (by omega) (Ev.bind (spec_PkgOk_v _ _ _ _ (by omega) (by omega)) (Ev.pos h1 ?_)))
    rw [w64 (n := (i : Int) + 1) (by omega) (by omega)]
    by_cases h0 : i = 0
    · exact Ev.neg (by omega) hr
    · refine Ev.pos (by omega) ?_
      rw [w64 (n := (i : Int) - 1) (by omega) (by omega)]
      refine Ev.pos (by omega) (Ev.pos (by omega) (Ev.bind (Ev.con (l3Less_v _ _ _ _)) ?_))
      rw [show (i : Int) - 1 = ((i - 1 : Nat) : Int) by omega, rdP_nat]
      exact Ev.pos (h2.resolve_left h0) hr
  · intro i hi hp
    obtain ⟨f1, f2⟩ := hF.get hi
    unfold storeOk1 pOk at hp
    refine Ev.down ?_
    simp only [spec_l3Pkgs.l0]
    rw [rdP_nat]
    refine Ev.pos (by omega) (Ev.pos (by omega) (Ev.bind (spec_PkgOk_v _ _ _ _ (by omega) (by omega)) ?_))
    cases h1 : pkgOk (l.getD i z29).f0 (l.getD i z29).f1 (l.getD i z29).f2 (l.getD i z29).f3 with
    | false => exact Ev.neg (by simp) (Ev.now _)
    | true =>
      rw [h1] at hp
      simp only [Bool.true_and, Bool.or_eq_false_iff, beq_eq_false_iff_ne] at hp
      refine Ev.pos rfl (Ev.pos (by omega) ?_)
      rw [w64 (n := (i : Int) - 1) (by omega) (by omega)]
      refine Ev.pos (by omega) (Ev.pos (by omega) (Ev.bind (Ev.con (l3Less_v _ _ _ _)) ?_))
      rw [show (i : Int) - 1 = ((i - 1 : Nat) : Int) by omega, rdP_nat]
      exact Ev.neg (by rw [hp.2]; simp) (Ev.now _)

-- spec_StoreOk
theorem spec_StoreOk_v (l : List Pk) (hl : l.length ≤ 17592186044416) (hF : Fit l) : Ev (fun k => spec_StoreOk.f k l) (storeOk l) := by
  unfold spec_StoreOk.f
  exact Ev.bind (l3Pkgs_v l hl hF) (Ev.now _)

-- impl_in
theorem in_v (a b c : Int) : impl_in.f a b c = some (decide (b ≤ a) && decide (a ≤ c)) := by
  unfold impl_in.f
  by_cases h : a ≥ b
  · rw [if_pos h]; simp; omega
  · rw [if_neg h]; simp; omega

-- impl_isName
theorem isName_v (a : Int) : impl_isName.f a = some (inB a 1 4) := by unfold impl_isName.f; rw [in_v]; rfl

-- impl_isVer
theorem isVer_v (a : Int) : impl_isVer.f a = some (inB a 1 5) := by unfold impl_isVer.f; rw [in_v]; rfl

-- impl_PkgOk
theorem impl_PkgOk_v (n v : Int) (fs : List Fl) (ds : List Dp) (hf : fs.length ≤ 17592186044416) (hd : ds.length ≤ 17592186044416) : Ev (fun k => impl_PkgOk.f k n v fs ds) (pkgOk n v fs ds) := by
  have in_v : ∀ a b c : Int, impl_in.f a b c = some (inB a b c) := in_v
  have yes0 : Ev (fun k => impl_PkgOk.j0 k true n v fs ds) false := by
    refine Ev.down ?_
    simp only [impl_PkgOk.j0]
    exact Ev.pos trivial (Ev.now _)
  have yes2 : ∀ i : Int, Ev (fun k => impl_PkgOk.j2 k fs fs.length i true n v fs ds) false := by
    intro i
    refine Ev.down ?_
    simp only [impl_PkgOk.j2]
    exact Ev.pos trivial (Ev.now _)
  have yes4 : ∀ i : Int, Ev (fun k => impl_PkgOk.j4 k ds ds.length i true n v fs ds) false := by
    intro i
    refine Ev.down ?_
    simp only [impl_PkgOk.j4]
    exact Ev.pos trivial (Ev.now _)
  have deps : ∀ d i : Nat, i + d = ds.length → Ev (fun k => impl_PkgOk.l1 k ds ds.length (i : Int) n v fs ds) (allFrom (depOk1 n ds) d i) := by
    intro d
    induction d with
    | zero =>
      intro i hi
      refine Ev.down ?_
      simp only [impl_PkgOk.l1, allFrom]
      exact Ev.neg (by omega) (Ev.now _)
    | succ d ih =>
      intro i hi
      have hr := ih (i + 1) (by omega)
      have no : ∀ b : Bool, Ev (fun k => impl_PkgOk.j4 k ds ds.length i b n v fs ds) (!b && allFrom (depOk1 n ds) d (i + 1)) := by
        intro b
        cases b with
        | true => exact yes4 _
        | false =>
          refine Ev.down ?_
          simp only [impl_PkgOk.j4]
          refine Ev.neg (by simp) ?_
          rw [w64 (by omega) (by omega), Bool.not_false, Bool.true_and]
          exact hr
      refine Ev.down ?_
      simp only [impl_PkgOk.l1, allFrom, depOk1]
      rw [rdD_nat]
      refine Ev.pos (by omega) (Ev.pos (by omega) (Ev.pos (by omega) (Ev.bind (Ev.con (isName_v _)) ?_)))
      cases inB (ds.getD i z91).f0 1 4 with
      | false => exact Ev.neg (by simp) (Ev.re (yes4 _) (by simp))
      | true =>
        refine Ev.pos rfl ?_
        by_cases e : (ds.getD i z91).f0 = n
        · exact Ev.pos e (Ev.re (yes4 _) (by rw [decide_eq_true e]; simp))
        · rw [decide_eq_false e]
          refine Ev.neg e (Ev.bind (Ev.con (isVer_v _)) ?_)
          cases inB (ds.getD i z91).f1 1 5 with
          | false => exact Ev.neg (by simp) (Ev.re (yes4 _) (by simp))
          | true =>
            refine Ev.pos rfl ?_
            by_cases h0 : i = 0
            · refine Ev.neg (by omega) (Ev.re (no _) ?_)
              rw [h0]; simp
            · refine Ev.pos (by omega) ?_
              rw [w64 (n := (i : Int) - 1) (by omega) (by omega)]
              refine Ev.pos (by omega) (Ev.pos (by omega) (Ev.re (no _) ?_))
              rw [show (i : Int) - 1 = ((i - 1 : Nat) : Int) by omega, rdD_nat, show (i == 0) = false by simpa using h0]
              simp only [Bool.true_and, Bool.false_or, Bool.not_false]
              rw [notLe]
  have files : ∀ d i : Nat, i + d = fs.length → Ev (fun k => impl_PkgOk.l0 k fs fs.length (i : Int) n v fs ds) (allFrom (fileOk1 fs) d i && allFrom (depOk1 n ds) ds.length 0) := by
    intro d
    induction d with
    | zero =>
      intro i hi
      refine Ev.down ?_
      simp only [impl_PkgOk.l0, allFrom, Bool.true_and]
      exact Ev.neg (by omega) (deps ds.length 0 (by omega))
    | succ d ih =>
      intro i hi
      have hr := ih (i + 1) (by omega)
      have no : ∀ b : Bool, Ev (fun k => impl_PkgOk.j2 k fs fs.length i b n v fs ds) (!b && (allFrom (fileOk1 fs) d (i + 1) && allFrom (depOk1 n ds) ds.length 0)) := by
        intro b
        cases b with
        | true => exact yes2 _
        | false =>
          refine Ev.down ?_
          simp only [impl_PkgOk.j2]
          refine Ev.neg (by simp) ?_
          rw [w64 (by omega) (by omega), Bool.not_false, Bool.true_and]
          exact hr
      refine Ev.down ?_
      simp only [impl_PkgOk.l0, allFrom, fileOk1]
      rw [rdF_nat]
      refine Ev.pos (by omega) (Ev.pos (by omega) (Ev.pos (by omega) (Ev.bind (Ev.con (in_v _ _ _)) ?_)))
      cases inB (fs.getD i z89).f0 0 5 with
      | false => exact Ev.neg (by simp) (Ev.re (yes2 _) (by simp))
      | true =>
        refine Ev.pos rfl (Ev.bind (Ev.con (in_v _ _ _)) ?_)
        cases inB (fs.getD i z89).f1 0 9 with
        | false => exact Ev.neg (by simp) (Ev.re (yes2 _) (by simp))
        | true =>
          refine Ev.pos rfl ?_
          by_cases h0 : i = 0
          · refine Ev.neg (by omega) (Ev.re (no _) ?_)
            rw [h0]; simp
          · refine Ev.pos (by omega) ?_
            rw [w64 (n := (i : Int) - 1) (by omega) (by omega)]
            refine Ev.pos (by omega) (Ev.pos (by omega) (Ev.re (no _) ?_))
            rw [show (i : Int) - 1 = ((i - 1 : Nat) : Int) by omega, rdF_nat, show (i == 0) = false by simpa using h0]
            simp only [Bool.true_and, Bool.false_or]
            rw [notLe]
            simp only [Bool.and_assoc]
  unfold impl_PkgOk.f pkgOk filesOk depsOk
  refine Ev.bind (Ev.con (isName_v _)) ?_
  cases inB n 1 4 with
  | false => exact Ev.neg (by simp) yes0
  | true =>
    refine Ev.pos rfl (Ev.bind (Ev.con (isVer_v _)) ?_)
    cases inB v 1 5 with
    | false => exact Ev.neg (by simp) yes0
    | true =>
      refine Ev.pos rfl ?_
      by_cases h1 : (fs.length : Int) > 2
      · refine Ev.pos h1 (Ev.re yes0 ?_)
        rw [decide_eq_false (show ¬ fs.length ≤ 2 by omega)]; simp
      · refine Ev.neg h1 ?_
        rw [decide_eq_true (show fs.length ≤ 2 by omega)]
        by_cases h2 : (ds.length : Int) > 2
        · rw [decide_eq_true h2, decide_eq_false (show ¬ ds.length ≤ 2 by omega)]
          exact Ev.re yes0 (by simp)
        · rw [decide_eq_false h2, decide_eq_true (show ds.length ≤ 2 by omega)]
          refine Ev.down ?_
          simp only [impl_PkgOk.j0]
          exact Ev.neg (by simp) (Ev.re (files fs.length 0 (by omega)) (by simp))

-- impl_Pkg_compare
def cmpI (a b : Int) : Int := if a < b then -1 else if a > b then 1 else 0
theorem compare_v (a b : Int) : cmp_Compare_int.f a b = some (cmpI a b) := by
  unfold cmp_Compare_int.f cmp_isNaN_int.f cmpI
  simp only [Option.bind_some, bne_self_eq_false, Bool.false_eq_true, if_false]
  by_cases h : a < b
  · rw [if_pos h, if_pos h]
  · rw [if_neg h, if_neg h]
    by_cases h2 : a > b
    · rw [if_pos h2, if_pos h2]
    · rw [if_neg h2, if_neg h2]
theorem or_v (a b : Int) : Ev (fun k => cmp_Or_int.f k [a, b]) (if a = 0 then b else a) := by
  unfold cmp_Or_int.f
  refine Ev.down ?_
  simp only [cmp_Or_int.l0]
  refine Ev.pos (by simp) (Ev.pos (by omega) (Ev.pos (by simp) ?_))
  by_cases h : a = 0
  · refine Ev.pos (show rd [a, b] 0 = 0 from h) ?_
    rw [w64 (by omega) (by omega), if_pos h]
    refine Ev.down ?_
    simp only [cmp_Or_int.l0]
    refine Ev.pos (by simp) (Ev.pos (by omega) (Ev.pos (by simp) ?_))
    by_cases h2 : b = 0
    · refine Ev.pos (show rd [a, b] (0 + 1) = 0 from h2) ?_
      rw [w64 (by omega) (by omega)]
      refine Ev.down ?_
      simp only [cmp_Or_int.l0]
      exact Ev.neg (by simp) (Ev.eq h2.symm)
    · exact Ev.neg (show ¬ rd [a, b] (0 + 1) = 0 from h2) (Ev.eq rfl)
  · rw [if_neg h]
    exact Ev.neg (show ¬ rd [a, b] 0 = 0 from h) (Ev.eq rfl)
theorem pkgCompare_v (a b : Int) (fs : List Fl) (ds : List Dp) (a' b' : Int) (fs' : List Fl) (ds' : List Dp) : Ev (fun k => impl_Pkg_compare.f k a b fs ds a' b' fs' ds') (if cmpI a a' = 0 then cmpI b b' else cmpI a a') := by
  unfold impl_Pkg_compare.f
  exact Ev.bind (Ev.con (compare_v _ _)) (Ev.bind (Ev.con (compare_v _ _)) (Ev.bind (or_v _ _) (Ev.now _)))
theorem cmp_less (a b a' b' : Int) : (if cmpI a a' = 0 then cmpI b b' else cmpI a a') < 0 ↔ a < a' ∨ a = a' ∧ b < b' := by
  unfold cmpI
  repeat' split
  all_goals omega

-- impl_StoreOk
theorem impl_StoreOk_v (l : List Pk) (hl : l.length ≤ 17592186044416) (hF : Fit l) : Ev (fun k => impl_StoreOk.f k l) (storeOk l) := by
  unfold impl_StoreOk.f
  refine check_loop (F := fun k i => impl_StoreOk.l0 k l l l.length i) (p := storeOk1 l) (n := l.length) ?_ ?_ ?_ l.length 0 (by omega)
  · refine Ev.down ?_
    simp only [impl_StoreOk.l0]
    exact Ev.neg (by omega) (Ev.now _)
  · intro i hi hp r hr
    obtain ⟨f1, f2⟩ := hF.get hi
    unfold storeOk1 pOk at hp
    simp only [Bool.and_eq_true, Bool.or_eq_true, beq_iff_eq] at hp
    obtain ⟨h1, h2⟩ := hp
    refine Ev.down ?_
    simp only [impl_StoreOk.l0]
    rw [rdP_nat]
    refine Ev.pos (by omega) (Ev.pos (by omega) (Ev.pos (by omega) (Ev.bind (impl_PkgOk_v _ _ _ _ (by omega) (by omega)) (Ev.pos h1 ?_))))
    rw [w64 (n := (i : Int) + 1) (by omega) (by omega)]
    by_cases h0 : i = 0
    · exact Ev.neg (by omega) hr
    · refine Ev.pos (by omega) ?_
      rw [w64 (n := (i : Int) - 1) (by omega) (by omega)]
      refine Ev.pos (by omega) (Ev.pos (by omega) (Ev.bind (pkgCompare_v _ _ _ _ _ _ _ _) ?_))
      rw [show (i : Int) - 1 = ((i - 1 : Nat) : Int) by omega, rdP_nat]
      refine Ev.neg ?_ hr
      have := (cmp_less _ _ _ _).2 (lessB_iff.1 (h2.resolve_left h0))
      omega
  · intro i hi hp
    obtain ⟨f1, f2⟩ := hF.get hi
    unfold storeOk1 pOk at hp
    refine Ev.down ?_
    simp only [impl_StoreOk.l0]
    rw [rdP_nat]
    refine Ev.pos (by omega) (Ev.pos (by omega) (Ev.pos (by omega) (Ev.bind (impl_PkgOk_v _ _ _ _ (by omega) (by omega)) ?_)))
    cases h1 : pkgOk (l.getD i z29).f0 (l.getD i z29).f1 (l.getD i z29).f2 (l.getD i z29).f3 with
    | false => exact Ev.neg (by simp) (Ev.now _)
    | true =>
      rw [h1] at hp
      simp only [Bool.true_and, Bool.or_eq_false_iff, beq_eq_false_iff_ne] at hp
      refine Ev.pos rfl (Ev.pos (by omega) ?_)
      rw [w64 (n := (i : Int) - 1) (by omega) (by omega)]
      refine Ev.pos (by omega) (Ev.pos (by omega) (Ev.bind (pkgCompare_v _ _ _ _ _ _ _ _) ?_))
      rw [show (i : Int) - 1 = ((i - 1 : Nat) : Int) by omega, rdP_nat]
      refine Ev.pos ?_ (Ev.now _)
      have h5 : ¬ (lessB (l.getD (i - 1) z29).f0 (l.getD (i - 1) z29).f1 (l.getD i z29).f0 (l.getD i z29).f1 = true) := by rw [hp.2]; simp
      rw [lessB_iff, ← cmp_less] at h5
      omega

-- the law
theorem FnExactStoreOk (l : List LPk) (hl : l.length ≤ 9223372036854775807) (hF : ∀ p ∈ l, p.f2.length ≤ 9223372036854775807 ∧ p.f3.length ≤ 9223372036854775807) : ∃ k, laws_FnExactStoreOk.f k l = some true := by
  refine Ev.rounds (g := fun k => laws_FnExactStoreOk.f k l) ?_
  unfold laws_FnExactStoreOk.f
  obtain ⟨r, hr, hh⟩ := szPkgS_v l hl hF
  refine Ev.bind hr ?_
  by_cases h : r < 0
  · exact Ev.pos h (Ev.now _)
  · obtain ⟨h1, h2⟩ := hh h
    have hm : (l.map toP).length ≤ 17592186044416 := by rw [List.length_map]; omega
    have hf := fit_map h2
    refine Ev.neg h (Ev.bind (toPkgS_v l (by omega) h2) (Ev.bind (spec_StoreOk_v _ hm hf) (Ev.bind (toPkgS_v l (by omega) h2) (Ev.bind (impl_StoreOk_v _ hm hf) (Ev.neg (by simp) ?_)))))
    exact Ev.bind (toPkgS_v l (by omega) h2) (Ev.bind (eqPkgS_same _ hm hf) (Ev.pos rfl (Ev.now _)))

end Go.Proofs.Ytlmgnnpmcdeclaa.Pure
