/- What is left of the law FnIndexTells, proved: the printed function answers true at every argument within the bounds of the statement. No further condition. -/
import Derived.Test.YtkjgnnjcjkphbaaDoorPFnIndexTellsx7
set_option linter.unusedVariables false
set_option linter.unusedSimpArgs false
namespace Go.Proofs.YtkjgnnjcjkphbaaDoor
/-- The printed row asks for this word by its short name. -/
theorem PrintWords.sized_ints : type_of% @Go.Proofs.YtkjgnnjcjkphbaaDoorW.PrintWords.sized_ints := @Go.Proofs.YtkjgnnjcjkphbaaDoorW.PrintWords.sized_ints
end Go.Proofs.YtkjgnnjcjkphbaaDoor
namespace Go.Proofs.YtkjgnnjcjkphbaaDoor.Pure
open Go.RowKit Go.Proofs.YtkjgnnjcjkphbaaDoor.PFnIndexTells Go.Proofs.YtkjgnnjcjkphbaaDoorW.PrintWords Go.Proofs.YtkjgnnjcjkphbaaDoorW.PrintLast Go.Proofs.YtkjgnnjcjkphbaaDoorW.PrintMore

-- ev
/-! Ways to reckon a printed function from some number of rounds on. -/
theorem Ev.pos {α : Type} {c : Prop} {d : Decidable c} {f g : Nat → Option α} {r : α} (h : c) (e : Ev f r) : Ev (fun k => if c then f k else g k) r := Ev.congr (fun _ => if_pos h) e
theorem Ev.neg {α : Type} {c : Prop} {d : Decidable c} {f g : Nat → Option α} {r : α} (h : ¬ c) (e : Ev g r) : Ev (fun k => if c then f k else g k) r := Ev.congr (fun _ => if_neg h) e
theorem Ev.con {α : Type} {x : Option α} {r : α} (h : x = some r) : Ev (fun _ => x) r := ⟨0, fun _ _ => h⟩
theorem Ev.eq {α : Type} {r r' : α} (h : r' = r) : Ev (fun _ => some r') r := ⟨0, fun _ _ => by rw [h]⟩
theorem Ev.re {α : Type} {g : Nat → Option α} {r r' : α} (e : Ev g r') (h : r' = r) : Ev g r := h ▸ e
theorem Ev.down {α : Type} {g : Nat → Option α} {r : α} (e : Ev (fun k => g (k + 1)) r) : Ev g r := Ev.step (fun _ => rfl) e
theorem Ev.one {α : Type} {g : Nat → Option α} {r r' : α} (a : Ev g r) (b : Ev g r') : r = r' := by
  obtain ⟨K, a⟩ := a
  obtain ⟨K', b⟩ := b
  have h := a (K + K') (by omega)
  rw [b (K + K') (by omega)] at h
  exact (Option.some.inj h).symm
theorem w64 {n : Int} (h0 : -9223372036854775808 ≤ n) (h1 : n ≤ 9223372036854775807) : wrap64 n = n := by unfold wrap64; omega
/-- p of i, i + 1, .., d of them. -/
def allFrom (p : Nat → Bool) : Nat → Nat → Bool
  | 0, _ => true
  | d + 1, i => p i && allFrom p d (i + 1)
theorem allFrom_iff {p : Nat → Bool} : ∀ {d i : Nat}, allFrom p d i = true ↔ ∀ j, i ≤ j → j < i + d → p j = true
  | 0, i => by simp only [allFrom, true_iff]; intro j h1 h2; omega
  | d + 1, i => by
    simp only [allFrom, Bool.and_eq_true, allFrom_iff (d := d)]
    constructor
    · intro h j h1 h2
      rcases Nat.eq_or_lt_of_le h1 with e | e
      · exact e ▸ h.1
      · exact h.2 j e (by omega)
    · intro h
      exact ⟨h i (Nat.le_refl _) (by omega), fun j h1 h2 => h j (by omega) (by omega)⟩
theorem allFrom_congr {p q : Nat → Bool} : ∀ {d i : Nat}, (∀ j, i ≤ j → j < i + d → p j = q j) → allFrom p d i = allFrom q d i
  | 0, _, _ => rfl
  | d + 1, i, h => by
    simp only [allFrom]
    rw [h i (Nat.le_refl _) (by omega), allFrom_congr (fun j h1 h2 => h j (by omega) (by omega))]
/-- A loop that looks whether p holds at each place. -/
theorem check_loop {F : Nat → Int → Option Bool} {p : Nat → Bool} {n : Nat} (hend : Ev (fun k => F k (n : Int)) true)
    (hgo : ∀ i : Nat, i < n → p i = true → ∀ r, Ev (fun k => F k ((i + 1 : Nat) : Int)) r → Ev (fun k => F k (i : Int)) r)
    (hno : ∀ i : Nat, i < n → p i = false → Ev (fun k => F k (i : Int)) false) : ∀ d i : Nat, i + d = n → Ev (fun k => F k (i : Int)) (allFrom p d i)
  | 0, i, h => by
    obtain rfl : i = n := by omega
    exact hend
  | d + 1, i, h => by
    simp only [allFrom]
    cases hp : p i with
    | true => exact hgo i (by omega) hp _ (check_loop hend hgo hno d (i + 1) (by omega))
    | false => exact hno i (by omega) hp
/-- A loop that goes on from place to place. -/
theorem step_loop {α : Type} {F : Nat → Int → Option α} {R : Nat → α} {n : Nat} (hend : Ev (fun k => F k (n : Int)) (R n))
    (hgo : ∀ i : Nat, i < n → Ev (fun k => F k ((i + 1 : Nat) : Int)) (R (i + 1)) → Ev (fun k => F k (i : Int)) (R i)) : ∀ d i : Nat, i + d = n → Ev (fun k => F k (i : Int)) (R i)
  | 0, i, h => by
    obtain rfl : i = n := by omega
    exact hend
  | d + 1, i, h => hgo i (by omega) (step_loop hend hgo d (i + 1) (by omega))
theorem rd_nat (l : List Int) (i : Nat) : rd l (i : Int) = l.getD i 0 := by unfold rd; rw [Int.toNat_natCast]
theorem getD_of_lt {α : Type} {l : List α} {i : Nat} {d : α} (h : i < l.length) : l.getD i d = l[i] := by simp [List.getD, h]
theorem notGe (a b : Int) : (!decide (a ≥ b)) = decide (a < b) := by rw [Bool.eq_iff_iff]; simp
theorem notLe (a b : Int) : (!decide (b ≤ a)) = decide (a < b) := by rw [Bool.eq_iff_iff]; simp

-- spec_l6Open
/-- Bytes to draw from. -/
def BY (b : List Int) : Prop := (∀ x ∈ b, 0 ≤ x ∧ x ≤ 255) ∧ b.length ≤ 2000
theorem open_v (l : List Int) (hw : ∀ x ∈ l, (Lit.int .u8 x).wf = true) : ∃ b, spec_l6Open.f l = some (b, 0) ∧ BY b := by
  have h : ∀ x ∈ l, 0 ≤ x ∧ x ≤ 255 := by
    intro x hx
    have := hw x hx
    have e1 : IntKind.u8.min = 0 := rfl
    have e2 : IntKind.u8.max = 255 := rfl
    simp [Lit.wf, e1, e2] at this
    omega
  unfold spec_l6Open.f
  by_cases hl : (l.length : Int) > 2000
  · rw [if_pos hl, if_pos (by omega)]
    exact ⟨_, rfl, fun x hx => h x (List.mem_of_mem_take hx), by rw [List.length_take]; omega⟩
  · rw [if_neg hl]
    exact ⟨_, rfl, h, by omega⟩

-- metam0
def inB (n a b : Int) : Bool := decide (a ≤ n) && decide (n ≤ b)
theorem inB_iff {n a b : Int} : inB n a b = true ↔ a ≤ n ∧ n ≤ b := by unfold inB; rw [Bool.and_eq_true, decide_eq_true_eq, decide_eq_true_eq]
def lessB (n v m w : Int) : Bool := decide (n < m) || decide (n = m) && decide (v < w)
theorem lessB_iff {n v m w : Int} : lessB n v m w = true ↔ n < m ∨ n = m ∧ v < w := by unfold lessB; simp only [Bool.or_eq_true, Bool.and_eq_true, decide_eq_true_eq]

-- pkgm
/-! Packages: files and what is needed. -/
abbrev Fl := S67
abbrev Dp := S69
instance : DecidableEq S67 := fun x y => decidable_of_iff (x.f0 = y.f0 ∧ x.f1 = y.f1) (by obtain ⟨a, b⟩ := x; obtain ⟨d, e⟩ := y; simp)
instance : DecidableEq S69 := fun x y => decidable_of_iff (x.f0 = y.f0 ∧ x.f1 = y.f1) (by obtain ⟨a, b⟩ := x; obtain ⟨d, e⟩ := y; simp)
theorem rdF_nat (l : List Fl) (i : Nat) : rd_T67 l (i : Int) = l.getD i z67 := by unfold rd_T67; rw [Int.toNat_natCast]
theorem rdD_nat (l : List Dp) (i : Nat) : rd_T69 l (i : Int) = l.getD i z69 := by unfold rd_T69; rw [Int.toNat_natCast]
def fileOk1 (l : List Fl) (i : Nat) : Bool := inB (l.getD i z67).f0 0 5 && (inB (l.getD i z67).f1 0 9 && (i == 0 || decide ((l.getD (i - 1) z67).f0 < (l.getD i z67).f0)))
def depOk1 (name : Int) (l : List Dp) (i : Nat) : Bool := inB (l.getD i z69).f0 1 4 && (!decide ((l.getD i z69).f0 = name) && (inB (l.getD i z69).f1 1 5 && (i == 0 || decide ((l.getD (i - 1) z69).f0 < (l.getD i z69).f0))))
def filesOk (l : List Fl) : Bool := allFrom (fileOk1 l) l.length 0 && decide (l.length ≤ 2)
def depsOk (name : Int) (l : List Dp) : Bool := allFrom (depOk1 name l) l.length 0 && decide (l.length ≤ 2)
def pkgOk (n v : Int) (fs : List Fl) (ds : List Dp) : Bool := inB n 1 4 && (inB v 1 5 && (filesOk fs && depsOk n ds))

-- storem
abbrev Pk := S31
theorem rdP_nat (l : List Pk) (i : Nat) : rd_T31 l (i : Int) = l.getD i z31 := by unfold rd_T31; rw [Int.toNat_natCast]
def pOk (p : Pk) : Bool := pkgOk p.f0 p.f1 p.f2 p.f3
def storeOk1 (l : List Pk) (i : Nat) : Bool := pOk (l.getD i z31) && (i == 0 || lessB (l.getD (i - 1) z31).f0 (l.getD (i - 1) z31).f1 (l.getD i z31).f0 (l.getD i z31).f1)
def storeOk (l : List Pk) : Bool := allFrom (storeOk1 l) l.length 0
/-- No list inside is too long. -/
def Fit (l : List Pk) : Prop := ∀ p ∈ l, p.f2.length ≤ 1048577 ∧ p.f3.length ≤ 1048577
theorem Fit.get {l : List Pk} (h : Fit l) {i : Nat} (hi : i < l.length) : (l.getD i z31).f2.length ≤ 1048577 ∧ (l.getD i z31).f3.length ≤ 1048577 := by rw [getD_of_lt hi]; exact h _ (List.getElem_mem _)

-- spec_l12Find
theorem l12Find_v (l : List Pk) (n v : Int) (hl : l.length ≤ 17592186044416) : ∃ r : Int, Ev (fun k => spec_l12Find.f k l n v) r := by
  unfold spec_l12Find.f
  have loop : ∀ d i : Nat, i + d = l.length → ∃ r, Ev (fun k => spec_l12Find.l0 k l n v (i : Int)) r := by
    intro d
    induction d with
    | zero =>
      intro i hi
      refine ⟨-1, Ev.down ?_⟩
      simp only [spec_l12Find.l0]
      exact Ev.neg (by omega) (Ev.now _)
    | succ d ih =>
      intro i hi
      obtain ⟨r, hr⟩ := ih (i + 1) (by omega)
      have e : wrap64 ((i : Int) + 1) = ((i + 1 : Nat) : Int) := by rw [w64 (by omega) (by omega)]; rfl
      by_cases h1 : (rd_T31 l (i : Int)).f0 = n
      · by_cases h2 : (rd_T31 l (i : Int)).f1 = v
        · refine ⟨(i : Int), Ev.down ?_⟩
          simp only [spec_l12Find.l0]
          exact Ev.pos (by omega) (Ev.pos (by omega) (Ev.pos h1 (Ev.pos h2 (Ev.now _))))
        · refine ⟨r, Ev.down ?_⟩
          simp only [spec_l12Find.l0]
          rw [e]
          exact Ev.pos (by omega) (Ev.pos (by omega) (Ev.pos h1 (Ev.neg h2 hr)))
      · refine ⟨r, Ev.down ?_⟩
        simp only [spec_l12Find.l0]
        rw [e]
        exact Ev.pos (by omega) (Ev.pos (by omega) (Ev.neg h1 hr))
  exact loop l.length 0 (by omega)

-- spec_l3Less
theorem l3Less_v (n v m w : Int) : spec_l3Less.f n v m w = some (lessB n v m w) := by
  unfold spec_l3Less.f lessB
  by_cases h : n < m
  · rw [if_pos h, decide_eq_true h]; rfl
  · rw [if_neg h, decide_eq_false h]
    by_cases e : n = m
    · rw [if_pos e, decide_eq_true e]; rfl
    · rw [if_neg e, decide_eq_false e]; rfl

-- spec_l12With
/-- No package holds more than two files or two needs. -/
def Small (l : List Pk) : Prop := ∀ p ∈ l, p.f2.length ≤ 2 ∧ p.f3.length ≤ 2
theorem Small.add {l : List Pk} (h : Small l) {p : Pk} (h2 : p.f2.length ≤ 2) (h3 : p.f3.length ≤ 2) : Small (l ++ [p]) := by
  intro q hq
  rcases List.mem_append.1 hq with e | e
  · exact h q e
  · rw [List.mem_singleton.1 e]; exact ⟨h2, h3⟩
theorem Small.fit {l : List Pk} (h : Small l) : Fit l := fun p hp => ⟨by have := (h p hp).1; omega, by have := (h p hp).2; omega⟩
theorem Small.get {l : List Pk} (h : Small l) {i : Nat} (hi : i < l.length) : (l.getD i z31).f2.length ≤ 2 ∧ (l.getD i z31).f3.length ≤ 2 := by rw [getD_of_lt hi]; exact h _ (List.getElem_mem _)
theorem all_add {Q : Pk → Prop} {l : List Pk} (h : ∀ p ∈ l, Q p) {p : Pk} (hp : Q p) : ∀ q ∈ l ++ [p], Q q := by
  intro q hq
  rcases List.mem_append.1 hq with e | e
  · exact h q e
  · rw [List.mem_singleton.1 e]; exact hp
theorem all_get {Q : Pk → Prop} {l : List Pk} (h : ∀ p ∈ l, Q p) {i : Nat} (hi : i < l.length) : Q (l.getD i z31) := by rw [getD_of_lt hi]; exact h _ (List.getElem_mem _)
theorem l12With_q (Q : Pk → Prop) (l : List Pk) (n v : Int) (fs : List Fl) (ds : List Dp) (hl : l.length ≤ 1000) (hF : ∀ p ∈ l, Q p) (hq : Q ⟨n, v, fs, ds⟩) : ∃ r : List Pk, Ev (fun k => spec_l12With.f k l n v fs ds) r ∧ r.length ≤ 2 * l.length + 1 ∧ ∀ p ∈ r, Q p := by
  unfold spec_l12With.f
  have second : ∀ d i : Nat, i + d = l.length → ∀ out : List Pk, out.length + d ≤ 5000 → (∀ p ∈ out, Q p) → ∃ r : List Pk, Ev (fun k => spec_l12With.l1 k l out (i : Int) n v fs ds) r ∧ r.length ≤ out.length + d ∧ ∀ p ∈ r, Q p := by
    intro d
    induction d with
    | zero =>
      intro i hi out ho hs
      refine ⟨out, Ev.down ?_, by omega, hs⟩
      simp only [spec_l12With.l1]
      exact Ev.neg (by omega) (Ev.now _)
    | succ d ih =>
      intro i hi out ho hs
      have e : wrap64 ((i : Int) + 1) = ((i + 1 : Nat) : Int) := by rw [w64 (by omega) (by omega)]; rfl
      cases c : lessB n v (l.getD i z31).f0 (l.getD i z31).f1 with
      | true =>
        obtain ⟨r, hr, r1, r2⟩ := ih (i + 1) (by omega) (out ++ [⟨(l.getD i z31).f0, (l.getD i z31).f1, (l.getD i z31).f2, (l.getD i z31).f3⟩]) (by rw [List.length_append, List.length_singleton]; omega) (all_add hs (all_get hF (i := i) (by omega)))
        refine ⟨r, Ev.down ?_, by rw [List.length_append, List.length_singleton] at r1; omega, r2⟩
        simp only [spec_l12With.l1]
        rw [e, rdP_nat]
        exact Ev.pos (by omega) (Ev.pos (by omega) (Ev.bind (Ev.con (l3Less_v _ _ _ _)) (Ev.pos c (Ev.pos (by omega) hr))))
      | false =>
        obtain ⟨r, hr, r1, r2⟩ := ih (i + 1) (by omega) out (by omega) hs
        refine ⟨r, Ev.down ?_, by omega, r2⟩
        simp only [spec_l12With.l1]
        rw [e, rdP_nat]
        exact Ev.pos (by omega) (Ev.pos (by omega) (Ev.bind (Ev.con (l3Less_v _ _ _ _)) (Ev.neg (by rw [c]; simp) hr)))
  have first : ∀ d i : Nat, i + d = l.length → ∀ out : List Pk, out.length ≤ i → (∀ p ∈ out, Q p) → ∃ r : List Pk, Ev (fun k => spec_l12With.l0 k l out (i : Int) n v fs ds) r ∧ r.length ≤ 2 * l.length + 1 ∧ ∀ p ∈ r, Q p := by
    intro d
    induction d with
    | zero =>
      intro i hi out ho hs
      obtain ⟨r, hr, r1, r2⟩ := second l.length 0 (by omega) (out ++ [⟨n, v, fs, ds⟩]) (by rw [List.length_append, List.length_singleton]; omega) (all_add hs hq)
      refine ⟨r, Ev.down ?_, by rw [List.length_append, List.length_singleton] at r1; omega, r2⟩
      simp only [spec_l12With.l0]
      exact Ev.neg (by omega) (Ev.pos (by omega) hr)
    | succ d ih =>
      intro i hi out ho hs
      have e : wrap64 ((i : Int) + 1) = ((i + 1 : Nat) : Int) := by rw [w64 (by omega) (by omega)]; rfl
      cases c : lessB (l.getD i z31).f0 (l.getD i z31).f1 n v with
      | true =>
        obtain ⟨r, hr, r1, r2⟩ := ih (i + 1) (by omega) (out ++ [⟨(l.getD i z31).f0, (l.getD i z31).f1, (l.getD i z31).f2, (l.getD i z31).f3⟩]) (by rw [List.length_append, List.length_singleton]; omega) (all_add hs (all_get hF (i := i) (by omega)))
        refine ⟨r, Ev.down ?_, r1, r2⟩
        simp only [spec_l12With.l0]
        rw [e, rdP_nat]
        exact Ev.pos (by omega) (Ev.pos (by omega) (Ev.bind (Ev.con (l3Less_v _ _ _ _)) (Ev.pos c (Ev.pos (by omega) hr))))
      | false =>
        obtain ⟨r, hr, r1, r2⟩ := ih (i + 1) (by omega) out (by omega) hs
        refine ⟨r, Ev.down ?_, r1, r2⟩
        simp only [spec_l12With.l0]
        rw [e, rdP_nat]
        exact Ev.pos (by omega) (Ev.pos (by omega) (Ev.bind (Ev.con (l3Less_v _ _ _ _)) (Ev.neg (by rw [c]; simp) hr)))
  exact first l.length 0 (by omega) [] (Nat.zero_le _) (fun p hp => absurd hp (List.not_mem_nil))
theorem l12With_v (l : List Pk) (n v : Int) (fs : List Fl) (ds : List Dp) (hl : l.length ≤ 1000) (hF : Small l) (h2 : fs.length ≤ 2) (h3 : ds.length ≤ 2) : ∃ r : List Pk, Ev (fun k => spec_l12With.f k l n v fs ds) r ∧ r.length ≤ 2 * l.length + 1 ∧ Small r :=
  l12With_q (fun p => p.f2.length ≤ 2 ∧ p.f3.length ≤ 2) l n v fs ds hl hF ⟨h2, h3⟩

-- spec_l6Rd_pick
theorem xor_i64 (a b : Nat) (ha : a < 4611686018427387904) (hb : b < 4611686018427387904) : Go.bits .xor .i64 (a : Int) (b : Int) = ((a ^^^ b : Nat) : Int) := by
  have hx : a ^^^ b < 2 ^ 62 := Nat.xor_lt_two_pow (by omega) (by omega)
  have e1 : a % 2 ^ 64 = a := Nat.mod_eq_of_lt (by omega)
  have e2 : b % 2 ^ 64 = b := Nat.mod_eq_of_lt (by omega)
  have e3 : ((BitVec.ofInt 64 (a : Int)) ^^^ (BitVec.ofInt 64 (b : Int))).toNat = a ^^^ b := by
    rw [BitVec.toNat_xor, BitVec.ofInt_natCast, BitVec.ofInt_natCast, BitVec.toNat_ofNat, BitVec.toNat_ofNat, e1, e2]
  show IntKind.i64.wrap (((BitVec.ofInt 64 (a : Int)) ^^^ (BitVec.ofInt 64 (b : Int))).toNat : Int) = _
  rw [e3, IntKind.wrap_i64]
  omega
theorem rd_by {b : List Int} (hb : BY b) (i : Int) : 0 ≤ rd b i ∧ rd b i ≤ 255 := by
  unfold rd
  by_cases h : i.toNat < b.length
  · rw [getD_of_lt h]
    exact hb.1 _ (List.getElem_mem _)
  · rw [show b.getD i.toNat 0 = 0 by simp [List.getD, h]]
    omega
/-- A number is drawn: 0 to n - 1; 0, if there is none. -/
theorem pick_v {b : List Int} (hb : BY b) (p n : Int) (h0 : 0 ≤ p) (h1 : p ≤ 1000000) (hn : n ≤ 1000000000) : ∃ v, Ev (fun k => spec_l6Rd_pick.f k b p n) (v, p + 1) ∧ 0 ≤ v ∧ (v < n ∨ v = 0) := by
  unfold spec_l6Rd_pick.f
  rw [w64 (n := p + 1) (by omega) (by omega)]
  by_cases h : n < 1
  · refine ⟨0, Ev.pos h (Ev.down ?_), by omega, .inr rfl⟩
    simp only [spec_l6Rd_pick.j0]
    exact Ev.pos (by simp) (Ev.now _)
  · have hlen := hb.2
    by_cases hl : b.length = 0
    · refine ⟨0, Ev.neg h (Ev.down ?_), by omega, .inr rfl⟩
      simp only [spec_l6Rd_pick.j0]
      exact Ev.pos (by simp [hl]) (Ev.now _)
    · have e1 : p + 1 - 1 = p := by omega
      have tm : ∀ x : Int, 0 ≤ x → 0 ≤ Int.tmod x n ∧ Int.tmod x n < n := fun x hx => by
        rw [Int.tmod_eq_emod_of_nonneg hx]
        exact ⟨Int.emod_nonneg _ (by omega), Int.emod_lt_of_pos _ (by omega)⟩
      by_cases hlt : p < (b.length : Int)
      · obtain ⟨r1, r2⟩ := rd_by hb p
        obtain ⟨t1, t2⟩ := tm (rd b p) r1
        refine ⟨Int.tmod (rd b p) n, Ev.neg h (Ev.down ?_), t1, .inl t2⟩
        simp only [spec_l6Rd_pick.j0]
        rw [e1, w64 (n := p) (by omega) (by omega), w64 (n := rd b p) (by omega) (by omega)]
        exact Ev.neg (by rw [beq_iff_eq]; omega) (Ev.pos hlt (Ev.pos h0 (Ev.neg (by omega) (Ev.now _))))
      · have lm : ∀ x : Int, 0 ≤ x → 0 ≤ Int.tmod x (b.length : Int) ∧ Int.tmod x (b.length : Int) < (b.length : Int) := fun x hx => by
          rw [Int.tmod_eq_emod_of_nonneg hx]
          exact ⟨Int.emod_nonneg _ (by omega), Int.emod_lt_of_pos _ (by omega)⟩
        obtain ⟨a1, a2⟩ := lm p h0
        obtain ⟨c1, c2⟩ := lm (p * 7 + 3) (by omega)
        obtain ⟨r1, r2⟩ := rd_by hb (Int.tmod p (b.length : Int))
        obtain ⟨s1, s2⟩ := rd_by hb (Int.tmod (p * 7 + 3) (b.length : Int))
        have q1 : 0 ≤ Int.tdiv p (b.length : Int) ∧ Int.tdiv p (b.length : Int) ≤ p := by
          rw [Int.tdiv_eq_ediv_of_nonneg h0]
          exact ⟨Int.ediv_nonneg h0 (by omega), Int.ediv_le_self _ h0⟩
        obtain ⟨q1, q2⟩ := q1
        obtain ⟨X, hX⟩ : ∃ X, X = rd b (Int.tmod p (b.length : Int)) * 131 + rd b (Int.tmod (p * 7 + 3) (b.length : Int)) * 1117 + p * 29 + Int.tdiv p (b.length : Int) * 53 := ⟨_, rfl⟩
        have X0 : 0 ≤ X := by omega
        have X1 : X ≤ 1000000000 := by omega
        have D : Int.tdiv X 64 = X / 64 := Int.tdiv_eq_ediv_of_nonneg X0
        have Y0 : 0 ≤ Go.bits .xor .i64 X (X / 64) := by
          obtain ⟨m, rfl⟩ := Int.eq_ofNat_of_zero_le X0
          rw [show ((m : Int) / 64) = ((m / 64 : Nat) : Int) by omega, xor_i64 _ _ (by omega) (by omega)]
          omega
        obtain ⟨t1, t2⟩ := tm _ Y0
        refine ⟨Int.tmod (Go.bits .xor .i64 X (X / 64)) n, Ev.neg h (Ev.down ?_), t1, .inl t2⟩
        simp only [spec_l6Rd_pick.j0]
        rw [e1, w64 (n := p) (by omega) (by omega), w64 (n := p * 7) (by omega) (by omega), w64 (n := p * 7 + 3) (by omega) (by omega)]
        refine Ev.neg (by rw [beq_iff_eq]; omega) (Ev.neg hlt (Ev.neg (by omega) (Ev.pos a1 (Ev.pos a2 (Ev.pos c1 (Ev.pos c2 (Ev.neg (by omega) ?_)))))))
        rw [w64 (n := rd b (Int.tmod p (b.length : Int))) (by omega) (by omega), w64 (n := rd b (Int.tmod (p * 7 + 3) (b.length : Int))) (by omega) (by omega), w64 (n := Int.tdiv p (b.length : Int)) (by omega) (by omega)]
        rw [w64 (n := rd b (Int.tmod p (b.length : Int)) * 131) (by omega) (by omega), w64 (n := rd b (Int.tmod (p * 7 + 3) (b.length : Int)) * 1117) (by omega) (by omega), w64 (n := p * 29) (by omega) (by omega), w64 (n := Int.tdiv p (b.length : Int) * 53) (by omega) (by omega)]
        rw [w64 (n := rd b (Int.tmod p (b.length : Int)) * 131 + rd b (Int.tmod (p * 7 + 3) (b.length : Int)) * 1117) (by omega) (by omega), w64 (n := rd b (Int.tmod p (b.length : Int)) * 131 + rd b (Int.tmod (p * 7 + 3) (b.length : Int)) * 1117 + p * 29) (by omega) (by omega), ← hX, w64 (n := X) (by omega) (by omega), D, w64 (n := X / 64) (by omega) (by omega)]
        exact Ev.now _

-- spec_l71Pkg
theorem filesOk_add {fs : List Fl} {x : Fl} (h : filesOk fs = true) (h0 : 0 ≤ x.f0 ∧ x.f0 ≤ 5) (h1 : 0 ≤ x.f1 ∧ x.f1 ≤ 9) (h2 : ∀ f ∈ fs, f.f0 < x.f0) (hl : fs.length ≤ 1) : filesOk (fs ++ [x]) = true := by
  unfold filesOk at h ⊢
  rw [Bool.and_eq_true, decide_eq_true_eq, allFrom_iff] at h ⊢
  refine ⟨fun j _ hj => ?_, by rw [List.length_append, List.length_singleton]; omega⟩
  rw [List.length_append, List.length_singleton] at hj
  have g : ∀ i, i < fs.length → (fs ++ [x]).getD i z67 = fs.getD i z67 := fun i hi => by rw [getD_of_lt (by rw [List.length_append]; omega), getD_of_lt hi, List.getElem_append_left hi]
  by_cases e : j < fs.length
  · have := h.1 j (Nat.zero_le _) (by omega)
    unfold fileOk1 at this ⊢
    rw [g j e, g (j - 1) (by omega)]
    exact this
  · have ej : j = fs.length := by omega
    have gx : (fs ++ [x]).getD j z67 = x := by rw [ej, getD_of_lt (by rw [List.length_append, List.length_singleton]; omega), List.getElem_append_right (Nat.le_refl _)]; simp
    unfold fileOk1
    rw [gx, inB_iff.2 h0, inB_iff.2 h1, Bool.true_and, Bool.true_and]
    by_cases e0 : j = 0
    · rw [e0]; rfl
    · rw [g (j - 1) (by omega), getD_of_lt (by omega), Bool.or_eq_true, decide_eq_true_eq]
      exact .inr (h2 _ (List.getElem_mem _))
theorem depsOk_add {n : Int} {fs : List Dp} {x : Dp} (h : depsOk n fs = true) (h0 : 1 ≤ x.f0 ∧ x.f0 ≤ 4) (hn : x.f0 ≠ n) (h1 : 1 ≤ x.f1 ∧ x.f1 ≤ 5) (h2 : ∀ f ∈ fs, f.f0 < x.f0) (hl : fs.length ≤ 1) : depsOk n (fs ++ [x]) = true := by
  unfold depsOk at h ⊢
  rw [Bool.and_eq_true, decide_eq_true_eq, allFrom_iff] at h ⊢
  refine ⟨fun j _ hj => ?_, by rw [List.length_append, List.length_singleton]; omega⟩
  rw [List.length_append, List.length_singleton] at hj
  have g : ∀ i, i < fs.length → (fs ++ [x]).getD i z69 = fs.getD i z69 := fun i hi => by rw [getD_of_lt (by rw [List.length_append]; omega), getD_of_lt hi, List.getElem_append_left hi]
  by_cases e : j < fs.length
  · have := h.1 j (Nat.zero_le _) (by omega)
    unfold depOk1 at this ⊢
    rw [g j e, g (j - 1) (by omega)]
    exact this
  · have ej : j = fs.length := by omega
    have gx : (fs ++ [x]).getD j z69 = x := by rw [ej, getD_of_lt (by rw [List.length_append, List.length_singleton]; omega), List.getElem_append_right (Nat.le_refl _)]; simp
    unfold depOk1
    rw [gx, inB_iff.2 h0, inB_iff.2 h1, decide_eq_false hn, Bool.true_and, Bool.not_false, Bool.true_and, Bool.true_and]
    by_cases e0 : j = 0
    · rw [e0]; rfl
    · rw [g (j - 1) (by omega), getD_of_lt (by omega), Bool.or_eq_true, decide_eq_true_eq]
      exact .inr (h2 _ (List.getElem_mem _))
def FO (a : Int) (fs : List Fl) : Prop := filesOk fs = true ∧ ∀ f ∈ fs, f.f0 < a
def DO (n d : Int) (ds : List Dp) : Prop := depsOk n ds = true ∧ ∀ f ∈ ds, f.f0 < d
theorem FO_add {a v u : Int} {fs : List Fl} (h : FO a fs) (ha : 0 ≤ a ∧ a ≤ 5) (hv : 0 ≤ v ∧ v ≤ 9) (hu : 0 ≤ u) (hl : fs.length ≤ 1) : FO (a + 1 + u) (fs ++ [⟨a, v⟩]) := by
  refine ⟨filesOk_add h.1 ha hv h.2 hl, fun f hf => ?_⟩
  rcases List.mem_append.1 hf with e | e
  · have := h.2 f e; omega
  · rw [List.mem_singleton.1 e]; dsimp only; omega
theorem DO_add {n d v : Int} {ds : List Dp} (h : DO n d ds) (hd : 1 ≤ d ∧ d ≤ 4) (hn : d ≠ n) (hv : 1 ≤ v ∧ v ≤ 5) (hl : ds.length ≤ 1) : DO n (d + 1) (ds ++ [⟨d, v⟩]) := by
  refine ⟨depsOk_add h.1 hd hn hv h.2 hl, fun f hf => ?_⟩
  rcases List.mem_append.1 hf with e | e
  · have := h.2 f e; omega
  · rw [List.mem_singleton.1 e]; dsimp only; omega
theorem DO_next {n d : Int} {ds : List Dp} (h : DO n d ds) : DO n (d + 1) ds := ⟨h.1, fun f hf => by have := h.2 f hf; omega⟩
theorem l71Pkg_o {b : List Int} (hb : BY b) (p name ver : Int) (h0 : 0 ≤ p) (h1 : p ≤ 800000) : ∃ (fs : List Fl) (ds : List Dp) (p' : Int), Ev (fun k => spec_l71Pkg.f k b p name ver) (name, ver, fs, ds, p') ∧ fs.length ≤ 2 ∧ ds.length ≤ 2 ∧ p ≤ p' ∧ p' ≤ p + 20 ∧ filesOk fs = true ∧ depsOk name ds = true := by
  have deps : ∀ d : Nat, d ≤ 4 → ∀ (p : Int) (fs : List Fl) (ds : List Dp), ds.length ≤ 2 → DO name (5 - (d : Int)) ds → 0 ≤ p → p + 2 * d ≤ 900000 → ∃ (ds' : List Dp) (p' : Int), Ev (fun k => spec_l71Pkg.l1 k name (5 - (d : Int)) b p name ver fs ds) (name, ver, fs, ds', p') ∧ ds'.length ≤ 2 ∧ p ≤ p' ∧ p' ≤ p + 2 * d ∧ depsOk name ds' = true := by
    have stop : ∀ (d : Int) (p : Int) (fs : List Fl) (ds : List Dp), Ev (fun k => spec_l71Pkg.j3 k name d false b p name ver fs ds) (name, ver, fs, ds, p) := by
      intro d p fs ds
      refine Ev.down ?_
      simp only [spec_l71Pkg.j3]
      exact Ev.neg (by simp) (Ev.now _)
    intro d
    induction d with
    | zero =>
      intro _ p fs ds hd hD h0 h1
      refine ⟨ds, p, Ev.down ?_, hd, by omega, by omega, hD.1⟩
      simp only [spec_l71Pkg.l1]
      exact Ev.neg (by omega) (stop _ _ _ _)
    | succ d ih =>
      intro hd p fs ds hl hD h0 h1
      have e5 : 5 - ((d + 1 : Nat) : Int) + 1 = 5 - (d : Int) := by omega
      have ew : wrap64 (5 - ((d + 1 : Nat) : Int) + 1) = 5 - (d : Int) := by rw [w64 (by omega) (by omega)]; omega
      by_cases h2 : (ds.length : Int) < 2
      · by_cases e : 5 - ((d + 1 : Nat) : Int) = name
        · obtain ⟨ds', p', hr, k1, k2, k3, k4⟩ := ih (by omega) p fs ds hl (by rw [← e5]; exact DO_next hD) h0 (by omega)
          refine ⟨ds', p', Ev.down ?_, k1, k2, by omega, k4⟩
          simp only [spec_l71Pkg.l1]
          refine Ev.pos (by omega) ?_
          rw [decide_eq_true h2]
          refine Ev.down ?_
          simp only [spec_l71Pkg.j3]
          refine Ev.pos trivial (Ev.pos e ?_)
          rw [ew]; exact hr
        · obtain ⟨v, hv, v0, v1⟩ := pick_v hb p 6 h0 (by omega) (by omega)
          by_cases e2 : v = 0
          · obtain ⟨u, hu, u0, u1⟩ := pick_v hb (p + 1) 2 (by omega) (by omega) (by omega)
            have hA := ih (by omega) (p + 1 + 1) fs (ds ++ [⟨5 - ((d + 1 : Nat) : Int), 1 + u⟩])
            obtain ⟨ds', p', hr, k1, k2, k3, k4⟩ := hA (by simp; omega) (by rw [← e5]; exact DO_add hD (by omega) e (by omega) (by omega)) (by omega) (by omega)
            refine ⟨ds', p', Ev.down ?_, k1, by omega, by omega, k4⟩
            simp only [spec_l71Pkg.l1]
            refine Ev.pos (by omega) ?_
            rw [decide_eq_true h2]
            refine Ev.down ?_
            simp only [spec_l71Pkg.j3]
            refine Ev.pos trivial (Ev.neg e (Ev.bind hv (Ev.pos e2 (Ev.bind hu (Ev.pos (by omega) ?_)))))
            rw [ew, w64 (n := 1 + u) (by omega) (by omega)]; exact hr
          · obtain ⟨ds', p', hr, k1, k2, k3, k4⟩ := ih (by omega) (p + 1) fs ds hl (by rw [← e5]; exact DO_next hD) (by omega) (by omega)
            refine ⟨ds', p', Ev.down ?_, k1, by omega, by omega, k4⟩
            simp only [spec_l71Pkg.l1]
            refine Ev.pos (by omega) ?_
            rw [decide_eq_true h2]
            refine Ev.down ?_
            simp only [spec_l71Pkg.j3]
            refine Ev.pos trivial (Ev.neg e (Ev.bind hv (Ev.neg e2 ?_)))
            rw [ew]; exact hr
      · refine ⟨ds, p, Ev.down ?_, hl, by omega, by omega, hD.1⟩
        simp only [spec_l71Pkg.l1]
        refine Ev.pos (by omega) ?_
        rw [decide_eq_false h2]
        exact stop _ _ _ _
  have files : ∀ n : Nat, n ≤ 2 → ∀ (p a : Int) (fs : List Fl), fs.length ≤ 2 - n → FO a fs → 0 ≤ a → a ≤ 100 - 10 * n → 0 ≤ p → p + 2 * n ≤ 850000 → ∃ (fs' : List Fl) (ds' : List Dp) (p' : Int), Ev (fun k => spec_l71Pkg.l0 k name a (n : Int) b p name ver fs []) (name, ver, fs', ds', p') ∧ fs'.length ≤ 2 ∧ ds'.length ≤ 2 ∧ p ≤ p' ∧ p' ≤ p + 2 * n + 8 ∧ filesOk fs' = true ∧ depsOk name ds' = true := by
    have stop : ∀ (a n p : Int) (fs : List Fl), 0 ≤ p → p ≤ 850000 → ∃ (ds' : List Dp) (p' : Int), Ev (fun k => spec_l71Pkg.j1 k name a n false b p name ver fs []) (name, ver, fs, ds', p') ∧ ds'.length ≤ 2 ∧ p ≤ p' ∧ p' ≤ p + 8 ∧ depsOk name ds' = true := by
      intro a n p fs h0 h1
      obtain ⟨ds', p', hr, k1, k2, k3, k4⟩ := deps 4 (Nat.le_refl _) p fs [] (by simp) ⟨rfl, by simp⟩ h0 (by omega)
      refine ⟨ds', p', Ev.down ?_, k1, k2, by omega, k4⟩
      simp only [spec_l71Pkg.j1]
      exact Ev.neg (by simp) hr
    intro n
    induction n with
    | zero =>
      intro _ p a fs hl hF ha ha' h0 h1
      obtain ⟨ds', p', hr, k1, k2, k3, k4⟩ := stop a 0 p fs h0 (by omega)
      refine ⟨fs, ds', p', Ev.down ?_, by omega, k1, k2, by omega, hF.1, k4⟩
      simp only [spec_l71Pkg.l0]
      exact Ev.neg (by omega) hr
    | succ n ih =>
      intro hn p a fs hl hF ha ha' h0 h1
      by_cases h6 : a < 6
      · obtain ⟨v, hv, v0, v1⟩ := pick_v hb p 10 h0 (by omega) (by omega)
        obtain ⟨u, hu, u0, u1⟩ := pick_v hb (p + 1) 3 (by omega) (by omega) (by omega)
        have hlen : (fs ++ [(⟨a, v⟩ : Fl)]).length ≤ 2 - n := by rw [List.length_append, List.length_singleton]; omega
        have hl1 : fs.length ≤ 1 := by omega
        have hv9 : 0 ≤ v ∧ v ≤ 9 := by omega
        have ha5 : 0 ≤ a ∧ a ≤ 5 := by omega
        have hFO := FO_add hF ha5 hv9 u0 hl1
        have hA := ih (by omega) (p + 1 + 1) (a + 1 + u) (fs ++ [⟨a, v⟩])
        obtain ⟨fs', ds', p', hr, k0, k1, k2, k3, k4, k5⟩ := hA hlen hFO (by omega) (by omega) (by omega) (by omega)
        refine ⟨fs', ds', p', Ev.down ?_, k0, k1, by omega, by omega, k4, k5⟩
        simp only [spec_l71Pkg.l0]
        refine Ev.pos (by omega) ?_
        rw [decide_eq_true h6]
        refine Ev.down ?_
        simp only [spec_l71Pkg.j1]
        refine Ev.pos trivial (Ev.bind hv (Ev.pos (by omega) (Ev.bind hu ?_)))
        rw [w64 (n := a + 1) (by omega) (by omega), w64 (n := a + 1 + u) (by omega) (by omega), w64 (n := ((n + 1 : Nat) : Int) - 1) (by omega) (by omega), show ((n + 1 : Nat) : Int) - 1 = (n : Int) by omega]
        exact hr
      · obtain ⟨ds', p', hr, k1, k2, k3, k4⟩ := stop a ((n + 1 : Nat) : Int) p fs h0 (by omega)
        refine ⟨fs, ds', p', Ev.down ?_, by omega, k1, k2, by omega, hF.1, k4⟩
        simp only [spec_l71Pkg.l0]
        refine Ev.pos (by omega) ?_
        rw [decide_eq_false h6]
        exact hr
  unfold spec_l71Pkg.f
  obtain ⟨v, hv, v0, v1⟩ := pick_v hb p 4 h0 (by omega) (by omega)
  obtain ⟨u, hu, u0, u1⟩ := pick_v hb (p + 1) 3 (by omega) (by omega) (by omega)
  obtain ⟨m, rfl⟩ := Int.eq_ofNat_of_zero_le u0
  obtain ⟨fs', ds', p', hr, k0, k1, k2, k3, k4, k5⟩ := files m (by omega) (p + 1 + 1) v [] (by simp) ⟨rfl, by simp⟩ v0 (by omega) (by omega) (by omega)
  exact ⟨fs', ds', p', Ev.bind hv (Ev.bind hu hr), k0, k1, by omega, by omega, k4, k5⟩
theorem l71Pkg_v {b : List Int} (hb : BY b) (p name ver : Int) (h0 : 0 ≤ p) (h1 : p ≤ 800000) : ∃ (fs : List Fl) (ds : List Dp) (p' : Int), Ev (fun k => spec_l71Pkg.f k b p name ver) (name, ver, fs, ds, p') ∧ fs.length ≤ 2 ∧ ds.length ≤ 2 ∧ p ≤ p' ∧ p' ≤ p + 20 := by
  obtain ⟨fs, ds, p', h, k1, k2, k3, k4, _⟩ := l71Pkg_o hb p name ver h0 h1
  exact ⟨fs, ds, p', h, k1, k2, k3, k4⟩

-- strm
/-! Texts as lists of numbers. -/
theorem bytesOf_append (a b : ByteArray) : bytesOf (a ++ b) = bytesOf a ++ bytesOf b := by
  unfold bytesOf
  rw [ByteArray.data_append, Array.toList_append, List.map_append]
theorem bytesOf_str {l : List Int} (h : ∀ x ∈ l, 0 ≤ x ∧ x ≤ 255) : bytesOf (strOfNums l) = l := by
  unfold bytesOf
  rw [strOfNums_data, List.map_map]
  conv => rhs; rw [← List.map_id l]
  apply List.map_congr_left
  intro x hx
  have := h x hx
  simp only [Function.comp, id]
  rw [UInt8.toNat_ofNat_of_lt' (by simp only [UInt8.size]; omega)]
  omega
theorem bytesOf_inj {a b : ByteArray} (h : bytesOf a = bytesOf b) : a = b := by
  unfold bytesOf at h
  apply ByteArray.ext
  apply Array.toList_inj.1
  have inj : ∀ l l' : List UInt8, l.map (fun b => (b.toNat : Int)) = l'.map (fun b => (b.toNat : Int)) → l = l' := by
    intro l
    induction l with
    | nil => intro l' h; cases l' with
      | nil => rfl
      | cons x l' => simp at h
    | cons x l ih =>
      intro l' h
      cases l' with
      | nil => simp at h
      | cons y l' =>
        simp only [List.map_cons, List.cons.injEq] at h
        have : x = y := UInt8.toNat_inj.1 (by omega)
        rw [this, ih l' h.2]
  exact inj _ _ h
theorem bytesOf_range (s : ByteArray) : ∀ x ∈ bytesOf s, 0 ≤ x ∧ x ≤ 255 := by
  intro x hx
  unfold bytesOf at hx
  obtain ⟨b, _, rfl⟩ := List.mem_map.1 hx
  have := b.toNat_lt
  omega
theorem str_bytesOf (s : ByteArray) : strOfNums (bytesOf s) = s := bytesOf_inj (bytesOf_str (bytesOf_range s))
theorem str_append (a b : List Int) : strOfNums a ++ strOfNums b = strOfNums (a ++ b) := by
  apply ByteArray.ext
  apply Array.toList_inj.1
  rw [ByteArray.data_append, Array.toList_append, strOfNums_data, strOfNums_data, strOfNums_data, List.map_append]
theorem str_inj {a b : List Int} (ha : ∀ x ∈ a, 0 ≤ x ∧ x ≤ 255) (hb : ∀ x ∈ b, 0 ≤ x ∧ x ≤ 255) (h : strOfNums a = strOfNums b) : a = b := by
  rw [← bytesOf_str ha, h, bytesOf_str hb]
theorem bytesOf_extract (s : ByteArray) (i j : Nat) : bytesOf (s.extract i j) = ((bytesOf s).take j).drop i := by
  unfold bytesOf
  rw [ByteArray.data_extract, Array.toList_extract, List.extract_eq_take_drop, List.map_take, List.map_drop, List.drop_take]

-- pkgtext
/-- A package's text, number by number. -/
def fileL (f : Fl) : List Int := [32, 48 + f.f0, 58, 48 + f.f1]
def depL (d : Dp) : List Int := [32, 96 + d.f0, 48 + d.f1]
def pkgL (n v : Int) (fs : List Fl) (ds : List Dp) : List Int := [96 + n, 48 + v] ++ (fs.flatMap fileL ++ ds.flatMap depL)
def pkgS (n v : Int) (fs : List Fl) (ds : List Dp) : ByteArray := if pkgOk n v fs ds = true then strOfNums (pkgL n v fs ds) else strOfNums []
theorem str_empty : (⟨#[]⟩ : ByteArray) = strOfNums [] := rfl
/-- What ok numbers are. -/
theorem fileOk_range {l : List Fl} (h : filesOk l = true) : l.length ≤ 2 ∧ ∀ f ∈ l, (0 ≤ f.f0 ∧ f.f0 ≤ 5) ∧ (0 ≤ f.f1 ∧ f.f1 ≤ 9) := by
  unfold filesOk at h
  rw [Bool.and_eq_true, decide_eq_true_eq, allFrom_iff] at h
  refine ⟨h.2, fun f hf => ?_⟩
  obtain ⟨i, hi, rfl⟩ := List.getElem_of_mem hf
  have := h.1 i (Nat.zero_le _) (by omega)
  unfold fileOk1 at this
  rw [getD_of_lt hi] at this
  simp only [Bool.and_eq_true, inB_iff] at this
  exact ⟨this.1, this.2.1⟩
theorem depOk_range {n : Int} {l : List Dp} (h : depsOk n l = true) : l.length ≤ 2 ∧ ∀ d ∈ l, (1 ≤ d.f0 ∧ d.f0 ≤ 4) ∧ (1 ≤ d.f1 ∧ d.f1 ≤ 5) := by
  unfold depsOk at h
  rw [Bool.and_eq_true, decide_eq_true_eq, allFrom_iff] at h
  refine ⟨h.2, fun f hf => ?_⟩
  obtain ⟨i, hi, rfl⟩ := List.getElem_of_mem hf
  have := h.1 i (Nat.zero_le _) (by omega)
  unfold depOk1 at this
  rw [getD_of_lt hi] at this
  simp only [Bool.and_eq_true, inB_iff] at this
  exact ⟨this.1, this.2.2.1⟩
theorem pkgOk_range {n v : Int} {fs : List Fl} {ds : List Dp} (h : pkgOk n v fs ds = true) : (1 ≤ n ∧ n ≤ 4) ∧ (1 ≤ v ∧ v ≤ 5) ∧ (fs.length ≤ 2 ∧ ∀ f ∈ fs, (0 ≤ f.f0 ∧ f.f0 ≤ 5) ∧ (0 ≤ f.f1 ∧ f.f1 ≤ 9)) ∧ (ds.length ≤ 2 ∧ ∀ d ∈ ds, (1 ≤ d.f0 ∧ d.f0 ≤ 4) ∧ (1 ≤ d.f1 ∧ d.f1 ≤ 5)) := by
  unfold pkgOk at h
  simp only [Bool.and_eq_true, inB_iff] at h
  exact ⟨h.1, h.2.1, fileOk_range h.2.2.1, depOk_range h.2.2.2⟩
theorem flat_len {α : Type} (g : α → List Int) (k : Nat) (l : List α) (h : ∀ x ∈ l, (g x).length = k) : (l.flatMap g).length = k * l.length := by
  induction l with
  | nil => simp
  | cons x l ih =>
    rw [List.flatMap_cons, List.length_append, h x (by simp), ih (fun y hy => h y (by simp [hy])), List.length_cons, Nat.mul_succ]; omega
theorem pkgL_len (n v : Int) (fs : List Fl) (ds : List Dp) : (pkgL n v fs ds).length = 2 + 4 * fs.length + 3 * ds.length := by
  unfold pkgL
  rw [List.length_append, List.length_append, flat_len fileL 4 fs (fun _ _ => rfl), flat_len depL 3 ds (fun _ _ => rfl)]
  simp only [List.length_cons, List.length_nil]; omega
theorem pkgS_size (n v : Int) (fs : List Fl) (ds : List Dp) : (pkgS n v fs ds).size ≤ 16 := by
  unfold pkgS
  by_cases h : pkgOk n v fs ds = true
  · have := pkgOk_range h
    rw [if_pos h, strOfNums_size, pkgL_len]; omega
  · rw [if_neg h, strOfNums_size]; simp

-- spec_l71Pkgs
theorem l71Pkgs_q {b : List Int} (hb : BY b) (p : Int) (h0 : 0 ≤ p) (h1 : p ≤ 700000) : ∃ (l : List Pk) (p' : Int), Ev (fun k => spec_l71Pkgs.f k b p) (l, p') ∧ l.length ≤ 127 ∧ (∀ p ∈ l, pOk p = true) ∧ p ≤ p' ∧ p' ≤ p + 200 := by
  unfold spec_l71Pkgs.f
  have loop : ∀ d : Nat, d ≤ 7 → ∀ (l : List Pk) (p : Int), l.length + 1 ≤ 2 ^ (7 - d) → (∀ p ∈ l, pOk p = true) → 0 ≤ p → p + 22 * d ≤ 750000 → ∃ (l' : List Pk) (p' : Int), Ev (fun k => spec_l71Pkgs.l0 k l (d : Int) b p) (l', p') ∧ l'.length ≤ 127 ∧ (∀ p ∈ l', pOk p = true) ∧ p ≤ p' ∧ p' ≤ p + 22 * d := by
    intro d
    induction d with
    | zero =>
      intro _ l p hl hs hp hq
      refine ⟨l, p, Ev.down ?_, by simp at hl; omega, hs, by omega, by omega⟩
      simp only [spec_l71Pkgs.l0]
      exact Ev.neg (by omega) (Ev.now _)
    | succ d ih =>
      intro hd l p hl hs hp hq
      have pw : 2 ^ (7 - d) = 2 * 2 ^ (7 - (d + 1)) := by rw [show 7 - d = (7 - (d + 1)) + 1 by omega, Nat.pow_succ]; omega
      have pm : 2 ^ (7 - (d + 1)) ≤ 2 ^ 7 := Nat.pow_le_pow_right (by omega) (by omega)
      obtain ⟨u, hu, u0, u1⟩ := pick_v hb p 4 (by omega) (by omega) (by omega)
      obtain ⟨v, hv, v0, v1⟩ := pick_v hb (p + 1) 3 (by omega) (by omega) (by omega)
      obtain ⟨fs, ds, q, hq', f1, f2, q1, q2, o1, o2⟩ := l71Pkg_o hb (p + 1 + 1) (wrap64 (1 + u)) (wrap64 (1 + v)) (by omega) (by omega)
      obtain ⟨t, ht⟩ := l12Find_v l (wrap64 (1 + u)) (wrap64 (1 + v)) (by omega)
      have e : wrap64 (((d + 1 : Nat) : Int) - 1) = (d : Int) := by rw [w64 (by omega) (by omega)]; omega
      by_cases ct : t < 0
      · obtain ⟨l2, hl2, g1, g2⟩ := l12With_q (fun p => pOk p = true) l (wrap64 (1 + u)) (wrap64 (1 + v)) fs ds (by omega) hs (by
          rw [w64 (n := 1 + u) (by omega) (by omega), w64 (n := 1 + v) (by omega) (by omega)]
          unfold pOk pkgOk
          rw [inB_iff.2 (by dsimp only; omega), inB_iff.2 (by dsimp only; omega), o1]
          rw [w64 (n := 1 + u) (by omega) (by omega)] at o2
          rw [o2]; rfl)
        obtain ⟨l', p', hr, r1, r2, r3, r4⟩ := ih (by omega) l2 q (by omega) g2 (by omega) (by omega)
        refine ⟨l', p', Ev.down ?_, r1, r2, by omega, by omega⟩
        simp only [spec_l71Pkgs.l0]
        rw [e]
        exact Ev.pos (by omega) (Ev.bind hu (Ev.bind hv (Ev.bind hq' (Ev.bind ht (Ev.pos ct (Ev.bind hl2 hr))))))
      · obtain ⟨l', p', hr, r1, r2, r3, r4⟩ := ih (by omega) l q (by omega) hs (by omega) (by omega)
        refine ⟨l', p', Ev.down ?_, r1, r2, by omega, by omega⟩
        simp only [spec_l71Pkgs.l0]
        rw [e]
        exact Ev.pos (by omega) (Ev.bind hu (Ev.bind hv (Ev.bind hq' (Ev.bind ht (Ev.neg ct hr)))))
  obtain ⟨n, hn, n0, n1⟩ := pick_v hb p 8 (by omega) (by omega) (by omega)
  obtain ⟨m, rfl⟩ := Int.eq_ofNat_of_zero_le n0
  obtain ⟨l', p', hr, r1, r2, r3, r4⟩ := loop m (by omega) [] (p + 1) (by simpa using Nat.one_le_two_pow) (fun p hp => absurd hp (List.not_mem_nil)) (by omega) (by omega)
  exact ⟨l', p', Ev.bind hn hr, r1, r2, by omega, by omega⟩
theorem l71Pkgs_v {b : List Int} (hb : BY b) (p : Int) (h0 : 0 ≤ p) (h1 : p ≤ 700000) : ∃ (l : List Pk) (p' : Int), Ev (fun k => spec_l71Pkgs.f k b p) (l, p') ∧ l.length ≤ 127 ∧ Small l ∧ p ≤ p' ∧ p' ≤ p + 200 := by
  obtain ⟨l, p', h, k1, k2, k3, k4⟩ := l71Pkgs_q hb p h0 h1
  refine ⟨l, p', h, k1, fun q hq => ?_, k3, k4⟩
  obtain ⟨_, _, ⟨a, _⟩, c, _⟩ := pkgOk_range (k2 q hq)
  exact ⟨a, c⟩

-- spec_l6In
theorem l6In_v (a b c : Int) : spec_l6In.f a b c = some (decide (b ≤ a) && decide (a ≤ c)) := by
  unfold spec_l6In.f
  by_cases h : a ≥ b
  · rw [if_pos h]; simp; omega
  · rw [if_neg h]; simp; omega

-- spec_l1Files
theorem l1Files_v (l : List Fl) (hl : l.length ≤ 17592186044416) : Ev (fun k => spec_l1Files.f k l) (filesOk l) := by
  have e : l1f l = filesOk l := by
    unfold l1f filesOk
    have : ∀ d i, okFrom (file1 l) d i = allFrom (fileOk1 l) d i := by
      intro d
      induction d with
      | zero => intro i; rfl
      | succ d ih => intro i; show (_ && _) = (_ && _); rw [ih]; rfl
    rw [this]
  rw [← e]
  exact Ev.now _

-- spec_l1Deps
theorem l1Deps_v (name : Int) (l : List Dp) (hl : l.length ≤ 17592186044416) : Ev (fun k => spec_l1Deps.f k name l) (depsOk name l) := by
  have e : l1d name l = depsOk name l := by
    unfold l1d depsOk
    have : ∀ d i, okFrom (dep1 name l) d i = allFrom (depOk1 name l) d i := by
      intro d
      induction d with
      | zero => intro i; rfl
      | succ d ih => intro i; show (_ && _) = (_ && _); rw [ih]; rfl
    rw [this]
  rw [← e]
  exact Ev.now _

-- spec_PkgOk
theorem spec_PkgOk_v (n v : Int) (fs : List Fl) (ds : List Dp) (hf : fs.length ≤ 17592186044416) (hd : ds.length ≤ 17592186044416) : Ev (fun k => spec_PkgOk.f k n v fs ds) (pkgOk n v fs ds) := by
  have l6In_v : ∀ a b c : Int, spec_l6In.f a b c = some (inB a b c) := l6In_v
  unfold spec_PkgOk.f pkgOk
  refine Ev.bind (Ev.con (l6In_v _ _ _)) ?_
  cases inB n 1 4 with
  | false => exact Ev.neg (by simp) (Ev.now _)
  | true =>
    refine Ev.pos rfl (Ev.bind (Ev.con (l6In_v _ _ _)) ?_)
    cases inB v 1 5 with
    | false => exact Ev.neg (by simp) (Ev.now _)
    | true =>
      refine Ev.pos rfl (Ev.bind (l1Files_v fs hf) ?_)
      cases filesOk fs with
      | false => exact Ev.neg (by simp) (Ev.now _)
      | true => exact Ev.pos rfl (Ev.bind (l1Deps_v n ds hd) (Ev.eq (by simp)))

-- spec_l3Pkgs
-- (printed with HEAVY=2: with the join j1)
theorem l3Pkgs_v (l : List Pk) (hl : l.length ≤ 17592186044416) (hF : Fit l) : Ev (fun k => spec_l3Pkgs.f k l) (storeOk l) := by
  unfold spec_l3Pkgs.f
  have bad : ∀ i : Int, Ev (fun k => spec_l3Pkgs.j1 k l i true) false := fun i => by
    refine Ev.down ?_
    simp only [spec_l3Pkgs.j1]
    exact Ev.pos trivial (Ev.now _)
  have good : ∀ (i : Nat) (r : Bool), i < l.length → Ev (fun k => spec_l3Pkgs.l0 k l ((i + 1 : Nat) : Int)) r → Ev (fun k => spec_l3Pkgs.j1 k l (i : Int) false) r := fun i r hi hr => by
    refine Ev.down ?_
    simp only [spec_l3Pkgs.j1]
    rw [w64 (n := (i : Int) + 1) (by omega) (by omega)]
    exact Ev.neg (by simp) hr
  refine check_loop (F := fun k i => spec_l3Pkgs.l0 k l i) (p := storeOk1 l) (n := l.length) ?_ ?_ ?_ l.length 0 (by omega)
  · refine Ev.down ?_
    simp only [spec_l3Pkgs.l0]
    exact Ev.neg (by omega) (Ev.now _)
  · intro i hi hp r hr
    obtain ⟨f1, f2⟩ := hF.get hi
    unfold storeOk1 pOk at hp
    simp only [Bool.and_eq_true, Bool.or_eq_true, beq_iff_eq] at hp
    obtain ⟨h1, h2⟩ := hp
    refine Ev.down ?_
    simp only [spec_l3Pkgs.l0]
    rw [rdP_nat]
    refine Ev.pos (by omega) (Ev.pos (by omega) (Ev.bind (spec_PkgOk_v _ _ _ _ (by omega) (by omega)) (Ev.pos h1 ?_)))
    by_cases h0 : i = 0
    · exact Ev.neg (by omega) (good i r hi hr)
    · refine Ev.pos (by omega) ?_
      rw [w64 (n := (i : Int) - 1) (by omega) (by omega)]
      refine Ev.pos (by omega) (Ev.pos (by omega) (Ev.bind (Ev.con (l3Less_v _ _ _ _)) ?_))
      rw [show (i : Int) - 1 = ((i - 1 : Nat) : Int) by omega, rdP_nat, h2.resolve_left h0]
      exact good i r hi hr
  · intro i hi hp
    obtain ⟨f1, f2⟩ := hF.get hi
    unfold storeOk1 pOk at hp
    refine Ev.down ?_
    simp only [spec_l3Pkgs.l0]
    rw [rdP_nat]
    refine Ev.pos (by omega) (Ev.pos (by omega) (Ev.bind (spec_PkgOk_v _ _ _ _ (by omega) (by omega)) ?_))
    cases h1 : pkgOk (l.getD i z31).f0 (l.getD i z31).f1 (l.getD i z31).f2 (l.getD i z31).f3 with
    | false => exact Ev.neg (by simp) (bad _)
    | true =>
      rw [h1] at hp
      simp only [Bool.true_and, Bool.or_eq_false_iff, beq_eq_false_iff_ne] at hp
      refine Ev.pos rfl (Ev.pos (by omega) ?_)
      rw [w64 (n := (i : Int) - 1) (by omega) (by omega)]
      refine Ev.pos (by omega) (Ev.pos (by omega) (Ev.bind (Ev.con (l3Less_v _ _ _ _)) ?_))
      rw [show (i : Int) - 1 = ((i - 1 : Nat) : Int) by omega, rdP_nat, hp.2]
      exact bad _

-- spec_l6Dec
/-- One figure. -/
theorem l6Dec_1 (n : Int) (h0 : 0 ≤ n) (h1 : n ≤ 9) : Ev (fun k => spec_l6Dec.f k n) (strOfNums [48 + n]) := by
  refine Ev.down ?_
  simp only [spec_l6Dec.f]
  refine Ev.neg (by omega) (Ev.neg (by omega) (Ev.pos (by omega) (Ev.eq ?_)))
  rw [w64 (by omega) (by omega), Int.emod_eq_of_lt (by omega) (by omega)]

-- spec_l1Name
theorem l1Name_v (a v : Int) (h0 : 0 ≤ a) (h1 : a ≤ 9) (h2 : 0 ≤ v) (h3 : v ≤ 9) : Ev (fun k => spec_l1Name.f k a v) (strOfNums [96 + a, 48 + v]) := by
  unfold spec_l1Name.f
  refine Ev.bind (f := fun k y => _) (Ev.now _) (Ev.bind (l6Dec_1 v h2 h3) (Ev.pos (by rw [strOfNums_size, strOfNums_size]; simp) (Ev.eq ?_)))
  rw [str_append, w64 (n := 97 + a) (by omega) (by omega), w64 (by omega) (by omega), Int.emod_eq_of_lt (by omega) (by omega), show 97 + a - 1 = 96 + a by omega]
  rfl

-- spec_PkgText
theorem spec_PkgText_v (n v : Int) (fs : List Fl) (ds : List Dp) (hf : fs.length ≤ 17592186044416) (hd : ds.length ≤ 17592186044416) : Ev (fun k => spec_PkgText.f k n v fs ds) (pkgS n v fs ds) := by
  unfold spec_PkgText.f pkgS
  refine Ev.bind (spec_PkgOk_v n v fs ds hf hd) ?_
  cases ok : pkgOk n v fs ds with
  | false => exact Ev.neg (by simp) (Ev.eq rfl)
  | true =>
    obtain ⟨⟨n0, n1⟩, ⟨v0, v1⟩, ⟨lf, rf⟩, ⟨ld, rd_⟩⟩ := pkgOk_range ok
    refine Ev.pos rfl (Ev.bind (l1Name_v n v (by omega) (by omega) (by omega) (by omega)) ?_)
    rw [if_pos rfl]
    have deps : ∀ d i : Nat, i + d = ds.length → ∀ acc : List Int, acc.length ≤ 100 + 3 * i → Ev (fun k => spec_PkgText.l1 k (strOfNums acc) (i : Int) n v fs ds) (strOfNums (acc ++ (ds.drop i).flatMap depL)) := by
      intro d
      induction d with
      | zero =>
        intro i hi acc ha
        refine Ev.down ?_
        simp only [spec_PkgText.l1]
        refine Ev.neg (by omega) (Ev.eq ?_)
        rw [List.drop_of_length_le (by omega)]; simp
      | succ d ih =>
        intro i hi acc ha
        have hil : i < ds.length := by omega
        have hr := ih (i + 1) (by omega) (acc ++ depL ds[i]) (by rw [List.length_append]; simp only [depL, List.length_cons, List.length_nil]; omega)
        obtain ⟨⟨a0, a1⟩, ⟨b0, b1⟩⟩ := rd_ ds[i] (List.getElem_mem _)
        refine Ev.down ?_
        simp only [spec_PkgText.l1]
        rw [rdD_nat, getD_of_lt hil, show (⟨#[32]⟩ : ByteArray) = strOfNums [32] from rfl, str_append]
        refine Ev.pos (by omega) (Ev.pos (by rw [strOfNums_size]; omega) (Ev.pos (by omega) (Ev.bind (l1Name_v _ _ (by omega) (by omega) (by omega) (by omega)) (Ev.pos (by rw [strOfNums_size, strOfNums_size, List.length_append]; simp only [List.length_cons, List.length_nil]; omega) ?_))))
        rw [str_append, w64 (by omega) (by omega), List.drop_eq_getElem_cons hil, List.flatMap_cons, ← List.append_assoc]
        have e : acc ++ [32] ++ [96 + ds[i].f0, 48 + ds[i].f1] = acc ++ depL ds[i] := by simp [depL]
        rw [e]
        exact hr
    have files : ∀ d i : Nat, i + d = fs.length → ∀ acc : List Int, acc.length ≤ 50 + 4 * i → Ev (fun k => spec_PkgText.l0 k (strOfNums acc) (i : Int) n v fs ds) (strOfNums (acc ++ ((fs.drop i).flatMap fileL ++ ds.flatMap depL))) := by
      intro d
      induction d with
      | zero =>
        intro i hi acc ha
        refine Ev.down ?_
        simp only [spec_PkgText.l0]
        refine Ev.neg (by omega) ?_
        rw [List.drop_of_length_le (by omega)]
        have := deps ds.length 0 (by omega) acc (by omega)
        simpa using this
      | succ d ih =>
        intro i hi acc ha
        have hil : i < fs.length := by omega
        have hr := ih (i + 1) (by omega) (acc ++ fileL fs[i]) (by rw [List.length_append]; simp only [fileL, List.length_cons, List.length_nil]; omega)
        obtain ⟨⟨a0, a1⟩, ⟨b0, b1⟩⟩ := rf fs[i] (List.getElem_mem _)
        refine Ev.down ?_
        simp only [spec_PkgText.l0]
        rw [rdF_nat, getD_of_lt hil, show (⟨#[32]⟩ : ByteArray) = strOfNums [32] from rfl, show (⟨#[58]⟩ : ByteArray) = strOfNums [58] from rfl, str_append]
        refine Ev.pos (by omega) (Ev.pos (by rw [strOfNums_size]; omega) (Ev.pos (by omega) (Ev.bind (l6Dec_1 _ (by omega) (by omega)) ?_)))
        rw [str_append, str_append]
        refine Ev.pos (by rw [strOfNums_size, strOfNums_size, List.length_append]; simp only [List.length_cons, List.length_nil]; omega) (Ev.pos (by rw [strOfNums_size, List.length_append, List.length_append]; simp only [List.length_cons, List.length_nil]; omega) (Ev.bind (l6Dec_1 _ (by omega) (by omega)) ?_))
        refine Ev.pos (by rw [strOfNums_size, strOfNums_size]; simp only [List.length_append, List.length_cons, List.length_nil]; omega) ?_
        rw [str_append, w64 (by omega) (by omega), List.drop_eq_getElem_cons hil, List.flatMap_cons]
        have e : acc ++ [32] ++ [48 + fs[i].f0] ++ [58] ++ [48 + fs[i].f1] = acc ++ fileL fs[i] := by simp [fileL]
        rw [e, List.append_assoc (fileL fs[i]), ← List.append_assoc acc]
        exact hr
    exact files fs.length 0 (by omega) [96 + n, 48 + v] (by simp)

-- summ
def sum1 (n b : Int) : Int := (31 * n + b + 1) % 9973
def sumFrom (n : Int) (l : List Int) : Int := l.foldl sum1 n
def sumL (l : List Int) : Int := sumFrom 7 l
theorem sum1_range (n b : Int) : 0 ≤ sum1 n b ∧ sum1 n b < 9973 := by unfold sum1; omega
theorem sumFrom_range {n : Int} (l : List Int) (h : 0 ≤ n ∧ n < 9973) : 0 ≤ sumFrom n l ∧ sumFrom n l < 9973 := by
  unfold sumFrom
  induction l generalizing n with
  | nil => exact h
  | cons b l ih => exact ih (sum1_range n b)
theorem sumFrom_append (n : Int) (a b : List Int) : sumFrom n (a ++ b) = sumFrom (sumFrom n a) b := List.foldl_append
theorem sum1_inj {n m b : Int} (hn : 0 ≤ n ∧ n < 9973) (hm : 0 ≤ m ∧ m < 9973) (h : sum1 n b = sum1 m b) : n = m := by unfold sum1 at h; omega
theorem sumFrom_inj {n m : Int} (l : List Int) (hn : 0 ≤ n ∧ n < 9973) (hm : 0 ≤ m ∧ m < 9973) (h : sumFrom n l = sumFrom m l) : n = m := by
  unfold sumFrom at h
  induction l generalizing n m with
  | nil => exact h
  | cons b l ih => exact sum1_inj hn hm (ih (sum1_range n b) (sum1_range m b) h)
/-- One byte changed is found. -/
theorem sumL_byte (p q : List Int) {c d : Int} (hc : 0 ≤ c ∧ c ≤ 255) (hd : 0 ≤ d ∧ d ≤ 255) (h : c ≠ d) : sumL (p ++ [c] ++ q) ≠ sumL (p ++ [d] ++ q) := by
  intro e
  unfold sumL at e
  rw [sumFrom_append, sumFrom_append, sumFrom_append, sumFrom_append] at e
  have e2 := sumFrom_inj q (sumFrom_range [c] (sumFrom_range p (by omega))) (sumFrom_range [d] (sumFrom_range p (by omega))) e
  have := sumFrom_range p (n := 7) (by omega)
  simp only [sumFrom, List.foldl_cons, List.foldl_nil] at e2 this
  unfold sum1 at e2
  omega

-- spec_SumOf
theorem spec_SumOf_v (s : ByteArray) (hs : s.size ≤ 140737488351232) : Ev (fun k => spec_SumOf.f k s) (sumL (bytesOf s)) := by
  unfold spec_SumOf.f
  have hl := bytesOf_length s
  have key : ∀ d i : Nat, i + d = s.size → Ev (fun k => spec_SumOf.l0 k s (sumL ((bytesOf s).take i)) (i : Int)) (sumL (bytesOf s)) := by
    intro d
    induction d with
    | zero =>
      intro i hi
      refine Ev.down ?_
      simp only [spec_SumOf.l0]
      refine Ev.neg (by omega) (Ev.eq ?_)
      rw [List.take_of_length_le (by omega)]
    | succ d ih =>
      intro i hi
      have hr := ih (i + 1) (by omega)
      have hn := sumFrom_range (n := 7) ((bytesOf s).take i) (by omega)
      have hb := bt_range s i
      have e : bt s i = (bytesOf s)[i]'(by omega) := by rw [← rd_bytesOf, rd_nat, getD_of_lt (by omega)]
      rw [List.take_succ_eq_append_getElem (by omega), ← e] at hr
      unfold sumL at hr ⊢
      rw [sumFrom_append] at hr
      refine Ev.down ?_
      simp only [spec_SumOf.l0]
      refine Ev.pos (by omega) (Ev.pos (by omega) ?_)
      rw [w64 (n := bt s i) (by omega) (by omega), w64 (n := 31 * _) (by omega) (by omega), w64 (n := 31 * _ + _) (by omega) (by omega), w64 (n := _ + 1) (by omega) (by omega), w64 (n := (i : Int) + 1) (by omega) (by omega), Int.tmod_eq_emod_of_nonneg (by omega)]
      exact hr
  exact key s.size 0 (by omega)

-- keys
/-! Keys. -/
def kOk1 (l : List Int) (i : Nat) : Bool := (decide (1 ≤ l.getD i 0) && decide (l.getD i 0 ≤ 6)) && (i == 0 || decide (l.getD (i - 1) 0 < l.getD i 0))
/-- The keys are ok: 1 to 6, ascending. -/
def keysOk (l : List Int) : Bool := allFrom (kOk1 l) l.length 0
def KOk (l : List Int) : Prop := l.Pairwise (· < ·) ∧ ∀ x ∈ l, 1 ≤ x ∧ x ≤ 6
theorem kOk1_iff {l : List Int} {i : Nat} : kOk1 l i = true ↔ (1 ≤ l.getD i 0 ∧ l.getD i 0 ≤ 6) ∧ (i = 0 ∨ l.getD (i - 1) 0 < l.getD i 0) := by
  simp [kOk1]
/-- From one to the next ascending is ascending. -/
theorem asc_of_next {l : List Int} (h : ∀ i, 0 < i → i < l.length → l.getD (i - 1) 0 < l.getD i 0) : ∀ j i, i < j → j < l.length → l.getD i 0 < l.getD j 0 := by
  intro j
  induction j with
  | zero => intro i h1; omega
  | succ j ih =>
    intro i h1 h2
    have hj := h (j + 1) (by omega) h2
    simp only [Nat.add_sub_cancel] at hj
    rcases Nat.eq_or_lt_of_le (Nat.le_of_lt_succ h1) with e | e
    · rw [e]; exact hj
    · have := ih i e (by omega); omega
theorem keysOk_iff {l : List Int} : keysOk l = true ↔ KOk l := by
  unfold keysOk KOk
  rw [allFrom_iff]
  constructor
  · intro h
    have h' : ∀ j, j < l.length → _ := fun j hj => kOk1_iff.1 (h j (Nat.zero_le _) (by omega))
    refine ⟨?_, ?_⟩
    · rw [List.pairwise_iff_getElem]
      intro i j hi hj hij
      have := asc_of_next (fun i hi0 hi => (h' i hi).2.resolve_left (by omega)) j i hij hj
      rwa [getD_of_lt hi, getD_of_lt hj] at this
    · intro x hx
      obtain ⟨i, hi, rfl⟩ := List.getElem_of_mem hx
      have := (h' i hi).1
      rwa [getD_of_lt hi] at this
  · rintro ⟨h1, h2⟩ j - hj
    have hj : j < l.length := by omega
    rw [kOk1_iff]
    refine ⟨?_, ?_⟩
    · rw [getD_of_lt hj]; exact h2 _ (List.getElem_mem _)
    · rcases Nat.eq_zero_or_pos j with e | e
      · exact .inl e
      · refine .inr ?_
        rw [getD_of_lt hj, getD_of_lt (by omega)]
        exact List.pairwise_iff_getElem.1 h1 _ _ _ _ (by omega)
instance (l : List Int) : Decidable (KOk l) := decidable_of_iff _ keysOk_iff
/-- How many of a are in b. -/
def bothN (a b : List Int) : Nat := (a.filter (fun x => b.contains x)).length
def both (a b : List Int) : Int := if keysOk a = true ∧ keysOk b = true then (bothN a b : Int) else -1
theorem bothN_le (a b : List Int) : bothN a b ≤ a.length := List.length_filter_le _ _
/-- All ok keys. -/
def allKeys : List (List Int) := [1, 2, 3, 4, 5, 6].foldr (fun x ls => ls.map (x :: ·) ++ ls) [[]]
theorem asc_mem : ∀ (us : List Int) (l : List Int), us.Pairwise (· < ·) → l.Pairwise (· < ·) → (∀ x ∈ l, x ∈ us) → l ∈ us.foldr (fun x ls => ls.map (x :: ·) ++ ls) [[]]
  | [], l, _, _, h => by
    cases l with
    | nil => simp
    | cons a l => have := h a (by simp); simp at this
  | u :: us, l, hu, hl, h => by
    simp only [List.foldr_cons, List.mem_append, List.mem_map]
    rw [List.pairwise_cons] at hu
    cases l with
    | nil => exact .inr (asc_mem us [] hu.2 List.Pairwise.nil (by simp))
    | cons a l =>
      rw [List.pairwise_cons] at hl
      by_cases e : a = u
      · subst e
        refine .inl ⟨l, asc_mem us l hu.2 hl.2 (fun x hx => ?_), rfl⟩
        have h1 := hl.1 x hx
        have h2 := h x (by simp [hx])
        simp only [List.mem_cons] at h2
        rcases h2 with h2 | h2
        · omega
        · exact h2
      · refine .inr (asc_mem us (a :: l) hu.2 (List.pairwise_cons.2 hl) (fun x hx => ?_))
        have h2 := h x hx
        simp only [List.mem_cons] at h2 hx
        rcases h2 with h2 | h2
        · exfalso
          have ha := h a (by simp)
          simp only [List.mem_cons] at ha
          rcases ha with ha | ha
          · exact e ha
          · have := hu.1 a ha
            rcases hx with hx | hx
            · omega
            · have := hl.1 x hx; omega
        · exact h2
theorem mem_allKeys {l : List Int} (h : KOk l) : l ∈ allKeys := by
  refine asc_mem [1, 2, 3, 4, 5, 6] l (by decide) h.1 (fun x hx => ?_)
  have := h.2 x hx
  simp only [List.mem_cons, List.not_mem_nil, or_false]
  omega
theorem KOk.len {l : List Int} (h : KOk l) : l.length ≤ 6 := by
  have : ∀ l ∈ allKeys, l.length ≤ 6 := by decide
  exact this l (mem_allKeys h)
theorem KOk.nodup {l : List Int} (h : KOk l) : l.Nodup := h.1.imp (fun h => by omega)

-- metam
/-! What an index tells. -/
abbrev Mt := S40
instance : DecidableEq S40 := fun x y => decidable_of_iff (x.f0 = y.f0 ∧ x.f1 = y.f1 ∧ x.f2 = y.f2) (by obtain ⟨a, b, c⟩ := x; obtain ⟨d, e, f⟩ := y; simp)
theorem rdM_nat (l : List Mt) (i : Nat) : rd_T40 l (i : Int) = l.getD i z40 := by unfold rd_T40; rw [Int.toNat_natCast]
def metaOk1 (l : List Mt) (i : Nat) : Bool := (inB (l.getD i z40).f0 1 4 && (inB (l.getD i z40).f1 1 5 && inB (l.getD i z40).f2 0 9972)) &&
  (i == 0 || lessB (l.getD (i - 1) z40).f0 (l.getD (i - 1) z40).f1 (l.getD i z40).f0 (l.getD i z40).f1)
def metasOk (l : List Mt) : Bool := allFrom (metaOk1 l) l.length 0
def indexOk (num till : Int) (l : List Mt) : Bool := (inB num 1 30 && (inB till 0 60 && decide (l.length ≤ 8))) && metasOk l

-- spec_IndexOk
theorem spec_IndexOk_v (num till : Int) (l : List Mt) (hl : l.length ≤ 17592186044416) : Ev (fun k => spec_IndexOk.f k num till l) (indexOk num till l) := by
  have l6In_v : ∀ a b c : Int, spec_l6In.f a b c = some (inB a b c) := l6In_v
  unfold spec_IndexOk.f indexOk
  have no : Ev (fun k => spec_IndexOk.j0 k true num till l) false := by
    refine Ev.down ?_
    simp only [spec_IndexOk.j0]
    exact Ev.pos trivial (Ev.now _)
  have nope : ∀ i : Int, ∀ a b c, Ev (fun k => spec_IndexOk.j2 k i true num till l a b c) false := by
    intro i a b c
    refine Ev.down ?_
    simp only [spec_IndexOk.j2]
    exact Ev.pos trivial (Ev.now _)
  have loop : Ev (fun k => spec_IndexOk.l0 k 0 num till l) (metasOk l) := by
    refine check_loop (F := fun k i => spec_IndexOk.l0 k i num till l) (p := metaOk1 l) (n := l.length) ?_ ?_ ?_ l.length 0 (by omega)
    · refine Ev.down ?_
      simp only [spec_IndexOk.l0]
      exact Ev.neg (by omega) (Ev.now _)
    · intro i hi hp r hr
      unfold metaOk1 at hp
      simp only [Bool.and_eq_true, Bool.or_eq_true, beq_iff_eq] at hp
      obtain ⟨⟨h1, h2, h3⟩, h4⟩ := hp
      refine Ev.down ?_
      simp only [spec_IndexOk.l0]
      rw [rdM_nat]
      refine Ev.pos (by omega) (Ev.pos (by omega) (Ev.bind (Ev.con (l6In_v _ _ _)) (Ev.pos h1 (Ev.bind (Ev.con (l6In_v _ _ _)) (Ev.pos h2 (Ev.bind (Ev.con (l6In_v _ _ _)) ?_))))))
      rw [h3]
      refine Ev.down ?_
      simp only [spec_IndexOk.j2]
      refine Ev.neg (by simp) ?_
      rw [w64 (n := (i : Int) + 1) (by omega) (by omega)]
      by_cases h0 : i = 0
      · exact Ev.neg (by omega) hr
      · refine Ev.pos (by omega) ?_
        rw [w64 (n := (i : Int) - 1) (by omega) (by omega)]
        refine Ev.pos (by omega) (Ev.pos (by omega) (Ev.bind (Ev.con (l3Less_v _ _ _ _)) ?_))
        rw [show (i : Int) - 1 = ((i - 1 : Nat) : Int) by omega, rdM_nat]
        exact Ev.pos (h4.resolve_left h0) hr
    · intro i hi hp
      unfold metaOk1 at hp
      refine Ev.down ?_
      simp only [spec_IndexOk.l0]
      rw [rdM_nat]
      refine Ev.pos (by omega) (Ev.pos (by omega) (Ev.bind (Ev.con (l6In_v _ _ _)) ?_))
      cases h1 : inB (l.getD i z40).f0 1 4 with
      | false => exact Ev.neg (by simp) (nope _ _ _ _)
      | true =>
        refine Ev.pos (by simp) (Ev.bind (Ev.con (l6In_v _ _ _)) ?_)
        cases h2 : inB (l.getD i z40).f1 1 5 with
        | false => exact Ev.neg (by simp) (nope _ _ _ _)
        | true =>
          refine Ev.pos (by simp) (Ev.bind (Ev.con (l6In_v _ _ _)) ?_)
          cases h3 : inB (l.getD i z40).f2 0 9972 with
          | false => exact nope _ _ _ _
          | true =>
            rw [h1, h2, h3] at hp
            simp only [Bool.and_self, Bool.true_and, Bool.or_eq_false_iff, beq_eq_false_iff_ne] at hp
            refine Ev.down ?_
            simp only [spec_IndexOk.j2]
            refine Ev.neg (by simp) (Ev.pos (by omega) ?_)
            rw [w64 (n := (i : Int) - 1) (by omega) (by omega)]
            refine Ev.pos (by omega) (Ev.pos (by omega) (Ev.bind (Ev.con (l3Less_v _ _ _ _)) ?_))
            rw [show (i : Int) - 1 = ((i - 1 : Nat) : Int) by omega, rdM_nat]
            exact Ev.neg (by rw [hp.2]; simp) (Ev.now _)
  refine Ev.bind (Ev.con (l6In_v _ _ _)) ?_
  cases h1 : inB num 1 30 with
  | false => exact Ev.neg (by simp) no
  | true =>
    refine Ev.pos (by simp) (Ev.bind (Ev.con (l6In_v _ _ _)) ?_)
    cases h2 : inB till 0 60 with
    | false => exact Ev.neg (by simp) no
    | true =>
      refine Ev.pos (by simp) ?_
      by_cases h3 : l.length ≤ 8
      · rw [decide_eq_false (show ¬ ((l.length : Int) > 8) by omega), decide_eq_true h3]
        refine Ev.down ?_
        simp only [spec_IndexOk.j0]
        exact Ev.neg (by simp) loop
      · rw [decide_eq_true (show ((l.length : Int) > 8) by omega), decide_eq_false h3]
        exact no

-- spec_IndexOf
theorem IndexOf_v (num till : Int) (l : List Pk) (hl : l.length ≤ 1000) (hF : Small l) : ∃ (a b : Int) (ms : List Mt) (told : Bool), Ev (fun k => spec_IndexOf.f k num till l) (a, b, ms, told) ∧ ms.length ≤ l.length := by
  unfold spec_IndexOf.f
  have loop : ∀ d i : Nat, i + d = l.length → ∀ ms : List Mt, ms.length ≤ i → ∃ (a b : Int) (ms' : List Mt) (told : Bool), Ev (fun k => spec_IndexOf.l0 k l (i : Int) num till ms) (a, b, ms', told) ∧ ms'.length ≤ l.length := by
    intro d
    induction d with
    | zero =>
      intro i hi ms hm
      cases c : indexOk num till ms with
      | true =>
        refine ⟨num, till, ms, true, Ev.down ?_, by omega⟩
        simp only [spec_IndexOf.l0]
        exact Ev.neg (by omega) (Ev.bind (spec_IndexOk_v num till ms (by omega)) (Ev.pos c (Ev.now _)))
      | false =>
        refine ⟨0, 0, [], false, Ev.down ?_, Nat.zero_le _⟩
        simp only [spec_IndexOf.l0]
        exact Ev.neg (by omega) (Ev.bind (spec_IndexOk_v num till ms (by omega)) (Ev.neg (by rw [c]; simp) (Ev.now _)))
    | succ d ih =>
      intro i hi ms hm
      have e : wrap64 ((i : Int) + 1) = ((i + 1 : Nat) : Int) := by rw [w64 (by omega) (by omega)]; rfl
      have sm := hF.get (i := i) (by omega)
      have sz := pkgS_size (l.getD i z31).f0 (l.getD i z31).f1 (l.getD i z31).f2 (l.getD i z31).f3
      obtain ⟨a, b, ms', told, hr, r1⟩ := ih (i + 1) (by omega) (ms ++ [⟨(l.getD i z31).f0, (l.getD i z31).f1, sumL (bytesOf (pkgS (l.getD i z31).f0 (l.getD i z31).f1 (l.getD i z31).f2 (l.getD i z31).f3))⟩]) (by rw [List.length_append, List.length_singleton]; omega)
      refine ⟨a, b, ms', told, Ev.down ?_, r1⟩
      simp only [spec_IndexOf.l0]
      rw [e, rdP_nat]
      exact Ev.pos (by omega) (Ev.pos (by omega) (Ev.bind (spec_PkgText_v _ _ _ _ (by omega) (by omega)) (Ev.bind (spec_SumOf_v _ (by omega)) (Ev.pos (by omega) hr))))
  cases c : storeOk l with
  | true =>
    obtain ⟨a, b, ms, told, hr, r1⟩ := loop l.length 0 (by omega) [] (Nat.zero_le _)
    exact ⟨a, b, ms, told, Ev.bind (l3Pkgs_v l (by omega) hF.fit) (Ev.pos c hr), r1⟩
  | false => exact ⟨0, 0, [], false, Ev.bind (l3Pkgs_v l (by omega) hF.fit) (Ev.neg (by rw [c]; simp) (Ev.now _)), Nat.zero_le _⟩

-- spec_l71Index
theorem l71Index_v {b : List Int} (hb : BY b) (p : Int) (h0 : 0 ≤ p) (h1 : p ≤ 600000) : ∃ (n u : Int) (ms : List Mt) (p' : Int), Ev (fun k => spec_l71Index.f k b p) (n, u, ms, p') ∧ ms.length ≤ 128 ∧ p ≤ p' ∧ p' ≤ p + 300 := by
  unfold spec_l71Index.f
  obtain ⟨v, hv, v0, v1⟩ := pick_v hb p 6 (by omega) (by omega) (by omega)
  obtain ⟨u, hu, u0, u1⟩ := pick_v hb (p + 1) 12 (by omega) (by omega) (by omega)
  obtain ⟨l, q, hq, l1, l2, q1, q2⟩ := l71Pkgs_v hb (p + 1 + 1) (by omega) (by omega)
  obtain ⟨x, y, ms, told, ho, m1⟩ := IndexOf_v (wrap64 (1 + v)) u l (by omega) l2
  obtain ⟨t, ht, t0, t1⟩ := pick_v hb q 16 (by omega) (by omega) (by omega)
  by_cases e0 : t = 0
  · obtain ⟨s, hs, s0, s1⟩ := pick_v hb (q + 1) 3 (by omega) (by omega) (by omega)
    exact ⟨_, y, ms, q + 1 + 1, Ev.bind hv (Ev.bind hu (Ev.bind hq (Ev.bind ho (Ev.bind ht (Ev.pos e0 (Ev.bind (f := fun k y => _) (Ev.now _) (Ev.bind hs (Ev.pos s0 (Ev.pos (by simp; omega) (Ev.now _)))))))))), by omega, by omega, by omega⟩
  · by_cases e1 : t = 1
    · obtain ⟨s, hs, s0, s1⟩ := pick_v hb (q + 1) 3 (by omega) (by omega) (by omega)
      exact ⟨x, _, ms, q + 1 + 1, Ev.bind hv (Ev.bind hu (Ev.bind hq (Ev.bind ho (Ev.bind ht (Ev.neg e0 (Ev.pos e1 (Ev.bind (f := fun k y => _) (Ev.now _) (Ev.bind hs (Ev.pos s0 (Ev.pos (by simp; omega) (Ev.now _))))))))))), by omega, by omega, by omega⟩
    · by_cases e2 : t = 2
      · obtain ⟨s, hs, s0, s1⟩ := pick_v hb (q + 1) 4 (by omega) (by omega) (by omega)
        obtain ⟨s', hs', _, _⟩ := pick_v hb (q + 1 + 1) 4 (by omega) (by omega) (by omega)
        obtain ⟨s2, hs2, _, _⟩ := pick_v hb (q + 1 + 1 + 1) 9973 (by omega) (by omega) (by omega)
        exact ⟨x, y, _, q + 1 + 1 + 1 + 1, Ev.bind hv (Ev.bind hu (Ev.bind hq (Ev.bind ho (Ev.bind ht (Ev.neg e0 (Ev.neg e1 (Ev.pos e2 (Ev.bind hs (Ev.bind hs' (Ev.bind hs2 (Ev.pos (by dsimp only; omega) (Ev.now _)))))))))))), by (simp only [List.length_append, List.length_singleton]; omega), by omega, by omega⟩
      · exact ⟨x, y, ms, q + 1, Ev.bind hv (Ev.bind hu (Ev.bind hq (Ev.bind ho (Ev.bind ht (Ev.neg e0 (Ev.neg e1 (Ev.neg e2 (Ev.now _)))))))), by omega, by omega, by omega⟩

-- spec_l71Any
theorem l71Any_v {b : List Int} (hb : BY b) (p : Int) (h0 : 0 ≤ p) (h1 : p ≤ 700000) : ∃ (name ver : Int) (fs : List Fl) (ds : List Dp) (p' : Int), Ev (fun k => spec_l71Any.f k b p) (name, ver, fs, ds, p') ∧ fs.length ≤ 3 ∧ ds.length ≤ 3 ∧ p ≤ p' ∧ p' ≤ p + 40 := by
  unfold spec_l71Any.f
  obtain ⟨v, hv, v0, v1⟩ := pick_v hb p 4 h0 (by omega) (by omega)
  obtain ⟨u, hu, u0, u1⟩ := pick_v hb (p + 1) 3 (by omega) (by omega) (by omega)
  obtain ⟨fs, ds, q, hq, k1, k2, k3, k4⟩ := l71Pkg_v hb (p + 1 + 1) (wrap64 (1 + v)) (wrap64 (1 + u)) (by omega) (by omega)
  obtain ⟨t, ht, t0, t1⟩ := pick_v hb q 20 (by omega) (by omega) (by omega)
  obtain ⟨s2, hs2, a0, a1⟩ := pick_v hb (q + 1) 2 (by omega) (by omega) (by omega)
  by_cases e0 : t = 0
  · refine ⟨_, _, _, _, _, Ev.bind hv (Ev.bind hu (Ev.bind hq (Ev.bind ht (Ev.pos e0 (Ev.bind (f := fun k y => _) (Ev.now _) (Ev.bind hs2 (Ev.pos a0 (Ev.pos (by simp; omega) (Ev.now _))))))))), by dsimp only; omega, by dsimp only; omega, by dsimp only; omega, by dsimp only; omega⟩
  · by_cases e1 : t = 1
    · refine ⟨_, _, _, _, _, Ev.bind hv (Ev.bind hu (Ev.bind hq (Ev.bind ht (Ev.neg e0 (Ev.pos e1 (Ev.bind (f := fun k y => _) (Ev.now _) (Ev.bind hs2 (Ev.pos a0 (Ev.pos (by simp; omega) (Ev.now _)))))))))), by dsimp only; omega, by dsimp only; omega, by dsimp only; omega, by dsimp only; omega⟩
    · by_cases e2 : t = 2
      · obtain ⟨s7, hs7, _, _⟩ := pick_v hb (q + 1) 7 (by omega) (by omega) (by omega)
        obtain ⟨s12, hs12, _, _⟩ := pick_v hb (q + 1 + 1) 12 (by omega) (by omega) (by omega)
        refine ⟨_, _, _, _, _, Ev.bind hv (Ev.bind hu (Ev.bind hq (Ev.bind ht (Ev.neg e0 (Ev.neg e1 (Ev.pos e2 (Ev.bind hs7 (Ev.bind hs12 (Ev.pos (by dsimp only; omega) (Ev.now _)))))))))), by (simp only [List.length_append, List.length_cons, List.length_nil]; omega), by (dsimp only; omega), by (dsimp only; omega), by (dsimp only; omega)⟩
      · by_cases e3 : t = 3
        · obtain ⟨s6, hs6, _, _⟩ := pick_v hb (q + 1) 6 (by omega) (by omega) (by omega)
          obtain ⟨s7, hs7, _, _⟩ := pick_v hb (q + 1 + 1) 7 (by omega) (by omega) (by omega)
          refine ⟨_, _, _, _, _, Ev.bind hv (Ev.bind hu (Ev.bind hq (Ev.bind ht (Ev.neg e0 (Ev.neg e1 (Ev.neg e2 (Ev.pos e3 (Ev.bind hs6 (Ev.bind hs7 (Ev.pos (by dsimp only; omega) (Ev.now _))))))))))), by (dsimp only; omega), by (simp only [List.length_append, List.length_cons, List.length_nil]; omega), by (dsimp only; omega), by (dsimp only; omega)⟩
        · exact ⟨_, _, _, _, _, Ev.bind hv (Ev.bind hu (Ev.bind hq (Ev.bind ht (Ev.neg e0 (Ev.neg e1 (Ev.neg e2 (Ev.neg e3 (Ev.now _)))))))), by dsimp only; omega, by dsimp only; omega, by dsimp only; omega, by dsimp only; omega⟩

-- spec_l6Rd_of
theorem of_v {b : List Int} (hb : BY b) (p : Int) (l : List ByteArray) (h0 : 0 ≤ p) (h1 : p ≤ 1000000) (hl : 0 < l.length) (hl2 : l.length ≤ 1000) (hs : ∀ s ∈ l, s.size ≤ 2000) : ∃ s, Ev (fun k => spec_l6Rd_of.f k b p l) (s, p + 1) ∧ s.size ≤ 2000 := by
  unfold spec_l6Rd_of.f
  obtain ⟨v, hv, v0, v1⟩ := pick_v hb p (l.length : Int) h0 h1 (by omega)
  refine ⟨_, Ev.bind hv (Ev.pos v0 (Ev.pos (by omega) (Ev.now _))), ?_⟩
  unfold rdOf
  have : v.toNat < l.length := by omega
  rw [getD_of_lt this]
  exact hs _ (List.getElem_mem _)

-- spec_DrawIndexHas
theorem DrawIndexHas_v (l : List Int) (hw : ∀ x ∈ l, (Lit.int .u8 x).wf = true) : ∃ (n u : Int) (ms : List Mt) (s : ByteArray), Ev (fun k => spec_DrawIndexHas.f k l) (n, u, ms, s) ∧ ms.length ≤ 128 ∧ s.size ≤ 3000 := by
  obtain ⟨b, ho, hb⟩ := open_v l hw
  obtain ⟨ps, p, h1, k1, k2, k3, k4⟩ := l71Pkgs_q hb 0 (by omega) (by omega)
  have hF : Small ps := fun q hq => by
    obtain ⟨_, _, ⟨a, _⟩, c, _⟩ := pkgOk_range (k2 q hq)
    exact ⟨a, c⟩
  obtain ⟨x0, x1, ms, told, h2, m1⟩ := IndexOf_v 1 5 ps (by omega) hF
  unfold spec_DrawIndexHas.f
  have any : ∀ p : Int, 0 ≤ p → p ≤ 300 → ∃ (n u : Int) (ms' : List Mt) (s : ByteArray), Ev (fun k => spec_DrawIndexHas.j0 k ps true b p x0 x1 ms) (n, u, ms', s) ∧ ms'.length ≤ 128 ∧ s.size ≤ 3000 := by
    intro p p0 p1
    obtain ⟨n, u, ms', p', g1, a1, a2, a3⟩ := l71Index_v hb p p0 (by omega)
    obtain ⟨n2, v2, fs, ds, p2, g2, b1, b2, b3, b4⟩ := l71Any_v hb p' (by omega) (by omega)
    have t1 := pkgS_size n2 v2 fs ds
    refine ⟨n, u, ms', pkgS n2 v2 fs ds, Ev.down ?_, a1, by omega⟩
    simp only [spec_DrawIndexHas.j0]
    exact Ev.pos trivial (Ev.bind g1 (Ev.bind g2 (Ev.bind (spec_PkgText_v n2 v2 fs ds (by omega) (by omega)) (Ev.now _))))
  by_cases e0 : (ps.length : Int) = 0
  · obtain ⟨n, u, ms', s, g, a, c⟩ := any p (by omega) (by omega)
    exact ⟨n, u, ms', s, Ev.bind (Ev.con ho) (Ev.bind h1 (Ev.bind h2 (Ev.pos e0 g))), a, c⟩
  · obtain ⟨c8, hc8, c80, c81⟩ := pick_v hb p 8 (by omega) (by omega) (by omega)
    by_cases e1 : c8 = 0
    · obtain ⟨n, u, ms', s, g, a, c⟩ := any (p + 1) (by omega) (by omega)
      refine ⟨n, u, ms', s, Ev.bind (Ev.con ho) (Ev.bind h1 (Ev.bind h2 (Ev.neg e0 (Ev.bind hc8 ?_)))), a, c⟩
      rw [beq_iff_eq.2 e1]
      exact g
    · obtain ⟨q, hq, q0, q1⟩ := pick_v hb (p + 1) (ps.length : Int) (by omega) (by omega) (by omega)
      have hqn : q.toNat < ps.length := by omega
      have hP := k2 (ps.getD q.toNat z31) (by rw [getD_of_lt hqn]; exact List.getElem_mem _)
      have hrd : rd_T31 ps q = ps.getD q.toNat z31 := by rw [show q = ((q.toNat : Nat) : Int) by omega, rdP_nat]; rfl
      obtain ⟨P, hPe⟩ : ∃ P, P = ps.getD q.toNat z31 := ⟨_, rfl⟩
      rw [← hPe] at hP hrd
      obtain ⟨_, _, ⟨lf, _⟩, ld, _⟩ := pkgOk_range hP
      have T := spec_PkgText_v P.f0 P.f1 P.f2 P.f3 (by omega) (by omega)
      have t1 := pkgS_size P.f0 P.f1 P.f2 P.f3
      have t2 : 2 ≤ (pkgS P.f0 P.f1 P.f2 P.f3).size := by
        rw [show pkgS P.f0 P.f1 P.f2 P.f3 = strOfNums (pkgL P.f0 P.f1 P.f2 P.f3) from if_pos hP, strOfNums_size, pkgL_len]; omega
      obtain ⟨s, hs⟩ : ∃ s, s = pkgS P.f0 P.f1 P.f2 P.f3 := ⟨_, rfl⟩
      rw [← hs] at T t1 t2
      obtain ⟨c4, hc4, c40, c41⟩ := pick_v hb (p + 1 + 1) 4 (by omega) (by omega) (by omega)
      have top : ∀ s', Ev (fun k => spec_DrawIndexHas.j0 k ps false b (p + 1) x0 x1 ms) (x0, x1, ms, s') → Ev (fun k => (spec_l6Open.f l).bind fun bt325 => ((spec_l71Pkgs.f k bt325.1 bt325.2).bind fun bt328 => ((spec_IndexOf.f k 1 5 bt328.1).bind fun bt332 => (if (bt328.1.length : Int) = 0 then (spec_DrawIndexHas.j0 k bt328.1 true bt325.1 bt328.2 bt332.1 bt332.2.1 bt332.2.2.1) else ((spec_l6Rd_pick.f k bt325.1 bt328.2 8).bind fun bt339 => (spec_DrawIndexHas.j0 k bt328.1 (bt339.1 == 0) bt325.1 bt339.2 bt332.1 bt332.2.1 bt332.2.2.1)))))) (x0, x1, ms, s') := fun s' h => by
        refine Ev.bind (Ev.con ho) (Ev.bind h1 (Ev.bind h2 (Ev.neg e0 (Ev.bind hc8 ?_))))
        rw [beq_eq_false_iff_ne.2 e1]
        exact h
      by_cases e4 : c4 = 0
      · obtain ⟨at_, hat, at0, at1⟩ := pick_v hb (p + 1 + 1 + 1) (s.size : Int) (by omega) (by omega) (by omega)
        obtain ⟨x, hx, hx1⟩ := of_v hb (p + 1 + 1 + 1 + 1) [⟨#[48]⟩, ⟨#[49]⟩, ⟨#[98]⟩, ⟨#[32]⟩] (by omega) (by omega) (by simp) (by simp) (by
          intro s hs
          simp only [List.mem_cons, List.not_mem_nil, or_false] at hs
          rcases hs with rfl | rfl | rfl | rfl <;> decide)
        have z1 : (s.extract 0 at_.toNat).size ≤ s.size := by rw [ByteArray.size_extract]; omega
        have z2 : (s.extract (at_ + 1).toNat s.size).size ≤ s.size := by rw [ByteArray.size_extract]; omega
        have z3 : (s.extract 0 at_.toNat ++ x).size = (s.extract 0 at_.toNat).size + x.size := ByteArray.size_append
        refine ⟨x0, x1, ms, (s.extract 0 at_.toNat ++ x) ++ s.extract (at_ + 1).toNat s.size, top _ (Ev.down ?_), by omega, by rw [ByteArray.size_append]; omega⟩
        simp only [spec_DrawIndexHas.j0]
        refine Ev.neg (by simp) (Ev.bind hq (Ev.pos q0 (Ev.pos (by dsimp only; omega) ?_)))
        dsimp only
        rw [hrd]
        refine Ev.bind T (Ev.bind hc4 (Ev.pos e4 (Ev.bind hat (Ev.pos at0 (Ev.pos (by dsimp only; omega) (Ev.bind hx (Ev.pos (by dsimp only; omega) ?_)))))))
        dsimp only
        rw [w64 (n := at_ + 1) (by omega) (by omega)]
        exact Ev.pos (by omega) (Ev.pos (by omega) (Ev.pos (by omega) (Ev.now _)))
      · refine ⟨x0, x1, ms, s, top _ (Ev.down ?_), by omega, by omega⟩
        simp only [spec_DrawIndexHas.j0]
        refine Ev.neg (by simp) (Ev.bind hq (Ev.pos q0 (Ev.pos (by dsimp only; omega) ?_)))
        dsimp only
        rw [hrd]
        exact Ev.bind T (Ev.bind hc4 (Ev.neg e4 (Ev.now _)))

-- btm
/-! A byte of a text. -/
theorem bt_bytes (s : ByteArray) (i : Nat) (h : i < s.size) : bt s (i : Int) = (bytesOf s)[i]'(by unfold bytesOf; simpa using h) := by
  unfold bt bytesOf
  rw [dif_pos (by simpa using h)]
  simp
  rfl
theorem bytesOf_len (s : ByteArray) : (bytesOf s).length = s.size := by
  unfold bytesOf
  rw [List.length_map, Array.length_toList]
  rfl
theorem bt_str (l : List Int) (hl : ∀ b ∈ l, 0 ≤ b ∧ b ≤ 255) (i : Nat) (h : i < l.length) : bt (strOfNums l) (i : Int) = l[i] := by
  rw [bt_bytes _ _ (by rw [strOfNums_size]; exact h)]
  simp only [bytesOf_str hl]

-- txt0
theorem toList_str (l : List Int) : (strOfNums l).toList = l.map fun n => UInt8.ofNat n.toNat := by rw [ByteArray.toList_eq]; rfl
theorem toList_inj {a b : ByteArray} : a.toList = b.toList ↔ a = b := by
  rw [ByteArray.toList_eq, ByteArray.toList_eq]
  exact ⟨fun h => ByteArray.ext (Array.toList_inj.1 h), fun h => by rw [h]⟩
theorem str_isnil (l : List Int) : ((strOfNums l).toList == ([] : List UInt8)) = decide (l = []) := by
  rw [toList_str]
  cases l <;> rfl

-- txt
theorem pkgL_range {n v : Int} {fs : List Fl} {ds : List Dp} (h : pkgOk n v fs ds = true) : ∀ x ∈ pkgL n v fs ds, 0 ≤ x ∧ x ≤ 255 := by
  obtain ⟨hn, hv, ⟨_, hf⟩, _, hd⟩ := pkgOk_range h
  intro x hx
  unfold pkgL at hx
  simp only [List.mem_append, List.mem_cons, List.not_mem_nil, or_false, List.mem_flatMap] at hx
  rcases hx with (rfl | rfl) | ⟨f, hf1, hx⟩ | ⟨d, hd1, hx⟩
  · omega
  · omega
  · have := hf f hf1
    simp only [fileL, List.mem_cons, List.not_mem_nil, or_false] at hx
    rcases hx with rfl | rfl | rfl | rfl <;> omega
  · have := hd d hd1
    simp only [depL, List.mem_cons, List.not_mem_nil, or_false] at hx
    rcases hx with rfl | rfl | rfl <;> omega
theorem pkgL_ne (n v : Int) (fs : List Fl) (ds : List Dp) : pkgL n v fs ds ≠ [] := by unfold pkgL; simp
theorem pkgS_ok {n v : Int} {fs : List Fl} {ds : List Dp} (h : pkgOk n v fs ds = true) : pkgS n v fs ds = strOfNums (pkgL n v fs ds) := if_pos h
theorem pkgS_no {n v : Int} {fs : List Fl} {ds : List Dp} (h : pkgOk n v fs ds = false) : pkgS n v fs ds = strOfNums [] := if_neg (by rw [h]; decide)

-- pkginj
theorem flat_inj : ∀ (fs fs' : List Fl) (ds ds' : List Dp), (∀ f ∈ fs, f.f0 ≤ 5) → (∀ f ∈ fs', f.f0 ≤ 5) → (∀ d ∈ ds, 1 ≤ d.f0) → (∀ d ∈ ds', 1 ≤ d.f0) →
    fs.flatMap fileL ++ ds.flatMap depL = fs'.flatMap fileL ++ ds'.flatMap depL → fs = fs' ∧ ds = ds'
  | [], [], [], [], _, _, _, _, _ => ⟨rfl, rfl⟩
  | [], [], [], d :: ds', _, _, _, _, h => by simp [depL] at h
  | [], [], d :: ds, [], _, _, _, _, h => by simp [depL] at h
  | [], [], d :: ds, d' :: ds', _, _, hd, hd', h => by
    simp only [List.flatMap_nil, List.nil_append, List.flatMap_cons, depL, List.cons_append, List.cons.injEq, true_and] at h
    obtain ⟨h1, h2, h3⟩ := h
    have := (flat_inj [] [] ds ds' (by simp) (by simp) (fun x hx => hd x (List.mem_cons_of_mem _ hx)) (fun x hx => hd' x (List.mem_cons_of_mem _ hx)) (by simpa using h3)).2
    refine ⟨rfl, ?_⟩
    rw [this]
    cases d; cases d'
    simp only at h1 h2
    obtain rfl := show _ = _ by exact (Int.add_left_cancel h1)
    obtain rfl := show _ = _ by exact (Int.add_left_cancel h2)
    rfl
  | [], f :: fs', ds, ds', _, hf', hd, _, h => by
    exfalso
    have hf := hf' f List.mem_cons_self
    cases ds with
    | nil => simp [fileL] at h
    | cons d ds =>
      have hd1 := hd d List.mem_cons_self
      simp only [List.flatMap_nil, List.nil_append, List.flatMap_cons, depL, fileL, List.cons_append, List.cons.injEq, true_and] at h
      omega
  | f :: fs, [], ds, ds', hf', _, _, hd, h => by
    exfalso
    have hf := hf' f List.mem_cons_self
    cases ds' with
    | nil => simp [fileL] at h
    | cons d ds' =>
      have hd1 := hd d List.mem_cons_self
      simp only [List.flatMap_nil, List.nil_append, List.flatMap_cons, depL, fileL, List.cons_append, List.cons.injEq, true_and] at h
      omega
  | f :: fs, f' :: fs', ds, ds', hf, hf', hd, hd', h => by
    simp only [List.flatMap_cons, fileL, List.cons_append, List.nil_append, List.cons.injEq, true_and] at h
    obtain ⟨h1, h2, h3⟩ := h
    obtain ⟨e1, e2⟩ := flat_inj fs fs' ds ds' (fun x hx => hf x (List.mem_cons_of_mem _ hx)) (fun x hx => hf' x (List.mem_cons_of_mem _ hx)) hd hd' h3
    refine ⟨?_, e2⟩
    rw [e1]
    cases f; cases f'
    simp only at h1 h2
    obtain rfl := show _ = _ by exact (Int.add_left_cancel h1)
    obtain rfl := show _ = _ by exact (Int.add_left_cancel h2)
    rfl
/-- The texts of ok packages are the same just if they are. -/
theorem pkgL_inj {n v n' v' : Int} {fs fs' : List Fl} {ds ds' : List Dp} (h : pkgOk n v fs ds = true) (h' : pkgOk n' v' fs' ds' = true) (e : pkgL n v fs ds = pkgL n' v' fs' ds') : n = n' ∧ v = v' ∧ fs = fs' ∧ ds = ds' := by
  obtain ⟨_, _, ⟨_, hf⟩, _, hd⟩ := pkgOk_range h
  obtain ⟨_, _, ⟨_, hf'⟩, _, hd'⟩ := pkgOk_range h'
  unfold pkgL at e
  simp only [List.cons_append, List.nil_append, List.cons.injEq] at e
  obtain ⟨e1, e2, e3⟩ := e
  obtain ⟨e4, e5⟩ := flat_inj fs fs' ds ds' (fun f k => (hf f k).1.2) (fun f k => (hf' f k).1.2) (fun d k => (hd d k).1.1) (fun d k => (hd' d k).1.1) e3
  exact ⟨by omega, by omega, e4, e5⟩
theorem pkgS_eq_iff {n v n' v' : Int} {fs fs' : List Fl} {ds ds' : List Dp} (h : pkgOk n v fs ds = true) (h' : pkgOk n' v' fs' ds' = true) : pkgS n v fs ds = pkgS n' v' fs' ds' ↔ n = n' ∧ v = v' ∧ fs = fs' ∧ ds = ds' := by
  rw [pkgS_ok h, pkgS_ok h']
  exact ⟨fun e => pkgL_inj h h' (str_inj (pkgL_range h) (pkgL_range h') e), fun ⟨a, b, c, d⟩ => by rw [a, b, c, d]⟩

-- pkgread
/-! What a package's text is read as. -/
def fileW (f : Fl) : List Int := [48 + f.f0, 58, 48 + f.f1]
def depW (d : Dp) : List Int := [96 + d.f0, 48 + d.f1]
def pkgWords (fs : List Fl) (ds : List Dp) : List (List Int) := fs.map fileW ++ ds.map depW
theorem pkgL_words (n v : Int) (fs : List Fl) (ds : List Dp) : pkgL n v fs ds = [96 + n, 48 + v] ++ (pkgWords fs ds).flatMap (32 :: ·) := by
  unfold pkgL pkgWords
  rw [List.flatMap_append, List.flatMap_map, List.flatMap_map]
  rfl
/-- (n, v, fs, ds, b) is what a text is read as. -/
def RD (s : ByteArray) (n v : Int) (fs : List Fl) (ds : List Dp) (b : Bool) : Prop :=
  (b = true ∧ pkgOk n v fs ds = true ∧ s = strOfNums (pkgL n v fs ds)) ∨ (b = false ∧ n = 0 ∧ v = 0 ∧ fs = [] ∧ ds = [] ∧ ∀ n v fs ds, pkgOk n v fs ds = true → s ≠ strOfNums (pkgL n v fs ds))
theorem RD_one {s : ByteArray} {n v n' v' : Int} {fs fs' : List Fl} {ds ds' : List Dp} {b b' : Bool} (h : RD s n v fs ds b) (h' : RD s n' v' fs' ds' b') : n = n' ∧ v = v' ∧ fs = fs' ∧ ds = ds' ∧ b = b' := by
  rcases h with ⟨rfl, h1, h2⟩ | ⟨rfl, rfl, rfl, rfl, rfl, h6⟩
  · rcases h' with ⟨rfl, k1, k2⟩ | ⟨_, _, _, _, _, k6⟩
    · obtain ⟨e1, e2, e3, e4⟩ := pkgL_inj h1 k1 (str_inj (pkgL_range h1) (pkgL_range k1) (h2.symm.trans k2))
      exact ⟨e1, e2, e3, e4, rfl⟩
    · exact absurd h2 (k6 _ _ _ _ h1)
  · rcases h' with ⟨rfl, k1, k2⟩ | ⟨rfl, rfl, rfl, rfl, rfl, k6⟩
    · exact absurd k2 (h6 _ _ _ _ k1)
    · exact ⟨rfl, rfl, rfl, rfl, rfl⟩
theorem pkgW_no (c : Int) (hc : c = 32) {n v : Int} {fs : List Fl} {ds : List Dp} (h : pkgOk n v fs ds = true) : (∀ b ∈ ([96 + n, 48 + v] : List Int), b ≠ c) ∧ ∀ w ∈ pkgWords fs ds, ∀ b ∈ w, b ≠ c := by
  obtain ⟨hn, hv, ⟨_, hf⟩, _, hd⟩ := pkgOk_range h
  subst hc
  refine ⟨fun b hb => ?_, fun w hw b hb => ?_⟩
  · simp only [List.mem_cons, List.not_mem_nil, or_false] at hb
    omega
  · unfold pkgWords at hw
    rcases List.mem_append.1 hw with hw | hw
    · obtain ⟨f, hf1, rfl⟩ := List.mem_map.1 hw
      have := hf f hf1
      simp only [fileW, List.mem_cons, List.not_mem_nil, or_false] at hb
      omega
    · obtain ⟨d, hd1, rfl⟩ := List.mem_map.1 hw
      have := hd d hd1
      simp only [depW, List.mem_cons, List.not_mem_nil, or_false] at hb
      omega
theorem pkgL_size {n v : Int} {fs : List Fl} {ds : List Dp} (h : pkgOk n v fs ds = true) : (strOfNums (pkgL n v fs ds)).size ≤ 30 := by
  obtain ⟨_, _, ⟨hf, _⟩, hd, _⟩ := pkgOk_range h
  rw [strOfNums_size, pkgL_len]
  omega

-- pkgcut
/-! A package's text ends with no space. -/
theorem last_word : ∀ (ws : List (List Int)) (u : List Int), (u ≠ [] ∧ ∀ b ∈ u, b ≠ 32) → (∀ w ∈ ws, w ≠ [] ∧ ∀ b ∈ w, b ≠ 32) → ∃ x, (u ++ ws.flatMap (32 :: ·)).getLast? = some x ∧ x ≠ 32
  | [], u, hu, _ => by
    rw [List.flatMap_nil, List.append_nil]
    exact ⟨u.getLast hu.1, List.getLast?_eq_some_getLast hu.1, hu.2 _ (List.getLast_mem hu.1)⟩
  | w :: ws, u, hu, hw => by
    obtain ⟨x, h1, h2⟩ := last_word ws w (hw w List.mem_cons_self) (fun v hv => hw v (List.mem_cons_of_mem _ hv))
    refine ⟨x, ?_, h2⟩
    rw [List.flatMap_cons, List.cons_append, List.getLast?_append, List.getLast?_cons, h1]
    rfl
theorem pkgL_last {n v : Int} {fs : List Fl} {ds : List Dp} (h : pkgOk n v fs ds = true) : ∃ x, (pkgL n v fs ds).getLast? = some x ∧ x ≠ 32 := by
  obtain ⟨h1, h2⟩ := pkgW_no 32 rfl h
  rw [pkgL_words]
  refine last_word _ _ ⟨by simp, h1⟩ (fun w hw => ⟨?_, h2 w hw⟩)
  unfold pkgWords at hw
  rcases List.mem_append.1 hw with hw | hw
  · obtain ⟨f, _, rfl⟩ := List.mem_map.1 hw
    simp [fileW]
  · obtain ⟨f, _, rfl⟩ := List.mem_map.1 hw
    simp [depW]
theorem RD_len {s : ByteArray} {n v : Int} {fs : List Fl} {ds : List Dp} {b : Bool} (h : RD s n v fs ds b) : fs.length ≤ 2 ∧ ds.length ≤ 2 := by
  rcases h with ⟨_, ok, _⟩ | ⟨_, _, _, rfl, rfl, _⟩
  · obtain ⟨_, _, ⟨a, _⟩, c, _⟩ := pkgOk_range ok
    exact ⟨a, c⟩
  · simp
/-- A text with a space behind it is no package. -/
theorem RD_behind {l : List Int} (hl : ∀ x ∈ l, 0 ≤ x ∧ x ≤ 255) {n v : Int} {fs : List Fl} {ds : List Dp} {b : Bool} (h : RD (strOfNums (l ++ [32])) n v fs ds b) : b = false := by
  rcases h with ⟨_, ok, e⟩ | ⟨h, _⟩
  · have e2 := str_inj (fun x hx => by rcases List.mem_append.1 hx with h | h; exact hl x h; rw [List.mem_singleton.1 h]; omega) (pkgL_range ok) e
    obtain ⟨x, h1, h2⟩ := pkgL_last ok
    rw [← e2, List.getLast?_append] at h1
    exact absurd (Option.some.inj h1).symm h2
  · exact h
/-- A text with a space ahead is no package. -/
theorem RD_ahead {l : List Int} (hl : ∀ x ∈ l, 0 ≤ x ∧ x ≤ 255) {n v : Int} {fs : List Fl} {ds : List Dp} {b : Bool} (h : RD (strOfNums (32 :: l)) n v fs ds b) : b = false := by
  rcases h with ⟨_, ok, e⟩ | ⟨h, _⟩
  · have e2 := str_inj (fun x hx => by rcases List.mem_cons.1 hx with h | h; rw [h]; omega; exact hl x h) (pkgL_range ok) e
    obtain ⟨hn, _⟩ := pkgOk_range ok
    unfold pkgL at e2
    rw [List.cons_append] at e2
    have := (List.cons.inj e2).1
    omega
  · exact h

-- idxhas
/-! A text that an index tells of. -/
def hasM (ms : List Mt) (n v t : Int) : Bool := ms.any fun m => m.f0 == n && (m.f1 == v && m.f2 == t)
theorem hasM_cons (m : Mt) (ms : List Mt) (n v t : Int) : hasM (m :: ms) n v t = ((m.f0 == n && (m.f1 == v && m.f2 == t)) || hasM ms n v t) := by unfold hasM; rw [List.any_cons]
theorem hasM_iff {ms : List Mt} {n v t : Int} : hasM ms n v t = true ↔ ∃ m ∈ ms, m.f0 = n ∧ m.f1 = v ∧ m.f2 = t := by
  unfold hasM
  rw [List.any_eq_true]
  constructor
  · rintro ⟨m, h, e⟩
    simp only [Bool.and_eq_true, beq_iff_eq] at e
    exact ⟨m, h, e⟩
  · rintro ⟨m, h, e⟩
    exact ⟨m, h, by simp only [Bool.and_eq_true, beq_iff_eq]; exact e⟩
/-- (n, v, fs, ds, b) is what an index has of a text. -/
def IH (num till : Int) (ms : List Mt) (s : ByteArray) (n v : Int) (fs : List Fl) (ds : List Dp) (b : Bool) : Prop :=
  (b = true ∧ indexOk num till ms = true ∧ RD s n v fs ds true ∧ hasM ms n v (sumL (bytesOf s)) = true) ∨
  (b = false ∧ n = 0 ∧ v = 0 ∧ fs = [] ∧ ds = [] ∧ ∀ n v fs ds, RD s n v fs ds true → ¬ (indexOk num till ms = true ∧ hasM ms n v (sumL (bytesOf s)) = true))
theorem IH_one {num till : Int} {ms : List Mt} {s : ByteArray} {n v n' v' : Int} {fs fs' : List Fl} {ds ds' : List Dp} {b b' : Bool} (h : IH num till ms s n v fs ds b) (h' : IH num till ms s n' v' fs' ds' b') : n = n' ∧ v = v' ∧ fs = fs' ∧ ds = ds' ∧ b = b' := by
  rcases h with ⟨rfl, h1, h2, h3⟩ | ⟨rfl, rfl, rfl, rfl, rfl, h6⟩
  · rcases h' with ⟨rfl, k1, k2, k3⟩ | ⟨_, _, _, _, _, k6⟩
    · obtain ⟨e1, e2, e3, e4, _⟩ := RD_one h2 k2
      exact ⟨e1, e2, e3, e4, rfl⟩
    · exact absurd ⟨h1, h3⟩ (k6 _ _ _ _ h2)
  · rcases h' with ⟨rfl, k1, k2, k3⟩ | ⟨rfl, rfl, rfl, rfl, rfl, k6⟩
    · exact absurd ⟨k1, k3⟩ (h6 _ _ _ _ k2)
    · exact ⟨rfl, rfl, rfl, rfl, rfl⟩
theorem IH_len {num till : Int} {ms : List Mt} {s : ByteArray} {n v : Int} {fs : List Fl} {ds : List Dp} {b : Bool} (h : IH num till ms s n v fs ds b) : fs.length ≤ 2 ∧ ds.length ≤ 2 := by
  rcases h with ⟨_, _, h, _⟩ | ⟨_, _, _, rfl, rfl, _⟩
  · exact RD_len h
  · simp

-- cutm
/-! A text, cut at a byte. -/
theorem cutN_fold (s : ByteArray) (c : Int) : ∀ n, n ≤ s.size → cutN s c n = ((bytesOf s).take n).foldl (cutStep c) [⟨#[]⟩]
  | 0, _ => by simp [cutN]
  | n + 1, h => by
    unfold cutN
    rw [cutN_fold s c n (by omega), bt_bytes s n (by omega), List.take_succ_eq_append_getElem (by rw [bytesOf_len]; omega), List.foldl_append]
    rfl
theorem cutN_all (s : ByteArray) (c : Int) : cutN s c s.size = (bytesOf s).foldl (cutStep c) [⟨#[]⟩] := by
  rw [cutN_fold s c s.size (Nat.le_refl _), ← bytesOf_len, List.take_length]
theorem cut_word (c : Int) : ∀ (u : List Int) (pre : List ByteArray) (x : List Int), (∀ b ∈ u, b ≠ c) → u.foldl (cutStep c) (pre ++ [strOfNums x]) = pre ++ [strOfNums (x ++ u)]
  | [], pre, x, _ => by simp
  | b :: u, pre, x, h => by
    have e : cutStep c (pre ++ [strOfNums x]) b = pre ++ [strOfNums (x ++ [b])] := by
      unfold cutStep
      rw [if_neg (h b List.mem_cons_self), List.length_append, List.length_singleton, Nat.add_sub_cancel]
      rw [List.getD_eq_getElem?_getD, List.getElem?_append_right (Nat.le_refl _), Nat.sub_self, List.set_append_right _ _ (Nat.le_refl _), Nat.sub_self]
      simp [str_append]
    rw [List.foldl_cons, e, cut_word c u pre (x ++ [b]) (fun d hd => h d (List.mem_cons_of_mem _ hd))]
    simp
theorem cut_words (c : Int) : ∀ (ws : List (List Int)) (pre : List ByteArray) (x : List Int), (∀ w ∈ ws, ∀ b ∈ w, b ≠ c) → (ws.flatMap (c :: ·)).foldl (cutStep c) (pre ++ [strOfNums x]) = pre ++ [strOfNums x] ++ ws.map strOfNums
  | [], pre, x, _ => by simp
  | w :: ws, pre, x, h => by
    have e : cutStep c (pre ++ [strOfNums x]) c = (pre ++ [strOfNums x]) ++ [strOfNums []] := by unfold cutStep; rw [if_pos rfl]; rfl
    rw [List.flatMap_cons, List.cons_append, List.foldl_cons, e, List.foldl_append, cut_word c w _ [] (h w List.mem_cons_self), List.nil_append, cut_words c ws _ w (fun v hv => h v (List.mem_cons_of_mem _ hv))]
    simp
theorem cut_text (c : Int) (u : List Int) (ws : List (List Int)) (hu : ∀ b ∈ u, b ≠ c) (hw : ∀ w ∈ ws, ∀ b ∈ w, b ≠ c) : (u ++ ws.flatMap (c :: ·)).foldl (cutStep c) [⟨#[]⟩] = strOfNums u :: ws.map strOfNums := by
  rw [List.foldl_append]
  have e := cut_word c u [] [] hu
  simp only [List.nil_append] at e
  rw [show ([⟨#[]⟩] : List ByteArray) = [strOfNums []] from rfl, e]
  have e2 := cut_words c ws [] u hw
  rw [List.nil_append] at e2
  rw [e2]
  rfl

-- spec_PkgRead
abbrev PSt := Int × Int × List Fl × List Dp
def spW (i : Nat) (w : ByteArray) (st : PSt) : PSt :=
  if i = 0 then (if w.size = 2 then (wrap64 (wrap64 (wrap64 (bt w 0) - 97) + 1), wrap64 (wrap64 (bt w 1) - 48), st.2.2.1, st.2.2.2) else st)
  else if w.size = 3 then (st.1, st.2.1, st.2.2.1 ++ [⟨wrap64 (wrap64 (bt w 0) - 48), wrap64 (wrap64 (bt w 2) - 48)⟩], st.2.2.2)
  else if w.size = 2 then (st.1, st.2.1, st.2.2.1, st.2.2.2 ++ [⟨wrap64 (wrap64 (wrap64 (bt w 0) - 97) + 1), wrap64 (wrap64 (bt w 1) - 48)⟩])
  else st
def spAll : Nat → List ByteArray → PSt → PSt
  | _, [], st => st
  | i, w :: ws, st => spAll (i + 1) ws (spW i w st)
def spFin (s : ByteArray) (st : PSt) : Int × Int × List Fl × List Dp × Bool :=
  if (pkgS st.1 st.2.1 st.2.2.1 st.2.2.2).toList = s.toList then (if s.toList = ([] : List UInt8) then (0, 0, [], [], false) else (st.1, st.2.1, st.2.2.1, st.2.2.2, true)) else (0, 0, [], [], false)
theorem spFin_no {s : ByteArray} {st : PSt} (e : ¬ (pkgS st.1 st.2.1 st.2.2.1 st.2.2.2).toList = s.toList) : spFin s st = (0, 0, [], [], false) := if_neg e
theorem spFin_nil {s : ByteArray} {st : PSt} (e : (pkgS st.1 st.2.1 st.2.2.1 st.2.2.2).toList = s.toList) (e2 : s.toList = ([] : List UInt8)) : spFin s st = (0, 0, [], [], false) := (if_pos e).trans (if_pos e2)
theorem spFin_yes {s : ByteArray} {st : PSt} (e : (pkgS st.1 st.2.1 st.2.2.1 st.2.2.2).toList = s.toList) (e2 : ¬ s.toList = ([] : List UInt8)) : spFin s st = (st.1, st.2.1, st.2.2.1, st.2.2.2, true) := (if_pos e).trans (if_neg e2)
theorem spAll_cons (i : Nat) (w : ByteArray) (ws : List ByteArray) (st : PSt) : spAll i (w :: ws) st = spAll (i + 1) ws (spW i w st) := rfl
theorem sp_loop (s : ByteArray) (W : List ByteArray) (hW : W.length ≤ 4097) : ∀ d i : Nat, i + d = W.length → ∀ st : PSt, st.2.2.1.length ≤ i → st.2.2.2.length ≤ i →
    Ev (fun k => spec_PkgRead.l0 k s W (i : Int) st.1 st.2.1 st.2.2.1 st.2.2.2) (spFin s (spAll i (W.drop i) st)) := by
  intro d
  induction d with
  | zero =>
    intro i hi st h1 h2
    refine Ev.down ?_
    simp only [spec_PkgRead.l0]
    rw [List.drop_of_length_le (by omega)]
    refine Ev.neg (by omega) (Ev.bind (spec_PkgText_v _ _ _ _ (by omega) (by omega)) ?_)
    rw [show spAll i [] st = st from rfl]
    by_cases e : (pkgS st.1 st.2.1 st.2.2.1 st.2.2.2).toList = s.toList
    · refine Ev.pos e ?_
      by_cases e2 : s.toList = ([] : List UInt8)
      · exact Ev.pos e2 (Ev.eq (spFin_nil e e2).symm)
      · exact Ev.neg e2 (Ev.eq (spFin_yes e e2).symm)
    · exact Ev.neg e (Ev.eq (spFin_no e).symm)
  | succ d ih =>
    intro i hi st h1 h2
    have hil : i < W.length := by omega
    rw [List.drop_eq_getElem_cons hil]
    rw [spAll_cons]
    obtain ⟨w, hw⟩ : ∃ w, w = W[i] := ⟨_, rfl⟩
    have hrd : rdOf ByteArray.empty W (i : Int) = w := by unfold rdOf; rw [Int.toNat_natCast, getD_of_lt hil, hw]
    rw [← hw]
    have step := ih (i + 1) (by omega) (spW i w st)
    have e64 : wrap64 ((i : Int) + 1) = ((i + 1 : Nat) : Int) := by rw [w64 (by omega) (by omega)]; rfl
    refine Ev.down ?_
    simp only [spec_PkgRead.l0]
    rw [hrd]
    refine Ev.pos (by omega) (Ev.pos (by omega) ?_)
    by_cases e0 : i = 0
    · subst e0
      refine Ev.pos rfl (Ev.down ?_)
      simp only [spec_PkgRead.j1]
      by_cases e2 : w.size = 2
      · have e3 : spW 0 w st = (wrap64 (wrap64 (wrap64 (bt w 0) - 97) + 1), wrap64 (wrap64 (bt w 1) - 48), st.2.2.1, st.2.2.2) := by unfold spW; rw [if_pos rfl, if_pos e2]
        rw [e3] at step ⊢
        refine Ev.pos (by rw [e2]; rfl) (Ev.pos (by omega) (Ev.pos (by omega) ?_))
        rw [e64]
        exact step (by dsimp only; omega) (by dsimp only; omega)
      · have e3 : spW 0 w st = st := by unfold spW; rw [if_pos rfl, if_neg e2]
        rw [e3] at step ⊢
        refine Ev.neg (by rw [beq_iff_eq]; omega) (Ev.neg (by omega) (Ev.down ?_))
        simp only [spec_PkgRead.j2]
        refine Ev.neg (by simp) (Ev.neg (by omega) ?_)
        rw [e64]
        exact step (by omega) (by omega)
    · refine Ev.neg (by omega) (Ev.down ?_)
      simp only [spec_PkgRead.j1]
      refine Ev.neg (by simp) (Ev.pos (by omega) (Ev.down ?_))
      simp only [spec_PkgRead.j2]
      by_cases e2 : w.size = 3
      · have e3 : spW i w st = (st.1, st.2.1, st.2.2.1 ++ [⟨wrap64 (wrap64 (bt w 0) - 48), wrap64 (wrap64 (bt w 2) - 48)⟩], st.2.2.2) := by unfold spW; rw [if_neg e0, if_pos e2]
        rw [e3] at step ⊢
        refine Ev.pos (by rw [e2]; rfl) (Ev.pos (by omega) (Ev.pos (by omega) (Ev.pos (by omega) ?_)))
        rw [e64]
        exact step (by simp only [List.length_append, List.length_singleton]; omega) (by dsimp only; omega)
      · refine Ev.neg (by rw [beq_iff_eq]; omega) (Ev.pos (by omega) ?_)
        by_cases e4 : w.size = 2
        · have e3 : spW i w st = (st.1, st.2.1, st.2.2.1, st.2.2.2 ++ [⟨wrap64 (wrap64 (wrap64 (bt w 0) - 97) + 1), wrap64 (wrap64 (bt w 1) - 48)⟩]) := by unfold spW; rw [if_neg e0, if_neg e2, if_pos e4]
          rw [e3] at step ⊢
          refine Ev.pos (by omega) (Ev.pos (by omega) (Ev.pos (by omega) (Ev.pos (by omega) ?_)))
          rw [e64]
          exact step (by dsimp only; omega) (by simp only [List.length_append, List.length_singleton]; omega)
        · have e3 : spW i w st = st := by unfold spW; rw [if_neg e0, if_neg e2, if_neg e4]
          rw [e3] at step ⊢
          refine Ev.neg (by omega) ?_
          rw [e64]
          exact step (by omega) (by omega)
theorem spW_file (i : Nat) (hi : i ≠ 0) (f : Fl) (hf : (0 ≤ f.f0 ∧ f.f0 ≤ 5) ∧ (0 ≤ f.f1 ∧ f.f1 ≤ 9)) (st : PSt) : spW i (strOfNums (fileW f)) st = (st.1, st.2.1, st.2.2.1 ++ [f], st.2.2.2) := by
  have hr : ∀ b ∈ fileW f, 0 ≤ b ∧ b ≤ 255 := by intro b hb; simp only [fileW, List.mem_cons, List.not_mem_nil, or_false] at hb; omega
  have h0 := bt_str _ hr 0 (by simp [fileW])
  have h2 := bt_str _ hr 2 (by simp [fileW])
  simp only [fileW, List.getElem_cons_zero, List.getElem_cons_succ] at h0 h2
  unfold spW
  rw [if_neg hi, if_pos (by rw [strOfNums_size]; rfl)]
  rw [show bt (strOfNums (fileW f)) 0 = 48 + f.f0 from h0, show bt (strOfNums (fileW f)) 2 = 48 + f.f1 from h2]
  rw [w64 (n := 48 + f.f0) (by omega) (by omega), w64 (n := 48 + f.f1) (by omega) (by omega), w64 (n := 48 + f.f0 - 48) (by omega) (by omega), w64 (n := 48 + f.f1 - 48) (by omega) (by omega), show 48 + f.f0 - 48 = f.f0 by omega, show 48 + f.f1 - 48 = f.f1 by omega]
theorem spW_dep (i : Nat) (hi : i ≠ 0) (f : Dp) (hf : (1 ≤ f.f0 ∧ f.f0 ≤ 4) ∧ (1 ≤ f.f1 ∧ f.f1 ≤ 5)) (st : PSt) : spW i (strOfNums (depW f)) st = (st.1, st.2.1, st.2.2.1, st.2.2.2 ++ [f]) := by
  have hr : ∀ b ∈ depW f, 0 ≤ b ∧ b ≤ 255 := by intro b hb; simp only [depW, List.mem_cons, List.not_mem_nil, or_false] at hb; omega
  have h0 := bt_str _ hr 0 (by simp [depW])
  have h2 := bt_str _ hr 1 (by simp [depW])
  simp only [depW, List.getElem_cons_zero, List.getElem_cons_succ] at h0 h2
  unfold spW
  rw [if_neg hi, if_neg (by rw [strOfNums_size]; simp [depW]), if_pos (by rw [strOfNums_size]; rfl)]
  rw [show bt (strOfNums (depW f)) 0 = 96 + f.f0 from h0, show bt (strOfNums (depW f)) 1 = 48 + f.f1 from h2]
  rw [w64 (n := 96 + f.f0) (by omega) (by omega), w64 (n := 48 + f.f1) (by omega) (by omega), w64 (n := 96 + f.f0 - 97) (by omega) (by omega), w64 (n := 48 + f.f1 - 48) (by omega) (by omega), w64 (n := 96 + f.f0 - 97 + 1) (by omega) (by omega), show 96 + f.f0 - 97 + 1 = f.f0 by omega, show 48 + f.f1 - 48 = f.f1 by omega]
theorem spAll_deps : ∀ (ds : List Dp), (∀ d ∈ ds, (1 ≤ d.f0 ∧ d.f0 ≤ 4) ∧ (1 ≤ d.f1 ∧ d.f1 ≤ 5)) → ∀ (i : Nat), i ≠ 0 → ∀ st : PSt, spAll i ((ds.map depW).map strOfNums) st = (st.1, st.2.1, st.2.2.1, st.2.2.2 ++ ds)
  | [], _, _, _, st => by simp [spAll]
  | d :: ds, h, i, hi, st => by
    simp only [List.map_cons, spAll]
    rw [spW_dep i hi d (h d List.mem_cons_self), spAll_deps ds (fun x hx => h x (List.mem_cons_of_mem _ hx)) (i + 1) (by omega)]
    simp
theorem spAll_words : ∀ (fs : List Fl) (ds : List Dp), (∀ f ∈ fs, (0 ≤ f.f0 ∧ f.f0 ≤ 5) ∧ (0 ≤ f.f1 ∧ f.f1 ≤ 9)) → (∀ d ∈ ds, (1 ≤ d.f0 ∧ d.f0 ≤ 4) ∧ (1 ≤ d.f1 ∧ d.f1 ≤ 5)) → ∀ (i : Nat), i ≠ 0 → ∀ st : PSt,
    spAll i ((pkgWords fs ds).map strOfNums) st = (st.1, st.2.1, st.2.2.1 ++ fs, st.2.2.2 ++ ds)
  | [], ds, _, hd, i, hi, st => by
    have := spAll_deps ds hd i hi st
    simpa [pkgWords] using this
  | f :: fs, ds, hf, hd, i, hi, st => by
    rw [show (pkgWords (f :: fs) ds).map strOfNums = strOfNums (fileW f) :: (pkgWords fs ds).map strOfNums from rfl, spAll_cons, spW_file i hi f (hf f List.mem_cons_self), spAll_words fs ds (fun x hx => hf x (List.mem_cons_of_mem _ hx)) hd (i + 1) (by omega)]
    simp
theorem cut_pkg {n v : Int} {fs : List Fl} {ds : List Dp} (h : pkgOk n v fs ds = true) : cutN (strOfNums (pkgL n v fs ds)) 32 (strOfNums (pkgL n v fs ds)).size = strOfNums [96 + n, 48 + v] :: (pkgWords fs ds).map strOfNums := by
  rw [cutN_all, bytesOf_str (pkgL_range h), pkgL_words]
  obtain ⟨h1, h2⟩ := pkgW_no 32 rfl h
  exact cut_text 32 _ _ h1 h2
theorem sp_parse {n v : Int} {fs : List Fl} {ds : List Dp} (h : pkgOk n v fs ds = true) : spAll 0 (strOfNums [96 + n, 48 + v] :: (pkgWords fs ds).map strOfNums) (0, 0, [], []) = (n, v, fs, ds) := by
  obtain ⟨hn, hv, ⟨_, hf⟩, _, hd⟩ := pkgOk_range h
  have hr : ∀ b ∈ ([96 + n, 48 + v] : List Int), 0 ≤ b ∧ b ≤ 255 := by intro b hb; simp only [List.mem_cons, List.not_mem_nil, or_false] at hb; omega
  have h0 := bt_str _ hr 0 (by simp)
  have h2 := bt_str _ hr 1 (by simp)
  simp only [List.getElem_cons_zero, List.getElem_cons_succ] at h0 h2
  rw [spAll_cons, spAll_words fs ds hf hd (0 + 1) (by omega)]
  unfold spW
  rw [if_pos rfl, if_pos (by rw [strOfNums_size]; rfl)]
  rw [show bt (strOfNums [96 + n, 48 + v]) 0 = 96 + n from h0, show bt (strOfNums [96 + n, 48 + v]) 1 = 48 + v from h2]
  rw [w64 (n := 96 + n) (by omega) (by omega), w64 (n := 48 + v) (by omega) (by omega), w64 (n := 96 + n - 97) (by omega) (by omega), w64 (n := 48 + v - 48) (by omega) (by omega), w64 (n := 96 + n - 97 + 1) (by omega) (by omega), show 96 + n - 97 + 1 = n by omega, show 48 + v - 48 = v by omega]
  simp
theorem spec_PkgRead_v (s : ByteArray) : ∃ (n v : Int) (fs : List Fl) (ds : List Dp) (b : Bool), Ev (fun k => spec_PkgRead.f k s) (n, v, fs, ds, b) ∧ RD s n v fs ds b := by
  unfold spec_PkgRead.f
  by_cases h : (s.size : Int) > 30
  · exact ⟨0, 0, [], [], false, Ev.pos h (Ev.now _), .inr ⟨rfl, rfl, rfl, rfl, rfl, fun n v fs ds ok e => by have := pkgL_size ok; rw [← e] at this; omega⟩⟩
  · have hc : spec_l1Cut.f s 32 = some (cutN s 32 s.size) := by unfold spec_l1Cut.f; rw [if_pos (by omega)]
    have hl := cutN_len s 32 s.size
    have hE := sp_loop s (cutN s 32 s.size) (by omega) (cutN s 32 s.size).length 0 (by omega) (0, 0, [], []) (by simp) (by simp)
    rw [List.drop_zero] at hE
    obtain ⟨st, hst⟩ : ∃ st, st = spAll 0 (cutN s 32 s.size) (0, 0, [], []) := ⟨_, rfl⟩
    rw [← hst] at hE
    have E : Ev (fun k => if (s.size : Int) > 30 then some (0, 0, ([] : List Fl), ([] : List Dp), false) else ((spec_l1Cut.f s 32).bind fun t => spec_PkgRead.l0 k s t 0 0 0 [] [])) (spFin s st) := Ev.neg h (Ev.bind (Ev.con hc) hE)
    have key : ∀ n v fs ds, pkgOk n v fs ds = true → s = strOfNums (pkgL n v fs ds) → (pkgS st.1 st.2.1 st.2.2.1 st.2.2.2).toList = s.toList := by
      intro n v fs ds ok e
      have e1 : st = (n, v, fs, ds) := by rw [hst, e, cut_pkg ok, sp_parse ok]
      rw [e1]
      dsimp only
      rw [pkgS_ok ok, e]
    refine ⟨(spFin s st).1, (spFin s st).2.1, (spFin s st).2.2.1, (spFin s st).2.2.2.1, (spFin s st).2.2.2.2, E, ?_⟩
    by_cases e : (pkgS st.1 st.2.1 st.2.2.1 st.2.2.2).toList = s.toList
    · have es := toList_inj.1 e
      by_cases e2 : s.toList = ([] : List UInt8)
      · rw [spFin_nil e e2]
        refine .inr ⟨rfl, rfl, rfl, rfl, rfl, fun n v fs ds ok e3 => ?_⟩
        rw [e3, toList_str] at e2
        exact pkgL_ne n v fs ds (List.map_eq_nil_iff.1 e2)
      · rw [spFin_yes e e2]
        cases ok : pkgOk st.1 st.2.1 st.2.2.1 st.2.2.2 with
        | true => exact .inl ⟨rfl, ok, by rw [← es, pkgS_ok ok]⟩
        | false =>
          rw [pkgS_no ok] at e
          exact absurd (by rw [← e, toList_str]; rfl) e2
    · rw [spFin_no e]
      exact .inr ⟨rfl, rfl, rfl, rfl, rfl, fun n v fs ds ok e3 => e (key n v fs ds ok e3)⟩

-- spec_IndexHas
def hasFin (ms : List Mt) (n v : Int) (fs : List Fl) (ds : List Dp) (t : Int) : Int × Int × List Fl × List Dp × Bool := if hasM ms n v t = true then (n, v, fs, ds, true) else (0, 0, [], [], false)
theorem l3Has_loop (s : ByteArray) (hs : s.size ≤ 140737488351232) (num till : Int) (ms : List Mt) (hl : ms.length ≤ 17592186044416) (n v : Int) (fs : List Fl) (ds : List Dp) : ∀ d i : Nat, i + d = ms.length →
    Ev (fun k => spec_l3Has.l0 k s (i : Int) num till ms n v fs ds) (hasFin (ms.drop i) n v fs ds (sumL (bytesOf s))) := by
  intro d
  induction d with
  | zero =>
    intro i hi
    refine Ev.down ?_
    simp only [spec_l3Has.l0]
    rw [List.drop_of_length_le (by omega)]
    exact Ev.neg (by omega) (Ev.now _)
  | succ d ih =>
    intro i hi
    have hil : i < ms.length := by omega
    have step := ih (i + 1) (by omega)
    have e64 : wrap64 ((i : Int) + 1) = ((i + 1 : Nat) : Int) := by rw [w64 (by omega) (by omega)]; rfl
    rw [List.drop_eq_getElem_cons hil]
    refine Ev.down ?_
    simp only [spec_l3Has.l0]
    rw [rdM_nat, getD_of_lt hil]
    obtain ⟨m, hm⟩ : ∃ m, m = ms[i] := ⟨_, rfl⟩
    rw [← hm]
    have no : (m.f0 == n && (m.f1 == v && m.f2 == sumL (bytesOf s))) = false → Ev (fun k => spec_l3Has.j1 k s (i : Int) false num till ms n v fs ds) (hasFin (m :: ms.drop (i + 1)) n v fs ds (sumL (bytesOf s))) := fun c => by
      have e : hasFin (m :: ms.drop (i + 1)) n v fs ds (sumL (bytesOf s)) = hasFin (ms.drop (i + 1)) n v fs ds (sumL (bytesOf s)) := by unfold hasFin; rw [hasM_cons, c, Bool.false_or]
      rw [e]
      refine Ev.down ?_
      simp only [spec_l3Has.j1]
      rw [e64]
      exact Ev.neg (by simp) step
    refine Ev.pos (by omega) (Ev.pos (by omega) ?_)
    by_cases h1 : m.f0 = n
    · refine Ev.pos h1 ?_
      by_cases h2 : m.f1 = v
      · refine Ev.pos h2 (Ev.bind (spec_SumOf_v s hs) ?_)
        by_cases h3 : m.f2 = sumL (bytesOf s)
        · rw [beq_iff_eq.2 h3]
          refine Ev.down ?_
          simp only [spec_l3Has.j1]
          refine Ev.pos trivial (Ev.eq ?_)
          unfold hasFin
          rw [hasM_cons, beq_iff_eq.2 h1, beq_iff_eq.2 h2, beq_iff_eq.2 h3]
          rfl
        · rw [beq_eq_false_iff_ne.2 h3]
          exact no (by rw [beq_eq_false_iff_ne.2 h3]; simp)
      · exact Ev.neg h2 (no (by rw [beq_eq_false_iff_ne.2 h2]; simp))
    · exact Ev.neg h1 (no (by rw [beq_eq_false_iff_ne.2 h1]; simp))
theorem spec_IndexHas_v (num till : Int) (ms : List Mt) (hl : ms.length ≤ 17592186044416) (s : ByteArray) (hs : s.size ≤ 140737488351232) : ∃ (n v : Int) (fs : List Fl) (ds : List Dp) (b : Bool), Ev (fun k => spec_IndexHas.f k num till ms s) (n, v, fs, ds, b) ∧ IH num till ms s n v fs ds b := by
  unfold spec_IndexHas.f
  have O := spec_IndexOk_v num till ms hl
  cases ok : indexOk num till ms with
  | false =>
    rw [ok] at O
    exact ⟨0, 0, [], [], false, Ev.bind O (Ev.neg (by simp) (Ev.now _)), .inr ⟨rfl, rfl, rfl, rfl, rfl, fun _ _ _ _ _ h => by rw [ok] at h; exact absurd h.1 (by decide)⟩⟩
  | true =>
    rw [ok] at O
    obtain ⟨n, v, fs, ds, b, e1, r1⟩ := spec_PkgRead_v s
    unfold spec_l3Has.f
    cases b with
    | false =>
      refine ⟨0, 0, [], [], false, Ev.bind O (Ev.pos rfl (Ev.bind (Ev.bind e1 (Ev.neg (by simp) (Ev.now _))) (Ev.now _))), .inr ⟨rfl, rfl, rfl, rfl, rfl, fun n' v' fs' ds' h _ => ?_⟩⟩
      exact absurd (RD_one r1 h).2.2.2.2 (by decide)
    | true =>
      have L := l3Has_loop s hs num till ms hl n v fs ds ms.length 0 (by omega)
      rw [List.drop_zero] at L
      refine ⟨_, _, _, _, _, Ev.bind O (Ev.pos rfl (Ev.bind (Ev.bind e1 (Ev.pos rfl L)) (Ev.now _))), ?_⟩
      unfold hasFin
      by_cases h : hasM ms n v (sumL (bytesOf s)) = true
      · rw [if_pos h]
        exact .inl ⟨rfl, ok, r1, h⟩
      · rw [if_neg h]
        refine .inr ⟨rfl, rfl, rfl, rfl, rfl, fun n' v' fs' ds' r2 k => h ?_⟩
        obtain ⟨rfl, rfl, _⟩ := RD_one r1 r2
        exact k.2

-- splitm
/-! A text, split at a byte by the library. -/
abbrev u8s (l : List Int) : List UInt8 := l.map fun n => UInt8.ofNat n.toNat
theorem u8s_ne {x c : Int} (hx : 0 ≤ x ∧ x ≤ 255) (hc : 0 ≤ c ∧ c ≤ 255) (h : x ≠ c) : UInt8.ofNat x.toNat ≠ UInt8.ofNat c.toNat := fun e => by
  have e := congrArg UInt8.toNat e
  rw [UInt8.toNat_ofNat_of_lt' (by simp only [UInt8.size]; omega), UInt8.toNat_ofNat_of_lt' (by simp only [UInt8.size]; omega)] at e
  omega
theorem index_hit (c : UInt8) : ∀ (u r : List UInt8), (∀ b ∈ u, b ≠ c) → Lib.index (u ++ c :: r) [c] = (u.length : Int)
  | [], r, _ => by
    unfold Lib.index
    rw [List.nil_append]
    simp [List.isPrefixOf]
  | b :: u, r, h => by
    have ih := index_hit c u r (fun d hd => h d (List.mem_cons_of_mem _ hd))
    have h1 : (c == b) = false := beq_eq_false_iff_ne.2 (fun e => h b List.mem_cons_self e.symm)
    rw [List.cons_append]
    unfold Lib.index
    rw [ih]
    have h2 : ((u.length : Int) == -1) = false := by rw [beq_eq_false_iff_ne]; omega
    simp [List.isPrefixOf, h1, h2]
theorem index_miss (c : UInt8) : ∀ (u : List UInt8), (∀ b ∈ u, b ≠ c) → Lib.index u [c] = -1
  | [], _ => rfl
  | b :: u, h => by
    have ih := index_miss c u (fun d hd => h d (List.mem_cons_of_mem _ hd))
    have h1 : (c == b) = false := beq_eq_false_iff_ne.2 (fun e => h b List.mem_cons_self e.symm)
    unfold Lib.index
    rw [ih]
    simp [List.isPrefixOf, h1]
theorem count_words (c : UInt8) : ∀ (ws : List (List UInt8)) (u : List UInt8), (∀ b ∈ u, b ≠ c) → (∀ w ∈ ws, ∀ b ∈ w, b ≠ c) → Lib.count (u ++ ws.flatMap (c :: ·)) [c] = ws.length
  | [], u, hu, _ => by
    rw [List.flatMap_nil, List.append_nil, Lib.count_miss (index_miss c u hu)]
    rfl
  | w :: ws, u, hu, hw => by
    rw [List.flatMap_cons, List.cons_append, Lib.count_hit (by simp) (index_hit c u _ hu), show ([c] : List UInt8).length = 1 from rfl]
    rw [show u ++ c :: (w ++ ws.flatMap (c :: ·)) = (u ++ [c]) ++ (w ++ ws.flatMap (c :: ·)) by simp, List.drop_left' (by simp), count_words c ws w (hw w List.mem_cons_self) (fun v hv => hw v (List.mem_cons_of_mem _ hv)), List.length_cons]
    omega
theorem split_words (c : UInt8) : ∀ (ws : List (List UInt8)) (u : List UInt8), (∀ b ∈ u, b ≠ c) → (∀ w ∈ ws, ∀ b ∈ w, b ≠ c) → Lib.splitK [c] 0 ws.length (u ++ ws.flatMap (c :: ·)) = u :: ws
  | [], u, hu, _ => by
    rw [List.flatMap_nil, List.append_nil]
    rfl
  | w :: ws, u, hu, hw => by
    rw [List.flatMap_cons, List.cons_append, List.length_cons]
    unfold Lib.splitK
    rw [index_hit c u _ hu]
    have h2 : ((u.length : Int) == -1) = false := by rw [beq_eq_false_iff_ne]; omega
    rw [h2, if_neg (by decide), show ([c] : List UInt8).length = 1 from rfl, Int.toNat_natCast, Nat.add_zero, List.take_left]
    rw [show u ++ c :: (w ++ ws.flatMap (c :: ·)) = (u ++ [c]) ++ (w ++ ws.flatMap (c :: ·)) by simp, List.drop_left' (by simp), split_words c ws w (hw w List.mem_cons_self) (fun v hv => hw v (List.mem_cons_of_mem _ hv))]
theorem str_data_inj {a b : ByteArray} (h : a.data.toList = b.data.toList) : a = b := ByteArray.ext (Array.toList_inj.1 h)
theorem datas_inj : ∀ (a b : List ByteArray), a.map (·.data.toList) = b.map (·.data.toList) → a = b
  | [], [], _ => rfl
  | [], _ :: _, h => by simp at h
  | _ :: _, [], h => by simp at h
  | x :: a, y :: b, h => by
    simp only [List.map_cons, List.cons.injEq] at h
    rw [str_data_inj h.1, datas_inj a b h.2]
theorem u8s_words (c : Int) : ∀ ws : List (List Int), u8s (ws.flatMap (c :: ·)) = (ws.map u8s).flatMap (UInt8.ofNat c.toNat :: ·)
  | [] => rfl
  | w :: ws => by
    have ih := u8s_words c ws
    unfold u8s at ih ⊢
    simp only [List.flatMap_cons, List.map_append, List.map_cons, ih, List.map_flatMap, List.cons_append]
theorem split_text (c : Int) (hc : 0 ≤ c ∧ c ≤ 255) (u : List Int) (ws : List (List Int)) (hu : ∀ b ∈ u, (0 ≤ b ∧ b ≤ 255) ∧ b ≠ c) (hw : ∀ w ∈ ws, ∀ b ∈ w, (0 ≤ b ∧ b ≤ 255) ∧ b ≠ c) :
    Lib.splitB (strOfNums [c]) 0 (Lib.countB (strOfNums (u ++ ws.flatMap (c :: ·))) (strOfNums [c])) (strOfNums (u ++ ws.flatMap (c :: ·))) = strOfNums u :: ws.map strOfNums := by
  have h1 : ∀ b ∈ u8s u, b ≠ UInt8.ofNat c.toNat := fun b hb => by
    obtain ⟨x, hx, rfl⟩ := List.mem_map.1 hb
    exact u8s_ne (hu x hx).1 hc (hu x hx).2
  have h2 : ∀ w ∈ ws.map u8s, ∀ b ∈ w, b ≠ UInt8.ofNat c.toNat := fun w hw' b hb => by
    obtain ⟨v, hv, rfl⟩ := List.mem_map.1 hw'
    obtain ⟨x, hx, rfl⟩ := List.mem_map.1 hb
    exact u8s_ne (hw v hv x hx).1 hc (hw v hv x hx).2
  have ed : (strOfNums (u ++ ws.flatMap (c :: ·))).data.toList = u8s u ++ (ws.map u8s).flatMap (UInt8.ofNat c.toNat :: ·) := by
    rw [strOfNums_data, List.map_append]
    exact congrArg _ (u8s_words c ws)
  have es : (strOfNums [c]).data.toList = [UInt8.ofNat c.toNat] := by rw [strOfNums_data]; rfl
  apply datas_inj
  rw [Lib.splitB_data]
  unfold Lib.countB
  rw [ed, es, count_words _ _ _ h1 h2, split_words _ _ _ h1 h2, List.map_cons, List.map_map, strOfNums_data]
  congr 1
theorem cut_hit (c : Int) (hc : 0 ≤ c ∧ c ≤ 255) (u r : List Int) (hu : ∀ b ∈ u, (0 ≤ b ∧ b ≤ 255) ∧ b ≠ c) :
    Lib.cut (strOfNums (u ++ c :: r)).data.toList (strOfNums [c]).data.toList = ((strOfNums u).data.toList, (strOfNums r).data.toList, true) := by
  have h1 : ∀ b ∈ u8s u, b ≠ UInt8.ofNat c.toNat := fun b hb => by
    obtain ⟨x, hx, rfl⟩ := List.mem_map.1 hb
    exact u8s_ne (hu x hx).1 hc (hu x hx).2
  have ed : (strOfNums (u ++ c :: r)).data.toList = u8s u ++ UInt8.ofNat c.toNat :: u8s r := by
    rw [strOfNums_data, List.map_append]; rfl
  have es : (strOfNums [c]).data.toList = [UInt8.ofNat c.toNat] := by rw [strOfNums_data]; rfl
  unfold Lib.cut
  rw [ed, es, index_hit _ _ _ h1, if_pos (by omega), Int.toNat_natCast, List.take_left, show ([UInt8.ofNat c.toNat] : List UInt8).length = 1 from rfl]
  rw [show u8s u ++ UInt8.ofNat c.toNat :: u8s r = (u8s u ++ [UInt8.ofNat c.toNat]) ++ u8s r by simp, List.drop_left' (by simp), strOfNums_data, strOfNums_data]
theorem cut_miss (c : Int) (hc : 0 ≤ c ∧ c ≤ 255) (u : List Int) (hu : ∀ b ∈ u, (0 ≤ b ∧ b ≤ 255) ∧ b ≠ c) :
    Lib.cut (strOfNums u).data.toList (strOfNums [c]).data.toList = ((strOfNums u).data.toList, [], false) := by
  have h1 : ∀ b ∈ u8s u, b ≠ UInt8.ofNat c.toNat := fun b hb => by
    obtain ⟨x, hx, rfl⟩ := List.mem_map.1 hb
    exact u8s_ne (hu x hx).1 hc (hu x hx).2
  have es : (strOfNums [c]).data.toList = [UInt8.ofNat c.toNat] := by rw [strOfNums_data]; rfl
  unfold Lib.cut
  rw [es, strOfNums_data, index_miss _ _ h1, if_neg (by omega)]
/-- Figures are read back. -/
theorem parse_step (acc d : Nat) (r : List UInt8) (hd : d ≤ 9) (ha : acc ≤ 100000) : Lib.parseUint10 acc (UInt8.ofNat (48 + d) :: r) = Lib.parseUint10 (acc * 10 + d) r := by
  have e : (UInt8.ofNat (48 + d)).toNat = 48 + d := UInt8.toNat_ofNat_of_lt' (by simp only [UInt8.size]; omega)
  conv => lhs; unfold Lib.parseUint10
  rw [e, if_pos (by omega), if_neg (by omega), if_neg (by omega), Nat.add_sub_cancel_left]
theorem dg_u8 (n : Nat) : u8s (dg n) = if n < 10 then [UInt8.ofNat (48 + n)] else if n < 100 then [UInt8.ofNat (48 + n / 10), UInt8.ofNat (48 + n % 10)] else if n < 1000 then [UInt8.ofNat (48 + n / 100), UInt8.ofNat (48 + n / 10 % 10), UInt8.ofNat (48 + n % 10)] else [UInt8.ofNat (48 + n / 1000), UInt8.ofNat (48 + n / 100 % 10), UInt8.ofNat (48 + n / 10 % 10), UInt8.ofNat (48 + n % 10)] := by
  have k : ∀ (x : Nat) (y : Int), (48 + x : Int) = y → UInt8.ofNat y.toNat = UInt8.ofNat (48 + x) := fun x y hy => by rw [← hy]; rfl
  unfold u8s dg
  by_cases h1 : n < 10
  · rw [if_pos h1, if_pos (by omega)]
    simp only [List.map_cons, List.map_nil, k n _ rfl]
  · rw [if_neg h1, if_neg (by omega)]
    by_cases h2 : n < 100
    · rw [if_pos h2, if_pos (by omega)]
      simp only [List.map_cons, List.map_nil]
      rw [k (n / 10) (48 + (n : Int) / 10) (by omega), k (n % 10) (48 + (n : Int) % 10) (by omega)]
    · rw [if_neg h2, if_neg (by omega)]
      by_cases h3 : n < 1000
      · rw [if_pos h3, if_pos (by omega)]
        simp only [List.map_cons, List.map_nil]
        rw [k (n / 100) (48 + (n : Int) / 100) (by omega), k (n / 10 % 10) (48 + (n : Int) / 10 % 10) (by omega), k (n % 10) (48 + (n : Int) % 10) (by omega)]
      · rw [if_neg h3, if_neg (by omega)]
        simp only [List.map_cons, List.map_nil]
        rw [k (n / 1000) (48 + (n : Int) / 1000) (by omega), k (n / 100 % 10) (48 + (n : Int) / 100 % 10) (by omega), k (n / 10 % 10) (48 + (n : Int) / 10 % 10) (by omega), k (n % 10) (48 + (n : Int) % 10) (by omega)]
theorem parse_dg (n : Nat) (h : n ≤ 9999) : Lib.parseUint10 0 (u8s (dg n)) = .ok n := by
  rw [dg_u8]
  by_cases h1 : n < 10
  · rw [if_pos h1, parse_step _ _ _ (by omega) (by omega), Nat.zero_mul, Nat.zero_add]; rfl
  · rw [if_neg h1]
    by_cases h2 : n < 100
    · rw [if_pos h2, parse_step _ _ _ (by omega) (by omega), parse_step _ _ _ (by omega) (by omega)]
      unfold Lib.parseUint10
      congr 1; omega
    · rw [if_neg h2]
      by_cases h3 : n < 1000
      · rw [if_pos h3, parse_step _ _ _ (by omega) (by omega), parse_step _ _ _ (by omega) (by omega), parse_step _ _ _ (by omega) (by omega)]
        unfold Lib.parseUint10
        congr 1; omega
      · rw [if_neg h3, parse_step _ _ _ (by omega) (by omega), parse_step _ _ _ (by omega) (by omega), parse_step _ _ _ (by omega) (by omega), parse_step _ _ _ (by omega) (by omega)]
        unfold Lib.parseUint10
        congr 1; omega
theorem dg_head (n : Nat) (h : n ≤ 9999) : ∃ d l, u8s (dg n) = UInt8.ofNat (48 + d) :: l ∧ d ≤ 9 := by
  rw [dg_u8]
  by_cases h1 : n < 10
  · rw [if_pos h1]; exact ⟨_, _, rfl, by omega⟩
  · rw [if_neg h1]
    by_cases h2 : n < 100
    · rw [if_pos h2]; exact ⟨_, _, rfl, by omega⟩
    · rw [if_neg h2]
      by_cases h3 : n < 1000
      · rw [if_pos h3]; exact ⟨_, _, rfl, by omega⟩
      · rw [if_neg h3]; exact ⟨_, _, rfl, by omega⟩
theorem atoi_dgN (n : Nat) (h : n ≤ 9999) : atV (strOfNums (dg n)) = n := by
  have hp := parse_dg n h
  obtain ⟨d, l, e, hd⟩ := dg_head n h
  have e8 : (UInt8.ofNat (48 + d)).toNat = 48 + d := UInt8.toNat_ofNat_of_lt' (by simp only [UInt8.size]; omega)
  have ha : Lib.atoiAll (u8s (dg n)) = .ok (n : Int) := by
    rw [e] at hp ⊢
    unfold Lib.atoiAll Lib.parseMag
    dsimp only
    rw [e8, if_neg (show ¬ (48 + d = 43 ∨ 48 + d = 45) by omega), if_neg (by simp), hp]
    dsimp only
    rw [if_neg (show ¬ (¬ 48 + d = 45 ∧ 9223372036854775808 ≤ n) by omega), if_neg (show ¬ (48 + d = 45 ∧ 9223372036854775808 < n) by omega), if_neg (show ¬ 48 + d = 45 by omega)]
  unfold atV
  rw [strOfNums_data]
  unfold u8s at ha
  rw [ha]
theorem atoi_dg (n : Int) (h0 : 0 ≤ n) (h : n ≤ 9999) : atV (strOfNums (dg n)) = n := by
  have := atoi_dgN n.toNat (by omega)
  rwa [Int.toNat_of_nonneg h0] at this
theorem atoi_fig (n : Int) (h0 : 0 ≤ n) (h : n ≤ 9) : atV (strOfNums [48 + n]) = n := by
  have := atoi_dg n h0 (by omega)
  unfold dg at this
  rwa [if_pos (by omega)] at this

-- libread
/-! What a word is read as by the library. -/
def nmV (w : ByteArray) : Int × Int := if w.toList = ([] : List UInt8) then (0, 0) else (wrap64 (wrap64 (wrap64 (bt w 0) - 97) + 1), atV (w.extract 1 w.size))
theorem nameRead_v (w : ByteArray) (h : w.size ≤ 281474976710656) : impl_nameRead.f w = some (nmV w) := by
  unfold impl_nameRead.f nmV
  by_cases e : w.toList = ([] : List UInt8)
  · rw [if_pos e, if_pos e]
  · rw [if_neg e, if_neg e]
    have hs : 0 < w.size := by
      rcases Nat.eq_zero_or_pos w.size with h0 | h0
      · exact absurd (by rw [ByteArray.toList_eq]; exact List.eq_nil_of_length_eq_zero (by rw [Array.length_toList]; exact h0)) e
      · exact h0
    rw [if_pos (by omega)]
    unfold strconv_Atoi.f
    rw [if_pos (by rw [ByteArray.size_extract]; omega)]
    simp only [Option.bind_some]
    rw [if_pos (by omega)]
def ctV (w sep : ByteArray) : ByteArray × ByteArray × Bool := (⟨(Lib.cut w.data.toList sep.data.toList).1.toArray⟩, ⟨(Lib.cut w.data.toList sep.data.toList).2.1.toArray⟩, (Lib.cut w.data.toList sep.data.toList).2.2)
theorem cut_v (w sep : ByteArray) (h : w.size ≤ 1000000) : strings_Cut.f w sep = some (ctV w sep) := by
  unfold strings_Cut.f ctV
  rw [if_pos (by omega)]
theorem cut_len (s sep : List UInt8) : (Lib.cut s sep).1.length ≤ s.length ∧ (Lib.cut s sep).2.1.length ≤ s.length := by
  unfold Lib.cut
  split
  · dsimp only
    rw [List.length_take, List.length_drop]
    omega
  · exact ⟨Nat.le_refl _, Nat.zero_le _⟩
theorem ctV_size (w sep : ByteArray) : (ctV w sep).1.size ≤ w.size ∧ (ctV w sep).2.1.size ≤ w.size := by
  have h := cut_len w.data.toList sep.data.toList
  have hz : w.data.toList.length ≤ w.size := Nat.le_of_eq (Lib.size_eq w).symm
  exact ⟨Nat.le_trans (show (ctV w sep).1.size ≤ w.data.toList.length from h.1) hz, Nat.le_trans (show (ctV w sep).2.1.size ≤ w.data.toList.length from h.2) hz⟩
theorem atoi_v (w : ByteArray) (h : w.size ≤ 1000000) : strconv_Atoi.f w = some (atV w, none) := by
  unfold strconv_Atoi.f
  rw [if_pos (by omega)]
theorem splitB_size (sep : ByteArray) : ∀ (k : Nat) (s : ByteArray), ∀ w ∈ Lib.splitB sep 0 k s, w.size ≤ s.size
  | 0, s, w, hw => by
    rw [Lib.splitB_zero, List.mem_singleton] at hw
    rw [hw]
    exact Nat.le_refl _
  | k + 1, s, w, hw => by
    unfold Lib.splitB at hw
    split at hw
    · rw [List.mem_singleton] at hw
      rw [hw]
      exact Nat.le_refl _
    · rcases List.mem_cons.1 hw with rfl | hw
      · rw [ByteArray.size_extract]; omega
      · have := splitB_size sep k _ w hw
        rw [ByteArray.size_extract] at this
        omega
theorem splitB_ne (sep : ByteArray) : ∀ (k : Nat) (s : ByteArray), Lib.splitB sep 0 k s ≠ []
  | 0, s => by rw [Lib.splitB_zero]; simp
  | k + 1, s => by unfold Lib.splitB; split <;> simp
theorem split_v (s sep : ByteArray) (h : s.size ≤ 4000) (h1 : 1 ≤ sep.size) : ∃ w ws, strings_Split.f s sep = some (w :: ws) ∧ w :: ws = Lib.splitB sep 0 (Lib.countB s sep) s ∧ ws.length ≤ 4002 ∧ ∀ x ∈ w :: ws, x.size ≤ 4000 := by
  have a := Lib.splitB_length_le sep 0 (Lib.countB s sep) s
  have b := Lib.count_le s.data.toList sep.data.toList
  have c := splitB_size sep (Lib.countB s sep) s
  have d := splitB_ne sep (Lib.countB s sep) s
  rw [← Lib.size_eq] at b
  unfold strings_Split.f
  rw [if_pos ⟨by omega, h1⟩]
  obtain ⟨L, hL⟩ : ∃ L, L = Lib.splitB sep 0 (Lib.countB s sep) s := ⟨_, rfl⟩
  rw [← hL] at a c d ⊢
  cases L with
  | nil => exact absurd rfl d
  | cons w ws =>
    refine ⟨w, ws, rfl, rfl, ?_, fun x hx => Nat.le_trans (c x hx) h⟩
    rw [List.length_cons] at a
    have : Lib.countB s sep ≤ s.size + 1 := b
    omega
theorem str_extract (l : List Int) (hl : ∀ x ∈ l, 0 ≤ x ∧ x ≤ 255) (i j : Nat) : (strOfNums l).extract i j = strOfNums ((l.take j).drop i) := by
  apply bytesOf_inj
  rw [bytesOf_extract, bytesOf_str hl, bytesOf_str (fun x hx => hl x (List.mem_of_mem_take (List.mem_of_mem_drop hx)))]
theorem nmV_word (n v : Int) (hn : 1 ≤ n ∧ n ≤ 4) (hv : 1 ≤ v ∧ v ≤ 5) : nmV (strOfNums [96 + n, 48 + v]) = (n, v) := by
  have hr : ∀ b ∈ ([96 + n, 48 + v] : List Int), 0 ≤ b ∧ b ≤ 255 := by intro b hb; simp only [List.mem_cons, List.not_mem_nil, or_false] at hb; omega
  have h0 := bt_str _ hr 0 (by simp)
  simp only [List.getElem_cons_zero] at h0
  unfold nmV
  rw [if_neg (by rw [toList_str]; simp), show bt (strOfNums [96 + n, 48 + v]) 0 = 96 + n from h0, strOfNums_size, str_extract _ hr]
  rw [show (([96 + n, 48 + v] : List Int).take ([96 + n, 48 + v] : List Int).length).drop 1 = [48 + v] from rfl, atoi_fig v (by omega) (by omega)]
  rw [w64 (n := 96 + n) (by omega) (by omega), w64 (n := 96 + n - 97) (by omega) (by omega), w64 (n := 96 + n - 97 + 1) (by omega) (by omega), show 96 + n - 97 + 1 = n by omega]
theorem data_back (s : ByteArray) : (⟨s.data.toList.toArray⟩ : ByteArray) = s := rfl

-- impl_PkgOk
theorem pkB_eq (n v : Int) (fs : List Fl) (ds : List Dp) : pkB n v fs ds = pkgOk n v fs ds := by
  have eF : ∀ d i, okFrom (pkf1 fs) d i = allFrom (fileOk1 fs) d i := by
    intro d
    induction d with
    | zero => intro i; rfl
    | succ d ih => intro i; show (_ && _) = (_ && _); rw [ih]; rfl
  have eD : ∀ d i, okFrom (pkd1 n ds) d i = allFrom (depOk1 n ds) d i := by
    intro d
    induction d with
    | zero => intro i; rfl
    | succ d ih => intro i; show (_ && _) = (_ && _); rw [ih]; rfl
  unfold pkB pkpre pkgOk filesOk depsOk
  rw [eF, eD]
  show (inB n 1 4 && (inB v 1 5 && (decide (fs.length ≤ 2) && decide (ds.length ≤ 2))) && (allFrom (fileOk1 fs) fs.length 0 && allFrom (depOk1 n ds) ds.length 0)) = _
  cases inB n 1 4 <;> cases inB v 1 5 <;> cases allFrom (fileOk1 fs) fs.length 0 <;> cases allFrom (depOk1 n ds) ds.length 0 <;> cases decide (fs.length ≤ 2) <;> cases decide (ds.length ≤ 2) <;> rfl
theorem impl_PkgOk_v (n v : Int) (fs : List Fl) (ds : List Dp) (hf : fs.length ≤ 17592186044416) (hd : ds.length ≤ 17592186044416) : Ev (fun k => impl_PkgOk.f k n v fs ds) (pkgOk n v fs ds) := by
  rw [← pkB_eq]
  exact Ev.now _

-- impl_PkgText
theorem impl_PkgText_v (n v : Int) (fs : List Fl) (ds : List Dp) : Ev (fun k => impl_PkgText.f k n v fs ds) (pkgS n v fs ds) := by
  have e : ptS n v fs ds = pkgS n v fs ds := by
    unfold ptS pkgS
    rw [pkB_eq]
    rfl
  rw [← e]
  exact Ev.now _

-- impl_PkgRead
abbrev ISt := Int × Int × List Fl × List Dp
def ipW (w : ByteArray) (st : ISt) : ISt := if (ctV w ⟨#[58]⟩).2.2 = true then (st.1, st.2.1, st.2.2.1 ++ [⟨atV (ctV w ⟨#[58]⟩).1, atV (ctV w ⟨#[58]⟩).2.1⟩], st.2.2.2) else (st.1, st.2.1, st.2.2.1, st.2.2.2 ++ [⟨(nmV w).1, (nmV w).2⟩])
def ipAll : List ByteArray → ISt → ISt
  | [], st => st
  | w :: ws, st => ipAll ws (ipW w st)
def ipFin (s : ByteArray) (st : ISt) : Int × Int × List Fl × List Dp × Bool :=
  if pkgOk st.1 st.2.1 st.2.2.1 st.2.2.2 = true then (if (pkgS st.1 st.2.1 st.2.2.1 st.2.2.2).toList = s.toList then (st.1, st.2.1, st.2.2.1, st.2.2.2, true) else (0, 0, [], [], false)) else (0, 0, [], [], false)
theorem ipFin_bad {s : ByteArray} {st : ISt} (e : ¬ pkgOk st.1 st.2.1 st.2.2.1 st.2.2.2 = true) : ipFin s st = (0, 0, [], [], false) := if_neg e
theorem ipFin_no {s : ByteArray} {st : ISt} (e : pkgOk st.1 st.2.1 st.2.2.1 st.2.2.2 = true) (e2 : ¬ (pkgS st.1 st.2.1 st.2.2.1 st.2.2.2).toList = s.toList) : ipFin s st = (0, 0, [], [], false) := (if_pos e).trans (if_neg e2)
theorem ipFin_yes {s : ByteArray} {st : ISt} (e : pkgOk st.1 st.2.1 st.2.2.1 st.2.2.2 = true) (e2 : (pkgS st.1 st.2.1 st.2.2.1 st.2.2.2).toList = s.toList) : ipFin s st = (st.1, st.2.1, st.2.2.1, st.2.2.2, true) := (if_pos e).trans (if_pos e2)
theorem ipAll_cons (w : ByteArray) (ws : List ByteArray) (st : ISt) : ipAll (w :: ws) st = ipAll ws (ipW w st) := rfl
theorem ip_loop (s : ByteArray) (W : List ByteArray) (hW : W.length ≤ 4097) (hz : ∀ w ∈ W, w.size ≤ 4096) : ∀ d i : Nat, i + d = W.length → ∀ st : ISt, st.2.2.1.length ≤ i → st.2.2.2.length ≤ i →
    Ev (fun k => impl_PkgRead.l0 k s W (W.length : Int) (i : Int) st.1 st.2.1 st.2.2.1 st.2.2.2) (ipFin s (ipAll (W.drop i) st)) := by
  intro d
  induction d with
  | zero =>
    intro i hi st h1 h2
    refine Ev.down ?_
    simp only [impl_PkgRead.l0]
    rw [List.drop_of_length_le (by omega)]
    refine Ev.neg (by omega) (Ev.bind (impl_PkgOk_v _ _ _ _ (by omega) (by omega)) ?_)
    rw [show ipAll [] st = st from rfl]
    by_cases e : pkgOk st.1 st.2.1 st.2.2.1 st.2.2.2 = true
    · refine Ev.pos e (Ev.bind (impl_PkgText_v _ _ _ _) ?_)
      by_cases e2 : (pkgS st.1 st.2.1 st.2.2.1 st.2.2.2).toList = s.toList
      · exact Ev.pos e2 (Ev.eq (ipFin_yes e e2).symm)
      · exact Ev.neg e2 (Ev.eq (ipFin_no e e2).symm)
    · exact Ev.neg e (Ev.eq (ipFin_bad e).symm)
  | succ d ih =>
    intro i hi st h1 h2
    have hil : i < W.length := by omega
    rw [List.drop_eq_getElem_cons hil]
    rw [ipAll_cons]
    have hs := hz W[i] (List.getElem_mem _)
    obtain ⟨w, hw⟩ : ∃ w, w = W[i] := ⟨_, rfl⟩
    have hrd : rdOf ByteArray.empty W (i : Int) = w := by unfold rdOf; rw [Int.toNat_natCast, getD_of_lt hil, hw]
    rw [← hw] at hs ⊢
    have step := ih (i + 1) (by omega) (ipW w st)
    have e64 : wrap64 ((i : Int) + 1) = ((i + 1 : Nat) : Int) := by rw [w64 (by omega) (by omega)]; rfl
    obtain ⟨c1, c2⟩ := ctV_size w ⟨#[58]⟩
    refine Ev.down ?_
    simp only [impl_PkgRead.l0]
    rw [hrd, e64]
    refine Ev.pos (by omega) (Ev.pos (by omega) (Ev.pos (by omega) (Ev.bind (Ev.con (cut_v w _ (by omega))) ?_)))
    by_cases e : (ctV w ⟨#[58]⟩).2.2 = true
    · have e3 : ipW w st = (st.1, st.2.1, st.2.2.1 ++ [⟨atV (ctV w ⟨#[58]⟩).1, atV (ctV w ⟨#[58]⟩).2.1⟩], st.2.2.2) := by unfold ipW; rw [if_pos e]
      rw [e3] at step ⊢
      refine Ev.pos e (Ev.bind (Ev.con (atoi_v _ (by omega))) (Ev.bind (Ev.con (atoi_v _ (by omega))) (Ev.pos (by omega) ?_)))
      exact step (by simp only [List.length_append, List.length_singleton]; omega) (by dsimp only; omega)
    · have e3 : ipW w st = (st.1, st.2.1, st.2.2.1, st.2.2.2 ++ [⟨(nmV w).1, (nmV w).2⟩]) := by unfold ipW; rw [if_neg e]
      rw [e3] at step ⊢
      refine Ev.neg e (Ev.bind (Ev.con (nameRead_v w (by omega))) (Ev.pos (by omega) ?_))
      exact step (by dsimp only; omega) (by simp only [List.length_append, List.length_singleton]; omega)
theorem ipW_file (f : Fl) (hf : (0 ≤ f.f0 ∧ f.f0 ≤ 5) ∧ (0 ≤ f.f1 ∧ f.f1 ≤ 9)) (st : ISt) : ipW (strOfNums (fileW f)) st = (st.1, st.2.1, st.2.2.1 ++ [f], st.2.2.2) := by
  have e : ctV (strOfNums (fileW f)) ⟨#[58]⟩ = (strOfNums [48 + f.f0], strOfNums [48 + f.f1], true) := by
    have h := cut_hit 58 (by omega) [48 + f.f0] [48 + f.f1] (by intro b hb; simp only [List.mem_cons, List.not_mem_nil, or_false] at hb; omega)
    unfold ctV
    rw [show (⟨#[58]⟩ : ByteArray) = strOfNums [58] from rfl, show fileW f = [48 + f.f0] ++ 58 :: [48 + f.f1] from rfl, h]
  unfold ipW
  rw [e, if_pos rfl, atoi_fig _ (by omega) (by omega), atoi_fig _ (by omega) (by omega)]
theorem ipW_dep (d : Dp) (hd : (1 ≤ d.f0 ∧ d.f0 ≤ 4) ∧ (1 ≤ d.f1 ∧ d.f1 ≤ 5)) (st : ISt) : ipW (strOfNums (depW d)) st = (st.1, st.2.1, st.2.2.1, st.2.2.2 ++ [d]) := by
  have e : (ctV (strOfNums (depW d)) ⟨#[58]⟩).2.2 = false := by
    have h := cut_miss 58 (by omega) (depW d) (by intro b hb; simp only [depW, List.mem_cons, List.not_mem_nil, or_false] at hb; omega)
    unfold ctV
    rw [show (⟨#[58]⟩ : ByteArray) = strOfNums [58] from rfl, h]
  unfold ipW
  rw [e, if_neg (by decide)]
  unfold depW
  rw [nmV_word _ _ hd.1 hd.2]
theorem ipAll_deps : ∀ (ds : List Dp), (∀ d ∈ ds, (1 ≤ d.f0 ∧ d.f0 ≤ 4) ∧ (1 ≤ d.f1 ∧ d.f1 ≤ 5)) → ∀ st : ISt, ipAll ((ds.map depW).map strOfNums) st = (st.1, st.2.1, st.2.2.1, st.2.2.2 ++ ds)
  | [], _, st => by simp [ipAll]
  | d :: ds, h, st => by
    simp only [List.map_cons, ipAll]
    rw [ipW_dep d (h d List.mem_cons_self), ipAll_deps ds (fun x hx => h x (List.mem_cons_of_mem _ hx))]
    simp
theorem ipAll_words : ∀ (fs : List Fl) (ds : List Dp), (∀ f ∈ fs, (0 ≤ f.f0 ∧ f.f0 ≤ 5) ∧ (0 ≤ f.f1 ∧ f.f1 ≤ 9)) → (∀ d ∈ ds, (1 ≤ d.f0 ∧ d.f0 ≤ 4) ∧ (1 ≤ d.f1 ∧ d.f1 ≤ 5)) → ∀ st : ISt,
    ipAll ((pkgWords fs ds).map strOfNums) st = (st.1, st.2.1, st.2.2.1 ++ fs, st.2.2.2 ++ ds)
  | [], ds, _, hd, st => by
    have := ipAll_deps ds hd st
    simpa [pkgWords] using this
  | f :: fs, ds, hf, hd, st => by
    rw [show (pkgWords (f :: fs) ds).map strOfNums = strOfNums (fileW f) :: (pkgWords fs ds).map strOfNums from rfl, ipAll_cons, ipW_file f (hf f List.mem_cons_self), ipAll_words fs ds (fun x hx => hf x (List.mem_cons_of_mem _ hx)) hd]
    simp
theorem pkgW_bytes {n v : Int} {fs : List Fl} {ds : List Dp} (h : pkgOk n v fs ds = true) : (∀ b ∈ ([96 + n, 48 + v] : List Int), (0 ≤ b ∧ b ≤ 255) ∧ b ≠ 32) ∧ ∀ w ∈ pkgWords fs ds, ∀ b ∈ w, (0 ≤ b ∧ b ≤ 255) ∧ b ≠ 32 := by
  obtain ⟨h1, h2⟩ := pkgW_no 32 rfl h
  have hr := pkgL_range h
  rw [pkgL_words] at hr
  refine ⟨fun b hb => ⟨hr b (List.mem_append_left _ hb), h1 b hb⟩, fun w hw b hb => ⟨hr b (List.mem_append_right _ (List.mem_flatMap.2 ⟨w, hw, List.mem_cons_of_mem _ hb⟩)), h2 w hw b hb⟩⟩
theorem split_pkg {n v : Int} {fs : List Fl} {ds : List Dp} (h : pkgOk n v fs ds = true) : Lib.splitB ⟨#[32]⟩ 0 (Lib.countB (strOfNums (pkgL n v fs ds)) ⟨#[32]⟩) (strOfNums (pkgL n v fs ds)) = strOfNums [96 + n, 48 + v] :: (pkgWords fs ds).map strOfNums := by
  obtain ⟨h1, h2⟩ := pkgW_bytes h
  rw [show (⟨#[32]⟩ : ByteArray) = strOfNums [32] from rfl, pkgL_words]
  exact split_text 32 (by omega) _ _ h1 h2
theorem impl_PkgRead_v (s : ByteArray) : ∃ (n v : Int) (fs : List Fl) (ds : List Dp) (b : Bool), Ev (fun k => impl_PkgRead.f k s) (n, v, fs, ds, b) ∧ RD s n v fs ds b := by
  unfold impl_PkgRead.f
  by_cases h : (s.size : Int) > 30
  · exact ⟨0, 0, [], [], false, Ev.pos h (Ev.now _), .inr ⟨rfl, rfl, rfl, rfl, rfl, fun n v fs ds ok e => by have := pkgL_size ok; rw [← e] at this; omega⟩⟩
  · obtain ⟨w, ws, e1, e2, e3, e4⟩ := split_v s ⟨#[32]⟩ (by omega) (by decide)
    have hE := ip_loop s ws (by omega) (fun x hx => Nat.le_trans (e4 x (List.mem_cons_of_mem _ hx)) (by omega)) ws.length 0 (by omega) ((nmV w).1, (nmV w).2, [], []) (by simp) (by simp)
    rw [List.drop_zero] at hE
    obtain ⟨st, hst⟩ : ∃ st, st = ipAll ws ((nmV w).1, (nmV w).2, [], []) := ⟨_, rfl⟩
    rw [← hst] at hE
    have e5 : rdOf ByteArray.empty (w :: ws) 0 = w := rfl
    refine ⟨(ipFin s st).1, (ipFin s st).2.1, (ipFin s st).2.2.1, (ipFin s st).2.2.2.1, (ipFin s st).2.2.2.2, Ev.neg h (Ev.bind (Ev.con e1) (Ev.pos (by simp) (Ev.bind (Ev.con (by rw [e5]; exact nameRead_v w (Nat.le_trans (e4 w List.mem_cons_self) (by omega)))) (Ev.pos (by rw [List.length_cons]; omega) (Ev.bind (Ev.now _) hE))))), ?_⟩
    have key : ∀ n v fs ds, pkgOk n v fs ds = true → s = strOfNums (pkgL n v fs ds) → st = (n, v, fs, ds) := by
      intro n v fs ds ok e
      rw [e, split_pkg ok] at e2
      obtain ⟨rfl, rfl⟩ := List.cons.inj e2
      obtain ⟨hn, hv, ⟨_, hf⟩, _, hd⟩ := pkgOk_range ok
      rw [hst, nmV_word n v hn hv, ipAll_words fs ds hf hd]
      simp
    by_cases ok : pkgOk st.1 st.2.1 st.2.2.1 st.2.2.2 = true
    · by_cases e : (pkgS st.1 st.2.1 st.2.2.1 st.2.2.2).toList = s.toList
      · rw [ipFin_yes ok e]
        exact .inl ⟨rfl, ok, by rw [← toList_inj.1 e, pkgS_ok ok]⟩
      · rw [ipFin_no ok e]
        refine .inr ⟨rfl, rfl, rfl, rfl, rfl, fun n v fs ds ok' e' => e ?_⟩
        rw [key n v fs ds ok' e']
        dsimp only
        rw [pkgS_ok ok', e']
    · rw [ipFin_bad ok]
      refine .inr ⟨rfl, rfl, rfl, rfl, rfl, fun n v fs ds ok' e' => ok ?_⟩
      rw [key n v fs ds ok' e']
      exact ok'

-- impl_IndexOk
theorem ixB_eq (num till : Int) (l : List Mt) : ixB num till l = indexOk num till l := by
  have e : ∀ d i, okFrom (ixm1 l) d i = allFrom (metaOk1 l) d i := by
    intro d
    induction d with
    | zero => intro i; rfl
    | succ d ih =>
      intro i
      show (_ && _) = (_ && _)
      rw [ih]
      congr 1
      unfold ixm1 metaOk1 lessB
      simp only [Bool.and_assoc]
      rfl
  unfold ixB indexOk metasOk
  rw [e, Bool.and_comm]
  rfl
theorem impl_IndexOk_v (num till : Int) (l : List Mt) (hl : l.length ≤ 17592186044416) : Ev (fun k => impl_IndexOk.f k num till l) (indexOk num till l) := by
  rw [← ixB_eq]
  exact Ev.now _

-- impl_SumOf
theorem impl_SumOf_v (s : ByteArray) (hs : s.size ≤ 140737488351232) : Ev (fun k => impl_SumOf.f k s) (sumL (bytesOf s)) := by
  unfold impl_SumOf.f
  have hl := bytesOf_length s
  have key : ∀ d i : Nat, i + d = s.size → Ev (fun k => impl_SumOf.l0 k s (sumL ((bytesOf s).take i)) (i : Int)) (sumL (bytesOf s)) := by
    intro d
    induction d with
    | zero =>
      intro i hi
      refine Ev.down ?_
      simp only [impl_SumOf.l0]
      refine Ev.neg (by omega) (Ev.eq ?_)
      rw [List.take_of_length_le (by omega)]
    | succ d ih =>
      intro i hi
      have hr := ih (i + 1) (by omega)
      have hn := sumFrom_range (n := 7) ((bytesOf s).take i) (by omega)
      have hb := bt_range s i
      have e : bt s i = (bytesOf s)[i]'(by omega) := by rw [← rd_bytesOf, rd_nat, getD_of_lt (by omega)]
      rw [List.take_succ_eq_append_getElem (by omega), ← e] at hr
      unfold sumL at hr ⊢
      rw [sumFrom_append] at hr
      refine Ev.down ?_
      simp only [impl_SumOf.l0]
      refine Ev.pos (by omega) (Ev.pos (by omega) ?_)
      rw [w64 (n := bt s i) (by omega) (by omega), w64 (n := 31 * _) (by omega) (by omega), w64 (n := 31 * _ + _) (by omega) (by omega), w64 (n := _ + 1) (by omega) (by omega), w64 (n := (i : Int) + 1) (by omega) (by omega), Int.tmod_eq_emod_of_nonneg (by omega)]
      exact hr
  exact key s.size 0 (by omega)

-- impl_IndexHas
theorem sIndex_loop (ms : List Mt) (hl : ms.length ≤ 17592186044416) (n v t : Int) : ∀ d i : Nat, i + d = ms.length → ∃ r, Ev (fun k => impl_Meta_84.l0 k ms (ms.length : Int) (i : Int) n v t) r ∧ decide (r ≥ 0) = hasM (ms.drop i) n v t := by
  intro d
  induction d with
  | zero =>
    intro i hi
    refine ⟨-1, Ev.down ?_, by rw [List.drop_of_length_le (by omega)]; rfl⟩
    simp only [impl_Meta_84.l0]
    exact Ev.neg (by omega) (Ev.now _)
  | succ d ih =>
    intro i hi
    have hil : i < ms.length := by omega
    obtain ⟨r, hr, h1⟩ := ih (i + 1) (by omega)
    have e64 : wrap64 ((i : Int) + 1) = ((i + 1 : Nat) : Int) := by rw [w64 (by omega) (by omega)]; rfl
    rw [List.drop_eq_getElem_cons hil, hasM_cons]
    obtain ⟨m, hm⟩ : ∃ m, m = ms[i] := ⟨_, rfl⟩
    have hrd : rd_T40 ms (i : Int) = m := by rw [rdM_nat, getD_of_lt hil, hm]
    rw [← hm]
    have c : (n == m.f0 && (v == m.f1 && t == m.f2)) = (m.f0 == n && (m.f1 == v && m.f2 == t)) := by
      rw [Bool.eq_iff_iff]
      simp only [Bool.and_eq_true, beq_iff_eq]
      exact ⟨fun ⟨a, b, c⟩ => ⟨a.symm, b.symm, c.symm⟩, fun ⟨a, b, c⟩ => ⟨a.symm, b.symm, c.symm⟩⟩
    cases hc : (m.f0 == n && (m.f1 == v && m.f2 == t)) with
    | true =>
      refine ⟨(i : Int), Ev.down ?_, by rw [Bool.true_or, decide_eq_true_eq]; omega⟩
      simp only [impl_Meta_84.l0]
      rw [hrd, c, hc]
      exact Ev.pos (by omega) (Ev.pos (by omega) (Ev.pos (by omega) (Ev.pos rfl (Ev.now _))))
    | false =>
      refine ⟨r, Ev.down ?_, by rw [Bool.false_or]; exact h1⟩
      simp only [impl_Meta_84.l0]
      rw [hrd, c, hc, e64]
      exact Ev.pos (by omega) (Ev.pos (by omega) (Ev.pos (by omega) (Ev.neg (by simp) hr)))
theorem sContains_v (ms : List Mt) (hl : ms.length ≤ 17592186044416) (n v t : Int) : Ev (fun k => impl_Meta_48.f k ms n v t) (hasM ms n v t) := by
  obtain ⟨r, hr, h⟩ := sIndex_loop ms hl n v t ms.length 0 (by omega)
  rw [List.drop_zero] at h
  unfold impl_Meta_48.f impl_Meta_84.f
  exact Ev.bind hr (Ev.eq h)
theorem impl_IndexHas_v (num till : Int) (ms : List Mt) (hl : ms.length ≤ 17592186044416) (s : ByteArray) : ∃ (n v : Int) (fs : List Fl) (ds : List Dp) (b : Bool), Ev (fun k => impl_IndexHas.f k num till ms s) (n, v, fs, ds, b) ∧ IH num till ms s n v fs ds b := by
  unfold impl_IndexHas.f
  obtain ⟨n, v, fs, ds, b, e1, r1⟩ := impl_PkgRead_v s
  have O := impl_IndexOk_v num till ms hl
  have no : Ev (fun k => impl_IndexHas.j0 k true n v fs ds) (0, 0, [], [], false) := by
    refine Ev.down ?_
    simp only [impl_IndexHas.j0]
    exact Ev.pos trivial (Ev.now _)
  cases b with
  | false =>
    refine ⟨0, 0, [], [], false, Ev.bind e1 (Ev.neg (by simp) no), .inr ⟨rfl, rfl, rfl, rfl, rfl, fun n' v' fs' ds' h _ => ?_⟩⟩
    exact absurd (RD_one r1 h).2.2.2.2 (by decide)
  | true =>
    cases ok : indexOk num till ms with
    | false =>
      rw [ok] at O
      exact ⟨0, 0, [], [], false, Ev.bind e1 (Ev.pos rfl (Ev.bind O (Ev.neg (by simp) no))), .inr ⟨rfl, rfl, rfl, rfl, rfl, fun _ _ _ _ _ h => by rw [ok] at h; exact absurd h.1 (by decide)⟩⟩
    | true =>
      rw [ok] at O
      have es : pkgS n v fs ds = s := by
        rcases r1 with ⟨_, k, e⟩ | ⟨h, _⟩
        · rw [pkgS_ok k, e]
        · exact absurd h (by decide)
      have sz : s.size ≤ 16 := by rw [← es]; exact pkgS_size n v fs ds
      have T := impl_PkgText_v n v fs ds
      rw [es] at T
      have C := sContains_v ms hl n v (sumL (bytesOf s))
      have M : Ev (fun k => impl_metaOf.f k n v fs ds) (n, v, sumL (bytesOf s)) := by
        unfold impl_metaOf.f
        exact Ev.bind T (Ev.bind (impl_SumOf_v s (by omega)) (Ev.now _))
      cases h : hasM ms n v (sumL (bytesOf s)) with
      | true =>
        rw [h] at C
        refine ⟨n, v, fs, ds, true, Ev.bind e1 (Ev.pos rfl (Ev.bind O (Ev.pos rfl (Ev.bind M (Ev.bind C (Ev.down ?_)))))), .inl ⟨rfl, ok, r1, h⟩⟩
        simp only [impl_IndexHas.j0]
        exact Ev.neg (by simp) (Ev.now _)
      | false =>
        rw [h] at C
        refine ⟨0, 0, [], [], false, Ev.bind e1 (Ev.pos rfl (Ev.bind O (Ev.pos rfl (Ev.bind M (Ev.bind C no))))), .inr ⟨rfl, rfl, rfl, rfl, rfl, fun n' v' fs' ds' r2 k => ?_⟩⟩
        obtain ⟨rfl, rfl, _⟩ := RD_one r1 r2
        rw [h] at k
        exact absurd k.2 (by decide)

-- laws_luPkg
theorem luB_false {a b c d : Int} (h : a = b ∧ c = d) : (!(a == b) || !(c == d)) ≠ true := by
  rw [h.1, h.2]; simp
theorem luB_true {a b c d : Int} (h : ¬ (a = b ∧ c = d)) : (!(a == b) || !(c == d)) = true := by
  rw [Bool.or_eq_true, Bool.not_eq_true', Bool.not_eq_true', beq_eq_false_iff_ne, beq_eq_false_iff_ne]
  by_cases e : a = b
  · exact .inr fun e2 => h ⟨e, e2⟩
  · exact .inl e
theorem lu_l1 (n v : Int) (fs : List Fl) (ds : List Dp) (n' v' : Int) (fs' : List Fl) (ds' : List Dp) (hl : ds.length = ds'.length) (hb : ds.length ≤ 1000) : ∀ d i : Nat, i + d = ds.length → Ev (fun k => laws_luPkg.l1 k (i : Int) n v fs ds n' v' fs' ds') (decide (ds.drop i = ds'.drop i)) := by
  intro d
  induction d with
  | zero =>
    intro i hi
    refine Ev.down ?_
    simp only [laws_luPkg.l1]
    refine Ev.neg (by omega) (Ev.eq ?_)
    rw [List.drop_of_length_le (by omega), List.drop_of_length_le (by omega)]; simp
  | succ d ih =>
    intro i hi
    have h1 : i < ds.length := by omega
    have h2 : i < ds'.length := by omega
    have hr := ih (i + 1) (by omega)
    refine Ev.down ?_
    simp only [laws_luPkg.l1]
    rw [rdD_nat, rdD_nat, getD_of_lt h1, getD_of_lt h2]
    refine Ev.pos (by omega) (Ev.pos (by omega) (Ev.pos (by omega) ?_))
    rw [List.drop_eq_getElem_cons h1, List.drop_eq_getElem_cons h2]
    by_cases e : ds[i].f0 = ds'[i].f0 ∧ ds[i].f1 = ds'[i].f1
    · refine Ev.neg (luB_false e) ?_
      have e2 : ds[i] = ds'[i] := by
        obtain ⟨a, b⟩ := e
        cases hx : ds[i]; cases hy : ds'[i]
        rw [hx, hy] at a b
        exact congr (congrArg _ a) b
      rw [w64 (by omega) (by omega)]
      refine Ev.re hr ?_
      simp only [e2, List.cons.injEq, true_and]
    · refine Ev.pos (luB_true e) (Ev.eq ?_)
      symm
      rw [decide_eq_false_iff_not]
      intro e2
      injection e2 with e2 _
      exact e ⟨by rw [e2], by rw [e2]⟩
theorem lu_l0 (n v : Int) (fs : List Fl) (ds : List Dp) (n' v' : Int) (fs' : List Fl) (ds' : List Dp) (hl : ds.length = ds'.length) (hb : ds.length ≤ 1000) (hl0 : fs.length = fs'.length) (hb0 : fs.length ≤ 1000) : ∀ d i : Nat, i + d = fs.length → Ev (fun k => laws_luPkg.l0 k (i : Int) n v fs ds n' v' fs' ds') (decide (fs.drop i = fs'.drop i ∧ ds = ds')) := by
  intro d
  induction d with
  | zero =>
    intro i hi
    refine Ev.down ?_
    simp only [laws_luPkg.l0]
    refine Ev.neg (by omega) (Ev.re (lu_l1 n v fs ds n' v' fs' ds' hl hb ds.length 0 (by omega)) ?_)
    rw [List.drop_of_length_le (l := fs) (by omega), List.drop_of_length_le (l := fs') (by omega)]; simp
  | succ d ih =>
    intro i hi
    have h1 : i < fs.length := by omega
    have h2 : i < fs'.length := by omega
    have hr := ih (i + 1) (by omega)
    refine Ev.down ?_
    simp only [laws_luPkg.l0]
    rw [rdF_nat, rdF_nat, getD_of_lt h1, getD_of_lt h2]
    refine Ev.pos (by omega) (Ev.pos (by omega) (Ev.pos (by omega) ?_))
    rw [List.drop_eq_getElem_cons h1, List.drop_eq_getElem_cons h2]
    by_cases e : fs[i].f0 = fs'[i].f0 ∧ fs[i].f1 = fs'[i].f1
    · refine Ev.neg (luB_false e) ?_
      have e2 : fs[i] = fs'[i] := by
        obtain ⟨a, b⟩ := e
        cases hx : fs[i]; cases hy : fs'[i]
        rw [hx, hy] at a b
        exact congr (congrArg _ a) b
      rw [w64 (by omega) (by omega)]
      refine Ev.re hr ?_
      simp only [e2, List.cons.injEq, true_and]
    · refine Ev.pos (luB_true e) (Ev.eq ?_)
      symm
      rw [decide_eq_false_iff_not]
      rintro ⟨e2, _⟩
      injection e2 with e2 _
      exact e ⟨by rw [e2], by rw [e2]⟩
theorem luPkg_v (n v : Int) (fs : List Fl) (ds : List Dp) (n' v' : Int) (fs' : List Fl) (ds' : List Dp) (hb0 : fs.length ≤ 1000) (hb : ds.length ≤ 1000) : Ev (fun k => laws_luPkg.f k n v fs ds n' v' fs' ds') (decide (n = n' ∧ v = v' ∧ fs = fs' ∧ ds = ds')) := by
  have yes : Ev (fun k => laws_luPkg.j0 k true n v fs ds n' v' fs' ds') false := by
    refine Ev.down ?_
    simp only [laws_luPkg.j0]
    exact Ev.pos trivial (Ev.now _)
  unfold laws_luPkg.f
  by_cases e1 : n = n'
  · refine Ev.pos e1 ?_
    by_cases e2 : v = v'
    · refine Ev.pos e2 ?_
      by_cases e3 : (fs.length : Int) = fs'.length
      · refine Ev.pos e3 ?_
        by_cases e4 : (ds.length : Int) = ds'.length
        · have e4b : ((ds.length : Int) != (ds'.length : Int)) = false := bne_eq_false_iff_eq.2 e4
          rw [e4b]
          refine Ev.down ?_
          simp only [laws_luPkg.j0]
          refine Ev.neg (by simp) (Ev.re (lu_l0 n v fs ds n' v' fs' ds' (by omega) hb (by omega) hb0 fs.length 0 (by omega)) ?_)
          simp [e1, e2]
        · have e4b : ((ds.length : Int) != (ds'.length : Int)) = true := bne_iff_ne.2 e4
          rw [e4b]
          refine Ev.re yes ?_
          symm
          rw [decide_eq_false_iff_not]
          rintro ⟨_, _, _, h⟩
          exact e4 (by rw [h])
      · refine Ev.neg e3 (Ev.re yes ?_)
        symm
        rw [decide_eq_false_iff_not]
        rintro ⟨_, _, h, _⟩
        exact e3 (by rw [h])
    · refine Ev.neg e2 (Ev.re yes ?_)
      simp [e2]
  · refine Ev.neg e1 (Ev.re yes ?_)
    simp [e1]

-- the law
theorem tells_loop (s : ByteArray) (hs : s.size ≤ 3000) (ok read : Bool) (num till : Int) (ms : List Mt) (hl : ms.length ≤ 1000) (n v : Int) (fs : List Fl) (ds : List Dp) (n' v' : Int) (fs' : List Fl) (ds' : List Dp)
    (hlu : ok = true → Ev (fun k => laws_luPkg.f k n v fs ds n' v' fs' ds') true) : ∀ d i : Nat, i + d = ms.length → ∀ acc : Bool, ok = (read && (acc || hasM (ms.drop i) n' v' (sumL (bytesOf s)))) →
    Ev (fun k => laws_FnIndexTells.l0 k s ok read acc (i : Int) num till ms n v fs ds n' v' fs' ds') true := by
  intro d
  induction d with
  | zero =>
    intro i hi acc h
    rw [List.drop_of_length_le (by omega), show hasM [] n' v' (sumL (bytesOf s)) = false from rfl, Bool.or_false] at h
    refine Ev.down ?_
    simp only [laws_FnIndexTells.l0]
    refine Ev.neg (by omega) ?_
    cases read with
    | true =>
      rw [Bool.true_and] at h
      subst h
      refine Ev.pos rfl (Ev.pos (by simp) ?_)
      cases ok with
      | true => exact Ev.pos rfl (Ev.bind (hlu rfl) (Ev.now _))
      | false => exact Ev.neg (by simp) (Ev.now _)
    | false =>
      rw [Bool.false_and] at h
      subst h
      exact Ev.neg (by simp) (Ev.pos rfl (Ev.neg (by simp) (Ev.now _)))
  | succ d ih =>
    intro i hi acc h
    have hil : i < ms.length := by omega
    have e64 : wrap64 ((i : Int) + 1) = ((i + 1 : Nat) : Int) := by rw [w64 (by omega) (by omega)]; rfl
    rw [List.drop_eq_getElem_cons hil, hasM_cons] at h
    refine Ev.down ?_
    simp only [laws_FnIndexTells.l0]
    refine Ev.pos (by omega) ?_
    cases acc with
    | true =>
      refine Ev.pos rfl ?_
      rw [e64]
      exact ih (i + 1) (by omega) true (by rw [Bool.true_or] at h ⊢; exact h)
    | false =>
      refine Ev.neg (by simp) (Ev.pos (by omega) (Ev.bind (impl_SumOf_v s (by omega)) ?_))
      rw [e64, rdM_nat, getD_of_lt hil]
      exact ih (i + 1) (by omega) _ (by rw [h, Bool.false_or])
theorem FnIndexTells : laws_FnIndexTells.Pure := by
  intro l hm hs hw
  refine Ev.rounds (g := fun k => laws_FnIndexTells.f k l) ?_
  unfold laws_FnIndexTells.f
  by_cases h : (l.length : Int) > 1048576
  · exact Ev.pos h (Ev.now _)
  · obtain ⟨num, till, ms, s, hd, lm, ls⟩ := DrawIndexHas_v l hw
    obtain ⟨n, v, fs, ds, b, e1, r1⟩ := spec_IndexHas_v num till ms (by omega) s (by omega)
    obtain ⟨n', v', fs', ds', b', e2, r2⟩ := impl_IndexHas_v num till ms (by omega) s
    obtain ⟨rfl, rfl, rfl, rfl, rfl⟩ := IH_one r1 r2
    obtain ⟨lf, ld⟩ := IH_len r1
    have lu := luPkg_v n v fs ds n v fs ds (by omega) (by omega)
    have O := spec_IndexOk_v num till ms (by omega)
    refine Ev.neg h (Ev.bind hd (Ev.bind e1 (Ev.bind e2 (Ev.neg (by simp) (Ev.bind lu (Ev.pos (by simp) (Ev.bind O (Ev.down ?_))))))))
    simp only [laws_FnIndexTells.j0]
    cases ok : indexOk num till ms with
    | false => exact Ev.pos rfl (Ev.pos (by simp) (Ev.bind lu (Ev.eq (by simp))))
    | true =>
      obtain ⟨n2, v2, fs2, ds2, b2, e3, r3⟩ := impl_PkgRead_v s
      have key : b = (b2 && (false || hasM (ms.drop 0) n2 v2 (sumL (bytesOf s)))) ∧ (b = true → n = n2 ∧ v = v2 ∧ fs = fs2 ∧ ds = ds2) := by
        rw [List.drop_zero, Bool.false_or]
        rcases r1 with ⟨rfl, _, k2, k3⟩ | ⟨rfl, _, _, _, _, k6⟩
        · obtain ⟨rfl, rfl, rfl, rfl, rfl⟩ := RD_one k2 r3
          exact ⟨by rw [k3]; rfl, fun _ => ⟨rfl, rfl, rfl, rfl⟩⟩
        · refine ⟨?_, fun e => absurd e (by decide)⟩
          cases b2 with
          | false => rfl
          | true =>
            cases hh : hasM ms n2 v2 (sumL (bytesOf s)) with
            | false => rfl
            | true => exact absurd ⟨ok, hh⟩ (k6 _ _ _ _ r3)
      obtain ⟨lf2, ld2⟩ := RD_len r3
      refine Ev.neg (by simp) (Ev.bind e3 ?_)
      refine tells_loop s ls b b2 num till ms (by omega) n v fs ds n2 v2 fs2 ds2 (fun e => ?_) ms.length 0 (by omega) false key.1
      obtain ⟨rfl, rfl, rfl, rfl⟩ := key.2 e
      exact Ev.re lu (by simp)

end Go.Proofs.YtkjgnnjcjkphbaaDoor.Pure
