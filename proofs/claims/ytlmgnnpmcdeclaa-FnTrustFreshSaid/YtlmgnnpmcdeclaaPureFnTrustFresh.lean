/- What is left of the law FnTrustFresh, proved: the printed function answers true at every argument within the bounds of the statement. No further condition. -/
import Derived.Test.YtlmgnnpmcdeclaaPFnTrustFreshx5
set_option linter.unusedVariables false
set_option linter.unusedSimpArgs false
namespace Go.Proofs.Ytlmgnnpmcdeclaa
/-- The printed row asks for this word by its short name. -/
theorem PrintWords.sized_ints : type_of% @Go.Proofs.YtlmgnnpmcdeclaaW.PrintWords.sized_ints := @Go.Proofs.YtlmgnnpmcdeclaaW.PrintWords.sized_ints
end Go.Proofs.Ytlmgnnpmcdeclaa
namespace Go.Proofs.Ytlmgnnpmcdeclaa.Pure
open Go.RowKit Go.Proofs.Ytlmgnnpmcdeclaa.PFnTrustFresh Go.Proofs.YtlmgnnpmcdeclaaW.PrintWords Go.Proofs.YtlmgnnpmcdeclaaW.PrintLast Go.Proofs.YtlmgnnpmcdeclaaW.PrintMore

-- ev
/-! Ways to reckon a printed function from some number of rounds on. -/
theorem Ev.pos {α : Type} {c : Prop} {d : Decidable c} {f g : Nat → Option α} {r : α} (h : c) (e : Ev f r) : Ev (fun k => if c then f k else g k) r := Ev.congr (fun _ => if_pos h) e
theorem Ev.neg {α : Type} {c : Prop} {d : Decidable c} {f g : Nat → Option α} {r : α} (h : ¬ c) (e : Ev g r) : Ev (fun k => if c then f k else g k) r := Ev.congr (fun _ => if_neg h) e
theorem Ev.con {α : Type} {x : Option α} {r : α} (h : x = some r) : Ev (fun _ => x) r := ⟨0, fun _ _ => h⟩
theorem Ev.eq {α : Type} {r r' : α} (h : r' = r) : Ev (fun _ => some r') r := ⟨0, fun _ _ => by rw [h]⟩
theorem Ev.re {α : Type} {g : Nat → Option α} {r r' : α} (e : Ev g r') (h : r' = r) : Ev g r := h ▸ e
theorem Ev.down {α : Type} {g : Nat → Option α} {r : α} (e : Ev (fun k => g (k + 1)) r) : Ev g r := Ev.step (fun _ => rfl) e
theorem Ev.one {α : Type} {g : Nat → Option α} {r r' : α} (a : Ev g r) (b : Ev g r') : r = r' := by
  obtain ⟨K, a⟩ := a
  obtain ⟨K', b⟩ := b
  have h := a (K + K') (by omega)
  rw [b (K + K') (by omega)] at h
  exact (Option.some.inj h).symm
theorem w64 {n : Int} (h0 : -9223372036854775808 ≤ n) (h1 : n ≤ 9223372036854775807) : wrap64 n = n := by unfold wrap64; omega
/-- p of i, i + 1, .., d of them. -/
def allFrom (p : Nat → Bool) : Nat → Nat → Bool
  | 0, _ => true
  | d + 1, i => p i && allFrom p d (i + 1)
theorem allFrom_iff {p : Nat → Bool} : ∀ {d i : Nat}, allFrom p d i = true ↔ ∀ j, i ≤ j → j < i + d → p j = true
  | 0, i => by simp only [allFrom, true_iff]; intro j h1 h2; omega
  | d + 1, i => by
    simp only [allFrom, Bool.and_eq_true, allFrom_iff (d := d)]
    constructor
    · intro h j h1 h2
      rcases Nat.eq_or_lt_of_le h1 with e | e
      · exact e ▸ h.1
      · exact h.2 j e (by omega)
    · intro h
      exact ⟨h i (Nat.le_refl _) (by omega), fun j h1 h2 => h j (by omega) (by omega)⟩
theorem allFrom_congr {p q : Nat → Bool} : ∀ {d i : Nat}, (∀ j, i ≤ j → j < i + d → p j = q j) → allFrom p d i = allFrom q d i
  | 0, _, _ => rfl
  | d + 1, i, h => by
    simp only [allFrom]
    rw [h i (Nat.le_refl _) (by omega), allFrom_congr (fun j h1 h2 => h j (by omega) (by omega))]
/-- A loop that looks whether p holds at each place. -/
theorem check_loop {F : Nat → Int → Option Bool} {p : Nat → Bool} {n : Nat} (hend : Ev (fun k => F k (n : Int)) true)
    (hgo : ∀ i : Nat, i < n → p i = true → ∀ r, Ev (fun k => F k ((i + 1 : Nat) : Int)) r → Ev (fun k => F k (i : Int)) r)
    (hno : ∀ i : Nat, i < n → p i = false → Ev (fun k => F k (i : Int)) false) : ∀ d i : Nat, i + d = n → Ev (fun k => F k (i : Int)) (allFrom p d i)
  | 0, i, h => by
    obtain rfl : i = n := by omega
    exact hend
  | d + 1, i, h => by
    simp only [allFrom]
    cases hp : p i with
    | true => exact hgo i (by omega) hp _ (check_loop hend hgo hno d (i + 1) (by omega))
    | false => exact hno i (by omega) hp
/-- A loop that goes on from place to place. -/
theorem step_loop {α : Type} {F : Nat → Int → Option α} {R : Nat → α} {n : Nat} (hend : Ev (fun k => F k (n : Int)) (R n))
    (hgo : ∀ i : Nat, i < n → Ev (fun k => F k ((i + 1 : Nat) : Int)) (R (i + 1)) → Ev (fun k => F k (i : Int)) (R i)) : ∀ d i : Nat, i + d = n → Ev (fun k => F k (i : Int)) (R i)
  | 0, i, h => by
    obtain rfl : i = n := by omega
    exact hend
  | d + 1, i, h => hgo i (by omega) (step_loop hend hgo d (i + 1) (by omega))
theorem rd_nat (l : List Int) (i : Nat) : rd l (i : Int) = l.getD i 0 := by unfold rd; rw [Int.toNat_natCast]
theorem getD_of_lt {α : Type} {l : List α} {i : Nat} {d : α} (h : i < l.length) : l.getD i d = l[i] := by simp [List.getD, h]
theorem notGe (a b : Int) : (!decide (a ≥ b)) = decide (a < b) := by rw [Bool.eq_iff_iff]; simp
theorem notLe (a b : Int) : (!decide (b ≤ a)) = decide (a < b) := by rw [Bool.eq_iff_iff]; simp

-- spec_l6Open
/-- Bytes to draw from. -/
def BY (b : List Int) : Prop := (∀ x ∈ b, 0 ≤ x ∧ x ≤ 255) ∧ b.length ≤ 2000
theorem open_v (l : List Int) (hw : ∀ x ∈ l, (Lit.int .u8 x).wf = true) : ∃ b, spec_l6Open.f l = some (b, 0) ∧ BY b := by
  have h : ∀ x ∈ l, 0 ≤ x ∧ x ≤ 255 := by
    intro x hx
    have := hw x hx
    have e1 : IntKind.u8.min = 0 := rfl
    have e2 : IntKind.u8.max = 255 := rfl
    simp [Lit.wf, e1, e2] at this
    omega
  unfold spec_l6Open.f
  by_cases hl : (l.length : Int) > 2000
  · rw [if_pos hl, if_pos (by omega)]
    exact ⟨_, rfl, fun x hx => h x (List.mem_of_mem_take hx), by rw [List.length_take]; omega⟩
  · rw [if_neg hl]
    exact ⟨_, rfl, h, by omega⟩

-- spec_l6Rd_pick
theorem xor_i64 (a b : Nat) (ha : a < 4611686018427387904) (hb : b < 4611686018427387904) : Go.bits .xor .i64 (a : Int) (b : Int) = ((a ^^^ b : Nat) : Int) := by
  have hx : a ^^^ b < 2 ^ 62 := Nat.xor_lt_two_pow (by omega) (by omega)
  have e1 : a % 2 ^ 64 = a := Nat.mod_eq_of_lt (by omega)
  have e2 : b % 2 ^ 64 = b := Nat.mod_eq_of_lt (by omega)
  have e3 : ((BitVec.ofInt 64 (a : Int)) ^^^ (BitVec.ofInt 64 (b : Int))).toNat = a ^^^ b := by
    rw [BitVec.toNat_xor, BitVec.ofInt_natCast, BitVec.ofInt_natCast, BitVec.toNat_ofNat, BitVec.toNat_ofNat, e1, e2]
  show IntKind.i64.wrap (((BitVec.ofInt 64 (a : Int)) ^^^ (BitVec.ofInt 64 (b : Int))).toNat : Int) = _
  rw [e3, IntKind.wrap_i64]
  omega
theorem rd_by {b : List Int} (hb : BY b) (i : Int) : 0 ≤ rd b i ∧ rd b i ≤ 255 := by
  unfold rd
  by_cases h : i.toNat < b.length
  · rw [getD_of_lt h]
    exact hb.1 _ (List.getElem_mem _)
  · rw [show b.getD i.toNat 0 = 0 by simp [List.getD, h]]
    omega
/-- A number is drawn: 0 to n - 1; 0, if there is none. -/
theorem pick_v {b : List Int} (hb : BY b) (p n : Int) (h0 : 0 ≤ p) (h1 : p ≤ 1000000) (hn : n ≤ 1000000000) : ∃ v, Ev (fun k => spec_l6Rd_pick.f k b p n) (v, p + 1) ∧ 0 ≤ v ∧ (v < n ∨ v = 0) := by
  unfold spec_l6Rd_pick.f
  rw [w64 (n := p + 1) (by omega) (by omega)]
  by_cases h : n < 1
  · refine ⟨0, Ev.pos h (Ev.down ?_), by omega, .inr rfl⟩
    simp only [spec_l6Rd_pick.j0]
    exact Ev.pos (by simp) (Ev.now _)
  · have hlen := hb.2
    by_cases hl : b.length = 0
    · refine ⟨0, Ev.neg h (Ev.down ?_), by omega, .inr rfl⟩
      simp only [spec_l6Rd_pick.j0]
      exact Ev.pos (by simp [hl]) (Ev.now _)
    · have e1 : p + 1 - 1 = p := by omega
      have tm : ∀ x : Int, 0 ≤ x → 0 ≤ Int.tmod x n ∧ Int.tmod x n < n := fun x hx => by
        rw [Int.tmod_eq_emod_of_nonneg hx]
        exact ⟨Int.emod_nonneg _ (by omega), Int.emod_lt_of_pos _ (by omega)⟩
      by_cases hlt : p < (b.length : Int)
      · obtain ⟨r1, r2⟩ := rd_by hb p
        obtain ⟨t1, t2⟩ := tm (rd b p) r1
        refine ⟨Int.tmod (rd b p) n, Ev.neg h (Ev.down ?_), t1, .inl t2⟩
        simp only [spec_l6Rd_pick.j0]
        rw [e1, w64 (n := p) (by omega) (by omega), w64 (n := rd b p) (by omega) (by omega)]
        exact Ev.neg (by rw [beq_iff_eq]; omega) (Ev.pos hlt (Ev.pos h0 (Ev.neg (by omega) (Ev.now _))))
      · have lm : ∀ x : Int, 0 ≤ x → 0 ≤ Int.tmod x (b.length : Int) ∧ Int.tmod x (b.length : Int) < (b.length : Int) := fun x hx => by
          rw [Int.tmod_eq_emod_of_nonneg hx]
          exact ⟨Int.emod_nonneg _ (by omega), Int.emod_lt_of_pos _ (by omega)⟩
        obtain ⟨a1, a2⟩ := lm p h0
        obtain ⟨c1, c2⟩ := lm (p * 7 + 3) (by omega)
        obtain ⟨r1, r2⟩ := rd_by hb (Int.tmod p (b.length : Int))
        obtain ⟨s1, s2⟩ := rd_by hb (Int.tmod (p * 7 + 3) (b.length : Int))
        have q1 : 0 ≤ Int.tdiv p (b.length : Int) ∧ Int.tdiv p (b.length : Int) ≤ p := by
          rw [Int.tdiv_eq_ediv_of_nonneg h0]
          exact ⟨Int.ediv_nonneg h0 (by omega), Int.ediv_le_self _ h0⟩
        obtain ⟨q1, q2⟩ := q1
        obtain ⟨X, hX⟩ : ∃ X, X = rd b (Int.tmod p (b.length : Int)) * 131 + rd b (Int.tmod (p * 7 + 3) (b.length : Int)) * 1117 + p * 29 + Int.tdiv p (b.length : Int) * 53 := ⟨_, rfl⟩
        have X0 : 0 ≤ X := by omega
        have X1 : X ≤ 1000000000 := by omega
        have D : Int.tdiv X 64 = X / 64 := Int.tdiv_eq_ediv_of_nonneg X0
        have Y0 : 0 ≤ Go.bits .xor .i64 X (X / 64) := by
          obtain ⟨m, rfl⟩ := Int.eq_ofNat_of_zero_le X0
          rw [show ((m : Int) / 64) = ((m / 64 : Nat) : Int) by omega, xor_i64 _ _ (by omega) (by omega)]
          omega
        obtain ⟨t1, t2⟩ := tm _ Y0
        refine ⟨Int.tmod (Go.bits .xor .i64 X (X / 64)) n, Ev.neg h (Ev.down ?_), t1, .inl t2⟩
        simp only [spec_l6Rd_pick.j0]
        rw [e1, w64 (n := p) (by omega) (by omega), w64 (n := p * 7) (by omega) (by omega), w64 (n := p * 7 + 3) (by omega) (by omega)]
        refine Ev.neg (by rw [beq_iff_eq]; omega) (Ev.neg hlt (Ev.neg (by omega) (Ev.pos a1 (Ev.pos a2 (Ev.pos c1 (Ev.pos c2 (Ev.neg (by omega) ?_)))))))
        rw [w64 (n := rd b (Int.tmod p (b.length : Int))) (by omega) (by omega), w64 (n := rd b (Int.tmod (p * 7 + 3) (b.length : Int))) (by omega) (by omega), w64 (n := Int.tdiv p (b.length : Int)) (by omega) (by omega)]
        rw [w64 (n := rd b (Int.tmod p (b.length : Int)) * 131) (by omega) (by omega), w64 (n := rd b (Int.tmod (p * 7 + 3) (b.length : Int)) * 1117) (by omega) (by omega), w64 (n := p * 29) (by omega) (by omega), w64 (n := Int.tdiv p (b.length : Int) * 53) (by omega) (by omega)]
        rw [w64 (n := rd b (Int.tmod p (b.length : Int)) * 131 + rd b (Int.tmod (p * 7 + 3) (b.length : Int)) * 1117) (by omega) (by omega), w64 (n := rd b (Int.tmod p (b.length : Int)) * 131 + rd b (Int.tmod (p * 7 + 3) (b.length : Int)) * 1117 + p * 29) (by omega) (by omega), ← hX, w64 (n := X) (by omega) (by omega), D, w64 (n := X / 64) (by omega) (by omega)]
        exact Ev.now _

-- spec_l71Keys
theorem l71Keys_v {b : List Int} (hb : BY b) (p : Int) (h0 : 0 ≤ p) (h1 : p ≤ 900000) : ∃ (ks : List Int) (p' : Int), Ev (fun k => spec_l71Keys.f k b p) (ks, p') ∧ ks.length ≤ 7 ∧ (∀ x ∈ ks, 0 ≤ x ∧ x ≤ 7) ∧ p ≤ p' ∧ p' ≤ p + 8 := by
  unfold spec_l71Keys.f
  have key : ∀ d : Nat, d ≤ 6 → ∀ (acc : List Int) (p : Int), acc.length ≤ 6 - d → (∀ x ∈ acc, 0 ≤ x ∧ x ≤ 7) → 0 ≤ p → p + d ≤ 950000 → ∃ (ks : List Int) (p' : Int), Ev (fun k => spec_l71Keys.l0 k acc (7 - (d : Int)) b p) (ks, p') ∧ ks.length ≤ 7 ∧ (∀ x ∈ ks, 0 ≤ x ∧ x ≤ 7) ∧ p ≤ p' ∧ p' ≤ p + d + 2 := by
    intro d
    induction d with
    | zero =>
      intro _ acc p ha hx h0 h1
      obtain ⟨v, hv, v0, v1⟩ := pick_v hb p 16 h0 (by omega) (by omega)
      by_cases e : v = 0
      · obtain ⟨u, hu, u0, u1⟩ := pick_v hb (p + 1) 3 (by omega) (by omega) (by omega)
        refine ⟨acc ++ [rd [0, 7, 1] u], p + 1 + 1, Ev.down ?_, by simp; omega, ?_, by omega, by omega⟩
        · simp only [spec_l71Keys.l0]
          refine Ev.neg (by omega) (Ev.bind hv (Ev.pos e ?_))
          refine Ev.bind (f := fun k y => _) (Ev.now _) (Ev.bind hu ?_)
          exact Ev.pos u0 (Ev.pos (by simp; omega) (Ev.pos (by omega) (Ev.now _)))
        · intro x hx'
          rcases List.mem_append.1 hx' with h | h
          · exact hx x h
          · rw [List.mem_singleton.1 h]
            have : u = 0 ∨ u = 1 ∨ u = 2 := by omega
            rcases this with rfl | rfl | rfl <;> simp [rd]
      · refine ⟨acc, p + 1, Ev.down ?_, by omega, hx, by omega, by omega⟩
        simp only [spec_l71Keys.l0]
        exact Ev.neg (by omega) (Ev.bind hv (Ev.neg e (Ev.now _)))
    | succ d ih =>
      intro hd acc p ha hx h0 h1
      obtain ⟨v, hv, v0, v1⟩ := pick_v hb p 2 h0 (by omega) (by omega)
      have ew : wrap64 (7 - ((d + 1 : Nat) : Int) + 1) = 7 - (d : Int) := by rw [w64 (by omega) (by omega)]; omega
      by_cases e : v = 0
      · obtain ⟨ks, p', hk, k1, k2, k3, k4⟩ := ih (by omega) (acc ++ [7 - ((d + 1 : Nat) : Int)]) (p + 1) (by simp; omega) (fun x hx' => by
          rcases List.mem_append.1 hx' with h | h
          · exact hx x h
          · rw [List.mem_singleton.1 h]; omega) (by omega) (by omega)
        refine ⟨ks, p', Ev.down ?_, k1, k2, by omega, by omega⟩
        simp only [spec_l71Keys.l0]
        refine Ev.pos (by omega) (Ev.bind hv (Ev.pos e (Ev.pos (by omega) ?_)))
        rw [ew]
        exact hk
      · obtain ⟨ks, p', hk, k1, k2, k3, k4⟩ := ih (by omega) acc (p + 1) (by omega) hx (by omega) (by omega)
        refine ⟨ks, p', Ev.down ?_, k1, k2, by omega, by omega⟩
        simp only [spec_l71Keys.l0]
        refine Ev.pos (by omega) (Ev.bind hv (Ev.neg e ?_))
        rw [ew]
        exact hk
  obtain ⟨ks, p', hk, k1, k2, k3, k4⟩ := key 6 (Nat.le_refl _) [] p (by simp) (by simp) h0 (by omega)
  exact ⟨ks, p', hk, k1, k2, k3, by omega⟩

-- spec_l71Root
theorem l71Root_v {b : List Int} (hb : BY b) (p : Int) (h0 : 0 ≤ p) (h1 : p ≤ 800000) : ∃ (num : Int) (ks : List Int) (need p' : Int), Ev (fun k => spec_l71Root.f k b p) (num, ks, need, p') ∧ 1 ≤ ks.length ∧ ks.length ≤ 7 ∧ 0 ≤ num ∧ num ≤ 10 ∧ 0 ≤ need ∧ need ≤ 8 ∧ p ≤ p' ∧ p' ≤ p + 20 := by
  have join : ∀ (ks : List Int) (p : Int), 1 ≤ ks.length → ks.length ≤ 7 → 0 ≤ p → p ≤ 900000 → ∃ (num need p' : Int), Ev (fun k => spec_l71Root.j0 k ks b p) (num, ks, need, p') ∧ 0 ≤ num ∧ num ≤ 10 ∧ 0 ≤ need ∧ need ≤ 8 ∧ p ≤ p' ∧ p' ≤ p + 5 := by
    intro ks p k1 k2 h0 h1
    obtain ⟨v, hv, v0, v1⟩ := pick_v hb p 3 h0 (by omega) (by omega)
    obtain ⟨u, hu, u0, u1⟩ := pick_v hb (p + 1) (ks.length : Int) (by omega) (by omega) (by omega)
    obtain ⟨t, ht, t0, t1⟩ := pick_v hb (p + 1 + 1) 20 (by omega) (by omega) (by omega)
    by_cases e : t = 0
    · obtain ⟨s, hs, s0, s1⟩ := pick_v hb (p + 1 + 1 + 1) 3 (by omega) (by omega) (by omega)
      refine ⟨rd [0, 9, 10] s, 1 + u, p + 1 + 1 + 1 + 1, Ev.down ?_, ?_, ?_, by omega, by omega, by omega, by omega⟩
      · simp only [spec_l71Root.j0]
        refine Ev.bind hv (Ev.bind hu (Ev.bind ht (Ev.pos e ?_)))
        refine Ev.bind (f := fun k y => _) (Ev.now _) (Ev.bind hs ?_)
        rw [w64 (n := 1 + u) (by omega) (by omega)]
        exact Ev.pos s0 (Ev.pos (by simp; omega) (Ev.now _))
      all_goals
        have : s = 0 ∨ s = 1 ∨ s = 2 := by omega
        rcases this with rfl | rfl | rfl <;> simp [rd]
    · by_cases e2 : t = 1
      · obtain ⟨s, hs, s0, s1⟩ := pick_v hb (p + 1 + 1 + 1) 2 (by omega) (by omega) (by omega)
        refine ⟨1 + v, rd [0, (ks.length : Int) + 1] s, p + 1 + 1 + 1 + 1, Ev.down ?_, by omega, by omega, ?_, ?_, by omega, by omega⟩
        · simp only [spec_l71Root.j0]
          refine Ev.bind hv (Ev.bind hu (Ev.bind ht (Ev.neg e (Ev.pos e2 ?_))))
          rw [w64 (n := (ks.length : Int) + 1) (by omega) (by omega), w64 (n := 1 + v) (by omega) (by omega)]
          refine Ev.bind (f := fun k y => _) (Ev.now _) (Ev.bind hs ?_)
          exact Ev.pos s0 (Ev.pos (by simp; omega) (Ev.now _))
        all_goals
          have : s = 0 ∨ s = 1 := by omega
          rcases this with rfl | rfl <;> simp [rd] <;> omega
      · refine ⟨1 + v, 1 + u, p + 1 + 1 + 1, Ev.down ?_, by omega, by omega, by omega, by omega, by omega, by omega⟩
        simp only [spec_l71Root.j0]
        refine Ev.bind hv (Ev.bind hu (Ev.bind ht (Ev.neg e (Ev.neg e2 ?_))))
        rw [w64 (n := 1 + u) (by omega) (by omega), w64 (n := 1 + v) (by omega) (by omega)]
        exact Ev.now _
  unfold spec_l71Root.f
  obtain ⟨ks, q, hk, k1, k2, k3, k4⟩ := l71Keys_v hb p h0 (by omega)
  by_cases e : (ks.length : Int) = 0
  · obtain ⟨v, hv, v0, v1⟩ := pick_v hb q 6 (by omega) (by omega) (by omega)
    obtain ⟨num, need, p', hj, a1, a2, a3, a4, a5, a6⟩ := join [1 + v] (q + 1) (by simp) (by simp) (by omega) (by omega)
    refine ⟨num, [1 + v], need, p', Ev.bind hk (Ev.pos e (Ev.bind hv ?_)), by simp, by simp, a1, a2, a3, a4, by omega, by omega⟩
    rw [w64 (n := 1 + v) (by omega) (by omega)]
    exact hj
  · obtain ⟨num, need, p', hj, a1, a2, a3, a4, a5, a6⟩ := join ks q (by omega) k1 (by omega) (by omega)
    exact ⟨num, ks, need, p', Ev.bind hk (Ev.neg e hj), by omega, k1, a1, a2, a3, a4, by omega, by omega⟩

-- metam0
def inB (n a b : Int) : Bool := decide (a ≤ n) && decide (n ≤ b)
theorem inB_iff {n a b : Int} : inB n a b = true ↔ a ≤ n ∧ n ≤ b := by unfold inB; rw [Bool.and_eq_true, decide_eq_true_eq, decide_eq_true_eq]
def lessB (n v m w : Int) : Bool := decide (n < m) || decide (n = m) && decide (v < w)
theorem lessB_iff {n v m w : Int} : lessB n v m w = true ↔ n < m ∨ n = m ∧ v < w := by unfold lessB; simp only [Bool.or_eq_true, Bool.and_eq_true, decide_eq_true_eq]

-- pkgm
/-! Packages: files and what is needed. -/
abbrev Fl := S89
abbrev Dp := S91
instance : DecidableEq S89 := fun x y => decidable_of_iff (x.f0 = y.f0 ∧ x.f1 = y.f1) (by obtain ⟨a, b⟩ := x; obtain ⟨d, e⟩ := y; simp)
instance : DecidableEq S91 := fun x y => decidable_of_iff (x.f0 = y.f0 ∧ x.f1 = y.f1) (by obtain ⟨a, b⟩ := x; obtain ⟨d, e⟩ := y; simp)
theorem rdF_nat (l : List Fl) (i : Nat) : rd_T89 l (i : Int) = l.getD i z89 := by unfold rd_T89; rw [Int.toNat_natCast]
theorem rdD_nat (l : List Dp) (i : Nat) : rd_T91 l (i : Int) = l.getD i z91 := by unfold rd_T91; rw [Int.toNat_natCast]
def fileOk1 (l : List Fl) (i : Nat) : Bool := inB (l.getD i z89).f0 0 5 && (inB (l.getD i z89).f1 0 9 && (i == 0 || decide ((l.getD (i - 1) z89).f0 < (l.getD i z89).f0)))
def depOk1 (name : Int) (l : List Dp) (i : Nat) : Bool := inB (l.getD i z91).f0 1 4 && (!decide ((l.getD i z91).f0 = name) && (inB (l.getD i z91).f1 1 5 && (i == 0 || decide ((l.getD (i - 1) z91).f0 < (l.getD i z91).f0))))
def filesOk (l : List Fl) : Bool := allFrom (fileOk1 l) l.length 0 && decide (l.length ≤ 2)
def depsOk (name : Int) (l : List Dp) : Bool := allFrom (depOk1 name l) l.length 0 && decide (l.length ≤ 2)
def pkgOk (n v : Int) (fs : List Fl) (ds : List Dp) : Bool := inB n 1 4 && (inB v 1 5 && (filesOk fs && depsOk n ds))

-- storem
abbrev Pk := S29
theorem rdP_nat (l : List Pk) (i : Nat) : rd_T29 l (i : Int) = l.getD i z29 := by unfold rd_T29; rw [Int.toNat_natCast]
def pOk (p : Pk) : Bool := pkgOk p.f0 p.f1 p.f2 p.f3
def storeOk1 (l : List Pk) (i : Nat) : Bool := pOk (l.getD i z29) && (i == 0 || lessB (l.getD (i - 1) z29).f0 (l.getD (i - 1) z29).f1 (l.getD i z29).f0 (l.getD i z29).f1)
def storeOk (l : List Pk) : Bool := allFrom (storeOk1 l) l.length 0
/-- No list inside is too long. -/
def Fit (l : List Pk) : Prop := ∀ p ∈ l, p.f2.length ≤ 1048577 ∧ p.f3.length ≤ 1048577
theorem Fit.get {l : List Pk} (h : Fit l) {i : Nat} (hi : i < l.length) : (l.getD i z29).f2.length ≤ 1048577 ∧ (l.getD i z29).f3.length ≤ 1048577 := by rw [getD_of_lt hi]; exact h _ (List.getElem_mem _)

-- spec_l12Find
theorem l12Find_v (l : List Pk) (n v : Int) (hl : l.length ≤ 17592186044416) : ∃ r : Int, Ev (fun k => spec_l12Find.f k l n v) r := by
  unfold spec_l12Find.f
  have loop : ∀ d i : Nat, i + d = l.length → ∃ r, Ev (fun k => spec_l12Find.l0 k l n v (i : Int)) r := by
    intro d
    induction d with
    | zero =>
      intro i hi
      refine ⟨-1, Ev.down ?_⟩
      simp only [spec_l12Find.l0]
      exact Ev.neg (by omega) (Ev.now _)
    | succ d ih =>
      intro i hi
      obtain ⟨r, hr⟩ := ih (i + 1) (by omega)
      have e : wrap64 ((i : Int) + 1) = ((i + 1 : Nat) : Int) := by rw [w64 (by omega) (by omega)]; rfl
      by_cases h1 : (rd_T29 l (i : Int)).f0 = n
      · by_cases h2 : (rd_T29 l (i : Int)).f1 = v
        · refine ⟨(i : Int), Ev.down ?_⟩
          simp only [spec_l12Find.l0]
          exact Ev.pos (by omega) (Ev.pos (by omega) (Ev.pos h1 (Ev.pos h2 (Ev.now _))))
        · refine ⟨r, Ev.down ?_⟩
          simp only [spec_l12Find.l0]
          rw [e]
          exact Ev.pos (by omega) (Ev.pos (by omega) (Ev.pos h1 (Ev.neg h2 hr)))
      · refine ⟨r, Ev.down ?_⟩
        simp only [spec_l12Find.l0]
        rw [e]
        exact Ev.pos (by omega) (Ev.pos (by omega) (Ev.neg h1 hr))
  exact loop l.length 0 (by omega)

-- spec_l3Less
theorem l3Less_v (n v m w : Int) : spec_l3Less.f n v m w = some (lessB n v m w) := by
  unfold spec_l3Less.f lessB
  by_cases h : n < m
  · rw [if_pos h, decide_eq_true h]; rfl
  · rw [if_neg h, decide_eq_false h]
    by_cases e : n = m
    · rw [if_pos e, decide_eq_true e]; rfl
    · rw [if_neg e, decide_eq_false e]; rfl

-- spec_l12With
/-- No package holds more than two files or two needs. -/
def Small (l : List Pk) : Prop := ∀ p ∈ l, p.f2.length ≤ 2 ∧ p.f3.length ≤ 2
theorem Small.add {l : List Pk} (h : Small l) {p : Pk} (h2 : p.f2.length ≤ 2) (h3 : p.f3.length ≤ 2) : Small (l ++ [p]) := by
  intro q hq
  rcases List.mem_append.1 hq with e | e
  · exact h q e
  · rw [List.mem_singleton.1 e]; exact ⟨h2, h3⟩
theorem Small.fit {l : List Pk} (h : Small l) : Fit l := fun p hp => ⟨by have := (h p hp).1; omega, by have := (h p hp).2; omega⟩
theorem Small.get {l : List Pk} (h : Small l) {i : Nat} (hi : i < l.length) : (l.getD i z29).f2.length ≤ 2 ∧ (l.getD i z29).f3.length ≤ 2 := by rw [getD_of_lt hi]; exact h _ (List.getElem_mem _)
theorem all_add {Q : Pk → Prop} {l : List Pk} (h : ∀ p ∈ l, Q p) {p : Pk} (hp : Q p) : ∀ q ∈ l ++ [p], Q q := by
  intro q hq
  rcases List.mem_append.1 hq with e | e
  · exact h q e
  · rw [List.mem_singleton.1 e]; exact hp
theorem all_get {Q : Pk → Prop} {l : List Pk} (h : ∀ p ∈ l, Q p) {i : Nat} (hi : i < l.length) : Q (l.getD i z29) := by rw [getD_of_lt hi]; exact h _ (List.getElem_mem _)
theorem l12With_q (Q : Pk → Prop) (l : List Pk) (n v : Int) (fs : List Fl) (ds : List Dp) (hl : l.length ≤ 1000) (hF : ∀ p ∈ l, Q p) (hq : Q ⟨n, v, fs, ds⟩) : ∃ r : List Pk, Ev (fun k => spec_l12With.f k l n v fs ds) r ∧ r.length ≤ 2 * l.length + 1 ∧ ∀ p ∈ r, Q p := by
  unfold spec_l12With.f
  have second : ∀ d i : Nat, i + d = l.length → ∀ out : List Pk, out.length + d ≤ 5000 → (∀ p ∈ out, Q p) → ∃ r : List Pk, Ev (fun k => spec_l12With.l1 k l out (i : Int) n v fs ds) r ∧ r.length ≤ out.length + d ∧ ∀ p ∈ r, Q p := by
    intro d
    induction d with
    | zero =>
      intro i hi out ho hs
      refine ⟨out, Ev.down ?_, by omega, hs⟩
      simp only [spec_l12With.l1]
      exact Ev.neg (by omega) (Ev.now _)
    | succ d ih =>
      intro i hi out ho hs
      have e : wrap64 ((i : Int) + 1) = ((i + 1 : Nat) : Int) := by rw [w64 (by omega) (by omega)]; rfl
      cases c : lessB n v (l.getD i z29).f0 (l.getD i z29).f1 with
      | true =>
        obtain ⟨r, hr, r1, r2⟩ := ih (i + 1) (by omega) (out ++ [⟨(l.getD i z29).f0, (l.getD i z29).f1, (l.getD i z29).f2, (l.getD i z29).f3⟩]) (by rw [List.length_append, List.length_singleton]; omega) (all_add hs (all_get hF (i := i) (by omega)))
        refine ⟨r, Ev.down ?_, by rw [List.length_append, List.length_singleton] at r1; omega, r2⟩
        simp only [spec_l12With.l1]
        rw [e, rdP_nat]
        exact Ev.pos (by omega) (Ev.pos (by omega) (Ev.bind (Ev.con (l3Less_v _ _ _ _)) (Ev.pos c (Ev.pos (by omega) hr))))
      | false =>
        obtain ⟨r, hr, r1, r2⟩ := ih (i + 1) (by omega) out (by omega) hs
        refine ⟨r, Ev.down ?_, by omega, r2⟩
        simp only [spec_l12With.l1]
        rw [e, rdP_nat]
        exact Ev.pos (by omega) (Ev.pos (by omega) (Ev.bind (Ev.con (l3Less_v _ _ _ _)) (Ev.neg (by rw [c]; simp) hr)))
  have first : ∀ d i : Nat, i + d = l.length → ∀ out : List Pk, out.length ≤ i → (∀ p ∈ out, Q p) → ∃ r : List Pk, Ev (fun k => spec_l12With.l0 k l out (i : Int) n v fs ds) r ∧ r.length ≤ 2 * l.length + 1 ∧ ∀ p ∈ r, Q p := by
    intro d
    induction d with
    | zero =>
      intro i hi out ho hs
      obtain ⟨r, hr, r1, r2⟩ := second l.length 0 (by omega) (out ++ [⟨n, v, fs, ds⟩]) (by rw [List.length_append, List.length_singleton]; omega) (all_add hs hq)
      refine ⟨r, Ev.down ?_, by rw [List.length_append, List.length_singleton] at r1; omega, r2⟩
      simp only [spec_l12With.l0]
      exact Ev.neg (by omega) (Ev.pos (by omega) hr)
    | succ d ih =>
      intro i hi out ho hs
      have e : wrap64 ((i : Int) + 1) = ((i + 1 : Nat) : Int) := by rw [w64 (by omega) (by omega)]; rfl
      cases c : lessB (l.getD i z29).f0 (l.getD i z29).f1 n v with
      | true =>
        obtain ⟨r, hr, r1, r2⟩ := ih (i + 1) (by omega) (out ++ [⟨(l.getD i z29).f0, (l.getD i z29).f1, (l.getD i z29).f2, (l.getD i z29).f3⟩]) (by rw [List.length_append, List.length_singleton]; omega) (all_add hs (all_get hF (i := i) (by omega)))
        refine ⟨r, Ev.down ?_, r1, r2⟩
        simp only [spec_l12With.l0]
        rw [e, rdP_nat]
        exact Ev.pos (by omega) (Ev.pos (by omega) (Ev.bind (Ev.con (l3Less_v _ _ _ _)) (Ev.pos c (Ev.pos (by omega) hr))))
      | false =>
        obtain ⟨r, hr, r1, r2⟩ := ih (i + 1) (by omega) out (by omega) hs
        refine ⟨r, Ev.down ?_, r1, r2⟩
        simp only [spec_l12With.l0]
        rw [e, rdP_nat]
        exact Ev.pos (by omega) (Ev.pos (by omega) (Ev.bind (Ev.con (l3Less_v _ _ _ _)) (Ev.neg (by rw [c]; simp) hr)))
  exact first l.length 0 (by omega) [] (Nat.zero_le _) (fun p hp => absurd hp (List.not_mem_nil))
theorem l12With_v (l : List Pk) (n v : Int) (fs : List Fl) (ds : List Dp) (hl : l.length ≤ 1000) (hF : Small l) (h2 : fs.length ≤ 2) (h3 : ds.length ≤ 2) : ∃ r : List Pk, Ev (fun k => spec_l12With.f k l n v fs ds) r ∧ r.length ≤ 2 * l.length + 1 ∧ Small r :=
  l12With_q (fun p => p.f2.length ≤ 2 ∧ p.f3.length ≤ 2) l n v fs ds hl hF ⟨h2, h3⟩

-- spec_l71Pkg
theorem filesOk_add {fs : List Fl} {x : Fl} (h : filesOk fs = true) (h0 : 0 ≤ x.f0 ∧ x.f0 ≤ 5) (h1 : 0 ≤ x.f1 ∧ x.f1 ≤ 9) (h2 : ∀ f ∈ fs, f.f0 < x.f0) (hl : fs.length ≤ 1) : filesOk (fs ++ [x]) = true := by
  unfold filesOk at h ⊢
  rw [Bool.and_eq_true, decide_eq_true_eq, allFrom_iff] at h ⊢
  refine ⟨fun j _ hj => ?_, by rw [List.length_append, List.length_singleton]; omega⟩
  rw [List.length_append, List.length_singleton] at hj
  have g : ∀ i, i < fs.length → (fs ++ [x]).getD i z89 = fs.getD i z89 := fun i hi => by rw [getD_of_lt (by rw [List.length_append]; omega), getD_of_lt hi, List.getElem_append_left hi]
  by_cases e : j < fs.length
  · have := h.1 j (Nat.zero_le _) (by omega)
    unfold fileOk1 at this ⊢
    rw [g j e, g (j - 1) (by omega)]
    exact this
  · have ej : j = fs.length := by omega
    have gx : (fs ++ [x]).getD j z89 = x := by rw [ej, getD_of_lt (by rw [List.length_append, List.length_singleton]; omega), List.getElem_append_right (Nat.le_refl _)]; simp
    unfold fileOk1
    rw [gx, inB_iff.2 h0, inB_iff.2 h1, Bool.true_and, Bool.true_and]
    by_cases e0 : j = 0
    · rw [e0]; rfl
    · rw [g (j - 1) (by omega), getD_of_lt (by omega), Bool.or_eq_true, decide_eq_true_eq]
      exact .inr (h2 _ (List.getElem_mem _))
theorem depsOk_add {n : Int} {fs : List Dp} {x : Dp} (h : depsOk n fs = true) (h0 : 1 ≤ x.f0 ∧ x.f0 ≤ 4) (hn : x.f0 ≠ n) (h1 : 1 ≤ x.f1 ∧ x.f1 ≤ 5) (h2 : ∀ f ∈ fs, f.f0 < x.f0) (hl : fs.length ≤ 1) : depsOk n (fs ++ [x]) = true := by
  unfold depsOk at h ⊢
  rw [Bool.and_eq_true, decide_eq_true_eq, allFrom_iff] at h ⊢
  refine ⟨fun j _ hj => ?_, by rw [List.length_append, List.length_singleton]; omega⟩
  rw [List.length_append, List.length_singleton] at hj
  have g : ∀ i, i < fs.length → (fs ++ [x]).getD i z91 = fs.getD i z91 := fun i hi => by rw [getD_of_lt (by rw [List.length_append]; omega), getD_of_lt hi, List.getElem_append_left hi]
  by_cases e : j < fs.length
  · have := h.1 j (Nat.zero_le _) (by omega)
    unfold depOk1 at this ⊢
    rw [g j e, g (j - 1) (by omega)]
    exact this
  · have ej : j = fs.length := by omega
    have gx : (fs ++ [x]).getD j z91 = x := by rw [ej, getD_of_lt (by rw [List.length_append, List.length_singleton]; omega), List.getElem_append_right (Nat.le_refl _)]; simp
    unfold depOk1
    rw [gx, inB_iff.2 h0, inB_iff.2 h1, decide_eq_false hn, Bool.true_and, Bool.not_false, Bool.true_and, Bool.true_and]
    by_cases e0 : j = 0
    · rw [e0]; rfl
    · rw [g (j - 1) (by omega), getD_of_lt (by omega), Bool.or_eq_true, decide_eq_true_eq]
      exact .inr (h2 _ (List.getElem_mem _))
def FO (a : Int) (fs : List Fl) : Prop := filesOk fs = true ∧ ∀ f ∈ fs, f.f0 < a
def DO (n d : Int) (ds : List Dp) : Prop := depsOk n ds = true ∧ ∀ f ∈ ds, f.f0 < d
theorem FO_add {a v u : Int} {fs : List Fl} (h : FO a fs) (ha : 0 ≤ a ∧ a ≤ 5) (hv : 0 ≤ v ∧ v ≤ 9) (hu : 0 ≤ u) (hl : fs.length ≤ 1) : FO (a + 1 + u) (fs ++ [⟨a, v⟩]) := by
  refine ⟨filesOk_add h.1 ha hv h.2 hl, fun f hf => ?_⟩
  rcases List.mem_append.1 hf with e | e
  · have := h.2 f e; omega
  · rw [List.mem_singleton.1 e]; dsimp only; omega
theorem DO_add {n d v : Int} {ds : List Dp} (h : DO n d ds) (hd : 1 ≤ d ∧ d ≤ 4) (hn : d ≠ n) (hv : 1 ≤ v ∧ v ≤ 5) (hl : ds.length ≤ 1) : DO n (d + 1) (ds ++ [⟨d, v⟩]) := by
  refine ⟨depsOk_add h.1 hd hn hv h.2 hl, fun f hf => ?_⟩
  rcases List.mem_append.1 hf with e | e
  · have := h.2 f e; omega
  · rw [List.mem_singleton.1 e]; dsimp only; omega
theorem DO_next {n d : Int} {ds : List Dp} (h : DO n d ds) : DO n (d + 1) ds := ⟨h.1, fun f hf => by have := h.2 f hf; omega⟩
theorem l71Pkg_o {b : List Int} (hb : BY b) (p name ver : Int) (h0 : 0 ≤ p) (h1 : p ≤ 800000) : ∃ (fs : List Fl) (ds : List Dp) (p' : Int), Ev (fun k => spec_l71Pkg.f k b p name ver) (name, ver, fs, ds, p') ∧ fs.length ≤ 2 ∧ ds.length ≤ 2 ∧ p ≤ p' ∧ p' ≤ p + 20 ∧ filesOk fs = true ∧ depsOk name ds = true := by
  have deps : ∀ d : Nat, d ≤ 4 → ∀ (p : Int) (fs : List Fl) (ds : List Dp), ds.length ≤ 2 → DO name (5 - (d : Int)) ds → 0 ≤ p → p + 2 * d ≤ 900000 → ∃ (ds' : List Dp) (p' : Int), Ev (fun k => spec_l71Pkg.l1 k name (5 - (d : Int)) b p name ver fs ds) (name, ver, fs, ds', p') ∧ ds'.length ≤ 2 ∧ p ≤ p' ∧ p' ≤ p + 2 * d ∧ depsOk name ds' = true := by
    have stop : ∀ (d : Int) (p : Int) (fs : List Fl) (ds : List Dp), Ev (fun k => spec_l71Pkg.j3 k name d false b p name ver fs ds) (name, ver, fs, ds, p) := by
      intro d p fs ds
      refine Ev.down ?_
      simp only [spec_l71Pkg.j3]
      exact Ev.neg (by simp) (Ev.now _)
    intro d
    induction d with
    | zero =>
      intro _ p fs ds hd hD h0 h1
      refine ⟨ds, p, Ev.down ?_, hd, by omega, by omega, hD.1⟩
      simp only [spec_l71Pkg.l1]
      exact Ev.neg (by omega) (stop _ _ _ _)
    | succ d ih =>
      intro hd p fs ds hl hD h0 h1
      have e5 : 5 - ((d + 1 : Nat) : Int) + 1 = 5 - (d : Int) := by omega
      have ew : wrap64 (5 - ((d + 1 : Nat) : Int) + 1) = 5 - (d : Int) := by rw [w64 (by omega) (by omega)]; omega
      by_cases h2 : (ds.length : Int) < 2
      · by_cases e : 5 - ((d + 1 : Nat) : Int) = name
        · obtain ⟨ds', p', hr, k1, k2, k3, k4⟩ := ih (by omega) p fs ds hl (by rw [← e5]; exact DO_next hD) h0 (by omega)
          refine ⟨ds', p', Ev.down ?_, k1, k2, by omega, k4⟩
          simp only [spec_l71Pkg.l1]
          refine Ev.pos (by omega) ?_
          rw [decide_eq_true h2]
          refine Ev.down ?_
          simp only [spec_l71Pkg.j3]
          refine Ev.pos trivial (Ev.pos e ?_)
          rw [ew]; exact hr
        · obtain ⟨v, hv, v0, v1⟩ := pick_v hb p 6 h0 (by omega) (by omega)
          by_cases e2 : v = 0
          · obtain ⟨u, hu, u0, u1⟩ := pick_v hb (p + 1) 2 (by omega) (by omega) (by omega)
            have hA := ih (by omega) (p + 1 + 1) fs (ds ++ [⟨5 - ((d + 1 : Nat) : Int), 1 + u⟩])
            obtain ⟨ds', p', hr, k1, k2, k3, k4⟩ := hA (by simp; omega) (by rw [← e5]; exact DO_add hD (by omega) e (by omega) (by omega)) (by omega) (by omega)
            refine ⟨ds', p', Ev.down ?_, k1, by omega, by omega, k4⟩
            simp only [spec_l71Pkg.l1]
            refine Ev.pos (by omega) ?_
            rw [decide_eq_true h2]
            refine Ev.down ?_
            simp only [spec_l71Pkg.j3]
            refine Ev.pos trivial (Ev.neg e (Ev.bind hv (Ev.pos e2 (Ev.bind hu (Ev.pos (by omega) ?_)))))
            rw [ew, w64 (n := 1 + u) (by omega) (by omega)]; exact hr
          · obtain ⟨ds', p', hr, k1, k2, k3, k4⟩ := ih (by omega) (p + 1) fs ds hl (by rw [← e5]; exact DO_next hD) (by omega) (by omega)
            refine ⟨ds', p', Ev.down ?_, k1, by omega, by omega, k4⟩
            simp only [spec_l71Pkg.l1]
            refine Ev.pos (by omega) ?_
            rw [decide_eq_true h2]
            refine Ev.down ?_
            simp only [spec_l71Pkg.j3]
            refine Ev.pos trivial (Ev.neg e (Ev.bind hv (Ev.neg e2 ?_)))
            rw [ew]; exact hr
      · refine ⟨ds, p, Ev.down ?_, hl, by omega, by omega, hD.1⟩
        simp only [spec_l71Pkg.l1]
        refine Ev.pos (by omega) ?_
        rw [decide_eq_false h2]
        exact stop _ _ _ _
  have files : ∀ n : Nat, n ≤ 2 → ∀ (p a : Int) (fs : List Fl), fs.length ≤ 2 - n → FO a fs → 0 ≤ a → a ≤ 100 - 10 * n → 0 ≤ p → p + 2 * n ≤ 850000 → ∃ (fs' : List Fl) (ds' : List Dp) (p' : Int), Ev (fun k => spec_l71Pkg.l0 k name a (n : Int) b p name ver fs []) (name, ver, fs', ds', p') ∧ fs'.length ≤ 2 ∧ ds'.length ≤ 2 ∧ p ≤ p' ∧ p' ≤ p + 2 * n + 8 ∧ filesOk fs' = true ∧ depsOk name ds' = true := by
    have stop : ∀ (a n p : Int) (fs : List Fl), 0 ≤ p → p ≤ 850000 → ∃ (ds' : List Dp) (p' : Int), Ev (fun k => spec_l71Pkg.j1 k name a n false b p name ver fs []) (name, ver, fs, ds', p') ∧ ds'.length ≤ 2 ∧ p ≤ p' ∧ p' ≤ p + 8 ∧ depsOk name ds' = true := by
      intro a n p fs h0 h1
      obtain ⟨ds', p', hr, k1, k2, k3, k4⟩ := deps 4 (Nat.le_refl _) p fs [] (by simp) ⟨rfl, by simp⟩ h0 (by omega)
      refine ⟨ds', p', Ev.down ?_, k1, k2, by omega, k4⟩
      simp only [spec_l71Pkg.j1]
      exact Ev.neg (by simp) hr
    intro n
    induction n with
    | zero =>
      intro _ p a fs hl hF ha ha' h0 h1
      obtain ⟨ds', p', hr, k1, k2, k3, k4⟩ := stop a 0 p fs h0 (by omega)
      refine ⟨fs, ds', p', Ev.down ?_, by omega, k1, k2, by omega, hF.1, k4⟩
      simp only [spec_l71Pkg.l0]
      exact Ev.neg (by omega) hr
    | succ n ih =>
      intro hn p a fs hl hF ha ha' h0 h1
      by_cases h6 : a < 6
      · obtain ⟨v, hv, v0, v1⟩ := pick_v hb p 10 h0 (by omega) (by omega)
        obtain ⟨u, hu, u0, u1⟩ := pick_v hb (p + 1) 3 (by omega) (by omega) (by omega)
        have hlen : (fs ++ [(⟨a, v⟩ : Fl)]).length ≤ 2 - n := by rw [List.length_append, List.length_singleton]; omega
        have hl1 : fs.length ≤ 1 := by omega
        have hv9 : 0 ≤ v ∧ v ≤ 9 := by omega
        have ha5 : 0 ≤ a ∧ a ≤ 5 := by omega
        have hFO := FO_add hF ha5 hv9 u0 hl1
        have hA := ih (by omega) (p + 1 + 1) (a + 1 + u) (fs ++ [⟨a, v⟩])
        obtain ⟨fs', ds', p', hr, k0, k1, k2, k3, k4, k5⟩ := hA hlen hFO (by omega) (by omega) (by omega) (by omega)
        refine ⟨fs', ds', p', Ev.down ?_, k0, k1, by omega, by omega, k4, k5⟩
        simp only [spec_l71Pkg.l0]
        refine Ev.pos (by omega) ?_
        rw [decide_eq_true h6]
        refine Ev.down ?_
        simp only [spec_l71Pkg.j1]
        refine Ev.pos trivial (Ev.bind hv (Ev.pos (by omega) (Ev.bind hu ?_)))
        rw [w64 (n := a + 1) (by omega) (by omega), w64 (n := a + 1 + u) (by omega) (by omega), w64 (n := ((n + 1 : Nat) : Int) - 1) (by omega) (by omega), show ((n + 1 : Nat) : Int) - 1 = (n : Int) by omega]
        exact hr
      · obtain ⟨ds', p', hr, k1, k2, k3, k4⟩ := stop a ((n + 1 : Nat) : Int) p fs h0 (by omega)
        refine ⟨fs, ds', p', Ev.down ?_, by omega, k1, k2, by omega, hF.1, k4⟩
        simp only [spec_l71Pkg.l0]
        refine Ev.pos (by omega) ?_
        rw [decide_eq_false h6]
        exact hr
  unfold spec_l71Pkg.f
  obtain ⟨v, hv, v0, v1⟩ := pick_v hb p 4 h0 (by omega) (by omega)
  obtain ⟨u, hu, u0, u1⟩ := pick_v hb (p + 1) 3 (by omega) (by omega) (by omega)
  obtain ⟨m, rfl⟩ := Int.eq_ofNat_of_zero_le u0
  obtain ⟨fs', ds', p', hr, k0, k1, k2, k3, k4, k5⟩ := files m (by omega) (p + 1 + 1) v [] (by simp) ⟨rfl, by simp⟩ v0 (by omega) (by omega) (by omega)
  exact ⟨fs', ds', p', Ev.bind hv (Ev.bind hu hr), k0, k1, by omega, by omega, k4, k5⟩
theorem l71Pkg_v {b : List Int} (hb : BY b) (p name ver : Int) (h0 : 0 ≤ p) (h1 : p ≤ 800000) : ∃ (fs : List Fl) (ds : List Dp) (p' : Int), Ev (fun k => spec_l71Pkg.f k b p name ver) (name, ver, fs, ds, p') ∧ fs.length ≤ 2 ∧ ds.length ≤ 2 ∧ p ≤ p' ∧ p' ≤ p + 20 := by
  obtain ⟨fs, ds, p', h, k1, k2, k3, k4, _⟩ := l71Pkg_o hb p name ver h0 h1
  exact ⟨fs, ds, p', h, k1, k2, k3, k4⟩

-- strm
/-! Texts as lists of numbers. -/
theorem bytesOf_append (a b : ByteArray) : bytesOf (a ++ b) = bytesOf a ++ bytesOf b := by
  unfold bytesOf
  rw [ByteArray.data_append, Array.toList_append, List.map_append]
theorem bytesOf_str {l : List Int} (h : ∀ x ∈ l, 0 ≤ x ∧ x ≤ 255) : bytesOf (strOfNums l) = l := by
  unfold bytesOf
  rw [strOfNums_data, List.map_map]
  conv => rhs; rw [← List.map_id l]
  apply List.map_congr_left
  intro x hx
  have := h x hx
  simp only [Function.comp, id]
  rw [UInt8.toNat_ofNat_of_lt' (by simp only [UInt8.size]; omega)]
  omega
theorem bytesOf_inj {a b : ByteArray} (h : bytesOf a = bytesOf b) : a = b := by
  unfold bytesOf at h
  apply ByteArray.ext
  apply Array.toList_inj.1
  have inj : ∀ l l' : List UInt8, l.map (fun b => (b.toNat : Int)) = l'.map (fun b => (b.toNat : Int)) → l = l' := by
    intro l
    induction l with
    | nil => intro l' h; cases l' with
      | nil => rfl
      | cons x l' => simp at h
    | cons x l ih =>
      intro l' h
      cases l' with
      | nil => simp at h
      | cons y l' =>
        simp only [List.map_cons, List.cons.injEq] at h
        have : x = y := UInt8.toNat_inj.1 (by omega)
        rw [this, ih l' h.2]
  exact inj _ _ h
theorem bytesOf_range (s : ByteArray) : ∀ x ∈ bytesOf s, 0 ≤ x ∧ x ≤ 255 := by
  intro x hx
  unfold bytesOf at hx
  obtain ⟨b, _, rfl⟩ := List.mem_map.1 hx
  have := b.toNat_lt
  omega
theorem str_bytesOf (s : ByteArray) : strOfNums (bytesOf s) = s := bytesOf_inj (bytesOf_str (bytesOf_range s))
theorem str_append (a b : List Int) : strOfNums a ++ strOfNums b = strOfNums (a ++ b) := by
  apply ByteArray.ext
  apply Array.toList_inj.1
  rw [ByteArray.data_append, Array.toList_append, strOfNums_data, strOfNums_data, strOfNums_data, List.map_append]
theorem str_inj {a b : List Int} (ha : ∀ x ∈ a, 0 ≤ x ∧ x ≤ 255) (hb : ∀ x ∈ b, 0 ≤ x ∧ x ≤ 255) (h : strOfNums a = strOfNums b) : a = b := by
  rw [← bytesOf_str ha, h, bytesOf_str hb]
theorem bytesOf_extract (s : ByteArray) (i j : Nat) : bytesOf (s.extract i j) = ((bytesOf s).take j).drop i := by
  unfold bytesOf
  rw [ByteArray.data_extract, Array.toList_extract, List.extract_eq_take_drop, List.map_take, List.map_drop, List.drop_take]

-- pkgtext
/-- A package's text, number by number. -/
def fileL (f : Fl) : List Int := [32, 48 + f.f0, 58, 48 + f.f1]
def depL (d : Dp) : List Int := [32, 96 + d.f0, 48 + d.f1]
def pkgL (n v : Int) (fs : List Fl) (ds : List Dp) : List Int := [96 + n, 48 + v] ++ (fs.flatMap fileL ++ ds.flatMap depL)
def pkgS (n v : Int) (fs : List Fl) (ds : List Dp) : ByteArray := if pkgOk n v fs ds = true then strOfNums (pkgL n v fs ds) else strOfNums []
theorem str_empty : (⟨#[]⟩ : ByteArray) = strOfNums [] := rfl
/-- What ok numbers are. -/
theorem fileOk_range {l : List Fl} (h : filesOk l = true) : l.length ≤ 2 ∧ ∀ f ∈ l, (0 ≤ f.f0 ∧ f.f0 ≤ 5) ∧ (0 ≤ f.f1 ∧ f.f1 ≤ 9) := by
  unfold filesOk at h
  rw [Bool.and_eq_true, decide_eq_true_eq, allFrom_iff] at h
  refine ⟨h.2, fun f hf => ?_⟩
  obtain ⟨i, hi, rfl⟩ := List.getElem_of_mem hf
  have := h.1 i (Nat.zero_le _) (by omega)
  unfold fileOk1 at this
  rw [getD_of_lt hi] at this
  simp only [Bool.and_eq_true, inB_iff] at this
  exact ⟨this.1, this.2.1⟩
theorem depOk_range {n : Int} {l : List Dp} (h : depsOk n l = true) : l.length ≤ 2 ∧ ∀ d ∈ l, (1 ≤ d.f0 ∧ d.f0 ≤ 4) ∧ (1 ≤ d.f1 ∧ d.f1 ≤ 5) := by
  unfold depsOk at h
  rw [Bool.and_eq_true, decide_eq_true_eq, allFrom_iff] at h
  refine ⟨h.2, fun f hf => ?_⟩
  obtain ⟨i, hi, rfl⟩ := List.getElem_of_mem hf
  have := h.1 i (Nat.zero_le _) (by omega)
  unfold depOk1 at this
  rw [getD_of_lt hi] at this
  simp only [Bool.and_eq_true, inB_iff] at this
  exact ⟨this.1, this.2.2.1⟩
theorem pkgOk_range {n v : Int} {fs : List Fl} {ds : List Dp} (h : pkgOk n v fs ds = true) : (1 ≤ n ∧ n ≤ 4) ∧ (1 ≤ v ∧ v ≤ 5) ∧ (fs.length ≤ 2 ∧ ∀ f ∈ fs, (0 ≤ f.f0 ∧ f.f0 ≤ 5) ∧ (0 ≤ f.f1 ∧ f.f1 ≤ 9)) ∧ (ds.length ≤ 2 ∧ ∀ d ∈ ds, (1 ≤ d.f0 ∧ d.f0 ≤ 4) ∧ (1 ≤ d.f1 ∧ d.f1 ≤ 5)) := by
  unfold pkgOk at h
  simp only [Bool.and_eq_true, inB_iff] at h
  exact ⟨h.1, h.2.1, fileOk_range h.2.2.1, depOk_range h.2.2.2⟩
theorem flat_len {α : Type} (g : α → List Int) (k : Nat) (l : List α) (h : ∀ x ∈ l, (g x).length = k) : (l.flatMap g).length = k * l.length := by
  induction l with
  | nil => simp
  | cons x l ih =>
    rw [List.flatMap_cons, List.length_append, h x (by simp), ih (fun y hy => h y (by simp [hy])), List.length_cons, Nat.mul_succ]; omega
theorem pkgL_len (n v : Int) (fs : List Fl) (ds : List Dp) : (pkgL n v fs ds).length = 2 + 4 * fs.length + 3 * ds.length := by
  unfold pkgL
  rw [List.length_append, List.length_append, flat_len fileL 4 fs (fun _ _ => rfl), flat_len depL 3 ds (fun _ _ => rfl)]
  simp only [List.length_cons, List.length_nil]; omega
theorem pkgS_size (n v : Int) (fs : List Fl) (ds : List Dp) : (pkgS n v fs ds).size ≤ 16 := by
  unfold pkgS
  by_cases h : pkgOk n v fs ds = true
  · have := pkgOk_range h
    rw [if_pos h, strOfNums_size, pkgL_len]; omega
  · rw [if_neg h, strOfNums_size]; simp

-- spec_l71Pkgs
theorem l71Pkgs_q {b : List Int} (hb : BY b) (p : Int) (h0 : 0 ≤ p) (h1 : p ≤ 700000) : ∃ (l : List Pk) (p' : Int), Ev (fun k => spec_l71Pkgs.f k b p) (l, p') ∧ l.length ≤ 127 ∧ (∀ p ∈ l, pOk p = true) ∧ p ≤ p' ∧ p' ≤ p + 200 := by
  unfold spec_l71Pkgs.f
  have loop : ∀ d : Nat, d ≤ 7 → ∀ (l : List Pk) (p : Int), l.length + 1 ≤ 2 ^ (7 - d) → (∀ p ∈ l, pOk p = true) → 0 ≤ p → p + 22 * d ≤ 750000 → ∃ (l' : List Pk) (p' : Int), Ev (fun k => spec_l71Pkgs.l0 k l (d : Int) b p) (l', p') ∧ l'.length ≤ 127 ∧ (∀ p ∈ l', pOk p = true) ∧ p ≤ p' ∧ p' ≤ p + 22 * d := by
    intro d
    induction d with
    | zero =>
      intro _ l p hl hs hp hq
      refine ⟨l, p, Ev.down ?_, by simp at hl; omega, hs, by omega, by omega⟩
      simp only [spec_l71Pkgs.l0]
      exact Ev.neg (by omega) (Ev.now _)
    | succ d ih =>
      intro hd l p hl hs hp hq
      have pw : 2 ^ (7 - d) = 2 * 2 ^ (7 - (d + 1)) := by rw [show 7 - d = (7 - (d + 1)) + 1 by omega, Nat.pow_succ]; omega
      have pm : 2 ^ (7 - (d + 1)) ≤ 2 ^ 7 := Nat.pow_le_pow_right (by omega) (by omega)
      obtain ⟨u, hu, u0, u1⟩ := pick_v hb p 4 (by omega) (by omega) (by omega)
      obtain ⟨v, hv, v0, v1⟩ := pick_v hb (p + 1) 3 (by omega) (by omega) (by omega)
      obtain ⟨fs, ds, q, hq', f1, f2, q1, q2, o1, o2⟩ := l71Pkg_o hb (p + 1 + 1) (wrap64 (1 + u)) (wrap64 (1 + v)) (by omega) (by omega)
      obtain ⟨t, ht⟩ := l12Find_v l (wrap64 (1 + u)) (wrap64 (1 + v)) (by omega)
      have e : wrap64 (((d + 1 : Nat) : Int) - 1) = (d : Int) := by rw [w64 (by omega) (by omega)]; omega
      by_cases ct : t < 0
      · obtain ⟨l2, hl2, g1, g2⟩ := l12With_q (fun p => pOk p = true) l (wrap64 (1 + u)) (wrap64 (1 + v)) fs ds (by omega) hs (by
          rw [w64 (n := 1 + u) (by omega) (by omega), w64 (n := 1 + v) (by omega) (by omega)]
          unfold pOk pkgOk
          rw [inB_iff.2 (by dsimp only; omega), inB_iff.2 (by dsimp only; omega), o1]
          rw [w64 (n := 1 + u) (by omega) (by omega)] at o2
          rw [o2]; rfl)
        obtain ⟨l', p', hr, r1, r2, r3, r4⟩ := ih (by omega) l2 q (by omega) g2 (by omega) (by omega)
        refine ⟨l', p', Ev.down ?_, r1, r2, by omega, by omega⟩
        simp only [spec_l71Pkgs.l0]
        rw [e]
        exact Ev.pos (by omega) (Ev.bind hu (Ev.bind hv (Ev.bind hq' (Ev.bind ht (Ev.pos ct (Ev.bind hl2 hr))))))
      · obtain ⟨l', p', hr, r1, r2, r3, r4⟩ := ih (by omega) l q (by omega) hs (by omega) (by omega)
        refine ⟨l', p', Ev.down ?_, r1, r2, by omega, by omega⟩
        simp only [spec_l71Pkgs.l0]
        rw [e]
        exact Ev.pos (by omega) (Ev.bind hu (Ev.bind hv (Ev.bind hq' (Ev.bind ht (Ev.neg ct hr)))))
  obtain ⟨n, hn, n0, n1⟩ := pick_v hb p 8 (by omega) (by omega) (by omega)
  obtain ⟨m, rfl⟩ := Int.eq_ofNat_of_zero_le n0
  obtain ⟨l', p', hr, r1, r2, r3, r4⟩ := loop m (by omega) [] (p + 1) (by simpa using Nat.one_le_two_pow) (fun p hp => absurd hp (List.not_mem_nil)) (by omega) (by omega)
  exact ⟨l', p', Ev.bind hn hr, r1, r2, by omega, by omega⟩
theorem l71Pkgs_v {b : List Int} (hb : BY b) (p : Int) (h0 : 0 ≤ p) (h1 : p ≤ 700000) : ∃ (l : List Pk) (p' : Int), Ev (fun k => spec_l71Pkgs.f k b p) (l, p') ∧ l.length ≤ 127 ∧ Small l ∧ p ≤ p' ∧ p' ≤ p + 200 := by
  obtain ⟨l, p', h, k1, k2, k3, k4⟩ := l71Pkgs_q hb p h0 h1
  refine ⟨l, p', h, k1, fun q hq => ?_, k3, k4⟩
  obtain ⟨_, _, ⟨a, _⟩, c, _⟩ := pkgOk_range (k2 q hq)
  exact ⟨a, c⟩

-- spec_l6In
theorem l6In_v (a b c : Int) : spec_l6In.f a b c = some (decide (b ≤ a) && decide (a ≤ c)) := by
  unfold spec_l6In.f
  by_cases h : a ≥ b
  · rw [if_pos h]; simp; omega
  · rw [if_neg h]; simp; omega

-- spec_l1Files
theorem l1Files_v (l : List Fl) (hl : l.length ≤ 17592186044416) : Ev (fun k => spec_l1Files.f k l) (filesOk l) := by
  have e : l1f l = filesOk l := by
    unfold l1f filesOk
    have : ∀ d i, okFrom (file1 l) d i = allFrom (fileOk1 l) d i := by
      intro d
      induction d with
      | zero => intro i; rfl
      | succ d ih => intro i; show (_ && _) = (_ && _); rw [ih]; rfl
    rw [this]
  rw [← e]
  exact Ev.now _

-- spec_l1Deps
theorem l1Deps_v (name : Int) (l : List Dp) (hl : l.length ≤ 17592186044416) : Ev (fun k => spec_l1Deps.f k name l) (depsOk name l) := by
  have e : l1d name l = depsOk name l := by
    unfold l1d depsOk
    have : ∀ d i, okFrom (dep1 name l) d i = allFrom (depOk1 name l) d i := by
      intro d
      induction d with
      | zero => intro i; rfl
      | succ d ih => intro i; show (_ && _) = (_ && _); rw [ih]; rfl
    rw [this]
  rw [← e]
  exact Ev.now _

-- spec_PkgOk
theorem spec_PkgOk_v (n v : Int) (fs : List Fl) (ds : List Dp) (hf : fs.length ≤ 17592186044416) (hd : ds.length ≤ 17592186044416) : Ev (fun k => spec_PkgOk.f k n v fs ds) (pkgOk n v fs ds) := by
  have l6In_v : ∀ a b c : Int, spec_l6In.f a b c = some (inB a b c) := l6In_v
  unfold spec_PkgOk.f pkgOk
  refine Ev.bind (Ev.con (l6In_v _ _ _)) ?_
  cases inB n 1 4 with
  | false => exact Ev.neg (by simp) (Ev.now _)
  | true =>
    refine Ev.pos rfl (Ev.bind (Ev.con (l6In_v _ _ _)) ?_)
    cases inB v 1 5 with
    | false => exact Ev.neg (by simp) (Ev.now _)
    | true =>
      refine Ev.pos rfl (Ev.bind (l1Files_v fs hf) ?_)
      cases filesOk fs with
      | false => exact Ev.neg (by simp) (Ev.now _)
      | true => exact Ev.pos rfl (Ev.bind (l1Deps_v n ds hd) (Ev.eq (by simp)))

-- spec_l3Pkgs
-- (printed with HEAVY=2: with the join j1)
theorem l3Pkgs_v (l : List Pk) (hl : l.length ≤ 17592186044416) (hF : Fit l) : Ev (fun k => spec_l3Pkgs.f k l) (storeOk l) := by
  unfold spec_l3Pkgs.f
  have bad : ∀ i : Int, Ev (fun k => spec_l3Pkgs.j1 k l i true) false := fun i => by
    refine Ev.down ?_
    simp only [spec_l3Pkgs.j1]
    exact Ev.pos trivial (Ev.now _)
  have good : ∀ (i : Nat) (r : Bool), i < l.length → Ev (fun k => spec_l3Pkgs.l0 k l ((i + 1 : Nat) : Int)) r → Ev (fun k => spec_l3Pkgs.j1 k l (i : Int) false) r := fun i r hi hr => by
    refine Ev.down ?_
    simp only [spec_l3Pkgs.j1]
    rw [w64 (n := (i : Int) + 1) (by omega) (by omega)]
    exact Ev.neg (by simp) hr
  refine check_loop (F := fun k i => spec_l3Pkgs.l0 k l i) (p := storeOk1 l) (n := l.length) ?_ ?_ ?_ l.length 0 (by omega)
  · refine Ev.down ?_
    simp only [spec_l3Pkgs.l0]
    exact Ev.neg (by omega) (Ev.now _)
  · intro i hi hp r hr
    obtain ⟨f1, f2⟩ := hF.get hi
    unfold storeOk1 pOk at hp
    simp only [Bool.and_eq_true, Bool.or_eq_true, beq_iff_eq] at hp
    obtain ⟨h1, h2⟩ := hp
    refine Ev.down ?_
    simp only [spec_l3Pkgs.l0]
    rw [rdP_nat]
    refine Ev.pos (by omega) (Ev.pos (by omega) (Ev.bind (spec_PkgOk_v _ _ _ _ (by omega) (by omega)) (Ev.pos h1 ?_)))
    by_cases h0 : i = 0
    · exact Ev.neg (by omega) (good i r hi hr)
    · refine Ev.pos (by omega) ?_
      rw [w64 (n := (i : Int) - 1) (by omega) (by omega)]
      refine Ev.pos (by omega) (Ev.pos (by omega) (Ev.bind (Ev.con (l3Less_v _ _ _ _)) ?_))
      rw [show (i : Int) - 1 = ((i - 1 : Nat) : Int) by omega, rdP_nat, h2.resolve_left h0]
      exact good i r hi hr
  · intro i hi hp
    obtain ⟨f1, f2⟩ := hF.get hi
    unfold storeOk1 pOk at hp
    refine Ev.down ?_
    simp only [spec_l3Pkgs.l0]
    rw [rdP_nat]
    refine Ev.pos (by omega) (Ev.pos (by omega) (Ev.bind (spec_PkgOk_v _ _ _ _ (by omega) (by omega)) ?_))
    cases h1 : pkgOk (l.getD i z29).f0 (l.getD i z29).f1 (l.getD i z29).f2 (l.getD i z29).f3 with
    | false => exact Ev.neg (by simp) (bad _)
    | true =>
      rw [h1] at hp
      simp only [Bool.true_and, Bool.or_eq_false_iff, beq_eq_false_iff_ne] at hp
      refine Ev.pos rfl (Ev.pos (by omega) ?_)
      rw [w64 (n := (i : Int) - 1) (by omega) (by omega)]
      refine Ev.pos (by omega) (Ev.pos (by omega) (Ev.bind (Ev.con (l3Less_v _ _ _ _)) ?_))
      rw [show (i : Int) - 1 = ((i - 1 : Nat) : Int) by omega, rdP_nat, hp.2]
      exact bad _

-- spec_l6Dec
/-- One figure. -/
theorem l6Dec_1 (n : Int) (h0 : 0 ≤ n) (h1 : n ≤ 9) : Ev (fun k => spec_l6Dec.f k n) (strOfNums [48 + n]) := by
  refine Ev.down ?_
  simp only [spec_l6Dec.f]
  refine Ev.neg (by omega) (Ev.neg (by omega) (Ev.pos (by omega) (Ev.eq ?_)))
  rw [w64 (by omega) (by omega), Int.emod_eq_of_lt (by omega) (by omega)]

-- spec_l1Name
theorem l1Name_v (a v : Int) (h0 : 0 ≤ a) (h1 : a ≤ 9) (h2 : 0 ≤ v) (h3 : v ≤ 9) : Ev (fun k => spec_l1Name.f k a v) (strOfNums [96 + a, 48 + v]) := by
  unfold spec_l1Name.f
  refine Ev.bind (f := fun k y => _) (Ev.now _) (Ev.bind (l6Dec_1 v h2 h3) (Ev.pos (by rw [strOfNums_size, strOfNums_size]; simp) (Ev.eq ?_)))
  rw [str_append, w64 (n := 97 + a) (by omega) (by omega), w64 (by omega) (by omega), Int.emod_eq_of_lt (by omega) (by omega), show 97 + a - 1 = 96 + a by omega]
  rfl

-- spec_PkgText
theorem spec_PkgText_v (n v : Int) (fs : List Fl) (ds : List Dp) (hf : fs.length ≤ 17592186044416) (hd : ds.length ≤ 17592186044416) : Ev (fun k => spec_PkgText.f k n v fs ds) (pkgS n v fs ds) := by
  unfold spec_PkgText.f pkgS
  refine Ev.bind (spec_PkgOk_v n v fs ds hf hd) ?_
  cases ok : pkgOk n v fs ds with
  | false => exact Ev.neg (by simp) (Ev.eq rfl)
  | true =>
    obtain ⟨⟨n0, n1⟩, ⟨v0, v1⟩, ⟨lf, rf⟩, ⟨ld, rd_⟩⟩ := pkgOk_range ok
    refine Ev.pos rfl (Ev.bind (l1Name_v n v (by omega) (by omega) (by omega) (by omega)) ?_)
    rw [if_pos rfl]
    have deps : ∀ d i : Nat, i + d = ds.length → ∀ acc : List Int, acc.length ≤ 100 + 3 * i → Ev (fun k => spec_PkgText.l1 k (strOfNums acc) (i : Int) n v fs ds) (strOfNums (acc ++ (ds.drop i).flatMap depL)) := by
      intro d
      induction d with
      | zero =>
        intro i hi acc ha
        refine Ev.down ?_
        simp only [spec_PkgText.l1]
        refine Ev.neg (by omega) (Ev.eq ?_)
        rw [List.drop_of_length_le (by omega)]; simp
      | succ d ih =>
        intro i hi acc ha
        have hil : i < ds.length := by omega
        have hr := ih (i + 1) (by omega) (acc ++ depL ds[i]) (by rw [List.length_append]; simp only [depL, List.length_cons, List.length_nil]; omega)
        obtain ⟨⟨a0, a1⟩, ⟨b0, b1⟩⟩ := rd_ ds[i] (List.getElem_mem _)
        refine Ev.down ?_
        simp only [spec_PkgText.l1]
        rw [rdD_nat, getD_of_lt hil, show (⟨#[32]⟩ : ByteArray) = strOfNums [32] from rfl, str_append]
        refine Ev.pos (by omega) (Ev.pos (by rw [strOfNums_size]; omega) (Ev.pos (by omega) (Ev.bind (l1Name_v _ _ (by omega) (by omega) (by omega) (by omega)) (Ev.pos (by rw [strOfNums_size, strOfNums_size, List.length_append]; simp only [List.length_cons, List.length_nil]; omega) ?_))))
        rw [str_append, w64 (by omega) (by omega), List.drop_eq_getElem_cons hil, List.flatMap_cons, ← List.append_assoc]
        have e : acc ++ [32] ++ [96 + ds[i].f0, 48 + ds[i].f1] = acc ++ depL ds[i] := by simp [depL]
        rw [e]
        exact hr
    have files : ∀ d i : Nat, i + d = fs.length → ∀ acc : List Int, acc.length ≤ 50 + 4 * i → Ev (fun k => spec_PkgText.l0 k (strOfNums acc) (i : Int) n v fs ds) (strOfNums (acc ++ ((fs.drop i).flatMap fileL ++ ds.flatMap depL))) := by
      intro d
      induction d with
      | zero =>
        intro i hi acc ha
        refine Ev.down ?_
        simp only [spec_PkgText.l0]
        refine Ev.neg (by omega) ?_
        rw [List.drop_of_length_le (by omega)]
        have := deps ds.length 0 (by omega) acc (by omega)
        simpa using this
      | succ d ih =>
        intro i hi acc ha
        have hil : i < fs.length := by omega
        have hr := ih (i + 1) (by omega) (acc ++ fileL fs[i]) (by rw [List.length_append]; simp only [fileL, List.length_cons, List.length_nil]; omega)
        obtain ⟨⟨a0, a1⟩, ⟨b0, b1⟩⟩ := rf fs[i] (List.getElem_mem _)
        refine Ev.down ?_
        simp only [spec_PkgText.l0]
        rw [rdF_nat, getD_of_lt hil, show (⟨#[32]⟩ : ByteArray) = strOfNums [32] from rfl, show (⟨#[58]⟩ : ByteArray) = strOfNums [58] from rfl, str_append]
        refine Ev.pos (by omega) (Ev.pos (by rw [strOfNums_size]; omega) (Ev.pos (by omega) (Ev.bind (l6Dec_1 _ (by omega) (by omega)) ?_)))
        rw [str_append, str_append]
        refine Ev.pos (by rw [strOfNums_size, strOfNums_size, List.length_append]; simp only [List.length_cons, List.length_nil]; omega) (Ev.pos (by rw [strOfNums_size, List.length_append, List.length_append]; simp only [List.length_cons, List.length_nil]; omega) (Ev.bind (l6Dec_1 _ (by omega) (by omega)) ?_))
        refine Ev.pos (by rw [strOfNums_size, strOfNums_size]; simp only [List.length_append, List.length_cons, List.length_nil]; omega) ?_
        rw [str_append, w64 (by omega) (by omega), List.drop_eq_getElem_cons hil, List.flatMap_cons]
        have e : acc ++ [32] ++ [48 + fs[i].f0] ++ [58] ++ [48 + fs[i].f1] = acc ++ fileL fs[i] := by simp [fileL]
        rw [e, List.append_assoc (fileL fs[i]), ← List.append_assoc acc]
        exact hr
    exact files fs.length 0 (by omega) [96 + n, 48 + v] (by simp)

-- summ
def sum1 (n b : Int) : Int := (31 * n + b + 1) % 9973
def sumFrom (n : Int) (l : List Int) : Int := l.foldl sum1 n
def sumL (l : List Int) : Int := sumFrom 7 l
theorem sum1_range (n b : Int) : 0 ≤ sum1 n b ∧ sum1 n b < 9973 := by unfold sum1; omega
theorem sumFrom_range {n : Int} (l : List Int) (h : 0 ≤ n ∧ n < 9973) : 0 ≤ sumFrom n l ∧ sumFrom n l < 9973 := by
  unfold sumFrom
  induction l generalizing n with
  | nil => exact h
  | cons b l ih => exact ih (sum1_range n b)
theorem sumFrom_append (n : Int) (a b : List Int) : sumFrom n (a ++ b) = sumFrom (sumFrom n a) b := List.foldl_append
theorem sum1_inj {n m b : Int} (hn : 0 ≤ n ∧ n < 9973) (hm : 0 ≤ m ∧ m < 9973) (h : sum1 n b = sum1 m b) : n = m := by unfold sum1 at h; omega
theorem sumFrom_inj {n m : Int} (l : List Int) (hn : 0 ≤ n ∧ n < 9973) (hm : 0 ≤ m ∧ m < 9973) (h : sumFrom n l = sumFrom m l) : n = m := by
  unfold sumFrom at h
  induction l generalizing n m with
  | nil => exact h
  | cons b l ih => exact sum1_inj hn hm (ih (sum1_range n b) (sum1_range m b) h)
/-- One byte changed is found. -/
theorem sumL_byte (p q : List Int) {c d : Int} (hc : 0 ≤ c ∧ c ≤ 255) (hd : 0 ≤ d ∧ d ≤ 255) (h : c ≠ d) : sumL (p ++ [c] ++ q) ≠ sumL (p ++ [d] ++ q) := by
  intro e
  unfold sumL at e
  rw [sumFrom_append, sumFrom_append, sumFrom_append, sumFrom_append] at e
  have e2 := sumFrom_inj q (sumFrom_range [c] (sumFrom_range p (by omega))) (sumFrom_range [d] (sumFrom_range p (by omega))) e
  have := sumFrom_range p (n := 7) (by omega)
  simp only [sumFrom, List.foldl_cons, List.foldl_nil] at e2 this
  unfold sum1 at e2
  omega

-- spec_SumOf
theorem spec_SumOf_v (s : ByteArray) (hs : s.size ≤ 140737488351232) : Ev (fun k => spec_SumOf.f k s) (sumL (bytesOf s)) := by
  unfold spec_SumOf.f
  have hl := bytesOf_length s
  have key : ∀ d i : Nat, i + d = s.size → Ev (fun k => spec_SumOf.l0 k s (sumL ((bytesOf s).take i)) (i : Int)) (sumL (bytesOf s)) := by
    intro d
    induction d with
    | zero =>
      intro i hi
      refine Ev.down ?_
      simp only [spec_SumOf.l0]
      refine Ev.neg (by omega) (Ev.eq ?_)
      rw [List.take_of_length_le (by omega)]
    | succ d ih =>
      intro i hi
      have hr := ih (i + 1) (by omega)
      have hn := sumFrom_range (n := 7) ((bytesOf s).take i) (by omega)
      have hb := bt_range s i
      have e : bt s i = (bytesOf s)[i]'(by omega) := by rw [← rd_bytesOf, rd_nat, getD_of_lt (by omega)]
      rw [List.take_succ_eq_append_getElem (by omega), ← e] at hr
      unfold sumL at hr ⊢
      rw [sumFrom_append] at hr
      refine Ev.down ?_
      simp only [spec_SumOf.l0]
      refine Ev.pos (by omega) (Ev.pos (by omega) ?_)
      rw [w64 (n := bt s i) (by omega) (by omega), w64 (n := 31 * _) (by omega) (by omega), w64 (n := 31 * _ + _) (by omega) (by omega), w64 (n := _ + 1) (by omega) (by omega), w64 (n := (i : Int) + 1) (by omega) (by omega), Int.tmod_eq_emod_of_nonneg (by omega)]
      exact hr
  exact key s.size 0 (by omega)

-- keys
/-! Keys. -/
def kOk1 (l : List Int) (i : Nat) : Bool := (decide (1 ≤ l.getD i 0) && decide (l.getD i 0 ≤ 6)) && (i == 0 || decide (l.getD (i - 1) 0 < l.getD i 0))
/-- The keys are ok: 1 to 6, ascending. -/
def keysOk (l : List Int) : Bool := allFrom (kOk1 l) l.length 0
def KOk (l : List Int) : Prop := l.Pairwise (· < ·) ∧ ∀ x ∈ l, 1 ≤ x ∧ x ≤ 6
theorem kOk1_iff {l : List Int} {i : Nat} : kOk1 l i = true ↔ (1 ≤ l.getD i 0 ∧ l.getD i 0 ≤ 6) ∧ (i = 0 ∨ l.getD (i - 1) 0 < l.getD i 0) := by
  simp [kOk1]
/-- From one to the next ascending is ascending. -/
theorem asc_of_next {l : List Int} (h : ∀ i, 0 < i → i < l.length → l.getD (i - 1) 0 < l.getD i 0) : ∀ j i, i < j → j < l.length → l.getD i 0 < l.getD j 0 := by
  intro j
  induction j with
  | zero => intro i h1; omega
  | succ j ih =>
    intro i h1 h2
    have hj := h (j + 1) (by omega) h2
    simp only [Nat.add_sub_cancel] at hj
    rcases Nat.eq_or_lt_of_le (Nat.le_of_lt_succ h1) with e | e
    · rw [e]; exact hj
    · have := ih i e (by omega); omega
theorem keysOk_iff {l : List Int} : keysOk l = true ↔ KOk l := by
  unfold keysOk KOk
  rw [allFrom_iff]
  constructor
  · intro h
    have h' : ∀ j, j < l.length → _ := fun j hj => kOk1_iff.1 (h j (Nat.zero_le _) (by omega))
    refine ⟨?_, ?_⟩
    · rw [List.pairwise_iff_getElem]
      intro i j hi hj hij
      have := asc_of_next (fun i hi0 hi => (h' i hi).2.resolve_left (by omega)) j i hij hj
      rwa [getD_of_lt hi, getD_of_lt hj] at this
    · intro x hx
      obtain ⟨i, hi, rfl⟩ := List.getElem_of_mem hx
      have := (h' i hi).1
      rwa [getD_of_lt hi] at this
  · rintro ⟨h1, h2⟩ j - hj
    have hj : j < l.length := by omega
    rw [kOk1_iff]
    refine ⟨?_, ?_⟩
    · rw [getD_of_lt hj]; exact h2 _ (List.getElem_mem _)
    · rcases Nat.eq_zero_or_pos j with e | e
      · exact .inl e
      · refine .inr ?_
        rw [getD_of_lt hj, getD_of_lt (by omega)]
        exact List.pairwise_iff_getElem.1 h1 _ _ _ _ (by omega)
instance (l : List Int) : Decidable (KOk l) := decidable_of_iff _ keysOk_iff
/-- How many of a are in b. -/
def bothN (a b : List Int) : Nat := (a.filter (fun x => b.contains x)).length
def both (a b : List Int) : Int := if keysOk a = true ∧ keysOk b = true then (bothN a b : Int) else -1
theorem bothN_le (a b : List Int) : bothN a b ≤ a.length := List.length_filter_le _ _
/-- All ok keys. -/
def allKeys : List (List Int) := [1, 2, 3, 4, 5, 6].foldr (fun x ls => ls.map (x :: ·) ++ ls) [[]]
theorem asc_mem : ∀ (us : List Int) (l : List Int), us.Pairwise (· < ·) → l.Pairwise (· < ·) → (∀ x ∈ l, x ∈ us) → l ∈ us.foldr (fun x ls => ls.map (x :: ·) ++ ls) [[]]
  | [], l, _, _, h => by
    cases l with
    | nil => simp
    | cons a l => have := h a (by simp); simp at this
  | u :: us, l, hu, hl, h => by
    simp only [List.foldr_cons, List.mem_append, List.mem_map]
    rw [List.pairwise_cons] at hu
    cases l with
    | nil => exact .inr (asc_mem us [] hu.2 List.Pairwise.nil (by simp))
    | cons a l =>
      rw [List.pairwise_cons] at hl
      by_cases e : a = u
      · subst e
        refine .inl ⟨l, asc_mem us l hu.2 hl.2 (fun x hx => ?_), rfl⟩
        have h1 := hl.1 x hx
        have h2 := h x (by simp [hx])
        simp only [List.mem_cons] at h2
        rcases h2 with h2 | h2
        · omega
        · exact h2
      · refine .inr (asc_mem us (a :: l) hu.2 (List.pairwise_cons.2 hl) (fun x hx => ?_))
        have h2 := h x hx
        simp only [List.mem_cons] at h2 hx
        rcases h2 with h2 | h2
        · exfalso
          have ha := h a (by simp)
          simp only [List.mem_cons] at ha
          rcases ha with ha | ha
          · exact e ha
          · have := hu.1 a ha
            rcases hx with hx | hx
            · omega
            · have := hl.1 x hx; omega
        · exact h2
theorem mem_allKeys {l : List Int} (h : KOk l) : l ∈ allKeys := by
  refine asc_mem [1, 2, 3, 4, 5, 6] l (by decide) h.1 (fun x hx => ?_)
  have := h.2 x hx
  simp only [List.mem_cons, List.not_mem_nil, or_false]
  omega
theorem KOk.len {l : List Int} (h : KOk l) : l.length ≤ 6 := by
  have : ∀ l ∈ allKeys, l.length ≤ 6 := by decide
  exact this l (mem_allKeys h)
theorem KOk.nodup {l : List Int} (h : KOk l) : l.Nodup := h.1.imp (fun h => by omega)

-- metam
/-! What an index tells. -/
abbrev Mt := S100
instance : DecidableEq S100 := fun x y => decidable_of_iff (x.f0 = y.f0 ∧ x.f1 = y.f1 ∧ x.f2 = y.f2) (by obtain ⟨a, b, c⟩ := x; obtain ⟨d, e, f⟩ := y; simp)
theorem rdM_nat (l : List Mt) (i : Nat) : rd_T100 l (i : Int) = l.getD i z100 := by unfold rd_T100; rw [Int.toNat_natCast]
def metaOk1 (l : List Mt) (i : Nat) : Bool := (inB (l.getD i z100).f0 1 4 && (inB (l.getD i z100).f1 1 5 && inB (l.getD i z100).f2 0 9972)) &&
  (i == 0 || lessB (l.getD (i - 1) z100).f0 (l.getD (i - 1) z100).f1 (l.getD i z100).f0 (l.getD i z100).f1)
def metasOk (l : List Mt) : Bool := allFrom (metaOk1 l) l.length 0
def indexOk (num till : Int) (l : List Mt) : Bool := (inB num 1 30 && (inB till 0 60 && decide (l.length ≤ 8))) && metasOk l

-- spec_IndexOk
theorem spec_IndexOk_v (num till : Int) (l : List Mt) (hl : l.length ≤ 17592186044416) : Ev (fun k => spec_IndexOk.f k num till l) (indexOk num till l) := by
  have l6In_v : ∀ a b c : Int, spec_l6In.f a b c = some (inB a b c) := l6In_v
  unfold spec_IndexOk.f indexOk
  have no : Ev (fun k => spec_IndexOk.j0 k true num till l) false := by
    refine Ev.down ?_
    simp only [spec_IndexOk.j0]
    exact Ev.pos trivial (Ev.now _)
  have nope : ∀ i : Int, ∀ a b c, Ev (fun k => spec_IndexOk.j2 k i true num till l a b c) false := by
    intro i a b c
    refine Ev.down ?_
    simp only [spec_IndexOk.j2]
    exact Ev.pos trivial (Ev.now _)
  have loop : Ev (fun k => spec_IndexOk.l0 k 0 num till l) (metasOk l) := by
    refine check_loop (F := fun k i => spec_IndexOk.l0 k i num till l) (p := metaOk1 l) (n := l.length) ?_ ?_ ?_ l.length 0 (by omega)
    · refine Ev.down ?_
      simp only [spec_IndexOk.l0]
      exact Ev.neg (by omega) (Ev.now _)
    · intro i hi hp r hr
      unfold metaOk1 at hp
      simp only [Bool.and_eq_true, Bool.or_eq_true, beq_iff_eq] at hp
      obtain ⟨⟨h1, h2, h3⟩, h4⟩ := hp
      refine Ev.down ?_
      simp only [spec_IndexOk.l0]
      rw [rdM_nat]
      refine Ev.pos (by omega) (Ev.pos (by omega) (Ev.bind (Ev.con (l6In_v _ _ _)) (Ev.pos h1 (Ev.bind (Ev.con (l6In_v _ _ _)) (Ev.pos h2 (Ev.bind (Ev.con (l6In_v _ _ _)) ?_))))))
      rw [h3]
      refine Ev.down ?_
      simp only [spec_IndexOk.j2]
      refine Ev.neg (by simp) ?_
      rw [w64 (n := (i : Int) + 1) (by omega) (by omega)]
      by_cases h0 : i = 0
      · exact Ev.neg (by omega) hr
      · refine Ev.pos (by omega) ?_
        rw [w64 (n := (i : Int) - 1) (by omega) (by omega)]
        refine Ev.pos (by omega) (Ev.pos (by omega) (Ev.bind (Ev.con (l3Less_v _ _ _ _)) ?_))
        rw [show (i : Int) - 1 = ((i - 1 : Nat) : Int) by omega, rdM_nat]
        exact Ev.pos (h4.resolve_left h0) hr
    · intro i hi hp
      unfold metaOk1 at hp
      refine Ev.down ?_
      simp only [spec_IndexOk.l0]
      rw [rdM_nat]
      refine Ev.pos (by omega) (Ev.pos (by omega) (Ev.bind (Ev.con (l6In_v _ _ _)) ?_))
      cases h1 : inB (l.getD i z100).f0 1 4 with
      | false => exact Ev.neg (by simp) (nope _ _ _ _)
      | true =>
        refine Ev.pos (by simp) (Ev.bind (Ev.con (l6In_v _ _ _)) ?_)
        cases h2 : inB (l.getD i z100).f1 1 5 with
        | false => exact Ev.neg (by simp) (nope _ _ _ _)
        | true =>
          refine Ev.pos (by simp) (Ev.bind (Ev.con (l6In_v _ _ _)) ?_)
          cases h3 : inB (l.getD i z100).f2 0 9972 with
          | false => exact nope _ _ _ _
          | true =>
            rw [h1, h2, h3] at hp
            simp only [Bool.and_self, Bool.true_and, Bool.or_eq_false_iff, beq_eq_false_iff_ne] at hp
            refine Ev.down ?_
            simp only [spec_IndexOk.j2]
            refine Ev.neg (by simp) (Ev.pos (by omega) ?_)
            rw [w64 (n := (i : Int) - 1) (by omega) (by omega)]
            refine Ev.pos (by omega) (Ev.pos (by omega) (Ev.bind (Ev.con (l3Less_v _ _ _ _)) ?_))
            rw [show (i : Int) - 1 = ((i - 1 : Nat) : Int) by omega, rdM_nat]
            exact Ev.neg (by rw [hp.2]; simp) (Ev.now _)
  refine Ev.bind (Ev.con (l6In_v _ _ _)) ?_
  cases h1 : inB num 1 30 with
  | false => exact Ev.neg (by simp) no
  | true =>
    refine Ev.pos (by simp) (Ev.bind (Ev.con (l6In_v _ _ _)) ?_)
    cases h2 : inB till 0 60 with
    | false => exact Ev.neg (by simp) no
    | true =>
      refine Ev.pos (by simp) ?_
      by_cases h3 : l.length ≤ 8
      · rw [decide_eq_false (show ¬ ((l.length : Int) > 8) by omega), decide_eq_true h3]
        refine Ev.down ?_
        simp only [spec_IndexOk.j0]
        exact Ev.neg (by simp) loop
      · rw [decide_eq_true (show ((l.length : Int) > 8) by omega), decide_eq_false h3]
        exact no

-- spec_IndexOf
theorem IndexOf_v (num till : Int) (l : List Pk) (hl : l.length ≤ 1000) (hF : Small l) : ∃ (a b : Int) (ms : List Mt) (told : Bool), Ev (fun k => spec_IndexOf.f k num till l) (a, b, ms, told) ∧ ms.length ≤ l.length := by
  unfold spec_IndexOf.f
  have loop : ∀ d i : Nat, i + d = l.length → ∀ ms : List Mt, ms.length ≤ i → ∃ (a b : Int) (ms' : List Mt) (told : Bool), Ev (fun k => spec_IndexOf.l0 k l (i : Int) num till ms) (a, b, ms', told) ∧ ms'.length ≤ l.length := by
    intro d
    induction d with
    | zero =>
      intro i hi ms hm
      cases c : indexOk num till ms with
      | true =>
        refine ⟨num, till, ms, true, Ev.down ?_, by omega⟩
        simp only [spec_IndexOf.l0]
        exact Ev.neg (by omega) (Ev.bind (spec_IndexOk_v num till ms (by omega)) (Ev.pos c (Ev.now _)))
      | false =>
        refine ⟨0, 0, [], false, Ev.down ?_, Nat.zero_le _⟩
        simp only [spec_IndexOf.l0]
        exact Ev.neg (by omega) (Ev.bind (spec_IndexOk_v num till ms (by omega)) (Ev.neg (by rw [c]; simp) (Ev.now _)))
    | succ d ih =>
      intro i hi ms hm
      have e : wrap64 ((i : Int) + 1) = ((i + 1 : Nat) : Int) := by rw [w64 (by omega) (by omega)]; rfl
      have sm := hF.get (i := i) (by omega)
      have sz := pkgS_size (l.getD i z29).f0 (l.getD i z29).f1 (l.getD i z29).f2 (l.getD i z29).f3
      obtain ⟨a, b, ms', told, hr, r1⟩ := ih (i + 1) (by omega) (ms ++ [⟨(l.getD i z29).f0, (l.getD i z29).f1, sumL (bytesOf (pkgS (l.getD i z29).f0 (l.getD i z29).f1 (l.getD i z29).f2 (l.getD i z29).f3))⟩]) (by rw [List.length_append, List.length_singleton]; omega)
      refine ⟨a, b, ms', told, Ev.down ?_, r1⟩
      simp only [spec_IndexOf.l0]
      rw [e, rdP_nat]
      exact Ev.pos (by omega) (Ev.pos (by omega) (Ev.bind (spec_PkgText_v _ _ _ _ (by omega) (by omega)) (Ev.bind (spec_SumOf_v _ (by omega)) (Ev.pos (by omega) hr))))
  cases c : storeOk l with
  | true =>
    obtain ⟨a, b, ms, told, hr, r1⟩ := loop l.length 0 (by omega) [] (Nat.zero_le _)
    exact ⟨a, b, ms, told, Ev.bind (l3Pkgs_v l (by omega) hF.fit) (Ev.pos c hr), r1⟩
  | false => exact ⟨0, 0, [], false, Ev.bind (l3Pkgs_v l (by omega) hF.fit) (Ev.neg (by rw [c]; simp) (Ev.now _)), Nat.zero_le _⟩

-- spec_l71Index
theorem l71Index_v {b : List Int} (hb : BY b) (p : Int) (h0 : 0 ≤ p) (h1 : p ≤ 600000) : ∃ (n u : Int) (ms : List Mt) (p' : Int), Ev (fun k => spec_l71Index.f k b p) (n, u, ms, p') ∧ ms.length ≤ 128 ∧ p ≤ p' ∧ p' ≤ p + 300 := by
  unfold spec_l71Index.f
  obtain ⟨v, hv, v0, v1⟩ := pick_v hb p 6 (by omega) (by omega) (by omega)
  obtain ⟨u, hu, u0, u1⟩ := pick_v hb (p + 1) 12 (by omega) (by omega) (by omega)
  obtain ⟨l, q, hq, l1, l2, q1, q2⟩ := l71Pkgs_v hb (p + 1 + 1) (by omega) (by omega)
  obtain ⟨x, y, ms, told, ho, m1⟩ := IndexOf_v (wrap64 (1 + v)) u l (by omega) l2
  obtain ⟨t, ht, t0, t1⟩ := pick_v hb q 16 (by omega) (by omega) (by omega)
  by_cases e0 : t = 0
  · obtain ⟨s, hs, s0, s1⟩ := pick_v hb (q + 1) 3 (by omega) (by omega) (by omega)
    exact ⟨_, y, ms, q + 1 + 1, Ev.bind hv (Ev.bind hu (Ev.bind hq (Ev.bind ho (Ev.bind ht (Ev.pos e0 (Ev.bind (f := fun k y => _) (Ev.now _) (Ev.bind hs (Ev.pos s0 (Ev.pos (by simp; omega) (Ev.now _)))))))))), by omega, by omega, by omega⟩
  · by_cases e1 : t = 1
    · obtain ⟨s, hs, s0, s1⟩ := pick_v hb (q + 1) 3 (by omega) (by omega) (by omega)
      exact ⟨x, _, ms, q + 1 + 1, Ev.bind hv (Ev.bind hu (Ev.bind hq (Ev.bind ho (Ev.bind ht (Ev.neg e0 (Ev.pos e1 (Ev.bind (f := fun k y => _) (Ev.now _) (Ev.bind hs (Ev.pos s0 (Ev.pos (by simp; omega) (Ev.now _))))))))))), by omega, by omega, by omega⟩
    · by_cases e2 : t = 2
      · obtain ⟨s, hs, s0, s1⟩ := pick_v hb (q + 1) 4 (by omega) (by omega) (by omega)
        obtain ⟨s', hs', _, _⟩ := pick_v hb (q + 1 + 1) 4 (by omega) (by omega) (by omega)
        obtain ⟨s2, hs2, _, _⟩ := pick_v hb (q + 1 + 1 + 1) 9973 (by omega) (by omega) (by omega)
        exact ⟨x, y, _, q + 1 + 1 + 1 + 1, Ev.bind hv (Ev.bind hu (Ev.bind hq (Ev.bind ho (Ev.bind ht (Ev.neg e0 (Ev.neg e1 (Ev.pos e2 (Ev.bind hs (Ev.bind hs' (Ev.bind hs2 (Ev.pos (by dsimp only; omega) (Ev.now _)))))))))))), by (simp only [List.length_append, List.length_singleton]; omega), by omega, by omega⟩
      · exact ⟨x, y, ms, q + 1, Ev.bind hv (Ev.bind hu (Ev.bind hq (Ev.bind ho (Ev.bind ht (Ev.neg e0 (Ev.neg e1 (Ev.neg e2 (Ev.now _)))))))), by omega, by omega, by omega⟩

-- spec_l71Trust
theorem l71Trust_v {b : List Int} (hb : BY b) (p : Int) (h0 : 0 ≤ p) (h1 : p ≤ 500000) : ∃ (num : Int) (ks : List Int) (need : Int) (has : Bool) (n u : Int) (ms : List Mt) (ps : List Pk) (p' : Int), Ev (fun k => spec_l71Trust.f k b p) (num, ks, need, has, n, u, ms, ps, p') ∧ ks.length ≤ 7 ∧ ms.length ≤ 128 ∧ p ≤ p' ∧ p' ≤ p + 1000 := by
  have join : ∀ (ps : List Pk) (num : Int) (ks : List Int) (need : Int) (has : Bool) (n u : Int) (ms : List Mt) (p : Int), ms.length ≤ 128 → 0 ≤ p → p ≤ 600000 - 10 → ∃ (has' : Bool) (n' u' : Int) (ms' : List Mt) (p' : Int), Ev (fun k => spec_l71Trust.j0 k ps b p num ks need has n u ms) (num, ks, need, has', n', u', ms', ps, p') ∧ ms'.length ≤ 128 ∧ p ≤ p' ∧ p' ≤ p + 400 := by
    intro ps num ks need has n u ms p hm h0 h1
    obtain ⟨t, ht, t0, t1⟩ := pick_v hb p 24 h0 (by omega) (by omega)
    by_cases e : t = 0
    · refine ⟨!has, n, u, ms, p + 1, Ev.down ?_, hm, by omega, by omega⟩
      simp only [spec_l71Trust.j0]
      exact Ev.bind ht (Ev.pos e (Ev.now _))
    · by_cases e2 : t = 1
      · obtain ⟨n', u', ms', q, hq, k1, k2, k3⟩ := l71Index_v hb (p + 1) (by omega) (by omega)
        refine ⟨has, n', u', ms', q, Ev.down ?_, k1, by omega, by omega⟩
        simp only [spec_l71Trust.j0]
        exact Ev.bind ht (Ev.neg e (Ev.pos e2 (Ev.bind hq (Ev.now _))))
      · refine ⟨has, n, u, ms, p + 1, Ev.down ?_, hm, by omega, by omega⟩
        simp only [spec_l71Trust.j0]
        exact Ev.bind ht (Ev.neg e (Ev.neg e2 (Ev.now _)))
  obtain ⟨num, ks, need, q, hr, k1, k2, n1, n2, d1, d2, p1, p2⟩ := l71Root_v hb p h0 (by omega)
  obtain ⟨ps, q2, hp, l1, l2, q3, q4⟩ := l71Pkgs_v hb q (by omega) (by omega)
  obtain ⟨c, hc, c0, c1⟩ := pick_v hb q2 5 (by omega) (by omega) (by omega)
  unfold spec_l71Trust.f
  by_cases e : c > 0
  · obtain ⟨v, hv, v0, v1⟩ := pick_v hb (q2 + 1) 4 (by omega) (by omega) (by omega)
    obtain ⟨u, hu, u0, u1⟩ := pick_v hb (q2 + 1 + 1) 12 (by omega) (by omega) (by omega)
    obtain ⟨x, y, ms, told, ho, m1⟩ := IndexOf_v (wrap64 (1 + v)) u ps (by omega) l2
    obtain ⟨has', n', u', ms', p', g, a1, a2, a3⟩ := join ps num ks need true x y ms (q2 + 1 + 1 + 1) (by omega) (by omega) (by omega)
    exact ⟨num, ks, need, has', n', u', ms', ps, p', Ev.bind hr (Ev.bind hp (Ev.bind hc (Ev.pos e (Ev.bind hv (Ev.bind hu (Ev.bind ho g)))))), k2, a1, by omega, by omega⟩
  · obtain ⟨has', n', u', ms', p', g, a1, a2, a3⟩ := join ps num ks need false 0 0 [] (q2 + 1) (by simp) (by omega) (by omega)
    exact ⟨num, ks, need, has', n', u', ms', ps, p', Ev.bind hr (Ev.bind hp (Ev.bind hc (Ev.neg e g))), k2, a1, by omega, by omega⟩

-- spec_DrawTrustFresh
theorem DrawTrustFresh_v (l : List Int) (hw : ∀ x ∈ l, (Lit.int .u8 x).wf = true) : ∃ (num : Int) (ks : List Int) (need : Int) (has : Bool) (n u : Int) (ms : List Mt) (now : Int), Ev (fun k => spec_DrawTrustFresh.f k l) (num, ks, need, has, n, u, ms, now) ∧ ks.length ≤ 7 ∧ ms.length ≤ 128 := by
  obtain ⟨b, ho, hb⟩ := open_v l hw
  obtain ⟨num, ks, need, has, n, u, ms, ps, p, hr, k1, k2, p1, p2⟩ := l71Trust_v hb 0 (by omega) (by omega)
  obtain ⟨v, hv, v0, v1⟩ := pick_v hb p 10 (by omega) (by omega) (by omega)
  obtain ⟨t, ht, t0, t1⟩ := pick_v hb (p + 1) 12 (by omega) (by omega) (by omega)
  unfold spec_DrawTrustFresh.f
  exact ⟨_, _, _, _, _, _, _, _, Ev.bind (Ev.con ho) (Ev.bind hr (Ev.bind hv (Ev.bind ht (Ev.now _)))), k1, k2⟩

-- rootm
def rootOk (num : Int) (ks : List Int) (need : Int) : Bool := (decide (1 ≤ num) && decide (num ≤ 9)) && (keysOk ks && (decide (1 ≤ need) && decide (need ≤ ks.length)))
def rootSigned (num : Int) (ks : List Int) (need : Int) (sig : List Int) : Bool := rootOk num ks need && (keysOk sig && decide (need ≤ bothN ks sig))
theorem rootOk_iff {num : Int} {ks : List Int} {need : Int} : rootOk num ks need = true ↔ (1 ≤ num ∧ num ≤ 9) ∧ KOk ks ∧ 1 ≤ need ∧ need ≤ ks.length := by
  unfold rootOk
  simp only [Bool.and_eq_true, decide_eq_true_eq, keysOk_iff]
theorem rootSigned_iff {num : Int} {ks : List Int} {need : Int} {sig : List Int} : rootSigned num ks need sig = true ↔ rootOk num ks need = true ∧ KOk sig ∧ need ≤ bothN ks sig := by
  unfold rootSigned
  simp only [Bool.and_eq_true, decide_eq_true_eq, keysOk_iff]
theorem both_ok {a b : List Int} (ha : KOk a) (hb : KOk b) : both a b = (bothN a b : Int) := by unfold both; rw [if_pos ⟨keysOk_iff.2 ha, keysOk_iff.2 hb⟩]
/-- One root is signed, too, and is the next. -/
def rootNext (num : Int) (ks : List Int) (need : Int) (num' : Int) (ks' : List Int) (need' : Int) (sig : List Int) : Bool := rootSigned num ks need sig && (rootSigned num' ks' need' sig && decide (num' = num + 1))

-- trustm
def noIndex (num till : Int) (l : List Mt) : Bool := decide (num = 0) && (decide (till = 0) && decide (l.length = 0))
def trustOk (a : Int) (ks : List Int) (b : Int) (has : Bool) (num till : Int) (l : List Mt) : Bool := rootOk a ks b && (if has = true then indexOk num till l else noIndex num till l)

-- spec_KeysOk
theorem spec_KeysOk_v (l : List Int) (hl : l.length ≤ 17592186044416) : Ev (fun k => spec_KeysOk.f k l) (keysOk l) := by
  unfold spec_KeysOk.f
  refine check_loop (F := fun k i => spec_KeysOk.l0 k l i) (p := kOk1 l) (n := l.length) ?_ ?_ ?_ l.length 0 (by omega)
  · refine Ev.down ?_
    simp only [spec_KeysOk.l0]
    exact Ev.neg (by omega) (Ev.now _)
  · intro i hi hp r hr
    obtain ⟨⟨h1, h2⟩, h3⟩ := kOk1_iff.1 hp
    refine Ev.down ?_
    simp only [spec_KeysOk.l0]
    refine Ev.pos (by omega) (Ev.pos (by omega) (Ev.bind (Ev.con (l6In_v _ _ _)) ?_))
    rw [rd_nat]
    refine Ev.pos (by simp only [Bool.and_eq_true, decide_eq_true_eq]; omega) ?_
    by_cases h0 : i = 0
    · refine Ev.neg (by omega) ?_
      rw [w64 (by omega) (by omega)]
      exact hr
    · refine Ev.pos (by omega) ?_
      rw [w64 (n := (i : Int) - 1) (by omega) (by omega), w64 (n := (i : Int) + 1) (by omega) (by omega)]
      refine Ev.pos (by omega) (Ev.pos (by omega) (Ev.neg ?_ hr))
      rw [show (i : Int) - 1 = ((i - 1 : Nat) : Int) by omega, rd_nat]
      have := h3.resolve_left h0
      omega
  · intro i hi hp
    have hp' : ¬ kOk1 l i = true := by simp [hp]
    rw [kOk1_iff] at hp'
    refine Ev.down ?_
    simp only [spec_KeysOk.l0]
    refine Ev.pos (by omega) (Ev.pos (by omega) (Ev.bind (Ev.con (l6In_v _ _ _)) ?_))
    rw [rd_nat]
    by_cases hr : 1 ≤ l.getD i 0 ∧ l.getD i 0 ≤ 6
    · refine Ev.pos (by simp only [Bool.and_eq_true, decide_eq_true_eq]; omega) ?_
      have h0 : i ≠ 0 := fun e => hp' ⟨hr, .inl e⟩
      refine Ev.pos (by omega) ?_
      rw [w64 (n := (i : Int) - 1) (by omega) (by omega)]
      refine Ev.pos (by omega) (Ev.pos (by omega) (Ev.pos ?_ (Ev.now _)))
      rw [show (i : Int) - 1 = ((i - 1 : Nat) : Int) by omega, rd_nat]
      have : ¬ l.getD (i - 1) 0 < l.getD i 0 := fun e => hp' ⟨hr, .inr e⟩
      omega
    · exact Ev.neg (by simp only [Bool.and_eq_true, decide_eq_true_eq]; exact hr) (Ev.now _)

-- spec_RootOk
theorem spec_RootOk_v (num : Int) (ks : List Int) (need : Int) (hl : ks.length ≤ 17592186044416) : Ev (fun k => spec_RootOk.f k num ks need) (rootOk num ks need) := by
  unfold spec_RootOk.f rootOk
  refine Ev.bind (Ev.con (l6In_v _ _ _)) ?_
  by_cases h1 : (decide (1 ≤ num) && decide (num ≤ 9)) = true
  · refine Ev.pos h1 (Ev.bind (spec_KeysOk_v ks hl) ?_)
    by_cases h2 : keysOk ks = true
    · refine Ev.pos h2 (Ev.bind (Ev.con (l6In_v _ _ _)) (Ev.eq ?_))
      rw [h1, h2]; rfl
    · refine Ev.neg h2 (Ev.eq ?_)
      rw [Bool.not_eq_true] at h2
      rw [h1, h2]; rfl
  · refine Ev.neg h1 (Ev.eq ?_)
    rw [Bool.not_eq_true] at h1
    rw [h1]; rfl

-- spec_TrustOk
theorem spec_TrustOk_v (a : Int) (ks : List Int) (b : Int) (has : Bool) (num till : Int) (l : List Mt) (hk : ks.length ≤ 17592186044416) (hl : l.length ≤ 17592186044416) : Ev (fun k => spec_TrustOk.f k a ks b has num till l) (trustOk a ks b has num till l) := by
  unfold spec_TrustOk.f trustOk
  refine Ev.bind (spec_RootOk_v a ks b hk) ?_
  cases rootOk a ks b with
  | false => exact Ev.neg (by simp) (Ev.now _)
  | true =>
    refine Ev.pos rfl ?_
    cases has with
    | true => exact Ev.pos rfl (Ev.bind (spec_IndexOk_v num till l hl) (Ev.eq rfl))
    | false =>
      refine Ev.neg (by simp) ?_
      simp only [Bool.true_and, Bool.false_eq_true, if_false]
      unfold noIndex
      by_cases h1 : num = 0
      · refine Ev.pos h1 ?_
        by_cases h2 : till = 0
        · refine Ev.pos h2 (Ev.eq ?_)
          rw [decide_eq_true h1, decide_eq_true h2, Bool.eq_iff_iff]
          simp
        · refine Ev.neg h2 (Ev.eq ?_)
          rw [decide_eq_false h2]; simp
      · refine Ev.neg h1 (Ev.eq ?_)
        rw [decide_eq_false h1]; simp

-- spec_TrustFresh
theorem spec_TrustFresh_v (a : Int) (ks : List Int) (b : Int) (has : Bool) (num till : Int) (l : List Mt) (now : Int) (hk : ks.length ≤ 17592186044416) (hl : l.length ≤ 17592186044416) : Ev (fun k => spec_TrustFresh.f k a ks b has num till l now) (trustOk a ks b has num till l && (has && inB now 0 till)) := by
  unfold spec_TrustFresh.f
  refine Ev.bind (spec_TrustOk_v a ks b has num till l hk hl) ?_
  cases trustOk a ks b has num till l with
  | false => exact Ev.neg (by simp) (Ev.now _)
  | true =>
    refine Ev.pos rfl ?_
    cases has with
    | true => exact Ev.pos rfl (Ev.bind (Ev.con (l6In_v _ _ _)) (Ev.eq rfl))
    | false => exact Ev.neg (by simp) (Ev.now _)

-- impl_in
theorem in_v (a b c : Int) : impl_in.f a b c = some (decide (b ≤ a) && decide (a ≤ c)) := by
  unfold impl_in.f
  by_cases h : a ≥ b
  · rw [if_pos h]; simp; omega
  · rw [if_neg h]; simp; omega

-- impl_KeysOk
theorem impl_KeysOk_v (l : List Int) (hl : l.length ≤ 17592186044416) : Ev (fun k => impl_KeysOk.f k l) (keysOk l) := by
  unfold impl_KeysOk.f
  refine check_loop (F := fun k i => impl_KeysOk.l0 k l l l.length i) (p := kOk1 l) (n := l.length) ?_ ?_ ?_ l.length 0 (by omega)
  · refine Ev.down ?_
    simp only [impl_KeysOk.l0]
    exact Ev.neg (by omega) (Ev.now _)
  · intro i hi hp r hr
    obtain ⟨⟨h1, h2⟩, h3⟩ := kOk1_iff.1 hp
    refine Ev.down ?_
    simp only [impl_KeysOk.l0]
    refine Ev.pos (by omega) (Ev.pos (by omega) (Ev.pos (by omega) (Ev.bind (Ev.con (in_v _ _ _)) ?_)))
    rw [rd_nat]
    refine Ev.pos (by simp only [Bool.and_eq_true, decide_eq_true_eq]; omega) ?_
    by_cases h0 : i = 0
    · refine Ev.neg (by omega) ?_
      rw [w64 (by omega) (by omega)]
      exact hr
    · refine Ev.pos (by omega) ?_
      rw [w64 (n := (i : Int) - 1) (by omega) (by omega), w64 (n := (i : Int) + 1) (by omega) (by omega)]
      refine Ev.pos (by omega) (Ev.pos (by omega) (Ev.neg ?_ hr))
      rw [show (i : Int) - 1 = ((i - 1 : Nat) : Int) by omega, rd_nat]
      have := h3.resolve_left h0
      omega
  · intro i hi hp
    have hp' : ¬ kOk1 l i = true := by simp [hp]
    rw [kOk1_iff] at hp'
    refine Ev.down ?_
    simp only [impl_KeysOk.l0]
    refine Ev.pos (by omega) (Ev.pos (by omega) (Ev.pos (by omega) (Ev.bind (Ev.con (in_v _ _ _)) ?_)))
    rw [rd_nat]
    by_cases hr : 1 ≤ l.getD i 0 ∧ l.getD i 0 ≤ 6
    · refine Ev.pos (by simp only [Bool.and_eq_true, decide_eq_true_eq]; omega) ?_
      have h0 : i ≠ 0 := fun e => hp' ⟨hr, .inl e⟩
      refine Ev.pos (by omega) ?_
      rw [w64 (n := (i : Int) - 1) (by omega) (by omega)]
      refine Ev.pos (by omega) (Ev.pos (by omega) (Ev.pos ?_ (Ev.now _)))
      rw [show (i : Int) - 1 = ((i - 1 : Nat) : Int) by omega, rd_nat]
      have : ¬ l.getD (i - 1) 0 < l.getD i 0 := fun e => hp' ⟨hr, .inr e⟩
      omega
    · exact Ev.neg (by simp only [Bool.and_eq_true, decide_eq_true_eq]; exact hr) (Ev.now _)

-- impl_RootOk
theorem impl_RootOk_v (num : Int) (ks : List Int) (need : Int) (hl : ks.length ≤ 17592186044416) : Ev (fun k => impl_RootOk.f k num ks need) (rootOk num ks need) := by
  unfold impl_RootOk.f rootOk
  refine Ev.bind (Ev.con (in_v _ _ _)) ?_
  by_cases h1 : (decide (1 ≤ num) && decide (num ≤ 9)) = true
  · refine Ev.pos h1 (Ev.bind (impl_KeysOk_v ks hl) ?_)
    by_cases h2 : keysOk ks = true
    · refine Ev.pos h2 (Ev.bind (Ev.con (in_v _ _ _)) (Ev.eq ?_))
      rw [h1, h2]; rfl
    · refine Ev.neg h2 (Ev.eq ?_)
      rw [Bool.not_eq_true] at h2
      rw [h1, h2]; rfl
  · refine Ev.neg h1 (Ev.eq ?_)
    rw [Bool.not_eq_true] at h1
    rw [h1]; rfl

-- impl_IndexOk
theorem ixB_eq (num till : Int) (l : List Mt) : ixB num till l = indexOk num till l := by
  have e : ∀ d i, okFrom (ixm1 l) d i = allFrom (metaOk1 l) d i := by
    intro d
    induction d with
    | zero => intro i; rfl
    | succ d ih =>
      intro i
      show (_ && _) = (_ && _)
      rw [ih]
      congr 1
      unfold ixm1 metaOk1 lessB
      simp only [Bool.and_assoc]
      rfl
  unfold ixB indexOk metasOk
  rw [e, Bool.and_comm]
  rfl
theorem impl_IndexOk_v (num till : Int) (l : List Mt) (hl : l.length ≤ 17592186044416) : Ev (fun k => impl_IndexOk.f k num till l) (indexOk num till l) := by
  rw [← ixB_eq]
  exact Ev.now _

-- impl_TrustOk
theorem sameNil_v (num till : Int) (l : List Mt) : Ev (fun k => impl_Index_same.f k num till l 0 0 ([] : List Mt)) (noIndex num till l) := by
  unfold impl_Index_same.f noIndex
  by_cases h1 : num = 0
  · refine Ev.pos h1 ?_
    by_cases h2 : till = 0
    · refine Ev.pos h2 ?_
      rw [decide_eq_true h1, decide_eq_true h2]
      refine Ev.bind (a := decide (l.length = 0)) ?_ (Ev.eq (by simp))
      unfold impl_Meta.f
      by_cases h3 : l.length = 0
      · rw [decide_eq_true h3]
        refine Ev.pos (by rw [h3]; rfl) (Ev.down ?_)
        simp only [impl_Meta.l0]
        exact Ev.neg (by omega) (Ev.now _)
      · rw [decide_eq_false h3]
        exact Ev.neg (by rw [List.length_nil]; omega) (Ev.now _)
    · refine Ev.neg h2 (Ev.eq ?_)
      rw [decide_eq_false h2]; simp
  · refine Ev.neg h1 (Ev.eq ?_)
    rw [decide_eq_false h1]; simp
theorem impl_TrustOk_v (a : Int) (ks : List Int) (b : Int) (has : Bool) (num till : Int) (l : List Mt) (hk : ks.length ≤ 17592186044416) (hl : l.length ≤ 17592186044416) : Ev (fun k => impl_TrustOk.f k a ks b has num till l) (trustOk a ks b has num till l) := by
  unfold impl_TrustOk.f trustOk
  refine Ev.bind (impl_RootOk_v a ks b hk) ?_
  cases rootOk a ks b with
  | false => exact Ev.neg (by simp) (Ev.now _)
  | true =>
    refine Ev.pos rfl ?_
    cases has with
    | true => exact Ev.pos rfl (Ev.bind (impl_IndexOk_v num till l hl) (Ev.eq rfl))
    | false => exact Ev.neg (by simp) (Ev.bind (sameNil_v num till l) (Ev.eq (by simp)))

-- impl_TrustFresh
theorem impl_TrustFresh_v (a : Int) (ks : List Int) (b : Int) (has : Bool) (num till : Int) (l : List Mt) (now : Int) (hk : ks.length ≤ 17592186044416) (hl : l.length ≤ 17592186044416) : Ev (fun k => impl_TrustFresh.f k a ks b has num till l now) (trustOk a ks b has num till l && (has && inB now 0 till)) := by
  unfold impl_TrustFresh.f
  refine Ev.bind (impl_TrustOk_v a ks b has num till l hk hl) ?_
  cases trustOk a ks b has num till l with
  | false => exact Ev.neg (by simp) (Ev.now _)
  | true =>
    refine Ev.pos rfl ?_
    cases has with
    | true => exact Ev.pos rfl (Ev.bind (Ev.con (in_v _ _ _)) (Ev.eq rfl))
    | false => exact Ev.neg (by simp) (Ev.now _)

-- the law
theorem FnTrustFresh : laws_FnTrustFresh.Pure := by
  intro l hm hs hw
  refine Ev.rounds (g := fun k => laws_FnTrustFresh.f k l) ?_
  unfold laws_FnTrustFresh.f
  by_cases h : (l.length : Int) > 1048576
  · exact Ev.pos h (Ev.now _)
  · obtain ⟨a, ks, b, has, n, u, ms, now, hd, lk, lm⟩ := DrawTrustFresh_v l hw
    have I := impl_TrustFresh_v a ks b has n u ms now (by omega) (by omega)
    have S := spec_TrustFresh_v a ks b has n u ms now (by omega) (by omega)
    have O := spec_TrustOk_v a ks b has n u ms (by omega) (by omega)
    refine Ev.neg h (Ev.bind hd (Ev.bind I (Ev.bind S (Ev.neg (by simp) (Ev.bind O ?_)))))
    dsimp only
    cases ok : trustOk a ks b has n u ms with
    | false =>
      rw [ok] at S
      exact Ev.neg (by simp) (Ev.bind S (Ev.eq (by simp)))
    | true =>
      refine Ev.pos rfl ?_
      cases has with
      | false => exact Ev.neg (by simp) (Ev.eq (by simp))
      | true =>
        refine Ev.pos rfl ?_
        by_cases h0 : now ≥ 0
        · refine Ev.pos h0 (Ev.eq ?_)
          unfold inB
          rw [decide_eq_true (show (0 : Int) ≤ now from h0)]
          simp
        · refine Ev.neg h0 (Ev.eq ?_)
          unfold inB
          rw [decide_eq_false (show ¬ (0 : Int) ≤ now from h0)]
          simp

end Go.Proofs.Ytlmgnnpmcdeclaa.Pure
