/- What is left of the law FnPkgOne, proved: the printed function answers true at every argument within the bounds of the statement. No further condition. -/
import Derived.Test.YtlmgnnpmcdeclaaDoorPFnPkgOnex2
set_option linter.unusedVariables false
set_option linter.unusedSimpArgs false
namespace Go.Proofs.YtlmgnnpmcdeclaaDoor
/-- The printed row asks for this word by its short name. -/
theorem PrintWords.sized_ints : type_of% @Go.Proofs.YtlmgnnpmcdeclaaDoorW.PrintWords.sized_ints := @Go.Proofs.YtlmgnnpmcdeclaaDoorW.PrintWords.sized_ints
end Go.Proofs.YtlmgnnpmcdeclaaDoor
namespace Go.Proofs.YtlmgnnpmcdeclaaDoor.Pure
open Go.RowKit Go.Proofs.YtlmgnnpmcdeclaaDoor.PFnPkgOne Go.Proofs.YtlmgnnpmcdeclaaDoorW.PrintWords Go.Proofs.YtlmgnnpmcdeclaaDoorW.PrintLast Go.Proofs.YtlmgnnpmcdeclaaDoorW.PrintMore

-- ev
/-! Ways to reckon a printed function from some number of rounds on. -/
theorem Ev.pos {α : Type} {c : Prop} {d : Decidable c} {f g : Nat → Option α} {r : α} (h : c) (e : Ev f r) : Ev (fun k => if c then f k else g k) r := Ev.congr (fun _ => if_pos h) e
theorem Ev.neg {α : Type} {c : Prop} {d : Decidable c} {f g : Nat → Option α} {r : α} (h : ¬ c) (e : Ev g r) : Ev (fun k => if c then f k else g k) r := Ev.congr (fun _ => if_neg h) e
theorem Ev.con {α : Type} {x : Option α} {r : α} (h : x = some r) : Ev (fun _ => x) r := ⟨0, fun _ _ => h⟩
theorem Ev.eq {α : Type} {r r' : α} (h : r' = r) : Ev (fun _ => some r') r := ⟨0, fun _ _ => by rw [h]⟩
theorem Ev.re {α : Type} {g : Nat → Option α} {r r' : α} (e : Ev g r') (h : r' = r) : Ev g r := h ▸ e
theorem Ev.down {α : Type} {g : Nat → Option α} {r : α} (e : Ev (fun k => g (k + 1)) r) : Ev g r := Ev.step (fun _ => rfl) e
theorem Ev.one {α : Type} {g : Nat → Option α} {r r' : α} (a : Ev g r) (b : Ev g r') : r = r' := by
  obtain ⟨K, a⟩ := a
  obtain ⟨K', b⟩ := b
  have h := a (K + K') (by omega)
  rw [b (K + K') (by omega)] at h
  exact (Option.some.inj h).symm
theorem w64 {n : Int} (h0 : -9223372036854775808 ≤ n) (h1 : n ≤ 9223372036854775807) : wrap64 n = n := by unfold wrap64; omega
/-- p of i, i + 1, .., d of them. -/
def allFrom (p : Nat → Bool) : Nat → Nat → Bool
  | 0, _ => true
  | d + 1, i => p i && allFrom p d (i + 1)
theorem allFrom_iff {p : Nat → Bool} : ∀ {d i : Nat}, allFrom p d i = true ↔ ∀ j, i ≤ j → j < i + d → p j = true
  | 0, i => by simp only [allFrom, true_iff]; intro j h1 h2; omega
  | d + 1, i => by
    simp only [allFrom, Bool.and_eq_true, allFrom_iff (d := d)]
    constructor
    · intro h j h1 h2
      rcases Nat.eq_or_lt_of_le h1 with e | e
      · exact e ▸ h.1
      · exact h.2 j e (by omega)
    · intro h
      exact ⟨h i (Nat.le_refl _) (by omega), fun j h1 h2 => h j (by omega) (by omega)⟩
theorem allFrom_congr {p q : Nat → Bool} : ∀ {d i : Nat}, (∀ j, i ≤ j → j < i + d → p j = q j) → allFrom p d i = allFrom q d i
  | 0, _, _ => rfl
  | d + 1, i, h => by
    simp only [allFrom]
    rw [h i (Nat.le_refl _) (by omega), allFrom_congr (fun j h1 h2 => h j (by omega) (by omega))]
/-- A loop that looks whether p holds at each place. -/
theorem check_loop {F : Nat → Int → Option Bool} {p : Nat → Bool} {n : Nat} (hend : Ev (fun k => F k (n : Int)) true)
    (hgo : ∀ i : Nat, i < n → p i = true → ∀ r, Ev (fun k => F k ((i + 1 : Nat) : Int)) r → Ev (fun k => F k (i : Int)) r)
    (hno : ∀ i : Nat, i < n → p i = false → Ev (fun k => F k (i : Int)) false) : ∀ d i : Nat, i + d = n → Ev (fun k => F k (i : Int)) (allFrom p d i)
  | 0, i, h => by
    obtain rfl : i = n := by omega
    exact hend
  | d + 1, i, h => by
    simp only [allFrom]
    cases hp : p i with
    | true => exact hgo i (by omega) hp _ (check_loop hend hgo hno d (i + 1) (by omega))
    | false => exact hno i (by omega) hp
/-- A loop that goes on from place to place. -/
theorem step_loop {α : Type} {F : Nat → Int → Option α} {R : Nat → α} {n : Nat} (hend : Ev (fun k => F k (n : Int)) (R n))
    (hgo : ∀ i : Nat, i < n → Ev (fun k => F k ((i + 1 : Nat) : Int)) (R (i + 1)) → Ev (fun k => F k (i : Int)) (R i)) : ∀ d i : Nat, i + d = n → Ev (fun k => F k (i : Int)) (R i)
  | 0, i, h => by
    obtain rfl : i = n := by omega
    exact hend
  | d + 1, i, h => hgo i (by omega) (step_loop hend hgo d (i + 1) (by omega))
theorem rd_nat (l : List Int) (i : Nat) : rd l (i : Int) = l.getD i 0 := by unfold rd; rw [Int.toNat_natCast]
theorem getD_of_lt {α : Type} {l : List α} {i : Nat} {d : α} (h : i < l.length) : l.getD i d = l[i] := by simp [List.getD, h]
theorem notGe (a b : Int) : (!decide (a ≥ b)) = decide (a < b) := by rw [Bool.eq_iff_iff]; simp
theorem notLe (a b : Int) : (!decide (b ≤ a)) = decide (a < b) := by rw [Bool.eq_iff_iff]; simp

-- strm
/-! Texts as lists of numbers. -/
theorem bytesOf_append (a b : ByteArray) : bytesOf (a ++ b) = bytesOf a ++ bytesOf b := by
  unfold bytesOf
  rw [ByteArray.data_append, Array.toList_append, List.map_append]
theorem bytesOf_str {l : List Int} (h : ∀ x ∈ l, 0 ≤ x ∧ x ≤ 255) : bytesOf (strOfNums l) = l := by
  unfold bytesOf
  rw [strOfNums_data, List.map_map]
  conv => rhs; rw [← List.map_id l]
  apply List.map_congr_left
  intro x hx
  have := h x hx
  simp only [Function.comp, id]
  rw [UInt8.toNat_ofNat_of_lt' (by simp only [UInt8.size]; omega)]
  omega
theorem bytesOf_inj {a b : ByteArray} (h : bytesOf a = bytesOf b) : a = b := by
  unfold bytesOf at h
  apply ByteArray.ext
  apply Array.toList_inj.1
  have inj : ∀ l l' : List UInt8, l.map (fun b => (b.toNat : Int)) = l'.map (fun b => (b.toNat : Int)) → l = l' := by
    intro l
    induction l with
    | nil => intro l' h; cases l' with
      | nil => rfl
      | cons x l' => simp at h
    | cons x l ih =>
      intro l' h
      cases l' with
      | nil => simp at h
      | cons y l' =>
        simp only [List.map_cons, List.cons.injEq] at h
        have : x = y := UInt8.toNat_inj.1 (by omega)
        rw [this, ih l' h.2]
  exact inj _ _ h
theorem bytesOf_range (s : ByteArray) : ∀ x ∈ bytesOf s, 0 ≤ x ∧ x ≤ 255 := by
  intro x hx
  unfold bytesOf at hx
  obtain ⟨b, _, rfl⟩ := List.mem_map.1 hx
  have := b.toNat_lt
  omega
theorem str_bytesOf (s : ByteArray) : strOfNums (bytesOf s) = s := bytesOf_inj (bytesOf_str (bytesOf_range s))
theorem str_append (a b : List Int) : strOfNums a ++ strOfNums b = strOfNums (a ++ b) := by
  apply ByteArray.ext
  apply Array.toList_inj.1
  rw [ByteArray.data_append, Array.toList_append, strOfNums_data, strOfNums_data, strOfNums_data, List.map_append]
theorem str_inj {a b : List Int} (ha : ∀ x ∈ a, 0 ≤ x ∧ x ≤ 255) (hb : ∀ x ∈ b, 0 ≤ x ∧ x ≤ 255) (h : strOfNums a = strOfNums b) : a = b := by
  rw [← bytesOf_str ha, h, bytesOf_str hb]
theorem bytesOf_extract (s : ByteArray) (i j : Nat) : bytesOf (s.extract i j) = ((bytesOf s).take j).drop i := by
  unfold bytesOf
  rw [ByteArray.data_extract, Array.toList_extract, List.extract_eq_take_drop, List.map_take, List.map_drop, List.drop_take]

-- metam0
def inB (n a b : Int) : Bool := decide (a ≤ n) && decide (n ≤ b)
theorem inB_iff {n a b : Int} : inB n a b = true ↔ a ≤ n ∧ n ≤ b := by unfold inB; rw [Bool.and_eq_true, decide_eq_true_eq, decide_eq_true_eq]
def lessB (n v m w : Int) : Bool := decide (n < m) || decide (n = m) && decide (v < w)
theorem lessB_iff {n v m w : Int} : lessB n v m w = true ↔ n < m ∨ n = m ∧ v < w := by unfold lessB; simp only [Bool.or_eq_true, Bool.and_eq_true, decide_eq_true_eq]

-- pkgm
/-! Packages: files and what is needed. -/
abbrev Fl := S63
abbrev Dp := S66
instance : DecidableEq S63 := fun x y => decidable_of_iff (x.f0 = y.f0 ∧ x.f1 = y.f1) (by obtain ⟨a, b⟩ := x; obtain ⟨d, e⟩ := y; simp)
instance : DecidableEq S66 := fun x y => decidable_of_iff (x.f0 = y.f0 ∧ x.f1 = y.f1) (by obtain ⟨a, b⟩ := x; obtain ⟨d, e⟩ := y; simp)
theorem rdF_nat (l : List Fl) (i : Nat) : rd_T63 l (i : Int) = l.getD i z63 := by unfold rd_T63; rw [Int.toNat_natCast]
theorem rdD_nat (l : List Dp) (i : Nat) : rd_T66 l (i : Int) = l.getD i z66 := by unfold rd_T66; rw [Int.toNat_natCast]
def fileOk1 (l : List Fl) (i : Nat) : Bool := inB (l.getD i z63).f0 0 5 && (inB (l.getD i z63).f1 0 9 && (i == 0 || decide ((l.getD (i - 1) z63).f0 < (l.getD i z63).f0)))
def depOk1 (name : Int) (l : List Dp) (i : Nat) : Bool := inB (l.getD i z66).f0 1 4 && (!decide ((l.getD i z66).f0 = name) && (inB (l.getD i z66).f1 1 5 && (i == 0 || decide ((l.getD (i - 1) z66).f0 < (l.getD i z66).f0))))
def filesOk (l : List Fl) : Bool := allFrom (fileOk1 l) l.length 0 && decide (l.length ≤ 2)
def depsOk (name : Int) (l : List Dp) : Bool := allFrom (depOk1 name l) l.length 0 && decide (l.length ≤ 2)
def pkgOk (n v : Int) (fs : List Fl) (ds : List Dp) : Bool := inB n 1 4 && (inB v 1 5 && (filesOk fs && depsOk n ds))

-- pkgtext
/-- A package's text, number by number. -/
def fileL (f : Fl) : List Int := [32, 48 + f.f0, 58, 48 + f.f1]
def depL (d : Dp) : List Int := [32, 96 + d.f0, 48 + d.f1]
def pkgL (n v : Int) (fs : List Fl) (ds : List Dp) : List Int := [96 + n, 48 + v] ++ (fs.flatMap fileL ++ ds.flatMap depL)
def pkgS (n v : Int) (fs : List Fl) (ds : List Dp) : ByteArray := if pkgOk n v fs ds = true then strOfNums (pkgL n v fs ds) else strOfNums []
theorem str_empty : (⟨#[]⟩ : ByteArray) = strOfNums [] := rfl
/-- What ok numbers are. -/
theorem fileOk_range {l : List Fl} (h : filesOk l = true) : l.length ≤ 2 ∧ ∀ f ∈ l, (0 ≤ f.f0 ∧ f.f0 ≤ 5) ∧ (0 ≤ f.f1 ∧ f.f1 ≤ 9) := by
  unfold filesOk at h
  rw [Bool.and_eq_true, decide_eq_true_eq, allFrom_iff] at h
  refine ⟨h.2, fun f hf => ?_⟩
  obtain ⟨i, hi, rfl⟩ := List.getElem_of_mem hf
  have := h.1 i (Nat.zero_le _) (by omega)
  unfold fileOk1 at this
  rw [getD_of_lt hi] at this
  simp only [Bool.and_eq_true, inB_iff] at this
  exact ⟨this.1, this.2.1⟩
theorem depOk_range {n : Int} {l : List Dp} (h : depsOk n l = true) : l.length ≤ 2 ∧ ∀ d ∈ l, (1 ≤ d.f0 ∧ d.f0 ≤ 4) ∧ (1 ≤ d.f1 ∧ d.f1 ≤ 5) := by
  unfold depsOk at h
  rw [Bool.and_eq_true, decide_eq_true_eq, allFrom_iff] at h
  refine ⟨h.2, fun f hf => ?_⟩
  obtain ⟨i, hi, rfl⟩ := List.getElem_of_mem hf
  have := h.1 i (Nat.zero_le _) (by omega)
  unfold depOk1 at this
  rw [getD_of_lt hi] at this
  simp only [Bool.and_eq_true, inB_iff] at this
  exact ⟨this.1, this.2.2.1⟩
theorem pkgOk_range {n v : Int} {fs : List Fl} {ds : List Dp} (h : pkgOk n v fs ds = true) : (1 ≤ n ∧ n ≤ 4) ∧ (1 ≤ v ∧ v ≤ 5) ∧ (fs.length ≤ 2 ∧ ∀ f ∈ fs, (0 ≤ f.f0 ∧ f.f0 ≤ 5) ∧ (0 ≤ f.f1 ∧ f.f1 ≤ 9)) ∧ (ds.length ≤ 2 ∧ ∀ d ∈ ds, (1 ≤ d.f0 ∧ d.f0 ≤ 4) ∧ (1 ≤ d.f1 ∧ d.f1 ≤ 5)) := by
  unfold pkgOk at h
  simp only [Bool.and_eq_true, inB_iff] at h
  exact ⟨h.1, h.2.1, fileOk_range h.2.2.1, depOk_range h.2.2.2⟩
theorem flat_len {α : Type} (g : α → List Int) (k : Nat) (l : List α) (h : ∀ x ∈ l, (g x).length = k) : (l.flatMap g).length = k * l.length := by
  induction l with
  | nil => simp
  | cons x l ih =>
    rw [List.flatMap_cons, List.length_append, h x (by simp), ih (fun y hy => h y (by simp [hy])), List.length_cons, Nat.mul_succ]; omega
theorem pkgL_len (n v : Int) (fs : List Fl) (ds : List Dp) : (pkgL n v fs ds).length = 2 + 4 * fs.length + 3 * ds.length := by
  unfold pkgL
  rw [List.length_append, List.length_append, flat_len fileL 4 fs (fun _ _ => rfl), flat_len depL 3 ds (fun _ _ => rfl)]
  simp only [List.length_cons, List.length_nil]; omega
theorem pkgS_size (n v : Int) (fs : List Fl) (ds : List Dp) : (pkgS n v fs ds).size ≤ 16 := by
  unfold pkgS
  by_cases h : pkgOk n v fs ds = true
  · have := pkgOk_range h
    rw [if_pos h, strOfNums_size, pkgL_len]; omega
  · rw [if_neg h, strOfNums_size]; simp

-- txt
theorem toList_str (l : List Int) : (strOfNums l).toList = l.map fun n => UInt8.ofNat n.toNat := by rw [ByteArray.toList_eq]; rfl
theorem toList_inj {a b : ByteArray} : a.toList = b.toList ↔ a = b := by
  rw [ByteArray.toList_eq, ByteArray.toList_eq]
  exact ⟨fun h => ByteArray.ext (Array.toList_inj.1 h), fun h => by rw [h]⟩
theorem str_isnil (l : List Int) : ((strOfNums l).toList == ([] : List UInt8)) = decide (l = []) := by
  rw [toList_str]
  cases l <;> rfl
theorem pkgL_range {n v : Int} {fs : List Fl} {ds : List Dp} (h : pkgOk n v fs ds = true) : ∀ x ∈ pkgL n v fs ds, 0 ≤ x ∧ x ≤ 255 := by
  obtain ⟨hn, hv, ⟨_, hf⟩, _, hd⟩ := pkgOk_range h
  intro x hx
  unfold pkgL at hx
  simp only [List.mem_append, List.mem_cons, List.not_mem_nil, or_false, List.mem_flatMap] at hx
  rcases hx with (rfl | rfl) | ⟨f, hf1, hx⟩ | ⟨d, hd1, hx⟩
  · omega
  · omega
  · have := hf f hf1
    simp only [fileL, List.mem_cons, List.not_mem_nil, or_false] at hx
    rcases hx with rfl | rfl | rfl | rfl <;> omega
  · have := hd d hd1
    simp only [depL, List.mem_cons, List.not_mem_nil, or_false] at hx
    rcases hx with rfl | rfl | rfl <;> omega
theorem pkgL_ne (n v : Int) (fs : List Fl) (ds : List Dp) : pkgL n v fs ds ≠ [] := by unfold pkgL; simp
theorem pkgS_ok {n v : Int} {fs : List Fl} {ds : List Dp} (h : pkgOk n v fs ds = true) : pkgS n v fs ds = strOfNums (pkgL n v fs ds) := if_pos h
theorem pkgS_no {n v : Int} {fs : List Fl} {ds : List Dp} (h : pkgOk n v fs ds = false) : pkgS n v fs ds = strOfNums [] := if_neg (by rw [h]; decide)

-- pkginj
theorem flat_inj : ∀ (fs fs' : List Fl) (ds ds' : List Dp), (∀ f ∈ fs, f.f0 ≤ 5) → (∀ f ∈ fs', f.f0 ≤ 5) → (∀ d ∈ ds, 1 ≤ d.f0) → (∀ d ∈ ds', 1 ≤ d.f0) →
    fs.flatMap fileL ++ ds.flatMap depL = fs'.flatMap fileL ++ ds'.flatMap depL → fs = fs' ∧ ds = ds'
  | [], [], [], [], _, _, _, _, _ => ⟨rfl, rfl⟩
  | [], [], [], d :: ds', _, _, _, _, h => by simp [depL] at h
  | [], [], d :: ds, [], _, _, _, _, h => by simp [depL] at h
  | [], [], d :: ds, d' :: ds', _, _, hd, hd', h => by
    simp only [List.flatMap_nil, List.nil_append, List.flatMap_cons, depL, List.cons_append, List.cons.injEq, true_and] at h
    obtain ⟨h1, h2, h3⟩ := h
    have := (flat_inj [] [] ds ds' (by simp) (by simp) (fun x hx => hd x (List.mem_cons_of_mem _ hx)) (fun x hx => hd' x (List.mem_cons_of_mem _ hx)) (by simpa using h3)).2
    refine ⟨rfl, ?_⟩
    rw [this]
    cases d; cases d'
    simp only at h1 h2
    obtain rfl := show _ = _ by exact (Int.add_left_cancel h1)
    obtain rfl := show _ = _ by exact (Int.add_left_cancel h2)
    rfl
  | [], f :: fs', ds, ds', _, hf', hd, _, h => by
    exfalso
    have hf := hf' f List.mem_cons_self
    cases ds with
    | nil => simp [fileL] at h
    | cons d ds =>
      have hd1 := hd d List.mem_cons_self
      simp only [List.flatMap_nil, List.nil_append, List.flatMap_cons, depL, fileL, List.cons_append, List.cons.injEq, true_and] at h
      omega
  | f :: fs, [], ds, ds', hf', _, _, hd, h => by
    exfalso
    have hf := hf' f List.mem_cons_self
    cases ds' with
    | nil => simp [fileL] at h
    | cons d ds' =>
      have hd1 := hd d List.mem_cons_self
      simp only [List.flatMap_nil, List.nil_append, List.flatMap_cons, depL, fileL, List.cons_append, List.cons.injEq, true_and] at h
      omega
  | f :: fs, f' :: fs', ds, ds', hf, hf', hd, hd', h => by
    simp only [List.flatMap_cons, fileL, List.cons_append, List.nil_append, List.cons.injEq, true_and] at h
    obtain ⟨h1, h2, h3⟩ := h
    obtain ⟨e1, e2⟩ := flat_inj fs fs' ds ds' (fun x hx => hf x (List.mem_cons_of_mem _ hx)) (fun x hx => hf' x (List.mem_cons_of_mem _ hx)) hd hd' h3
    refine ⟨?_, e2⟩
    rw [e1]
    cases f; cases f'
    simp only at h1 h2
    obtain rfl := show _ = _ by exact (Int.add_left_cancel h1)
    obtain rfl := show _ = _ by exact (Int.add_left_cancel h2)
    rfl
/-- The texts of ok packages are the same just if they are. -/
theorem pkgL_inj {n v n' v' : Int} {fs fs' : List Fl} {ds ds' : List Dp} (h : pkgOk n v fs ds = true) (h' : pkgOk n' v' fs' ds' = true) (e : pkgL n v fs ds = pkgL n' v' fs' ds') : n = n' ∧ v = v' ∧ fs = fs' ∧ ds = ds' := by
  obtain ⟨_, _, ⟨_, hf⟩, _, hd⟩ := pkgOk_range h
  obtain ⟨_, _, ⟨_, hf'⟩, _, hd'⟩ := pkgOk_range h'
  unfold pkgL at e
  simp only [List.cons_append, List.nil_append, List.cons.injEq] at e
  obtain ⟨e1, e2, e3⟩ := e
  obtain ⟨e4, e5⟩ := flat_inj fs fs' ds ds' (fun f k => (hf f k).1.2) (fun f k => (hf' f k).1.2) (fun d k => (hd d k).1.1) (fun d k => (hd' d k).1.1) e3
  exact ⟨by omega, by omega, e4, e5⟩
theorem pkgS_eq_iff {n v n' v' : Int} {fs fs' : List Fl} {ds ds' : List Dp} (h : pkgOk n v fs ds = true) (h' : pkgOk n' v' fs' ds' = true) : pkgS n v fs ds = pkgS n' v' fs' ds' ↔ n = n' ∧ v = v' ∧ fs = fs' ∧ ds = ds' := by
  rw [pkgS_ok h, pkgS_ok h']
  exact ⟨fun e => pkgL_inj h h' (str_inj (pkgL_range h) (pkgL_range h') e), fun ⟨a, b, c, d⟩ => by rw [a, b, c, d]⟩

-- spec_l6In
theorem l6In_v (a b c : Int) : spec_l6In.f a b c = some (decide (b ≤ a) && decide (a ≤ c)) := by
  unfold spec_l6In.f
  by_cases h : a ≥ b
  · rw [if_pos h]; simp; omega
  · rw [if_neg h]; simp; omega

-- spec_l1Files
theorem l1Files_v (l : List Fl) (hl : l.length ≤ 17592186044416) : Ev (fun k => spec_l1Files.f k l) (filesOk l) := by
  have e : l1f l = filesOk l := by
    unfold l1f filesOk
    have : ∀ d i, okFrom (file1 l) d i = allFrom (fileOk1 l) d i := by
      intro d
      induction d with
      | zero => intro i; rfl
      | succ d ih => intro i; show (_ && _) = (_ && _); rw [ih]; rfl
    rw [this]
  rw [← e]
  exact Ev.now _

-- spec_l1Deps
theorem l1Deps_v (name : Int) (l : List Dp) (hl : l.length ≤ 17592186044416) : Ev (fun k => spec_l1Deps.f k name l) (depsOk name l) := by
  have e : l1d name l = depsOk name l := by
    unfold l1d depsOk
    have : ∀ d i, okFrom (dep1 name l) d i = allFrom (depOk1 name l) d i := by
      intro d
      induction d with
      | zero => intro i; rfl
      | succ d ih => intro i; show (_ && _) = (_ && _); rw [ih]; rfl
    rw [this]
  rw [← e]
  exact Ev.now _

-- spec_PkgOk
theorem spec_PkgOk_v (n v : Int) (fs : List Fl) (ds : List Dp) (hf : fs.length ≤ 17592186044416) (hd : ds.length ≤ 17592186044416) : Ev (fun k => spec_PkgOk.f k n v fs ds) (pkgOk n v fs ds) := by
  have l6In_v : ∀ a b c : Int, spec_l6In.f a b c = some (inB a b c) := l6In_v
  unfold spec_PkgOk.f pkgOk
  refine Ev.bind (Ev.con (l6In_v _ _ _)) ?_
  cases inB n 1 4 with
  | false => exact Ev.neg (by simp) (Ev.now _)
  | true =>
    refine Ev.pos rfl (Ev.bind (Ev.con (l6In_v _ _ _)) ?_)
    cases inB v 1 5 with
    | false => exact Ev.neg (by simp) (Ev.now _)
    | true =>
      refine Ev.pos rfl (Ev.bind (l1Files_v fs hf) ?_)
      cases filesOk fs with
      | false => exact Ev.neg (by simp) (Ev.now _)
      | true => exact Ev.pos rfl (Ev.bind (l1Deps_v n ds hd) (Ev.eq (by simp)))

-- spec_l6Dec
/-- One figure. -/
theorem l6Dec_1 (n : Int) (h0 : 0 ≤ n) (h1 : n ≤ 9) : Ev (fun k => spec_l6Dec.f k n) (strOfNums [48 + n]) := by
  refine Ev.down ?_
  simp only [spec_l6Dec.f]
  refine Ev.neg (by omega) (Ev.neg (by omega) (Ev.pos (by omega) (Ev.eq ?_)))
  rw [w64 (by omega) (by omega), Int.emod_eq_of_lt (by omega) (by omega)]

-- spec_l1Name
theorem l1Name_v (a v : Int) (h0 : 0 ≤ a) (h1 : a ≤ 9) (h2 : 0 ≤ v) (h3 : v ≤ 9) : Ev (fun k => spec_l1Name.f k a v) (strOfNums [96 + a, 48 + v]) := by
  unfold spec_l1Name.f
  refine Ev.bind (f := fun k y => _) (Ev.now _) (Ev.bind (l6Dec_1 v h2 h3) (Ev.pos (by rw [strOfNums_size, strOfNums_size]; simp) (Ev.eq ?_)))
  rw [str_append, w64 (n := 97 + a) (by omega) (by omega), w64 (by omega) (by omega), Int.emod_eq_of_lt (by omega) (by omega), show 97 + a - 1 = 96 + a by omega]
  rfl

-- spec_PkgText
theorem spec_PkgText_v (n v : Int) (fs : List Fl) (ds : List Dp) (hf : fs.length ≤ 17592186044416) (hd : ds.length ≤ 17592186044416) : Ev (fun k => spec_PkgText.f k n v fs ds) (pkgS n v fs ds) := by
  unfold spec_PkgText.f pkgS
  refine Ev.bind (spec_PkgOk_v n v fs ds hf hd) ?_
  cases ok : pkgOk n v fs ds with
  | false => exact Ev.neg (by simp) (Ev.eq rfl)
  | true =>
    obtain ⟨⟨n0, n1⟩, ⟨v0, v1⟩, ⟨lf, rf⟩, ⟨ld, rd_⟩⟩ := pkgOk_range ok
    refine Ev.pos rfl (Ev.bind (l1Name_v n v (by omega) (by omega) (by omega) (by omega)) ?_)
    rw [if_pos rfl]
    have deps : ∀ d i : Nat, i + d = ds.length → ∀ acc : List Int, acc.length ≤ 100 + 3 * i → Ev (fun k => spec_PkgText.l1 k (strOfNums acc) (i : Int) n v fs ds) (strOfNums (acc ++ (ds.drop i).flatMap depL)) := by
      intro d
      induction d with
      | zero =>
        intro i hi acc ha
        refine Ev.down ?_
        simp only [spec_PkgText.l1]
        refine Ev.neg (by omega) (Ev.eq ?_)
        rw [List.drop_of_length_le (by omega)]; simp
      | succ d ih =>
        intro i hi acc ha
        have hil : i < ds.length := by omega
        have hr := ih (i + 1) (by omega) (acc ++ depL ds[i]) (by rw [List.length_append]; simp only [depL, List.length_cons, List.length_nil]; omega)
        obtain ⟨⟨a0, a1⟩, ⟨b0, b1⟩⟩ := rd_ ds[i] (List.getElem_mem _)
        refine Ev.down ?_
        simp only [spec_PkgText.l1]
        rw [rdD_nat, getD_of_lt hil, show (⟨#[32]⟩ : ByteArray) = strOfNums [32] from rfl, str_append]
        refine Ev.pos (by omega) (Ev.pos (by rw [strOfNums_size]; omega) (Ev.pos (by omega) (Ev.bind (l1Name_v _ _ (by omega) (by omega) (by omega) (by omega)) (Ev.pos (by rw [strOfNums_size, strOfNums_size, List.length_append]; simp only [List.length_cons, List.length_nil]; omega) ?_))))
        rw [str_append, w64 (by omega) (by omega), List.drop_eq_getElem_cons hil, List.flatMap_cons, ← List.append_assoc]
        have e : acc ++ [32] ++ [96 + ds[i].f0, 48 + ds[i].f1] = acc ++ depL ds[i] := by simp [depL]
        rw [e]
        exact hr
    have files : ∀ d i : Nat, i + d = fs.length → ∀ acc : List Int, acc.length ≤ 50 + 4 * i → Ev (fun k => spec_PkgText.l0 k (strOfNums acc) (i : Int) n v fs ds) (strOfNums (acc ++ ((fs.drop i).flatMap fileL ++ ds.flatMap depL))) := by
      intro d
      induction d with
      | zero =>
        intro i hi acc ha
        refine Ev.down ?_
        simp only [spec_PkgText.l0]
        refine Ev.neg (by omega) ?_
        rw [List.drop_of_length_le (by omega)]
        have := deps ds.length 0 (by omega) acc (by omega)
        simpa using this
      | succ d ih =>
        intro i hi acc ha
        have hil : i < fs.length := by omega
        have hr := ih (i + 1) (by omega) (acc ++ fileL fs[i]) (by rw [List.length_append]; simp only [fileL, List.length_cons, List.length_nil]; omega)
        obtain ⟨⟨a0, a1⟩, ⟨b0, b1⟩⟩ := rf fs[i] (List.getElem_mem _)
        refine Ev.down ?_
        simp only [spec_PkgText.l0]
        rw [rdF_nat, getD_of_lt hil, show (⟨#[32]⟩ : ByteArray) = strOfNums [32] from rfl, show (⟨#[58]⟩ : ByteArray) = strOfNums [58] from rfl, str_append]
        refine Ev.pos (by omega) (Ev.pos (by rw [strOfNums_size]; omega) (Ev.pos (by omega) (Ev.bind (l6Dec_1 _ (by omega) (by omega)) ?_)))
        rw [str_append, str_append]
        refine Ev.pos (by rw [strOfNums_size, strOfNums_size, List.length_append]; simp only [List.length_cons, List.length_nil]; omega) (Ev.pos (by rw [strOfNums_size, List.length_append, List.length_append]; simp only [List.length_cons, List.length_nil]; omega) (Ev.bind (l6Dec_1 _ (by omega) (by omega)) ?_))
        refine Ev.pos (by rw [strOfNums_size, strOfNums_size]; simp only [List.length_append, List.length_cons, List.length_nil]; omega) ?_
        rw [str_append, w64 (by omega) (by omega), List.drop_eq_getElem_cons hil, List.flatMap_cons]
        have e : acc ++ [32] ++ [48 + fs[i].f0] ++ [58] ++ [48 + fs[i].f1] = acc ++ fileL fs[i] := by simp [fileL]
        rw [e, List.append_assoc (fileL fs[i]), ← List.append_assoc acc]
        exact hr
    exact files fs.length 0 (by omega) [96 + n, 48 + v] (by simp)

-- impl_PkgOk
theorem pkB_eq (n v : Int) (fs : List Fl) (ds : List Dp) : pkB n v fs ds = pkgOk n v fs ds := by
  have eF : ∀ d i, okFrom (pkf1 fs) d i = allFrom (fileOk1 fs) d i := by
    intro d
    induction d with
    | zero => intro i; rfl
    | succ d ih => intro i; show (_ && _) = (_ && _); rw [ih]; rfl
  have eD : ∀ d i, okFrom (pkd1 n ds) d i = allFrom (depOk1 n ds) d i := by
    intro d
    induction d with
    | zero => intro i; rfl
    | succ d ih => intro i; show (_ && _) = (_ && _); rw [ih]; rfl
  unfold pkB pkpre pkgOk filesOk depsOk
  rw [eF, eD]
  show (inB n 1 4 && (inB v 1 5 && (decide (fs.length ≤ 2) && decide (ds.length ≤ 2))) && (allFrom (fileOk1 fs) fs.length 0 && allFrom (depOk1 n ds) ds.length 0)) = _
  cases inB n 1 4 <;> cases inB v 1 5 <;> cases allFrom (fileOk1 fs) fs.length 0 <;> cases allFrom (depOk1 n ds) ds.length 0 <;> cases decide (fs.length ≤ 2) <;> cases decide (ds.length ≤ 2) <;> rfl
theorem impl_PkgOk_v (n v : Int) (fs : List Fl) (ds : List Dp) (hf : fs.length ≤ 17592186044416) (hd : ds.length ≤ 17592186044416) : Ev (fun k => impl_PkgOk.f k n v fs ds) (pkgOk n v fs ds) := by
  rw [← pkB_eq]
  exact Ev.now _

-- impl_PkgText
theorem impl_PkgText_v (n v : Int) (fs : List Fl) (ds : List Dp) : Ev (fun k => impl_PkgText.f k n v fs ds) (pkgS n v fs ds) := by
  have e : ptS n v fs ds = pkgS n v fs ds := by
    unfold ptS pkgS
    rw [pkB_eq]
    rfl
  rw [← e]
  exact Ev.now _

-- spec_l6Open
/-- Bytes to draw from. -/
def BY (b : List Int) : Prop := (∀ x ∈ b, 0 ≤ x ∧ x ≤ 255) ∧ b.length ≤ 2000
theorem open_v (l : List Int) (hw : ∀ x ∈ l, (Lit.int .u8 x).wf = true) : ∃ b, spec_l6Open.f l = some (b, 0) ∧ BY b := by
  have h : ∀ x ∈ l, 0 ≤ x ∧ x ≤ 255 := by
    intro x hx
    have := hw x hx
    have e1 : IntKind.u8.min = 0 := rfl
    have e2 : IntKind.u8.max = 255 := rfl
    simp [Lit.wf, e1, e2] at this
    omega
  unfold spec_l6Open.f
  by_cases hl : (l.length : Int) > 2000
  · rw [if_pos hl, if_pos (by omega)]
    exact ⟨_, rfl, fun x hx => h x (List.mem_of_mem_take hx), by rw [List.length_take]; omega⟩
  · rw [if_neg hl]
    exact ⟨_, rfl, h, by omega⟩

-- spec_l6Rd_pick
theorem xor_i64 (a b : Nat) (ha : a < 4611686018427387904) (hb : b < 4611686018427387904) : Go.bits .xor .i64 (a : Int) (b : Int) = ((a ^^^ b : Nat) : Int) := by
  have hx : a ^^^ b < 2 ^ 62 := Nat.xor_lt_two_pow (by omega) (by omega)
  have e1 : a % 2 ^ 64 = a := Nat.mod_eq_of_lt (by omega)
  have e2 : b % 2 ^ 64 = b := Nat.mod_eq_of_lt (by omega)
  have e3 : ((BitVec.ofInt 64 (a : Int)) ^^^ (BitVec.ofInt 64 (b : Int))).toNat = a ^^^ b := by
    rw [BitVec.toNat_xor, BitVec.ofInt_natCast, BitVec.ofInt_natCast, BitVec.toNat_ofNat, BitVec.toNat_ofNat, e1, e2]
  show IntKind.i64.wrap (((BitVec.ofInt 64 (a : Int)) ^^^ (BitVec.ofInt 64 (b : Int))).toNat : Int) = _
  rw [e3, IntKind.wrap_i64]
  omega
theorem rd_by {b : List Int} (hb : BY b) (i : Int) : 0 ≤ rd b i ∧ rd b i ≤ 255 := by
  unfold rd
  by_cases h : i.toNat < b.length
  · rw [getD_of_lt h]
    exact hb.1 _ (List.getElem_mem _)
  · rw [show b.getD i.toNat 0 = 0 by simp [List.getD, h]]
    omega
/-- A number is drawn: 0 to n - 1; 0, if there is none. -/
theorem pick_v {b : List Int} (hb : BY b) (p n : Int) (h0 : 0 ≤ p) (h1 : p ≤ 1000000) (hn : n ≤ 1000000000) : ∃ v, Ev (fun k => spec_l6Rd_pick.f k b p n) (v, p + 1) ∧ 0 ≤ v ∧ (v < n ∨ v = 0) := by
  unfold spec_l6Rd_pick.f
  rw [w64 (n := p + 1) (by omega) (by omega)]
  by_cases h : n < 1
  · refine ⟨0, Ev.pos h (Ev.down ?_), by omega, .inr rfl⟩
    simp only [spec_l6Rd_pick.j0]
    exact Ev.pos (by simp) (Ev.now _)
  · have hlen := hb.2
    by_cases hl : b.length = 0
    · refine ⟨0, Ev.neg h (Ev.down ?_), by omega, .inr rfl⟩
      simp only [spec_l6Rd_pick.j0]
      exact Ev.pos (by simp [hl]) (Ev.now _)
    · have e1 : p + 1 - 1 = p := by omega
      have tm : ∀ x : Int, 0 ≤ x → 0 ≤ Int.tmod x n ∧ Int.tmod x n < n := fun x hx => by
        rw [Int.tmod_eq_emod_of_nonneg hx]
        exact ⟨Int.emod_nonneg _ (by omega), Int.emod_lt_of_pos _ (by omega)⟩
      by_cases hlt : p < (b.length : Int)
      · obtain ⟨r1, r2⟩ := rd_by hb p
        obtain ⟨t1, t2⟩ := tm (rd b p) r1
        refine ⟨Int.tmod (rd b p) n, Ev.neg h (Ev.down ?_), t1, .inl t2⟩
        simp only [spec_l6Rd_pick.j0]
        rw [e1, w64 (n := p) (by omega) (by omega), w64 (n := rd b p) (by omega) (by omega)]
        exact Ev.neg (by rw [beq_iff_eq]; omega) (Ev.pos hlt (Ev.pos h0 (Ev.neg (by omega) (Ev.now _))))
      · have lm : ∀ x : Int, 0 ≤ x → 0 ≤ Int.tmod x (b.length : Int) ∧ Int.tmod x (b.length : Int) < (b.length : Int) := fun x hx => by
          rw [Int.tmod_eq_emod_of_nonneg hx]
          exact ⟨Int.emod_nonneg _ (by omega), Int.emod_lt_of_pos _ (by omega)⟩
        obtain ⟨a1, a2⟩ := lm p h0
        obtain ⟨c1, c2⟩ := lm (p * 7 + 3) (by omega)
        obtain ⟨r1, r2⟩ := rd_by hb (Int.tmod p (b.length : Int))
        obtain ⟨s1, s2⟩ := rd_by hb (Int.tmod (p * 7 + 3) (b.length : Int))
        have q1 : 0 ≤ Int.tdiv p (b.length : Int) ∧ Int.tdiv p (b.length : Int) ≤ p := by
          rw [Int.tdiv_eq_ediv_of_nonneg h0]
          exact ⟨Int.ediv_nonneg h0 (by omega), Int.ediv_le_self _ h0⟩
        obtain ⟨q1, q2⟩ := q1
        obtain ⟨X, hX⟩ : ∃ X, X = rd b (Int.tmod p (b.length : Int)) * 131 + rd b (Int.tmod (p * 7 + 3) (b.length : Int)) * 1117 + p * 29 + Int.tdiv p (b.length : Int) * 53 := ⟨_, rfl⟩
        have X0 : 0 ≤ X := by omega
        have X1 : X ≤ 1000000000 := by omega
        have D : Int.tdiv X 64 = X / 64 := Int.tdiv_eq_ediv_of_nonneg X0
        have Y0 : 0 ≤ Go.bits .xor .i64 X (X / 64) := by
          obtain ⟨m, rfl⟩ := Int.eq_ofNat_of_zero_le X0
          rw [show ((m : Int) / 64) = ((m / 64 : Nat) : Int) by omega, xor_i64 _ _ (by omega) (by omega)]
          omega
        obtain ⟨t1, t2⟩ := tm _ Y0
        refine ⟨Int.tmod (Go.bits .xor .i64 X (X / 64)) n, Ev.neg h (Ev.down ?_), t1, .inl t2⟩
        simp only [spec_l6Rd_pick.j0]
        rw [e1, w64 (n := p) (by omega) (by omega), w64 (n := p * 7) (by omega) (by omega), w64 (n := p * 7 + 3) (by omega) (by omega)]
        refine Ev.neg (by rw [beq_iff_eq]; omega) (Ev.neg hlt (Ev.neg (by omega) (Ev.pos a1 (Ev.pos a2 (Ev.pos c1 (Ev.pos c2 (Ev.neg (by omega) ?_)))))))
        rw [w64 (n := rd b (Int.tmod p (b.length : Int))) (by omega) (by omega), w64 (n := rd b (Int.tmod (p * 7 + 3) (b.length : Int))) (by omega) (by omega), w64 (n := Int.tdiv p (b.length : Int)) (by omega) (by omega)]
        rw [w64 (n := rd b (Int.tmod p (b.length : Int)) * 131) (by omega) (by omega), w64 (n := rd b (Int.tmod (p * 7 + 3) (b.length : Int)) * 1117) (by omega) (by omega), w64 (n := p * 29) (by omega) (by omega), w64 (n := Int.tdiv p (b.length : Int) * 53) (by omega) (by omega)]
        rw [w64 (n := rd b (Int.tmod p (b.length : Int)) * 131 + rd b (Int.tmod (p * 7 + 3) (b.length : Int)) * 1117) (by omega) (by omega), w64 (n := rd b (Int.tmod p (b.length : Int)) * 131 + rd b (Int.tmod (p * 7 + 3) (b.length : Int)) * 1117 + p * 29) (by omega) (by omega), ← hX, w64 (n := X) (by omega) (by omega), D, w64 (n := X / 64) (by omega) (by omega)]
        exact Ev.now _

-- spec_l71Pkg
theorem l71Pkg_v {b : List Int} (hb : BY b) (p name ver : Int) (h0 : 0 ≤ p) (h1 : p ≤ 800000) : ∃ (fs : List Fl) (ds : List Dp) (p' : Int), Ev (fun k => spec_l71Pkg.f k b p name ver) (name, ver, fs, ds, p') ∧ fs.length ≤ 2 ∧ ds.length ≤ 2 ∧ p ≤ p' ∧ p' ≤ p + 20 := by
  have deps : ∀ d : Nat, d ≤ 4 → ∀ (p : Int) (fs : List Fl) (ds : List Dp), ds.length ≤ 2 → 0 ≤ p → p + 2 * d ≤ 900000 → ∃ (ds' : List Dp) (p' : Int), Ev (fun k => spec_l71Pkg.l1 k name (5 - (d : Int)) b p name ver fs ds) (name, ver, fs, ds', p') ∧ ds'.length ≤ 2 ∧ p ≤ p' ∧ p' ≤ p + 2 * d := by
    have stop : ∀ (d : Int) (p : Int) (fs : List Fl) (ds : List Dp), Ev (fun k => spec_l71Pkg.j3 k name d false b p name ver fs ds) (name, ver, fs, ds, p) := by
      intro d p fs ds
      refine Ev.down ?_
      simp only [spec_l71Pkg.j3]
      exact Ev.neg (by simp) (Ev.now _)
    intro d
    induction d with
    | zero =>
      intro _ p fs ds hd h0 h1
      refine ⟨ds, p, Ev.down ?_, hd, by omega, by omega⟩
      simp only [spec_l71Pkg.l1]
      exact Ev.neg (by omega) (stop _ _ _ _)
    | succ d ih =>
      intro hd p fs ds hl h0 h1
      have ew : wrap64 (5 - ((d + 1 : Nat) : Int) + 1) = 5 - (d : Int) := by rw [w64 (by omega) (by omega)]; omega
      by_cases h2 : (ds.length : Int) < 2
      · by_cases e : 5 - ((d + 1 : Nat) : Int) = name
        · obtain ⟨ds', p', hr, k1, k2, k3⟩ := ih (by omega) p fs ds hl h0 (by omega)
          refine ⟨ds', p', Ev.down ?_, k1, k2, by omega⟩
          simp only [spec_l71Pkg.l1]
          refine Ev.pos (by omega) ?_
          rw [decide_eq_true h2]
          refine Ev.down ?_
          simp only [spec_l71Pkg.j3]
          refine Ev.pos trivial (Ev.pos e ?_)
          rw [ew]; exact hr
        · obtain ⟨v, hv, v0, v1⟩ := pick_v hb p 6 h0 (by omega) (by omega)
          by_cases e2 : v = 0
          · obtain ⟨u, hu, u0, u1⟩ := pick_v hb (p + 1) 2 (by omega) (by omega) (by omega)
            obtain ⟨ds', p', hr, k1, k2, k3⟩ := ih (by omega) (p + 1 + 1) fs (ds ++ [⟨5 - ((d + 1 : Nat) : Int), 1 + u⟩]) (by simp; omega) (by omega) (by omega)
            refine ⟨ds', p', Ev.down ?_, k1, by omega, by omega⟩
            simp only [spec_l71Pkg.l1]
            refine Ev.pos (by omega) ?_
            rw [decide_eq_true h2]
            refine Ev.down ?_
            simp only [spec_l71Pkg.j3]
            refine Ev.pos trivial (Ev.neg e (Ev.bind hv (Ev.pos e2 (Ev.bind hu (Ev.pos (by omega) ?_)))))
            rw [ew, w64 (n := 1 + u) (by omega) (by omega)]; exact hr
          · obtain ⟨ds', p', hr, k1, k2, k3⟩ := ih (by omega) (p + 1) fs ds hl (by omega) (by omega)
            refine ⟨ds', p', Ev.down ?_, k1, by omega, by omega⟩
            simp only [spec_l71Pkg.l1]
            refine Ev.pos (by omega) ?_
            rw [decide_eq_true h2]
            refine Ev.down ?_
            simp only [spec_l71Pkg.j3]
            refine Ev.pos trivial (Ev.neg e (Ev.bind hv (Ev.neg e2 ?_)))
            rw [ew]; exact hr
      · refine ⟨ds, p, Ev.down ?_, hl, by omega, by omega⟩
        simp only [spec_l71Pkg.l1]
        refine Ev.pos (by omega) ?_
        rw [decide_eq_false h2]
        exact stop _ _ _ _
  have files : ∀ n : Nat, n ≤ 2 → ∀ (p a : Int) (fs : List Fl), fs.length ≤ 2 - n → 0 ≤ a → a ≤ 100 - 10 * n → 0 ≤ p → p + 2 * n ≤ 850000 → ∃ (fs' : List Fl) (ds' : List Dp) (p' : Int), Ev (fun k => spec_l71Pkg.l0 k name a (n : Int) b p name ver fs []) (name, ver, fs', ds', p') ∧ fs'.length ≤ 2 ∧ ds'.length ≤ 2 ∧ p ≤ p' ∧ p' ≤ p + 2 * n + 8 := by
    have stop : ∀ (a n p : Int) (fs : List Fl), 0 ≤ p → p ≤ 850000 → ∃ (ds' : List Dp) (p' : Int), Ev (fun k => spec_l71Pkg.j1 k name a n false b p name ver fs []) (name, ver, fs, ds', p') ∧ ds'.length ≤ 2 ∧ p ≤ p' ∧ p' ≤ p + 8 := by
      intro a n p fs h0 h1
      obtain ⟨ds', p', hr, k1, k2, k3⟩ := deps 4 (Nat.le_refl _) p fs [] (by simp) h0 (by omega)
      refine ⟨ds', p', Ev.down ?_, k1, k2, by omega⟩
      simp only [spec_l71Pkg.j1]
      exact Ev.neg (by simp) hr
    intro n
    induction n with
    | zero =>
      intro _ p a fs hl ha ha' h0 h1
      obtain ⟨ds', p', hr, k1, k2, k3⟩ := stop a 0 p fs h0 (by omega)
      refine ⟨fs, ds', p', Ev.down ?_, by omega, k1, k2, by omega⟩
      simp only [spec_l71Pkg.l0]
      exact Ev.neg (by omega) hr
    | succ n ih =>
      intro hn p a fs hl ha ha' h0 h1
      by_cases h6 : a < 6
      · obtain ⟨v, hv, v0, v1⟩ := pick_v hb p 10 h0 (by omega) (by omega)
        obtain ⟨u, hu, u0, u1⟩ := pick_v hb (p + 1) 3 (by omega) (by omega) (by omega)
        obtain ⟨fs', ds', p', hr, k0, k1, k2, k3⟩ := ih (by omega) (p + 1 + 1) (a + 1 + u) (fs ++ [⟨a, v⟩]) (by simp; omega) (by omega) (by omega) (by omega) (by omega)
        refine ⟨fs', ds', p', Ev.down ?_, k0, k1, by omega, by omega⟩
        simp only [spec_l71Pkg.l0]
        refine Ev.pos (by omega) ?_
        rw [decide_eq_true h6]
        refine Ev.down ?_
        simp only [spec_l71Pkg.j1]
        refine Ev.pos trivial (Ev.bind hv (Ev.pos (by omega) (Ev.bind hu ?_)))
        rw [w64 (n := a + 1) (by omega) (by omega), w64 (n := a + 1 + u) (by omega) (by omega), w64 (n := ((n + 1 : Nat) : Int) - 1) (by omega) (by omega), show ((n + 1 : Nat) : Int) - 1 = (n : Int) by omega]
        exact hr
      · obtain ⟨ds', p', hr, k1, k2, k3⟩ := stop a ((n + 1 : Nat) : Int) p fs h0 (by omega)
        refine ⟨fs, ds', p', Ev.down ?_, by omega, k1, k2, by omega⟩
        simp only [spec_l71Pkg.l0]
        refine Ev.pos (by omega) ?_
        rw [decide_eq_false h6]
        exact hr
  unfold spec_l71Pkg.f
  obtain ⟨v, hv, v0, v1⟩ := pick_v hb p 4 h0 (by omega) (by omega)
  obtain ⟨u, hu, u0, u1⟩ := pick_v hb (p + 1) 3 (by omega) (by omega) (by omega)
  obtain ⟨m, rfl⟩ := Int.eq_ofNat_of_zero_le u0
  obtain ⟨fs', ds', p', hr, k0, k1, k2, k3⟩ := files m (by omega) (p + 1 + 1) v [] (by simp) v0 (by omega) (by omega) (by omega)
  exact ⟨fs', ds', p', Ev.bind hv (Ev.bind hu hr), k0, k1, by omega, by omega⟩

-- spec_l71Any
theorem l71Any_v {b : List Int} (hb : BY b) (p : Int) (h0 : 0 ≤ p) (h1 : p ≤ 700000) : ∃ (name ver : Int) (fs : List Fl) (ds : List Dp) (p' : Int), Ev (fun k => spec_l71Any.f k b p) (name, ver, fs, ds, p') ∧ fs.length ≤ 3 ∧ ds.length ≤ 3 ∧ p ≤ p' ∧ p' ≤ p + 40 := by
  unfold spec_l71Any.f
  obtain ⟨v, hv, v0, v1⟩ := pick_v hb p 4 h0 (by omega) (by omega)
  obtain ⟨u, hu, u0, u1⟩ := pick_v hb (p + 1) 3 (by omega) (by omega) (by omega)
  obtain ⟨fs, ds, q, hq, k1, k2, k3, k4⟩ := l71Pkg_v hb (p + 1 + 1) (wrap64 (1 + v)) (wrap64 (1 + u)) (by omega) (by omega)
  obtain ⟨t, ht, t0, t1⟩ := pick_v hb q 20 (by omega) (by omega) (by omega)
  obtain ⟨s2, hs2, a0, a1⟩ := pick_v hb (q + 1) 2 (by omega) (by omega) (by omega)
  by_cases e0 : t = 0
  · refine ⟨_, _, _, _, _, Ev.bind hv (Ev.bind hu (Ev.bind hq (Ev.bind ht (Ev.pos e0 (Ev.bind (f := fun k y => _) (Ev.now _) (Ev.bind hs2 (Ev.pos a0 (Ev.pos (by simp; omega) (Ev.now _))))))))), by dsimp only; omega, by dsimp only; omega, by dsimp only; omega, by dsimp only; omega⟩
  · by_cases e1 : t = 1
    · refine ⟨_, _, _, _, _, Ev.bind hv (Ev.bind hu (Ev.bind hq (Ev.bind ht (Ev.neg e0 (Ev.pos e1 (Ev.bind (f := fun k y => _) (Ev.now _) (Ev.bind hs2 (Ev.pos a0 (Ev.pos (by simp; omega) (Ev.now _)))))))))), by dsimp only; omega, by dsimp only; omega, by dsimp only; omega, by dsimp only; omega⟩
    · by_cases e2 : t = 2
      · obtain ⟨s7, hs7, _, _⟩ := pick_v hb (q + 1) 7 (by omega) (by omega) (by omega)
        obtain ⟨s12, hs12, _, _⟩ := pick_v hb (q + 1 + 1) 12 (by omega) (by omega) (by omega)
        refine ⟨_, _, _, _, _, Ev.bind hv (Ev.bind hu (Ev.bind hq (Ev.bind ht (Ev.neg e0 (Ev.neg e1 (Ev.pos e2 (Ev.bind hs7 (Ev.bind hs12 (Ev.pos (by dsimp only; omega) (Ev.now _)))))))))), by (simp only [List.length_append, List.length_cons, List.length_nil]; omega), by (dsimp only; omega), by (dsimp only; omega), by (dsimp only; omega)⟩
      · by_cases e3 : t = 3
        · obtain ⟨s6, hs6, _, _⟩ := pick_v hb (q + 1) 6 (by omega) (by omega) (by omega)
          obtain ⟨s7, hs7, _, _⟩ := pick_v hb (q + 1 + 1) 7 (by omega) (by omega) (by omega)
          refine ⟨_, _, _, _, _, Ev.bind hv (Ev.bind hu (Ev.bind hq (Ev.bind ht (Ev.neg e0 (Ev.neg e1 (Ev.neg e2 (Ev.pos e3 (Ev.bind hs6 (Ev.bind hs7 (Ev.pos (by dsimp only; omega) (Ev.now _))))))))))), by (dsimp only; omega), by (simp only [List.length_append, List.length_cons, List.length_nil]; omega), by (dsimp only; omega), by (dsimp only; omega)⟩
        · exact ⟨_, _, _, _, _, Ev.bind hv (Ev.bind hu (Ev.bind hq (Ev.bind ht (Ev.neg e0 (Ev.neg e1 (Ev.neg e2 (Ev.neg e3 (Ev.now _)))))))), by dsimp only; omega, by dsimp only; omega, by dsimp only; omega, by dsimp only; omega⟩

-- spec_DrawPkgText
theorem DrawPkgText_v (l : List Int) (hw : ∀ x ∈ l, (Lit.int .u8 x).wf = true) : ∃ (name ver : Int) (fs : List Fl) (ds : List Dp), Ev (fun k => spec_DrawPkgText.f k l) (name, ver, fs, ds) ∧ fs.length ≤ 4 ∧ ds.length ≤ 3 := by
  obtain ⟨b, ho, hb⟩ := open_v l hw
  obtain ⟨name, ver, fs, ds, p, hr, k1, k2, k3, k4⟩ := l71Any_v hb 0 (by omega) (by omega)
  unfold spec_DrawPkgText.f
  exact ⟨_, _, _, _, Ev.bind (Ev.con ho) (Ev.bind hr (Ev.now _)), by (dsimp only; omega), by (dsimp only; omega)⟩

-- laws_luPkg
theorem luB_false {a b c d : Int} (h : a = b ∧ c = d) : (!(a == b) || !(c == d)) ≠ true := by
  rw [h.1, h.2]; simp
theorem luB_true {a b c d : Int} (h : ¬ (a = b ∧ c = d)) : (!(a == b) || !(c == d)) = true := by
  rw [Bool.or_eq_true, Bool.not_eq_true', Bool.not_eq_true', beq_eq_false_iff_ne, beq_eq_false_iff_ne]
  by_cases e : a = b
  · exact .inr fun e2 => h ⟨e, e2⟩
  · exact .inl e
theorem lu_l1 (n v : Int) (fs : List Fl) (ds : List Dp) (n' v' : Int) (fs' : List Fl) (ds' : List Dp) (hl : ds.length = ds'.length) (hb : ds.length ≤ 1000) : ∀ d i : Nat, i + d = ds.length → Ev (fun k => laws_luPkg.l1 k (i : Int) n v fs ds n' v' fs' ds') (decide (ds.drop i = ds'.drop i)) := by
  intro d
  induction d with
  | zero =>
    intro i hi
    refine Ev.down ?_
    simp only [laws_luPkg.l1]
    refine Ev.neg (by omega) (Ev.eq ?_)
    rw [List.drop_of_length_le (by omega), List.drop_of_length_le (by omega)]; simp
  | succ d ih =>
    intro i hi
    have h1 : i < ds.length := by omega
    have h2 : i < ds'.length := by omega
    have hr := ih (i + 1) (by omega)
    refine Ev.down ?_
    simp only [laws_luPkg.l1]
    rw [rdD_nat, rdD_nat, getD_of_lt h1, getD_of_lt h2]
    refine Ev.pos (by omega) (Ev.pos (by omega) (Ev.pos (by omega) ?_))
    rw [List.drop_eq_getElem_cons h1, List.drop_eq_getElem_cons h2]
    by_cases e : ds[i].f0 = ds'[i].f0 ∧ ds[i].f1 = ds'[i].f1
    · refine Ev.neg (luB_false e) ?_
      have e2 : ds[i] = ds'[i] := by
        obtain ⟨a, b⟩ := e
        cases hx : ds[i]; cases hy : ds'[i]
        rw [hx, hy] at a b
        exact congr (congrArg _ a) b
      rw [w64 (by omega) (by omega)]
      refine Ev.re hr ?_
      simp only [e2, List.cons.injEq, true_and]
    · refine Ev.pos (luB_true e) (Ev.eq ?_)
      symm
      rw [decide_eq_false_iff_not]
      intro e2
      injection e2 with e2 _
      exact e ⟨by rw [e2], by rw [e2]⟩
theorem lu_l0 (n v : Int) (fs : List Fl) (ds : List Dp) (n' v' : Int) (fs' : List Fl) (ds' : List Dp) (hl : ds.length = ds'.length) (hb : ds.length ≤ 1000) (hl0 : fs.length = fs'.length) (hb0 : fs.length ≤ 1000) : ∀ d i : Nat, i + d = fs.length → Ev (fun k => laws_luPkg.l0 k (i : Int) n v fs ds n' v' fs' ds') (decide (fs.drop i = fs'.drop i ∧ ds = ds')) := by
  intro d
  induction d with
  | zero =>
    intro i hi
    refine Ev.down ?_
    simp only [laws_luPkg.l0]
    refine Ev.neg (by omega) (Ev.re (lu_l1 n v fs ds n' v' fs' ds' hl hb ds.length 0 (by omega)) ?_)
    rw [List.drop_of_length_le (l := fs) (by omega), List.drop_of_length_le (l := fs') (by omega)]; simp
  | succ d ih =>
    intro i hi
    have h1 : i < fs.length := by omega
    have h2 : i < fs'.length := by omega
    have hr := ih (i + 1) (by omega)
    refine Ev.down ?_
    simp only [laws_luPkg.l0]
    rw [rdF_nat, rdF_nat, getD_of_lt h1, getD_of_lt h2]
    refine Ev.pos (by omega) (Ev.pos (by omega) (Ev.pos (by omega) ?_))
    rw [List.drop_eq_getElem_cons h1, List.drop_eq_getElem_cons h2]
    by_cases e : fs[i].f0 = fs'[i].f0 ∧ fs[i].f1 = fs'[i].f1
    · refine Ev.neg (luB_false e) ?_
      have e2 : fs[i] = fs'[i] := by
        obtain ⟨a, b⟩ := e
        cases hx : fs[i]; cases hy : fs'[i]
        rw [hx, hy] at a b
        exact congr (congrArg _ a) b
      rw [w64 (by omega) (by omega)]
      refine Ev.re hr ?_
      simp only [e2, List.cons.injEq, true_and]
    · refine Ev.pos (luB_true e) (Ev.eq ?_)
      symm
      rw [decide_eq_false_iff_not]
      rintro ⟨e2, _⟩
      injection e2 with e2 _
      exact e ⟨by rw [e2], by rw [e2]⟩
theorem luPkg_v (n v : Int) (fs : List Fl) (ds : List Dp) (n' v' : Int) (fs' : List Fl) (ds' : List Dp) (hb0 : fs.length ≤ 1000) (hb : ds.length ≤ 1000) : Ev (fun k => laws_luPkg.f k n v fs ds n' v' fs' ds') (decide (n = n' ∧ v = v' ∧ fs = fs' ∧ ds = ds')) := by
  have yes : Ev (fun k => laws_luPkg.j0 k true n v fs ds n' v' fs' ds') false := by
    refine Ev.down ?_
    simp only [laws_luPkg.j0]
    exact Ev.pos trivial (Ev.now _)
  unfold laws_luPkg.f
  by_cases e1 : n = n'
  · refine Ev.pos e1 ?_
    by_cases e2 : v = v'
    · refine Ev.pos e2 ?_
      by_cases e3 : (fs.length : Int) = fs'.length
      · refine Ev.pos e3 ?_
        by_cases e4 : (ds.length : Int) = ds'.length
        · have e4b : ((ds.length : Int) != (ds'.length : Int)) = false := bne_eq_false_iff_eq.2 e4
          rw [e4b]
          refine Ev.down ?_
          simp only [laws_luPkg.j0]
          refine Ev.neg (by simp) (Ev.re (lu_l0 n v fs ds n' v' fs' ds' (by omega) hb (by omega) hb0 fs.length 0 (by omega)) ?_)
          simp [e1, e2]
        · have e4b : ((ds.length : Int) != (ds'.length : Int)) = true := bne_iff_ne.2 e4
          rw [e4b]
          refine Ev.re yes ?_
          symm
          rw [decide_eq_false_iff_not]
          rintro ⟨_, _, _, h⟩
          exact e4 (by rw [h])
      · refine Ev.neg e3 (Ev.re yes ?_)
        symm
        rw [decide_eq_false_iff_not]
        rintro ⟨_, _, h, _⟩
        exact e3 (by rw [h])
    · refine Ev.neg e2 (Ev.re yes ?_)
      simp [e2]
  · refine Ev.neg e1 (Ev.re yes ?_)
    simp [e1]

-- the law
theorem FnPkgOne : laws_FnPkgOne.Pure := by
  intro l more hm hs hw hm' hs' hw'
  refine Ev.rounds (g := fun k => laws_FnPkgOne.f k l more) ?_
  unfold laws_FnPkgOne.f
  by_cases h : (l.length : Int) > 1048576
  · refine Ev.pos h (Ev.down ?_)
    simp only [laws_FnPkgOne.j0]
    exact Ev.pos (by simp) (Ev.now _)
  · refine Ev.neg h (Ev.down ?_)
    simp only [laws_FnPkgOne.j0]
    by_cases h' : (more.length : Int) > 1048576
    · exact Ev.pos (decide_eq_true h') (Ev.now _)
    · obtain ⟨n, v, fs, ds, hd, lf, ld⟩ := DrawPkgText_v l hw
      obtain ⟨n', v', fs', ds', hd', lf', ld'⟩ := DrawPkgText_v more hw'
      have P := spec_PkgText_v n v fs ds (by omega) (by omega)
      have P' := spec_PkgText_v n' v' fs' ds' (by omega) (by omega)
      refine Ev.neg (by simpa using h') (Ev.bind hd (Ev.bind hd' ?_))
      dsimp only
      refine Ev.bind (impl_PkgText_v n v fs ds) (Ev.bind (impl_PkgText_v n' v' fs' ds') (Ev.bind P (Ev.pos rfl (Ev.bind P' (Ev.pos rfl ?_)))))
      have yes : Ev (fun k => laws_FnPkgOne.j1 k (pkgS n v fs ds) (pkgS n' v' fs' ds') true n v fs ds n' v' fs' ds') true := by
        refine Ev.down ?_
        simp only [laws_FnPkgOne.j1]
        exact Ev.pos trivial (Ev.bind P (Ev.pos rfl (Ev.bind P' (Ev.eq (by simp)))))
      cases ok : pkgOk n v fs ds with
      | false => exact Ev.pos (by rw [pkgS_no ok, ← beq_iff_eq, str_isnil]; rfl) yes
      | true =>
        refine Ev.neg (by rw [pkgS_ok ok, ← beq_iff_eq, str_isnil]; simpa using pkgL_ne n v fs ds) ?_
        cases ok' : pkgOk n' v' fs' ds' with
        | false =>
          have e : ((pkgS n' v' fs' ds').toList == ([] : List UInt8)) = true := by rw [pkgS_no ok', str_isnil]; rfl
          rw [e]
          exact yes
        | true =>
          have e : ((pkgS n' v' fs' ds').toList == ([] : List UInt8)) = false := by rw [pkgS_ok ok', str_isnil]; simpa using pkgL_ne n' v' fs' ds'
          rw [e]
          refine Ev.down ?_
          simp only [laws_FnPkgOne.j1]
          refine Ev.neg (by simp) (Ev.bind (luPkg_v n v fs ds n' v' fs' ds' (by omega) (by omega)) (Ev.eq ?_))
          rw [beq_iff_eq, Bool.eq_iff_iff, beq_iff_eq, toList_inj, pkgS_eq_iff ok ok', decide_eq_true_eq]

end Go.Proofs.YtlmgnnpmcdeclaaDoor.Pure
