/- The program and the reference find the same first difference of a block, for every int64 and every list of int64. -/
import Derived.Test.YthmeohanbggnlaaSayFnExactFirstDifference
namespace Go.Proofs.Ythmeohanbggnlaa.Pure
open Go.RowKit Go.Proofs.Ythmeohanbggnlaa.PFnExactFirstDifference Go.Proofs.YthmeohanbggnlaaW.PrintWords Go.Proofs.YthmeohanbggnlaaW.PrintLast
-- BEGIN
theorem inS (a b c : Int) : spec_l01In.f a b c = some (decide (b ≤ a ∧ a ≤ c)) := by
  unfold spec_l01In.f
  by_cases h : b ≤ a <;> simp [h]

theorem inI (a b c : Int) : impl_inRange.f a b c = some (decide (b ≤ a ∧ a ≤ c)) := by
  unfold impl_inRange.f
  by_cases h : b ≤ a <;> simp [h]

def lineB (n b : Int) : Bool := decide (1 ≤ n ∧ n ≤ 12) && decide (0 ≤ b ∧ b ≤ 40)
theorem lineS (n b : Int) : spec_l14Line.f n b = some (lineB n b) := by
  unfold spec_l14Line.f lineB
  simp only [inS, Option.bind_some]
  by_cases h1 : (1 ≤ n ∧ n ≤ 12) <;> simp [h1]
theorem lineI (n b : Int) : impl_isLine.f n b = some (lineB n b) := by
  unfold impl_isLine.f lineB
  simp only [inI, Option.bind_some]
  by_cases h1 : (1 ≤ n ∧ n ≤ 12) <;> simp [h1]
theorem line_of {n b : Int} (h : lineB n b = true) : 1 ≤ n ∧ n ≤ 12 ∧ 0 ≤ b ∧ b ≤ 40 := by
  unfold lineB at h
  simp at h
  omega

/-- A proposition as a bool. -/
noncomputable def B (p : Prop) : Bool := @decide p (Classical.propDecidable p)
theorem B_iff {p : Prop} : B p = true ↔ p := by unfold B; exact @decide_eq_true_iff p (Classical.propDecidable p)
theorem B_true {p : Prop} (h : p) : B p = true := B_iff.2 h
theorem B_false {p : Prop} (h : ¬ p) : B p = false := by cases e : B p with | false => rfl | true => exact absurd (B_iff.1 e) h
theorem B_congr {p q : Prop} (h : p ↔ q) : B p = B q := by rw [propext h]
theorem B_dec (p : Prop) [Decidable p] : B p = decide p := by by_cases h : p <;> simp [h, B_true, B_false]
theorem B_and (p q : Prop) : (B p && B q) = B (p ∧ q) := by
  by_cases hp : p <;> by_cases hq : q <;> simp [B_true, B_false, hp, hq]
theorem B_not (p : Prop) : (!B p) = B (¬ p) := by by_cases hp : p <;> simp [B_true, B_false, hp]
theorem evSucc {α : Type} {g : Nat → Option α} {r : α} (h : Ev (fun k => g (k + 1)) r) : Ev g r := Ev.step (fun _ => rfl) h
theorem evNow {α : Type} {g : Nat → Option α} {r : α} (h : ∀ k, g k = some r) : Ev g r := ⟨0, fun k _ => h k⟩
theorem evCount {σ α : Type} (F : Nat → σ → Int → Option α) (i0 n : Nat) (S : Nat → σ) (r : α)
    (hstep : ∀ i, i0 ≤ i → i < n → Ev (fun k => F k (S (i + 1)) ((i + 1 : Nat) : Int)) r → Ev (fun k => F k (S i) (i : Int)) r) (hend : Ev (fun k => F k (S n) (n : Int)) r) (hle : i0 ≤ n) : Ev (fun k => F k (S i0) (i0 : Int)) r := by
  have key : ∀ d i, i0 ≤ i → i + d = n → Ev (fun k => F k (S i) (i : Int)) r := by
    intro d
    induction d with
    | zero =>
      intro i _ hi
      have h0 : i = n := by omega
      subst h0
      exact hend
    | succ d ih => intro i h0 hi; exact hstep i h0 (by omega) (ih (i + 1) (by omega) (by omega))
  exact key (n - i0) i0 (Nat.le_refl _) (by omega)
/-- A loop that leaves at the first place where G fails. -/
theorem evAll (F : Nat → Int → Option Bool) (i0 n : Nat) (G : Nat → Prop)
    (hstep : ∀ i, i0 ≤ i → i < n → G i → ∀ r, Ev (fun k => F k ((i + 1 : Nat) : Int)) r → Ev (fun k => F k (i : Int)) r) (hbad : ∀ i, i0 ≤ i → i < n → ¬ G i → Ev (fun k => F k (i : Int)) false) (e : Bool) (hend : Ev (fun k => F k (n : Int)) e) (hle : i0 ≤ n) :
    Ev (fun k => F k (i0 : Int)) (B (∀ j, i0 ≤ j → j < n → G j) && e) := by
  have key : ∀ d i, i0 ≤ i → i + d = n → Ev (fun k => F k (i : Int)) (B (∀ j, i ≤ j → j < n → G j) && e) := by
    intro d
    induction d with
    | zero =>
      intro i _ hi
      have h0 : i = n := by omega
      subst h0
      rw [B_true (fun j h1 h2 => absurd h2 (by omega)), Bool.true_and]
      exact hend
    | succ d ih =>
      intro i h0 hi
      by_cases hg : G i
      · have h1 : B (∀ j, i ≤ j → j < n → G j) = B (∀ j, i + 1 ≤ j → j < n → G j) := B_congr ⟨fun h j a b => h j (by omega) b, fun h j a b => by
          by_cases e : j = i
          · subst e; exact hg
          · exact h j (by omega) b⟩
        rw [h1]
        exact hstep i h0 (by omega) hg _ (ih (i + 1) (by omega) (by omega))
      · rw [B_false (fun h => hg (h i (Nat.le_refl _) (by omega))), Bool.false_and]
        exact hbad i h0 (by omega) hg
  exact key (n - i0) i0 (Nat.le_refl _) (by omega)
theorem wrapNat {i : Nat} (h : i < 4611686018427387904) : wrap64 ((i : Int) + 1) = ((i + 1 : Nat) : Int) := by
  unfold wrap64; omega
theorem wrapPred {i : Nat} (h0 : 1 ≤ i) (h : i < 4611686018427387904) : wrap64 ((i : Int) - 1) = ((i - 1 : Nat) : Int) := by
  unfold wrap64; omega
theorem rdN (xs : List Int) (i : Nat) (h : i < xs.length) : rd xs (i : Int) = xs[i] := by
  simp [rd, List.getD_eq_getElem?_getD, List.getElem?_eq_getElem h]
theorem fillStep {α : Type} (xs : List α) (z : α) (i : Nat) (h : i < xs.length) : (xs.take i ++ List.replicate (xs.length - i) z).set i xs[i] = xs.take (i + 1) ++ List.replicate (xs.length - (i + 1)) z := by
  have h1 : xs.length - i = (xs.length - (i + 1)) + 1 := by omega
  rw [h1, List.replicate_succ, List.set_append_right _ _ (by rw [List.length_take]; omega)]
  rw [List.length_take, Nat.min_eq_left (by omega), Nat.sub_self, List.set_cons_zero, List.take_succ_eq_append_getElem h, List.append_assoc]
  rfl
theorem fillLen {α : Type} (xs : List α) (z : α) (i : Nat) (h : i ≤ xs.length) : (xs.take i ++ List.replicate (xs.length - i) z).length = xs.length := by
  simp; omega

def InAll (l : List Int) (a b : Int) : Prop := ∀ j, 0 ≤ j → j < l.length → a ≤ rd l (j : Int) ∧ rd l (j : Int) ≤ b
theorem inAll_mem {l : List Int} {a b : Int} : InAll l a b ↔ ∀ x ∈ l, a ≤ x ∧ x ≤ b := by
  constructor
  · intro h x hx
    obtain ⟨i, hi, rfl⟩ := List.mem_iff_getElem.1 hx
    have := h i (Nat.zero_le _) hi
    rwa [rdN l i hi] at this
  · intro h j _ hj
    rw [rdN l j hj]
    exact h _ (List.getElem_mem hj)
theorem allIn_all (l : List Int) (a b : Int) : (l.all fun x => decide (a ≤ x ∧ x ≤ b)) = B (InAll l a b) := by
  by_cases h : InAll l a b
  · rw [B_true h, List.all_eq_true]
    exact fun x hx => decide_eq_true (inAll_mem.1 h x hx)
  · rw [B_false h, Bool.eq_false_iff]
    intro h2
    exact h (inAll_mem.2 fun x hx => of_decide_eq_true (List.all_eq_true.1 h2 x hx))

theorem withinS (l : List Int) (m a b : Int) (h : l.length ≤ 1048576) : Ev (fun k => spec_l01Within.f k l m a b) (B (InAll l a b) && decide ((l.length : Int) ≤ m)) := by
  unfold spec_l01Within.f
  have := evAll (fun k i => spec_l01Within.l0 k l m a b i) 0 l.length (fun j => a ≤ rd l (j : Int) ∧ rd l (j : Int) ≤ b) ?_ ?_ (decide ((l.length : Int) ≤ m)) ?_ (Nat.zero_le _)
  · exact this
  · intro i h0 hi hg r hr
    refine evSucc ?_
    have e1 : (i : Int) < (l.length : Int) := by omega
    have e2 : (0 : Int) ≤ (i : Int) := by omega
    simp only [spec_l01Within.l0, inS, Option.bind_some, e1, e2, decide_eq_true hg, if_true, wrapNat (show i < 4611686018427387904 by omega)]
    exact hr
  · intro i h0 hi hg
    refine evSucc ?_
    have e1 : (i : Int) < (l.length : Int) := by omega
    have e2 : (0 : Int) ≤ (i : Int) := by omega
    simp only [spec_l01Within.l0, inS, Option.bind_some, e1, e2, decide_eq_false hg, if_true, if_false, Bool.false_eq_true]
    exact Ev.now _
  · refine evSucc ?_
    simp only [spec_l01Within.l0, Int.lt_irrefl, if_false]
    exact Ev.now _

noncomputable def blkB (n : Int) (l : List Int) : Bool := B (lineB n 0 = true ∧ (l.length : Int) ≤ 2 * n ∧ InAll l (-n) n ∧ ¬ (0 : Int) ∈ l)
theorem blk_of {n : Int} {l : List Int} (h : blkB n l = true) : lineB n 0 = true ∧ (l.length : Int) ≤ 2 * n ∧ InAll l (-n) n ∧ ¬ (0 : Int) ∈ l := B_iff.1 h

theorem hasS (l : List Int) (v : Int) (hl : l.length ≤ 1048576) : Ev (fun k => spec_l01Has.f k l v) (B (v ∈ l)) := by
  unfold spec_l01Has.f
  have key : ∀ d i : Nat, i + d = l.length → Ev (fun k => spec_l01Has.l0 k l v (i : Int)) (B (v ∈ l.drop i)) := by
    intro d
    induction d with
    | zero =>
      intro i hi
      refine evSucc ?_
      rw [List.drop_of_length_le (by omega), B_false (by simp)]
      simp only [spec_l01Has.l0, show ¬ ((i : Int) < (l.length : Int)) by omega, if_false]
      exact Ev.now _
    | succ d ih =>
      intro i hi
      have hlt : i < l.length := by omega
      refine evSucc ?_
      simp only [spec_l01Has.l0, show (i : Int) < (l.length : Int) by omega, show (0 : Int) ≤ (i : Int) by omega, if_true, rdN l i hlt, wrapNat (show i < 4611686018427387904 by omega)]
      rw [List.drop_eq_getElem_cons hlt]
      by_cases c : l[i] = v
      · simp only [c, if_true]
        rw [B_true (by simp)]
        exact Ev.now _
      · simp only [c, if_false]
        have e : B (v ∈ l[i] :: l.drop (i + 1)) = B (v ∈ l.drop (i + 1)) := B_congr (by simp only [List.mem_cons]; exact ⟨fun h => h.resolve_left (fun h => c h.symm), Or.inr⟩)
        rw [e]
        exact ih (i + 1) (by omega)
  simpa using key l.length 0 (by omega)

theorem wrapIn {x : Int} (h0 : -9223372036854775808 ≤ x) (h1 : x ≤ 9223372036854775807) : wrap64 x = x := by
  unfold wrap64; omega

theorem blkS (n : Int) (l : List Int) (hl : l.length ≤ 1048576) : Ev (fun k => spec_l14Fits.f k n l) (blkB n l) := by
  unfold spec_l14Fits.f blkB
  simp only [lineS, Option.bind_some]
  cases h : lineB n 0
  · simp only [Bool.false_eq_true, if_false, false_and]
    rw [B_false (fun h => h)]
    exact Ev.now _
  · have hn := line_of h
    simp only [if_true, true_and, wrapIn (show -9223372036854775808 ≤ -n by omega) (show -n ≤ 9223372036854775807 by omega), wrapIn (show -9223372036854775808 ≤ 2 * n by omega) (show 2 * n ≤ 9223372036854775807 by omega)]
    refine Ev.bind (withinS l 24 (-n) n hl) ?_
    by_cases hi : InAll l (-n) n
    · simp only [B_true hi, Bool.true_and, decide_eq_true_eq]
      by_cases h24 : (l.length : Int) ≤ 24
      · simp only [h24, if_true]
        by_cases h2 : (l.length : Int) ≤ 2 * n
        · simp only [h2, if_true, true_and]
          refine Ev.bind (hasS l 0 hl) ?_
          rw [B_not]
          have e : B (¬ (0 : Int) ∈ l) = B (InAll l (-n) n ∧ ¬ (0 : Int) ∈ l) := B_congr ⟨fun h => ⟨hi, h⟩, fun h => h.2⟩
          rw [e]
          exact Ev.now _
        · simp only [h2, if_false, false_and]
          rw [B_false (fun h => h)]
          exact Ev.now _
      · simp only [h24, if_false]
        rw [B_false (fun h => h24 (by omega))]
        exact Ev.now _
    · simp only [B_false hi, Bool.false_and, Bool.false_eq_true, if_false]
      rw [B_false (fun h => hi h.2.1)]
      exact Ev.now _

theorem containsI (l : List Int) (v : Int) (hl : l.length ≤ 1048576) : Ev (fun k => slices_Contains_int64_int64.f k l v) (B (v ∈ l)) := by
  unfold slices_Contains_int64_int64.f slices_Index_int64_int64.f
  have key : ∀ d i : Nat, i + d = l.length → ∃ r, Ev (fun k => slices_Index_int64_int64.l0 k l v (l.length : Int) (i : Int)) r ∧ (r ≥ 0 ↔ v ∈ l.drop i) := by
    intro d
    induction d with
    | zero =>
      intro i hi
      refine ⟨-1, evSucc ?_, ?_⟩
      · simp only [slices_Index_int64_int64.l0, show ¬ ((i : Int) < (l.length : Int)) by omega, if_false]
        exact Ev.now _
      · rw [List.drop_of_length_le (by omega)]
        simp
    | succ d ih =>
      intro i hi
      have hlt : i < l.length := by omega
      rw [List.drop_eq_getElem_cons hlt]
      by_cases c : v = l[i]
      · refine ⟨i, evSucc ?_, ?_⟩
        · simp only [slices_Index_int64_int64.l0, show (i : Int) < (l.length : Int) by omega, show (0 : Int) ≤ (i : Int) by omega, if_true, rdN l i hlt, c]
          exact Ev.now _
        · simp only [← c, List.mem_cons, true_or, iff_true]
          omega
      · obtain ⟨r, h1, h2⟩ := ih (i + 1) (by omega)
        refine ⟨r, evSucc ?_, ?_⟩
        · simp only [slices_Index_int64_int64.l0, show (i : Int) < (l.length : Int) by omega, show (0 : Int) ≤ (i : Int) by omega, if_true, rdN l i hlt, c, if_false, wrapNat (show i < 4611686018427387904 by omega)]
          exact h1
        · rw [h2]
          simp only [List.mem_cons, c, false_or]
  obtain ⟨r, h1, h2⟩ := key l.length 0 (by omega)
  refine Ev.bind h1 ?_
  have e : decide (r ≥ 0) = B (v ∈ l) := by
    rw [← B_dec]
    exact B_congr (by simpa using h2)
  rw [e]
  exact Ev.now _

theorem blkI (n : Int) (l : List Int) (hl : l.length ≤ 1048576) : Ev (fun k => impl_isBlock.f k n l) (blkB n l) := by
  unfold impl_isBlock.f blkB impl_length_int64.f impl_allIn.f
  simp only [lineI, Option.bind_some, allIn_all]
  cases h : lineB n 0
  · simp only [Bool.false_eq_true, if_false, false_and]
    rw [B_false (fun h => h)]
    exact Ev.now _
  · have hn := line_of h
    simp only [if_true, true_and, wrapIn (show -9223372036854775808 ≤ -n by omega) (show -n ≤ 9223372036854775807 by omega), wrapIn (show -9223372036854775808 ≤ 2 * n by omega) (show 2 * n ≤ 9223372036854775807 by omega)]
    by_cases h2 : (l.length : Int) ≤ 2 * n
    · simp only [h2, if_true, true_and]
      by_cases hi : InAll l (-n) n
      · simp only [B_true hi, if_true]
        refine Ev.bind (containsI l 0 hl) ?_
        rw [B_not]
        have e : B (¬ (0 : Int) ∈ l) = B (InAll l (-n) n ∧ ¬ (0 : Int) ∈ l) := B_congr ⟨fun h => ⟨hi, h⟩, fun h => h.2⟩
        rw [e]
        exact Ev.now _
      · simp only [B_false hi, Bool.false_eq_true, if_false]
        rw [B_false (fun h => hi h.1)]
        exact Ev.now _
    · simp only [h2, if_false, false_and]
      rw [B_false (fun h => h)]
      exact Ev.now _

def marks (i : Nat) : List Int := (List.range i).map fun (j : Nat) => (j : Int) + 1
theorem marks_len (i : Nat) : (marks i).length = i := by simp [marks]
theorem marks_succ (i : Nat) : marks (i + 1) = marks i ++ [(i : Int) + 1] := by simp [marks, List.range_succ]
theorem marks_get (n i : Nat) (h : i < n) : rd (marks n) (i : Int) = (i : Int) + 1 := by
  rw [rdN _ _ (by rw [marks_len]; exact h)]
  simp [marks]
theorem set_marks (l : List Int) (i : Nat) (h : i < l.length) : (marks i ++ l.drop i).set i ((i : Int) + 1) = marks (i + 1) ++ l.drop (i + 1) := by
  rw [List.set_append_right _ _ (by rw [marks_len]; omega), marks_len, Nat.sub_self, List.drop_eq_getElem_cons h, List.set_cons_zero, marks_succ, List.append_assoc]
  rfl

theorem rightS (n b : Int) (h0 : 0 ≤ n) (h1 : n ≤ 100) : Ev (fun k => spec_l14Block.f k n b []) (marks n.toNat) := by
  obtain ⟨m, rfl⟩ := Int.eq_ofNat_of_zero_le h0
  unfold spec_l14Block.f
  have := evCount (fun k (s : List Int) i => spec_l14Block.l0 k (m : Int) b [] s i) 0 m (fun i => marks i) (marks m) ?_ ?_ (Nat.zero_le _)
  · simpa [marks] using this
  · intro i _ hi hr
    refine evSucc (evSucc ?_)
    simp only [spec_l14Block.l0, spec_l14Block.l1, spec_l14Part.f, show (i : Int) < (m : Int) by omega, if_true, show ¬ ((0 : Int) = 1) by decide, show ¬ ((0 : Int) = 2) by decide, show ¬ ((0 : Int) = 3) by decide, show ¬ ((0 : Int) = 4) by decide, if_false, Option.bind_some, List.length_nil, show ¬ ((0 : Int) < ((0 : Nat) : Int)) by decide, marks_len, List.length_cons,
      show i + (0 + 1) < 17592186044416 by omega, wrapIn (show -9223372036854775808 ≤ (i : Int) + 1 by omega) (show (i : Int) + 1 ≤ 9223372036854775807 by omega)]
    rw [marks_succ] at hr
    obtain ⟨K, hK⟩ := hr
    exact ⟨K, fun k hk => hK k hk⟩
  · refine evSucc ?_
    simp only [spec_l14Block.l0, Int.lt_irrefl, if_false]
    exact Ev.now _

theorem rightI (n : Int) (h0 : 0 ≤ n) (h1 : n ≤ 100) : Ev (fun k => impl_rightBlock.f k n) (marks n.toNat) := by
  obtain ⟨m, rfl⟩ := Int.eq_ofNat_of_zero_le h0
  unfold impl_rightBlock.f
  have := evCount (fun k (s : List Int) i => impl_rightBlock.l0 k s (m : Int) i) 0 m (fun i => marks i) (marks m) ?_ ?_ (Nat.zero_le _)
  · simpa [marks] using this
  · intro i _ hi hr
    refine evSucc ?_
    simp only [impl_rightBlock.l0, marks_len, show (i : Int) < (m : Int) by omega, show i < 17592186044416 by omega, if_true, wrapIn (show -9223372036854775808 ≤ (i : Int) + 1 by omega) (show (i : Int) + 1 ≤ 9223372036854775807 by omega)]
    rw [marks_succ] at hr
    exact hr
  · refine evSucc ?_
    simp only [impl_rightBlock.l0, Int.lt_irrefl, if_false]
    exact Ev.now _

def diffL : List Int → List Int → Int → Int × Int
  | [], [], _ => (0, 4)
  | [], _ :: _, i => (i, 0)
  | _ :: _, [], i => (i, 0)
  | x :: xs, y :: ys, i => if x = y then diffL xs ys (i + 1) else (i, 0)
theorem diff_past (l r : List Int) (i : Nat) (h1 : l.length ≤ i) (h2 : r.length ≤ i) : diffL (l.drop i) (r.drop i) i = (0, 4) := by
  rw [List.drop_of_length_le h1, List.drop_of_length_le h2]
  rfl
theorem diff_left (l r : List Int) (i : Nat) (h1 : l.length ≤ i) (h2 : i < r.length) : diffL (l.drop i) (r.drop i) i = ((i : Int), 0) := by
  rw [List.drop_of_length_le h1, List.drop_eq_getElem_cons h2]
  rfl
theorem diff_right (l r : List Int) (i : Nat) (h1 : i < l.length) (h2 : r.length ≤ i) : diffL (l.drop i) (r.drop i) i = ((i : Int), 0) := by
  rw [List.drop_of_length_le h2, List.drop_eq_getElem_cons h1]
  rfl
theorem diff_both (l r : List Int) (i : Nat) (h1 : i < l.length) (h2 : i < r.length) : diffL (l.drop i) (r.drop i) i = if l[i] = r[i] then diffL (l.drop (i + 1)) (r.drop (i + 1)) ((i + 1 : Nat) : Int) else ((i : Int), 0) := by
  rw [List.drop_eq_getElem_cons h1, List.drop_eq_getElem_cons h2]
  rfl
theorem diff_loopS (l r : List Int) (hl : l.length ≤ 1048576) (hr : r.length ≤ 1048576) (d : Nat) : ∀ i : Nat, i + d = max l.length r.length → Ev (fun k => spec_FirstDifference.l0 k l r (i : Int)) (diffL (l.drop i) (r.drop i) i) := by
  induction d with
  | zero =>
    intro i hi
    refine evSucc (evSucc ?_)
    rw [diff_past l r i (by omega) (by omega)]
    simp only [spec_FirstDifference.l0, spec_FirstDifference.j1, show ¬ ((i : Int) < (r.length : Int)) by omega, show ¬ ((i : Int) < (l.length : Int)) by omega, if_false, decide_false, Bool.false_eq_true]
    exact Ev.now _
  | succ d ih =>
    intro i hi
    by_cases c1 : i < r.length
    · by_cases c2 : i < l.length
      · refine evSucc (evSucc ?_)
        rw [diff_both l r i c2 c1]
        simp only [spec_FirstDifference.l0, spec_FirstDifference.j1, show (i : Int) < (r.length : Int) by omega, show (i : Int) < (l.length : Int) by omega, show ¬ ((i : Int) ≥ (r.length : Int)) by omega, show ¬ ((i : Int) ≥ (l.length : Int)) by omega, show (0 : Int) ≤ (i : Int) by omega, if_true, if_false, rdN r i c1, rdN l i c2, wrapNat (show i < 4611686018427387904 by omega)]
        by_cases e : l[i] = r[i]
        · simp only [e, if_true]
          exact ih (i + 1) (by omega)
        · simp only [e, show ¬ (r[i] = l[i]) from fun h => e h.symm, if_false]
          exact Ev.now _
      · refine evSucc (evSucc ?_)
        rw [diff_left l r i (by omega) c1]
        simp only [spec_FirstDifference.l0, spec_FirstDifference.j1, show (i : Int) < (r.length : Int) by omega, show ¬ ((i : Int) ≥ (r.length : Int)) by omega, show (i : Int) ≥ (l.length : Int) by omega, if_true, if_false]
        exact Ev.now _
    · refine evSucc (evSucc ?_)
      rw [diff_right l r i (by omega) (by omega)]
      simp only [spec_FirstDifference.l0, spec_FirstDifference.j1, show ¬ ((i : Int) < (r.length : Int)) by omega, show (i : Int) < (l.length : Int) by omega, show (i : Int) ≥ (r.length : Int) by omega, decide_true, if_true, if_false]
      exact Ev.now _
theorem diff_loopI (l r : List Int) (hl : l.length ≤ 1048576) (hr : r.length ≤ 1048576) (d : Nat) : ∀ i : Nat, i + d = max l.length r.length → Ev (fun k => impl_FirstDifference.l0 k l r ((max l.length r.length : Nat) : Int) (i : Int)) (diffL (l.drop i) (r.drop i) i) := by
  induction d with
  | zero =>
    intro i hi
    refine evSucc ?_
    rw [diff_past l r i (by omega) (by omega)]
    simp only [impl_FirstDifference.l0, show ¬ ((i : Int) < ((max l.length r.length : Nat) : Int)) by omega, if_false]
    exact Ev.now _
  | succ d ih =>
    intro i hi
    have c0 : (i : Int) < ((max l.length r.length : Nat) : Int) := by omega
    by_cases c2 : i < l.length
    · by_cases c1 : i < r.length
      · refine evSucc ?_
        rw [diff_both l r i c2 c1]
        simp only [impl_FirstDifference.l0, c0, show (i : Int) < (r.length : Int) by omega, show (i : Int) < (l.length : Int) by omega, show ¬ ((i : Int) ≥ (r.length : Int)) by omega, show ¬ ((i : Int) ≥ (l.length : Int)) by omega, show (0 : Int) ≤ (i : Int) by omega, if_true, if_false, rdN r i c1, rdN l i c2, wrapNat (show i < 4611686018427387904 by omega)]
        by_cases e : l[i] = r[i]
        · simp only [e, if_true]
          exact ih (i + 1) (by omega)
        · simp only [e, if_false]
          exact Ev.now _
      · refine evSucc ?_
        rw [diff_right l r i c2 (by omega)]
        simp only [impl_FirstDifference.l0, c0, show (i : Int) ≥ (r.length : Int) by omega, show ¬ ((i : Int) ≥ (l.length : Int)) by omega, if_true, if_false]
        exact Ev.now _
    · refine evSucc ?_
      rw [diff_left l r i (by omega) (by omega)]
      simp only [impl_FirstDifference.l0, c0, show (i : Int) ≥ (l.length : Int) by omega, if_true]
      exact Ev.now _
noncomputable def firstV (n : Int) (l : List Int) : Int × Int := if blkB n l = true then diffL l (marks n.toNat) 0 else (0, 2)
theorem firstS (n : Int) (l : List Int) (hl : l.length ≤ 1048576) : Ev (fun k => spec_FirstDifference.f k n l) (firstV n l) := by
  unfold spec_FirstDifference.f firstV
  refine Ev.bind (blkS n l hl) ?_
  cases h : blkB n l
  · simp only [Bool.false_eq_true, if_false]
    exact Ev.now _
  · have hn := line_of (blk_of h).1
    simp only [if_true]
    refine Ev.bind (rightS n 0 (by omega) (by omega)) ?_
    exact diff_loopS l (marks n.toNat) hl (by rw [marks_len]; omega) _ 0 (Nat.zero_add _)
theorem firstI (n : Int) (l : List Int) (hl : l.length ≤ 1048576) : Ev (fun k => impl_FirstDifference.f k n l) (firstV n l) := by
  unfold impl_FirstDifference.f firstV
  refine Ev.bind (blkI n l hl) ?_
  cases h : blkB n l
  · simp only [Bool.false_eq_true, if_false]
    exact Ev.now _
  · have hn := line_of (blk_of h).1
    simp only [if_true]
    refine Ev.bind (rightI n (by omega) (by omega)) ?_
    have e : mx (l.length : Int) ((marks n.toNat).length : Int) = ((max l.length (marks n.toNat).length : Nat) : Int) := by
      unfold mx
      split <;> omega
    rw [e]
    exact diff_loopI l (marks n.toNat) hl (by rw [marks_len]; omega) _ 0 (Nat.zero_add _)

theorem toInt64S (l : List Int) (h : l.length ≤ 1048576) : Ev (fun k => laws_toInt64S.f k l) l := by
  unfold laws_toInt64S.f
  simp only [Int.toNat_natCast]
  rw [show (fun k => if 0 ≤ (l.length : Int) then (if l.length ≤ 35184372088832 then laws_toInt64S.l0 k l (List.replicate l.length 0) 0 else none) else none) = fun k => laws_toInt64S.l0 k l (List.replicate l.length 0) 0 from by
    funext k; rw [if_pos (by omega), if_pos (by omega)]]
  have := evCount (fun k s i => laws_toInt64S.l0 k l s i) 0 l.length (fun i => l.take i ++ List.replicate (l.length - i) 0) l ?_ ?_ (Nat.zero_le _)
  · simpa using this
  · intro i _ hi h
    refine evSucc ?_
    simp only [laws_toInt64S.l0]
    have hl := fillLen l (0 : Int) i (by omega)
    have h1 : (i : Int) < (l.length : Int) := by omega
    have h2 : (0 : Int) ≤ (i : Int) := by omega
    have h3 : (i : Int) < ((l.take i ++ List.replicate (l.length - i) (0 : Int)).length : Int) := by rw [hl]; omega
    simp only [h1, h2, h3, if_true, Int.toNat_natCast, rdN l i hi, fillStep l 0 i hi, wrapNat (show i < 4611686018427387904 by omega)]
    exact h
  · refine evSucc ?_
    simp only [laws_toInt64S.l0, Int.lt_irrefl, if_false, List.take_length, Nat.sub_self, List.replicate_zero, List.append_nil]
    exact Ev.now _

theorem eqInt64S (l : List Int) (h : l.length ≤ 1048576) : Ev (fun k => laws_eqInt64S.f k l l) true := by
  unfold laws_eqInt64S.f
  simp only [if_true]
  have := evAll (fun k i => laws_eqInt64S.l0 k l l i) 0 l.length (fun _ => True) ?_ (fun i _ hi hn => absurd trivial hn) true ?_ (Nat.zero_le _)
  · simpa [B_true] using this
  · intro i _ hi _ r h
    refine evSucc ?_
    have h1 : (i : Int) < (l.length : Int) := by omega
    have h2 : (0 : Int) ≤ (i : Int) := by omega
    simp only [laws_eqInt64S.l0, h1, h2, if_true, wrapNat (show i < 4611686018427387904 by omega)]
    exact h
  · refine evSucc ?_
    simp only [laws_eqInt64S.l0, Int.lt_irrefl, if_false]
    exact Ev.now _



theorem FnExactFirstDifference : laws_FnExactFirstDifference.Pure := by
  intro n l _ _ _ _
  refine Ev.rounds ?_
  unfold laws_FnExactFirstDifference.f
  by_cases hl : (l.length : Int) > 1048576
  · simp only [hl, if_true]
    exact Ev.now _
  · simp only [hl, if_false]
    have h : l.length ≤ 1048576 := by omega
    refine Ev.bind (toInt64S l h) (Ev.bind (firstS n l h) (Ev.bind (toInt64S l h) (Ev.bind (firstI n l h) ?_)))
    simp only [if_true, bne_self_eq_false]
    refine evSucc ?_
    simp only [laws_FnExactFirstDifference.j0, Bool.false_eq_true, if_false]
    refine Ev.bind (toInt64S l h) (Ev.bind (eqInt64S l h) ?_)
    simp only [if_true]
    exact Ev.now _

end Go.Proofs.Ythmeohanbggnlaa.Pure
