/- The program and the reference count the same faults of a block, for every int64 and every list of int64. -/
import Derived.Test.YthmeohanbggnlaaSayFnExactCountFaults
namespace Go.Proofs.Ythmeohanbggnlaa.Pure
open Go.RowKit Go.Proofs.Ythmeohanbggnlaa.PFnExactCountFaults Go.Proofs.YthmeohanbggnlaaW.PrintWords Go.Proofs.YthmeohanbggnlaaW.PrintLast
set_option linter.unusedVariables false
set_option linter.unusedSimpArgs false
-- BEGIN
theorem inS (a b c : Int) : spec_l01In.f a b c = some (decide (b ≤ a ∧ a ≤ c)) := by
  unfold spec_l01In.f
  by_cases h : b ≤ a <;> simp [h]

theorem inI (a b c : Int) : impl_inRange.f a b c = some (decide (b ≤ a ∧ a ≤ c)) := by
  unfold impl_inRange.f
  by_cases h : b ≤ a <;> simp [h]

def lineB (n b : Int) : Bool := decide (1 ≤ n ∧ n ≤ 12) && decide (0 ≤ b ∧ b ≤ 40)
theorem lineS (n b : Int) : spec_l14Line.f n b = some (lineB n b) := by
  unfold spec_l14Line.f lineB
  simp only [inS, Option.bind_some]
  by_cases h1 : (1 ≤ n ∧ n ≤ 12) <;> simp [h1]
theorem lineI (n b : Int) : impl_isLine.f n b = some (lineB n b) := by
  unfold impl_isLine.f lineB
  simp only [inI, Option.bind_some]
  by_cases h1 : (1 ≤ n ∧ n ≤ 12) <;> simp [h1]

theorem line4_of {n b : Int} (h : lineB n b = true) : 1 ≤ n ∧ n ≤ 12 ∧ 0 ≤ b ∧ b ≤ 40 := by
  unfold lineB at h
  simp at h
  omega

/-- A proposition as a bool. -/
noncomputable def B (p : Prop) : Bool := @decide p (Classical.propDecidable p)
theorem B_iff {p : Prop} : B p = true ↔ p := by unfold B; exact @decide_eq_true_iff p (Classical.propDecidable p)
theorem B_true {p : Prop} (h : p) : B p = true := B_iff.2 h
theorem B_false {p : Prop} (h : ¬ p) : B p = false := by cases e : B p with | false => rfl | true => exact absurd (B_iff.1 e) h
theorem B_congr {p q : Prop} (h : p ↔ q) : B p = B q := by rw [propext h]
theorem B_dec (p : Prop) [Decidable p] : B p = decide p := by by_cases h : p <;> simp [h, B_true, B_false]
theorem B_and (p q : Prop) : (B p && B q) = B (p ∧ q) := by
  by_cases hp : p <;> by_cases hq : q <;> simp [B_true, B_false, hp, hq]
theorem B_not (p : Prop) : (!B p) = B (¬ p) := by by_cases hp : p <;> simp [B_true, B_false, hp]
theorem evSucc {α : Type} {g : Nat → Option α} {r : α} (h : Ev (fun k => g (k + 1)) r) : Ev g r := Ev.step (fun _ => rfl) h
theorem evNow {α : Type} {g : Nat → Option α} {r : α} (h : ∀ k, g k = some r) : Ev g r := ⟨0, fun k _ => h k⟩
theorem evCount {σ α : Type} (F : Nat → σ → Int → Option α) (i0 n : Nat) (S : Nat → σ) (r : α)
    (hstep : ∀ i, i0 ≤ i → i < n → Ev (fun k => F k (S (i + 1)) ((i + 1 : Nat) : Int)) r → Ev (fun k => F k (S i) (i : Int)) r) (hend : Ev (fun k => F k (S n) (n : Int)) r) (hle : i0 ≤ n) : Ev (fun k => F k (S i0) (i0 : Int)) r := by
  have key : ∀ d i, i0 ≤ i → i + d = n → Ev (fun k => F k (S i) (i : Int)) r := by
    intro d
    induction d with
    | zero =>
      intro i _ hi
      have h0 : i = n := by omega
      subst h0
      exact hend
    | succ d ih => intro i h0 hi; exact hstep i h0 (by omega) (ih (i + 1) (by omega) (by omega))
  exact key (n - i0) i0 (Nat.le_refl _) (by omega)
/-- A loop that leaves at the first place where G fails. -/
theorem evAll (F : Nat → Int → Option Bool) (i0 n : Nat) (G : Nat → Prop)
    (hstep : ∀ i, i0 ≤ i → i < n → G i → ∀ r, Ev (fun k => F k ((i + 1 : Nat) : Int)) r → Ev (fun k => F k (i : Int)) r) (hbad : ∀ i, i0 ≤ i → i < n → ¬ G i → Ev (fun k => F k (i : Int)) false) (e : Bool) (hend : Ev (fun k => F k (n : Int)) e) (hle : i0 ≤ n) :
    Ev (fun k => F k (i0 : Int)) (B (∀ j, i0 ≤ j → j < n → G j) && e) := by
  have key : ∀ d i, i0 ≤ i → i + d = n → Ev (fun k => F k (i : Int)) (B (∀ j, i ≤ j → j < n → G j) && e) := by
    intro d
    induction d with
    | zero =>
      intro i _ hi
      have h0 : i = n := by omega
      subst h0
      rw [B_true (fun j h1 h2 => absurd h2 (by omega)), Bool.true_and]
      exact hend
    | succ d ih =>
      intro i h0 hi
      by_cases hg : G i
      · have h1 : B (∀ j, i ≤ j → j < n → G j) = B (∀ j, i + 1 ≤ j → j < n → G j) := B_congr ⟨fun h j a b => h j (by omega) b, fun h j a b => by
          by_cases e : j = i
          · subst e; exact hg
          · exact h j (by omega) b⟩
        rw [h1]
        exact hstep i h0 (by omega) hg _ (ih (i + 1) (by omega) (by omega))
      · rw [B_false (fun h => hg (h i (Nat.le_refl _) (by omega))), Bool.false_and]
        exact hbad i h0 (by omega) hg
  exact key (n - i0) i0 (Nat.le_refl _) (by omega)
theorem wrapNat {i : Nat} (h : i < 4611686018427387904) : wrap64 ((i : Int) + 1) = ((i + 1 : Nat) : Int) := by
  unfold wrap64; omega
theorem wrapPred {i : Nat} (h0 : 1 ≤ i) (h : i < 4611686018427387904) : wrap64 ((i : Int) - 1) = ((i - 1 : Nat) : Int) := by
  unfold wrap64; omega
theorem rdN (xs : List Int) (i : Nat) (h : i < xs.length) : rd xs (i : Int) = xs[i] := by
  simp [rd, List.getD_eq_getElem?_getD, List.getElem?_eq_getElem h]
theorem fillStep {α : Type} (xs : List α) (z : α) (i : Nat) (h : i < xs.length) : (xs.take i ++ List.replicate (xs.length - i) z).set i xs[i] = xs.take (i + 1) ++ List.replicate (xs.length - (i + 1)) z := by
  have h1 : xs.length - i = (xs.length - (i + 1)) + 1 := by omega
  rw [h1, List.replicate_succ, List.set_append_right _ _ (by rw [List.length_take]; omega)]
  rw [List.length_take, Nat.min_eq_left (by omega), Nat.sub_self, List.set_cons_zero, List.take_succ_eq_append_getElem h, List.append_assoc]
  rfl
theorem fillLen {α : Type} (xs : List α) (z : α) (i : Nat) (h : i ≤ xs.length) : (xs.take i ++ List.replicate (xs.length - i) z).length = xs.length := by
  simp; omega

def InAll (l : List Int) (a b : Int) : Prop := ∀ j, 0 ≤ j → j < l.length → a ≤ rd l (j : Int) ∧ rd l (j : Int) ≤ b
theorem inAll_mem {l : List Int} {a b : Int} : InAll l a b ↔ ∀ x ∈ l, a ≤ x ∧ x ≤ b := by
  constructor
  · intro h x hx
    obtain ⟨i, hi, rfl⟩ := List.mem_iff_getElem.1 hx
    have := h i (Nat.zero_le _) hi
    rwa [rdN l i hi] at this
  · intro h j _ hj
    rw [rdN l j hj]
    exact h _ (List.getElem_mem hj)
theorem allIn_all (l : List Int) (a b : Int) : (l.all fun x => decide (a ≤ x ∧ x ≤ b)) = B (InAll l a b) := by
  by_cases h : InAll l a b
  · rw [B_true h, List.all_eq_true]
    exact fun x hx => decide_eq_true (inAll_mem.1 h x hx)
  · rw [B_false h, Bool.eq_false_iff]
    intro h2
    exact h (inAll_mem.2 fun x hx => of_decide_eq_true (List.all_eq_true.1 h2 x hx))

theorem withinS (l : List Int) (m a b : Int) (h : l.length ≤ 1048576) : Ev (fun k => spec_l01Within.f k l m a b) (B (InAll l a b) && decide ((l.length : Int) ≤ m)) := by
  unfold spec_l01Within.f
  have := evAll (fun k i => spec_l01Within.l0 k l m a b i) 0 l.length (fun j => a ≤ rd l (j : Int) ∧ rd l (j : Int) ≤ b) ?_ ?_ (decide ((l.length : Int) ≤ m)) ?_ (Nat.zero_le _)
  · exact this
  · intro i h0 hi hg r hr
    refine evSucc ?_
    have e1 : (i : Int) < (l.length : Int) := by omega
    have e2 : (0 : Int) ≤ (i : Int) := by omega
    simp only [spec_l01Within.l0, inS, Option.bind_some, e1, e2, decide_eq_true hg, if_true, wrapNat (show i < 4611686018427387904 by omega)]
    exact hr
  · intro i h0 hi hg
    refine evSucc ?_
    have e1 : (i : Int) < (l.length : Int) := by omega
    have e2 : (0 : Int) ≤ (i : Int) := by omega
    simp only [spec_l01Within.l0, inS, Option.bind_some, e1, e2, decide_eq_false hg, if_true, if_false, Bool.false_eq_true]
    exact Ev.now _
  · refine evSucc ?_
    simp only [spec_l01Within.l0, Int.lt_irrefl, if_false]
    exact Ev.now _

noncomputable def blkB (n : Int) (l : List Int) : Bool := B (lineB n 0 = true ∧ (l.length : Int) ≤ 2 * n ∧ InAll l (-n) n ∧ ¬ (0 : Int) ∈ l)
theorem blk_of {n : Int} {l : List Int} (h : blkB n l = true) : lineB n 0 = true ∧ (l.length : Int) ≤ 2 * n ∧ InAll l (-n) n ∧ ¬ (0 : Int) ∈ l := B_iff.1 h

theorem hasS (l : List Int) (v : Int) (hl : l.length ≤ 1048576) : Ev (fun k => spec_l01Has.f k l v) (B (v ∈ l)) := by
  unfold spec_l01Has.f
  have key : ∀ d i : Nat, i + d = l.length → Ev (fun k => spec_l01Has.l0 k l v (i : Int)) (B (v ∈ l.drop i)) := by
    intro d
    induction d with
    | zero =>
      intro i hi
      refine evSucc ?_
      rw [List.drop_of_length_le (by omega), B_false (by simp)]
      simp only [spec_l01Has.l0, show ¬ ((i : Int) < (l.length : Int)) by omega, if_false]
      exact Ev.now _
    | succ d ih =>
      intro i hi
      have hlt : i < l.length := by omega
      refine evSucc ?_
      simp only [spec_l01Has.l0, show (i : Int) < (l.length : Int) by omega, show (0 : Int) ≤ (i : Int) by omega, if_true, rdN l i hlt, wrapNat (show i < 4611686018427387904 by omega)]
      rw [List.drop_eq_getElem_cons hlt]
      by_cases c : l[i] = v
      · simp only [c, if_true]
        rw [B_true (by simp)]
        exact Ev.now _
      · simp only [c, if_false]
        have e : B (v ∈ l[i] :: l.drop (i + 1)) = B (v ∈ l.drop (i + 1)) := B_congr (by simp only [List.mem_cons]; exact ⟨fun h => h.resolve_left (fun h => c h.symm), Or.inr⟩)
        rw [e]
        exact ih (i + 1) (by omega)
  simpa using key l.length 0 (by omega)

theorem wrapIn {x : Int} (h0 : -9223372036854775808 ≤ x) (h1 : x ≤ 9223372036854775807) : wrap64 x = x := by
  unfold wrap64; omega

theorem blkS (n : Int) (l : List Int) (hl : l.length ≤ 1048576) : Ev (fun k => spec_l14Fits.f k n l) (blkB n l) := by
  unfold spec_l14Fits.f blkB
  simp only [lineS, Option.bind_some]
  cases h : lineB n 0
  · simp only [Bool.false_eq_true, if_false, false_and]
    rw [B_false (fun h => h)]
    exact Ev.now _
  · have hn := line4_of h
    simp only [if_true, true_and, wrapIn (show -9223372036854775808 ≤ -n by omega) (show -n ≤ 9223372036854775807 by omega), wrapIn (show -9223372036854775808 ≤ 2 * n by omega) (show 2 * n ≤ 9223372036854775807 by omega)]
    refine Ev.bind (withinS l 24 (-n) n hl) ?_
    by_cases hi : InAll l (-n) n
    · simp only [B_true hi, Bool.true_and, decide_eq_true_eq]
      by_cases h24 : (l.length : Int) ≤ 24
      · simp only [h24, if_true]
        by_cases h2 : (l.length : Int) ≤ 2 * n
        · simp only [h2, if_true, true_and]
          refine Ev.bind (hasS l 0 hl) ?_
          rw [B_not]
          have e : B (¬ (0 : Int) ∈ l) = B (InAll l (-n) n ∧ ¬ (0 : Int) ∈ l) := B_congr ⟨fun h => ⟨hi, h⟩, fun h => h.2⟩
          rw [e]
          exact Ev.now _
        · simp only [h2, if_false, false_and]
          rw [B_false (fun h => h)]
          exact Ev.now _
      · simp only [h24, if_false]
        rw [B_false (fun h => h24 (by omega))]
        exact Ev.now _
    · simp only [B_false hi, Bool.false_and, Bool.false_eq_true, if_false]
      rw [B_false (fun h => hi h.2.1)]
      exact Ev.now _

theorem containsI (l : List Int) (v : Int) (hl : l.length ≤ 1048576) : Ev (fun k => slices_Contains_int64_int64.f k l v) (B (v ∈ l)) := by
  unfold slices_Contains_int64_int64.f slices_Index_int64_int64.f
  have key : ∀ d i : Nat, i + d = l.length → ∃ r, Ev (fun k => slices_Index_int64_int64.l0 k l v (l.length : Int) (i : Int)) r ∧ (r ≥ 0 ↔ v ∈ l.drop i) := by
    intro d
    induction d with
    | zero =>
      intro i hi
      refine ⟨-1, evSucc ?_, ?_⟩
      · simp only [slices_Index_int64_int64.l0, show ¬ ((i : Int) < (l.length : Int)) by omega, if_false]
        exact Ev.now _
      · rw [List.drop_of_length_le (by omega)]
        simp
    | succ d ih =>
      intro i hi
      have hlt : i < l.length := by omega
      rw [List.drop_eq_getElem_cons hlt]
      by_cases c : v = l[i]
      · refine ⟨i, evSucc ?_, ?_⟩
        · simp only [slices_Index_int64_int64.l0, show (i : Int) < (l.length : Int) by omega, show (0 : Int) ≤ (i : Int) by omega, if_true, rdN l i hlt, c]
          exact Ev.now _
        · simp only [← c, List.mem_cons, true_or, iff_true]
          omega
      · obtain ⟨r, h1, h2⟩ := ih (i + 1) (by omega)
        refine ⟨r, evSucc ?_, ?_⟩
        · simp only [slices_Index_int64_int64.l0, show (i : Int) < (l.length : Int) by omega, show (0 : Int) ≤ (i : Int) by omega, if_true, rdN l i hlt, c, if_false, wrapNat (show i < 4611686018427387904 by omega)]
          exact h1
        · rw [h2]
          simp only [List.mem_cons, c, false_or]
  obtain ⟨r, h1, h2⟩ := key l.length 0 (by omega)
  refine Ev.bind h1 ?_
  have e : decide (r ≥ 0) = B (v ∈ l) := by
    rw [← B_dec]
    exact B_congr (by simpa using h2)
  rw [e]
  exact Ev.now _

theorem blkI (n : Int) (l : List Int) (hl : l.length ≤ 1048576) : Ev (fun k => impl_isBlock.f k n l) (blkB n l) := by
  unfold impl_isBlock.f blkB impl_length_int64.f impl_allIn.f
  simp only [lineI, Option.bind_some, allIn_all]
  cases h : lineB n 0
  · simp only [Bool.false_eq_true, if_false, false_and]
    rw [B_false (fun h => h)]
    exact Ev.now _
  · have hn := line4_of h
    simp only [if_true, true_and, wrapIn (show -9223372036854775808 ≤ -n by omega) (show -n ≤ 9223372036854775807 by omega), wrapIn (show -9223372036854775808 ≤ 2 * n by omega) (show 2 * n ≤ 9223372036854775807 by omega)]
    by_cases h2 : (l.length : Int) ≤ 2 * n
    · simp only [h2, if_true, true_and]
      by_cases hi : InAll l (-n) n
      · simp only [B_true hi, if_true]
        refine Ev.bind (containsI l 0 hl) ?_
        rw [B_not]
        have e : B (¬ (0 : Int) ∈ l) = B (InAll l (-n) n ∧ ¬ (0 : Int) ∈ l) := B_congr ⟨fun h => ⟨hi, h⟩, fun h => h.2⟩
        rw [e]
        exact Ev.now _
      · simp only [B_false hi, Bool.false_eq_true, if_false]
        rw [B_false (fun h => hi h.1)]
        exact Ev.now _
    · simp only [h2, if_false, false_and]
      rw [B_false (fun h => h)]
      exact Ev.now _

/-- A loop that leaves at the first place where G fails; what comes after it counts only where none failed. -/
theorem evAllC (F : Nat → Int → Option Bool) (i0 n : Nat) (G : Nat → Prop)
    (hstep : ∀ i, i0 ≤ i → i < n → G i → ∀ r, Ev (fun k => F k ((i + 1 : Nat) : Int)) r → Ev (fun k => F k (i : Int)) r) (hbad : ∀ i, i0 ≤ i → i < n → ¬ G i → Ev (fun k => F k (i : Int)) false) (e : Bool) (hend : (∀ j, i0 ≤ j → j < n → G j) → Ev (fun k => F k (n : Int)) e) (hle : i0 ≤ n) :
    Ev (fun k => F k (i0 : Int)) (B (∀ j, i0 ≤ j → j < n → G j) && e) := by
  have key : ∀ d i, i0 ≤ i → i + d = n → (∀ j, i0 ≤ j → j < i → G j) → Ev (fun k => F k (i : Int)) (B (∀ j, i ≤ j → j < n → G j) && e) := by
    intro d
    induction d with
    | zero =>
      intro i _ hi hp
      have h0 : i = n := by omega
      subst h0
      rw [B_true (fun j h1 h2 => absurd h2 (by omega)), Bool.true_and]
      exact hend hp
    | succ d ih =>
      intro i h0 hi hp
      by_cases hg : G i
      · have h1 : B (∀ j, i ≤ j → j < n → G j) = B (∀ j, i + 1 ≤ j → j < n → G j) := B_congr ⟨fun h j a b => h j (by omega) b, fun h j a b => by
          by_cases e : j = i
          · subst e; exact hg
          · exact h j (by omega) b⟩
        rw [h1]
        exact hstep i h0 (by omega) hg _ (ih (i + 1) (by omega) (by omega) (fun j a b => by
          by_cases e : j = i
          · subst e; exact hg
          · exact hp j a (by omega)))
      · rw [B_false (fun h => hg (h i (Nat.le_refl _) (by omega))), Bool.false_and]
        exact hbad i h0 (by omega) hg
  exact key (n - i0) i0 (Nat.le_refl _) (by omega) (fun j a b => absurd b (by omega))

theorem same_ext (x y : List Int) (hl : x.length = y.length) : B (∀ j, 0 ≤ j → j < x.length → rd x ((j : Nat) : Int) = rd y ((j : Nat) : Int)) = decide (x = y) := by
  rw [← B_dec (x = y)]
  refine B_congr ⟨fun h => List.ext_getElem hl (fun i h1 h2 => ?_), fun h => by subst h; exact fun _ _ _ => rfl⟩
  have := h i (Nat.zero_le _) h1
  rwa [rdN x i h1, rdN y i h2] at this

theorem sameS (x y : List Int) (hx : x.length ≤ 1048576) : Ev (fun k => spec_l01Same.f k x y) (decide (x = y)) := by
  unfold spec_l01Same.f
  by_cases hl : x.length = y.length
  · simp only [show ((x.length : Int) = (y.length : Int)) by omega, if_true]
    have := evAllC (fun k j => spec_l01Same.l0 k x y j) 0 x.length (fun j => rd x (j : Int) = rd y (j : Int)) ?_ ?_ true ?_ (Nat.zero_le _)
    · rw [same_ext x y hl, Bool.and_true] at this
      exact this
    · intro j _ hj hg r hr
      refine evSucc ?_
      simp only [spec_l01Same.l0, show (j : Int) < (y.length : Int) by omega, show (j : Int) < (x.length : Int) by omega, show (0 : Int) ≤ (j : Int) by omega, if_true, hg, wrapNat (show j < 4611686018427387904 by omega)]
      exact hr
    · intro j _ hj hg
      refine evSucc ?_
      simp only [spec_l01Same.l0, show (j : Int) < (y.length : Int) by omega, show (j : Int) < (x.length : Int) by omega, show (0 : Int) ≤ (j : Int) by omega, if_true, hg, if_false]
      exact Ev.now _
    · intro _
      refine evSucc ?_
      simp only [spec_l01Same.l0, hl, Int.lt_irrefl, if_false]
      exact Ev.now _
  · simp only [show ¬ ((x.length : Int) = (y.length : Int)) by omega, if_false]
    rw [decide_eq_false (fun h => hl (by rw [h]))]
    exact Ev.now _

def partW (s k o : Int) : List Int := if k = 1 then [] else if k = 2 then [wrap64 (s + 1), wrap64 (s + 1)] else if k = 3 then [wrap64 (-(wrap64 (s + 1)))] else if k = 4 then [wrap64 (o + 1)] else [wrap64 (s + 1)]
theorem partS (s k o : Int) : spec_l14Part.f s k o = some (partW s k o) := by unfold spec_l14Part.f partW; split <;> (try rfl) <;> split <;> (try rfl) <;> split <;> (try rfl) <;> split <;> rfl
theorem leftI (s k o : Int) : impl_left.f s k o = some (partW s k o) := by unfold impl_left.f partW; split <;> (try rfl) <;> split <;> (try rfl) <;> split <;> (try rfl) <;> split <;> rfl
theorem part_len (s k o : Int) : (partW s k o).length ≤ 2 := by unfold partW; split <;> (try split) <;> (try split) <;> (try split) <;> simp

def hdB (b : List Int) : Int := b.getD 0 0
/-- How many kinds are other than 0. -/
def many (L : List Int) : Int := (L.map (fun x => min 1 x)).sum
/-- The explanation that begins with a kind. -/
def cand (E : List Int → Option (List Int)) (s : Int) (b : List Int) (k : Nat) : Option (List Int) :=
  if k = 4 ∧ (b = [] ∨ hdB b < 1 ∨ hdB b = s + 1) then none
  else if b.take (impl_explainer.part s k (hdB b)).length = impl_explainer.part s k (hdB b) then (E (b.drop (impl_explainer.part s k (hdB b)).length)).map (fun r => (k : Int) :: r) else none
def better (best c : Option (List Int)) : Option (List Int) :=
  match c with
  | none => best
  | some L => match best with
    | none => some L
    | some B => if many L < many B then some L else some B
/-- The reference's best explanation of a text by the last d stations of n. -/
def ex (n : Int) : Nat → List Int → Option (List Int)
  | 0, b => if b = [] then some [] else none
  | d + 1, b => if (b.length : Int) > 2 * ((d : Int) + 1) then none else (List.range 5).foldl (fun best k => better best (cand (ex n d) (n - ((d : Int) + 1)) b k)) none
theorem epart_len (s k x : Int) : (impl_explainer.part s k x).length ≤ 2 := by
  unfold impl_explainer.part
  repeat' split
  all_goals simp
/-- The first of the least. -/
theorem fold_none (f : Nat → Option (List Int)) : ∀ (ks : List Nat) (B : Option (List Int)), ks.foldl (fun best k => better best (f k)) B = none → B = none ∧ ∀ k ∈ ks, f k = none
  | [], B, h => ⟨h, fun k hk => by cases hk⟩
  | k :: ks, B, h => by
    simp only [List.foldl_cons] at h
    have h2 := fold_none f ks _ h
    cases e : f k with
    | none =>
      rw [e] at h2
      exact ⟨h2.1, fun j hj => by rcases List.mem_cons.1 hj with rfl | hj; exact e; exact h2.2 j hj⟩
    | some L =>
      rw [e] at h2
      cases B with
      | none => simp [better] at h2
      | some B => simp only [better] at h2; split at h2 <;> simp at h2
theorem fold_some (f : Nat → Option (List Int)) : ∀ (ks : List Nat) (B : Option (List Int)) (L : List Int), ks.foldl (fun best k => better best (f k)) B = some L →
    (B = some L ∧ ∀ k ∈ ks, ∀ L', f k = some L' → many L ≤ many L') ∨
    (∃ pre k post, ks = pre ++ k :: post ∧ f k = some L ∧ (∀ B', B = some B' → many L < many B') ∧ (∀ j ∈ pre, ∀ L', f j = some L' → many L < many L') ∧ ∀ j ∈ post, ∀ L', f j = some L' → many L ≤ many L')
  | [], B, L, h => .inl ⟨h, fun k hk => by cases hk⟩
  | k :: ks, B, L, h => by
    simp only [List.foldl_cons] at h
    rcases fold_some f ks _ L h with ⟨hB, hr⟩ | ⟨pre, q, post, rfl, hq, hb, hp, ho⟩
    · cases e : f k with
      | none =>
        rw [e] at hB
        exact .inl ⟨hB, fun j hj L' hL => by rcases List.mem_cons.1 hj with rfl | hj; (rw [e] at hL; cases hL); exact hr j hj L' hL⟩
      | some M =>
        rw [e] at hB
        cases B with
        | none =>
          simp only [better, Option.some.injEq] at hB
          subst hB
          exact .inr ⟨[], k, ks, rfl, e, (fun _ h => by cases h), (fun _ h => by cases h), hr⟩
        | some B =>
          simp only [better] at hB
          by_cases c : many M < many B
          · rw [if_pos c] at hB
            simp only [Option.some.injEq] at hB
            subst hB
            exact .inr ⟨[], k, ks, rfl, e, (fun B' h => by cases h; exact c), (fun _ h => by cases h), hr⟩
          · rw [if_neg c] at hB
            simp only [Option.some.injEq] at hB
            subst hB
            exact .inl ⟨rfl, fun j hj L' hL => by rcases List.mem_cons.1 hj with rfl | hj; (rw [e] at hL; cases hL; omega); exact hr j hj L' hL⟩
    · refine .inr ⟨k :: pre, q, post, rfl, hq, ?_, ?_, ho⟩
      · intro B' hB'
        subst hB'
        cases e : f k with
        | none => exact hb B' (by rw [e]; rfl)
        | some M =>
          by_cases c : many M < many B'
          · have := hb M (by rw [e]; simp [better, c]); omega
          · exact hb B' (by rw [e]; simp [better, c])
      · intro j hj L' hL
        rcases List.mem_cons.1 hj with rfl | hj
        · cases B with
          | none => exact hb L' (by rw [hL]; rfl)
          | some B =>
            by_cases c : many L' < many B
            · exact hb L' (by rw [hL]; simp [better, c])
            · have := hb B (by rw [hL]; simp [better, c]); omega
        · exact hp j hj L' hL
theorem cand_some {E : List Int → Option (List Int)} {s : Int} {b L : List Int} {k : Nat} (h : cand E s b k = some L) :
    ¬ (k = 4 ∧ (b = [] ∨ hdB b < 1 ∨ hdB b = s + 1)) ∧ b.take (impl_explainer.part s k (hdB b)).length = impl_explainer.part s k (hdB b) ∧ ∃ r, E (b.drop (impl_explainer.part s k (hdB b)).length) = some r ∧ L = (k : Int) :: r := by
  unfold cand at h
  split at h
  · cases h
  · rename_i c
    split at h
    · rename_i c2
      cases e : E (b.drop (impl_explainer.part s k (hdB b)).length) with
      | none => rw [e] at h; cases h
      | some r => rw [e] at h; simp at h; exact ⟨c, c2, r, rfl, h.symm⟩
    · cases h
theorem many_cons (k : Nat) (r : List Int) : many ((k : Int) :: r) = (if k > 0 then 1 else 0) + many r := by
  unfold many
  simp only [List.map_cons, List.sum_cons]
  split <;> omega
/-- What an explanation is. -/
theorem ex_some (n : Int) : ∀ (d : Nat) (b L : List Int), ex n d b = some L → L.length = d ∧ (b.length : Int) ≤ 2 * (d : Int) ∧ (∀ x ∈ L, 0 ≤ x ∧ x ≤ 4) ∧ 0 ≤ many L ∧ many L ≤ (d : Int)
  | 0, b, L, h => by
    unfold ex at h
    split at h
    · simp at h; subst_vars; simp [many]
    · cases h
  | d + 1, b, L, h => by
    unfold ex at h
    split at h
    · cases h
    · rename_i c
      rcases fold_some _ _ _ _ h with ⟨e, _⟩ | ⟨pre, k, post, e, hk, _⟩
      · cases e
      · obtain ⟨_, _, r, hr, rfl⟩ := cand_some hk
        have ih := ex_some n d _ _ hr
        have hk4 : k ≤ 4 := by
          have : k ∈ List.range 5 := by rw [e]; simp
          simp at this; omega
        rw [many_cons]
        refine ⟨by simp [ih.1], by omega, ?_, by split <;> omega, by split <;> omega⟩
        intro x hx
        rcases List.mem_cons.1 hx with rfl | hx
        · omega
        · exact ih.2.2.1 x hx
/-- Where a text is too long nothing explains it, with or without the test. -/
theorem ex_fold (n : Int) (d : Nat) (b : List Int) : ex n (d + 1) b = (List.range 5).foldl (fun best k => better best (cand (ex n d) (n - ((d : Int) + 1)) b k)) none := by
  rw [ex]
  split
  · rename_i c
    cases e : (List.range 5).foldl (fun best k => better best (cand (ex n d) (n - ((d : Int) + 1)) b k)) none with
    | none => rfl
    | some L =>
      rcases fold_some _ _ _ _ e with ⟨e, _⟩ | ⟨pre, k, post, _, hk, _⟩
      · cases e
      · obtain ⟨_, _, r, hr, rfl⟩ := cand_some hk
        have ih := (ex_some n d _ _ hr).2.1
        have := epart_len (n - ((d : Int) + 1)) k (hdB b)
        rw [List.length_drop] at ih
        omega
  · rfl
/-! the program's search -/
theorem rd_hdB (l : List Int) (q : Nat) : rd l (q : Int) = hdB (l.drop q) := by
  unfold rd hdB
  simp [List.getD_eq_getElem?_getD, List.getElem?_drop]
theorem tail_eq (l y : List Int) (q : Nat) : impl_explainer.tail l y (q : Int) = if (l.drop q).take y.length = y ∧ q + y.length ≤ l.length then ((q + y.length : Nat) : Int) else -1 := by
  unfold impl_explainer.tail
  have e : (l.take ((q : Int) + (y.length : Int)).toNat).drop (q : Int).toNat = (l.drop q).take y.length := by
    rw [show ((q : Int) + (y.length : Int)).toNat = q + y.length by omega, Int.toNat_natCast, List.drop_take]
    simp
  rw [e]
  by_cases c : q + y.length ≤ l.length
  · rw [if_neg (by omega)]
    by_cases c2 : (l.drop q).take y.length = y
    · rw [if_pos c2.symm, if_pos ⟨c2, c⟩]; omega
    · rw [if_neg (fun g => c2 g.symm), if_neg (fun g => c2 g.1)]
  · rw [if_pos (by omega), if_neg (fun g => c g.2)]
/-- Where the next place lies, if the kind fits. -/
theorem nx_cand (E : List Int → Option (List Int)) (l : List Int) (s : Int) (q k : Nat) (hq : q ≤ l.length) :
    (impl_explainer.nx l s (q : Int) (k : Int) < 0 ∧ cand E s (l.drop q) k = none) ∨
    (∃ q' : Nat, q ≤ q' ∧ q' ≤ l.length ∧ impl_explainer.nx l s (q : Int) (k : Int) = (q' : Int) ∧ cand E s (l.drop q) k = (E (l.drop q')).map (fun r => (k : Int) :: r)) := by
  unfold impl_explainer.nx cand
  have e0 : ((q : Int) = (l.length : Int)) ↔ l.drop q = [] := by
    rw [List.drop_eq_nil_iff]; omega
  have e4 : ((k : Int) = 4) ↔ k = 4 := by omega
  rw [rd_hdB]
  by_cases c : k = 4 ∧ (l.drop q = [] ∨ hdB (l.drop q) < 1 ∨ hdB (l.drop q) = s + 1)
  · left
    rw [if_pos c, if_pos ⟨e4.2 c.1, by rw [e0]; exact c.2⟩]
    exact ⟨by decide, rfl⟩
  · rw [if_neg c, if_neg (fun g => c ⟨e4.1 g.1, by rw [← e0]; exact g.2⟩), tail_eq]
    generalize impl_explainer.part s k (hdB (l.drop q)) = y
    by_cases c2 : (l.drop q).take y.length = y
    · have hl : q + y.length ≤ l.length := by
        have := congrArg List.length c2
        rw [List.length_take, List.length_drop] at this
        omega
      right
      refine ⟨q + y.length, by omega, hl, by rw [if_pos ⟨c2, hl⟩], ?_⟩
      rw [if_pos c2, List.drop_drop]
    · left
      rw [if_neg (fun g => c2 g.1), if_neg c2]
      exact ⟨by decide, rfl⟩
def worth : Option (List Int) → Int
  | none => 1000000000
  | some L => many L
theorem few_ex (l : List Int) (n : Int) : ∀ (d : Nat) (q : Nat), d ≤ 1000 → q ≤ l.length → impl_explainer.few l n d (q : Int) = worth (ex n d (l.drop q))
  | 0, q, _, hq => by
    unfold impl_explainer.few ex
    by_cases c : q = l.length
    · rw [if_pos (by omega), if_pos (by rw [List.drop_eq_nil_iff]; omega)]; rfl
    · rw [if_neg (by omega), if_neg (by rw [List.drop_eq_nil_iff]; omega)]; rfl
  | d + 1, q, hd_, hq => by
    rw [ex_fold]
    unfold impl_explainer.few
    suffices H : ∀ (ks : List Nat) (b : Int) (B : Option (List Int)), b = worth B → worth B ≤ 1000000000 → ks.foldl (impl_explainer.stepB l (n - ((d : Int) + 1)) (q : Int) (impl_explainer.few l n d)) b = worth (ks.foldl (fun best k => better best (cand (ex n d) (n - ((d : Int) + 1)) (l.drop q) k)) B) from H _ _ none rfl (by decide)
    intro ks
    induction ks with
    | nil => intro b B h _; exact h
    | cons k ks ih =>
      intro b B h hB
      simp only [List.foldl_cons]
      have key : impl_explainer.stepB l (n - ((d : Int) + 1)) (q : Int) (impl_explainer.few l n d) b k = worth (better B (cand (ex n d) (n - ((d : Int) + 1)) (l.drop q) k)) := by
        unfold impl_explainer.stepB
        rcases nx_cand (ex n d) l (n - ((d : Int) + 1)) q k hq with ⟨h1, h2⟩ | ⟨q', h0, h1, h2, h3⟩
        · rw [if_neg (by omega), h2]; exact h
        · rw [h2, if_pos (by omega), h3, few_ex l n d q' (by omega) h1]
          have hc : (if k > 0 then (1 : Int) else 0) ≤ 1 ∧ 0 ≤ (if k > 0 then (1 : Int) else 0) := by split <;> decide
          cases e : ex n d (l.drop q') with
          | none =>
            subst h
            show min (worth B) (1000000000 + _) = worth B
            omega
          | some r =>
            have hr := (ex_some n d _ _ e).2.2.2
            have hm := many_cons k r
            subst h
            show min (worth B) (many r + _) = worth (better B (some ((k : Int) :: r)))
            cases B with
            | none =>
              show min (1000000000 : Int) (many r + _) = many ((k : Int) :: r)
              omega
            | some B =>
              show min (many B) (many r + _) = worth (if many ((k : Int) :: r) < many B then some ((k : Int) :: r) else some B)
              by_cases c : many ((k : Int) :: r) < many B
              · rw [if_pos c]; show _ = many ((k : Int) :: r); omega
              · rw [if_neg c]; show _ = many B; omega
      refine ih _ _ key ?_
      rw [← key]
      unfold impl_explainer.stepB
      split
      · omega
      · omega
theorem find_first {p : Nat → Bool} {k : Nat} {pre post : List Nat} (hk : p k = true) (hp : ∀ j ∈ pre, p j = false) : (pre ++ k :: post).find? p = some k := by
  induction pre with
  | nil => simp [hk]
  | cons x pre ih => simp [hp x (by simp), ih (fun j hj => hp j (by simp [hj]))]
theorem back_ex (l : List Int) (n : Int) : ∀ (d q : Nat) (L : List Int), d ≤ 1000 → q ≤ l.length → ex n d (l.drop q) = some L → impl_explainer.back l n d (q : Int) (many L) = L
  | 0, q, L, _, _, h => by
    have := (ex_some n 0 _ _ h).1
    rw [List.length_eq_zero_iff.1 this]; rfl
  | d + 1, q, L, hd_, hq, h => by
    have hfold := h
    rw [ex_fold] at hfold
    rcases fold_some _ _ _ _ hfold with ⟨e, _⟩ | ⟨pre, k, post, e, hk, _, hp, _⟩
    · cases e
    · have hno : ∀ j ∈ pre, impl_explainer.good l n d (q : Int) (many L) j = false := by
        intro j hj
        rcases nx_cand (ex n d) l (n - ((d : Int) + 1)) q j hq with ⟨h1, h2⟩ | ⟨q', h0, h1, h2, h3⟩
        · unfold impl_explainer.good
          rw [decide_eq_false (by omega)]; rfl
        · unfold impl_explainer.good
          rw [h2, few_ex l n d q' (by omega) h1]
          have hc : (if j > 0 then (1 : Int) else 0) ≤ 1 ∧ 0 ≤ (if j > 0 then (1 : Int) else 0) := by split <;> decide
          have hL := (ex_some n (d + 1) _ _ h).2.2.2
          cases e1 : ex n d (l.drop q') with
          | none =>
            have hw : worth (none : Option (List Int)) = 1000000000 := rfl
            rw [Bool.and_eq_false_iff, hw]
            right
            exact decide_eq_false (by omega)
          | some r =>
            have := hp j hj _ (h3.trans (by rw [e1]; rfl))
            rw [many_cons] at this
            have hw : worth (some r) = many r := rfl
            rw [Bool.and_eq_false_iff, hw]
            right
            exact decide_eq_false (by omega)
      rcases nx_cand (ex n d) l (n - ((d : Int) + 1)) q k hq with ⟨h1, h2⟩ | ⟨q', h0, h1, h2, h3⟩
      · rw [h2] at hk; cases hk
      · rw [h3] at hk
        cases e1 : ex n d (l.drop q') with
        | none => rw [e1] at hk; cases hk
        | some r =>
          rw [e1] at hk
          simp only [Option.map_some, Option.some.injEq] at hk
          subst hk
          have hm := many_cons k r
          have hy : impl_explainer.good l n d (q : Int) (many ((k : Int) :: r)) k = true := by
            unfold impl_explainer.good
            rw [h2, few_ex l n d q' (by omega) h1, e1, Bool.and_eq_true, decide_eq_true_iff, decide_eq_true_iff]
            refine ⟨by omega, ?_⟩
            show many r + _ = _
            omega
          unfold impl_explainer.back
          rw [e, find_first hy hno]
          show (k : Int) :: impl_explainer.back l n d _ _ = _
          rw [h2, show many ((k : Int) :: r) - (if k > 0 then 1 else 0) = many r by omega, back_ex l n d q' r (by omega) h1 e1]
noncomputable def explV (n : Int) (l : List Int) : List Int × Int := if blkB n l = true then (match ex n n.toNat l with | none => ([], 4) | some L => (L, 0)) else ([], 2)
theorem r_ex (l : List Int) (n : Nat) (hn : n ≤ 1000) : impl_ExplainBlock.r l n = (match ex n n l with | none => ([], 4) | some L => (L, 0)) := by
  unfold impl_ExplainBlock.r
  have h := few_ex l n n 0 hn (by omega)
  have e0 : ((0 : Nat) : Int) = 0 := rfl
  rw [e0] at h
  rw [h]
  simp only [List.drop_zero]
  cases e : ex n n l with
  | none => rw [if_pos (by decide)]
  | some L =>
    have := (ex_some _ _ _ _ e).2.2.2
    rw [if_neg (by show ¬ many L ≥ _; omega)]
    have := back_ex l n n 0 L hn (by omega) (by simpa using e)
    rw [e0] at this
    show (impl_explainer.back l n n 0 (many L), (0 : Int)) = (L, 0)
    rw [this]
theorem explI (n : Int) (l : List Int) (hl : l.length ≤ 1048576) : Ev (fun k => impl_ExplainBlock.f k n l) (explV n l) := by
  unfold impl_ExplainBlock.f explV
  refine Ev.bind (blkI n l hl) ?_
  cases h : blkB n l
  · simp only [Bool.false_eq_true, if_false]
    exact Ev.now _
  · have hn := line4_of (blk_of h).1
    simp only [if_true]
    obtain ⟨m, rfl⟩ := Int.eq_ofNat_of_zero_le (show 0 ≤ n by omega)
    rw [Int.toNat_natCast, r_ex l m (by omega)]
    exact Ev.now _
theorem many_take (L : List Int) (i : Nat) (h : i < L.length) : many (L.take (i + 1)) = many (L.take i) + min 1 L[i] := by
  unfold many
  rw [List.take_succ_eq_append_getElem h, List.map_append, List.sum_append]
  simp
theorem many_bd : ∀ (L : List Int), (∀ x ∈ L, 0 ≤ x) → 0 ≤ many L ∧ many L ≤ (L.length : Int)
  | [], _ => by simp [many]
  | x :: L, h => by
    have ih := many_bd L (fun y hy => h y (by simp [hy]))
    have hx := h x (by simp)
    unfold many at *
    simp only [List.map_cons, List.sum_cons, List.length_cons]
    omega
theorem kindsS (L : List Int) (hl : L.length ≤ 1000) (h0 : ∀ x ∈ L, 0 ≤ x) : Ev (fun k => spec_l14Kinds.f k L) (many L) := by
  unfold spec_l14Kinds.f
  refine evCount (fun k (a : Int) i => spec_l14Kinds.l0 k L a i) 0 L.length (fun i => many (L.take i)) _ ?_ ?_ (Nat.zero_le _)
  · intro i _ hi hr
    refine evSucc ?_
    have hb := many_bd (L.take i) (fun x hx => h0 x (List.mem_of_mem_take hx))
    rw [List.length_take] at hb
    have hx := h0 L[i] (List.getElem_mem hi)
    have e : mn 1 (rd L (i : Int)) = min 1 L[i] := by rw [rdN L i hi]; unfold mn; split <;> omega
    simp only [spec_l14Kinds.l0, show (i : Int) < (L.length : Int) by omega, show (0 : Int) ≤ (i : Int) by omega, if_true, e, wrapNat (show i < 4611686018427387904 by omega)]
    rw [wrapIn (x := many (L.take i) + min 1 L[i]) (by omega) (by omega), ← many_take L i hi]
    exact hr
  · refine evSucc ?_
    simp only [spec_l14Kinds.l0, Int.lt_irrefl, if_false, List.take_length]
    exact Ev.now _
def exR : Option (List Int) → List Int × Bool
  | none => ([], false)
  | some L => (L, true)
def candY (E : List Int → Option (List Int)) (b y : List Int) (k : Nat) : Option (List Int) := if b.take y.length = y then (E (b.drop y.length)).map (fun r => (k : Int) :: r) else none
/-- What the loops have found so far. -/
def Fine (B : Option (List Int)) : Prop := ∀ L, B = some L → L.length ≤ 1000 ∧ ∀ x ∈ L, 0 ≤ x
theorem explS_j3 (n s : Int) (b y : List Int) (i d : Nat) (B : Option (List Int)) (r : List Int × Bool) (hi : i < 5) (hd : d ≤ 12) (hb : b.length ≤ 24) (hB : Fine B) (hs : s = n - ((d : Int) + 1)) (hn : 0 ≤ n ∧ n ≤ 12)
    (ih : Ev (fun k => spec_l14Explain.f k n (n - (d : Int)) (b.drop y.length)) (exR (ex n d (b.drop y.length)))) (hy : y.length ≤ b.length) (hty : b.take y.length = y)
    (hr : Ev (fun k => spec_l14Explain.l0 k n s b (exR (better B (candY (ex n d) b y i))).1 (exR (better B (candY (ex n d) b y i))).2 ((i + 1 : Nat) : Int)) r) :
    Ev (fun k => spec_l14Explain.j3 k n s b (exR B).1 (exR B).2 (i : Int) y false) r := by
  refine evSucc ?_
  simp only [spec_l14Explain.j3, Bool.false_eq_true, if_false, show (0 : Int) ≤ (y.length : Int) by omega, show (y.length : Int) ≤ (b.length : Int) by omega, if_true, Int.toNat_natCast, wrapNat (show i < 4611686018427387904 by omega)]
  rw [show wrap64 (s + 1) = n - (d : Int) by rw [wrapIn (by omega) (by omega)]; omega]
  refine Ev.bind ih ?_
  unfold candY at hr
  rw [if_pos hty] at hr
  cases e : ex n d (b.drop y.length) with
  | none =>
    rw [e] at hr
    simp only [exR, Bool.false_eq_true, if_false]
    exact hr
  | some L =>
    rw [e] at hr
    have hL := ex_some _ _ _ _ e
    have hk := kindsS ((i : Int) :: L) (by simp; omega) (fun x hx => by rcases List.mem_cons.1 hx with rfl | hx; omega; exact (hL.2.2.1 x hx).1)
    simp only [exR, if_true, Option.bind_some, List.length_cons, List.length_nil, show (0 + 1 + L.length < 17592186044416) by omega, List.singleton_append]
    cases B with
    | none =>
      simp only [exR, Bool.false_eq_true, if_false]
      exact hr
    | some B =>
      have hBf := hB B rfl
      simp only [exR, if_true]
      refine Ev.bind hk (Ev.bind (kindsS B hBf.1 hBf.2) ?_)
      by_cases c : many ((i : Int) :: L) < many B
      · simp only [Option.map_some, better, c, if_true, exR] at hr
        simp only [c, if_true]
        exact hr
      · simp only [Option.map_some, better, c, if_false, exR] at hr
        simp only [c, if_false]
        exact hr
theorem explS_j2 (n s : Int) (b y : List Int) (i d : Nat) (B : Option (List Int)) (r : List Int × Bool) (hi : i < 5) (hd : d ≤ 12) (hb : b.length ≤ 24) (hB : Fine B) (hs : s = n - ((d : Int) + 1)) (hn : 0 ≤ n ∧ n ≤ 12)
    (ih : Ev (fun k => spec_l14Explain.f k n (n - (d : Int)) (b.drop y.length)) (exR (ex n d (b.drop y.length)))) (hyl : y.length ≤ 2)
    (hr : Ev (fun k => spec_l14Explain.l0 k n s b (exR (better B (candY (ex n d) b y i))).1 (exR (better B (candY (ex n d) b y i))).2 ((i + 1 : Nat) : Int)) r) :
    Ev (fun k => spec_l14Explain.j2 k n s b (exR B).1 (exR B).2 (i : Int) y) r := by
  have hmiss : b.take y.length ≠ y → Ev (fun k => spec_l14Explain.j3 k n s b (exR B).1 (exR B).2 (i : Int) y true) r := fun hne => by
    refine evSucc ?_
    simp only [spec_l14Explain.j3, if_true, wrapNat (show i < 4611686018427387904 by omega)]
    unfold candY at hr
    rw [if_neg hne] at hr
    exact hr
  refine evSucc ?_
  by_cases c : y.length ≤ b.length
  · simp only [spec_l14Explain.j2, show ¬ ((y.length : Int) > (b.length : Int)) by omega, if_false, show (0 : Int) ≤ (y.length : Int) by omega, show (y.length : Int) ≤ (b.length : Int) by omega, if_true, Int.toNat_natCast]
    refine Ev.bind (sameS y (b.take y.length) (by omega)) ?_
    by_cases e : y = b.take y.length
    · simp only [decide_eq_true e, Bool.not_true]
      exact explS_j3 n s b y i d B r hi hd hb hB hs hn ih c e.symm hr
    · simp only [decide_eq_false e, Bool.not_false]
      exact hmiss (fun g => e g.symm)
  · simp only [spec_l14Explain.j2, show ((y.length : Int) > (b.length : Int)) by omega, if_true]
    exact hmiss (fun g => by have := congrArg List.length g; rw [List.length_take] at this; omega)
theorem hd_rd (b : List Int) : rd b 0 = hdB b := by
  have   := rd_hdB b 0
  simpa using this
theorem fine_pick {B c : Option (List Int)} (hB : Fine B) (hc : Fine c) : Fine (better B c) := by
  intro L h
  cases c with
  | none => exact hB L h
  | some M =>
    cases B with
    | none => exact hc L h
    | some B =>
      simp only [better] at h
      split at h
      · exact hc L h
      · exact hB L h
theorem fine_cand (n : Int) (d : Nat) (s : Int) (b : List Int) (k : Nat) (hk : k ≤ 4) (hd : d ≤ 12) : Fine (cand (ex n d) s b k) := by
  intro L h
  obtain ⟨_, _, r, hr, rfl⟩ := cand_some h
  have := ex_some _ _ _ _ hr
  refine ⟨by simp; omega, fun x hx => ?_⟩
  rcases List.mem_cons.1 hx with rfl | hx
  · omega
  · exact (this.2.2.1 x hx).1
def accS (n : Int) (d : Nat) (b : List Int) (i : Nat) : Option (List Int) := (List.range i).foldl (fun best k => better best (cand (ex n d) (n - ((d : Int) + 1)) b k)) none
theorem accS_succ (n : Int) (d : Nat) (b : List Int) (i : Nat) : accS n d b (i + 1) = better (accS n d b i) (cand (ex n d) (n - ((d : Int) + 1)) b i) := by
  unfold accS
  rw [List.range_succ, List.foldl_append]
  rfl
theorem accS_fine (n : Int) (d : Nat) (b : List Int) (hd : d ≤ 12) : ∀ i : Nat, i ≤ 5 → Fine (accS n d b i)
  | 0, _ => fun L h => by cases h
  | i + 1, h => by rw [accS_succ]; exact fine_pick (accS_fine n d b hd i (by omega)) (fine_cand n d _ b i (by omega) hd)
theorem explS (n : Int) (hn : 1 ≤ n ∧ n ≤ 12) : ∀ (d : Nat) (b : List Int), (d : Int) ≤ n → b.length ≤ 24 → Ev (fun k => spec_l14Explain.f k n (n - (d : Int)) b) (exR (ex n d b)) := by
  intro d
  induction d with
  | zero =>
    intro b _ hb
    refine evSucc ?_
    simp only [spec_l14Explain.f, show n - ((0 : Nat) : Int) = n by omega, if_true]
    unfold ex
    by_cases c : b = []
    · subst c; exact Ev.now _
    · rw [if_neg c]
      have : ((b.length : Int) == 0) = false := beq_eq_false_iff_ne.mpr (fun h => c (List.length_eq_zero_iff.1 (by omega)))
      rw [this]
      exact Ev.now _
  | succ d ih =>
    intro b hd hb
    refine evSucc ?_
    obtain ⟨s, hs⟩ : ∃ s, s = n - ((d : Int) + 1) := ⟨_, rfl⟩
    have e1 : n - ((d + 1 : Nat) : Int) = s := by omega
    rw [e1]
    simp only [spec_l14Explain.f, show ¬ s = n by omega, if_false]
    rw [show wrap64 (2 * wrap64 (n - s)) = 2 * ((d : Int) + 1) by rw [wrapIn (x := n - s) (by omega) (by omega), wrapIn (by omega) (by omega)]; omega]
    by_cases c : (b.length : Int) > 2 * ((d : Int) + 1)
    · simp only [c, if_true]
      unfold ex
      rw [if_pos c]
      exact Ev.now _
    · simp only [c, if_false]
      rw [ex_fold]
      obtain ⟨R, hR⟩ : ∃ R, R = exR ((List.range 5).foldl (fun best k => better best (cand (ex n d) (n - ((d : Int) + 1)) b k)) none) := ⟨_, rfl⟩
      rw [← hR]
      have hw : wrap64 (s + 1) = s + 1 := wrapIn (by omega) (by omega)
      refine evCount (fun k (S : List Int × Bool) i => spec_l14Explain.l0 k n s b S.1 S.2 i) 0 5 (fun i => exR (accS n d b i)) _ ?_ ?_ (by decide)
      · intro i _ hi hr
        have hB := accS_fine n d b (by omega) i (by omega)
        simp only [accS_succ, ← hs] at hr
        have key : ∀ y : List Int, y.length ≤ 2 → cand (ex n d) s b i = candY (ex n d) b y i → Ev (fun k => spec_l14Explain.j2 k n s b (exR (accS n d b i)).1 (exR (accS n d b i)).2 (i : Int) y) _ := fun y hy e => by
          rw [e] at hr
          exact explS_j2 n s b y i d (accS n d b i) _ hi (by omega) hb hB hs (by omega) (ih (b.drop y.length) (by omega) (by rw [List.length_drop]; omega)) hy hr
        have skip : cand (ex n d) s b i = none → Ev (fun k => spec_l14Explain.l0 k n s b (exR (accS n d b i)).1 (exR (accS n d b i)).2 (wrap64 ((i : Int) + 1))) _ := fun e => by
          rw [e] at hr
          rw [wrapNat (show i < 4611686018427387904 by omega)]
          exact hr
        refine evSucc ?_
        simp only [spec_l14Explain.l0, show (i : Int) ≤ 4 by omega, if_true, partS, Option.bind_some]
        by_cases h4 : i = 4
        · have h4i : (i : Int) = 4 := by omega
          simp only [h4i, if_true]
          rw [h4i] at key skip
          by_cases cb : 0 < b.length
          · simp only [show (b.length : Int) > 0 by omega, show (0 : Int) < (b.length : Int) by omega, if_true, hd_rd]
            have hne : b ≠ [] := fun g => by rw [g] at cb; exact absurd cb (by decide)
            by_cases c1 : hdB b > 0
            · simp only [c1, if_true, hw]
              refine evSucc ?_
              by_cases c2 : hdB b = s + 1
              · simp only [spec_l14Explain.j1, c2, bne_self_eq_false, Bool.false_eq_true, if_false, if_true]
                refine skip ?_
                unfold cand
                rw [if_pos ⟨h4, .inr (.inr c2)⟩]
              · have : (hdB b != s + 1) = true := by simpa using c2
                simp only [spec_l14Explain.j1, this, if_true, show (0 : Int) < (b.length : Int) by omega, hd_rd]
                refine key [hdB b] (by simp) ?_
                unfold cand candY
                rw [if_neg (fun g => by rcases g.2 with g | g | g; exact hne g; omega; exact c2 g), h4]
                rfl
            · simp only [c1, if_false]
              refine evSucc ?_
              simp only [spec_l14Explain.j1, Bool.false_eq_true, if_false, if_true]
              refine skip ?_
              unfold cand
              rw [if_pos ⟨h4, .inr (.inl (by omega))⟩]
          · simp only [show ¬ ((b.length : Int) > 0) by omega, if_false]
            refine evSucc ?_
            simp only [spec_l14Explain.j1, Bool.false_eq_true, if_false, if_true]
            refine skip ?_
            unfold cand
            rw [if_pos ⟨h4, .inl (List.length_eq_zero_iff.1 (by omega))⟩]
        · have h4i : ¬ (i : Int) = 4 := by omega
          simp only [h4i, if_false]
          refine evSucc ?_
          simp only [spec_l14Explain.j1, Bool.false_eq_true, if_false, h4i]
          refine key _ (part_len _ _ _) ?_
          unfold cand candY
          rw [if_neg (fun g => h4 g.1)]
          have e : impl_explainer.part s (i : Int) (hdB b) = partW s (i : Int) 0 := by
            unfold impl_explainer.part partW
            rw [hw, wrapIn (x := -(s + 1)) (by omega) (by omega)]
            simp [h4i]
          rw [e]
      · refine evSucc ?_
        simp only [spec_l14Explain.l0, show ¬ (((5 : Nat) : Int) ≤ 4) by decide, if_false]
        rw [hR]
        exact Ev.now _
theorem explSB (n : Int) (l : List Int) (hl : l.length ≤ 1048576) : Ev (fun k => spec_ExplainBlock.f k n l) (explV n l) := by
  unfold spec_ExplainBlock.f explV
  refine Ev.bind (blkS n l hl) ?_
  cases h : blkB n l
  · simp only [Bool.false_eq_true, if_false]
    exact Ev.now _
  · have hb := blk_of h
    have hn := line4_of hb.1
    simp only [if_true]
    obtain ⟨m, rfl⟩ := Int.eq_ofNat_of_zero_le (show 0 ≤ n by omega)
    have := explS (m : Int) ⟨hn.1, hn.2.1⟩ m l (Int.le_refl _) (by have := hb.2.1; omega)
    rw [show (m : Int) - (m : Int) = 0 by omega] at this
    refine Ev.bind this ?_
    rw [Int.toNat_natCast]
    cases ex (m : Int) m l with
    | none => simp only [exR, Bool.false_eq_true, if_false]; exact Ev.now _
    | some L => simp only [exR, if_true]; exact Ev.now _
theorem expl_len (n : Int) (l : List Int) : (explV n l).1.length ≤ 12 := by
  unfold explV
  cases h : blkB n l
  · simp
  · have hn := line4_of (blk_of h).1
    simp only [if_true]
    cases e : ex n n.toNat l with
    | none => simp
    | some L => have := (ex_some _ _ _ _ e).1; simp only []; omega

theorem explV_pos (n : Int) (l : List Int) : ∀ x ∈ (explV n l).1, 0 ≤ x ∧ x ≤ 4 := by
  unfold explV
  cases h : blkB n l
  · simp
  · simp only [if_true]
    cases e : ex n n.toNat l with
    | none => simp
    | some L => exact (ex_some _ _ _ _ e).2.2.1
noncomputable def cfV (n : Int) (l : List Int) : Int × Int := (many (explV n l).1, (explV n l).2)
theorem explV_bad {n : Int} {l : List Int} (h : (explV n l).2 ≠ 0) : (explV n l).1 = [] := by
  unfold explV at h ⊢
  cases hb : blkB n l
  · simp
  · simp only [hb, if_true] at h ⊢
    cases e : ex n n.toNat l with
    | none => rfl
    | some L => rw [e] at h; exact absurd rfl h
theorem cfS (n : Int) (l : List Int) (h : l.length ≤ 1048576) : Ev (fun k => spec_CountFaults.f k n l) (cfV n l) := by
  unfold spec_CountFaults.f cfV
  refine Ev.bind (explSB n l h) ?_
  by_cases c : (explV n l).2 = 0
  · simp only [c, if_true]
    exact Ev.bind (kindsS _ (by have := expl_len n l; omega) (fun x hx => (explV_pos n l x hx).1)) (Ev.now _)
  · simp only [c, if_false]
    rw [explV_bad c]
    exact Ev.now _
theorem cfI (n : Int) (l : List Int) (h : l.length ≤ 1048576) : Ev (fun k => impl_CountFaults.f k n l) (cfV n l) := by
  unfold impl_CountFaults.f cfV
  refine Ev.bind (explI n l h) ?_
  have hp := explV_pos n l
  have hl := expl_len n l
  generalize (explV n l).1 = L at hp hl ⊢
  generalize (explV n l).2 = c
  refine evCount (fun k (a : Int) i => impl_CountFaults.l0 k c a L (L.length : Int) i) 0 L.length (fun i => many (L.take i)) _ ?_ ?_ (Nat.zero_le _)
  · intro i _ hi hr
    refine evSucc ?_
    have hb := many_bd (L.take i) (fun x hx => (hp x (List.mem_of_mem_take hx)).1)
    rw [List.length_take] at hb
    have hx := hp L[i] (List.getElem_mem hi)
    have e : impl_toInt.f (decide (rd L (i : Int) > 0)) = some (min 1 L[i]) := by
      rw [rdN L i hi]
      unfold impl_toInt.f
      by_cases c : L[i] > 0
      · rw [decide_eq_true c, if_pos rfl]; congr 1; omega
      · rw [decide_eq_false c, if_neg (by decide)]; congr 1; omega
    simp only [impl_CountFaults.l0, show (i : Int) < (L.length : Int) by omega, show (0 : Int) ≤ (i : Int) by omega, if_true, e, Option.bind_some, wrapNat (show i < 4611686018427387904 by omega)]
    rw [wrapIn (x := many (L.take i) + min 1 L[i]) (by omega) (by omega), ← many_take L i hi]
    exact hr
  · refine evSucc ?_
    simp only [impl_CountFaults.l0, Int.lt_irrefl, if_false, List.take_length]
    exact Ev.now _

theorem toInt64S (l : List Int) (h : l.length ≤ 1048576) : Ev (fun k => laws_toInt64S.f k l) l := by
  unfold laws_toInt64S.f
  simp only [Int.toNat_natCast]
  rw [show (fun k => if 0 ≤ (l.length : Int) then (if l.length ≤ 35184372088832 then laws_toInt64S.l0 k l (List.replicate l.length 0) 0 else none) else none) = fun k => laws_toInt64S.l0 k l (List.replicate l.length 0) 0 from by
    funext k; rw [if_pos (by omega), if_pos (by omega)]]
  have := evCount (fun k s i => laws_toInt64S.l0 k l s i) 0 l.length (fun i => l.take i ++ List.replicate (l.length - i) 0) l ?_ ?_ (Nat.zero_le _)
  · simpa using this
  · intro i _ hi h
    refine evSucc ?_
    simp only [laws_toInt64S.l0]
    have hl := fillLen l (0 : Int) i (by omega)
    have h1 : (i : Int) < (l.length : Int) := by omega
    have h2 : (0 : Int) ≤ (i : Int) := by omega
    have h3 : (i : Int) < ((l.take i ++ List.replicate (l.length - i) (0 : Int)).length : Int) := by rw [hl]; omega
    simp only [h1, h2, h3, if_true, Int.toNat_natCast, rdN l i hi, fillStep l 0 i hi, wrapNat (show i < 4611686018427387904 by omega)]
    exact h
  · refine evSucc ?_
    simp only [laws_toInt64S.l0, Int.lt_irrefl, if_false, List.take_length, Nat.sub_self, List.replicate_zero, List.append_nil]
    exact Ev.now _

theorem eqInt64S (l : List Int) (h : l.length ≤ 1048576) : Ev (fun k => laws_eqInt64S.f k l l) true := by
  unfold laws_eqInt64S.f
  simp only [if_true]
  have := evAll (fun k i => laws_eqInt64S.l0 k l l i) 0 l.length (fun _ => True) ?_ (fun i _ hi hn => absurd trivial hn) true ?_ (Nat.zero_le _)
  · simpa [B_true] using this
  · intro i _ hi _ r h
    refine evSucc ?_
    have h1 : (i : Int) < (l.length : Int) := by omega
    have h2 : (0 : Int) ≤ (i : Int) := by omega
    simp only [laws_eqInt64S.l0, h1, h2, if_true, wrapNat (show i < 4611686018427387904 by omega)]
    exact h
  · refine evSucc ?_
    simp only [laws_eqInt64S.l0, Int.lt_irrefl, if_false]
    exact Ev.now _



theorem FnExactCountFaults : laws_FnExactCountFaults.Pure := by
  intro n l _ _ _ _
  refine Ev.rounds ?_
  unfold laws_FnExactCountFaults.f
  by_cases hl : (l.length : Int) > 1048576
  · simp only [hl, if_true]
    exact Ev.now _
  · simp only [hl, if_false]
    have h : l.length ≤ 1048576 := by omega
    refine Ev.bind (toInt64S l h) (Ev.bind (cfS n l h) (Ev.bind (toInt64S l h) (Ev.bind (cfI n l h) ?_)))
    simp only [if_true, bne_self_eq_false]
    refine evSucc ?_
    simp only [laws_FnExactCountFaults.j0, Bool.false_eq_true, if_false]
    refine Ev.bind (toInt64S l h) (Ev.bind (eqInt64S l h) ?_)
    simp only [if_true]
    exact Ev.now _

end Go.Proofs.Ythmeohanbggnlaa.Pure
