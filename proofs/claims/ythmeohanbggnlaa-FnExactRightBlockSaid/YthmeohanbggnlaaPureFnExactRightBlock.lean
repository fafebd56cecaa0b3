/- The program and the reference give the same right block, for every int64; what is handed back is the caller's own. -/
import Derived.Test.YthmeohanbggnlaaSayFnExactRightBlock
namespace Go.Proofs.Ythmeohanbggnlaa.Pure
open Go.RowKit Go.Proofs.Ythmeohanbggnlaa.PFnExactRightBlock Go.Proofs.YthmeohanbggnlaaW.PrintWords Go.Proofs.YthmeohanbggnlaaW.PrintLast
-- BEGIN
theorem inS (a b c : Int) : spec_l01In.f a b c = some (decide (b ≤ a ∧ a ≤ c)) := by
  unfold spec_l01In.f
  by_cases h : b ≤ a <;> simp [h]

theorem inI (a b c : Int) : impl_inRange.f a b c = some (decide (b ≤ a ∧ a ≤ c)) := by
  unfold impl_inRange.f
  by_cases h : b ≤ a <;> simp [h]

def lineB (n b : Int) : Bool := decide (1 ≤ n ∧ n ≤ 12) && decide (0 ≤ b ∧ b ≤ 40)
theorem lineS (n b : Int) : spec_l14Line.f n b = some (lineB n b) := by
  unfold spec_l14Line.f lineB
  simp only [inS, Option.bind_some]
  by_cases h1 : (1 ≤ n ∧ n ≤ 12) <;> simp [h1]
theorem lineI (n b : Int) : impl_isLine.f n b = some (lineB n b) := by
  unfold impl_isLine.f lineB
  simp only [inI, Option.bind_some]
  by_cases h1 : (1 ≤ n ∧ n ≤ 12) <;> simp [h1]
theorem line_of {n b : Int} (h : lineB n b = true) : 1 ≤ n ∧ n ≤ 12 ∧ 0 ≤ b ∧ b ≤ 40 := by
  unfold lineB at h
  simp at h
  omega

/-- A proposition as a bool. -/
noncomputable def B (p : Prop) : Bool := @decide p (Classical.propDecidable p)
theorem B_iff {p : Prop} : B p = true ↔ p := by unfold B; exact @decide_eq_true_iff p (Classical.propDecidable p)
theorem B_true {p : Prop} (h : p) : B p = true := B_iff.2 h
theorem B_false {p : Prop} (h : ¬ p) : B p = false := by cases e : B p with | false => rfl | true => exact absurd (B_iff.1 e) h
theorem B_congr {p q : Prop} (h : p ↔ q) : B p = B q := by rw [propext h]
theorem B_dec (p : Prop) [Decidable p] : B p = decide p := by by_cases h : p <;> simp [h, B_true, B_false]
theorem B_and (p q : Prop) : (B p && B q) = B (p ∧ q) := by
  by_cases hp : p <;> by_cases hq : q <;> simp [B_true, B_false, hp, hq]
theorem B_not (p : Prop) : (!B p) = B (¬ p) := by by_cases hp : p <;> simp [B_true, B_false, hp]
theorem evSucc {α : Type} {g : Nat → Option α} {r : α} (h : Ev (fun k => g (k + 1)) r) : Ev g r := Ev.step (fun _ => rfl) h
theorem evNow {α : Type} {g : Nat → Option α} {r : α} (h : ∀ k, g k = some r) : Ev g r := ⟨0, fun k _ => h k⟩
theorem evCount {σ α : Type} (F : Nat → σ → Int → Option α) (i0 n : Nat) (S : Nat → σ) (r : α)
    (hstep : ∀ i, i0 ≤ i → i < n → Ev (fun k => F k (S (i + 1)) ((i + 1 : Nat) : Int)) r → Ev (fun k => F k (S i) (i : Int)) r) (hend : Ev (fun k => F k (S n) (n : Int)) r) (hle : i0 ≤ n) : Ev (fun k => F k (S i0) (i0 : Int)) r := by
  have key : ∀ d i, i0 ≤ i → i + d = n → Ev (fun k => F k (S i) (i : Int)) r := by
    intro d
    induction d with
    | zero =>
      intro i _ hi
      have h0 : i = n := by omega
      subst h0
      exact hend
    | succ d ih => intro i h0 hi; exact hstep i h0 (by omega) (ih (i + 1) (by omega) (by omega))
  exact key (n - i0) i0 (Nat.le_refl _) (by omega)
/-- A loop that leaves at the first place where G fails. -/
theorem evAll (F : Nat → Int → Option Bool) (i0 n : Nat) (G : Nat → Prop)
    (hstep : ∀ i, i0 ≤ i → i < n → G i → ∀ r, Ev (fun k => F k ((i + 1 : Nat) : Int)) r → Ev (fun k => F k (i : Int)) r) (hbad : ∀ i, i0 ≤ i → i < n → ¬ G i → Ev (fun k => F k (i : Int)) false) (e : Bool) (hend : Ev (fun k => F k (n : Int)) e) (hle : i0 ≤ n) :
    Ev (fun k => F k (i0 : Int)) (B (∀ j, i0 ≤ j → j < n → G j) && e) := by
  have key : ∀ d i, i0 ≤ i → i + d = n → Ev (fun k => F k (i : Int)) (B (∀ j, i ≤ j → j < n → G j) && e) := by
    intro d
    induction d with
    | zero =>
      intro i _ hi
      have h0 : i = n := by omega
      subst h0
      rw [B_true (fun j h1 h2 => absurd h2 (by omega)), Bool.true_and]
      exact hend
    | succ d ih =>
      intro i h0 hi
      by_cases hg : G i
      · have h1 : B (∀ j, i ≤ j → j < n → G j) = B (∀ j, i + 1 ≤ j → j < n → G j) := B_congr ⟨fun h j a b => h j (by omega) b, fun h j a b => by
          by_cases e : j = i
          · subst e; exact hg
          · exact h j (by omega) b⟩
        rw [h1]
        exact hstep i h0 (by omega) hg _ (ih (i + 1) (by omega) (by omega))
      · rw [B_false (fun h => hg (h i (Nat.le_refl _) (by omega))), Bool.false_and]
        exact hbad i h0 (by omega) hg
  exact key (n - i0) i0 (Nat.le_refl _) (by omega)
theorem wrapNat {i : Nat} (h : i < 4611686018427387904) : wrap64 ((i : Int) + 1) = ((i + 1 : Nat) : Int) := by
  unfold wrap64; omega
theorem wrapPred {i : Nat} (h0 : 1 ≤ i) (h : i < 4611686018427387904) : wrap64 ((i : Int) - 1) = ((i - 1 : Nat) : Int) := by
  unfold wrap64; omega
theorem rdN (xs : List Int) (i : Nat) (h : i < xs.length) : rd xs (i : Int) = xs[i] := by
  simp [rd, List.getD_eq_getElem?_getD, List.getElem?_eq_getElem h]
theorem fillStep {α : Type} (xs : List α) (z : α) (i : Nat) (h : i < xs.length) : (xs.take i ++ List.replicate (xs.length - i) z).set i xs[i] = xs.take (i + 1) ++ List.replicate (xs.length - (i + 1)) z := by
  have h1 : xs.length - i = (xs.length - (i + 1)) + 1 := by omega
  rw [h1, List.replicate_succ, List.set_append_right _ _ (by rw [List.length_take]; omega)]
  rw [List.length_take, Nat.min_eq_left (by omega), Nat.sub_self, List.set_cons_zero, List.take_succ_eq_append_getElem h, List.append_assoc]
  rfl
theorem fillLen {α : Type} (xs : List α) (z : α) (i : Nat) (h : i ≤ xs.length) : (xs.take i ++ List.replicate (xs.length - i) z).length = xs.length := by
  simp; omega

theorem wrapIn {x : Int} (h0 : -9223372036854775808 ≤ x) (h1 : x ≤ 9223372036854775807) : wrap64 x = x := by
  unfold wrap64; omega

def marks (i : Nat) : List Int := (List.range i).map fun (j : Nat) => (j : Int) + 1
theorem marks_len (i : Nat) : (marks i).length = i := by simp [marks]
theorem marks_succ (i : Nat) : marks (i + 1) = marks i ++ [(i : Int) + 1] := by simp [marks, List.range_succ]
theorem marks_get (n i : Nat) (h : i < n) : rd (marks n) (i : Int) = (i : Int) + 1 := by
  rw [rdN _ _ (by rw [marks_len]; exact h)]
  simp [marks]
theorem set_marks (l : List Int) (i : Nat) (h : i < l.length) : (marks i ++ l.drop i).set i ((i : Int) + 1) = marks (i + 1) ++ l.drop (i + 1) := by
  rw [List.set_append_right _ _ (by rw [marks_len]; omega), marks_len, Nat.sub_self, List.drop_eq_getElem_cons h, List.set_cons_zero, marks_succ, List.append_assoc]
  rfl
theorem markInt64S (l : List Int) (h : l.length ≤ 1048576) : Ev (fun k => laws_markInt64S.f k l 1) ((l.length : Int) + 1, marks l.length) := by
  unfold laws_markInt64S.f
  have := evCount (fun k (s : List Int × Int) i => laws_markInt64S.l0 k s.1 s.2 i) 0 l.length (fun i => (marks i ++ l.drop i, (i : Int) + 1)) ((l.length : Int) + 1, marks l.length) ?_ ?_ (Nat.zero_le _)
  · simpa [marks] using this
  · intro i _ hi hr
    refine evSucc ?_
    have hl : (marks i ++ l.drop i).length = l.length := by simp [marks_len]; omega
    simp only [laws_markInt64S.l0, hl, show (i : Int) < (l.length : Int) by omega, show (0 : Int) ≤ (i : Int) by omega, if_true, Int.toNat_natCast, set_marks l i hi, wrapNat (show i < 4611686018427387904 by omega), wrapIn (show -9223372036854775808 ≤ (i : Int) + 1 + 1 by omega) (show (i : Int) + 1 + 1 ≤ 9223372036854775807 by omega)]
    simp only [show ((i + 1 : Nat) : Int) + 1 = (i : Int) + 1 + 1 by omega] at hr
    exact hr
  · refine evSucc ?_
    have hl : (marks l.length ++ l.drop l.length).length = l.length := by simp [marks_len]
    simp only [laws_markInt64S.l0, hl, Int.lt_irrefl, if_false]
    rw [List.drop_length, List.append_nil]
    exact Ev.now _
theorem heldInt64S (n : Nat) (h : n ≤ 1048576) : Ev (fun k => laws_heldInt64S.f k (marks n) 1) ((n : Int) + 1) := by
  unfold laws_heldInt64S.f
  have := evCount (fun k (s : Int) i => laws_heldInt64S.l0 k (marks n) s i) 0 n (fun i => (i : Int) + 1) ((n : Int) + 1) ?_ ?_ (Nat.zero_le _)
  · exact this
  · intro i _ hi hr
    refine evSucc ?_
    simp only [laws_heldInt64S.l0, marks_len, show (i : Int) < (n : Int) by omega, show (0 : Int) ≤ (i : Int) by omega, if_true, marks_get n i hi, wrapNat (show i < 4611686018427387904 by omega), wrapIn (show -9223372036854775808 ≤ (i : Int) + 1 + 1 by omega) (show (i : Int) + 1 + 1 ≤ 9223372036854775807 by omega)]
    simp only [show ((i + 1 : Nat) : Int) + 1 = (i : Int) + 1 + 1 by omega] at hr
    exact hr
  · refine evSucc ?_
    simp only [laws_heldInt64S.l0, marks_len, Int.lt_irrefl, if_false]
    exact Ev.now _

theorem rightI (n : Int) (h0 : 0 ≤ n) (h1 : n ≤ 100) : Ev (fun k => impl_rightBlock.f k n) (marks n.toNat) := by
  obtain ⟨m, rfl⟩ := Int.eq_ofNat_of_zero_le h0
  unfold impl_rightBlock.f
  have := evCount (fun k (s : List Int) i => impl_rightBlock.l0 k s (m : Int) i) 0 m (fun i => marks i) (marks m) ?_ ?_ (Nat.zero_le _)
  · simpa [marks] using this
  · intro i _ hi hr
    refine evSucc ?_
    simp only [impl_rightBlock.l0, marks_len, show (i : Int) < (m : Int) by omega, show i < 17592186044416 by omega, if_true, wrapIn (show -9223372036854775808 ≤ (i : Int) + 1 by omega) (show (i : Int) + 1 ≤ 9223372036854775807 by omega)]
    rw [marks_succ] at hr
    exact hr
  · refine evSucc ?_
    simp only [impl_rightBlock.l0, Int.lt_irrefl, if_false]
    exact Ev.now _

theorem rightS (n b : Int) (h0 : 0 ≤ n) (h1 : n ≤ 100) : Ev (fun k => spec_l14Block.f k n b []) (marks n.toNat) := by
  obtain ⟨m, rfl⟩ := Int.eq_ofNat_of_zero_le h0
  unfold spec_l14Block.f
  have := evCount (fun k (s : List Int) i => spec_l14Block.l0 k (m : Int) b [] s i) 0 m (fun i => marks i) (marks m) ?_ ?_ (Nat.zero_le _)
  · simpa [marks] using this
  · intro i _ hi hr
    refine evSucc (evSucc ?_)
    simp only [spec_l14Block.l0, spec_l14Block.l1, spec_l14Part.f, show (i : Int) < (m : Int) by omega, if_true, show ¬ ((0 : Int) = 1) by decide, show ¬ ((0 : Int) = 2) by decide, show ¬ ((0 : Int) = 3) by decide, show ¬ ((0 : Int) = 4) by decide, if_false, Option.bind_some, List.length_nil, show ¬ ((0 : Int) < ((0 : Nat) : Int)) by decide, marks_len, List.length_cons,
      show i + (0 + 1) < 17592186044416 by omega, wrapIn (show -9223372036854775808 ≤ (i : Int) + 1 by omega) (show (i : Int) + 1 ≤ 9223372036854775807 by omega)]
    rw [marks_succ] at hr
    obtain ⟨K, hK⟩ := hr
    exact ⟨K, fun k hk => hK k hk⟩
  · refine evSucc ?_
    simp only [spec_l14Block.l0, Int.lt_irrefl, if_false]
    exact Ev.now _

theorem eqInt64S (l : List Int) (h : l.length ≤ 1048576) : Ev (fun k => laws_eqInt64S.f k l l) true := by
  unfold laws_eqInt64S.f
  simp only [if_true]
  have := evAll (fun k i => laws_eqInt64S.l0 k l l i) 0 l.length (fun _ => True) ?_ (fun i _ hi hn => absurd trivial hn) true ?_ (Nat.zero_le _)
  · simpa [B_true] using this
  · intro i _ hi _ r h
    refine evSucc ?_
    have h1 : (i : Int) < (l.length : Int) := by omega
    have h2 : (0 : Int) ≤ (i : Int) := by omega
    simp only [laws_eqInt64S.l0, h1, h2, if_true, wrapNat (show i < 4611686018427387904 by omega)]
    exact h
  · refine evSucc ?_
    simp only [laws_eqInt64S.l0, Int.lt_irrefl, if_false]
    exact Ev.now _

def rightV (n : Int) : List Int × Int := if lineB n 0 = true then (marks n.toNat, 0) else ([], 2)
theorem RightS (n : Int) : Ev (fun k => spec_RightBlock.f k n) (rightV n) := by
  unfold spec_RightBlock.f rightV
  simp only [lineS, Option.bind_some]
  cases h : lineB n 0
  · simp only [Bool.false_eq_true, if_false]
    exact Ev.now _
  · have hl := line_of h
    simp only [if_true]
    exact Ev.bind (rightS n 0 (by omega) (by omega)) (Ev.now _)
theorem RightI (n : Int) : Ev (fun k => impl_RightBlock.f k n) (rightV n) := by
  unfold impl_RightBlock.f rightV
  simp only [lineI, Option.bind_some]
  cases h : lineB n 0
  · simp only [Bool.false_eq_true, if_false]
    exact Ev.now _
  · have hl := line_of h
    simp only [if_true]
    exact Ev.bind (rightI n (by omega) (by omega)) (Ev.now _)
theorem right_len (n : Int) : (rightV n).1.length ≤ 1048576 := by
  unfold rightV
  split
  · rename_i h
    have := line_of h
    simp only [marks_len]
    omega
  · simp
theorem FnExactRightBlock : laws_FnExactRightBlock.Pure := by
  intro n _
  refine Ev.rounds ?_
  unfold laws_FnExactRightBlock.f
  have hl := right_len n
  refine Ev.bind (RightS n) (Ev.bind (RightI n) (Ev.bind (eqInt64S _ hl) ?_))
  simp only [if_true, bne_self_eq_false]
  refine evSucc ?_
  simp only [laws_FnExactRightBlock.j0, Bool.false_eq_true, if_false]
  refine Ev.bind (markInt64S _ hl) (Ev.bind (heldInt64S _ hl) ?_)
  simp only [show ¬ ((((rightV n).1.length : Nat) : Int) + 1 < 0) by omega, if_false, if_true]
  refine Ev.bind (RightI n) (Ev.bind (eqInt64S _ hl) ?_)
  simp only [if_true, bne_self_eq_false]
  refine evSucc ?_
  simp only [laws_FnExactRightBlock.j1, Bool.false_eq_true, if_false]
  refine Ev.bind (heldInt64S _ hl) ?_
  simp only [show ¬ ((((rightV n).1.length : Nat) : Int) + 1 < 0) by omega, if_false, if_true]
  exact Ev.now _

end Go.Proofs.Ythmeohanbggnlaa.Pure
