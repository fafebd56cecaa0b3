/- The program and the reference name the same busiest station, for every two int64 and every list of faults. -/
import Derived.Test.YthmeohanbggnlaaSayFnExactBusiestStation
namespace Go.Proofs.Ythmeohanbggnlaa.Pure
open Go.RowKit Go.Proofs.Ythmeohanbggnlaa.PFnExactBusiestStation Go.Proofs.YthmeohanbggnlaaW.PrintWords Go.Proofs.YthmeohanbggnlaaW.PrintLast
set_option linter.unusedVariables false
set_option linter.unusedSimpArgs false
-- BEGIN
/-- A proposition as a bool. -/
noncomputable def B (p : Prop) : Bool := @decide p (Classical.propDecidable p)
theorem B_iff {p : Prop} : B p = true ↔ p := by unfold B; exact @decide_eq_true_iff p (Classical.propDecidable p)
theorem B_true {p : Prop} (h : p) : B p = true := B_iff.2 h
theorem B_false {p : Prop} (h : ¬ p) : B p = false := by cases e : B p with | false => rfl | true => exact absurd (B_iff.1 e) h
theorem B_congr {p q : Prop} (h : p ↔ q) : B p = B q := by rw [propext h]
theorem B_dec (p : Prop) [Decidable p] : B p = decide p := by by_cases h : p <;> simp [h, B_true, B_false]
theorem B_and (p q : Prop) : (B p && B q) = B (p ∧ q) := by
  by_cases hp : p <;> by_cases hq : q <;> simp [B_true, B_false, hp, hq]
theorem B_not (p : Prop) : (!B p) = B (¬ p) := by by_cases hp : p <;> simp [B_true, B_false, hp]
theorem evSucc {α : Type} {g : Nat → Option α} {r : α} (h : Ev (fun k => g (k + 1)) r) : Ev g r := Ev.step (fun _ => rfl) h
theorem evNow {α : Type} {g : Nat → Option α} {r : α} (h : ∀ k, g k = some r) : Ev g r := ⟨0, fun k _ => h k⟩
theorem evCount {σ α : Type} (F : Nat → σ → Int → Option α) (i0 n : Nat) (S : Nat → σ) (r : α)
    (hstep : ∀ i, i0 ≤ i → i < n → Ev (fun k => F k (S (i + 1)) ((i + 1 : Nat) : Int)) r → Ev (fun k => F k (S i) (i : Int)) r) (hend : Ev (fun k => F k (S n) (n : Int)) r) (hle : i0 ≤ n) : Ev (fun k => F k (S i0) (i0 : Int)) r := by
  have key : ∀ d i, i0 ≤ i → i + d = n → Ev (fun k => F k (S i) (i : Int)) r := by
    intro d
    induction d with
    | zero =>
      intro i _ hi
      have h0 : i = n := by omega
      subst h0
      exact hend
    | succ d ih => intro i h0 hi; exact hstep i h0 (by omega) (ih (i + 1) (by omega) (by omega))
  exact key (n - i0) i0 (Nat.le_refl _) (by omega)
/-- A loop that leaves at the first place where G fails. -/
theorem evAll (F : Nat → Int → Option Bool) (i0 n : Nat) (G : Nat → Prop)
    (hstep : ∀ i, i0 ≤ i → i < n → G i → ∀ r, Ev (fun k => F k ((i + 1 : Nat) : Int)) r → Ev (fun k => F k (i : Int)) r) (hbad : ∀ i, i0 ≤ i → i < n → ¬ G i → Ev (fun k => F k (i : Int)) false) (e : Bool) (hend : Ev (fun k => F k (n : Int)) e) (hle : i0 ≤ n) :
    Ev (fun k => F k (i0 : Int)) (B (∀ j, i0 ≤ j → j < n → G j) && e) := by
  have key : ∀ d i, i0 ≤ i → i + d = n → Ev (fun k => F k (i : Int)) (B (∀ j, i ≤ j → j < n → G j) && e) := by
    intro d
    induction d with
    | zero =>
      intro i _ hi
      have h0 : i = n := by omega
      subst h0
      rw [B_true (fun j h1 h2 => absurd h2 (by omega)), Bool.true_and]
      exact hend
    | succ d ih =>
      intro i h0 hi
      by_cases hg : G i
      · have h1 : B (∀ j, i ≤ j → j < n → G j) = B (∀ j, i + 1 ≤ j → j < n → G j) := B_congr ⟨fun h j a b => h j (by omega) b, fun h j a b => by
          by_cases e : j = i
          · subst e; exact hg
          · exact h j (by omega) b⟩
        rw [h1]
        exact hstep i h0 (by omega) hg _ (ih (i + 1) (by omega) (by omega))
      · rw [B_false (fun h => hg (h i (Nat.le_refl _) (by omega))), Bool.false_and]
        exact hbad i h0 (by omega) hg
  exact key (n - i0) i0 (Nat.le_refl _) (by omega)
theorem wrapNat {i : Nat} (h : i < 4611686018427387904) : wrap64 ((i : Int) + 1) = ((i + 1 : Nat) : Int) := by
  unfold wrap64; omega
theorem wrapPred {i : Nat} (h0 : 1 ≤ i) (h : i < 4611686018427387904) : wrap64 ((i : Int) - 1) = ((i - 1 : Nat) : Int) := by
  unfold wrap64; omega
theorem rdN (xs : List Int) (i : Nat) (h : i < xs.length) : rd xs (i : Int) = xs[i] := by
  simp [rd, List.getD_eq_getElem?_getD, List.getElem?_eq_getElem h]
theorem fillStep {α : Type} (xs : List α) (z : α) (i : Nat) (h : i < xs.length) : (xs.take i ++ List.replicate (xs.length - i) z).set i xs[i] = xs.take (i + 1) ++ List.replicate (xs.length - (i + 1)) z := by
  have h1 : xs.length - i = (xs.length - (i + 1)) + 1 := by omega
  rw [h1, List.replicate_succ, List.set_append_right _ _ (by rw [List.length_take]; omega)]
  rw [List.length_take, Nat.min_eq_left (by omega), Nat.sub_self, List.set_cons_zero, List.take_succ_eq_append_getElem h, List.append_assoc]
  rfl
theorem fillLen {α : Type} (xs : List α) (z : α) (i : Nat) (h : i ≤ xs.length) : (xs.take i ++ List.replicate (xs.length - i) z).length = xs.length := by
  simp; omega

/-- A loop that leaves at the first place where G fails; what comes after it counts only where none failed. -/
theorem evAllC (F : Nat → Int → Option Bool) (i0 n : Nat) (G : Nat → Prop)
    (hstep : ∀ i, i0 ≤ i → i < n → G i → ∀ r, Ev (fun k => F k ((i + 1 : Nat) : Int)) r → Ev (fun k => F k (i : Int)) r) (hbad : ∀ i, i0 ≤ i → i < n → ¬ G i → Ev (fun k => F k (i : Int)) false) (e : Bool) (hend : (∀ j, i0 ≤ j → j < n → G j) → Ev (fun k => F k (n : Int)) e) (hle : i0 ≤ n) :
    Ev (fun k => F k (i0 : Int)) (B (∀ j, i0 ≤ j → j < n → G j) && e) := by
  have key : ∀ d i, i0 ≤ i → i + d = n → (∀ j, i0 ≤ j → j < i → G j) → Ev (fun k => F k (i : Int)) (B (∀ j, i ≤ j → j < n → G j) && e) := by
    intro d
    induction d with
    | zero =>
      intro i _ hi hp
      have h0 : i = n := by omega
      subst h0
      rw [B_true (fun j h1 h2 => absurd h2 (by omega)), Bool.true_and]
      exact hend hp
    | succ d ih =>
      intro i h0 hi hp
      by_cases hg : G i
      · have h1 : B (∀ j, i ≤ j → j < n → G j) = B (∀ j, i + 1 ≤ j → j < n → G j) := B_congr ⟨fun h j a b => h j (by omega) b, fun h j a b => by
          by_cases e : j = i
          · subst e; exact hg
          · exact h j (by omega) b⟩
        rw [h1]
        exact hstep i h0 (by omega) hg _ (ih (i + 1) (by omega) (by omega) (fun j a b => by
          by_cases e : j = i
          · subst e; exact hg
          · exact hp j a (by omega)))
      · rw [B_false (fun h => hg (h i (Nat.le_refl _) (by omega))), Bool.false_and]
        exact hbad i h0 (by omega) hg
  exact key (n - i0) i0 (Nat.le_refl _) (by omega) (fun j a b => absurd b (by omega))

theorem inS (a b c : Int) : spec_l01In.f a b c = some (decide (b ≤ a ∧ a ≤ c)) := by
  unfold spec_l01In.f
  by_cases h : b ≤ a <;> simp [h]

theorem inI (a b c : Int) : impl_inRange.f a b c = some (decide (b ≤ a ∧ a ≤ c)) := by
  unfold impl_inRange.f
  by_cases h : b ≤ a <;> simp [h]

theorem wrapIn {x : Int} (h0 : -9223372036854775808 ≤ x) (h1 : x ≤ 9223372036854775807) : wrap64 x = x := by
  unfold wrap64; omega

theorem rd55 (xs : List S55) (i : Nat) (h : i < xs.length) : rd_T55 xs (i : Int) = xs[i] := by
  simp [rd_T55, List.getD_eq_getElem?_getD, List.getElem?_eq_getElem h]

def lineB (n b : Int) : Bool := decide (1 ≤ n ∧ n ≤ 12) && decide (0 ≤ b ∧ b ≤ 40)
theorem lineS (n b : Int) : spec_l14Line.f n b = some (lineB n b) := by
  unfold spec_l14Line.f lineB
  simp only [inS, Option.bind_some]
  by_cases h1 : (1 ≤ n ∧ n ≤ 12) <;> simp [h1]
theorem lineI (n b : Int) : impl_isLine.f n b = some (lineB n b) := by
  unfold impl_isLine.f lineB
  simp only [inI, Option.bind_some]
  by_cases h1 : (1 ≤ n ∧ n ≤ 12) <;> simp [h1]
theorem line_of {n b : Int} (h : lineB n b = true) : (1 ≤ n ∧ n ≤ 12) ∧ 0 ≤ b ∧ b ≤ 40 := by
  simpa only [lineB, Bool.and_eq_true, decide_eq_true_eq] using h
def InF (n b : Int) (u : S55) : Prop := (0 ≤ u.f0 ∧ u.f0 ≤ b - 1) ∧ (0 ≤ u.f1 ∧ u.f1 ≤ n - 1) ∧ (1 ≤ u.f2 ∧ u.f2 ≤ 4) ∧ (0 ≤ u.f3 ∧ u.f3 ≤ n - 1)
def OtherF (u : S55) : Prop := (u.f2 = 4 → ¬ u.f3 = u.f1) ∧ (¬ u.f2 = 4 → u.f3 = 0)
def NewF (l : List S55) (i : Nat) : Prop := ∀ j : Nat, j < i → ¬ ((rd_T55 l (j : Int)).f0 = (rd_T55 l (i : Int)).f0 ∧ (rd_T55 l (j : Int)).f1 = (rd_T55 l (i : Int)).f1)
def GoodF (n b : Int) (l : List S55) (i : Nat) : Prop := InF n b (rd_T55 l (i : Int)) ∧ OtherF (rd_T55 l (i : Int)) ∧ NewF l i
noncomputable def faultsB (n b : Int) (l : List S55) : Bool := lineB n b && (decide (l.length ≤ 20) && B (∀ i : Nat, i < l.length → GoodF n b l i))
theorem all0F (n : Nat) (G : Nat → Prop) : B (∀ j, 0 ≤ j → j < n → G j) = B (∀ j, j < n → G j) := B_congr ⟨fun h j hj => h j (Nat.zero_le _) hj, fun h j _ hj => h j hj⟩

theorem faultS_step {n b : Int} (hl : lineB n b = true) (l : List S55) (hn : l.length ≤ 20) (i : Nat) (hi : i < l.length) (r : Bool) (hr : GoodF n b l i → Ev (fun k => spec_AreFaults.l0 k n b l ((i + 1 : Nat) : Int)) r) :
    Ev (fun k => spec_AreFaults.l0 k n b l (i : Int)) (B (GoodF n b l i) && r) := by
  obtain ⟨hn1, hb1⟩ := line_of hl
  have w1 : wrap64 (b - 1) = b - 1 := wrapIn (by omega) (by omega)
  have w2 : wrap64 (n - 1) = n - 1 := wrapIn (by omega) (by omega)
  have no : ∀ {x : Bool}, ¬ GoodF n b l i → (B (GoodF n b l i) && x) = false := fun h => by rw [B_false h, Bool.false_and]
  refine evSucc ?_
  simp only [spec_AreFaults.l0, show (i : Int) < (l.length : Int) by omega, show (0 : Int) ≤ (i : Int) by omega, if_true, inS, Option.bind_some, decide_eq_true_eq, w1, w2]
  by_cases h1 : InF n b (rd_T55 l (i : Int))
  · obtain ⟨a1, a2, a3, a4⟩ := h1
    simp only [a1, a2, a3, a4, and_self, if_true, decide_true, Bool.not_true]
    refine evSucc ?_
    simp only [spec_AreFaults.j2, Bool.false_eq_true, if_false]
    have tail : OtherF (rd_T55 l (i : Int)) → Ev (fun k => spec_AreFaults.j3 k n b l (i : Int) false (rd_T55 l (i : Int)).f0 (rd_T55 l (i : Int)).f1 (rd_T55 l (i : Int)).f2 (rd_T55 l (i : Int)).f3) (B (GoodF n b l i) && r) := by
      intro ho
      refine evSucc ?_
      simp only [spec_AreFaults.j3, Bool.false_eq_true, if_false]
      have := evAllC (fun k j => spec_AreFaults.l1 k n b l (i : Int) j (rd_T55 l (i : Int)).f0 (rd_T55 l (i : Int)).f1 (rd_T55 l (i : Int)).f2 (rd_T55 l (i : Int)).f3) 0 i
        (fun j => ¬ ((rd_T55 l (j : Int)).f0 = (rd_T55 l (i : Int)).f0 ∧ (rd_T55 l (j : Int)).f1 = (rd_T55 l (i : Int)).f1)) ?_ ?_ r ?_ (Nat.zero_le _)
      · rw [all0F] at this
        rw [B_congr (show GoodF n b l i ↔ NewF l i from ⟨fun h => h.2.2, fun h => ⟨⟨a1, a2, a3, a4⟩, ho, h⟩⟩)]
        exact this
      · intro j _ hj hg r' hr'
        refine evSucc ?_
        simp only [spec_AreFaults.l1, show (j : Int) < (i : Int) by omega, show (0 : Int) ≤ (j : Int) by omega, show (j : Int) < (l.length : Int) by omega, if_true, wrapNat (show j < 4611686018427387904 by omega)]
        by_cases e0 : (rd_T55 l (j : Int)).f0 = (rd_T55 l (i : Int)).f0
        · have e1 : ¬ (rd_T55 l (j : Int)).f1 = (rd_T55 l (i : Int)).f1 := fun e1 => hg ⟨e0, e1⟩
          simp only [e0, e1, if_true, if_false]
          exact hr'
        · simp only [e0, if_false]
          exact hr'
      · intro j _ hj hg
        have hg' := Classical.not_not.1 hg
        refine evSucc ?_
        simp only [spec_AreFaults.l1, show (j : Int) < (i : Int) by omega, show (0 : Int) ≤ (j : Int) by omega, show (j : Int) < (l.length : Int) by omega, if_true, hg'.1, hg'.2]
        exact Ev.now _
      · intro hall
        refine evSucc ?_
        simp only [spec_AreFaults.l1, Int.lt_irrefl, if_false, wrapNat (show i < 4611686018427387904 by omega)]
        exact hr ⟨⟨a1, a2, a3, a4⟩, ho, fun j hj => hall j (Nat.zero_le _) hj⟩
    by_cases c : (rd_T55 l (i : Int)).f2 = 4
    · simp only [c, if_true] at tail ⊢
      by_cases e : (rd_T55 l (i : Int)).f3 = (rd_T55 l (i : Int)).f1
      · rw [no (fun h => h.2.1.1 c e)]
        refine evSucc ?_
        simp only [e, beq_self_eq_true, spec_AreFaults.j3, if_true]
        exact Ev.now _
      · rw [show ((rd_T55 l (i : Int)).f3 == (rd_T55 l (i : Int)).f1) = false from beq_false_of_ne e]
        exact tail ⟨fun _ => e, fun h => absurd c h⟩
    · simp only [c, if_false]
      by_cases e : (rd_T55 l (i : Int)).f3 = 0
      · simp only [e, if_true] at tail ⊢
        exact tail ⟨fun h => absurd h c, fun _ => e⟩
      · rw [no (fun h => e (h.2.1.2 c))]
        simp only [e, if_false]
        refine evSucc ?_
        simp only [spec_AreFaults.j3, if_true]
        exact Ev.now _
  · rw [no (fun h => h1 h.1)]
    have stop : Ev (fun k => spec_AreFaults.j2 k n b l (i : Int) true (rd_T55 l (i : Int)).f0 (rd_T55 l (i : Int)).f1 (rd_T55 l (i : Int)).f2 (rd_T55 l (i : Int)).f3) false := by
      refine evSucc ?_
      simp only [spec_AreFaults.j2, if_true]
      exact Ev.now _
    by_cases a1 : 0 ≤ (rd_T55 l (i : Int)).f0 ∧ (rd_T55 l (i : Int)).f0 ≤ b - 1
    · simp only [a1, and_self, if_true]
      by_cases a2 : 0 ≤ (rd_T55 l (i : Int)).f1 ∧ (rd_T55 l (i : Int)).f1 ≤ n - 1
      · simp only [a2, and_self, if_true]
        by_cases a3 : 1 ≤ (rd_T55 l (i : Int)).f2 ∧ (rd_T55 l (i : Int)).f2 ≤ 4
        · have a4 : ¬ (0 ≤ (rd_T55 l (i : Int)).f3 ∧ (rd_T55 l (i : Int)).f3 ≤ n - 1) := fun a4 => h1 ⟨a1, a2, a3, a4⟩
          simp only [a3, and_self, if_true, a4, decide_false, Bool.not_false]
          exact stop
        · simp only [a3, if_false]
          exact stop
      · simp only [a2, if_false]
        exact stop
    · simp only [a1, if_false]
      exact stop
theorem faultS (n b : Int) (l : List S55) : Ev (fun k => spec_AreFaults.f k n b l) (faultsB n b l) := by
  unfold spec_AreFaults.f faultsB
  simp only [lineS, Option.bind_some]
  by_cases hl : lineB n b = true
  · simp only [hl, if_true, Bool.true_and]
    refine evSucc ?_
    by_cases hn : l.length ≤ 20
    · simp only [spec_AreFaults.j0, show ¬ ((l.length : Int) > 20) by omega, decide_false, Bool.false_eq_true, if_false, hn, decide_true, Bool.true_and]
      have := evAllC (fun k i => spec_AreFaults.l0 k n b l i) 0 l.length (GoodF n b l) ?_ ?_ true ?_ (Nat.zero_le _)
      · rw [all0F, Bool.and_true] at this
        exact this
      · intro i _ hi hg r hr
        have := faultS_step hl l hn i hi r (fun _ => hr)
        rw [B_true hg, Bool.true_and] at this
        exact this
      · intro i _ hi hg
        have := faultS_step hl l hn i hi true (fun h => absurd h hg)
        rw [B_false hg, Bool.false_and] at this
        exact this
      · intro _
        refine evSucc ?_
        simp only [spec_AreFaults.l0, Int.lt_irrefl, if_false]
        exact Ev.now _
    · simp only [spec_AreFaults.j0, show (l.length : Int) > 20 by omega, decide_true, if_true, hn, decide_false, Bool.false_and]
      exact Ev.now _
  · simp only [hl, if_false, Bool.false_eq_true, Bool.false_and]
    refine evSucc ?_
    simp only [spec_AreFaults.j0, if_true]
    exact Ev.now _

theorem any_take (l : List S55) (i : Nat) (hi : i < l.length) : ((l.take i).any (impl_AreFaults_1.p (rd_T55 l (i : Int)).f0 (rd_T55 l (i : Int)).f1)) = !B (NewF l i) := by
  rw [B_not, Bool.eq_iff_iff, B_iff, List.any_eq_true]
  have hp : ∀ u : S55, impl_AreFaults_1.p (rd_T55 l (i : Int)).f0 (rd_T55 l (i : Int)).f1 u = true ↔ u.f0 = (rd_T55 l (i : Int)).f0 ∧ u.f1 = (rd_T55 l (i : Int)).f1 := by
    intro u
    unfold impl_AreFaults_1.p
    by_cases e : u.f0 = (rd_T55 l (i : Int)).f0 <;> simp [e]
  constructor
  · rintro ⟨u, hu, h⟩ hN
    obtain ⟨j, hj, rfl⟩ := List.getElem_of_mem hu
    rw [List.length_take] at hj
    have := hN j (by omega)
    rw [rd55 l j (by omega)] at this
    rw [List.getElem_take] at h
    exact this ((hp _).1 h)
  · intro hN
    apply Classical.byContradiction
    intro hc
    refine hN fun j hj he => hc ⟨(l.take i)[j]'(by rw [List.length_take]; omega), List.getElem_mem _, ?_⟩
    rw [List.getElem_take, hp]
    rw [rd55 l j (by omega)] at he
    exact he
theorem faultI_step {n b : Int} (hl : lineB n b = true) (l : List S55) (hn : l.length ≤ 20) (i : Nat) (hi : i < l.length) (r : Bool) (hr : GoodF n b l i → Ev (fun k => impl_AreFaults.l0 k n b l l (l.length : Int) ((i + 1 : Nat) : Int)) r) :
    Ev (fun k => impl_AreFaults.l0 k n b l l (l.length : Int) (i : Int)) (B (GoodF n b l i) && r) := by
  obtain ⟨hn1, hb1⟩ := line_of hl
  have w1 : wrap64 (b - 1) = b - 1 := wrapIn (by omega) (by omega)
  have w2 : wrap64 (n - 1) = n - 1 := wrapIn (by omega) (by omega)
  have no : ∀ {x : Bool}, ¬ GoodF n b l i → (B (GoodF n b l i) && x) = false := fun h => by rw [B_false h, Bool.false_and]
  refine evSucc ?_
  simp only [impl_AreFaults.l0, show (i : Int) < (l.length : Int) by omega, show (0 : Int) ≤ (i : Int) by omega, if_true, inI, Option.bind_some, decide_eq_true_eq, w1, w2]
  have stop : Ev (fun k => impl_AreFaults.j2 k n b l (i : Int) l (l.length : Int) (i : Int) true (rd_T55 l (i : Int)).f0 (rd_T55 l (i : Int)).f1 (rd_T55 l (i : Int)).f2 (rd_T55 l (i : Int)).f3) false := by
    refine evSucc ?_
    simp only [impl_AreFaults.j2, if_true]
    exact Ev.now _
  have stop3 : Ev (fun k => impl_AreFaults.j3 k n b l (i : Int) l (l.length : Int) (i : Int) true (rd_T55 l (i : Int)).f0 (rd_T55 l (i : Int)).f1 (rd_T55 l (i : Int)).f2 (rd_T55 l (i : Int)).f3) false := by
    refine evSucc ?_
    simp only [impl_AreFaults.j3, if_true]
    exact Ev.now _
  by_cases a1 : 0 ≤ (rd_T55 l (i : Int)).f0 ∧ (rd_T55 l (i : Int)).f0 ≤ b - 1
  · simp only [a1, and_self, if_true]
    by_cases a2 : 0 ≤ (rd_T55 l (i : Int)).f1 ∧ (rd_T55 l (i : Int)).f1 ≤ n - 1
    · simp only [a2, and_self, if_true]
      by_cases a3 : 1 ≤ (rd_T55 l (i : Int)).f2 ∧ (rd_T55 l (i : Int)).f2 ≤ 4
      · simp only [a3, and_self, decide_true, Bool.not_true]
        refine evSucc ?_
        simp only [impl_AreFaults.j2, Bool.false_eq_true, if_false, inI, Option.bind_some, decide_eq_true_eq, w2]
        have tail : (0 ≤ (rd_T55 l (i : Int)).f3 ∧ (rd_T55 l (i : Int)).f3 ≤ n - 1) → OtherF (rd_T55 l (i : Int)) → Ev (fun k => impl_AreFaults.j3 k n b l (i : Int) l (l.length : Int) (i : Int) false (rd_T55 l (i : Int)).f0 (rd_T55 l (i : Int)).f1 (rd_T55 l (i : Int)).f2 (rd_T55 l (i : Int)).f3) (B (GoodF n b l i) && r) := by
          intro a4 ho
          refine evSucc ?_
          simp only [impl_AreFaults.j3, Bool.false_eq_true, if_false, show (0 : Int) ≤ (i : Int) by omega, show (i : Int) ≤ (l.length : Int) by omega, if_true, impl_AreFaults_1.f, Option.bind_some, Int.toNat_natCast, any_take l i hi, wrapNat (show i < 4611686018427387904 by omega)]
          rw [B_congr (show GoodF n b l i ↔ NewF l i from ⟨fun h => h.2.2, fun h => ⟨⟨a1, a2, a3, a4⟩, ho, h⟩⟩)]
          by_cases hN : NewF l i
          · simp only [B_true hN, Bool.not_true, Bool.false_eq_true, if_false, Bool.true_and]
            exact hr ⟨⟨a1, a2, a3, a4⟩, ho, hN⟩
          · simp only [B_false hN, Bool.not_false, if_true, Bool.false_and]
            exact Ev.now _
        by_cases c : (rd_T55 l (i : Int)).f2 = 4
        · simp only [c, if_true] at tail stop3 ⊢
          by_cases a4 : 0 ≤ (rd_T55 l (i : Int)).f3 ∧ (rd_T55 l (i : Int)).f3 ≤ n - 1
          · simp only [a4, and_self, if_true]
            by_cases e : (rd_T55 l (i : Int)).f3 = (rd_T55 l (i : Int)).f1
            · rw [no (fun h => h.2.1.1 c e)]
              simp only [e, if_true] at stop3 ⊢
              exact stop3
            · simp only [e, if_false]
              exact tail a4 ⟨fun _ => e, fun h => absurd c h⟩
          · rw [no (fun h => a4 h.1.2.2.2)]
            simp only [a4, if_false]
            exact stop3
        · simp only [c, if_false]
          by_cases e : (rd_T55 l (i : Int)).f3 = 0
          · simp only [e, bne_self_eq_false] at tail ⊢
            exact tail ⟨by omega, by omega⟩ ⟨fun h => absurd h c, fun _ => e⟩
          · rw [no (fun h => e (h.2.1.2 c)), bne_iff_ne.2 e]
            exact stop3
      · rw [no (fun h => a3 h.1.2.2.1)]
        simp only [a3, decide_false, Bool.not_false]
        exact stop
    · rw [no (fun h => a2 h.1.2.1)]
      simp only [a2, if_false]
      exact stop
  · rw [no (fun h => a1 h.1.1)]
    simp only [a1, if_false]
    exact stop
theorem faultI (n b : Int) (l : List S55) : Ev (fun k => impl_AreFaults.f k n b l) (faultsB n b l) := by
  unfold impl_AreFaults.f faultsB
  simp only [lineI, Option.bind_some]
  by_cases hl : lineB n b = true
  · simp only [hl, if_true, Bool.true_and]
    refine evSucc ?_
    by_cases hn : l.length ≤ 20
    · simp only [impl_AreFaults.j0, show ¬ ((l.length : Int) > 20) by omega, decide_false, Bool.false_eq_true, if_false, hn, decide_true, Bool.true_and]
      have := evAllC (fun k i => impl_AreFaults.l0 k n b l l (l.length : Int) i) 0 l.length (GoodF n b l) ?_ ?_ true ?_ (Nat.zero_le _)
      · rw [all0F, Bool.and_true] at this
        exact this
      · intro i _ hi hg r hr
        have := faultI_step hl l hn i hi r (fun _ => hr)
        rw [B_true hg, Bool.true_and] at this
        exact this
      · intro i _ hi hg
        have := faultI_step hl l hn i hi true (fun h => absurd h hg)
        rw [B_false hg, Bool.false_and] at this
        exact this
      · intro _
        refine evSucc ?_
        simp only [impl_AreFaults.l0, Int.lt_irrefl, if_false]
        exact Ev.now _
    · simp only [impl_AreFaults.j0, show (l.length : Int) > 20 by omega, decide_true, if_true, hn, decide_false, Bool.false_and]
      exact Ev.now _
  · simp only [hl, if_false, Bool.false_eq_true, Bool.false_and]
    refine evSucc ?_
    simp only [impl_AreFaults.j0, if_true]
    exact Ev.now _

noncomputable def codeF (n b : Int) (l : List S55) : Int := if lineB n b = true then (if faultsB n b l = true then 0 else 1) else 2
theorem codeFS (n b : Int) (l : List S55) : Ev (fun k => spec_l14Code.f k n b l) (codeF n b l) := by
  unfold spec_l14Code.f codeF
  simp only [lineS, Option.bind_some]
  by_cases hl : lineB n b = true
  · simp only [hl, if_true]
    refine Ev.bind (faultS n b l) ?_
    split <;> exact Ev.now _
  · simp only [hl, if_false, Bool.false_eq_true]
    exact Ev.now _
theorem codeFI (n b : Int) (l : List S55) : Ev (fun k => impl_checkFaults.f k n b l) (codeF n b l) := by
  unfold impl_checkFaults.f codeF
  simp only [lineI, Option.bind_some]
  by_cases hl : lineB n b = true
  · simp only [hl, if_true]
    refine Ev.bind (faultI n b l) ?_
    split <;> exact Ev.now _
  · simp only [hl, if_false, Bool.false_eq_true]
    exact Ev.now _
theorem codeF_ok {n b : Int} {l : List S55} (h : codeF n b l = 0) : ((1 ≤ n ∧ n ≤ 12) ∧ 0 ≤ b ∧ b ≤ 40) ∧ l.length ≤ 20 ∧ ∀ i : Nat, i < l.length → GoodF n b l i := by
  unfold codeF at h
  by_cases hl : lineB n b = true
  · rw [if_pos hl] at h
    by_cases hf : faultsB n b l = true
    · simp only [faultsB, Bool.and_eq_true, decide_eq_true_eq, B_iff] at hf
      exact ⟨line_of hf.1, hf.2.1, hf.2.2⟩
    · rw [if_neg hf] at h
      exact absurd h (by decide)
  · rw [if_neg hl] at h
    exact absurd h (by decide)

theorem foldl_mx : ∀ (xs : List Int) (x : Int), x ≤ xs.foldl mx x ∧ (∀ y ∈ xs, y ≤ xs.foldl mx x) ∧ (xs.foldl mx x = x ∨ xs.foldl mx x ∈ xs) := by
  intro xs
  induction xs with
  | nil => intro x; exact ⟨Int.le_refl _, fun y hy => by simp at hy, Or.inl rfl⟩
  | cons a xs ih =>
    intro x
    obtain ⟨h1, h2, h3⟩ := ih (mx x a)
    have m1 : x ≤ mx x a := by unfold mx; split <;> omega
    have m2 : a ≤ mx x a := by unfold mx; split <;> omega
    have m3 : mx x a = x ∨ mx x a = a := by unfold mx; split <;> simp
    rw [List.foldl_cons]
    refine ⟨Int.le_trans m1 h1, fun y hy => ?_, ?_⟩
    · rcases List.mem_cons.1 hy with e | hy
      · subst e
        exact Int.le_trans m2 h1
      · exact h2 y hy
    · rcases h3 with h3 | h3
      · rcases m3 with m3 | m3
        · exact Or.inl (h3.trans m3)
        · exact Or.inr (by rw [h3, m3]; exact List.mem_cons_self)
      · exact Or.inr (List.mem_cons_of_mem _ h3)
theorem maxI (l : List Int) (b : Nat) (hb : b < l.length) (h : ∀ j : Nat, j < l.length → rd l (j : Int) ≤ rd l (b : Int)) : slices_Max_int64_int64.f l = some (rd l (b : Int)) := by
  have key : ∀ v, slices_Max_int64_int64.f l = some v → v = rd l (b : Int) := by
    intro v hv
    cases l with
    | nil => simp at hb
    | cons x xs =>
      have e := Option.some.inj hv
      obtain ⟨f1, f2, f3⟩ := foldl_mx xs x
      rw [e] at f1 f2 f3
      have hmem : v ∈ x :: xs := by
        rcases f3 with f3 | f3
        · rw [f3]; exact List.mem_cons_self
        · exact List.mem_cons_of_mem _ f3
      have hle : ∀ y ∈ x :: xs, y ≤ v := fun y hy => by
        rcases List.mem_cons.1 hy with e | hy
        · rw [e]; exact f1
        · exact f2 y hy
      obtain ⟨j, hj, ej⟩ := List.getElem_of_mem hmem
      have h1 := h j hj
      have h2 := hle _ (List.getElem_mem hb)
      rw [rdN _ j hj, ej, rdN _ b hb] at h1
      rw [rdN _ b hb]
      omega
  cases l with
  | nil => simp at hb
  | cons x xs =>
    have := key _ rfl
    rw [← this]
    rfl
theorem indexI (l : List Int) (v : Int) (b : Nat) (hb : b < l.length) (hl : l.length ≤ 1048576) (h0 : ∀ j : Nat, j < b → ¬ rd l (j : Int) = v) (h1 : rd l (b : Int) = v) : Ev (fun k => slices_Index_int64_int64.f k l v) (b : Int) := by
  unfold slices_Index_int64_int64.f
  refine evCount (fun k (_ : Unit) i => slices_Index_int64_int64.l0 k l v (l.length : Int) i) 0 b (fun _ => ()) (b : Int) ?_ ?_ (Nat.zero_le _)
  · intro i _ hi hr
    refine evSucc ?_
    simp only [slices_Index_int64_int64.l0, show (i : Int) < (l.length : Int) by omega, show (0 : Int) ≤ (i : Int) by omega, if_true, show ¬ (v = rd l (i : Int)) from fun e => h0 i hi e.symm, if_false, wrapNat (show i < 4611686018427387904 by omega)]
    exact hr
  · refine evSucc ?_
    simp only [slices_Index_int64_int64.l0, show (b : Int) < (l.length : Int) by omega, show (0 : Int) ≤ (b : Int) by omega, if_true, h1]
    exact Ev.now _

theorem rd64 (xs : List S64) (i : Nat) (h : i < xs.length) : rd_T64 xs (i : Int) = xs[i] := by
  simp [rd_T64, List.getD_eq_getElem?_getD, List.getElem?_eq_getElem h]

def convFault (x : S64) : S55 := ⟨x.f0, x.f1, x.f2, x.f3⟩
theorem toFaultS (l : List S64) (h : l.length ≤ 1048576) : Ev (fun k => laws_toFaultS.f k l) (l.map convFault) := by
  unfold laws_toFaultS.f
  simp only [Int.toNat_natCast, show (0 : Int) ≤ (l.length : Int) by omega, show l.length ≤ 8796093022208 by omega, if_true]
  have := evCount (fun k s i => laws_toFaultS.l0 k l s i) 0 l.length (fun i => (l.map convFault).take i ++ List.replicate ((l.map convFault).length - i) z55) (l.map convFault) ?_ ?_ (Nat.zero_le _)
  · simpa using this
  · intro i _ hi h
    refine evSucc ?_
    simp only [laws_toFaultS.l0, laws_toFault.f, Option.bind_some]
    have hm : i < (l.map convFault).length := by rw [List.length_map]; exact hi
    have hl := fillLen (l.map convFault) z55 i (by omega)
    have h1 : (i : Int) < (l.length : Int) := by omega
    have h2 : (0 : Int) ≤ (i : Int) := by omega
    have h3 : (i : Int) < (((l.map convFault).take i ++ List.replicate ((l.map convFault).length - i) z55).length : Int) := by rw [hl]; omega
    have h4 := fillStep (l.map convFault) z55 i hm
    rw [List.getElem_map] at h4
    simp only [h1, h2, h3, if_true, Int.toNat_natCast, rd64 l i hi, wrapNat (show i < 4611686018427387904 by omega)]
    simp only [convFault] at h4
    rw [h4]
    exact h
  · refine evSucc ?_
    simp only [laws_toFaultS.l0, Int.lt_irrefl, if_false]
    simp only [show l.length = (l.map convFault).length by rw [List.length_map], List.take_length, Nat.sub_self, List.replicate_zero, List.append_nil]
    exact Ev.now _
theorem szFaultS_big (l : List S64) (h : 1048576 < l.length) (hm : l.length * 32 ≤ 140737488351232) : laws_szFaultS.f l 1048576 = some (-1) := by
  unfold laws_szFaultS.f
  rw [wrapIn (by omega) (by omega), if_pos (by omega)]
theorem szFaultS_ok (l : List S64) (h : l.length ≤ 1048576) : laws_szFaultS.f l 1048576 = some (1048576 - (l.length : Int)) := by
  unfold laws_szFaultS.f
  rw [wrapIn (by omega) (by omega), if_neg (by omega)]
theorem szFaultS_bigM (l : List S64) (m : Int) (m0 : 0 ≤ m) (m1 : m ≤ 1048576) (h : m < l.length) (hm : l.length * 32 ≤ 140737488351232) : laws_szFaultS.f l m = some (-1) := by
  unfold laws_szFaultS.f
  rw [wrapIn (by omega) (by omega), if_pos (by omega)]
theorem szFaultS_okM (l : List S64) (m : Int) (m0 : 0 ≤ m) (m1 : m ≤ 1048576) (h : (l.length : Int) ≤ m) : laws_szFaultS.f l m = some (m - (l.length : Int)) := by
  unfold laws_szFaultS.f
  rw [wrapIn (by omega) (by omega), if_neg (by omega)]

theorem eqFaultS (l : List S55) (h : l.length ≤ 1048576) : Ev (fun k => laws_eqFaultS.f k l l) true := by
  unfold laws_eqFaultS.f
  simp only [if_true]
  have he : ∀ x : S55, laws_eqFault.f x.f0 x.f1 x.f2 x.f3 x.f0 x.f1 x.f2 x.f3 = some true := by intro x; simp [laws_eqFault.f]
  have := evAll (fun k i => laws_eqFaultS.l0 k l l i) 0 l.length (fun _ => True) ?_ (fun i _ hi hn => absurd trivial hn) true ?_ (Nat.zero_le _)
  · simpa [B_true] using this
  · intro i _ hi _ r h
    refine evSucc ?_
    have h1 : (i : Int) < (l.length : Int) := by omega
    have h2 : (0 : Int) ≤ (i : Int) := by omega
    simp only [laws_eqFaultS.l0, h1, h2, if_true, he, Option.bind_some, wrapNat (show i < 4611686018427387904 by omega)]
    exact h
  · refine evSucc ?_
    simp only [laws_eqFaultS.l0, Int.lt_irrefl, if_false]
    exact Ev.now _

def cntL (l : List S55) (n : Nat) : Nat → List Int
  | 0 => List.replicate n 0
  | i + 1 => (cntL l n i).set (rd_T55 l (i : Int)).f1.toNat (rd (cntL l n i) (rd_T55 l (i : Int)).f1 + 1)
theorem cnt_len (l : List S55) (n : Nat) : ∀ i : Nat, (cntL l n i).length = n
  | 0 => by simp [cntL]
  | i + 1 => by rw [cntL, List.length_set, cnt_len l n i]
theorem rd_set_le (c : List Int) (a : Nat) (v : Int) (j : Nat) (B0 B1 : Int) (hj : j < c.length) (h : B0 ≤ rd c (j : Int) ∧ rd c (j : Int) ≤ B1) (hv : B0 ≤ v ∧ v ≤ B1) : B0 ≤ rd (c.set a v) (j : Int) ∧ rd (c.set a v) (j : Int) ≤ B1 := by
  rw [rdN _ j (by rw [List.length_set]; exact hj), List.getElem_set]
  rw [rdN _ j hj] at h
  split
  · exact hv
  · exact h
theorem cnt_in (l : List S55) (n : Nat) (m : Nat) (hg : ∀ i : Nat, i < m → 0 ≤ (rd_T55 l (i : Int)).f1 ∧ (rd_T55 l (i : Int)).f1 ≤ (n : Int) - 1) : ∀ i : Nat, i ≤ m → ∀ j : Nat, j < n → 0 ≤ rd (cntL l n i) (j : Int) ∧ rd (cntL l n i) (j : Int) ≤ (i : Int)
  | 0, _, j, hj => by
    rw [rdN _ j (by rw [cnt_len]; exact hj)]
    simp [cntL]
  | i + 1, hi, j, hj => by
    have ih := cnt_in l n m hg i (by omega)
    have g := hg i (by omega)
    have iv := ih (rd_T55 l (i : Int)).f1.toNat (by omega)
    rw [show (((rd_T55 l (i : Int)).f1.toNat : Nat) : Int) = (rd_T55 l (i : Int)).f1 by omega] at iv
    have ij := ih j hj
    exact rd_set_le _ _ _ _ _ _ (by rw [cnt_len]; exact hj) ⟨ij.1, by omega⟩ ⟨by omega, by omega⟩
def Best (c : List Int) (m b : Nat) : Prop := b < c.length ∧ (∀ j : Nat, j < m → rd c (j : Int) ≤ rd c (b : Int)) ∧ ∀ j : Nat, j < b → rd c (j : Int) < rd c (b : Int)
theorem bestS (c : List Int) (hc : c.length ≤ 12) (d : Nat) : ∀ (m b : Nat), m + d = c.length → b ≤ m → Best c m b → ∃ b' : Nat, Best c c.length b' ∧ Ev (fun k => spec_BusiestStation.l1 k c (b : Int) (m : Int)) ((b' : Int), rd c (b' : Int), 0) := by
  induction d with
  | zero =>
    intro m b hm _ hb
    have e : m = c.length := by omega
    subst e
    refine ⟨b, hb, evSucc ?_⟩
    have h1 := hb.1
    simp only [spec_BusiestStation.l1, Int.lt_irrefl, if_false, show (0 : Int) ≤ (b : Int) by omega, show (b : Int) < (c.length : Int) by omega, if_true]
    exact Ev.now _
  | succ d ih =>
    intro m b hm hbm hb
    have hw := wrapNat (show m < 4611686018427387904 by omega)
    have h1 := hb.1
    by_cases g : rd c (m : Int) > rd c (b : Int)
    · have hb' : Best c (m + 1) m := ⟨by omega, fun j hj => by
        by_cases e : j = m
        · subst e; exact Int.le_refl _
        · have := hb.2.1 j (by omega); omega, fun j hj => by
        have := hb.2.1 j hj; omega⟩
      obtain ⟨b', hB, hE⟩ := ih (m + 1) m (by omega) (by omega) hb'
      refine ⟨b', hB, evSucc ?_⟩
      simp only [spec_BusiestStation.l1, show (m : Int) < (c.length : Int) by omega, show (0 : Int) ≤ (m : Int) by omega, show (0 : Int) ≤ (b : Int) by omega, show (b : Int) < (c.length : Int) by omega, if_true, g, hw]
      exact hE
    · have hb' : Best c (m + 1) b := ⟨h1, fun j hj => by
        by_cases e : j = m
        · subst e; omega
        · exact hb.2.1 j (by omega), hb.2.2⟩
      obtain ⟨b', hB, hE⟩ := ih (m + 1) b (by omega) (by omega) hb'
      refine ⟨b', hB, evSucc ?_⟩
      simp only [spec_BusiestStation.l1, show (m : Int) < (c.length : Int) by omega, show (0 : Int) ≤ (m : Int) by omega, show (0 : Int) ≤ (b : Int) by omega, show (b : Int) < (c.length : Int) by omega, if_true, g, if_false, hw]
      exact hE
theorem busy_both (n b : Int) (l : List S55) : ∃ r, Ev (fun k => spec_BusiestStation.f k n b l) r ∧ Ev (fun k => impl_BusiestStation.f k n b l) r := by
  unfold spec_BusiestStation.f impl_BusiestStation.f
  by_cases hc : codeF n b l = 0
  · obtain ⟨⟨hn, _⟩, hl, hg⟩ := codeF_ok hc
    obtain ⟨N, rfl⟩ := Int.eq_ofNat_of_zero_le (show 0 ≤ n by omega)
    have hg1 : ∀ i : Nat, i < l.length → 0 ≤ (rd_T55 l (i : Int)).f1 ∧ (rd_T55 l (i : Int)).f1 ≤ (N : Int) - 1 := fun i hi => (hg i hi).1.2.1
    have hin := cnt_in l N l.length hg1
    have hcl := cnt_len l N l.length
    obtain ⟨b', hB, hE⟩ := bestS (cntL l N l.length) (by rw [hcl]; omega) N 0 0 (by rw [hcl]; omega) (Nat.le_refl _) ⟨by rw [hcl]; omega, fun j hj => absurd hj (by omega), fun j hj => absurd hj (by omega)⟩
    refine ⟨((b' : Int), rd (cntL l N l.length) (b' : Int), 0), Ev.bind (codeFS _ b l) ?_, Ev.bind (codeFI _ b l) ?_⟩
    · simp only [hc, if_true, show (0 : Int) ≤ (N : Int) by omega, Int.toNat_natCast, show N ≤ 35184372088832 by omega]
      refine evCount (fun k (s : List Int) i => spec_BusiestStation.l0 k l s i) 0 l.length (cntL l N) _ ?_ ?_ (Nat.zero_le _)
      · intro i _ hi hr
        refine evSucc ?_
        have g := hg1 i hi
        have iv := hin i (by omega) (rd_T55 l (i : Int)).f1.toNat (by omega)
        rw [show (((rd_T55 l (i : Int)).f1.toNat : Nat) : Int) = (rd_T55 l (i : Int)).f1 by omega] at iv
        simp only [spec_BusiestStation.l0, show (i : Int) < (l.length : Int) by omega, show (0 : Int) ≤ (i : Int) by omega, g.1, cnt_len, show (rd_T55 l (i : Int)).f1 < (N : Int) by omega, if_true, wrapNat (show i < 4611686018427387904 by omega)]
        rw [wrapIn (by omega) (by omega)]
        exact hr
      · refine evSucc ?_
        simp only [spec_BusiestStation.l0, Int.lt_irrefl, if_false]
        exact hE
    · simp only [hc, if_true, show (0 : Int) ≤ (N : Int) by omega, Int.toNat_natCast, show N ≤ 35184372088832 by omega]
      refine evCount (fun k (s : List Int) i => impl_BusiestStation.l0 k s l (l.length : Int) i) 0 l.length (cntL l N) _ ?_ ?_ (Nat.zero_le _)
      · intro i _ hi hr
        refine evSucc ?_
        have g := hg1 i hi
        have iv := hin i (by omega) (rd_T55 l (i : Int)).f1.toNat (by omega)
        rw [show (((rd_T55 l (i : Int)).f1.toNat : Nat) : Int) = (rd_T55 l (i : Int)).f1 by omega] at iv
        simp only [impl_BusiestStation.l0, show (i : Int) < (l.length : Int) by omega, show (0 : Int) ≤ (i : Int) by omega, g.1, cnt_len, show (rd_T55 l (i : Int)).f1 < (N : Int) by omega, if_true, wrapNat (show i < 4611686018427387904 by omega)]
        rw [wrapIn (by omega) (by omega)]
        exact hr
      · refine evSucc ?_
        simp only [impl_BusiestStation.l0, Int.lt_irrefl, if_false, maxI _ b' hB.1 hB.2.1, Option.bind_some]
        exact Ev.bind (indexI _ _ b' hB.1 (by rw [hcl]; omega) (fun j hj e => by have := hB.2.2 j hj; omega) rfl) (Ev.now _)
  · refine ⟨(0, 0, codeF n b l), Ev.bind (codeFS _ b l) ?_, Ev.bind (codeFI _ b l) ?_⟩
    · simp only [hc, if_false]
      exact Ev.now _
    · simp only [hc, if_false]
      exact Ev.now _
theorem FnExactBusiestStation : laws_FnExactBusiestStation.Pure := by
  intro n b l _ _ _ hm _
  refine Ev.rounds ?_
  unfold laws_FnExactBusiestStation.f
  by_cases hl : l.length ≤ 1048576
  · have hl' : (l.map convFault).length ≤ 1048576 := by rw [List.length_map]; exact hl
    simp only [szFaultS_ok l hl, Option.bind_some, show ¬ (1048576 - (l.length : Int) < 0) by omega, if_false]
    obtain ⟨r, h1, h2⟩ := busy_both n b (l.map convFault)
    refine Ev.bind (toFaultS l hl) (Ev.bind h1 (Ev.bind (toFaultS l hl) (Ev.bind h2 ?_)))
    simp only [bne_self_eq_false, if_true]
    refine evSucc ?_
    simp only [laws_FnExactBusiestStation.j0, Bool.false_eq_true, if_false]
    refine Ev.bind (toFaultS l hl) (Ev.bind (eqFaultS _ hl') ?_)
    simp only [if_true]
    exact Ev.now _
  · simp only [szFaultS_big l (by omega) hm, Option.bind_some, show (-1 : Int) < 0 by decide, if_true]
    exact Ev.now _

end Go.Proofs.Ythmeohanbggnlaa.Pure
