/- The program and the reference gather the same books, for every two int64 and every list of faults; what is handed back is the caller's own. -/
import Derived.Test.YthmeohanbggnlaaSayFnExactGatherBooks
namespace Go.Proofs.Ythmeohanbggnlaa.Pure
open Go.RowKit Go.Proofs.Ythmeohanbggnlaa.PFnExactGatherBooks Go.Proofs.YthmeohanbggnlaaW.PrintWords Go.Proofs.YthmeohanbggnlaaW.PrintLast
set_option linter.unusedVariables false
set_option linter.unusedSimpArgs false
-- BEGIN
/-- A proposition as a bool. -/
noncomputable def B (p : Prop) : Bool := @decide p (Classical.propDecidable p)
theorem B_iff {p : Prop} : B p = true ↔ p := by unfold B; exact @decide_eq_true_iff p (Classical.propDecidable p)
theorem B_true {p : Prop} (h : p) : B p = true := B_iff.2 h
theorem B_false {p : Prop} (h : ¬ p) : B p = false := by cases e : B p with | false => rfl | true => exact absurd (B_iff.1 e) h
theorem B_congr {p q : Prop} (h : p ↔ q) : B p = B q := by rw [propext h]
theorem B_dec (p : Prop) [Decidable p] : B p = decide p := by by_cases h : p <;> simp [h, B_true, B_false]
theorem B_and (p q : Prop) : (B p && B q) = B (p ∧ q) := by
  by_cases hp : p <;> by_cases hq : q <;> simp [B_true, B_false, hp, hq]
theorem B_not (p : Prop) : (!B p) = B (¬ p) := by by_cases hp : p <;> simp [B_true, B_false, hp]
theorem evSucc {α : Type} {g : Nat → Option α} {r : α} (h : Ev (fun k => g (k + 1)) r) : Ev g r := Ev.step (fun _ => rfl) h
theorem evNow {α : Type} {g : Nat → Option α} {r : α} (h : ∀ k, g k = some r) : Ev g r := ⟨0, fun k _ => h k⟩
theorem evCount {σ α : Type} (F : Nat → σ → Int → Option α) (i0 n : Nat) (S : Nat → σ) (r : α)
    (hstep : ∀ i, i0 ≤ i → i < n → Ev (fun k => F k (S (i + 1)) ((i + 1 : Nat) : Int)) r → Ev (fun k => F k (S i) (i : Int)) r) (hend : Ev (fun k => F k (S n) (n : Int)) r) (hle : i0 ≤ n) : Ev (fun k => F k (S i0) (i0 : Int)) r := by
  have key : ∀ d i, i0 ≤ i → i + d = n → Ev (fun k => F k (S i) (i : Int)) r := by
    intro d
    induction d with
    | zero =>
      intro i _ hi
      have h0 : i = n := by omega
      subst h0
      exact hend
    | succ d ih => intro i h0 hi; exact hstep i h0 (by omega) (ih (i + 1) (by omega) (by omega))
  exact key (n - i0) i0 (Nat.le_refl _) (by omega)
/-- A loop that leaves at the first place where G fails. -/
theorem evAll (F : Nat → Int → Option Bool) (i0 n : Nat) (G : Nat → Prop)
    (hstep : ∀ i, i0 ≤ i → i < n → G i → ∀ r, Ev (fun k => F k ((i + 1 : Nat) : Int)) r → Ev (fun k => F k (i : Int)) r) (hbad : ∀ i, i0 ≤ i → i < n → ¬ G i → Ev (fun k => F k (i : Int)) false) (e : Bool) (hend : Ev (fun k => F k (n : Int)) e) (hle : i0 ≤ n) :
    Ev (fun k => F k (i0 : Int)) (B (∀ j, i0 ≤ j → j < n → G j) && e) := by
  have key : ∀ d i, i0 ≤ i → i + d = n → Ev (fun k => F k (i : Int)) (B (∀ j, i ≤ j → j < n → G j) && e) := by
    intro d
    induction d with
    | zero =>
      intro i _ hi
      have h0 : i = n := by omega
      subst h0
      rw [B_true (fun j h1 h2 => absurd h2 (by omega)), Bool.true_and]
      exact hend
    | succ d ih =>
      intro i h0 hi
      by_cases hg : G i
      · have h1 : B (∀ j, i ≤ j → j < n → G j) = B (∀ j, i + 1 ≤ j → j < n → G j) := B_congr ⟨fun h j a b => h j (by omega) b, fun h j a b => by
          by_cases e : j = i
          · subst e; exact hg
          · exact h j (by omega) b⟩
        rw [h1]
        exact hstep i h0 (by omega) hg _ (ih (i + 1) (by omega) (by omega))
      · rw [B_false (fun h => hg (h i (Nat.le_refl _) (by omega))), Bool.false_and]
        exact hbad i h0 (by omega) hg
  exact key (n - i0) i0 (Nat.le_refl _) (by omega)
theorem wrapNat {i : Nat} (h : i < 4611686018427387904) : wrap64 ((i : Int) + 1) = ((i + 1 : Nat) : Int) := by
  unfold wrap64; omega
theorem wrapPred {i : Nat} (h0 : 1 ≤ i) (h : i < 4611686018427387904) : wrap64 ((i : Int) - 1) = ((i - 1 : Nat) : Int) := by
  unfold wrap64; omega
theorem rdN (xs : List Int) (i : Nat) (h : i < xs.length) : rd xs (i : Int) = xs[i] := by
  simp [rd, List.getD_eq_getElem?_getD, List.getElem?_eq_getElem h]
theorem fillStep {α : Type} (xs : List α) (z : α) (i : Nat) (h : i < xs.length) : (xs.take i ++ List.replicate (xs.length - i) z).set i xs[i] = xs.take (i + 1) ++ List.replicate (xs.length - (i + 1)) z := by
  have h1 : xs.length - i = (xs.length - (i + 1)) + 1 := by omega
  rw [h1, List.replicate_succ, List.set_append_right _ _ (by rw [List.length_take]; omega)]
  rw [List.length_take, Nat.min_eq_left (by omega), Nat.sub_self, List.set_cons_zero, List.take_succ_eq_append_getElem h, List.append_assoc]
  rfl
theorem fillLen {α : Type} (xs : List α) (z : α) (i : Nat) (h : i ≤ xs.length) : (xs.take i ++ List.replicate (xs.length - i) z).length = xs.length := by
  simp; omega

/-- A loop that leaves at the first place where G fails; what comes after it counts only where none failed. -/
theorem evAllC (F : Nat → Int → Option Bool) (i0 n : Nat) (G : Nat → Prop)
    (hstep : ∀ i, i0 ≤ i → i < n → G i → ∀ r, Ev (fun k => F k ((i + 1 : Nat) : Int)) r → Ev (fun k => F k (i : Int)) r) (hbad : ∀ i, i0 ≤ i → i < n → ¬ G i → Ev (fun k => F k (i : Int)) false) (e : Bool) (hend : (∀ j, i0 ≤ j → j < n → G j) → Ev (fun k => F k (n : Int)) e) (hle : i0 ≤ n) :
    Ev (fun k => F k (i0 : Int)) (B (∀ j, i0 ≤ j → j < n → G j) && e) := by
  have key : ∀ d i, i0 ≤ i → i + d = n → (∀ j, i0 ≤ j → j < i → G j) → Ev (fun k => F k (i : Int)) (B (∀ j, i ≤ j → j < n → G j) && e) := by
    intro d
    induction d with
    | zero =>
      intro i _ hi hp
      have h0 : i = n := by omega
      subst h0
      rw [B_true (fun j h1 h2 => absurd h2 (by omega)), Bool.true_and]
      exact hend hp
    | succ d ih =>
      intro i h0 hi hp
      by_cases hg : G i
      · have h1 : B (∀ j, i ≤ j → j < n → G j) = B (∀ j, i + 1 ≤ j → j < n → G j) := B_congr ⟨fun h j a b => h j (by omega) b, fun h j a b => by
          by_cases e : j = i
          · subst e; exact hg
          · exact h j (by omega) b⟩
        rw [h1]
        exact hstep i h0 (by omega) hg _ (ih (i + 1) (by omega) (by omega) (fun j a b => by
          by_cases e : j = i
          · subst e; exact hg
          · exact hp j a (by omega)))
      · rw [B_false (fun h => hg (h i (Nat.le_refl _) (by omega))), Bool.false_and]
        exact hbad i h0 (by omega) hg
  exact key (n - i0) i0 (Nat.le_refl _) (by omega) (fun j a b => absurd b (by omega))

theorem inS (a b c : Int) : spec_l01In.f a b c = some (decide (b ≤ a ∧ a ≤ c)) := by
  unfold spec_l01In.f
  by_cases h : b ≤ a <;> simp [h]

theorem inI (a b c : Int) : impl_inRange.f a b c = some (decide (b ≤ a ∧ a ≤ c)) := by
  unfold impl_inRange.f
  by_cases h : b ≤ a <;> simp [h]

theorem wrapIn {x : Int} (h0 : -9223372036854775808 ≤ x) (h1 : x ≤ 9223372036854775807) : wrap64 x = x := by
  unfold wrap64; omega

theorem rd55 (xs : List S55) (i : Nat) (h : i < xs.length) : rd_T55 xs (i : Int) = xs[i] := by
  simp [rd_T55, List.getD_eq_getElem?_getD, List.getElem?_eq_getElem h]

def lineB (n b : Int) : Bool := decide (1 ≤ n ∧ n ≤ 12) && decide (0 ≤ b ∧ b ≤ 40)
theorem lineS (n b : Int) : spec_l14Line.f n b = some (lineB n b) := by
  unfold spec_l14Line.f lineB
  simp only [inS, Option.bind_some]
  by_cases h1 : (1 ≤ n ∧ n ≤ 12) <;> simp [h1]
theorem lineI (n b : Int) : impl_isLine.f n b = some (lineB n b) := by
  unfold impl_isLine.f lineB
  simp only [inI, Option.bind_some]
  by_cases h1 : (1 ≤ n ∧ n ≤ 12) <;> simp [h1]
theorem line_of {n b : Int} (h : lineB n b = true) : (1 ≤ n ∧ n ≤ 12) ∧ 0 ≤ b ∧ b ≤ 40 := by
  simpa only [lineB, Bool.and_eq_true, decide_eq_true_eq] using h
def InF (n b : Int) (u : S55) : Prop := (0 ≤ u.f0 ∧ u.f0 ≤ b - 1) ∧ (0 ≤ u.f1 ∧ u.f1 ≤ n - 1) ∧ (1 ≤ u.f2 ∧ u.f2 ≤ 4) ∧ (0 ≤ u.f3 ∧ u.f3 ≤ n - 1)
def OtherF (u : S55) : Prop := (u.f2 = 4 → ¬ u.f3 = u.f1) ∧ (¬ u.f2 = 4 → u.f3 = 0)
def NewF (l : List S55) (i : Nat) : Prop := ∀ j : Nat, j < i → ¬ ((rd_T55 l (j : Int)).f0 = (rd_T55 l (i : Int)).f0 ∧ (rd_T55 l (j : Int)).f1 = (rd_T55 l (i : Int)).f1)
def GoodF (n b : Int) (l : List S55) (i : Nat) : Prop := InF n b (rd_T55 l (i : Int)) ∧ OtherF (rd_T55 l (i : Int)) ∧ NewF l i
noncomputable def faultsB (n b : Int) (l : List S55) : Bool := lineB n b && (decide (l.length ≤ 20) && B (∀ i : Nat, i < l.length → GoodF n b l i))
theorem all0F (n : Nat) (G : Nat → Prop) : B (∀ j, 0 ≤ j → j < n → G j) = B (∀ j, j < n → G j) := B_congr ⟨fun h j hj => h j (Nat.zero_le _) hj, fun h j _ hj => h j hj⟩

theorem faultS_step {n b : Int} (hl : lineB n b = true) (l : List S55) (hn : l.length ≤ 20) (i : Nat) (hi : i < l.length) (r : Bool) (hr : GoodF n b l i → Ev (fun k => spec_AreFaults.l0 k n b l ((i + 1 : Nat) : Int)) r) :
    Ev (fun k => spec_AreFaults.l0 k n b l (i : Int)) (B (GoodF n b l i) && r) := by
  obtain ⟨hn1, hb1⟩ := line_of hl
  have w1 : wrap64 (b - 1) = b - 1 := wrapIn (by omega) (by omega)
  have w2 : wrap64 (n - 1) = n - 1 := wrapIn (by omega) (by omega)
  have no : ∀ {x : Bool}, ¬ GoodF n b l i → (B (GoodF n b l i) && x) = false := fun h => by rw [B_false h, Bool.false_and]
  refine evSucc ?_
  simp only [spec_AreFaults.l0, show (i : Int) < (l.length : Int) by omega, show (0 : Int) ≤ (i : Int) by omega, if_true, inS, Option.bind_some, decide_eq_true_eq, w1, w2]
  by_cases h1 : InF n b (rd_T55 l (i : Int))
  · obtain ⟨a1, a2, a3, a4⟩ := h1
    simp only [a1, a2, a3, a4, and_self, if_true, decide_true, Bool.not_true]
    refine evSucc ?_
    simp only [spec_AreFaults.j2, Bool.false_eq_true, if_false]
    have tail : OtherF (rd_T55 l (i : Int)) → Ev (fun k => spec_AreFaults.j3 k n b l (i : Int) false (rd_T55 l (i : Int)).f0 (rd_T55 l (i : Int)).f1 (rd_T55 l (i : Int)).f2 (rd_T55 l (i : Int)).f3) (B (GoodF n b l i) && r) := by
      intro ho
      refine evSucc ?_
      simp only [spec_AreFaults.j3, Bool.false_eq_true, if_false]
      have := evAllC (fun k j => spec_AreFaults.l1 k n b l (i : Int) j (rd_T55 l (i : Int)).f0 (rd_T55 l (i : Int)).f1 (rd_T55 l (i : Int)).f2 (rd_T55 l (i : Int)).f3) 0 i
        (fun j => ¬ ((rd_T55 l (j : Int)).f0 = (rd_T55 l (i : Int)).f0 ∧ (rd_T55 l (j : Int)).f1 = (rd_T55 l (i : Int)).f1)) ?_ ?_ r ?_ (Nat.zero_le _)
      · rw [all0F] at this
        rw [B_congr (show GoodF n b l i ↔ NewF l i from ⟨fun h => h.2.2, fun h => ⟨⟨a1, a2, a3, a4⟩, ho, h⟩⟩)]
        exact this
      · intro j _ hj hg r' hr'
        refine evSucc ?_
        simp only [spec_AreFaults.l1, show (j : Int) < (i : Int) by omega, show (0 : Int) ≤ (j : Int) by omega, show (j : Int) < (l.length : Int) by omega, if_true, wrapNat (show j < 4611686018427387904 by omega)]
        by_cases e0 : (rd_T55 l (j : Int)).f0 = (rd_T55 l (i : Int)).f0
        · have e1 : ¬ (rd_T55 l (j : Int)).f1 = (rd_T55 l (i : Int)).f1 := fun e1 => hg ⟨e0, e1⟩
          simp only [e0, e1, if_true, if_false]
          exact hr'
        · simp only [e0, if_false]
          exact hr'
      · intro j _ hj hg
        have hg' := Classical.not_not.1 hg
        refine evSucc ?_
        simp only [spec_AreFaults.l1, show (j : Int) < (i : Int) by omega, show (0 : Int) ≤ (j : Int) by omega, show (j : Int) < (l.length : Int) by omega, if_true, hg'.1, hg'.2]
        exact Ev.now _
      · intro hall
        refine evSucc ?_
        simp only [spec_AreFaults.l1, Int.lt_irrefl, if_false, wrapNat (show i < 4611686018427387904 by omega)]
        exact hr ⟨⟨a1, a2, a3, a4⟩, ho, fun j hj => hall j (Nat.zero_le _) hj⟩
    by_cases c : (rd_T55 l (i : Int)).f2 = 4
    · simp only [c, if_true] at tail ⊢
      by_cases e : (rd_T55 l (i : Int)).f3 = (rd_T55 l (i : Int)).f1
      · rw [no (fun h => h.2.1.1 c e)]
        refine evSucc ?_
        simp only [e, beq_self_eq_true, spec_AreFaults.j3, if_true]
        exact Ev.now _
      · rw [show ((rd_T55 l (i : Int)).f3 == (rd_T55 l (i : Int)).f1) = false from beq_false_of_ne e]
        exact tail ⟨fun _ => e, fun h => absurd c h⟩
    · simp only [c, if_false]
      by_cases e : (rd_T55 l (i : Int)).f3 = 0
      · simp only [e, if_true] at tail ⊢
        exact tail ⟨fun h => absurd h c, fun _ => e⟩
      · rw [no (fun h => e (h.2.1.2 c))]
        simp only [e, if_false]
        refine evSucc ?_
        simp only [spec_AreFaults.j3, if_true]
        exact Ev.now _
  · rw [no (fun h => h1 h.1)]
    have stop : Ev (fun k => spec_AreFaults.j2 k n b l (i : Int) true (rd_T55 l (i : Int)).f0 (rd_T55 l (i : Int)).f1 (rd_T55 l (i : Int)).f2 (rd_T55 l (i : Int)).f3) false := by
      refine evSucc ?_
      simp only [spec_AreFaults.j2, if_true]
      exact Ev.now _
    by_cases a1 : 0 ≤ (rd_T55 l (i : Int)).f0 ∧ (rd_T55 l (i : Int)).f0 ≤ b - 1
    · simp only [a1, and_self, if_true]
      by_cases a2 : 0 ≤ (rd_T55 l (i : Int)).f1 ∧ (rd_T55 l (i : Int)).f1 ≤ n - 1
      · simp only [a2, and_self, if_true]
        by_cases a3 : 1 ≤ (rd_T55 l (i : Int)).f2 ∧ (rd_T55 l (i : Int)).f2 ≤ 4
        · have a4 : ¬ (0 ≤ (rd_T55 l (i : Int)).f3 ∧ (rd_T55 l (i : Int)).f3 ≤ n - 1) := fun a4 => h1 ⟨a1, a2, a3, a4⟩
          simp only [a3, and_self, if_true, a4, decide_false, Bool.not_false]
          exact stop
        · simp only [a3, if_false]
          exact stop
      · simp only [a2, if_false]
        exact stop
    · simp only [a1, if_false]
      exact stop
theorem faultS (n b : Int) (l : List S55) : Ev (fun k => spec_AreFaults.f k n b l) (faultsB n b l) := by
  unfold spec_AreFaults.f faultsB
  simp only [lineS, Option.bind_some]
  by_cases hl : lineB n b = true
  · simp only [hl, if_true, Bool.true_and]
    refine evSucc ?_
    by_cases hn : l.length ≤ 20
    · simp only [spec_AreFaults.j0, show ¬ ((l.length : Int) > 20) by omega, decide_false, Bool.false_eq_true, if_false, hn, decide_true, Bool.true_and]
      have := evAllC (fun k i => spec_AreFaults.l0 k n b l i) 0 l.length (GoodF n b l) ?_ ?_ true ?_ (Nat.zero_le _)
      · rw [all0F, Bool.and_true] at this
        exact this
      · intro i _ hi hg r hr
        have := faultS_step hl l hn i hi r (fun _ => hr)
        rw [B_true hg, Bool.true_and] at this
        exact this
      · intro i _ hi hg
        have := faultS_step hl l hn i hi true (fun h => absurd h hg)
        rw [B_false hg, Bool.false_and] at this
        exact this
      · intro _
        refine evSucc ?_
        simp only [spec_AreFaults.l0, Int.lt_irrefl, if_false]
        exact Ev.now _
    · simp only [spec_AreFaults.j0, show (l.length : Int) > 20 by omega, decide_true, if_true, hn, decide_false, Bool.false_and]
      exact Ev.now _
  · simp only [hl, if_false, Bool.false_eq_true, Bool.false_and]
    refine evSucc ?_
    simp only [spec_AreFaults.j0, if_true]
    exact Ev.now _

theorem any_take (l : List S55) (i : Nat) (hi : i < l.length) : ((l.take i).any (impl_AreFaults_1.p (rd_T55 l (i : Int)).f0 (rd_T55 l (i : Int)).f1)) = !B (NewF l i) := by
  rw [B_not, Bool.eq_iff_iff, B_iff, List.any_eq_true]
  have hp : ∀ u : S55, impl_AreFaults_1.p (rd_T55 l (i : Int)).f0 (rd_T55 l (i : Int)).f1 u = true ↔ u.f0 = (rd_T55 l (i : Int)).f0 ∧ u.f1 = (rd_T55 l (i : Int)).f1 := by
    intro u
    unfold impl_AreFaults_1.p
    by_cases e : u.f0 = (rd_T55 l (i : Int)).f0 <;> simp [e]
  constructor
  · rintro ⟨u, hu, h⟩ hN
    obtain ⟨j, hj, rfl⟩ := List.getElem_of_mem hu
    rw [List.length_take] at hj
    have := hN j (by omega)
    rw [rd55 l j (by omega)] at this
    rw [List.getElem_take] at h
    exact this ((hp _).1 h)
  · intro hN
    apply Classical.byContradiction
    intro hc
    refine hN fun j hj he => hc ⟨(l.take i)[j]'(by rw [List.length_take]; omega), List.getElem_mem _, ?_⟩
    rw [List.getElem_take, hp]
    rw [rd55 l j (by omega)] at he
    exact he
theorem faultI_step {n b : Int} (hl : lineB n b = true) (l : List S55) (hn : l.length ≤ 20) (i : Nat) (hi : i < l.length) (r : Bool) (hr : GoodF n b l i → Ev (fun k => impl_AreFaults.l0 k n b l l (l.length : Int) ((i + 1 : Nat) : Int)) r) :
    Ev (fun k => impl_AreFaults.l0 k n b l l (l.length : Int) (i : Int)) (B (GoodF n b l i) && r) := by
  obtain ⟨hn1, hb1⟩ := line_of hl
  have w1 : wrap64 (b - 1) = b - 1 := wrapIn (by omega) (by omega)
  have w2 : wrap64 (n - 1) = n - 1 := wrapIn (by omega) (by omega)
  have no : ∀ {x : Bool}, ¬ GoodF n b l i → (B (GoodF n b l i) && x) = false := fun h => by rw [B_false h, Bool.false_and]
  refine evSucc ?_
  simp only [impl_AreFaults.l0, show (i : Int) < (l.length : Int) by omega, show (0 : Int) ≤ (i : Int) by omega, if_true, inI, Option.bind_some, decide_eq_true_eq, w1, w2]
  have stop : Ev (fun k => impl_AreFaults.j2 k n b l (i : Int) l (l.length : Int) (i : Int) true (rd_T55 l (i : Int)).f0 (rd_T55 l (i : Int)).f1 (rd_T55 l (i : Int)).f2 (rd_T55 l (i : Int)).f3) false := by
    refine evSucc ?_
    simp only [impl_AreFaults.j2, if_true]
    exact Ev.now _
  have stop3 : Ev (fun k => impl_AreFaults.j3 k n b l (i : Int) l (l.length : Int) (i : Int) true (rd_T55 l (i : Int)).f0 (rd_T55 l (i : Int)).f1 (rd_T55 l (i : Int)).f2 (rd_T55 l (i : Int)).f3) false := by
    refine evSucc ?_
    simp only [impl_AreFaults.j3, if_true]
    exact Ev.now _
  by_cases a1 : 0 ≤ (rd_T55 l (i : Int)).f0 ∧ (rd_T55 l (i : Int)).f0 ≤ b - 1
  · simp only [a1, and_self, if_true]
    by_cases a2 : 0 ≤ (rd_T55 l (i : Int)).f1 ∧ (rd_T55 l (i : Int)).f1 ≤ n - 1
    · simp only [a2, and_self, if_true]
      by_cases a3 : 1 ≤ (rd_T55 l (i : Int)).f2 ∧ (rd_T55 l (i : Int)).f2 ≤ 4
      · simp only [a3, and_self, decide_true, Bool.not_true]
        refine evSucc ?_
        simp only [impl_AreFaults.j2, Bool.false_eq_true, if_false, inI, Option.bind_some, decide_eq_true_eq, w2]
        have tail : (0 ≤ (rd_T55 l (i : Int)).f3 ∧ (rd_T55 l (i : Int)).f3 ≤ n - 1) → OtherF (rd_T55 l (i : Int)) → Ev (fun k => impl_AreFaults.j3 k n b l (i : Int) l (l.length : Int) (i : Int) false (rd_T55 l (i : Int)).f0 (rd_T55 l (i : Int)).f1 (rd_T55 l (i : Int)).f2 (rd_T55 l (i : Int)).f3) (B (GoodF n b l i) && r) := by
          intro a4 ho
          refine evSucc ?_
          simp only [impl_AreFaults.j3, Bool.false_eq_true, if_false, show (0 : Int) ≤ (i : Int) by omega, show (i : Int) ≤ (l.length : Int) by omega, if_true, impl_AreFaults_1.f, Option.bind_some, Int.toNat_natCast, any_take l i hi, wrapNat (show i < 4611686018427387904 by omega)]
          rw [B_congr (show GoodF n b l i ↔ NewF l i from ⟨fun h => h.2.2, fun h => ⟨⟨a1, a2, a3, a4⟩, ho, h⟩⟩)]
          by_cases hN : NewF l i
          · simp only [B_true hN, Bool.not_true, Bool.false_eq_true, if_false, Bool.true_and]
            exact hr ⟨⟨a1, a2, a3, a4⟩, ho, hN⟩
          · simp only [B_false hN, Bool.not_false, if_true, Bool.false_and]
            exact Ev.now _
        by_cases c : (rd_T55 l (i : Int)).f2 = 4
        · simp only [c, if_true] at tail stop3 ⊢
          by_cases a4 : 0 ≤ (rd_T55 l (i : Int)).f3 ∧ (rd_T55 l (i : Int)).f3 ≤ n - 1
          · simp only [a4, and_self, if_true]
            by_cases e : (rd_T55 l (i : Int)).f3 = (rd_T55 l (i : Int)).f1
            · rw [no (fun h => h.2.1.1 c e)]
              simp only [e, if_true] at stop3 ⊢
              exact stop3
            · simp only [e, if_false]
              exact tail a4 ⟨fun _ => e, fun h => absurd c h⟩
          · rw [no (fun h => a4 h.1.2.2.2)]
            simp only [a4, if_false]
            exact stop3
        · simp only [c, if_false]
          by_cases e : (rd_T55 l (i : Int)).f3 = 0
          · simp only [e, bne_self_eq_false] at tail ⊢
            exact tail ⟨by omega, by omega⟩ ⟨fun h => absurd h c, fun _ => e⟩
          · rw [no (fun h => e (h.2.1.2 c)), bne_iff_ne.2 e]
            exact stop3
      · rw [no (fun h => a3 h.1.2.2.1)]
        simp only [a3, decide_false, Bool.not_false]
        exact stop
    · rw [no (fun h => a2 h.1.2.1)]
      simp only [a2, if_false]
      exact stop
  · rw [no (fun h => a1 h.1.1)]
    simp only [a1, if_false]
    exact stop
theorem faultI (n b : Int) (l : List S55) : Ev (fun k => impl_AreFaults.f k n b l) (faultsB n b l) := by
  unfold impl_AreFaults.f faultsB
  simp only [lineI, Option.bind_some]
  by_cases hl : lineB n b = true
  · simp only [hl, if_true, Bool.true_and]
    refine evSucc ?_
    by_cases hn : l.length ≤ 20
    · simp only [impl_AreFaults.j0, show ¬ ((l.length : Int) > 20) by omega, decide_false, Bool.false_eq_true, if_false, hn, decide_true, Bool.true_and]
      have := evAllC (fun k i => impl_AreFaults.l0 k n b l l (l.length : Int) i) 0 l.length (GoodF n b l) ?_ ?_ true ?_ (Nat.zero_le _)
      · rw [all0F, Bool.and_true] at this
        exact this
      · intro i _ hi hg r hr
        have := faultI_step hl l hn i hi r (fun _ => hr)
        rw [B_true hg, Bool.true_and] at this
        exact this
      · intro i _ hi hg
        have := faultI_step hl l hn i hi true (fun h => absurd h hg)
        rw [B_false hg, Bool.false_and] at this
        exact this
      · intro _
        refine evSucc ?_
        simp only [impl_AreFaults.l0, Int.lt_irrefl, if_false]
        exact Ev.now _
    · simp only [impl_AreFaults.j0, show (l.length : Int) > 20 by omega, decide_true, if_true, hn, decide_false, Bool.false_and]
      exact Ev.now _
  · simp only [hl, if_false, Bool.false_eq_true, Bool.false_and]
    refine evSucc ?_
    simp only [impl_AreFaults.j0, if_true]
    exact Ev.now _

noncomputable def codeF (n b : Int) (l : List S55) : Int := if lineB n b = true then (if faultsB n b l = true then 0 else 1) else 2
theorem codeFS (n b : Int) (l : List S55) : Ev (fun k => spec_l14Code.f k n b l) (codeF n b l) := by
  unfold spec_l14Code.f codeF
  simp only [lineS, Option.bind_some]
  by_cases hl : lineB n b = true
  · simp only [hl, if_true]
    refine Ev.bind (faultS n b l) ?_
    split <;> exact Ev.now _
  · simp only [hl, if_false, Bool.false_eq_true]
    exact Ev.now _
theorem codeFI (n b : Int) (l : List S55) : Ev (fun k => impl_checkFaults.f k n b l) (codeF n b l) := by
  unfold impl_checkFaults.f codeF
  simp only [lineI, Option.bind_some]
  by_cases hl : lineB n b = true
  · simp only [hl, if_true]
    refine Ev.bind (faultI n b l) ?_
    split <;> exact Ev.now _
  · simp only [hl, if_false, Bool.false_eq_true]
    exact Ev.now _
theorem codeF_ok {n b : Int} {l : List S55} (h : codeF n b l = 0) : ((1 ≤ n ∧ n ≤ 12) ∧ 0 ≤ b ∧ b ≤ 40) ∧ l.length ≤ 20 ∧ ∀ i : Nat, i < l.length → GoodF n b l i := by
  unfold codeF at h
  by_cases hl : lineB n b = true
  · rw [if_pos hl] at h
    by_cases hf : faultsB n b l = true
    · simp only [faultsB, Bool.and_eq_true, decide_eq_true_eq, B_iff] at hf
      exact ⟨line_of hf.1, hf.2.1, hf.2.2⟩
    · rw [if_neg hf] at h
      exact absurd h (by decide)
  · rw [if_neg hl] at h
    exact absurd h (by decide)

def marks (i : Nat) : List Int := (List.range i).map fun (j : Nat) => (j : Int) + 1
theorem marks_len (i : Nat) : (marks i).length = i := by simp [marks]
theorem marks_succ (i : Nat) : marks (i + 1) = marks i ++ [(i : Int) + 1] := by simp [marks, List.range_succ]
theorem marks_get (n i : Nat) (h : i < n) : rd (marks n) (i : Int) = (i : Int) + 1 := by
  rw [rdN _ _ (by rw [marks_len]; exact h)]
  simp [marks]
theorem set_marks (l : List Int) (i : Nat) (h : i < l.length) : (marks i ++ l.drop i).set i ((i : Int) + 1) = marks (i + 1) ++ l.drop (i + 1) := by
  rw [List.set_append_right _ _ (by rw [marks_len]; omega), marks_len, Nat.sub_self, List.drop_eq_getElem_cons h, List.set_cons_zero, marks_succ, List.append_assoc]
  rfl

def partW (s k o : Int) : List Int := if k = 1 then [] else if k = 2 then [wrap64 (s + 1), wrap64 (s + 1)] else if k = 3 then [wrap64 (-(wrap64 (s + 1)))] else if k = 4 then [wrap64 (o + 1)] else [wrap64 (s + 1)]
theorem partS (s k o : Int) : spec_l14Part.f s k o = some (partW s k o) := by unfold spec_l14Part.f partW; split <;> (try rfl) <;> split <;> (try rfl) <;> split <;> (try rfl) <;> split <;> rfl
theorem leftI (s k o : Int) : impl_left.f s k o = some (partW s k o) := by unfold impl_left.f partW; split <;> (try rfl) <;> split <;> (try rfl) <;> split <;> (try rfl) <;> split <;> rfl
theorem part_len (s k o : Int) : (partW s k o).length ≤ 2 := by unfold partW; split <;> (try split) <;> (try split) <;> (try split) <;> simp
def MatchF (l : List S55) (b s : Int) (i : Nat) : Prop := (rd_T55 l (i : Int)).f0 = b ∧ (rd_T55 l (i : Int)).f1 = s
instance (l : List S55) (b s : Int) (i : Nat) : Decidable (MatchF l b s i) := by unfold MatchF; exact instDecidableAnd
/-- What a station leaves, by the first i faults. -/
def statUpto (l : List S55) (b s : Int) : Nat → List Int
  | 0 => partW s 0 0
  | i + 1 => if MatchF l b s i then partW s (rd_T55 l (i : Int)).f2 (rd_T55 l (i : Int)).f3 else statUpto l b s i
theorem stat_len (l : List S55) (b s : Int) : ∀ i : Nat, (statUpto l b s i).length ≤ 2
  | 0 => part_len _ _ _
  | i + 1 => by
    unfold statUpto
    split
    · exact part_len _ _ _
    · exact stat_len l b s i
theorem stat_miss (l : List S55) (b s : Int) (m : Nat) : ∀ d : Nat, (∀ j : Nat, m ≤ j → j < m + d → ¬ MatchF l b s j) → statUpto l b s (m + d) = statUpto l b s m
  | 0, _ => rfl
  | d + 1, h => by
    have e : statUpto l b s (m + (d + 1)) = if MatchF l b s (m + d) then partW s (rd_T55 l ((m + d : Nat) : Int)).f2 (rd_T55 l ((m + d : Nat) : Int)).f3 else statUpto l b s (m + d) := rfl
    rw [e, if_neg (h (m + d) (by omega) (by omega)), stat_miss l b s m d (fun j h1 h2 => h j h1 (by omega))]
/-- The block of a book by its first n stations. -/
def blockV (l : List S55) (b : Int) : Nat → List Int
  | 0 => []
  | s + 1 => blockV l b s ++ statUpto l b (s : Int) l.length
theorem block_len (l : List S55) (b : Int) : ∀ n : Nat, (blockV l b n).length ≤ 2 * n
  | 0 => by simp [blockV]
  | s + 1 => by
    have h1 := block_len l b s
    have h2 := stat_len l b (s : Int) l.length
    simp only [blockV, List.length_append]
    omega
theorem blockS (n : Nat) (b : Int) (l : List S55) (hn : n ≤ 12) (hl : l.length ≤ 20) : Ev (fun k => spec_l14Block.f k (n : Int) b l) (blockV l b n) := by
  unfold spec_l14Block.f
  refine evCount (fun k (o : List Int) s => spec_l14Block.l0 k (n : Int) b l o s) 0 n (blockV l b) _ ?_ ?_ (Nat.zero_le _)
  · intro s _ hs hr
    refine evSucc ?_
    simp only [spec_l14Block.l0, show (s : Int) < (n : Int) by omega, if_true, partS, Option.bind_some]
    refine evCount (fun k (p : List Int) i => spec_l14Block.l1 k (n : Int) b l (blockV l b s) (s : Int) p i) 0 l.length (statUpto l b (s : Int)) _ ?_ ?_ (Nat.zero_le _)
    · intro i _ hi hr
      refine evSucc ?_
      simp only [spec_l14Block.l1, show (i : Int) < (l.length : Int) by omega, show (0 : Int) ≤ (i : Int) by omega, if_true, partS, Option.bind_some, wrapNat (show i < 4611686018427387904 by omega)]
      simp only [statUpto] at hr
      by_cases h0 : (rd_T55 l (i : Int)).f0 = b
      · by_cases h1 : (rd_T55 l (i : Int)).f1 = (s : Int)
        · rw [if_pos (show MatchF l b (s : Int) i from ⟨h0, h1⟩)] at hr
          simp only [h0, h1, if_true]
          exact hr
        · rw [if_neg (fun h : MatchF l b (s : Int) i => h1 h.2)] at hr
          simp only [h0, h1, if_true, if_false]
          exact hr
      · rw [if_neg (fun h : MatchF l b (s : Int) i => h0 h.1)] at hr
        simp only [h0, if_false]
        exact hr
    · refine evSucc ?_
      have h1 := block_len l b s
      have h2 := stat_len l b (s : Int) l.length
      simp only [spec_l14Block.l1, Int.lt_irrefl, if_false, show (blockV l b s).length + (statUpto l b (s : Int) l.length).length < 17592186044416 by omega, if_true, wrapNat (show s < 4611686018427387904 by omega)]
      exact hr
  · refine evSucc ?_
    simp only [spec_l14Block.l0, Int.lt_irrefl, if_false]
    exact Ev.now _
/-- What gather's search finds. -/
theorem gather_find {n b : Int} {l : List S55} (hg : ∀ i : Nat, i < l.length → GoodF n b l i) (x s : Int) :
    (at_from (impl_gather_1.p x s) l 0 = -1 ∧ statUpto l x s l.length = partW s 0 0) ∨ ∃ i : Nat, i < l.length ∧ at_from (impl_gather_1.p x s) l 0 = (i : Int) ∧ statUpto l x s l.length = partW s (rd_T55 l (i : Int)).f2 (rd_T55 l (i : Int)).f3 := by
  have hp : ∀ (j : Nat) (hj : j < l.length), impl_gather_1.p x s l[j] = decide (MatchF l x s j) := fun j hj => by
    have hx : rd_T55 l (j : Int) = l[j] := rd55 l j hj
    by_cases hM : MatchF l x s j
    · rw [decide_eq_true hM]
      unfold MatchF at hM
      rw [hx] at hM
      simp [impl_gather_1.p, hM.1, hM.2]
    · rw [decide_eq_false hM]
      unfold MatchF at hM
      rw [hx] at hM
      unfold impl_gather_1.p
      by_cases h0 : l[j].f0 = x
      · by_cases h1 : l[j].f1 = s
        · exact absurd ⟨h0, h1⟩ hM
        · simp [h0, h1]
      · simp [h0]
  by_cases hm : ∃ i : Nat, i < l.length ∧ MatchF l x s i
  · obtain ⟨i, hi, hmi⟩ := hm
    have uniq : ∀ j : Nat, j < l.length → MatchF l x s j → j = i := fun j hj hmj => by
      rcases Nat.lt_trichotomy j i with h | h | h
      · exact absurd ⟨hmj.1.trans hmi.1.symm, hmj.2.trans hmi.2.symm⟩ ((hg i hi).2.2 j h)
      · exact h
      · exact absurd ⟨hmi.1.trans hmj.1.symm, hmi.2.trans hmj.2.symm⟩ ((hg j hj).2.2 i h)
    refine .inr ⟨i, hi, ?_, ?_⟩
    · rw [at_from_hit _ l i 0 hi (by rw [hp i hi]; exact decide_eq_true hmi) (fun j hj => by rw [hp j (by omega)]; exact decide_eq_false (fun h => by have := uniq j (by omega) h; omega))]
      omega
    · obtain ⟨d, hd⟩ : ∃ d, l.length = i + 1 + d := ⟨l.length - (i + 1), by omega⟩
      rw [hd, stat_miss l x s (i + 1) d (fun j h1 h2 h => by have := uniq j (by omega) h; omega)]
      simp only [statUpto]
      rw [if_pos hmi]
  · refine .inl ⟨at_from_miss _ l 0 (fun j hj => by rw [hp j hj]; exact decide_eq_false (fun h => hm ⟨j, hj, h⟩)), ?_⟩
    have := stat_miss l x s 0 l.length (fun j _ h2 h => hm ⟨j, by omega, h⟩)
    rw [Nat.zero_add] at this
    exact this
def booksV (l : List S55) (n : Nat) (m : Nat) : List (List Int) := (List.range m).map fun (b : Nat) => blockV l (b : Int) n
theorem books_len (l : List S55) (n m : Nat) : (booksV l n m).length = m := by simp [booksV]
theorem books_succ (l : List S55) (n m : Nat) : booksV l n m ++ [blockV l (m : Int) n] = booksV l n (m + 1) := by simp [booksV, List.range_succ]
theorem gatherI (n m : Nat) (l : List S55) (hn : n ≤ 12) (hm : m ≤ 40) (hl : l.length ≤ 20) {N M : Int} (hg : ∀ i : Nat, i < l.length → GoodF N M l i) : Ev (fun k => impl_gather.f k (n : Int) (m : Int) l) (booksV l n m) := by
  unfold impl_gather.f
  refine evCount (fun k (o : List (List Int)) b => impl_gather.l0 k (n : Int) l o (m : Int) b) 0 m (booksV l n) _ ?_ ?_ (Nat.zero_le _)
  · intro b _ hb hr
    refine evSucc ?_
    simp only [impl_gather.l0, show (b : Int) < (m : Int) by omega, if_true]
    refine evCount (fun k (p : List Int) s => impl_gather.l1 k (n : Int) l (booksV l n b) p (m : Int) (b : Int) (n : Int) s (b : Int)) 0 n (blockV l (b : Int)) _ ?_ ?_ (Nat.zero_le _)
    · intro s _ hs hr
      refine evSucc ?_
      have h1 := block_len l (b : Int) s
      have hp0 : partW (s : Int) 0 0 = [wrap64 ((s : Int) + 1)] := rfl
      rcases gather_find hg (b : Int) (s : Int) with ⟨e1, e2⟩ | ⟨i, hi, e1, e2⟩
      · simp only [blockV, e2, hp0] at hr
        simp only [impl_gather.l1, show (s : Int) < (n : Int) by omega, if_true, impl_gather_1.f, Option.bind_some, e1, show (-1 : Int) < 0 by decide, show (blockV l (b : Int) s).length < 17592186044416 by omega, wrapNat (show s < 4611686018427387904 by omega)]
        rw [wrapNat (show s < 4611686018427387904 by omega)] at hr
        exact hr
      · have h2 := part_len (s : Int) (rd_T55 l (i : Int)).f2 (rd_T55 l (i : Int)).f3
        simp only [blockV, e2] at hr
        simp only [impl_gather.l1, show (s : Int) < (n : Int) by omega, if_true, impl_gather_1.f, Option.bind_some, e1, show ¬ ((i : Int) < 0) by omega, if_false, show (0 : Int) ≤ (i : Int) by omega, show (i : Int) < (l.length : Int) by omega, leftI, show (blockV l (b : Int) s).length + (partW (s : Int) (rd_T55 l (i : Int)).f2 (rd_T55 l (i : Int)).f3).length < 17592186044416 by omega, wrapNat (show s < 4611686018427387904 by omega)]
        exact hr
    · refine evSucc ?_
      simp only [impl_gather.l1, Int.lt_irrefl, if_false, books_len, show b < 5864062014805 by omega, if_true, wrapNat (show b < 4611686018427387904 by omega), books_succ]
      exact hr
  · refine evSucc ?_
    simp only [impl_gather.l0, Int.lt_irrefl, if_false]
    exact Ev.now _
theorem block_nil (b : Int) : ∀ n : Nat, n ≤ 100 → blockV [] b n = marks n
  | 0, _ => rfl
  | n + 1, h => by
    rw [blockV, block_nil b n (by omega), marks_succ]
    congr 1
    show [wrap64 ((n : Int) + 1)] = _
    rw [wrapNat (by omega)]
    rfl

theorem rd64 (xs : List S64) (i : Nat) (h : i < xs.length) : rd_T64 xs (i : Int) = xs[i] := by
  simp [rd_T64, List.getD_eq_getElem?_getD, List.getElem?_eq_getElem h]

def convFault (x : S64) : S55 := ⟨x.f0, x.f1, x.f2, x.f3⟩
theorem toFaultS (l : List S64) (h : l.length ≤ 1048576) : Ev (fun k => laws_toFaultS.f k l) (l.map convFault) := by
  unfold laws_toFaultS.f
  simp only [Int.toNat_natCast, show (0 : Int) ≤ (l.length : Int) by omega, show l.length ≤ 8796093022208 by omega, if_true]
  have := evCount (fun k s i => laws_toFaultS.l0 k l s i) 0 l.length (fun i => (l.map convFault).take i ++ List.replicate ((l.map convFault).length - i) z55) (l.map convFault) ?_ ?_ (Nat.zero_le _)
  · simpa using this
  · intro i _ hi h
    refine evSucc ?_
    simp only [laws_toFaultS.l0, laws_toFault.f, Option.bind_some]
    have hm : i < (l.map convFault).length := by rw [List.length_map]; exact hi
    have hl := fillLen (l.map convFault) z55 i (by omega)
    have h1 : (i : Int) < (l.length : Int) := by omega
    have h2 : (0 : Int) ≤ (i : Int) := by omega
    have h3 : (i : Int) < (((l.map convFault).take i ++ List.replicate ((l.map convFault).length - i) z55).length : Int) := by rw [hl]; omega
    have h4 := fillStep (l.map convFault) z55 i hm
    rw [List.getElem_map] at h4
    simp only [h1, h2, h3, if_true, Int.toNat_natCast, rd64 l i hi, wrapNat (show i < 4611686018427387904 by omega)]
    simp only [convFault] at h4
    rw [h4]
    exact h
  · refine evSucc ?_
    simp only [laws_toFaultS.l0, Int.lt_irrefl, if_false]
    simp only [show l.length = (l.map convFault).length by rw [List.length_map], List.take_length, Nat.sub_self, List.replicate_zero, List.append_nil]
    exact Ev.now _
theorem szFaultS_big (l : List S64) (h : 1048576 < l.length) (hm : l.length * 32 ≤ 140737488351232) : laws_szFaultS.f l 1048576 = some (-1) := by
  unfold laws_szFaultS.f
  rw [wrapIn (by omega) (by omega), if_pos (by omega)]
theorem szFaultS_ok (l : List S64) (h : l.length ≤ 1048576) : laws_szFaultS.f l 1048576 = some (1048576 - (l.length : Int)) := by
  unfold laws_szFaultS.f
  rw [wrapIn (by omega) (by omega), if_neg (by omega)]
theorem szFaultS_bigM (l : List S64) (m : Int) (m0 : 0 ≤ m) (m1 : m ≤ 1048576) (h : m < l.length) (hm : l.length * 32 ≤ 140737488351232) : laws_szFaultS.f l m = some (-1) := by
  unfold laws_szFaultS.f
  rw [wrapIn (by omega) (by omega), if_pos (by omega)]
theorem szFaultS_okM (l : List S64) (m : Int) (m0 : 0 ≤ m) (m1 : m ≤ 1048576) (h : (l.length : Int) ≤ m) : laws_szFaultS.f l m = some (m - (l.length : Int)) := by
  unfold laws_szFaultS.f
  rw [wrapIn (by omega) (by omega), if_neg (by omega)]

theorem eqFaultS (l : List S55) (h : l.length ≤ 1048576) : Ev (fun k => laws_eqFaultS.f k l l) true := by
  unfold laws_eqFaultS.f
  simp only [if_true]
  have he : ∀ x : S55, laws_eqFault.f x.f0 x.f1 x.f2 x.f3 x.f0 x.f1 x.f2 x.f3 = some true := by intro x; simp [laws_eqFault.f]
  have := evAll (fun k i => laws_eqFaultS.l0 k l l i) 0 l.length (fun _ => True) ?_ (fun i _ hi hn => absurd trivial hn) true ?_ (Nat.zero_le _)
  · simpa [B_true] using this
  · intro i _ hi _ r h
    refine evSucc ?_
    have h1 : (i : Int) < (l.length : Int) := by omega
    have h2 : (0 : Int) ≤ (i : Int) := by omega
    simp only [laws_eqFaultS.l0, h1, h2, if_true, he, Option.bind_some, wrapNat (show i < 4611686018427387904 by omega)]
    exact h
  · refine evSucc ?_
    simp only [laws_eqFaultS.l0, Int.lt_irrefl, if_false]
    exact Ev.now _

def fmark (j : Nat) : S55 := ⟨4 * (j : Int) + 1, 4 * (j : Int) + 2, 4 * (j : Int) + 3, 4 * (j : Int) + 4⟩
def fmarks (i : Nat) : List S55 := (List.range i).map fmark
theorem fmarks_len (i : Nat) : (fmarks i).length = i := by simp [fmarks]
theorem fmarks_get (n i : Nat) (h : i < n) : rd_T55 (fmarks n) (i : Int) = fmark i := by
  rw [rd55 _ _ (by rw [fmarks_len]; exact h)]
  simp [fmarks]
theorem set_fmarks (l : List S55) (i : Nat) (h : i < l.length) (x : S55) (hx : x = fmark i) : (fmarks i ++ l.drop i).set i x = fmarks (i + 1) ++ l.drop (i + 1) := by
  rw [List.set_append_right _ _ (by rw [fmarks_len]; omega), fmarks_len, Nat.sub_self, List.drop_eq_getElem_cons h, List.set_cons_zero, hx]
  simp [fmarks, List.range_succ]
theorem frd_set (l : List S55) (i : Nat) (h : i < l.length) (x : S55) : rd_T55 (l.set i x) (i : Int) = x := by
  rw [rd55 _ _ (by rw [List.length_set]; exact h), List.getElem_set_self]
theorem markFaultS (l : List S55) (h : l.length ≤ 1048576) : Ev (fun k => laws_markFaultS.f k l 1) (4 * (l.length : Int) + 1, fmarks l.length) := by
  unfold laws_markFaultS.f
  have := evCount (fun k (s : List S55 × Int) i => laws_markFaultS.l0 k s.1 s.2 i) 0 l.length (fun i => (fmarks i ++ l.drop i, 4 * (i : Int) + 1)) (4 * (l.length : Int) + 1, fmarks l.length) ?_ ?_ (Nat.zero_le _)
  · simpa [fmarks] using this
  · intro i _ hi hr
    refine evSucc ?_
    have hl : (fmarks i ++ l.drop i).length = l.length := by simp [fmarks_len]; omega
    have hli : i < (fmarks i ++ l.drop i).length := by omega
    simp only [laws_markFaultS.l0, hl, show (i : Int) < (l.length : Int) by omega, show (0 : Int) ≤ (i : Int) by omega, if_true, Int.toNat_natCast, Option.bind_some, wrapNat (show i < 4611686018427387904 by omega)]
    rw [frd_set _ _ hli, frd_set _ _ (by rw [List.length_set]; exact hli), frd_set _ _ (by rw [List.length_set, List.length_set]; exact hli), List.set_set, List.set_set, List.set_set]
    rw [wrapIn (x := 4 * (i : Int) + 1 + 1) (by omega) (by omega), wrapIn (x := 4 * (i : Int) + 1 + 1 + 1) (by omega) (by omega), wrapIn (x := 4 * (i : Int) + 1 + 1 + 1 + 1) (by omega) (by omega), wrapIn (x := 4 * (i : Int) + 1 + 1 + 1 + 1 + 1) (by omega) (by omega)]
    rw [set_fmarks l i hi _ (by simp only [fmark, S55.mk.injEq]; exact ⟨trivial, by omega, by omega, by omega⟩)]
    simp only [show 4 * ((i + 1 : Nat) : Int) + 1 = 4 * (i : Int) + 1 + 1 + 1 + 1 + 1 by omega] at hr
    exact hr
  · refine evSucc ?_
    have hl : (fmarks l.length ++ l.drop l.length).length = l.length := by simp [fmarks_len]
    simp only [laws_markFaultS.l0, hl, Int.lt_irrefl, if_false]
    rw [List.drop_length, List.append_nil]
    exact Ev.now _

theorem eqInt64S (l : List Int) (h : l.length ≤ 1048576) : Ev (fun k => laws_eqInt64S.f k l l) true := by
  unfold laws_eqInt64S.f
  simp only [if_true]
  have := evAll (fun k i => laws_eqInt64S.l0 k l l i) 0 l.length (fun _ => True) ?_ (fun i _ hi hn => absurd trivial hn) true ?_ (Nat.zero_le _)
  · simpa [B_true] using this
  · intro i _ hi _ r h
    refine evSucc ?_
    have h1 : (i : Int) < (l.length : Int) := by omega
    have h2 : (0 : Int) ≤ (i : Int) := by omega
    simp only [laws_eqInt64S.l0, h1, h2, if_true, wrapNat (show i < 4611686018427387904 by omega)]
    exact h
  · refine evSucc ?_
    simp only [laws_eqInt64S.l0, Int.lt_irrefl, if_false]
    exact Ev.now _

/-- The marks of one row, from a on. -/
def marksA (a : Int) (n : Nat) : List Int := (List.range n).map fun (j : Nat) => a + (j : Int)
theorem marksA_len (a : Int) (n : Nat) : (marksA a n).length = n := by simp [marksA]
theorem marksA_succ (a : Int) (n : Nat) : marksA a (n + 1) = marksA a n ++ [a + (n : Int)] := by simp [marksA, List.range_succ]
theorem marksA_get (a : Int) (n i : Nat) (h : i < n) : rd (marksA a n) (i : Int) = a + (i : Int) := by
  rw [rdN _ _ (by rw [marksA_len]; exact h)]
  simp [marksA]
theorem set_marksA (a : Int) (l : List Int) (i : Nat) (h : i < l.length) : (marksA a i ++ l.drop i).set i (a + (i : Int)) = marksA a (i + 1) ++ l.drop (i + 1) := by
  rw [List.set_append_right _ _ (by rw [marksA_len]; omega), marksA_len, Nat.sub_self, List.drop_eq_getElem_cons h, List.set_cons_zero, marksA_succ, List.append_assoc]
  rfl
theorem markRow (l : List Int) (a : Int) (h : l.length ≤ 1048576) (a0 : 0 ≤ a) (a1 : a ≤ 1099511627776) : Ev (fun k => laws_markInt64S.f k l a) (a + (l.length : Int), marksA a l.length) := by
  unfold laws_markInt64S.f
  have := evCount (fun k (s : List Int × Int) i => laws_markInt64S.l0 k s.1 s.2 i) 0 l.length (fun i => (marksA a i ++ l.drop i, a + (i : Int))) (a + (l.length : Int), marksA a l.length) ?_ ?_ (Nat.zero_le _)
  · simpa [marksA] using this
  · intro i _ hi hr
    refine evSucc ?_
    have hl : (marksA a i ++ l.drop i).length = l.length := by simp [marksA_len]; omega
    simp only [laws_markInt64S.l0, hl, show (i : Int) < (l.length : Int) by omega, show (0 : Int) ≤ (i : Int) by omega, if_true, Int.toNat_natCast, set_marksA a l i hi, wrapNat (show i < 4611686018427387904 by omega), wrapIn (show -9223372036854775808 ≤ a + (i : Int) + 1 by omega) (show a + (i : Int) + 1 ≤ 9223372036854775807 by omega)]
    simp only [show a + ((i + 1 : Nat) : Int) = a + (i : Int) + 1 by omega] at hr
    exact hr
  · refine evSucc ?_
    have hl : (marksA a l.length ++ l.drop l.length).length = l.length := by simp [marksA_len]
    simp only [laws_markInt64S.l0, hl, Int.lt_irrefl, if_false]
    rw [List.drop_length, List.append_nil]
    exact Ev.now _
theorem heldRow (a : Int) (n : Nat) (h : n ≤ 1048576) (a0 : 0 ≤ a) (a1 : a ≤ 1099511627776) : Ev (fun k => laws_heldInt64S.f k (marksA a n) a) (a + (n : Int)) := by
  unfold laws_heldInt64S.f
  have := evCount (fun k (s : Int) i => laws_heldInt64S.l0 k (marksA a n) s i) 0 n (fun i => a + (i : Int)) (a + (n : Int)) ?_ ?_ (Nat.zero_le _)
  · simpa using this
  · intro i _ hi hr
    refine evSucc ?_
    simp only [laws_heldInt64S.l0, marksA_len, show (i : Int) < (n : Int) by omega, show (0 : Int) ≤ (i : Int) by omega, if_true, marksA_get a n i hi, wrapNat (show i < 4611686018427387904 by omega), wrapIn (show -9223372036854775808 ≤ a + (i : Int) + 1 by omega) (show a + (i : Int) + 1 ≤ 9223372036854775807 by omega)]
    simp only [show a + ((i + 1 : Nat) : Int) = a + (i : Int) + 1 by omega] at hr
    exact hr
  · refine evSucc ?_
    simp only [laws_heldInt64S.l0, marksA_len, Int.lt_irrefl, if_false]
    exact Ev.now _
/-- The counter ahead of row i. -/
def cum (L : List (List Int)) : Nat → Int
  | 0 => 1
  | i + 1 => cum L i + ((L.getD i []).length : Int)
theorem cum_in (L : List (List Int)) (hr : ∀ i : Nat, (L.getD i []).length ≤ 4096) : ∀ i : Nat, 1 ≤ cum L i ∧ cum L i ≤ 1 + 4096 * (i : Int)
  | 0 => by simp [cum]
  | i + 1 => by
    have := cum_in L hr i
    have := hr i
    simp only [cum]
    omega
def mrows (L : List (List Int)) (i : Nat) : List (List Int) := (List.range i).map fun (j : Nat) => marksA (cum L j) (L.getD j []).length
theorem mrows_len (L : List (List Int)) (i : Nat) : (mrows L i).length = i := by simp [mrows]
theorem mrows_succ (L : List (List Int)) (i : Nat) : mrows L (i + 1) = mrows L i ++ [marksA (cum L i) (L.getD i []).length] := by simp [mrows, List.range_succ]
theorem mrows_get (L : List (List Int)) (n i : Nat) (h : i < n) : rd_L3 (mrows L n) (i : Int) = marksA (cum L i) (L.getD i []).length := by
  simp [rd_L3, mrows, List.getD_eq_getElem?_getD, h]
theorem markSS (L : List (List Int)) (h : L.length ≤ 4096) (hr : ∀ i : Nat, (L.getD i []).length ≤ 4096) : Ev (fun k => laws_markInt64SS.f k L 1) (cum L L.length, mrows L L.length) := by
  unfold laws_markInt64SS.f
  have := evCount (fun k (s : List (List Int) × Int) i => laws_markInt64SS.l0 k s.1 s.2 i) 0 L.length (fun i => (mrows L i ++ L.drop i, cum L i)) (cum L L.length, mrows L L.length) ?_ ?_ (Nat.zero_le _)
  · simpa [mrows, cum] using this
  · intro i _ hi hn
    refine evSucc ?_
    have hl : (mrows L i ++ L.drop i).length = L.length := by simp [mrows_len]; omega
    have hg : (mrows L i ++ L.drop i).getD i [] = L.getD i [] := by
      rw [List.getD_eq_getElem?_getD, List.getElem?_append_right (by rw [mrows_len]; exact Nat.le_refl _), mrows_len, Nat.sub_self, List.getElem?_drop, Nat.add_zero, List.getD_eq_getElem?_getD]
    have hs : (mrows L i ++ L.drop i).set i (marksA (cum L i) (L.getD i []).length) = mrows L (i + 1) ++ L.drop (i + 1) := by
      rw [List.set_append_right _ _ (by rw [mrows_len]; omega), mrows_len, Nat.sub_self, List.drop_eq_getElem_cons hi, List.set_cons_zero, mrows_succ, List.append_assoc]
      rfl
    have hc := cum_in L hr i
    have hri := hr i
    simp only [laws_markInt64SS.l0, hl, show (i : Int) < (L.length : Int) by omega, show (0 : Int) ≤ (i : Int) by omega, if_true, Int.toNat_natCast, hg]
    refine Ev.bind (markRow (L.getD i []) (cum L i) (by omega) (by omega) (by omega)) ?_
    simp only [hs, wrapNat (show i < 4611686018427387904 by omega)]
    exact hn
  · refine evSucc ?_
    have hl : (mrows L L.length ++ L.drop L.length).length = L.length := by simp [mrows_len]
    simp only [laws_markInt64SS.l0, hl, Int.lt_irrefl, if_false]
    rw [List.drop_length, List.append_nil]
    exact Ev.now _
theorem heldSS (L : List (List Int)) (n : Nat) (h : n ≤ 4096) (hr : ∀ i : Nat, (L.getD i []).length ≤ 4096) : Ev (fun k => laws_heldInt64SS.f k (mrows L n) 1) (cum L n) := by
  unfold laws_heldInt64SS.f
  have := evCount (fun k (s : Int) i => laws_heldInt64SS.l0 k (mrows L n) s i) 0 n (fun i => cum L i) (cum L n) ?_ ?_ (Nat.zero_le _)
  · exact this
  · intro i _ hi hn
    refine evSucc ?_
    have hc := cum_in L hr i
    have hri := hr i
    simp only [laws_heldInt64SS.l0, mrows_len, show (i : Int) < (n : Int) by omega, show (0 : Int) ≤ (i : Int) by omega, if_true, mrows_get L n i hi]
    refine Ev.bind (heldRow (cum L i) _ (by omega) (by omega) (by omega)) ?_
    simp only [show ¬ (cum L i + ((L.getD i []).length : Int) < 0) by omega, if_false, wrapNat (show i < 4611686018427387904 by omega)]
    exact hn
  · refine evSucc ?_
    simp only [laws_heldInt64SS.l0, mrows_len, Int.lt_irrefl, if_false]
    exact Ev.now _
theorem eqSS (L : List (List Int)) (h : L.length ≤ 4096) (hr : ∀ i : Nat, (L.getD i []).length ≤ 4096) : Ev (fun k => laws_eqInt64SS.f k L L) true := by
  unfold laws_eqInt64SS.f
  simp only [if_true]
  have := evAll (fun k i => laws_eqInt64SS.l0 k L L i) 0 L.length (fun _ => True) ?_ (fun i _ hi hn => absurd trivial hn) true ?_ (Nat.zero_le _)
  · simpa [B_true] using this
  · intro i _ hi _ r hn
    refine evSucc ?_
    have hri := hr i
    have e : rd_L3 L (i : Int) = L.getD i [] := by simp [rd_L3]
    simp only [laws_eqInt64SS.l0, show (i : Int) < (L.length : Int) by omega, show (0 : Int) ≤ (i : Int) by omega, if_true, e]
    refine Ev.bind (eqInt64S (L.getD i []) (by omega)) ?_
    simp only [if_true, wrapNat (show i < 4611686018427387904 by omega)]
    exact hn
  · refine evSucc ?_
    simp only [laws_eqInt64SS.l0, Int.lt_irrefl, if_false]
    exact Ev.now _

noncomputable def gathR (n b : Int) (l : List S55) : List (List Int) × Int := if codeF n b l = 0 then (booksV l n.toNat b.toNat, 0) else ([], codeF n b l)
theorem gathS (n b : Int) (l : List S55) : Ev (fun k => spec_GatherBooks.f k n b l) (gathR n b l) := by
  unfold spec_GatherBooks.f gathR
  refine Ev.bind (codeFS n b l) ?_
  by_cases hc : codeF n b l = 0
  · obtain ⟨⟨hn, hb⟩, hl, hg⟩ := codeF_ok hc
    obtain ⟨N, rfl⟩ := Int.eq_ofNat_of_zero_le (show 0 ≤ n by omega)
    obtain ⟨M, rfl⟩ := Int.eq_ofNat_of_zero_le (show 0 ≤ b by omega)
    simp only [hc, if_true, Int.toNat_natCast]
    refine evCount (fun k (o : List (List Int)) i => spec_GatherBooks.l0 k (N : Int) (M : Int) l o i) 0 M (booksV l N) _ ?_ ?_ (Nat.zero_le _)
    · intro i _ hi hr
      refine evSucc ?_
      simp only [spec_GatherBooks.l0, show (i : Int) < (M : Int) by omega, if_true]
      refine Ev.bind (blockS N (i : Int) l (by omega) hl) ?_
      simp only [books_len, show i < 5864062014805 by omega, if_true, wrapNat (show i < 4611686018427387904 by omega), books_succ]
      exact hr
    · refine evSucc ?_
      simp only [spec_GatherBooks.l0, Int.lt_irrefl, if_false]
      exact Ev.now _
  · simp only [hc, if_false]
    exact Ev.now _
theorem gathI (n b : Int) (l : List S55) : Ev (fun k => impl_GatherBooks.f k n b l) (gathR n b l) := by
  unfold impl_GatherBooks.f gathR
  refine Ev.bind (codeFI n b l) ?_
  by_cases hc : codeF n b l = 0
  · obtain ⟨⟨hn, hb⟩, hl, hg⟩ := codeF_ok hc
    obtain ⟨N, rfl⟩ := Int.eq_ofNat_of_zero_le (show 0 ≤ n by omega)
    obtain ⟨M, rfl⟩ := Int.eq_ofNat_of_zero_le (show 0 ≤ b by omega)
    simp only [hc, if_true, Int.toNat_natCast]
    exact Ev.bind (gatherI N M l (by omega) (by omega) hl hg) (Ev.now _)
  · simp only [hc, if_false]
    exact Ev.now _
theorem books_row (l : List S55) (n m : Nat) (hn : n ≤ 12) (i : Nat) : ((booksV l n m).getD i []).length ≤ 4096 := by
  unfold booksV
  rw [List.getD_eq_getElem?_getD, List.getElem?_map]
  by_cases h : i < m
  · rw [List.getElem?_eq_getElem (by simpa using h)]
    have := block_len l ((List.range m)[i]'(by simpa using h) : Int) n
    simp only [Option.map_some, Option.getD_some]
    omega
  · rw [List.getElem?_eq_none (by simpa using h)]
    simp
theorem gath_small (n b : Int) (l : List S55) : (gathR n b l).1.length ≤ 4096 ∧ ∀ i : Nat, ((gathR n b l).1.getD i []).length ≤ 4096 := by
  unfold gathR
  by_cases hc : codeF n b l = 0
  · obtain ⟨⟨hn, hb⟩, hl, hg⟩ := codeF_ok hc
    rw [if_pos hc]
    exact ⟨by show (booksV l n.toNat b.toNat).length ≤ 4096; rw [books_len]; omega, books_row l _ _ (by omega)⟩
  · rw [if_neg hc]
    exact ⟨by simp, fun i => by simp⟩
theorem FnExactGatherBooks : laws_FnExactGatherBooks.Pure := by
  intro n b l _ _ _ hm _
  refine Ev.rounds ?_
  unfold laws_FnExactGatherBooks.f
  by_cases hl : l.length ≤ 1048576
  · have hl' : (l.map convFault).length ≤ 1048576 := by rw [List.length_map]; exact hl
    have hw := gath_small n b (l.map convFault)
    have hc := cum_in _ hw.2 (gathR n b (l.map convFault)).1.length
    simp only [szFaultS_ok l hl, Option.bind_some, show ¬ (1048576 - (l.length : Int) < 0) by omega, if_false]
    refine Ev.bind (toFaultS l hl) (Ev.bind (gathS n b _) (Ev.bind (gathI n b _) (Ev.bind (eqSS _ hw.1 hw.2) ?_)))
    simp only [and_self, if_true]
    refine Ev.bind (eqFaultS _ hl') ?_
    simp only [if_true]
    refine Ev.bind (markFaultS _ hl') ?_
    simp only [show (0 : Int) ≤ 4 * ((l.map convFault).length : Int) + 1 by omega, if_true]
    refine Ev.bind (markSS _ hw.1 hw.2) (Ev.bind (heldSS _ _ hw.1 hw.2) ?_)
    rw [if_pos ⟨by omega, rfl⟩]
    exact Ev.now _
  · simp only [szFaultS_big l (by omega) hm, Option.bind_some, show (-1 : Int) < 0 by decide, if_true]
    exact Ev.now _

end Go.Proofs.Ythmeohanbggnlaa.Pure
