/- The program and the reference count the same changes between two sets of units, for every two sets. -/
import Derived.Test.YtpndkekgoadjkaaSayFnExactCountChanges
namespace Go.Proofs.Ytpndkekgoadjkaa.Pure
open Go.RowKit Go.Proofs.Ytpndkekgoadjkaa.PFnExactCountChanges Go.Proofs.YtpndkekgoadjkaaW.PrintWords Go.Proofs.YtpndkekgoadjkaaW.PrintLast
set_option linter.unusedVariables false
set_option linter.unusedSimpArgs false
-- BEGIN
/-- A proposition as a bool. -/
noncomputable def B (p : Prop) : Bool := @decide p (Classical.propDecidable p)
theorem B_iff {p : Prop} : B p = true ↔ p := by unfold B; exact @decide_eq_true_iff p (Classical.propDecidable p)
theorem B_true {p : Prop} (h : p) : B p = true := B_iff.2 h
theorem B_false {p : Prop} (h : ¬ p) : B p = false := by cases e : B p with | false => rfl | true => exact absurd (B_iff.1 e) h
theorem B_congr {p q : Prop} (h : p ↔ q) : B p = B q := by rw [propext h]
theorem B_dec (p : Prop) [Decidable p] : B p = decide p := by by_cases h : p <;> simp [h, B_true, B_false]
theorem B_and (p q : Prop) : (B p && B q) = B (p ∧ q) := by
  by_cases hp : p <;> by_cases hq : q <;> simp [B_true, B_false, hp, hq]
theorem B_not (p : Prop) : (!B p) = B (¬ p) := by by_cases hp : p <;> simp [B_true, B_false, hp]
theorem evSucc {α : Type} {g : Nat → Option α} {r : α} (h : Ev (fun k => g (k + 1)) r) : Ev g r := Ev.step (fun _ => rfl) h
theorem evNow {α : Type} {g : Nat → Option α} {r : α} (h : ∀ k, g k = some r) : Ev g r := ⟨0, fun k _ => h k⟩
theorem evCount {σ α : Type} (F : Nat → σ → Int → Option α) (i0 n : Nat) (S : Nat → σ) (r : α)
    (hstep : ∀ i, i0 ≤ i → i < n → Ev (fun k => F k (S (i + 1)) ((i + 1 : Nat) : Int)) r → Ev (fun k => F k (S i) (i : Int)) r) (hend : Ev (fun k => F k (S n) (n : Int)) r) (hle : i0 ≤ n) : Ev (fun k => F k (S i0) (i0 : Int)) r := by
  have key : ∀ d i, i0 ≤ i → i + d = n → Ev (fun k => F k (S i) (i : Int)) r := by
    intro d
    induction d with
    | zero =>
      intro i _ hi
      have h0 : i = n := by omega
      subst h0
      exact hend
    | succ d ih => intro i h0 hi; exact hstep i h0 (by omega) (ih (i + 1) (by omega) (by omega))
  exact key (n - i0) i0 (Nat.le_refl _) (by omega)
/-- A loop that leaves at the first place where G fails. -/
theorem evAll (F : Nat → Int → Option Bool) (i0 n : Nat) (G : Nat → Prop)
    (hstep : ∀ i, i0 ≤ i → i < n → G i → ∀ r, Ev (fun k => F k ((i + 1 : Nat) : Int)) r → Ev (fun k => F k (i : Int)) r) (hbad : ∀ i, i0 ≤ i → i < n → ¬ G i → Ev (fun k => F k (i : Int)) false) (e : Bool) (hend : Ev (fun k => F k (n : Int)) e) (hle : i0 ≤ n) :
    Ev (fun k => F k (i0 : Int)) (B (∀ j, i0 ≤ j → j < n → G j) && e) := by
  have key : ∀ d i, i0 ≤ i → i + d = n → Ev (fun k => F k (i : Int)) (B (∀ j, i ≤ j → j < n → G j) && e) := by
    intro d
    induction d with
    | zero =>
      intro i _ hi
      have h0 : i = n := by omega
      subst h0
      rw [B_true (fun j h1 h2 => absurd h2 (by omega)), Bool.true_and]
      exact hend
    | succ d ih =>
      intro i h0 hi
      by_cases hg : G i
      · have h1 : B (∀ j, i ≤ j → j < n → G j) = B (∀ j, i + 1 ≤ j → j < n → G j) := B_congr ⟨fun h j a b => h j (by omega) b, fun h j a b => by
          by_cases e : j = i
          · subst e; exact hg
          · exact h j (by omega) b⟩
        rw [h1]
        exact hstep i h0 (by omega) hg _ (ih (i + 1) (by omega) (by omega))
      · rw [B_false (fun h => hg (h i (Nat.le_refl _) (by omega))), Bool.false_and]
        exact hbad i h0 (by omega) hg
  exact key (n - i0) i0 (Nat.le_refl _) (by omega)
theorem wrapNat {i : Nat} (h : i < 4611686018427387904) : wrap64 ((i : Int) + 1) = ((i + 1 : Nat) : Int) := by
  unfold wrap64; omega
theorem wrapPred {i : Nat} (h0 : 1 ≤ i) (h : i < 4611686018427387904) : wrap64 ((i : Int) - 1) = ((i - 1 : Nat) : Int) := by
  unfold wrap64; omega
theorem rdN (xs : List Int) (i : Nat) (h : i < xs.length) : rd xs (i : Int) = xs[i] := by
  simp [rd, List.getD_eq_getElem?_getD, List.getElem?_eq_getElem h]
theorem fillStep {α : Type} (xs : List α) (z : α) (i : Nat) (h : i < xs.length) : (xs.take i ++ List.replicate (xs.length - i) z).set i xs[i] = xs.take (i + 1) ++ List.replicate (xs.length - (i + 1)) z := by
  have h1 : xs.length - i = (xs.length - (i + 1)) + 1 := by omega
  rw [h1, List.replicate_succ, List.set_append_right _ _ (by rw [List.length_take]; omega)]
  rw [List.length_take, Nat.min_eq_left (by omega), Nat.sub_self, List.set_cons_zero, List.take_succ_eq_append_getElem h, List.append_assoc]
  rfl
theorem fillLen {α : Type} (xs : List α) (z : α) (i : Nat) (h : i ≤ xs.length) : (xs.take i ++ List.replicate (xs.length - i) z).length = xs.length := by
  simp; omega

theorem inS (a b c : Int) : spec_l01In.f a b c = some (decide (b ≤ a ∧ a ≤ c)) := by
  unfold spec_l01In.f
  by_cases h : b ≤ a <;> simp [h]

theorem rd60 (xs : List S60) (i : Nat) (h : i < xs.length) : rd_T60 xs (i : Int) = xs[i] := by
  simp [rd_T60, List.getD_eq_getElem?_getD, List.getElem?_eq_getElem h]

def setupB (l : List S60) : Bool := decide (l.length ≤ 6) && l.all fun u => decide (0 ≤ u.f1 ∧ u.f1 ≤ 1000000000)
theorem setupI (l : List S60) : impl_isSetup.f l = some (setupB l) := rfl
theorem setupS (l : List S60) (h : l.length ≤ 1048576) : Ev (fun k => spec_l13Setup.f k l) (setupB l) := by
  unfold spec_l13Setup.f
  have := evAll (fun k i => spec_l13Setup.l0 k l i) 0 l.length (fun i => 0 ≤ (rd_T60 l (i : Int)).f1 ∧ (rd_T60 l (i : Int)).f1 ≤ 1000000000) ?_ ?_ (decide ((l.length : Int) ≤ 6)) ?_ (Nat.zero_le _)
  · have e : setupB l = (B (∀ j, 0 ≤ j → j < l.length → 0 ≤ (rd_T60 l (j : Int)).f1 ∧ (rd_T60 l (j : Int)).f1 ≤ 1000000000) && decide ((l.length : Int) ≤ 6)) := by
      unfold setupB
      rw [Bool.and_comm]
      congr 1
      · rw [Bool.eq_iff_iff, B_iff, List.all_eq_true]
        refine ⟨fun hx j _ hj => ?_, fun hx u hu => ?_⟩
        · have := hx l[j] (List.getElem_mem hj)
          rw [rd60 l j hj]
          exact of_decide_eq_true this
        · obtain ⟨j, hj, rfl⟩ := List.getElem_of_mem hu
          have := hx j (Nat.zero_le _) hj
          rw [rd60 l j hj] at this
          exact decide_eq_true this
      · exact decide_eq_decide.2 (by omega)
    rw [e]
    exact this
  · intro i _ hi hg r hr
    refine evSucc ?_
    simp only [spec_l13Setup.l0, show (i : Int) < (l.length : Int) by omega, show (0 : Int) ≤ (i : Int) by omega, if_true, inS, Option.bind_some, decide_eq_true_eq, hg, and_self, wrapNat (show i < 4611686018427387904 by omega)]
    exact hr
  · intro i _ hi hg
    refine evSucc ?_
    simp only [spec_l13Setup.l0, show (i : Int) < (l.length : Int) by omega, show (0 : Int) ≤ (i : Int) by omega, if_true, inS, Option.bind_some, decide_eq_true_eq, hg, if_false]
    exact Ev.now _
  · refine evSucc ?_
    simp only [spec_l13Setup.l0, Int.lt_irrefl, if_false]
    exact Ev.now _
theorem setup_len {l : List S60} (h : setupB l = true) : l.length ≤ 6 := by
  simp only [setupB, Bool.and_eq_true, decide_eq_true_eq] at h
  exact h.1

theorem wrapIn {x : Int} (h0 : -9223372036854775808 ≤ x) (h1 : x ≤ 9223372036854775807) : wrap64 x = x := by
  unfold wrap64; omega

theorem rd62 (xs : List S62) (i : Nat) (h : i < xs.length) : rd_T62 xs (i : Int) = xs[i] := by
  simp [rd_T62, List.getD_eq_getElem?_getD, List.getElem?_eq_getElem h]

def convUnit (x : S62) : S60 := ⟨x.f0, x.f1, x.f2⟩
theorem toUnitS (l : List S62) (h : l.length ≤ 1048576) : Ev (fun k => laws_toUnitS.f k l) (l.map convUnit) := by
  unfold laws_toUnitS.f
  simp only [Int.toNat_natCast, show (0 : Int) ≤ (l.length : Int) by omega, show l.length ≤ 11728124029610 by omega, if_true]
  have := evCount (fun k s i => laws_toUnitS.l0 k l s i) 0 l.length (fun i => (l.map convUnit).take i ++ List.replicate ((l.map convUnit).length - i) z60) (l.map convUnit) ?_ ?_ (Nat.zero_le _)
  · simpa using this
  · intro i _ hi h
    refine evSucc ?_
    simp only [laws_toUnitS.l0, laws_toUnit.f, Option.bind_some]
    have hm : i < (l.map convUnit).length := by rw [List.length_map]; exact hi
    have hl := fillLen (l.map convUnit) z60 i (by omega)
    have h1 : (i : Int) < (l.length : Int) := by omega
    have h2 : (0 : Int) ≤ (i : Int) := by omega
    have h3 : (i : Int) < (((l.map convUnit).take i ++ List.replicate ((l.map convUnit).length - i) z60).length : Int) := by rw [hl]; omega
    have h4 := fillStep (l.map convUnit) z60 i hm
    rw [List.getElem_map] at h4
    simp only [h1, h2, h3, if_true, Int.toNat_natCast, rd62 l i hi, wrapNat (show i < 4611686018427387904 by omega)]
    simp only [convUnit] at h4
    rw [h4]
    exact h
  · refine evSucc ?_
    simp only [laws_toUnitS.l0, Int.lt_irrefl, if_false]
    simp only [show l.length = (l.map convUnit).length by rw [List.length_map], List.take_length, Nat.sub_self, List.replicate_zero, List.append_nil]
    exact Ev.now _
theorem szUnitS_big (l : List S62) (h : 1048576 < l.length) (hm : l.length * 24 ≤ 140737488351232) : laws_szUnitS.f l 1048576 = some (-1) := by
  unfold laws_szUnitS.f
  rw [wrapIn (by omega) (by omega), if_pos (by omega)]
theorem szUnitS_ok (l : List S62) (h : l.length ≤ 1048576) : laws_szUnitS.f l 1048576 = some (1048576 - (l.length : Int)) := by
  unfold laws_szUnitS.f
  rw [wrapIn (by omega) (by omega), if_neg (by omega)]
theorem szUnitS_bigM (l : List S62) (m : Int) (m0 : 0 ≤ m) (m1 : m ≤ 1048576) (h : m < l.length) (hm : l.length * 24 ≤ 140737488351232) : laws_szUnitS.f l m = some (-1) := by
  unfold laws_szUnitS.f
  rw [wrapIn (by omega) (by omega), if_pos (by omega)]
theorem szUnitS_okM (l : List S62) (m : Int) (m0 : 0 ≤ m) (m1 : m ≤ 1048576) (h : (l.length : Int) ≤ m) : laws_szUnitS.f l m = some (m - (l.length : Int)) := by
  unfold laws_szUnitS.f
  rw [wrapIn (by omega) (by omega), if_neg (by omega)]

theorem eqUnitS (l : List S60) (h : l.length ≤ 1048576) : Ev (fun k => laws_eqUnitS.f k l l) true := by
  unfold laws_eqUnitS.f
  simp only [if_true]
  have he : ∀ x : S60, laws_eqUnit.f x.f0 x.f1 x.f2 x.f0 x.f1 x.f2 = some true := by intro x; simp [laws_eqUnit.f]
  have := evAll (fun k i => laws_eqUnitS.l0 k l l i) 0 l.length (fun _ => True) ?_ (fun i _ hi hn => absurd trivial hn) true ?_ (Nat.zero_le _)
  · simpa [B_true] using this
  · intro i _ hi _ r h
    refine evSucc ?_
    have h1 : (i : Int) < (l.length : Int) := by omega
    have h2 : (0 : Int) ≤ (i : Int) := by omega
    simp only [laws_eqUnitS.l0, h1, h2, if_true, he, Option.bind_some, wrapNat (show i < 4611686018427387904 by omega)]
    exact h
  · refine evSucc ?_
    simp only [laws_eqUnitS.l0, Int.lt_irrefl, if_false]
    exact Ev.now _

def chgP (l m : List S60) (i : Nat) : Prop := l.length ≤ i ∨ m.length ≤ i ∨ (!(((rd_T60 l (i : Int)).f0) == ((rd_T60 m (i : Int)).f0)) || (!(((rd_T60 l (i : Int)).f1) == ((rd_T60 m (i : Int)).f1)) || (!(((rd_T60 l (i : Int)).f2) == ((rd_T60 m (i : Int)).f2))))) = true
instance (l m : List S60) (i : Nat) : Decidable (chgP l m i) := by unfold chgP; exact inferInstance
def chgN (l m : List S60) : Nat → Nat
  | 0 => 0
  | i + 1 => chgN l m i + (if chgP l m i then 1 else 0)
theorem chgN_le (l m : List S60) : ∀ i : Nat, chgN l m i ≤ i
  | 0 => Nat.le_refl _
  | i + 1 => by
    have := chgN_le l m i
    simp only [chgN]
    split <;> omega
theorem chgI (l m : List S60) (hl : l.length ≤ 6) (hm : m.length ≤ 6) : Ev (fun k => impl_changes.f k l m) ((chgN l m (max l.length m.length) : Nat) : Int) := by
  unfold impl_changes.f
  have e : mx (l.length : Int) (m.length : Int) = ((max l.length m.length : Nat) : Int) := by
    unfold mx
    split <;> omega
  rw [e]
  refine evCount (fun k (s : Int) i => impl_changes.l0 k l m s ((max l.length m.length : Nat) : Int) i) 0 (max l.length m.length) (fun i => ((chgN l m i : Nat) : Int)) _ ?_ ?_ (Nat.zero_le _)
  · intro i _ hi hr
    refine evSucc ?_
    have hc := chgN_le l m i
    have hw := wrapNat (show i < 4611686018427387904 by omega)
    have hw2 := wrapNat (show chgN l m i < 4611686018427387904 by omega)
    have hw3 : wrap64 (((chgN l m i : Nat) : Int) + 0) = ((chgN l m i : Nat) : Int) := by rw [Int.add_zero]; exact wrapIn (by omega) (by omega)
    simp only [impl_changes.l0, show (i : Int) < ((max l.length m.length : Nat) : Int) by omega, if_true, impl_toInt.f, Option.bind_some]
    simp only [chgN] at hr
    by_cases a : l.length ≤ i
    · simp only [show (i : Int) ≥ (l.length : Int) by omega, if_true, hw, hw2]
      rw [if_pos (show chgP l m i from Or.inl a)] at hr
      exact hr
    · by_cases b : m.length ≤ i
      · simp only [show ¬ ((i : Int) ≥ (l.length : Int)) by omega, show (i : Int) ≥ (m.length : Int) by omega, if_true, if_false, hw, hw2]
        rw [if_pos (show chgP l m i from Or.inr (Or.inl b))] at hr
        exact hr
      · simp only [show ¬ ((i : Int) ≥ (l.length : Int)) by omega, show ¬ ((i : Int) ≥ (m.length : Int)) by omega, show (0 : Int) ≤ (i : Int) by omega, show (i : Int) < (l.length : Int) by omega, show (i : Int) < (m.length : Int) by omega, if_true, if_false, hw]
        by_cases c : (!(((rd_T60 l (i : Int)).f0) == ((rd_T60 m (i : Int)).f0)) || (!(((rd_T60 l (i : Int)).f1) == ((rd_T60 m (i : Int)).f1)) || (!(((rd_T60 l (i : Int)).f2) == ((rd_T60 m (i : Int)).f2))))) = true
        · rw [if_pos (show chgP l m i from Or.inr (Or.inr c))] at hr
          simp only [c, if_true, Option.bind_some, hw2]
          exact hr
        · rw [if_neg (show ¬ chgP l m i from fun h => h.elim a fun h => h.elim b c)] at hr
          simp only [c, if_false, Bool.false_eq_true, Option.bind_some, hw3]
          exact hr
  · refine evSucc ?_
    simp only [impl_changes.l0, Int.lt_irrefl, if_false]
    exact Ev.now _
theorem chgS (l m : List S60) (hl : l.length ≤ 6) (hm : m.length ≤ 6) : Ev (fun k => spec_l13Changes.f k l m) ((chgN l m (max l.length m.length) : Nat) : Int) := by
  unfold spec_l13Changes.f
  refine evCount (fun k (s : Int) i => spec_l13Changes.l0 k l m s i) 0 (max l.length m.length) (fun i => ((chgN l m i : Nat) : Int)) _ ?_ ?_ (Nat.zero_le _)
  · intro i _ hi hr
    have hc := chgN_le l m i
    have hw := wrapNat (show i < 4611686018427387904 by omega)
    have hw2 := wrapNat (show chgN l m i < 4611686018427387904 by omega)
    have hj : Ev (fun k => spec_l13Changes.j1 k l m ((chgN l m i : Nat) : Int) (i : Int) true) ((chgN l m (max l.length m.length) : Nat) : Int) := by
      refine evSucc ?_
      simp only [spec_l13Changes.j1, if_true]
      simp only [chgN] at hr
      by_cases a : l.length ≤ i
      · simp only [show (i : Int) ≥ (l.length : Int) by omega, if_true, hw, hw2]
        rw [if_pos (show chgP l m i from Or.inl a)] at hr
        exact hr
      · by_cases b : m.length ≤ i
        · simp only [show ¬ ((i : Int) ≥ (l.length : Int)) by omega, show (i : Int) ≥ (m.length : Int) by omega, if_true, if_false, hw, hw2]
          rw [if_pos (show chgP l m i from Or.inr (Or.inl b))] at hr
          exact hr
        · simp only [show ¬ ((i : Int) ≥ (l.length : Int)) by omega, show ¬ ((i : Int) ≥ (m.length : Int)) by omega, show (0 : Int) ≤ (i : Int) by omega, show (i : Int) < (l.length : Int) by omega, show (i : Int) < (m.length : Int) by omega, if_true, if_false, hw]
          by_cases c : (!(((rd_T60 l (i : Int)).f0) == ((rd_T60 m (i : Int)).f0)) || (!(((rd_T60 l (i : Int)).f1) == ((rd_T60 m (i : Int)).f1)) || (!(((rd_T60 l (i : Int)).f2) == ((rd_T60 m (i : Int)).f2))))) = true
          · rw [if_pos (show chgP l m i from Or.inr (Or.inr c))] at hr
            simp only [c, if_true, hw2]
            exact hr
          · rw [if_neg (show ¬ chgP l m i from fun h => h.elim a fun h => h.elim b c)] at hr
            simp only [c, if_false, Bool.false_eq_true]
            exact hr
    refine evSucc ?_
    by_cases a : l.length ≤ i
    · simp only [spec_l13Changes.l0, show ¬ ((i : Int) < (l.length : Int)) by omega, if_false, show (i : Int) < (m.length : Int) by omega, decide_true]
      exact hj
    · simp only [spec_l13Changes.l0, show (i : Int) < (l.length : Int) by omega, if_true]
      exact hj
  · refine evSucc ?_
    simp only [spec_l13Changes.l0, show ¬ (((max l.length m.length : Nat) : Int) < (l.length : Int)) by omega, show ¬ (((max l.length m.length : Nat) : Int) < (m.length : Int)) by omega, if_false, decide_false]
    refine evSucc ?_
    simp only [spec_l13Changes.j1, Bool.false_eq_true, if_false]
    exact Ev.now _
theorem changes_both (l m : List S60) (h : l.length ≤ 1048576) (h' : m.length ≤ 1048576) : ∃ r, Ev (fun k => spec_CountChanges.f k l m) r ∧ Ev (fun k => impl_CountChanges.f k l m) r := by
  unfold spec_CountChanges.f impl_CountChanges.f
  simp only [setupI, Option.bind_some]
  by_cases hs : setupB l = true
  · by_cases hs' : setupB m = true
    · refine ⟨(((chgN l m (max l.length m.length) : Nat) : Int), 0), Ev.bind (setupS l h) ?_, ?_⟩
      · simp only [hs, if_true]
        refine Ev.bind (setupS m h') ?_
        simp only [hs', if_true]
        exact Ev.bind (chgS l m (setup_len hs) (setup_len hs')) (Ev.now _)
      · simp only [hs, hs', if_true]
        exact Ev.bind (chgI l m (setup_len hs) (setup_len hs')) (Ev.now _)
    · refine ⟨(0, 1), Ev.bind (setupS l h) ?_, ?_⟩
      · simp only [hs, if_true]
        refine Ev.bind (setupS m h') ?_
        simp only [hs', if_false, Bool.false_eq_true]
        exact Ev.now _
      · simp only [hs, hs', if_true, if_false, Bool.false_eq_true]
        exact Ev.now _
  · refine ⟨(0, 1), Ev.bind (setupS l h) ?_, ?_⟩
    · simp only [hs, if_false, Bool.false_eq_true]
      exact Ev.now _
    · simp only [hs, if_false, Bool.false_eq_true]
      exact Ev.now _
theorem FnExactCountChanges : laws_FnExactCountChanges.Pure := by
  intro l m _ hm _ _ hm' _
  refine Ev.rounds ?_
  unfold laws_FnExactCountChanges.f
  by_cases hl : l.length ≤ 1048576
  · have hl' : (l.map convUnit).length ≤ 1048576 := by rw [List.length_map]; exact hl
    simp only [szUnitS_ok l hl, Option.bind_some, show ¬ (1048576 - (l.length : Int) < 0) by omega, if_false]
    by_cases hk : (m.length : Int) ≤ 1048576 - (l.length : Int)
    · have hk1 : m.length ≤ 1048576 := by omega
      have hk' : (m.map convUnit).length ≤ 1048576 := by rw [List.length_map]; exact hk1
      simp only [szUnitS_okM m _ (show (0 : Int) ≤ 1048576 - (l.length : Int) by omega) (by omega) hk, Option.bind_some, show ¬ (1048576 - (l.length : Int) - (m.length : Int) < 0) by omega, if_false]
      obtain ⟨r, h1, h2⟩ := changes_both (l.map convUnit) (m.map convUnit) hl' hk'
      refine Ev.bind (toUnitS l hl) (Ev.bind (toUnitS m hk1) (Ev.bind h1 (Ev.bind (toUnitS l hl) (Ev.bind (toUnitS m hk1) (Ev.bind h2 ?_)))))
      simp only [bne_self_eq_false, if_true]
      refine evSucc ?_
      simp only [laws_FnExactCountChanges.j0, Bool.false_eq_true, if_false]
      refine Ev.bind (toUnitS l hl) (Ev.bind (eqUnitS _ hl') ?_)
      simp only [if_true]
      refine Ev.bind (toUnitS m hk1) (Ev.bind (eqUnitS _ hk') ?_)
      simp only [if_true]
      exact Ev.now _
    · simp only [szUnitS_bigM m _ (show (0 : Int) ≤ 1048576 - (l.length : Int) by omega) (by omega) (by omega) hm', Option.bind_some, show (-1 : Int) < 0 by decide, if_true]
      exact Ev.now _
  · simp only [szUnitS_big l (by omega) hm, Option.bind_some, show (-1 : Int) < 0 by decide, if_true]
    exact Ev.now _

end Go.Proofs.Ytpndkekgoadjkaa.Pure
