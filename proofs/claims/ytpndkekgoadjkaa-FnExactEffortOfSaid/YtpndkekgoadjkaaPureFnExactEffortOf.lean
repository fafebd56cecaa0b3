/- The program and the reference give the same effort of an order of setups, for every list of sets of units and every list of int64. -/
import Derived.Test.YtpndkekgoadjkaaSayFnExactEffortOf
namespace Go.Proofs.Ytpndkekgoadjkaa.Pure
open Go.RowKit Go.Proofs.Ytpndkekgoadjkaa.PFnExactEffortOf Go.Proofs.YtpndkekgoadjkaaW.PrintWords Go.Proofs.YtpndkekgoadjkaaW.PrintLast
set_option linter.unusedVariables false
set_option linter.unusedSimpArgs false
-- BEGIN
/-- A proposition as a bool. -/
noncomputable def B (p : Prop) : Bool := @decide p (Classical.propDecidable p)
theorem B_iff {p : Prop} : B p = true ↔ p := by unfold B; exact @decide_eq_true_iff p (Classical.propDecidable p)
theorem B_true {p : Prop} (h : p) : B p = true := B_iff.2 h
theorem B_false {p : Prop} (h : ¬ p) : B p = false := by cases e : B p with | false => rfl | true => exact absurd (B_iff.1 e) h
theorem B_congr {p q : Prop} (h : p ↔ q) : B p = B q := by rw [propext h]
theorem B_dec (p : Prop) [Decidable p] : B p = decide p := by by_cases h : p <;> simp [h, B_true, B_false]
theorem B_and (p q : Prop) : (B p && B q) = B (p ∧ q) := by
  by_cases hp : p <;> by_cases hq : q <;> simp [B_true, B_false, hp, hq]
theorem B_not (p : Prop) : (!B p) = B (¬ p) := by by_cases hp : p <;> simp [B_true, B_false, hp]
theorem evSucc {α : Type} {g : Nat → Option α} {r : α} (h : Ev (fun k => g (k + 1)) r) : Ev g r := Ev.step (fun _ => rfl) h
theorem evNow {α : Type} {g : Nat → Option α} {r : α} (h : ∀ k, g k = some r) : Ev g r := ⟨0, fun k _ => h k⟩
theorem evCount {σ α : Type} (F : Nat → σ → Int → Option α) (i0 n : Nat) (S : Nat → σ) (r : α)
    (hstep : ∀ i, i0 ≤ i → i < n → Ev (fun k => F k (S (i + 1)) ((i + 1 : Nat) : Int)) r → Ev (fun k => F k (S i) (i : Int)) r) (hend : Ev (fun k => F k (S n) (n : Int)) r) (hle : i0 ≤ n) : Ev (fun k => F k (S i0) (i0 : Int)) r := by
  have key : ∀ d i, i0 ≤ i → i + d = n → Ev (fun k => F k (S i) (i : Int)) r := by
    intro d
    induction d with
    | zero =>
      intro i _ hi
      have h0 : i = n := by omega
      subst h0
      exact hend
    | succ d ih => intro i h0 hi; exact hstep i h0 (by omega) (ih (i + 1) (by omega) (by omega))
  exact key (n - i0) i0 (Nat.le_refl _) (by omega)
/-- A loop that leaves at the first place where G fails. -/
theorem evAll (F : Nat → Int → Option Bool) (i0 n : Nat) (G : Nat → Prop)
    (hstep : ∀ i, i0 ≤ i → i < n → G i → ∀ r, Ev (fun k => F k ((i + 1 : Nat) : Int)) r → Ev (fun k => F k (i : Int)) r) (hbad : ∀ i, i0 ≤ i → i < n → ¬ G i → Ev (fun k => F k (i : Int)) false) (e : Bool) (hend : Ev (fun k => F k (n : Int)) e) (hle : i0 ≤ n) :
    Ev (fun k => F k (i0 : Int)) (B (∀ j, i0 ≤ j → j < n → G j) && e) := by
  have key : ∀ d i, i0 ≤ i → i + d = n → Ev (fun k => F k (i : Int)) (B (∀ j, i ≤ j → j < n → G j) && e) := by
    intro d
    induction d with
    | zero =>
      intro i _ hi
      have h0 : i = n := by omega
      subst h0
      rw [B_true (fun j h1 h2 => absurd h2 (by omega)), Bool.true_and]
      exact hend
    | succ d ih =>
      intro i h0 hi
      by_cases hg : G i
      · have h1 : B (∀ j, i ≤ j → j < n → G j) = B (∀ j, i + 1 ≤ j → j < n → G j) := B_congr ⟨fun h j a b => h j (by omega) b, fun h j a b => by
          by_cases e : j = i
          · subst e; exact hg
          · exact h j (by omega) b⟩
        rw [h1]
        exact hstep i h0 (by omega) hg _ (ih (i + 1) (by omega) (by omega))
      · rw [B_false (fun h => hg (h i (Nat.le_refl _) (by omega))), Bool.false_and]
        exact hbad i h0 (by omega) hg
  exact key (n - i0) i0 (Nat.le_refl _) (by omega)
theorem wrapNat {i : Nat} (h : i < 4611686018427387904) : wrap64 ((i : Int) + 1) = ((i + 1 : Nat) : Int) := by
  unfold wrap64; omega
theorem wrapPred {i : Nat} (h0 : 1 ≤ i) (h : i < 4611686018427387904) : wrap64 ((i : Int) - 1) = ((i - 1 : Nat) : Int) := by
  unfold wrap64; omega
theorem rdN (xs : List Int) (i : Nat) (h : i < xs.length) : rd xs (i : Int) = xs[i] := by
  simp [rd, List.getD_eq_getElem?_getD, List.getElem?_eq_getElem h]
theorem fillStep {α : Type} (xs : List α) (z : α) (i : Nat) (h : i < xs.length) : (xs.take i ++ List.replicate (xs.length - i) z).set i xs[i] = xs.take (i + 1) ++ List.replicate (xs.length - (i + 1)) z := by
  have h1 : xs.length - i = (xs.length - (i + 1)) + 1 := by omega
  rw [h1, List.replicate_succ, List.set_append_right _ _ (by rw [List.length_take]; omega)]
  rw [List.length_take, Nat.min_eq_left (by omega), Nat.sub_self, List.set_cons_zero, List.take_succ_eq_append_getElem h, List.append_assoc]
  rfl
theorem fillLen {α : Type} (xs : List α) (z : α) (i : Nat) (h : i ≤ xs.length) : (xs.take i ++ List.replicate (xs.length - i) z).length = xs.length := by
  simp; omega

theorem inS (a b c : Int) : spec_l01In.f a b c = some (decide (b ≤ a ∧ a ≤ c)) := by
  unfold spec_l01In.f
  by_cases h : b ≤ a <;> simp [h]

theorem rd60 (xs : List S60) (i : Nat) (h : i < xs.length) : rd_T60 xs (i : Int) = xs[i] := by
  simp [rd_T60, List.getD_eq_getElem?_getD, List.getElem?_eq_getElem h]

def setupB (l : List S60) : Bool := decide (l.length ≤ 6) && l.all fun u => decide (0 ≤ u.f1 ∧ u.f1 ≤ 1000000000)
theorem setupI (l : List S60) : impl_isSetup.f l = some (setupB l) := rfl
theorem setupS (l : List S60) (h : l.length ≤ 1048576) : Ev (fun k => spec_l13Setup.f k l) (setupB l) := by
  unfold spec_l13Setup.f
  have := evAll (fun k i => spec_l13Setup.l0 k l i) 0 l.length (fun i => 0 ≤ (rd_T60 l (i : Int)).f1 ∧ (rd_T60 l (i : Int)).f1 ≤ 1000000000) ?_ ?_ (decide ((l.length : Int) ≤ 6)) ?_ (Nat.zero_le _)
  · have e : setupB l = (B (∀ j, 0 ≤ j → j < l.length → 0 ≤ (rd_T60 l (j : Int)).f1 ∧ (rd_T60 l (j : Int)).f1 ≤ 1000000000) && decide ((l.length : Int) ≤ 6)) := by
      unfold setupB
      rw [Bool.and_comm]
      congr 1
      · rw [Bool.eq_iff_iff, B_iff, List.all_eq_true]
        refine ⟨fun hx j _ hj => ?_, fun hx u hu => ?_⟩
        · have := hx l[j] (List.getElem_mem hj)
          rw [rd60 l j hj]
          exact of_decide_eq_true this
        · obtain ⟨j, hj, rfl⟩ := List.getElem_of_mem hu
          have := hx j (Nat.zero_le _) hj
          rw [rd60 l j hj] at this
          exact decide_eq_true this
      · exact decide_eq_decide.2 (by omega)
    rw [e]
    exact this
  · intro i _ hi hg r hr
    refine evSucc ?_
    simp only [spec_l13Setup.l0, show (i : Int) < (l.length : Int) by omega, show (0 : Int) ≤ (i : Int) by omega, if_true, inS, Option.bind_some, decide_eq_true_eq, hg, and_self, wrapNat (show i < 4611686018427387904 by omega)]
    exact hr
  · intro i _ hi hg
    refine evSucc ?_
    simp only [spec_l13Setup.l0, show (i : Int) < (l.length : Int) by omega, show (0 : Int) ≤ (i : Int) by omega, if_true, inS, Option.bind_some, decide_eq_true_eq, hg, if_false]
    exact Ev.now _
  · refine evSucc ?_
    simp only [spec_l13Setup.l0, Int.lt_irrefl, if_false]
    exact Ev.now _
theorem setup_len {l : List S60} (h : setupB l = true) : l.length ≤ 6 := by
  simp only [setupB, Bool.and_eq_true, decide_eq_true_eq] at h
  exact h.1

theorem wrapIn {x : Int} (h0 : -9223372036854775808 ≤ x) (h1 : x ≤ 9223372036854775807) : wrap64 x = x := by
  unfold wrap64; omega

def chgP (l m : List S60) (i : Nat) : Prop := l.length ≤ i ∨ m.length ≤ i ∨ (!(((rd_T60 l (i : Int)).f0) == ((rd_T60 m (i : Int)).f0)) || (!(((rd_T60 l (i : Int)).f1) == ((rd_T60 m (i : Int)).f1)) || (!(((rd_T60 l (i : Int)).f2) == ((rd_T60 m (i : Int)).f2))))) = true
instance (l m : List S60) (i : Nat) : Decidable (chgP l m i) := by unfold chgP; exact inferInstance
def chgN (l m : List S60) : Nat → Nat
  | 0 => 0
  | i + 1 => chgN l m i + (if chgP l m i then 1 else 0)
theorem chgN_le (l m : List S60) : ∀ i : Nat, chgN l m i ≤ i
  | 0 => Nat.le_refl _
  | i + 1 => by
    have := chgN_le l m i
    simp only [chgN]
    split <;> omega
theorem chgI (l m : List S60) (hl : l.length ≤ 6) (hm : m.length ≤ 6) : Ev (fun k => impl_changes.f k l m) ((chgN l m (max l.length m.length) : Nat) : Int) := by
  unfold impl_changes.f
  have e : mx (l.length : Int) (m.length : Int) = ((max l.length m.length : Nat) : Int) := by
    unfold mx
    split <;> omega
  rw [e]
  refine evCount (fun k (s : Int) i => impl_changes.l0 k l m s ((max l.length m.length : Nat) : Int) i) 0 (max l.length m.length) (fun i => ((chgN l m i : Nat) : Int)) _ ?_ ?_ (Nat.zero_le _)
  · intro i _ hi hr
    refine evSucc ?_
    have hc := chgN_le l m i
    have hw := wrapNat (show i < 4611686018427387904 by omega)
    have hw2 := wrapNat (show chgN l m i < 4611686018427387904 by omega)
    have hw3 : wrap64 (((chgN l m i : Nat) : Int) + 0) = ((chgN l m i : Nat) : Int) := by rw [Int.add_zero]; exact wrapIn (by omega) (by omega)
    simp only [impl_changes.l0, show (i : Int) < ((max l.length m.length : Nat) : Int) by omega, if_true, impl_toInt.f, Option.bind_some]
    simp only [chgN] at hr
    by_cases a : l.length ≤ i
    · simp only [show (i : Int) ≥ (l.length : Int) by omega, if_true, hw, hw2]
      rw [if_pos (show chgP l m i from Or.inl a)] at hr
      exact hr
    · by_cases b : m.length ≤ i
      · simp only [show ¬ ((i : Int) ≥ (l.length : Int)) by omega, show (i : Int) ≥ (m.length : Int) by omega, if_true, if_false, hw, hw2]
        rw [if_pos (show chgP l m i from Or.inr (Or.inl b))] at hr
        exact hr
      · simp only [show ¬ ((i : Int) ≥ (l.length : Int)) by omega, show ¬ ((i : Int) ≥ (m.length : Int)) by omega, show (0 : Int) ≤ (i : Int) by omega, show (i : Int) < (l.length : Int) by omega, show (i : Int) < (m.length : Int) by omega, if_true, if_false, hw]
        by_cases c : (!(((rd_T60 l (i : Int)).f0) == ((rd_T60 m (i : Int)).f0)) || (!(((rd_T60 l (i : Int)).f1) == ((rd_T60 m (i : Int)).f1)) || (!(((rd_T60 l (i : Int)).f2) == ((rd_T60 m (i : Int)).f2))))) = true
        · rw [if_pos (show chgP l m i from Or.inr (Or.inr c))] at hr
          simp only [c, if_true, Option.bind_some, hw2]
          exact hr
        · rw [if_neg (show ¬ chgP l m i from fun h => h.elim a fun h => h.elim b c)] at hr
          simp only [c, if_false, Bool.false_eq_true, Option.bind_some, hw3]
          exact hr
  · refine evSucc ?_
    simp only [impl_changes.l0, Int.lt_irrefl, if_false]
    exact Ev.now _
theorem chgS (l m : List S60) (hl : l.length ≤ 6) (hm : m.length ≤ 6) : Ev (fun k => spec_l13Changes.f k l m) ((chgN l m (max l.length m.length) : Nat) : Int) := by
  unfold spec_l13Changes.f
  refine evCount (fun k (s : Int) i => spec_l13Changes.l0 k l m s i) 0 (max l.length m.length) (fun i => ((chgN l m i : Nat) : Int)) _ ?_ ?_ (Nat.zero_le _)
  · intro i _ hi hr
    have hc := chgN_le l m i
    have hw := wrapNat (show i < 4611686018427387904 by omega)
    have hw2 := wrapNat (show chgN l m i < 4611686018427387904 by omega)
    have hj : Ev (fun k => spec_l13Changes.j1 k l m ((chgN l m i : Nat) : Int) (i : Int) true) ((chgN l m (max l.length m.length) : Nat) : Int) := by
      refine evSucc ?_
      simp only [spec_l13Changes.j1, if_true]
      simp only [chgN] at hr
      by_cases a : l.length ≤ i
      · simp only [show (i : Int) ≥ (l.length : Int) by omega, if_true, hw, hw2]
        rw [if_pos (show chgP l m i from Or.inl a)] at hr
        exact hr
      · by_cases b : m.length ≤ i
        · simp only [show ¬ ((i : Int) ≥ (l.length : Int)) by omega, show (i : Int) ≥ (m.length : Int) by omega, if_true, if_false, hw, hw2]
          rw [if_pos (show chgP l m i from Or.inr (Or.inl b))] at hr
          exact hr
        · simp only [show ¬ ((i : Int) ≥ (l.length : Int)) by omega, show ¬ ((i : Int) ≥ (m.length : Int)) by omega, show (0 : Int) ≤ (i : Int) by omega, show (i : Int) < (l.length : Int) by omega, show (i : Int) < (m.length : Int) by omega, if_true, if_false, hw]
          by_cases c : (!(((rd_T60 l (i : Int)).f0) == ((rd_T60 m (i : Int)).f0)) || (!(((rd_T60 l (i : Int)).f1) == ((rd_T60 m (i : Int)).f1)) || (!(((rd_T60 l (i : Int)).f2) == ((rd_T60 m (i : Int)).f2))))) = true
          · rw [if_pos (show chgP l m i from Or.inr (Or.inr c))] at hr
            simp only [c, if_true, hw2]
            exact hr
          · rw [if_neg (show ¬ chgP l m i from fun h => h.elim a fun h => h.elim b c)] at hr
            simp only [c, if_false, Bool.false_eq_true]
            exact hr
    refine evSucc ?_
    by_cases a : l.length ≤ i
    · simp only [spec_l13Changes.l0, show ¬ ((i : Int) < (l.length : Int)) by omega, if_false, show (i : Int) < (m.length : Int) by omega, decide_true]
      exact hj
    · simp only [spec_l13Changes.l0, show (i : Int) < (l.length : Int) by omega, if_true]
      exact hj
  · refine evSucc ?_
    simp only [spec_l13Changes.l0, show ¬ (((max l.length m.length : Nat) : Int) < (l.length : Int)) by omega, show ¬ (((max l.length m.length : Nat) : Int) < (m.length : Int)) by omega, if_false, decide_false]
    refine evSucc ?_
    simp only [spec_l13Changes.j1, Bool.false_eq_true, if_false]
    exact Ev.now _

theorem rd62 (xs : List S62) (i : Nat) (h : i < xs.length) : rd_T62 xs (i : Int) = xs[i] := by
  simp [rd_T62, List.getD_eq_getElem?_getD, List.getElem?_eq_getElem h]

def convUnit (x : S62) : S60 := ⟨x.f0, x.f1, x.f2⟩
theorem toUnitS (l : List S62) (h : l.length ≤ 1048576) : Ev (fun k => laws_toUnitS.f k l) (l.map convUnit) := by
  unfold laws_toUnitS.f
  simp only [Int.toNat_natCast, show (0 : Int) ≤ (l.length : Int) by omega, show l.length ≤ 11728124029610 by omega, if_true]
  have := evCount (fun k s i => laws_toUnitS.l0 k l s i) 0 l.length (fun i => (l.map convUnit).take i ++ List.replicate ((l.map convUnit).length - i) z60) (l.map convUnit) ?_ ?_ (Nat.zero_le _)
  · simpa using this
  · intro i _ hi h
    refine evSucc ?_
    simp only [laws_toUnitS.l0, laws_toUnit.f, Option.bind_some]
    have hm : i < (l.map convUnit).length := by rw [List.length_map]; exact hi
    have hl := fillLen (l.map convUnit) z60 i (by omega)
    have h1 : (i : Int) < (l.length : Int) := by omega
    have h2 : (0 : Int) ≤ (i : Int) := by omega
    have h3 : (i : Int) < (((l.map convUnit).take i ++ List.replicate ((l.map convUnit).length - i) z60).length : Int) := by rw [hl]; omega
    have h4 := fillStep (l.map convUnit) z60 i hm
    rw [List.getElem_map] at h4
    simp only [h1, h2, h3, if_true, Int.toNat_natCast, rd62 l i hi, wrapNat (show i < 4611686018427387904 by omega)]
    simp only [convUnit] at h4
    rw [h4]
    exact h
  · refine evSucc ?_
    simp only [laws_toUnitS.l0, Int.lt_irrefl, if_false]
    simp only [show l.length = (l.map convUnit).length by rw [List.length_map], List.take_length, Nat.sub_self, List.replicate_zero, List.append_nil]
    exact Ev.now _
theorem szUnitS_big (l : List S62) (h : 1048576 < l.length) (hm : l.length * 24 ≤ 140737488351232) : laws_szUnitS.f l 1048576 = some (-1) := by
  unfold laws_szUnitS.f
  rw [wrapIn (by omega) (by omega), if_pos (by omega)]
theorem szUnitS_ok (l : List S62) (h : l.length ≤ 1048576) : laws_szUnitS.f l 1048576 = some (1048576 - (l.length : Int)) := by
  unfold laws_szUnitS.f
  rw [wrapIn (by omega) (by omega), if_neg (by omega)]
theorem szUnitS_bigM (l : List S62) (m : Int) (m0 : 0 ≤ m) (m1 : m ≤ 1048576) (h : m < l.length) (hm : l.length * 24 ≤ 140737488351232) : laws_szUnitS.f l m = some (-1) := by
  unfold laws_szUnitS.f
  rw [wrapIn (by omega) (by omega), if_pos (by omega)]
theorem szUnitS_okM (l : List S62) (m : Int) (m0 : 0 ≤ m) (m1 : m ≤ 1048576) (h : (l.length : Int) ≤ m) : laws_szUnitS.f l m = some (m - (l.length : Int)) := by
  unfold laws_szUnitS.f
  rw [wrapIn (by omega) (by omega), if_neg (by omega)]

theorem eqUnitS (l : List S60) (h : l.length ≤ 1048576) : Ev (fun k => laws_eqUnitS.f k l l) true := by
  unfold laws_eqUnitS.f
  simp only [if_true]
  have he : ∀ x : S60, laws_eqUnit.f x.f0 x.f1 x.f2 x.f0 x.f1 x.f2 = some true := by intro x; simp [laws_eqUnit.f]
  have := evAll (fun k i => laws_eqUnitS.l0 k l l i) 0 l.length (fun _ => True) ?_ (fun i _ hi hn => absurd trivial hn) true ?_ (Nat.zero_le _)
  · simpa [B_true] using this
  · intro i _ hi _ r h
    refine evSucc ?_
    have h1 : (i : Int) < (l.length : Int) := by omega
    have h2 : (0 : Int) ≤ (i : Int) := by omega
    simp only [laws_eqUnitS.l0, h1, h2, if_true, he, Option.bind_some, wrapNat (show i < 4611686018427387904 by omega)]
    exact h
  · refine evSucc ?_
    simp only [laws_eqUnitS.l0, Int.lt_irrefl, if_false]
    exact Ev.now _

theorem rdL3 (xs : List (List S62)) (i : Nat) (h : i < xs.length) : rd_L3 xs (i : Int) = xs[i] := by
  simp [rd_L3, List.getD_eq_getElem?_getD, List.getElem?_eq_getElem h]
theorem rdL5 (xs : List (List S60)) (i : Nat) (h : i < xs.length) : rd_L5 xs (i : Int) = xs[i] := by
  simp [rd_L5, List.getD_eq_getElem?_getD, List.getElem?_eq_getElem h]
theorem szOne (l : List S62) (m : Int) (m0 : 0 ≤ m) (m1 : m ≤ 1048576) (hl : l.length ≤ maxLen) : laws_szUnitS.f l m = some (if m < (l.length : Int) then -1 else m - (l.length : Int)) := by
  have hl' : l.length ≤ 9223372036854775807 := hl
  unfold laws_szUnitS.f
  rw [wrapIn (by omega) (by omega)]
  by_cases h : m < (l.length : Int)
  · rw [if_pos (by omega), if_pos h]
  · rw [if_neg (by omega), if_neg h]
theorem szLoop (l : List (List S62)) (hm : ∀ x ∈ l, x.length ≤ maxLen) (hn : l.length ≤ 1048576) (d : Nat) : ∀ (i : Nat) (m : Int), i + d = l.length → 0 ≤ m → m ≤ 1048576 → ∃ r, Ev (fun k => laws_szUnitSS.l0 k l m (i : Int)) r ∧ (0 ≤ r → ∀ j : Nat, i ≤ j → ∀ h : j < l.length, l[j].length ≤ 1048576) := by
  induction d with
  | zero =>
    intro i m hi h0 _
    refine ⟨m, evSucc ?_, fun _ j h1 h2 => absurd h2 (by omega)⟩
    simp only [laws_szUnitSS.l0, show ¬ ((i : Int) < (l.length : Int)) by omega, if_false]
    exact Ev.now _
  | succ d ih =>
    intro i m hi h0 h1
    have hlt : i < l.length := by omega
    have e := szOne l[i] m h0 h1 (hm _ (List.getElem_mem hlt))
    have hw := wrapNat (show i < 4611686018427387904 by omega)
    by_cases c : m < (l[i].length : Int)
    · rw [if_pos c] at e
      refine ⟨-1, evSucc ?_, fun h => absurd h (by decide)⟩
      simp only [laws_szUnitSS.l0, show (i : Int) < (l.length : Int) by omega, show (0 : Int) ≤ (i : Int) by omega, if_true, rdL3 l i hlt, e, Option.bind_some, show (-1 : Int) < 0 by decide]
      exact Ev.now _
    · rw [if_neg c] at e
      obtain ⟨r, h2, h3⟩ := ih (i + 1) (m - (l[i].length : Int)) (by omega) (by omega) (by omega)
      refine ⟨r, evSucc ?_, fun hr j hj hjl => ?_⟩
      · simp only [laws_szUnitSS.l0, show (i : Int) < (l.length : Int) by omega, show (0 : Int) ≤ (i : Int) by omega, if_true, rdL3 l i hlt, e, Option.bind_some, show ¬ (m - (l[i].length : Int) < 0) by omega, if_false, hw]
        exact h2
      · by_cases ej : j = i
        · subst ej; omega
        · exact h3 hr j (by omega) hjl
theorem szSS (l : List (List S62)) (hl : l.length ≤ maxLen) (hm : ∀ x ∈ l, x.length ≤ maxLen) : ∃ r, Ev (fun k => laws_szUnitSS.f k l 1048576) r ∧ (0 ≤ r → l.length ≤ 1048576 ∧ ∀ x ∈ l, x.length ≤ 1048576) := by
  have hl' : l.length ≤ 9223372036854775807 := hl
  unfold laws_szUnitSS.f
  rw [wrapIn (by omega) (by omega)]
  by_cases h : l.length ≤ 1048576
  · obtain ⟨r, h1, h2⟩ := szLoop l hm h l.length 0 (1048576 - (l.length : Int)) (by omega) (by omega) (by omega)
    refine ⟨r, ?_, fun hr => ⟨h, fun x hx => ?_⟩⟩
    · simp only [show ¬ (1048576 - (l.length : Int) < 0) by omega, if_false]
      exact h1
    · obtain ⟨j, hj, rfl⟩ := List.getElem_of_mem hx
      exact h2 hr j (Nat.zero_le _) hj
  · refine ⟨-1, ?_, fun hr => absurd hr (by decide)⟩
    simp only [show 1048576 - (l.length : Int) < 0 by omega, if_true]
    exact Ev.now _
theorem toUnitSS (l : List (List S62)) (h : l.length ≤ 1048576) (hx : ∀ x ∈ l, x.length ≤ 1048576) : Ev (fun k => laws_toUnitSS.f k l) (l.map fun x : List S62 => x.map convUnit) := by
  unfold laws_toUnitSS.f
  simp only [Int.toNat_natCast, show (0 : Int) ≤ (l.length : Int) by omega, show l.length ≤ 11728124029610 by omega, if_true]
  have := evCount (fun k s i => laws_toUnitSS.l0 k l s i) 0 l.length (fun i => (l.map fun x : List S62 => x.map convUnit).take i ++ List.replicate ((l.map fun x : List S62 => x.map convUnit).length - i) []) (l.map fun x : List S62 => x.map convUnit) ?_ ?_ (Nat.zero_le _)
  · simpa using this
  · intro i _ hi hr
    refine evSucc ?_
    have hm : i < (l.map fun x : List S62 => x.map convUnit).length := by rw [List.length_map]; exact hi
    have hl := fillLen (l.map fun x : List S62 => x.map convUnit) [] i (by omega)
    have h3 : (i : Int) < (((l.map fun x : List S62 => x.map convUnit).take i ++ List.replicate ((l.map fun x : List S62 => x.map convUnit).length - i) []).length : Int) := by rw [hl]; omega
    have h4 := fillStep (l.map fun x : List S62 => x.map convUnit) [] i hm
    rw [List.getElem_map] at h4
    simp only [laws_toUnitSS.l0, show (i : Int) < (l.length : Int) by omega, show (0 : Int) ≤ (i : Int) by omega, if_true, rdL3 l i hi, wrapNat (show i < 4611686018427387904 by omega)]
    refine Ev.bind (toUnitS l[i] (hx _ (List.getElem_mem hi))) ?_
    simp only [h3, if_true, Int.toNat_natCast]
    rw [h4]
    exact hr
  · refine evSucc ?_
    simp only [laws_toUnitSS.l0, Int.lt_irrefl, if_false]
    simp only [show l.length = (l.map fun x : List S62 => x.map convUnit).length by rw [List.length_map], List.take_length, Nat.sub_self, List.replicate_zero, List.append_nil]
    exact Ev.now _
theorem eqUnitSS (l : List (List S60)) (h : l.length ≤ 1048576) (hx : ∀ x ∈ l, x.length ≤ 1048576) : Ev (fun k => laws_eqUnitSS.f k l l) true := by
  unfold laws_eqUnitSS.f
  simp only [if_true]
  have := evAll (fun k i => laws_eqUnitSS.l0 k l l i) 0 l.length (fun _ => True) ?_ (fun i _ hi hn => absurd trivial hn) true ?_ (Nat.zero_le _)
  · simpa [B_true] using this
  · intro i _ hi _ r hr
    refine evSucc ?_
    simp only [laws_eqUnitSS.l0, show (i : Int) < (l.length : Int) by omega, show (0 : Int) ≤ (i : Int) by omega, if_true, rdL5 l i hi, wrapNat (show i < 4611686018427387904 by omega)]
    refine Ev.bind (eqUnitS l[i] (hx _ (List.getElem_mem hi))) ?_
    simp only [if_true]
    exact hr
  · refine evSucc ?_
    simp only [laws_eqUnitSS.l0, Int.lt_irrefl, if_false]
    exact Ev.now _

/-- A loop that leaves at the first place where G fails; what comes after it counts only where none failed. -/
theorem evAllC (F : Nat → Int → Option Bool) (i0 n : Nat) (G : Nat → Prop)
    (hstep : ∀ i, i0 ≤ i → i < n → G i → ∀ r, Ev (fun k => F k ((i + 1 : Nat) : Int)) r → Ev (fun k => F k (i : Int)) r) (hbad : ∀ i, i0 ≤ i → i < n → ¬ G i → Ev (fun k => F k (i : Int)) false) (e : Bool) (hend : (∀ j, i0 ≤ j → j < n → G j) → Ev (fun k => F k (n : Int)) e) (hle : i0 ≤ n) :
    Ev (fun k => F k (i0 : Int)) (B (∀ j, i0 ≤ j → j < n → G j) && e) := by
  have key : ∀ d i, i0 ≤ i → i + d = n → (∀ j, i0 ≤ j → j < i → G j) → Ev (fun k => F k (i : Int)) (B (∀ j, i ≤ j → j < n → G j) && e) := by
    intro d
    induction d with
    | zero =>
      intro i _ hi hp
      have h0 : i = n := by omega
      subst h0
      rw [B_true (fun j h1 h2 => absurd h2 (by omega)), Bool.true_and]
      exact hend hp
    | succ d ih =>
      intro i h0 hi hp
      by_cases hg : G i
      · have h1 : B (∀ j, i ≤ j → j < n → G j) = B (∀ j, i + 1 ≤ j → j < n → G j) := B_congr ⟨fun h j a b => h j (by omega) b, fun h j a b => by
          by_cases e : j = i
          · subst e; exact hg
          · exact h j (by omega) b⟩
        rw [h1]
        exact hstep i h0 (by omega) hg _ (ih (i + 1) (by omega) (by omega) (fun j a b => by
          by_cases e : j = i
          · subst e; exact hg
          · exact hp j a (by omega)))
      · rw [B_false (fun h => hg (h i (Nat.le_refl _) (by omega))), Bool.false_and]
        exact hbad i h0 (by omega) hg
  exact key (n - i0) i0 (Nat.le_refl _) (by omega) (fun j a b => absurd b (by omega))

theorem inI (a b c : Int) : impl_inRange.f a b c = some (decide (b ≤ a ∧ a ≤ c)) := by
  unfold impl_inRange.f
  by_cases h : b ≤ a <;> simp [h]

def seenL (xs : List Int) (i : Nat) : List Bool := (List.range xs.length).map fun (v : Nat) => decide ((v : Int) ∈ xs.take i)
theorem seen_len (xs : List Int) (i : Nat) : (seenL xs i).length = xs.length := by simp [seenL]
theorem seen_get (xs : List Int) (i : Nat) (x : Int) (h0 : 0 ≤ x) (h1 : x < xs.length) : rdOf false (seenL xs i) x = decide (x ∈ xs.take i) := by
  have hx : x.toNat < (seenL xs i).length := by rw [seen_len]; omega
  have e : ((x.toNat : Nat) : Int) = x := by omega
  simp only [rdOf, List.getD_eq_getElem?_getD, List.getElem?_eq_getElem hx, Option.getD_some]
  simp only [seenL, List.getElem_map, List.getElem_range, e]
theorem seen_set (xs : List Int) (i : Nat) (hi : i < xs.length) (h0 : 0 ≤ xs[i]) : (seenL xs i).set xs[i].toNat true = seenL xs (i + 1) := by
  refine List.ext_getElem (by rw [List.length_set, seen_len, seen_len]) fun j h1 h2 => ?_
  rw [List.getElem_set]
  simp only [seenL, List.getElem_map, List.getElem_range, List.take_succ_eq_append_getElem hi, List.mem_append, List.mem_singleton]
  by_cases c : xs[i].toNat = j
  · rw [if_pos c]
    exact (decide_eq_true (Or.inr (by omega))).symm
  · rw [if_neg c]
    have : ¬ ((j : Int) = xs[i]) := by omega
    simp only [this, or_false]
def OrdAt (xs : List Int) (i : Nat) : Prop := (0 ≤ rd xs (i : Int) ∧ rd xs (i : Int) < xs.length) ∧ ¬ rd xs (i : Int) ∈ xs.take i
theorem isOrderI (xs : List Int) : Ev (fun k => impl_IsOrder.f k xs) (decide (xs.length ≤ 64) && B (∀ i, i < xs.length → OrdAt xs i)) := by
  unfold impl_IsOrder.f
  by_cases hl : xs.length ≤ 64
  · simp only [show ¬ ((xs.length : Int) > 64) by omega, if_false, Int.toNat_natCast, show (0 : Int) ≤ (xs.length : Int) by omega, show xs.length ≤ 281474976710656 by omega, if_true, decide_eq_true hl, Bool.true_and]
    have := evAllC (fun k i => impl_IsOrder.l0 k xs (seenL xs i.toNat) xs (xs.length : Int) i) 0 xs.length (OrdAt xs) ?_ ?_ true ?_ (Nat.zero_le _)
    · have e0 : seenL xs 0 = List.replicate xs.length false := by
        refine List.ext_getElem (by rw [seen_len, List.length_replicate]) fun j h1 h2 => ?_
        simp [seenL]
      have e1 : B (∀ j, 0 ≤ j → j < xs.length → OrdAt xs j) = B (∀ i, i < xs.length → OrdAt xs i) := B_congr ⟨fun h j hj => h j (Nat.zero_le _) hj, fun h j _ hj => h j hj⟩
      rw [Bool.and_true, e1] at this
      rw [← e0]
      exact this
    · intro i _ hi hg r hr
      refine evSucc ?_
      obtain ⟨⟨h0, h1⟩, h2⟩ := hg
      have hx : rd xs (i : Int) = xs[i] := rdN xs i hi
      have hw : wrap64 ((xs.length : Int) - 1) = (xs.length : Int) - 1 := wrapIn (by omega) (by omega)
      simp only [impl_IsOrder.l0, Int.toNat_natCast, show (i : Int) < (xs.length : Int) by omega, show (0 : Int) ≤ (i : Int) by omega, if_true, impl_length_int64.f, Option.bind_some, inI, hw, decide_eq_true_eq, show 0 ≤ rd xs (i : Int) ∧ rd xs (i : Int) ≤ (xs.length : Int) - 1 from ⟨h0, by omega⟩, and_self, seen_len, h1, seen_get xs i _ h0 h1, h2, if_false, wrapNat (show i < 4611686018427387904 by omega)]
      rw [hx] at h0 ⊢
      rw [seen_set xs i hi h0]
      simp only [Int.toNat_natCast] at hr
      exact hr
    · intro i _ hi hg
      refine evSucc ?_
      have hw : wrap64 ((xs.length : Int) - 1) = (xs.length : Int) - 1 := wrapIn (by omega) (by omega)
      simp only [impl_IsOrder.l0, Int.toNat_natCast, show (i : Int) < (xs.length : Int) by omega, show (0 : Int) ≤ (i : Int) by omega, if_true, impl_length_int64.f, Option.bind_some, inI, hw, decide_eq_true_eq]
      by_cases h : 0 ≤ rd xs (i : Int) ∧ rd xs (i : Int) ≤ (xs.length : Int) - 1
      · have h2 : rd xs (i : Int) ∈ xs.take i := Classical.byContradiction fun h2 => hg ⟨⟨h.1, by omega⟩, h2⟩
        have h1 : rd xs (i : Int) < (xs.length : Int) := by omega
        simp only [h, and_self, if_true, seen_len, h1, seen_get xs i _ h.1 h1, h2, decide_true]
        exact Ev.now _
      · simp only [h, if_false]
        exact Ev.now _
    · intro _
      refine evSucc ?_
      simp only [impl_IsOrder.l0, Int.lt_irrefl, if_false]
      exact Ev.now _
  · simp only [show (xs.length : Int) > 64 by omega, if_true, hl, decide_false, Bool.false_and]
    exact Ev.now _

theorem hasS (l : List Int) (v : Int) (hl : l.length ≤ 1048576) : Ev (fun k => spec_l01Has.f k l v) (B (v ∈ l)) := by
  unfold spec_l01Has.f
  have key : ∀ d i : Nat, i + d = l.length → Ev (fun k => spec_l01Has.l0 k l v (i : Int)) (B (v ∈ l.drop i)) := by
    intro d
    induction d with
    | zero =>
      intro i hi
      refine evSucc ?_
      rw [List.drop_of_length_le (by omega), B_false (by simp)]
      simp only [spec_l01Has.l0, show ¬ ((i : Int) < (l.length : Int)) by omega, if_false]
      exact Ev.now _
    | succ d ih =>
      intro i hi
      have hlt : i < l.length := by omega
      refine evSucc ?_
      simp only [spec_l01Has.l0, show (i : Int) < (l.length : Int) by omega, show (0 : Int) ≤ (i : Int) by omega, if_true, rdN l i hlt, wrapNat (show i < 4611686018427387904 by omega)]
      rw [List.drop_eq_getElem_cons hlt]
      by_cases c : l[i] = v
      · simp only [c, if_true]
        rw [B_true (by simp)]
        exact Ev.now _
      · simp only [c, if_false]
        have e : B (v ∈ l[i] :: l.drop (i + 1)) = B (v ∈ l.drop (i + 1)) := B_congr (by simp only [List.mem_cons]; exact ⟨fun h => h.resolve_left (fun h => c h.symm), Or.inr⟩)
        rw [e]
        exact ih (i + 1) (by omega)
  simpa using key l.length 0 (by omega)

def setupsV (l : List (List S60)) : Int := if l.any impl_checkSetups.p = true then 1 else if l.length > 7 then 2 else 0
theorem setupsI (l : List (List S60)) : impl_checkSetups.f l = some (setupsV l) := rfl
theorem setupsP (s : List S60) : impl_checkSetups.p s = !setupB s := rfl
theorem setupsS (l : List (List S60)) (h : l.length ≤ 1048576) (hx : ∀ x ∈ l, x.length ≤ 1048576) : Ev (fun k => spec_l13Setups.f k l) (setupsV l) := by
  unfold spec_l13Setups.f
  have key : ∀ d i : Nat, i + d = l.length → Ev (fun k => spec_l13Setups.l0 k l (i : Int)) (if (l.drop i).any impl_checkSetups.p = true then 1 else if l.length > 7 then 2 else 0) := by
    intro d
    induction d with
    | zero =>
      intro i hi
      refine evSucc ?_
      rw [List.drop_of_length_le (by omega)]
      simp only [spec_l13Setups.l0, show ¬ ((i : Int) < (l.length : Int)) by omega, if_false, List.any_nil, Bool.false_eq_true]
      by_cases c : l.length > 7
      · simp only [show (l.length : Int) > 7 by omega, c, if_true]
        exact Ev.now _
      · simp only [show ¬ ((l.length : Int) > 7) by omega, c, if_false]
        exact Ev.now _
    | succ d ih =>
      intro i hi
      have hlt : i < l.length := by omega
      refine evSucc ?_
      simp only [spec_l13Setups.l0, show (i : Int) < (l.length : Int) by omega, show (0 : Int) ≤ (i : Int) by omega, if_true, rdL5 l i hlt, wrapNat (show i < 4611686018427387904 by omega)]
      refine Ev.bind (setupS l[i] (hx _ (List.getElem_mem hlt))) ?_
      rw [List.drop_eq_getElem_cons hlt, List.any_cons, setupsP]
      cases hb : setupB l[i] with
      | true =>
        simp only [if_true, Bool.not_true, Bool.false_or]
        exact ih (i + 1) (by omega)
      | false =>
        simp only [Bool.false_eq_true, if_false, Bool.not_false, Bool.true_or, if_true]
        exact Ev.now _
  have := key l.length 0 (by omega)
  rw [List.drop_zero] at this
  exact this
theorem setups_ok {l : List (List S60)} (h : setupsV l = 0) : l.length ≤ 7 ∧ ∀ x ∈ l, setupB x = true := by
  unfold setupsV at h
  by_cases c : l.any impl_checkSetups.p = true
  · rw [if_pos c] at h
    exact absurd h (by decide)
  · rw [if_neg c] at h
    by_cases c2 : l.length > 7
    · rw [if_pos c2] at h
      exact absurd h (by decide)
    · refine ⟨by omega, fun x hx => ?_⟩
      cases hb : setupB x with
      | true => rfl
      | false =>
        refine absurd (List.any_eq_true.2 ⟨x, hx, ?_⟩) c
        rw [setupsP, hb]
        rfl
noncomputable def orderB (xs : List Int) : Bool := decide (xs.length ≤ 64) && B (∀ i, i < xs.length → OrdAt xs i)
theorem orderS (xs : List Int) (h : xs.length ≤ 1048576) : Ev (fun k => spec_IsOrder.f k xs) (orderB xs) := by
  unfold spec_IsOrder.f orderB
  have hw1 : wrap64 ((xs.length : Int) - 1) = (xs.length : Int) - 1 := wrapIn (by omega) (by omega)
  have ht : ∀ i : Nat, (xs.take i).length ≤ 1048576 := fun i => by rw [List.length_take]; omega
  have := evAll (fun k i => spec_IsOrder.l0 k xs i) 0 xs.length (OrdAt xs) ?_ ?_ (decide ((xs.length : Int) ≤ 64)) ?_ (Nat.zero_le _)
  · have e1 : B (∀ j, 0 ≤ j → j < xs.length → OrdAt xs j) = B (∀ i, i < xs.length → OrdAt xs i) := B_congr ⟨fun h j hj => h j (Nat.zero_le _) hj, fun h j _ hj => h j hj⟩
    rw [e1, Bool.and_comm, show decide ((xs.length : Int) ≤ 64) = decide (xs.length ≤ 64) from decide_eq_decide.2 (by omega)] at this
    exact this
  · intro i _ hi hg r hr
    obtain ⟨⟨h0, h1⟩, h2⟩ := hg
    refine evSucc ?_
    simp only [spec_IsOrder.l0, show (i : Int) < (xs.length : Int) by omega, show (0 : Int) ≤ (i : Int) by omega, if_true, inS, Option.bind_some, decide_eq_true_eq, hw1, show 0 ≤ rd xs (i : Int) ∧ rd xs (i : Int) ≤ (xs.length : Int) - 1 from ⟨h0, by omega⟩, and_self, show (i : Int) ≤ (xs.length : Int) by omega, Int.toNat_natCast, wrapNat (show i < 4611686018427387904 by omega)]
    have hm := hasS (xs.take i) (rd xs (i : Int)) (ht i)
    rw [B_false h2] at hm
    refine Ev.bind hm ?_
    simp only [Bool.false_eq_true, if_false]
    exact hr
  · intro i _ hi hg
    refine evSucc ?_
    simp only [spec_IsOrder.l0, show (i : Int) < (xs.length : Int) by omega, show (0 : Int) ≤ (i : Int) by omega, if_true, inS, Option.bind_some, decide_eq_true_eq, hw1]
    by_cases c : 0 ≤ rd xs (i : Int) ∧ rd xs (i : Int) ≤ (xs.length : Int) - 1
    · have h2 : rd xs (i : Int) ∈ xs.take i := Classical.byContradiction fun h2 => hg ⟨⟨c.1, by omega⟩, h2⟩
      simp only [c, and_self, if_true, show (i : Int) ≤ (xs.length : Int) by omega, Int.toNat_natCast]
      have hm := hasS (xs.take i) (rd xs (i : Int)) (ht i)
      rw [B_true h2] at hm
      refine Ev.bind hm ?_
      simp only [if_true]
      exact Ev.now _
    · simp only [c, if_false]
      exact Ev.now _
  · refine evSucc ?_
    simp only [spec_IsOrder.l0, Int.lt_irrefl, if_false]
    exact Ev.now _
def effP (l : List (List S60)) (xs : List Int) : Nat → List S60
  | 0 => []
  | i + 1 => rd_L5 l (rd xs (i : Int))
def effV (l : List (List S60)) (xs : List Int) : Nat → Int
  | 0 => 0
  | i + 1 => effV l xs i + ((chgN (effP l xs i) (rd_L5 l (rd xs (i : Int))) (max (effP l xs i).length (rd_L5 l (rd xs (i : Int))).length) : Nat) : Int)
structure OkE (l : List (List S60)) (xs : List Int) : Prop where
  len : xs.length ≤ 64
  sets : ∀ x ∈ l, x.length ≤ 6
  at_ : ∀ i : Nat, i < xs.length → 0 ≤ rd xs (i : Int) ∧ rd xs (i : Int) < l.length
theorem effAt {l : List (List S60)} {xs : List Int} (ok : OkE l xs) (i : Nat) (hi : i < xs.length) : (rd_L5 l (rd xs (i : Int))).length ≤ 6 := by
  have h := ok.at_ i hi
  have e := rdL5 l (rd xs (i : Int)).toNat (by omega)
  rw [show (((rd xs (i : Int)).toNat : Nat) : Int) = rd xs (i : Int) by omega] at e
  rw [e]
  exact ok.sets _ (List.getElem_mem _)
theorem effP_len {l : List (List S60)} {xs : List Int} (ok : OkE l xs) : ∀ i : Nat, i ≤ xs.length → (effP l xs i).length ≤ 6
  | 0, _ => by simp [effP]
  | i + 1, hi => effAt ok i (by omega)
theorem effV_in {l : List (List S60)} {xs : List Int} (ok : OkE l xs) : ∀ i : Nat, i ≤ xs.length → 0 ≤ effV l xs i ∧ effV l xs i ≤ 6 * (i : Int)
  | 0, _ => by simp [effV]
  | i + 1, hi => by
    have ih := effV_in ok i (by omega)
    have h1 := effP_len ok i (by omega)
    have h2 := effAt ok i (by omega)
    have h3 := chgN_le (effP l xs i) (rd_L5 l (rd xs (i : Int))) (max (effP l xs i).length (rd_L5 l (rd xs (i : Int))).length)
    simp only [effV]
    omega
theorem effI {l : List (List S60)} {xs : List Int} (ok : OkE l xs) : Ev (fun k => impl_effort.f k l xs) (effV l xs xs.length) := by
  unfold impl_effort.f
  have hx := ok.len
  refine evCount (fun k (s : Int × List S60) i => impl_effort.l0 k l s.1 s.2 xs (xs.length : Int) i) 0 xs.length (fun i => (effV l xs i, effP l xs i)) _ ?_ ?_ (Nat.zero_le _)
  · intro i _ hi hr
    refine evSucc ?_
    have h := ok.at_ i hi
    have h1 := effV_in ok (i + 1) (by omega)
    simp only [impl_effort.l0, show (i : Int) < (xs.length : Int) by omega, show (0 : Int) ≤ (i : Int) by omega, h.1, h.2, if_true, wrapNat (show i < 4611686018427387904 by omega)]
    refine Ev.bind (chgI _ _ (effP_len ok i (by omega)) (effAt ok i hi)) ?_
    simp only [effV] at h1
    rw [wrapIn (by omega) (by omega)]
    exact hr
  · refine evSucc ?_
    simp only [impl_effort.l0, Int.lt_irrefl, if_false]
    exact Ev.now _
theorem effS {l : List (List S60)} {xs : List Int} (ok : OkE l xs) : Ev (fun k => spec_l13Effort.f k l xs) (effV l xs xs.length) := by
  unfold spec_l13Effort.f
  have hx := ok.len
  refine evCount (fun k (s : Int × List S60) i => spec_l13Effort.l0 k l xs s.1 s.2 i) 0 xs.length (fun i => (effV l xs i, effP l xs i)) _ ?_ ?_ (Nat.zero_le _)
  · intro i _ hi hr
    refine evSucc ?_
    have h := ok.at_ i hi
    have h1 := effV_in ok (i + 1) (by omega)
    simp only [spec_l13Effort.l0, show (i : Int) < (xs.length : Int) by omega, show (0 : Int) ≤ (i : Int) by omega, h.1, h.2, if_true, wrapNat (show i < 4611686018427387904 by omega)]
    refine Ev.bind (chgS _ _ (effP_len ok i (by omega)) (effAt ok i hi)) ?_
    simp only [effV] at h1
    rw [wrapIn (by omega) (by omega)]
    exact hr
  · refine evSucc ?_
    simp only [spec_l13Effort.l0, Int.lt_irrefl, if_false]
    exact Ev.now _
theorem effort_both (l : List (List S60)) (xs : List Int) (h : l.length ≤ 1048576) (hx : ∀ x ∈ l, x.length ≤ 1048576) (hs : xs.length ≤ 1048576) : ∃ r, Ev (fun k => spec_EffortOf.f k l xs) r ∧ Ev (fun k => impl_EffortOf.f k l xs) r := by
  unfold spec_EffortOf.f impl_EffortOf.f
  simp only [setupsI, Option.bind_some]
  by_cases hc : setupsV l = 0
  · have hso := setups_ok hc
    by_cases ho : orderB xs = true
    · by_cases he : (xs.length : Int) = (l.length : Int)
      · have ho' := ho
        simp only [orderB, Bool.and_eq_true, decide_eq_true_eq, B_iff] at ho'
        have ok : OkE l xs := ⟨ho'.1, fun x hx => setup_len (hso.2 x hx), fun i hi => ⟨(ho'.2 i hi).1.1, by have := (ho'.2 i hi).1.2; omega⟩⟩
        refine ⟨(effV l xs xs.length, 0), Ev.bind (setupsS l h hx) ?_, ?_⟩
        · simp only [hc, if_true]
          refine Ev.bind (orderS xs hs) ?_
          simp only [ho, if_true]
          refine evSucc ?_
          simp only [spec_EffortOf.j0, bne_iff_ne, ne_eq, he, not_true_eq_false, if_false, if_true]
          exact Ev.bind (effS ok) (Ev.now _)
        · simp only [hc, if_true]
          refine Ev.bind (isOrderI xs) ?_
          rw [show (decide (xs.length ≤ 64) && B (∀ i, i < xs.length → OrdAt xs i)) = true from ho]
          simp only [if_true, he]
          exact Ev.bind (effI ok) (Ev.now _)
      · refine ⟨(0, 2), Ev.bind (setupsS l h hx) ?_, ?_⟩
        · simp only [hc, if_true]
          refine Ev.bind (orderS xs hs) ?_
          simp only [ho, if_true]
          refine evSucc ?_
          simp only [spec_EffortOf.j0, bne_iff_ne.2 he, if_true, show ¬ ((2 : Int) = 0) by decide, if_false]
          exact Ev.now _
        · simp only [hc, if_true]
          refine Ev.bind (isOrderI xs) ?_
          rw [show (decide (xs.length ≤ 64) && B (∀ i, i < xs.length → OrdAt xs i)) = true from ho]
          simp only [if_true, he, if_false]
          exact Ev.now _
    · have ho2 : orderB xs = false := by cases e : orderB xs with | false => rfl | true => exact absurd e ho
      refine ⟨(0, 2), Ev.bind (setupsS l h hx) ?_, ?_⟩
      · simp only [hc, if_true]
        refine Ev.bind (orderS xs hs) ?_
        simp only [ho2, Bool.false_eq_true, if_false]
        refine evSucc ?_
        simp only [spec_EffortOf.j0, if_true, show ¬ ((2 : Int) = 0) by decide, if_false]
        exact Ev.now _
      · simp only [hc, if_true]
        refine Ev.bind (isOrderI xs) ?_
        rw [show (decide (xs.length ≤ 64) && B (∀ i, i < xs.length → OrdAt xs i)) = false from ho2]
        simp only [Bool.false_eq_true, if_false]
        exact Ev.now _
  · refine ⟨(0, setupsV l), Ev.bind (setupsS l h hx) ?_, ?_⟩
    · simp only [hc, if_false]
      refine evSucc ?_
      simp only [spec_EffortOf.j0, Bool.false_eq_true, if_false, hc]
      exact Ev.now _
    · simp only [hc, if_false]
      exact Ev.now _

theorem toInt64S (l : List Int) (h : l.length ≤ 1048576) : Ev (fun k => laws_toInt64S.f k l) l := by
  unfold laws_toInt64S.f
  simp only [Int.toNat_natCast]
  rw [show (fun k => if 0 ≤ (l.length : Int) then (if l.length ≤ 35184372088832 then laws_toInt64S.l0 k l (List.replicate l.length 0) 0 else none) else none) = fun k => laws_toInt64S.l0 k l (List.replicate l.length 0) 0 from by
    funext k; rw [if_pos (by omega), if_pos (by omega)]]
  have := evCount (fun k s i => laws_toInt64S.l0 k l s i) 0 l.length (fun i => l.take i ++ List.replicate (l.length - i) 0) l ?_ ?_ (Nat.zero_le _)
  · simpa using this
  · intro i _ hi h
    refine evSucc ?_
    simp only [laws_toInt64S.l0]
    have hl := fillLen l (0 : Int) i (by omega)
    have h1 : (i : Int) < (l.length : Int) := by omega
    have h2 : (0 : Int) ≤ (i : Int) := by omega
    have h3 : (i : Int) < ((l.take i ++ List.replicate (l.length - i) (0 : Int)).length : Int) := by rw [hl]; omega
    simp only [h1, h2, h3, if_true, Int.toNat_natCast, rdN l i hi, fillStep l 0 i hi, wrapNat (show i < 4611686018427387904 by omega)]
    exact h
  · refine evSucc ?_
    simp only [laws_toInt64S.l0, Int.lt_irrefl, if_false, List.take_length, Nat.sub_self, List.replicate_zero, List.append_nil]
    exact Ev.now _

theorem eqInt64S (l : List Int) (h : l.length ≤ 1048576) : Ev (fun k => laws_eqInt64S.f k l l) true := by
  unfold laws_eqInt64S.f
  simp only [if_true]
  have := evAll (fun k i => laws_eqInt64S.l0 k l l i) 0 l.length (fun _ => True) ?_ (fun i _ hi hn => absurd trivial hn) true ?_ (Nat.zero_le _)
  · simpa [B_true] using this
  · intro i _ hi _ r h
    refine evSucc ?_
    have h1 : (i : Int) < (l.length : Int) := by omega
    have h2 : (0 : Int) ≤ (i : Int) := by omega
    simp only [laws_eqInt64S.l0, h1, h2, if_true, wrapNat (show i < 4611686018427387904 by omega)]
    exact h
  · refine evSucc ?_
    simp only [laws_eqInt64S.l0, Int.lt_irrefl, if_false]
    exact Ev.now _



theorem FnExactEffortOf : laws_FnExactEffortOf.Pure := by
  intro l xs hl0 _ hq _ _ _
  refine Ev.rounds ?_
  unfold laws_FnExactEffortOf.f
  by_cases hh : (xs.length : Int) > 1048576
  · simp only [hh, if_true]
    exact Ev.now _
  · simp only [hh, if_false]
    have hh : xs.length ≤ 1048576 := by omega
    obtain ⟨r, h1, h2⟩ := szSS l hl0 (fun x hx => (hq x hx).1)
    refine Ev.bind h1 ?_
    by_cases c : r < 0
    · simp only [c, if_true]
      exact Ev.now _
    · obtain ⟨hl, hx⟩ := h2 (by omega)
      have hl' : (l.map fun x : List S62 => x.map convUnit).length ≤ 1048576 := by rw [List.length_map]; exact hl
      have hx' : ∀ x ∈ (l.map fun x : List S62 => x.map convUnit), x.length ≤ 1048576 := by
        intro x hm
        obtain ⟨y, hy, rfl⟩ := List.mem_map.1 hm
        rw [List.length_map]
        exact hx y hy
      simp only [c, if_false]
      obtain ⟨v, e1, e2⟩ := effort_both _ xs hl' hx' hh
      refine Ev.bind (toUnitSS l hl hx) (Ev.bind (toInt64S xs hh) (Ev.bind e1 (Ev.bind (toUnitSS l hl hx) (Ev.bind (toInt64S xs hh) (Ev.bind e2 ?_)))))
      simp only [bne_self_eq_false, if_true]
      refine evSucc ?_
      simp only [laws_FnExactEffortOf.j0, Bool.false_eq_true, if_false]
      refine Ev.bind (toUnitSS l hl hx) (Ev.bind (eqUnitSS _ hl' hx') ?_)
      simp only [if_true]
      refine Ev.bind (toInt64S xs hh) (Ev.bind (eqInt64S xs hh) ?_)
      simp only [if_true]
      exact Ev.now _

end Go.Proofs.Ytpndkekgoadjkaa.Pure
