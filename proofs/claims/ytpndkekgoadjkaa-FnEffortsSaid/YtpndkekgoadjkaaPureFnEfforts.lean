/- For every string of at most 4096 bytes: of the drawn sets of units and the drawn order the program and the reference tell the same effort and the same best order; changes count the same both ways and satisfy the triangle inequality through the empty set; the best order's effort is what is told, and the drawn order has no less. -/
import Derived.Test.YtpndkekgoadjkaaSayFnEfforts
namespace Go.Proofs.Ytpndkekgoadjkaa.Pure
open Go.RowKit Go.Proofs.Ytpndkekgoadjkaa.PFnEfforts Go.Proofs.YtpndkekgoadjkaaW.PrintWords Go.Proofs.YtpndkekgoadjkaaW.PrintLast
set_option linter.unusedVariables false
set_option linter.unusedSimpArgs false
-- BEGIN
/-- A proposition as a bool. -/
noncomputable def B (p : Prop) : Bool := @decide p (Classical.propDecidable p)
theorem B_iff {p : Prop} : B p = true ↔ p := by unfold B; exact @decide_eq_true_iff p (Classical.propDecidable p)
theorem B_true {p : Prop} (h : p) : B p = true := B_iff.2 h
theorem B_false {p : Prop} (h : ¬ p) : B p = false := by cases e : B p with | false => rfl | true => exact absurd (B_iff.1 e) h
theorem B_congr {p q : Prop} (h : p ↔ q) : B p = B q := by rw [propext h]
theorem B_dec (p : Prop) [Decidable p] : B p = decide p := by by_cases h : p <;> simp [h, B_true, B_false]
theorem B_and (p q : Prop) : (B p && B q) = B (p ∧ q) := by
  by_cases hp : p <;> by_cases hq : q <;> simp [B_true, B_false, hp, hq]
theorem B_not (p : Prop) : (!B p) = B (¬ p) := by by_cases hp : p <;> simp [B_true, B_false, hp]
theorem evSucc {α : Type} {g : Nat → Option α} {r : α} (h : Ev (fun k => g (k + 1)) r) : Ev g r := Ev.step (fun _ => rfl) h
theorem evNow {α : Type} {g : Nat → Option α} {r : α} (h : ∀ k, g k = some r) : Ev g r := ⟨0, fun k _ => h k⟩
theorem evCount {σ α : Type} (F : Nat → σ → Int → Option α) (i0 n : Nat) (S : Nat → σ) (r : α)
    (hstep : ∀ i, i0 ≤ i → i < n → Ev (fun k => F k (S (i + 1)) ((i + 1 : Nat) : Int)) r → Ev (fun k => F k (S i) (i : Int)) r) (hend : Ev (fun k => F k (S n) (n : Int)) r) (hle : i0 ≤ n) : Ev (fun k => F k (S i0) (i0 : Int)) r := by
  have key : ∀ d i, i0 ≤ i → i + d = n → Ev (fun k => F k (S i) (i : Int)) r := by
    intro d
    induction d with
    | zero =>
      intro i _ hi
      have h0 : i = n := by omega
      subst h0
      exact hend
    | succ d ih => intro i h0 hi; exact hstep i h0 (by omega) (ih (i + 1) (by omega) (by omega))
  exact key (n - i0) i0 (Nat.le_refl _) (by omega)
/-- A loop that leaves at the first place where G fails. -/
theorem evAll (F : Nat → Int → Option Bool) (i0 n : Nat) (G : Nat → Prop)
    (hstep : ∀ i, i0 ≤ i → i < n → G i → ∀ r, Ev (fun k => F k ((i + 1 : Nat) : Int)) r → Ev (fun k => F k (i : Int)) r) (hbad : ∀ i, i0 ≤ i → i < n → ¬ G i → Ev (fun k => F k (i : Int)) false) (e : Bool) (hend : Ev (fun k => F k (n : Int)) e) (hle : i0 ≤ n) :
    Ev (fun k => F k (i0 : Int)) (B (∀ j, i0 ≤ j → j < n → G j) && e) := by
  have key : ∀ d i, i0 ≤ i → i + d = n → Ev (fun k => F k (i : Int)) (B (∀ j, i ≤ j → j < n → G j) && e) := by
    intro d
    induction d with
    | zero =>
      intro i _ hi
      have h0 : i = n := by omega
      subst h0
      rw [B_true (fun j h1 h2 => absurd h2 (by omega)), Bool.true_and]
      exact hend
    | succ d ih =>
      intro i h0 hi
      by_cases hg : G i
      · have h1 : B (∀ j, i ≤ j → j < n → G j) = B (∀ j, i + 1 ≤ j → j < n → G j) := B_congr ⟨fun h j a b => h j (by omega) b, fun h j a b => by
          by_cases e : j = i
          · subst e; exact hg
          · exact h j (by omega) b⟩
        rw [h1]
        exact hstep i h0 (by omega) hg _ (ih (i + 1) (by omega) (by omega))
      · rw [B_false (fun h => hg (h i (Nat.le_refl _) (by omega))), Bool.false_and]
        exact hbad i h0 (by omega) hg
  exact key (n - i0) i0 (Nat.le_refl _) (by omega)
theorem wrapNat {i : Nat} (h : i < 4611686018427387904) : wrap64 ((i : Int) + 1) = ((i + 1 : Nat) : Int) := by
  unfold wrap64; omega
theorem wrapPred {i : Nat} (h0 : 1 ≤ i) (h : i < 4611686018427387904) : wrap64 ((i : Int) - 1) = ((i - 1 : Nat) : Int) := by
  unfold wrap64; omega
theorem rdN (xs : List Int) (i : Nat) (h : i < xs.length) : rd xs (i : Int) = xs[i] := by
  simp [rd, List.getD_eq_getElem?_getD, List.getElem?_eq_getElem h]
theorem fillStep {α : Type} (xs : List α) (z : α) (i : Nat) (h : i < xs.length) : (xs.take i ++ List.replicate (xs.length - i) z).set i xs[i] = xs.take (i + 1) ++ List.replicate (xs.length - (i + 1)) z := by
  have h1 : xs.length - i = (xs.length - (i + 1)) + 1 := by omega
  rw [h1, List.replicate_succ, List.set_append_right _ _ (by rw [List.length_take]; omega)]
  rw [List.length_take, Nat.min_eq_left (by omega), Nat.sub_self, List.set_cons_zero, List.take_succ_eq_append_getElem h, List.append_assoc]
  rfl
theorem fillLen {α : Type} (xs : List α) (z : α) (i : Nat) (h : i ≤ xs.length) : (xs.take i ++ List.replicate (xs.length - i) z).length = xs.length := by
  simp; omega

theorem inS (a b c : Int) : spec_l01In.f a b c = some (decide (b ≤ a ∧ a ≤ c)) := by
  unfold spec_l01In.f
  by_cases h : b ≤ a <;> simp [h]

theorem rd60 (xs : List S60) (i : Nat) (h : i < xs.length) : rd_T60 xs (i : Int) = xs[i] := by
  simp [rd_T60, List.getD_eq_getElem?_getD, List.getElem?_eq_getElem h]

def setupB (l : List S60) : Bool := decide (l.length ≤ 6) && l.all fun u => decide (0 ≤ u.f1 ∧ u.f1 ≤ 1000000000)
theorem setupI (l : List S60) : impl_isSetup.f l = some (setupB l) := rfl
theorem setupS (l : List S60) (h : l.length ≤ 1048576) : Ev (fun k => spec_l13Setup.f k l) (setupB l) := by
  unfold spec_l13Setup.f
  have := evAll (fun k i => spec_l13Setup.l0 k l i) 0 l.length (fun i => 0 ≤ (rd_T60 l (i : Int)).f1 ∧ (rd_T60 l (i : Int)).f1 ≤ 1000000000) ?_ ?_ (decide ((l.length : Int) ≤ 6)) ?_ (Nat.zero_le _)
  · have e : setupB l = (B (∀ j, 0 ≤ j → j < l.length → 0 ≤ (rd_T60 l (j : Int)).f1 ∧ (rd_T60 l (j : Int)).f1 ≤ 1000000000) && decide ((l.length : Int) ≤ 6)) := by
      unfold setupB
      rw [Bool.and_comm]
      congr 1
      · rw [Bool.eq_iff_iff, B_iff, List.all_eq_true]
        refine ⟨fun hx j _ hj => ?_, fun hx u hu => ?_⟩
        · have := hx l[j] (List.getElem_mem hj)
          rw [rd60 l j hj]
          exact of_decide_eq_true this
        · obtain ⟨j, hj, rfl⟩ := List.getElem_of_mem hu
          have := hx j (Nat.zero_le _) hj
          rw [rd60 l j hj] at this
          exact decide_eq_true this
      · exact decide_eq_decide.2 (by omega)
    rw [e]
    exact this
  · intro i _ hi hg r hr
    refine evSucc ?_
    simp only [spec_l13Setup.l0, show (i : Int) < (l.length : Int) by omega, show (0 : Int) ≤ (i : Int) by omega, if_true, inS, Option.bind_some, decide_eq_true_eq, hg, and_self, wrapNat (show i < 4611686018427387904 by omega)]
    exact hr
  · intro i _ hi hg
    refine evSucc ?_
    simp only [spec_l13Setup.l0, show (i : Int) < (l.length : Int) by omega, show (0 : Int) ≤ (i : Int) by omega, if_true, inS, Option.bind_some, decide_eq_true_eq, hg, if_false]
    exact Ev.now _
  · refine evSucc ?_
    simp only [spec_l13Setup.l0, Int.lt_irrefl, if_false]
    exact Ev.now _
theorem setup_len {l : List S60} (h : setupB l = true) : l.length ≤ 6 := by
  simp only [setupB, Bool.and_eq_true, decide_eq_true_eq] at h
  exact h.1

theorem wrapIn {x : Int} (h0 : -9223372036854775808 ≤ x) (h1 : x ≤ 9223372036854775807) : wrap64 x = x := by
  unfold wrap64; omega

def chgP (l m : List S60) (i : Nat) : Prop := l.length ≤ i ∨ m.length ≤ i ∨ (!(((rd_T60 l (i : Int)).f0) == ((rd_T60 m (i : Int)).f0)) || (!(((rd_T60 l (i : Int)).f1) == ((rd_T60 m (i : Int)).f1)) || (!(((rd_T60 l (i : Int)).f2) == ((rd_T60 m (i : Int)).f2))))) = true
instance (l m : List S60) (i : Nat) : Decidable (chgP l m i) := by unfold chgP; exact inferInstance
def chgN (l m : List S60) : Nat → Nat
  | 0 => 0
  | i + 1 => chgN l m i + (if chgP l m i then 1 else 0)
theorem chgN_le (l m : List S60) : ∀ i : Nat, chgN l m i ≤ i
  | 0 => Nat.le_refl _
  | i + 1 => by
    have := chgN_le l m i
    simp only [chgN]
    split <;> omega
theorem chgI (l m : List S60) (hl : l.length ≤ 6) (hm : m.length ≤ 6) : Ev (fun k => impl_changes.f k l m) ((chgN l m (max l.length m.length) : Nat) : Int) := by
  unfold impl_changes.f
  have e : mx (l.length : Int) (m.length : Int) = ((max l.length m.length : Nat) : Int) := by
    unfold mx
    split <;> omega
  rw [e]
  refine evCount (fun k (s : Int) i => impl_changes.l0 k l m s ((max l.length m.length : Nat) : Int) i) 0 (max l.length m.length) (fun i => ((chgN l m i : Nat) : Int)) _ ?_ ?_ (Nat.zero_le _)
  · intro i _ hi hr
    refine evSucc ?_
    have hc := chgN_le l m i
    have hw := wrapNat (show i < 4611686018427387904 by omega)
    have hw2 := wrapNat (show chgN l m i < 4611686018427387904 by omega)
    have hw3 : wrap64 (((chgN l m i : Nat) : Int) + 0) = ((chgN l m i : Nat) : Int) := by rw [Int.add_zero]; exact wrapIn (by omega) (by omega)
    simp only [impl_changes.l0, show (i : Int) < ((max l.length m.length : Nat) : Int) by omega, if_true, impl_toInt.f, Option.bind_some]
    simp only [chgN] at hr
    by_cases a : l.length ≤ i
    · simp only [show (i : Int) ≥ (l.length : Int) by omega, if_true, hw, hw2]
      rw [if_pos (show chgP l m i from Or.inl a)] at hr
      exact hr
    · by_cases b : m.length ≤ i
      · simp only [show ¬ ((i : Int) ≥ (l.length : Int)) by omega, show (i : Int) ≥ (m.length : Int) by omega, if_true, if_false, hw, hw2]
        rw [if_pos (show chgP l m i from Or.inr (Or.inl b))] at hr
        exact hr
      · simp only [show ¬ ((i : Int) ≥ (l.length : Int)) by omega, show ¬ ((i : Int) ≥ (m.length : Int)) by omega, show (0 : Int) ≤ (i : Int) by omega, show (i : Int) < (l.length : Int) by omega, show (i : Int) < (m.length : Int) by omega, if_true, if_false, hw]
        by_cases c : (!(((rd_T60 l (i : Int)).f0) == ((rd_T60 m (i : Int)).f0)) || (!(((rd_T60 l (i : Int)).f1) == ((rd_T60 m (i : Int)).f1)) || (!(((rd_T60 l (i : Int)).f2) == ((rd_T60 m (i : Int)).f2))))) = true
        · rw [if_pos (show chgP l m i from Or.inr (Or.inr c))] at hr
          simp only [c, if_true, Option.bind_some, hw2]
          exact hr
        · rw [if_neg (show ¬ chgP l m i from fun h => h.elim a fun h => h.elim b c)] at hr
          simp only [c, if_false, Bool.false_eq_true, Option.bind_some, hw3]
          exact hr
  · refine evSucc ?_
    simp only [impl_changes.l0, Int.lt_irrefl, if_false]
    exact Ev.now _
theorem chgS (l m : List S60) (hl : l.length ≤ 6) (hm : m.length ≤ 6) : Ev (fun k => spec_l13Changes.f k l m) ((chgN l m (max l.length m.length) : Nat) : Int) := by
  unfold spec_l13Changes.f
  refine evCount (fun k (s : Int) i => spec_l13Changes.l0 k l m s i) 0 (max l.length m.length) (fun i => ((chgN l m i : Nat) : Int)) _ ?_ ?_ (Nat.zero_le _)
  · intro i _ hi hr
    have hc := chgN_le l m i
    have hw := wrapNat (show i < 4611686018427387904 by omega)
    have hw2 := wrapNat (show chgN l m i < 4611686018427387904 by omega)
    have hj : Ev (fun k => spec_l13Changes.j1 k l m ((chgN l m i : Nat) : Int) (i : Int) true) ((chgN l m (max l.length m.length) : Nat) : Int) := by
      refine evSucc ?_
      simp only [spec_l13Changes.j1, if_true]
      simp only [chgN] at hr
      by_cases a : l.length ≤ i
      · simp only [show (i : Int) ≥ (l.length : Int) by omega, if_true, hw, hw2]
        rw [if_pos (show chgP l m i from Or.inl a)] at hr
        exact hr
      · by_cases b : m.length ≤ i
        · simp only [show ¬ ((i : Int) ≥ (l.length : Int)) by omega, show (i : Int) ≥ (m.length : Int) by omega, if_true, if_false, hw, hw2]
          rw [if_pos (show chgP l m i from Or.inr (Or.inl b))] at hr
          exact hr
        · simp only [show ¬ ((i : Int) ≥ (l.length : Int)) by omega, show ¬ ((i : Int) ≥ (m.length : Int)) by omega, show (0 : Int) ≤ (i : Int) by omega, show (i : Int) < (l.length : Int) by omega, show (i : Int) < (m.length : Int) by omega, if_true, if_false, hw]
          by_cases c : (!(((rd_T60 l (i : Int)).f0) == ((rd_T60 m (i : Int)).f0)) || (!(((rd_T60 l (i : Int)).f1) == ((rd_T60 m (i : Int)).f1)) || (!(((rd_T60 l (i : Int)).f2) == ((rd_T60 m (i : Int)).f2))))) = true
          · rw [if_pos (show chgP l m i from Or.inr (Or.inr c))] at hr
            simp only [c, if_true, hw2]
            exact hr
          · rw [if_neg (show ¬ chgP l m i from fun h => h.elim a fun h => h.elim b c)] at hr
            simp only [c, if_false, Bool.false_eq_true]
            exact hr
    refine evSucc ?_
    by_cases a : l.length ≤ i
    · simp only [spec_l13Changes.l0, show ¬ ((i : Int) < (l.length : Int)) by omega, if_false, show (i : Int) < (m.length : Int) by omega, decide_true]
      exact hj
    · simp only [spec_l13Changes.l0, show (i : Int) < (l.length : Int) by omega, if_true]
      exact hj
  · refine evSucc ?_
    simp only [spec_l13Changes.l0, show ¬ (((max l.length m.length : Nat) : Int) < (l.length : Int)) by omega, show ¬ (((max l.length m.length : Nat) : Int) < (m.length : Int)) by omega, if_false, decide_false]
    refine evSucc ?_
    simp only [spec_l13Changes.j1, Bool.false_eq_true, if_false]
    exact Ev.now _

theorem rdL5 (xs : List (List S60)) (i : Nat) (h : i < xs.length) : rd_L3 xs (i : Int) = xs[i] := by
  simp [rd_L3, List.getD_eq_getElem?_getD, List.getElem?_eq_getElem h]

/-- A loop that leaves at the first place where G fails; what comes after it counts only where none failed. -/
theorem evAllC (F : Nat → Int → Option Bool) (i0 n : Nat) (G : Nat → Prop)
    (hstep : ∀ i, i0 ≤ i → i < n → G i → ∀ r, Ev (fun k => F k ((i + 1 : Nat) : Int)) r → Ev (fun k => F k (i : Int)) r) (hbad : ∀ i, i0 ≤ i → i < n → ¬ G i → Ev (fun k => F k (i : Int)) false) (e : Bool) (hend : (∀ j, i0 ≤ j → j < n → G j) → Ev (fun k => F k (n : Int)) e) (hle : i0 ≤ n) :
    Ev (fun k => F k (i0 : Int)) (B (∀ j, i0 ≤ j → j < n → G j) && e) := by
  have key : ∀ d i, i0 ≤ i → i + d = n → (∀ j, i0 ≤ j → j < i → G j) → Ev (fun k => F k (i : Int)) (B (∀ j, i ≤ j → j < n → G j) && e) := by
    intro d
    induction d with
    | zero =>
      intro i _ hi hp
      have h0 : i = n := by omega
      subst h0
      rw [B_true (fun j h1 h2 => absurd h2 (by omega)), Bool.true_and]
      exact hend hp
    | succ d ih =>
      intro i h0 hi hp
      by_cases hg : G i
      · have h1 : B (∀ j, i ≤ j → j < n → G j) = B (∀ j, i + 1 ≤ j → j < n → G j) := B_congr ⟨fun h j a b => h j (by omega) b, fun h j a b => by
          by_cases e : j = i
          · subst e; exact hg
          · exact h j (by omega) b⟩
        rw [h1]
        exact hstep i h0 (by omega) hg _ (ih (i + 1) (by omega) (by omega) (fun j a b => by
          by_cases e : j = i
          · subst e; exact hg
          · exact hp j a (by omega)))
      · rw [B_false (fun h => hg (h i (Nat.le_refl _) (by omega))), Bool.false_and]
        exact hbad i h0 (by omega) hg
  exact key (n - i0) i0 (Nat.le_refl _) (by omega) (fun j a b => absurd b (by omega))

theorem inI (a b c : Int) : impl_inRange.f a b c = some (decide (b ≤ a ∧ a ≤ c)) := by
  unfold impl_inRange.f
  by_cases h : b ≤ a <;> simp [h]

def seenL (xs : List Int) (i : Nat) : List Bool := (List.range xs.length).map fun (v : Nat) => decide ((v : Int) ∈ xs.take i)
theorem seen_len (xs : List Int) (i : Nat) : (seenL xs i).length = xs.length := by simp [seenL]
theorem seen_get (xs : List Int) (i : Nat) (x : Int) (h0 : 0 ≤ x) (h1 : x < xs.length) : rdOf false (seenL xs i) x = decide (x ∈ xs.take i) := by
  have hx : x.toNat < (seenL xs i).length := by rw [seen_len]; omega
  have e : ((x.toNat : Nat) : Int) = x := by omega
  simp only [rdOf, List.getD_eq_getElem?_getD, List.getElem?_eq_getElem hx, Option.getD_some]
  simp only [seenL, List.getElem_map, List.getElem_range, e]
theorem seen_set (xs : List Int) (i : Nat) (hi : i < xs.length) (h0 : 0 ≤ xs[i]) : (seenL xs i).set xs[i].toNat true = seenL xs (i + 1) := by
  refine List.ext_getElem (by rw [List.length_set, seen_len, seen_len]) fun j h1 h2 => ?_
  rw [List.getElem_set]
  simp only [seenL, List.getElem_map, List.getElem_range, List.take_succ_eq_append_getElem hi, List.mem_append, List.mem_singleton]
  by_cases c : xs[i].toNat = j
  · rw [if_pos c]
    exact (decide_eq_true (Or.inr (by omega))).symm
  · rw [if_neg c]
    have : ¬ ((j : Int) = xs[i]) := by omega
    simp only [this, or_false]
def OrdAt (xs : List Int) (i : Nat) : Prop := (0 ≤ rd xs (i : Int) ∧ rd xs (i : Int) < xs.length) ∧ ¬ rd xs (i : Int) ∈ xs.take i
theorem isOrderI (xs : List Int) : Ev (fun k => impl_IsOrder.f k xs) (decide (xs.length ≤ 64) && B (∀ i, i < xs.length → OrdAt xs i)) := by
  unfold impl_IsOrder.f
  by_cases hl : xs.length ≤ 64
  · simp only [show ¬ ((xs.length : Int) > 64) by omega, if_false, Int.toNat_natCast, show (0 : Int) ≤ (xs.length : Int) by omega, show xs.length ≤ 281474976710656 by omega, if_true, decide_eq_true hl, Bool.true_and]
    have := evAllC (fun k i => impl_IsOrder.l0 k xs (seenL xs i.toNat) xs (xs.length : Int) i) 0 xs.length (OrdAt xs) ?_ ?_ true ?_ (Nat.zero_le _)
    · have e0 : seenL xs 0 = List.replicate xs.length false := by
        refine List.ext_getElem (by rw [seen_len, List.length_replicate]) fun j h1 h2 => ?_
        simp [seenL]
      have e1 : B (∀ j, 0 ≤ j → j < xs.length → OrdAt xs j) = B (∀ i, i < xs.length → OrdAt xs i) := B_congr ⟨fun h j hj => h j (Nat.zero_le _) hj, fun h j _ hj => h j hj⟩
      rw [Bool.and_true, e1] at this
      rw [← e0]
      exact this
    · intro i _ hi hg r hr
      refine evSucc ?_
      obtain ⟨⟨h0, h1⟩, h2⟩ := hg
      have hx : rd xs (i : Int) = xs[i] := rdN xs i hi
      have hw : wrap64 ((xs.length : Int) - 1) = (xs.length : Int) - 1 := wrapIn (by omega) (by omega)
      simp only [impl_IsOrder.l0, Int.toNat_natCast, show (i : Int) < (xs.length : Int) by omega, show (0 : Int) ≤ (i : Int) by omega, if_true, impl_length_int64.f, Option.bind_some, inI, hw, decide_eq_true_eq, show 0 ≤ rd xs (i : Int) ∧ rd xs (i : Int) ≤ (xs.length : Int) - 1 from ⟨h0, by omega⟩, and_self, seen_len, h1, seen_get xs i _ h0 h1, h2, if_false, wrapNat (show i < 4611686018427387904 by omega)]
      rw [hx] at h0 ⊢
      rw [seen_set xs i hi h0]
      simp only [Int.toNat_natCast] at hr
      exact hr
    · intro i _ hi hg
      refine evSucc ?_
      have hw : wrap64 ((xs.length : Int) - 1) = (xs.length : Int) - 1 := wrapIn (by omega) (by omega)
      simp only [impl_IsOrder.l0, Int.toNat_natCast, show (i : Int) < (xs.length : Int) by omega, show (0 : Int) ≤ (i : Int) by omega, if_true, impl_length_int64.f, Option.bind_some, inI, hw, decide_eq_true_eq]
      by_cases h : 0 ≤ rd xs (i : Int) ∧ rd xs (i : Int) ≤ (xs.length : Int) - 1
      · have h2 : rd xs (i : Int) ∈ xs.take i := Classical.byContradiction fun h2 => hg ⟨⟨h.1, by omega⟩, h2⟩
        have h1 : rd xs (i : Int) < (xs.length : Int) := by omega
        simp only [h, and_self, if_true, seen_len, h1, seen_get xs i _ h.1 h1, h2, decide_true]
        exact Ev.now _
      · simp only [h, if_false]
        exact Ev.now _
    · intro _
      refine evSucc ?_
      simp only [impl_IsOrder.l0, Int.lt_irrefl, if_false]
      exact Ev.now _
  · simp only [show (xs.length : Int) > 64 by omega, if_true, hl, decide_false, Bool.false_and]
    exact Ev.now _

theorem hasS (l : List Int) (v : Int) (hl : l.length ≤ 1048576) : Ev (fun k => spec_l01Has.f k l v) (B (v ∈ l)) := by
  unfold spec_l01Has.f
  have key : ∀ d i : Nat, i + d = l.length → Ev (fun k => spec_l01Has.l0 k l v (i : Int)) (B (v ∈ l.drop i)) := by
    intro d
    induction d with
    | zero =>
      intro i hi
      refine evSucc ?_
      rw [List.drop_of_length_le (by omega), B_false (by simp)]
      simp only [spec_l01Has.l0, show ¬ ((i : Int) < (l.length : Int)) by omega, if_false]
      exact Ev.now _
    | succ d ih =>
      intro i hi
      have hlt : i < l.length := by omega
      refine evSucc ?_
      simp only [spec_l01Has.l0, show (i : Int) < (l.length : Int) by omega, show (0 : Int) ≤ (i : Int) by omega, if_true, rdN l i hlt, wrapNat (show i < 4611686018427387904 by omega)]
      rw [List.drop_eq_getElem_cons hlt]
      by_cases c : l[i] = v
      · simp only [c, if_true]
        rw [B_true (by simp)]
        exact Ev.now _
      · simp only [c, if_false]
        have e : B (v ∈ l[i] :: l.drop (i + 1)) = B (v ∈ l.drop (i + 1)) := B_congr (by simp only [List.mem_cons]; exact ⟨fun h => h.resolve_left (fun h => c h.symm), Or.inr⟩)
        rw [e]
        exact ih (i + 1) (by omega)
  simpa using key l.length 0 (by omega)

def setupsV (l : List (List S60)) : Int := if l.any impl_checkSetups.p = true then 1 else if l.length > 7 then 2 else 0
theorem setupsI (l : List (List S60)) : impl_checkSetups.f l = some (setupsV l) := rfl
theorem setupsP (s : List S60) : impl_checkSetups.p s = !setupB s := rfl
theorem setupsS (l : List (List S60)) (h : l.length ≤ 1048576) (hx : ∀ x ∈ l, x.length ≤ 1048576) : Ev (fun k => spec_l13Setups.f k l) (setupsV l) := by
  unfold spec_l13Setups.f
  have key : ∀ d i : Nat, i + d = l.length → Ev (fun k => spec_l13Setups.l0 k l (i : Int)) (if (l.drop i).any impl_checkSetups.p = true then 1 else if l.length > 7 then 2 else 0) := by
    intro d
    induction d with
    | zero =>
      intro i hi
      refine evSucc ?_
      rw [List.drop_of_length_le (by omega)]
      simp only [spec_l13Setups.l0, show ¬ ((i : Int) < (l.length : Int)) by omega, if_false, List.any_nil, Bool.false_eq_true]
      by_cases c : l.length > 7
      · simp only [show (l.length : Int) > 7 by omega, c, if_true]
        exact Ev.now _
      · simp only [show ¬ ((l.length : Int) > 7) by omega, c, if_false]
        exact Ev.now _
    | succ d ih =>
      intro i hi
      have hlt : i < l.length := by omega
      refine evSucc ?_
      simp only [spec_l13Setups.l0, show (i : Int) < (l.length : Int) by omega, show (0 : Int) ≤ (i : Int) by omega, if_true, rdL5 l i hlt, wrapNat (show i < 4611686018427387904 by omega)]
      refine Ev.bind (setupS l[i] (hx _ (List.getElem_mem hlt))) ?_
      rw [List.drop_eq_getElem_cons hlt, List.any_cons, setupsP]
      cases hb : setupB l[i] with
      | true =>
        simp only [if_true, Bool.not_true, Bool.false_or]
        exact ih (i + 1) (by omega)
      | false =>
        simp only [Bool.false_eq_true, if_false, Bool.not_false, Bool.true_or, if_true]
        exact Ev.now _
  have := key l.length 0 (by omega)
  rw [List.drop_zero] at this
  exact this
theorem setups_ok {l : List (List S60)} (h : setupsV l = 0) : l.length ≤ 7 ∧ ∀ x ∈ l, setupB x = true := by
  unfold setupsV at h
  by_cases c : l.any impl_checkSetups.p = true
  · rw [if_pos c] at h
    exact absurd h (by decide)
  · rw [if_neg c] at h
    by_cases c2 : l.length > 7
    · rw [if_pos c2] at h
      exact absurd h (by decide)
    · refine ⟨by omega, fun x hx => ?_⟩
      cases hb : setupB x with
      | true => rfl
      | false =>
        refine absurd (List.any_eq_true.2 ⟨x, hx, ?_⟩) c
        rw [setupsP, hb]
        rfl
noncomputable def orderB (xs : List Int) : Bool := decide (xs.length ≤ 64) && B (∀ i, i < xs.length → OrdAt xs i)
theorem orderS (xs : List Int) (h : xs.length ≤ 1048576) : Ev (fun k => spec_IsOrder.f k xs) (orderB xs) := by
  unfold spec_IsOrder.f orderB
  have hw1 : wrap64 ((xs.length : Int) - 1) = (xs.length : Int) - 1 := wrapIn (by omega) (by omega)
  have ht : ∀ i : Nat, (xs.take i).length ≤ 1048576 := fun i => by rw [List.length_take]; omega
  have := evAll (fun k i => spec_IsOrder.l0 k xs i) 0 xs.length (OrdAt xs) ?_ ?_ (decide ((xs.length : Int) ≤ 64)) ?_ (Nat.zero_le _)
  · have e1 : B (∀ j, 0 ≤ j → j < xs.length → OrdAt xs j) = B (∀ i, i < xs.length → OrdAt xs i) := B_congr ⟨fun h j hj => h j (Nat.zero_le _) hj, fun h j _ hj => h j hj⟩
    rw [e1, Bool.and_comm, show decide ((xs.length : Int) ≤ 64) = decide (xs.length ≤ 64) from decide_eq_decide.2 (by omega)] at this
    exact this
  · intro i _ hi hg r hr
    obtain ⟨⟨h0, h1⟩, h2⟩ := hg
    refine evSucc ?_
    simp only [spec_IsOrder.l0, show (i : Int) < (xs.length : Int) by omega, show (0 : Int) ≤ (i : Int) by omega, if_true, inS, Option.bind_some, decide_eq_true_eq, hw1, show 0 ≤ rd xs (i : Int) ∧ rd xs (i : Int) ≤ (xs.length : Int) - 1 from ⟨h0, by omega⟩, and_self, show (i : Int) ≤ (xs.length : Int) by omega, Int.toNat_natCast, wrapNat (show i < 4611686018427387904 by omega)]
    have hm := hasS (xs.take i) (rd xs (i : Int)) (ht i)
    rw [B_false h2] at hm
    refine Ev.bind hm ?_
    simp only [Bool.false_eq_true, if_false]
    exact hr
  · intro i _ hi hg
    refine evSucc ?_
    simp only [spec_IsOrder.l0, show (i : Int) < (xs.length : Int) by omega, show (0 : Int) ≤ (i : Int) by omega, if_true, inS, Option.bind_some, decide_eq_true_eq, hw1]
    by_cases c : 0 ≤ rd xs (i : Int) ∧ rd xs (i : Int) ≤ (xs.length : Int) - 1
    · have h2 : rd xs (i : Int) ∈ xs.take i := Classical.byContradiction fun h2 => hg ⟨⟨c.1, by omega⟩, h2⟩
      simp only [c, and_self, if_true, show (i : Int) ≤ (xs.length : Int) by omega, Int.toNat_natCast]
      have hm := hasS (xs.take i) (rd xs (i : Int)) (ht i)
      rw [B_true h2] at hm
      refine Ev.bind hm ?_
      simp only [if_true]
      exact Ev.now _
    · simp only [c, if_false]
      exact Ev.now _
  · refine evSucc ?_
    simp only [spec_IsOrder.l0, Int.lt_irrefl, if_false]
    exact Ev.now _
def effP (l : List (List S60)) (xs : List Int) : Nat → List S60
  | 0 => []
  | i + 1 => rd_L3 l (rd xs (i : Int))
def effV (l : List (List S60)) (xs : List Int) : Nat → Int
  | 0 => 0
  | i + 1 => effV l xs i + ((chgN (effP l xs i) (rd_L3 l (rd xs (i : Int))) (max (effP l xs i).length (rd_L3 l (rd xs (i : Int))).length) : Nat) : Int)
structure OkE (l : List (List S60)) (xs : List Int) : Prop where
  len : xs.length ≤ 64
  sets : ∀ x ∈ l, x.length ≤ 6
  at_ : ∀ i : Nat, i < xs.length → 0 ≤ rd xs (i : Int) ∧ rd xs (i : Int) < l.length
theorem effAt {l : List (List S60)} {xs : List Int} (ok : OkE l xs) (i : Nat) (hi : i < xs.length) : (rd_L3 l (rd xs (i : Int))).length ≤ 6 := by
  have h := ok.at_ i hi
  have e := rdL5 l (rd xs (i : Int)).toNat (by omega)
  rw [show (((rd xs (i : Int)).toNat : Nat) : Int) = rd xs (i : Int) by omega] at e
  rw [e]
  exact ok.sets _ (List.getElem_mem _)
theorem effP_len {l : List (List S60)} {xs : List Int} (ok : OkE l xs) : ∀ i : Nat, i ≤ xs.length → (effP l xs i).length ≤ 6
  | 0, _ => by simp [effP]
  | i + 1, hi => effAt ok i (by omega)
theorem effV_in {l : List (List S60)} {xs : List Int} (ok : OkE l xs) : ∀ i : Nat, i ≤ xs.length → 0 ≤ effV l xs i ∧ effV l xs i ≤ 6 * (i : Int)
  | 0, _ => by simp [effV]
  | i + 1, hi => by
    have ih := effV_in ok i (by omega)
    have h1 := effP_len ok i (by omega)
    have h2 := effAt ok i (by omega)
    have h3 := chgN_le (effP l xs i) (rd_L3 l (rd xs (i : Int))) (max (effP l xs i).length (rd_L3 l (rd xs (i : Int))).length)
    simp only [effV]
    omega
theorem effI {l : List (List S60)} {xs : List Int} (ok : OkE l xs) : Ev (fun k => impl_effort.f k l xs) (effV l xs xs.length) := by
  unfold impl_effort.f
  have hx := ok.len
  refine evCount (fun k (s : Int × List S60) i => impl_effort.l0 k l s.1 s.2 xs (xs.length : Int) i) 0 xs.length (fun i => (effV l xs i, effP l xs i)) _ ?_ ?_ (Nat.zero_le _)
  · intro i _ hi hr
    refine evSucc ?_
    have h := ok.at_ i hi
    have h1 := effV_in ok (i + 1) (by omega)
    simp only [impl_effort.l0, show (i : Int) < (xs.length : Int) by omega, show (0 : Int) ≤ (i : Int) by omega, h.1, h.2, if_true, wrapNat (show i < 4611686018427387904 by omega)]
    refine Ev.bind (chgI _ _ (effP_len ok i (by omega)) (effAt ok i hi)) ?_
    simp only [effV] at h1
    rw [wrapIn (by omega) (by omega)]
    exact hr
  · refine evSucc ?_
    simp only [impl_effort.l0, Int.lt_irrefl, if_false]
    exact Ev.now _
theorem effS {l : List (List S60)} {xs : List Int} (ok : OkE l xs) : Ev (fun k => spec_l13Effort.f k l xs) (effV l xs xs.length) := by
  unfold spec_l13Effort.f
  have hx := ok.len
  refine evCount (fun k (s : Int × List S60) i => spec_l13Effort.l0 k l xs s.1 s.2 i) 0 xs.length (fun i => (effV l xs i, effP l xs i)) _ ?_ ?_ (Nat.zero_le _)
  · intro i _ hi hr
    refine evSucc ?_
    have h := ok.at_ i hi
    have h1 := effV_in ok (i + 1) (by omega)
    simp only [spec_l13Effort.l0, show (i : Int) < (xs.length : Int) by omega, show (0 : Int) ≤ (i : Int) by omega, h.1, h.2, if_true, wrapNat (show i < 4611686018427387904 by omega)]
    refine Ev.bind (chgS _ _ (effP_len ok i (by omega)) (effAt ok i hi)) ?_
    simp only [effV] at h1
    rw [wrapIn (by omega) (by omega)]
    exact hr
  · refine evSucc ?_
    simp only [spec_l13Effort.l0, Int.lt_irrefl, if_false]
    exact Ev.now _
theorem effort_both (l : List (List S60)) (xs : List Int) (h : l.length ≤ 1048576) (hx : ∀ x ∈ l, x.length ≤ 1048576) (hs : xs.length ≤ 1048576) : ∃ r, Ev (fun k => spec_EffortOf.f k l xs) r ∧ Ev (fun k => impl_EffortOf.f k l xs) r := by
  unfold spec_EffortOf.f impl_EffortOf.f
  simp only [setupsI, Option.bind_some]
  by_cases hc : setupsV l = 0
  · have hso := setups_ok hc
    by_cases ho : orderB xs = true
    · by_cases he : (xs.length : Int) = (l.length : Int)
      · have ho' := ho
        simp only [orderB, Bool.and_eq_true, decide_eq_true_eq, B_iff] at ho'
        have ok : OkE l xs := ⟨ho'.1, fun x hx => setup_len (hso.2 x hx), fun i hi => ⟨(ho'.2 i hi).1.1, by have := (ho'.2 i hi).1.2; omega⟩⟩
        refine ⟨(effV l xs xs.length, 0), Ev.bind (setupsS l h hx) ?_, ?_⟩
        · simp only [hc, if_true]
          refine Ev.bind (orderS xs hs) ?_
          simp only [ho, if_true]
          refine evSucc ?_
          simp only [spec_EffortOf.j0, bne_iff_ne, ne_eq, he, not_true_eq_false, if_false, if_true]
          exact Ev.bind (effS ok) (Ev.now _)
        · simp only [hc, if_true]
          refine Ev.bind (isOrderI xs) ?_
          rw [show (decide (xs.length ≤ 64) && B (∀ i, i < xs.length → OrdAt xs i)) = true from ho]
          simp only [if_true, he]
          exact Ev.bind (effI ok) (Ev.now _)
      · refine ⟨(0, 2), Ev.bind (setupsS l h hx) ?_, ?_⟩
        · simp only [hc, if_true]
          refine Ev.bind (orderS xs hs) ?_
          simp only [ho, if_true]
          refine evSucc ?_
          simp only [spec_EffortOf.j0, bne_iff_ne.2 he, if_true, show ¬ ((2 : Int) = 0) by decide, if_false]
          exact Ev.now _
        · simp only [hc, if_true]
          refine Ev.bind (isOrderI xs) ?_
          rw [show (decide (xs.length ≤ 64) && B (∀ i, i < xs.length → OrdAt xs i)) = true from ho]
          simp only [if_true, he, if_false]
          exact Ev.now _
    · have ho2 : orderB xs = false := by cases e : orderB xs with | false => rfl | true => exact absurd e ho
      refine ⟨(0, 2), Ev.bind (setupsS l h hx) ?_, ?_⟩
      · simp only [hc, if_true]
        refine Ev.bind (orderS xs hs) ?_
        simp only [ho2, Bool.false_eq_true, if_false]
        refine evSucc ?_
        simp only [spec_EffortOf.j0, if_true, show ¬ ((2 : Int) = 0) by decide, if_false]
        exact Ev.now _
      · simp only [hc, if_true]
        refine Ev.bind (isOrderI xs) ?_
        rw [show (decide (xs.length ≤ 64) && B (∀ i, i < xs.length → OrdAt xs i)) = false from ho2]
        simp only [Bool.false_eq_true, if_false]
        exact Ev.now _
  · refine ⟨(0, setupsV l), Ev.bind (setupsS l h hx) ?_, ?_⟩
    · simp only [hc, if_false]
      refine evSucc ?_
      simp only [spec_EffortOf.j0, Bool.false_eq_true, if_false, hc]
      exact Ev.now _
    · simp only [hc, if_false]
      exact Ev.now _

noncomputable def effortR (l : List (List S60)) (xs : List Int) : Int × Int := if setupsV l = 0 then (if orderB xs = true ∧ xs.length = l.length then (effV l xs xs.length, 0) else (0, 2)) else (0, setupsV l)
theorem effort_vals (l : List (List S60)) (xs : List Int) (h : l.length ≤ 1048576) (hx : ∀ x ∈ l, x.length ≤ 1048576) (hs : xs.length ≤ 1048576) : Ev (fun k => spec_EffortOf.f k l xs) (effortR l xs) ∧ Ev (fun k => impl_EffortOf.f k l xs) (effortR l xs) := by
  unfold spec_EffortOf.f impl_EffortOf.f
  simp only [setupsI, Option.bind_some]
  by_cases hc : setupsV l = 0
  · have hso := setups_ok hc
    by_cases ho : orderB xs = true
    · by_cases he : (xs.length : Int) = (l.length : Int)
      · have ho' := ho
        simp only [orderB, Bool.and_eq_true, decide_eq_true_eq, B_iff] at ho'
        have ok : OkE l xs := ⟨ho'.1, fun x hx => setup_len (hso.2 x hx), fun i hi => ⟨(ho'.2 i hi).1.1, by have := (ho'.2 i hi).1.2; omega⟩⟩
        rw [show effortR l xs = (effV l xs xs.length, 0) from by unfold effortR; rw [if_pos hc, if_pos ⟨ho, by omega⟩]]
        refine ⟨Ev.bind (setupsS l h hx) ?_, ?_⟩
        · simp only [hc, if_true]
          refine Ev.bind (orderS xs hs) ?_
          simp only [ho, if_true]
          refine evSucc ?_
          simp only [spec_EffortOf.j0, bne_iff_ne, ne_eq, he, not_true_eq_false, if_false, if_true]
          exact Ev.bind (effS ok) (Ev.now _)
        · simp only [hc, if_true]
          refine Ev.bind (isOrderI xs) ?_
          rw [show (decide (xs.length ≤ 64) && B (∀ i, i < xs.length → OrdAt xs i)) = true from ho]
          simp only [if_true, he]
          exact Ev.bind (effI ok) (Ev.now _)
      · rw [show effortR l xs = (0, 2) from by unfold effortR; rw [if_pos hc, if_neg (fun h => he (by omega))]]
        refine ⟨Ev.bind (setupsS l h hx) ?_, ?_⟩
        · simp only [hc, if_true]
          refine Ev.bind (orderS xs hs) ?_
          simp only [ho, if_true]
          refine evSucc ?_
          simp only [spec_EffortOf.j0, bne_iff_ne.2 he, if_true, show ¬ ((2 : Int) = 0) by decide, if_false]
          exact Ev.now _
        · simp only [hc, if_true]
          refine Ev.bind (isOrderI xs) ?_
          rw [show (decide (xs.length ≤ 64) && B (∀ i, i < xs.length → OrdAt xs i)) = true from ho]
          simp only [if_true, he, if_false]
          exact Ev.now _
    · have ho2 : orderB xs = false := by cases e : orderB xs with | false => rfl | true => exact absurd e ho
      rw [show effortR l xs = (0, 2) from by unfold effortR; rw [if_pos hc, if_neg (fun h => ho h.1)]]
      refine ⟨Ev.bind (setupsS l h hx) ?_, ?_⟩
      · simp only [hc, if_true]
        refine Ev.bind (orderS xs hs) ?_
        simp only [ho2, Bool.false_eq_true, if_false]
        refine evSucc ?_
        simp only [spec_EffortOf.j0, if_true, show ¬ ((2 : Int) = 0) by decide, if_false]
        exact Ev.now _
      · simp only [hc, if_true]
        refine Ev.bind (isOrderI xs) ?_
        rw [show (decide (xs.length ≤ 64) && B (∀ i, i < xs.length → OrdAt xs i)) = false from ho2]
        simp only [Bool.false_eq_true, if_false]
        exact Ev.now _
  · rw [show effortR l xs = (0, setupsV l) from by unfold effortR; rw [if_neg hc]]
    refine ⟨Ev.bind (setupsS l h hx) ?_, ?_⟩
    · simp only [hc, if_false]
      refine evSucc ?_
      simp only [spec_EffortOf.j0, Bool.false_eq_true, if_false, hc]
      exact Ev.now _
    · simp only [hc, if_false]
      exact Ev.now _

/-- n! -/
def fct : Nat → Nat
  | 0 => 1
  | n + 1 => (n + 1) * fct n
theorem fct_pos : ∀ n, 0 < fct n
  | 0 => by decide
  | n + 1 => Nat.mul_pos (Nat.succ_pos n) (fct_pos n)
/-- The order of a rank among what is left. -/
def ofRank : Nat → List Int → Nat → List Int
  | 0, _, _ => []
  | n + 1, left, rank => left.getD (rank / fct n) 0 :: ofRank n (left.eraseIdx (rank / fct n)) (rank % fct n)
theorem ofRank_len : ∀ (n : Nat) (left : List Int) (r : Nat), (ofRank n left r).length = n
  | 0, _, _ => rfl
  | n + 1, left, r => by simp [ofRank, ofRank_len n]
theorem perm_erase_at (left : List Int) (i : Nat) (h : i < left.length) : (left.getD i 0 :: left.eraseIdx i).Perm left := by
  induction left generalizing i with
  | nil => simp at h
  | cons a l ih =>
    cases i with
    | zero => simp
    | succ i =>
      simp only [List.getD_cons_succ, List.eraseIdx_cons_succ]
      exact (List.Perm.swap _ _ _).trans ((ih i (by simpa using h)).cons a)
theorem ofRank_perm : ∀ (n : Nat) (left : List Int) (r : Nat), left.length = n → r < fct n → (ofRank n left r).Perm left
  | 0, left, r, hl, _ => by
    have : left = [] := List.eq_nil_of_length_eq_zero hl
    subst this; exact List.Perm.refl _
  | n + 1, left, r, hl, hr => by
    have hi : r / fct n < n + 1 := by
      rw [Nat.div_lt_iff_lt_mul (fct_pos n)]; exact hr
    have h1 := ofRank_perm n (left.eraseIdx (r / fct n)) (r % fct n) (by rw [List.length_eraseIdx]; split <;> omega) (Nat.mod_lt _ (fct_pos n))
    exact (h1.cons _).trans (perm_erase_at left _ (by omega))
/-- Every order has a rank. -/
theorem ofRank_onto : ∀ (n : Nat) (left p : List Int), left.length = n → p.Perm left → ∃ r, r < fct n ∧ ofRank n left r = p
  | 0, left, p, hl, hp => by
    have : left = [] := List.eq_nil_of_length_eq_zero hl
    subst this
    exact ⟨0, by decide, (List.Perm.eq_nil hp).symm⟩
  | n + 1, left, p, hl, hp => by
    cases p with
    | nil => have := hp.length_eq; simp at this; omega
    | cons x p =>
      have hx : x ∈ left := hp.subset (List.mem_cons_self ..)
      obtain ⟨i, hi, hxi⟩ := List.getElem_of_mem hx
      have hg : left.getD i 0 = x := by rw [List.getD_eq_getElem?_getD, List.getElem?_eq_getElem hi]; simpa using hxi
      have h2 : (x :: p).Perm (x :: left.eraseIdx i) := hp.trans (by have := perm_erase_at left i hi; rw [hg] at this; exact this.symm)
      obtain ⟨r, hr, he⟩ := ofRank_onto n (left.eraseIdx i) p (by rw [List.length_eraseIdx]; split <;> omega) ((List.perm_cons x).1 h2)
      refine ⟨i * fct n + r, ?_, ?_⟩
      · have : i ≤ n := by omega
        calc i * fct n + r < i * fct n + fct n := by omega
          _ = (i + 1) * fct n := by rw [Nat.add_mul, Nat.one_mul]
          _ ≤ (n + 1) * fct n := Nat.mul_le_mul_right _ (by omega)
      · have hd : (i * fct n + r) / fct n = i := by
          rw [Nat.mul_comm, Nat.mul_add_div (fct_pos n), Nat.div_eq_of_lt hr, Nat.add_zero]
        have hm : (i * fct n + r) % fct n = r := by
          rw [Nat.mul_comm, Nat.mul_add_mod, Nat.mod_eq_of_lt hr]
        simp only [ofRank, hd, hm, hg, he]
theorem erase_filter : ∀ (l : List Int) (i : Nat), l.Nodup → i < l.length → l.eraseIdx i = l.filter (fun x => decide (x ≠ l.getD i 0))
  | [], i, _, h => by simp at h
  | a :: l, 0, hn, _ => by
    have ha : a ∉ l := (List.nodup_cons.1 hn).1
    have : l.filter (fun x => decide (x ≠ a)) = l := List.filter_eq_self.2 (fun x hx => by simp; rintro rfl; exact ha hx)
    simp only [List.eraseIdx_cons_zero, List.getD_cons_zero, List.filter_cons, ne_eq, not_true_eq_false, decide_false, Bool.false_eq_true, ↓reduceIte]
    exact this.symm
  | a :: l, i + 1, hn, h => by
    have ha : a ∉ l := (List.nodup_cons.1 hn).1
    have hi : i < l.length := by simpa using h
    have hm : l.getD i 0 ∈ l := by rw [List.getD_eq_getElem?_getD, List.getElem?_eq_getElem hi]; exact List.getElem_mem hi
    have hne : a ≠ l.getD i 0 := fun e => ha (e ▸ hm)
    simp only [List.eraseIdx_cons_succ, List.getD_cons_succ, List.filter_cons, decide_eq_true hne, ↓reduceIte]
    rw [erase_filter l i (List.nodup_cons.1 hn).2 hi]
/-- What is left is what has not been taken. -/
theorem left_step (left out : List Int) (base : List Int) (hb : base.Nodup) (hl : left = base.filter (fun x => decide (x ∉ out))) (i : Nat) (hi : i < left.length) :
    left.eraseIdx i = base.filter (fun x => decide (x ∉ out ++ [left.getD i 0])) := by
  have hn : left.Nodup := by rw [hl]; exact hb.filter _
  rw [erase_filter left i hn hi]
  generalize left.getD i 0 = y
  rw [hl, List.filter_filter]
  congr 1
  funext x
  by_cases h1 : x = y <;> by_cases h2 : x ∈ out <;> simp [h1, h2]

theorem fct_small : ∀ n : Nat, n ≤ 12 → fct n ≤ 479001600 := by
  intro n hn
  have h : ∀ m, m < 13 → fct m ≤ 479001600 := by decide
  exact h n (by omega)
theorem factS (n : Nat) (hn : n ≤ 12) : Ev (fun k => spec_l01Factorial.f k (n : Int)) ((fct n : Nat) : Int) := by
  unfold spec_l01Factorial.f
  have key : ∀ d i : Nat, i + d = n + 1 → 2 ≤ i → Ev (fun k => spec_l01Factorial.l0 k (n : Int) ((fct (i - 1) : Nat) : Int) (i : Int)) ((fct n : Nat) : Int) := by
    intro d
    induction d with
    | zero =>
      intro i hi h2
      have e : i - 1 = n := by omega
      rw [e]
      refine evSucc ?_
      simp only [spec_l01Factorial.l0, show ¬ ((i : Int) ≤ (n : Int)) by omega, if_false]
      exact Ev.now _
    | succ d ih =>
      intro i hi h2
      refine evSucc ?_
      have hs := fct_small i (by omega)
      have e : fct i = i * fct (i - 1) := by
        obtain ⟨m, rfl⟩ : ∃ m, i = m + 1 := ⟨i - 1, by omega⟩
        rfl
      have em : ((fct (i - 1) : Nat) : Int) * (i : Int) = ((fct i : Nat) : Int) := by rw [e, Int.mul_comm]; exact (Int.natCast_mul _ _).symm
      have hr := ih (i + 1) (by omega) (by omega)
      rw [Nat.add_sub_cancel] at hr
      simp only [spec_l01Factorial.l0, show (i : Int) ≤ (n : Int) by omega, if_true, em, wrapIn (show -9223372036854775808 ≤ ((fct i : Nat) : Int) by omega) (show ((fct i : Nat) : Int) ≤ 9223372036854775807 by omega), wrapNat (show i < 4611686018427387904 by omega)]
      exact hr
  rcases Nat.lt_or_ge n 1 with h | h
  · have e : n = 0 := by omega
    subst e
    refine evSucc ?_
    simp only [spec_l01Factorial.l0]
    exact Ev.now _
  · have := key (n - 1) 2 (by omega) (by omega)
    exact this
theorem factI (n : Nat) (hn : n ≤ 12) : Ev (fun k => impl_factorial.f k (n : Int)) ((fct n : Nat) : Int) := by
  unfold impl_factorial.f
  have key : ∀ d i : Nat, i + d = n + 1 → 2 ≤ i → Ev (fun k => impl_factorial.l0 k (n : Int) ((fct (i - 1) : Nat) : Int) (i : Int)) ((fct n : Nat) : Int) := by
    intro d
    induction d with
    | zero =>
      intro i hi h2
      have e : i - 1 = n := by omega
      rw [e]
      refine evSucc ?_
      simp only [impl_factorial.l0, show ¬ ((i : Int) ≤ (n : Int)) by omega, if_false]
      exact Ev.now _
    | succ d ih =>
      intro i hi h2
      refine evSucc ?_
      have hs := fct_small i (by omega)
      have e : fct i = i * fct (i - 1) := by
        obtain ⟨m, rfl⟩ : ∃ m, i = m + 1 := ⟨i - 1, by omega⟩
        rfl
      have em : ((fct (i - 1) : Nat) : Int) * (i : Int) = ((fct i : Nat) : Int) := by rw [e, Int.mul_comm]; exact (Int.natCast_mul _ _).symm
      have hr := ih (i + 1) (by omega) (by omega)
      rw [Nat.add_sub_cancel] at hr
      simp only [impl_factorial.l0, show (i : Int) ≤ (n : Int) by omega, if_true, em, wrapIn (show -9223372036854775808 ≤ ((fct i : Nat) : Int) by omega) (show ((fct i : Nat) : Int) ≤ 9223372036854775807 by omega), wrapNat (show i < 4611686018427387904 by omega)]
      exact hr
  rcases Nat.lt_or_ge n 1 with h | h
  · have e : n = 0 := by omega
    subst e
    refine evSucc ?_
    simp only [impl_factorial.l0]
    exact Ev.now _
  · have := key (n - 1) 2 (by omega) (by omega)
    exact this
/-- 0, 1, .., n - 1. -/
def base (n : Nat) : List Int := (List.range n).map fun (j : Nat) => (j : Int)
theorem base_len (n : Nat) : (base n).length = n := by simp [base]
theorem base_succ (n : Nat) : base (n + 1) = base n ++ [(n : Int)] := by simp [base, List.range_succ]
theorem base_mem (n : Nat) (x : Int) : x ∈ base n ↔ 0 ≤ x ∧ x < n := by
  simp only [base, List.mem_map, List.mem_range]
  exact ⟨fun ⟨j, h1, h2⟩ => by omega, fun h => ⟨x.toNat, by omega, by omega⟩⟩
theorem base_nodup (n : Nat) : (base n).Nodup := by
  induction n with
  | zero => simp [base]
  | succ n ih =>
    rw [base_succ, List.nodup_append]
    refine ⟨ih, by simp, fun a ha b hb => ?_⟩
    rw [List.mem_singleton] at hb
    have := (base_mem n a).1 ha
    omega
theorem base_drop (n i : Nat) (h : i < n) : (base n).drop i = (i : Int) :: (base n).drop (i + 1) := by
  rw [List.drop_eq_getElem_cons (by rw [base_len]; exact h)]
  congr 1
  simp [base]
theorem wrapDiv {r f : Nat} (hr : r ≤ 479001600) : wrap64 (Int.tdiv (r : Int) (f : Int)) = ((r / f : Nat) : Int) := by
  have e : Int.tdiv (r : Int) (f : Int) = ((r / f : Nat) : Int) := by
    rw [Int.tdiv_eq_ediv_of_nonneg (by omega)]; exact (Int.natCast_ediv r f).symm
  have h := Nat.div_le_self r f
  rw [e]
  generalize r / f = q at h ⊢
  exact wrapIn (by omega) (by omega)
theorem natMod (r f : Nat) : Int.tmod (r : Int) (f : Int) = ((r % f : Nat) : Int) := by
  rw [Int.tmod_eq_emod_of_nonneg (by omega)]; exact (Int.natCast_emod r f).symm
theorem implO1 (N : Nat) (hN : N ≤ 12) : ∀ (d : Nat) (left out : List Int) (r : Nat), left.length = d → d ≤ N → out.length + d = N → r < fct d → Ev (fun k => impl_OrderOfRank.l1 k (r : Int) left out) (out ++ ofRank d left r, 0) := by
  intro d
  induction d with
  | zero =>
    intro left out r hl hd ho hr
    refine evSucc ?_
    simp only [impl_OrderOfRank.l1, hl, show ¬ (((0 : Nat) : Int) > 0) by decide, if_false, ofRank, List.append_nil]
    exact Ev.now _
  | succ d ih =>
    intro left out r hl hd ho hr
    refine evSucc ?_
    have hs := fct_small (d + 1) (by omega)
    have hp := fct_pos d
    have hi : r / fct d < d + 1 := by rw [Nat.div_lt_iff_lt_mul hp]; exact hr
    have hw : wrap64 (((d + 1 : Nat) : Int) - 1) = (d : Int) := by rw [wrapIn (by omega) (by omega)]; omega
    simp only [impl_OrderOfRank.l1, hl, show ((d + 1 : Nat) : Int) > 0 by omega, if_true, hw]
    refine Ev.bind (factI d (by omega)) ?_
    have hwd := @wrapDiv r (fct d) (by omega)
    have h := ih (left.eraseIdx (r / fct d)) (out ++ [left.getD (r / fct d) 0]) (r % fct d) (by rw [List.length_eraseIdx]; generalize r / fct d = q at *; split <;> omega) (by omega) (by rw [List.length_append, List.length_singleton]; omega) (Nat.mod_lt _ hp)
    rw [List.append_assoc] at h
    have e : ofRank (d + 1) left r = left.getD (r / fct d) 0 :: ofRank d (left.eraseIdx (r / fct d)) (r % fct d) := rfl
    rw [e]
    have hm := natMod r (fct d)
    have hg : rd left ((r / fct d : Nat) : Int) = left.getD (r / fct d) 0 := by unfold rd; rw [Int.toNat_natCast]
    generalize r / fct d = q at *
    generalize r % fct d = z at *
    simp only [show ¬ (((fct d : Nat) : Int) = 0) by omega, if_false, hwd, show (0 : Int) ≤ (q : Int) by omega, show (q : Int) < ((d + 1 : Nat) : Int) by omega, show out.length < 4096 by omega, if_true, hm, Int.toNat_natCast, hg]
    exact h
theorem implO (n r : Nat) (hn : n ≤ 12) (hr : r < fct n) : Ev (fun k => impl_OrderOfRank.f k (n : Int) (r : Int)) (ofRank n (base n) r, 0) := by
  have hs := fct_small n hn
  have hw : wrap64 (((fct n : Nat) : Int) - 1) = ((fct n : Nat) : Int) - 1 := wrapIn (by omega) (by omega)
  unfold impl_OrderOfRank.f
  simp only [inI, Option.bind_some, show (0 : Int) ≤ (n : Int) by omega, show (n : Int) ≤ 12 by omega, and_self, decide_true, if_true]
  refine Ev.bind (factI n hn) ?_
  simp only [hw, show (0 : Int) ≤ (r : Int) by omega, show (r : Int) ≤ ((fct n : Nat) : Int) - 1 by omega, and_self, decide_true, if_true]
  have := evCount (fun k (x : List Int) i => impl_OrderOfRank.l0 k (n : Int) (r : Int) x i) 0 n base (ofRank n (base n) r, 0) ?_ ?_ (Nat.zero_le _)
  · exact this
  · intro i _ hi h
    refine evSucc ?_
    rw [base_succ] at h
    simp only [impl_OrderOfRank.l0, show (i : Int) < (n : Int) by omega, base_len, show i < 4096 by omega, if_true, wrapNat (show i < 4611686018427387904 by omega)]
    exact h
  · refine evSucc ?_
    simp only [impl_OrderOfRank.l0, Int.lt_irrefl, if_false]
    have := implO1 n hn n (base n) [] r (base_len n) (Nat.le_refl _) (by simp) hr
    rw [List.nil_append] at this
    exact this
/-- The inner loop of the reference: it passes what was taken and stops at the s-th of what is left. -/
theorem specIn (n : Nat) (hn : n ≤ 12) (r i : Nat) (out : List Int) (ho : out.length ≤ 12) (R : List Int × Int) : ∀ (m x s : Nat), x + m = n → s < (((base n).drop x).filter (fun y => decide (y ∉ out))).length → Ev (fun k => spec_OrderOfRank.l0 k (n : Int) (r : Int) (out ++ [(((base n).drop x).filter (fun y => decide (y ∉ out))).getD s 0]) ((i + 1 : Nat) : Int)) R → i < 12 → Ev (fun k => spec_OrderOfRank.l1 k (n : Int) (r : Int) out (i : Int) (s : Int) (x : Int)) R := by
  intro m
  induction m with
  | zero =>
    intro x s hx hs _ _
    rw [List.drop_of_length_le (by rw [base_len]; omega)] at hs
    simp at hs
  | succ m ih =>
    intro x s hx hs hR hi
    refine evSucc ?_
    rw [base_drop n x (by omega), List.filter_cons] at hs hR
    simp only [spec_OrderOfRank.l1, show (x : Int) < (n : Int) by omega, if_true]
    by_cases c : (x : Int) ∈ out
    · rw [if_neg (by simp [c])] at hs hR
      have hm := hasS out (x : Int) (by omega)
      rw [B_true c] at hm
      refine Ev.bind hm ?_
      simp only [if_true, wrapNat (show x < 4611686018427387904 by omega)]
      exact ih (x + 1) s (by omega) hs hR hi
    · rw [if_pos (by simp [c])] at hs hR
      have hm := hasS out (x : Int) (by omega)
      rw [B_false c] at hm
      refine Ev.bind hm ?_
      simp only [Bool.false_eq_true, if_false]
      cases s with
      | zero =>
        simp only [show ((0 : Nat) : Int) = 0 from rfl, if_true, show out.length < 17592186044416 by omega, wrapNat (show i < 4611686018427387904 by omega)]
        rw [List.getD_cons_zero] at hR
        exact hR
      | succ s =>
        have hw : wrap64 (((s + 1 : Nat) : Int) - 1) = (s : Int) := by
          have : s < n + 1 := by
            have h1 := List.length_filter_le (fun y => decide (y ∉ out)) ((base n).drop (x + 1))
            rw [List.length_drop, base_len] at h1
            simp only [List.length_cons] at hs
            omega
          rw [wrapIn (by omega) (by omega)]; omega
        simp only [show ¬ (((s + 1 : Nat) : Int) = 0) by omega, if_false, hw, wrapNat (show x < 4611686018427387904 by omega)]
        rw [List.getD_cons_succ] at hR
        simp only [List.length_cons] at hs
        exact ih (x + 1) s (by omega) (by omega) hR hi
theorem specO1 (n : Nat) (hn : n ≤ 12) : ∀ (d i : Nat) (out : List Int) (r : Nat), i + d = n → out.length = i → ((base n).filter (fun y => decide (y ∉ out))).length = d → r < fct d → Ev (fun k => spec_OrderOfRank.l0 k (n : Int) (r : Int) out (i : Int)) (out ++ ofRank d ((base n).filter (fun y => decide (y ∉ out))) r, 0) := by
  intro d
  induction d with
  | zero =>
    intro i out r hi ho hl hr
    refine evSucc ?_
    simp only [spec_OrderOfRank.l0, show ¬ ((i : Int) < (n : Int)) by omega, if_false, ofRank, List.append_nil]
    exact Ev.now _
  | succ d ih =>
    intro i out r hi ho hl hr
    refine evSucc ?_
    have hs := fct_small (d + 1) (by omega)
    have hp := fct_pos d
    have hq : r / fct d < d + 1 := by rw [Nat.div_lt_iff_lt_mul hp]; exact hr
    have hw : wrap64 ((wrap64 ((n : Int) - (i : Int))) - 1) = (d : Int) := by rw [wrapIn (x := (n : Int) - (i : Int)) (by omega) (by omega), wrapIn (by omega) (by omega)]; omega
    simp only [spec_OrderOfRank.l0, show (i : Int) < (n : Int) by omega, if_true, hw]
    refine Ev.bind (factS d (by omega)) ?_
    have hwd := @wrapDiv r (fct d) (by omega)
    simp only [show ¬ (((fct d : Nat) : Int) = 0) by omega, if_false, hwd, natMod]
    obtain ⟨left, hleft⟩ : ∃ left, left = (base n).filter (fun y => decide (y ∉ out)) := ⟨_, rfl⟩
    have hstep := left_step left out (base n) (base_nodup n) hleft (r / fct d) (by rw [hleft, hl]; exact hq)
    have h := ih (i + 1) (out ++ [left.getD (r / fct d) 0]) (r % fct d) (by omega) (by rw [List.length_append, List.length_singleton]; omega) (by rw [← hstep, List.length_eraseIdx, hleft, hl, if_pos hq]; rfl) (Nat.mod_lt _ hp)
    rw [← hstep, List.append_assoc] at h
    have e : ofRank (d + 1) left r = left.getD (r / fct d) 0 :: ofRank d (left.eraseIdx (r / fct d)) (r % fct d) := rfl
    rw [← hleft, e]
    refine specIn n hn (r % fct d) i out (by omega) _ n 0 (r / fct d) (by omega) (by rw [List.drop_zero, hl]; exact hq) ?_ (by omega)
    rw [List.drop_zero, ← hleft]
    exact h
theorem specO (n r : Nat) (hn : n ≤ 12) (hr : r < fct n) : Ev (fun k => spec_OrderOfRank.f k (n : Int) (r : Int)) (ofRank n (base n) r, 0) := by
  have hs := fct_small n hn
  have hw : wrap64 (((fct n : Nat) : Int) - 1) = ((fct n : Nat) : Int) - 1 := wrapIn (by omega) (by omega)
  unfold spec_OrderOfRank.f
  simp only [inS, Option.bind_some, show (0 : Int) ≤ (n : Int) by omega, show (n : Int) ≤ 12 by omega, and_self, decide_true, if_true]
  refine Ev.bind (factS n hn) ?_
  simp only [hw, show (0 : Int) ≤ (r : Int) by omega, show (r : Int) ≤ ((fct n : Nat) : Int) - 1 by omega, and_self, decide_true, Bool.not_true]
  refine evSucc ?_
  simp only [spec_OrderOfRank.j0, Bool.false_eq_true, if_false]
  have he : (base n).filter (fun y => decide (y ∉ ([] : List Int))) = base n := List.filter_eq_self.2 (fun _ _ => by simp)
  have := specO1 n hn n 0 [] r (by omega) rfl (by rw [he, base_len]) hr
  rw [he, List.nil_append] at this
  exact this

theorem perm_of_nodup : ∀ (p left : List Int), p.Nodup → (∀ x ∈ p, x ∈ left) → p.length = left.length → p.Perm left
  | [], left, _, _, hl => by
    have : left = [] := List.eq_nil_of_length_eq_zero hl.symm
    subst this; exact List.Perm.refl _
  | x :: p, left, hn, hm, hl => by
    have hx := hm x List.mem_cons_self
    have h1 := List.perm_cons_erase hx
    have hn' := List.nodup_cons.1 hn
    have h2 := perm_of_nodup p (left.erase x) hn'.2 (fun y hy => (List.mem_erase_of_ne (by rintro rfl; exact hn'.1 hy)).2 (hm y (List.mem_cons_of_mem _ hy))) (by rw [List.length_erase_of_mem hx]; simp at hl; omega)
    exact (h2.cons x).trans h1.symm
theorem nodup_of_ord (xs : List Int) (h : ∀ i, i < xs.length → OrdAt xs i) : xs.Nodup := by
  have key : ∀ i, i ≤ xs.length → (xs.take i).Nodup := by
    intro i
    induction i with
    | zero => intro _; simp
    | succ i ih =>
      intro hi
      rw [List.take_succ_eq_append_getElem (by omega), List.nodup_append]
      refine ⟨ih (by omega), by simp, fun a ha b hb => ?_⟩
      rw [List.mem_singleton] at hb
      have := (h i (by omega)).2
      rw [rdN xs i (by omega)] at this
      rintro rfl
      subst hb
      exact this ha
  have := key xs.length (Nat.le_refl _)
  rwa [List.take_length] at this
theorem ord_perm (xs : List Int) (n : Nat) (hl : xs.length = n) (h : ∀ i, i < xs.length → OrdAt xs i) : xs.Perm (base n) := by
  refine perm_of_nodup xs (base n) (nodup_of_ord xs h) (fun x hx => ?_) (by rw [base_len]; exact hl)
  obtain ⟨i, hi, rfl⟩ := List.getElem_of_mem hx
  have := (h i hi).1
  rw [rdN xs i hi] at this
  exact (base_mem n _).2 (by omega)
theorem perm_ord (p : List Int) (n : Nat) (h : p.Perm (base n)) : p.length = n ∧ ∀ i, i < p.length → OrdAt p i := by
  have hl : p.length = n := by rw [h.length_eq, base_len]
  have hn : p.Nodup := h.nodup_iff.2 (base_nodup n)
  refine ⟨hl, fun i hi => ⟨?_, ?_⟩⟩
  · rw [rdN p i hi]
    have := (base_mem n p[i]).1 (h.subset (List.getElem_mem hi))
    omega
  · rw [rdN p i hi]
    intro hm
    have h1 : p = p.take i ++ p[i] :: p.drop (i + 1) := by rw [← List.drop_eq_getElem_cons hi, List.take_append_drop]
    rw [h1, List.nodup_append] at hn
    exact hn.2.2 _ hm _ List.mem_cons_self rfl
theorem okRank {l : List (List S60)} (hs : l.length ≤ 7 ∧ ∀ x ∈ l, setupB x = true) (r : Nat) (hr : r < fct l.length) : OkE l (ofRank l.length (base l.length) r) ∧ (ofRank l.length (base l.length) r).length = l.length ∧ orderB (ofRank l.length (base l.length) r) = true := by
  have hp := perm_ord _ _ (ofRank_perm l.length (base l.length) r (base_len _) hr)
  refine ⟨⟨by omega, fun x hx => setup_len (hs.2 x hx), fun i hi => by have := (hp.2 i hi).1; omega⟩, hp.1, ?_⟩
  simp only [orderB, Bool.and_eq_true, decide_eq_true_eq, B_iff]
  exact ⟨by omega, hp.2⟩
def rankE (l : List (List S60)) (r : Nat) : Int := effV l (ofRank l.length (base l.length) r) (ofRank l.length (base l.length) r).length
/-- The best order of the first r ranks, and its effort. -/
def bestV (l : List (List S60)) : Nat → List Int × Int
  | 0 => ([], -1)
  | r + 1 => if (bestV l r).2 < 0 ∨ rankE l r < (bestV l r).2 then (ofRank l.length (base l.length) r, rankE l r) else bestV l r
def bestR (l : List (List S60)) : List Int × Int × Int := if setupsV l = 0 then ((bestV l (fct l.length)).1, (bestV l (fct l.length)).2, 0) else ([], 0, setupsV l)
theorem bestI (l : List (List S60)) : Ev (fun k => impl_BestJobOrder.f k l) (bestR l) := by
  unfold impl_BestJobOrder.f bestR
  simp only [setupsI, Option.bind_some]
  by_cases hc : setupsV l = 0
  · have hs := setups_ok hc
    have hf := fct_small l.length (by omega)
    simp only [hc, if_true, impl_Unit_52.f, Option.bind_some]
    refine Ev.bind (factI l.length (by omega)) ?_
    refine evCount (fun k (s : List Int × Int) i => impl_BestJobOrder.l0 k l s.1 s.2 ((fct l.length : Nat) : Int) i) 0 (fct l.length) (bestV l) _ ?_ ?_ (Nat.zero_le _)
    · intro r _ hr h
      have ok := okRank hs r hr
      refine evSucc ?_
      simp only [impl_BestJobOrder.l0, show (r : Int) < ((fct l.length : Nat) : Int) by omega, if_true, impl_Unit_52.f, Option.bind_some, wrapNat (show r < 4611686018427387904 by omega)]
      refine Ev.bind (implO l.length r (by omega) hr) (Ev.bind (effI ok.1) ?_)
      simp only [bestV] at h
      show Ev (fun k => if (bestV l r).2 < 0 then _ else (if rankE l r < (bestV l r).2 then _ else _)) _
      by_cases c1 : (bestV l r).2 < 0
      · rw [if_pos (.inl c1)] at h
        simp only [c1, if_true]
        exact h
      · by_cases c2 : rankE l r < (bestV l r).2
        · rw [if_pos (.inr c2)] at h
          simp only [c1, c2, if_false, if_true]
          exact h
        · rw [if_neg (fun g => g.elim c1 c2)] at h
          simp only [c1, c2, if_false]
          exact h
    · refine evSucc ?_
      simp only [impl_BestJobOrder.l0, Int.lt_irrefl, if_false]
      exact Ev.now _
  · simp only [hc, if_false]
    exact Ev.now _
theorem bestS (l : List (List S60)) (h : l.length ≤ 1048576) (hx : ∀ x ∈ l, x.length ≤ 1048576) : Ev (fun k => spec_BestJobOrder.f k l) (bestR l) := by
  unfold spec_BestJobOrder.f bestR
  refine Ev.bind (setupsS l h hx) ?_
  by_cases hc : setupsV l = 0
  · have hs := setups_ok hc
    have hf := fct_small l.length (by omega)
    simp only [hc, if_true]
    refine evCount (fun k (s : List Int × Int) i => spec_BestJobOrder.l0 k l (l.length : Int) s.1 s.2 i) 0 (fct l.length) (bestV l) _ ?_ ?_ (Nat.zero_le _)
    · intro r _ hr h
      have ok := okRank hs r hr
      refine evSucc ?_
      simp only [spec_BestJobOrder.l0, wrapNat (show r < 4611686018427387904 by omega)]
      refine Ev.bind (factS l.length (by omega)) ?_
      simp only [show (r : Int) < ((fct l.length : Nat) : Int) by omega, if_true]
      refine Ev.bind (specO l.length r (by omega) hr) (Ev.bind (effS ok.1) ?_)
      simp only [bestV] at h
      show Ev (fun k => if (bestV l r).2 < 0 then _ else (if rankE l r < (bestV l r).2 then _ else _)) _
      by_cases c1 : (bestV l r).2 < 0
      · rw [if_pos (.inl c1)] at h
        simp only [c1, if_true]
        exact h
      · by_cases c2 : rankE l r < (bestV l r).2
        · rw [if_pos (.inr c2)] at h
          simp only [c1, c2, if_false, if_true]
          exact h
        · rw [if_neg (fun g => g.elim c1 c2)] at h
          simp only [c1, c2, if_false]
          exact h
    · refine evSucc ?_
      simp only [spec_BestJobOrder.l0]
      refine Ev.bind (factS l.length (by omega)) ?_
      simp only [Int.lt_irrefl, if_false]
      exact Ev.now _
  · simp only [hc, if_false]
    exact Ev.now _
theorem best_min {l : List (List S60)} (hs : l.length ≤ 7 ∧ ∀ x ∈ l, setupB x = true) : ∀ r : Nat, r < fct l.length → (∃ j, j ≤ r ∧ bestV l (r + 1) = (ofRank l.length (base l.length) j, rankE l j)) ∧ ∀ j, j ≤ r → (bestV l (r + 1)).2 ≤ rankE l j
  | 0, hr => by
    have e : bestV l 1 = (ofRank l.length (base l.length) 0, rankE l 0) := by
      show (if (bestV l 0).2 < 0 ∨ rankE l 0 < (bestV l 0).2 then _ else _) = _
      rw [if_pos (.inl (show (-1 : Int) < 0 by decide))]
    refine ⟨⟨0, Nat.le_refl _, e⟩, fun j hj => ?_⟩
    have : j = 0 := by omega
    subst this
    rw [e]
    exact Int.le_refl _
  | r + 1, hr => by
    obtain ⟨⟨j0, h0, e0⟩, hm⟩ := best_min hs r (by omega)
    have hpos : 0 ≤ (bestV l (r + 1)).2 := by
      rw [e0]
      exact (effV_in (okRank hs j0 (by omega)).1 _ (Nat.le_refl _)).1
    have e : bestV l (r + 1 + 1) = if (bestV l (r + 1)).2 < 0 ∨ rankE l (r + 1) < (bestV l (r + 1)).2 then (ofRank l.length (base l.length) (r + 1), rankE l (r + 1)) else bestV l (r + 1) := rfl
    rw [e]
    by_cases c : rankE l (r + 1) < (bestV l (r + 1)).2
    · rw [if_pos (.inr c)]
      refine ⟨⟨r + 1, Nat.le_refl _, rfl⟩, fun j hj => ?_⟩
      rcases Nat.lt_or_ge j (r + 1) with h1 | h1
      · have := hm j (by omega)
        simp only
        omega
      · have : j = r + 1 := by omega
        subst this
        exact Int.le_refl _
    · rw [if_neg (fun g => g.elim (fun g => by omega) c)]
      refine ⟨⟨j0, by omega, e0⟩, fun j hj => ?_⟩
      rcases Nat.lt_or_ge j (r + 1) with h1 | h1
      · exact hm j (by omega)
      · have : j = r + 1 := by omega
        subst this
        omega
/-- No order has less effort than the best one, and the best one has the effort that is told. -/
theorem best_ok (l : List (List S60)) (xs : List Int) (h : (effortR l xs).2 = 0) : (bestR l).2.2 = 0 ∧ (bestR l).2.1 ≤ (effortR l xs).1 ∧ effortR l (bestR l).1 = ((bestR l).2.1, 0) := by
  unfold effortR at h
  by_cases hc : setupsV l = 0
  · rw [if_pos hc] at h
    by_cases ho : orderB xs = true ∧ xs.length = l.length
    · have hs := setups_ok hc
      have hp := fct_pos l.length
      obtain ⟨⟨j, hj, e⟩, hm⟩ := best_min hs (fct l.length - 1) (by omega)
      rw [Nat.sub_add_cancel hp] at e hm
      have ok := okRank hs j (by omega)
      have ho' := ho.1
      simp only [orderB, Bool.and_eq_true, decide_eq_true_eq, B_iff] at ho'
      obtain ⟨r, hr, er⟩ := ofRank_onto l.length (base l.length) xs (base_len _) (ord_perm xs l.length ho.2 ho'.2)
      have hle := hm r (by omega)
      have e1 : effortR l xs = (effV l xs xs.length, 0) := by unfold effortR; rw [if_pos hc, if_pos ho]
      have e2 : bestR l = ((bestV l (fct l.length)).1, (bestV l (fct l.length)).2, 0) := by unfold bestR; rw [if_pos hc]
      rw [e1, e2]
      refine ⟨rfl, ?_, ?_⟩
      · unfold rankE at hle
        rw [er] at hle
        exact hle
      · rw [e]
        show effortR l (ofRank l.length (base l.length) j) = _
        unfold effortR
        rw [if_pos hc, if_pos ⟨ok.2.2, ok.2.1⟩]
        rfl
    · rw [if_neg ho] at h
      exact absurd h (by decide)
  · rw [if_neg hc] at h
    exact absurd h hc

def countR (l m : List S60) : Int × Int := if setupB l = true ∧ setupB m = true then (((chgN l m (max l.length m.length) : Nat) : Int), 0) else (0, 1)
theorem count_vals (l m : List S60) (h : l.length ≤ 1048576) (h' : m.length ≤ 1048576) : Ev (fun k => spec_CountChanges.f k l m) (countR l m) ∧ Ev (fun k => impl_CountChanges.f k l m) (countR l m) := by
  unfold spec_CountChanges.f impl_CountChanges.f countR
  simp only [setupI, Option.bind_some]
  by_cases hs : setupB l = true
  · by_cases hs' : setupB m = true
    · rw [if_pos ⟨hs, hs'⟩]
      refine ⟨Ev.bind (setupS l h) ?_, ?_⟩
      · simp only [hs, if_true]
        refine Ev.bind (setupS m h') ?_
        simp only [hs', if_true]
        exact Ev.bind (chgS l m (setup_len hs) (setup_len hs')) (Ev.now _)
      · simp only [hs, hs', if_true]
        exact Ev.bind (chgI l m (setup_len hs) (setup_len hs')) (Ev.now _)
    · rw [if_neg (fun h => hs' h.2)]
      refine ⟨Ev.bind (setupS l h) ?_, ?_⟩
      · simp only [hs, if_true]
        refine Ev.bind (setupS m h') ?_
        simp only [hs', if_false, Bool.false_eq_true]
        exact Ev.now _
      · simp only [hs, hs', if_true, if_false, Bool.false_eq_true]
        exact Ev.now _
  · rw [if_neg (fun h => hs h.1)]
    refine ⟨Ev.bind (setupS l h) ?_, ?_⟩
    · simp only [hs, if_false, Bool.false_eq_true]
      exact Ev.now _
    · simp only [hs, if_false, Bool.false_eq_true]
      exact Ev.now _
theorem chgP_symm (l m : List S60) (i : Nat) : chgP l m i ↔ chgP m l i := by
  unfold chgP
  rw [Bool.beq_comm (a := (rd_T60 l (i : Int)).f0), Bool.beq_comm (a := (rd_T60 l (i : Int)).f2), show ((rd_T60 l (i : Int)).f1 == (rd_T60 m (i : Int)).f1) = ((rd_T60 m (i : Int)).f1 == (rd_T60 l (i : Int)).f1) from by rw [Bool.eq_iff_iff, beq_iff_eq, beq_iff_eq]; exact eq_comm]
  exact ⟨fun h => h.elim (fun h => .inr (.inl h)) (fun h => h.elim .inl (fun h => .inr (.inr h))), fun h => h.elim (fun h => .inr (.inl h)) (fun h => h.elim .inl (fun h => .inr (.inr h)))⟩
theorem chgN_symm (l m : List S60) : ∀ i : Nat, chgN l m i = chgN m l i
  | 0 => rfl
  | i + 1 => by
    simp only [chgN, chgN_symm l m i]
    by_cases h : chgP l m i
    · rw [if_pos h, if_pos ((chgP_symm l m i).1 h)]
    · rw [if_neg h, if_neg (fun g => h ((chgP_symm l m i).2 g))]
theorem count_symm (l m : List S60) : countR m l = countR l m := by
  unfold countR
  by_cases h : setupB l = true ∧ setupB m = true
  · rw [if_pos h, if_pos h.symm, chgN_symm m l, Nat.max_comm]
  · rw [if_neg h, if_neg (fun g => h g.symm)]
theorem chgN_nil (l : List S60) : ∀ i : Nat, chgN l [] i = i
  | 0 => rfl
  | i + 1 => by
    simp only [chgN, chgN_nil l i]
    rw [if_pos (show chgP l [] i from .inr (.inl (by simp)))]
theorem setupB_nil : setupB [] = true := by rfl
theorem count_nil (l : List S60) (h : setupB l = true) : countR l [] = ((l.length : Int), 0) := by
  unfold countR
  rw [if_pos ⟨h, setupB_nil⟩, chgN_nil]
  simp
theorem count_le (l m : List S60) (h : (countR l m).2 = 0) : setupB l = true ∧ setupB m = true ∧ (countR l m).1 ≤ (l.length : Int) + (m.length : Int) ∧ l.length ≤ 6 ∧ m.length ≤ 6 := by
  unfold countR at h ⊢
  by_cases c : setupB l = true ∧ setupB m = true
  · rw [if_pos c]
    have := chgN_le l m (max l.length m.length)
    exact ⟨c.1, c.2, by simp only; omega, setup_len c.1, setup_len c.2⟩
  · rw [if_neg c] at h
    exact absurd h (by decide)

structure OkS (l : List Int) (a s : Int) : Prop where
  bytes : ∀ x ∈ l, 0 ≤ x ∧ x ≤ 255
  len : l.length ≤ 4096
  a0 : 0 ≤ a
  a1 : a ≤ l.length
  s0 : 0 ≤ s
  s1 : s < 2147483647
theorem rd_byte {l : List Int} (h : ∀ x ∈ l, 0 ≤ x ∧ x ≤ 255) (i : Int) : 0 ≤ rd l i ∧ rd l i ≤ 255 := spec_l01Next.byte h i
theorem next_ok {l : List Int} {a s : Int} (h : OkS l a s) (n : Int) :
    ∃ r a' s', spec_l01Next.f l a s n = some (r, a', s') ∧ OkS l a' s' ∧ (1 ≤ n → 0 ≤ r ∧ r < n) ∧ (n ≤ 1 → r = 0) := by
  have hs := h.s0
  have hs1 := h.s1
  have ha0 := h.a0
  have ha1 := h.a1
  have hl := h.len
  have hb := rd_byte h.bytes a
  refine ⟨(spec_l01Next.V l a s n).1, (spec_l01Next.V l a s n).2.1, (spec_l01Next.V l a s n).2.2, ?_, ?_⟩
  · unfold spec_l01Next.f
    rw [if_pos ⟨h.bytes, by omega, ⟨ha0, ha1⟩, hs, hs1⟩]
  · unfold spec_l01Next.V
    have hS0 : 0 ≤ (s * 48271 + 61) % 2147483647 := by omega
    have hS1 : (s * 48271 + 61) % 2147483647 < 2147483647 := by omega
    have modr : ∀ x : Int, 1 < n → 0 ≤ x % n ∧ x % n < n := fun x hn => ⟨Int.emod_nonneg _ (by omega), Int.emod_lt_of_pos _ (by omega)⟩
    by_cases hn : n ≤ 1
    · rw [if_pos hn]
      exact ⟨h, fun _ => ⟨by simp, by simp; omega⟩, fun _ => rfl⟩
    · rw [if_neg hn]
      by_cases c1 : a < (l.length : Int)
      · rw [if_pos c1]
        have ok1 : OkS l (a + 1) ((s * 48271 + 61) % 2147483647) := ⟨h.bytes, h.len, by omega, by omega, hS0, hS1⟩
        by_cases c2 : n ≤ 256 ∧ (a + 1) % 2 = 0
        · rw [if_pos c2]
          exact ⟨ok1, fun _ => modr _ (by omega), fun h1 => absurd h1 hn⟩
        · rw [if_neg c2]
          exact ⟨ok1, fun _ => modr _ (by omega), fun h1 => absurd h1 hn⟩
      · rw [if_neg c1]
        exact ⟨⟨h.bytes, h.len, ha0, ha1, hS0, hS1⟩, fun _ => modr _ (by omega), fun h1 => absurd h1 hn⟩
theorem from_loop (l : List Int) (hb : ∀ x ∈ l, 0 ≤ x ∧ x ≤ 255) (_hl : l.length ≤ 4096) (d : Nat) : ∀ (i : Nat) (s : Int), i + d = l.length → 0 ≤ s → s < 2147483647 → ∃ r, Ev (fun k => spec_l01From.l0 k l (i : Int) l 0 s) (l, 0, r) ∧ 0 ≤ r ∧ r < 2147483647 := by
  induction d with
  | zero =>
    intro i s hi h0 h1
    refine ⟨s, evSucc ?_, h0, h1⟩
    simp only [spec_l01From.l0, show ¬ ((i : Int) < (l.length : Int)) by omega, if_false]
    exact Ev.now _
  | succ d ih =>
    intro i s hi h0 h1
    by_cases h64 : (i : Int) < 64
    · have hr := rd_byte hb (i : Int)
      have he : Int.tmod (wrap64 ((wrap64 (s * 71)) + (wrap64 (rd l (i : Int))))) 2147483647 = (s * 71 + rd l (i : Int)) % 2147483647 := by
        rw [wrapIn (x := s * 71) (by omega) (by omega), wrapIn (x := rd l (i : Int)) (by omega) (by omega), wrapIn (by omega) (by omega), Int.tmod_eq_emod_of_nonneg (by omega)]
      obtain ⟨r, hr1, hr2, hr3⟩ := ih (i + 1) ((s * 71 + rd l (i : Int)) % 2147483647) (by omega) (by omega) (by omega)
      refine ⟨r, evSucc ?_, hr2, hr3⟩
      simp only [spec_l01From.l0, show (i : Int) < (l.length : Int) by omega, h64, show (0 : Int) ≤ (i : Int) by omega, if_true, he, wrapNat (show i < 4611686018427387904 by omega)]
      exact hr1
    · refine ⟨s, evSucc ?_, h0, h1⟩
      simp only [spec_l01From.l0, show (i : Int) < (l.length : Int) by omega, h64, if_true, if_false]
      exact Ev.now _
theorem from_ok (l : List Int) (hw : ∀ x ∈ l, (Lit.int .u8 x).wf = true) (hl : l.length ≤ 4096) : ∃ s, Ev (fun k => spec_l01From.f k l) (l, 0, s) ∧ OkS l 0 s := by
  have hb : ∀ x ∈ l, 0 ≤ x ∧ x ≤ 255 := fun x hx => by
    have := hw x hx
    simp [Lit.wf, IntKind.min, IntKind.max, IntKind.signed, IntKind.bits] at this
    omega
  obtain ⟨r, h1, h2, h3⟩ := from_loop l hb hl l.length 0 88007 (by omega) (by omega) (by omega)
  refine ⟨r, ?_, ⟨hb, hl, by omega, by omega, h2, h3⟩⟩
  unfold spec_l01From.f
  exact h1

theorem pick_ok {l : List Int} {a s : Int} (h : OkS l a s) (xs : List Int) (h0 : 0 < xs.length) :
    ∃ r a' s', spec_l01Pick.f l a s xs = some (r, a', s') ∧ OkS l a' s' ∧ r ∈ xs := by
  obtain ⟨r, a', s', h1, h2, h3, _⟩ := next_ok h (xs.length : Int)
  obtain ⟨h4, h5⟩ := h3 (by omega)
  refine ⟨rd xs r, a', s', ?_, h2, ?_⟩
  · unfold spec_l01Pick.f
    rw [h1]
    simp only [Option.bind_some]
    rw [if_pos h4, if_pos h5]
  · unfold rd
    rw [List.getD_eq_getElem?_getD, List.getElem?_eq_getElem (show r.toNat < xs.length by omega)]
    exact List.getElem_mem _

theorem drawOf_l0 (l : List Int) (n d : Nat) : ∀ (i : Nat) (o : List Int) (a s : Int), OkS l a s → i + d = n → n ≤ 1000 → o.length = i → ∃ o' a' s', Ev (fun k => spec_l01DrawOf.l0 k (n : Int) o (i : Int) l a s) (o', a', s') ∧ OkS l a' s' ∧ o'.length = n := by
  induction d with
  | zero =>
    intro i o a s h hi hn ho
    refine ⟨o, a, s, evSucc ?_, h, by omega⟩
    simp only [spec_l01DrawOf.l0, show ¬ ((i : Int) < (n : Int)) by omega, if_false]
    exact Ev.now _
  | succ d ih =>
    intro i o a s h hi hn ho
    have w1 : wrap64 ((i : Int) + 1) = ((i + 1 : Nat) : Int) := wrapNat (by omega)
    obtain ⟨r, a', s', h1, h2, h3, _⟩ := next_ok h ((i + 1 : Nat) : Int)
    have h3 := h3 (by omega)
    obtain ⟨o', a2, s2, e2, k2, l2⟩ := ih (i + 1) (o.take r.toNat ++ [(i : Int)] ++ o.drop r.toNat) a' s' h2 (by omega) hn (by simp only [List.length_append, List.length_take, List.length_drop, List.length_singleton]; omega)
    refine ⟨o', a2, s2, evSucc ?_, k2, l2⟩
    simp only [spec_l01DrawOf.l0, show ((i : Int) < (n : Int)) by omega, if_true, w1, h1, Option.bind_some, h3.1, show r ≤ (o.length : Int) by omega, show o.length < 1099511627776 by omega]
    exact e2
theorem drawOf {l : List Int} {a s : Int} (h : OkS l a s) (n : Nat) (hn : n ≤ 1000) : ∃ o a' s', Ev (fun k => spec_l01DrawOf.f k l a s (n : Int)) (o, a', s') ∧ OkS l a' s' ∧ o.length = n := by
  unfold spec_l01DrawOf.f
  exact drawOf_l0 l n n 0 [] a s h (by omega) hn rfl

theorem drawSetup_l0 (l : List Int) : ∀ (d : Nat) (o : List S60) (a s : Int), OkS l a s → o.length + d ≤ 5 → ∃ u a' s', Ev (fun k => spec_l13DrawSetup.l0 k o (d : Int) l a s) (u, a', s') ∧ OkS l a' s' ∧ u.length ≤ 10 := by
  intro d
  induction d with
  | zero =>
    intro o a s h ho
    obtain ⟨r1, a1, s1, h1, k1, _⟩ := next_ok h 60
    by_cases c1 : r1 = 0
    · obtain ⟨r2, a2, s2, h2, k2, h3, _⟩ := next_ok k1 2
      have h3 := h3 (by decide)
      have hw : wrap64 (6 + r2) = 6 + r2 := wrapIn (by omega) (by omega)
      refine ⟨List.replicate (6 + r2).toNat z60, a2, s2, evSucc ?_, k2, ?_⟩
      · simp only [spec_l13DrawSetup.l0, show ¬ (((0 : Nat) : Int) > 0) by decide, if_false, h1, Option.bind_some, c1, if_true, h2, hw, show (0 : Int) ≤ 6 + r2 by omega, show (6 + r2).toNat ≤ 11728124029610 by omega]
        exact Ev.now _
      · rw [List.length_replicate]; omega
    · by_cases c2 : r1 = 1
      · obtain ⟨r2, a2, s2, h2, k2, _⟩ := pick_ok k1 [-1, 1000000000, 1000000001] (by decide)
        refine ⟨o ++ [(⟨false, r2, false⟩ : S60)], a2, s2, evSucc ?_, k2, ?_⟩
        · simp only [spec_l13DrawSetup.l0, show ¬ (((0 : Nat) : Int) > 0) by decide, if_false, h1, Option.bind_some, c2, show ¬ ((1 : Int) = 0) by decide, if_true, h2, show o.length < 5864062014805 by omega]
          exact Ev.now _
        · rw [List.length_append, List.length_singleton]; omega
      · refine ⟨o, a1, s1, evSucc ?_, k1, ?_⟩
        · simp only [spec_l13DrawSetup.l0, show ¬ (((0 : Nat) : Int) > 0) by decide, if_false, h1, Option.bind_some, c1, c2]
          exact Ev.now _
        · omega
  | succ d ih =>
    intro o a s h ho
    obtain ⟨r1, a1, s1, h1, k1, _⟩ := next_ok h 2
    obtain ⟨r2, a2, s2, h2, k2, _⟩ := next_ok k1 3
    obtain ⟨r3, a3, s3, h3, k3, _⟩ := next_ok k2 2
    obtain ⟨u, a', s', h4, k4, h5⟩ := ih (o ++ [(⟨(r1 == 0), wrap64 (100 * r2), (r3 == 0)⟩ : S60)]) a3 s3 k3 (by rw [List.length_append, List.length_singleton]; omega)
    refine ⟨u, a', s', evSucc ?_, k4, h5⟩
    have hw : wrap64 (((d + 1 : Nat) : Int) - 1) = (d : Int) := by rw [wrapIn (by omega) (by omega)]; omega
    simp only [spec_l13DrawSetup.l0, show ((d + 1 : Nat) : Int) > 0 by omega, if_true, h1, h2, h3, Option.bind_some, show o.length < 5864062014805 by omega, hw]
    exact h4
theorem drawSetup {l : List Int} {a s : Int} (h : OkS l a s) : ∃ u a' s', Ev (fun k => spec_l13DrawSetup.f k l a s) (u, a', s') ∧ OkS l a' s' ∧ u.length ≤ 10 := by
  obtain ⟨r1, a1, s1, h1, k1, h2, _⟩ := next_ok h 5
  have h2 := h2 (by decide)
  obtain ⟨n, rfl⟩ := Int.eq_ofNat_of_zero_le h2.1
  obtain ⟨u, a', s', h3, k3, h4⟩ := drawSetup_l0 l n [] a1 s1 k1 (by simp; omega)
  refine ⟨u, a', s', ?_, k3, h4⟩
  unfold spec_l13DrawSetup.f
  simp only [h1, Option.bind_some]
  exact h3
theorem drawSetups_l0 (l : List Int) : ∀ (d : Nat) (o : List (List S60)) (a s : Int), OkS l a s → o.length + d ≤ 5 → (∀ x ∈ o, x.length ≤ 10) → ∃ u a' s', Ev (fun k => spec_l13DrawSetups.l0 k o (d : Int) l a s) (u, a', s') ∧ OkS l a' s' ∧ u.length ≤ 10 ∧ ∀ x ∈ u, x.length ≤ 10 := by
  intro d
  induction d with
  | zero =>
    intro o a s h ho hx
    obtain ⟨r1, a1, s1, h1, k1, _⟩ := next_ok h 40
    by_cases c1 : r1 = 0
    · refine ⟨List.replicate 8 [], a1, s1, evSucc ?_, k1, by simp, fun x hx => by rw [List.eq_of_mem_replicate hx]; simp⟩
      simp only [spec_l13DrawSetups.l0, show ¬ (((0 : Nat) : Int) > 0) by decide, if_false, h1, Option.bind_some, c1, if_true, show (8 : Nat) ≤ 11728124029610 by decide]
      exact Ev.now _
    · refine ⟨o, a1, s1, evSucc ?_, k1, by omega, hx⟩
      simp only [spec_l13DrawSetups.l0, show ¬ (((0 : Nat) : Int) > 0) by decide, if_false, h1, Option.bind_some, c1]
      exact Ev.now _
  | succ d ih =>
    intro o a s h ho hx
    obtain ⟨x1, a1, s1, h1, k1, l1⟩ := drawSetup h
    obtain ⟨u, a', s', h4, k4, h5⟩ := ih (o ++ [x1]) a1 s1 k1 (by rw [List.length_append, List.length_singleton]; omega) (fun x hm => by
      rw [List.mem_append, List.mem_singleton] at hm
      rcases hm with hm | rfl
      · exact hx x hm
      · exact l1)
    refine ⟨u, a', s', evSucc ?_, k4, h5⟩
    have hw : wrap64 (((d + 1 : Nat) : Int) - 1) = (d : Int) := by rw [wrapIn (by omega) (by omega)]; omega
    simp only [spec_l13DrawSetups.l0, show ((d + 1 : Nat) : Int) > 0 by omega, if_true]
    refine Ev.bind h1 ?_
    simp only [show o.length < 5864062014805 by omega, if_true, hw]
    exact h4
theorem drawSetups {l : List Int} {a s : Int} (h : OkS l a s) : ∃ u a' s', Ev (fun k => spec_l13DrawSetups.f k l a s) (u, a', s') ∧ OkS l a' s' ∧ u.length ≤ 10 ∧ ∀ x ∈ u, x.length ≤ 10 := by
  obtain ⟨r1, a1, s1, h1, k1, h2, _⟩ := next_ok h 5
  have h2 := h2 (by decide)
  obtain ⟨n, rfl⟩ := Int.eq_ofNat_of_zero_le h2.1
  obtain ⟨u, a', s', h3, k3, h4⟩ := drawSetups_l0 l n [] a1 s1 k1 (by simp; omega) (by simp)
  refine ⟨u, a', s', ?_, k3, h4⟩
  unfold spec_l13DrawSetups.f
  simp only [h1, Option.bind_some]
  exact h3
theorem drawOrder {l : List Int} {a s : Int} (h : OkS l a s) : ∃ u a' s', Ev (fun k => spec_l01DrawOrder.f k l a s) (u, a', s') ∧ OkS l a' s' ∧ u.length ≤ 100 := by
  obtain ⟨r1, a1, s1, h1, k1, m1⟩ := pick_ok h [6, 9, 14] (by decide)
  have hr1 : 1 ≤ r1 ∧ r1 ≤ 14 := by simp at m1; omega
  obtain ⟨r2, a2, s2, h2, k2, h3, _⟩ := next_ok k1 r1
  have h3 := h3 (by omega)
  obtain ⟨n, rfl⟩ := Int.eq_ofNat_of_zero_le h3.1
  obtain ⟨o, a3, s3, h4, k3, l3⟩ := drawOf k2 n (by omega)
  obtain ⟨r4, a4, s4, h5, k4, _⟩ := next_ok k3 24
  by_cases c0 : r4 = 0
  · obtain ⟨r5, a5, s5, h6, k5, _⟩ := pick_ok k4 [-1, 0, (o.length : Int), wrap64 ((o.length : Int) + 1)] (by simp)
    refine ⟨o ++ [r5], a5, s5, ?_, k5, by rw [List.length_append, List.length_singleton]; omega⟩
    unfold spec_l01DrawOrder.f
    simp only [h1, h2, Option.bind_some]
    refine Ev.bind h4 ?_
    simp only [h5, Option.bind_some, c0, if_true, h6, show o.length < 17592186044416 by omega]
    exact Ev.now _
  · by_cases c1 : r4 = 1
    · obtain ⟨r5, a5, s5, h6, k5, h7, _⟩ := next_ok k4 2
      have h7 := h7 (by decide)
      obtain ⟨m, rfl⟩ := Int.eq_ofNat_of_zero_le h7.1
      obtain ⟨o2, a6, s6, h8, k6, l6⟩ := drawOf k5 (64 + m) (by omega)
      have hw : wrap64 (64 + (m : Int)) = ((64 + m : Nat) : Int) := by rw [wrapIn (by omega) (by omega)]; omega
      refine ⟨o2, a6, s6, ?_, k6, by omega⟩
      unfold spec_l01DrawOrder.f
      simp only [h1, h2, Option.bind_some]
      refine Ev.bind h4 ?_
      simp only [h5, Option.bind_some, c1, show ¬ ((1 : Int) = 0) by decide, if_true, if_false, h6, hw]
      exact Ev.bind h8 (Ev.now _)
    · refine ⟨o, a4, s4, ?_, k4, by omega⟩
      unfold spec_l01DrawOrder.f
      simp only [h1, h2, Option.bind_some]
      refine Ev.bind h4 ?_
      simp only [h5, Option.bind_some, c0, c1, if_false]
      exact Ev.now _
theorem drawEffort (l : List Int) (hw : ∀ x ∈ l, (Lit.int .u8 x).wf = true) (hl : l.length ≤ 4096) : ∃ u o, Ev (fun k => spec_DrawEffortOf.f k l) (u, o) ∧ u.length ≤ 10 ∧ (∀ x ∈ u, x.length ≤ 10) ∧ o.length ≤ 100 := by
  obtain ⟨s0, h0, o0⟩ := from_ok l hw hl
  obtain ⟨u, a1, s1, h1, k1, l1, x1⟩ := drawSetups o0
  obtain ⟨r2, a2, s2, h2, k2, _⟩ := next_ok k1 16
  by_cases c : r2 = 0
  · obtain ⟨o, a3, s3, h3, k3, l3⟩ := drawOrder k2
    refine ⟨u, o, ?_, l1, x1, l3⟩
    unfold spec_DrawEffortOf.f
    refine Ev.bind h0 (Ev.bind h1 ?_)
    simp only [h2, Option.bind_some, c, if_true]
    exact Ev.bind h3 (Ev.now _)
  · obtain ⟨o, a3, s3, h3, k3, l3⟩ := drawOf k2 u.length (by omega)
    refine ⟨u, o, ?_, l1, x1, by omega⟩
    unfold spec_DrawEffortOf.f
    refine Ev.bind h0 (Ev.bind h1 ?_)
    simp only [h2, Option.bind_some, c, if_false]
    exact Ev.bind h3 (Ev.now _)
theorem drawCount (l : List Int) (hw : ∀ x ∈ l, (Lit.int .u8 x).wf = true) (hl : l.length ≤ 4096) : ∃ u v, Ev (fun k => spec_DrawCountChanges.f k l) (u, v) ∧ u.length ≤ 100 ∧ v.length ≤ 100 := by
  obtain ⟨s0, h0, o0⟩ := from_ok l hw hl
  obtain ⟨u, a1, s1, h1, k1, l1⟩ := drawSetup o0
  obtain ⟨r2, a2, s2, h2, k2, _⟩ := next_ok k1 3
  obtain ⟨v, a3, s3, h3, k3, l3⟩ := drawSetup k2
  by_cases c : r2 = 0
  · refine ⟨u, u ++ v, ?_, by omega, by rw [List.length_append]; omega⟩
    unfold spec_DrawCountChanges.f
    refine Ev.bind h0 (Ev.bind h1 ?_)
    simp only [h2, Option.bind_some, c, if_true, List.length_nil, Nat.zero_add, show u.length < 5864062014805 by omega, List.nil_append]
    refine Ev.bind h3 ?_
    simp only [show u.length + v.length < 5864062014805 by omega, if_true]
    exact Ev.now _
  · refine ⟨u, v, ?_, by omega, by omega⟩
    unfold spec_DrawCountChanges.f
    refine Ev.bind h0 (Ev.bind h1 ?_)
    simp only [h2, Option.bind_some, c, if_false]
    exact Ev.bind h3 (Ev.now _)

theorem same_ext (x y : List Int) (hl : x.length = y.length) : B (∀ j, 0 ≤ j → j < x.length → rd x ((j : Nat) : Int) = rd y ((j : Nat) : Int)) = decide (x = y) := by
  rw [← B_dec (x = y)]
  refine B_congr ⟨fun h => List.ext_getElem hl (fun i h1 h2 => ?_), fun h => by subst h; exact fun _ _ _ => rfl⟩
  have := h i (Nat.zero_le _) h1
  rwa [rdN x i h1, rdN y i h2] at this

theorem likeI (x y : List Int) (hx : x.length ≤ 1048576) : Ev (fun k => laws_likeInts.f k x y) (decide (x = y)) := by
  unfold laws_likeInts.f
  by_cases hl : x.length = y.length
  · simp only [show ((x.length : Int) = (y.length : Int)) by omega, if_true]
    have := evAllC (fun k j => laws_likeInts.l0 k x y j) 0 x.length (fun j => rd x (j : Int) = rd y (j : Int)) ?_ ?_ true ?_ (Nat.zero_le _)
    · rw [same_ext x y hl, Bool.and_true] at this
      exact this
    · intro j _ hj hg r hr
      refine evSucc ?_
      simp only [laws_likeInts.l0, show (j : Int) < (y.length : Int) by omega, show (j : Int) < (x.length : Int) by omega, show (0 : Int) ≤ (j : Int) by omega, if_true, hg, wrapNat (show j < 4611686018427387904 by omega)]
      exact hr
    · intro j _ hj hg
      refine evSucc ?_
      simp only [laws_likeInts.l0, show (j : Int) < (y.length : Int) by omega, show (j : Int) < (x.length : Int) by omega, show (0 : Int) ≤ (j : Int) by omega, if_true, hg, if_false]
      exact Ev.now _
    · intro _
      refine evSucc ?_
      simp only [laws_likeInts.l0, hl, Int.lt_irrefl, if_false]
      exact Ev.now _
  · simp only [show ¬ ((x.length : Int) = (y.length : Int)) by omega, if_false]
    rw [decide_eq_false (fun h => hl (by rw [h]))]
    exact Ev.now _

theorem best_len (l : List (List S60)) (h : (bestR l).2.2 = 0 ∨ True) : (bestR l).1.length ≤ 1048576 := by
  unfold bestR
  by_cases hc : setupsV l = 0
  · rw [if_pos hc]
    have hs := setups_ok hc
    have hp := fct_pos l.length
    obtain ⟨⟨j, hj, e⟩, _⟩ := best_min hs (fct l.length - 1) (by omega)
    rw [Nat.sub_add_cancel hp] at e
    simp only [e, ofRank_len]
    omega
  · rw [if_neg hc]
    simp
theorem FnEfforts : laws_FnEfforts.Pure := by
  intro l _ _ hw
  refine Ev.rounds ?_
  unfold laws_FnEfforts.f laws_big.f
  simp only [Option.bind_some]
  by_cases hb : (l.length : Int) > 4096
  · simp only [hb, decide_true, if_true]
    exact Ev.now _
  · simp only [hb, decide_false, Bool.false_eq_true, if_false]
    have hl : l.length ≤ 4096 := by omega
    obtain ⟨u, o, h0, lu, lx, lo⟩ := drawEffort l hw hl
    obtain ⟨a, b, h1, la, lb⟩ := drawCount l hw hl
    have hE := effort_vals u o (by omega) (fun x hx => by have := lx x hx; omega) (by omega)
    have hC := count_vals a b (by omega) (by omega)
    have hC2 := count_vals b a (by omega) (by omega)
    rw [count_symm a b] at hC2
    have hbl := best_len u (.inr trivial)
    have hP := effort_vals u (bestR u).1 (by omega) (fun x hx => by have := lx x hx; omega) hbl
    refine Ev.bind h0 (Ev.bind hE.2 (Ev.bind hE.1 (Ev.bind (bestI u) (Ev.bind (bestS u (by omega) (fun x hx => by have := lx x hx; omega)) (Ev.bind h1 (Ev.bind hC.2 (Ev.bind hC.1 (Ev.bind hC2.2 ?_))))))))
    simp only [if_true]
    refine Ev.bind (likeI _ _ hbl) ?_
    simp only [decide_true, if_true, bne_self_eq_false]
    have hend : Ev (fun k => laws_FnEfforts.j1 k u (effortR u o).1 (effortR u o).2 (bestR u).1 (bestR u).2.1 (bestR u).2.2 false) true := by
      refine evSucc ?_
      simp only [laws_FnEfforts.j1, Bool.false_eq_true, if_false]
      by_cases c : (effortR u o).2 = 0
      · obtain ⟨b1, b2, b3⟩ := best_ok u o c
        simp only [c, if_true]
        refine Ev.bind hP.2 ?_
        simp only [b1, b2, b3, if_true, beq_self_eq_true]
        exact Ev.now _
      · simp only [c, if_false]
        exact Ev.now _
    refine evSucc ?_
    simp only [laws_FnEfforts.j0, Bool.false_eq_true, if_false]
    by_cases c : (countR a b).2 = 0
    · obtain ⟨sa, sb, hle, l6, l6'⟩ := count_le a b c
      have na := count_vals a [] (by omega) (by simp)
      have nb := count_vals [] b (by simp) (by omega)
      rw [count_nil a sa] at na
      rw [← count_symm, count_nil b sb] at nb
      simp only [c, if_true, Option.bind_some]
      refine Ev.bind na.2 (Ev.bind nb.2 ?_)
      simp only [if_true, show wrap64 ((a.length : Int) + (b.length : Int)) = (a.length : Int) + (b.length : Int) from wrapIn (by omega) (by omega), show ¬ ((countR a b).1 > (a.length : Int) + (b.length : Int)) by omega, decide_false]
      exact hend
    · simp only [c, if_false]
      by_cases c2 : (effortR u o).2 = 0
      · obtain ⟨b1, b2, b3⟩ := best_ok u o c2
        simp only [c2, if_true]
        refine Ev.bind hP.2 ?_
        simp only [b1, b2, b3, if_true, beq_self_eq_true]
        exact Ev.now _
      · simp only [c2, if_false]
        exact Ev.now _

end Go.Proofs.Ytpndkekgoadjkaa.Pure
