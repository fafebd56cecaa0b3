/- The program and the reference tell the same best order of sets of units and its effort, for every list of sets; what is handed back is the caller's own. -/
import Derived.Test.YtpndkekgoadjkaaSayFnExactBestJobOrder
namespace Go.Proofs.Ytpndkekgoadjkaa.Pure
open Go.RowKit Go.Proofs.Ytpndkekgoadjkaa.PFnExactBestJobOrder Go.Proofs.YtpndkekgoadjkaaW.PrintWords Go.Proofs.YtpndkekgoadjkaaW.PrintLast
set_option linter.unusedVariables false
set_option linter.unusedSimpArgs false
-- BEGIN
/-- A proposition as a bool. -/
noncomputable def B (p : Prop) : Bool := @decide p (Classical.propDecidable p)
theorem B_iff {p : Prop} : B p = true ↔ p := by unfold B; exact @decide_eq_true_iff p (Classical.propDecidable p)
theorem B_true {p : Prop} (h : p) : B p = true := B_iff.2 h
theorem B_false {p : Prop} (h : ¬ p) : B p = false := by cases e : B p with | false => rfl | true => exact absurd (B_iff.1 e) h
theorem B_congr {p q : Prop} (h : p ↔ q) : B p = B q := by rw [propext h]
theorem B_dec (p : Prop) [Decidable p] : B p = decide p := by by_cases h : p <;> simp [h, B_true, B_false]
theorem B_and (p q : Prop) : (B p && B q) = B (p ∧ q) := by
  by_cases hp : p <;> by_cases hq : q <;> simp [B_true, B_false, hp, hq]
theorem B_not (p : Prop) : (!B p) = B (¬ p) := by by_cases hp : p <;> simp [B_true, B_false, hp]
theorem evSucc {α : Type} {g : Nat → Option α} {r : α} (h : Ev (fun k => g (k + 1)) r) : Ev g r := Ev.step (fun _ => rfl) h
theorem evNow {α : Type} {g : Nat → Option α} {r : α} (h : ∀ k, g k = some r) : Ev g r := ⟨0, fun k _ => h k⟩
theorem evCount {σ α : Type} (F : Nat → σ → Int → Option α) (i0 n : Nat) (S : Nat → σ) (r : α)
    (hstep : ∀ i, i0 ≤ i → i < n → Ev (fun k => F k (S (i + 1)) ((i + 1 : Nat) : Int)) r → Ev (fun k => F k (S i) (i : Int)) r) (hend : Ev (fun k => F k (S n) (n : Int)) r) (hle : i0 ≤ n) : Ev (fun k => F k (S i0) (i0 : Int)) r := by
  have key : ∀ d i, i0 ≤ i → i + d = n → Ev (fun k => F k (S i) (i : Int)) r := by
    intro d
    induction d with
    | zero =>
      intro i _ hi
      have h0 : i = n := by omega
      subst h0
      exact hend
    | succ d ih => intro i h0 hi; exact hstep i h0 (by omega) (ih (i + 1) (by omega) (by omega))
  exact key (n - i0) i0 (Nat.le_refl _) (by omega)
/-- A loop that leaves at the first place where G fails. -/
theorem evAll (F : Nat → Int → Option Bool) (i0 n : Nat) (G : Nat → Prop)
    (hstep : ∀ i, i0 ≤ i → i < n → G i → ∀ r, Ev (fun k => F k ((i + 1 : Nat) : Int)) r → Ev (fun k => F k (i : Int)) r) (hbad : ∀ i, i0 ≤ i → i < n → ¬ G i → Ev (fun k => F k (i : Int)) false) (e : Bool) (hend : Ev (fun k => F k (n : Int)) e) (hle : i0 ≤ n) :
    Ev (fun k => F k (i0 : Int)) (B (∀ j, i0 ≤ j → j < n → G j) && e) := by
  have key : ∀ d i, i0 ≤ i → i + d = n → Ev (fun k => F k (i : Int)) (B (∀ j, i ≤ j → j < n → G j) && e) := by
    intro d
    induction d with
    | zero =>
      intro i _ hi
      have h0 : i = n := by omega
      subst h0
      rw [B_true (fun j h1 h2 => absurd h2 (by omega)), Bool.true_and]
      exact hend
    | succ d ih =>
      intro i h0 hi
      by_cases hg : G i
      · have h1 : B (∀ j, i ≤ j → j < n → G j) = B (∀ j, i + 1 ≤ j → j < n → G j) := B_congr ⟨fun h j a b => h j (by omega) b, fun h j a b => by
          by_cases e : j = i
          · subst e; exact hg
          · exact h j (by omega) b⟩
        rw [h1]
        exact hstep i h0 (by omega) hg _ (ih (i + 1) (by omega) (by omega))
      · rw [B_false (fun h => hg (h i (Nat.le_refl _) (by omega))), Bool.false_and]
        exact hbad i h0 (by omega) hg
  exact key (n - i0) i0 (Nat.le_refl _) (by omega)
theorem wrapNat {i : Nat} (h : i < 4611686018427387904) : wrap64 ((i : Int) + 1) = ((i + 1 : Nat) : Int) := by
  unfold wrap64; omega
theorem wrapPred {i : Nat} (h0 : 1 ≤ i) (h : i < 4611686018427387904) : wrap64 ((i : Int) - 1) = ((i - 1 : Nat) : Int) := by
  unfold wrap64; omega
theorem rdN (xs : List Int) (i : Nat) (h : i < xs.length) : rd xs (i : Int) = xs[i] := by
  simp [rd, List.getD_eq_getElem?_getD, List.getElem?_eq_getElem h]
theorem fillStep {α : Type} (xs : List α) (z : α) (i : Nat) (h : i < xs.length) : (xs.take i ++ List.replicate (xs.length - i) z).set i xs[i] = xs.take (i + 1) ++ List.replicate (xs.length - (i + 1)) z := by
  have h1 : xs.length - i = (xs.length - (i + 1)) + 1 := by omega
  rw [h1, List.replicate_succ, List.set_append_right _ _ (by rw [List.length_take]; omega)]
  rw [List.length_take, Nat.min_eq_left (by omega), Nat.sub_self, List.set_cons_zero, List.take_succ_eq_append_getElem h, List.append_assoc]
  rfl
theorem fillLen {α : Type} (xs : List α) (z : α) (i : Nat) (h : i ≤ xs.length) : (xs.take i ++ List.replicate (xs.length - i) z).length = xs.length := by
  simp; omega

theorem inS (a b c : Int) : spec_l01In.f a b c = some (decide (b ≤ a ∧ a ≤ c)) := by
  unfold spec_l01In.f
  by_cases h : b ≤ a <;> simp [h]

theorem rd60 (xs : List S60) (i : Nat) (h : i < xs.length) : rd_T60 xs (i : Int) = xs[i] := by
  simp [rd_T60, List.getD_eq_getElem?_getD, List.getElem?_eq_getElem h]

def setupB (l : List S60) : Bool := decide (l.length ≤ 6) && l.all fun u => decide (0 ≤ u.f1 ∧ u.f1 ≤ 1000000000)
theorem setupI (l : List S60) : impl_isSetup.f l = some (setupB l) := rfl
theorem setupS (l : List S60) (h : l.length ≤ 1048576) : Ev (fun k => spec_l13Setup.f k l) (setupB l) := by
  unfold spec_l13Setup.f
  have := evAll (fun k i => spec_l13Setup.l0 k l i) 0 l.length (fun i => 0 ≤ (rd_T60 l (i : Int)).f1 ∧ (rd_T60 l (i : Int)).f1 ≤ 1000000000) ?_ ?_ (decide ((l.length : Int) ≤ 6)) ?_ (Nat.zero_le _)
  · have e : setupB l = (B (∀ j, 0 ≤ j → j < l.length → 0 ≤ (rd_T60 l (j : Int)).f1 ∧ (rd_T60 l (j : Int)).f1 ≤ 1000000000) && decide ((l.length : Int) ≤ 6)) := by
      unfold setupB
      rw [Bool.and_comm]
      congr 1
      · rw [Bool.eq_iff_iff, B_iff, List.all_eq_true]
        refine ⟨fun hx j _ hj => ?_, fun hx u hu => ?_⟩
        · have := hx l[j] (List.getElem_mem hj)
          rw [rd60 l j hj]
          exact of_decide_eq_true this
        · obtain ⟨j, hj, rfl⟩ := List.getElem_of_mem hu
          have := hx j (Nat.zero_le _) hj
          rw [rd60 l j hj] at this
          exact decide_eq_true this
      · exact decide_eq_decide.2 (by omega)
    rw [e]
    exact this
  · intro i _ hi hg r hr
    refine evSucc ?_
    simp only [spec_l13Setup.l0, show (i : Int) < (l.length : Int) by omega, show (0 : Int) ≤ (i : Int) by omega, if_true, inS, Option.bind_some, decide_eq_true_eq, hg, and_self, wrapNat (show i < 4611686018427387904 by omega)]
    exact hr
  · intro i _ hi hg
    refine evSucc ?_
    simp only [spec_l13Setup.l0, show (i : Int) < (l.length : Int) by omega, show (0 : Int) ≤ (i : Int) by omega, if_true, inS, Option.bind_some, decide_eq_true_eq, hg, if_false]
    exact Ev.now _
  · refine evSucc ?_
    simp only [spec_l13Setup.l0, Int.lt_irrefl, if_false]
    exact Ev.now _
theorem setup_len {l : List S60} (h : setupB l = true) : l.length ≤ 6 := by
  simp only [setupB, Bool.and_eq_true, decide_eq_true_eq] at h
  exact h.1

theorem wrapIn {x : Int} (h0 : -9223372036854775808 ≤ x) (h1 : x ≤ 9223372036854775807) : wrap64 x = x := by
  unfold wrap64; omega

def chgP (l m : List S60) (i : Nat) : Prop := l.length ≤ i ∨ m.length ≤ i ∨ (!(((rd_T60 l (i : Int)).f0) == ((rd_T60 m (i : Int)).f0)) || (!(((rd_T60 l (i : Int)).f1) == ((rd_T60 m (i : Int)).f1)) || (!(((rd_T60 l (i : Int)).f2) == ((rd_T60 m (i : Int)).f2))))) = true
instance (l m : List S60) (i : Nat) : Decidable (chgP l m i) := by unfold chgP; exact inferInstance
def chgN (l m : List S60) : Nat → Nat
  | 0 => 0
  | i + 1 => chgN l m i + (if chgP l m i then 1 else 0)
theorem chgN_le (l m : List S60) : ∀ i : Nat, chgN l m i ≤ i
  | 0 => Nat.le_refl _
  | i + 1 => by
    have := chgN_le l m i
    simp only [chgN]
    split <;> omega
theorem chgI (l m : List S60) (hl : l.length ≤ 6) (hm : m.length ≤ 6) : Ev (fun k => impl_changes.f k l m) ((chgN l m (max l.length m.length) : Nat) : Int) := by
  unfold impl_changes.f
  have e : mx (l.length : Int) (m.length : Int) = ((max l.length m.length : Nat) : Int) := by
    unfold mx
    split <;> omega
  rw [e]
  refine evCount (fun k (s : Int) i => impl_changes.l0 k l m s ((max l.length m.length : Nat) : Int) i) 0 (max l.length m.length) (fun i => ((chgN l m i : Nat) : Int)) _ ?_ ?_ (Nat.zero_le _)
  · intro i _ hi hr
    refine evSucc ?_
    have hc := chgN_le l m i
    have hw := wrapNat (show i < 4611686018427387904 by omega)
    have hw2 := wrapNat (show chgN l m i < 4611686018427387904 by omega)
    have hw3 : wrap64 (((chgN l m i : Nat) : Int) + 0) = ((chgN l m i : Nat) : Int) := by rw [Int.add_zero]; exact wrapIn (by omega) (by omega)
    simp only [impl_changes.l0, show (i : Int) < ((max l.length m.length : Nat) : Int) by omega, if_true, impl_toInt.f, Option.bind_some]
    simp only [chgN] at hr
    by_cases a : l.length ≤ i
    · simp only [show (i : Int) ≥ (l.length : Int) by omega, if_true, hw, hw2]
      rw [if_pos (show chgP l m i from Or.inl a)] at hr
      exact hr
    · by_cases b : m.length ≤ i
      · simp only [show ¬ ((i : Int) ≥ (l.length : Int)) by omega, show (i : Int) ≥ (m.length : Int) by omega, if_true, if_false, hw, hw2]
        rw [if_pos (show chgP l m i from Or.inr (Or.inl b))] at hr
        exact hr
      · simp only [show ¬ ((i : Int) ≥ (l.length : Int)) by omega, show ¬ ((i : Int) ≥ (m.length : Int)) by omega, show (0 : Int) ≤ (i : Int) by omega, show (i : Int) < (l.length : Int) by omega, show (i : Int) < (m.length : Int) by omega, if_true, if_false, hw]
        by_cases c : (!(((rd_T60 l (i : Int)).f0) == ((rd_T60 m (i : Int)).f0)) || (!(((rd_T60 l (i : Int)).f1) == ((rd_T60 m (i : Int)).f1)) || (!(((rd_T60 l (i : Int)).f2) == ((rd_T60 m (i : Int)).f2))))) = true
        · rw [if_pos (show chgP l m i from Or.inr (Or.inr c))] at hr
          simp only [c, if_true, Option.bind_some, hw2]
          exact hr
        · rw [if_neg (show ¬ chgP l m i from fun h => h.elim a fun h => h.elim b c)] at hr
          simp only [c, if_false, Bool.false_eq_true, Option.bind_some, hw3]
          exact hr
  · refine evSucc ?_
    simp only [impl_changes.l0, Int.lt_irrefl, if_false]
    exact Ev.now _
theorem chgS (l m : List S60) (hl : l.length ≤ 6) (hm : m.length ≤ 6) : Ev (fun k => spec_l13Changes.f k l m) ((chgN l m (max l.length m.length) : Nat) : Int) := by
  unfold spec_l13Changes.f
  refine evCount (fun k (s : Int) i => spec_l13Changes.l0 k l m s i) 0 (max l.length m.length) (fun i => ((chgN l m i : Nat) : Int)) _ ?_ ?_ (Nat.zero_le _)
  · intro i _ hi hr
    have hc := chgN_le l m i
    have hw := wrapNat (show i < 4611686018427387904 by omega)
    have hw2 := wrapNat (show chgN l m i < 4611686018427387904 by omega)
    have hj : Ev (fun k => spec_l13Changes.j1 k l m ((chgN l m i : Nat) : Int) (i : Int) true) ((chgN l m (max l.length m.length) : Nat) : Int) := by
      refine evSucc ?_
      simp only [spec_l13Changes.j1, if_true]
      simp only [chgN] at hr
      by_cases a : l.length ≤ i
      · simp only [show (i : Int) ≥ (l.length : Int) by omega, if_true, hw, hw2]
        rw [if_pos (show chgP l m i from Or.inl a)] at hr
        exact hr
      · by_cases b : m.length ≤ i
        · simp only [show ¬ ((i : Int) ≥ (l.length : Int)) by omega, show (i : Int) ≥ (m.length : Int) by omega, if_true, if_false, hw, hw2]
          rw [if_pos (show chgP l m i from Or.inr (Or.inl b))] at hr
          exact hr
        · simp only [show ¬ ((i : Int) ≥ (l.length : Int)) by omega, show ¬ ((i : Int) ≥ (m.length : Int)) by omega, show (0 : Int) ≤ (i : Int) by omega, show (i : Int) < (l.length : Int) by omega, show (i : Int) < (m.length : Int) by omega, if_true, if_false, hw]
          by_cases c : (!(((rd_T60 l (i : Int)).f0) == ((rd_T60 m (i : Int)).f0)) || (!(((rd_T60 l (i : Int)).f1) == ((rd_T60 m (i : Int)).f1)) || (!(((rd_T60 l (i : Int)).f2) == ((rd_T60 m (i : Int)).f2))))) = true
          · rw [if_pos (show chgP l m i from Or.inr (Or.inr c))] at hr
            simp only [c, if_true, hw2]
            exact hr
          · rw [if_neg (show ¬ chgP l m i from fun h => h.elim a fun h => h.elim b c)] at hr
            simp only [c, if_false, Bool.false_eq_true]
            exact hr
    refine evSucc ?_
    by_cases a : l.length ≤ i
    · simp only [spec_l13Changes.l0, show ¬ ((i : Int) < (l.length : Int)) by omega, if_false, show (i : Int) < (m.length : Int) by omega, decide_true]
      exact hj
    · simp only [spec_l13Changes.l0, show (i : Int) < (l.length : Int) by omega, if_true]
      exact hj
  · refine evSucc ?_
    simp only [spec_l13Changes.l0, show ¬ (((max l.length m.length : Nat) : Int) < (l.length : Int)) by omega, show ¬ (((max l.length m.length : Nat) : Int) < (m.length : Int)) by omega, if_false, decide_false]
    refine evSucc ?_
    simp only [spec_l13Changes.j1, Bool.false_eq_true, if_false]
    exact Ev.now _

theorem rdL5 (xs : List (List S60)) (i : Nat) (h : i < xs.length) : rd_L5 xs (i : Int) = xs[i] := by
  simp [rd_L5, List.getD_eq_getElem?_getD, List.getElem?_eq_getElem h]

def OrdAt (xs : List Int) (i : Nat) : Prop := (0 ≤ rd xs (i : Int) ∧ rd xs (i : Int) < xs.length) ∧ ¬ rd xs (i : Int) ∈ xs.take i

def setupsV (l : List (List S60)) : Int := if l.any impl_checkSetups.p = true then 1 else if l.length > 7 then 2 else 0
theorem setupsI (l : List (List S60)) : impl_checkSetups.f l = some (setupsV l) := rfl
theorem setupsP (s : List S60) : impl_checkSetups.p s = !setupB s := rfl
theorem setupsS (l : List (List S60)) (h : l.length ≤ 1048576) (hx : ∀ x ∈ l, x.length ≤ 1048576) : Ev (fun k => spec_l13Setups.f k l) (setupsV l) := by
  unfold spec_l13Setups.f
  have key : ∀ d i : Nat, i + d = l.length → Ev (fun k => spec_l13Setups.l0 k l (i : Int)) (if (l.drop i).any impl_checkSetups.p = true then 1 else if l.length > 7 then 2 else 0) := by
    intro d
    induction d with
    | zero =>
      intro i hi
      refine evSucc ?_
      rw [List.drop_of_length_le (by omega)]
      simp only [spec_l13Setups.l0, show ¬ ((i : Int) < (l.length : Int)) by omega, if_false, List.any_nil, Bool.false_eq_true]
      by_cases c : l.length > 7
      · simp only [show (l.length : Int) > 7 by omega, c, if_true]
        exact Ev.now _
      · simp only [show ¬ ((l.length : Int) > 7) by omega, c, if_false]
        exact Ev.now _
    | succ d ih =>
      intro i hi
      have hlt : i < l.length := by omega
      refine evSucc ?_
      simp only [spec_l13Setups.l0, show (i : Int) < (l.length : Int) by omega, show (0 : Int) ≤ (i : Int) by omega, if_true, rdL5 l i hlt, wrapNat (show i < 4611686018427387904 by omega)]
      refine Ev.bind (setupS l[i] (hx _ (List.getElem_mem hlt))) ?_
      rw [List.drop_eq_getElem_cons hlt, List.any_cons, setupsP]
      cases hb : setupB l[i] with
      | true =>
        simp only [if_true, Bool.not_true, Bool.false_or]
        exact ih (i + 1) (by omega)
      | false =>
        simp only [Bool.false_eq_true, if_false, Bool.not_false, Bool.true_or, if_true]
        exact Ev.now _
  have := key l.length 0 (by omega)
  rw [List.drop_zero] at this
  exact this
theorem setups_ok {l : List (List S60)} (h : setupsV l = 0) : l.length ≤ 7 ∧ ∀ x ∈ l, setupB x = true := by
  unfold setupsV at h
  by_cases c : l.any impl_checkSetups.p = true
  · rw [if_pos c] at h
    exact absurd h (by decide)
  · rw [if_neg c] at h
    by_cases c2 : l.length > 7
    · rw [if_pos c2] at h
      exact absurd h (by decide)
    · refine ⟨by omega, fun x hx => ?_⟩
      cases hb : setupB x with
      | true => rfl
      | false =>
        refine absurd (List.any_eq_true.2 ⟨x, hx, ?_⟩) c
        rw [setupsP, hb]
        rfl
noncomputable def orderB (xs : List Int) : Bool := decide (xs.length ≤ 64) && B (∀ i, i < xs.length → OrdAt xs i)
def effP (l : List (List S60)) (xs : List Int) : Nat → List S60
  | 0 => []
  | i + 1 => rd_L5 l (rd xs (i : Int))
def effV (l : List (List S60)) (xs : List Int) : Nat → Int
  | 0 => 0
  | i + 1 => effV l xs i + ((chgN (effP l xs i) (rd_L5 l (rd xs (i : Int))) (max (effP l xs i).length (rd_L5 l (rd xs (i : Int))).length) : Nat) : Int)
structure OkE (l : List (List S60)) (xs : List Int) : Prop where
  len : xs.length ≤ 64
  sets : ∀ x ∈ l, x.length ≤ 6
  at_ : ∀ i : Nat, i < xs.length → 0 ≤ rd xs (i : Int) ∧ rd xs (i : Int) < l.length
theorem effAt {l : List (List S60)} {xs : List Int} (ok : OkE l xs) (i : Nat) (hi : i < xs.length) : (rd_L5 l (rd xs (i : Int))).length ≤ 6 := by
  have h := ok.at_ i hi
  have e := rdL5 l (rd xs (i : Int)).toNat (by omega)
  rw [show (((rd xs (i : Int)).toNat : Nat) : Int) = rd xs (i : Int) by omega] at e
  rw [e]
  exact ok.sets _ (List.getElem_mem _)
theorem effP_len {l : List (List S60)} {xs : List Int} (ok : OkE l xs) : ∀ i : Nat, i ≤ xs.length → (effP l xs i).length ≤ 6
  | 0, _ => by simp [effP]
  | i + 1, hi => effAt ok i (by omega)
theorem effV_in {l : List (List S60)} {xs : List Int} (ok : OkE l xs) : ∀ i : Nat, i ≤ xs.length → 0 ≤ effV l xs i ∧ effV l xs i ≤ 6 * (i : Int)
  | 0, _ => by simp [effV]
  | i + 1, hi => by
    have ih := effV_in ok i (by omega)
    have h1 := effP_len ok i (by omega)
    have h2 := effAt ok i (by omega)
    have h3 := chgN_le (effP l xs i) (rd_L5 l (rd xs (i : Int))) (max (effP l xs i).length (rd_L5 l (rd xs (i : Int))).length)
    simp only [effV]
    omega
theorem effI {l : List (List S60)} {xs : List Int} (ok : OkE l xs) : Ev (fun k => impl_effort.f k l xs) (effV l xs xs.length) := by
  unfold impl_effort.f
  have hx := ok.len
  refine evCount (fun k (s : Int × List S60) i => impl_effort.l0 k l s.1 s.2 xs (xs.length : Int) i) 0 xs.length (fun i => (effV l xs i, effP l xs i)) _ ?_ ?_ (Nat.zero_le _)
  · intro i _ hi hr
    refine evSucc ?_
    have h := ok.at_ i hi
    have h1 := effV_in ok (i + 1) (by omega)
    simp only [impl_effort.l0, show (i : Int) < (xs.length : Int) by omega, show (0 : Int) ≤ (i : Int) by omega, h.1, h.2, if_true, wrapNat (show i < 4611686018427387904 by omega)]
    refine Ev.bind (chgI _ _ (effP_len ok i (by omega)) (effAt ok i hi)) ?_
    simp only [effV] at h1
    rw [wrapIn (by omega) (by omega)]
    exact hr
  · refine evSucc ?_
    simp only [impl_effort.l0, Int.lt_irrefl, if_false]
    exact Ev.now _
theorem effS {l : List (List S60)} {xs : List Int} (ok : OkE l xs) : Ev (fun k => spec_l13Effort.f k l xs) (effV l xs xs.length) := by
  unfold spec_l13Effort.f
  have hx := ok.len
  refine evCount (fun k (s : Int × List S60) i => spec_l13Effort.l0 k l xs s.1 s.2 i) 0 xs.length (fun i => (effV l xs i, effP l xs i)) _ ?_ ?_ (Nat.zero_le _)
  · intro i _ hi hr
    refine evSucc ?_
    have h := ok.at_ i hi
    have h1 := effV_in ok (i + 1) (by omega)
    simp only [spec_l13Effort.l0, show (i : Int) < (xs.length : Int) by omega, show (0 : Int) ≤ (i : Int) by omega, h.1, h.2, if_true, wrapNat (show i < 4611686018427387904 by omega)]
    refine Ev.bind (chgS _ _ (effP_len ok i (by omega)) (effAt ok i hi)) ?_
    simp only [effV] at h1
    rw [wrapIn (by omega) (by omega)]
    exact hr
  · refine evSucc ?_
    simp only [spec_l13Effort.l0, Int.lt_irrefl, if_false]
    exact Ev.now _

/-- n! -/
def fct : Nat → Nat
  | 0 => 1
  | n + 1 => (n + 1) * fct n
theorem fct_pos : ∀ n, 0 < fct n
  | 0 => by decide
  | n + 1 => Nat.mul_pos (Nat.succ_pos n) (fct_pos n)
/-- The order of a rank among what is left. -/
def ofRank : Nat → List Int → Nat → List Int
  | 0, _, _ => []
  | n + 1, left, rank => left.getD (rank / fct n) 0 :: ofRank n (left.eraseIdx (rank / fct n)) (rank % fct n)
theorem ofRank_len : ∀ (n : Nat) (left : List Int) (r : Nat), (ofRank n left r).length = n
  | 0, _, _ => rfl
  | n + 1, left, r => by simp [ofRank, ofRank_len n]
theorem perm_erase_at (left : List Int) (i : Nat) (h : i < left.length) : (left.getD i 0 :: left.eraseIdx i).Perm left := by
  induction left generalizing i with
  | nil => simp at h
  | cons a l ih =>
    cases i with
    | zero => simp
    | succ i =>
      simp only [List.getD_cons_succ, List.eraseIdx_cons_succ]
      exact (List.Perm.swap _ _ _).trans ((ih i (by simpa using h)).cons a)
theorem ofRank_perm : ∀ (n : Nat) (left : List Int) (r : Nat), left.length = n → r < fct n → (ofRank n left r).Perm left
  | 0, left, r, hl, _ => by
    have : left = [] := List.eq_nil_of_length_eq_zero hl
    subst this; exact List.Perm.refl _
  | n + 1, left, r, hl, hr => by
    have hi : r / fct n < n + 1 := by
      rw [Nat.div_lt_iff_lt_mul (fct_pos n)]; exact hr
    have h1 := ofRank_perm n (left.eraseIdx (r / fct n)) (r % fct n) (by rw [List.length_eraseIdx]; split <;> omega) (Nat.mod_lt _ (fct_pos n))
    exact (h1.cons _).trans (perm_erase_at left _ (by omega))
/-- Every order has a rank. -/
theorem ofRank_onto : ∀ (n : Nat) (left p : List Int), left.length = n → p.Perm left → ∃ r, r < fct n ∧ ofRank n left r = p
  | 0, left, p, hl, hp => by
    have : left = [] := List.eq_nil_of_length_eq_zero hl
    subst this
    exact ⟨0, by decide, (List.Perm.eq_nil hp).symm⟩
  | n + 1, left, p, hl, hp => by
    cases p with
    | nil => have := hp.length_eq; simp at this; omega
    | cons x p =>
      have hx : x ∈ left := hp.subset (List.mem_cons_self ..)
      obtain ⟨i, hi, hxi⟩ := List.getElem_of_mem hx
      have hg : left.getD i 0 = x := by rw [List.getD_eq_getElem?_getD, List.getElem?_eq_getElem hi]; simpa using hxi
      have h2 : (x :: p).Perm (x :: left.eraseIdx i) := hp.trans (by have := perm_erase_at left i hi; rw [hg] at this; exact this.symm)
      obtain ⟨r, hr, he⟩ := ofRank_onto n (left.eraseIdx i) p (by rw [List.length_eraseIdx]; split <;> omega) ((List.perm_cons x).1 h2)
      refine ⟨i * fct n + r, ?_, ?_⟩
      · have : i ≤ n := by omega
        calc i * fct n + r < i * fct n + fct n := by omega
          _ = (i + 1) * fct n := by rw [Nat.add_mul, Nat.one_mul]
          _ ≤ (n + 1) * fct n := Nat.mul_le_mul_right _ (by omega)
      · have hd : (i * fct n + r) / fct n = i := by
          rw [Nat.mul_comm, Nat.mul_add_div (fct_pos n), Nat.div_eq_of_lt hr, Nat.add_zero]
        have hm : (i * fct n + r) % fct n = r := by
          rw [Nat.mul_comm, Nat.mul_add_mod, Nat.mod_eq_of_lt hr]
        simp only [ofRank, hd, hm, hg, he]
theorem erase_filter : ∀ (l : List Int) (i : Nat), l.Nodup → i < l.length → l.eraseIdx i = l.filter (fun x => decide (x ≠ l.getD i 0))
  | [], i, _, h => by simp at h
  | a :: l, 0, hn, _ => by
    have ha : a ∉ l := (List.nodup_cons.1 hn).1
    have : l.filter (fun x => decide (x ≠ a)) = l := List.filter_eq_self.2 (fun x hx => by simp; rintro rfl; exact ha hx)
    simp only [List.eraseIdx_cons_zero, List.getD_cons_zero, List.filter_cons, ne_eq, not_true_eq_false, decide_false, Bool.false_eq_true, ↓reduceIte]
    exact this.symm
  | a :: l, i + 1, hn, h => by
    have ha : a ∉ l := (List.nodup_cons.1 hn).1
    have hi : i < l.length := by simpa using h
    have hm : l.getD i 0 ∈ l := by rw [List.getD_eq_getElem?_getD, List.getElem?_eq_getElem hi]; exact List.getElem_mem hi
    have hne : a ≠ l.getD i 0 := fun e => ha (e ▸ hm)
    simp only [List.eraseIdx_cons_succ, List.getD_cons_succ, List.filter_cons, decide_eq_true hne, ↓reduceIte]
    rw [erase_filter l i (List.nodup_cons.1 hn).2 hi]
/-- What is left is what has not been taken. -/
theorem left_step (left out : List Int) (base : List Int) (hb : base.Nodup) (hl : left = base.filter (fun x => decide (x ∉ out))) (i : Nat) (hi : i < left.length) :
    left.eraseIdx i = base.filter (fun x => decide (x ∉ out ++ [left.getD i 0])) := by
  have hn : left.Nodup := by rw [hl]; exact hb.filter _
  rw [erase_filter left i hn hi]
  generalize left.getD i 0 = y
  rw [hl, List.filter_filter]
  congr 1
  funext x
  by_cases h1 : x = y <;> by_cases h2 : x ∈ out <;> simp [h1, h2]

theorem hasS (l : List Int) (v : Int) (hl : l.length ≤ 1048576) : Ev (fun k => spec_l01Has.f k l v) (B (v ∈ l)) := by
  unfold spec_l01Has.f
  have key : ∀ d i : Nat, i + d = l.length → Ev (fun k => spec_l01Has.l0 k l v (i : Int)) (B (v ∈ l.drop i)) := by
    intro d
    induction d with
    | zero =>
      intro i hi
      refine evSucc ?_
      rw [List.drop_of_length_le (by omega), B_false (by simp)]
      simp only [spec_l01Has.l0, show ¬ ((i : Int) < (l.length : Int)) by omega, if_false]
      exact Ev.now _
    | succ d ih =>
      intro i hi
      have hlt : i < l.length := by omega
      refine evSucc ?_
      simp only [spec_l01Has.l0, show (i : Int) < (l.length : Int) by omega, show (0 : Int) ≤ (i : Int) by omega, if_true, rdN l i hlt, wrapNat (show i < 4611686018427387904 by omega)]
      rw [List.drop_eq_getElem_cons hlt]
      by_cases c : l[i] = v
      · simp only [c, if_true]
        rw [B_true (by simp)]
        exact Ev.now _
      · simp only [c, if_false]
        have e : B (v ∈ l[i] :: l.drop (i + 1)) = B (v ∈ l.drop (i + 1)) := B_congr (by simp only [List.mem_cons]; exact ⟨fun h => h.resolve_left (fun h => c h.symm), Or.inr⟩)
        rw [e]
        exact ih (i + 1) (by omega)
  simpa using key l.length 0 (by omega)

theorem inI (a b c : Int) : impl_inRange.f a b c = some (decide (b ≤ a ∧ a ≤ c)) := by
  unfold impl_inRange.f
  by_cases h : b ≤ a <;> simp [h]

theorem fct_small : ∀ n : Nat, n ≤ 12 → fct n ≤ 479001600 := by
  intro n hn
  have h : ∀ m, m < 13 → fct m ≤ 479001600 := by decide
  exact h n (by omega)
theorem factS (n : Nat) (hn : n ≤ 12) : Ev (fun k => spec_l01Factorial.f k (n : Int)) ((fct n : Nat) : Int) := by
  unfold spec_l01Factorial.f
  have key : ∀ d i : Nat, i + d = n + 1 → 2 ≤ i → Ev (fun k => spec_l01Factorial.l0 k (n : Int) ((fct (i - 1) : Nat) : Int) (i : Int)) ((fct n : Nat) : Int) := by
    intro d
    induction d with
    | zero =>
      intro i hi h2
      have e : i - 1 = n := by omega
      rw [e]
      refine evSucc ?_
      simp only [spec_l01Factorial.l0, show ¬ ((i : Int) ≤ (n : Int)) by omega, if_false]
      exact Ev.now _
    | succ d ih =>
      intro i hi h2
      refine evSucc ?_
      have hs := fct_small i (by omega)
      have e : fct i = i * fct (i - 1) := by
        obtain ⟨m, rfl⟩ : ∃ m, i = m + 1 := ⟨i - 1, by omega⟩
        rfl
      have em : ((fct (i - 1) : Nat) : Int) * (i : Int) = ((fct i : Nat) : Int) := by rw [e, Int.mul_comm]; exact (Int.natCast_mul _ _).symm
      have hr := ih (i + 1) (by omega) (by omega)
      rw [Nat.add_sub_cancel] at hr
      simp only [spec_l01Factorial.l0, show (i : Int) ≤ (n : Int) by omega, if_true, em, wrapIn (show -9223372036854775808 ≤ ((fct i : Nat) : Int) by omega) (show ((fct i : Nat) : Int) ≤ 9223372036854775807 by omega), wrapNat (show i < 4611686018427387904 by omega)]
      exact hr
  rcases Nat.lt_or_ge n 1 with h | h
  · have e : n = 0 := by omega
    subst e
    refine evSucc ?_
    simp only [spec_l01Factorial.l0]
    exact Ev.now _
  · have := key (n - 1) 2 (by omega) (by omega)
    exact this
theorem factI (n : Nat) (hn : n ≤ 12) : Ev (fun k => impl_factorial.f k (n : Int)) ((fct n : Nat) : Int) := by
  unfold impl_factorial.f
  have key : ∀ d i : Nat, i + d = n + 1 → 2 ≤ i → Ev (fun k => impl_factorial.l0 k (n : Int) ((fct (i - 1) : Nat) : Int) (i : Int)) ((fct n : Nat) : Int) := by
    intro d
    induction d with
    | zero =>
      intro i hi h2
      have e : i - 1 = n := by omega
      rw [e]
      refine evSucc ?_
      simp only [impl_factorial.l0, show ¬ ((i : Int) ≤ (n : Int)) by omega, if_false]
      exact Ev.now _
    | succ d ih =>
      intro i hi h2
      refine evSucc ?_
      have hs := fct_small i (by omega)
      have e : fct i = i * fct (i - 1) := by
        obtain ⟨m, rfl⟩ : ∃ m, i = m + 1 := ⟨i - 1, by omega⟩
        rfl
      have em : ((fct (i - 1) : Nat) : Int) * (i : Int) = ((fct i : Nat) : Int) := by rw [e, Int.mul_comm]; exact (Int.natCast_mul _ _).symm
      have hr := ih (i + 1) (by omega) (by omega)
      rw [Nat.add_sub_cancel] at hr
      simp only [impl_factorial.l0, show (i : Int) ≤ (n : Int) by omega, if_true, em, wrapIn (show -9223372036854775808 ≤ ((fct i : Nat) : Int) by omega) (show ((fct i : Nat) : Int) ≤ 9223372036854775807 by omega), wrapNat (show i < 4611686018427387904 by omega)]
      exact hr
  rcases Nat.lt_or_ge n 1 with h | h
  · have e : n = 0 := by omega
    subst e
    refine evSucc ?_
    simp only [impl_factorial.l0]
    exact Ev.now _
  · have := key (n - 1) 2 (by omega) (by omega)
    exact this
/-- 0, 1, .., n - 1. -/
def base (n : Nat) : List Int := (List.range n).map fun (j : Nat) => (j : Int)
theorem base_len (n : Nat) : (base n).length = n := by simp [base]
theorem base_succ (n : Nat) : base (n + 1) = base n ++ [(n : Int)] := by simp [base, List.range_succ]
theorem base_mem (n : Nat) (x : Int) : x ∈ base n ↔ 0 ≤ x ∧ x < n := by
  simp only [base, List.mem_map, List.mem_range]
  exact ⟨fun ⟨j, h1, h2⟩ => by omega, fun h => ⟨x.toNat, by omega, by omega⟩⟩
theorem base_nodup (n : Nat) : (base n).Nodup := by
  induction n with
  | zero => simp [base]
  | succ n ih =>
    rw [base_succ, List.nodup_append]
    refine ⟨ih, by simp, fun a ha b hb => ?_⟩
    rw [List.mem_singleton] at hb
    have := (base_mem n a).1 ha
    omega
theorem base_drop (n i : Nat) (h : i < n) : (base n).drop i = (i : Int) :: (base n).drop (i + 1) := by
  rw [List.drop_eq_getElem_cons (by rw [base_len]; exact h)]
  congr 1
  simp [base]
theorem wrapDiv {r f : Nat} (hr : r ≤ 479001600) : wrap64 (Int.tdiv (r : Int) (f : Int)) = ((r / f : Nat) : Int) := by
  have e : Int.tdiv (r : Int) (f : Int) = ((r / f : Nat) : Int) := by
    rw [Int.tdiv_eq_ediv_of_nonneg (by omega)]; exact (Int.natCast_ediv r f).symm
  have h := Nat.div_le_self r f
  rw [e]
  generalize r / f = q at h ⊢
  exact wrapIn (by omega) (by omega)
theorem natMod (r f : Nat) : Int.tmod (r : Int) (f : Int) = ((r % f : Nat) : Int) := by
  rw [Int.tmod_eq_emod_of_nonneg (by omega)]; exact (Int.natCast_emod r f).symm
theorem implO1 (N : Nat) (hN : N ≤ 12) : ∀ (d : Nat) (left out : List Int) (r : Nat), left.length = d → d ≤ N → out.length + d = N → r < fct d → Ev (fun k => impl_OrderOfRank.l1 k (r : Int) left out) (out ++ ofRank d left r, 0) := by
  intro d
  induction d with
  | zero =>
    intro left out r hl hd ho hr
    refine evSucc ?_
    simp only [impl_OrderOfRank.l1, hl, show ¬ (((0 : Nat) : Int) > 0) by decide, if_false, ofRank, List.append_nil]
    exact Ev.now _
  | succ d ih =>
    intro left out r hl hd ho hr
    refine evSucc ?_
    have hs := fct_small (d + 1) (by omega)
    have hp := fct_pos d
    have hi : r / fct d < d + 1 := by rw [Nat.div_lt_iff_lt_mul hp]; exact hr
    have hw : wrap64 (((d + 1 : Nat) : Int) - 1) = (d : Int) := by rw [wrapIn (by omega) (by omega)]; omega
    simp only [impl_OrderOfRank.l1, hl, show ((d + 1 : Nat) : Int) > 0 by omega, if_true, hw]
    refine Ev.bind (factI d (by omega)) ?_
    have hwd := @wrapDiv r (fct d) (by omega)
    have h := ih (left.eraseIdx (r / fct d)) (out ++ [left.getD (r / fct d) 0]) (r % fct d) (by rw [List.length_eraseIdx]; generalize r / fct d = q at *; split <;> omega) (by omega) (by rw [List.length_append, List.length_singleton]; omega) (Nat.mod_lt _ hp)
    rw [List.append_assoc] at h
    have e : ofRank (d + 1) left r = left.getD (r / fct d) 0 :: ofRank d (left.eraseIdx (r / fct d)) (r % fct d) := rfl
    rw [e]
    have hm := natMod r (fct d)
    have hg : rd left ((r / fct d : Nat) : Int) = left.getD (r / fct d) 0 := by unfold rd; rw [Int.toNat_natCast]
    generalize r / fct d = q at *
    generalize r % fct d = z at *
    simp only [show ¬ (((fct d : Nat) : Int) = 0) by omega, if_false, hwd, show (0 : Int) ≤ (q : Int) by omega, show (q : Int) < ((d + 1 : Nat) : Int) by omega, show out.length < 4096 by omega, if_true, hm, Int.toNat_natCast, hg]
    exact h
theorem implO (n r : Nat) (hn : n ≤ 12) (hr : r < fct n) : Ev (fun k => impl_OrderOfRank.f k (n : Int) (r : Int)) (ofRank n (base n) r, 0) := by
  have hs := fct_small n hn
  have hw : wrap64 (((fct n : Nat) : Int) - 1) = ((fct n : Nat) : Int) - 1 := wrapIn (by omega) (by omega)
  unfold impl_OrderOfRank.f
  simp only [inI, Option.bind_some, show (0 : Int) ≤ (n : Int) by omega, show (n : Int) ≤ 12 by omega, and_self, decide_true, if_true]
  refine Ev.bind (factI n hn) ?_
  simp only [hw, show (0 : Int) ≤ (r : Int) by omega, show (r : Int) ≤ ((fct n : Nat) : Int) - 1 by omega, and_self, decide_true, if_true]
  have := evCount (fun k (x : List Int) i => impl_OrderOfRank.l0 k (n : Int) (r : Int) x i) 0 n base (ofRank n (base n) r, 0) ?_ ?_ (Nat.zero_le _)
  · exact this
  · intro i _ hi h
    refine evSucc ?_
    rw [base_succ] at h
    simp only [impl_OrderOfRank.l0, show (i : Int) < (n : Int) by omega, base_len, show i < 4096 by omega, if_true, wrapNat (show i < 4611686018427387904 by omega)]
    exact h
  · refine evSucc ?_
    simp only [impl_OrderOfRank.l0, Int.lt_irrefl, if_false]
    have := implO1 n hn n (base n) [] r (base_len n) (Nat.le_refl _) (by simp) hr
    rw [List.nil_append] at this
    exact this
/-- The inner loop of the reference: it passes what was taken and stops at the s-th of what is left. -/
theorem specIn (n : Nat) (hn : n ≤ 12) (r i : Nat) (out : List Int) (ho : out.length ≤ 12) (R : List Int × Int) : ∀ (m x s : Nat), x + m = n → s < (((base n).drop x).filter (fun y => decide (y ∉ out))).length → Ev (fun k => spec_OrderOfRank.l0 k (n : Int) (r : Int) (out ++ [(((base n).drop x).filter (fun y => decide (y ∉ out))).getD s 0]) ((i + 1 : Nat) : Int)) R → i < 12 → Ev (fun k => spec_OrderOfRank.l1 k (n : Int) (r : Int) out (i : Int) (s : Int) (x : Int)) R := by
  intro m
  induction m with
  | zero =>
    intro x s hx hs _ _
    rw [List.drop_of_length_le (by rw [base_len]; omega)] at hs
    simp at hs
  | succ m ih =>
    intro x s hx hs hR hi
    refine evSucc ?_
    rw [base_drop n x (by omega), List.filter_cons] at hs hR
    simp only [spec_OrderOfRank.l1, show (x : Int) < (n : Int) by omega, if_true]
    by_cases c : (x : Int) ∈ out
    · rw [if_neg (by simp [c])] at hs hR
      have hm := hasS out (x : Int) (by omega)
      rw [B_true c] at hm
      refine Ev.bind hm ?_
      simp only [if_true, wrapNat (show x < 4611686018427387904 by omega)]
      exact ih (x + 1) s (by omega) hs hR hi
    · rw [if_pos (by simp [c])] at hs hR
      have hm := hasS out (x : Int) (by omega)
      rw [B_false c] at hm
      refine Ev.bind hm ?_
      simp only [Bool.false_eq_true, if_false]
      cases s with
      | zero =>
        simp only [show ((0 : Nat) : Int) = 0 from rfl, if_true, show out.length < 17592186044416 by omega, wrapNat (show i < 4611686018427387904 by omega)]
        rw [List.getD_cons_zero] at hR
        exact hR
      | succ s =>
        have hw : wrap64 (((s + 1 : Nat) : Int) - 1) = (s : Int) := by
          have : s < n + 1 := by
            have h1 := List.length_filter_le (fun y => decide (y ∉ out)) ((base n).drop (x + 1))
            rw [List.length_drop, base_len] at h1
            simp only [List.length_cons] at hs
            omega
          rw [wrapIn (by omega) (by omega)]; omega
        simp only [show ¬ (((s + 1 : Nat) : Int) = 0) by omega, if_false, hw, wrapNat (show x < 4611686018427387904 by omega)]
        rw [List.getD_cons_succ] at hR
        simp only [List.length_cons] at hs
        exact ih (x + 1) s (by omega) (by omega) hR hi
theorem specO1 (n : Nat) (hn : n ≤ 12) : ∀ (d i : Nat) (out : List Int) (r : Nat), i + d = n → out.length = i → ((base n).filter (fun y => decide (y ∉ out))).length = d → r < fct d → Ev (fun k => spec_OrderOfRank.l0 k (n : Int) (r : Int) out (i : Int)) (out ++ ofRank d ((base n).filter (fun y => decide (y ∉ out))) r, 0) := by
  intro d
  induction d with
  | zero =>
    intro i out r hi ho hl hr
    refine evSucc ?_
    simp only [spec_OrderOfRank.l0, show ¬ ((i : Int) < (n : Int)) by omega, if_false, ofRank, List.append_nil]
    exact Ev.now _
  | succ d ih =>
    intro i out r hi ho hl hr
    refine evSucc ?_
    have hs := fct_small (d + 1) (by omega)
    have hp := fct_pos d
    have hq : r / fct d < d + 1 := by rw [Nat.div_lt_iff_lt_mul hp]; exact hr
    have hw : wrap64 ((wrap64 ((n : Int) - (i : Int))) - 1) = (d : Int) := by rw [wrapIn (x := (n : Int) - (i : Int)) (by omega) (by omega), wrapIn (by omega) (by omega)]; omega
    simp only [spec_OrderOfRank.l0, show (i : Int) < (n : Int) by omega, if_true, hw]
    refine Ev.bind (factS d (by omega)) ?_
    have hwd := @wrapDiv r (fct d) (by omega)
    simp only [show ¬ (((fct d : Nat) : Int) = 0) by omega, if_false, hwd, natMod]
    obtain ⟨left, hleft⟩ : ∃ left, left = (base n).filter (fun y => decide (y ∉ out)) := ⟨_, rfl⟩
    have hstep := left_step left out (base n) (base_nodup n) hleft (r / fct d) (by rw [hleft, hl]; exact hq)
    have h := ih (i + 1) (out ++ [left.getD (r / fct d) 0]) (r % fct d) (by omega) (by rw [List.length_append, List.length_singleton]; omega) (by rw [← hstep, List.length_eraseIdx, hleft, hl, if_pos hq]; rfl) (Nat.mod_lt _ hp)
    rw [← hstep, List.append_assoc] at h
    have e : ofRank (d + 1) left r = left.getD (r / fct d) 0 :: ofRank d (left.eraseIdx (r / fct d)) (r % fct d) := rfl
    rw [← hleft, e]
    refine specIn n hn (r % fct d) i out (by omega) _ n 0 (r / fct d) (by omega) (by rw [List.drop_zero, hl]; exact hq) ?_ (by omega)
    rw [List.drop_zero, ← hleft]
    exact h
theorem specO (n r : Nat) (hn : n ≤ 12) (hr : r < fct n) : Ev (fun k => spec_OrderOfRank.f k (n : Int) (r : Int)) (ofRank n (base n) r, 0) := by
  have hs := fct_small n hn
  have hw : wrap64 (((fct n : Nat) : Int) - 1) = ((fct n : Nat) : Int) - 1 := wrapIn (by omega) (by omega)
  unfold spec_OrderOfRank.f
  simp only [inS, Option.bind_some, show (0 : Int) ≤ (n : Int) by omega, show (n : Int) ≤ 12 by omega, and_self, decide_true, if_true]
  refine Ev.bind (factS n hn) ?_
  simp only [hw, show (0 : Int) ≤ (r : Int) by omega, show (r : Int) ≤ ((fct n : Nat) : Int) - 1 by omega, and_self, decide_true, Bool.not_true]
  refine evSucc ?_
  simp only [spec_OrderOfRank.j0, Bool.false_eq_true, if_false]
  have he : (base n).filter (fun y => decide (y ∉ ([] : List Int))) = base n := List.filter_eq_self.2 (fun _ _ => by simp)
  have := specO1 n hn n 0 [] r (by omega) rfl (by rw [he, base_len]) hr
  rw [he, List.nil_append] at this
  exact this

theorem perm_of_nodup : ∀ (p left : List Int), p.Nodup → (∀ x ∈ p, x ∈ left) → p.length = left.length → p.Perm left
  | [], left, _, _, hl => by
    have : left = [] := List.eq_nil_of_length_eq_zero hl.symm
    subst this; exact List.Perm.refl _
  | x :: p, left, hn, hm, hl => by
    have hx := hm x List.mem_cons_self
    have h1 := List.perm_cons_erase hx
    have hn' := List.nodup_cons.1 hn
    have h2 := perm_of_nodup p (left.erase x) hn'.2 (fun y hy => (List.mem_erase_of_ne (by rintro rfl; exact hn'.1 hy)).2 (hm y (List.mem_cons_of_mem _ hy))) (by rw [List.length_erase_of_mem hx]; simp at hl; omega)
    exact (h2.cons x).trans h1.symm
theorem nodup_of_ord (xs : List Int) (h : ∀ i, i < xs.length → OrdAt xs i) : xs.Nodup := by
  have key : ∀ i, i ≤ xs.length → (xs.take i).Nodup := by
    intro i
    induction i with
    | zero => intro _; simp
    | succ i ih =>
      intro hi
      rw [List.take_succ_eq_append_getElem (by omega), List.nodup_append]
      refine ⟨ih (by omega), by simp, fun a ha b hb => ?_⟩
      rw [List.mem_singleton] at hb
      have := (h i (by omega)).2
      rw [rdN xs i (by omega)] at this
      rintro rfl
      subst hb
      exact this ha
  have := key xs.length (Nat.le_refl _)
  rwa [List.take_length] at this
theorem ord_perm (xs : List Int) (n : Nat) (hl : xs.length = n) (h : ∀ i, i < xs.length → OrdAt xs i) : xs.Perm (base n) := by
  refine perm_of_nodup xs (base n) (nodup_of_ord xs h) (fun x hx => ?_) (by rw [base_len]; exact hl)
  obtain ⟨i, hi, rfl⟩ := List.getElem_of_mem hx
  have := (h i hi).1
  rw [rdN xs i hi] at this
  exact (base_mem n _).2 (by omega)
theorem perm_ord (p : List Int) (n : Nat) (h : p.Perm (base n)) : p.length = n ∧ ∀ i, i < p.length → OrdAt p i := by
  have hl : p.length = n := by rw [h.length_eq, base_len]
  have hn : p.Nodup := h.nodup_iff.2 (base_nodup n)
  refine ⟨hl, fun i hi => ⟨?_, ?_⟩⟩
  · rw [rdN p i hi]
    have := (base_mem n p[i]).1 (h.subset (List.getElem_mem hi))
    omega
  · rw [rdN p i hi]
    intro hm
    have h1 : p = p.take i ++ p[i] :: p.drop (i + 1) := by rw [← List.drop_eq_getElem_cons hi, List.take_append_drop]
    rw [h1, List.nodup_append] at hn
    exact hn.2.2 _ hm _ List.mem_cons_self rfl
theorem okRank {l : List (List S60)} (hs : l.length ≤ 7 ∧ ∀ x ∈ l, setupB x = true) (r : Nat) (hr : r < fct l.length) : OkE l (ofRank l.length (base l.length) r) ∧ (ofRank l.length (base l.length) r).length = l.length ∧ orderB (ofRank l.length (base l.length) r) = true := by
  have hp := perm_ord _ _ (ofRank_perm l.length (base l.length) r (base_len _) hr)
  refine ⟨⟨by omega, fun x hx => setup_len (hs.2 x hx), fun i hi => by have := (hp.2 i hi).1; omega⟩, hp.1, ?_⟩
  simp only [orderB, Bool.and_eq_true, decide_eq_true_eq, B_iff]
  exact ⟨by omega, hp.2⟩
def rankE (l : List (List S60)) (r : Nat) : Int := effV l (ofRank l.length (base l.length) r) (ofRank l.length (base l.length) r).length
/-- The best order of the first r ranks, and its effort. -/
def bestV (l : List (List S60)) : Nat → List Int × Int
  | 0 => ([], -1)
  | r + 1 => if (bestV l r).2 < 0 ∨ rankE l r < (bestV l r).2 then (ofRank l.length (base l.length) r, rankE l r) else bestV l r
def bestR (l : List (List S60)) : List Int × Int × Int := if setupsV l = 0 then ((bestV l (fct l.length)).1, (bestV l (fct l.length)).2, 0) else ([], 0, setupsV l)
theorem bestI (l : List (List S60)) : Ev (fun k => impl_BestJobOrder.f k l) (bestR l) := by
  unfold impl_BestJobOrder.f bestR
  simp only [setupsI, Option.bind_some]
  by_cases hc : setupsV l = 0
  · have hs := setups_ok hc
    have hf := fct_small l.length (by omega)
    simp only [hc, if_true, impl_Unit_52.f, Option.bind_some]
    refine Ev.bind (factI l.length (by omega)) ?_
    refine evCount (fun k (s : List Int × Int) i => impl_BestJobOrder.l0 k l s.1 s.2 ((fct l.length : Nat) : Int) i) 0 (fct l.length) (bestV l) _ ?_ ?_ (Nat.zero_le _)
    · intro r _ hr h
      have ok := okRank hs r hr
      refine evSucc ?_
      simp only [impl_BestJobOrder.l0, show (r : Int) < ((fct l.length : Nat) : Int) by omega, if_true, impl_Unit_52.f, Option.bind_some, wrapNat (show r < 4611686018427387904 by omega)]
      refine Ev.bind (implO l.length r (by omega) hr) (Ev.bind (effI ok.1) ?_)
      simp only [bestV] at h
      show Ev (fun k => if (bestV l r).2 < 0 then _ else (if rankE l r < (bestV l r).2 then _ else _)) _
      by_cases c1 : (bestV l r).2 < 0
      · rw [if_pos (.inl c1)] at h
        simp only [c1, if_true]
        exact h
      · by_cases c2 : rankE l r < (bestV l r).2
        · rw [if_pos (.inr c2)] at h
          simp only [c1, c2, if_false, if_true]
          exact h
        · rw [if_neg (fun g => g.elim c1 c2)] at h
          simp only [c1, c2, if_false]
          exact h
    · refine evSucc ?_
      simp only [impl_BestJobOrder.l0, Int.lt_irrefl, if_false]
      exact Ev.now _
  · simp only [hc, if_false]
    exact Ev.now _
theorem bestS (l : List (List S60)) (h : l.length ≤ 1048576) (hx : ∀ x ∈ l, x.length ≤ 1048576) : Ev (fun k => spec_BestJobOrder.f k l) (bestR l) := by
  unfold spec_BestJobOrder.f bestR
  refine Ev.bind (setupsS l h hx) ?_
  by_cases hc : setupsV l = 0
  · have hs := setups_ok hc
    have hf := fct_small l.length (by omega)
    simp only [hc, if_true]
    refine evCount (fun k (s : List Int × Int) i => spec_BestJobOrder.l0 k l (l.length : Int) s.1 s.2 i) 0 (fct l.length) (bestV l) _ ?_ ?_ (Nat.zero_le _)
    · intro r _ hr h
      have ok := okRank hs r hr
      refine evSucc ?_
      simp only [spec_BestJobOrder.l0, wrapNat (show r < 4611686018427387904 by omega)]
      refine Ev.bind (factS l.length (by omega)) ?_
      simp only [show (r : Int) < ((fct l.length : Nat) : Int) by omega, if_true]
      refine Ev.bind (specO l.length r (by omega) hr) (Ev.bind (effS ok.1) ?_)
      simp only [bestV] at h
      show Ev (fun k => if (bestV l r).2 < 0 then _ else (if rankE l r < (bestV l r).2 then _ else _)) _
      by_cases c1 : (bestV l r).2 < 0
      · rw [if_pos (.inl c1)] at h
        simp only [c1, if_true]
        exact h
      · by_cases c2 : rankE l r < (bestV l r).2
        · rw [if_pos (.inr c2)] at h
          simp only [c1, c2, if_false, if_true]
          exact h
        · rw [if_neg (fun g => g.elim c1 c2)] at h
          simp only [c1, c2, if_false]
          exact h
    · refine evSucc ?_
      simp only [spec_BestJobOrder.l0]
      refine Ev.bind (factS l.length (by omega)) ?_
      simp only [Int.lt_irrefl, if_false]
      exact Ev.now _
  · simp only [hc, if_false]
    exact Ev.now _
theorem best_min {l : List (List S60)} (hs : l.length ≤ 7 ∧ ∀ x ∈ l, setupB x = true) : ∀ r : Nat, r < fct l.length → (∃ j, j ≤ r ∧ bestV l (r + 1) = (ofRank l.length (base l.length) j, rankE l j)) ∧ ∀ j, j ≤ r → (bestV l (r + 1)).2 ≤ rankE l j
  | 0, hr => by
    have e : bestV l 1 = (ofRank l.length (base l.length) 0, rankE l 0) := by
      show (if (bestV l 0).2 < 0 ∨ rankE l 0 < (bestV l 0).2 then _ else _) = _
      rw [if_pos (.inl (show (-1 : Int) < 0 by decide))]
    refine ⟨⟨0, Nat.le_refl _, e⟩, fun j hj => ?_⟩
    have : j = 0 := by omega
    subst this
    rw [e]
    exact Int.le_refl _
  | r + 1, hr => by
    obtain ⟨⟨j0, h0, e0⟩, hm⟩ := best_min hs r (by omega)
    have hpos : 0 ≤ (bestV l (r + 1)).2 := by
      rw [e0]
      exact (effV_in (okRank hs j0 (by omega)).1 _ (Nat.le_refl _)).1
    have e : bestV l (r + 1 + 1) = if (bestV l (r + 1)).2 < 0 ∨ rankE l (r + 1) < (bestV l (r + 1)).2 then (ofRank l.length (base l.length) (r + 1), rankE l (r + 1)) else bestV l (r + 1) := rfl
    rw [e]
    by_cases c : rankE l (r + 1) < (bestV l (r + 1)).2
    · rw [if_pos (.inr c)]
      refine ⟨⟨r + 1, Nat.le_refl _, rfl⟩, fun j hj => ?_⟩
      rcases Nat.lt_or_ge j (r + 1) with h1 | h1
      · have := hm j (by omega)
        simp only
        omega
      · have : j = r + 1 := by omega
        subst this
        exact Int.le_refl _
    · rw [if_neg (fun g => g.elim (fun g => by omega) c)]
      refine ⟨⟨j0, by omega, e0⟩, fun j hj => ?_⟩
      rcases Nat.lt_or_ge j (r + 1) with h1 | h1
      · exact hm j (by omega)
      · have : j = r + 1 := by omega
        subst this
        omega
theorem best_len (l : List (List S60)) : (bestR l).1.length ≤ 1048576 := by
  unfold bestR
  by_cases hc : setupsV l = 0
  · rw [if_pos hc]
    have hs := setups_ok hc
    have hp := fct_pos l.length
    obtain ⟨⟨j, hj, e⟩, _⟩ := best_min hs (fct l.length - 1) (by omega)
    rw [Nat.sub_add_cancel hp] at e
    simp only [e, ofRank_len]
    omega
  · rw [if_neg hc]
    simp

theorem rd62 (xs : List S62) (i : Nat) (h : i < xs.length) : rd_T62 xs (i : Int) = xs[i] := by
  simp [rd_T62, List.getD_eq_getElem?_getD, List.getElem?_eq_getElem h]

def convUnit (x : S62) : S60 := ⟨x.f0, x.f1, x.f2⟩
theorem toUnitS (l : List S62) (h : l.length ≤ 1048576) : Ev (fun k => laws_toUnitS.f k l) (l.map convUnit) := by
  unfold laws_toUnitS.f
  simp only [Int.toNat_natCast, show (0 : Int) ≤ (l.length : Int) by omega, show l.length ≤ 11728124029610 by omega, if_true]
  have := evCount (fun k s i => laws_toUnitS.l0 k l s i) 0 l.length (fun i => (l.map convUnit).take i ++ List.replicate ((l.map convUnit).length - i) z60) (l.map convUnit) ?_ ?_ (Nat.zero_le _)
  · simpa using this
  · intro i _ hi h
    refine evSucc ?_
    simp only [laws_toUnitS.l0, laws_toUnit.f, Option.bind_some]
    have hm : i < (l.map convUnit).length := by rw [List.length_map]; exact hi
    have hl := fillLen (l.map convUnit) z60 i (by omega)
    have h1 : (i : Int) < (l.length : Int) := by omega
    have h2 : (0 : Int) ≤ (i : Int) := by omega
    have h3 : (i : Int) < (((l.map convUnit).take i ++ List.replicate ((l.map convUnit).length - i) z60).length : Int) := by rw [hl]; omega
    have h4 := fillStep (l.map convUnit) z60 i hm
    rw [List.getElem_map] at h4
    simp only [h1, h2, h3, if_true, Int.toNat_natCast, rd62 l i hi, wrapNat (show i < 4611686018427387904 by omega)]
    simp only [convUnit] at h4
    rw [h4]
    exact h
  · refine evSucc ?_
    simp only [laws_toUnitS.l0, Int.lt_irrefl, if_false]
    simp only [show l.length = (l.map convUnit).length by rw [List.length_map], List.take_length, Nat.sub_self, List.replicate_zero, List.append_nil]
    exact Ev.now _
theorem szUnitS_big (l : List S62) (h : 1048576 < l.length) (hm : l.length * 24 ≤ 140737488351232) : laws_szUnitS.f l 1048576 = some (-1) := by
  unfold laws_szUnitS.f
  rw [wrapIn (by omega) (by omega), if_pos (by omega)]
theorem szUnitS_ok (l : List S62) (h : l.length ≤ 1048576) : laws_szUnitS.f l 1048576 = some (1048576 - (l.length : Int)) := by
  unfold laws_szUnitS.f
  rw [wrapIn (by omega) (by omega), if_neg (by omega)]
theorem szUnitS_bigM (l : List S62) (m : Int) (m0 : 0 ≤ m) (m1 : m ≤ 1048576) (h : m < l.length) (hm : l.length * 24 ≤ 140737488351232) : laws_szUnitS.f l m = some (-1) := by
  unfold laws_szUnitS.f
  rw [wrapIn (by omega) (by omega), if_pos (by omega)]
theorem szUnitS_okM (l : List S62) (m : Int) (m0 : 0 ≤ m) (m1 : m ≤ 1048576) (h : (l.length : Int) ≤ m) : laws_szUnitS.f l m = some (m - (l.length : Int)) := by
  unfold laws_szUnitS.f
  rw [wrapIn (by omega) (by omega), if_neg (by omega)]

theorem eqUnitS (l : List S60) (h : l.length ≤ 1048576) : Ev (fun k => laws_eqUnitS.f k l l) true := by
  unfold laws_eqUnitS.f
  simp only [if_true]
  have he : ∀ x : S60, laws_eqUnit.f x.f0 x.f1 x.f2 x.f0 x.f1 x.f2 = some true := by intro x; simp [laws_eqUnit.f]
  have := evAll (fun k i => laws_eqUnitS.l0 k l l i) 0 l.length (fun _ => True) ?_ (fun i _ hi hn => absurd trivial hn) true ?_ (Nat.zero_le _)
  · simpa [B_true] using this
  · intro i _ hi _ r h
    refine evSucc ?_
    have h1 : (i : Int) < (l.length : Int) := by omega
    have h2 : (0 : Int) ≤ (i : Int) := by omega
    simp only [laws_eqUnitS.l0, h1, h2, if_true, he, Option.bind_some, wrapNat (show i < 4611686018427387904 by omega)]
    exact h
  · refine evSucc ?_
    simp only [laws_eqUnitS.l0, Int.lt_irrefl, if_false]
    exact Ev.now _

theorem rdL3 (xs : List (List S62)) (i : Nat) (h : i < xs.length) : rd_L3 xs (i : Int) = xs[i] := by
  simp [rd_L3, List.getD_eq_getElem?_getD, List.getElem?_eq_getElem h]
theorem szOne (l : List S62) (m : Int) (m0 : 0 ≤ m) (m1 : m ≤ 1048576) (hl : l.length ≤ maxLen) : laws_szUnitS.f l m = some (if m < (l.length : Int) then -1 else m - (l.length : Int)) := by
  have hl' : l.length ≤ 9223372036854775807 := hl
  unfold laws_szUnitS.f
  rw [wrapIn (by omega) (by omega)]
  by_cases h : m < (l.length : Int)
  · rw [if_pos (by omega), if_pos h]
  · rw [if_neg (by omega), if_neg h]
theorem szLoop (l : List (List S62)) (hm : ∀ x ∈ l, x.length ≤ maxLen) (hn : l.length ≤ 1048576) (d : Nat) : ∀ (i : Nat) (m : Int), i + d = l.length → 0 ≤ m → m ≤ 1048576 → ∃ r, Ev (fun k => laws_szUnitSS.l0 k l m (i : Int)) r ∧ (0 ≤ r → ∀ j : Nat, i ≤ j → ∀ h : j < l.length, l[j].length ≤ 1048576) := by
  induction d with
  | zero =>
    intro i m hi h0 _
    refine ⟨m, evSucc ?_, fun _ j h1 h2 => absurd h2 (by omega)⟩
    simp only [laws_szUnitSS.l0, show ¬ ((i : Int) < (l.length : Int)) by omega, if_false]
    exact Ev.now _
  | succ d ih =>
    intro i m hi h0 h1
    have hlt : i < l.length := by omega
    have e := szOne l[i] m h0 h1 (hm _ (List.getElem_mem hlt))
    have hw := wrapNat (show i < 4611686018427387904 by omega)
    by_cases c : m < (l[i].length : Int)
    · rw [if_pos c] at e
      refine ⟨-1, evSucc ?_, fun h => absurd h (by decide)⟩
      simp only [laws_szUnitSS.l0, show (i : Int) < (l.length : Int) by omega, show (0 : Int) ≤ (i : Int) by omega, if_true, rdL3 l i hlt, e, Option.bind_some, show (-1 : Int) < 0 by decide]
      exact Ev.now _
    · rw [if_neg c] at e
      obtain ⟨r, h2, h3⟩ := ih (i + 1) (m - (l[i].length : Int)) (by omega) (by omega) (by omega)
      refine ⟨r, evSucc ?_, fun hr j hj hjl => ?_⟩
      · simp only [laws_szUnitSS.l0, show (i : Int) < (l.length : Int) by omega, show (0 : Int) ≤ (i : Int) by omega, if_true, rdL3 l i hlt, e, Option.bind_some, show ¬ (m - (l[i].length : Int) < 0) by omega, if_false, hw]
        exact h2
      · by_cases ej : j = i
        · subst ej; omega
        · exact h3 hr j (by omega) hjl
theorem szSS (l : List (List S62)) (hl : l.length ≤ maxLen) (hm : ∀ x ∈ l, x.length ≤ maxLen) : ∃ r, Ev (fun k => laws_szUnitSS.f k l 1048576) r ∧ (0 ≤ r → l.length ≤ 1048576 ∧ ∀ x ∈ l, x.length ≤ 1048576) := by
  have hl' : l.length ≤ 9223372036854775807 := hl
  unfold laws_szUnitSS.f
  rw [wrapIn (by omega) (by omega)]
  by_cases h : l.length ≤ 1048576
  · obtain ⟨r, h1, h2⟩ := szLoop l hm h l.length 0 (1048576 - (l.length : Int)) (by omega) (by omega) (by omega)
    refine ⟨r, ?_, fun hr => ⟨h, fun x hx => ?_⟩⟩
    · simp only [show ¬ (1048576 - (l.length : Int) < 0) by omega, if_false]
      exact h1
    · obtain ⟨j, hj, rfl⟩ := List.getElem_of_mem hx
      exact h2 hr j (Nat.zero_le _) hj
  · refine ⟨-1, ?_, fun hr => absurd hr (by decide)⟩
    simp only [show 1048576 - (l.length : Int) < 0 by omega, if_true]
    exact Ev.now _
theorem toUnitSS (l : List (List S62)) (h : l.length ≤ 1048576) (hx : ∀ x ∈ l, x.length ≤ 1048576) : Ev (fun k => laws_toUnitSS.f k l) (l.map fun x : List S62 => x.map convUnit) := by
  unfold laws_toUnitSS.f
  simp only [Int.toNat_natCast, show (0 : Int) ≤ (l.length : Int) by omega, show l.length ≤ 11728124029610 by omega, if_true]
  have := evCount (fun k s i => laws_toUnitSS.l0 k l s i) 0 l.length (fun i => (l.map fun x : List S62 => x.map convUnit).take i ++ List.replicate ((l.map fun x : List S62 => x.map convUnit).length - i) []) (l.map fun x : List S62 => x.map convUnit) ?_ ?_ (Nat.zero_le _)
  · simpa using this
  · intro i _ hi hr
    refine evSucc ?_
    have hm : i < (l.map fun x : List S62 => x.map convUnit).length := by rw [List.length_map]; exact hi
    have hl := fillLen (l.map fun x : List S62 => x.map convUnit) [] i (by omega)
    have h3 : (i : Int) < (((l.map fun x : List S62 => x.map convUnit).take i ++ List.replicate ((l.map fun x : List S62 => x.map convUnit).length - i) []).length : Int) := by rw [hl]; omega
    have h4 := fillStep (l.map fun x : List S62 => x.map convUnit) [] i hm
    rw [List.getElem_map] at h4
    simp only [laws_toUnitSS.l0, show (i : Int) < (l.length : Int) by omega, show (0 : Int) ≤ (i : Int) by omega, if_true, rdL3 l i hi, wrapNat (show i < 4611686018427387904 by omega)]
    refine Ev.bind (toUnitS l[i] (hx _ (List.getElem_mem hi))) ?_
    simp only [h3, if_true, Int.toNat_natCast]
    rw [h4]
    exact hr
  · refine evSucc ?_
    simp only [laws_toUnitSS.l0, Int.lt_irrefl, if_false]
    simp only [show l.length = (l.map fun x : List S62 => x.map convUnit).length by rw [List.length_map], List.take_length, Nat.sub_self, List.replicate_zero, List.append_nil]
    exact Ev.now _
theorem eqUnitSS (l : List (List S60)) (h : l.length ≤ 1048576) (hx : ∀ x ∈ l, x.length ≤ 1048576) : Ev (fun k => laws_eqUnitSS.f k l l) true := by
  unfold laws_eqUnitSS.f
  simp only [if_true]
  have := evAll (fun k i => laws_eqUnitSS.l0 k l l i) 0 l.length (fun _ => True) ?_ (fun i _ hi hn => absurd trivial hn) true ?_ (Nat.zero_le _)
  · simpa [B_true] using this
  · intro i _ hi _ r hr
    refine evSucc ?_
    simp only [laws_eqUnitSS.l0, show (i : Int) < (l.length : Int) by omega, show (0 : Int) ≤ (i : Int) by omega, if_true, rdL5 l i hi, wrapNat (show i < 4611686018427387904 by omega)]
    refine Ev.bind (eqUnitS l[i] (hx _ (List.getElem_mem hi))) ?_
    simp only [if_true]
    exact hr
  · refine evSucc ?_
    simp only [laws_eqUnitSS.l0, Int.lt_irrefl, if_false]
    exact Ev.now _

def marks (i : Nat) : List Int := (List.range i).map fun (j : Nat) => (j : Int) + 1
theorem marks_len (i : Nat) : (marks i).length = i := by simp [marks]
theorem marks_succ (i : Nat) : marks (i + 1) = marks i ++ [(i : Int) + 1] := by simp [marks, List.range_succ]
theorem marks_get (n i : Nat) (h : i < n) : rd (marks n) (i : Int) = (i : Int) + 1 := by
  rw [rdN _ _ (by rw [marks_len]; exact h)]
  simp [marks]
theorem set_marks (l : List Int) (i : Nat) (h : i < l.length) : (marks i ++ l.drop i).set i ((i : Int) + 1) = marks (i + 1) ++ l.drop (i + 1) := by
  rw [List.set_append_right _ _ (by rw [marks_len]; omega), marks_len, Nat.sub_self, List.drop_eq_getElem_cons h, List.set_cons_zero, marks_succ, List.append_assoc]
  rfl

theorem markInt64S (l : List Int) (h : l.length ≤ 1048576) : Ev (fun k => laws_markInt64S.f k l 1) ((l.length : Int) + 1, marks l.length) := by
  unfold laws_markInt64S.f
  have := evCount (fun k (s : List Int × Int) i => laws_markInt64S.l0 k s.1 s.2 i) 0 l.length (fun i => (marks i ++ l.drop i, (i : Int) + 1)) ((l.length : Int) + 1, marks l.length) ?_ ?_ (Nat.zero_le _)
  · simpa [marks] using this
  · intro i _ hi hr
    refine evSucc ?_
    have hl : (marks i ++ l.drop i).length = l.length := by simp [marks_len]; omega
    simp only [laws_markInt64S.l0, hl, show (i : Int) < (l.length : Int) by omega, show (0 : Int) ≤ (i : Int) by omega, if_true, Int.toNat_natCast, set_marks l i hi, wrapNat (show i < 4611686018427387904 by omega), wrapIn (show -9223372036854775808 ≤ (i : Int) + 1 + 1 by omega) (show (i : Int) + 1 + 1 ≤ 9223372036854775807 by omega)]
    simp only [show ((i + 1 : Nat) : Int) + 1 = (i : Int) + 1 + 1 by omega] at hr
    exact hr
  · refine evSucc ?_
    have hl : (marks l.length ++ l.drop l.length).length = l.length := by simp [marks_len]
    simp only [laws_markInt64S.l0, hl, Int.lt_irrefl, if_false]
    rw [List.drop_length, List.append_nil]
    exact Ev.now _
theorem heldInt64S (n : Nat) (h : n ≤ 1048576) : Ev (fun k => laws_heldInt64S.f k (marks n) 1) ((n : Int) + 1) := by
  unfold laws_heldInt64S.f
  have := evCount (fun k (s : Int) i => laws_heldInt64S.l0 k (marks n) s i) 0 n (fun i => (i : Int) + 1) ((n : Int) + 1) ?_ ?_ (Nat.zero_le _)
  · exact this
  · intro i _ hi hr
    refine evSucc ?_
    simp only [laws_heldInt64S.l0, marks_len, show (i : Int) < (n : Int) by omega, show (0 : Int) ≤ (i : Int) by omega, if_true, marks_get n i hi, wrapNat (show i < 4611686018427387904 by omega), wrapIn (show -9223372036854775808 ≤ (i : Int) + 1 + 1 by omega) (show (i : Int) + 1 + 1 ≤ 9223372036854775807 by omega)]
    simp only [show ((i + 1 : Nat) : Int) + 1 = (i : Int) + 1 + 1 by omega] at hr
    exact hr
  · refine evSucc ?_
    simp only [laws_heldInt64S.l0, marks_len, Int.lt_irrefl, if_false]
    exact Ev.now _

theorem eqInt64S (l : List Int) (h : l.length ≤ 1048576) : Ev (fun k => laws_eqInt64S.f k l l) true := by
  unfold laws_eqInt64S.f
  simp only [if_true]
  have := evAll (fun k i => laws_eqInt64S.l0 k l l i) 0 l.length (fun _ => True) ?_ (fun i _ hi hn => absurd trivial hn) true ?_ (Nat.zero_le _)
  · simpa [B_true] using this
  · intro i _ hi _ r h
    refine evSucc ?_
    have h1 : (i : Int) < (l.length : Int) := by omega
    have h2 : (0 : Int) ≤ (i : Int) := by omega
    simp only [laws_eqInt64S.l0, h1, h2, if_true, wrapNat (show i < 4611686018427387904 by omega)]
    exact h
  · refine evSucc ?_
    simp only [laws_eqInt64S.l0, Int.lt_irrefl, if_false]
    exact Ev.now _

theorem markU_loop (n d : Nat) (hn : n ≤ 1048576) : ∀ (x : List S60) (m : Int) (i : Nat), x.length = n → i + d = n → 0 ≤ m → m + 3 * (d : Int) ≤ 4611686018427387904 → ∃ y, Ev (fun k => laws_markUnitS.l0 k x m (i : Int)) (m + 3 * (d : Int), y) := by
  induction d with
  | zero =>
    intro x m i hx hi h0 h1
    refine ⟨x, evSucc ?_⟩
    simp only [laws_markUnitS.l0, show ¬ ((i : Int) < (x.length : Int)) by omega, if_false, show m + 3 * ((0 : Nat) : Int) = m by omega]
    exact Ev.now _
  | succ d ih =>
    intro x m i hx hi h0 h1
    have w1 : wrap64 (m + 1) = m + 1 := wrapIn (by omega) (by omega)
    have w2 : wrap64 (m + 1 + 1) = m + 2 := by rw [wrapIn (by omega) (by omega)]; omega
    have w3 : wrap64 (m + 2 + 1) = m + 3 := by rw [wrapIn (by omega) (by omega)]; omega
    let y1 := x.set i (⟨((Int.tmod m 3) == 0), (rd_T60 x i).f1, (rd_T60 x i).f2⟩ : S60)
    let y2 := y1.set i (⟨(rd_T60 y1 i).f0, m + 1, (rd_T60 y1 i).f2⟩ : S60)
    let y3 := y2.set i (⟨(rd_T60 y2 i).f0, (rd_T60 y2 i).f1, ((Int.tmod (m + 2) 3) == 0)⟩ : S60)
    obtain ⟨y, h⟩ := ih y3 (m + 3) (i + 1) (by simp only [y3, y2, y1, List.length_set]; exact hx) (by omega) (by omega) (by omega)
    refine ⟨y, evSucc ?_⟩
    simp only [laws_markUnitS.l0, show (i : Int) < (x.length : Int) by omega, show (0 : Int) ≤ (i : Int) by omega, if_true, Option.bind_some, w1, w2, w3, Int.toNat_natCast, wrapNat (show i < 4611686018427387904 by omega)]
    rw [show m + 3 * ((d + 1 : Nat) : Int) = m + 3 + 3 * (d : Int) by omega]
    exact h
theorem markU (x : List S60) (m : Int) (hx : x.length ≤ 1048576) (h0 : 0 ≤ m) (h1 : m ≤ 2305843009213693952) : ∃ y, Ev (fun k => laws_markUnitS.f k x m) (m + 3 * (x.length : Int), y) := by
  unfold laws_markUnitS.f
  exact markU_loop x.length x.length hx x m 0 rfl (by omega) h0 (by omega)
theorem markUSS_loop (n d : Nat) (hn : n ≤ 1048576) : ∀ (x : List (List S60)) (m : Int) (i : Nat), x.length = n → i + d = n → (∀ j : Nat, i ≤ j → (x.getD j []).length ≤ 1048576) → 0 ≤ m → m ≤ 1 + 3145728 * (i : Int) → ∃ r y, Ev (fun k => laws_markUnitSS.l0 k x m (i : Int)) (r, y) ∧ 0 ≤ r := by
  induction d with
  | zero =>
    intro x m i hx hi _ h0 h1
    refine ⟨m, x, evSucc ?_, h0⟩
    simp only [laws_markUnitSS.l0, show ¬ ((i : Int) < (x.length : Int)) by omega, if_false]
    exact Ev.now _
  | succ d ih =>
    intro x m i hx hi hr h0 h1
    have hri := hr i (Nat.le_refl _)
    obtain ⟨y, hy⟩ := markU (x.getD i []) m hri h0 (by omega)
    obtain ⟨r, z, h2, h3⟩ := ih (x.set i y) (m + 3 * ((x.getD i []).length : Int)) (i + 1) (by rw [List.length_set]; exact hx) (by omega) (fun j hj => by
      rw [List.getD_eq_getElem?_getD, List.getElem?_set_ne (by omega), ← List.getD_eq_getElem?_getD]
      exact hr j (by omega)) (by omega) (by omega)
    refine ⟨r, z, evSucc ?_, h3⟩
    simp only [laws_markUnitSS.l0, show (i : Int) < (x.length : Int) by omega, show (0 : Int) ≤ (i : Int) by omega, if_true, Int.toNat_natCast, wrapNat (show i < 4611686018427387904 by omega)]
    exact Ev.bind hy h2
theorem markUSS (x : List (List S60)) (hx : x.length ≤ 1048576) (hr : ∀ r ∈ x, r.length ≤ 1048576) : ∃ r y, Ev (fun k => laws_markUnitSS.f k x 1) (r, y) ∧ 0 ≤ r := by
  unfold laws_markUnitSS.f
  refine markUSS_loop x.length x.length hx x 1 0 rfl (by omega) (fun j _ => ?_) (by omega) (by omega)
  rw [List.getD_eq_getElem?_getD]
  rcases Nat.lt_or_ge j x.length with h | h
  · rw [List.getElem?_eq_getElem h]
    exact hr _ (List.getElem_mem h)
  · rw [List.getElem?_eq_none h]
    simp

theorem FnExactBestJobOrder : laws_FnExactBestJobOrder.Pure := by
  intro l hl0 _ hq
  refine Ev.rounds ?_
  unfold laws_FnExactBestJobOrder.f
  obtain ⟨r, h1, h2⟩ := szSS l hl0 (fun x hx => (hq x hx).1)
  refine Ev.bind h1 ?_
  by_cases c : r < 0
  · simp only [c, if_true]
    exact Ev.now _
  · obtain ⟨hl, hx⟩ := h2 (by omega)
    have hl' : (l.map fun x : List S62 => x.map convUnit).length ≤ 1048576 := by rw [List.length_map]; exact hl
    have hx' : ∀ x ∈ (l.map fun x : List S62 => x.map convUnit), x.length ≤ 1048576 := by
      intro x hm
      obtain ⟨y, hy, rfl⟩ := List.mem_map.1 hm
      rw [List.length_map]
      exact hx y hy
    have hb := best_len (l.map fun x : List S62 => x.map convUnit)
    obtain ⟨m, y, hm, hm0⟩ := markUSS _ hl' hx'
    simp only [c, if_false]
    refine Ev.bind (toUnitSS l hl hx) (Ev.bind (bestS _ hl' hx') (Ev.bind (bestI _) (Ev.bind (eqInt64S _ hb) ?_)))
    simp only [and_self, if_true]
    refine Ev.bind (eqUnitSS _ hl' hx') ?_
    simp only [if_true]
    refine Ev.bind hm ?_
    simp only [hm0, if_true]
    refine Ev.bind (markInt64S _ hb) (Ev.bind (heldInt64S _ hb) ?_)
    rw [if_pos ⟨by omega, rfl⟩]
    exact Ev.now _

end Go.Proofs.Ytpndkekgoadjkaa.Pure
