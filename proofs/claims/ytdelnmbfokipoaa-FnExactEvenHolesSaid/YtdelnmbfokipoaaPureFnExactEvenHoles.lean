/- The program and the reference give the same even holes, for every three int64; what is handed back is the caller's own. -/
import Derived.Test.YtdelnmbfokipoaaSayFnExactEvenHoles
namespace Go.Proofs.Ytdelnmbfokipoaa.Pure
open Go.RowKit Go.Proofs.Ytdelnmbfokipoaa.PFnExactEvenHoles Go.Proofs.YtdelnmbfokipoaaW.PrintWords Go.Proofs.YtdelnmbfokipoaaW.PrintLast
-- BEGIN
/-- A proposition as a bool. -/
noncomputable def B (p : Prop) : Bool := @decide p (Classical.propDecidable p)
theorem B_iff {p : Prop} : B p = true ↔ p := by unfold B; exact @decide_eq_true_iff p (Classical.propDecidable p)
theorem B_true {p : Prop} (h : p) : B p = true := B_iff.2 h
theorem B_false {p : Prop} (h : ¬ p) : B p = false := by cases e : B p with | false => rfl | true => exact absurd (B_iff.1 e) h
theorem B_congr {p q : Prop} (h : p ↔ q) : B p = B q := by rw [propext h]
theorem B_dec (p : Prop) [Decidable p] : B p = decide p := by by_cases h : p <;> simp [h, B_true, B_false]
theorem B_and (p q : Prop) : (B p && B q) = B (p ∧ q) := by
  by_cases hp : p <;> by_cases hq : q <;> simp [B_true, B_false, hp, hq]
theorem B_not (p : Prop) : (!B p) = B (¬ p) := by by_cases hp : p <;> simp [B_true, B_false, hp]
theorem evSucc {α : Type} {g : Nat → Option α} {r : α} (h : Ev (fun k => g (k + 1)) r) : Ev g r := Ev.step (fun _ => rfl) h
theorem evNow {α : Type} {g : Nat → Option α} {r : α} (h : ∀ k, g k = some r) : Ev g r := ⟨0, fun k _ => h k⟩
theorem evCount {σ α : Type} (F : Nat → σ → Int → Option α) (i0 n : Nat) (S : Nat → σ) (r : α)
    (hstep : ∀ i, i0 ≤ i → i < n → Ev (fun k => F k (S (i + 1)) ((i + 1 : Nat) : Int)) r → Ev (fun k => F k (S i) (i : Int)) r) (hend : Ev (fun k => F k (S n) (n : Int)) r) (hle : i0 ≤ n) : Ev (fun k => F k (S i0) (i0 : Int)) r := by
  have key : ∀ d i, i0 ≤ i → i + d = n → Ev (fun k => F k (S i) (i : Int)) r := by
    intro d
    induction d with
    | zero =>
      intro i _ hi
      have h0 : i = n := by omega
      subst h0
      exact hend
    | succ d ih => intro i h0 hi; exact hstep i h0 (by omega) (ih (i + 1) (by omega) (by omega))
  exact key (n - i0) i0 (Nat.le_refl _) (by omega)
/-- A loop that leaves at the first place where G fails. -/
theorem evAll (F : Nat → Int → Option Bool) (i0 n : Nat) (G : Nat → Prop)
    (hstep : ∀ i, i0 ≤ i → i < n → G i → ∀ r, Ev (fun k => F k ((i + 1 : Nat) : Int)) r → Ev (fun k => F k (i : Int)) r) (hbad : ∀ i, i0 ≤ i → i < n → ¬ G i → Ev (fun k => F k (i : Int)) false) (e : Bool) (hend : Ev (fun k => F k (n : Int)) e) (hle : i0 ≤ n) :
    Ev (fun k => F k (i0 : Int)) (B (∀ j, i0 ≤ j → j < n → G j) && e) := by
  have key : ∀ d i, i0 ≤ i → i + d = n → Ev (fun k => F k (i : Int)) (B (∀ j, i ≤ j → j < n → G j) && e) := by
    intro d
    induction d with
    | zero =>
      intro i _ hi
      have h0 : i = n := by omega
      subst h0
      rw [B_true (fun j h1 h2 => absurd h2 (by omega)), Bool.true_and]
      exact hend
    | succ d ih =>
      intro i h0 hi
      by_cases hg : G i
      · have h1 : B (∀ j, i ≤ j → j < n → G j) = B (∀ j, i + 1 ≤ j → j < n → G j) := B_congr ⟨fun h j a b => h j (by omega) b, fun h j a b => by
          by_cases e : j = i
          · subst e; exact hg
          · exact h j (by omega) b⟩
        rw [h1]
        exact hstep i h0 (by omega) hg _ (ih (i + 1) (by omega) (by omega))
      · rw [B_false (fun h => hg (h i (Nat.le_refl _) (by omega))), Bool.false_and]
        exact hbad i h0 (by omega) hg
  exact key (n - i0) i0 (Nat.le_refl _) (by omega)
theorem wrapNat {i : Nat} (h : i < 4611686018427387904) : wrap64 ((i : Int) + 1) = ((i + 1 : Nat) : Int) := by
  unfold wrap64; omega
theorem wrapPred {i : Nat} (h0 : 1 ≤ i) (h : i < 4611686018427387904) : wrap64 ((i : Int) - 1) = ((i - 1 : Nat) : Int) := by
  unfold wrap64; omega
theorem rdN (xs : List Int) (i : Nat) (h : i < xs.length) : rd xs (i : Int) = xs[i] := by
  simp [rd, List.getD_eq_getElem?_getD, List.getElem?_eq_getElem h]
theorem fillStep {α : Type} (xs : List α) (z : α) (i : Nat) (h : i < xs.length) : (xs.take i ++ List.replicate (xs.length - i) z).set i xs[i] = xs.take (i + 1) ++ List.replicate (xs.length - (i + 1)) z := by
  have h1 : xs.length - i = (xs.length - (i + 1)) + 1 := by omega
  rw [h1, List.replicate_succ, List.set_append_right _ _ (by rw [List.length_take]; omega)]
  rw [List.length_take, Nat.min_eq_left (by omega), Nat.sub_self, List.set_cons_zero, List.take_succ_eq_append_getElem h, List.append_assoc]
  rfl
theorem fillLen {α : Type} (xs : List α) (z : α) (i : Nat) (h : i ≤ xs.length) : (xs.take i ++ List.replicate (xs.length - i) z).length = xs.length := by
  simp; omega

theorem inS (a b c : Int) : spec_l01In.f a b c = some (decide (b ≤ a ∧ a ≤ c)) := by
  unfold spec_l01In.f
  by_cases h : b ≤ a <;> simp [h]

theorem inI (a b c : Int) : impl_inRange.f a b c = some (decide (b ≤ a ∧ a ≤ c)) := by
  unfold impl_inRange.f
  by_cases h : b ≤ a <;> simp [h]

theorem wrapIn {x : Int} (h0 : -9223372036854775808 ≤ x) (h1 : x ≤ 9223372036854775807) : wrap64 x = x := by
  unfold wrap64; omega

def InAll (l : List Int) (a b : Int) : Prop := ∀ j, 0 ≤ j → j < l.length → a ≤ rd l (j : Int) ∧ rd l (j : Int) ≤ b
theorem inAll_mem {l : List Int} {a b : Int} : InAll l a b ↔ ∀ x ∈ l, a ≤ x ∧ x ≤ b := by
  constructor
  · intro h x hx
    obtain ⟨i, hi, rfl⟩ := List.mem_iff_getElem.1 hx
    have := h i (Nat.zero_le _) hi
    rwa [rdN l i hi] at this
  · intro h j _ hj
    rw [rdN l j hj]
    exact h _ (List.getElem_mem hj)
theorem allIn_all (l : List Int) (a b : Int) : (l.all fun x => decide (a ≤ x ∧ x ≤ b)) = B (InAll l a b) := by
  by_cases h : InAll l a b
  · rw [B_true h, List.all_eq_true]
    exact fun x hx => decide_eq_true (inAll_mem.1 h x hx)
  · rw [B_false h, Bool.eq_false_iff]
    intro h2
    exact h (inAll_mem.2 fun x hx => of_decide_eq_true (List.all_eq_true.1 h2 x hx))

theorem withinS (l : List Int) (m a b : Int) (h : l.length ≤ 1048576) : Ev (fun k => spec_l01Within.f k l m a b) (B (InAll l a b) && decide ((l.length : Int) ≤ m)) := by
  unfold spec_l01Within.f
  have := evAll (fun k i => spec_l01Within.l0 k l m a b i) 0 l.length (fun j => a ≤ rd l (j : Int) ∧ rd l (j : Int) ≤ b) ?_ ?_ (decide ((l.length : Int) ≤ m)) ?_ (Nat.zero_le _)
  · exact this
  · intro i h0 hi hg r hr
    refine evSucc ?_
    have e1 : (i : Int) < (l.length : Int) := by omega
    have e2 : (0 : Int) ≤ (i : Int) := by omega
    simp only [spec_l01Within.l0, inS, Option.bind_some, e1, e2, decide_eq_true hg, if_true, wrapNat (show i < 4611686018427387904 by omega)]
    exact hr
  · intro i h0 hi hg
    refine evSucc ?_
    have e1 : (i : Int) < (l.length : Int) := by omega
    have e2 : (0 : Int) ≤ (i : Int) := by omega
    simp only [spec_l01Within.l0, inS, Option.bind_some, e1, e2, decide_eq_false hg, if_true, if_false, Bool.false_eq_true]
    exact Ev.now _
  · refine evSucc ?_
    simp only [spec_l01Within.l0, Int.lt_irrefl, if_false]
    exact Ev.now _

def Rising (l : List Int) : Prop := ∀ j, 1 ≤ j → j < l.length → rd l ((j - 1 : Nat) : Int) < rd l (j : Int)
theorem risesS (l : List Int) (h : l.length ≤ 1048576) (h1 : 1 ≤ l.length) : Ev (fun k => spec_l01Rises.f k l) (B (Rising l)) := by
  unfold spec_l01Rises.f
  have := evAll (fun k i => spec_l01Rises.l0 k l i) 1 l.length (fun j => rd l ((j - 1 : Nat) : Int) < rd l (j : Int)) ?_ ?_ true ?_ h1
  · rw [Bool.and_true] at this; exact this
  · intro i h0 hi hg r hr
    refine evSucc ?_
    have e1 : (i : Int) < (l.length : Int) := by omega
    have e2 : (0 : Int) ≤ (i : Int) := by omega
    have e3 : (0 : Int) ≤ ((i - 1 : Nat) : Int) := by omega
    have e4 : ((i - 1 : Nat) : Int) < (l.length : Int) := by omega
    have e5 : ¬ (rd l (i : Int) ≤ rd l ((i - 1 : Nat) : Int)) := by omega
    simp only [spec_l01Rises.l0, wrapPred h0 (show i < 4611686018427387904 by omega), e1, e2, e3, e4, e5, if_true, if_false, wrapNat (show i < 4611686018427387904 by omega)]
    exact hr
  · intro i h0 hi hg
    refine evSucc ?_
    have e1 : (i : Int) < (l.length : Int) := by omega
    have e2 : (0 : Int) ≤ (i : Int) := by omega
    have e3 : (0 : Int) ≤ ((i - 1 : Nat) : Int) := by omega
    have e4 : ((i - 1 : Nat) : Int) < (l.length : Int) := by omega
    have e5 : rd l (i : Int) ≤ rd l ((i - 1 : Nat) : Int) := by omega
    simp only [spec_l01Rises.l0, wrapPred h0 (show i < 4611686018427387904 by omega), e1, e2, e3, e4, e5, if_true]
    exact Ev.now _
  · refine evSucc ?_
    simp only [spec_l01Rises.l0, Int.lt_irrefl, if_false]
    exact Ev.now _
theorem risesI (l : List Int) (h : l.length ≤ 1048576) (h1 : 1 ≤ l.length) : Ev (fun k => impl_AreHoles.l0 k l 1) (B (Rising l)) := by
  have := evAll (fun k i => impl_AreHoles.l0 k l i) 1 l.length (fun j => rd l ((j - 1 : Nat) : Int) < rd l (j : Int)) ?_ ?_ true ?_ h1
  · rw [Bool.and_true] at this; exact this
  · intro i h0 hi hg r hr
    refine evSucc ?_
    have e1 : (i : Int) < (l.length : Int) := by omega
    have e2 : (0 : Int) ≤ (i : Int) := by omega
    have e3 : (0 : Int) ≤ ((i - 1 : Nat) : Int) := by omega
    have e4 : ((i - 1 : Nat) : Int) < (l.length : Int) := by omega
    have e5 : ¬ (rd l ((i - 1 : Nat) : Int) ≥ rd l (i : Int)) := by omega
    simp only [impl_AreHoles.l0, wrapPred h0 (show i < 4611686018427387904 by omega), e1, e2, e3, e4, e5, if_true, if_false, wrapNat (show i < 4611686018427387904 by omega)]
    exact hr
  · intro i h0 hi hg
    refine evSucc ?_
    have e1 : (i : Int) < (l.length : Int) := by omega
    have e2 : (0 : Int) ≤ (i : Int) := by omega
    have e3 : (0 : Int) ≤ ((i - 1 : Nat) : Int) := by omega
    have e4 : ((i - 1 : Nat) : Int) < (l.length : Int) := by omega
    have e5 : rd l ((i - 1 : Nat) : Int) ≥ rd l (i : Int) := by omega
    simp only [impl_AreHoles.l0, wrapPred h0 (show i < 4611686018427387904 by omega), e1, e2, e3, e4, e5, if_true]
    exact Ev.now _
  · refine evSucc ?_
    simp only [impl_AreHoles.l0, Int.lt_irrefl, if_false]
    exact Ev.now _
noncomputable def holesB (l : List Int) : Bool := B ((2 ≤ l.length ∧ l.length ≤ 12) ∧ Rising l ∧ InAll l 0 20000)
theorem holesS (l : List Int) (h : l.length ≤ 1048576) : Ev (fun k => spec_AreHoles.f k l) (holesB l) := by
  unfold spec_AreHoles.f holesB
  by_cases h2 : (l.length : Int) ≥ 2
  · simp only [h2, if_true]
    refine Ev.bind (risesS l h (by omega)) ?_
    by_cases hr : Rising l
    · simp only [B_true hr, if_true]
      refine Ev.bind (withinS l 12 0 20000 h) ?_
      have e : (B (InAll l 0 20000) && decide ((l.length : Int) ≤ 12)) = B ((2 ≤ l.length ∧ l.length ≤ 12) ∧ Rising l ∧ InAll l 0 20000) := by
        rw [← B_dec, B_and]
        exact B_congr ⟨fun h => ⟨⟨by omega, by omega⟩, hr, h.1⟩, fun h => ⟨h.2.2, by omega⟩⟩
      rw [e]
      exact Ev.now _
    · simp only [B_false hr, Bool.false_eq_true, if_false]
      rw [B_false (fun h => hr h.2.1)]
      exact Ev.now _
  · simp only [h2, if_false]
    rw [B_false (fun h => h2 (by omega))]
    exact Ev.now _
theorem holesI (l : List Int) (h : l.length ≤ 1048576) : Ev (fun k => impl_AreHoles.f k l) (holesB l) := by
  unfold impl_AreHoles.f holesB impl_length_int64.f impl_allIn.f
  simp only [inI, Option.bind_some, allIn_all, decide_eq_true_eq]
  by_cases h2 : 2 ≤ (l.length : Int) ∧ (l.length : Int) ≤ 12
  · simp only [h2, and_self, if_true]
    refine evSucc ?_
    simp only [impl_AreHoles.j0]
    by_cases hi : InAll l 0 20000
    · simp only [B_true hi, Bool.not_true, Bool.false_eq_true, if_false]
      have e : B (Rising l) = B ((2 ≤ l.length ∧ l.length ≤ 12) ∧ Rising l ∧ InAll l 0 20000) := B_congr ⟨fun h => ⟨⟨by omega, by omega⟩, h, hi⟩, fun h => h.2.1⟩
      rw [← e]
      exact risesI l h (by omega)
    · simp only [B_false hi, Bool.not_false, if_true]
      rw [B_false (fun h => hi h.2.2)]
      exact Ev.now _
  · simp only [h2, if_false]
    refine evSucc ?_
    simp only [impl_AreHoles.j0, if_true]
    rw [B_false (fun h => h2 (by omega))]
    exact Ev.now _

def evenAt (h n m : Int) (k : Nat) : Int := m + Int.tdiv ((k : Int) * (h - 2 * m)) (n - 1)
def evenL (h n m : Int) (c : Nat) : List Int := (List.range c).map fun k => evenAt h n m k
theorem evenL_len (h n m : Int) (c : Nat) : (evenL h n m c).length = c := by simp [evenL]
theorem evenL_succ (h n m : Int) (c : Nat) : evenL h n m (c + 1) = evenL h n m c ++ [evenAt h n m c] := by simp [evenL, List.range_succ]
theorem evenL_get (h n m : Int) (c i : Nat) (hi : i < c) : rd (evenL h n m c) (i : Int) = evenAt h n m i := by
  rw [rdN _ _ (by rw [evenL_len]; exact hi)]
  simp [evenL]
theorem even_term {h n m : Int} (h0 : 1 ≤ h) (h1 : h ≤ 20000) (n0 : 2 ≤ n) (n1 : n ≤ 12) (m0 : 0 ≤ m) (m1 : m ≤ h) (k : Nat) (hk : (k : Int) < n) :
    wrap64 (m + (wrap64 (Int.tdiv (wrap64 ((k : Int) * (wrap64 (h - (wrap64 (2 * m)))))) (wrap64 (n - 1))))) = evenAt h n m k ∧ -20000 ≤ Int.tdiv ((k : Int) * (h - 2 * m)) (n - 1) ∧ Int.tdiv ((k : Int) * (h - 2 * m)) (n - 1) ≤ 20000 := by
  have hk0 : 0 ≤ (k : Int) := by omega
  have hk1 : (k : Int) ≤ n - 1 := by omega
  have b1 : (k : Int) * (h - 2 * m) ≤ (n - 1) * 20000 := by
    have := Int.mul_le_mul_of_nonneg_left (show h - 2 * m ≤ 20000 by omega) hk0
    have := Int.mul_le_mul_of_nonneg_right hk1 (show (0 : Int) ≤ 20000 by decide)
    omega
  have b2 : -((n - 1) * 20000) ≤ (k : Int) * (h - 2 * m) := by
    have := Int.mul_le_mul_of_nonneg_left (show -20000 ≤ h - 2 * m by omega) hk0
    have := Int.mul_le_mul_of_nonneg_right hk1 (show (0 : Int) ≤ 20000 by decide)
    omega
  have q1 : Int.tdiv ((k : Int) * (h - 2 * m)) (n - 1) ≤ 20000 := by
    rcases Int.lt_or_le ((k : Int) * (h - 2 * m)) 0 with hneg | hpos
    · have e : (k : Int) * (h - 2 * m) = -(-((k : Int) * (h - 2 * m))) := by omega
      rw [e, Int.neg_tdiv, Int.tdiv_eq_ediv_of_nonneg (by omega)]
      have := Int.ediv_nonneg (show 0 ≤ -((k : Int) * (h - 2 * m)) by omega) (show 0 ≤ n - 1 by omega)
      omega
    · rw [Int.tdiv_eq_ediv_of_nonneg hpos]
      exact Int.ediv_le_of_le_mul (by omega) (by omega)
  have q2 : -20000 ≤ Int.tdiv ((k : Int) * (h - 2 * m)) (n - 1) := by
    rcases Int.lt_or_le ((k : Int) * (h - 2 * m)) 0 with hneg | hpos
    · have e : (k : Int) * (h - 2 * m) = -(-((k : Int) * (h - 2 * m))) := by omega
      rw [e, Int.neg_tdiv, Int.tdiv_eq_ediv_of_nonneg (by omega)]
      have : (-((k : Int) * (h - 2 * m))) / (n - 1) ≤ 20000 := Int.ediv_le_of_le_mul (by omega) (by omega)
      omega
    · rw [Int.tdiv_eq_ediv_of_nonneg hpos]
      have := Int.ediv_nonneg hpos (show 0 ≤ n - 1 by omega)
      omega
  refine ⟨?_, q2, q1⟩
  have hn : (n - 1) * 20000 ≤ 220000 := by omega
  rw [wrapIn (x := 2 * m) (by omega) (by omega), wrapIn (x := h - 2 * m) (by omega) (by omega), wrapIn (x := (k : Int) * (h - 2 * m)) (by omega) (by omega), wrapIn (x := n - 1) (by omega) (by omega), wrapIn (x := Int.tdiv _ _) (by omega) (by omega)]
  unfold evenAt
  rw [wrapIn (by omega) (by omega)]
noncomputable def evenV (h n m : Int) : List Int × Int := if (1 ≤ h ∧ h ≤ 20000) ∧ (2 ≤ n ∧ n ≤ 12) ∧ (0 ≤ m ∧ m ≤ h) then (if holesB (evenL h n m n.toNat) = true then (evenL h n m n.toNat, 0) else ([], 5)) else ([], 2)
theorem even_not {h n m : Int} (h0 : 1 ≤ h) (h1 : h ≤ 20000) (n0 : 2 ≤ n) (n1 : n ≤ 12) (hm : 2 * m > h) : holesB (evenL h n m n.toNat) = false := by
  refine B_false fun ⟨_, hr, _⟩ => ?_
  have := hr 1 (Nat.le_refl _) (by rw [evenL_len]; omega)
  rw [evenL_get _ _ _ _ _ (by omega), evenL_get _ _ _ _ _ (by omega)] at this
  unfold evenAt at this
  have e : ((1 : Nat) : Int) * (h - 2 * m) = -(2 * m - h) := by omega
  have e0 : ((1 - 1 : Nat) : Int) * (h - 2 * m) = 0 := by simp
  rw [e, e0, Int.neg_tdiv, Int.zero_tdiv, Int.tdiv_eq_ediv_of_nonneg (by omega)] at this
  have := Int.ediv_nonneg (show 0 ≤ 2 * m - h by omega) (show 0 ≤ n - 1 by omega)
  omega
theorem evenS (h n m : Int) : Ev (fun k => spec_EvenHoles.f k h n m) (evenV h n m) := by
  unfold spec_EvenHoles.f evenV
  simp only [inS, Option.bind_some, decide_eq_true_eq]
  by_cases hh : 1 ≤ h ∧ h ≤ 20000
  · by_cases hn : 2 ≤ n ∧ n ≤ 12
    · simp only [hh, hn, and_self, true_and, if_true]
      refine evSucc ?_
      simp only [spec_EvenHoles.j0]
      by_cases hm : 0 ≤ m ∧ m ≤ h
      · simp only [hm, and_self, decide_true, Bool.not_true, Bool.false_eq_true, if_false, if_true, wrapIn (show -9223372036854775808 ≤ 2 * m by omega) (show 2 * m ≤ 9223372036854775807 by omega)]
        by_cases h2 : 2 * m > h
        · simp only [h2, if_true, even_not hh.1 hh.2 hn.1 hn.2 h2, Bool.false_eq_true, if_false]
          exact Ev.now _
        · simp only [h2, if_false]
          obtain ⟨c, rfl⟩ := Int.eq_ofNat_of_zero_le (show 0 ≤ n by omega)
          have := evCount (fun k (s : List Int) i => spec_EvenHoles.l0 k h (c : Int) m s i) 0 c (fun i => evenL h (c : Int) m i) (if holesB (evenL h c m c) = true then (evenL h c m c, 0) else ([], 5)) ?_ ?_ (Nat.zero_le _)
          · simpa [evenL] using this
          · intro i _ hi hr
            refine evSucc ?_
            have ht := (even_term hh.1 hh.2 hn.1 hn.2 hm.1 hm.2 i (by omega)).1
            simp only [spec_EvenHoles.l0, show (i : Int) < (c : Int) by omega, wrapIn (show -9223372036854775808 ≤ (c : Int) - 1 by omega) (show (c : Int) - 1 ≤ 9223372036854775807 by omega), show ¬ ((c : Int) - 1 = 0) by omega, evenL_len, show i < 17592186044416 by omega, if_true, if_false, wrapNat (show i < 4611686018427387904 by omega)]
            rw [wrapIn (x := (c : Int) - 1) (by omega) (by omega)] at ht
            rw [ht]
            rw [evenL_succ] at hr
            exact hr
          · refine evSucc ?_
            simp only [spec_EvenHoles.l0, Int.lt_irrefl, if_false]
            refine Ev.bind (holesS _ (by rw [evenL_len]; omega)) ?_
            cases holesB (evenL h (c : Int) m c)
            · exact Ev.now _
            · exact Ev.now _
      · simp only [hm, decide_false, Bool.not_false, if_true, if_false]
        exact Ev.now _
    · simp only [hh, hn, and_self, true_and, false_and, if_true, if_false]
      refine evSucc ?_
      simp only [spec_EvenHoles.j0, if_true]
      exact Ev.now _
  · simp only [hh, false_and, if_false]
    refine evSucc ?_
    simp only [spec_EvenHoles.j0, if_true]
    exact Ev.now _
theorem evenI (h n m : Int) : Ev (fun k => impl_EvenHoles.f k h n m) (evenV h n m) := by
  unfold impl_EvenHoles.f evenV
  simp only [inI, Option.bind_some, decide_eq_true_eq]
  by_cases hh : 1 ≤ h ∧ h ≤ 20000
  · by_cases hn : 2 ≤ n ∧ n ≤ 12
    · simp only [hh, hn, and_self, true_and, if_true]
      refine evSucc ?_
      simp only [impl_EvenHoles.j0]
      by_cases hm : 0 ≤ m ∧ m ≤ h
      · simp only [hm, and_self, decide_true, Bool.not_true, Bool.false_eq_true, if_false, if_true]
        obtain ⟨c, rfl⟩ := Int.eq_ofNat_of_zero_le (show 0 ≤ n by omega)
        have := evCount (fun k (s : List Int) i => impl_EvenHoles.l0 k h (c : Int) m s (c : Int) i) 0 c (fun i => evenL h (c : Int) m i) (if holesB (evenL h c m c) = true then (evenL h c m c, 0) else ([], 5)) ?_ ?_ (Nat.zero_le _)
        · simpa [evenL] using this
        · intro i _ hi hr
          refine evSucc ?_
          have ht := (even_term hh.1 hh.2 hn.1 hn.2 hm.1 hm.2 i (by omega)).1
          simp only [impl_EvenHoles.l0, show (i : Int) < (c : Int) by omega, wrapIn (show -9223372036854775808 ≤ (c : Int) - 1 by omega) (show (c : Int) - 1 ≤ 9223372036854775807 by omega), show ¬ ((c : Int) - 1 = 0) by omega, evenL_len, show i < 17592186044416 by omega, if_true, if_false, wrapNat (show i < 4611686018427387904 by omega)]
          rw [wrapIn (x := (c : Int) - 1) (by omega) (by omega)] at ht
          rw [ht]
          rw [evenL_succ] at hr
          exact hr
        · refine evSucc ?_
          simp only [impl_EvenHoles.l0, Int.lt_irrefl, if_false]
          refine Ev.bind (holesI _ (by rw [evenL_len]; omega)) ?_
          cases holesB (evenL h (c : Int) m c)
          · exact Ev.now _
          · exact Ev.now _
      · simp only [hm, decide_false, Bool.not_false, if_true, if_false]
        exact Ev.now _
    · simp only [hh, hn, and_self, true_and, false_and, if_true, if_false]
      refine evSucc ?_
      simp only [impl_EvenHoles.j0, if_true]
      exact Ev.now _
  · simp only [hh, false_and, if_false]
    refine evSucc ?_
    simp only [impl_EvenHoles.j0, if_true]
    exact Ev.now _
theorem even_len (h n m : Int) : (evenV h n m).1.length ≤ 1048576 := by
  unfold evenV
  split
  · rename_i hc
    split
    · simp only [evenL_len]; omega
    · simp
  · simp

theorem eqInt64S (l : List Int) (h : l.length ≤ 1048576) : Ev (fun k => laws_eqInt64S.f k l l) true := by
  unfold laws_eqInt64S.f
  simp only [if_true]
  have := evAll (fun k i => laws_eqInt64S.l0 k l l i) 0 l.length (fun _ => True) ?_ (fun i _ hi hn => absurd trivial hn) true ?_ (Nat.zero_le _)
  · simpa [B_true] using this
  · intro i _ hi _ r h
    refine evSucc ?_
    have h1 : (i : Int) < (l.length : Int) := by omega
    have h2 : (0 : Int) ≤ (i : Int) := by omega
    simp only [laws_eqInt64S.l0, h1, h2, if_true, wrapNat (show i < 4611686018427387904 by omega)]
    exact h
  · refine evSucc ?_
    simp only [laws_eqInt64S.l0, Int.lt_irrefl, if_false]
    exact Ev.now _

def marks (i : Nat) : List Int := (List.range i).map fun (j : Nat) => (j : Int) + 1
theorem marks_len (i : Nat) : (marks i).length = i := by simp [marks]
theorem marks_succ (i : Nat) : marks (i + 1) = marks i ++ [(i : Int) + 1] := by simp [marks, List.range_succ]
theorem marks_get (n i : Nat) (h : i < n) : rd (marks n) (i : Int) = (i : Int) + 1 := by
  rw [rdN _ _ (by rw [marks_len]; exact h)]
  simp [marks]
theorem set_marks (l : List Int) (i : Nat) (h : i < l.length) : (marks i ++ l.drop i).set i ((i : Int) + 1) = marks (i + 1) ++ l.drop (i + 1) := by
  rw [List.set_append_right _ _ (by rw [marks_len]; omega), marks_len, Nat.sub_self, List.drop_eq_getElem_cons h, List.set_cons_zero, marks_succ, List.append_assoc]
  rfl
theorem markInt64S (l : List Int) (h : l.length ≤ 1048576) : Ev (fun k => laws_markInt64S.f k l 1) ((l.length : Int) + 1, marks l.length) := by
  unfold laws_markInt64S.f
  have := evCount (fun k (s : List Int × Int) i => laws_markInt64S.l0 k s.1 s.2 i) 0 l.length (fun i => (marks i ++ l.drop i, (i : Int) + 1)) ((l.length : Int) + 1, marks l.length) ?_ ?_ (Nat.zero_le _)
  · simpa [marks] using this
  · intro i _ hi hr
    refine evSucc ?_
    have hl : (marks i ++ l.drop i).length = l.length := by simp [marks_len]; omega
    simp only [laws_markInt64S.l0, hl, show (i : Int) < (l.length : Int) by omega, show (0 : Int) ≤ (i : Int) by omega, if_true, Int.toNat_natCast, set_marks l i hi, wrapNat (show i < 4611686018427387904 by omega), wrapIn (show -9223372036854775808 ≤ (i : Int) + 1 + 1 by omega) (show (i : Int) + 1 + 1 ≤ 9223372036854775807 by omega)]
    simp only [show ((i + 1 : Nat) : Int) + 1 = (i : Int) + 1 + 1 by omega] at hr
    exact hr
  · refine evSucc ?_
    have hl : (marks l.length ++ l.drop l.length).length = l.length := by simp [marks_len]
    simp only [laws_markInt64S.l0, hl, Int.lt_irrefl, if_false]
    rw [List.drop_length, List.append_nil]
    exact Ev.now _
theorem heldInt64S (n : Nat) (h : n ≤ 1048576) : Ev (fun k => laws_heldInt64S.f k (marks n) 1) ((n : Int) + 1) := by
  unfold laws_heldInt64S.f
  have := evCount (fun k (s : Int) i => laws_heldInt64S.l0 k (marks n) s i) 0 n (fun i => (i : Int) + 1) ((n : Int) + 1) ?_ ?_ (Nat.zero_le _)
  · exact this
  · intro i _ hi hr
    refine evSucc ?_
    simp only [laws_heldInt64S.l0, marks_len, show (i : Int) < (n : Int) by omega, show (0 : Int) ≤ (i : Int) by omega, if_true, marks_get n i hi, wrapNat (show i < 4611686018427387904 by omega), wrapIn (show -9223372036854775808 ≤ (i : Int) + 1 + 1 by omega) (show (i : Int) + 1 + 1 ≤ 9223372036854775807 by omega)]
    simp only [show ((i + 1 : Nat) : Int) + 1 = (i : Int) + 1 + 1 by omega] at hr
    exact hr
  · refine evSucc ?_
    simp only [laws_heldInt64S.l0, marks_len, Int.lt_irrefl, if_false]
    exact Ev.now _

theorem FnExactEvenHoles : laws_FnExactEvenHoles.Pure := by
  intro h n m _ _ _
  refine Ev.rounds ?_
  unfold laws_FnExactEvenHoles.f
  have hl := even_len h n m
  refine Ev.bind (evenS h n m) (Ev.bind (evenI h n m) (Ev.bind (eqInt64S _ hl) ?_))
  simp only [if_true, bne_self_eq_false]
  refine evSucc ?_
  simp only [laws_FnExactEvenHoles.j0, Bool.false_eq_true, if_false]
  refine Ev.bind (markInt64S _ hl) (Ev.bind (heldInt64S _ hl) ?_)
  simp only [show ¬ ((((evenV h n m).1.length : Nat) : Int) + 1 < 0) by omega, if_false, if_true]
  refine Ev.bind (evenI h n m) (Ev.bind (eqInt64S _ hl) ?_)
  simp only [if_true, bne_self_eq_false]
  refine evSucc ?_
  simp only [laws_FnExactEvenHoles.j1, Bool.false_eq_true, if_false]
  refine Ev.bind (heldInt64S _ hl) ?_
  simp only [show ¬ ((((evenV h n m).1.length : Nat) : Int) + 1 < 0) by omega, if_false, if_true]
  exact Ev.now _

end Go.Proofs.Ytdelnmbfokipoaa.Pure
