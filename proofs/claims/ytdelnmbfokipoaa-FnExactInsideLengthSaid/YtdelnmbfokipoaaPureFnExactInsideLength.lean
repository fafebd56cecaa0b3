/- The program and the reference give the same length of the thread inside a section, for every list of int64. -/
import Derived.Test.YtdelnmbfokipoaaSayFnExactInsideLength
namespace Go.Proofs.Ytdelnmbfokipoaa.Pure
open Go.RowKit Go.Proofs.Ytdelnmbfokipoaa.PFnExactInsideLength Go.Proofs.YtdelnmbfokipoaaW.PrintWords Go.Proofs.YtdelnmbfokipoaaW.PrintLast
-- BEGIN
/-- A proposition as a bool. -/
noncomputable def B (p : Prop) : Bool := @decide p (Classical.propDecidable p)
theorem B_iff {p : Prop} : B p = true ↔ p := by unfold B; exact @decide_eq_true_iff p (Classical.propDecidable p)
theorem B_true {p : Prop} (h : p) : B p = true := B_iff.2 h
theorem B_false {p : Prop} (h : ¬ p) : B p = false := by cases e : B p with | false => rfl | true => exact absurd (B_iff.1 e) h
theorem B_congr {p q : Prop} (h : p ↔ q) : B p = B q := by rw [propext h]
theorem B_dec (p : Prop) [Decidable p] : B p = decide p := by by_cases h : p <;> simp [h, B_true, B_false]
theorem B_and (p q : Prop) : (B p && B q) = B (p ∧ q) := by
  by_cases hp : p <;> by_cases hq : q <;> simp [B_true, B_false, hp, hq]
theorem B_not (p : Prop) : (!B p) = B (¬ p) := by by_cases hp : p <;> simp [B_true, B_false, hp]
theorem evSucc {α : Type} {g : Nat → Option α} {r : α} (h : Ev (fun k => g (k + 1)) r) : Ev g r := Ev.step (fun _ => rfl) h
theorem evNow {α : Type} {g : Nat → Option α} {r : α} (h : ∀ k, g k = some r) : Ev g r := ⟨0, fun k _ => h k⟩
theorem evCount {σ α : Type} (F : Nat → σ → Int → Option α) (i0 n : Nat) (S : Nat → σ) (r : α)
    (hstep : ∀ i, i0 ≤ i → i < n → Ev (fun k => F k (S (i + 1)) ((i + 1 : Nat) : Int)) r → Ev (fun k => F k (S i) (i : Int)) r) (hend : Ev (fun k => F k (S n) (n : Int)) r) (hle : i0 ≤ n) : Ev (fun k => F k (S i0) (i0 : Int)) r := by
  have key : ∀ d i, i0 ≤ i → i + d = n → Ev (fun k => F k (S i) (i : Int)) r := by
    intro d
    induction d with
    | zero =>
      intro i _ hi
      have h0 : i = n := by omega
      subst h0
      exact hend
    | succ d ih => intro i h0 hi; exact hstep i h0 (by omega) (ih (i + 1) (by omega) (by omega))
  exact key (n - i0) i0 (Nat.le_refl _) (by omega)
/-- A loop that leaves at the first place where G fails. -/
theorem evAll (F : Nat → Int → Option Bool) (i0 n : Nat) (G : Nat → Prop)
    (hstep : ∀ i, i0 ≤ i → i < n → G i → ∀ r, Ev (fun k => F k ((i + 1 : Nat) : Int)) r → Ev (fun k => F k (i : Int)) r) (hbad : ∀ i, i0 ≤ i → i < n → ¬ G i → Ev (fun k => F k (i : Int)) false) (e : Bool) (hend : Ev (fun k => F k (n : Int)) e) (hle : i0 ≤ n) :
    Ev (fun k => F k (i0 : Int)) (B (∀ j, i0 ≤ j → j < n → G j) && e) := by
  have key : ∀ d i, i0 ≤ i → i + d = n → Ev (fun k => F k (i : Int)) (B (∀ j, i ≤ j → j < n → G j) && e) := by
    intro d
    induction d with
    | zero =>
      intro i _ hi
      have h0 : i = n := by omega
      subst h0
      rw [B_true (fun j h1 h2 => absurd h2 (by omega)), Bool.true_and]
      exact hend
    | succ d ih =>
      intro i h0 hi
      by_cases hg : G i
      · have h1 : B (∀ j, i ≤ j → j < n → G j) = B (∀ j, i + 1 ≤ j → j < n → G j) := B_congr ⟨fun h j a b => h j (by omega) b, fun h j a b => by
          by_cases e : j = i
          · subst e; exact hg
          · exact h j (by omega) b⟩
        rw [h1]
        exact hstep i h0 (by omega) hg _ (ih (i + 1) (by omega) (by omega))
      · rw [B_false (fun h => hg (h i (Nat.le_refl _) (by omega))), Bool.false_and]
        exact hbad i h0 (by omega) hg
  exact key (n - i0) i0 (Nat.le_refl _) (by omega)
theorem wrapNat {i : Nat} (h : i < 4611686018427387904) : wrap64 ((i : Int) + 1) = ((i + 1 : Nat) : Int) := by
  unfold wrap64; omega
theorem wrapPred {i : Nat} (h0 : 1 ≤ i) (h : i < 4611686018427387904) : wrap64 ((i : Int) - 1) = ((i - 1 : Nat) : Int) := by
  unfold wrap64; omega
theorem rdN (xs : List Int) (i : Nat) (h : i < xs.length) : rd xs (i : Int) = xs[i] := by
  simp [rd, List.getD_eq_getElem?_getD, List.getElem?_eq_getElem h]
theorem fillStep {α : Type} (xs : List α) (z : α) (i : Nat) (h : i < xs.length) : (xs.take i ++ List.replicate (xs.length - i) z).set i xs[i] = xs.take (i + 1) ++ List.replicate (xs.length - (i + 1)) z := by
  have h1 : xs.length - i = (xs.length - (i + 1)) + 1 := by omega
  rw [h1, List.replicate_succ, List.set_append_right _ _ (by rw [List.length_take]; omega)]
  rw [List.length_take, Nat.min_eq_left (by omega), Nat.sub_self, List.set_cons_zero, List.take_succ_eq_append_getElem h, List.append_assoc]
  rfl
theorem fillLen {α : Type} (xs : List α) (z : α) (i : Nat) (h : i ≤ xs.length) : (xs.take i ++ List.replicate (xs.length - i) z).length = xs.length := by
  simp; omega

theorem inS (a b c : Int) : spec_l01In.f a b c = some (decide (b ≤ a ∧ a ≤ c)) := by
  unfold spec_l01In.f
  by_cases h : b ≤ a <;> simp [h]

theorem inI (a b c : Int) : impl_inRange.f a b c = some (decide (b ≤ a ∧ a ≤ c)) := by
  unfold impl_inRange.f
  by_cases h : b ≤ a <;> simp [h]

theorem wrapIn {x : Int} (h0 : -9223372036854775808 ≤ x) (h1 : x ≤ 9223372036854775807) : wrap64 x = x := by
  unfold wrap64; omega

def Rising (l : List Int) : Prop := ∀ j, 1 ≤ j → j < l.length → rd l ((j - 1 : Nat) : Int) < rd l (j : Int)
def InAll (l : List Int) (a b : Int) : Prop := ∀ j, 0 ≤ j → j < l.length → a ≤ rd l (j : Int) ∧ rd l (j : Int) ≤ b
theorem inAll_mem {l : List Int} {a b : Int} : InAll l a b ↔ ∀ x ∈ l, a ≤ x ∧ x ≤ b := by
  constructor
  · intro h x hx
    obtain ⟨i, hi, rfl⟩ := List.mem_iff_getElem.1 hx
    have := h i (Nat.zero_le _) hi
    rwa [rdN l i hi] at this
  · intro h j _ hj
    rw [rdN l j hj]
    exact h _ (List.getElem_mem hj)
theorem allIn_all (l : List Int) (a b : Int) : (l.all fun x => decide (a ≤ x ∧ x ≤ b)) = B (InAll l a b) := by
  by_cases h : InAll l a b
  · rw [B_true h, List.all_eq_true]
    exact fun x hx => decide_eq_true (inAll_mem.1 h x hx)
  · rw [B_false h, Bool.eq_false_iff]
    intro h2
    exact h (inAll_mem.2 fun x hx => of_decide_eq_true (List.all_eq_true.1 h2 x hx))
theorem risesS (l : List Int) (h : l.length ≤ 1048576) (h1 : 1 ≤ l.length) : Ev (fun k => spec_l01Rises.f k l) (B (Rising l)) := by
  unfold spec_l01Rises.f
  have := evAll (fun k i => spec_l01Rises.l0 k l i) 1 l.length (fun j => rd l ((j - 1 : Nat) : Int) < rd l (j : Int)) ?_ ?_ true ?_ h1
  · rw [Bool.and_true] at this; exact this
  · intro i h0 hi hg r hr
    refine evSucc ?_
    have e1 : (i : Int) < (l.length : Int) := by omega
    have e2 : (0 : Int) ≤ (i : Int) := by omega
    have e3 : (0 : Int) ≤ ((i - 1 : Nat) : Int) := by omega
    have e4 : ((i - 1 : Nat) : Int) < (l.length : Int) := by omega
    have e5 : ¬ (rd l (i : Int) ≤ rd l ((i - 1 : Nat) : Int)) := by omega
    simp only [spec_l01Rises.l0, wrapPred h0 (show i < 4611686018427387904 by omega), e1, e2, e3, e4, e5, if_true, if_false, wrapNat (show i < 4611686018427387904 by omega)]
    exact hr
  · intro i h0 hi hg
    refine evSucc ?_
    have e1 : (i : Int) < (l.length : Int) := by omega
    have e2 : (0 : Int) ≤ (i : Int) := by omega
    have e3 : (0 : Int) ≤ ((i - 1 : Nat) : Int) := by omega
    have e4 : ((i - 1 : Nat) : Int) < (l.length : Int) := by omega
    have e5 : rd l (i : Int) ≤ rd l ((i - 1 : Nat) : Int) := by omega
    simp only [spec_l01Rises.l0, wrapPred h0 (show i < 4611686018427387904 by omega), e1, e2, e3, e4, e5, if_true]
    exact Ev.now _
  · refine evSucc ?_
    simp only [spec_l01Rises.l0, Int.lt_irrefl, if_false]
    exact Ev.now _
theorem risesI (l : List Int) (h : l.length ≤ 1048576) (h1 : 1 ≤ l.length) : Ev (fun k => impl_AreHoles.l0 k l 1) (B (Rising l)) := by
  have := evAll (fun k i => impl_AreHoles.l0 k l i) 1 l.length (fun j => rd l ((j - 1 : Nat) : Int) < rd l (j : Int)) ?_ ?_ true ?_ h1
  · rw [Bool.and_true] at this; exact this
  · intro i h0 hi hg r hr
    refine evSucc ?_
    have e1 : (i : Int) < (l.length : Int) := by omega
    have e2 : (0 : Int) ≤ (i : Int) := by omega
    have e3 : (0 : Int) ≤ ((i - 1 : Nat) : Int) := by omega
    have e4 : ((i - 1 : Nat) : Int) < (l.length : Int) := by omega
    have e5 : ¬ (rd l ((i - 1 : Nat) : Int) ≥ rd l (i : Int)) := by omega
    simp only [impl_AreHoles.l0, wrapPred h0 (show i < 4611686018427387904 by omega), e1, e2, e3, e4, e5, if_true, if_false, wrapNat (show i < 4611686018427387904 by omega)]
    exact hr
  · intro i h0 hi hg
    refine evSucc ?_
    have e1 : (i : Int) < (l.length : Int) := by omega
    have e2 : (0 : Int) ≤ (i : Int) := by omega
    have e3 : (0 : Int) ≤ ((i - 1 : Nat) : Int) := by omega
    have e4 : ((i - 1 : Nat) : Int) < (l.length : Int) := by omega
    have e5 : rd l ((i - 1 : Nat) : Int) ≥ rd l (i : Int) := by omega
    simp only [impl_AreHoles.l0, wrapPred h0 (show i < 4611686018427387904 by omega), e1, e2, e3, e4, e5, if_true]
    exact Ev.now _
  · refine evSucc ?_
    simp only [impl_AreHoles.l0, Int.lt_irrefl, if_false]
    exact Ev.now _
theorem withinS (l : List Int) (m a b : Int) (h : l.length ≤ 1048576) : Ev (fun k => spec_l01Within.f k l m a b) (B (InAll l a b) && decide ((l.length : Int) ≤ m)) := by
  unfold spec_l01Within.f
  have := evAll (fun k i => spec_l01Within.l0 k l m a b i) 0 l.length (fun j => a ≤ rd l (j : Int) ∧ rd l (j : Int) ≤ b) ?_ ?_ (decide ((l.length : Int) ≤ m)) ?_ (Nat.zero_le _)
  · exact this
  · intro i h0 hi hg r hr
    refine evSucc ?_
    have e1 : (i : Int) < (l.length : Int) := by omega
    have e2 : (0 : Int) ≤ (i : Int) := by omega
    simp only [spec_l01Within.l0, inS, Option.bind_some, e1, e2, decide_eq_true hg, if_true, wrapNat (show i < 4611686018427387904 by omega)]
    exact hr
  · intro i h0 hi hg
    refine evSucc ?_
    have e1 : (i : Int) < (l.length : Int) := by omega
    have e2 : (0 : Int) ≤ (i : Int) := by omega
    simp only [spec_l01Within.l0, inS, Option.bind_some, e1, e2, decide_eq_false hg, if_true, if_false, Bool.false_eq_true]
    exact Ev.now _
  · refine evSucc ?_
    simp only [spec_l01Within.l0, Int.lt_irrefl, if_false]
    exact Ev.now _
noncomputable def holesB (l : List Int) : Bool := B ((2 ≤ l.length ∧ l.length ≤ 12) ∧ Rising l ∧ InAll l 0 20000)
theorem holesS (l : List Int) (h : l.length ≤ 1048576) : Ev (fun k => spec_AreHoles.f k l) (holesB l) := by
  unfold spec_AreHoles.f holesB
  by_cases h2 : (l.length : Int) ≥ 2
  · simp only [h2, if_true]
    refine Ev.bind (risesS l h (by omega)) ?_
    by_cases hr : Rising l
    · simp only [B_true hr, if_true]
      refine Ev.bind (withinS l 12 0 20000 h) ?_
      have e : (B (InAll l 0 20000) && decide ((l.length : Int) ≤ 12)) = B ((2 ≤ l.length ∧ l.length ≤ 12) ∧ Rising l ∧ InAll l 0 20000) := by
        rw [← B_dec, B_and]
        exact B_congr ⟨fun h => ⟨⟨by omega, by omega⟩, hr, h.1⟩, fun h => ⟨h.2.2, by omega⟩⟩
      rw [e]
      exact Ev.now _
    · simp only [B_false hr, Bool.false_eq_true, if_false]
      rw [B_false (fun h => hr h.2.1)]
      exact Ev.now _
  · simp only [h2, if_false]
    rw [B_false (fun h => h2 (by omega))]
    exact Ev.now _
theorem holesI (l : List Int) (h : l.length ≤ 1048576) : Ev (fun k => impl_AreHoles.f k l) (holesB l) := by
  unfold impl_AreHoles.f holesB impl_length_int64.f impl_allIn.f
  simp only [inI, Option.bind_some, allIn_all, decide_eq_true_eq]
  by_cases h2 : 2 ≤ (l.length : Int) ∧ (l.length : Int) ≤ 12
  · simp only [h2, and_self, if_true]
    refine evSucc ?_
    simp only [impl_AreHoles.j0]
    by_cases hi : InAll l 0 20000
    · simp only [B_true hi, Bool.not_true, Bool.false_eq_true, if_false]
      have e : B (Rising l) = B ((2 ≤ l.length ∧ l.length ≤ 12) ∧ Rising l ∧ InAll l 0 20000) := B_congr ⟨fun h => ⟨⟨by omega, by omega⟩, h, hi⟩, fun h => h.2.1⟩
      rw [← e]
      exact risesI l h (by omega)
    · simp only [B_false hi, Bool.not_false, if_true]
      rw [B_false (fun h => hi h.2.2)]
      exact Ev.now _
  · simp only [h2, if_false]
    refine evSucc ?_
    simp only [impl_AreHoles.j0, if_true]
    rw [B_false (fun h => h2 (by omega))]
    exact Ev.now _

def inside (l : List Int) : Nat → Int
  | 0 => 0
  | p + 1 => inside l p + (rd l ((2 * p + 1 : Nat) : Int) - rd l ((2 * p : Nat) : Int))
theorem holes_of {l : List Int} (h : holesB l = true) : (2 ≤ l.length ∧ l.length ≤ 12) ∧ Rising l ∧ InAll l 0 20000 := B_iff.1 h
theorem inside_bd {l : List Int} (h : InAll l 0 20000) (p : Nat) (hp : 2 * p ≤ l.length) : -(20000 * p : Int) ≤ inside l p ∧ inside l p ≤ 20000 * p := by
  induction p with
  | zero => simp [inside]
  | succ p ih =>
    have h1 := ih (by omega)
    have h2 := h (2 * p + 1) (by omega) (by omega)
    have h3 := h (2 * p) (by omega) (by omega)
    simp only [inside]
    omega
def insideV (l : List Int) (b : Bool) : Int × Int := if b = true then (if (l.length : Int) % 2 = 1 then (0, 5) else (inside l (l.length / 2), 0)) else (0, 2)
theorem insideS (l : List Int) (h : l.length ≤ 1048576) : Ev (fun k => spec_InsideLength.f k l) (insideV l (holesB l)) := by
  unfold spec_InsideLength.f insideV
  refine Ev.bind (holesS l h) ?_
  cases hb : holesB l
  · simp only [Bool.false_eq_true, if_false]
    exact Ev.now _
  simp only [if_true]
  obtain ⟨hl, _, hi⟩ := holes_of hb
  by_cases ho : (l.length : Int) % 2 = 1
  · simp only [ho, if_true]
    exact Ev.now _
  simp only [ho, if_false]
  have := evCount (fun k (s : Int) i => spec_InsideLength.l0 k l s (2 * i)) 0 (l.length / 2) (fun p => inside l p) (inside l (l.length / 2), 0) ?_ ?_ (Nat.zero_le _)
  · simpa [inside] using this
  · intro p _ hp hr
    refine evSucc ?_
    have hb := inside_bd hi p (by omega)
    have h2 := hi (2 * p + 1) (by omega) (by omega)
    have h3 := hi (2 * p) (by omega) (by omega)
    have e1 : wrap64 (2 * (p : Int) + 1) = ((2 * p + 1 : Nat) : Int) := by rw [wrapIn (by omega) (by omega)]; omega
    have e2 : wrap64 (2 * (p : Int) + 2) = 2 * ((p + 1 : Nat) : Int) := by rw [wrapIn (by omega) (by omega)]; omega
    have e3 : 2 * (p : Int) = ((2 * p : Nat) : Int) := by omega
    have e4 : wrap64 ((wrap64 (inside l p + (rd l ((2 * p + 1 : Nat) : Int)))) - (rd l ((2 * p : Nat) : Int))) = inside l (p + 1) := by
      rw [wrapIn (x := inside l p + _) (by omega) (by omega), wrapIn (by omega) (by omega)]
      simp only [inside]
      omega
    simp only [spec_InsideLength.l0, e1, e2]
    rw [e3]
    simp only [show ((2 * p : Nat) : Int) < (l.length : Int) by omega, show (0 : Int) ≤ ((2 * p + 1 : Nat) : Int) by omega, show ((2 * p + 1 : Nat) : Int) < (l.length : Int) by omega, show (0 : Int) ≤ ((2 * p : Nat) : Int) by omega, if_true, e4]
    exact hr
  · refine evSucc ?_
    simp only [spec_InsideLength.l0, show ¬ (2 * ((l.length / 2 : Nat) : Int) < (l.length : Int)) by omega, if_false]
    exact Ev.now _
theorem insideI (l : List Int) (h : l.length ≤ 1048576) : Ev (fun k => impl_InsideLength.f k l) (insideV l (holesB l)) := by
  unfold impl_InsideLength.f insideV
  refine Ev.bind (holesI l h) ?_
  cases hb : holesB l
  · simp only [Bool.false_eq_true, if_false]
    exact Ev.now _
  simp only [if_true]
  obtain ⟨hl, _, hi⟩ := holes_of hb
  by_cases ho : (l.length : Int) % 2 = 1
  · simp only [ho, if_true]
    exact Ev.now _
  simp only [ho, if_false]
  have := evCount (fun k (s : Int) i => impl_InsideLength.l0 k l s (2 * i)) 0 (l.length / 2) (fun p => inside l p) (inside l (l.length / 2), 0) ?_ ?_ (Nat.zero_le _)
  · simpa [inside] using this
  · intro p _ hp hr
    refine evSucc ?_
    have hb := inside_bd hi p (by omega)
    have h2 := hi (2 * p + 1) (by omega) (by omega)
    have h3 := hi (2 * p) (by omega) (by omega)
    have e1 : wrap64 (2 * (p : Int) + 1) = ((2 * p + 1 : Nat) : Int) := by rw [wrapIn (by omega) (by omega)]; omega
    have e2 : wrap64 (2 * (p : Int) + 2) = 2 * ((p + 1 : Nat) : Int) := by rw [wrapIn (by omega) (by omega)]; omega
    have e3 : 2 * (p : Int) = ((2 * p : Nat) : Int) := by omega
    have e4 : wrap64 (inside l p + (wrap64 ((rd l ((2 * p + 1 : Nat) : Int)) - (rd l ((2 * p : Nat) : Int))))) = inside l (p + 1) := by
      rw [wrapIn (x := rd l ((2 * p + 1 : Nat) : Int) - _) (by omega) (by omega), wrapIn (by omega) (by omega)]
      simp only [inside]
    simp only [impl_InsideLength.l0, e1, e2]
    rw [e3]
    simp only [show ((2 * p : Nat) : Int) < (l.length : Int) by omega, show (0 : Int) ≤ ((2 * p + 1 : Nat) : Int) by omega, show ((2 * p + 1 : Nat) : Int) < (l.length : Int) by omega, show (0 : Int) ≤ ((2 * p : Nat) : Int) by omega, if_true, e4]
    exact hr
  · refine evSucc ?_
    simp only [impl_InsideLength.l0, show ¬ (2 * ((l.length / 2 : Nat) : Int) < (l.length : Int)) by omega, if_false]
    exact Ev.now _

theorem toInt64S (l : List Int) (h : l.length ≤ 1048576) : Ev (fun k => laws_toInt64S.f k l) l := by
  unfold laws_toInt64S.f
  simp only [Int.toNat_natCast]
  rw [show (fun k => if 0 ≤ (l.length : Int) then (if l.length ≤ 35184372088832 then laws_toInt64S.l0 k l (List.replicate l.length 0) 0 else none) else none) = fun k => laws_toInt64S.l0 k l (List.replicate l.length 0) 0 from by
    funext k; rw [if_pos (by omega), if_pos (by omega)]]
  have := evCount (fun k s i => laws_toInt64S.l0 k l s i) 0 l.length (fun i => l.take i ++ List.replicate (l.length - i) 0) l ?_ ?_ (Nat.zero_le _)
  · simpa using this
  · intro i _ hi h
    refine evSucc ?_
    simp only [laws_toInt64S.l0]
    have hl := fillLen l (0 : Int) i (by omega)
    have h1 : (i : Int) < (l.length : Int) := by omega
    have h2 : (0 : Int) ≤ (i : Int) := by omega
    have h3 : (i : Int) < ((l.take i ++ List.replicate (l.length - i) (0 : Int)).length : Int) := by rw [hl]; omega
    simp only [h1, h2, h3, if_true, Int.toNat_natCast, rdN l i hi, fillStep l 0 i hi, wrapNat (show i < 4611686018427387904 by omega)]
    exact h
  · refine evSucc ?_
    simp only [laws_toInt64S.l0, Int.lt_irrefl, if_false, List.take_length, Nat.sub_self, List.replicate_zero, List.append_nil]
    exact Ev.now _

theorem eqInt64S (l : List Int) (h : l.length ≤ 1048576) : Ev (fun k => laws_eqInt64S.f k l l) true := by
  unfold laws_eqInt64S.f
  simp only [if_true]
  have := evAll (fun k i => laws_eqInt64S.l0 k l l i) 0 l.length (fun _ => True) ?_ (fun i _ hi hn => absurd trivial hn) true ?_ (Nat.zero_le _)
  · simpa [B_true] using this
  · intro i _ hi _ r h
    refine evSucc ?_
    have h1 : (i : Int) < (l.length : Int) := by omega
    have h2 : (0 : Int) ≤ (i : Int) := by omega
    simp only [laws_eqInt64S.l0, h1, h2, if_true, wrapNat (show i < 4611686018427387904 by omega)]
    exact h
  · refine evSucc ?_
    simp only [laws_eqInt64S.l0, Int.lt_irrefl, if_false]
    exact Ev.now _



theorem FnExactInsideLength : laws_FnExactInsideLength.Pure := by
  intro l _ _ _
  refine Ev.rounds ?_
  unfold laws_FnExactInsideLength.f
  by_cases hl : (l.length : Int) > 1048576
  · simp only [hl, if_true]
    exact Ev.now _
  · simp only [hl, if_false]
    have h : l.length ≤ 1048576 := by omega
    refine Ev.bind (toInt64S l h) (Ev.bind (insideS l h) (Ev.bind (toInt64S l h) (Ev.bind (insideI l h) ?_)))
    simp only [if_true, bne_self_eq_false]
    refine evSucc ?_
    simp only [laws_FnExactInsideLength.j0, Bool.false_eq_true, if_false]
    refine Ev.bind (toInt64S l h) (Ev.bind (eqInt64S l h) ?_)
    simp only [if_true]
    exact Ev.now _

end Go.Proofs.Ytdelnmbfokipoaa.Pure
