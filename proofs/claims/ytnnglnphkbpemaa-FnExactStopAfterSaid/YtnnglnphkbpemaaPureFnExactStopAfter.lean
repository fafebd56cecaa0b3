/- The program and the reference stop a line after the same read, for every list of int64 and every two int64. -/
import Derived.Test.YtnnglnphkbpemaaSayFnExactStopAfter
namespace Go.Proofs.Ytnnglnphkbpemaa.Pure
open Go.RowKit Go.Proofs.Ytnnglnphkbpemaa.PFnExactStopAfter Go.Proofs.YtnnglnphkbpemaaW.PrintWords Go.Proofs.YtnnglnphkbpemaaW.PrintLast
-- BEGIN
/-- A proposition as a bool. -/
noncomputable def B (p : Prop) : Bool := @decide p (Classical.propDecidable p)
theorem B_iff {p : Prop} : B p = true ↔ p := by unfold B; exact @decide_eq_true_iff p (Classical.propDecidable p)
theorem B_true {p : Prop} (h : p) : B p = true := B_iff.2 h
theorem B_false {p : Prop} (h : ¬ p) : B p = false := by cases e : B p with | false => rfl | true => exact absurd (B_iff.1 e) h
theorem B_congr {p q : Prop} (h : p ↔ q) : B p = B q := by rw [propext h]
theorem B_dec (p : Prop) [Decidable p] : B p = decide p := by by_cases h : p <;> simp [h, B_true, B_false]
theorem B_and (p q : Prop) : (B p && B q) = B (p ∧ q) := by
  by_cases hp : p <;> by_cases hq : q <;> simp [B_true, B_false, hp, hq]
theorem B_not (p : Prop) : (!B p) = B (¬ p) := by by_cases hp : p <;> simp [B_true, B_false, hp]
theorem evSucc {α : Type} {g : Nat → Option α} {r : α} (h : Ev (fun k => g (k + 1)) r) : Ev g r := Ev.step (fun _ => rfl) h
theorem evNow {α : Type} {g : Nat → Option α} {r : α} (h : ∀ k, g k = some r) : Ev g r := ⟨0, fun k _ => h k⟩
theorem evCount {σ α : Type} (F : Nat → σ → Int → Option α) (i0 n : Nat) (S : Nat → σ) (r : α)
    (hstep : ∀ i, i0 ≤ i → i < n → Ev (fun k => F k (S (i + 1)) ((i + 1 : Nat) : Int)) r → Ev (fun k => F k (S i) (i : Int)) r) (hend : Ev (fun k => F k (S n) (n : Int)) r) (hle : i0 ≤ n) : Ev (fun k => F k (S i0) (i0 : Int)) r := by
  have key : ∀ d i, i0 ≤ i → i + d = n → Ev (fun k => F k (S i) (i : Int)) r := by
    intro d
    induction d with
    | zero =>
      intro i _ hi
      have h0 : i = n := by omega
      subst h0
      exact hend
    | succ d ih => intro i h0 hi; exact hstep i h0 (by omega) (ih (i + 1) (by omega) (by omega))
  exact key (n - i0) i0 (Nat.le_refl _) (by omega)
/-- A loop that leaves at the first place where G fails. -/
theorem evAll (F : Nat → Int → Option Bool) (i0 n : Nat) (G : Nat → Prop)
    (hstep : ∀ i, i0 ≤ i → i < n → G i → ∀ r, Ev (fun k => F k ((i + 1 : Nat) : Int)) r → Ev (fun k => F k (i : Int)) r) (hbad : ∀ i, i0 ≤ i → i < n → ¬ G i → Ev (fun k => F k (i : Int)) false) (e : Bool) (hend : Ev (fun k => F k (n : Int)) e) (hle : i0 ≤ n) :
    Ev (fun k => F k (i0 : Int)) (B (∀ j, i0 ≤ j → j < n → G j) && e) := by
  have key : ∀ d i, i0 ≤ i → i + d = n → Ev (fun k => F k (i : Int)) (B (∀ j, i ≤ j → j < n → G j) && e) := by
    intro d
    induction d with
    | zero =>
      intro i _ hi
      have h0 : i = n := by omega
      subst h0
      rw [B_true (fun j h1 h2 => absurd h2 (by omega)), Bool.true_and]
      exact hend
    | succ d ih =>
      intro i h0 hi
      by_cases hg : G i
      · have h1 : B (∀ j, i ≤ j → j < n → G j) = B (∀ j, i + 1 ≤ j → j < n → G j) := B_congr ⟨fun h j a b => h j (by omega) b, fun h j a b => by
          by_cases e : j = i
          · subst e; exact hg
          · exact h j (by omega) b⟩
        rw [h1]
        exact hstep i h0 (by omega) hg _ (ih (i + 1) (by omega) (by omega))
      · rw [B_false (fun h => hg (h i (Nat.le_refl _) (by omega))), Bool.false_and]
        exact hbad i h0 (by omega) hg
  exact key (n - i0) i0 (Nat.le_refl _) (by omega)
theorem wrapNat {i : Nat} (h : i < 4611686018427387904) : wrap64 ((i : Int) + 1) = ((i + 1 : Nat) : Int) := by
  unfold wrap64; omega
theorem wrapPred {i : Nat} (h0 : 1 ≤ i) (h : i < 4611686018427387904) : wrap64 ((i : Int) - 1) = ((i - 1 : Nat) : Int) := by
  unfold wrap64; omega
theorem rdN (xs : List Int) (i : Nat) (h : i < xs.length) : rd xs (i : Int) = xs[i] := by
  simp [rd, List.getD_eq_getElem?_getD, List.getElem?_eq_getElem h]
theorem fillStep {α : Type} (xs : List α) (z : α) (i : Nat) (h : i < xs.length) : (xs.take i ++ List.replicate (xs.length - i) z).set i xs[i] = xs.take (i + 1) ++ List.replicate (xs.length - (i + 1)) z := by
  have h1 : xs.length - i = (xs.length - (i + 1)) + 1 := by omega
  rw [h1, List.replicate_succ, List.set_append_right _ _ (by rw [List.length_take]; omega)]
  rw [List.length_take, Nat.min_eq_left (by omega), Nat.sub_self, List.set_cons_zero, List.take_succ_eq_append_getElem h, List.append_assoc]
  rfl
theorem fillLen {α : Type} (xs : List α) (z : α) (i : Nat) (h : i ≤ xs.length) : (xs.take i ++ List.replicate (xs.length - i) z).length = xs.length := by
  simp; omega

theorem inS (a b c : Int) : spec_l01In.f a b c = some (decide (b ≤ a ∧ a ≤ c)) := by
  unfold spec_l01In.f
  by_cases h : b ≤ a <;> simp [h]

theorem inI (a b c : Int) : impl_inRange.f a b c = some (decide (b ≤ a ∧ a ≤ c)) := by
  unfold impl_inRange.f
  by_cases h : b ≤ a <;> simp [h]

theorem wrapIn {x : Int} (h0 : -9223372036854775808 ≤ x) (h1 : x ≤ 9223372036854775807) : wrap64 x = x := by
  unfold wrap64; omega

def codeB (a : Int) : Bool := decide ((0 ≤ a ∧ a ≤ 9999999) ∧ (1 ≤ Int.tmod a 100 ∧ Int.tmod a 100 ≤ 97) ∧ Int.tmod a 97 = 1)
theorem codeS (a : Int) : spec_IsCode.f a = some (codeB a) := by
  unfold spec_IsCode.f spec_l15Remainder.f codeB
  simp only [inS, Option.bind_some]
  by_cases h1 : (0 ≤ a ∧ a ≤ 9999999) <;> by_cases h2 : (1 ≤ Int.tmod a 100 ∧ Int.tmod a 100 ≤ 97) <;> by_cases h3 : Int.tmod a 97 = 1 <;> simp [h1, h2, h3]
theorem codeI (a : Int) : impl_IsCode.f a = some (codeB a) := by
  unfold impl_IsCode.f codeB
  simp only [inI, Option.bind_some]
  by_cases h1 : (0 ≤ a ∧ a ≤ 9999999) <;> by_cases h2 : (1 ≤ Int.tmod a 100 ∧ Int.tmod a 100 ≤ 97) <;> by_cases h3 : Int.tmod a 97 = 1 <;> simp [h1, h2, h3]

def InAll (l : List Int) (a b : Int) : Prop := ∀ j, 0 ≤ j → j < l.length → a ≤ rd l (j : Int) ∧ rd l (j : Int) ≤ b
theorem inAll_mem {l : List Int} {a b : Int} : InAll l a b ↔ ∀ x ∈ l, a ≤ x ∧ x ≤ b := by
  constructor
  · intro h x hx
    obtain ⟨i, hi, rfl⟩ := List.mem_iff_getElem.1 hx
    have := h i (Nat.zero_le _) hi
    rwa [rdN l i hi] at this
  · intro h j _ hj
    rw [rdN l j hj]
    exact h _ (List.getElem_mem hj)
theorem allIn_all (l : List Int) (a b : Int) : (l.all fun x => decide (a ≤ x ∧ x ≤ b)) = B (InAll l a b) := by
  by_cases h : InAll l a b
  · rw [B_true h, List.all_eq_true]
    exact fun x hx => decide_eq_true (inAll_mem.1 h x hx)
  · rw [B_false h, Bool.eq_false_iff]
    intro h2
    exact h (inAll_mem.2 fun x hx => of_decide_eq_true (List.all_eq_true.1 h2 x hx))

theorem withinS (l : List Int) (m a b : Int) (h : l.length ≤ 1048576) : Ev (fun k => spec_l01Within.f k l m a b) (B (InAll l a b) && decide ((l.length : Int) ≤ m)) := by
  unfold spec_l01Within.f
  have := evAll (fun k i => spec_l01Within.l0 k l m a b i) 0 l.length (fun j => a ≤ rd l (j : Int) ∧ rd l (j : Int) ≤ b) ?_ ?_ (decide ((l.length : Int) ≤ m)) ?_ (Nat.zero_le _)
  · exact this
  · intro i h0 hi hg r hr
    refine evSucc ?_
    have e1 : (i : Int) < (l.length : Int) := by omega
    have e2 : (0 : Int) ≤ (i : Int) := by omega
    simp only [spec_l01Within.l0, inS, Option.bind_some, e1, e2, decide_eq_true hg, if_true, wrapNat (show i < 4611686018427387904 by omega)]
    exact hr
  · intro i h0 hi hg
    refine evSucc ?_
    have e1 : (i : Int) < (l.length : Int) := by omega
    have e2 : (0 : Int) ≤ (i : Int) := by omega
    simp only [spec_l01Within.l0, inS, Option.bind_some, e1, e2, decide_eq_false hg, if_true, if_false, Bool.false_eq_true]
    exact Ev.now _
  · refine evSucc ?_
    simp only [spec_l01Within.l0, Int.lt_irrefl, if_false]
    exact Ev.now _

def stopL (e n : Int) : List Int → Int → Int → Int × Int
  | [], _, _ => (0, 4)
  | x :: xs, row, i => if x = e then (if 0 = n then (i, 0) else stopL e n xs 0 (i + 1)) else (if row + 1 = n then (i, 0) else stopL e n xs (row + 1) (i + 1))
theorem stop_loopS (l : List Int) (e n : Int) (hl : l.length ≤ 1048576) (d : Nat) : ∀ (i : Nat) (row : Int), i + d = l.length → 0 ≤ row → row ≤ i → Ev (fun k => spec_StopAfter.l0 k l e n row (i : Int)) (stopL e n (l.drop i) row i) := by
  induction d with
  | zero =>
    intro i row hi h0 h1
    refine evSucc ?_
    rw [List.drop_of_length_le (by omega)]
    simp only [spec_StopAfter.l0, show ¬ ((i : Int) < (l.length : Int)) by omega, if_false, stopL]
    exact Ev.now _
  | succ d ih =>
    intro i row hi h0 h1
    have hlt : i < l.length := by omega
    refine evSucc ?_
    rw [List.drop_eq_getElem_cons hlt]
    simp only [spec_StopAfter.l0, show (i : Int) < (l.length : Int) by omega, show (0 : Int) ≤ (i : Int) by omega, if_true, rdN l i hlt, stopL, wrapIn (show -9223372036854775808 ≤ row + 1 by omega) (show row + 1 ≤ 9223372036854775807 by omega), wrapNat (show i < 4611686018427387904 by omega)]
    by_cases c1 : l[i] = e
    · simp only [c1, if_true]
      by_cases c2 : 0 = n
      · simp only [c2, if_true]
        exact Ev.now _
      · simp only [c2, if_false]
        exact ih (i + 1) 0 (by omega) (by omega) (by omega)
    · simp only [c1, if_false]
      by_cases c2 : row + 1 = n
      · simp only [c2, if_true]
        exact Ev.now _
      · simp only [c2, if_false]
        exact ih (i + 1) (row + 1) (by omega) (by omega) (by omega)
theorem stop_loopI (l : List Int) (e n : Int) (hl : l.length ≤ 1048576) (d : Nat) : ∀ (i : Nat) (row : Int), i + d = l.length → 0 ≤ row → row ≤ i → Ev (fun k => impl_StopAfter.l0 k e n row l (l.length : Int) (i : Int)) (stopL e n (l.drop i) row i) := by
  induction d with
  | zero =>
    intro i row hi h0 h1
    refine evSucc ?_
    rw [List.drop_of_length_le (by omega)]
    simp only [impl_StopAfter.l0, show ¬ ((i : Int) < (l.length : Int)) by omega, if_false, stopL]
    exact Ev.now _
  | succ d ih =>
    intro i row hi h0 h1
    have hlt : i < l.length := by omega
    refine evSucc ?_
    rw [List.drop_eq_getElem_cons hlt]
    simp only [impl_StopAfter.l0, show (i : Int) < (l.length : Int) by omega, show (0 : Int) ≤ (i : Int) by omega, if_true, rdN l i hlt, stopL, wrapIn (show -9223372036854775808 ≤ row + 1 by omega) (show row + 1 ≤ 9223372036854775807 by omega), wrapNat (show i < 4611686018427387904 by omega)]
    by_cases c1 : l[i] = e
    · simp only [c1, if_true]
      by_cases c2 : 0 = n
      · simp only [c2, if_true]
        exact Ev.now _
      · simp only [c2, if_false]
        exact ih (i + 1) 0 (by omega) (by omega) (by omega)
    · simp only [c1, if_false]
      by_cases c2 : row + 1 = n
      · simp only [c2, if_true]
        exact Ev.now _
      · simp only [c2, if_false]
        exact ih (i + 1) (row + 1) (by omega) (by omega) (by omega)
noncomputable def readsB (l : List Int) : Bool := B (InAll l 0 9999999) && decide ((l.length : Int) ≤ 200)
noncomputable def stopV (l : List Int) (e n : Int) : Int × Int := if readsB l = true ∧ (1 ≤ n ∧ n ≤ 200) then (if codeB e = true then stopL e n l 0 0 else (0, 1)) else (0, 2)
theorem stopS (l : List Int) (e n : Int) (hl : l.length ≤ 1048576) : Ev (fun k => spec_StopAfter.f k l e n) (stopV l e n) := by
  unfold spec_StopAfter.f spec_l15Reads.f stopV
  have hw := withinS l 200 0 9999999 hl
  rw [← readsB] at hw
  refine Ev.bind (Ev.bind hw (Ev.now _)) ?_
  cases readsB l
  · simp only [Bool.false_eq_true, false_and, if_false]
    refine evSucc ?_
    simp only [spec_StopAfter.j0, if_true]
    exact Ev.now _
  · simp only [if_true, true_and, inS, Option.bind_some]
    refine evSucc ?_
    by_cases hn : 1 ≤ n ∧ n ≤ 200
    · simp only [spec_StopAfter.j0, hn, and_self, decide_true, Bool.not_true, Bool.false_eq_true, if_false, if_true, codeS, Option.bind_some]
      cases codeB e
      · simp only [Bool.false_eq_true, if_false]
        exact Ev.now _
      · simp only [if_true]
        exact stop_loopS l e n hl l.length 0 0 (by omega) (by omega) (by omega)
    · simp only [spec_StopAfter.j0, hn, decide_false, Bool.not_false, if_true, if_false]
      exact Ev.now _
theorem readsI (l : List Int) : impl_areReads.f l = some (readsB l) := by
  unfold impl_areReads.f impl_allIn.f readsB
  simp only [allIn_all, Option.bind_some]
  by_cases h : (l.length : Int) ≤ 200
  · simp [h]
  · simp [h]
theorem stopI (l : List Int) (e n : Int) (hl : l.length ≤ 1048576) : Ev (fun k => impl_StopAfter.f k l e n) (stopV l e n) := by
  unfold impl_StopAfter.f stopV
  simp only [readsI, Option.bind_some]
  cases readsB l
  · simp only [Bool.false_eq_true, false_and, if_false]
    refine evSucc ?_
    simp only [impl_StopAfter.j0, if_true]
    exact Ev.now _
  · simp only [if_true, true_and, inI, Option.bind_some]
    refine evSucc ?_
    by_cases hn : 1 ≤ n ∧ n ≤ 200
    · simp only [impl_StopAfter.j0, hn, and_self, decide_true, Bool.not_true, Bool.false_eq_true, if_false, if_true, codeI, Option.bind_some]
      cases codeB e
      · simp only [Bool.false_eq_true, if_false]
        exact Ev.now _
      · simp only [if_true]
        exact stop_loopI l e n hl l.length 0 0 (by omega) (by omega) (by omega)
    · simp only [impl_StopAfter.j0, hn, decide_false, Bool.not_false, if_true, if_false]
      exact Ev.now _

theorem toInt64S (l : List Int) (h : l.length ≤ 1048576) : Ev (fun k => laws_toInt64S.f k l) l := by
  unfold laws_toInt64S.f
  simp only [Int.toNat_natCast]
  rw [show (fun k => if 0 ≤ (l.length : Int) then (if l.length ≤ 35184372088832 then laws_toInt64S.l0 k l (List.replicate l.length 0) 0 else none) else none) = fun k => laws_toInt64S.l0 k l (List.replicate l.length 0) 0 from by
    funext k; rw [if_pos (by omega), if_pos (by omega)]]
  have := evCount (fun k s i => laws_toInt64S.l0 k l s i) 0 l.length (fun i => l.take i ++ List.replicate (l.length - i) 0) l ?_ ?_ (Nat.zero_le _)
  · simpa using this
  · intro i _ hi h
    refine evSucc ?_
    simp only [laws_toInt64S.l0]
    have hl := fillLen l (0 : Int) i (by omega)
    have h1 : (i : Int) < (l.length : Int) := by omega
    have h2 : (0 : Int) ≤ (i : Int) := by omega
    have h3 : (i : Int) < ((l.take i ++ List.replicate (l.length - i) (0 : Int)).length : Int) := by rw [hl]; omega
    simp only [h1, h2, h3, if_true, Int.toNat_natCast, rdN l i hi, fillStep l 0 i hi, wrapNat (show i < 4611686018427387904 by omega)]
    exact h
  · refine evSucc ?_
    simp only [laws_toInt64S.l0, Int.lt_irrefl, if_false, List.take_length, Nat.sub_self, List.replicate_zero, List.append_nil]
    exact Ev.now _

theorem eqInt64S (l : List Int) (h : l.length ≤ 1048576) : Ev (fun k => laws_eqInt64S.f k l l) true := by
  unfold laws_eqInt64S.f
  simp only [if_true]
  have := evAll (fun k i => laws_eqInt64S.l0 k l l i) 0 l.length (fun _ => True) ?_ (fun i _ hi hn => absurd trivial hn) true ?_ (Nat.zero_le _)
  · simpa [B_true] using this
  · intro i _ hi _ r h
    refine evSucc ?_
    have h1 : (i : Int) < (l.length : Int) := by omega
    have h2 : (0 : Int) ≤ (i : Int) := by omega
    simp only [laws_eqInt64S.l0, h1, h2, if_true, wrapNat (show i < 4611686018427387904 by omega)]
    exact h
  · refine evSucc ?_
    simp only [laws_eqInt64S.l0, Int.lt_irrefl, if_false]
    exact Ev.now _



theorem FnExactStopAfter : laws_FnExactStopAfter.Pure := by
  intro l e n _ _ _ _ _
  refine Ev.rounds ?_
  unfold laws_FnExactStopAfter.f
  by_cases hl : (l.length : Int) > 1048576
  · simp only [hl, if_true]
    exact Ev.now _
  · simp only [hl, if_false]
    have h : l.length ≤ 1048576 := by omega
    refine Ev.bind (toInt64S l h) (Ev.bind (stopS l e n h) (Ev.bind (toInt64S l h) (Ev.bind (stopI l e n h) ?_)))
    simp only [if_true, bne_self_eq_false]
    refine evSucc ?_
    simp only [laws_FnExactStopAfter.j0, Bool.false_eq_true, if_false]
    refine Ev.bind (toInt64S l h) (Ev.bind (eqInt64S l h) ?_)
    simp only [if_true]
    exact Ev.now _

end Go.Proofs.Ytnnglnphkbpemaa.Pure
