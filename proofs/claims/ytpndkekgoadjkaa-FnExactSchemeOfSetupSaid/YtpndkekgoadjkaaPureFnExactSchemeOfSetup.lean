/- The program and the reference write the same scheme of a set of units, for every set of units. -/
import Derived.Test.YtpndkekgoadjkaaSayFnExactSchemeOfSetup
namespace Go.Proofs.Ytpndkekgoadjkaa.Pure
open Go.RowKit Go.Proofs.Ytpndkekgoadjkaa.PFnExactSchemeOfSetup Go.Proofs.YtpndkekgoadjkaaW.PrintWords Go.Proofs.YtpndkekgoadjkaaW.PrintLast
set_option linter.unusedVariables false
set_option linter.unusedSimpArgs false
-- BEGIN
/-- A proposition as a bool. -/
noncomputable def B (p : Prop) : Bool := @decide p (Classical.propDecidable p)
theorem B_iff {p : Prop} : B p = true ↔ p := by unfold B; exact @decide_eq_true_iff p (Classical.propDecidable p)
theorem B_true {p : Prop} (h : p) : B p = true := B_iff.2 h
theorem B_false {p : Prop} (h : ¬ p) : B p = false := by cases e : B p with | false => rfl | true => exact absurd (B_iff.1 e) h
theorem B_congr {p q : Prop} (h : p ↔ q) : B p = B q := by rw [propext h]
theorem B_dec (p : Prop) [Decidable p] : B p = decide p := by by_cases h : p <;> simp [h, B_true, B_false]
theorem B_and (p q : Prop) : (B p && B q) = B (p ∧ q) := by
  by_cases hp : p <;> by_cases hq : q <;> simp [B_true, B_false, hp, hq]
theorem B_not (p : Prop) : (!B p) = B (¬ p) := by by_cases hp : p <;> simp [B_true, B_false, hp]
theorem evSucc {α : Type} {g : Nat → Option α} {r : α} (h : Ev (fun k => g (k + 1)) r) : Ev g r := Ev.step (fun _ => rfl) h
theorem evNow {α : Type} {g : Nat → Option α} {r : α} (h : ∀ k, g k = some r) : Ev g r := ⟨0, fun k _ => h k⟩
theorem evCount {σ α : Type} (F : Nat → σ → Int → Option α) (i0 n : Nat) (S : Nat → σ) (r : α)
    (hstep : ∀ i, i0 ≤ i → i < n → Ev (fun k => F k (S (i + 1)) ((i + 1 : Nat) : Int)) r → Ev (fun k => F k (S i) (i : Int)) r) (hend : Ev (fun k => F k (S n) (n : Int)) r) (hle : i0 ≤ n) : Ev (fun k => F k (S i0) (i0 : Int)) r := by
  have key : ∀ d i, i0 ≤ i → i + d = n → Ev (fun k => F k (S i) (i : Int)) r := by
    intro d
    induction d with
    | zero =>
      intro i _ hi
      have h0 : i = n := by omega
      subst h0
      exact hend
    | succ d ih => intro i h0 hi; exact hstep i h0 (by omega) (ih (i + 1) (by omega) (by omega))
  exact key (n - i0) i0 (Nat.le_refl _) (by omega)
/-- A loop that leaves at the first place where G fails. -/
theorem evAll (F : Nat → Int → Option Bool) (i0 n : Nat) (G : Nat → Prop)
    (hstep : ∀ i, i0 ≤ i → i < n → G i → ∀ r, Ev (fun k => F k ((i + 1 : Nat) : Int)) r → Ev (fun k => F k (i : Int)) r) (hbad : ∀ i, i0 ≤ i → i < n → ¬ G i → Ev (fun k => F k (i : Int)) false) (e : Bool) (hend : Ev (fun k => F k (n : Int)) e) (hle : i0 ≤ n) :
    Ev (fun k => F k (i0 : Int)) (B (∀ j, i0 ≤ j → j < n → G j) && e) := by
  have key : ∀ d i, i0 ≤ i → i + d = n → Ev (fun k => F k (i : Int)) (B (∀ j, i ≤ j → j < n → G j) && e) := by
    intro d
    induction d with
    | zero =>
      intro i _ hi
      have h0 : i = n := by omega
      subst h0
      rw [B_true (fun j h1 h2 => absurd h2 (by omega)), Bool.true_and]
      exact hend
    | succ d ih =>
      intro i h0 hi
      by_cases hg : G i
      · have h1 : B (∀ j, i ≤ j → j < n → G j) = B (∀ j, i + 1 ≤ j → j < n → G j) := B_congr ⟨fun h j a b => h j (by omega) b, fun h j a b => by
          by_cases e : j = i
          · subst e; exact hg
          · exact h j (by omega) b⟩
        rw [h1]
        exact hstep i h0 (by omega) hg _ (ih (i + 1) (by omega) (by omega))
      · rw [B_false (fun h => hg (h i (Nat.le_refl _) (by omega))), Bool.false_and]
        exact hbad i h0 (by omega) hg
  exact key (n - i0) i0 (Nat.le_refl _) (by omega)
theorem wrapNat {i : Nat} (h : i < 4611686018427387904) : wrap64 ((i : Int) + 1) = ((i + 1 : Nat) : Int) := by
  unfold wrap64; omega
theorem wrapPred {i : Nat} (h0 : 1 ≤ i) (h : i < 4611686018427387904) : wrap64 ((i : Int) - 1) = ((i - 1 : Nat) : Int) := by
  unfold wrap64; omega
theorem rdN (xs : List Int) (i : Nat) (h : i < xs.length) : rd xs (i : Int) = xs[i] := by
  simp [rd, List.getD_eq_getElem?_getD, List.getElem?_eq_getElem h]
theorem fillStep {α : Type} (xs : List α) (z : α) (i : Nat) (h : i < xs.length) : (xs.take i ++ List.replicate (xs.length - i) z).set i xs[i] = xs.take (i + 1) ++ List.replicate (xs.length - (i + 1)) z := by
  have h1 : xs.length - i = (xs.length - (i + 1)) + 1 := by omega
  rw [h1, List.replicate_succ, List.set_append_right _ _ (by rw [List.length_take]; omega)]
  rw [List.length_take, Nat.min_eq_left (by omega), Nat.sub_self, List.set_cons_zero, List.take_succ_eq_append_getElem h, List.append_assoc]
  rfl
theorem fillLen {α : Type} (xs : List α) (z : α) (i : Nat) (h : i ≤ xs.length) : (xs.take i ++ List.replicate (xs.length - i) z).length = xs.length := by
  simp; omega

theorem inS (a b c : Int) : spec_l01In.f a b c = some (decide (b ≤ a ∧ a ≤ c)) := by
  unfold spec_l01In.f
  by_cases h : b ≤ a <;> simp [h]

theorem rd60 (xs : List S60) (i : Nat) (h : i < xs.length) : rd_T60 xs (i : Int) = xs[i] := by
  simp [rd_T60, List.getD_eq_getElem?_getD, List.getElem?_eq_getElem h]

def setupB (l : List S60) : Bool := decide (l.length ≤ 6) && l.all fun u => decide (0 ≤ u.f1 ∧ u.f1 ≤ 1000000000)
theorem setupI (l : List S60) : impl_isSetup.f l = some (setupB l) := rfl
theorem setupS (l : List S60) (h : l.length ≤ 1048576) : Ev (fun k => spec_l13Setup.f k l) (setupB l) := by
  unfold spec_l13Setup.f
  have := evAll (fun k i => spec_l13Setup.l0 k l i) 0 l.length (fun i => 0 ≤ (rd_T60 l (i : Int)).f1 ∧ (rd_T60 l (i : Int)).f1 ≤ 1000000000) ?_ ?_ (decide ((l.length : Int) ≤ 6)) ?_ (Nat.zero_le _)
  · have e : setupB l = (B (∀ j, 0 ≤ j → j < l.length → 0 ≤ (rd_T60 l (j : Int)).f1 ∧ (rd_T60 l (j : Int)).f1 ≤ 1000000000) && decide ((l.length : Int) ≤ 6)) := by
      unfold setupB
      rw [Bool.and_comm]
      congr 1
      · rw [Bool.eq_iff_iff, B_iff, List.all_eq_true]
        refine ⟨fun hx j _ hj => ?_, fun hx u hu => ?_⟩
        · have := hx l[j] (List.getElem_mem hj)
          rw [rd60 l j hj]
          exact of_decide_eq_true this
        · obtain ⟨j, hj, rfl⟩ := List.getElem_of_mem hu
          have := hx j (Nat.zero_le _) hj
          rw [rd60 l j hj] at this
          exact decide_eq_true this
      · exact decide_eq_decide.2 (by omega)
    rw [e]
    exact this
  · intro i _ hi hg r hr
    refine evSucc ?_
    simp only [spec_l13Setup.l0, show (i : Int) < (l.length : Int) by omega, show (0 : Int) ≤ (i : Int) by omega, if_true, inS, Option.bind_some, decide_eq_true_eq, hg, and_self, wrapNat (show i < 4611686018427387904 by omega)]
    exact hr
  · intro i _ hi hg
    refine evSucc ?_
    simp only [spec_l13Setup.l0, show (i : Int) < (l.length : Int) by omega, show (0 : Int) ≤ (i : Int) by omega, if_true, inS, Option.bind_some, decide_eq_true_eq, hg, if_false]
    exact Ev.now _
  · refine evSucc ?_
    simp only [spec_l13Setup.l0, Int.lt_irrefl, if_false]
    exact Ev.now _
theorem setup_len {l : List S60} (h : setupB l = true) : l.length ≤ 6 := by
  simp only [setupB, Bool.and_eq_true, decide_eq_true_eq] at h
  exact h.1

theorem wrapIn {x : Int} (h0 : -9223372036854775808 ≤ x) (h1 : x ≤ 9223372036854775807) : wrap64 x = x := by
  unfold wrap64; omega

theorem rd62 (xs : List S62) (i : Nat) (h : i < xs.length) : rd_T62 xs (i : Int) = xs[i] := by
  simp [rd_T62, List.getD_eq_getElem?_getD, List.getElem?_eq_getElem h]

def convUnit (x : S62) : S60 := ⟨x.f0, x.f1, x.f2⟩
theorem toUnitS (l : List S62) (h : l.length ≤ 1048576) : Ev (fun k => laws_toUnitS.f k l) (l.map convUnit) := by
  unfold laws_toUnitS.f
  simp only [Int.toNat_natCast, show (0 : Int) ≤ (l.length : Int) by omega, show l.length ≤ 11728124029610 by omega, if_true]
  have := evCount (fun k s i => laws_toUnitS.l0 k l s i) 0 l.length (fun i => (l.map convUnit).take i ++ List.replicate ((l.map convUnit).length - i) z60) (l.map convUnit) ?_ ?_ (Nat.zero_le _)
  · simpa using this
  · intro i _ hi h
    refine evSucc ?_
    simp only [laws_toUnitS.l0, laws_toUnit.f, Option.bind_some]
    have hm : i < (l.map convUnit).length := by rw [List.length_map]; exact hi
    have hl := fillLen (l.map convUnit) z60 i (by omega)
    have h1 : (i : Int) < (l.length : Int) := by omega
    have h2 : (0 : Int) ≤ (i : Int) := by omega
    have h3 : (i : Int) < (((l.map convUnit).take i ++ List.replicate ((l.map convUnit).length - i) z60).length : Int) := by rw [hl]; omega
    have h4 := fillStep (l.map convUnit) z60 i hm
    rw [List.getElem_map] at h4
    simp only [h1, h2, h3, if_true, Int.toNat_natCast, rd62 l i hi, wrapNat (show i < 4611686018427387904 by omega)]
    simp only [convUnit] at h4
    rw [h4]
    exact h
  · refine evSucc ?_
    simp only [laws_toUnitS.l0, Int.lt_irrefl, if_false]
    simp only [show l.length = (l.map convUnit).length by rw [List.length_map], List.take_length, Nat.sub_self, List.replicate_zero, List.append_nil]
    exact Ev.now _
theorem szUnitS_big (l : List S62) (h : 1048576 < l.length) (hm : l.length * 24 ≤ 140737488351232) : laws_szUnitS.f l 1048576 = some (-1) := by
  unfold laws_szUnitS.f
  rw [wrapIn (by omega) (by omega), if_pos (by omega)]
theorem szUnitS_ok (l : List S62) (h : l.length ≤ 1048576) : laws_szUnitS.f l 1048576 = some (1048576 - (l.length : Int)) := by
  unfold laws_szUnitS.f
  rw [wrapIn (by omega) (by omega), if_neg (by omega)]
theorem szUnitS_bigM (l : List S62) (m : Int) (m0 : 0 ≤ m) (m1 : m ≤ 1048576) (h : m < l.length) (hm : l.length * 24 ≤ 140737488351232) : laws_szUnitS.f l m = some (-1) := by
  unfold laws_szUnitS.f
  rw [wrapIn (by omega) (by omega), if_pos (by omega)]
theorem szUnitS_okM (l : List S62) (m : Int) (m0 : 0 ≤ m) (m1 : m ≤ 1048576) (h : (l.length : Int) ≤ m) : laws_szUnitS.f l m = some (m - (l.length : Int)) := by
  unfold laws_szUnitS.f
  rw [wrapIn (by omega) (by omega), if_neg (by omega)]

theorem eqUnitS (l : List S60) (h : l.length ≤ 1048576) : Ev (fun k => laws_eqUnitS.f k l l) true := by
  unfold laws_eqUnitS.f
  simp only [if_true]
  have he : ∀ x : S60, laws_eqUnit.f x.f0 x.f1 x.f2 x.f0 x.f1 x.f2 = some true := by intro x; simp [laws_eqUnit.f]
  have := evAll (fun k i => laws_eqUnitS.l0 k l l i) 0 l.length (fun _ => True) ?_ (fun i _ hi hn => absurd trivial hn) true ?_ (Nat.zero_le _)
  · simpa [B_true] using this
  · intro i _ hi _ r h
    refine evSucc ?_
    have h1 : (i : Int) < (l.length : Int) := by omega
    have h2 : (0 : Int) ≤ (i : Int) := by omega
    simp only [laws_eqUnitS.l0, h1, h2, if_true, he, Option.bind_some, wrapNat (show i < 4611686018427387904 by omega)]
    exact h
  · refine evSucc ?_
    simp only [laws_eqUnitS.l0, Int.lt_irrefl, if_false]
    exact Ev.now _

def schC (u : S60) : ByteArray := if u.f0 = true then (if u.f2 = true then ⟨#[76]⟩ else ⟨#[82]⟩) else (if u.f2 = true then ⟨#[84]⟩ else ⟨#[66]⟩)
def schL (l : List S60) : Nat → ByteArray
  | 0 => ⟨#[]⟩
  | m + 1 => schL l m ++ schC (rd_T60 l (m : Int))
theorem schC_size (u : S60) : (schC u).size = 1 := by
  unfold schC
  split <;> split <;> rfl
theorem schL_size (l : List S60) : ∀ m : Nat, (schL l m).size = m
  | 0 => rfl
  | m + 1 => by rw [schL, ByteArray.size_append, schL_size l m, schC_size]
theorem schI (l : List S60) (hl : l.length ≤ 6) : Ev (fun k => impl_SchemeOfSetup.l0 k (⟨#[]⟩ : ByteArray) l (l.length : Int) 0) (schL l l.length, 0) := by
  refine evCount (fun k (s : ByteArray) i => impl_SchemeOfSetup.l0 k s l (l.length : Int) i) 0 l.length (schL l) (schL l l.length, 0) ?_ ?_ (Nat.zero_le _)
  · intro i _ hi hr
    refine evSucc ?_
    have hz := schL_size l i
    have hw := wrapNat (show i < 4611686018427387904 by omega)
    simp only [impl_SchemeOfSetup.l0, show (i : Int) < (l.length : Int) by omega, show (0 : Int) ≤ (i : Int) by omega, if_true]
    rw [schL] at hr
    by_cases a : (rd_T60 l (i : Int)).f0 = true
    · simp only [a, if_true]
      refine evSucc ?_
      by_cases b : (rd_T60 l (i : Int)).f2 = true
      · simp only [schC, a, b, if_true] at hr
        simp only [impl_SchemeOfSetup.j1, a, b, hz, show i + 1 ≤ 9223372036854775807 by omega, if_true, hw]
        exact hr
      · simp only [schC, a, b, if_true, if_false] at hr
        simp only [impl_SchemeOfSetup.j1, a, b, hz, show i + 1 ≤ 9223372036854775807 by omega, if_true, if_false, hw]
        exact hr
    · simp only [a, if_false, Bool.false_eq_true]
      refine evSucc ?_
      by_cases b : (rd_T60 l (i : Int)).f2 = true
      · simp only [schC, a, b, if_true, if_false] at hr
        simp only [impl_SchemeOfSetup.j1, a, b, hz, show i + 1 ≤ 9223372036854775807 by omega, if_true, if_false, hw, Bool.false_eq_true]
        exact hr
      · simp only [schC, a, b, if_false] at hr
        simp only [impl_SchemeOfSetup.j1, a, b, hz, show i + 1 ≤ 9223372036854775807 by omega, if_true, if_false, hw, Bool.false_eq_true]
        exact hr
  · refine evSucc ?_
    simp only [impl_SchemeOfSetup.l0, Int.lt_irrefl, if_false]
    exact Ev.now _
theorem schS (l : List S60) (hl : l.length ≤ 6) : Ev (fun k => spec_SchemeOfSetup.l0 k l (⟨#[]⟩ : ByteArray) 0) (schL l l.length, 0) := by
  refine evCount (fun k (s : ByteArray) i => spec_SchemeOfSetup.l0 k l s i) 0 l.length (schL l) (schL l l.length, 0) ?_ ?_ (Nat.zero_le _)
  · intro i _ hi hr
    refine evSucc ?_
    have hz := schL_size l i
    have hw := wrapNat (show i < 4611686018427387904 by omega)
    simp only [spec_SchemeOfSetup.l0, show (i : Int) < (l.length : Int) by omega, show (0 : Int) ≤ (i : Int) by omega, if_true]
    rw [schL] at hr
    by_cases a : (rd_T60 l (i : Int)).f0 = true
    · simp only [a, if_true]
      refine evSucc ?_
      by_cases b : (rd_T60 l (i : Int)).f2 = true
      · simp only [schC, a, b, if_true] at hr
        simp only [spec_SchemeOfSetup.j1, b, hz, show i + 1 ≤ 9223372036854775807 by omega, if_true, hw]
        exact hr
      · simp only [schC, a, b, if_true, if_false] at hr
        simp only [spec_SchemeOfSetup.j1, a, b, hz, show i + 1 ≤ 9223372036854775807 by omega, show (i : Int) < (l.length : Int) by omega, show (0 : Int) ≤ (i : Int) by omega, if_true, if_false, hw]
        exact hr
    · simp only [a, if_false, Bool.false_eq_true]
      refine evSucc ?_
      by_cases b : (rd_T60 l (i : Int)).f2 = true
      · simp only [schC, a, b, if_true, if_false] at hr
        simp only [spec_SchemeOfSetup.j1, a, b, hz, show i + 1 ≤ 9223372036854775807 by omega, show (i : Int) < (l.length : Int) by omega, show (0 : Int) ≤ (i : Int) by omega, if_true, if_false, hw, Bool.false_eq_true]
        exact hr
      · simp only [schC, a, b, if_false] at hr
        simp only [spec_SchemeOfSetup.j1, a, b, hz, show i + 1 ≤ 9223372036854775807 by omega, show (i : Int) < (l.length : Int) by omega, show (0 : Int) ≤ (i : Int) by omega, if_true, if_false, hw, Bool.false_eq_true]
        exact hr
  · refine evSucc ?_
    simp only [spec_SchemeOfSetup.l0, Int.lt_irrefl, if_false]
    exact Ev.now _
theorem scheme_both (l : List S60) (h : l.length ≤ 1048576) : ∃ r, Ev (fun k => spec_SchemeOfSetup.f k l) r ∧ Ev (fun k => impl_SchemeOfSetup.f k l) r := by
  unfold spec_SchemeOfSetup.f impl_SchemeOfSetup.f
  simp only [setupI, Option.bind_some]
  by_cases hs : setupB l = true
  · have hl := setup_len hs
    refine ⟨(schL l l.length, 0), Ev.bind (setupS l h) ?_, ?_⟩
    · simp only [hs, if_true]
      exact schS l hl
    · simp only [hs, if_true]
      exact schI l hl
  · refine ⟨((⟨#[]⟩ : ByteArray), 1), Ev.bind (setupS l h) ?_, ?_⟩
    · simp only [hs, if_false, Bool.false_eq_true]
      exact Ev.now _
    · simp only [hs, if_false, Bool.false_eq_true]
      exact Ev.now _
theorem FnExactSchemeOfSetup : laws_FnExactSchemeOfSetup.Pure := by
  intro l _ hm _
  refine Ev.rounds ?_
  unfold laws_FnExactSchemeOfSetup.f
  by_cases hl : l.length ≤ 1048576
  · have hl' : (l.map convUnit).length ≤ 1048576 := by rw [List.length_map]; exact hl
    simp only [szUnitS_ok l hl, Option.bind_some, show ¬ (1048576 - (l.length : Int) < 0) by omega, if_false]
    obtain ⟨r, h1, h2⟩ := scheme_both (l.map convUnit) hl'
    refine Ev.bind (toUnitS l hl) (Ev.bind h1 (Ev.bind (toUnitS l hl) (Ev.bind h2 ?_)))
    simp only [bne_self_eq_false, if_true]
    refine evSucc ?_
    simp only [laws_FnExactSchemeOfSetup.j0, Bool.false_eq_true, if_false]
    refine Ev.bind (toUnitS l hl) (Ev.bind (eqUnitS _ hl') ?_)
    simp only [if_true]
    exact Ev.now _
  · simp only [szUnitS_big l (by omega) hm, Option.bind_some, show (-1 : Int) < 0 by decide, if_true]
    exact Ev.now _

end Go.Proofs.Ytpndkekgoadjkaa.Pure
