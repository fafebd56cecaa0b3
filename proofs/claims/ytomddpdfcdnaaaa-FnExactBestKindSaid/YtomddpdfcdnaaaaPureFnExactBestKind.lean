/- The program and the reference choose the same best kind for a sheet, for every two int64 and every list of kinds. -/
import Derived.Test.YtomddpdfcdnaaaaSayFnExactBestKind
namespace Go.Proofs.Ytomddpdfcdnaaaa.Pure
open Go.RowKit Go.Proofs.Ytomddpdfcdnaaaa.PFnExactBestKind Go.Proofs.YtomddpdfcdnaaaaW.PrintWords Go.Proofs.YtomddpdfcdnaaaaW.PrintLast
set_option linter.unusedVariables false
set_option linter.unusedSimpArgs false
-- BEGIN
/-- A proposition as a bool. -/
noncomputable def B (p : Prop) : Bool := @decide p (Classical.propDecidable p)
theorem B_iff {p : Prop} : B p = true ↔ p := by unfold B; exact @decide_eq_true_iff p (Classical.propDecidable p)
theorem B_true {p : Prop} (h : p) : B p = true := B_iff.2 h
theorem B_false {p : Prop} (h : ¬ p) : B p = false := by cases e : B p with | false => rfl | true => exact absurd (B_iff.1 e) h
theorem B_congr {p q : Prop} (h : p ↔ q) : B p = B q := by rw [propext h]
theorem B_dec (p : Prop) [Decidable p] : B p = decide p := by by_cases h : p <;> simp [h, B_true, B_false]
theorem B_and (p q : Prop) : (B p && B q) = B (p ∧ q) := by
  by_cases hp : p <;> by_cases hq : q <;> simp [B_true, B_false, hp, hq]
theorem B_not (p : Prop) : (!B p) = B (¬ p) := by by_cases hp : p <;> simp [B_true, B_false, hp]
theorem evSucc {α : Type} {g : Nat → Option α} {r : α} (h : Ev (fun k => g (k + 1)) r) : Ev g r := Ev.step (fun _ => rfl) h
theorem evNow {α : Type} {g : Nat → Option α} {r : α} (h : ∀ k, g k = some r) : Ev g r := ⟨0, fun k _ => h k⟩
theorem evCount {σ α : Type} (F : Nat → σ → Int → Option α) (i0 n : Nat) (S : Nat → σ) (r : α)
    (hstep : ∀ i, i0 ≤ i → i < n → Ev (fun k => F k (S (i + 1)) ((i + 1 : Nat) : Int)) r → Ev (fun k => F k (S i) (i : Int)) r) (hend : Ev (fun k => F k (S n) (n : Int)) r) (hle : i0 ≤ n) : Ev (fun k => F k (S i0) (i0 : Int)) r := by
  have key : ∀ d i, i0 ≤ i → i + d = n → Ev (fun k => F k (S i) (i : Int)) r := by
    intro d
    induction d with
    | zero =>
      intro i _ hi
      have h0 : i = n := by omega
      subst h0
      exact hend
    | succ d ih => intro i h0 hi; exact hstep i h0 (by omega) (ih (i + 1) (by omega) (by omega))
  exact key (n - i0) i0 (Nat.le_refl _) (by omega)
/-- A loop that leaves at the first place where G fails. -/
theorem evAll (F : Nat → Int → Option Bool) (i0 n : Nat) (G : Nat → Prop)
    (hstep : ∀ i, i0 ≤ i → i < n → G i → ∀ r, Ev (fun k => F k ((i + 1 : Nat) : Int)) r → Ev (fun k => F k (i : Int)) r) (hbad : ∀ i, i0 ≤ i → i < n → ¬ G i → Ev (fun k => F k (i : Int)) false) (e : Bool) (hend : Ev (fun k => F k (n : Int)) e) (hle : i0 ≤ n) :
    Ev (fun k => F k (i0 : Int)) (B (∀ j, i0 ≤ j → j < n → G j) && e) := by
  have key : ∀ d i, i0 ≤ i → i + d = n → Ev (fun k => F k (i : Int)) (B (∀ j, i ≤ j → j < n → G j) && e) := by
    intro d
    induction d with
    | zero =>
      intro i _ hi
      have h0 : i = n := by omega
      subst h0
      rw [B_true (fun j h1 h2 => absurd h2 (by omega)), Bool.true_and]
      exact hend
    | succ d ih =>
      intro i h0 hi
      by_cases hg : G i
      · have h1 : B (∀ j, i ≤ j → j < n → G j) = B (∀ j, i + 1 ≤ j → j < n → G j) := B_congr ⟨fun h j a b => h j (by omega) b, fun h j a b => by
          by_cases e : j = i
          · subst e; exact hg
          · exact h j (by omega) b⟩
        rw [h1]
        exact hstep i h0 (by omega) hg _ (ih (i + 1) (by omega) (by omega))
      · rw [B_false (fun h => hg (h i (Nat.le_refl _) (by omega))), Bool.false_and]
        exact hbad i h0 (by omega) hg
  exact key (n - i0) i0 (Nat.le_refl _) (by omega)
theorem wrapNat {i : Nat} (h : i < 4611686018427387904) : wrap64 ((i : Int) + 1) = ((i + 1 : Nat) : Int) := by
  unfold wrap64; omega
theorem wrapPred {i : Nat} (h0 : 1 ≤ i) (h : i < 4611686018427387904) : wrap64 ((i : Int) - 1) = ((i - 1 : Nat) : Int) := by
  unfold wrap64; omega
theorem rdN (xs : List Int) (i : Nat) (h : i < xs.length) : rd xs (i : Int) = xs[i] := by
  simp [rd, List.getD_eq_getElem?_getD, List.getElem?_eq_getElem h]
theorem fillStep {α : Type} (xs : List α) (z : α) (i : Nat) (h : i < xs.length) : (xs.take i ++ List.replicate (xs.length - i) z).set i xs[i] = xs.take (i + 1) ++ List.replicate (xs.length - (i + 1)) z := by
  have h1 : xs.length - i = (xs.length - (i + 1)) + 1 := by omega
  rw [h1, List.replicate_succ, List.set_append_right _ _ (by rw [List.length_take]; omega)]
  rw [List.length_take, Nat.min_eq_left (by omega), Nat.sub_self, List.set_cons_zero, List.take_succ_eq_append_getElem h, List.append_assoc]
  rfl
theorem fillLen {α : Type} (xs : List α) (z : α) (i : Nat) (h : i ≤ xs.length) : (xs.take i ++ List.replicate (xs.length - i) z).length = xs.length := by
  simp; omega

theorem inS (a b c : Int) : spec_l01In.f a b c = some (decide (b ≤ a ∧ a ≤ c)) := by
  unfold spec_l01In.f
  by_cases h : b ≤ a <;> simp [h]

theorem inI (a b c : Int) : impl_inRange.f a b c = some (decide (b ≤ a ∧ a ≤ c)) := by
  unfold impl_inRange.f
  by_cases h : b ≤ a <;> simp [h]

theorem rd34 (xs : List S34) (i : Nat) (h : i < xs.length) : rd_T34 xs (i : Int) = xs[i] := by
  simp [rd_T34, List.getD_eq_getElem?_getD, List.getElem?_eq_getElem h]

def catB (l : List S34) : Bool := decide (1 ≤ (l.length : Int) ∧ (l.length : Int) ≤ 6) && l.all impl_IsCatalogue.good
theorem catI (l : List S34) : impl_IsCatalogue.f l = some (catB l) := rfl
def sheetB (w h : Int) : Bool := decide (1 ≤ w ∧ w ≤ 40) && decide (1 ≤ h ∧ h ≤ 40)
theorem sheetS (w h : Int) : spec_l12Sheet.f w h = some (sheetB w h) := by
  unfold spec_l12Sheet.f sheetB
  simp only [inS, Option.bind_some]
  by_cases h1 : (1 ≤ w ∧ w ≤ 40) <;> simp [h1]
theorem good_iff (u : S34) : impl_IsCatalogue.good u = true ↔ sheetB u.f0 u.f1 = true ∧ (0 ≤ u.f2 ∧ u.f2 ≤ 1000) := by
  simp only [impl_IsCatalogue.good, sheetB, Bool.and_eq_true, decide_eq_true_eq, and_assoc]
theorem catS (l : List S34) (h : l.length ≤ 1048576) : Ev (fun k => spec_IsCatalogue.f k l) (catB l) := by
  unfold spec_IsCatalogue.f
  have := evAll (fun k i => spec_IsCatalogue.l0 k l i) 0 l.length (fun i => sheetB (rd_T34 l (i : Int)).f0 (rd_T34 l (i : Int)).f1 = true ∧ (0 ≤ (rd_T34 l (i : Int)).f2 ∧ (rd_T34 l (i : Int)).f2 ≤ 1000)) ?_ ?_ (decide (1 ≤ (l.length : Int) ∧ (l.length : Int) ≤ 6)) ?_ (Nat.zero_le _)
  · have e : catB l = (B (∀ j, 0 ≤ j → j < l.length → sheetB (rd_T34 l (j : Int)).f0 (rd_T34 l (j : Int)).f1 = true ∧ (0 ≤ (rd_T34 l (j : Int)).f2 ∧ (rd_T34 l (j : Int)).f2 ≤ 1000)) && decide (1 ≤ (l.length : Int) ∧ (l.length : Int) ≤ 6)) := by
      unfold catB
      rw [Bool.and_comm]
      congr 1
      rw [Bool.eq_iff_iff, B_iff, List.all_eq_true]
      refine ⟨fun hx j _ hj => ?_, fun hx u hu => ?_⟩
      · have := hx l[j] (List.getElem_mem hj)
        rw [rd34 l j hj]
        exact (good_iff _).1 this
      · obtain ⟨j, hj, rfl⟩ := List.getElem_of_mem hu
        have := hx j (Nat.zero_le _) hj
        rw [rd34 l j hj] at this
        exact (good_iff _).2 this
    rw [e]
    exact this
  · intro i _ hi hg r hr
    refine evSucc ?_
    simp only [spec_IsCatalogue.l0, show (i : Int) < (l.length : Int) by omega, show (0 : Int) ≤ (i : Int) by omega, if_true, sheetS, inS, Option.bind_some, decide_eq_true_eq, hg, and_self, wrapNat (show i < 4611686018427387904 by omega)]
    exact hr
  · intro i _ hi hg
    refine evSucc ?_
    simp only [spec_IsCatalogue.l0, show (i : Int) < (l.length : Int) by omega, show (0 : Int) ≤ (i : Int) by omega, if_true, sheetS, inS, Option.bind_some, decide_eq_true_eq]
    by_cases g1 : sheetB (rd_T34 l (i : Int)).f0 (rd_T34 l (i : Int)).f1 = true
    · simp only [g1, if_true, show ¬ (0 ≤ (rd_T34 l (i : Int)).f2 ∧ (rd_T34 l (i : Int)).f2 ≤ 1000) from fun g2 => hg ⟨g1, g2⟩, if_false]
      exact Ev.now _
    · simp only [g1, if_false, Bool.false_eq_true]
      exact Ev.now _
  · refine evSucc ?_
    simp only [spec_IsCatalogue.l0, Int.lt_irrefl, if_false]
    by_cases g : 1 ≤ (l.length : Int)
    · simp only [show (l.length : Int) ≥ 1 from g, if_true, g, true_and]
      exact Ev.now _
    · simp only [show ¬ ((l.length : Int) ≥ 1) from g, if_false, g, false_and, decide_false]
      exact Ev.now _
theorem cat_at {l : List S34} (h : catB l = true) (i : Nat) (hi : i < l.length) : (1 ≤ (rd_T34 l (i : Int)).f0 ∧ (rd_T34 l (i : Int)).f0 ≤ 40) ∧ (1 ≤ (rd_T34 l (i : Int)).f1 ∧ (rd_T34 l (i : Int)).f1 ≤ 40) ∧ (0 ≤ (rd_T34 l (i : Int)).f2 ∧ (rd_T34 l (i : Int)).f2 ≤ 1000) := by
  simp only [catB, Bool.and_eq_true, List.all_eq_true] at h
  have := (good_iff _).1 (h.2 l[i] (List.getElem_mem hi))
  rw [rd34 l i hi]
  simp only [sheetB, Bool.and_eq_true, decide_eq_true_eq] at this
  exact ⟨this.1.1, this.1.2, this.2⟩
theorem cat_len {l : List S34} (h : catB l = true) : 1 ≤ l.length ∧ l.length ≤ 6 := by
  simp only [catB, Bool.and_eq_true, decide_eq_true_eq] at h
  omega
def tableV (w h : Int) (l : List S34) : Int := if catB l = true then (if sheetB w h = true then 0 else 2) else 1
theorem tableI (w h : Int) (l : List S34) : impl_checkTable.f w h l = some (tableV w h l) := by
  unfold impl_checkTable.f tableV sheetB
  simp only [catI, inI, Option.bind_some, decide_eq_true_eq, Bool.and_eq_true]
  by_cases c : catB l = true <;> by_cases a : (1 ≤ w ∧ w ≤ 40) <;> by_cases b : (1 ≤ h ∧ h ≤ 40) <;> simp [c, a, b]
theorem tableS (w h : Int) (l : List S34) (hl : l.length ≤ 1048576) : Ev (fun k => spec_l12Code.f k w h l) (tableV w h l) := by
  unfold spec_l12Code.f tableV
  refine Ev.bind (catS l hl) ?_
  by_cases c : catB l = true
  · simp only [c, if_true, sheetS, Option.bind_some]
    split <;> exact Ev.now _
  · simp only [c, if_false, Bool.false_eq_true]
    exact Ev.now _

theorem wrapIn {x : Int} (h0 : -9223372036854775808 ≤ x) (h1 : x ≤ 9223372036854775807) : wrap64 x = x := by
  unfold wrap64; omega

theorem rd36 (xs : List S36) (i : Nat) (h : i < xs.length) : rd_T36 xs (i : Int) = xs[i] := by
  simp [rd_T36, List.getD_eq_getElem?_getD, List.getElem?_eq_getElem h]

def convKind (x : S36) : S34 := ⟨x.f0, x.f1, x.f2⟩
theorem toKindS (l : List S36) (h : l.length ≤ 1048576) : Ev (fun k => laws_toKindS.f k l) (l.map convKind) := by
  unfold laws_toKindS.f
  simp only [Int.toNat_natCast, show (0 : Int) ≤ (l.length : Int) by omega, show l.length ≤ 11728124029610 by omega, if_true]
  have := evCount (fun k s i => laws_toKindS.l0 k l s i) 0 l.length (fun i => (l.map convKind).take i ++ List.replicate ((l.map convKind).length - i) z34) (l.map convKind) ?_ ?_ (Nat.zero_le _)
  · simpa using this
  · intro i _ hi h
    refine evSucc ?_
    simp only [laws_toKindS.l0, laws_toKind.f, Option.bind_some]
    have hm : i < (l.map convKind).length := by rw [List.length_map]; exact hi
    have hl := fillLen (l.map convKind) z34 i (by omega)
    have h1 : (i : Int) < (l.length : Int) := by omega
    have h2 : (0 : Int) ≤ (i : Int) := by omega
    have h3 : (i : Int) < (((l.map convKind).take i ++ List.replicate ((l.map convKind).length - i) z34).length : Int) := by rw [hl]; omega
    have h4 := fillStep (l.map convKind) z34 i hm
    rw [List.getElem_map] at h4
    simp only [h1, h2, h3, if_true, Int.toNat_natCast, rd36 l i hi, wrapNat (show i < 4611686018427387904 by omega)]
    simp only [convKind] at h4
    rw [h4]
    exact h
  · refine evSucc ?_
    simp only [laws_toKindS.l0, Int.lt_irrefl, if_false]
    simp only [show l.length = (l.map convKind).length by rw [List.length_map], List.take_length, Nat.sub_self, List.replicate_zero, List.append_nil]
    exact Ev.now _
theorem szKindS_big (l : List S36) (h : 1048576 < l.length) (hm : l.length * 24 ≤ 140737488351232) : laws_szKindS.f l 1048576 = some (-1) := by
  unfold laws_szKindS.f
  rw [wrapIn (by omega) (by omega), if_pos (by omega)]
theorem szKindS_ok (l : List S36) (h : l.length ≤ 1048576) : laws_szKindS.f l 1048576 = some (1048576 - (l.length : Int)) := by
  unfold laws_szKindS.f
  rw [wrapIn (by omega) (by omega), if_neg (by omega)]
theorem szKindS_bigM (l : List S36) (m : Int) (m0 : 0 ≤ m) (m1 : m ≤ 1048576) (h : m < l.length) (hm : l.length * 24 ≤ 140737488351232) : laws_szKindS.f l m = some (-1) := by
  unfold laws_szKindS.f
  rw [wrapIn (by omega) (by omega), if_pos (by omega)]
theorem szKindS_okM (l : List S36) (m : Int) (m0 : 0 ≤ m) (m1 : m ≤ 1048576) (h : (l.length : Int) ≤ m) : laws_szKindS.f l m = some (m - (l.length : Int)) := by
  unfold laws_szKindS.f
  rw [wrapIn (by omega) (by omega), if_neg (by omega)]

theorem eqKindS (l : List S34) (h : l.length ≤ 1048576) : Ev (fun k => laws_eqKindS.f k l l) true := by
  unfold laws_eqKindS.f
  simp only [if_true]
  have he : ∀ x : S34, laws_eqKind.f x.f0 x.f1 x.f2 x.f0 x.f1 x.f2 = some true := by intro x; simp [laws_eqKind.f]
  have := evAll (fun k i => laws_eqKindS.l0 k l l i) 0 l.length (fun _ => True) ?_ (fun i _ hi hn => absurd trivial hn) true ?_ (Nat.zero_le _)
  · simpa [B_true] using this
  · intro i _ hi _ r h
    refine evSucc ?_
    have h1 : (i : Int) < (l.length : Int) := by omega
    have h2 : (0 : Int) ≤ (i : Int) := by omega
    simp only [laws_eqKindS.l0, h1, h2, if_true, he, Option.bind_some, wrapNat (show i < 4611686018427387904 by omega)]
    exact h
  · refine evSucc ?_
    simp only [laws_eqKindS.l0, Int.lt_irrefl, if_false]
    exact Ev.now _

theorem kind_loop (w h : Int) (l : List S34) (hc : catB l = true) (d : Nat) : ∀ (i : Nat) (b v : Int), i + d = l.length → ∃ r, Ev (fun k => spec_BestKind.l0 k w h l b v (i : Int)) r ∧ Ev (fun k => impl_BestKind.l0 k w h b v l (l.length : Int) (i : Int)) r := by
  have hlen := cat_len hc
  induction d with
  | zero =>
    intro i b v hi
    refine ⟨(b, v, 0), evSucc ?_, evSucc ?_⟩
    · simp only [spec_BestKind.l0, show ¬ ((i : Int) < (l.length : Int)) by omega, if_false]
      exact Ev.now _
    · simp only [impl_BestKind.l0, show ¬ ((i : Int) < (l.length : Int)) by omega, if_false]
      exact Ev.now _
  | succ d ih =>
    intro i b v hi
    have ha := cat_at hc i (by omega)
    have hw := wrapNat (show i < 4611686018427387904 by omega)
    generalize hV : wrap64 ((wrap64 ((wrap64 (Int.tdiv w ((rd_T34 l (i : Int)).f0))) * (wrap64 (Int.tdiv h ((rd_T34 l (i : Int)).f1))))) * ((rd_T34 l (i : Int)).f2)) = V
    by_cases c : V > v
    · obtain ⟨r, h1, h2⟩ := ih (i + 1) (i : Int) V (by omega)
      refine ⟨r, evSucc ?_, evSucc ?_⟩
      · simp only [spec_BestKind.l0, show (i : Int) < (l.length : Int) by omega, show (0 : Int) ≤ (i : Int) by omega, show ¬ ((rd_T34 l (i : Int)).f0 = 0) by omega, show ¬ ((rd_T34 l (i : Int)).f1 = 0) by omega, if_true, if_false, hV, c, hw]
        exact h1
      · simp only [impl_BestKind.l0, show (i : Int) < (l.length : Int) by omega, show (0 : Int) ≤ (i : Int) by omega, show ¬ ((rd_T34 l (i : Int)).f0 = 0) by omega, show ¬ ((rd_T34 l (i : Int)).f1 = 0) by omega, if_true, if_false, hV, c, hw]
        exact h2
    · obtain ⟨r, h1, h2⟩ := ih (i + 1) b v (by omega)
      refine ⟨r, evSucc ?_, evSucc ?_⟩
      · simp only [spec_BestKind.l0, show (i : Int) < (l.length : Int) by omega, show (0 : Int) ≤ (i : Int) by omega, show ¬ ((rd_T34 l (i : Int)).f0 = 0) by omega, show ¬ ((rd_T34 l (i : Int)).f1 = 0) by omega, if_true, if_false, hV, c, hw]
        exact h1
      · simp only [impl_BestKind.l0, show (i : Int) < (l.length : Int) by omega, show (0 : Int) ≤ (i : Int) by omega, show ¬ ((rd_T34 l (i : Int)).f0 = 0) by omega, show ¬ ((rd_T34 l (i : Int)).f1 = 0) by omega, if_true, if_false, hV, c, hw]
        exact h2
theorem kind_both (w h : Int) (l : List S34) (hl : l.length ≤ 1048576) : ∃ r, Ev (fun k => spec_BestKind.f k w h l) r ∧ Ev (fun k => impl_BestKind.f k w h l) r := by
  unfold spec_BestKind.f impl_BestKind.f
  simp only [tableI, Option.bind_some]
  by_cases ht : tableV w h l = 0
  · have hc : catB l = true := Classical.byContradiction fun hc => by
      unfold tableV at ht
      rw [if_neg hc] at ht
      exact absurd ht (by decide)
    obtain ⟨r, h1, h2⟩ := kind_loop w h l hc l.length 0 0 (-1) (by omega)
    refine ⟨r, Ev.bind (tableS w h l hl) ?_, ?_⟩
    · simp only [ht, if_true]
      exact h1
    · simp only [ht, if_true]
      exact h2
  · refine ⟨(0, 0, tableV w h l), Ev.bind (tableS w h l hl) ?_, ?_⟩
    · simp only [ht, if_false]
      exact Ev.now _
    · simp only [ht, if_false]
      exact Ev.now _
theorem FnExactBestKind : laws_FnExactBestKind.Pure := by
  intro w h l _ _ _ hm _
  refine Ev.rounds ?_
  unfold laws_FnExactBestKind.f
  by_cases hl : l.length ≤ 1048576
  · have hl' : (l.map convKind).length ≤ 1048576 := by rw [List.length_map]; exact hl
    simp only [szKindS_ok l hl, Option.bind_some, show ¬ (1048576 - (l.length : Int) < 0) by omega, if_false]
    obtain ⟨r, h1, h2⟩ := kind_both w h (l.map convKind) hl'
    refine Ev.bind (toKindS l hl) (Ev.bind h1 (Ev.bind (toKindS l hl) (Ev.bind h2 ?_)))
    simp only [bne_self_eq_false, if_true]
    refine evSucc ?_
    simp only [laws_FnExactBestKind.j0, Bool.false_eq_true, if_false]
    refine Ev.bind (toKindS l hl) (Ev.bind (eqKindS _ hl') ?_)
    simp only [if_true]
    exact Ev.now _
  · simp only [szKindS_big l (by omega) hm, Option.bind_some, show (-1 : Int) < 0 by decide, if_true]
    exact Ev.now _

end Go.Proofs.Ytomddpdfcdnaaaa.Pure
