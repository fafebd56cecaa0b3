/- The program and the reference find the same best value of a sheet, for every two int64 and every list of kinds. -/
import Derived.Test.YtomddpdfcdnaaaaSayFnExactBestValue
namespace Go.Proofs.Ytomddpdfcdnaaaa.Pure
open Go.RowKit Go.Proofs.Ytomddpdfcdnaaaa.PFnExactBestValue Go.Proofs.YtomddpdfcdnaaaaW.PrintWords Go.Proofs.YtomddpdfcdnaaaaW.PrintLast
set_option linter.unusedVariables false
set_option linter.unusedSimpArgs false
-- BEGIN
/-- A proposition as a bool. -/
noncomputable def B (p : Prop) : Bool := @decide p (Classical.propDecidable p)
theorem B_iff {p : Prop} : B p = true ↔ p := by unfold B; exact @decide_eq_true_iff p (Classical.propDecidable p)
theorem B_true {p : Prop} (h : p) : B p = true := B_iff.2 h
theorem B_false {p : Prop} (h : ¬ p) : B p = false := by cases e : B p with | false => rfl | true => exact absurd (B_iff.1 e) h
theorem B_congr {p q : Prop} (h : p ↔ q) : B p = B q := by rw [propext h]
theorem B_dec (p : Prop) [Decidable p] : B p = decide p := by by_cases h : p <;> simp [h, B_true, B_false]
theorem B_and (p q : Prop) : (B p && B q) = B (p ∧ q) := by
  by_cases hp : p <;> by_cases hq : q <;> simp [B_true, B_false, hp, hq]
theorem B_not (p : Prop) : (!B p) = B (¬ p) := by by_cases hp : p <;> simp [B_true, B_false, hp]
theorem evSucc {α : Type} {g : Nat → Option α} {r : α} (h : Ev (fun k => g (k + 1)) r) : Ev g r := Ev.step (fun _ => rfl) h
theorem evNow {α : Type} {g : Nat → Option α} {r : α} (h : ∀ k, g k = some r) : Ev g r := ⟨0, fun k _ => h k⟩
theorem evCount {σ α : Type} (F : Nat → σ → Int → Option α) (i0 n : Nat) (S : Nat → σ) (r : α)
    (hstep : ∀ i, i0 ≤ i → i < n → Ev (fun k => F k (S (i + 1)) ((i + 1 : Nat) : Int)) r → Ev (fun k => F k (S i) (i : Int)) r) (hend : Ev (fun k => F k (S n) (n : Int)) r) (hle : i0 ≤ n) : Ev (fun k => F k (S i0) (i0 : Int)) r := by
  have key : ∀ d i, i0 ≤ i → i + d = n → Ev (fun k => F k (S i) (i : Int)) r := by
    intro d
    induction d with
    | zero =>
      intro i _ hi
      have h0 : i = n := by omega
      subst h0
      exact hend
    | succ d ih => intro i h0 hi; exact hstep i h0 (by omega) (ih (i + 1) (by omega) (by omega))
  exact key (n - i0) i0 (Nat.le_refl _) (by omega)
/-- A loop that leaves at the first place where G fails. -/
theorem evAll (F : Nat → Int → Option Bool) (i0 n : Nat) (G : Nat → Prop)
    (hstep : ∀ i, i0 ≤ i → i < n → G i → ∀ r, Ev (fun k => F k ((i + 1 : Nat) : Int)) r → Ev (fun k => F k (i : Int)) r) (hbad : ∀ i, i0 ≤ i → i < n → ¬ G i → Ev (fun k => F k (i : Int)) false) (e : Bool) (hend : Ev (fun k => F k (n : Int)) e) (hle : i0 ≤ n) :
    Ev (fun k => F k (i0 : Int)) (B (∀ j, i0 ≤ j → j < n → G j) && e) := by
  have key : ∀ d i, i0 ≤ i → i + d = n → Ev (fun k => F k (i : Int)) (B (∀ j, i ≤ j → j < n → G j) && e) := by
    intro d
    induction d with
    | zero =>
      intro i _ hi
      have h0 : i = n := by omega
      subst h0
      rw [B_true (fun j h1 h2 => absurd h2 (by omega)), Bool.true_and]
      exact hend
    | succ d ih =>
      intro i h0 hi
      by_cases hg : G i
      · have h1 : B (∀ j, i ≤ j → j < n → G j) = B (∀ j, i + 1 ≤ j → j < n → G j) := B_congr ⟨fun h j a b => h j (by omega) b, fun h j a b => by
          by_cases e : j = i
          · subst e; exact hg
          · exact h j (by omega) b⟩
        rw [h1]
        exact hstep i h0 (by omega) hg _ (ih (i + 1) (by omega) (by omega))
      · rw [B_false (fun h => hg (h i (Nat.le_refl _) (by omega))), Bool.false_and]
        exact hbad i h0 (by omega) hg
  exact key (n - i0) i0 (Nat.le_refl _) (by omega)
theorem wrapNat {i : Nat} (h : i < 4611686018427387904) : wrap64 ((i : Int) + 1) = ((i + 1 : Nat) : Int) := by
  unfold wrap64; omega
theorem wrapPred {i : Nat} (h0 : 1 ≤ i) (h : i < 4611686018427387904) : wrap64 ((i : Int) - 1) = ((i - 1 : Nat) : Int) := by
  unfold wrap64; omega
theorem rdN (xs : List Int) (i : Nat) (h : i < xs.length) : rd xs (i : Int) = xs[i] := by
  simp [rd, List.getD_eq_getElem?_getD, List.getElem?_eq_getElem h]
theorem fillStep {α : Type} (xs : List α) (z : α) (i : Nat) (h : i < xs.length) : (xs.take i ++ List.replicate (xs.length - i) z).set i xs[i] = xs.take (i + 1) ++ List.replicate (xs.length - (i + 1)) z := by
  have h1 : xs.length - i = (xs.length - (i + 1)) + 1 := by omega
  rw [h1, List.replicate_succ, List.set_append_right _ _ (by rw [List.length_take]; omega)]
  rw [List.length_take, Nat.min_eq_left (by omega), Nat.sub_self, List.set_cons_zero, List.take_succ_eq_append_getElem h, List.append_assoc]
  rfl
theorem fillLen {α : Type} (xs : List α) (z : α) (i : Nat) (h : i ≤ xs.length) : (xs.take i ++ List.replicate (xs.length - i) z).length = xs.length := by
  simp; omega

theorem inS (a b c : Int) : spec_l01In.f a b c = some (decide (b ≤ a ∧ a ≤ c)) := by
  unfold spec_l01In.f
  by_cases h : b ≤ a <;> simp [h]

theorem inI (a b c : Int) : impl_inRange.f a b c = some (decide (b ≤ a ∧ a ≤ c)) := by
  unfold impl_inRange.f
  by_cases h : b ≤ a <;> simp [h]

theorem rd34 (xs : List S34) (i : Nat) (h : i < xs.length) : rd_T34 xs (i : Int) = xs[i] := by
  simp [rd_T34, List.getD_eq_getElem?_getD, List.getElem?_eq_getElem h]

def catB (l : List S34) : Bool := decide (1 ≤ (l.length : Int) ∧ (l.length : Int) ≤ 6) && l.all impl_IsCatalogue.good
theorem catI (l : List S34) : impl_IsCatalogue.f l = some (catB l) := rfl
def sheetB (w h : Int) : Bool := decide (1 ≤ w ∧ w ≤ 40) && decide (1 ≤ h ∧ h ≤ 40)
theorem sheetS (w h : Int) : spec_l12Sheet.f w h = some (sheetB w h) := by
  unfold spec_l12Sheet.f sheetB
  simp only [inS, Option.bind_some]
  by_cases h1 : (1 ≤ w ∧ w ≤ 40) <;> simp [h1]
theorem good_iff (u : S34) : impl_IsCatalogue.good u = true ↔ sheetB u.f0 u.f1 = true ∧ (0 ≤ u.f2 ∧ u.f2 ≤ 1000) := by
  simp only [impl_IsCatalogue.good, sheetB, Bool.and_eq_true, decide_eq_true_eq, and_assoc]
theorem catS (l : List S34) (h : l.length ≤ 1048576) : Ev (fun k => spec_IsCatalogue.f k l) (catB l) := by
  unfold spec_IsCatalogue.f
  have := evAll (fun k i => spec_IsCatalogue.l0 k l i) 0 l.length (fun i => sheetB (rd_T34 l (i : Int)).f0 (rd_T34 l (i : Int)).f1 = true ∧ (0 ≤ (rd_T34 l (i : Int)).f2 ∧ (rd_T34 l (i : Int)).f2 ≤ 1000)) ?_ ?_ (decide (1 ≤ (l.length : Int) ∧ (l.length : Int) ≤ 6)) ?_ (Nat.zero_le _)
  · have e : catB l = (B (∀ j, 0 ≤ j → j < l.length → sheetB (rd_T34 l (j : Int)).f0 (rd_T34 l (j : Int)).f1 = true ∧ (0 ≤ (rd_T34 l (j : Int)).f2 ∧ (rd_T34 l (j : Int)).f2 ≤ 1000)) && decide (1 ≤ (l.length : Int) ∧ (l.length : Int) ≤ 6)) := by
      unfold catB
      rw [Bool.and_comm]
      congr 1
      rw [Bool.eq_iff_iff, B_iff, List.all_eq_true]
      refine ⟨fun hx j _ hj => ?_, fun hx u hu => ?_⟩
      · have := hx l[j] (List.getElem_mem hj)
        rw [rd34 l j hj]
        exact (good_iff _).1 this
      · obtain ⟨j, hj, rfl⟩ := List.getElem_of_mem hu
        have := hx j (Nat.zero_le _) hj
        rw [rd34 l j hj] at this
        exact (good_iff _).2 this
    rw [e]
    exact this
  · intro i _ hi hg r hr
    refine evSucc ?_
    simp only [spec_IsCatalogue.l0, show (i : Int) < (l.length : Int) by omega, show (0 : Int) ≤ (i : Int) by omega, if_true, sheetS, inS, Option.bind_some, decide_eq_true_eq, hg, and_self, wrapNat (show i < 4611686018427387904 by omega)]
    exact hr
  · intro i _ hi hg
    refine evSucc ?_
    simp only [spec_IsCatalogue.l0, show (i : Int) < (l.length : Int) by omega, show (0 : Int) ≤ (i : Int) by omega, if_true, sheetS, inS, Option.bind_some, decide_eq_true_eq]
    by_cases g1 : sheetB (rd_T34 l (i : Int)).f0 (rd_T34 l (i : Int)).f1 = true
    · simp only [g1, if_true, show ¬ (0 ≤ (rd_T34 l (i : Int)).f2 ∧ (rd_T34 l (i : Int)).f2 ≤ 1000) from fun g2 => hg ⟨g1, g2⟩, if_false]
      exact Ev.now _
    · simp only [g1, if_false, Bool.false_eq_true]
      exact Ev.now _
  · refine evSucc ?_
    simp only [spec_IsCatalogue.l0, Int.lt_irrefl, if_false]
    by_cases g : 1 ≤ (l.length : Int)
    · simp only [show (l.length : Int) ≥ 1 from g, if_true, g, true_and]
      exact Ev.now _
    · simp only [show ¬ ((l.length : Int) ≥ 1) from g, if_false, g, false_and, decide_false]
      exact Ev.now _
theorem cat_at {l : List S34} (h : catB l = true) (i : Nat) (hi : i < l.length) : (1 ≤ (rd_T34 l (i : Int)).f0 ∧ (rd_T34 l (i : Int)).f0 ≤ 40) ∧ (1 ≤ (rd_T34 l (i : Int)).f1 ∧ (rd_T34 l (i : Int)).f1 ≤ 40) ∧ (0 ≤ (rd_T34 l (i : Int)).f2 ∧ (rd_T34 l (i : Int)).f2 ≤ 1000) := by
  simp only [catB, Bool.and_eq_true, List.all_eq_true] at h
  have := (good_iff _).1 (h.2 l[i] (List.getElem_mem hi))
  rw [rd34 l i hi]
  simp only [sheetB, Bool.and_eq_true, decide_eq_true_eq] at this
  exact ⟨this.1.1, this.1.2, this.2⟩
theorem cat_len {l : List S34} (h : catB l = true) : 1 ≤ l.length ∧ l.length ≤ 6 := by
  simp only [catB, Bool.and_eq_true, decide_eq_true_eq] at h
  omega
def tableV (w h : Int) (l : List S34) : Int := if catB l = true then (if sheetB w h = true then 0 else 2) else 1
theorem tableI (w h : Int) (l : List S34) : impl_checkTable.f w h l = some (tableV w h l) := by
  unfold impl_checkTable.f tableV sheetB
  simp only [catI, inI, Option.bind_some, decide_eq_true_eq, Bool.and_eq_true]
  by_cases c : catB l = true <;> by_cases a : (1 ≤ w ∧ w ≤ 40) <;> by_cases b : (1 ≤ h ∧ h ≤ 40) <;> simp [c, a, b]
theorem tableS (w h : Int) (l : List S34) (hl : l.length ≤ 1048576) : Ev (fun k => spec_l12Code.f k w h l) (tableV w h l) := by
  unfold spec_l12Code.f tableV
  refine Ev.bind (catS l hl) ?_
  by_cases c : catB l = true
  · simp only [c, if_true, sheetS, Option.bind_some]
    split <;> exact Ev.now _
  · simp only [c, if_false, Bool.false_eq_true]
    exact Ev.now _

theorem wrapIn {x : Int} (h0 : -9223372036854775808 ≤ x) (h1 : x ≤ 9223372036854775807) : wrap64 x = x := by
  unfold wrap64; omega

theorem rd36 (xs : List S36) (i : Nat) (h : i < xs.length) : rd_T36 xs (i : Int) = xs[i] := by
  simp [rd_T36, List.getD_eq_getElem?_getD, List.getElem?_eq_getElem h]

def convKind (x : S36) : S34 := ⟨x.f0, x.f1, x.f2⟩
theorem toKindS (l : List S36) (h : l.length ≤ 1048576) : Ev (fun k => laws_toKindS.f k l) (l.map convKind) := by
  unfold laws_toKindS.f
  simp only [Int.toNat_natCast, show (0 : Int) ≤ (l.length : Int) by omega, show l.length ≤ 11728124029610 by omega, if_true]
  have := evCount (fun k s i => laws_toKindS.l0 k l s i) 0 l.length (fun i => (l.map convKind).take i ++ List.replicate ((l.map convKind).length - i) z34) (l.map convKind) ?_ ?_ (Nat.zero_le _)
  · simpa using this
  · intro i _ hi h
    refine evSucc ?_
    simp only [laws_toKindS.l0, laws_toKind.f, Option.bind_some]
    have hm : i < (l.map convKind).length := by rw [List.length_map]; exact hi
    have hl := fillLen (l.map convKind) z34 i (by omega)
    have h1 : (i : Int) < (l.length : Int) := by omega
    have h2 : (0 : Int) ≤ (i : Int) := by omega
    have h3 : (i : Int) < (((l.map convKind).take i ++ List.replicate ((l.map convKind).length - i) z34).length : Int) := by rw [hl]; omega
    have h4 := fillStep (l.map convKind) z34 i hm
    rw [List.getElem_map] at h4
    simp only [h1, h2, h3, if_true, Int.toNat_natCast, rd36 l i hi, wrapNat (show i < 4611686018427387904 by omega)]
    simp only [convKind] at h4
    rw [h4]
    exact h
  · refine evSucc ?_
    simp only [laws_toKindS.l0, Int.lt_irrefl, if_false]
    simp only [show l.length = (l.map convKind).length by rw [List.length_map], List.take_length, Nat.sub_self, List.replicate_zero, List.append_nil]
    exact Ev.now _
theorem szKindS_big (l : List S36) (h : 1048576 < l.length) (hm : l.length * 24 ≤ 140737488351232) : laws_szKindS.f l 1048576 = some (-1) := by
  unfold laws_szKindS.f
  rw [wrapIn (by omega) (by omega), if_pos (by omega)]
theorem szKindS_ok (l : List S36) (h : l.length ≤ 1048576) : laws_szKindS.f l 1048576 = some (1048576 - (l.length : Int)) := by
  unfold laws_szKindS.f
  rw [wrapIn (by omega) (by omega), if_neg (by omega)]
theorem szKindS_bigM (l : List S36) (m : Int) (m0 : 0 ≤ m) (m1 : m ≤ 1048576) (h : m < l.length) (hm : l.length * 24 ≤ 140737488351232) : laws_szKindS.f l m = some (-1) := by
  unfold laws_szKindS.f
  rw [wrapIn (by omega) (by omega), if_pos (by omega)]
theorem szKindS_okM (l : List S36) (m : Int) (m0 : 0 ≤ m) (m1 : m ≤ 1048576) (h : (l.length : Int) ≤ m) : laws_szKindS.f l m = some (m - (l.length : Int)) := by
  unfold laws_szKindS.f
  rw [wrapIn (by omega) (by omega), if_neg (by omega)]

theorem eqKindS (l : List S34) (h : l.length ≤ 1048576) : Ev (fun k => laws_eqKindS.f k l l) true := by
  unfold laws_eqKindS.f
  simp only [if_true]
  have he : ∀ x : S34, laws_eqKind.f x.f0 x.f1 x.f2 x.f0 x.f1 x.f2 = some true := by intro x; simp [laws_eqKind.f]
  have := evAll (fun k i => laws_eqKindS.l0 k l l i) 0 l.length (fun _ => True) ?_ (fun i _ hi hn => absurd trivial hn) true ?_ (Nat.zero_le _)
  · simpa [B_true] using this
  · intro i _ hi _ r h
    refine evSucc ?_
    have h1 : (i : Int) < (l.length : Int) := by omega
    have h2 : (0 : Int) ≤ (i : Int) := by omega
    simp only [laws_eqKindS.l0, h1, h2, if_true, he, Option.bind_some, wrapNat (show i < 4611686018427387904 by omega)]
    exact h
  · refine evSucc ?_
    simp only [laws_eqKindS.l0, Int.lt_irrefl, if_false]
    exact Ev.now _

namespace PlanV
structure K where
  w : Int
  h : Int
  v : Int
/-- The greatest value of one piece. -/
def one (ks : List K) (w h : Int) : Int := ks.foldl (fun b k => if k.w ≤ w ∧ k.h ≤ h then max b k.v else b) 0
def cutX (g : Nat → Nat → Int) (w h n : Nat) (b : Int) : Int := (List.range n).foldl (fun b i => max b (g (i + 1) h + g (w - (i + 1)) h)) b
def cutY (g : Nat → Nat → Int) (w h n : Nat) (b : Int) : Int := (List.range n).foldl (fun b i => max b (g w (i + 1) + g w (h - (i + 1)))) b
def val (ks : List K) : Nat → Nat → Nat → Int
  | 0, _, _ => 0
  | f + 1, w, h => cutY (val ks f) w h (h - 1) (cutX (val ks f) w h (w - 1) (one ks w h))
/-- The best value of a sheet. -/
def V (ks : List K) (w h : Nat) : Int := val ks (w + h) w h
theorem foldl_congr_mem {α β : Type} {f g : α → β → α} : ∀ (l : List β) (a : α), (∀ x ∈ l, ∀ a, f a x = g a x) → l.foldl f a = l.foldl g a
  | [], _, _ => rfl
  | x :: l, a, h => by
    simp only [List.foldl_cons, h x (by simp)]
    exact foldl_congr_mem l _ (fun y hy => h y (by simp [hy]))
theorem cutX_congr {g g' : Nat → Nat → Int} {w h n : Nat} {b : Int} (hg : ∀ i < n, g (i + 1) h = g' (i + 1) h ∧ g (w - (i + 1)) h = g' (w - (i + 1)) h) : cutX g w h n b = cutX g' w h n b := by
  unfold cutX
  refine foldl_congr_mem _ _ (fun x hx a => ?_)
  have := hg x (by simpa using hx)
  rw [this.1, this.2]
theorem cutY_congr {g g' : Nat → Nat → Int} {w h n : Nat} {b : Int} (hg : ∀ i < n, g w (i + 1) = g' w (i + 1) ∧ g w (h - (i + 1)) = g' w (h - (i + 1))) : cutY g w h n b = cutY g' w h n b := by
  unfold cutY
  refine foldl_congr_mem _ _ (fun x hx a => ?_)
  have := hg x (by simpa using hx)
  rw [this.1, this.2]
theorem val_same (ks : List K) : ∀ n f f' w h : Nat, w + h ≤ n → n ≤ f → n ≤ f' → 1 ≤ w → 1 ≤ h → val ks f w h = val ks f' w h := by
  intro n
  induction n with
  | zero => intro f f' w h; omega
  | succ n ih =>
    intro f f' w h hn hf hf' hw hh
    obtain ⟨f, rfl⟩ : ∃ m, f = m + 1 := ⟨f - 1, by omega⟩
    obtain ⟨f', rfl⟩ : ∃ m, f' = m + 1 := ⟨f' - 1, by omega⟩
    unfold val
    rw [cutX_congr (g' := val ks f') (fun i hi => ⟨ih f f' _ _ (by omega) (by omega) (by omega) (by omega) (by omega), ih f f' _ _ (by omega) (by omega) (by omega) (by omega) (by omega)⟩),
        cutY_congr (g' := val ks f') (fun i hi => ⟨ih f f' _ _ (by omega) (by omega) (by omega) (by omega) (by omega), ih f f' _ _ (by omega) (by omega) (by omega) (by omega) (by omega)⟩)]
theorem V_eq (ks : List K) {w h : Nat} (hw : 1 ≤ w) (hh : 1 ≤ h) : V ks w h = cutY (V ks) w h (h - 1) (cutX (V ks) w h (w - 1) (one ks w h)) := by
  obtain ⟨m, hm⟩ : ∃ m, w + h = m + 1 := ⟨w + h - 1, by omega⟩
  have e : V ks w h = cutY (val ks m) w h (h - 1) (cutX (val ks m) w h (w - 1) (one ks w h)) := by unfold V; rw [hm]; rfl
  rw [e, cutX_congr (g' := V ks) (fun i hi => ⟨val_same ks _ _ _ _ _ (Nat.le_refl _) (by omega) (Nat.le_refl _) (by omega) (by omega), val_same ks _ _ _ _ _ (Nat.le_refl _) (by omega) (Nat.le_refl _) (by omega) (by omega)⟩),
    cutY_congr (g' := V ks) (fun i hi => ⟨val_same ks _ _ _ _ _ (Nat.le_refl _) (by omega) (Nat.le_refl _) (by omega) (by omega), val_same ks _ _ _ _ _ (Nat.le_refl _) (by omega) (Nat.le_refl _) (by omega) (by omega)⟩)]
/-! what a greatest of several numbers is -/
theorem fold_ge {β : Type} (g : β → Int) : ∀ (l : List β) (b : Int), b ≤ l.foldl (fun b x => max b (g x)) b ∧ ∀ x ∈ l, g x ≤ l.foldl (fun b x => max b (g x)) b
  | [], b => ⟨Int.le_refl _, fun x hx => by cases hx⟩
  | y :: l, b => by
    have h := fold_ge g l (max b (g y))
    simp only [List.foldl_cons]
    refine ⟨by omega, fun x hx => ?_⟩
    rcases List.mem_cons.1 hx with rfl | hx
    · have := h.1; omega
    · exact h.2 x hx
theorem fold_is {β : Type} (g : β → Int) : ∀ (l : List β) (b : Int), l.foldl (fun b x => max b (g x)) b = b ∨ ∃ x ∈ l, l.foldl (fun b x => max b (g x)) b = g x
  | [], b => .inl rfl
  | y :: l, b => by
    simp only [List.foldl_cons]
    rcases fold_is g l (max b (g y)) with h | ⟨x, hx, h⟩
    · by_cases c : b ≤ g y
      · exact .inr ⟨y, by simp, by rw [h]; omega⟩
      · exact .inl (by rw [h]; omega)
    · exact .inr ⟨x, by simp [hx], h⟩
theorem one_ge (ks : List K) (w h : Int) : 0 ≤ one ks w h ∧ ∀ k ∈ ks, k.w ≤ w → k.h ≤ h → k.v ≤ one ks w h := by
  unfold one
  suffices H : ∀ (l : List K) (b : Int), b ≤ l.foldl (fun b k => if k.w ≤ w ∧ k.h ≤ h then max b k.v else b) b ∧ ∀ k ∈ l, k.w ≤ w → k.h ≤ h → k.v ≤ l.foldl (fun b k => if k.w ≤ w ∧ k.h ≤ h then max b k.v else b) b from H ks 0
  intro l
  induction l with
  | nil => intro b; exact ⟨Int.le_refl _, fun k hk => by cases hk⟩
  | cons y l ih =>
    intro b
    simp only [List.foldl_cons]
    by_cases c : y.w ≤ w ∧ y.h ≤ h
    · rw [if_pos c]
      have := ih (max b y.v)
      refine ⟨by omega, fun k hk h1 h2 => ?_⟩
      rcases List.mem_cons.1 hk with rfl | hk
      · omega
      · exact this.2 k hk h1 h2
    · rw [if_neg c]
      have := ih b
      refine ⟨this.1, fun k hk h1 h2 => ?_⟩
      rcases List.mem_cons.1 hk with rfl | hk
      · exact absurd ⟨h1, h2⟩ c
      · exact this.2 k hk h1 h2
theorem one_is (ks : List K) (w h : Int) : one ks w h = 0 ∨ ∃ k ∈ ks, k.w ≤ w ∧ k.h ≤ h ∧ one ks w h = k.v := by
  unfold one
  suffices H : ∀ (l : List K) (b : Int), l.foldl (fun b k => if k.w ≤ w ∧ k.h ≤ h then max b k.v else b) b = b ∨ ∃ k ∈ l, k.w ≤ w ∧ k.h ≤ h ∧ l.foldl (fun b k => if k.w ≤ w ∧ k.h ≤ h then max b k.v else b) b = k.v from H ks 0
  intro l
  induction l with
  | nil => intro b; exact .inl rfl
  | cons y l ih =>
    intro b
    simp only [List.foldl_cons]
    by_cases c : y.w ≤ w ∧ y.h ≤ h
    · rw [if_pos c]
      rcases ih (max b y.v) with e | ⟨k, hk, h1, h2, e⟩
      · by_cases c2 : b ≤ y.v
        · exact .inr ⟨y, by simp, c.1, c.2, by rw [e]; omega⟩
        · exact .inl (by rw [e]; omega)
      · exact .inr ⟨k, by simp [hk], h1, h2, e⟩
    · rw [if_neg c]
      rcases ih b with e | ⟨k, hk, h1, h2, e⟩
      · exact .inl e
      · exact .inr ⟨k, by simp [hk], h1, h2, e⟩
theorem V_ge (ks : List K) {w h : Nat} (hw : 1 ≤ w) (hh : 1 ≤ h) : one ks w h ≤ V ks w h ∧ (∀ x, 1 ≤ x → x < w → V ks x h + V ks (w - x) h ≤ V ks w h) ∧ ∀ y, 1 ≤ y → y < h → V ks w y + V ks w (h - y) ≤ V ks w h := by
  have e := V_eq ks hw hh
  have h1 := fold_ge (fun i => V ks (i + 1) h + V ks (w - (i + 1)) h) (List.range (w - 1)) (one ks w h)
  have h2 := fold_ge (fun i => V ks w (i + 1) + V ks w (h - (i + 1))) (List.range (h - 1)) (cutX (V ks) w h (w - 1) (one ks w h))
  have e1 : cutX (V ks) w h (w - 1) (one ks w h) = (List.range (w - 1)).foldl (fun b i => max b (V ks (i + 1) h + V ks (w - (i + 1)) h)) (one ks w h) := rfl
  have e2 : cutY (V ks) w h (h - 1) (cutX (V ks) w h (w - 1) (one ks w h)) = (List.range (h - 1)).foldl (fun b i => max b (V ks w (i + 1) + V ks w (h - (i + 1)))) (cutX (V ks) w h (w - 1) (one ks w h)) := rfl
  rw [← e2, ← e] at h2
  rw [← e1] at h1
  refine ⟨by omega, fun x hx hxw => ?_, fun y hy hyh => ?_⟩
  · have := h1.2 (x - 1) (by simp; omega)
    rw [show x - 1 + 1 = x by omega] at this
    omega
  · have := h2.2 (y - 1) (by simp; omega)
    rw [show y - 1 + 1 = y by omega] at this
    omega
theorem V_is (ks : List K) {w h : Nat} (hw : 1 ≤ w) (hh : 1 ≤ h) : V ks w h = 0 ∨ (∃ k ∈ ks, k.w ≤ w ∧ k.h ≤ h ∧ V ks w h = k.v) ∨ (∃ x, 1 ≤ x ∧ x < w ∧ V ks w h = V ks x h + V ks (w - x) h) ∨ ∃ y, 1 ≤ y ∧ y < h ∧ V ks w h = V ks w y + V ks w (h - y) := by
  have e := V_eq ks hw hh
  rcases fold_is (fun i => V ks w (i + 1) + V ks w (h - (i + 1))) (List.range (h - 1)) (cutX (V ks) w h (w - 1) (one ks w h)) with h2 | ⟨i, hi, h2⟩
  · have e2 : V ks w h = cutX (V ks) w h (w - 1) (one ks w h) := e.trans h2
    rcases fold_is (fun i => V ks (i + 1) h + V ks (w - (i + 1)) h) (List.range (w - 1)) (one ks w h) with h1 | ⟨i, hi, h1⟩
    · have e3 : V ks w h = one ks w h := e2.trans h1
      rcases one_is ks w h with h0 | ⟨k, hk, a, b, h0⟩
      · exact .inl (e3.trans h0)
      · exact .inr (.inl ⟨k, hk, a, b, e3.trans h0⟩)
    · exact .inr (.inr (.inl ⟨i + 1, by omega, by simp at hi; omega, e2.trans h1⟩))
  · exact .inr (.inr (.inr ⟨i + 1, by omega, by simp at hi; omega, e.trans h2⟩))
theorem V_nonneg (ks : List K) {w h : Nat} (hw : 1 ≤ w) (hh : 1 ≤ h) : 0 ≤ V ks w h := Int.le_trans (one_ge ks w h).1 (V_ge ks hw hh).1
/-- No sheet has more value than a thousand for each unit of its area. -/
theorem V_le (ks : List K) (hk : ∀ k ∈ ks, 1 ≤ k.w ∧ 1 ≤ k.h ∧ k.v ≤ 1000) : ∀ n w h : Nat, w + h ≤ n → 1 ≤ w → 1 ≤ h → V ks w h ≤ 1000 * ((w : Int) * (h : Int)) := by
  intro n
  induction n with
  | zero => intro w h; omega
  | succ n ih =>
    intro w h hn hw hh
    have hwh : (1 : Int) ≤ (w : Int) * (h : Int) := by
      have : (1 : Int) * 1 ≤ (w : Int) * (h : Int) := Int.mul_le_mul (by omega) (by omega) (by omega) (by omega)
      omega
    rcases V_is ks hw hh with e | ⟨k, hk', _, _, e⟩ | ⟨x, hx, hxw, e⟩ | ⟨y, hy, hyh, e⟩
    · omega
    · have := (hk k hk').2.2; omega
    · have h1 := ih x h (by omega) hx hh
      have h2 := ih (w - x) h (by omega) (by omega) hh
      have e1 : ((w - x : Nat) : Int) = (w : Int) - (x : Int) := by omega
      rw [e1, Int.sub_mul] at h2
      omega
    · have h1 := ih w y (by omega) hw hy
      have h2 := ih w (h - y) (by omega) hw (by omega)
      have e1 : ((h - y : Nat) : Int) = (h : Int) - (y : Int) := by omega
      rw [e1, Int.mul_sub] at h2
      omega
/-- No sheet has more value than its densest kind allows. -/
theorem V_dense (ks : List K) (a v : Int) (_ha : 0 < a) (hv : 0 ≤ v) (hk : ∀ k ∈ ks, 1 ≤ k.w ∧ 1 ≤ k.h ∧ k.v * a ≤ v * (k.w * k.h)) : ∀ n w h : Nat, w + h ≤ n → 1 ≤ w → 1 ≤ h → V ks w h * a ≤ v * ((w : Int) * (h : Int)) := by
  intro n
  induction n with
  | zero => intro w h; omega
  | succ n ih =>
    intro w h hn hw hh
    have hwh : (0 : Int) ≤ (w : Int) * (h : Int) := Int.mul_nonneg (by omega) (by omega)
    rcases V_is ks hw hh with e | ⟨k, hk', hkw, hkh, e⟩ | ⟨x, hx, hxw, e⟩ | ⟨y, hy, hyh, e⟩
    · rw [e, Int.zero_mul]; exact Int.mul_nonneg hv hwh
    · have hh1 := hk k hk'
      rw [e]
      refine Int.le_trans hh1.2.2 (Int.mul_le_mul_of_nonneg_left ?_ hv)
      exact Int.mul_le_mul hkw hkh (by omega) (by omega)
    · have h1 := ih x h (by omega) hx hh
      have h2 := ih (w - x) h (by omega) (by omega) hh
      have e1 : ((w - x : Nat) : Int) = (w : Int) - (x : Int) := by omega
      rw [e1, Int.sub_mul, Int.mul_sub] at h2
      rw [e, Int.add_mul]
      omega
    · have h1 := ih w y (by omega) hw hy
      have h2 := ih w (h - y) (by omega) hw (by omega)
      have e1 : ((h - y : Nat) : Int) = (h : Int) - (y : Int) := by omega
      rw [e1, Int.mul_sub, Int.mul_sub] at h2
      rw [e, Int.add_mul]
      omega
theorem V_mono_w (ks : List K) {w w' h : Nat} (hw : 1 ≤ w) (hh : 1 ≤ h) (hl : w ≤ w') : V ks w h ≤ V ks w' h := by
  rcases Nat.lt_or_ge w w' with c | c
  · have := (V_ge ks (show 1 ≤ w' by omega) hh).2.1 w hw c
    have := V_nonneg ks (show 1 ≤ w' - w by omega) hh
    omega
  · rw [show w = w' by omega]; exact Int.le_refl _
theorem V_mono_h (ks : List K) {w h h' : Nat} (hw : 1 ≤ w) (hh : 1 ≤ h) (hl : h ≤ h') : V ks w h ≤ V ks w h' := by
  rcases Nat.lt_or_ge h h' with c | c
  · have := (V_ge ks hw (show 1 ≤ h' by omega)).2.2 h hh c
    have := V_nonneg ks hw (show 1 ≤ h' - h by omega)
    omega
  · rw [show h = h' by omega]; exact Int.le_refl _
theorem V_row (ks : List K) (k : K) (hk : k ∈ ks) (kw kh : Nat) (e1 : k.w = kw) (e2 : k.h = kh) (h1 : 1 ≤ kw) (h2 : 1 ≤ kh) : ∀ b : Nat, 1 ≤ b → k.v * (b : Int) ≤ V ks kw (b * kh) := by
  intro b
  induction b with
  | zero => omega
  | succ b ih =>
    intro _
    have hk1 : k.v ≤ V ks kw kh := Int.le_trans ((one_ge ks kw kh).2 k hk (by omega) (by omega)) (V_ge ks h1 h2).1
    rcases Nat.eq_zero_or_pos b with rfl | hb
    · simpa using hk1
    · have := ih hb
      have hb1 : 1 * 1 ≤ b * kh := Nat.mul_le_mul hb h2
      have hpos : 1 ≤ (b + 1) * kh := by rw [Nat.succ_mul]; omega
      have hc := (V_ge ks h1 hpos).2.2 (b * kh) (by omega) (by rw [Nat.succ_mul]; omega)
      rw [show (b + 1) * kh - b * kh = kh by rw [Nat.succ_mul]; omega] at hc
      have : k.v * ((b + 1 : Nat) : Int) = k.v * (b : Int) + k.v := by rw [Int.natCast_add, Int.mul_add]; simp
      omega
theorem V_grid (ks : List K) (k : K) (hk : k ∈ ks) (kw kh : Nat) (e1 : k.w = kw) (e2 : k.h = kh) (h1 : 1 ≤ kw) (h2 : 1 ≤ kh) (b : Nat) (hb : 1 ≤ b) : ∀ a : Nat, 1 ≤ a → k.v * (b : Int) * (a : Int) ≤ V ks (a * kw) (b * kh) := by
  intro a
  induction a with
  | zero => omega
  | succ a ih =>
    intro _
    have hr := V_row ks k hk kw kh e1 e2 h1 h2 b hb
    have hb1 : 1 * 1 ≤ b * kh := Nat.mul_le_mul hb h2
    rcases Nat.eq_zero_or_pos a with rfl | ha
    · simpa using hr
    · have := ih ha
      have ha1 : 1 * 1 ≤ a * kw := Nat.mul_le_mul ha h1
      have hpos : 1 ≤ (a + 1) * kw := by rw [Nat.succ_mul]; omega
      have hc := (V_ge ks hpos (show 1 ≤ b * kh by omega)).2.1 (a * kw) (by omega) (by rw [Nat.succ_mul]; omega)
      rw [show (a + 1) * kw - a * kw = kw by rw [Nat.succ_mul]; omega] at hc
      have : k.v * (b : Int) * ((a + 1 : Nat) : Int) = k.v * (b : Int) * (a : Int) + k.v * (b : Int) := by rw [Int.natCast_add, Int.mul_add]; simp
      omega
end PlanV

namespace TabV
open PlanV
def toK (k : S34) : K := ⟨k.f0, k.f1, k.f2⟩
theorem kd_one (l : List S34) (w h : Int) : l12Kd l w h l.length = one (l.map toK) w h := by
  unfold l12Kd one
  rw [List.take_length, List.foldl_map]
  congr 1
  funext b k
  by_cases c : k.f0 ≤ w
  · by_cases d : k.f1 ≤ h
    · simp [toK, c, d]
    · simp [toK, c, d]
  · simp [toK, c]
/-- What is asked of the kinds. -/
def Ok (l : List S34) : Prop := ∀ k ∈ l.map toK, 1 ≤ k.w ∧ 1 ≤ k.h ∧ k.v ≤ 1000
theorem V_in {l : List S34} (hk : Ok l) {w h : Nat} (hw : 1 ≤ w) (hh : 1 ≤ h) (hw4 : w ≤ 40) (hh4 : h ≤ 40) : 0 ≤ V (l.map toK) w h ∧ V (l.map toK) w h ≤ 1600000 := by
  refine ⟨V_nonneg _ hw hh, ?_⟩
  have h1 := V_le (l.map toK) hk (w + h) w h (Nat.le_refl _) hw hh
  have h2 : (w : Int) * (h : Int) ≤ 40 * 40 := Int.mul_le_mul (by omega) (by omega) (by omega) (by omega)
  omega
theorem wrap_id {a b : Int} (ha : 0 ≤ a ∧ a ≤ 1600000) (hb : 0 ≤ b ∧ b ≤ 1600000) : wrap64 (a + b) = a + b := by unfold wrap64; omega
theorem cx_eq {l : List S34} (hk : Ok l) {t : List Int} {w h : Nat} (hw : w ≤ 40) (hh1 : 1 ≤ h) (hh : h ≤ 40) (ht : ∀ x, 1 ≤ x → x < w → rd t ((x * 41 + h : Nat) : Int) = V (l.map toK) x h) (b : Int) : ∀ n, n < w → impl_valuesOf.cx t w h b n = cutX (V (l.map toK)) w h n b
  | 0, _ => rfl
  | n + 1, hn => by
    rw [impl_valuesOf.cx, cx_eq hk hw hh1 hh ht b n (by omega), ht (n + 1) (by omega) hn, ht (w - (n + 1)) (by omega) (by omega), wrap_id (V_in hk (by omega) hh1 (by omega) hh) (V_in hk (by omega) hh1 (by omega) hh)]
    unfold cutX
    rw [List.range_succ, List.foldl_append]
    rfl
theorem cy_eq {l : List S34} (hk : Ok l) {t : List Int} {w h : Nat} (hw1 : 1 ≤ w) (hw : w ≤ 40) (hh : h ≤ 40) (ht : ∀ y, 1 ≤ y → y < h → rd t ((w * 41 + y : Nat) : Int) = V (l.map toK) w y) (b : Int) : ∀ n, n < h → impl_valuesOf.cy t w h b n = cutY (V (l.map toK)) w h n b
  | 0, _ => rfl
  | n + 1, hn => by
    rw [impl_valuesOf.cy, cy_eq hk hw1 hw hh ht b n (by omega), ht (n + 1) (by omega) hn, ht (h - (n + 1)) (by omega) (by omega), wrap_id (V_in hk hw1 (by omega) hw (by omega)) (V_in hk hw1 (by omega) hw (by omega))]
    unfold cutY
    rw [List.range_succ, List.foldl_append]
    rfl
theorem best_eq {l : List S34} (hk : Ok l) {t : List Int} {w h : Nat} (hw1 : 1 ≤ w) (hw : w ≤ 40) (hh1 : 1 ≤ h) (hh : h ≤ 40) (hx : ∀ x, 1 ≤ x → x < w → rd t ((x * 41 + h : Nat) : Int) = V (l.map toK) x h) (hy : ∀ y, 1 ≤ y → y < h → rd t ((w * 41 + y : Nat) : Int) = V (l.map toK) w y) : impl_valuesOf.best t l w h = V (l.map toK) w h := by
  unfold impl_valuesOf.best
  rw [cy_eq hk hw1 hw hh hy _ _ (by omega), cx_eq hk hw hh1 hh hx _ _ (by omega), kd_one]
  exact (V_eq _ hw1 hh1).symm
theorem rd_set (t : List Int) (i k : Nat) (v : Int) (hi : i < t.length) : rd (t.set i v) (k : Int) = if k = i then v else rd t (k : Int) := by
  unfold rd
  simp only [List.getD_eq_getElem?_getD, Int.toNat_natCast]
  by_cases c : k = i
  · subst c; rw [if_pos rfl, List.getElem?_set_self hi]; rfl
  · rw [if_neg c, List.getElem?_set_ne (Ne.symm c)]
def Row (l : List S34) (H n j : Nat) (t : List Int) : Prop := t.length = 1681 ∧ ∀ w h : Nat, w ≤ 40 → h ≤ 40 → rd t ((w * 41 + h : Nat) : Int) = if (1 ≤ w ∧ w ≤ n ∧ 1 ≤ h ∧ h ≤ H) ∨ (w = n + 1 ∧ 1 ≤ h ∧ h ≤ j) then V (l.map toK) w h else 0
theorem row_good {l : List S34} (hk : Ok l) {H n : Nat} {t : List Int} (hn : n < 40) (hH : H ≤ 40) (h : Row l H n 0 t) : ∀ j, j ≤ H → Row l H n j (impl_valuesOf.row t l (n + 1) j)
  | 0, _ => h
  | j + 1, hj => by
    have ih := row_good hk hn hH h j (by omega)
    rw [impl_valuesOf.row]
    generalize impl_valuesOf.row t l (n + 1) j = u at ih
    have hb : impl_valuesOf.best u l (n + 1) (j + 1) = V (l.map toK) (n + 1) (j + 1) := best_eq hk (by omega) (by omega) (by omega) (by omega)
      (fun x h1 h2 => by rw [ih.2 x (j + 1) (by omega) (by omega), if_pos (.inl (by omega))])
      (fun y h1 h2 => by rw [ih.2 (n + 1) y (by omega) (by omega), if_pos (.inr (by omega))])
    refine ⟨by rw [List.length_set]; exact ih.1, fun w h hw hh => ?_⟩
    rw [rd_set _ _ _ _ (by rw [ih.1]; omega), hb, ih.2 w h hw hh]
    by_cases c : w * 41 + h = (n + 1) * 41 + (j + 1)
    · have e1 : w = n + 1 := by omega
      have e2 : h = j + 1 := by omega
      subst e1; subst e2
      rw [if_pos rfl, if_pos (.inr (by omega))]
    · rw [if_neg c]
      by_cases d : (1 ≤ w ∧ w ≤ n ∧ 1 ≤ h ∧ h ≤ H) ∨ (w = n + 1 ∧ 1 ≤ h ∧ h ≤ j)
      · rw [if_pos d, if_pos (by omega)]
      · rw [if_neg d, if_neg (by omega)]
theorem tab_good {l : List S34} (hk : Ok l) {H : Nat} (hH : H ≤ 40) : ∀ n, n ≤ 40 → Row l H n 0 (impl_valuesOf.tab l H n)
  | 0, _ => ⟨List.length_replicate, fun w h hw hh => by
    rw [if_neg (by omega)]
    unfold rd impl_valuesOf.tab
    rw [List.getD_eq_getElem?_getD, List.getElem?_replicate]
    split <;> rfl⟩
  | n + 1, hn => by
    have h := row_good hk (by omega) hH (tab_good hk hH n (by omega)) H (Nat.le_refl _)
    refine ⟨h.1, fun w h' hw hh => ?_⟩
    have e := h.2 w h' hw hh
    rw [impl_valuesOf.tab, e]
    by_cases d : (1 ≤ w ∧ w ≤ n ∧ 1 ≤ h' ∧ h' ≤ H) ∨ (w = n + 1 ∧ 1 ≤ h' ∧ h' ≤ H)
    · rw [if_pos d, if_pos (by omega)]
    · rw [if_neg d, if_neg (by omega)]
/-- The program's table, at a sheet's sides. -/
theorem tab_at {l : List S34} (hk : Ok l) {H n : Nat} (hH : H ≤ 40) (hn : n ≤ 40) {w h : Nat} (hw : w ≤ n) (hh : h ≤ H) : rd (impl_valuesOf.tab l H n) ((w * 41 + h : Nat) : Int) = if 1 ≤ w ∧ 1 ≤ h then V (l.map toK) w h else 0 := by
  rw [(tab_good hk hH n hn).2 w h (by omega) (by omega)]
  by_cases d : 1 ≤ w ∧ 1 ≤ h
  · rw [if_pos d, if_pos (by omega)]
  · rw [if_neg d, if_neg (by omega)]
/-! the reference's table -/
theorem scx_eq {l : List S34} (hk : Ok l) {o : List (List Int)} {w h : Nat} (hw : w ≤ 40) (hh1 : 1 ≤ h) (hh : h ≤ 40) (ht : ∀ x, 1 ≤ x → x < w → rd (spec_l12Table.rr o x) (h : Int) = V (l.map toK) x h) (b : Int) : ∀ n, n < w → spec_l12Table.cx o w h b n = cutX (V (l.map toK)) w h n b
  | 0, _ => rfl
  | n + 1, hn => by
    rw [spec_l12Table.cx, scx_eq hk hw hh1 hh ht b n (by omega), ht (n + 1) (by omega) hn, ht (w - (n + 1)) (by omega) (by omega), wrap_id (V_in hk (by omega) hh1 (by omega) hh) (V_in hk (by omega) hh1 (by omega) hh)]
    unfold cutX
    rw [List.range_succ, List.foldl_append]
    rfl
theorem scy_eq {l : List S34} (hk : Ok l) {r : List Int} {w h : Nat} (hw1 : 1 ≤ w) (hw : w ≤ 40) (hh : h ≤ 40) (ht : ∀ y : Nat, 1 ≤ y → y < h → rd r (y : Int) = V (l.map toK) w y) (b : Int) : ∀ n, n < h → spec_l12Table.cy r h b n = cutY (V (l.map toK)) w h n b
  | 0, _ => rfl
  | n + 1, hn => by
    rw [spec_l12Table.cy, scy_eq hk hw1 hw hh ht b n (by omega), ht (n + 1) (by omega) hn, ht (h - (n + 1)) (by omega) (by omega), wrap_id (V_in hk hw1 (by omega) hw (by omega)) (V_in hk hw1 (by omega) hw (by omega))]
    unfold cutY
    rw [List.range_succ, List.foldl_append]
    rfl
theorem sbest_eq {l : List S34} (hk : Ok l) {o : List (List Int)} {r : List Int} {w h : Nat} (hw1 : 1 ≤ w) (hw : w ≤ 40) (hh1 : 1 ≤ h) (hh : h ≤ 40) (hx : ∀ x, 1 ≤ x → x < w → rd (spec_l12Table.rr o x) (h : Int) = V (l.map toK) x h) (hy : ∀ y : Nat, 1 ≤ y → y < h → rd r (y : Int) = V (l.map toK) w y) : spec_l12Table.best o r l w h = V (l.map toK) w h := by
  unfold spec_l12Table.best
  rw [scy_eq hk hw1 hw hh hy _ _ (by omega), scx_eq hk hw hh1 hh hx _ _ (by omega), kd_one]
  exact (V_eq _ hw1 hh1).symm
theorem rd_snoc (r : List Int) (b : Int) (h : Nat) (hh : h ≤ r.length) : rd (r ++ [b]) (h : Int) = if h = r.length then b else rd r (h : Int) := by
  unfold rd
  simp only [List.getD_eq_getElem?_getD, Int.toNat_natCast]
  by_cases c : h = r.length
  · rw [if_pos c, List.getElem?_append_right (by omega), c, Nat.sub_self]; rfl
  · rw [if_neg c, List.getElem?_append_left (by omega)]
theorem srow_good {l : List S34} (hk : Ok l) {H n : Nat} {o : List (List Int)} (hn : n < 40) (hH : H ≤ 40) (ho : ∀ w h : Nat, w ≤ n → h ≤ H → rd (spec_l12Table.rr o w) (h : Int) = if 1 ≤ w ∧ 1 ≤ h then V (l.map toK) w h else 0) : ∀ j, j ≤ H → ∀ h : Nat, h ≤ j → rd (spec_l12Table.row o l (n + 1) j) (h : Int) = if 1 ≤ h then V (l.map toK) (n + 1) h else 0
  | 0, _, h, hh => by
    have : h = 0 := by omega
    subst this
    rfl
  | j + 1, hj, h, hh => by
    have ih := srow_good hk hn hH ho j (by omega)
    have hlen := spec_l12Table.row_len o l (n + 1) j
    rw [spec_l12Table.row, rd_snoc _ _ _ (by omega), hlen]
    by_cases c : h = j + 1
    · subst c
      rw [if_pos rfl, if_pos (by omega)]
      exact sbest_eq hk (by omega) (by omega) (by omega) (by omega) (fun x h1 h2 => by rw [ho x (j + 1) (by omega) (by omega), if_pos (by omega)]) (fun y h1 h2 => by rw [ih y (by omega), if_pos (by omega)])
    · rw [if_neg c]
      exact ih h (by omega)
/-- The reference's table, at a sheet's sides. -/
theorem stab_at {l : List S34} (hk : Ok l) {H : Nat} (hH : H ≤ 40) : ∀ n, n ≤ 40 → ∀ w h : Nat, w ≤ n → h ≤ H → rd (spec_l12Table.rr (spec_l12Table.tab l H n) w) (h : Int) = if 1 ≤ w ∧ 1 ≤ h then V (l.map toK) w h else 0
  | 0, _, w, h, hw, hh => by
    have : w = 0 := by omega
    subst this
    rw [if_neg (by omega)]
    show rd (List.replicate (H + 1) 0) (h : Int) = 0
    unfold rd
    rw [List.getD_eq_getElem?_getD, List.getElem?_replicate]
    split <;> rfl
  | n + 1, hn, w, h, hw, hh => by
    have ih := stab_at hk hH n (by omega)
    have hlen := spec_l12Table.tab_len l H n
    rw [spec_l12Table.tab]
    by_cases c : w ≤ n
    · rw [spec_l12Table.rr_left _ _ _ (by omega)]
      exact ih w h c hh
    · have e : w = n + 1 := by omega
      subst e
      have e : spec_l12Table.rr (spec_l12Table.tab l H n ++ [spec_l12Table.row (spec_l12Table.tab l H n) l (n + 1) H]) (n + 1) = spec_l12Table.row (spec_l12Table.tab l H n) l (n + 1) H := by
        unfold spec_l12Table.rr
        rw [List.getD_eq_getElem?_getD, List.getElem?_append_right (by omega), hlen, Nat.sub_self]
        rfl
      rw [e, srow_good hk (by omega) hH ih H (Nat.le_refl _) h hh]
      by_cases d : 1 ≤ h
      · rw [if_pos d, if_pos (by omega)]
      · rw [if_neg d, if_neg (by omega)]
theorem ok_of_cat {l : List S34} (h : catB l = true) : Ok l := by
  intro k hk
  obtain ⟨x, hx, rfl⟩ := List.mem_map.1 hk
  simp only [catB, Bool.and_eq_true, List.all_eq_true] at h
  have := (good_iff _).1 (h.2 x hx)
  simp only [sheetB, Bool.and_eq_true, decide_eq_true_eq] at this
  exact ⟨this.1.1.1, this.1.2.1, this.2.2⟩
theorem tableV_zero {w h : Int} {l : List S34} (ht : tableV w h l = 0) : catB l = true ∧ ∃ W H : Nat, w = (W : Int) ∧ h = (H : Int) ∧ 1 ≤ W ∧ W ≤ 40 ∧ 1 ≤ H ∧ H ≤ 40 := by
  have hc : catB l = true := Classical.byContradiction fun hc => by
    unfold tableV at ht
    rw [if_neg hc] at ht
    exact absurd ht (by decide)
  have hs : sheetB w h = true := Classical.byContradiction fun hs => by
    unfold tableV at ht
    rw [if_pos hc, if_neg hs] at ht
    exact absurd ht (by decide)
  simp only [sheetB, Bool.and_eq_true, decide_eq_true_eq] at hs
  exact ⟨hc, w.toNat, h.toNat, by omega, by omega, by omega, by omega, by omega, by omega⟩
theorem best_both (w h : Int) (l : List S34) (hl : l.length ≤ 1048576) : ∃ r, Ev (fun k => spec_BestValue.f k w h l) r ∧ impl_BestValue.f w h l = some r := by
  unfold spec_BestValue.f impl_BestValue.f
  simp only [tableI, Option.bind_some]
  by_cases ht : tableV w h l = 0
  · obtain ⟨hc, W, H, rfl, rfl, hW1, hW, hH1, hH⟩ := tableV_zero ht
    have hlen := (cat_len hc).2
    have hif : 0 ≤ (W : Int) ∧ (W : Int) ≤ 40 ∧ 0 ≤ (H : Int) ∧ (H : Int) ≤ 40 ∧ l.length ≤ 1000000 := by omega
    refine ⟨(V (l.map toK) W H, 0), Ev.bind (tableS _ _ l hl) ?_, ?_⟩
    · have hT := spec_l12Table.tab_len l H W
      have hR := spec_l12Table.tab_row l H W W (Nat.le_refl _)
      have hV := stab_at (ok_of_cat hc) hH W hW W H (Nat.le_refl _) (Nat.le_refl _)
      have e : rd_L3 (spec_l12Table.tab l H W) (W : Int) = spec_l12Table.rr (spec_l12Table.tab l H W) W := rfl
      unfold spec_l12Table.f
      rw [if_pos hif]
      simp only [ht, if_true, Option.bind_some, Int.toNat_natCast, e, hT, hR, show (0 : Int) ≤ (W : Int) by omega, show (0 : Int) ≤ (H : Int) by omega, show (W : Int) < ((W + 1 : Nat) : Int) by omega, show (H : Int) < ((H + 1 : Nat) : Int) by omega, hV, if_pos (show 1 ≤ W ∧ 1 ≤ H by omega)]
      exact Ev.now _
    · rw [if_pos ht, if_pos hif, Int.toNat_natCast, Int.toNat_natCast, tab_at (ok_of_cat hc) hH hW (Nat.le_refl _) (Nat.le_refl _), if_pos ⟨hW1, hH1⟩]
  · refine ⟨(0, tableV w h l), Ev.bind (tableS w h l hl) ?_, by rw [if_neg ht]⟩
    simp only [ht, if_false]
    exact Ev.now _
end TabV

theorem FnExactBestValue : laws_FnExactBestValue.Pure := by
  intro w h l _ _ _ hm _
  refine Ev.rounds ?_
  unfold laws_FnExactBestValue.f
  by_cases hl : l.length ≤ 1048576
  · have hl' : (l.map convKind).length ≤ 1048576 := by rw [List.length_map]; exact hl
    simp only [szKindS_ok l hl, Option.bind_some, show ¬ (1048576 - (l.length : Int) < 0) by omega, if_false]
    obtain ⟨r, h1, h2⟩ := TabV.best_both w h (l.map convKind) hl'
    refine Ev.bind (toKindS l hl) (Ev.bind h1 (Ev.bind (toKindS l hl) ?_))
    simp only [h2, Option.bind_some, bne_self_eq_false, if_true]
    refine evSucc ?_
    simp only [laws_FnExactBestValue.j0, Bool.false_eq_true, if_false]
    refine Ev.bind (toKindS l hl) (Ev.bind (eqKindS _ hl') ?_)
    simp only [if_true]
    exact Ev.now _
  · simp only [szKindS_big l (by omega) hm, Option.bind_some, show (-1 : Int) < 0 by decide, if_true]
    exact Ev.now _

end Go.Proofs.Ytomddpdfcdnaaaa.Pure
