/- The program and the reference find the same best plan of a sheet, for every two int64 and every list of kinds. -/
import Derived.Test.YtomddpdfcdnaaaaDoorSayFnExactBestPlan
namespace Go.Proofs.YtomddpdfcdnaaaaDoor.Pure
open Go.RowKit Go.Proofs.YtomddpdfcdnaaaaDoor.PFnExactBestPlan Go.Proofs.YtomddpdfcdnaaaaDoorW.PrintWords Go.Proofs.YtomddpdfcdnaaaaDoorW.PrintLast
set_option linter.unusedVariables false
set_option linter.unusedSimpArgs false
-- BEGIN
/-- A proposition as a bool. -/
noncomputable def B (p : Prop) : Bool := @decide p (Classical.propDecidable p)
theorem B_iff {p : Prop} : B p = true ↔ p := by unfold B; exact @decide_eq_true_iff p (Classical.propDecidable p)
theorem B_true {p : Prop} (h : p) : B p = true := B_iff.2 h
theorem B_false {p : Prop} (h : ¬ p) : B p = false := by cases e : B p with | false => rfl | true => exact absurd (B_iff.1 e) h
theorem B_congr {p q : Prop} (h : p ↔ q) : B p = B q := by rw [propext h]
theorem B_dec (p : Prop) [Decidable p] : B p = decide p := by by_cases h : p <;> simp [h, B_true, B_false]
theorem B_and (p q : Prop) : (B p && B q) = B (p ∧ q) := by
  by_cases hp : p <;> by_cases hq : q <;> simp [B_true, B_false, hp, hq]
theorem B_not (p : Prop) : (!B p) = B (¬ p) := by by_cases hp : p <;> simp [B_true, B_false, hp]
theorem evSucc {α : Type} {g : Nat → Option α} {r : α} (h : Ev (fun k => g (k + 1)) r) : Ev g r := Ev.step (fun _ => rfl) h
theorem evNow {α : Type} {g : Nat → Option α} {r : α} (h : ∀ k, g k = some r) : Ev g r := ⟨0, fun k _ => h k⟩
theorem evCount {σ α : Type} (F : Nat → σ → Int → Option α) (i0 n : Nat) (S : Nat → σ) (r : α)
    (hstep : ∀ i, i0 ≤ i → i < n → Ev (fun k => F k (S (i + 1)) ((i + 1 : Nat) : Int)) r → Ev (fun k => F k (S i) (i : Int)) r) (hend : Ev (fun k => F k (S n) (n : Int)) r) (hle : i0 ≤ n) : Ev (fun k => F k (S i0) (i0 : Int)) r := by
  have key : ∀ d i, i0 ≤ i → i + d = n → Ev (fun k => F k (S i) (i : Int)) r := by
    intro d
    induction d with
    | zero =>
      intro i _ hi
      have h0 : i = n := by omega
      subst h0
      exact hend
    | succ d ih => intro i h0 hi; exact hstep i h0 (by omega) (ih (i + 1) (by omega) (by omega))
  exact key (n - i0) i0 (Nat.le_refl _) (by omega)
/-- A loop that leaves at the first place where G fails. -/
theorem evAll (F : Nat → Int → Option Bool) (i0 n : Nat) (G : Nat → Prop)
    (hstep : ∀ i, i0 ≤ i → i < n → G i → ∀ r, Ev (fun k => F k ((i + 1 : Nat) : Int)) r → Ev (fun k => F k (i : Int)) r) (hbad : ∀ i, i0 ≤ i → i < n → ¬ G i → Ev (fun k => F k (i : Int)) false) (e : Bool) (hend : Ev (fun k => F k (n : Int)) e) (hle : i0 ≤ n) :
    Ev (fun k => F k (i0 : Int)) (B (∀ j, i0 ≤ j → j < n → G j) && e) := by
  have key : ∀ d i, i0 ≤ i → i + d = n → Ev (fun k => F k (i : Int)) (B (∀ j, i ≤ j → j < n → G j) && e) := by
    intro d
    induction d with
    | zero =>
      intro i _ hi
      have h0 : i = n := by omega
      subst h0
      rw [B_true (fun j h1 h2 => absurd h2 (by omega)), Bool.true_and]
      exact hend
    | succ d ih =>
      intro i h0 hi
      by_cases hg : G i
      · have h1 : B (∀ j, i ≤ j → j < n → G j) = B (∀ j, i + 1 ≤ j → j < n → G j) := B_congr ⟨fun h j a b => h j (by omega) b, fun h j a b => by
          by_cases e : j = i
          · subst e; exact hg
          · exact h j (by omega) b⟩
        rw [h1]
        exact hstep i h0 (by omega) hg _ (ih (i + 1) (by omega) (by omega))
      · rw [B_false (fun h => hg (h i (Nat.le_refl _) (by omega))), Bool.false_and]
        exact hbad i h0 (by omega) hg
  exact key (n - i0) i0 (Nat.le_refl _) (by omega)
theorem wrapNat {i : Nat} (h : i < 4611686018427387904) : wrap64 ((i : Int) + 1) = ((i + 1 : Nat) : Int) := by
  unfold wrap64; omega
theorem wrapPred {i : Nat} (h0 : 1 ≤ i) (h : i < 4611686018427387904) : wrap64 ((i : Int) - 1) = ((i - 1 : Nat) : Int) := by
  unfold wrap64; omega
theorem rdN (xs : List Int) (i : Nat) (h : i < xs.length) : rd xs (i : Int) = xs[i] := by
  simp [rd, List.getD_eq_getElem?_getD, List.getElem?_eq_getElem h]
theorem fillStep {α : Type} (xs : List α) (z : α) (i : Nat) (h : i < xs.length) : (xs.take i ++ List.replicate (xs.length - i) z).set i xs[i] = xs.take (i + 1) ++ List.replicate (xs.length - (i + 1)) z := by
  have h1 : xs.length - i = (xs.length - (i + 1)) + 1 := by omega
  rw [h1, List.replicate_succ, List.set_append_right _ _ (by rw [List.length_take]; omega)]
  rw [List.length_take, Nat.min_eq_left (by omega), Nat.sub_self, List.set_cons_zero, List.take_succ_eq_append_getElem h, List.append_assoc]
  rfl
theorem fillLen {α : Type} (xs : List α) (z : α) (i : Nat) (h : i ≤ xs.length) : (xs.take i ++ List.replicate (xs.length - i) z).length = xs.length := by
  simp; omega

theorem inS (a b c : Int) : spec_l01In.f a b c = some (decide (b ≤ a ∧ a ≤ c)) := by
  unfold spec_l01In.f
  by_cases h : b ≤ a <;> simp [h]

theorem inI (a b c : Int) : impl_inRange.f a b c = some (decide (b ≤ a ∧ a ≤ c)) := by
  unfold impl_inRange.f
  by_cases h : b ≤ a <;> simp [h]

theorem rd50 (xs : List S50) (i : Nat) (h : i < xs.length) : rd_T50 xs (i : Int) = xs[i] := by
  simp [rd_T50, List.getD_eq_getElem?_getD, List.getElem?_eq_getElem h]

def catB (l : List S50) : Bool := decide (1 ≤ (l.length : Int) ∧ (l.length : Int) ≤ 6) && l.all impl_IsCatalogue.good
theorem catI (l : List S50) : impl_IsCatalogue.f l = some (catB l) := rfl
def sheetB (w h : Int) : Bool := decide (1 ≤ w ∧ w ≤ 40) && decide (1 ≤ h ∧ h ≤ 40)
theorem sheetS (w h : Int) : spec_l12Sheet.f w h = some (sheetB w h) := by
  unfold spec_l12Sheet.f sheetB
  simp only [inS, Option.bind_some]
  by_cases h1 : (1 ≤ w ∧ w ≤ 40) <;> simp [h1]
theorem good_iff (u : S50) : impl_IsCatalogue.good u = true ↔ sheetB u.f0 u.f1 = true ∧ (0 ≤ u.f2 ∧ u.f2 ≤ 1000) := by
  simp only [impl_IsCatalogue.good, sheetB, Bool.and_eq_true, decide_eq_true_eq, and_assoc]
theorem catS (l : List S50) (h : l.length ≤ 1048576) : Ev (fun k => spec_IsCatalogue.f k l) (catB l) := by
  unfold spec_IsCatalogue.f
  have := evAll (fun k i => spec_IsCatalogue.l0 k l i) 0 l.length (fun i => sheetB (rd_T50 l (i : Int)).f0 (rd_T50 l (i : Int)).f1 = true ∧ (0 ≤ (rd_T50 l (i : Int)).f2 ∧ (rd_T50 l (i : Int)).f2 ≤ 1000)) ?_ ?_ (decide (1 ≤ (l.length : Int) ∧ (l.length : Int) ≤ 6)) ?_ (Nat.zero_le _)
  · have e : catB l = (B (∀ j, 0 ≤ j → j < l.length → sheetB (rd_T50 l (j : Int)).f0 (rd_T50 l (j : Int)).f1 = true ∧ (0 ≤ (rd_T50 l (j : Int)).f2 ∧ (rd_T50 l (j : Int)).f2 ≤ 1000)) && decide (1 ≤ (l.length : Int) ∧ (l.length : Int) ≤ 6)) := by
      unfold catB
      rw [Bool.and_comm]
      congr 1
      rw [Bool.eq_iff_iff, B_iff, List.all_eq_true]
      refine ⟨fun hx j _ hj => ?_, fun hx u hu => ?_⟩
      · have := hx l[j] (List.getElem_mem hj)
        rw [rd50 l j hj]
        exact (good_iff _).1 this
      · obtain ⟨j, hj, rfl⟩ := List.getElem_of_mem hu
        have := hx j (Nat.zero_le _) hj
        rw [rd50 l j hj] at this
        exact (good_iff _).2 this
    rw [e]
    exact this
  · intro i _ hi hg r hr
    refine evSucc ?_
    simp only [spec_IsCatalogue.l0, show (i : Int) < (l.length : Int) by omega, show (0 : Int) ≤ (i : Int) by omega, if_true, sheetS, inS, Option.bind_some, decide_eq_true_eq, hg, and_self, wrapNat (show i < 4611686018427387904 by omega)]
    exact hr
  · intro i _ hi hg
    refine evSucc ?_
    simp only [spec_IsCatalogue.l0, show (i : Int) < (l.length : Int) by omega, show (0 : Int) ≤ (i : Int) by omega, if_true, sheetS, inS, Option.bind_some, decide_eq_true_eq]
    by_cases g1 : sheetB (rd_T50 l (i : Int)).f0 (rd_T50 l (i : Int)).f1 = true
    · simp only [g1, if_true, show ¬ (0 ≤ (rd_T50 l (i : Int)).f2 ∧ (rd_T50 l (i : Int)).f2 ≤ 1000) from fun g2 => hg ⟨g1, g2⟩, if_false]
      exact Ev.now _
    · simp only [g1, if_false, Bool.false_eq_true]
      exact Ev.now _
  · refine evSucc ?_
    simp only [spec_IsCatalogue.l0, Int.lt_irrefl, if_false]
    by_cases g : 1 ≤ (l.length : Int)
    · simp only [show (l.length : Int) ≥ 1 from g, if_true, g, true_and]
      exact Ev.now _
    · simp only [show ¬ ((l.length : Int) ≥ 1) from g, if_false, g, false_and, decide_false]
      exact Ev.now _
theorem cat_at {l : List S50} (h : catB l = true) (i : Nat) (hi : i < l.length) : (1 ≤ (rd_T50 l (i : Int)).f0 ∧ (rd_T50 l (i : Int)).f0 ≤ 40) ∧ (1 ≤ (rd_T50 l (i : Int)).f1 ∧ (rd_T50 l (i : Int)).f1 ≤ 40) ∧ (0 ≤ (rd_T50 l (i : Int)).f2 ∧ (rd_T50 l (i : Int)).f2 ≤ 1000) := by
  simp only [catB, Bool.and_eq_true, List.all_eq_true] at h
  have := (good_iff _).1 (h.2 l[i] (List.getElem_mem hi))
  rw [rd50 l i hi]
  simp only [sheetB, Bool.and_eq_true, decide_eq_true_eq] at this
  exact ⟨this.1.1, this.1.2, this.2⟩
theorem cat_len {l : List S50} (h : catB l = true) : 1 ≤ l.length ∧ l.length ≤ 6 := by
  simp only [catB, Bool.and_eq_true, decide_eq_true_eq] at h
  omega
def tableV (w h : Int) (l : List S50) : Int := if catB l = true then (if sheetB w h = true then 0 else 2) else 1
theorem tableI (w h : Int) (l : List S50) : impl_checkTable.f w h l = some (tableV w h l) := by
  unfold impl_checkTable.f tableV sheetB
  simp only [catI, inI, Option.bind_some, decide_eq_true_eq, Bool.and_eq_true]
  by_cases c : catB l = true <;> by_cases a : (1 ≤ w ∧ w ≤ 40) <;> by_cases b : (1 ≤ h ∧ h ≤ 40) <;> simp [c, a, b]
theorem tableS (w h : Int) (l : List S50) (hl : l.length ≤ 1048576) : Ev (fun k => spec_l12Code.f k w h l) (tableV w h l) := by
  unfold spec_l12Code.f tableV
  refine Ev.bind (catS l hl) ?_
  by_cases c : catB l = true
  · simp only [c, if_true, sheetS, Option.bind_some]
    split <;> exact Ev.now _
  · simp only [c, if_false, Bool.false_eq_true]
    exact Ev.now _

theorem wrapIn {x : Int} (h0 : -9223372036854775808 ≤ x) (h1 : x ≤ 9223372036854775807) : wrap64 x = x := by
  unfold wrap64; omega

theorem rd54 (xs : List S54) (i : Nat) (h : i < xs.length) : rd_T54 xs (i : Int) = xs[i] := by
  simp [rd_T54, List.getD_eq_getElem?_getD, List.getElem?_eq_getElem h]

def convKind (x : S54) : S50 := ⟨x.f0, x.f1, x.f2⟩
theorem toKindS (l : List S54) (h : l.length ≤ 1048576) : Ev (fun k => laws_toKindS.f k l) (l.map convKind) := by
  unfold laws_toKindS.f
  simp only [Int.toNat_natCast, show (0 : Int) ≤ (l.length : Int) by omega, show l.length ≤ 11728124029610 by omega, if_true]
  have := evCount (fun k s i => laws_toKindS.l0 k l s i) 0 l.length (fun i => (l.map convKind).take i ++ List.replicate ((l.map convKind).length - i) z50) (l.map convKind) ?_ ?_ (Nat.zero_le _)
  · simpa using this
  · intro i _ hi h
    refine evSucc ?_
    simp only [laws_toKindS.l0, laws_toKind.f, Option.bind_some]
    have hm : i < (l.map convKind).length := by rw [List.length_map]; exact hi
    have hl := fillLen (l.map convKind) z50 i (by omega)
    have h1 : (i : Int) < (l.length : Int) := by omega
    have h2 : (0 : Int) ≤ (i : Int) := by omega
    have h3 : (i : Int) < (((l.map convKind).take i ++ List.replicate ((l.map convKind).length - i) z50).length : Int) := by rw [hl]; omega
    have h4 := fillStep (l.map convKind) z50 i hm
    rw [List.getElem_map] at h4
    simp only [h1, h2, h3, if_true, Int.toNat_natCast, rd54 l i hi, wrapNat (show i < 4611686018427387904 by omega)]
    simp only [convKind] at h4
    rw [h4]
    exact h
  · refine evSucc ?_
    simp only [laws_toKindS.l0, Int.lt_irrefl, if_false]
    simp only [show l.length = (l.map convKind).length by rw [List.length_map], List.take_length, Nat.sub_self, List.replicate_zero, List.append_nil]
    exact Ev.now _
theorem szKindS_big (l : List S54) (h : 1048576 < l.length) (hm : l.length * 24 ≤ 140737488351232) : laws_szKindS.f l 1048576 = some (-1) := by
  unfold laws_szKindS.f
  rw [wrapIn (by omega) (by omega), if_pos (by omega)]
theorem szKindS_ok (l : List S54) (h : l.length ≤ 1048576) : laws_szKindS.f l 1048576 = some (1048576 - (l.length : Int)) := by
  unfold laws_szKindS.f
  rw [wrapIn (by omega) (by omega), if_neg (by omega)]
theorem szKindS_bigM (l : List S54) (m : Int) (m0 : 0 ≤ m) (m1 : m ≤ 1048576) (h : m < l.length) (hm : l.length * 24 ≤ 140737488351232) : laws_szKindS.f l m = some (-1) := by
  unfold laws_szKindS.f
  rw [wrapIn (by omega) (by omega), if_pos (by omega)]
theorem szKindS_okM (l : List S54) (m : Int) (m0 : 0 ≤ m) (m1 : m ≤ 1048576) (h : (l.length : Int) ≤ m) : laws_szKindS.f l m = some (m - (l.length : Int)) := by
  unfold laws_szKindS.f
  rw [wrapIn (by omega) (by omega), if_neg (by omega)]

theorem eqKindS (l : List S50) (h : l.length ≤ 1048576) : Ev (fun k => laws_eqKindS.f k l l) true := by
  unfold laws_eqKindS.f
  simp only [if_true]
  have he : ∀ x : S50, laws_eqKind.f x.f0 x.f1 x.f2 x.f0 x.f1 x.f2 = some true := by intro x; simp [laws_eqKind.f]
  have := evAll (fun k i => laws_eqKindS.l0 k l l i) 0 l.length (fun _ => True) ?_ (fun i _ hi hn => absurd trivial hn) true ?_ (Nat.zero_le _)
  · simpa [B_true] using this
  · intro i _ hi _ r h
    refine evSucc ?_
    have h1 : (i : Int) < (l.length : Int) := by omega
    have h2 : (0 : Int) ≤ (i : Int) := by omega
    simp only [laws_eqKindS.l0, h1, h2, if_true, he, Option.bind_some, wrapNat (show i < 4611686018427387904 by omega)]
    exact h
  · refine evSucc ?_
    simp only [laws_eqKindS.l0, Int.lt_irrefl, if_false]
    exact Ev.now _

namespace PlanV
structure K where
  w : Int
  h : Int
  v : Int
/-- The greatest value of one piece. -/
def one (ks : List K) (w h : Int) : Int := ks.foldl (fun b k => if k.w ≤ w ∧ k.h ≤ h then max b k.v else b) 0
def cutX (g : Nat → Nat → Int) (w h n : Nat) (b : Int) : Int := (List.range n).foldl (fun b i => max b (g (i + 1) h + g (w - (i + 1)) h)) b
def cutY (g : Nat → Nat → Int) (w h n : Nat) (b : Int) : Int := (List.range n).foldl (fun b i => max b (g w (i + 1) + g w (h - (i + 1)))) b
def val (ks : List K) : Nat → Nat → Nat → Int
  | 0, _, _ => 0
  | f + 1, w, h => cutY (val ks f) w h (h - 1) (cutX (val ks f) w h (w - 1) (one ks w h))
/-- The best value of a sheet. -/
def V (ks : List K) (w h : Nat) : Int := val ks (w + h) w h
theorem foldl_congr_mem {α β : Type} {f g : α → β → α} : ∀ (l : List β) (a : α), (∀ x ∈ l, ∀ a, f a x = g a x) → l.foldl f a = l.foldl g a
  | [], _, _ => rfl
  | x :: l, a, h => by
    simp only [List.foldl_cons, h x (by simp)]
    exact foldl_congr_mem l _ (fun y hy => h y (by simp [hy]))
theorem cutX_congr {g g' : Nat → Nat → Int} {w h n : Nat} {b : Int} (hg : ∀ i < n, g (i + 1) h = g' (i + 1) h ∧ g (w - (i + 1)) h = g' (w - (i + 1)) h) : cutX g w h n b = cutX g' w h n b := by
  unfold cutX
  refine foldl_congr_mem _ _ (fun x hx a => ?_)
  have := hg x (by simpa using hx)
  rw [this.1, this.2]
theorem cutY_congr {g g' : Nat → Nat → Int} {w h n : Nat} {b : Int} (hg : ∀ i < n, g w (i + 1) = g' w (i + 1) ∧ g w (h - (i + 1)) = g' w (h - (i + 1))) : cutY g w h n b = cutY g' w h n b := by
  unfold cutY
  refine foldl_congr_mem _ _ (fun x hx a => ?_)
  have := hg x (by simpa using hx)
  rw [this.1, this.2]
theorem val_same (ks : List K) : ∀ n f f' w h : Nat, w + h ≤ n → n ≤ f → n ≤ f' → 1 ≤ w → 1 ≤ h → val ks f w h = val ks f' w h := by
  intro n
  induction n with
  | zero => intro f f' w h; omega
  | succ n ih =>
    intro f f' w h hn hf hf' hw hh
    obtain ⟨f, rfl⟩ : ∃ m, f = m + 1 := ⟨f - 1, by omega⟩
    obtain ⟨f', rfl⟩ : ∃ m, f' = m + 1 := ⟨f' - 1, by omega⟩
    unfold val
    rw [cutX_congr (g' := val ks f') (fun i hi => ⟨ih f f' _ _ (by omega) (by omega) (by omega) (by omega) (by omega), ih f f' _ _ (by omega) (by omega) (by omega) (by omega) (by omega)⟩),
        cutY_congr (g' := val ks f') (fun i hi => ⟨ih f f' _ _ (by omega) (by omega) (by omega) (by omega) (by omega), ih f f' _ _ (by omega) (by omega) (by omega) (by omega) (by omega)⟩)]
theorem V_eq (ks : List K) {w h : Nat} (hw : 1 ≤ w) (hh : 1 ≤ h) : V ks w h = cutY (V ks) w h (h - 1) (cutX (V ks) w h (w - 1) (one ks w h)) := by
  obtain ⟨m, hm⟩ : ∃ m, w + h = m + 1 := ⟨w + h - 1, by omega⟩
  have e : V ks w h = cutY (val ks m) w h (h - 1) (cutX (val ks m) w h (w - 1) (one ks w h)) := by unfold V; rw [hm]; rfl
  rw [e, cutX_congr (g' := V ks) (fun i hi => ⟨val_same ks _ _ _ _ _ (Nat.le_refl _) (by omega) (Nat.le_refl _) (by omega) (by omega), val_same ks _ _ _ _ _ (Nat.le_refl _) (by omega) (Nat.le_refl _) (by omega) (by omega)⟩),
    cutY_congr (g' := V ks) (fun i hi => ⟨val_same ks _ _ _ _ _ (Nat.le_refl _) (by omega) (Nat.le_refl _) (by omega) (by omega), val_same ks _ _ _ _ _ (Nat.le_refl _) (by omega) (Nat.le_refl _) (by omega) (by omega)⟩)]
/-! what a greatest of several numbers is -/
theorem fold_ge {β : Type} (g : β → Int) : ∀ (l : List β) (b : Int), b ≤ l.foldl (fun b x => max b (g x)) b ∧ ∀ x ∈ l, g x ≤ l.foldl (fun b x => max b (g x)) b
  | [], b => ⟨Int.le_refl _, fun x hx => by cases hx⟩
  | y :: l, b => by
    have h := fold_ge g l (max b (g y))
    simp only [List.foldl_cons]
    refine ⟨by omega, fun x hx => ?_⟩
    rcases List.mem_cons.1 hx with rfl | hx
    · have := h.1; omega
    · exact h.2 x hx
theorem fold_is {β : Type} (g : β → Int) : ∀ (l : List β) (b : Int), l.foldl (fun b x => max b (g x)) b = b ∨ ∃ x ∈ l, l.foldl (fun b x => max b (g x)) b = g x
  | [], b => .inl rfl
  | y :: l, b => by
    simp only [List.foldl_cons]
    rcases fold_is g l (max b (g y)) with h | ⟨x, hx, h⟩
    · by_cases c : b ≤ g y
      · exact .inr ⟨y, by simp, by rw [h]; omega⟩
      · exact .inl (by rw [h]; omega)
    · exact .inr ⟨x, by simp [hx], h⟩
theorem one_ge (ks : List K) (w h : Int) : 0 ≤ one ks w h ∧ ∀ k ∈ ks, k.w ≤ w → k.h ≤ h → k.v ≤ one ks w h := by
  unfold one
  suffices H : ∀ (l : List K) (b : Int), b ≤ l.foldl (fun b k => if k.w ≤ w ∧ k.h ≤ h then max b k.v else b) b ∧ ∀ k ∈ l, k.w ≤ w → k.h ≤ h → k.v ≤ l.foldl (fun b k => if k.w ≤ w ∧ k.h ≤ h then max b k.v else b) b from H ks 0
  intro l
  induction l with
  | nil => intro b; exact ⟨Int.le_refl _, fun k hk => by cases hk⟩
  | cons y l ih =>
    intro b
    simp only [List.foldl_cons]
    by_cases c : y.w ≤ w ∧ y.h ≤ h
    · rw [if_pos c]
      have := ih (max b y.v)
      refine ⟨by omega, fun k hk h1 h2 => ?_⟩
      rcases List.mem_cons.1 hk with rfl | hk
      · omega
      · exact this.2 k hk h1 h2
    · rw [if_neg c]
      have := ih b
      refine ⟨this.1, fun k hk h1 h2 => ?_⟩
      rcases List.mem_cons.1 hk with rfl | hk
      · exact absurd ⟨h1, h2⟩ c
      · exact this.2 k hk h1 h2
theorem one_is (ks : List K) (w h : Int) : one ks w h = 0 ∨ ∃ k ∈ ks, k.w ≤ w ∧ k.h ≤ h ∧ one ks w h = k.v := by
  unfold one
  suffices H : ∀ (l : List K) (b : Int), l.foldl (fun b k => if k.w ≤ w ∧ k.h ≤ h then max b k.v else b) b = b ∨ ∃ k ∈ l, k.w ≤ w ∧ k.h ≤ h ∧ l.foldl (fun b k => if k.w ≤ w ∧ k.h ≤ h then max b k.v else b) b = k.v from H ks 0
  intro l
  induction l with
  | nil => intro b; exact .inl rfl
  | cons y l ih =>
    intro b
    simp only [List.foldl_cons]
    by_cases c : y.w ≤ w ∧ y.h ≤ h
    · rw [if_pos c]
      rcases ih (max b y.v) with e | ⟨k, hk, h1, h2, e⟩
      · by_cases c2 : b ≤ y.v
        · exact .inr ⟨y, by simp, c.1, c.2, by rw [e]; omega⟩
        · exact .inl (by rw [e]; omega)
      · exact .inr ⟨k, by simp [hk], h1, h2, e⟩
    · rw [if_neg c]
      rcases ih b with e | ⟨k, hk, h1, h2, e⟩
      · exact .inl e
      · exact .inr ⟨k, by simp [hk], h1, h2, e⟩
theorem V_ge (ks : List K) {w h : Nat} (hw : 1 ≤ w) (hh : 1 ≤ h) : one ks w h ≤ V ks w h ∧ (∀ x, 1 ≤ x → x < w → V ks x h + V ks (w - x) h ≤ V ks w h) ∧ ∀ y, 1 ≤ y → y < h → V ks w y + V ks w (h - y) ≤ V ks w h := by
  have e := V_eq ks hw hh
  have h1 := fold_ge (fun i => V ks (i + 1) h + V ks (w - (i + 1)) h) (List.range (w - 1)) (one ks w h)
  have h2 := fold_ge (fun i => V ks w (i + 1) + V ks w (h - (i + 1))) (List.range (h - 1)) (cutX (V ks) w h (w - 1) (one ks w h))
  have e1 : cutX (V ks) w h (w - 1) (one ks w h) = (List.range (w - 1)).foldl (fun b i => max b (V ks (i + 1) h + V ks (w - (i + 1)) h)) (one ks w h) := rfl
  have e2 : cutY (V ks) w h (h - 1) (cutX (V ks) w h (w - 1) (one ks w h)) = (List.range (h - 1)).foldl (fun b i => max b (V ks w (i + 1) + V ks w (h - (i + 1)))) (cutX (V ks) w h (w - 1) (one ks w h)) := rfl
  rw [← e2, ← e] at h2
  rw [← e1] at h1
  refine ⟨by omega, fun x hx hxw => ?_, fun y hy hyh => ?_⟩
  · have := h1.2 (x - 1) (by simp; omega)
    rw [show x - 1 + 1 = x by omega] at this
    omega
  · have := h2.2 (y - 1) (by simp; omega)
    rw [show y - 1 + 1 = y by omega] at this
    omega
theorem V_is (ks : List K) {w h : Nat} (hw : 1 ≤ w) (hh : 1 ≤ h) : V ks w h = 0 ∨ (∃ k ∈ ks, k.w ≤ w ∧ k.h ≤ h ∧ V ks w h = k.v) ∨ (∃ x, 1 ≤ x ∧ x < w ∧ V ks w h = V ks x h + V ks (w - x) h) ∨ ∃ y, 1 ≤ y ∧ y < h ∧ V ks w h = V ks w y + V ks w (h - y) := by
  have e := V_eq ks hw hh
  rcases fold_is (fun i => V ks w (i + 1) + V ks w (h - (i + 1))) (List.range (h - 1)) (cutX (V ks) w h (w - 1) (one ks w h)) with h2 | ⟨i, hi, h2⟩
  · have e2 : V ks w h = cutX (V ks) w h (w - 1) (one ks w h) := e.trans h2
    rcases fold_is (fun i => V ks (i + 1) h + V ks (w - (i + 1)) h) (List.range (w - 1)) (one ks w h) with h1 | ⟨i, hi, h1⟩
    · have e3 : V ks w h = one ks w h := e2.trans h1
      rcases one_is ks w h with h0 | ⟨k, hk, a, b, h0⟩
      · exact .inl (e3.trans h0)
      · exact .inr (.inl ⟨k, hk, a, b, e3.trans h0⟩)
    · exact .inr (.inr (.inl ⟨i + 1, by omega, by simp at hi; omega, e2.trans h1⟩))
  · exact .inr (.inr (.inr ⟨i + 1, by omega, by simp at hi; omega, e.trans h2⟩))
theorem V_nonneg (ks : List K) {w h : Nat} (hw : 1 ≤ w) (hh : 1 ≤ h) : 0 ≤ V ks w h := Int.le_trans (one_ge ks w h).1 (V_ge ks hw hh).1
/-- No sheet has more value than a thousand for each unit of its area. -/
theorem V_le (ks : List K) (hk : ∀ k ∈ ks, 1 ≤ k.w ∧ 1 ≤ k.h ∧ k.v ≤ 1000) : ∀ n w h : Nat, w + h ≤ n → 1 ≤ w → 1 ≤ h → V ks w h ≤ 1000 * ((w : Int) * (h : Int)) := by
  intro n
  induction n with
  | zero => intro w h; omega
  | succ n ih =>
    intro w h hn hw hh
    have hwh : (1 : Int) ≤ (w : Int) * (h : Int) := by
      have : (1 : Int) * 1 ≤ (w : Int) * (h : Int) := Int.mul_le_mul (by omega) (by omega) (by omega) (by omega)
      omega
    rcases V_is ks hw hh with e | ⟨k, hk', _, _, e⟩ | ⟨x, hx, hxw, e⟩ | ⟨y, hy, hyh, e⟩
    · omega
    · have := (hk k hk').2.2; omega
    · have h1 := ih x h (by omega) hx hh
      have h2 := ih (w - x) h (by omega) (by omega) hh
      have e1 : ((w - x : Nat) : Int) = (w : Int) - (x : Int) := by omega
      rw [e1, Int.sub_mul] at h2
      omega
    · have h1 := ih w y (by omega) hw hy
      have h2 := ih w (h - y) (by omega) hw (by omega)
      have e1 : ((h - y : Nat) : Int) = (h : Int) - (y : Int) := by omega
      rw [e1, Int.mul_sub] at h2
      omega
/-- No sheet has more value than its densest kind allows. -/
theorem V_dense (ks : List K) (a v : Int) (_ha : 0 < a) (hv : 0 ≤ v) (hk : ∀ k ∈ ks, 1 ≤ k.w ∧ 1 ≤ k.h ∧ k.v * a ≤ v * (k.w * k.h)) : ∀ n w h : Nat, w + h ≤ n → 1 ≤ w → 1 ≤ h → V ks w h * a ≤ v * ((w : Int) * (h : Int)) := by
  intro n
  induction n with
  | zero => intro w h; omega
  | succ n ih =>
    intro w h hn hw hh
    have hwh : (0 : Int) ≤ (w : Int) * (h : Int) := Int.mul_nonneg (by omega) (by omega)
    rcases V_is ks hw hh with e | ⟨k, hk', hkw, hkh, e⟩ | ⟨x, hx, hxw, e⟩ | ⟨y, hy, hyh, e⟩
    · rw [e, Int.zero_mul]; exact Int.mul_nonneg hv hwh
    · have hh1 := hk k hk'
      rw [e]
      refine Int.le_trans hh1.2.2 (Int.mul_le_mul_of_nonneg_left ?_ hv)
      exact Int.mul_le_mul hkw hkh (by omega) (by omega)
    · have h1 := ih x h (by omega) hx hh
      have h2 := ih (w - x) h (by omega) (by omega) hh
      have e1 : ((w - x : Nat) : Int) = (w : Int) - (x : Int) := by omega
      rw [e1, Int.sub_mul, Int.mul_sub] at h2
      rw [e, Int.add_mul]
      omega
    · have h1 := ih w y (by omega) hw hy
      have h2 := ih w (h - y) (by omega) hw (by omega)
      have e1 : ((h - y : Nat) : Int) = (h : Int) - (y : Int) := by omega
      rw [e1, Int.mul_sub, Int.mul_sub] at h2
      rw [e, Int.add_mul]
      omega
theorem V_mono_w (ks : List K) {w w' h : Nat} (hw : 1 ≤ w) (hh : 1 ≤ h) (hl : w ≤ w') : V ks w h ≤ V ks w' h := by
  rcases Nat.lt_or_ge w w' with c | c
  · have := (V_ge ks (show 1 ≤ w' by omega) hh).2.1 w hw c
    have := V_nonneg ks (show 1 ≤ w' - w by omega) hh
    omega
  · rw [show w = w' by omega]; exact Int.le_refl _
theorem V_mono_h (ks : List K) {w h h' : Nat} (hw : 1 ≤ w) (hh : 1 ≤ h) (hl : h ≤ h') : V ks w h ≤ V ks w h' := by
  rcases Nat.lt_or_ge h h' with c | c
  · have := (V_ge ks hw (show 1 ≤ h' by omega)).2.2 h hh c
    have := V_nonneg ks hw (show 1 ≤ h' - h by omega)
    omega
  · rw [show h = h' by omega]; exact Int.le_refl _
theorem V_row (ks : List K) (k : K) (hk : k ∈ ks) (kw kh : Nat) (e1 : k.w = kw) (e2 : k.h = kh) (h1 : 1 ≤ kw) (h2 : 1 ≤ kh) : ∀ b : Nat, 1 ≤ b → k.v * (b : Int) ≤ V ks kw (b * kh) := by
  intro b
  induction b with
  | zero => omega
  | succ b ih =>
    intro _
    have hk1 : k.v ≤ V ks kw kh := Int.le_trans ((one_ge ks kw kh).2 k hk (by omega) (by omega)) (V_ge ks h1 h2).1
    rcases Nat.eq_zero_or_pos b with rfl | hb
    · simpa using hk1
    · have := ih hb
      have hb1 : 1 * 1 ≤ b * kh := Nat.mul_le_mul hb h2
      have hpos : 1 ≤ (b + 1) * kh := by rw [Nat.succ_mul]; omega
      have hc := (V_ge ks h1 hpos).2.2 (b * kh) (by omega) (by rw [Nat.succ_mul]; omega)
      rw [show (b + 1) * kh - b * kh = kh by rw [Nat.succ_mul]; omega] at hc
      have : k.v * ((b + 1 : Nat) : Int) = k.v * (b : Int) + k.v := by rw [Int.natCast_add, Int.mul_add]; simp
      omega
theorem V_grid (ks : List K) (k : K) (hk : k ∈ ks) (kw kh : Nat) (e1 : k.w = kw) (e2 : k.h = kh) (h1 : 1 ≤ kw) (h2 : 1 ≤ kh) (b : Nat) (hb : 1 ≤ b) : ∀ a : Nat, 1 ≤ a → k.v * (b : Int) * (a : Int) ≤ V ks (a * kw) (b * kh) := by
  intro a
  induction a with
  | zero => omega
  | succ a ih =>
    intro _
    have hr := V_row ks k hk kw kh e1 e2 h1 h2 b hb
    have hb1 : 1 * 1 ≤ b * kh := Nat.mul_le_mul hb h2
    rcases Nat.eq_zero_or_pos a with rfl | ha
    · simpa using hr
    · have := ih ha
      have ha1 : 1 * 1 ≤ a * kw := Nat.mul_le_mul ha h1
      have hpos : 1 ≤ (a + 1) * kw := by rw [Nat.succ_mul]; omega
      have hc := (V_ge ks hpos (show 1 ≤ b * kh by omega)).2.1 (a * kw) (by omega) (by rw [Nat.succ_mul]; omega)
      rw [show (a + 1) * kw - a * kw = kw by rw [Nat.succ_mul]; omega] at hc
      have : k.v * (b : Int) * ((a + 1 : Nat) : Int) = k.v * (b : Int) * (a : Int) + k.v * (b : Int) := by rw [Int.natCast_add, Int.mul_add]; simp
      omega
end PlanV

namespace TabV
open PlanV
def toK (k : S50) : K := ⟨k.f0, k.f1, k.f2⟩
theorem kd_one (l : List S50) (w h : Int) : l12Kd l w h l.length = one (l.map toK) w h := by
  unfold l12Kd one
  rw [List.take_length, List.foldl_map]
  congr 1
  funext b k
  by_cases c : k.f0 ≤ w
  · by_cases d : k.f1 ≤ h
    · simp [toK, c, d]
    · simp [toK, c, d]
  · simp [toK, c]
/-- What is asked of the kinds. -/
def Ok (l : List S50) : Prop := ∀ k ∈ l.map toK, 1 ≤ k.w ∧ 1 ≤ k.h ∧ k.v ≤ 1000
theorem V_in {l : List S50} (hk : Ok l) {w h : Nat} (hw : 1 ≤ w) (hh : 1 ≤ h) (hw4 : w ≤ 40) (hh4 : h ≤ 40) : 0 ≤ V (l.map toK) w h ∧ V (l.map toK) w h ≤ 1600000 := by
  refine ⟨V_nonneg _ hw hh, ?_⟩
  have h1 := V_le (l.map toK) hk (w + h) w h (Nat.le_refl _) hw hh
  have h2 : (w : Int) * (h : Int) ≤ 40 * 40 := Int.mul_le_mul (by omega) (by omega) (by omega) (by omega)
  omega
theorem wrap_id {a b : Int} (ha : 0 ≤ a ∧ a ≤ 1600000) (hb : 0 ≤ b ∧ b ≤ 1600000) : wrap64 (a + b) = a + b := by unfold wrap64; omega
theorem cx_eq {l : List S50} (hk : Ok l) {t : List Int} {w h : Nat} (hw : w ≤ 40) (hh1 : 1 ≤ h) (hh : h ≤ 40) (ht : ∀ x, 1 ≤ x → x < w → rd t ((x * 41 + h : Nat) : Int) = V (l.map toK) x h) (b : Int) : ∀ n, n < w → impl_valuesOf.cx t w h b n = cutX (V (l.map toK)) w h n b
  | 0, _ => rfl
  | n + 1, hn => by
    rw [impl_valuesOf.cx, cx_eq hk hw hh1 hh ht b n (by omega), ht (n + 1) (by omega) hn, ht (w - (n + 1)) (by omega) (by omega), wrap_id (V_in hk (by omega) hh1 (by omega) hh) (V_in hk (by omega) hh1 (by omega) hh)]
    unfold cutX
    rw [List.range_succ, List.foldl_append]
    rfl
theorem cy_eq {l : List S50} (hk : Ok l) {t : List Int} {w h : Nat} (hw1 : 1 ≤ w) (hw : w ≤ 40) (hh : h ≤ 40) (ht : ∀ y, 1 ≤ y → y < h → rd t ((w * 41 + y : Nat) : Int) = V (l.map toK) w y) (b : Int) : ∀ n, n < h → impl_valuesOf.cy t w h b n = cutY (V (l.map toK)) w h n b
  | 0, _ => rfl
  | n + 1, hn => by
    rw [impl_valuesOf.cy, cy_eq hk hw1 hw hh ht b n (by omega), ht (n + 1) (by omega) hn, ht (h - (n + 1)) (by omega) (by omega), wrap_id (V_in hk hw1 (by omega) hw (by omega)) (V_in hk hw1 (by omega) hw (by omega))]
    unfold cutY
    rw [List.range_succ, List.foldl_append]
    rfl
theorem best_eq {l : List S50} (hk : Ok l) {t : List Int} {w h : Nat} (hw1 : 1 ≤ w) (hw : w ≤ 40) (hh1 : 1 ≤ h) (hh : h ≤ 40) (hx : ∀ x, 1 ≤ x → x < w → rd t ((x * 41 + h : Nat) : Int) = V (l.map toK) x h) (hy : ∀ y, 1 ≤ y → y < h → rd t ((w * 41 + y : Nat) : Int) = V (l.map toK) w y) : impl_valuesOf.best t l w h = V (l.map toK) w h := by
  unfold impl_valuesOf.best
  rw [cy_eq hk hw1 hw hh hy _ _ (by omega), cx_eq hk hw hh1 hh hx _ _ (by omega), kd_one]
  exact (V_eq _ hw1 hh1).symm
theorem rd_set (t : List Int) (i k : Nat) (v : Int) (hi : i < t.length) : rd (t.set i v) (k : Int) = if k = i then v else rd t (k : Int) := by
  unfold rd
  simp only [List.getD_eq_getElem?_getD, Int.toNat_natCast]
  by_cases c : k = i
  · subst c; rw [if_pos rfl, List.getElem?_set_self hi]; rfl
  · rw [if_neg c, List.getElem?_set_ne (Ne.symm c)]
def Row (l : List S50) (H n j : Nat) (t : List Int) : Prop := t.length = 1681 ∧ ∀ w h : Nat, w ≤ 40 → h ≤ 40 → rd t ((w * 41 + h : Nat) : Int) = if (1 ≤ w ∧ w ≤ n ∧ 1 ≤ h ∧ h ≤ H) ∨ (w = n + 1 ∧ 1 ≤ h ∧ h ≤ j) then V (l.map toK) w h else 0
theorem row_good {l : List S50} (hk : Ok l) {H n : Nat} {t : List Int} (hn : n < 40) (hH : H ≤ 40) (h : Row l H n 0 t) : ∀ j, j ≤ H → Row l H n j (impl_valuesOf.row t l (n + 1) j)
  | 0, _ => h
  | j + 1, hj => by
    have ih := row_good hk hn hH h j (by omega)
    rw [impl_valuesOf.row]
    generalize impl_valuesOf.row t l (n + 1) j = u at ih
    have hb : impl_valuesOf.best u l (n + 1) (j + 1) = V (l.map toK) (n + 1) (j + 1) := best_eq hk (by omega) (by omega) (by omega) (by omega)
      (fun x h1 h2 => by rw [ih.2 x (j + 1) (by omega) (by omega), if_pos (.inl (by omega))])
      (fun y h1 h2 => by rw [ih.2 (n + 1) y (by omega) (by omega), if_pos (.inr (by omega))])
    refine ⟨by rw [List.length_set]; exact ih.1, fun w h hw hh => ?_⟩
    rw [rd_set _ _ _ _ (by rw [ih.1]; omega), hb, ih.2 w h hw hh]
    by_cases c : w * 41 + h = (n + 1) * 41 + (j + 1)
    · have e1 : w = n + 1 := by omega
      have e2 : h = j + 1 := by omega
      subst e1; subst e2
      rw [if_pos rfl, if_pos (.inr (by omega))]
    · rw [if_neg c]
      by_cases d : (1 ≤ w ∧ w ≤ n ∧ 1 ≤ h ∧ h ≤ H) ∨ (w = n + 1 ∧ 1 ≤ h ∧ h ≤ j)
      · rw [if_pos d, if_pos (by omega)]
      · rw [if_neg d, if_neg (by omega)]
theorem tab_good {l : List S50} (hk : Ok l) {H : Nat} (hH : H ≤ 40) : ∀ n, n ≤ 40 → Row l H n 0 (impl_valuesOf.tab l H n)
  | 0, _ => ⟨List.length_replicate, fun w h hw hh => by
    rw [if_neg (by omega)]
    unfold rd impl_valuesOf.tab
    rw [List.getD_eq_getElem?_getD, List.getElem?_replicate]
    split <;> rfl⟩
  | n + 1, hn => by
    have h := row_good hk (by omega) hH (tab_good hk hH n (by omega)) H (Nat.le_refl _)
    refine ⟨h.1, fun w h' hw hh => ?_⟩
    have e := h.2 w h' hw hh
    rw [impl_valuesOf.tab, e]
    by_cases d : (1 ≤ w ∧ w ≤ n ∧ 1 ≤ h' ∧ h' ≤ H) ∨ (w = n + 1 ∧ 1 ≤ h' ∧ h' ≤ H)
    · rw [if_pos d, if_pos (by omega)]
    · rw [if_neg d, if_neg (by omega)]
/-- The program's table, at a sheet's sides. -/
theorem tab_at {l : List S50} (hk : Ok l) {H n : Nat} (hH : H ≤ 40) (hn : n ≤ 40) {w h : Nat} (hw : w ≤ n) (hh : h ≤ H) : rd (impl_valuesOf.tab l H n) ((w * 41 + h : Nat) : Int) = if 1 ≤ w ∧ 1 ≤ h then V (l.map toK) w h else 0 := by
  rw [(tab_good hk hH n hn).2 w h (by omega) (by omega)]
  by_cases d : 1 ≤ w ∧ 1 ≤ h
  · rw [if_pos d, if_pos (by omega)]
  · rw [if_neg d, if_neg (by omega)]
/-! the reference's table -/
theorem scx_eq {l : List S50} (hk : Ok l) {o : List (List Int)} {w h : Nat} (hw : w ≤ 40) (hh1 : 1 ≤ h) (hh : h ≤ 40) (ht : ∀ x, 1 ≤ x → x < w → rd (spec_l12Table.rr o x) (h : Int) = V (l.map toK) x h) (b : Int) : ∀ n, n < w → spec_l12Table.cx o w h b n = cutX (V (l.map toK)) w h n b
  | 0, _ => rfl
  | n + 1, hn => by
    rw [spec_l12Table.cx, scx_eq hk hw hh1 hh ht b n (by omega), ht (n + 1) (by omega) hn, ht (w - (n + 1)) (by omega) (by omega), wrap_id (V_in hk (by omega) hh1 (by omega) hh) (V_in hk (by omega) hh1 (by omega) hh)]
    unfold cutX
    rw [List.range_succ, List.foldl_append]
    rfl
theorem scy_eq {l : List S50} (hk : Ok l) {r : List Int} {w h : Nat} (hw1 : 1 ≤ w) (hw : w ≤ 40) (hh : h ≤ 40) (ht : ∀ y : Nat, 1 ≤ y → y < h → rd r (y : Int) = V (l.map toK) w y) (b : Int) : ∀ n, n < h → spec_l12Table.cy r h b n = cutY (V (l.map toK)) w h n b
  | 0, _ => rfl
  | n + 1, hn => by
    rw [spec_l12Table.cy, scy_eq hk hw1 hw hh ht b n (by omega), ht (n + 1) (by omega) hn, ht (h - (n + 1)) (by omega) (by omega), wrap_id (V_in hk hw1 (by omega) hw (by omega)) (V_in hk hw1 (by omega) hw (by omega))]
    unfold cutY
    rw [List.range_succ, List.foldl_append]
    rfl
theorem sbest_eq {l : List S50} (hk : Ok l) {o : List (List Int)} {r : List Int} {w h : Nat} (hw1 : 1 ≤ w) (hw : w ≤ 40) (hh1 : 1 ≤ h) (hh : h ≤ 40) (hx : ∀ x, 1 ≤ x → x < w → rd (spec_l12Table.rr o x) (h : Int) = V (l.map toK) x h) (hy : ∀ y : Nat, 1 ≤ y → y < h → rd r (y : Int) = V (l.map toK) w y) : spec_l12Table.best o r l w h = V (l.map toK) w h := by
  unfold spec_l12Table.best
  rw [scy_eq hk hw1 hw hh hy _ _ (by omega), scx_eq hk hw hh1 hh hx _ _ (by omega), kd_one]
  exact (V_eq _ hw1 hh1).symm
theorem rd_snoc (r : List Int) (b : Int) (h : Nat) (hh : h ≤ r.length) : rd (r ++ [b]) (h : Int) = if h = r.length then b else rd r (h : Int) := by
  unfold rd
  simp only [List.getD_eq_getElem?_getD, Int.toNat_natCast]
  by_cases c : h = r.length
  · rw [if_pos c, List.getElem?_append_right (by omega), c, Nat.sub_self]; rfl
  · rw [if_neg c, List.getElem?_append_left (by omega)]
theorem srow_good {l : List S50} (hk : Ok l) {H n : Nat} {o : List (List Int)} (hn : n < 40) (hH : H ≤ 40) (ho : ∀ w h : Nat, w ≤ n → h ≤ H → rd (spec_l12Table.rr o w) (h : Int) = if 1 ≤ w ∧ 1 ≤ h then V (l.map toK) w h else 0) : ∀ j, j ≤ H → ∀ h : Nat, h ≤ j → rd (spec_l12Table.row o l (n + 1) j) (h : Int) = if 1 ≤ h then V (l.map toK) (n + 1) h else 0
  | 0, _, h, hh => by
    have : h = 0 := by omega
    subst this
    rfl
  | j + 1, hj, h, hh => by
    have ih := srow_good hk hn hH ho j (by omega)
    have hlen := spec_l12Table.row_len o l (n + 1) j
    rw [spec_l12Table.row, rd_snoc _ _ _ (by omega), hlen]
    by_cases c : h = j + 1
    · subst c
      rw [if_pos rfl, if_pos (by omega)]
      exact sbest_eq hk (by omega) (by omega) (by omega) (by omega) (fun x h1 h2 => by rw [ho x (j + 1) (by omega) (by omega), if_pos (by omega)]) (fun y h1 h2 => by rw [ih y (by omega), if_pos (by omega)])
    · rw [if_neg c]
      exact ih h (by omega)
/-- The reference's table, at a sheet's sides. -/
theorem stab_at {l : List S50} (hk : Ok l) {H : Nat} (hH : H ≤ 40) : ∀ n, n ≤ 40 → ∀ w h : Nat, w ≤ n → h ≤ H → rd (spec_l12Table.rr (spec_l12Table.tab l H n) w) (h : Int) = if 1 ≤ w ∧ 1 ≤ h then V (l.map toK) w h else 0
  | 0, _, w, h, hw, hh => by
    have : w = 0 := by omega
    subst this
    rw [if_neg (by omega)]
    show rd (List.replicate (H + 1) 0) (h : Int) = 0
    unfold rd
    rw [List.getD_eq_getElem?_getD, List.getElem?_replicate]
    split <;> rfl
  | n + 1, hn, w, h, hw, hh => by
    have ih := stab_at hk hH n (by omega)
    have hlen := spec_l12Table.tab_len l H n
    rw [spec_l12Table.tab]
    by_cases c : w ≤ n
    · rw [spec_l12Table.rr_left _ _ _ (by omega)]
      exact ih w h c hh
    · have e : w = n + 1 := by omega
      subst e
      have e : spec_l12Table.rr (spec_l12Table.tab l H n ++ [spec_l12Table.row (spec_l12Table.tab l H n) l (n + 1) H]) (n + 1) = spec_l12Table.row (spec_l12Table.tab l H n) l (n + 1) H := by
        unfold spec_l12Table.rr
        rw [List.getD_eq_getElem?_getD, List.getElem?_append_right (by omega), hlen, Nat.sub_self]
        rfl
      rw [e, srow_good hk (by omega) hH ih H (Nat.le_refl _) h hh]
      by_cases d : 1 ≤ h
      · rw [if_pos d, if_pos (by omega)]
      · rw [if_neg d, if_neg (by omega)]
theorem ok_of_cat {l : List S50} (h : catB l = true) : Ok l := by
  intro k hk
  obtain ⟨x, hx, rfl⟩ := List.mem_map.1 hk
  simp only [catB, Bool.and_eq_true, List.all_eq_true] at h
  have := (good_iff _).1 (h.2 x hx)
  simp only [sheetB, Bool.and_eq_true, decide_eq_true_eq] at this
  exact ⟨this.1.1.1, this.1.2.1, this.2.2⟩
theorem tableV_zero {w h : Int} {l : List S50} (ht : tableV w h l = 0) : catB l = true ∧ ∃ W H : Nat, w = (W : Int) ∧ h = (H : Int) ∧ 1 ≤ W ∧ W ≤ 40 ∧ 1 ≤ H ∧ H ≤ 40 := by
  have hc : catB l = true := Classical.byContradiction fun hc => by
    unfold tableV at ht
    rw [if_neg hc] at ht
    exact absurd ht (by decide)
  have hs : sheetB w h = true := Classical.byContradiction fun hs => by
    unfold tableV at ht
    rw [if_pos hc, if_neg hs] at ht
    exact absurd ht (by decide)
  simp only [sheetB, Bool.and_eq_true, decide_eq_true_eq] at hs
  exact ⟨hc, w.toNat, h.toNat, by omega, by omega, by omega, by omega, by omega, by omega⟩
end TabV

theorem ba_len (s : ByteArray) : s.data.toList.length = s.size := Array.length_toList
theorem ba_loop (s : ByteArray) : ∀ (d i : Nat) (r : List UInt8), i + d = s.size → ByteArray.toList.loop s i r = r.reverse ++ s.data.toList.drop i := by
  have hl := ba_len s
  intro d
  induction d with
  | zero =>
    intro i r h
    unfold ByteArray.toList.loop
    rw [if_neg (by omega), List.drop_eq_nil_of_le (by omega), List.append_nil]
  | succ d ih =>
    intro i r h
    unfold ByteArray.toList.loop
    have e : s.get! i = s.data.toList[i]'(by omega) := by
      obtain ⟨a⟩ := s
      have hi : i < a.size := by have : (ByteArray.mk a).size = a.size := rfl; omega
      show a[i]! = _
      rw [getElem!_pos a i hi]
      rfl
    rw [if_pos (by omega), ih (i + 1) _ (by omega), List.drop_eq_getElem_cons (show i < s.data.toList.length by omega), e, List.reverse_cons, List.append_assoc]
    rfl
theorem ba_toList (s : ByteArray) : s.toList = s.data.toList := by
  unfold ByteArray.toList
  rw [ba_loop s s.size 0 [] (by omega)]
  rfl
theorem bt_rd (s : ByteArray) (i : Nat) (h : i < s.size) : bt s (i : Int) = rd (bytesOf s) (i : Int) := by
  have hl := ba_len s
  unfold bt rd bytesOf
  rw [Int.toNat_natCast, dif_pos h, List.getD_eq_getElem?_getD, List.getElem?_map, List.getElem?_eq_getElem (by omega)]
  rfl
theorem bytes_len (s : ByteArray) : (bytesOf s).length = s.size := by unfold bytesOf; rw [List.length_map, ba_len]
theorem bytes_in (s : ByteArray) : ∀ x ∈ bytesOf s, 0 ≤ x ∧ x ≤ 255 := by
  intro x hx
  unfold bytesOf at hx
  obtain ⟨b, _, rfl⟩ := List.mem_map.1 hx
  have := b.toNat_lt
  omega
theorem count_bytes (l : List UInt8) (b : UInt8) : l.count b = (l.map fun c => (c.toNat : Int)).count ((b.toNat : Nat) : Int) := by
  induction l with
  | nil => rfl
  | cons c l ih =>
    rw [List.map_cons, List.count_cons, List.count_cons, ih]
    by_cases e : c = b
    · subst e; simp
    · have : ¬ c.toNat = b.toNat := fun g => e (UInt8.toNat_inj.1 g)
      rw [beq_eq_false_iff_ne.mpr e, beq_eq_false_iff_ne.mpr (by omega)]

/-! decimal texts of at most ten digits -/
namespace Dec
def toI (l : List UInt8) : List Int := l.map fun b => (b.toNat : Int)
theorem toI_inj : ∀ {l m : List UInt8}, toI l = toI m → l = m
  | [], [], _ => rfl
  | [], _ :: _, h => by cases h
  | _ :: _, [], h => by cases h
  | a :: l, b :: m, h => by
    simp only [toI, List.map_cons, List.cons.injEq] at h
    have h1 : a = b := UInt8.toNat_inj.1 (by omega)
    rw [h1, toI_inj h.2]
def numI (a : List Int) : Int := a.foldl (fun x d => x * 10 + (d - 48)) 0
theorem numI_snoc (a : List Int) (d : Int) : numI (a ++ [d]) = numI a * 10 + (d - 48) := by simp [numI]
def Good (a : List Int) : Prop := 1 ≤ a.length ∧ a.length ≤ 10 ∧ (∀ x ∈ a, 48 ≤ x ∧ x ≤ 57) ∧ toI (Go.Lib.decDigits (numI a).toNat) = a
open Classical in
noncomputable def dig (a : List Int) : Option Int := if Good a then some (numI a) else none
theorem dig_yes {a : List Int} (h : Good a) : dig a = some (numI a) := by unfold dig; exact if_pos h
theorem dig_no {a : List Int} (h : ¬ Good a) : dig a = none := by unfold dig; exact if_neg h
theorem dig_good {a : List Int} {n : Int} (h : dig a = some n) : Good a ∧ n = numI a := by
  by_cases c : Good a
  · rw [dig_yes c] at h; exact ⟨c, (Option.some.inj h).symm⟩
  · rw [dig_no c] at h; cases h
theorem numI_in (a : List Int) (h : ∀ x ∈ a, 48 ≤ x ∧ x ≤ 57) : 0 ≤ numI a ∧ numI a < ((10 ^ a.length : Nat) : Int) := by
  obtain ⟨n, hn⟩ : ∃ n, n = a.length := ⟨_, rfl⟩
  induction n generalizing a with
  | zero =>
    have : a = [] := List.length_eq_zero_iff.1 hn.symm
    subst this
    exact ⟨Int.le_refl _, by decide⟩
  | succ n ih =>
    rcases List.eq_nil_or_concat a with rfl | ⟨b, x, rfl⟩
    · cases hn
    · rw [List.concat_eq_append] at h hn ⊢
      rw [List.length_append, List.length_singleton] at hn
      have h1 := ih b (fun y hy => h y (by simp [hy])) (by omega)
      have h2 := h x (by simp)
      rw [numI_snoc, List.length_append, List.length_singleton, Nat.pow_succ]
      omega
theorem dig_in {a : List Int} {n : Int} (h : dig a = some n) : (∀ x ∈ a, x ≠ 40 ∧ x ≠ 41) ∧ 0 ≤ n ∧ n ≤ 9999999999 := by
  obtain ⟨⟨h1, h2, h3, _⟩, rfl⟩ := dig_good h
  have h4 := numI_in a h3
  have h5 : 10 ^ a.length ≤ 10 ^ 10 := Nat.pow_le_pow_right (by decide) h2
  have h6 : (10 : Nat) ^ 10 = 10000000000 := by decide
  exact ⟨fun x hx => by have := h3 x hx; omega, by omega, by omega⟩
theorem ofNat_to (n : Nat) (h : n < 256) : (UInt8.ofNat n).toNat = n := by
  rw [UInt8.toNat_ofNat']
  exact Nat.mod_eq_of_lt h
/-- A numeral's bytes are digits, and spell the number. -/
theorem dd_num (u : Nat) : (∀ x ∈ toI (Go.Lib.decDigits u), 48 ≤ x ∧ x ≤ 57) ∧ numI (toI (Go.Lib.decDigits u)) = (u : Int) ∧ 1 ≤ (Go.Lib.decDigits u).length := by
  induction u using Nat.strongRecOn with
  | _ u ih =>
    by_cases c : u < 10
    · rw [Go.Lib.decDigits, dif_pos c]
      have e : toI [UInt8.ofNat (48 + u)] = [((48 + u : Nat) : Int)] := by
        show [((UInt8.ofNat (48 + u)).toNat : Int)] = _
        rw [ofNat_to _ (by omega)]
      rw [e]
      refine ⟨fun x hx => by rw [List.mem_singleton.1 hx]; omega, ?_, Nat.le_refl _⟩
      show 0 * 10 + (((48 + u : Nat) : Int) - 48) = _
      omega
    · rw [Go.Lib.decDigits, dif_neg c]
      obtain ⟨i1, i2, i3⟩ := ih (u / 10) (by omega)
      have e : toI (Go.Lib.decDigits (u / 10) ++ [UInt8.ofNat (48 + u % 10)]) = toI (Go.Lib.decDigits (u / 10)) ++ [((48 + u % 10 : Nat) : Int)] := by
        show List.map _ (_ ++ [UInt8.ofNat (48 + u % 10)]) = _
        rw [List.map_append]
        show _ ++ [((UInt8.ofNat (48 + u % 10)).toNat : Int)] = _
        rw [ofNat_to _ (by omega)]
        rfl
      rw [e]
      refine ⟨fun x hx => ?_, ?_, by rw [List.length_append]; omega⟩
      · rcases List.mem_append.1 hx with hx | hx
        · exact i1 x hx
        · rw [List.mem_singleton.1 hx]; omega
      · rw [numI_snoc, i2]; omega
theorem toI_dec_good {u : Nat} (h : (Go.Lib.decDigits u).length ≤ 10) : Good (toI (Go.Lib.decDigits u)) := by
  obtain ⟨h1, h2, h3⟩ := dd_num u
  refine ⟨by unfold toI; rw [List.length_map]; exact h3, by unfold toI; rw [List.length_map]; exact h, h1, by rw [h2, Int.toNat_natCast]⟩
/-! the reference's writer -/
theorem numStr (d : Int) (h0 : 0 ≤ d) (h1 : d ≤ 9) : strOfNums [(wrap64 (48 + d)) % 256] = ⟨#[UInt8.ofNat (48 + d.toNat)]⟩ := by
  rw [wrapIn (by omega) (by omega), Int.emod_eq_of_lt (by omega) (by omega)]
  obtain ⟨n, rfl⟩ := Int.eq_ofNat_of_zero_le h0
  have hn : n ≤ 9 := by omega
  have : n = 0 ∨ n = 1 ∨ n = 2 ∨ n = 3 ∨ n = 4 ∨ n = 5 ∨ n = 6 ∨ n = 7 ∨ n = 8 ∨ n = 9 := by omega
  rcases this with rfl | rfl | rfl | rfl | rfl | rfl | rfl | rfl | rfl | rfl <;> rfl
theorem app_lists (l m : List UInt8) : (⟨l.toArray⟩ : ByteArray) ++ (⟨m.toArray⟩ : ByteArray) = ⟨(l ++ m).toArray⟩ := by
  apply ByteArray.ext
  rw [ByteArray.data_append]
  simp
theorem nd (k : Nat) : ∀ u : Nat, u < 10 ^ (k + 1) → (Go.Lib.decDigits u).length ≤ k + 1 := by
  induction k with
  | zero => intro u h; rw [Go.Lib.decDigits, dif_pos (by simpa using h)]; exact Nat.le_refl _
  | succ k ih =>
    intro u h
    by_cases c : u < 10
    · rw [Go.Lib.decDigits, dif_pos c]; simp
    · rw [Go.Lib.decDigits, dif_neg c, List.length_append]
      have := ih (u / 10) (by rw [Nat.pow_succ] at h; omega)
      simp; omega
theorem decW (u : Nat) (h : u < 10 ^ 18) : Ev (fun k => spec_l01Dec.f k (u : Int)) ⟨(Go.Lib.decDigits u).toArray⟩ := by
  induction u using Nat.strongRecOn with
  | _ u ih =>
    have h18 : (10 : Nat) ^ 18 = 1000000000000000000 := by decide
    refine evSucc ?_
    by_cases c : u < 10
    · rw [Go.Lib.decDigits, dif_pos c]
      simp only [spec_l01Dec.f, show (u : Int) < 10 by omega, if_true, numStr (u : Int) (by omega) (by omega), Int.toNat_natCast]
      exact Ev.now _
    · have hq := ih (u / 10) (by omega) (by omega)
      have e1 : wrap64 (Int.tdiv (u : Int) 10) = ((u / 10 : Nat) : Int) := by
        rw [Int.tdiv_eq_ediv_of_nonneg (by omega)]
        unfold wrap64; omega
      have e2 : Int.tmod (u : Int) 10 = ((u % 10 : Nat) : Int) := by rw [Int.tmod_eq_emod_of_nonneg (by omega)]; omega
      have hl := nd 17 (u / 10) (by omega)
      rw [Go.Lib.decDigits, dif_neg c]
      simp only [spec_l01Dec.f, show ¬ ((u : Int) < 10) by omega, if_false, e1, e2]
      refine Ev.bind hq ?_
      simp only [Option.bind_some, numStr ((u % 10 : Nat) : Int) (by omega) (by omega), Int.toNat_natCast]
      have hs : (⟨(Go.Lib.decDigits (u / 10)).toArray⟩ : ByteArray).size + (⟨#[UInt8.ofNat (48 + u % 10)]⟩ : ByteArray).size ≤ 9223372036854775807 := by
        show (Go.Lib.decDigits (u / 10)).length + 1 ≤ _
        omega
      rw [if_pos hs, show (⟨#[UInt8.ofNat (48 + u % 10)]⟩ : ByteArray) = ⟨([UInt8.ofNat (48 + u % 10)] : List UInt8).toArray⟩ from rfl, app_lists]
      exact Ev.now _
end Dec

namespace TabV
open PlanV
theorem fk_none {l : List S50} {w h b : Int} {m : Nat} (hf : impl_plan.fk l w h b m = none) (i : Nat) (hi : i < m) : ¬ ((rd_T50 l (i : Int)).f0 ≤ w ∧ (rd_T50 l (i : Int)).f1 ≤ h ∧ (rd_T50 l (i : Int)).f2 = b) := by
  intro hc
  have h1 := impl_plan.fk_not hf (show i + 1 ≤ m by omega)
  rw [impl_plan.fk, impl_plan.fk_not hf (show i ≤ m by omega)] at h1
  dsimp only at h1
  rw [if_pos hc] at h1
  cases h1
theorem fx_not {t : List Int} {w h : Nat} {b : Int} {n m : Nat} (hf : impl_plan.fx t w h b m = none) (hn : n ≤ m) : impl_plan.fx t w h b n = none := by
  cases e : impl_plan.fx t w h b n with
  | none => rfl
  | some i =>
    have := impl_plan.fx_keep e (m - n)
    rw [show n + (m - n) = m by omega, hf] at this
    cases this
theorem fy_not {t : List Int} {w h : Nat} {b : Int} {n m : Nat} (hf : impl_plan.fy t w h b m = none) (hn : n ≤ m) : impl_plan.fy t w h b n = none := by
  cases e : impl_plan.fy t w h b n with
  | none => rfl
  | some i =>
    have := impl_plan.fy_keep e (m - n)
    rw [show n + (m - n) = m by omega, hf] at this
    cases this
theorem fx_step {t : List Int} {w h : Nat} {b : Int} {x : Nat} (hx : 1 ≤ x) (hf : impl_plan.fx t w h b (x - 1) = none) : impl_plan.fx t w h b x = if wrap64 (impl_plan.at t x h + impl_plan.at t (w - x) h) = b then some x else none := by
  obtain ⟨m, rfl⟩ : ∃ m, x = m + 1 := ⟨x - 1, by omega⟩
  rw [Nat.add_sub_cancel] at hf
  rw [impl_plan.fx, hf]
theorem fy_step {t : List Int} {w h : Nat} {b : Int} {y : Nat} (hy : 1 ≤ y) (hf : impl_plan.fy t w h b (y - 1) = none) : impl_plan.fy t w h b y = if wrap64 (impl_plan.at t w y + impl_plan.at t w (h - y)) = b then some y else none := by
  obtain ⟨m, rfl⟩ : ∃ m, y = m + 1 := ⟨y - 1, by omega⟩
  rw [Nat.add_sub_cancel] at hf
  rw [impl_plan.fy, hf]
/-- A plan of value: one of its first steps is there. -/
theorem some_step {l : List S50} (hk : Ok l) {t : List Int} {w h : Nat} (hw1 : 1 ≤ w) (hw : w ≤ 40) (hh1 : 1 ≤ h) (hh : h ≤ 40) (ht : ∀ x y : Nat, 1 ≤ x → x ≤ w → 1 ≤ y → y ≤ h → impl_plan.at t x y = V (l.map toK) x y) (hn0 : V (l.map toK) w h ≠ 0)
    (hfk : impl_plan.fk l (w : Int) (h : Int) (V (l.map toK) w h) l.length = none) (hfx : impl_plan.fx t w h (V (l.map toK) w h) (w - 1) = none) (hfy : impl_plan.fy t w h (V (l.map toK) w h) (h - 1) = none) : False := by
  rcases V_is (l.map toK) hw1 hh1 with e | ⟨k, hkm, k1, k2, e⟩ | ⟨x, hx, hxw, e⟩ | ⟨y, hy, hyh, e⟩
  · exact hn0 e
  · obtain ⟨u, hu, rfl⟩ := List.mem_map.1 hkm
    obtain ⟨i, hi, rfl⟩ := List.getElem_of_mem hu
    have := fk_none hfk i hi
    rw [rd50 l i hi] at this
    exact this ⟨k1, k2, e.symm⟩
  · have h1 := fx_not hfx (show x ≤ w - 1 by omega)
    have h2 := fx_step hx (fx_not hfx (show x - 1 ≤ w - 1 by omega))
    rw [h1, ht x h hx (by omega) hh1 (Nat.le_refl _), ht (w - x) h (by omega) (by omega) hh1 (Nat.le_refl _), wrap_id (V_in hk hx hh1 (by omega) hh) (V_in hk (by omega) hh1 (by omega) hh), if_pos e.symm] at h2
    cases h2
  · have h1 := fy_not hfy (show y ≤ h - 1 by omega)
    have h2 := fy_step hy (fy_not hfy (show y - 1 ≤ h - 1 by omega))
    rw [h1, ht w y hw1 (Nat.le_refl _) hy (by omega), ht w (h - y) hw1 (Nat.le_refl _) (by omega) (by omega), wrap_id (V_in hk hw1 hy hw (by omega)) (V_in hk hw1 (by omega) hw (by omega)), if_pos e.symm] at h2
    cases h2
theorem letter (i : Nat) (hi : i < 6) : (⟨#[97, 98, 99, 100, 101, 102]⟩ : ByteArray).extract i (i + 1) = ⟨#[UInt8.ofNat (97 + i)]⟩ := by
  match i, hi with
  | 0, _ => rfl
  | 1, _ => rfl
  | 2, _ => rfl
  | 3, _ => rfl
  | 4, _ => rfl
  | 5, _ => rfl
/-- The kinds' loop. -/
theorem kloop (T : List (List Int)) (l : List S50) (hm : l.length ≤ 6) (w h : Nat) (b : Int) (r : ByteArray) (h1 : ∀ i, impl_plan.fk l (w : Int) (h : Int) b l.length = some i → r = ⟨#[UInt8.ofNat (97 + i)]⟩) (h2 : impl_plan.fk l (w : Int) (h : Int) b l.length = none → Ev (fun k => spec_l12Plan.l1 k T (w : Int) (h : Int) l b 1) r) (d : Nat) :
    ∀ i : Nat, i + d = l.length → impl_plan.fk l (w : Int) (h : Int) b i = none → Ev (fun k => spec_l12Plan.l0 k T (w : Int) (h : Int) l b (i : Int)) r := by
  induction d with
  | zero =>
    intro i hi hf
    rw [show i = l.length by omega] at hf
    refine evSucc ?_
    simp only [spec_l12Plan.l0, show ¬ ((i : Int) < (l.length : Int)) by omega, if_false]
    exact h2 hf
  | succ d ih =>
    intro i hi hf
    have hs : impl_plan.fk l (w : Int) (h : Int) b (i + 1) = if (rd_T50 l (i : Int)).f0 ≤ (w : Int) ∧ (rd_T50 l (i : Int)).f1 ≤ (h : Int) ∧ (rd_T50 l (i : Int)).f2 = b then some i else none := by rw [impl_plan.fk, hf]
    have hw := wrapNat (show i < 4611686018427387904 by omega)
    refine evSucc ?_
    by_cases g0 : (rd_T50 l (i : Int)).f0 ≤ (w : Int)
    · by_cases g1 : (rd_T50 l (i : Int)).f1 ≤ (h : Int)
      · by_cases g2 : (rd_T50 l (i : Int)).f2 = b
        · rw [if_pos ⟨g0, g1, g2⟩] at hs
          have hk := impl_plan.fk_keep hs (l.length - (i + 1))
          rw [show i + 1 + (l.length - (i + 1)) = l.length by omega] at hk
          rw [h1 i hk]
          simp only [spec_l12Plan.l0, show (i : Int) < (l.length : Int) by omega, show (0 : Int) ≤ (i : Int) by omega, if_true, g0, g1, g2, hw, show (i : Int) ≤ ((i + 1 : Nat) : Int) by omega, show ((i + 1 : Nat) : Int) ≤ 6 by omega, Int.toNat_natCast, letter i (by omega)]
          exact Ev.now _
        · rw [if_neg (fun hq => g2 hq.2.2)] at hs
          simp only [spec_l12Plan.l0, show (i : Int) < (l.length : Int) by omega, show (0 : Int) ≤ (i : Int) by omega, if_true, g0, g1, g2, if_false, hw]
          exact ih (i + 1) (by omega) hs
      · rw [if_neg (fun hq => g1 hq.2.1)] at hs
        simp only [spec_l12Plan.l0, show (i : Int) < (l.length : Int) by omega, show (0 : Int) ≤ (i : Int) by omega, if_true, g0, g1, if_false, hw]
        exact ih (i + 1) (by omega) hs
    · rw [if_neg (fun hq => g0 hq.1)] at hs
      simp only [spec_l12Plan.l0, show (i : Int) < (l.length : Int) by omega, show (0 : Int) ≤ (i : Int) by omega, if_true, g0, if_false, hw]
      exact ih (i + 1) (by omega) hs
theorem size_app (a b : ByteArray) : (a ++ b).size = a.size + b.size := ByteArray.size_append
theorem join_size (c : UInt8) (x : Nat) (p q : ByteArray) : (impl_plan.join c x p q).size = 1 + (Go.Lib.itoa (x : Int)).length + 1 + p.size + 2 + q.size + 1 := by
  unfold impl_plan.join
  simp only [size_app]
  rfl
theorem itoa_dec (x : Nat) : Go.Lib.itoa (x : Int) = Go.Lib.decDigits x := by
  unfold Go.Lib.itoa
  rw [if_neg (by omega), Int.toNat_natCast]
theorem itoa_two (x : Nat) (h : x < 100) : (Go.Lib.itoa (x : Int)).length ≤ 2 := by
  rw [itoa_dec]
  exact Dec.nd 1 x (by omega)
theorem decX (x : Nat) (h : x < 100) : Ev (fun k => spec_l01Dec.f k (x : Int)) ⟨(Go.Lib.itoa (x : Int)).toArray⟩ := by
  rw [itoa_dec]
  exact Dec.decW x (by have : (10 : Nat) ^ 18 = 1000000000000000000 := by decide
                       omega)
/-- A cut's text, as the reference puts it together. -/
theorem cutEv (c : UInt8) (x : Nat) (hx : x < 100) (p q : ByteArray) (hp : p.size ≤ 1000000000) (hq : q.size ≤ 1000000000) (F G : Nat → Option ByteArray) (hF : Ev F p) (hG : Ev G q) :
    Ev (fun k => (spec_l01Dec.f k (x : Int)).bind fun t1 => (if 1 + t1.size ≤ 9223372036854775807 then (if ((⟨#[c]⟩ : ByteArray) ++ t1).size + 1 ≤ 9223372036854775807 then ((F k).bind fun t2 => (if (((⟨#[c]⟩ : ByteArray) ++ t1) ++ (⟨#[40]⟩ : ByteArray)).size + t2.size ≤ 9223372036854775807 then (if ((((⟨#[c]⟩ : ByteArray) ++ t1) ++ (⟨#[40]⟩ : ByteArray)) ++ t2).size + 2 ≤ 9223372036854775807 then ((G k).bind fun t3 => (if (((((⟨#[c]⟩ : ByteArray) ++ t1) ++ (⟨#[40]⟩ : ByteArray)) ++ t2) ++ (⟨#[41, 40]⟩ : ByteArray)).size + t3.size ≤ 9223372036854775807 then (if ((((((⟨#[c]⟩ : ByteArray) ++ t1) ++ (⟨#[40]⟩ : ByteArray)) ++ t2) ++ (⟨#[41, 40]⟩ : ByteArray)) ++ t3).size + 1 ≤ 9223372036854775807 then (some (((((((⟨#[c]⟩ : ByteArray) ++ t1) ++ (⟨#[40]⟩ : ByteArray)) ++ t2) ++ (⟨#[41, 40]⟩ : ByteArray)) ++ t3) ++ (⟨#[41]⟩ : ByteArray))) else (none)) else (none))) else (none)) else (none))) else (none)) else (none))) (impl_plan.join c x p q) := by
  have hz := itoa_two x hx
  have hs : (⟨(Go.Lib.itoa (x : Int)).toArray⟩ : ByteArray).size = (Go.Lib.itoa (x : Int)).length := rfl
  have z1 : ((⟨#[c]⟩ : ByteArray)).size = 1 := rfl
  have z2 : ((⟨#[40]⟩ : ByteArray)).size = 1 := rfl
  have z3 : ((⟨#[41, 40]⟩ : ByteArray)).size = 2 := rfl
  have hd := decX x hx
  unfold impl_plan.join
  generalize (⟨(Go.Lib.itoa (x : Int)).toArray⟩ : ByteArray) = dd at hs hd ⊢
  have hdd : dd.size ≤ 2 := by omega
  have a1 : 1 + dd.size ≤ 9223372036854775807 := by omega
  have a2 : ((⟨#[c]⟩ : ByteArray) ++ dd).size + 1 ≤ 9223372036854775807 := by rw [size_app, z1]; omega
  have a3 : (((⟨#[c]⟩ : ByteArray) ++ dd) ++ (⟨#[40]⟩ : ByteArray)).size + p.size ≤ 9223372036854775807 := by simp only [size_app, z1, z2]; omega
  have a4 : ((((⟨#[c]⟩ : ByteArray) ++ dd) ++ (⟨#[40]⟩ : ByteArray)) ++ p).size + 2 ≤ 9223372036854775807 := by simp only [size_app, z1, z2]; omega
  have a5 : (((((⟨#[c]⟩ : ByteArray) ++ dd) ++ (⟨#[40]⟩ : ByteArray)) ++ p) ++ (⟨#[41, 40]⟩ : ByteArray)).size + q.size ≤ 9223372036854775807 := by simp only [size_app, z1, z2, z3]; omega
  have a6 : ((((((⟨#[c]⟩ : ByteArray) ++ dd) ++ (⟨#[40]⟩ : ByteArray)) ++ p) ++ (⟨#[41, 40]⟩ : ByteArray)) ++ q).size + 1 ≤ 9223372036854775807 := by simp only [size_app, z1, z2, z3]; omega
  refine Ev.bind hd ?_
  simp only [a1, a2, if_true]
  refine Ev.bind hF ?_
  simp only [a3, a4, if_true]
  refine Ev.bind hG ?_
  simp only [a5, a6, if_true]
  exact Ev.now _
end TabV
namespace TabV
open PlanV
/-- Kept from omega. -/
structure Hid (p : Prop) : Prop where
  out : p
section
variable (T : List (List Int)) (l : List S50) (W H : Nat) (hWm : W ≤ 40) (hHm : H ≤ 40) (hT : T.length = W + 1) (hR : ∀ x, x ≤ W → (spec_l12Table.rr T x).length = H + 1)
include hWm hHm hT hR
/-- The cuts across. -/
theorem xloop (w h : Nat) (hw1 : 1 ≤ w) (hw : w ≤ W) (hh1 : 1 ≤ h) (hh : h ≤ H) (t : List Int) (hta : ∀ x y : Nat, 1 ≤ x → x ≤ W → 1 ≤ y → y ≤ H → impl_plan.at t x y = rd (spec_l12Table.rr T x) (y : Int)) (b : Int) (r : ByteArray)
    (h1 : ∀ x, impl_plan.fx t w h b (w - 1) = some x → Ev (fun k => (spec_l01Dec.f k (x : Int)).bind fun t1 => (if 1 + t1.size ≤ 9223372036854775807 then (if ((⟨#[124]⟩ : ByteArray) ++ t1).size + 1 ≤ 9223372036854775807 then ((spec_l12Plan.f k T (x : Int) (h : Int) l).bind fun t2 => (if (((⟨#[124]⟩ : ByteArray) ++ t1) ++ (⟨#[40]⟩ : ByteArray)).size + t2.size ≤ 9223372036854775807 then (if ((((⟨#[124]⟩ : ByteArray) ++ t1) ++ (⟨#[40]⟩ : ByteArray)) ++ t2).size + 2 ≤ 9223372036854775807 then ((spec_l12Plan.f k T ((w - x : Nat) : Int) (h : Int) l).bind fun t3 => (if (((((⟨#[124]⟩ : ByteArray) ++ t1) ++ (⟨#[40]⟩ : ByteArray)) ++ t2) ++ (⟨#[41, 40]⟩ : ByteArray)).size + t3.size ≤ 9223372036854775807 then (if ((((((⟨#[124]⟩ : ByteArray) ++ t1) ++ (⟨#[40]⟩ : ByteArray)) ++ t2) ++ (⟨#[41, 40]⟩ : ByteArray)) ++ t3).size + 1 ≤ 9223372036854775807 then (some (((((((⟨#[124]⟩ : ByteArray) ++ t1) ++ (⟨#[40]⟩ : ByteArray)) ++ t2) ++ (⟨#[41, 40]⟩ : ByteArray)) ++ t3) ++ (⟨#[41]⟩ : ByteArray))) else (none)) else (none))) else (none)) else (none))) else (none)) else (none))) r)
    (h2 : impl_plan.fx t w h b (w - 1) = none → Ev (fun k => spec_l12Plan.l2 k T (w : Int) (h : Int) l b 1) r) (d : Nat) :
    ∀ x : Nat, 1 ≤ x → x + d = w → impl_plan.fx t w h b (x - 1) = none → Ev (fun k => spec_l12Plan.l1 k T (w : Int) (h : Int) l b (x : Int)) r := by
  have _ := hHm
  induction d with
  | zero =>
    intro x hx hd hf
    rw [show x - 1 = w - 1 by omega] at hf
    refine evSucc ?_
    simp only [spec_l12Plan.l1, show ¬ ((x : Int) < (w : Int)) by omega, if_false]
    exact h2 hf
  | succ d ih =>
    intro x hx hd hf
    have hs := fx_step (w := w) (h := h) (b := b) hx hf
    rw [hta x h hx (by omega) hh1 hh, hta (w - x) h (by omega) (by omega) hh1 hh] at hs
    have e1 : rd_L4 T (x : Int) = spec_l12Table.rr T x := rfl
    have e2 : rd_L4 T ((w - x : Nat) : Int) = spec_l12Table.rr T (w - x) := rfl
    have hw2 : Hid (wrap64 ((w : Int) - (x : Int)) = ((w - x : Nat) : Int)) := ⟨by unfold wrap64; omega⟩
    have r1 := hR x (by omega)
    have r2 := hR (w - x) (by omega)
    have hwx := Hid.mk (wrapNat (show x < 4611686018427387904 by omega))
    refine evSucc ?_
    by_cases c : wrap64 (rd (spec_l12Table.rr T x) (h : Int) + rd (spec_l12Table.rr T (w - x)) (h : Int)) = b
    · rw [if_pos c] at hs
      have hk := impl_plan.fx_keep hs (w - 1 - x)
      rw [show x + (w - 1 - x) = w - 1 by omega] at hk
      simp only [spec_l12Plan.l1, show (x : Int) < (w : Int) by omega, show (0 : Int) ≤ (x : Int) by omega, hT, show (x : Int) < ((W + 1 : Nat) : Int) by omega, show (0 : Int) ≤ (h : Int) by omega, hw2.out, e1, e2, r1, r2, show (h : Int) < ((H + 1 : Nat) : Int) by omega, show (0 : Int) ≤ ((w - x : Nat) : Int) by omega, show ((w - x : Nat) : Int) < ((W + 1 : Nat) : Int) by omega, if_true, c]
      exact h1 x hk
    · rw [if_neg c] at hs
      simp only [spec_l12Plan.l1, show (x : Int) < (w : Int) by omega, show (0 : Int) ≤ (x : Int) by omega, hT, show (x : Int) < ((W + 1 : Nat) : Int) by omega, show (0 : Int) ≤ (h : Int) by omega, hw2.out, e1, e2, r1, r2, show (h : Int) < ((H + 1 : Nat) : Int) by omega, show (0 : Int) ≤ ((w - x : Nat) : Int) by omega, show ((w - x : Nat) : Int) < ((W + 1 : Nat) : Int) by omega, if_true, c, if_false, hwx.out]
      exact ih (x + 1) (by omega) (by omega) (by rw [Nat.add_sub_cancel]; exact hs)
/-- The cuts along. -/
theorem yloop (w h : Nat) (hw1 : 1 ≤ w) (hw : w ≤ W) (hh1 : 1 ≤ h) (hh : h ≤ H) (t : List Int) (hta : ∀ x y : Nat, 1 ≤ x → x ≤ W → 1 ≤ y → y ≤ H → impl_plan.at t x y = rd (spec_l12Table.rr T x) (y : Int)) (b : Int) (r : ByteArray) (y0 : Nat) (hy0 : impl_plan.fy t w h b (h - 1) = some y0)
    (h1 : Ev (fun k => (spec_l01Dec.f k (y0 : Int)).bind fun t1 => (if 1 + t1.size ≤ 9223372036854775807 then (if ((⟨#[45]⟩ : ByteArray) ++ t1).size + 1 ≤ 9223372036854775807 then ((spec_l12Plan.f k T (w : Int) (y0 : Int) l).bind fun t2 => (if (((⟨#[45]⟩ : ByteArray) ++ t1) ++ (⟨#[40]⟩ : ByteArray)).size + t2.size ≤ 9223372036854775807 then (if ((((⟨#[45]⟩ : ByteArray) ++ t1) ++ (⟨#[40]⟩ : ByteArray)) ++ t2).size + 2 ≤ 9223372036854775807 then ((spec_l12Plan.f k T (w : Int) ((h - y0 : Nat) : Int) l).bind fun t3 => (if (((((⟨#[45]⟩ : ByteArray) ++ t1) ++ (⟨#[40]⟩ : ByteArray)) ++ t2) ++ (⟨#[41, 40]⟩ : ByteArray)).size + t3.size ≤ 9223372036854775807 then (if ((((((⟨#[45]⟩ : ByteArray) ++ t1) ++ (⟨#[40]⟩ : ByteArray)) ++ t2) ++ (⟨#[41, 40]⟩ : ByteArray)) ++ t3).size + 1 ≤ 9223372036854775807 then (some (((((((⟨#[45]⟩ : ByteArray) ++ t1) ++ (⟨#[40]⟩ : ByteArray)) ++ t2) ++ (⟨#[41, 40]⟩ : ByteArray)) ++ t3) ++ (⟨#[41]⟩ : ByteArray))) else (none)) else (none))) else (none)) else (none))) else (none)) else (none))) r) (d : Nat) :
    ∀ y : Nat, 1 ≤ y → y + d = h → impl_plan.fy t w h b (y - 1) = none → Ev (fun k => spec_l12Plan.l2 k T (w : Int) (h : Int) l b (y : Int)) r := by
  have _ := hWm
  induction d with
  | zero =>
    intro y hy hd hf
    rw [show y - 1 = h - 1 by omega, hy0] at hf
    cases hf
  | succ d ih =>
    intro y hy hd hf
    have hs := fy_step (w := w) (h := h) (b := b) hy hf
    rw [hta w y hw1 hw hy (by omega), hta w (h - y) hw1 hw (by omega) (by omega)] at hs
    have e1 : rd_L4 T (w : Int) = spec_l12Table.rr T w := rfl
    have hw2 : Hid (wrap64 ((h : Int) - (y : Int)) = ((h - y : Nat) : Int)) := ⟨by unfold wrap64; omega⟩
    have r1 := hR w hw
    have hwx := Hid.mk (wrapNat (show y < 4611686018427387904 by omega))
    refine evSucc ?_
    by_cases c : wrap64 (rd (spec_l12Table.rr T w) (y : Int) + rd (spec_l12Table.rr T w) ((h - y : Nat) : Int)) = b
    · rw [if_pos c] at hs
      have hk := impl_plan.fy_keep hs (h - 1 - y)
      rw [show y + (h - 1 - y) = h - 1 by omega, hy0] at hk
      obtain rfl := Option.some.inj hk
      simp only [spec_l12Plan.l2, show (0 : Int) ≤ (w : Int) by omega, hT, show (w : Int) < ((W + 1 : Nat) : Int) by omega, show (0 : Int) ≤ (y0 : Int) by omega, hw2.out, e1, r1, show (y0 : Int) < ((H + 1 : Nat) : Int) by omega, show (0 : Int) ≤ ((h - y0 : Nat) : Int) by omega, show ((h - y0 : Nat) : Int) < ((H + 1 : Nat) : Int) by omega, if_true, c]
      exact h1
    · rw [if_neg c] at hs
      simp only [spec_l12Plan.l2, show (0 : Int) ≤ (w : Int) by omega, hT, show (w : Int) < ((W + 1 : Nat) : Int) by omega, show (0 : Int) ≤ (y : Int) by omega, hw2.out, e1, r1, show (y : Int) < ((H + 1 : Nat) : Int) by omega, show (0 : Int) ≤ ((h - y : Nat) : Int) by omega, show ((h - y : Nat) : Int) < ((H + 1 : Nat) : Int) by omega, if_true, c, if_false, hwx.out]
      exact ih (y + 1) (by omega) (by omega) (by rw [Nat.add_sub_cancel]; exact hs)
/-- The plan of a sheet, by both. -/
theorem plan_both (hk : Ok l) (hm : l.length ≤ 6) (t : List Int) (ht : ∀ x y : Nat, 1 ≤ x → x ≤ W → 1 ≤ y → y ≤ H → impl_plan.at t x y = V (l.map toK) x y) (hS : ∀ x y : Nat, 1 ≤ x → x ≤ W → 1 ≤ y → y ≤ H → rd (spec_l12Table.rr T x) (y : Int) = V (l.map toK) x y) (n : Nat) :
    ∀ w h k : Nat, w + h ≤ n → w + h ≤ k → 1 ≤ w → w ≤ W → 1 ≤ h → h ≤ H → ∃ r, impl_plan.f t l k w h = some r ∧ Ev (fun k => spec_l12Plan.f k T (w : Int) (h : Int) l) r ∧ r.size + 7 ≤ 8 * (w * h) := by
  induction n with
  | zero => intro w h k hn; omega
  | succ n ih =>
    intro w h k hn hkk hw1 hw hh1 hh
    obtain ⟨k, rfl⟩ : ∃ m, k = m + 1 := ⟨k - 1, by omega⟩
    have hta : ∀ x y : Nat, 1 ≤ x → x ≤ W → 1 ≤ y → y ≤ H → impl_plan.at t x y = rd (spec_l12Table.rr T x) (y : Int) := fun x y a1 a2 a3 a4 => by rw [ht x y a1 a2 a3 a4, hS x y a1 a2 a3 a4]
    have e1 : rd_L4 T (w : Int) = spec_l12Table.rr T w := rfl
    have r1 := hR w hw
    have hwh : 1 ≤ w * h := Nat.mul_le_mul hw1 hh1
    have hspec : ∀ r, (V (l.map toK) w h ≠ 0 → Ev (fun k => spec_l12Plan.l0 k T (w : Int) (h : Int) l (V (l.map toK) w h) 0) r) → (V (l.map toK) w h = 0 → r = ⟨#[46]⟩) → Ev (fun k => spec_l12Plan.f k T (w : Int) (h : Int) l) r := by
      intro r g1 g2
      refine evSucc ?_
      by_cases c : V (l.map toK) w h = 0
      · rw [g2 c]
        simp only [spec_l12Plan.f, show (0 : Int) ≤ (w : Int) by omega, hT, show (w : Int) < ((W + 1 : Nat) : Int) by omega, show (0 : Int) ≤ (h : Int) by omega, e1, r1, show (h : Int) < ((H + 1 : Nat) : Int) by omega, if_true, hS w h hw1 hw hh1 hh, c]
        exact Ev.now _
      · simp only [spec_l12Plan.f, show (0 : Int) ≤ (w : Int) by omega, hT, show (w : Int) < ((W + 1 : Nat) : Int) by omega, show (0 : Int) ≤ (h : Int) by omega, e1, r1, show (h : Int) < ((H + 1 : Nat) : Int) by omega, if_true, hS w h hw1 hw hh1 hh, c, if_false]
        exact g1 c
    rw [impl_plan.f, ht w h hw1 hw hh1 hh]
    generalize hb : V (l.map toK) w h = b at hspec ⊢
    by_cases c0 : b = 0
    · refine ⟨⟨#[46]⟩, by rw [if_pos c0], hspec _ (fun g => absurd c0 g) (fun _ => rfl), ?_⟩
      show 1 + 7 ≤ _
      omega
    · rw [if_neg c0]
      cases hfk : impl_plan.fk l (w : Int) (h : Int) b l.length with
      | some i =>
        refine ⟨⟨#[UInt8.ofNat (97 + i)]⟩, rfl, hspec _ (fun _ => ?_) (fun g => absurd g c0), ?_⟩
        · exact kloop T l hm w h b _ (fun j hj => by rw [hfk] at hj; rw [Option.some.inj hj]) (fun g => by rw [hfk] at g; cases g) l.length 0 (by omega) rfl
        · show 1 + 7 ≤ _
          omega
      | none =>
        cases hfx : impl_plan.fx t w h b (w - 1) with
        | some x =>
          have hxi := impl_plan.fx_in hfx
          obtain ⟨p, p1, p2, p3⟩ := ih x h k (by omega) (by omega) hxi.1 (by omega) hh1 hh
          obtain ⟨q, q1, q2, q3⟩ := ih (w - x) h k (by omega) (by omega) (by omega) (by omega) hh1 hh
          have hmul : w * h = x * h + (w - x) * h := by rw [← Nat.add_mul]; congr 1; omega
          have hz := itoa_two x (by omega)
          have hbig : w * h ≤ 40 * 40 := Nat.mul_le_mul (by omega) (by omega)
          have hx1 : 1 ≤ x * h := Nat.mul_le_mul hxi.1 hh1
          have hx2 : 1 ≤ (w - x) * h := Nat.mul_le_mul (show 1 ≤ w - x by omega) hh1
          refine ⟨impl_plan.join 124 x p q, ?_, hspec _ (fun _ => ?_) (fun g => absurd g c0), ?_⟩
          · simp only [p1, q1, Option.bind_some]
            rw [if_pos ⟨by omega, by omega⟩]
          · exact kloop T l hm w h b _ (fun j hj => by rw [hfk] at hj; cases hj) (fun _ => xloop T l W H hWm hHm hT hR w h hw1 hw hh1 hh t hta b _ (fun x' hx' => by
              rw [hfx] at hx'
              obtain rfl := Option.some.inj hx'
              exact cutEv 124 x (by omega) p q (by omega) (by omega) _ _ p2 q2) (fun g => by rw [hfx] at g; cases g) (w - 1) 1 (Nat.le_refl _) (by omega) rfl) l.length 0 (by omega) rfl
          · rw [join_size]
            omega
        | none =>
          cases hfy : impl_plan.fy t w h b (h - 1) with
          | none => exact (some_step hk hw1 (by omega) hh1 (by omega) (fun x y a1 a2 a3 a4 => ht x y a1 (by omega) a3 (by omega)) (by rw [hb]; exact c0) (by rw [hb]; exact hfk) (by rw [hb]; exact hfx) (by rw [hb]; exact hfy)).elim
          | some y =>
            have hyi := impl_plan.fy_in hfy
            obtain ⟨p, p1, p2, p3⟩ := ih w y k (by omega) (by omega) hw1 hw hyi.1 (by omega)
            obtain ⟨q, q1, q2, q3⟩ := ih w (h - y) k (by omega) (by omega) hw1 hw (by omega) (by omega)
            have hmul : w * h = w * y + w * (h - y) := by rw [← Nat.mul_add]; congr 1; omega
            have hz := itoa_two y (by omega)
            have hbig : w * h ≤ 40 * 40 := Nat.mul_le_mul (by omega) (by omega)
            have hx1 : 1 ≤ w * y := Nat.mul_le_mul hw1 hyi.1
            have hx2 : 1 ≤ w * (h - y) := Nat.mul_le_mul hw1 (show 1 ≤ h - y by omega)
            refine ⟨impl_plan.join 45 y p q, ?_, hspec _ (fun _ => ?_) (fun g => absurd g c0), ?_⟩
            · simp only [p1, q1, Option.bind_some]
              rw [if_pos ⟨by omega, by omega⟩]
            · exact kloop T l hm w h b _ (fun j hj => by rw [hfk] at hj; cases hj) (fun _ => xloop T l W H hWm hHm hT hR w h hw1 hw hh1 hh t hta b _ (fun x' hx' => by rw [hfx] at hx'; cases hx') (fun _ => yloop T l W H hWm hHm hT hR w h hw1 hw hh1 hh t hta b _ y hfy (cutEv 45 y (by omega) p q (by omega) (by omega) _ _ p2 q2) (h - 1) 1 (Nat.le_refl _) (by omega) rfl) (w - 1) 1 (Nat.le_refl _) (by omega) rfl) l.length 0 (by omega) rfl
            · rw [join_size]
              omega
end
/-- The best plan, by both: a text of fewer than 12800 bytes. -/
theorem bestPlan_both (w h : Int) (l : List S50) (hl : l.length ≤ 1048576) : ∃ r, Ev (fun k => spec_BestPlan.f k w h l) r ∧ impl_BestPlan.f w h l = some r ∧ r.1.size ≤ 12800 := by
  unfold spec_BestPlan.f impl_BestPlan.f
  simp only [tableI, Option.bind_some]
  by_cases ht : tableV w h l = 0
  · obtain ⟨hc, W, H, rfl, rfl, hW1, hW, hH1, hH⟩ := tableV_zero ht
    have hlen := (cat_len hc).2
    have hok := ok_of_cat hc
    obtain ⟨r, h1, h2, h3⟩ := plan_both (spec_l12Table.tab l H W) l W H hW hH (spec_l12Table.tab_len l H W) (spec_l12Table.tab_row l H W) hok hlen (impl_valuesOf.tab l H W)
      (fun x y a1 a2 a3 a4 => by
        unfold impl_plan.at
        rw [tab_at hok hH hW a2 a4, if_pos ⟨a1, a3⟩])
      (fun x y a1 a2 a3 a4 => by rw [stab_at hok hH W hW x y a2 a4, if_pos ⟨a1, a3⟩]) (W + H) W H (W + H) (Nat.le_refl _) (Nat.le_refl _) hW1 (Nat.le_refl _) hH1 (Nat.le_refl _)
    have hbig : W * H ≤ 40 * 40 := Nat.mul_le_mul hW hH
    refine ⟨(r, 0), Ev.bind (tableS _ _ l hl) ?_, ?_, by show r.size ≤ _; omega⟩
    · have hif : 0 ≤ (W : Int) ∧ (W : Int) ≤ 40 ∧ 0 ≤ (H : Int) ∧ (H : Int) ≤ 40 ∧ l.length ≤ 1000000 := by omega
      simp only [ht, if_true]
      unfold spec_l12Table.f
      rw [if_pos hif]
      simp only [Option.bind_some, Int.toNat_natCast]
      refine Ev.bind h2 ?_
      exact Ev.now _
    · rw [if_pos ht, if_pos (by omega)]
      simp only [Int.toNat_natCast, h1, Option.bind_some]
  · refine ⟨(⟨#[]⟩, tableV w h l), Ev.bind (tableS w h l hl) ?_, by rw [if_neg ht], by show (⟨#[]⟩ : ByteArray).size ≤ 12800; decide⟩
    simp only [ht, if_false]
    exact Ev.now _
end TabV

theorem FnExactBestPlan : laws_FnExactBestPlan.Pure := by
  intro w h l _ _ _ hm _
  refine Ev.rounds ?_
  unfold laws_FnExactBestPlan.f
  by_cases hl : l.length ≤ 1048576
  · have hl' : (l.map convKind).length ≤ 1048576 := by rw [List.length_map]; exact hl
    simp only [szKindS_ok l hl, Option.bind_some, show ¬ (1048576 - (l.length : Int) < 0) by omega, if_false]
    obtain ⟨r, h1, h2, _⟩ := TabV.bestPlan_both w h (l.map convKind) hl'
    refine Ev.bind (toKindS l hl) (Ev.bind h1 (Ev.bind (toKindS l hl) ?_))
    simp only [h2, Option.bind_some, bne_self_eq_false, if_true]
    refine evSucc ?_
    simp only [laws_FnExactBestPlan.j0, Bool.false_eq_true, if_false]
    refine Ev.bind (toKindS l hl) (Ev.bind (eqKindS _ hl') ?_)
    simp only [if_true]
    exact Ev.now _
  · simp only [szKindS_big l (by omega) hm, Option.bind_some, show (-1 : Int) < 0 by decide, if_true]
    exact Ev.now _

end Go.Proofs.YtomddpdfcdnaaaaDoor.Pure
