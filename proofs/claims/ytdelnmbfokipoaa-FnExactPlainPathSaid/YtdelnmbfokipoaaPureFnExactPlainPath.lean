/- The program and the reference sew the same plain path, for every two int64, and a first answer outlives a second call. -/
import Derived.Test.YtdelnmbfokipoaaSayFnExactPlainPath
namespace Go.Proofs.Ytdelnmbfokipoaa.Pure
open Go.RowKit Go.Proofs.Ytdelnmbfokipoaa.PFnExactPlainPath Go.Proofs.YtdelnmbfokipoaaW.PrintWords Go.Proofs.YtdelnmbfokipoaaW.PrintLast
-- BEGIN
/-- A proposition as a bool. -/
noncomputable def B (p : Prop) : Bool := @decide p (Classical.propDecidable p)
theorem B_iff {p : Prop} : B p = true ↔ p := by unfold B; exact @decide_eq_true_iff p (Classical.propDecidable p)
theorem B_true {p : Prop} (h : p) : B p = true := B_iff.2 h
theorem B_false {p : Prop} (h : ¬ p) : B p = false := by cases e : B p with | false => rfl | true => exact absurd (B_iff.1 e) h
theorem B_congr {p q : Prop} (h : p ↔ q) : B p = B q := by rw [propext h]
theorem B_dec (p : Prop) [Decidable p] : B p = decide p := by by_cases h : p <;> simp [h, B_true, B_false]
theorem B_and (p q : Prop) : (B p && B q) = B (p ∧ q) := by
  by_cases hp : p <;> by_cases hq : q <;> simp [B_true, B_false, hp, hq]
theorem B_not (p : Prop) : (!B p) = B (¬ p) := by by_cases hp : p <;> simp [B_true, B_false, hp]
theorem evSucc {α : Type} {g : Nat → Option α} {r : α} (h : Ev (fun k => g (k + 1)) r) : Ev g r := Ev.step (fun _ => rfl) h
theorem evNow {α : Type} {g : Nat → Option α} {r : α} (h : ∀ k, g k = some r) : Ev g r := ⟨0, fun k _ => h k⟩
theorem evCount {σ α : Type} (F : Nat → σ → Int → Option α) (i0 n : Nat) (S : Nat → σ) (r : α)
    (hstep : ∀ i, i0 ≤ i → i < n → Ev (fun k => F k (S (i + 1)) ((i + 1 : Nat) : Int)) r → Ev (fun k => F k (S i) (i : Int)) r) (hend : Ev (fun k => F k (S n) (n : Int)) r) (hle : i0 ≤ n) : Ev (fun k => F k (S i0) (i0 : Int)) r := by
  have key : ∀ d i, i0 ≤ i → i + d = n → Ev (fun k => F k (S i) (i : Int)) r := by
    intro d
    induction d with
    | zero =>
      intro i _ hi
      have h0 : i = n := by omega
      subst h0
      exact hend
    | succ d ih => intro i h0 hi; exact hstep i h0 (by omega) (ih (i + 1) (by omega) (by omega))
  exact key (n - i0) i0 (Nat.le_refl _) (by omega)
/-- A loop that leaves at the first place where G fails. -/
theorem evAll (F : Nat → Int → Option Bool) (i0 n : Nat) (G : Nat → Prop)
    (hstep : ∀ i, i0 ≤ i → i < n → G i → ∀ r, Ev (fun k => F k ((i + 1 : Nat) : Int)) r → Ev (fun k => F k (i : Int)) r) (hbad : ∀ i, i0 ≤ i → i < n → ¬ G i → Ev (fun k => F k (i : Int)) false) (e : Bool) (hend : Ev (fun k => F k (n : Int)) e) (hle : i0 ≤ n) :
    Ev (fun k => F k (i0 : Int)) (B (∀ j, i0 ≤ j → j < n → G j) && e) := by
  have key : ∀ d i, i0 ≤ i → i + d = n → Ev (fun k => F k (i : Int)) (B (∀ j, i ≤ j → j < n → G j) && e) := by
    intro d
    induction d with
    | zero =>
      intro i _ hi
      have h0 : i = n := by omega
      subst h0
      rw [B_true (fun j h1 h2 => absurd h2 (by omega)), Bool.true_and]
      exact hend
    | succ d ih =>
      intro i h0 hi
      by_cases hg : G i
      · have h1 : B (∀ j, i ≤ j → j < n → G j) = B (∀ j, i + 1 ≤ j → j < n → G j) := B_congr ⟨fun h j a b => h j (by omega) b, fun h j a b => by
          by_cases e : j = i
          · subst e; exact hg
          · exact h j (by omega) b⟩
        rw [h1]
        exact hstep i h0 (by omega) hg _ (ih (i + 1) (by omega) (by omega))
      · rw [B_false (fun h => hg (h i (Nat.le_refl _) (by omega))), Bool.false_and]
        exact hbad i h0 (by omega) hg
  exact key (n - i0) i0 (Nat.le_refl _) (by omega)
theorem wrapNat {i : Nat} (h : i < 4611686018427387904) : wrap64 ((i : Int) + 1) = ((i + 1 : Nat) : Int) := by
  unfold wrap64; omega
theorem wrapPred {i : Nat} (h0 : 1 ≤ i) (h : i < 4611686018427387904) : wrap64 ((i : Int) - 1) = ((i - 1 : Nat) : Int) := by
  unfold wrap64; omega
theorem rdN (xs : List Int) (i : Nat) (h : i < xs.length) : rd xs (i : Int) = xs[i] := by
  simp [rd, List.getD_eq_getElem?_getD, List.getElem?_eq_getElem h]
theorem fillStep {α : Type} (xs : List α) (z : α) (i : Nat) (h : i < xs.length) : (xs.take i ++ List.replicate (xs.length - i) z).set i xs[i] = xs.take (i + 1) ++ List.replicate (xs.length - (i + 1)) z := by
  have h1 : xs.length - i = (xs.length - (i + 1)) + 1 := by omega
  rw [h1, List.replicate_succ, List.set_append_right _ _ (by rw [List.length_take]; omega)]
  rw [List.length_take, Nat.min_eq_left (by omega), Nat.sub_self, List.set_cons_zero, List.take_succ_eq_append_getElem h, List.append_assoc]
  rfl
theorem fillLen {α : Type} (xs : List α) (z : α) (i : Nat) (h : i ≤ xs.length) : (xs.take i ++ List.replicate (xs.length - i) z).length = xs.length := by
  simp; omega

theorem wrapIn {x : Int} (h0 : -9223372036854775808 ≤ x) (h1 : x ≤ 9223372036854775807) : wrap64 x = x := by
  unfold wrap64; omega

theorem rd65 (xs : List S65) (i : Nat) (h : i < xs.length) : rd_T65 xs (i : Int) = xs[i] := by
  simp [rd_T65, List.getD_eq_getElem?_getD, List.getElem?_eq_getElem h]

def plainAt (n s h : Nat) : S65 := ⟨(s : Int), if s % 2 = 1 then (n : Int) - 1 - (h : Int) else (h : Int), (Int.tmod (h : Int) 2) == 0⟩
def plainL (n m : Nat) : List S65 := (List.range m).map fun i => plainAt n (i / n) (i % n)
theorem plain_len (n m : Nat) : (plainL n m).length = m := by simp [plainL]
theorem plain_step (n s h : Nat) (hh : h < n) : plainL n (s * n + h) ++ [plainAt n s h] = plainL n (s * n + (h + 1)) := by
  have e1 : (s * n + h) / n = s := by
    rw [Nat.add_comm, Nat.add_mul_div_right _ _ (by omega), Nat.div_eq_of_lt hh, Nat.zero_add]
  have e2 : (s * n + h) % n = h := by
    rw [Nat.add_comm, Nat.add_mul_mod_self_right, Nat.mod_eq_of_lt hh]
  unfold plainL
  rw [← Nat.add_assoc, List.range_succ, List.map_append, List.map_singleton, e1, e2]
theorem plain_get (n m i : Nat) (h : i < m) : rd_T65 (plainL n m) (i : Int) = plainAt n (i / n) (i % n) := by
  rw [rd65 _ _ (by rw [plain_len]; exact h)]
  simp [plainL]
theorem tmod2 (s : Nat) : Int.tmod (s : Int) 2 = ((s % 2 : Nat) : Int) := rfl
theorem sn_le {n c s h : Nat} (hn : n ≤ 12) (hc : c ≤ 40) (hs : s < c) (hh : h < n) : s * n + h < 480 := by
  have : s * n ≤ 39 * 12 := Nat.mul_le_mul (by omega) hn
  omega
theorem plainI (n c : Nat) (hn : n ≤ 12) (hc : c ≤ 40) : Ev (fun k => impl_plainPath.f k (n : Int) (c : Int)) (plainL n (c * n)) := by
  unfold impl_plainPath.f
  have := evCount (fun k (l : List S65) i => impl_plainPath.l0 k (n : Int) l (c : Int) i) 0 c (fun s => plainL n (s * n)) (plainL n (c * n)) ?_ ?_ (Nat.zero_le _)
  · simpa [plainL] using this
  · intro s _ hs hr
    refine evSucc ?_
    simp only [impl_plainPath.l0, show (s : Int) < (c : Int) by omega, if_true]
    have := evCount (fun k (l : List S65) i => impl_plainPath.l1 k (n : Int) l (s : Int) (c : Int) (s : Int) (n : Int) i) 0 n (fun h => plainL n (s * n + h)) (plainL n (c * n)) ?_ ?_ (Nat.zero_le _)
    · simpa using this
    · intro h _ hh hr
      refine evSucc ?_
      have hb := sn_le hn hc hs hh
      have e := plain_step n s h hh
      unfold plainAt at e
      rw [← e] at hr
      by_cases h2 : s % 2 = 1
      · simp only [h2, if_true] at hr
        simp only [impl_plainPath.l1, show (h : Int) < (n : Int) by omega, tmod2 s, h2, plain_len, show s * n + h < 5864062014805 by omega, show ((1 : Nat) : Int) = 1 from rfl, if_true, wrapNat (show h < 4611686018427387904 by omega)]
        rw [wrapIn (x := (n : Int) - 1) (by omega) (by omega), wrapIn (x := (n : Int) - 1 - (h : Int)) (by omega) (by omega)]
        exact hr
      · simp only [h2, if_false] at hr
        simp only [impl_plainPath.l1, show (h : Int) < (n : Int) by omega, tmod2 s, show ¬ (((s % 2 : Nat) : Int) = 1) by omega, plain_len, show s * n + h < 5864062014805 by omega, if_true, if_false, wrapNat (show h < 4611686018427387904 by omega)]
        exact hr
    · refine evSucc ?_
      simp only [impl_plainPath.l1, Int.lt_irrefl, if_false, wrapNat (show s < 4611686018427387904 by omega)]
      rw [← Nat.succ_mul]
      exact hr
  · refine evSucc ?_
    simp only [impl_plainPath.l0, Int.lt_irrefl, if_false]
    exact Ev.now _
theorem plainS (n c : Nat) (hn : n ≤ 12) (hc : c ≤ 40) : Ev (fun k => spec_l16Plain.f k (n : Int) (c : Int)) (plainL n (c * n)) := by
  unfold spec_l16Plain.f
  have := evCount (fun k (l : List S65) i => spec_l16Plain.l0 k (n : Int) (c : Int) l i) 0 c (fun s => plainL n (s * n)) (plainL n (c * n)) ?_ ?_ (Nat.zero_le _)
  · simpa [plainL] using this
  · intro s _ hs hr
    refine evSucc ?_
    simp only [spec_l16Plain.l0, show (s : Int) < (c : Int) by omega, if_true]
    have := evCount (fun k (l : List S65) i => spec_l16Plain.l1 k (n : Int) (c : Int) l (s : Int) i) 0 n (fun h => plainL n (s * n + h)) (plainL n (c * n)) ?_ ?_ (Nat.zero_le _)
    · simpa using this
    · intro h _ hh hr
      refine evSucc ?_
      have hb := sn_le hn hc hs hh
      have e := plain_step n s h hh
      unfold plainAt at e
      rw [← e] at hr
      by_cases h2 : s % 2 = 1
      · simp only [h2, if_true] at hr
        simp only [spec_l16Plain.l1, show (h : Int) < (n : Int) by omega, tmod2 s, h2, plain_len, show s * n + h < 5864062014805 by omega, show ((1 : Nat) : Int) = 1 from rfl, if_true, wrapNat (show h < 4611686018427387904 by omega)]
        rw [wrapIn (x := (n : Int) - 1) (by omega) (by omega), wrapIn (x := (n : Int) - 1 - (h : Int)) (by omega) (by omega)]
        exact hr
      · simp only [h2, if_false] at hr
        simp only [spec_l16Plain.l1, show (h : Int) < (n : Int) by omega, tmod2 s, show ¬ (((s % 2 : Nat) : Int) = 1) by omega, plain_len, show s * n + h < 5864062014805 by omega, if_true, if_false, wrapNat (show h < 4611686018427387904 by omega)]
        exact hr
    · refine evSucc ?_
      simp only [spec_l16Plain.l1, Int.lt_irrefl, if_false, wrapNat (show s < 4611686018427387904 by omega)]
      rw [← Nat.succ_mul]
      exact hr
  · refine evSucc ?_
    simp only [spec_l16Plain.l0, Int.lt_irrefl, if_false]
    exact Ev.now _

def smark (j : Nat) : S65 := ⟨3 * (j : Int) + 1, 3 * (j : Int) + 2, (Int.tmod (3 * (j : Int) + 3) 3) == 0⟩
def smarks (i : Nat) : List S65 := (List.range i).map smark
theorem smarks_len (i : Nat) : (smarks i).length = i := by simp [smarks]
theorem smarks_get (n i : Nat) (h : i < n) : rd_T65 (smarks n) (i : Int) = smark i := by
  rw [rd65 _ _ (by rw [smarks_len]; exact h)]
  simp [smarks]
theorem set_smarks (l : List S65) (i : Nat) (h : i < l.length) (x : S65) (hx : x = smark i) : (smarks i ++ l.drop i).set i x = smarks (i + 1) ++ l.drop (i + 1) := by
  rw [List.set_append_right _ _ (by rw [smarks_len]; omega), smarks_len, Nat.sub_self, List.drop_eq_getElem_cons h, List.set_cons_zero, hx]
  simp [smarks, List.range_succ]
theorem rd_set (l : List S65) (i : Nat) (h : i < l.length) (x : S65) : rd_T65 (l.set i x) (i : Int) = x := by
  rw [rd65 _ _ (by rw [List.length_set]; exact h), List.getElem_set_self]
theorem markStitchS (l : List S65) (h : l.length ≤ 1048576) : Ev (fun k => laws_markStitchS.f k l 1) (3 * (l.length : Int) + 1, smarks l.length) := by
  unfold laws_markStitchS.f
  have := evCount (fun k (s : List S65 × Int) i => laws_markStitchS.l0 k s.1 s.2 i) 0 l.length (fun i => (smarks i ++ l.drop i, 3 * (i : Int) + 1)) (3 * (l.length : Int) + 1, smarks l.length) ?_ ?_ (Nat.zero_le _)
  · simpa [smarks] using this
  · intro i _ hi hr
    refine evSucc ?_
    have hl : (smarks i ++ l.drop i).length = l.length := by simp [smarks_len]; omega
    have hli : i < (smarks i ++ l.drop i).length := by omega
    simp only [laws_markStitchS.l0, hl, show (i : Int) < (l.length : Int) by omega, show (0 : Int) ≤ (i : Int) by omega, if_true, Int.toNat_natCast, Option.bind_some, wrapNat (show i < 4611686018427387904 by omega)]
    rw [rd_set _ _ hli, rd_set _ _ (by rw [List.length_set]; exact hli), List.set_set, List.set_set]
    rw [wrapIn (x := 3 * (i : Int) + 1 + 1) (by omega) (by omega), wrapIn (x := 3 * (i : Int) + 1 + 1 + 1) (by omega) (by omega), wrapIn (x := 3 * (i : Int) + 1 + 1 + 1 + 1) (by omega) (by omega)]
    rw [set_smarks l i hi _ (by simp only [smark, S65.mk.injEq]; refine ⟨trivial, by omega, ?_⟩; rw [show 3 * (i : Int) + 1 + 1 + 1 = 3 * (i : Int) + 3 by omega])]
    simp only [show 3 * ((i + 1 : Nat) : Int) + 1 = 3 * (i : Int) + 1 + 1 + 1 + 1 by omega] at hr
    exact hr
  · refine evSucc ?_
    have hl : (smarks l.length ++ l.drop l.length).length = l.length := by simp [smarks_len]
    simp only [laws_markStitchS.l0, hl, Int.lt_irrefl, if_false]
    rw [List.drop_length, List.append_nil]
    exact Ev.now _
theorem heldStitchS (n : Nat) (h : n ≤ 1048576) : Ev (fun k => laws_heldStitchS.f k (smarks n) 1) (3 * (n : Int) + 1) := by
  unfold laws_heldStitchS.f
  have := evCount (fun k (s : Int) i => laws_heldStitchS.l0 k (smarks n) s i) 0 n (fun i => 3 * (i : Int) + 1) (3 * (n : Int) + 1) ?_ ?_ (Nat.zero_le _)
  · simpa using this
  · intro i _ hi hr
    refine evSucc ?_
    simp only [laws_heldStitchS.l0, smarks_len, show (i : Int) < (n : Int) by omega, show (0 : Int) ≤ (i : Int) by omega, if_true, smarks_get n i hi, smark, wrapNat (show i < 4611686018427387904 by omega)]
    rw [wrapIn (x := 3 * (i : Int) + 1 + 1) (by omega) (by omega), wrapIn (x := 3 * (i : Int) + 1 + 1 + 1) (by omega) (by omega), wrapIn (x := 3 * (i : Int) + 1 + 1 + 1 + 1) (by omega) (by omega)]
    simp only [show 3 * (i : Int) + 1 + 1 = 3 * (i : Int) + 2 by omega, show 3 * (i : Int) + 2 + 1 = 3 * (i : Int) + 3 by omega, if_true, bne_self_eq_false, Bool.false_eq_true, if_false]
    simp only [show 3 * ((i + 1 : Nat) : Int) + 1 = 3 * (i : Int) + 3 + 1 by omega] at hr
    exact hr
  · refine evSucc ?_
    simp only [laws_heldStitchS.l0, smarks_len, Int.lt_irrefl, if_false]
    exact Ev.now _

theorem eqStitchS (l : List S65) (h : l.length ≤ 1048576) : Ev (fun k => laws_eqStitchS.f k l l) true := by
  unfold laws_eqStitchS.f
  simp only [if_true]
  have he : ∀ x : S65, laws_eqStitch.f x.f0 x.f1 x.f2 x.f0 x.f1 x.f2 = some true := by intro x; simp [laws_eqStitch.f]
  have := evAll (fun k i => laws_eqStitchS.l0 k l l i) 0 l.length (fun _ => True) ?_ (fun i _ hi hn => absurd trivial hn) true ?_ (Nat.zero_le _)
  · simpa [B_true] using this
  · intro i _ hi _ r h
    refine evSucc ?_
    have h1 : (i : Int) < (l.length : Int) := by omega
    have h2 : (0 : Int) ≤ (i : Int) := by omega
    simp only [laws_eqStitchS.l0, h1, h2, if_true, he, Option.bind_some, wrapNat (show i < 4611686018427387904 by omega)]
    exact h
  · refine evSucc ?_
    simp only [laws_eqStitchS.l0, Int.lt_irrefl, if_false]
    exact Ev.now _

theorem inS (a b c : Int) : spec_l01In.f a b c = some (decide (b ≤ a ∧ a ≤ c)) := by
  unfold spec_l01In.f
  by_cases h : b ≤ a <;> simp [h]

theorem inI (a b c : Int) : impl_inRange.f a b c = some (decide (b ≤ a ∧ a ≤ c)) := by
  unfold impl_inRange.f
  by_cases h : b ≤ a <;> simp [h]

def sewnB (n c : Int) : Bool := decide (2 ≤ n ∧ n ≤ 12) && decide (1 ≤ c ∧ c ≤ 40)
theorem sewnS (n c : Int) : spec_l16Fits.f n c = some (sewnB n c) := by
  unfold spec_l16Fits.f sewnB
  simp only [inS, Option.bind_some]
  by_cases h1 : (2 ≤ n ∧ n ≤ 12) <;> simp [h1]
theorem sewnI (n c : Int) : impl_isSewn.f n c = some (sewnB n c) := by
  unfold impl_isSewn.f sewnB
  simp only [inI, Option.bind_some]
  by_cases h1 : (2 ≤ n ∧ n ≤ 12) <;> simp [h1]
theorem sewn_of {n c : Int} (h : sewnB n c = true) : ∃ a b : Nat, n = (a : Int) ∧ c = (b : Int) ∧ 2 ≤ a ∧ a ≤ 12 ∧ 1 ≤ b ∧ b ≤ 40 := by
  simp only [sewnB, Bool.and_eq_true, decide_eq_true_eq] at h
  exact ⟨n.toNat, c.toNat, by omega, by omega, by omega, by omega, by omega, by omega⟩
theorem path_both (n c : Int) : ∃ l e, l.length ≤ 480 ∧ Ev (fun k => spec_PlainPath.f k n c) (l, e) ∧ Ev (fun k => impl_PlainPath.f k n c) (l, e) := by
  unfold spec_PlainPath.f impl_PlainPath.f
  simp only [sewnS, sewnI, Option.bind_some]
  by_cases h : sewnB n c = true
  · obtain ⟨a, b, rfl, rfl, h1, h2, h3, h4⟩ := sewn_of h
    simp only [h, if_true]
    by_cases h5 : Int.tmod (a : Int) 2 = 1
    · simp only [h5, if_true]
      exact ⟨[], 5, by simp, Ev.now _, Ev.now _⟩
    · simp only [h5, if_false]
      refine ⟨_, 0, ?_, Ev.bind (plainS a b h2 h4) (Ev.now _), Ev.bind (plainI a b h2 h4) (Ev.now _)⟩
      rw [plain_len]
      have := Nat.mul_le_mul h4 h2
      omega
  · simp only [h, if_false, Bool.false_eq_true]
    exact ⟨[], 2, by simp, Ev.now _, Ev.now _⟩
theorem FnExactPlainPath : laws_FnExactPlainPath.Pure := by
  intro n c _ _
  refine Ev.rounds ?_
  obtain ⟨l, e, hl, hs, hi⟩ := path_both n c
  unfold laws_FnExactPlainPath.f
  have hl : l.length ≤ 1048576 := by omega
  refine Ev.bind hs (Ev.bind hi (Ev.bind (eqStitchS l hl) ?_))
  simp only [if_true, bne_self_eq_false]
  refine evSucc ?_
  simp only [laws_FnExactPlainPath.j0, Bool.false_eq_true, if_false]
  refine Ev.bind (markStitchS l hl) (Ev.bind (heldStitchS _ hl) ?_)
  simp only [show ¬ (3 * (l.length : Int) + 1 < 0) by omega, if_false, if_true]
  refine Ev.bind hi (Ev.bind (eqStitchS l hl) ?_)
  simp only [if_true, bne_self_eq_false]
  refine evSucc ?_
  simp only [laws_FnExactPlainPath.j1, Bool.false_eq_true, if_false]
  refine Ev.bind (heldStitchS _ hl) ?_
  simp only [show ¬ (3 * (l.length : Int) + 1 < 0) by omega, if_false, if_true]
  exact Ev.now _

end Go.Proofs.Ytdelnmbfokipoaa.Pure
