/- The program and the reference tell the same near codes, for every int64; what is handed back is the caller's own. -/
import Derived.Test.YtnnglnphkbpemaaSayFnExactNearCodes
namespace Go.Proofs.Ytnnglnphkbpemaa.Pure
open Go.RowKit Go.Proofs.Ytnnglnphkbpemaa.PFnExactNearCodes Go.Proofs.YtnnglnphkbpemaaW.PrintWords Go.Proofs.YtnnglnphkbpemaaW.PrintLast
set_option linter.unusedVariables false
set_option linter.unusedSimpArgs false
-- BEGIN
/-- A proposition as a bool. -/
noncomputable def B (p : Prop) : Bool := @decide p (Classical.propDecidable p)
theorem B_iff {p : Prop} : B p = true ↔ p := by unfold B; exact @decide_eq_true_iff p (Classical.propDecidable p)
theorem B_true {p : Prop} (h : p) : B p = true := B_iff.2 h
theorem B_false {p : Prop} (h : ¬ p) : B p = false := by cases e : B p with | false => rfl | true => exact absurd (B_iff.1 e) h
theorem B_congr {p q : Prop} (h : p ↔ q) : B p = B q := by rw [propext h]
theorem B_dec (p : Prop) [Decidable p] : B p = decide p := by by_cases h : p <;> simp [h, B_true, B_false]
theorem B_and (p q : Prop) : (B p && B q) = B (p ∧ q) := by
  by_cases hp : p <;> by_cases hq : q <;> simp [B_true, B_false, hp, hq]
theorem B_not (p : Prop) : (!B p) = B (¬ p) := by by_cases hp : p <;> simp [B_true, B_false, hp]
theorem evSucc {α : Type} {g : Nat → Option α} {r : α} (h : Ev (fun k => g (k + 1)) r) : Ev g r := Ev.step (fun _ => rfl) h
theorem evNow {α : Type} {g : Nat → Option α} {r : α} (h : ∀ k, g k = some r) : Ev g r := ⟨0, fun k _ => h k⟩
theorem evCount {σ α : Type} (F : Nat → σ → Int → Option α) (i0 n : Nat) (S : Nat → σ) (r : α)
    (hstep : ∀ i, i0 ≤ i → i < n → Ev (fun k => F k (S (i + 1)) ((i + 1 : Nat) : Int)) r → Ev (fun k => F k (S i) (i : Int)) r) (hend : Ev (fun k => F k (S n) (n : Int)) r) (hle : i0 ≤ n) : Ev (fun k => F k (S i0) (i0 : Int)) r := by
  have key : ∀ d i, i0 ≤ i → i + d = n → Ev (fun k => F k (S i) (i : Int)) r := by
    intro d
    induction d with
    | zero =>
      intro i _ hi
      have h0 : i = n := by omega
      subst h0
      exact hend
    | succ d ih => intro i h0 hi; exact hstep i h0 (by omega) (ih (i + 1) (by omega) (by omega))
  exact key (n - i0) i0 (Nat.le_refl _) (by omega)
/-- A loop that leaves at the first place where G fails. -/
theorem evAll (F : Nat → Int → Option Bool) (i0 n : Nat) (G : Nat → Prop)
    (hstep : ∀ i, i0 ≤ i → i < n → G i → ∀ r, Ev (fun k => F k ((i + 1 : Nat) : Int)) r → Ev (fun k => F k (i : Int)) r) (hbad : ∀ i, i0 ≤ i → i < n → ¬ G i → Ev (fun k => F k (i : Int)) false) (e : Bool) (hend : Ev (fun k => F k (n : Int)) e) (hle : i0 ≤ n) :
    Ev (fun k => F k (i0 : Int)) (B (∀ j, i0 ≤ j → j < n → G j) && e) := by
  have key : ∀ d i, i0 ≤ i → i + d = n → Ev (fun k => F k (i : Int)) (B (∀ j, i ≤ j → j < n → G j) && e) := by
    intro d
    induction d with
    | zero =>
      intro i _ hi
      have h0 : i = n := by omega
      subst h0
      rw [B_true (fun j h1 h2 => absurd h2 (by omega)), Bool.true_and]
      exact hend
    | succ d ih =>
      intro i h0 hi
      by_cases hg : G i
      · have h1 : B (∀ j, i ≤ j → j < n → G j) = B (∀ j, i + 1 ≤ j → j < n → G j) := B_congr ⟨fun h j a b => h j (by omega) b, fun h j a b => by
          by_cases e : j = i
          · subst e; exact hg
          · exact h j (by omega) b⟩
        rw [h1]
        exact hstep i h0 (by omega) hg _ (ih (i + 1) (by omega) (by omega))
      · rw [B_false (fun h => hg (h i (Nat.le_refl _) (by omega))), Bool.false_and]
        exact hbad i h0 (by omega) hg
  exact key (n - i0) i0 (Nat.le_refl _) (by omega)
theorem wrapNat {i : Nat} (h : i < 4611686018427387904) : wrap64 ((i : Int) + 1) = ((i + 1 : Nat) : Int) := by
  unfold wrap64; omega
theorem wrapPred {i : Nat} (h0 : 1 ≤ i) (h : i < 4611686018427387904) : wrap64 ((i : Int) - 1) = ((i - 1 : Nat) : Int) := by
  unfold wrap64; omega
theorem rdN (xs : List Int) (i : Nat) (h : i < xs.length) : rd xs (i : Int) = xs[i] := by
  simp [rd, List.getD_eq_getElem?_getD, List.getElem?_eq_getElem h]
theorem fillStep {α : Type} (xs : List α) (z : α) (i : Nat) (h : i < xs.length) : (xs.take i ++ List.replicate (xs.length - i) z).set i xs[i] = xs.take (i + 1) ++ List.replicate (xs.length - (i + 1)) z := by
  have h1 : xs.length - i = (xs.length - (i + 1)) + 1 := by omega
  rw [h1, List.replicate_succ, List.set_append_right _ _ (by rw [List.length_take]; omega)]
  rw [List.length_take, Nat.min_eq_left (by omega), Nat.sub_self, List.set_cons_zero, List.take_succ_eq_append_getElem h, List.append_assoc]
  rfl
theorem fillLen {α : Type} (xs : List α) (z : α) (i : Nat) (h : i ≤ xs.length) : (xs.take i ++ List.replicate (xs.length - i) z).length = xs.length := by
  simp; omega

theorem wrapIn {x : Int} (h0 : -9223372036854775808 ≤ x) (h1 : x ≤ 9223372036854775807) : wrap64 x = x := by
  unfold wrap64; omega

/-- Two rising lists with the same elements are one list. -/
theorem rising_perm : ∀ (l1 l2 : List Int), l1.Perm l2 → l1.Pairwise (· ≤ ·) → l2.Pairwise (· ≤ ·) → l1 = l2
  | [], l2, hp, _, _ => (List.Perm.nil_eq hp)
  | a :: l1, [], hp, _, _ => absurd hp.length_eq (by simp)
  | a :: l1, b :: l2, hp, h1, h2 => by
    have ha : a ∈ b :: l2 := hp.subset (List.mem_cons_self ..)
    have hb : b ∈ a :: l1 := hp.symm.subset (List.mem_cons_self ..)
    have e : a = b := by
      rcases List.mem_cons.1 ha with rfl | ha
      · rfl
      · rcases List.mem_cons.1 hb with rfl | hb
        · rfl
        · have x1 := (List.pairwise_cons.1 h1).1 b hb
          have x2 := (List.pairwise_cons.1 h2).1 a ha
          omega
    subst e
    rw [rising_perm l1 l2 ((List.perm_cons a).1 hp) (List.pairwise_cons.1 h1).2 (List.pairwise_cons.1 h2).2]
/-- m put into a list at its place. -/
def insAt (m : Int) : List Int → List Int
  | [] => [m]
  | x :: l => if x < m then x :: insAt m l else m :: x :: l
theorem insAt_perm (m : Int) : ∀ l, (insAt m l).Perm (m :: l)
  | [] => List.Perm.refl _
  | x :: l => by
    unfold insAt
    split
    · exact ((insAt_perm m l).cons x).trans (List.Perm.swap _ _ _)
    · exact List.Perm.refl _
theorem insAt_rises (m : Int) : ∀ l : List Int, l.Pairwise (· ≤ ·) → (insAt m l).Pairwise (· ≤ ·)
  | [], _ => by simp [insAt]
  | x :: l, h => by
    have hc := List.pairwise_cons.1 h
    unfold insAt
    split
    · rename_i hx
      refine List.pairwise_cons.2 ⟨fun y hy => ?_, insAt_rises m l hc.2⟩
      rcases List.mem_cons.1 ((insAt_perm m l).subset hy) with rfl | hy
      · omega
      · exact hc.1 y hy
    · rename_i hx
      refine List.pairwise_cons.2 ⟨fun y hy => ?_, h⟩
      rcases List.mem_cons.1 hy with rfl | hy
      · omega
      · have := hc.1 y hy; omega

def isort : List Int → List Int → List Int
  | S, [] => S
  | S, v :: T => isort (insAt v S) T
theorem isort_perm : ∀ T S : List Int, (isort S T).Perm (S ++ T)
  | [], S => by simp [isort]
  | v :: T, S => by
    unfold isort
    refine (isort_perm T _).trans (((insAt_perm v S).append_right T).trans ?_)
    exact (List.perm_middle (a := v) (l₁ := S) (l₂ := T)).symm
theorem isort_rises : ∀ T S : List Int, S.Pairwise (· ≤ ·) → (isort S T).Pairwise (· ≤ ·)
  | [], _, h => h
  | v :: T, S, h => isort_rises T _ (insAt_rises v S h)
theorem isort_snoc : ∀ (T : List Int) (S : List Int) (m : Int), isort S (T ++ [m]) = insAt m (isort S T)
  | [], _, _ => rfl
  | v :: T, S, m => by
    show isort (insAt v S) (T ++ [m]) = insAt m (isort (insAt v S) T)
    exact isort_snoc T _ m
theorem isort_eq {l m : List Int} (h : l.Perm m) : isort [] l = isort [] m :=
  rising_perm _ _ ((isort_perm l []).trans (h.trans (isort_perm m []).symm)) (isort_rises l [] .nil) (isort_rises m [] .nil)
theorem less_f (a b : Int) : cmp_Less_int64.f a b = some (decide (a < b)) := by
  unfold cmp_Less_int64.f cmp_isNaN_int64.f
  simp
theorem insAt_mid (L R : List Int) (v : Int) (h : (L ++ R).Pairwise (· ≤ ·)) (hL : ∀ x ∈ L, x ≤ v) (hR : ∀ x ∈ R, v ≤ x) : insAt v (L ++ R) = L ++ v :: R := by
  refine rising_perm _ _ ((insAt_perm v (L ++ R)).trans (List.perm_middle (a := v) (l₁ := L) (l₂ := R)).symm) (insAt_rises v _ h) ?_
  have h' := List.pairwise_append.1 h
  refine List.pairwise_append.2 ⟨h'.1, List.pairwise_cons.2 ⟨hR, h'.2.1⟩, fun a ha b hb => ?_⟩
  rcases List.mem_cons.1 hb with rfl | hb
  · exact hL a ha
  · exact h'.2.2 a ha b hb
theorem rdA (L : List Int) (v : Int) (T : List Int) : rd (L ++ v :: T) (L.length : Int) = v := by
  simp [rd, List.getD_eq_getElem?_getD]
theorem sortIn (N i : Nat) (hN : N ≤ 1000) (r : List Int) : ∀ (n : Nat) (L R T : List Int) (v : Int), L.length = n → (L ++ R).Pairwise (· ≤ ·) → (∀ x ∈ R, v < x) → i = L.length + R.length → N = i + 1 + T.length → Ev (fun k => slices_insertionSortOrdered_int64.l0 k (insAt v (L ++ R) ++ T) 0 (N : Int) ((i + 1 : Nat) : Int)) r → Ev (fun k => slices_insertionSortOrdered_int64.l1 k (L ++ v :: (R ++ T)) 0 (N : Int) (i : Int) (L.length : Int)) r := by
  intro n
  induction n with
  | zero =>
    intro L R T v hl hp hR hi hN' h
    have : L = [] := List.eq_nil_of_length_eq_zero hl
    subst this
    refine evSucc ?_
    rw [insAt_mid [] R v hp (by simp) (fun x hx => Int.le_of_lt (hR x hx))] at h
    simp only [slices_insertionSortOrdered_int64.l1, List.length_nil, show ¬ (((0 : Nat) : Int) > 0) by decide, if_false, wrapNat (show i < 4611686018427387904 by omega)]
    simpa using h
  | succ n ih =>
    intro L R T v hl hp hR hi hN' h
    obtain ⟨L', u, rfl⟩ : ∃ L' u, L = L' ++ [u] := ⟨L.dropLast, L.getLast (by rintro rfl; simp at hl), (List.dropLast_concat_getLast _).symm⟩
    have hl' : L'.length = n := by simpa using hl
    have hlen : ((L' ++ [u]) ++ v :: (R ++ T)).length = N := by simp only [List.length_append, List.length_cons, List.length_singleton] at hi ⊢; omega
    have hL1 : (L' ++ [u]).length = n + 1 := hl
    have hw : wrap64 (((n + 1 : Nat) : Int) - 1) = (n : Int) := by rw [wrapIn (by simp at hi; omega) (by simp at hi; omega)]; omega
    have r1 : rd ((L' ++ [u]) ++ v :: (R ++ T)) ((n + 1 : Nat) : Int) = v := by rw [← hL1]; exact rdA _ _ _
    have r2 : rd ((L' ++ [u]) ++ v :: (R ++ T)) (n : Int) = u := by
      have e : (L' ++ [u]) ++ v :: (R ++ T) = L' ++ u :: (v :: (R ++ T)) := by simp
      rw [e, ← hl']; exact rdA _ _ _
    refine evSucc ?_
    have hnN : n + 1 < N := by simp only [List.length_append, List.length_singleton] at hi; omega
    simp only [slices_insertionSortOrdered_int64.l1, hL1, hlen, show ((n + 1 : Nat) : Int) > 0 by omega, show (0 : Int) ≤ ((n + 1 : Nat) : Int) by omega, show ((n + 1 : Nat) : Int) < (N : Int) by omega, if_true, hw, show (0 : Int) ≤ (n : Int) by omega, show (n : Int) < (N : Int) by omega, r1, r2, less_f, Option.bind_some, Int.toNat_natCast]
    by_cases c : v < u
    · simp only [c, decide_true, if_true]
      have e1 : (((L' ++ [u]) ++ v :: (R ++ T)).set (n + 1) u).set n v = L' ++ v :: ((u :: R) ++ T) := by
        rw [List.set_append_right _ _ (by rw [hL1]; exact Nat.le_refl _), hL1, Nat.sub_self, List.set_cons_zero, List.append_assoc, List.set_append_right _ _ (by rw [hl']; exact Nat.le_refl _), hl', Nat.sub_self]
        rfl
      rw [e1]
      have e2 : (L' ++ [u]) ++ R = L' ++ (u :: R) := by simp
      rw [e2] at hp h
      have := ih L' (u :: R) T v hl' hp (fun x hx => by
        rcases List.mem_cons.1 hx with rfl | hx
        · exact c
        · exact hR x hx) (by simp at hi ⊢; omega) hN' h
      rw [hl'] at this
      exact this
    · simp only [c, decide_false, Bool.false_eq_true, if_false, wrapNat (show i < 4611686018427387904 by omega)]
      have hp1 := List.pairwise_append.1 (List.pairwise_append.1 hp).1
      rw [insAt_mid (L' ++ [u]) R v hp (fun x hx => by
        rcases List.mem_append.1 hx with hx | hx
        · have := hp1.2.2 x hx u (by simp); omega
        · rw [List.mem_singleton] at hx; omega) (fun x hx => Int.le_of_lt (hR x hx))] at h
      rw [List.append_assoc, List.cons_append] at h
      exact h
theorem sortOut (N : Nat) (hN : N ≤ 1000) : ∀ (T S : List Int), S.Pairwise (· ≤ ·) → N = S.length + T.length → Ev (fun k => slices_insertionSortOrdered_int64.l0 k (S ++ T) 0 (N : Int) (S.length : Int)) (isort S T)
  | [], S, _, hn => by
    refine evSucc ?_
    simp only [List.length_nil, Nat.add_zero] at hn
    simp only [slices_insertionSortOrdered_int64.l0, hn, Int.lt_irrefl, if_false, List.append_nil, isort]
    exact Ev.now _
  | v :: T, S, hs, hn => by
    refine evSucc ?_
    simp only [List.length_cons] at hn
    simp only [slices_insertionSortOrdered_int64.l0, show (S.length : Int) < (N : Int) by omega, if_true]
    have ih := sortOut N hN T (insAt v S) (insAt_rises v S hs) (by rw [(insAt_perm v S).length_eq, List.length_cons]; omega)
    rw [(insAt_perm v S).length_eq, List.length_cons] at ih
    show Ev _ (isort (insAt v S) T)
    have := sortIn N S.length hN (isort (insAt v S) T) S.length S [] T v rfl (by simpa using hs) (by simp) (by simp) (by omega) (by simpa using ih)
    simpa using this
theorem sortI (l : List Int) (hl : l.length ≤ 12) : Ev (fun k => slices_insertionSortOrdered_int64.f k l 0 (l.length : Int)) (isort [] l) := by
  unfold slices_insertionSortOrdered_int64.f
  rw [show wrap64 (0 + 1) = 1 from wrapIn (x := 0 + 1) (by omega) (by omega)]
  cases l with
  | nil =>
    refine evSucc ?_
    simp only [slices_insertionSortOrdered_int64.l0, List.length_nil, show ¬ ((1 : Int) < ((0 : Nat) : Int)) by decide, if_false, isort]
    exact Ev.now _
  | cons a T =>
    have := sortOut (a :: T).length (by omega) T [a] (by simp) (by simp; omega)
    exact this
set_option maxRecDepth 100000 in
theorem lenBits (n : Nat) (h : n ≤ 12) : ∃ r, Ev (fun k => bits_Len.f k (IntKind.u64.wrap (n : Int))) r := by
  have e : IntKind.u64.wrap (n : Int) = (n : Int) := by
    simp [IntKind.wrap, IntKind.signed, IntKind.bits]; omega
  refine ⟨_, Ev.bind (r := ?r) (g := fun k => bits_Len64.f k (IntKind.u64.wrap (n : Int))) ?_ (Ev.now _)⟩
  rotate_left
  unfold bits_Len64.f
  rw [e]
  simp only [show ¬ ((n : Int) ≥ 4294967296) by omega, if_false]
  refine evSucc ?_
  simp only [bits_Len64.j0, show ¬ ((n : Int) ≥ 65536) by omega, show ¬ ((n : Int) ≥ 256) by omega, if_false, show (0 : Int) ≤ (n : Int) % 256 by omega, show (n : Int) % 256 < 256 by omega, if_true]
  exact Ev.now _
theorem sortSlice (l : List Int) (hl : l.length ≤ 12) : Ev (fun k => slices_Sort_int64_int64.f k l) (isort [] l) := by
  obtain ⟨r, h⟩ := lenBits l.length hl
  unfold slices_Sort_int64_int64.f
  refine Ev.bind h ?_
  have hw : wrap64 ((l.length : Int) - 0) ≤ 12 := by rw [wrapIn (by omega) (by omega)]; omega
  unfold slices_pdqsortOrdered_int64.f
  simp only [hw, if_true]
  exact Ev.bind (sortI l hl) (Ev.now _)

theorem inS (a b c : Int) : spec_l01In.f a b c = some (decide (b ≤ a ∧ a ≤ c)) := by
  unfold spec_l01In.f
  by_cases h : b ≤ a <;> simp [h]

theorem inI (a b c : Int) : impl_inRange.f a b c = some (decide (b ≤ a ∧ a ≤ c)) := by
  unfold impl_inRange.f
  by_cases h : b ≤ a <;> simp [h]

def codeB (a : Int) : Bool := decide ((0 ≤ a ∧ a ≤ 9999999) ∧ (1 ≤ Int.tmod a 100 ∧ Int.tmod a 100 ≤ 97) ∧ Int.tmod a 97 = 1)
theorem codeS (a : Int) : spec_IsCode.f a = some (codeB a) := by
  unfold spec_IsCode.f spec_l15Remainder.f codeB
  simp only [inS, Option.bind_some]
  by_cases h1 : (0 ≤ a ∧ a ≤ 9999999) <;> by_cases h2 : (1 ≤ Int.tmod a 100 ∧ Int.tmod a 100 ≤ 97) <;> by_cases h3 : Int.tmod a 97 = 1 <;> simp [h1, h2, h3]
theorem codeI (a : Int) : impl_IsCode.f a = some (codeB a) := by
  unfold impl_IsCode.f codeB
  simp only [inI, Option.bind_some]
  by_cases h1 : (0 ≤ a ∧ a ≤ 9999999) <;> by_cases h2 : (1 ≤ Int.tmod a 100 ∧ Int.tmod a 100 ≤ 97) <;> by_cases h3 : Int.tmod a 97 = 1 <;> simp [h1, h2, h3]

def num : List Int → Int
  | l => l.foldl (fun x d => 10 * x + d) 0
theorem num_snoc (l : List Int) (d : Int) : num (l ++ [d]) = 10 * num l + d := by simp [num]
def pw : Nat → Int
  | 0 => 1
  | j + 1 => 10 * pw j
theorem num_in (l : List Int) (h : ∀ x ∈ l, 0 ≤ x ∧ x ≤ 9) : ∀ i : Nat, i ≤ l.length → 0 ≤ num (l.take i) ∧ num (l.take i) < pw i
  | 0, _ => by simp [num, pw]
  | i + 1, hi => by
    have := num_in l h i (by omega)
    rw [List.take_succ_eq_append_getElem (by omega), num_snoc]
    have := h l[i] (List.getElem_mem _)
    simp only [pw]
    omega
theorem pw_mono (i : Nat) : pw i ≤ pw (i + 1) ∧ 1 ≤ pw i := by
  induction i with
  | zero => simp [pw]
  | succ i ih => simp only [pw] at ih ⊢; omega
theorem pw_le : ∀ d i : Nat, pw i ≤ pw (i + d)
  | 0, _ => Int.le_refl _
  | d + 1, i => Int.le_trans (pw_le d i) (pw_mono (i + d)).1
theorem numS (l : List Int) (h : ∀ x ∈ l, 0 ≤ x ∧ x ≤ 9) (hl : l.length ≤ 7) : Ev (fun k => spec_l15Number.f k l) (num l) := by
  unfold spec_l15Number.f
  have := evCount (fun k (x : Int) i => spec_l15Number.l0 k l x i) 0 l.length (fun i => num (l.take i)) (num l) ?_ ?_ (Nat.zero_le _)
  · simpa [num] using this
  · intro i _ hi hr
    refine evSucc ?_
    have h1 := num_in l h i (by omega)
    have h2 := pw_le (7 - i) i
    rw [show i + (7 - i) = 7 by omega, show pw 7 = 10000000 from rfl] at h2
    have h3 := h l[i] (List.getElem_mem _)
    rw [List.take_succ_eq_append_getElem hi, num_snoc] at hr
    simp only [spec_l15Number.l0, show (i : Int) < (l.length : Int) by omega, show (0 : Int) ≤ (i : Int) by omega, if_true, rdN l i hi, wrapNat (show i < 4611686018427387904 by omega), wrapIn (show -9223372036854775808 ≤ 10 * num (l.take i) by omega) (show 10 * num (l.take i) ≤ 9223372036854775807 by omega), wrapIn (show -9223372036854775808 ≤ 10 * num (l.take i) + l[i] by omega) (show 10 * num (l.take i) + l[i] ≤ 9223372036854775807 by omega)]
    exact hr
  · refine evSucc ?_
    simp only [spec_l15Number.l0, Int.lt_irrefl, if_false, List.take_length]
    exact Ev.now _
/-- The seven digits. -/
def dsL (n : Int) : List Int := [n / 1000000 % 10, n / 100000 % 10, n / 10000 % 10, n / 1000 % 10, n / 100 % 10, n / 10 % 10, n % 10]
theorem dsL_in (n : Int) : ∀ x ∈ dsL n, 0 ≤ x ∧ x ≤ 9 := by
  intro x hx
  simp only [dsL, List.mem_cons, List.not_mem_nil, or_false] at hx
  rcases hx with rfl | rfl | rfl | rfl | rfl | rfl | rfl <;> omega
theorem digStep (x : Int) (l : List Int) (i : Nat) (r : List Int) (h0 : 0 ≤ x) (h1 : x ≤ 9999999) (hl : l.length = 7) (hi : i < 7) (h : Ev (fun k => spec_l15Digits.l0 k (x / 10) (l.set i (x % 10)) ((i : Int) - 1)) r) : Ev (fun k => spec_l15Digits.l0 k x l (i : Int)) r := by
  refine evSucc ?_
  have e1 : Int.tdiv x 10 = x / 10 := Int.tdiv_eq_ediv_of_nonneg h0
  have e2 : Int.tmod x 10 = x % 10 := Int.tmod_eq_emod_of_nonneg h0
  have e3 : wrap64 (x / 10) = x / 10 := wrapIn (by omega) (by omega)
  have e4 : wrap64 ((i : Int) - 1) = (i : Int) - 1 := wrapIn (by omega) (by omega)
  simp only [spec_l15Digits.l0, show (i : Int) ≥ 0 by omega, show (0 : Int) ≤ (i : Int) by omega, hl, show (i : Int) < ((7 : Nat) : Int) by omega, if_true, e1, e2, e3, e4, Int.toNat_natCast]
  exact h
theorem digitsS (n : Int) (h0 : 0 ≤ n) (h1 : n ≤ 9999999) : Ev (fun k => spec_l15Digits.f k n) (dsL n) := by
  unfold spec_l15Digits.f
  simp only [show (7 : Nat) ≤ 35184372088832 by decide, if_true]
  refine digStep n _ 6 _ h0 h1 (by simp) (by decide) ?_
  refine digStep (n / 10) _ 5 _ (by omega) (by omega) (by simp) (by decide) ?_
  refine digStep (n / 10 / 10) _ 4 _ (by omega) (by omega) (by simp) (by decide) ?_
  refine digStep (n / 10 / 10 / 10) _ 3 _ (by omega) (by omega) (by simp) (by decide) ?_
  refine digStep (n / 10 / 10 / 10 / 10) _ 2 _ (by omega) (by omega) (by simp) (by decide) ?_
  refine digStep (n / 10 / 10 / 10 / 10 / 10) _ 1 _ (by omega) (by omega) (by simp) (by decide) ?_
  refine digStep (n / 10 / 10 / 10 / 10 / 10 / 10) _ 0 _ (by omega) (by omega) (by simp) (by decide) ?_
  refine evSucc ?_
  simp only [spec_l15Digits.l0, show ¬ (((0 : Nat) : Int) - 1 ≥ 0) by decide, if_false]
  have e : (((((((List.replicate 7 (0 : Int)).set 6 (n % 10)).set 5 (n / 10 % 10)).set 4 (n / 10 / 10 % 10)).set 3 (n / 10 / 10 / 10 % 10)).set 2 (n / 10 / 10 / 10 / 10 % 10)).set 1 (n / 10 / 10 / 10 / 10 / 10 % 10)).set 0 (n / 10 / 10 / 10 / 10 / 10 / 10 % 10) = dsL n := by
    show [n / 10 / 10 / 10 / 10 / 10 / 10 % 10, n / 10 / 10 / 10 / 10 / 10 % 10, n / 10 / 10 / 10 / 10 % 10, n / 10 / 10 / 10 % 10, n / 10 / 10 % 10, n / 10 % 10, n % 10] = _
    simp only [dsL, List.cons.injEq, and_true]
    omega
  rw [e]
  exact Ev.now _
/-- The digit of the power j; the number with another digit there; the codes among them. -/
def dg (n : Int) (j : Nat) : Int := n / pw j % 10
def mm (n : Int) (j : Nat) (d : Int) : Int := n + (d - dg n j) * pw j
def okC (n : Int) (j : Nat) (d : Int) : Bool := !decide (d = dg n j) && codeB (mm n j d)
def cand (n : Int) (j : Nat) : Nat → List Int
  | 0 => []
  | d + 1 => if okC n j (d : Int) = true then cand n j d ++ [mm n j (d : Int)] else cand n j d
theorem numSet (n : Int) (h0 : 0 ≤ n) (h1 : n ≤ 9999999) (i : Nat) (hi : i < 7) (d : Int) : num ((dsL n).set i d) = mm n (6 - i) d := by
  match i, hi with
  | 0, _ => show ((((((10 * (10 * 0 + d) + n / 100000 % 10) |> fun x => 10 * x + n / 10000 % 10) |> fun x => 10 * x + n / 1000 % 10) |> fun x => 10 * x + n / 100 % 10) |> fun x => 10 * x + n / 10 % 10) |> fun x => 10 * x + n % 10) = n + (d - n / 1000000 % 10) * 1000000; simp only; omega
  | 1, _ => show ((((((10 * (10 * 0 + n / 1000000 % 10) + d) |> fun x => 10 * x + n / 10000 % 10) |> fun x => 10 * x + n / 1000 % 10) |> fun x => 10 * x + n / 100 % 10) |> fun x => 10 * x + n / 10 % 10) |> fun x => 10 * x + n % 10) = n + (d - n / 100000 % 10) * 100000; simp only; omega
  | 2, _ => show ((((((10 * (10 * 0 + n / 1000000 % 10) + n / 100000 % 10) |> fun x => 10 * x + d) |> fun x => 10 * x + n / 1000 % 10) |> fun x => 10 * x + n / 100 % 10) |> fun x => 10 * x + n / 10 % 10) |> fun x => 10 * x + n % 10) = n + (d - n / 10000 % 10) * 10000; simp only; omega
  | 3, _ => show ((((((10 * (10 * 0 + n / 1000000 % 10) + n / 100000 % 10) |> fun x => 10 * x + n / 10000 % 10) |> fun x => 10 * x + d) |> fun x => 10 * x + n / 100 % 10) |> fun x => 10 * x + n / 10 % 10) |> fun x => 10 * x + n % 10) = n + (d - n / 1000 % 10) * 1000; simp only; omega
  | 4, _ => show ((((((10 * (10 * 0 + n / 1000000 % 10) + n / 100000 % 10) |> fun x => 10 * x + n / 10000 % 10) |> fun x => 10 * x + n / 1000 % 10) |> fun x => 10 * x + d) |> fun x => 10 * x + n / 10 % 10) |> fun x => 10 * x + n % 10) = n + (d - n / 100 % 10) * 100; simp only; omega
  | 5, _ => show ((((((10 * (10 * 0 + n / 1000000 % 10) + n / 100000 % 10) |> fun x => 10 * x + n / 10000 % 10) |> fun x => 10 * x + n / 1000 % 10) |> fun x => 10 * x + n / 100 % 10) |> fun x => 10 * x + d) |> fun x => 10 * x + n % 10) = n + (d - n / 10 % 10) * 10; simp only; omega
  | 6, _ => show ((((((10 * (10 * 0 + n / 1000000 % 10) + n / 100000 % 10) |> fun x => 10 * x + n / 10000 % 10) |> fun x => 10 * x + n / 1000 % 10) |> fun x => 10 * x + n / 100 % 10) |> fun x => 10 * x + n / 10 % 10) |> fun x => 10 * x + d) = n + (d - n / 1 % 10) * 1; simp only; omega
theorem pw_cases (j : Nat) (hj : j ≤ 6) : pw j = 1 ∨ pw j = 10 ∨ pw j = 100 ∨ pw j = 1000 ∨ pw j = 10000 ∨ pw j = 100000 ∨ pw j = 1000000 := by
  match j, hj with
  | 0, _ => exact .inl rfl
  | 1, _ => exact .inr (.inl rfl)
  | 2, _ => exact .inr (.inr (.inl rfl))
  | 3, _ => exact .inr (.inr (.inr (.inl rfl)))
  | 4, _ => exact .inr (.inr (.inr (.inr (.inl rfl))))
  | 5, _ => exact .inr (.inr (.inr (.inr (.inr (.inl rfl)))))
  | 6, _ => exact .inr (.inr (.inr (.inr (.inr (.inr rfl)))))
theorem dg_in (n : Int) (j : Nat) : 0 ≤ dg n j ∧ dg n j ≤ 9 := by unfold dg; omega
theorem mm_ne (n : Int) (j : Nat) (hj : j ≤ 6) (d : Int) : mm n j d = n ↔ d = dg n j := by
  unfold mm
  generalize dg n j = g
  rcases pw_cases j hj with e | e | e | e | e | e | e <;> rw [e] <;> omega
theorem mm_in (n : Int) (h0 : 0 ≤ n) (h1 : n ≤ 9999999) (j : Nat) (hj : j ≤ 6) (d : Int) (d0 : 0 ≤ d) (d1 : d ≤ 9) : -99999999 ≤ mm n j d ∧ mm n j d ≤ 99999999 := by
  have := dg_in n j
  unfold mm
  generalize dg n j = g at *
  rcases pw_cases j hj with e | e | e | e | e | e | e <;> rw [e] <;> omega
theorem code_of {m : Int} (h : codeB m = true) : 0 ≤ m ∧ m % 97 = 1 := by
  unfold codeB at h
  rw [decide_eq_true_eq] at h
  have := h.1.1
  rw [Int.tmod_eq_emod_of_nonneg (by omega : 0 ≤ m), Int.tmod_eq_emod_of_nonneg (by omega : 0 ≤ m)] at h
  omega
theorem two_no (n : Int) (j : Nat) (hj : j ≤ 6) (d e : Int) (d0 : 0 ≤ d) (de : d < e) (e1 : e ≤ 9) (h1 : mm n j d % 97 = 1) (h2 : mm n j e % 97 = 1) : False := by
  unfold mm at h1 h2
  generalize dg n j = g at *
  rcases pw_cases j hj with c | c | c | c | c | c | c <;> rw [c] at h1 h2 <;> omega
theorem cand_one (n : Int) (j : Nat) (hj : j ≤ 6) : ∀ D : Nat, D ≤ 10 → (cand n j D).length ≤ 1 ∧ ∀ m ∈ cand n j D, ∃ d : Nat, d < D ∧ m = mm n j (d : Int) ∧ codeB m = true
  | 0, _ => by simp [cand]
  | D + 1, hD => by
    obtain ⟨h1, h2⟩ := cand_one n j hj D (by omega)
    unfold cand
    by_cases c : okC n j (D : Int) = true
    · rw [if_pos c]
      have c' := c
      unfold okC at c'
      rw [Bool.and_eq_true] at c'
      cases hc : cand n j D with
      | nil =>
        refine ⟨by simp, fun m hm => ?_⟩
        have e : m = mm n j (D : Int) := by simpa using hm
        exact ⟨D, by omega, e, by rw [e]; exact c'.2⟩
      | cons x l =>
        obtain ⟨d, hd, e, hx⟩ := h2 x (by rw [hc]; simp)
        rw [e] at hx
        exact (two_no n j hj (d : Int) (D : Int) (by omega) (by omega) (by omega) (code_of hx).2 (code_of c'.2).2).elim
    · rw [if_neg c]
      exact ⟨h1, fun m hm => by obtain ⟨d, hd, h⟩ := h2 m hm; exact ⟨d, by omega, h⟩⟩
/-- How many stand ahead of m. -/
def atN (m : Int) : List Int → Nat
  | [] => 0
  | x :: l => if x < m then atN m l + 1 else 0
theorem atN_le (m : Int) : ∀ l : List Int, atN m l ≤ l.length
  | [] => Nat.le_refl _
  | x :: l => by
    have := atN_le m l
    unfold atN
    split <;> simp only [List.length_cons] <;> omega
theorem insAt_at (m : Int) : ∀ l : List Int, l.take (atN m l) ++ [m] ++ l.drop (atN m l) = insAt m l
  | [] => by simp [atN, insAt]
  | x :: l => by
    unfold atN insAt
    by_cases c : x < m
    · rw [if_pos c, if_pos c, List.take_succ_cons, List.drop_succ_cons, List.cons_append, List.cons_append, insAt_at m l]
    · rw [if_neg c, if_neg c]
      simp
theorem atS (o : List Int) (m : Int) (ho : o.length ≤ 1000) : Ev (fun k => spec_NearCodes.at k o m 0) ((atN m o : Nat) : Int) := by
  have key : ∀ d i : Nat, i + d = o.length → Ev (fun k => spec_NearCodes.at k o m (i : Int)) ((i + atN m (o.drop i) : Nat) : Int) := by
    intro d
    induction d with
    | zero =>
      intro i hi
      refine evSucc ?_
      rw [List.drop_of_length_le (by omega)]
      simp only [spec_NearCodes.at, show ¬ ((i : Int) < (o.length : Int)) by omega, if_false, atN, Nat.add_zero]
      exact Ev.now _
    | succ d ih =>
      intro i hi
      refine evSucc ?_
      have hlt : i < o.length := by omega
      rw [List.drop_eq_getElem_cons hlt]
      simp only [spec_NearCodes.at, show (i : Int) < (o.length : Int) by omega, show (0 : Int) ≤ (i : Int) by omega, if_true, rdN o i hlt, atN, wrapNat (show i < 4611686018427387904 by omega)]
      by_cases c : o[i] < m
      · simp only [c, if_true]
        have := ih (i + 1) (by omega)
        rw [show i + 1 + atN m (o.drop (i + 1)) = i + (atN m (o.drop (i + 1)) + 1) by omega] at this
        exact this
      · simp only [c, if_false, Nat.add_zero]
        exact Ev.now _
  have := key o.length 0 (by omega)
  rw [List.drop_zero, Nat.zero_add] at this
  exact this
def ES (n : Int) : Nat → List Int
  | 0 => []
  | i + 1 => ES n i ++ cand n (6 - i) 10
def EI (n : Int) : Nat → List Int
  | 0 => []
  | j + 1 => EI n j ++ cand n j 10
theorem ES_len (n : Int) : ∀ i : Nat, i ≤ 7 → (ES n i).length ≤ i
  | 0, _ => by simp [ES]
  | i + 1, hi => by
    have := ES_len n i (by omega)
    have := (cand_one n (6 - i) (by omega) 10 (by omega)).1
    simp only [ES, List.length_append]
    omega
theorem EI_len (n : Int) : ∀ i : Nat, i ≤ 7 → (EI n i).length ≤ i
  | 0, _ => by simp [EI]
  | i + 1, hi => by
    have := EI_len n i (by omega)
    have := (cand_one n i (by omega) 10 (by omega)).1
    simp only [EI, List.length_append]
    omega
theorem E_perm (n : Int) : (ES n 7).Perm (EI n 7) := by
  rw [List.perm_iff_count]
  intro a
  simp only [ES, EI, List.nil_append, List.count_append, Nat.sub_zero, show 6 - 1 = 5 from rfl, show 6 - 2 = 4 from rfl, show 6 - 3 = 3 from rfl, show 6 - 4 = 2 from rfl, show 6 - 5 = 1 from rfl, show 6 - 6 = 0 from rfl]
  omega
theorem isort_len (l : List Int) : (isort [] l).length = l.length := by
  rw [(isort_perm l []).length_eq, List.nil_append]
def nearR (n : Int) : List Int × Int := if 0 ≤ n ∧ n ≤ 9999999 then (isort [] (ES n 7), 0) else ([], 2)
theorem nearS (n : Int) : Ev (fun k => spec_NearCodes.f k n) (nearR n) := by
  unfold spec_NearCodes.f nearR
  simp only [inS, Option.bind_some, decide_eq_true_eq]
  by_cases h : 0 ≤ n ∧ n ≤ 9999999
  · simp only [h, and_self, if_true]
    refine Ev.bind (digitsS n h.1 h.2) ?_
    have hl : (dsL n).length = 7 := rfl
    refine evCount (fun k (o : List Int) i => spec_NearCodes.l0 k n (dsL n) o i) 0 7 (fun i => isort [] (ES n i)) _ ?_ ?_ (Nat.zero_le _)
    · intro i _ hi hr
      refine evSucc ?_
      simp only [spec_NearCodes.l0, hl, show (i : Int) < ((7 : Nat) : Int) by omega, if_true]
      have hE := ES_len n i (by omega)
      have := evCount (fun k (o : List Int) d => spec_NearCodes.l1 k n (dsL n) o (i : Int) d) 0 10 (fun d => isort [] (ES n i ++ cand n (6 - i) d)) (isort [] (ES n 7), 0) ?_ ?_ (Nat.zero_le _)
      · simpa [cand] using this
      · intro d _ hd h2
        refine evSucc ?_
        have hc := (cand_one n (6 - i) (by omega) d (by omega)).1
        have hlen : (isort [] (ES n i ++ cand n (6 - i) d)).length ≤ 8 := by rw [isort_len, List.length_append]; omega
        have hnum := numS ((dsL n).set i (d : Int)) (fun x hx => by
          rcases List.mem_or_eq_of_mem_set hx with hx | rfl
          · exact dsL_in n x hx
          · omega) (by rw [List.length_set]; exact Nat.le_of_eq hl)
        rw [numSet n h.1 h.2 i hi] at hnum
        simp only [spec_NearCodes.l1, show (d : Int) < 10 by omega, show (0 : Int) ≤ (i : Int) by omega, hl, show (i : Int) < ((7 : Nat) : Int) by omega, show (7 : Nat) < 4096 by decide, if_true, Int.toNat_natCast, wrapNat (show d < 4611686018427387904 by omega)]
        refine Ev.bind hnum ?_
        simp only [cand] at h2
        by_cases e : mm n (6 - i) (d : Int) = n
        · have e' := (mm_ne n (6 - i) (by omega) (d : Int)).1 e
          have ok : ¬ okC n (6 - i) (d : Int) = true := by unfold okC; simp [e']
          rw [if_neg ok] at h2
          simp only [e, if_true]
          exact h2
        · have e' : ¬ (d : Int) = dg n (6 - i) := fun g => e ((mm_ne n (6 - i) (by omega) (d : Int)).2 g)
          simp only [e, if_false, codeS, Option.bind_some]
          by_cases c : codeB (mm n (6 - i) (d : Int)) = true
          · have ok : okC n (6 - i) (d : Int) = true := by unfold okC; simp [e', c]
            rw [if_pos ok, ← List.append_assoc, isort_snoc, ← insAt_at] at h2
            simp only [c, if_true]
            have hat := atN_le (mm n (6 - i) (d : Int)) (isort [] (ES n i ++ cand n (6 - i) d))
            refine Ev.bind (atS _ _ (by omega)) ?_
            generalize atN (mm n (6 - i) (d : Int)) (isort [] (ES n i ++ cand n (6 - i) d)) = q at *
            simp only [show (0 : Int) ≤ (q : Int) by omega, show (q : Int) ≤ ((isort [] (ES n i ++ cand n (6 - i) d)).length : Int) by omega, show (isort [] (ES n i ++ cand n (6 - i) d)).length < 4096 by omega, if_true, Int.toNat_natCast]
            exact h2
          · have ok : ¬ okC n (6 - i) (d : Int) = true := by unfold okC; simp [c]
            rw [if_neg ok] at h2
            simp only [c, if_false, Bool.false_eq_true]
            exact h2
      · refine evSucc ?_
        simp only [spec_NearCodes.l1, show ¬ (((10 : Nat) : Int) < 10) by decide, if_false, wrapNat (show i < 4611686018427387904 by omega)]
        exact hr
    · refine evSucc ?_
      simp only [spec_NearCodes.l0, hl, Int.lt_irrefl, if_false]
      exact Ev.now _
  · simp only [h, if_false]
    exact Ev.now _
theorem nearI (n : Int) : Ev (fun k => impl_NearCodes.f k n) (nearR n) := by
  unfold impl_NearCodes.f nearR
  simp only [inI, Option.bind_some, decide_eq_true_eq]
  by_cases h : 0 ≤ n ∧ n ≤ 9999999
  · simp only [h, and_self, if_true]
    rw [isort_eq (E_perm n)]
    have key : ∀ r j : Nat, j + r = 7 → Ev (fun k => impl_NearCodes.l0 k n (EI n j) (pw j)) (isort [] (EI n 7), 0) := by
      intro r
      induction r with
      | zero =>
        intro j hj
        have : j = 7 := by omega
        subst this
        refine evSucc ?_
        simp only [impl_NearCodes.l0, show ¬ (pw 7 < 10000000) by decide, if_false]
        refine Ev.bind (sortSlice _ (by have := EI_len n 7 (by omega); omega)) (Ev.now _)
      | succ r ih =>
        intro j hj
        have ih := ih (j + 1) (by omega)
        have hpc := pw_cases j (by omega)
        have hp : 1 ≤ pw j ∧ pw j ≤ 1000000 := by omega
        have hq : Int.tdiv n (pw j) = n / pw j := Int.tdiv_eq_ediv_of_nonneg h.1
        have hq1 : 0 ≤ n / pw j ∧ n / pw j ≤ 9999999 := by
          rcases hpc with e | e | e | e | e | e | e <;> rw [e] <;> omega
        have hw : wrap64 (n / pw j) = n / pw j := wrapIn (by omega) (by omega)
        have hm : Int.tmod (n / pw j) 10 = dg n j := by rw [Int.tmod_eq_emod_of_nonneg hq1.1]; rfl
        have hd := dg_in n j
        refine evSucc ?_
        simp only [impl_NearCodes.l0, show pw j < 10000000 by omega, show ¬ (pw j = 0) by omega, if_true, if_false, hq, hw, hm]
        have := evCount (fun k (x : List Int) d => impl_NearCodes.l1 k n x (pw j) (dg n j) d) 0 10 (fun d => EI n j ++ cand n j d) (isort [] (EI n 7), 0) ?_ ?_ (Nat.zero_le _)
        · simpa [cand] using this
        · intro d _ hd10 h2
          refine evSucc ?_
          have hlen : (EI n j ++ cand n j d).length ≤ 8 := by
            have := EI_len n j (by omega)
            have := (cand_one n j (by omega) d (by omega)).1
            rw [List.length_append]; omega
          have hin := mm_in n h.1 h.2 j (by omega) (d : Int) (by omega) (by omega)
          have w1 : wrap64 ((d : Int) - dg n j) = (d : Int) - dg n j := wrapIn (by omega) (by omega)
          have w2 : wrap64 (((d : Int) - dg n j) * pw j) = ((d : Int) - dg n j) * pw j := by
            unfold mm at hin
            exact wrapIn (by omega) (by omega)
          have w3 : wrap64 (n + ((d : Int) - dg n j) * pw j) = mm n j (d : Int) := by
            show wrap64 (mm n j (d : Int)) = _
            exact wrapIn (by omega) (by omega)
          simp only [impl_NearCodes.l1, show (d : Int) < 10 by omega, if_true, w1, w2, w3, wrapNat (show d < 4611686018427387904 by omega)]
          simp only [cand] at h2
          by_cases e : (d : Int) = dg n j
          · have ok : ¬ okC n j (d : Int) = true := by unfold okC; simp [e]
            rw [if_neg ok] at h2
            simp only [if_pos e]
            exact h2
          · simp only [e, if_false, codeI, Option.bind_some]
            by_cases c : codeB (mm n j (d : Int)) = true
            · have ok : okC n j (d : Int) = true := by unfold okC; simp [e, c]
              rw [if_pos ok, ← List.append_assoc] at h2
              simp only [c, if_true, show (EI n j ++ cand n j d).length < 17592186044416 by omega]
              exact h2
            · have ok : ¬ okC n j (d : Int) = true := by unfold okC; simp [c]
              rw [if_neg ok] at h2
              simp only [c, if_false, Bool.false_eq_true]
              exact h2
        · refine evSucc ?_
          have hw10 : wrap64 (pw j * 10) = pw (j + 1) := by
            rw [wrapIn (by omega) (by omega)]
            simp only [pw]
            omega
          simp only [impl_NearCodes.l1, show ¬ (((10 : Nat) : Int) < 10) by decide, if_false, hw10]
          exact ih
    exact key 7 0 rfl
  · simp only [h, if_false]
    exact Ev.now _

theorem eqInt64S (l : List Int) (h : l.length ≤ 1048576) : Ev (fun k => laws_eqInt64S.f k l l) true := by
  unfold laws_eqInt64S.f
  simp only [if_true]
  have := evAll (fun k i => laws_eqInt64S.l0 k l l i) 0 l.length (fun _ => True) ?_ (fun i _ hi hn => absurd trivial hn) true ?_ (Nat.zero_le _)
  · simpa [B_true] using this
  · intro i _ hi _ r h
    refine evSucc ?_
    have h1 : (i : Int) < (l.length : Int) := by omega
    have h2 : (0 : Int) ≤ (i : Int) := by omega
    simp only [laws_eqInt64S.l0, h1, h2, if_true, wrapNat (show i < 4611686018427387904 by omega)]
    exact h
  · refine evSucc ?_
    simp only [laws_eqInt64S.l0, Int.lt_irrefl, if_false]
    exact Ev.now _

def marks (i : Nat) : List Int := (List.range i).map fun (j : Nat) => (j : Int) + 1
theorem marks_len (i : Nat) : (marks i).length = i := by simp [marks]
theorem marks_succ (i : Nat) : marks (i + 1) = marks i ++ [(i : Int) + 1] := by simp [marks, List.range_succ]
theorem marks_get (n i : Nat) (h : i < n) : rd (marks n) (i : Int) = (i : Int) + 1 := by
  rw [rdN _ _ (by rw [marks_len]; exact h)]
  simp [marks]
theorem set_marks (l : List Int) (i : Nat) (h : i < l.length) : (marks i ++ l.drop i).set i ((i : Int) + 1) = marks (i + 1) ++ l.drop (i + 1) := by
  rw [List.set_append_right _ _ (by rw [marks_len]; omega), marks_len, Nat.sub_self, List.drop_eq_getElem_cons h, List.set_cons_zero, marks_succ, List.append_assoc]
  rfl

theorem markInt64S (l : List Int) (h : l.length ≤ 1048576) : Ev (fun k => laws_markInt64S.f k l 1) ((l.length : Int) + 1, marks l.length) := by
  unfold laws_markInt64S.f
  have := evCount (fun k (s : List Int × Int) i => laws_markInt64S.l0 k s.1 s.2 i) 0 l.length (fun i => (marks i ++ l.drop i, (i : Int) + 1)) ((l.length : Int) + 1, marks l.length) ?_ ?_ (Nat.zero_le _)
  · simpa [marks] using this
  · intro i _ hi hr
    refine evSucc ?_
    have hl : (marks i ++ l.drop i).length = l.length := by simp [marks_len]; omega
    simp only [laws_markInt64S.l0, hl, show (i : Int) < (l.length : Int) by omega, show (0 : Int) ≤ (i : Int) by omega, if_true, Int.toNat_natCast, set_marks l i hi, wrapNat (show i < 4611686018427387904 by omega), wrapIn (show -9223372036854775808 ≤ (i : Int) + 1 + 1 by omega) (show (i : Int) + 1 + 1 ≤ 9223372036854775807 by omega)]
    simp only [show ((i + 1 : Nat) : Int) + 1 = (i : Int) + 1 + 1 by omega] at hr
    exact hr
  · refine evSucc ?_
    have hl : (marks l.length ++ l.drop l.length).length = l.length := by simp [marks_len]
    simp only [laws_markInt64S.l0, hl, Int.lt_irrefl, if_false]
    rw [List.drop_length, List.append_nil]
    exact Ev.now _
theorem heldInt64S (n : Nat) (h : n ≤ 1048576) : Ev (fun k => laws_heldInt64S.f k (marks n) 1) ((n : Int) + 1) := by
  unfold laws_heldInt64S.f
  have := evCount (fun k (s : Int) i => laws_heldInt64S.l0 k (marks n) s i) 0 n (fun i => (i : Int) + 1) ((n : Int) + 1) ?_ ?_ (Nat.zero_le _)
  · exact this
  · intro i _ hi hr
    refine evSucc ?_
    simp only [laws_heldInt64S.l0, marks_len, show (i : Int) < (n : Int) by omega, show (0 : Int) ≤ (i : Int) by omega, if_true, marks_get n i hi, wrapNat (show i < 4611686018427387904 by omega), wrapIn (show -9223372036854775808 ≤ (i : Int) + 1 + 1 by omega) (show (i : Int) + 1 + 1 ≤ 9223372036854775807 by omega)]
    simp only [show ((i + 1 : Nat) : Int) + 1 = (i : Int) + 1 + 1 by omega] at hr
    exact hr
  · refine evSucc ?_
    simp only [laws_heldInt64S.l0, marks_len, Int.lt_irrefl, if_false]
    exact Ev.now _

theorem near_len (n : Int) : (nearR n).1.length ≤ 1048576 := by
  unfold nearR
  split
  · have := ES_len n 7 (by omega)
    simp only [isort_len]
    omega
  · simp
theorem FnExactNearCodes : laws_FnExactNearCodes.Pure := by
  intro n _
  refine Ev.rounds ?_
  unfold laws_FnExactNearCodes.f
  have hw := near_len n
  refine Ev.bind (nearS n) (Ev.bind (nearI n) (Ev.bind (eqInt64S _ hw) ?_))
  simp only [if_true, bne_self_eq_false]
  refine evSucc ?_
  simp only [laws_FnExactNearCodes.j0, Bool.false_eq_true, if_false]
  refine Ev.bind (markInt64S _ hw) (Ev.bind (heldInt64S _ hw) ?_)
  simp only [show ¬ (((nearR n).1.length : Int) + 1 < 0) by omega, if_false, if_true]
  refine Ev.bind (nearI n) (Ev.bind (eqInt64S _ hw) ?_)
  simp only [if_true, bne_self_eq_false]
  refine evSucc ?_
  simp only [laws_FnExactNearCodes.j1, Bool.false_eq_true, if_false]
  refine Ev.bind (heldInt64S _ hw) ?_
  simp only [show ¬ (((nearR n).1.length : Int) + 1 < 0) by omega, if_false, if_true]
  exact Ev.now _

end Go.Proofs.Ytnnglnphkbpemaa.Pure
