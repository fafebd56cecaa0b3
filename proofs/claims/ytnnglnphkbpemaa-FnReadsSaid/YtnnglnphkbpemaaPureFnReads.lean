/- For every string of at most 4096 bytes: of the drawn reads the program and the reference agree on the stop, the best code and the near codes; a line stops after enough wrong reads in a row, near codes differ in one digit, and the best code is read as often as is told. -/
import Derived.Test.YtnnglnphkbpemaaSayFnReads
namespace Go.Proofs.Ytnnglnphkbpemaa.Pure
open Go.RowKit Go.Proofs.Ytnnglnphkbpemaa.PFnReads Go.Proofs.YtnnglnphkbpemaaW.PrintWords Go.Proofs.YtnnglnphkbpemaaW.PrintLast
set_option linter.unusedVariables false
set_option linter.unusedSimpArgs false
-- BEGIN
/-- A proposition as a bool. -/
noncomputable def B (p : Prop) : Bool := @decide p (Classical.propDecidable p)
theorem B_iff {p : Prop} : B p = true ↔ p := by unfold B; exact @decide_eq_true_iff p (Classical.propDecidable p)
theorem B_true {p : Prop} (h : p) : B p = true := B_iff.2 h
theorem B_false {p : Prop} (h : ¬ p) : B p = false := by cases e : B p with | false => rfl | true => exact absurd (B_iff.1 e) h
theorem B_congr {p q : Prop} (h : p ↔ q) : B p = B q := by rw [propext h]
theorem B_dec (p : Prop) [Decidable p] : B p = decide p := by by_cases h : p <;> simp [h, B_true, B_false]
theorem B_and (p q : Prop) : (B p && B q) = B (p ∧ q) := by
  by_cases hp : p <;> by_cases hq : q <;> simp [B_true, B_false, hp, hq]
theorem B_not (p : Prop) : (!B p) = B (¬ p) := by by_cases hp : p <;> simp [B_true, B_false, hp]
theorem evSucc {α : Type} {g : Nat → Option α} {r : α} (h : Ev (fun k => g (k + 1)) r) : Ev g r := Ev.step (fun _ => rfl) h
theorem evNow {α : Type} {g : Nat → Option α} {r : α} (h : ∀ k, g k = some r) : Ev g r := ⟨0, fun k _ => h k⟩
theorem evCount {σ α : Type} (F : Nat → σ → Int → Option α) (i0 n : Nat) (S : Nat → σ) (r : α)
    (hstep : ∀ i, i0 ≤ i → i < n → Ev (fun k => F k (S (i + 1)) ((i + 1 : Nat) : Int)) r → Ev (fun k => F k (S i) (i : Int)) r) (hend : Ev (fun k => F k (S n) (n : Int)) r) (hle : i0 ≤ n) : Ev (fun k => F k (S i0) (i0 : Int)) r := by
  have key : ∀ d i, i0 ≤ i → i + d = n → Ev (fun k => F k (S i) (i : Int)) r := by
    intro d
    induction d with
    | zero =>
      intro i _ hi
      have h0 : i = n := by omega
      subst h0
      exact hend
    | succ d ih => intro i h0 hi; exact hstep i h0 (by omega) (ih (i + 1) (by omega) (by omega))
  exact key (n - i0) i0 (Nat.le_refl _) (by omega)
/-- A loop that leaves at the first place where G fails. -/
theorem evAll (F : Nat → Int → Option Bool) (i0 n : Nat) (G : Nat → Prop)
    (hstep : ∀ i, i0 ≤ i → i < n → G i → ∀ r, Ev (fun k => F k ((i + 1 : Nat) : Int)) r → Ev (fun k => F k (i : Int)) r) (hbad : ∀ i, i0 ≤ i → i < n → ¬ G i → Ev (fun k => F k (i : Int)) false) (e : Bool) (hend : Ev (fun k => F k (n : Int)) e) (hle : i0 ≤ n) :
    Ev (fun k => F k (i0 : Int)) (B (∀ j, i0 ≤ j → j < n → G j) && e) := by
  have key : ∀ d i, i0 ≤ i → i + d = n → Ev (fun k => F k (i : Int)) (B (∀ j, i ≤ j → j < n → G j) && e) := by
    intro d
    induction d with
    | zero =>
      intro i _ hi
      have h0 : i = n := by omega
      subst h0
      rw [B_true (fun j h1 h2 => absurd h2 (by omega)), Bool.true_and]
      exact hend
    | succ d ih =>
      intro i h0 hi
      by_cases hg : G i
      · have h1 : B (∀ j, i ≤ j → j < n → G j) = B (∀ j, i + 1 ≤ j → j < n → G j) := B_congr ⟨fun h j a b => h j (by omega) b, fun h j a b => by
          by_cases e : j = i
          · subst e; exact hg
          · exact h j (by omega) b⟩
        rw [h1]
        exact hstep i h0 (by omega) hg _ (ih (i + 1) (by omega) (by omega))
      · rw [B_false (fun h => hg (h i (Nat.le_refl _) (by omega))), Bool.false_and]
        exact hbad i h0 (by omega) hg
  exact key (n - i0) i0 (Nat.le_refl _) (by omega)
theorem wrapNat {i : Nat} (h : i < 4611686018427387904) : wrap64 ((i : Int) + 1) = ((i + 1 : Nat) : Int) := by
  unfold wrap64; omega
theorem wrapPred {i : Nat} (h0 : 1 ≤ i) (h : i < 4611686018427387904) : wrap64 ((i : Int) - 1) = ((i - 1 : Nat) : Int) := by
  unfold wrap64; omega
theorem rdN (xs : List Int) (i : Nat) (h : i < xs.length) : rd xs (i : Int) = xs[i] := by
  simp [rd, List.getD_eq_getElem?_getD, List.getElem?_eq_getElem h]
theorem fillStep {α : Type} (xs : List α) (z : α) (i : Nat) (h : i < xs.length) : (xs.take i ++ List.replicate (xs.length - i) z).set i xs[i] = xs.take (i + 1) ++ List.replicate (xs.length - (i + 1)) z := by
  have h1 : xs.length - i = (xs.length - (i + 1)) + 1 := by omega
  rw [h1, List.replicate_succ, List.set_append_right _ _ (by rw [List.length_take]; omega)]
  rw [List.length_take, Nat.min_eq_left (by omega), Nat.sub_self, List.set_cons_zero, List.take_succ_eq_append_getElem h, List.append_assoc]
  rfl
theorem fillLen {α : Type} (xs : List α) (z : α) (i : Nat) (h : i ≤ xs.length) : (xs.take i ++ List.replicate (xs.length - i) z).length = xs.length := by
  simp; omega

theorem wrapIn {x : Int} (h0 : -9223372036854775808 ≤ x) (h1 : x ≤ 9223372036854775807) : wrap64 x = x := by
  unfold wrap64; omega

structure OkS (l : List Int) (a s : Int) : Prop where
  bytes : ∀ x ∈ l, 0 ≤ x ∧ x ≤ 255
  len : l.length ≤ 4096
  a0 : 0 ≤ a
  a1 : a ≤ l.length
  s0 : 0 ≤ s
  s1 : s < 2147483647
theorem rd_byte {l : List Int} (h : ∀ x ∈ l, 0 ≤ x ∧ x ≤ 255) (i : Int) : 0 ≤ rd l i ∧ rd l i ≤ 255 := spec_l01Next.byte h i
theorem next_ok {l : List Int} {a s : Int} (h : OkS l a s) (n : Int) :
    ∃ r a' s', spec_l01Next.f l a s n = some (r, a', s') ∧ OkS l a' s' ∧ (1 ≤ n → 0 ≤ r ∧ r < n) ∧ (n ≤ 1 → r = 0) := by
  have hs := h.s0
  have hs1 := h.s1
  have ha0 := h.a0
  have ha1 := h.a1
  have hl := h.len
  have hb := rd_byte h.bytes a
  refine ⟨(spec_l01Next.V l a s n).1, (spec_l01Next.V l a s n).2.1, (spec_l01Next.V l a s n).2.2, ?_, ?_⟩
  · unfold spec_l01Next.f
    rw [if_pos ⟨h.bytes, by omega, ⟨ha0, ha1⟩, hs, hs1⟩]
  · unfold spec_l01Next.V
    have hS0 : 0 ≤ (s * 48271 + 61) % 2147483647 := by omega
    have hS1 : (s * 48271 + 61) % 2147483647 < 2147483647 := by omega
    have modr : ∀ x : Int, 1 < n → 0 ≤ x % n ∧ x % n < n := fun x hn => ⟨Int.emod_nonneg _ (by omega), Int.emod_lt_of_pos _ (by omega)⟩
    by_cases hn : n ≤ 1
    · rw [if_pos hn]
      exact ⟨h, fun _ => ⟨by simp, by simp; omega⟩, fun _ => rfl⟩
    · rw [if_neg hn]
      by_cases c1 : a < (l.length : Int)
      · rw [if_pos c1]
        have ok1 : OkS l (a + 1) ((s * 48271 + 61) % 2147483647) := ⟨h.bytes, h.len, by omega, by omega, hS0, hS1⟩
        by_cases c2 : n ≤ 256 ∧ (a + 1) % 2 = 0
        · rw [if_pos c2]
          exact ⟨ok1, fun _ => modr _ (by omega), fun h1 => absurd h1 hn⟩
        · rw [if_neg c2]
          exact ⟨ok1, fun _ => modr _ (by omega), fun h1 => absurd h1 hn⟩
      · rw [if_neg c1]
        exact ⟨⟨h.bytes, h.len, ha0, ha1, hS0, hS1⟩, fun _ => modr _ (by omega), fun h1 => absurd h1 hn⟩
theorem from_loop (l : List Int) (hb : ∀ x ∈ l, 0 ≤ x ∧ x ≤ 255) (_hl : l.length ≤ 4096) (d : Nat) : ∀ (i : Nat) (s : Int), i + d = l.length → 0 ≤ s → s < 2147483647 → ∃ r, Ev (fun k => spec_l01From.l0 k l (i : Int) l 0 s) (l, 0, r) ∧ 0 ≤ r ∧ r < 2147483647 := by
  induction d with
  | zero =>
    intro i s hi h0 h1
    refine ⟨s, evSucc ?_, h0, h1⟩
    simp only [spec_l01From.l0, show ¬ ((i : Int) < (l.length : Int)) by omega, if_false]
    exact Ev.now _
  | succ d ih =>
    intro i s hi h0 h1
    by_cases h64 : (i : Int) < 64
    · have hr := rd_byte hb (i : Int)
      have he : Int.tmod (wrap64 ((wrap64 (s * 71)) + (wrap64 (rd l (i : Int))))) 2147483647 = (s * 71 + rd l (i : Int)) % 2147483647 := by
        rw [wrapIn (x := s * 71) (by omega) (by omega), wrapIn (x := rd l (i : Int)) (by omega) (by omega), wrapIn (by omega) (by omega), Int.tmod_eq_emod_of_nonneg (by omega)]
      obtain ⟨r, hr1, hr2, hr3⟩ := ih (i + 1) ((s * 71 + rd l (i : Int)) % 2147483647) (by omega) (by omega) (by omega)
      refine ⟨r, evSucc ?_, hr2, hr3⟩
      simp only [spec_l01From.l0, show (i : Int) < (l.length : Int) by omega, h64, show (0 : Int) ≤ (i : Int) by omega, if_true, he, wrapNat (show i < 4611686018427387904 by omega)]
      exact hr1
    · refine ⟨s, evSucc ?_, h0, h1⟩
      simp only [spec_l01From.l0, show (i : Int) < (l.length : Int) by omega, h64, if_true, if_false]
      exact Ev.now _
theorem from_ok (l : List Int) (hw : ∀ x ∈ l, (Lit.int .u8 x).wf = true) (hl : l.length ≤ 4096) : ∃ s, Ev (fun k => spec_l01From.f k l) (l, 0, s) ∧ OkS l 0 s := by
  have hb : ∀ x ∈ l, 0 ≤ x ∧ x ≤ 255 := fun x hx => by
    have := hw x hx
    simp [Lit.wf, IntKind.min, IntKind.max, IntKind.signed, IntKind.bits] at this
    omega
  obtain ⟨r, h1, h2, h3⟩ := from_loop l hb hl l.length 0 88007 (by omega) (by omega) (by omega)
  refine ⟨r, ?_, ⟨hb, hl, by omega, by omega, h2, h3⟩⟩
  unfold spec_l01From.f
  exact h1

theorem pick_ok {l : List Int} {a s : Int} (h : OkS l a s) (xs : List Int) (h0 : 0 < xs.length) :
    ∃ r a' s', spec_l01Pick.f l a s xs = some (r, a', s') ∧ OkS l a' s' ∧ r ∈ xs := by
  obtain ⟨r, a', s', h1, h2, h3, _⟩ := next_ok h (xs.length : Int)
  obtain ⟨h4, h5⟩ := h3 (by omega)
  refine ⟨rd xs r, a', s', ?_, h2, ?_⟩
  · unfold spec_l01Pick.f
    rw [h1]
    simp only [Option.bind_some]
    rw [if_pos h4, if_pos h5]
  · unfold rd
    rw [List.getD_eq_getElem?_getD, List.getElem?_eq_getElem (show r.toNat < xs.length by omega)]
    exact List.getElem_mem _

/-- Two rising lists with the same elements are one list. -/
theorem rising_perm : ∀ (l1 l2 : List Int), l1.Perm l2 → l1.Pairwise (· ≤ ·) → l2.Pairwise (· ≤ ·) → l1 = l2
  | [], l2, hp, _, _ => (List.Perm.nil_eq hp)
  | a :: l1, [], hp, _, _ => absurd hp.length_eq (by simp)
  | a :: l1, b :: l2, hp, h1, h2 => by
    have ha : a ∈ b :: l2 := hp.subset (List.mem_cons_self ..)
    have hb : b ∈ a :: l1 := hp.symm.subset (List.mem_cons_self ..)
    have e : a = b := by
      rcases List.mem_cons.1 ha with rfl | ha
      · rfl
      · rcases List.mem_cons.1 hb with rfl | hb
        · rfl
        · have x1 := (List.pairwise_cons.1 h1).1 b hb
          have x2 := (List.pairwise_cons.1 h2).1 a ha
          omega
    subst e
    rw [rising_perm l1 l2 ((List.perm_cons a).1 hp) (List.pairwise_cons.1 h1).2 (List.pairwise_cons.1 h2).2]
/-- m put into a list at its place. -/
def insAt (m : Int) : List Int → List Int
  | [] => [m]
  | x :: l => if x < m then x :: insAt m l else m :: x :: l
theorem insAt_perm (m : Int) : ∀ l, (insAt m l).Perm (m :: l)
  | [] => List.Perm.refl _
  | x :: l => by
    unfold insAt
    split
    · exact ((insAt_perm m l).cons x).trans (List.Perm.swap _ _ _)
    · exact List.Perm.refl _
theorem insAt_rises (m : Int) : ∀ l : List Int, l.Pairwise (· ≤ ·) → (insAt m l).Pairwise (· ≤ ·)
  | [], _ => by simp [insAt]
  | x :: l, h => by
    have hc := List.pairwise_cons.1 h
    unfold insAt
    split
    · rename_i hx
      refine List.pairwise_cons.2 ⟨fun y hy => ?_, insAt_rises m l hc.2⟩
      rcases List.mem_cons.1 ((insAt_perm m l).subset hy) with rfl | hy
      · omega
      · exact hc.1 y hy
    · rename_i hx
      refine List.pairwise_cons.2 ⟨fun y hy => ?_, h⟩
      rcases List.mem_cons.1 hy with rfl | hy
      · omega
      · have := hc.1 y hy; omega

def isort : List Int → List Int → List Int
  | S, [] => S
  | S, v :: T => isort (insAt v S) T
theorem isort_perm : ∀ T S : List Int, (isort S T).Perm (S ++ T)
  | [], S => by simp [isort]
  | v :: T, S => by
    unfold isort
    refine (isort_perm T _).trans (((insAt_perm v S).append_right T).trans ?_)
    exact (List.perm_middle (a := v) (l₁ := S) (l₂ := T)).symm
theorem isort_rises : ∀ T S : List Int, S.Pairwise (· ≤ ·) → (isort S T).Pairwise (· ≤ ·)
  | [], _, h => h
  | v :: T, S, h => isort_rises T _ (insAt_rises v S h)
theorem isort_snoc : ∀ (T : List Int) (S : List Int) (m : Int), isort S (T ++ [m]) = insAt m (isort S T)
  | [], _, _ => rfl
  | v :: T, S, m => by
    show isort (insAt v S) (T ++ [m]) = insAt m (isort (insAt v S) T)
    exact isort_snoc T _ m
theorem isort_eq {l m : List Int} (h : l.Perm m) : isort [] l = isort [] m :=
  rising_perm _ _ ((isort_perm l []).trans (h.trans (isort_perm m []).symm)) (isort_rises l [] .nil) (isort_rises m [] .nil)
theorem less_f (a b : Int) : cmp_Less_int64.f a b = some (decide (a < b)) := by
  unfold cmp_Less_int64.f cmp_isNaN_int64.f
  simp
theorem insAt_mid (L R : List Int) (v : Int) (h : (L ++ R).Pairwise (· ≤ ·)) (hL : ∀ x ∈ L, x ≤ v) (hR : ∀ x ∈ R, v ≤ x) : insAt v (L ++ R) = L ++ v :: R := by
  refine rising_perm _ _ ((insAt_perm v (L ++ R)).trans (List.perm_middle (a := v) (l₁ := L) (l₂ := R)).symm) (insAt_rises v _ h) ?_
  have h' := List.pairwise_append.1 h
  refine List.pairwise_append.2 ⟨h'.1, List.pairwise_cons.2 ⟨hR, h'.2.1⟩, fun a ha b hb => ?_⟩
  rcases List.mem_cons.1 hb with rfl | hb
  · exact hL a ha
  · exact h'.2.2 a ha b hb
theorem rdA (L : List Int) (v : Int) (T : List Int) : rd (L ++ v :: T) (L.length : Int) = v := by
  simp [rd, List.getD_eq_getElem?_getD]
theorem sortIn (N i : Nat) (hN : N ≤ 1000) (r : List Int) : ∀ (n : Nat) (L R T : List Int) (v : Int), L.length = n → (L ++ R).Pairwise (· ≤ ·) → (∀ x ∈ R, v < x) → i = L.length + R.length → N = i + 1 + T.length → Ev (fun k => slices_insertionSortOrdered_int64.l0 k (insAt v (L ++ R) ++ T) 0 (N : Int) ((i + 1 : Nat) : Int)) r → Ev (fun k => slices_insertionSortOrdered_int64.l1 k (L ++ v :: (R ++ T)) 0 (N : Int) (i : Int) (L.length : Int)) r := by
  intro n
  induction n with
  | zero =>
    intro L R T v hl hp hR hi hN' h
    have : L = [] := List.eq_nil_of_length_eq_zero hl
    subst this
    refine evSucc ?_
    rw [insAt_mid [] R v hp (by simp) (fun x hx => Int.le_of_lt (hR x hx))] at h
    simp only [slices_insertionSortOrdered_int64.l1, List.length_nil, show ¬ (((0 : Nat) : Int) > 0) by decide, if_false, wrapNat (show i < 4611686018427387904 by omega)]
    simpa using h
  | succ n ih =>
    intro L R T v hl hp hR hi hN' h
    obtain ⟨L', u, rfl⟩ : ∃ L' u, L = L' ++ [u] := ⟨L.dropLast, L.getLast (by rintro rfl; simp at hl), (List.dropLast_concat_getLast _).symm⟩
    have hl' : L'.length = n := by simpa using hl
    have hlen : ((L' ++ [u]) ++ v :: (R ++ T)).length = N := by simp only [List.length_append, List.length_cons, List.length_singleton] at hi ⊢; omega
    have hL1 : (L' ++ [u]).length = n + 1 := hl
    have hw : wrap64 (((n + 1 : Nat) : Int) - 1) = (n : Int) := by rw [wrapIn (by simp at hi; omega) (by simp at hi; omega)]; omega
    have r1 : rd ((L' ++ [u]) ++ v :: (R ++ T)) ((n + 1 : Nat) : Int) = v := by rw [← hL1]; exact rdA _ _ _
    have r2 : rd ((L' ++ [u]) ++ v :: (R ++ T)) (n : Int) = u := by
      have e : (L' ++ [u]) ++ v :: (R ++ T) = L' ++ u :: (v :: (R ++ T)) := by simp
      rw [e, ← hl']; exact rdA _ _ _
    refine evSucc ?_
    have hnN : n + 1 < N := by simp only [List.length_append, List.length_singleton] at hi; omega
    simp only [slices_insertionSortOrdered_int64.l1, hL1, hlen, show ((n + 1 : Nat) : Int) > 0 by omega, show (0 : Int) ≤ ((n + 1 : Nat) : Int) by omega, show ((n + 1 : Nat) : Int) < (N : Int) by omega, if_true, hw, show (0 : Int) ≤ (n : Int) by omega, show (n : Int) < (N : Int) by omega, r1, r2, less_f, Option.bind_some, Int.toNat_natCast]
    by_cases c : v < u
    · simp only [c, decide_true, if_true]
      have e1 : (((L' ++ [u]) ++ v :: (R ++ T)).set (n + 1) u).set n v = L' ++ v :: ((u :: R) ++ T) := by
        rw [List.set_append_right _ _ (by rw [hL1]; exact Nat.le_refl _), hL1, Nat.sub_self, List.set_cons_zero, List.append_assoc, List.set_append_right _ _ (by rw [hl']; exact Nat.le_refl _), hl', Nat.sub_self]
        rfl
      rw [e1]
      have e2 : (L' ++ [u]) ++ R = L' ++ (u :: R) := by simp
      rw [e2] at hp h
      have := ih L' (u :: R) T v hl' hp (fun x hx => by
        rcases List.mem_cons.1 hx with rfl | hx
        · exact c
        · exact hR x hx) (by simp at hi ⊢; omega) hN' h
      rw [hl'] at this
      exact this
    · simp only [c, decide_false, Bool.false_eq_true, if_false, wrapNat (show i < 4611686018427387904 by omega)]
      have hp1 := List.pairwise_append.1 (List.pairwise_append.1 hp).1
      rw [insAt_mid (L' ++ [u]) R v hp (fun x hx => by
        rcases List.mem_append.1 hx with hx | hx
        · have := hp1.2.2 x hx u (by simp); omega
        · rw [List.mem_singleton] at hx; omega) (fun x hx => Int.le_of_lt (hR x hx))] at h
      rw [List.append_assoc, List.cons_append] at h
      exact h
theorem sortOut (N : Nat) (hN : N ≤ 1000) : ∀ (T S : List Int), S.Pairwise (· ≤ ·) → N = S.length + T.length → Ev (fun k => slices_insertionSortOrdered_int64.l0 k (S ++ T) 0 (N : Int) (S.length : Int)) (isort S T)
  | [], S, _, hn => by
    refine evSucc ?_
    simp only [List.length_nil, Nat.add_zero] at hn
    simp only [slices_insertionSortOrdered_int64.l0, hn, Int.lt_irrefl, if_false, List.append_nil, isort]
    exact Ev.now _
  | v :: T, S, hs, hn => by
    refine evSucc ?_
    simp only [List.length_cons] at hn
    simp only [slices_insertionSortOrdered_int64.l0, show (S.length : Int) < (N : Int) by omega, if_true]
    have ih := sortOut N hN T (insAt v S) (insAt_rises v S hs) (by rw [(insAt_perm v S).length_eq, List.length_cons]; omega)
    rw [(insAt_perm v S).length_eq, List.length_cons] at ih
    show Ev _ (isort (insAt v S) T)
    have := sortIn N S.length hN (isort (insAt v S) T) S.length S [] T v rfl (by simpa using hs) (by simp) (by simp) (by omega) (by simpa using ih)
    simpa using this
theorem sortI (l : List Int) (hl : l.length ≤ 12) : Ev (fun k => slices_insertionSortOrdered_int64.f k l 0 (l.length : Int)) (isort [] l) := by
  unfold slices_insertionSortOrdered_int64.f
  rw [show wrap64 (0 + 1) = 1 from wrapIn (x := 0 + 1) (by omega) (by omega)]
  cases l with
  | nil =>
    refine evSucc ?_
    simp only [slices_insertionSortOrdered_int64.l0, List.length_nil, show ¬ ((1 : Int) < ((0 : Nat) : Int)) by decide, if_false, isort]
    exact Ev.now _
  | cons a T =>
    have := sortOut (a :: T).length (by omega) T [a] (by simp) (by simp; omega)
    exact this
set_option maxRecDepth 100000 in
theorem lenBits (n : Nat) (h : n ≤ 12) : ∃ r, Ev (fun k => bits_Len.f k (IntKind.u64.wrap (n : Int))) r := by
  have e : IntKind.u64.wrap (n : Int) = (n : Int) := by
    simp [IntKind.wrap, IntKind.signed, IntKind.bits]; omega
  refine ⟨_, Ev.bind (r := ?r) (g := fun k => bits_Len64.f k (IntKind.u64.wrap (n : Int))) ?_ (Ev.now _)⟩
  rotate_left
  unfold bits_Len64.f
  rw [e]
  simp only [show ¬ ((n : Int) ≥ 4294967296) by omega, if_false]
  refine evSucc ?_
  simp only [bits_Len64.j0, show ¬ ((n : Int) ≥ 65536) by omega, show ¬ ((n : Int) ≥ 256) by omega, if_false, show (0 : Int) ≤ (n : Int) % 256 by omega, show (n : Int) % 256 < 256 by omega, if_true]
  exact Ev.now _
theorem sortSlice (l : List Int) (hl : l.length ≤ 12) : Ev (fun k => slices_Sort_int64_int64.f k l) (isort [] l) := by
  obtain ⟨r, h⟩ := lenBits l.length hl
  unfold slices_Sort_int64_int64.f
  refine Ev.bind h ?_
  have hw : wrap64 ((l.length : Int) - 0) ≤ 12 := by rw [wrapIn (by omega) (by omega)]; omega
  unfold slices_pdqsortOrdered_int64.f
  simp only [hw, if_true]
  exact Ev.bind (sortI l hl) (Ev.now _)

theorem inS (a b c : Int) : spec_l01In.f a b c = some (decide (b ≤ a ∧ a ≤ c)) := by
  unfold spec_l01In.f
  by_cases h : b ≤ a <;> simp [h]

theorem inI (a b c : Int) : impl_inRange.f a b c = some (decide (b ≤ a ∧ a ≤ c)) := by
  unfold impl_inRange.f
  by_cases h : b ≤ a <;> simp [h]

def codeB (a : Int) : Bool := decide ((0 ≤ a ∧ a ≤ 9999999) ∧ (1 ≤ Int.tmod a 100 ∧ Int.tmod a 100 ≤ 97) ∧ Int.tmod a 97 = 1)
theorem codeS (a : Int) : spec_IsCode.f a = some (codeB a) := by
  unfold spec_IsCode.f spec_l15Remainder.f codeB
  simp only [inS, Option.bind_some]
  by_cases h1 : (0 ≤ a ∧ a ≤ 9999999) <;> by_cases h2 : (1 ≤ Int.tmod a 100 ∧ Int.tmod a 100 ≤ 97) <;> by_cases h3 : Int.tmod a 97 = 1 <;> simp [h1, h2, h3]
theorem codeI (a : Int) : impl_IsCode.f a = some (codeB a) := by
  unfold impl_IsCode.f codeB
  simp only [inI, Option.bind_some]
  by_cases h1 : (0 ≤ a ∧ a ≤ 9999999) <;> by_cases h2 : (1 ≤ Int.tmod a 100 ∧ Int.tmod a 100 ≤ 97) <;> by_cases h3 : Int.tmod a 97 = 1 <;> simp [h1, h2, h3]

def num : List Int → Int
  | l => l.foldl (fun x d => 10 * x + d) 0
theorem num_snoc (l : List Int) (d : Int) : num (l ++ [d]) = 10 * num l + d := by simp [num]
def pw : Nat → Int
  | 0 => 1
  | j + 1 => 10 * pw j
theorem num_in (l : List Int) (h : ∀ x ∈ l, 0 ≤ x ∧ x ≤ 9) : ∀ i : Nat, i ≤ l.length → 0 ≤ num (l.take i) ∧ num (l.take i) < pw i
  | 0, _ => by simp [num, pw]
  | i + 1, hi => by
    have := num_in l h i (by omega)
    rw [List.take_succ_eq_append_getElem (by omega), num_snoc]
    have := h l[i] (List.getElem_mem _)
    simp only [pw]
    omega
theorem pw_mono (i : Nat) : pw i ≤ pw (i + 1) ∧ 1 ≤ pw i := by
  induction i with
  | zero => simp [pw]
  | succ i ih => simp only [pw] at ih ⊢; omega
theorem pw_le : ∀ d i : Nat, pw i ≤ pw (i + d)
  | 0, _ => Int.le_refl _
  | d + 1, i => Int.le_trans (pw_le d i) (pw_mono (i + d)).1
theorem numS (l : List Int) (h : ∀ x ∈ l, 0 ≤ x ∧ x ≤ 9) (hl : l.length ≤ 7) : Ev (fun k => spec_l15Number.f k l) (num l) := by
  unfold spec_l15Number.f
  have := evCount (fun k (x : Int) i => spec_l15Number.l0 k l x i) 0 l.length (fun i => num (l.take i)) (num l) ?_ ?_ (Nat.zero_le _)
  · simpa [num] using this
  · intro i _ hi hr
    refine evSucc ?_
    have h1 := num_in l h i (by omega)
    have h2 := pw_le (7 - i) i
    rw [show i + (7 - i) = 7 by omega, show pw 7 = 10000000 from rfl] at h2
    have h3 := h l[i] (List.getElem_mem _)
    rw [List.take_succ_eq_append_getElem hi, num_snoc] at hr
    simp only [spec_l15Number.l0, show (i : Int) < (l.length : Int) by omega, show (0 : Int) ≤ (i : Int) by omega, if_true, rdN l i hi, wrapNat (show i < 4611686018427387904 by omega), wrapIn (show -9223372036854775808 ≤ 10 * num (l.take i) by omega) (show 10 * num (l.take i) ≤ 9223372036854775807 by omega), wrapIn (show -9223372036854775808 ≤ 10 * num (l.take i) + l[i] by omega) (show 10 * num (l.take i) + l[i] ≤ 9223372036854775807 by omega)]
    exact hr
  · refine evSucc ?_
    simp only [spec_l15Number.l0, Int.lt_irrefl, if_false, List.take_length]
    exact Ev.now _
/-- The seven digits. -/
def dsL (n : Int) : List Int := [n / 1000000 % 10, n / 100000 % 10, n / 10000 % 10, n / 1000 % 10, n / 100 % 10, n / 10 % 10, n % 10]
theorem dsL_in (n : Int) : ∀ x ∈ dsL n, 0 ≤ x ∧ x ≤ 9 := by
  intro x hx
  simp only [dsL, List.mem_cons, List.not_mem_nil, or_false] at hx
  rcases hx with rfl | rfl | rfl | rfl | rfl | rfl | rfl <;> omega
theorem digStep (x : Int) (l : List Int) (i : Nat) (r : List Int) (h0 : 0 ≤ x) (h1 : x ≤ 9999999) (hl : l.length = 7) (hi : i < 7) (h : Ev (fun k => spec_l15Digits.l0 k (x / 10) (l.set i (x % 10)) ((i : Int) - 1)) r) : Ev (fun k => spec_l15Digits.l0 k x l (i : Int)) r := by
  refine evSucc ?_
  have e1 : Int.tdiv x 10 = x / 10 := Int.tdiv_eq_ediv_of_nonneg h0
  have e2 : Int.tmod x 10 = x % 10 := Int.tmod_eq_emod_of_nonneg h0
  have e3 : wrap64 (x / 10) = x / 10 := wrapIn (by omega) (by omega)
  have e4 : wrap64 ((i : Int) - 1) = (i : Int) - 1 := wrapIn (by omega) (by omega)
  simp only [spec_l15Digits.l0, show (i : Int) ≥ 0 by omega, show (0 : Int) ≤ (i : Int) by omega, hl, show (i : Int) < ((7 : Nat) : Int) by omega, if_true, e1, e2, e3, e4, Int.toNat_natCast]
  exact h
theorem digitsS (n : Int) (h0 : 0 ≤ n) (h1 : n ≤ 9999999) : Ev (fun k => spec_l15Digits.f k n) (dsL n) := by
  unfold spec_l15Digits.f
  simp only [show (7 : Nat) ≤ 35184372088832 by decide, if_true]
  refine digStep n _ 6 _ h0 h1 (by simp) (by decide) ?_
  refine digStep (n / 10) _ 5 _ (by omega) (by omega) (by simp) (by decide) ?_
  refine digStep (n / 10 / 10) _ 4 _ (by omega) (by omega) (by simp) (by decide) ?_
  refine digStep (n / 10 / 10 / 10) _ 3 _ (by omega) (by omega) (by simp) (by decide) ?_
  refine digStep (n / 10 / 10 / 10 / 10) _ 2 _ (by omega) (by omega) (by simp) (by decide) ?_
  refine digStep (n / 10 / 10 / 10 / 10 / 10) _ 1 _ (by omega) (by omega) (by simp) (by decide) ?_
  refine digStep (n / 10 / 10 / 10 / 10 / 10 / 10) _ 0 _ (by omega) (by omega) (by simp) (by decide) ?_
  refine evSucc ?_
  simp only [spec_l15Digits.l0, show ¬ (((0 : Nat) : Int) - 1 ≥ 0) by decide, if_false]
  have e : (((((((List.replicate 7 (0 : Int)).set 6 (n % 10)).set 5 (n / 10 % 10)).set 4 (n / 10 / 10 % 10)).set 3 (n / 10 / 10 / 10 % 10)).set 2 (n / 10 / 10 / 10 / 10 % 10)).set 1 (n / 10 / 10 / 10 / 10 / 10 % 10)).set 0 (n / 10 / 10 / 10 / 10 / 10 / 10 % 10) = dsL n := by
    show [n / 10 / 10 / 10 / 10 / 10 / 10 % 10, n / 10 / 10 / 10 / 10 / 10 % 10, n / 10 / 10 / 10 / 10 % 10, n / 10 / 10 / 10 % 10, n / 10 / 10 % 10, n / 10 % 10, n % 10] = _
    simp only [dsL, List.cons.injEq, and_true]
    omega
  rw [e]
  exact Ev.now _
/-- The digit of the power j; the number with another digit there; the codes among them. -/
def dg (n : Int) (j : Nat) : Int := n / pw j % 10
def mm (n : Int) (j : Nat) (d : Int) : Int := n + (d - dg n j) * pw j
def okC (n : Int) (j : Nat) (d : Int) : Bool := !decide (d = dg n j) && codeB (mm n j d)
def cand (n : Int) (j : Nat) : Nat → List Int
  | 0 => []
  | d + 1 => if okC n j (d : Int) = true then cand n j d ++ [mm n j (d : Int)] else cand n j d
theorem numSet (n : Int) (h0 : 0 ≤ n) (h1 : n ≤ 9999999) (i : Nat) (hi : i < 7) (d : Int) : num ((dsL n).set i d) = mm n (6 - i) d := by
  match i, hi with
  | 0, _ => show ((((((10 * (10 * 0 + d) + n / 100000 % 10) |> fun x => 10 * x + n / 10000 % 10) |> fun x => 10 * x + n / 1000 % 10) |> fun x => 10 * x + n / 100 % 10) |> fun x => 10 * x + n / 10 % 10) |> fun x => 10 * x + n % 10) = n + (d - n / 1000000 % 10) * 1000000; simp only; omega
  | 1, _ => show ((((((10 * (10 * 0 + n / 1000000 % 10) + d) |> fun x => 10 * x + n / 10000 % 10) |> fun x => 10 * x + n / 1000 % 10) |> fun x => 10 * x + n / 100 % 10) |> fun x => 10 * x + n / 10 % 10) |> fun x => 10 * x + n % 10) = n + (d - n / 100000 % 10) * 100000; simp only; omega
  | 2, _ => show ((((((10 * (10 * 0 + n / 1000000 % 10) + n / 100000 % 10) |> fun x => 10 * x + d) |> fun x => 10 * x + n / 1000 % 10) |> fun x => 10 * x + n / 100 % 10) |> fun x => 10 * x + n / 10 % 10) |> fun x => 10 * x + n % 10) = n + (d - n / 10000 % 10) * 10000; simp only; omega
  | 3, _ => show ((((((10 * (10 * 0 + n / 1000000 % 10) + n / 100000 % 10) |> fun x => 10 * x + n / 10000 % 10) |> fun x => 10 * x + d) |> fun x => 10 * x + n / 100 % 10) |> fun x => 10 * x + n / 10 % 10) |> fun x => 10 * x + n % 10) = n + (d - n / 1000 % 10) * 1000; simp only; omega
  | 4, _ => show ((((((10 * (10 * 0 + n / 1000000 % 10) + n / 100000 % 10) |> fun x => 10 * x + n / 10000 % 10) |> fun x => 10 * x + n / 1000 % 10) |> fun x => 10 * x + d) |> fun x => 10 * x + n / 10 % 10) |> fun x => 10 * x + n % 10) = n + (d - n / 100 % 10) * 100; simp only; omega
  | 5, _ => show ((((((10 * (10 * 0 + n / 1000000 % 10) + n / 100000 % 10) |> fun x => 10 * x + n / 10000 % 10) |> fun x => 10 * x + n / 1000 % 10) |> fun x => 10 * x + n / 100 % 10) |> fun x => 10 * x + d) |> fun x => 10 * x + n % 10) = n + (d - n / 10 % 10) * 10; simp only; omega
  | 6, _ => show ((((((10 * (10 * 0 + n / 1000000 % 10) + n / 100000 % 10) |> fun x => 10 * x + n / 10000 % 10) |> fun x => 10 * x + n / 1000 % 10) |> fun x => 10 * x + n / 100 % 10) |> fun x => 10 * x + n / 10 % 10) |> fun x => 10 * x + d) = n + (d - n / 1 % 10) * 1; simp only; omega
theorem pw_cases (j : Nat) (hj : j ≤ 6) : pw j = 1 ∨ pw j = 10 ∨ pw j = 100 ∨ pw j = 1000 ∨ pw j = 10000 ∨ pw j = 100000 ∨ pw j = 1000000 := by
  match j, hj with
  | 0, _ => exact .inl rfl
  | 1, _ => exact .inr (.inl rfl)
  | 2, _ => exact .inr (.inr (.inl rfl))
  | 3, _ => exact .inr (.inr (.inr (.inl rfl)))
  | 4, _ => exact .inr (.inr (.inr (.inr (.inl rfl))))
  | 5, _ => exact .inr (.inr (.inr (.inr (.inr (.inl rfl)))))
  | 6, _ => exact .inr (.inr (.inr (.inr (.inr (.inr rfl)))))
theorem dg_in (n : Int) (j : Nat) : 0 ≤ dg n j ∧ dg n j ≤ 9 := by unfold dg; omega
theorem mm_ne (n : Int) (j : Nat) (hj : j ≤ 6) (d : Int) : mm n j d = n ↔ d = dg n j := by
  unfold mm
  generalize dg n j = g
  rcases pw_cases j hj with e | e | e | e | e | e | e <;> rw [e] <;> omega
theorem mm_in (n : Int) (h0 : 0 ≤ n) (h1 : n ≤ 9999999) (j : Nat) (hj : j ≤ 6) (d : Int) (d0 : 0 ≤ d) (d1 : d ≤ 9) : -99999999 ≤ mm n j d ∧ mm n j d ≤ 99999999 := by
  have := dg_in n j
  unfold mm
  generalize dg n j = g at *
  rcases pw_cases j hj with e | e | e | e | e | e | e <;> rw [e] <;> omega
theorem code_of {m : Int} (h : codeB m = true) : 0 ≤ m ∧ m % 97 = 1 := by
  unfold codeB at h
  rw [decide_eq_true_eq] at h
  have := h.1.1
  rw [Int.tmod_eq_emod_of_nonneg (by omega : 0 ≤ m), Int.tmod_eq_emod_of_nonneg (by omega : 0 ≤ m)] at h
  omega
theorem two_no (n : Int) (j : Nat) (hj : j ≤ 6) (d e : Int) (d0 : 0 ≤ d) (de : d < e) (e1 : e ≤ 9) (h1 : mm n j d % 97 = 1) (h2 : mm n j e % 97 = 1) : False := by
  unfold mm at h1 h2
  generalize dg n j = g at *
  rcases pw_cases j hj with c | c | c | c | c | c | c <;> rw [c] at h1 h2 <;> omega
theorem cand_one (n : Int) (j : Nat) (hj : j ≤ 6) : ∀ D : Nat, D ≤ 10 → (cand n j D).length ≤ 1 ∧ ∀ m ∈ cand n j D, ∃ d : Nat, d < D ∧ m = mm n j (d : Int) ∧ codeB m = true
  | 0, _ => by simp [cand]
  | D + 1, hD => by
    obtain ⟨h1, h2⟩ := cand_one n j hj D (by omega)
    unfold cand
    by_cases c : okC n j (D : Int) = true
    · rw [if_pos c]
      have c' := c
      unfold okC at c'
      rw [Bool.and_eq_true] at c'
      cases hc : cand n j D with
      | nil =>
        refine ⟨by simp, fun m hm => ?_⟩
        have e : m = mm n j (D : Int) := by simpa using hm
        exact ⟨D, by omega, e, by rw [e]; exact c'.2⟩
      | cons x l =>
        obtain ⟨d, hd, e, hx⟩ := h2 x (by rw [hc]; simp)
        rw [e] at hx
        exact (two_no n j hj (d : Int) (D : Int) (by omega) (by omega) (by omega) (code_of hx).2 (code_of c'.2).2).elim
    · rw [if_neg c]
      exact ⟨h1, fun m hm => by obtain ⟨d, hd, h⟩ := h2 m hm; exact ⟨d, by omega, h⟩⟩
/-- How many stand ahead of m. -/
def atN (m : Int) : List Int → Nat
  | [] => 0
  | x :: l => if x < m then atN m l + 1 else 0
theorem atN_le (m : Int) : ∀ l : List Int, atN m l ≤ l.length
  | [] => Nat.le_refl _
  | x :: l => by
    have := atN_le m l
    unfold atN
    split <;> simp only [List.length_cons] <;> omega
theorem insAt_at (m : Int) : ∀ l : List Int, l.take (atN m l) ++ [m] ++ l.drop (atN m l) = insAt m l
  | [] => by simp [atN, insAt]
  | x :: l => by
    unfold atN insAt
    by_cases c : x < m
    · rw [if_pos c, if_pos c, List.take_succ_cons, List.drop_succ_cons, List.cons_append, List.cons_append, insAt_at m l]
    · rw [if_neg c, if_neg c]
      simp
theorem atS (o : List Int) (m : Int) (ho : o.length ≤ 1000) : Ev (fun k => spec_NearCodes.at k o m 0) ((atN m o : Nat) : Int) := by
  have key : ∀ d i : Nat, i + d = o.length → Ev (fun k => spec_NearCodes.at k o m (i : Int)) ((i + atN m (o.drop i) : Nat) : Int) := by
    intro d
    induction d with
    | zero =>
      intro i hi
      refine evSucc ?_
      rw [List.drop_of_length_le (by omega)]
      simp only [spec_NearCodes.at, show ¬ ((i : Int) < (o.length : Int)) by omega, if_false, atN, Nat.add_zero]
      exact Ev.now _
    | succ d ih =>
      intro i hi
      refine evSucc ?_
      have hlt : i < o.length := by omega
      rw [List.drop_eq_getElem_cons hlt]
      simp only [spec_NearCodes.at, show (i : Int) < (o.length : Int) by omega, show (0 : Int) ≤ (i : Int) by omega, if_true, rdN o i hlt, atN, wrapNat (show i < 4611686018427387904 by omega)]
      by_cases c : o[i] < m
      · simp only [c, if_true]
        have := ih (i + 1) (by omega)
        rw [show i + 1 + atN m (o.drop (i + 1)) = i + (atN m (o.drop (i + 1)) + 1) by omega] at this
        exact this
      · simp only [c, if_false, Nat.add_zero]
        exact Ev.now _
  have := key o.length 0 (by omega)
  rw [List.drop_zero, Nat.zero_add] at this
  exact this
def ES (n : Int) : Nat → List Int
  | 0 => []
  | i + 1 => ES n i ++ cand n (6 - i) 10
def EI (n : Int) : Nat → List Int
  | 0 => []
  | j + 1 => EI n j ++ cand n j 10
theorem ES_len (n : Int) : ∀ i : Nat, i ≤ 7 → (ES n i).length ≤ i
  | 0, _ => by simp [ES]
  | i + 1, hi => by
    have := ES_len n i (by omega)
    have := (cand_one n (6 - i) (by omega) 10 (by omega)).1
    simp only [ES, List.length_append]
    omega
theorem EI_len (n : Int) : ∀ i : Nat, i ≤ 7 → (EI n i).length ≤ i
  | 0, _ => by simp [EI]
  | i + 1, hi => by
    have := EI_len n i (by omega)
    have := (cand_one n i (by omega) 10 (by omega)).1
    simp only [EI, List.length_append]
    omega
theorem E_perm (n : Int) : (ES n 7).Perm (EI n 7) := by
  rw [List.perm_iff_count]
  intro a
  simp only [ES, EI, List.nil_append, List.count_append, Nat.sub_zero, show 6 - 1 = 5 from rfl, show 6 - 2 = 4 from rfl, show 6 - 3 = 3 from rfl, show 6 - 4 = 2 from rfl, show 6 - 5 = 1 from rfl, show 6 - 6 = 0 from rfl]
  omega
theorem isort_len (l : List Int) : (isort [] l).length = l.length := by
  rw [(isort_perm l []).length_eq, List.nil_append]
def nearR (n : Int) : List Int × Int := if 0 ≤ n ∧ n ≤ 9999999 then (isort [] (ES n 7), 0) else ([], 2)
theorem nearS (n : Int) : Ev (fun k => spec_NearCodes.f k n) (nearR n) := by
  unfold spec_NearCodes.f nearR
  simp only [inS, Option.bind_some, decide_eq_true_eq]
  by_cases h : 0 ≤ n ∧ n ≤ 9999999
  · simp only [h, and_self, if_true]
    refine Ev.bind (digitsS n h.1 h.2) ?_
    have hl : (dsL n).length = 7 := rfl
    refine evCount (fun k (o : List Int) i => spec_NearCodes.l0 k n (dsL n) o i) 0 7 (fun i => isort [] (ES n i)) _ ?_ ?_ (Nat.zero_le _)
    · intro i _ hi hr
      refine evSucc ?_
      simp only [spec_NearCodes.l0, hl, show (i : Int) < ((7 : Nat) : Int) by omega, if_true]
      have hE := ES_len n i (by omega)
      have := evCount (fun k (o : List Int) d => spec_NearCodes.l1 k n (dsL n) o (i : Int) d) 0 10 (fun d => isort [] (ES n i ++ cand n (6 - i) d)) (isort [] (ES n 7), 0) ?_ ?_ (Nat.zero_le _)
      · simpa [cand] using this
      · intro d _ hd h2
        refine evSucc ?_
        have hc := (cand_one n (6 - i) (by omega) d (by omega)).1
        have hlen : (isort [] (ES n i ++ cand n (6 - i) d)).length ≤ 8 := by rw [isort_len, List.length_append]; omega
        have hnum := numS ((dsL n).set i (d : Int)) (fun x hx => by
          rcases List.mem_or_eq_of_mem_set hx with hx | rfl
          · exact dsL_in n x hx
          · omega) (by rw [List.length_set]; exact Nat.le_of_eq hl)
        rw [numSet n h.1 h.2 i hi] at hnum
        simp only [spec_NearCodes.l1, show (d : Int) < 10 by omega, show (0 : Int) ≤ (i : Int) by omega, hl, show (i : Int) < ((7 : Nat) : Int) by omega, show (7 : Nat) < 4096 by decide, if_true, Int.toNat_natCast, wrapNat (show d < 4611686018427387904 by omega)]
        refine Ev.bind hnum ?_
        simp only [cand] at h2
        by_cases e : mm n (6 - i) (d : Int) = n
        · have e' := (mm_ne n (6 - i) (by omega) (d : Int)).1 e
          have ok : ¬ okC n (6 - i) (d : Int) = true := by unfold okC; simp [e']
          rw [if_neg ok] at h2
          simp only [e, if_true]
          exact h2
        · have e' : ¬ (d : Int) = dg n (6 - i) := fun g => e ((mm_ne n (6 - i) (by omega) (d : Int)).2 g)
          simp only [e, if_false, codeS, Option.bind_some]
          by_cases c : codeB (mm n (6 - i) (d : Int)) = true
          · have ok : okC n (6 - i) (d : Int) = true := by unfold okC; simp [e', c]
            rw [if_pos ok, ← List.append_assoc, isort_snoc, ← insAt_at] at h2
            simp only [c, if_true]
            have hat := atN_le (mm n (6 - i) (d : Int)) (isort [] (ES n i ++ cand n (6 - i) d))
            refine Ev.bind (atS _ _ (by omega)) ?_
            generalize atN (mm n (6 - i) (d : Int)) (isort [] (ES n i ++ cand n (6 - i) d)) = q at *
            simp only [show (0 : Int) ≤ (q : Int) by omega, show (q : Int) ≤ ((isort [] (ES n i ++ cand n (6 - i) d)).length : Int) by omega, show (isort [] (ES n i ++ cand n (6 - i) d)).length < 4096 by omega, if_true, Int.toNat_natCast]
            exact h2
          · have ok : ¬ okC n (6 - i) (d : Int) = true := by unfold okC; simp [c]
            rw [if_neg ok] at h2
            simp only [c, if_false, Bool.false_eq_true]
            exact h2
      · refine evSucc ?_
        simp only [spec_NearCodes.l1, show ¬ (((10 : Nat) : Int) < 10) by decide, if_false, wrapNat (show i < 4611686018427387904 by omega)]
        exact hr
    · refine evSucc ?_
      simp only [spec_NearCodes.l0, hl, Int.lt_irrefl, if_false]
      exact Ev.now _
  · simp only [h, if_false]
    exact Ev.now _
theorem nearI (n : Int) : Ev (fun k => impl_NearCodes.f k n) (nearR n) := by
  unfold impl_NearCodes.f nearR
  simp only [inI, Option.bind_some, decide_eq_true_eq]
  by_cases h : 0 ≤ n ∧ n ≤ 9999999
  · simp only [h, and_self, if_true]
    rw [isort_eq (E_perm n)]
    have key : ∀ r j : Nat, j + r = 7 → Ev (fun k => impl_NearCodes.l0 k n (EI n j) (pw j)) (isort [] (EI n 7), 0) := by
      intro r
      induction r with
      | zero =>
        intro j hj
        have : j = 7 := by omega
        subst this
        refine evSucc ?_
        simp only [impl_NearCodes.l0, show ¬ (pw 7 < 10000000) by decide, if_false]
        refine Ev.bind (sortSlice _ (by have := EI_len n 7 (by omega); omega)) (Ev.now _)
      | succ r ih =>
        intro j hj
        have ih := ih (j + 1) (by omega)
        have hpc := pw_cases j (by omega)
        have hp : 1 ≤ pw j ∧ pw j ≤ 1000000 := by omega
        have hq : Int.tdiv n (pw j) = n / pw j := Int.tdiv_eq_ediv_of_nonneg h.1
        have hq1 : 0 ≤ n / pw j ∧ n / pw j ≤ 9999999 := by
          rcases hpc with e | e | e | e | e | e | e <;> rw [e] <;> omega
        have hw : wrap64 (n / pw j) = n / pw j := wrapIn (by omega) (by omega)
        have hm : Int.tmod (n / pw j) 10 = dg n j := by rw [Int.tmod_eq_emod_of_nonneg hq1.1]; rfl
        have hd := dg_in n j
        refine evSucc ?_
        simp only [impl_NearCodes.l0, show pw j < 10000000 by omega, show ¬ (pw j = 0) by omega, if_true, if_false, hq, hw, hm]
        have := evCount (fun k (x : List Int) d => impl_NearCodes.l1 k n x (pw j) (dg n j) d) 0 10 (fun d => EI n j ++ cand n j d) (isort [] (EI n 7), 0) ?_ ?_ (Nat.zero_le _)
        · simpa [cand] using this
        · intro d _ hd10 h2
          refine evSucc ?_
          have hlen : (EI n j ++ cand n j d).length ≤ 8 := by
            have := EI_len n j (by omega)
            have := (cand_one n j (by omega) d (by omega)).1
            rw [List.length_append]; omega
          have hin := mm_in n h.1 h.2 j (by omega) (d : Int) (by omega) (by omega)
          have w1 : wrap64 ((d : Int) - dg n j) = (d : Int) - dg n j := wrapIn (by omega) (by omega)
          have w2 : wrap64 (((d : Int) - dg n j) * pw j) = ((d : Int) - dg n j) * pw j := by
            unfold mm at hin
            exact wrapIn (by omega) (by omega)
          have w3 : wrap64 (n + ((d : Int) - dg n j) * pw j) = mm n j (d : Int) := by
            show wrap64 (mm n j (d : Int)) = _
            exact wrapIn (by omega) (by omega)
          simp only [impl_NearCodes.l1, show (d : Int) < 10 by omega, if_true, w1, w2, w3, wrapNat (show d < 4611686018427387904 by omega)]
          simp only [cand] at h2
          by_cases e : (d : Int) = dg n j
          · have ok : ¬ okC n j (d : Int) = true := by unfold okC; simp [e]
            rw [if_neg ok] at h2
            simp only [if_pos e]
            exact h2
          · simp only [e, if_false, codeI, Option.bind_some]
            by_cases c : codeB (mm n j (d : Int)) = true
            · have ok : okC n j (d : Int) = true := by unfold okC; simp [e, c]
              rw [if_pos ok, ← List.append_assoc] at h2
              simp only [c, if_true, show (EI n j ++ cand n j d).length < 17592186044416 by omega]
              exact h2
            · have ok : ¬ okC n j (d : Int) = true := by unfold okC; simp [c]
              rw [if_neg ok] at h2
              simp only [c, if_false, Bool.false_eq_true]
              exact h2
        · refine evSucc ?_
          have hw10 : wrap64 (pw j * 10) = pw (j + 1) := by
            rw [wrapIn (by omega) (by omega)]
            simp only [pw]
            omega
          simp only [impl_NearCodes.l1, show ¬ (((10 : Nat) : Int) < 10) by decide, if_false, hw10]
          exact ih
    exact key 7 0 rfl
  · simp only [h, if_false]
    exact Ev.now _

theorem make_ok (a b : Int) (a0 : 0 ≤ a) (a1 : a < 1000) (b0 : 0 ≤ b) (b1 : b < 100) : ∃ r, Ev (fun k => spec_l15Make.f k a b) r ∧ 0 ≤ r ∧ r ≤ 9999999 := by
  unfold spec_l15Make.f
  rw [wrapIn (x := a * 100) (by omega) (by omega), wrapIn (x := a * 100 + b) (by omega) (by omega), wrapIn (x := (a * 100 + b) * 100) (by omega) (by omega)]
  have key : ∀ d i : Nat, i + d = 97 → 1 ≤ i → ∃ r, Ev (fun k => spec_l15Make.l0 k ((a * 100 + b) * 100) (i : Int)) r ∧ 0 ≤ r ∧ r ≤ 9999999 := by
    intro d
    induction d with
    | zero =>
      intro i hi h1
      refine ⟨(a * 100 + b) * 100 + 97, evSucc ?_, by omega, by omega⟩
      simp only [spec_l15Make.l0, show ¬ ((i : Int) < 97) by omega, if_false, wrapIn (show -9223372036854775808 ≤ (a * 100 + b) * 100 + 97 by omega) (show (a * 100 + b) * 100 + 97 ≤ 9223372036854775807 by omega)]
      exact Ev.now _
    | succ d ih =>
      intro i hi h1
      have w : wrap64 ((a * 100 + b) * 100 + (i : Int)) = (a * 100 + b) * 100 + (i : Int) := wrapIn (by omega) (by omega)
      by_cases c : Int.tmod ((a * 100 + b) * 100 + (i : Int)) 97 = 1
      · refine ⟨(a * 100 + b) * 100 + (i : Int), evSucc ?_, by omega, by omega⟩
        simp only [spec_l15Make.l0, show (i : Int) < 97 by omega, if_true, w, spec_l15Remainder.f, Option.bind_some, c]
        exact Ev.now _
      · obtain ⟨r, h2, h3⟩ := ih (i + 1) (by omega) (by omega)
        refine ⟨r, evSucc ?_, h3⟩
        simp only [spec_l15Make.l0, show (i : Int) < 97 by omega, if_true, w, spec_l15Remainder.f, Option.bind_some, c, if_false, wrapNat (show i < 4611686018427387904 by omega)]
        exact h2
  exact key 96 1 (by omega) (by omega)
theorem drawCode {l : List Int} {a s : Int} (h : OkS l a s) : ∃ v a' s', Ev (fun k => spec_l15DrawCode.f k l a s) (v, a', s') ∧ OkS l a' s' := by
  obtain ⟨r1, a1, s1, h1, k1, b1, _⟩ := next_ok h 1000
  obtain ⟨r2, a2, s2, h2, k2, b2, _⟩ := next_ok k1 100
  have b1 := b1 (by decide)
  have b2 := b2 (by decide)
  obtain ⟨n, hn, n0, n1⟩ := make_ok r1 r2 b1.1 b1.2 b2.1 b2.2
  obtain ⟨r4, a4, s4, h4, k4, _⟩ := next_ok k2 5
  unfold spec_l15DrawCode.f
  simp only [h1, h2, Option.bind_some]
  by_cases c0 : r4 = 0
  · obtain ⟨r5, a5, s5, h5, k5, b5, _⟩ := next_ok k4 7
    obtain ⟨r6, a6, s6, h6, k6, b6, _⟩ := next_ok k5 10
    have b5 := b5 (by decide)
    have b6 := b6 (by decide)
    have hnum := numS ((dsL n).set r5.toNat r6) (fun x hx => by
      rcases List.mem_or_eq_of_mem_set hx with hx | rfl
      · exact dsL_in n x hx
      · omega) (by rw [List.length_set]; exact Nat.le_refl 7)
    refine ⟨num ((dsL n).set r5.toNat r6), a6, s6, Ev.bind hn ?_, k6⟩
    simp only [h4, Option.bind_some, c0, if_true]
    refine Ev.bind (digitsS n n0 n1) ?_
    have hl : (dsL n).length = 7 := rfl
    simp only [h5, h6, Option.bind_some, b5.1, hl, show r5 < ((7 : Nat) : Int) by omega, if_true]
    exact Ev.bind hnum (Ev.now _)
  · by_cases c1 : r4 = 1
    · obtain ⟨r5, a5, s5, h5, k5, _⟩ := next_ok k4 6
      by_cases c2 : r5 = 0
      · obtain ⟨r6, a6, s6, h6, k6, _⟩ := pick_ok k5 [-1, 0, 1, 9999999, 10000000, 98] (by decide)
        refine ⟨r6, a6, s6, Ev.bind hn ?_, k6⟩
        simp only [h4, Option.bind_some, c1, show ¬ ((1 : Int) = 0) by decide, if_false, if_true, h5, c2, h6]
        exact Ev.now _
      · refine ⟨n, a5, s5, Ev.bind hn ?_, k5⟩
        simp only [h4, Option.bind_some, c1, show ¬ ((1 : Int) = 0) by decide, if_false, if_true, h5, c2]
        exact Ev.now _
    · refine ⟨n, a4, s4, Ev.bind hn ?_, k4⟩
      simp only [h4, Option.bind_some, c0, c1, if_false]
      exact Ev.now _
theorem drawReads_l0 (l : List Int) (n : Int) : ∀ (d : Nat) (o : List Int) (a s : Int), OkS l a s → o.length + d ≤ 20 → ∃ u a' s', Ev (fun k => spec_l15DrawReads.l0 k n o (d : Int) l a s) (u, n, a', s') ∧ OkS l a' s' ∧ u.length ≤ 300 := by
  intro d
  induction d with
  | zero =>
    intro o a s h ho
    obtain ⟨r1, a1, s1, h1, k1, _⟩ := next_ok h 40
    by_cases c0 : r1 = 0
    · obtain ⟨r2, a2, s2, h2, k2, _⟩ := pick_ok k1 [-1, 0, 9999999, 10000000] (by decide)
      refine ⟨o ++ [r2], a2, s2, evSucc ?_, k2, by rw [List.length_append, List.length_singleton]; omega⟩
      simp only [spec_l15DrawReads.l0, show ¬ (((0 : Nat) : Int) > 0) by decide, if_false, h1, Option.bind_some, c0, if_true, h2, show o.length < 17592186044416 by omega]
      exact Ev.now _
    · by_cases c1 : r1 = 1
      · obtain ⟨r2, a2, s2, h2, k2, b2, _⟩ := next_ok k1 2
        have b2 := b2 (by decide)
        have hw : wrap64 (200 + r2) = 200 + r2 := wrapIn (by omega) (by omega)
        refine ⟨List.replicate (200 + r2).toNat 0, a2, s2, evSucc ?_, k2, by rw [List.length_replicate]; omega⟩
        simp only [spec_l15DrawReads.l0, show ¬ (((0 : Nat) : Int) > 0) by decide, if_false, h1, Option.bind_some, c1, show ¬ ((1 : Int) = 0) by decide, if_true, h2, hw, show (0 : Int) ≤ 200 + r2 by omega, show (200 + r2).toNat ≤ 35184372088832 by omega]
        exact Ev.now _
      · refine ⟨o, a1, s1, evSucc ?_, k1, by omega⟩
        simp only [spec_l15DrawReads.l0, show ¬ (((0 : Nat) : Int) > 0) by decide, if_false, h1, Option.bind_some, c0, c1]
        exact Ev.now _
  | succ d ih =>
    intro o a s h ho
    have hw : wrap64 (((d + 1 : Nat) : Int) - 1) = (d : Int) := by rw [wrapIn (by omega) (by omega)]; omega
    have hlen : ∀ x : Int, (o ++ [x]).length + d ≤ 20 := fun x => by rw [List.length_append, List.length_singleton]; omega
    obtain ⟨r1, a1, s1, h1, k1, _⟩ := next_ok h 4
    by_cases c0 : r1 = 0
    · obtain ⟨v, a2, s2, h2, k2⟩ := drawCode k1
      obtain ⟨u, a', s', h3, k3, h4⟩ := ih (o ++ [mx 0 (mn 9999999 v)]) a2 s2 k2 (hlen _)
      refine ⟨u, a', s', evSucc ?_, k3, h4⟩
      simp only [spec_l15DrawReads.l0, show ((d + 1 : Nat) : Int) > 0 by omega, if_true, h1, Option.bind_some, c0]
      refine Ev.bind h2 ?_
      simp only [show o.length < 17592186044416 by omega, if_true, hw]
      exact h3
    · by_cases c1 : r1 = 1
      · obtain ⟨r2, a2, s2, h2, k2, b2, _⟩ := next_ok k1 3
        have b2 := b2 (by decide)
        obtain ⟨m, hm, _⟩ := make_ok 7 r2 (by decide) (by decide) (by omega) (by omega)
        obtain ⟨u, a', s', h3, k3, h4⟩ := ih (o ++ [m]) a2 s2 k2 (hlen _)
        refine ⟨u, a', s', evSucc ?_, k3, h4⟩
        simp only [spec_l15DrawReads.l0, show ((d + 1 : Nat) : Int) > 0 by omega, if_true, h1, Option.bind_some, c1, show ¬ ((1 : Int) = 0) by decide, if_false, h2]
        refine Ev.bind hm ?_
        simp only [show o.length < 17592186044416 by omega, if_true, hw]
        exact h3
      · obtain ⟨u, a', s', h3, k3, h4⟩ := ih (o ++ [n]) a1 s1 k1 (hlen _)
        refine ⟨u, a', s', evSucc ?_, k3, h4⟩
        simp only [spec_l15DrawReads.l0, show ((d + 1 : Nat) : Int) > 0 by omega, if_true, h1, Option.bind_some, c0, c1, if_false, show o.length < 17592186044416 by omega, hw]
        exact h3
theorem drawReads {l : List Int} {a s : Int} (h : OkS l a s) : ∃ u n a' s', Ev (fun k => spec_l15DrawReads.f k l a s) (u, n, a', s') ∧ OkS l a' s' ∧ u.length ≤ 300 := by
  obtain ⟨r1, a1, s1, h1, k1, b1, _⟩ := next_ok h 1000
  obtain ⟨r2, a2, s2, h2, k2, b2, _⟩ := next_ok k1 100
  have b1 := b1 (by decide)
  have b2 := b2 (by decide)
  obtain ⟨n, hn, _⟩ := make_ok r1 r2 b1.1 b1.2 b2.1 b2.2
  obtain ⟨r3, a3, s3, h3, k3, b3, _⟩ := next_ok k2 16
  have b3 := b3 (by decide)
  obtain ⟨d, rfl⟩ := Int.eq_ofNat_of_zero_le b3.1
  obtain ⟨u, a', s', h4, k4, h5⟩ := drawReads_l0 l n d [] a3 s3 k3 (by simp; omega)
  refine ⟨u, n, a', s', ?_, k4, h5⟩
  unfold spec_l15DrawReads.f
  simp only [h1, h2, Option.bind_some]
  refine Ev.bind hn ?_
  simp only [h3, Option.bind_some]
  exact h4
theorem drawStop (l : List Int) (hw : ∀ x ∈ l, (Lit.int .u8 x).wf = true) (hl : l.length ≤ 4096) : ∃ u e n, Ev (fun k => spec_DrawStopAfter.f k l) (u, e, n) ∧ u.length ≤ 300 := by
  obtain ⟨s0, h0, o0⟩ := from_ok l hw hl
  obtain ⟨u, n, a1, s1, h1, k1, l1⟩ := drawReads o0
  obtain ⟨r2, a2, s2, h2, k2, _⟩ := next_ok k1 16
  unfold spec_DrawStopAfter.f
  by_cases c : r2 = 0
  · obtain ⟨v, a3, s3, h3, k3⟩ := drawCode k2
    obtain ⟨r4, a4, s4, h4, k4, _⟩ := pick_ok k3 [0, 1, 200, 201] (by decide)
    refine ⟨u, v, r4, Ev.bind h0 (Ev.bind h1 ?_), l1⟩
    simp only [h2, Option.bind_some, c, if_true]
    refine Ev.bind h3 ?_
    simp only [h4, Option.bind_some]
    exact Ev.now _
  · obtain ⟨r4, a4, s4, h4, k4, _⟩ := next_ok k2 4
    refine ⟨u, n, wrap64 (1 + r4), Ev.bind h0 (Ev.bind h1 ?_), l1⟩
    simp only [h2, Option.bind_some, c, if_false, h4]
    exact Ev.now _
theorem drawBest (l : List Int) (hw : ∀ x ∈ l, (Lit.int .u8 x).wf = true) (hl : l.length ≤ 4096) : ∃ u, Ev (fun k => spec_DrawBestCode.f k l) u ∧ u.length ≤ 300 := by
  obtain ⟨s0, h0, o0⟩ := from_ok l hw hl
  obtain ⟨u, n, a1, s1, h1, k1, l1⟩ := drawReads o0
  refine ⟨u, ?_, l1⟩
  unfold spec_DrawBestCode.f
  exact Ev.bind h0 (Ev.bind h1 (Ev.now _))
theorem drawNear (l : List Int) (hw : ∀ x ∈ l, (Lit.int .u8 x).wf = true) (hl : l.length ≤ 4096) : ∃ v, Ev (fun k => spec_DrawNearCodes.f k l) v := by
  obtain ⟨s0, h0, o0⟩ := from_ok l hw hl
  obtain ⟨v, a1, s1, h1, k1⟩ := drawCode o0
  refine ⟨v, ?_⟩
  unfold spec_DrawNearCodes.f
  exact Ev.bind h0 (Ev.bind h1 (Ev.now _))

def InAll (l : List Int) (a b : Int) : Prop := ∀ j, 0 ≤ j → j < l.length → a ≤ rd l (j : Int) ∧ rd l (j : Int) ≤ b
theorem inAll_mem {l : List Int} {a b : Int} : InAll l a b ↔ ∀ x ∈ l, a ≤ x ∧ x ≤ b := by
  constructor
  · intro h x hx
    obtain ⟨i, hi, rfl⟩ := List.mem_iff_getElem.1 hx
    have := h i (Nat.zero_le _) hi
    rwa [rdN l i hi] at this
  · intro h j _ hj
    rw [rdN l j hj]
    exact h _ (List.getElem_mem hj)
theorem allIn_all (l : List Int) (a b : Int) : (l.all fun x => decide (a ≤ x ∧ x ≤ b)) = B (InAll l a b) := by
  by_cases h : InAll l a b
  · rw [B_true h, List.all_eq_true]
    exact fun x hx => decide_eq_true (inAll_mem.1 h x hx)
  · rw [B_false h, Bool.eq_false_iff]
    intro h2
    exact h (inAll_mem.2 fun x hx => of_decide_eq_true (List.all_eq_true.1 h2 x hx))

theorem withinS (l : List Int) (m a b : Int) (h : l.length ≤ 1048576) : Ev (fun k => spec_l01Within.f k l m a b) (B (InAll l a b) && decide ((l.length : Int) ≤ m)) := by
  unfold spec_l01Within.f
  have := evAll (fun k i => spec_l01Within.l0 k l m a b i) 0 l.length (fun j => a ≤ rd l (j : Int) ∧ rd l (j : Int) ≤ b) ?_ ?_ (decide ((l.length : Int) ≤ m)) ?_ (Nat.zero_le _)
  · exact this
  · intro i h0 hi hg r hr
    refine evSucc ?_
    have e1 : (i : Int) < (l.length : Int) := by omega
    have e2 : (0 : Int) ≤ (i : Int) := by omega
    simp only [spec_l01Within.l0, inS, Option.bind_some, e1, e2, decide_eq_true hg, if_true, wrapNat (show i < 4611686018427387904 by omega)]
    exact hr
  · intro i h0 hi hg
    refine evSucc ?_
    have e1 : (i : Int) < (l.length : Int) := by omega
    have e2 : (0 : Int) ≤ (i : Int) := by omega
    simp only [spec_l01Within.l0, inS, Option.bind_some, e1, e2, decide_eq_false hg, if_true, if_false, Bool.false_eq_true]
    exact Ev.now _
  · refine evSucc ?_
    simp only [spec_l01Within.l0, Int.lt_irrefl, if_false]
    exact Ev.now _

noncomputable def readsB (l : List Int) : Bool := B (InAll l 0 9999999) && decide ((l.length : Int) ≤ 200)
theorem readsI (l : List Int) : impl_areReads.f l = some (readsB l) := by
  unfold impl_areReads.f impl_allIn.f readsB
  simp only [allIn_all, Option.bind_some]
  by_cases h : (l.length : Int) ≤ 200
  · simp [h]
  · simp [h]
theorem readsS (l : List Int) (hl : l.length ≤ 1048576) : Ev (fun k => spec_l15Reads.f k l) (readsB l) := by
  unfold spec_l15Reads.f
  have hw := withinS l 200 0 9999999 hl
  rw [← readsB] at hw
  exact Ev.bind hw (Ev.now _)
theorem reads_len {l : List Int} (h : readsB l = true) : l.length ≤ 200 := by
  unfold readsB at h
  simp only [Bool.and_eq_true, decide_eq_true_eq] at h
  omega

def stopL (e n : Int) : List Int → Int → Int → Int × Int
  | [], _, _ => (0, 4)
  | x :: xs, row, i => if x = e then (if 0 = n then (i, 0) else stopL e n xs 0 (i + 1)) else (if row + 1 = n then (i, 0) else stopL e n xs (row + 1) (i + 1))
theorem stop_loopS (l : List Int) (e n : Int) (hl : l.length ≤ 1048576) (d : Nat) : ∀ (i : Nat) (row : Int), i + d = l.length → 0 ≤ row → row ≤ i → Ev (fun k => spec_StopAfter.l0 k l e n row (i : Int)) (stopL e n (l.drop i) row i) := by
  induction d with
  | zero =>
    intro i row hi h0 h1
    refine evSucc ?_
    rw [List.drop_of_length_le (by omega)]
    simp only [spec_StopAfter.l0, show ¬ ((i : Int) < (l.length : Int)) by omega, if_false, stopL]
    exact Ev.now _
  | succ d ih =>
    intro i row hi h0 h1
    have hlt : i < l.length := by omega
    refine evSucc ?_
    rw [List.drop_eq_getElem_cons hlt]
    simp only [spec_StopAfter.l0, show (i : Int) < (l.length : Int) by omega, show (0 : Int) ≤ (i : Int) by omega, if_true, rdN l i hlt, stopL, wrapIn (show -9223372036854775808 ≤ row + 1 by omega) (show row + 1 ≤ 9223372036854775807 by omega), wrapNat (show i < 4611686018427387904 by omega)]
    by_cases c1 : l[i] = e
    · simp only [c1, if_true]
      by_cases c2 : 0 = n
      · simp only [c2, if_true]
        exact Ev.now _
      · simp only [c2, if_false]
        exact ih (i + 1) 0 (by omega) (by omega) (by omega)
    · simp only [c1, if_false]
      by_cases c2 : row + 1 = n
      · simp only [c2, if_true]
        exact Ev.now _
      · simp only [c2, if_false]
        exact ih (i + 1) (row + 1) (by omega) (by omega) (by omega)
theorem stop_loopI (l : List Int) (e n : Int) (hl : l.length ≤ 1048576) (d : Nat) : ∀ (i : Nat) (row : Int), i + d = l.length → 0 ≤ row → row ≤ i → Ev (fun k => impl_StopAfter.l0 k e n row l (l.length : Int) (i : Int)) (stopL e n (l.drop i) row i) := by
  induction d with
  | zero =>
    intro i row hi h0 h1
    refine evSucc ?_
    rw [List.drop_of_length_le (by omega)]
    simp only [impl_StopAfter.l0, show ¬ ((i : Int) < (l.length : Int)) by omega, if_false, stopL]
    exact Ev.now _
  | succ d ih =>
    intro i row hi h0 h1
    have hlt : i < l.length := by omega
    refine evSucc ?_
    rw [List.drop_eq_getElem_cons hlt]
    simp only [impl_StopAfter.l0, show (i : Int) < (l.length : Int) by omega, show (0 : Int) ≤ (i : Int) by omega, if_true, rdN l i hlt, stopL, wrapIn (show -9223372036854775808 ≤ row + 1 by omega) (show row + 1 ≤ 9223372036854775807 by omega), wrapNat (show i < 4611686018427387904 by omega)]
    by_cases c1 : l[i] = e
    · simp only [c1, if_true]
      by_cases c2 : 0 = n
      · simp only [c2, if_true]
        exact Ev.now _
      · simp only [c2, if_false]
        exact ih (i + 1) 0 (by omega) (by omega) (by omega)
    · simp only [c1, if_false]
      by_cases c2 : row + 1 = n
      · simp only [c2, if_true]
        exact Ev.now _
      · simp only [c2, if_false]
        exact ih (i + 1) (row + 1) (by omega) (by omega) (by omega)
noncomputable def stopV (l : List Int) (e n : Int) : Int × Int := if readsB l = true ∧ (1 ≤ n ∧ n ≤ 200) then (if codeB e = true then stopL e n l 0 0 else (0, 1)) else (0, 2)
theorem stopS (l : List Int) (e n : Int) (hl : l.length ≤ 1048576) : Ev (fun k => spec_StopAfter.f k l e n) (stopV l e n) := by
  unfold spec_StopAfter.f spec_l15Reads.f stopV
  have hw := withinS l 200 0 9999999 hl
  rw [← readsB] at hw
  refine Ev.bind (Ev.bind hw (Ev.now _)) ?_
  cases readsB l
  · simp only [Bool.false_eq_true, false_and, if_false]
    refine evSucc ?_
    simp only [spec_StopAfter.j0, if_true]
    exact Ev.now _
  · simp only [if_true, true_and, inS, Option.bind_some]
    refine evSucc ?_
    by_cases hn : 1 ≤ n ∧ n ≤ 200
    · simp only [spec_StopAfter.j0, hn, and_self, decide_true, Bool.not_true, Bool.false_eq_true, if_false, if_true, codeS, Option.bind_some]
      cases codeB e
      · simp only [Bool.false_eq_true, if_false]
        exact Ev.now _
      · simp only [if_true]
        exact stop_loopS l e n hl l.length 0 0 (by omega) (by omega) (by omega)
    · simp only [spec_StopAfter.j0, hn, decide_false, Bool.not_false, if_true, if_false]
      exact Ev.now _
theorem stopI (l : List Int) (e n : Int) (hl : l.length ≤ 1048576) : Ev (fun k => impl_StopAfter.f k l e n) (stopV l e n) := by
  unfold impl_StopAfter.f stopV
  simp only [readsI, Option.bind_some]
  cases readsB l
  · simp only [Bool.false_eq_true, false_and, if_false]
    refine evSucc ?_
    simp only [impl_StopAfter.j0, if_true]
    exact Ev.now _
  · simp only [if_true, true_and, inI, Option.bind_some]
    refine evSucc ?_
    by_cases hn : 1 ≤ n ∧ n ≤ 200
    · simp only [impl_StopAfter.j0, hn, and_self, decide_true, Bool.not_true, Bool.false_eq_true, if_false, if_true, codeI, Option.bind_some]
      cases codeB e
      · simp only [Bool.false_eq_true, if_false]
        exact Ev.now _
      · simp only [if_true]
        exact stop_loopI l e n hl l.length 0 0 (by omega) (by omega) (by omega)
    · simp only [impl_StopAfter.j0, hn, decide_false, Bool.not_false, if_true, if_false]
      exact Ev.now _

theorem code_is (x : Int) : impl_BestCode.code x = codeB x := by
  unfold impl_BestCode.code
  rw [codeI]
  simp
noncomputable def bestCR (l : List Int) : Int × Int × Int := if readsB l = true then (if (impl_BestCode.best l).2 = 0 then (0, 0, 4) else ((impl_BestCode.best l).1, (impl_BestCode.best l).2, 0)) else (0, 0, 2)
theorem bestCI (l : List Int) : impl_BestCode.f l = some (bestCR l) := by
  unfold impl_BestCode.f bestCR
  rw [readsI, Option.bind_some]
  by_cases h : readsB l = true
  · rw [if_pos h, if_pos h]
    split <;> rfl
  · rw [if_neg h, if_neg h]
theorem count_take (l : List Int) (v : Int) (i : Nat) (hi : i < l.length) : ((l.take (i + 1)).count v : Nat) = if l[i] = v then (l.take i).count v + 1 else (l.take i).count v := by
  rw [List.take_succ_eq_append_getElem hi, List.count_append, List.count_singleton]
  by_cases h : l[i] = v
  · rw [if_pos h]; simp [h]
  · rw [if_neg h]; simp [h]
theorem bestCS (l : List Int) (hl : l.length ≤ 1048576) : Ev (fun k => spec_BestCode.f k l) (bestCR l) := by
  unfold spec_BestCode.f bestCR
  refine Ev.bind (readsS l hl) ?_
  by_cases h : readsB l = true
  · have h200 := reads_len h
    simp only [h, if_true]
    have key := evCount (fun k (s : Int × Int) i => spec_BestCode.l0 k l s.1 s.2 i) 0 l.length (fun i => (l.take i).foldl (impl_BestCode.step l) (0, 0)) (if (impl_BestCode.best l).2 = 0 then (0, 0, 4) else ((impl_BestCode.best l).1, (impl_BestCode.best l).2, 0)) ?_ ?_ (Nat.zero_le _)
    · simpa using key
    · intro i _ hi hr
      rw [List.take_succ_eq_append_getElem hi, List.foldl_append] at hr
      generalize (l.take i).foldl (impl_BestCode.step l) (0, 0) = s at hr ⊢
      simp only [List.foldl_cons, List.foldl_nil] at hr
      refine evSucc ?_
      simp only [spec_BestCode.l0, show (i : Int) < (l.length : Int) by omega, if_true]
      have in2 := evCount (fun k (c : Int) j => spec_BestCode.l1 k l s.1 s.2 (i : Int) c j) 0 l.length (fun j => (((l.take j).count l[i] : Nat) : Int)) (if (impl_BestCode.best l).2 = 0 then (0, 0, 4) else ((impl_BestCode.best l).1, (impl_BestCode.best l).2, 0)) ?_ ?_ (Nat.zero_le _)
      · simpa using in2
      · intro j _ hj h2
        refine evSucc ?_
        have hc : (l.take j).count l[i] ≤ 200 := Nat.le_trans List.count_le_length (by rw [List.length_take]; omega)
        rw [count_take l l[i] j hj] at h2
        simp only [spec_BestCode.l1, show (j : Int) < (l.length : Int) by omega, show (0 : Int) ≤ (j : Int) by omega, show (0 : Int) ≤ (i : Int) by omega, show (i : Int) < (l.length : Int) by omega, if_true, rdN l i hi, rdN l j hj, wrapNat (show j < 4611686018427387904 by omega), wrapNat (show (l.take j).count l[i] < 4611686018427387904 by omega)]
        by_cases e : l[j] = l[i]
        · rw [if_pos e] at h2
          simp only [e, if_true]
          exact h2
        · rw [if_neg e] at h2
          simp only [e, if_false]
          exact h2
      · refine evSucc ?_
        simp only [spec_BestCode.l1, Int.lt_irrefl, if_false, show (0 : Int) ≤ (i : Int) by omega, show (i : Int) < (l.length : Int) by omega, if_true, rdN l i hi, codeS, Option.bind_some, List.take_length, wrapNat (show i < 4611686018427387904 by omega)]
        unfold impl_BestCode.step impl_BestCode.cc at hr
        rw [code_is] at hr
        by_cases c : codeB l[i] = true
        · simp only [c, if_true, true_and] at hr ⊢
          by_cases c1 : ((l.count l[i] : Nat) : Int) > s.2
          · rw [if_pos (.inl c1)] at hr
            simp only [c1, if_true]
            exact hr
          · by_cases c2 : ((l.count l[i] : Nat) : Int) = s.2
            · by_cases c3 : l[i] < s.1
              · rw [if_pos (.inr ⟨c2, c3⟩)] at hr
                simp only [c1, if_false, if_pos c2, c3, if_true]
                exact hr
              · rw [if_neg (fun g => g.elim c1 (fun g => c3 g.2))] at hr
                simp only [c1, if_false, if_pos c2, c3]
                exact hr
            · rw [if_neg (fun g => g.elim c1 (fun g => c2 g.1))] at hr
              simp only [c1, if_false, if_neg c2]
              exact hr
        · simp only [c, if_false, Bool.false_eq_true, false_and] at hr ⊢
          exact hr
    · refine evSucc ?_
      rw [List.take_length]
      simp only [spec_BestCode.l0, Int.lt_irrefl, if_false]
      unfold impl_BestCode.best
      split <;> exact Ev.now _
  · simp only [h, if_false, Bool.false_eq_true]
    exact Ev.now _

/-- A loop that leaves at the first place where G fails; what comes after it counts only where none failed. -/
theorem evAllC (F : Nat → Int → Option Bool) (i0 n : Nat) (G : Nat → Prop)
    (hstep : ∀ i, i0 ≤ i → i < n → G i → ∀ r, Ev (fun k => F k ((i + 1 : Nat) : Int)) r → Ev (fun k => F k (i : Int)) r) (hbad : ∀ i, i0 ≤ i → i < n → ¬ G i → Ev (fun k => F k (i : Int)) false) (e : Bool) (hend : (∀ j, i0 ≤ j → j < n → G j) → Ev (fun k => F k (n : Int)) e) (hle : i0 ≤ n) :
    Ev (fun k => F k (i0 : Int)) (B (∀ j, i0 ≤ j → j < n → G j) && e) := by
  have key : ∀ d i, i0 ≤ i → i + d = n → (∀ j, i0 ≤ j → j < i → G j) → Ev (fun k => F k (i : Int)) (B (∀ j, i ≤ j → j < n → G j) && e) := by
    intro d
    induction d with
    | zero =>
      intro i _ hi hp
      have h0 : i = n := by omega
      subst h0
      rw [B_true (fun j h1 h2 => absurd h2 (by omega)), Bool.true_and]
      exact hend hp
    | succ d ih =>
      intro i h0 hi hp
      by_cases hg : G i
      · have h1 : B (∀ j, i ≤ j → j < n → G j) = B (∀ j, i + 1 ≤ j → j < n → G j) := B_congr ⟨fun h j a b => h j (by omega) b, fun h j a b => by
          by_cases e : j = i
          · subst e; exact hg
          · exact h j (by omega) b⟩
        rw [h1]
        exact hstep i h0 (by omega) hg _ (ih (i + 1) (by omega) (by omega) (fun j a b => by
          by_cases e : j = i
          · subst e; exact hg
          · exact hp j a (by omega)))
      · rw [B_false (fun h => hg (h i (Nat.le_refl _) (by omega))), Bool.false_and]
        exact hbad i h0 (by omega) hg
  exact key (n - i0) i0 (Nat.le_refl _) (by omega) (fun j a b => absurd b (by omega))

theorem same_ext (x y : List Int) (hl : x.length = y.length) : B (∀ j, 0 ≤ j → j < x.length → rd x ((j : Nat) : Int) = rd y ((j : Nat) : Int)) = decide (x = y) := by
  rw [← B_dec (x = y)]
  refine B_congr ⟨fun h => List.ext_getElem hl (fun i h1 h2 => ?_), fun h => by subst h; exact fun _ _ _ => rfl⟩
  have := h i (Nat.zero_le _) h1
  rwa [rdN x i h1, rdN y i h2] at this

theorem likeI (x y : List Int) (hx : x.length ≤ 1048576) : Ev (fun k => laws_likeInts.f k x y) (decide (x = y)) := by
  unfold laws_likeInts.f
  by_cases hl : x.length = y.length
  · simp only [show ((x.length : Int) = (y.length : Int)) by omega, if_true]
    have := evAllC (fun k j => laws_likeInts.l0 k x y j) 0 x.length (fun j => rd x (j : Int) = rd y (j : Int)) ?_ ?_ true ?_ (Nat.zero_le _)
    · rw [same_ext x y hl, Bool.and_true] at this
      exact this
    · intro j _ hj hg r hr
      refine evSucc ?_
      simp only [laws_likeInts.l0, show (j : Int) < (y.length : Int) by omega, show (j : Int) < (x.length : Int) by omega, show (0 : Int) ≤ (j : Int) by omega, if_true, hg, wrapNat (show j < 4611686018427387904 by omega)]
      exact hr
    · intro j _ hj hg
      refine evSucc ?_
      simp only [laws_likeInts.l0, show (j : Int) < (y.length : Int) by omega, show (j : Int) < (x.length : Int) by omega, show (0 : Int) ≤ (j : Int) by omega, if_true, hg, if_false]
      exact Ev.now _
    · intro _
      refine evSucc ?_
      simp only [laws_likeInts.l0, hl, Int.lt_irrefl, if_false]
      exact Ev.now _
  · simp only [show ¬ ((x.length : Int) = (y.length : Int)) by omega, if_false]
    rw [decide_eq_false (fun h => hl (by rw [h]))]
    exact Ev.now _

def dv (x : Int) : Nat → Int
  | 0 => x
  | t + 1 => dv x t / 10
theorem dv_in (x : Int) (h0 : 0 ≤ x) (h1 : x ≤ 9999999) : ∀ t : Nat, 0 ≤ dv x t ∧ dv x t ≤ 9999999
  | 0 => ⟨h0, h1⟩
  | t + 1 => by
    have := dv_in x h0 h1 t
    simp only [dv]
    omega
theorem dv_pw (x : Int) (q : Nat) (hq : q ≤ 6) : dv x q = x / pw q := by
  have hq' : q = 0 ∨ q = 1 ∨ q = 2 ∨ q = 3 ∨ q = 4 ∨ q = 5 ∨ q = 6 := by omega
  rcases hq' with rfl | rfl | rfl | rfl | rfl | rfl | rfl
  · show x = x / 1; omega
  · show x / 10 = x / 10; rfl
  · show x / 10 / 10 = x / 100; omega
  · show x / 10 / 10 / 10 = x / 1000; omega
  · show x / 10 / 10 / 10 / 10 = x / 10000; omega
  · show x / 10 / 10 / 10 / 10 / 10 = x / 100000; omega
  · show x / 10 / 10 / 10 / 10 / 10 / 10 = x / 1000000; omega
theorem digit_eq (y d : Int) (d0 : 0 ≤ d) (d1 : d ≤ 9) (q t : Nat) (hq : q ≤ 6) (ht : t ≤ 6) (hd : ¬ d = dg y q) : (dv (mm y q d) t % 10 = dv y t % 10) ↔ ¬ t = q := by
  by_cases e : t = q
  · subst e
    have hp : pw t ≠ 0 := by have := pw_cases t ht; omega
    refine ⟨fun h => ?_, fun h => absurd rfl h⟩
    rw [dv_pw _ t ht, dv_pw _ t ht] at h
    unfold mm at h
    rw [Int.add_mul_ediv_right _ _ hp] at h
    unfold dg at h hd
    generalize y / pw t = A at h hd
    omega
  · refine ⟨fun _ => e, fun _ => ?_⟩
    have hq' : q = 0 ∨ q = 1 ∨ q = 2 ∨ q = 3 ∨ q = 4 ∨ q = 5 ∨ q = 6 := by omega
    have ht' : t = 0 ∨ t = 1 ∨ t = 2 ∨ t = 3 ∨ t = 4 ∨ t = 5 ∨ t = 6 := by omega
    rcases hq' with rfl | rfl | rfl | rfl | rfl | rfl | rfl <;> rcases ht' with rfl | rfl | rfl | rfl | rfl | rfl | rfl <;> (first | exact absurd rfl e | (simp only [mm, dg, pw, dv] at hd ⊢; omega))
theorem cand_mem (n : Int) (j : Nat) : ∀ (D : Nat) (m : Int), m ∈ cand n j D → ∃ d : Nat, d < D ∧ m = mm n j (d : Int) ∧ okC n j (d : Int) = true
  | 0, m, h => by simp [cand] at h
  | D + 1, m, h => by
    unfold cand at h
    by_cases c : okC n j (D : Int) = true
    · rw [if_pos c, List.mem_append, List.mem_singleton] at h
      rcases h with h | h
      · obtain ⟨d, h1, h2⟩ := cand_mem n j D m h
        exact ⟨d, by omega, h2⟩
      · exact ⟨D, by omega, h, c⟩
    · rw [if_neg c] at h
      obtain ⟨d, h1, h2⟩ := cand_mem n j D m h
      exact ⟨d, by omega, h2⟩
theorem ES_mem (n m : Int) : ∀ i : Nat, i ≤ 7 → m ∈ ES n i → ∃ (q d : Nat), q ≤ 6 ∧ d < 10 ∧ m = mm n q (d : Int) ∧ okC n q (d : Int) = true
  | 0, _, h => by simp [ES] at h
  | i + 1, hi, h => by
    simp only [ES, List.mem_append] at h
    rcases h with h | h
    · exact ES_mem n m i (by omega) h
    · obtain ⟨d, h1, h2⟩ := cand_mem n (6 - i) 10 m h
      exact ⟨6 - i, d, by omega, h1, h2⟩
theorem near_mem (n m : Int) (h : m ∈ (nearR n).1) : (0 ≤ n ∧ n ≤ 9999999) ∧ codeB m = true ∧ ∃ (q d : Nat), q ≤ 6 ∧ d < 10 ∧ m = mm n q (d : Int) ∧ ¬ (d : Int) = dg n q := by
  unfold nearR at h
  by_cases c : 0 ≤ n ∧ n ≤ 9999999
  · rw [if_pos c] at h
    have h2 := (isort_perm (ES n 7) []).subset h
    rw [List.nil_append] at h2
    obtain ⟨q, d, h3, h4, h5, h6⟩ := ES_mem n m 7 (by omega) h2
    unfold okC at h6
    simp only [Bool.and_eq_true, Bool.not_eq_true', decide_eq_false_iff_not] at h6
    exact ⟨c, by rw [h5]; exact h6.2, q, d, h3, h4, h5, h6.1⟩
  · rw [if_neg c] at h
    simp at h

theorem stopL_ok (l : List Int) (e n : Int) (hn : 1 ≤ n) : ∀ (d i : Nat) (row p : Int), i + d = l.length → 0 ≤ row → row ≤ i → row < n → (∀ j : Nat, (i : Int) - row ≤ (j : Int) → j < i → ¬ rd l (j : Int) = e) → stopL e n (l.drop i) row (i : Int) = (p, 0) → 0 ≤ p - n + 1 ∧ p < l.length ∧ ∀ j : Nat, p - n + 1 ≤ (j : Int) → (j : Int) ≤ p → ¬ rd l (j : Int) = e := by
  intro d
  induction d with
  | zero =>
    intro i row p hi _ _ _ _ h
    rw [List.drop_of_length_le (by omega)] at h
    simp only [stopL, Prod.mk.injEq] at h
    exact absurd h.2 (by decide)
  | succ d ih =>
    intro i row p hi h0 h1 h2 h3 h
    have hlt : i < l.length := by omega
    have hx : rd l (i : Int) = l[i] := rdN l i hlt
    rw [List.drop_eq_getElem_cons hlt] at h
    simp only [stopL] at h
    have e1 : (i : Int) + 1 = ((i + 1 : Nat) : Int) := by omega
    by_cases c1 : l[i] = e
    · rw [if_pos c1, if_neg (by omega), e1] at h
      exact ih (i + 1) 0 p (by omega) (by omega) (by omega) (by omega) (fun j a b => by omega) h
    · rw [if_neg c1] at h
      have h4 : ∀ j : Nat, (i : Int) - row ≤ (j : Int) → j < i + 1 → ¬ rd l (j : Int) = e := fun j a b => by
        rcases Nat.lt_or_ge j i with c | c
        · exact h3 j a c
        · have : j = i := by omega
          subst this
          rw [hx]; exact c1
      by_cases c2 : row + 1 = n
      · rw [if_pos c2, Prod.mk.injEq] at h
        obtain ⟨rfl, _⟩ := h
        exact ⟨by omega, by omega, fun j a b => h4 j (by omega) (by omega)⟩
      · rw [if_neg c2, e1] at h
        exact ih (i + 1) (row + 1) p (by omega) (by omega) (by omega) (by omega) (fun j a b => h4 j (by omega) b) h
theorem stopV_ok (l : List Int) (e n : Int) (h : (stopV l e n).2 = 0) : (1 ≤ n ∧ n ≤ 200) ∧ 0 ≤ (stopV l e n).1 - n + 1 ∧ (stopV l e n).1 < l.length ∧ ∀ j : Nat, (stopV l e n).1 - n + 1 ≤ (j : Int) → (j : Int) ≤ (stopV l e n).1 → ¬ rd l (j : Int) = e := by
  unfold stopV at h ⊢
  by_cases c : readsB l = true ∧ (1 ≤ n ∧ n ≤ 200)
  · rw [if_pos c] at h ⊢
    by_cases c2 : codeB e = true
    · rw [if_pos c2] at h ⊢
      have := stopL_ok l e n c.2.1 l.length 0 0 (stopL e n l 0 0).1 (by omega) (by omega) (by omega) (by omega) (fun j a b => by omega) (by rw [List.drop_zero]; exact Prod.ext rfl h)
      exact ⟨c.2, this⟩
    · rw [if_neg c2] at h
      exact absurd h (by decide)
  · rw [if_neg c] at h
    exact absurd h (by decide)
theorem best_told (l : List Int) (h : (bestCR l).2.2 = 0) : codeB (bestCR l).1 = true ∧ ((l.count (bestCR l).1 : Nat) : Int) = (bestCR l).2.1 ∧ l.length ≤ 200 := by
  unfold bestCR at h ⊢
  by_cases c : readsB l = true
  · rw [if_pos c] at h ⊢
    by_cases c2 : (impl_BestCode.best l).2 = 0
    · rw [if_pos c2] at h
      exact absurd h (by decide)
    · rw [if_neg c2] at h ⊢
      have ho := impl_BestCode.best_opt l
      have hp := ho.pos
      obtain ⟨h1, h2, _⟩ := ho.some_ (by omega)
      have hc := (impl_BestCode.cc_pos.1 h1).1
      refine ⟨by rw [← code_is]; exact hc, ?_, reads_len c⟩
      rw [← h2]
      unfold impl_BestCode.cc
      rw [if_pos hc]
  · rw [if_neg c] at h
    exact absurd h (by decide)
theorem FnReads : laws_FnReads.Pure := by
  intro l _ _ hw
  refine Ev.rounds ?_
  unfold laws_FnReads.f laws_big.f
  simp only [Option.bind_some]
  by_cases hb : (l.length : Int) > 4096
  · simp only [hb, decide_true, if_true]
    exact Ev.now _
  · simp only [hb, decide_false, Bool.false_eq_true, if_false]
    have hl : l.length ≤ 4096 := by omega
    obtain ⟨u, e, n, h0, lu⟩ := drawStop l hw hl
    obtain ⟨v, h1, lv⟩ := drawBest l hw hl
    obtain ⟨m, h2⟩ := drawNear l hw hl
    have hnl : (nearR m).1.length ≤ 1048576 := by
      unfold nearR
      split
      · have := ES_len m 7 (by omega)
        simp only [isort_len]
        omega
      · simp
    refine Ev.bind h0 (Ev.bind (stopI u e n (by omega)) (Ev.bind (stopS u e n (by omega)) (Ev.bind h1 ?_)))
    simp only [bestCI, Option.bind_some]
    refine Ev.bind (bestCS v (by omega)) (Ev.bind h2 (Ev.bind (nearI m) (Ev.bind (nearS m) ?_)))
    simp only [if_true]
    refine Ev.bind (likeI _ _ hnl) ?_
    simp only [decide_true, Bool.not_true]
    refine evSucc ?_
    simp only [laws_FnReads.j0, Bool.false_eq_true, if_false]
    -- the stop
    have hj4 : Ev (fun k => laws_FnReads.j4 k u e n (stopV u e n).1 (stopV u e n).2) true := by
      refine evSucc ?_
      simp only [laws_FnReads.j4]
      by_cases c : (stopV u e n).2 = 0
      · obtain ⟨hn, s1, s2, s3⟩ := stopV_ok u e n c
        simp only [c, if_true]
        generalize (stopV u e n).1 = p at *
        rw [wrapIn (x := p - n) (by omega) (by omega), wrapIn (x := p - n + 1) (by omega) (by omega)]
        obtain ⟨i0, hi0⟩ := Int.eq_ofNat_of_zero_le s1
        obtain ⟨pN, rfl⟩ := Int.eq_ofNat_of_zero_le (show 0 ≤ p by omega)
        rw [hi0]
        have := evCount (fun k (_ : Unit) i => laws_FnReads.l3 k u e (pN : Int) i) i0 (pN + 1) (fun _ => ()) true ?_ ?_ (by omega)
        · exact this
        · intro j j0 j1 hr
          refine evSucc ?_
          have hne := s3 j (by omega) (by omega)
          simp only [laws_FnReads.l3, show (j : Int) ≤ (pN : Int) by omega, show (0 : Int) ≤ (j : Int) by omega, show (j : Int) < (u.length : Int) by omega, if_true, hne, if_false, wrapNat (show j < 4611686018427387904 by omega)]
          exact hr
        · refine evSucc ?_
          simp only [laws_FnReads.l3, show ¬ (((pN + 1 : Nat) : Int) ≤ (pN : Int)) by omega, if_false]
          exact Ev.now _
      · simp only [c, if_false]
        exact Ev.now _
    -- the near codes
    refine evCount (fun k (_ : Unit) j => laws_FnReads.l0 k u e n (stopV u e n).1 (stopV u e n).2 v (bestCR v).1 (bestCR v).2.1 (bestCR v).2.2 m (nearR m).1 j) 0 (nearR m).1.length (fun _ => ()) _ ?_ ?_ (Nat.zero_le _)
    · intro j _ hj hr
      obtain ⟨hm, hcode, q, d, hq, hd, hx, hne⟩ := near_mem m (nearR m).1[j] (List.getElem_mem hj)
      have hxin := code_of hcode
      have hx2 : (nearR m).1[j] ≤ 9999999 := by
        unfold codeB at hcode
        rw [decide_eq_true_eq] at hcode
        exact hcode.1.2
      refine evSucc ?_
      simp only [laws_FnReads.l0, show (j : Int) < ((nearR m).1.length : Int) by omega, show (0 : Int) ≤ (j : Int) by omega, if_true, rdN _ j hj]
      have := evCount (fun k (s : Int × Int × Int) t => laws_FnReads.l1 k u e n (stopV u e n).1 (stopV u e n).2 v (bestCR v).1 (bestCR v).2.1 (bestCR v).2.2 m (nearR m).1 (j : Int) s.1 s.2.1 s.2.2 t) 0 7 (fun t => ((if q < t then 1 else 0), dv (nearR m).1[j] t, dv m t)) true ?_ ?_ (Nat.zero_le _)
      · simpa [dv] using this
      · intro t _ ht h3
        refine evSucc ?_
        have i1 := dv_in (nearR m).1[j] hxin.1 hx2 t
        have i2 := dv_in m hm.1 hm.2 t
        have heq := digit_eq m (d : Int) (by omega) (by omega) q t hq (by omega) hne
        rw [← hx] at heq
        have m1 : Int.tmod (dv (nearR m).1[j] t) 10 = dv (nearR m).1[j] t % 10 := Int.tmod_eq_emod_of_nonneg i1.1
        have m2 : Int.tmod (dv m t) 10 = dv m t % 10 := Int.tmod_eq_emod_of_nonneg i2.1
        have q1 : wrap64 (Int.tdiv (dv (nearR m).1[j] t) 10) = dv (nearR m).1[j] (t + 1) := by
          rw [Int.tdiv_eq_ediv_of_nonneg i1.1, wrapIn (by omega) (by omega)]; rfl
        have q2 : wrap64 (Int.tdiv (dv m t) 10) = dv m (t + 1) := by
          rw [Int.tdiv_eq_ediv_of_nonneg i2.1, wrapIn (by omega) (by omega)]; rfl
        simp only [laws_FnReads.l1, show (t : Int) < 7 by omega, if_true, m1, m2, q1, q2, wrapNat (show t < 4611686018427387904 by omega)]
        by_cases c : t = q
        · have hd2 : ¬ dv (nearR m).1[j] t % 10 = dv m t % 10 := fun g => (heq.1 g) c
          simp only [hd2, if_false]
          rw [if_pos (show q < t + 1 by omega)] at h3
          rw [if_neg (show ¬ q < t by omega), show wrap64 (0 + 1) = 1 from wrapIn (x := 0 + 1) (by omega) (by omega)]
          exact h3
        · have hd2 : dv (nearR m).1[j] t % 10 = dv m t % 10 := heq.2 c
          simp only [hd2, if_true]
          by_cases c2 : q < t
          · rw [if_pos (show q < t + 1 by omega)] at h3
            rw [if_pos c2]
            exact h3
          · rw [if_neg (show ¬ q < t + 1 by omega)] at h3
            rw [if_neg c2]
            exact h3
      · refine evSucc ?_
        simp only [laws_FnReads.l1, show ¬ (((7 : Nat) : Int) < 7) by decide, if_false, show q < 7 by omega, if_true, show (0 : Int) ≤ (j : Int) by omega, show (j : Int) < ((nearR m).1.length : Int) by omega, rdN _ j hj, codeI, Option.bind_some, hcode, wrapNat (show j < 4611686018427387904 by omega)]
        exact hr
    · refine evSucc ?_
      simp only [laws_FnReads.l0, Int.lt_irrefl, if_false]
      by_cases c : (bestCR v).2.2 = 0
      · obtain ⟨b1, b2, b3⟩ := best_told v c
        simp only [c, if_true]
        have := evCount (fun k (x : Int) j => laws_FnReads.l2 k u e n (stopV u e n).1 (stopV u e n).2 v (bestCR v).1 (bestCR v).2.1 x j) 0 v.length (fun j => (((v.take j).count (bestCR v).1 : Nat) : Int)) true ?_ ?_ (Nat.zero_le _)
        · simpa using this
        · intro j _ hj h3
          refine evSucc ?_
          have hc : (v.take j).count (bestCR v).1 ≤ 300 := Nat.le_trans List.count_le_length (by rw [List.length_take]; omega)
          rw [count_take v _ j hj] at h3
          simp only [laws_FnReads.l2, show (j : Int) < (v.length : Int) by omega, show (0 : Int) ≤ (j : Int) by omega, if_true, rdN v j hj, wrapNat (show j < 4611686018427387904 by omega), wrapNat (show (v.take j).count (bestCR v).1 < 4611686018427387904 by omega)]
          by_cases c2 : v[j] = (bestCR v).1
          · rw [if_pos c2] at h3
            simp only [if_pos c2]
            exact h3
          · rw [if_neg c2] at h3
            simp only [if_neg c2]
            exact h3
        · refine evSucc ?_
          simp only [laws_FnReads.l2, Int.lt_irrefl, if_false, List.take_length, b2, if_true, codeI, Option.bind_some, b1]
          exact hj4
      · simp only [c, if_false]
        exact hj4

end Go.Proofs.Ytnnglnphkbpemaa.Pure
