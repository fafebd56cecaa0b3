/- For every string of at most 4096 bytes the drawn line makes the program and the reference agree on wrong books, the busiest station and the right block; a book without faults is right, and the busiest station has as many faults as it says. -/
import Derived.Test.YthmeohanbggnlaaSayFnLinesOfBooks
namespace Go.Proofs.Ythmeohanbggnlaa.Pure
open Go.RowKit Go.Proofs.Ythmeohanbggnlaa.PFnLinesOfBooks Go.Proofs.YthmeohanbggnlaaW.PrintWords Go.Proofs.YthmeohanbggnlaaW.PrintLast
set_option linter.unusedVariables false
set_option linter.unusedSimpArgs false
-- BEGIN
/-- A proposition as a bool. -/
noncomputable def B (p : Prop) : Bool := @decide p (Classical.propDecidable p)
theorem B_iff {p : Prop} : B p = true ↔ p := by unfold B; exact @decide_eq_true_iff p (Classical.propDecidable p)
theorem B_true {p : Prop} (h : p) : B p = true := B_iff.2 h
theorem B_false {p : Prop} (h : ¬ p) : B p = false := by cases e : B p with | false => rfl | true => exact absurd (B_iff.1 e) h
theorem B_congr {p q : Prop} (h : p ↔ q) : B p = B q := by rw [propext h]
theorem B_dec (p : Prop) [Decidable p] : B p = decide p := by by_cases h : p <;> simp [h, B_true, B_false]
theorem B_and (p q : Prop) : (B p && B q) = B (p ∧ q) := by
  by_cases hp : p <;> by_cases hq : q <;> simp [B_true, B_false, hp, hq]
theorem B_not (p : Prop) : (!B p) = B (¬ p) := by by_cases hp : p <;> simp [B_true, B_false, hp]
theorem evSucc {α : Type} {g : Nat → Option α} {r : α} (h : Ev (fun k => g (k + 1)) r) : Ev g r := Ev.step (fun _ => rfl) h
theorem evNow {α : Type} {g : Nat → Option α} {r : α} (h : ∀ k, g k = some r) : Ev g r := ⟨0, fun k _ => h k⟩
theorem evCount {σ α : Type} (F : Nat → σ → Int → Option α) (i0 n : Nat) (S : Nat → σ) (r : α)
    (hstep : ∀ i, i0 ≤ i → i < n → Ev (fun k => F k (S (i + 1)) ((i + 1 : Nat) : Int)) r → Ev (fun k => F k (S i) (i : Int)) r) (hend : Ev (fun k => F k (S n) (n : Int)) r) (hle : i0 ≤ n) : Ev (fun k => F k (S i0) (i0 : Int)) r := by
  have key : ∀ d i, i0 ≤ i → i + d = n → Ev (fun k => F k (S i) (i : Int)) r := by
    intro d
    induction d with
    | zero =>
      intro i _ hi
      have h0 : i = n := by omega
      subst h0
      exact hend
    | succ d ih => intro i h0 hi; exact hstep i h0 (by omega) (ih (i + 1) (by omega) (by omega))
  exact key (n - i0) i0 (Nat.le_refl _) (by omega)
/-- A loop that leaves at the first place where G fails. -/
theorem evAll (F : Nat → Int → Option Bool) (i0 n : Nat) (G : Nat → Prop)
    (hstep : ∀ i, i0 ≤ i → i < n → G i → ∀ r, Ev (fun k => F k ((i + 1 : Nat) : Int)) r → Ev (fun k => F k (i : Int)) r) (hbad : ∀ i, i0 ≤ i → i < n → ¬ G i → Ev (fun k => F k (i : Int)) false) (e : Bool) (hend : Ev (fun k => F k (n : Int)) e) (hle : i0 ≤ n) :
    Ev (fun k => F k (i0 : Int)) (B (∀ j, i0 ≤ j → j < n → G j) && e) := by
  have key : ∀ d i, i0 ≤ i → i + d = n → Ev (fun k => F k (i : Int)) (B (∀ j, i ≤ j → j < n → G j) && e) := by
    intro d
    induction d with
    | zero =>
      intro i _ hi
      have h0 : i = n := by omega
      subst h0
      rw [B_true (fun j h1 h2 => absurd h2 (by omega)), Bool.true_and]
      exact hend
    | succ d ih =>
      intro i h0 hi
      by_cases hg : G i
      · have h1 : B (∀ j, i ≤ j → j < n → G j) = B (∀ j, i + 1 ≤ j → j < n → G j) := B_congr ⟨fun h j a b => h j (by omega) b, fun h j a b => by
          by_cases e : j = i
          · subst e; exact hg
          · exact h j (by omega) b⟩
        rw [h1]
        exact hstep i h0 (by omega) hg _ (ih (i + 1) (by omega) (by omega))
      · rw [B_false (fun h => hg (h i (Nat.le_refl _) (by omega))), Bool.false_and]
        exact hbad i h0 (by omega) hg
  exact key (n - i0) i0 (Nat.le_refl _) (by omega)
theorem wrapNat {i : Nat} (h : i < 4611686018427387904) : wrap64 ((i : Int) + 1) = ((i + 1 : Nat) : Int) := by
  unfold wrap64; omega
theorem wrapPred {i : Nat} (h0 : 1 ≤ i) (h : i < 4611686018427387904) : wrap64 ((i : Int) - 1) = ((i - 1 : Nat) : Int) := by
  unfold wrap64; omega
theorem rdN (xs : List Int) (i : Nat) (h : i < xs.length) : rd xs (i : Int) = xs[i] := by
  simp [rd, List.getD_eq_getElem?_getD, List.getElem?_eq_getElem h]
theorem fillStep {α : Type} (xs : List α) (z : α) (i : Nat) (h : i < xs.length) : (xs.take i ++ List.replicate (xs.length - i) z).set i xs[i] = xs.take (i + 1) ++ List.replicate (xs.length - (i + 1)) z := by
  have h1 : xs.length - i = (xs.length - (i + 1)) + 1 := by omega
  rw [h1, List.replicate_succ, List.set_append_right _ _ (by rw [List.length_take]; omega)]
  rw [List.length_take, Nat.min_eq_left (by omega), Nat.sub_self, List.set_cons_zero, List.take_succ_eq_append_getElem h, List.append_assoc]
  rfl
theorem fillLen {α : Type} (xs : List α) (z : α) (i : Nat) (h : i ≤ xs.length) : (xs.take i ++ List.replicate (xs.length - i) z).length = xs.length := by
  simp; omega

theorem wrapIn {x : Int} (h0 : -9223372036854775808 ≤ x) (h1 : x ≤ 9223372036854775807) : wrap64 x = x := by
  unfold wrap64; omega

structure OkS (l : List Int) (a s : Int) : Prop where
  bytes : ∀ x ∈ l, 0 ≤ x ∧ x ≤ 255
  len : l.length ≤ 4096
  a0 : 0 ≤ a
  a1 : a ≤ l.length
  s0 : 0 ≤ s
  s1 : s < 2147483647
theorem rd_byte {l : List Int} (h : ∀ x ∈ l, 0 ≤ x ∧ x ≤ 255) (i : Int) : 0 ≤ rd l i ∧ rd l i ≤ 255 := spec_l01Next.byte h i
theorem next_ok {l : List Int} {a s : Int} (h : OkS l a s) (n : Int) :
    ∃ r a' s', spec_l01Next.f l a s n = some (r, a', s') ∧ OkS l a' s' ∧ (1 ≤ n → 0 ≤ r ∧ r < n) ∧ (n ≤ 1 → r = 0) := by
  have hs := h.s0
  have hs1 := h.s1
  have ha0 := h.a0
  have ha1 := h.a1
  have hl := h.len
  have hb := rd_byte h.bytes a
  refine ⟨(spec_l01Next.V l a s n).1, (spec_l01Next.V l a s n).2.1, (spec_l01Next.V l a s n).2.2, ?_, ?_⟩
  · unfold spec_l01Next.f
    rw [if_pos ⟨h.bytes, by omega, ⟨ha0, ha1⟩, hs, hs1⟩]
  · unfold spec_l01Next.V
    have hS0 : 0 ≤ (s * 48271 + 61) % 2147483647 := by omega
    have hS1 : (s * 48271 + 61) % 2147483647 < 2147483647 := by omega
    have modr : ∀ x : Int, 1 < n → 0 ≤ x % n ∧ x % n < n := fun x hn => ⟨Int.emod_nonneg _ (by omega), Int.emod_lt_of_pos _ (by omega)⟩
    by_cases hn : n ≤ 1
    · rw [if_pos hn]
      exact ⟨h, fun _ => ⟨by simp, by simp; omega⟩, fun _ => rfl⟩
    · rw [if_neg hn]
      by_cases c1 : a < (l.length : Int)
      · rw [if_pos c1]
        have ok1 : OkS l (a + 1) ((s * 48271 + 61) % 2147483647) := ⟨h.bytes, h.len, by omega, by omega, hS0, hS1⟩
        by_cases c2 : n ≤ 256 ∧ (a + 1) % 2 = 0
        · rw [if_pos c2]
          exact ⟨ok1, fun _ => modr _ (by omega), fun h1 => absurd h1 hn⟩
        · rw [if_neg c2]
          exact ⟨ok1, fun _ => modr _ (by omega), fun h1 => absurd h1 hn⟩
      · rw [if_neg c1]
        exact ⟨⟨h.bytes, h.len, ha0, ha1, hS0, hS1⟩, fun _ => modr _ (by omega), fun h1 => absurd h1 hn⟩
theorem from_loop (l : List Int) (hb : ∀ x ∈ l, 0 ≤ x ∧ x ≤ 255) (_hl : l.length ≤ 4096) (d : Nat) : ∀ (i : Nat) (s : Int), i + d = l.length → 0 ≤ s → s < 2147483647 → ∃ r, Ev (fun k => spec_l01From.l0 k l (i : Int) l 0 s) (l, 0, r) ∧ 0 ≤ r ∧ r < 2147483647 := by
  induction d with
  | zero =>
    intro i s hi h0 h1
    refine ⟨s, evSucc ?_, h0, h1⟩
    simp only [spec_l01From.l0, show ¬ ((i : Int) < (l.length : Int)) by omega, if_false]
    exact Ev.now _
  | succ d ih =>
    intro i s hi h0 h1
    by_cases h64 : (i : Int) < 64
    · have hr := rd_byte hb (i : Int)
      have he : Int.tmod (wrap64 ((wrap64 (s * 71)) + (wrap64 (rd l (i : Int))))) 2147483647 = (s * 71 + rd l (i : Int)) % 2147483647 := by
        rw [wrapIn (x := s * 71) (by omega) (by omega), wrapIn (x := rd l (i : Int)) (by omega) (by omega), wrapIn (by omega) (by omega), Int.tmod_eq_emod_of_nonneg (by omega)]
      obtain ⟨r, hr1, hr2, hr3⟩ := ih (i + 1) ((s * 71 + rd l (i : Int)) % 2147483647) (by omega) (by omega) (by omega)
      refine ⟨r, evSucc ?_, hr2, hr3⟩
      simp only [spec_l01From.l0, show (i : Int) < (l.length : Int) by omega, h64, show (0 : Int) ≤ (i : Int) by omega, if_true, he, wrapNat (show i < 4611686018427387904 by omega)]
      exact hr1
    · refine ⟨s, evSucc ?_, h0, h1⟩
      simp only [spec_l01From.l0, show (i : Int) < (l.length : Int) by omega, h64, if_true, if_false]
      exact Ev.now _
theorem from_ok (l : List Int) (hw : ∀ x ∈ l, (Lit.int .u8 x).wf = true) (hl : l.length ≤ 4096) : ∃ s, Ev (fun k => spec_l01From.f k l) (l, 0, s) ∧ OkS l 0 s := by
  have hb : ∀ x ∈ l, 0 ≤ x ∧ x ≤ 255 := fun x hx => by
    have := hw x hx
    simp [Lit.wf, IntKind.min, IntKind.max, IntKind.signed, IntKind.bits] at this
    omega
  obtain ⟨r, h1, h2, h3⟩ := from_loop l hb hl l.length 0 88007 (by omega) (by omega) (by omega)
  refine ⟨r, ?_, ⟨hb, hl, by omega, by omega, h2, h3⟩⟩
  unfold spec_l01From.f
  exact h1

theorem pick_ok {l : List Int} {a s : Int} (h : OkS l a s) (xs : List Int) (h0 : 0 < xs.length) :
    ∃ r a' s', spec_l01Pick.f l a s xs = some (r, a', s') ∧ OkS l a' s' ∧ r ∈ xs := by
  obtain ⟨r, a', s', h1, h2, h3, _⟩ := next_ok h (xs.length : Int)
  obtain ⟨h4, h5⟩ := h3 (by omega)
  refine ⟨rd xs r, a', s', ?_, h2, ?_⟩
  · unfold spec_l01Pick.f
    rw [h1]
    simp only [Option.bind_some]
    rw [if_pos h4, if_pos h5]
  · unfold rd
    rw [List.getD_eq_getElem?_getD, List.getElem?_eq_getElem (show r.toNat < xs.length by omega)]
    exact List.getElem_mem _

/-- A loop that leaves at the first place where G fails; what comes after it counts only where none failed. -/
theorem evAllC (F : Nat → Int → Option Bool) (i0 n : Nat) (G : Nat → Prop)
    (hstep : ∀ i, i0 ≤ i → i < n → G i → ∀ r, Ev (fun k => F k ((i + 1 : Nat) : Int)) r → Ev (fun k => F k (i : Int)) r) (hbad : ∀ i, i0 ≤ i → i < n → ¬ G i → Ev (fun k => F k (i : Int)) false) (e : Bool) (hend : (∀ j, i0 ≤ j → j < n → G j) → Ev (fun k => F k (n : Int)) e) (hle : i0 ≤ n) :
    Ev (fun k => F k (i0 : Int)) (B (∀ j, i0 ≤ j → j < n → G j) && e) := by
  have key : ∀ d i, i0 ≤ i → i + d = n → (∀ j, i0 ≤ j → j < i → G j) → Ev (fun k => F k (i : Int)) (B (∀ j, i ≤ j → j < n → G j) && e) := by
    intro d
    induction d with
    | zero =>
      intro i _ hi hp
      have h0 : i = n := by omega
      subst h0
      rw [B_true (fun j h1 h2 => absurd h2 (by omega)), Bool.true_and]
      exact hend hp
    | succ d ih =>
      intro i h0 hi hp
      by_cases hg : G i
      · have h1 : B (∀ j, i ≤ j → j < n → G j) = B (∀ j, i + 1 ≤ j → j < n → G j) := B_congr ⟨fun h j a b => h j (by omega) b, fun h j a b => by
          by_cases e : j = i
          · subst e; exact hg
          · exact h j (by omega) b⟩
        rw [h1]
        exact hstep i h0 (by omega) hg _ (ih (i + 1) (by omega) (by omega) (fun j a b => by
          by_cases e : j = i
          · subst e; exact hg
          · exact hp j a (by omega)))
      · rw [B_false (fun h => hg (h i (Nat.le_refl _) (by omega))), Bool.false_and]
        exact hbad i h0 (by omega) hg
  exact key (n - i0) i0 (Nat.le_refl _) (by omega) (fun j a b => absurd b (by omega))

theorem inS (a b c : Int) : spec_l01In.f a b c = some (decide (b ≤ a ∧ a ≤ c)) := by
  unfold spec_l01In.f
  by_cases h : b ≤ a <;> simp [h]

theorem inI (a b c : Int) : impl_inRange.f a b c = some (decide (b ≤ a ∧ a ≤ c)) := by
  unfold impl_inRange.f
  by_cases h : b ≤ a <;> simp [h]

theorem rd55 (xs : List S55) (i : Nat) (h : i < xs.length) : rd_T55 xs (i : Int) = xs[i] := by
  simp [rd_T55, List.getD_eq_getElem?_getD, List.getElem?_eq_getElem h]

def lineB (n b : Int) : Bool := decide (1 ≤ n ∧ n ≤ 12) && decide (0 ≤ b ∧ b ≤ 40)
theorem lineS (n b : Int) : spec_l14Line.f n b = some (lineB n b) := by
  unfold spec_l14Line.f lineB
  simp only [inS, Option.bind_some]
  by_cases h1 : (1 ≤ n ∧ n ≤ 12) <;> simp [h1]
theorem lineI (n b : Int) : impl_isLine.f n b = some (lineB n b) := by
  unfold impl_isLine.f lineB
  simp only [inI, Option.bind_some]
  by_cases h1 : (1 ≤ n ∧ n ≤ 12) <;> simp [h1]
theorem line_of {n b : Int} (h : lineB n b = true) : (1 ≤ n ∧ n ≤ 12) ∧ 0 ≤ b ∧ b ≤ 40 := by
  simpa only [lineB, Bool.and_eq_true, decide_eq_true_eq] using h
def InF (n b : Int) (u : S55) : Prop := (0 ≤ u.f0 ∧ u.f0 ≤ b - 1) ∧ (0 ≤ u.f1 ∧ u.f1 ≤ n - 1) ∧ (1 ≤ u.f2 ∧ u.f2 ≤ 4) ∧ (0 ≤ u.f3 ∧ u.f3 ≤ n - 1)
def OtherF (u : S55) : Prop := (u.f2 = 4 → ¬ u.f3 = u.f1) ∧ (¬ u.f2 = 4 → u.f3 = 0)
def NewF (l : List S55) (i : Nat) : Prop := ∀ j : Nat, j < i → ¬ ((rd_T55 l (j : Int)).f0 = (rd_T55 l (i : Int)).f0 ∧ (rd_T55 l (j : Int)).f1 = (rd_T55 l (i : Int)).f1)
def GoodF (n b : Int) (l : List S55) (i : Nat) : Prop := InF n b (rd_T55 l (i : Int)) ∧ OtherF (rd_T55 l (i : Int)) ∧ NewF l i
noncomputable def faultsB (n b : Int) (l : List S55) : Bool := lineB n b && (decide (l.length ≤ 20) && B (∀ i : Nat, i < l.length → GoodF n b l i))
theorem all0F (n : Nat) (G : Nat → Prop) : B (∀ j, 0 ≤ j → j < n → G j) = B (∀ j, j < n → G j) := B_congr ⟨fun h j hj => h j (Nat.zero_le _) hj, fun h j _ hj => h j hj⟩

theorem faultS_step {n b : Int} (hl : lineB n b = true) (l : List S55) (hn : l.length ≤ 20) (i : Nat) (hi : i < l.length) (r : Bool) (hr : GoodF n b l i → Ev (fun k => spec_AreFaults.l0 k n b l ((i + 1 : Nat) : Int)) r) :
    Ev (fun k => spec_AreFaults.l0 k n b l (i : Int)) (B (GoodF n b l i) && r) := by
  obtain ⟨hn1, hb1⟩ := line_of hl
  have w1 : wrap64 (b - 1) = b - 1 := wrapIn (by omega) (by omega)
  have w2 : wrap64 (n - 1) = n - 1 := wrapIn (by omega) (by omega)
  have no : ∀ {x : Bool}, ¬ GoodF n b l i → (B (GoodF n b l i) && x) = false := fun h => by rw [B_false h, Bool.false_and]
  refine evSucc ?_
  simp only [spec_AreFaults.l0, show (i : Int) < (l.length : Int) by omega, show (0 : Int) ≤ (i : Int) by omega, if_true, inS, Option.bind_some, decide_eq_true_eq, w1, w2]
  by_cases h1 : InF n b (rd_T55 l (i : Int))
  · obtain ⟨a1, a2, a3, a4⟩ := h1
    simp only [a1, a2, a3, a4, and_self, if_true, decide_true, Bool.not_true]
    refine evSucc ?_
    simp only [spec_AreFaults.j2, Bool.false_eq_true, if_false]
    have tail : OtherF (rd_T55 l (i : Int)) → Ev (fun k => spec_AreFaults.j3 k n b l (i : Int) false (rd_T55 l (i : Int)).f0 (rd_T55 l (i : Int)).f1 (rd_T55 l (i : Int)).f2 (rd_T55 l (i : Int)).f3) (B (GoodF n b l i) && r) := by
      intro ho
      refine evSucc ?_
      simp only [spec_AreFaults.j3, Bool.false_eq_true, if_false]
      have := evAllC (fun k j => spec_AreFaults.l1 k n b l (i : Int) j (rd_T55 l (i : Int)).f0 (rd_T55 l (i : Int)).f1 (rd_T55 l (i : Int)).f2 (rd_T55 l (i : Int)).f3) 0 i
        (fun j => ¬ ((rd_T55 l (j : Int)).f0 = (rd_T55 l (i : Int)).f0 ∧ (rd_T55 l (j : Int)).f1 = (rd_T55 l (i : Int)).f1)) ?_ ?_ r ?_ (Nat.zero_le _)
      · rw [all0F] at this
        rw [B_congr (show GoodF n b l i ↔ NewF l i from ⟨fun h => h.2.2, fun h => ⟨⟨a1, a2, a3, a4⟩, ho, h⟩⟩)]
        exact this
      · intro j _ hj hg r' hr'
        refine evSucc ?_
        simp only [spec_AreFaults.l1, show (j : Int) < (i : Int) by omega, show (0 : Int) ≤ (j : Int) by omega, show (j : Int) < (l.length : Int) by omega, if_true, wrapNat (show j < 4611686018427387904 by omega)]
        by_cases e0 : (rd_T55 l (j : Int)).f0 = (rd_T55 l (i : Int)).f0
        · have e1 : ¬ (rd_T55 l (j : Int)).f1 = (rd_T55 l (i : Int)).f1 := fun e1 => hg ⟨e0, e1⟩
          simp only [e0, e1, if_true, if_false]
          exact hr'
        · simp only [e0, if_false]
          exact hr'
      · intro j _ hj hg
        have hg' := Classical.not_not.1 hg
        refine evSucc ?_
        simp only [spec_AreFaults.l1, show (j : Int) < (i : Int) by omega, show (0 : Int) ≤ (j : Int) by omega, show (j : Int) < (l.length : Int) by omega, if_true, hg'.1, hg'.2]
        exact Ev.now _
      · intro hall
        refine evSucc ?_
        simp only [spec_AreFaults.l1, Int.lt_irrefl, if_false, wrapNat (show i < 4611686018427387904 by omega)]
        exact hr ⟨⟨a1, a2, a3, a4⟩, ho, fun j hj => hall j (Nat.zero_le _) hj⟩
    by_cases c : (rd_T55 l (i : Int)).f2 = 4
    · simp only [c, if_true] at tail ⊢
      by_cases e : (rd_T55 l (i : Int)).f3 = (rd_T55 l (i : Int)).f1
      · rw [no (fun h => h.2.1.1 c e)]
        refine evSucc ?_
        simp only [e, beq_self_eq_true, spec_AreFaults.j3, if_true]
        exact Ev.now _
      · rw [show ((rd_T55 l (i : Int)).f3 == (rd_T55 l (i : Int)).f1) = false from beq_false_of_ne e]
        exact tail ⟨fun _ => e, fun h => absurd c h⟩
    · simp only [c, if_false]
      by_cases e : (rd_T55 l (i : Int)).f3 = 0
      · simp only [e, if_true] at tail ⊢
        exact tail ⟨fun h => absurd h c, fun _ => e⟩
      · rw [no (fun h => e (h.2.1.2 c))]
        simp only [e, if_false]
        refine evSucc ?_
        simp only [spec_AreFaults.j3, if_true]
        exact Ev.now _
  · rw [no (fun h => h1 h.1)]
    have stop : Ev (fun k => spec_AreFaults.j2 k n b l (i : Int) true (rd_T55 l (i : Int)).f0 (rd_T55 l (i : Int)).f1 (rd_T55 l (i : Int)).f2 (rd_T55 l (i : Int)).f3) false := by
      refine evSucc ?_
      simp only [spec_AreFaults.j2, if_true]
      exact Ev.now _
    by_cases a1 : 0 ≤ (rd_T55 l (i : Int)).f0 ∧ (rd_T55 l (i : Int)).f0 ≤ b - 1
    · simp only [a1, and_self, if_true]
      by_cases a2 : 0 ≤ (rd_T55 l (i : Int)).f1 ∧ (rd_T55 l (i : Int)).f1 ≤ n - 1
      · simp only [a2, and_self, if_true]
        by_cases a3 : 1 ≤ (rd_T55 l (i : Int)).f2 ∧ (rd_T55 l (i : Int)).f2 ≤ 4
        · have a4 : ¬ (0 ≤ (rd_T55 l (i : Int)).f3 ∧ (rd_T55 l (i : Int)).f3 ≤ n - 1) := fun a4 => h1 ⟨a1, a2, a3, a4⟩
          simp only [a3, and_self, if_true, a4, decide_false, Bool.not_false]
          exact stop
        · simp only [a3, if_false]
          exact stop
      · simp only [a2, if_false]
        exact stop
    · simp only [a1, if_false]
      exact stop
theorem faultS (n b : Int) (l : List S55) : Ev (fun k => spec_AreFaults.f k n b l) (faultsB n b l) := by
  unfold spec_AreFaults.f faultsB
  simp only [lineS, Option.bind_some]
  by_cases hl : lineB n b = true
  · simp only [hl, if_true, Bool.true_and]
    refine evSucc ?_
    by_cases hn : l.length ≤ 20
    · simp only [spec_AreFaults.j0, show ¬ ((l.length : Int) > 20) by omega, decide_false, Bool.false_eq_true, if_false, hn, decide_true, Bool.true_and]
      have := evAllC (fun k i => spec_AreFaults.l0 k n b l i) 0 l.length (GoodF n b l) ?_ ?_ true ?_ (Nat.zero_le _)
      · rw [all0F, Bool.and_true] at this
        exact this
      · intro i _ hi hg r hr
        have := faultS_step hl l hn i hi r (fun _ => hr)
        rw [B_true hg, Bool.true_and] at this
        exact this
      · intro i _ hi hg
        have := faultS_step hl l hn i hi true (fun h => absurd h hg)
        rw [B_false hg, Bool.false_and] at this
        exact this
      · intro _
        refine evSucc ?_
        simp only [spec_AreFaults.l0, Int.lt_irrefl, if_false]
        exact Ev.now _
    · simp only [spec_AreFaults.j0, show (l.length : Int) > 20 by omega, decide_true, if_true, hn, decide_false, Bool.false_and]
      exact Ev.now _
  · simp only [hl, if_false, Bool.false_eq_true, Bool.false_and]
    refine evSucc ?_
    simp only [spec_AreFaults.j0, if_true]
    exact Ev.now _

theorem any_take (l : List S55) (i : Nat) (hi : i < l.length) : ((l.take i).any (impl_AreFaults_1.p (rd_T55 l (i : Int)).f0 (rd_T55 l (i : Int)).f1)) = !B (NewF l i) := by
  rw [B_not, Bool.eq_iff_iff, B_iff, List.any_eq_true]
  have hp : ∀ u : S55, impl_AreFaults_1.p (rd_T55 l (i : Int)).f0 (rd_T55 l (i : Int)).f1 u = true ↔ u.f0 = (rd_T55 l (i : Int)).f0 ∧ u.f1 = (rd_T55 l (i : Int)).f1 := by
    intro u
    unfold impl_AreFaults_1.p
    by_cases e : u.f0 = (rd_T55 l (i : Int)).f0 <;> simp [e]
  constructor
  · rintro ⟨u, hu, h⟩ hN
    obtain ⟨j, hj, rfl⟩ := List.getElem_of_mem hu
    rw [List.length_take] at hj
    have := hN j (by omega)
    rw [rd55 l j (by omega)] at this
    rw [List.getElem_take] at h
    exact this ((hp _).1 h)
  · intro hN
    apply Classical.byContradiction
    intro hc
    refine hN fun j hj he => hc ⟨(l.take i)[j]'(by rw [List.length_take]; omega), List.getElem_mem _, ?_⟩
    rw [List.getElem_take, hp]
    rw [rd55 l j (by omega)] at he
    exact he
theorem faultI_step {n b : Int} (hl : lineB n b = true) (l : List S55) (hn : l.length ≤ 20) (i : Nat) (hi : i < l.length) (r : Bool) (hr : GoodF n b l i → Ev (fun k => impl_AreFaults.l0 k n b l l (l.length : Int) ((i + 1 : Nat) : Int)) r) :
    Ev (fun k => impl_AreFaults.l0 k n b l l (l.length : Int) (i : Int)) (B (GoodF n b l i) && r) := by
  obtain ⟨hn1, hb1⟩ := line_of hl
  have w1 : wrap64 (b - 1) = b - 1 := wrapIn (by omega) (by omega)
  have w2 : wrap64 (n - 1) = n - 1 := wrapIn (by omega) (by omega)
  have no : ∀ {x : Bool}, ¬ GoodF n b l i → (B (GoodF n b l i) && x) = false := fun h => by rw [B_false h, Bool.false_and]
  refine evSucc ?_
  simp only [impl_AreFaults.l0, show (i : Int) < (l.length : Int) by omega, show (0 : Int) ≤ (i : Int) by omega, if_true, inI, Option.bind_some, decide_eq_true_eq, w1, w2]
  have stop : Ev (fun k => impl_AreFaults.j2 k n b l (i : Int) l (l.length : Int) (i : Int) true (rd_T55 l (i : Int)).f0 (rd_T55 l (i : Int)).f1 (rd_T55 l (i : Int)).f2 (rd_T55 l (i : Int)).f3) false := by
    refine evSucc ?_
    simp only [impl_AreFaults.j2, if_true]
    exact Ev.now _
  have stop3 : Ev (fun k => impl_AreFaults.j3 k n b l (i : Int) l (l.length : Int) (i : Int) true (rd_T55 l (i : Int)).f0 (rd_T55 l (i : Int)).f1 (rd_T55 l (i : Int)).f2 (rd_T55 l (i : Int)).f3) false := by
    refine evSucc ?_
    simp only [impl_AreFaults.j3, if_true]
    exact Ev.now _
  by_cases a1 : 0 ≤ (rd_T55 l (i : Int)).f0 ∧ (rd_T55 l (i : Int)).f0 ≤ b - 1
  · simp only [a1, and_self, if_true]
    by_cases a2 : 0 ≤ (rd_T55 l (i : Int)).f1 ∧ (rd_T55 l (i : Int)).f1 ≤ n - 1
    · simp only [a2, and_self, if_true]
      by_cases a3 : 1 ≤ (rd_T55 l (i : Int)).f2 ∧ (rd_T55 l (i : Int)).f2 ≤ 4
      · simp only [a3, and_self, decide_true, Bool.not_true]
        refine evSucc ?_
        simp only [impl_AreFaults.j2, Bool.false_eq_true, if_false, inI, Option.bind_some, decide_eq_true_eq, w2]
        have tail : (0 ≤ (rd_T55 l (i : Int)).f3 ∧ (rd_T55 l (i : Int)).f3 ≤ n - 1) → OtherF (rd_T55 l (i : Int)) → Ev (fun k => impl_AreFaults.j3 k n b l (i : Int) l (l.length : Int) (i : Int) false (rd_T55 l (i : Int)).f0 (rd_T55 l (i : Int)).f1 (rd_T55 l (i : Int)).f2 (rd_T55 l (i : Int)).f3) (B (GoodF n b l i) && r) := by
          intro a4 ho
          refine evSucc ?_
          simp only [impl_AreFaults.j3, Bool.false_eq_true, if_false, show (0 : Int) ≤ (i : Int) by omega, show (i : Int) ≤ (l.length : Int) by omega, if_true, impl_AreFaults_1.f, Option.bind_some, Int.toNat_natCast, any_take l i hi, wrapNat (show i < 4611686018427387904 by omega)]
          rw [B_congr (show GoodF n b l i ↔ NewF l i from ⟨fun h => h.2.2, fun h => ⟨⟨a1, a2, a3, a4⟩, ho, h⟩⟩)]
          by_cases hN : NewF l i
          · simp only [B_true hN, Bool.not_true, Bool.false_eq_true, if_false, Bool.true_and]
            exact hr ⟨⟨a1, a2, a3, a4⟩, ho, hN⟩
          · simp only [B_false hN, Bool.not_false, if_true, Bool.false_and]
            exact Ev.now _
        by_cases c : (rd_T55 l (i : Int)).f2 = 4
        · simp only [c, if_true] at tail stop3 ⊢
          by_cases a4 : 0 ≤ (rd_T55 l (i : Int)).f3 ∧ (rd_T55 l (i : Int)).f3 ≤ n - 1
          · simp only [a4, and_self, if_true]
            by_cases e : (rd_T55 l (i : Int)).f3 = (rd_T55 l (i : Int)).f1
            · rw [no (fun h => h.2.1.1 c e)]
              simp only [e, if_true] at stop3 ⊢
              exact stop3
            · simp only [e, if_false]
              exact tail a4 ⟨fun _ => e, fun h => absurd c h⟩
          · rw [no (fun h => a4 h.1.2.2.2)]
            simp only [a4, if_false]
            exact stop3
        · simp only [c, if_false]
          by_cases e : (rd_T55 l (i : Int)).f3 = 0
          · simp only [e, bne_self_eq_false] at tail ⊢
            exact tail ⟨by omega, by omega⟩ ⟨fun h => absurd h c, fun _ => e⟩
          · rw [no (fun h => e (h.2.1.2 c)), bne_iff_ne.2 e]
            exact stop3
      · rw [no (fun h => a3 h.1.2.2.1)]
        simp only [a3, decide_false, Bool.not_false]
        exact stop
    · rw [no (fun h => a2 h.1.2.1)]
      simp only [a2, if_false]
      exact stop
  · rw [no (fun h => a1 h.1.1)]
    simp only [a1, if_false]
    exact stop
theorem faultI (n b : Int) (l : List S55) : Ev (fun k => impl_AreFaults.f k n b l) (faultsB n b l) := by
  unfold impl_AreFaults.f faultsB
  simp only [lineI, Option.bind_some]
  by_cases hl : lineB n b = true
  · simp only [hl, if_true, Bool.true_and]
    refine evSucc ?_
    by_cases hn : l.length ≤ 20
    · simp only [impl_AreFaults.j0, show ¬ ((l.length : Int) > 20) by omega, decide_false, Bool.false_eq_true, if_false, hn, decide_true, Bool.true_and]
      have := evAllC (fun k i => impl_AreFaults.l0 k n b l l (l.length : Int) i) 0 l.length (GoodF n b l) ?_ ?_ true ?_ (Nat.zero_le _)
      · rw [all0F, Bool.and_true] at this
        exact this
      · intro i _ hi hg r hr
        have := faultI_step hl l hn i hi r (fun _ => hr)
        rw [B_true hg, Bool.true_and] at this
        exact this
      · intro i _ hi hg
        have := faultI_step hl l hn i hi true (fun h => absurd h hg)
        rw [B_false hg, Bool.false_and] at this
        exact this
      · intro _
        refine evSucc ?_
        simp only [impl_AreFaults.l0, Int.lt_irrefl, if_false]
        exact Ev.now _
    · simp only [impl_AreFaults.j0, show (l.length : Int) > 20 by omega, decide_true, if_true, hn, decide_false, Bool.false_and]
      exact Ev.now _
  · simp only [hl, if_false, Bool.false_eq_true, Bool.false_and]
    refine evSucc ?_
    simp only [impl_AreFaults.j0, if_true]
    exact Ev.now _

noncomputable def codeF (n b : Int) (l : List S55) : Int := if lineB n b = true then (if faultsB n b l = true then 0 else 1) else 2
theorem codeFS (n b : Int) (l : List S55) : Ev (fun k => spec_l14Code.f k n b l) (codeF n b l) := by
  unfold spec_l14Code.f codeF
  simp only [lineS, Option.bind_some]
  by_cases hl : lineB n b = true
  · simp only [hl, if_true]
    refine Ev.bind (faultS n b l) ?_
    split <;> exact Ev.now _
  · simp only [hl, if_false, Bool.false_eq_true]
    exact Ev.now _
theorem codeFI (n b : Int) (l : List S55) : Ev (fun k => impl_checkFaults.f k n b l) (codeF n b l) := by
  unfold impl_checkFaults.f codeF
  simp only [lineI, Option.bind_some]
  by_cases hl : lineB n b = true
  · simp only [hl, if_true]
    refine Ev.bind (faultI n b l) ?_
    split <;> exact Ev.now _
  · simp only [hl, if_false, Bool.false_eq_true]
    exact Ev.now _
theorem codeF_ok {n b : Int} {l : List S55} (h : codeF n b l = 0) : ((1 ≤ n ∧ n ≤ 12) ∧ 0 ≤ b ∧ b ≤ 40) ∧ l.length ≤ 20 ∧ ∀ i : Nat, i < l.length → GoodF n b l i := by
  unfold codeF at h
  by_cases hl : lineB n b = true
  · rw [if_pos hl] at h
    by_cases hf : faultsB n b l = true
    · simp only [faultsB, Bool.and_eq_true, decide_eq_true_eq, B_iff] at hf
      exact ⟨line_of hf.1, hf.2.1, hf.2.2⟩
    · rw [if_neg hf] at h
      exact absurd h (by decide)
  · rw [if_neg hl] at h
    exact absurd h (by decide)

theorem drawLine_l1 (n : Int) (l : List Int) (d : Nat) : ∀ (m : Nat) (f : List S55) (a s : Int), OkS l a s → f.length = m → m + d = 22 → ∃ b' f' a' s', Ev (fun k => spec_l14Draw.l1 k n f (m : Int) l a s) (n, b', f', a', s') ∧ OkS l a' s' := by
  induction d with
  | zero =>
    intro m f a s h hf hm
    obtain ⟨r, a', s', h1, h2, h3, _⟩ := next_ok h 2
    have h4 := h3 (by decide)
    refine ⟨30, f, a', s', evSucc ?_, h2⟩
    simp only [spec_l14Draw.l1, h1, Option.bind_some]
    rw [wrapIn (x := 20 + r) (by omega) (by omega)]
    simp only [show ¬ ((m : Int) < 20 + r) by omega, if_false]
    exact Ev.now _
  | succ d ih =>
    intro m f a s h hf hm
    obtain ⟨r, a', s', h1, h2, h3, _⟩ := next_ok h 2
    have h4 := h3 (by decide)
    by_cases c : (m : Int) < 20 + r
    · obtain ⟨b', f', a2, s2, h5, h6⟩ := ih (m + 1) (f ++ [⟨(m : Int), 0, 1, 0⟩]) a' s' h2 (by rw [List.length_append, hf]; rfl) (by omega)
      refine ⟨b', f', a2, s2, evSucc ?_, h6⟩
      simp only [spec_l14Draw.l1, h1, Option.bind_some]
      rw [wrapIn (x := 20 + r) (by omega) (by omega)]
      simp only [c, if_true, List.length_cons, List.length_nil, show f.length + (0 + 1) < 4398046511104 by omega, wrapNat (show m < 4611686018427387904 by omega)]
      exact h5
    · refine ⟨30, f, a', s', evSucc ?_, h2⟩
      simp only [spec_l14Draw.l1, h1, Option.bind_some]
      rw [wrapIn (x := 20 + r) (by omega) (by omega)]
      simp only [c, if_false]
      exact Ev.now _
theorem drawLine_l0 (n b : Int) (hn0 : 1 ≤ n) (hn1 : n ≤ 100) (l : List Int) (d : Nat) : ∀ (f : List S55) (a s : Int), OkS l a s → f.length + d ≤ 100 → ∃ n' b' f' a' s', Ev (fun k => spec_l14Draw.l0 k n b f (d : Int) l a s) (n', b', f', a', s') ∧ OkS l a' s' := by
  induction d with
  | zero =>
    intro f a s h hf
    obtain ⟨r, a', s', h1, h2, _⟩ := next_ok h 40
    by_cases c0 : r = 0
    · obtain ⟨r5, a5, s5, h5, k5, _⟩ := pick_ok h2 [0, 12, 13] (by decide)
      refine ⟨r5, b, f, a5, s5, evSucc ?_, k5⟩
      simp only [spec_l14Draw.l0, show ¬ (((0 : Nat) : Int) > 0) by decide, if_false, h1, Option.bind_some, c0, if_true, h5]
      exact Ev.now _
    · by_cases c1 : r = 1
      · obtain ⟨r5, a5, s5, h5, k5, _⟩ := pick_ok h2 [(-1), 40, 41] (by decide)
        refine ⟨n, r5, f, a5, s5, evSucc ?_, k5⟩
        simp only [spec_l14Draw.l0, show ¬ (((0 : Nat) : Int) > 0) by decide, if_false, h1, Option.bind_some, c1, show ¬ ((1 : Int) = 0) by decide, if_true, h5]
        exact Ev.now _
      · by_cases c2 : r = 2
        · obtain ⟨r5, a5, s5, h5, k5, _⟩ := pick_ok h2 [0, 1, 5] (by decide)
          obtain ⟨r6, a6, s6, h6, k6, _⟩ := pick_ok k5 [0, 1, (-1)] (by decide)
          refine ⟨n, b, f ++ [⟨0, 0, r5, r6⟩], a6, s6, evSucc ?_, k6⟩
          simp only [spec_l14Draw.l0, show ¬ (((0 : Nat) : Int) > 0) by decide, if_false, h1, Option.bind_some, c2, show ¬ ((2 : Int) = 0) by decide, show ¬ ((2 : Int) = 1) by decide, if_true, h5, h6, List.length_cons, List.length_nil, show f.length + (0 + 1) < 4398046511104 by omega]
          exact Ev.now _
        · by_cases c3 : r = 3
          · obtain ⟨b', f', a2, s2, h5, h6⟩ := drawLine_l1 n l 22 0 [] a' s' h2 rfl rfl
            refine ⟨n, b', f', a2, s2, evSucc ?_, h6⟩
            simp only [spec_l14Draw.l0, show ¬ (((0 : Nat) : Int) > 0) by decide, if_false, h1, Option.bind_some, c3, show ¬ ((3 : Int) = 0) by decide, show ¬ ((3 : Int) = 1) by decide, show ¬ ((3 : Int) = 2) by decide, if_true]
            exact h5
          · refine ⟨n, b, f, a', s', evSucc ?_, h2⟩
            simp only [spec_l14Draw.l0, show ¬ (((0 : Nat) : Int) > 0) by decide, if_false, h1, Option.bind_some, c0, c1, c2, c3]
            exact Ev.now _
  | succ d ih =>
    intro f a s h hf
    have j1 : ∀ (a s x y z t : Int), OkS l a s → ∃ n' b' f' a' s', Ev (fun k => spec_l14Draw.j1 k n b f ((d + 1 : Nat) : Int) l a s x y z t) (n', b', f', a', s') ∧ OkS l a' s' := by
      intro a s x y z t h
      have hd : wrap64 (((d + 1 : Nat) : Int) - 1) = (d : Int) := wrapPred (i := d + 1) (by omega) (by omega)
      obtain ⟨n1, b1, f1, a1, s1, h1, k1⟩ := ih (f ++ [⟨x, y, z, t⟩]) a s h (by rw [List.length_append, List.length_singleton]; omega)
      obtain ⟨r2, a2, s2, h2, k2, _⟩ := next_ok h 30
      obtain ⟨n3, b3, f3, a3, s3, h3, k3⟩ := ih (f ++ [⟨x, y, z, t⟩]) a2 s2 k2 (by rw [List.length_append, List.length_singleton]; omega)
      obtain ⟨n4, b4, f4, a4, s4, h4, k4⟩ := ih f a2 s2 k2 (by omega)
      have hB := faultS n b (f ++ [⟨x, y, z, t⟩])
      cases hv : faultsB n b (f ++ [⟨x, y, z, t⟩])
      · rw [hv] at hB
        by_cases c : r2 = 0
        · refine ⟨n3, b3, f3, a3, s3, evSucc ?_, k3⟩
          simp only [spec_l14Draw.j1, Option.bind_some, List.nil_append, List.length_nil, List.length_cons, Nat.zero_add, show f.length < 4398046511104 by omega, show f.length + 1 < 4398046511104 by omega, if_true]
          refine Ev.bind hB ?_
          simp only [Bool.false_eq_true, if_false, h2, Option.bind_some, c, if_true, hd]
          exact h3
        · refine ⟨n4, b4, f4, a4, s4, evSucc ?_, k4⟩
          simp only [spec_l14Draw.j1, Option.bind_some, List.nil_append, List.length_nil, List.length_cons, Nat.zero_add, show f.length < 4398046511104 by omega, show f.length + 1 < 4398046511104 by omega, if_true]
          refine Ev.bind hB ?_
          simp only [Bool.false_eq_true, if_false, h2, Option.bind_some, c, hd]
          exact h4
      · rw [hv] at hB
        refine ⟨n1, b1, f1, a1, s1, evSucc ?_, k1⟩
        simp only [spec_l14Draw.j1, Option.bind_some, List.nil_append, List.length_nil, List.length_cons, Nat.zero_add, show f.length < 4398046511104 by omega, show f.length + 1 < 4398046511104 by omega, if_true]
        refine Ev.bind hB ?_
        simp only [if_true, hd]
        exact h1
    obtain ⟨r1, a1, s1, h1, k1, _⟩ := next_ok h b
    obtain ⟨r2, a2, s2, h2, k2, _⟩ := next_ok k1 n
    obtain ⟨r3, a3, s3, h3, k3, q3, _⟩ := next_ok k2 4
    by_cases c : wrap64 (1 + r3) = 4
    · obtain ⟨r4, a4, s4, h4, k4, _⟩ := next_ok k3 (n - 1)
      obtain ⟨n5, b5, f5, a5, s5, h5, k5⟩ := j1 a4 s4 r1 r2 4 (Int.tmod (wrap64 ((wrap64 (r2 + 1)) + r4)) n) k4
      refine ⟨n5, b5, f5, a5, s5, evSucc ?_, k5⟩
      simp only [spec_l14Draw.l0, show (((d + 1 : Nat) : Int) > 0) by omega, if_true, h1, h2, h3, Option.bind_some, c, wrapIn (x := n - 1) (by omega) (by omega), h4, show ¬ (n = 0) by omega, if_false]
      exact h5
    · obtain ⟨n5, b5, f5, a5, s5, h5, k5⟩ := j1 a3 s3 r1 r2 (wrap64 (1 + r3)) 0 k3
      refine ⟨n5, b5, f5, a5, s5, evSucc ?_, k5⟩
      simp only [spec_l14Draw.l0, show (((d + 1 : Nat) : Int) > 0) by omega, if_true, h1, h2, h3, Option.bind_some, c, if_false]
      exact h5
theorem drawLine {l : List Int} {a s : Int} (h : OkS l a s) : ∃ n b f a' s', Ev (fun k => spec_l14Draw.f k l a s) (n, b, f, a', s') ∧ OkS l a' s' := by
  obtain ⟨r1, a1, s1, h1, k1, q1, _⟩ := next_ok h 6
  have q1 := q1 (by decide)
  obtain ⟨r2, a2, s2, h2, k2, _⟩ := next_ok k1 8
  obtain ⟨r3, a3, s3, h3, k3, q3, _⟩ := next_ok k2 5
  have q3 := q3 (by decide)
  obtain ⟨d, rfl⟩ := Int.eq_ofNat_of_zero_le q3.1
  obtain ⟨n5, b5, f5, a5, s5, h5, k5⟩ := drawLine_l0 (1 + r1) r2 (by omega) (by omega) l d [] a3 s3 k3 (by simp; omega)
  refine ⟨n5, b5, f5, a5, s5, ?_, k5⟩
  unfold spec_l14Draw.f
  simp only [h1, h2, h3, Option.bind_some, wrapIn (x := 1 + r1) (by omega) (by omega)]
  exact h5

theorem same_ext (x y : List Int) (hl : x.length = y.length) : B (∀ j, 0 ≤ j → j < x.length → rd x ((j : Nat) : Int) = rd y ((j : Nat) : Int)) = decide (x = y) := by
  rw [← B_dec (x = y)]
  refine B_congr ⟨fun h => List.ext_getElem hl (fun i h1 h2 => ?_), fun h => by subst h; exact fun _ _ _ => rfl⟩
  have := h i (Nat.zero_le _) h1
  rwa [rdN x i h1, rdN y i h2] at this
theorem sameS (x y : List Int) (hx : x.length ≤ 1048576) : Ev (fun k => spec_l01Same.f k x y) (decide (x = y)) := by
  unfold spec_l01Same.f
  by_cases hl : x.length = y.length
  · simp only [show ((x.length : Int) = (y.length : Int)) by omega, if_true]
    have := evAllC (fun k j => spec_l01Same.l0 k x y j) 0 x.length (fun j => rd x (j : Int) = rd y (j : Int)) ?_ ?_ true ?_ (Nat.zero_le _)
    · rw [same_ext x y hl, Bool.and_true] at this
      exact this
    · intro j _ hj hg r hr
      refine evSucc ?_
      simp only [spec_l01Same.l0, show (j : Int) < (y.length : Int) by omega, show (j : Int) < (x.length : Int) by omega, show (0 : Int) ≤ (j : Int) by omega, if_true, hg, wrapNat (show j < 4611686018427387904 by omega)]
      exact hr
    · intro j _ hj hg
      refine evSucc ?_
      simp only [spec_l01Same.l0, show (j : Int) < (y.length : Int) by omega, show (j : Int) < (x.length : Int) by omega, show (0 : Int) ≤ (j : Int) by omega, if_true, hg, if_false]
      exact Ev.now _
    · intro _
      refine evSucc ?_
      simp only [spec_l01Same.l0, hl, Int.lt_irrefl, if_false]
      exact Ev.now _
  · simp only [show ¬ ((x.length : Int) = (y.length : Int)) by omega, if_false]
    rw [decide_eq_false (fun h => hl (by rw [h]))]
    exact Ev.now _

theorem likeI (x y : List Int) (hx : x.length ≤ 1048576) : Ev (fun k => laws_likeInts.f k x y) (decide (x = y)) := by
  unfold laws_likeInts.f
  by_cases hl : x.length = y.length
  · simp only [show ((x.length : Int) = (y.length : Int)) by omega, if_true]
    have := evAllC (fun k j => laws_likeInts.l0 k x y j) 0 x.length (fun j => rd x (j : Int) = rd y (j : Int)) ?_ ?_ true ?_ (Nat.zero_le _)
    · rw [same_ext x y hl, Bool.and_true] at this
      exact this
    · intro j _ hj hg r hr
      refine evSucc ?_
      simp only [laws_likeInts.l0, show (j : Int) < (y.length : Int) by omega, show (j : Int) < (x.length : Int) by omega, show (0 : Int) ≤ (j : Int) by omega, if_true, hg, wrapNat (show j < 4611686018427387904 by omega)]
      exact hr
    · intro j _ hj hg
      refine evSucc ?_
      simp only [laws_likeInts.l0, show (j : Int) < (y.length : Int) by omega, show (j : Int) < (x.length : Int) by omega, show (0 : Int) ≤ (j : Int) by omega, if_true, hg, if_false]
      exact Ev.now _
    · intro _
      refine evSucc ?_
      simp only [laws_likeInts.l0, hl, Int.lt_irrefl, if_false]
      exact Ev.now _
  · simp only [show ¬ ((x.length : Int) = (y.length : Int)) by omega, if_false]
    rw [decide_eq_false (fun h => hl (by rw [h]))]
    exact Ev.now _

theorem hasI (x : List Int) (a : Int) (hx : x.length ≤ 1048576) : Ev (fun k => laws_hasInt.f k x a) (decide (a ∈ x)) := by
  unfold laws_hasInt.f
  have key : ∀ d i : Nat, i + d = x.length → Ev (fun k => laws_hasInt.l0 k x a (i : Int)) (decide (a ∈ x.drop i)) := by
    intro d
    induction d with
    | zero =>
      intro i hi
      refine evSucc ?_
      simp only [laws_hasInt.l0, show ¬ ((i : Int) < (x.length : Int)) by omega, if_false]
      rw [List.drop_of_length_le (by omega)]
      exact Ev.now _
    | succ d ih =>
      intro i hi
      have h := ih (i + 1) (by omega)
      refine evSucc ?_
      rw [List.drop_eq_getElem_cons (show i < x.length by omega)]
      simp only [laws_hasInt.l0, show (i : Int) < (x.length : Int) by omega, show (0 : Int) ≤ (i : Int) by omega, if_true, rdN x i (by omega), wrapNat (show i < 4611686018427387904 by omega)]
      by_cases e : x[i]'(by omega) = a
      · simp only [e, if_true]
        rw [decide_eq_true (List.mem_cons_self ..)]
        exact Ev.now _
      · simp only [e, if_false]
        have e2 : decide (a ∈ x[i]'(by omega) :: x.drop (i + 1)) = decide (a ∈ x.drop (i + 1)) := by
          by_cases m : a ∈ x.drop (i + 1)
          · rw [decide_eq_true m, decide_eq_true (List.mem_cons_of_mem _ m)]
          · rw [decide_eq_false m, decide_eq_false (fun h => (List.mem_cons.1 h).elim (fun h => e h.symm) m)]
        rw [e2]
        exact h
  have := key x.length 0 (Nat.zero_add _)
  rwa [List.drop_zero] at this

def marks (i : Nat) : List Int := (List.range i).map fun (j : Nat) => (j : Int) + 1
theorem marks_len (i : Nat) : (marks i).length = i := by simp [marks]
theorem marks_succ (i : Nat) : marks (i + 1) = marks i ++ [(i : Int) + 1] := by simp [marks, List.range_succ]
theorem marks_get (n i : Nat) (h : i < n) : rd (marks n) (i : Int) = (i : Int) + 1 := by
  rw [rdN _ _ (by rw [marks_len]; exact h)]
  simp [marks]
theorem set_marks (l : List Int) (i : Nat) (h : i < l.length) : (marks i ++ l.drop i).set i ((i : Int) + 1) = marks (i + 1) ++ l.drop (i + 1) := by
  rw [List.set_append_right _ _ (by rw [marks_len]; omega), marks_len, Nat.sub_self, List.drop_eq_getElem_cons h, List.set_cons_zero, marks_succ, List.append_assoc]
  rfl

theorem rightS (n b : Int) (h0 : 0 ≤ n) (h1 : n ≤ 100) : Ev (fun k => spec_l14Block.f k n b []) (marks n.toNat) := by
  obtain ⟨m, rfl⟩ := Int.eq_ofNat_of_zero_le h0
  unfold spec_l14Block.f
  have := evCount (fun k (s : List Int) i => spec_l14Block.l0 k (m : Int) b [] s i) 0 m (fun i => marks i) (marks m) ?_ ?_ (Nat.zero_le _)
  · simpa [marks] using this
  · intro i _ hi hr
    refine evSucc (evSucc ?_)
    simp only [spec_l14Block.l0, spec_l14Block.l1, spec_l14Part.f, show (i : Int) < (m : Int) by omega, if_true, show ¬ ((0 : Int) = 1) by decide, show ¬ ((0 : Int) = 2) by decide, show ¬ ((0 : Int) = 3) by decide, show ¬ ((0 : Int) = 4) by decide, if_false, Option.bind_some, List.length_nil, show ¬ ((0 : Int) < ((0 : Nat) : Int)) by decide, marks_len, List.length_cons,
      show i + (0 + 1) < 17592186044416 by omega, wrapIn (show -9223372036854775808 ≤ (i : Int) + 1 by omega) (show (i : Int) + 1 ≤ 9223372036854775807 by omega)]
    rw [marks_succ] at hr
    obtain ⟨K, hK⟩ := hr
    exact ⟨K, fun k hk => hK k hk⟩
  · refine evSucc ?_
    simp only [spec_l14Block.l0, Int.lt_irrefl, if_false]
    exact Ev.now _

theorem rightI (n : Int) (h0 : 0 ≤ n) (h1 : n ≤ 100) : Ev (fun k => impl_rightBlock.f k n) (marks n.toNat) := by
  obtain ⟨m, rfl⟩ := Int.eq_ofNat_of_zero_le h0
  unfold impl_rightBlock.f
  have := evCount (fun k (s : List Int) i => impl_rightBlock.l0 k s (m : Int) i) 0 m (fun i => marks i) (marks m) ?_ ?_ (Nat.zero_le _)
  · simpa [marks] using this
  · intro i _ hi hr
    refine evSucc ?_
    simp only [impl_rightBlock.l0, marks_len, show (i : Int) < (m : Int) by omega, show i < 17592186044416 by omega, if_true, wrapIn (show -9223372036854775808 ≤ (i : Int) + 1 by omega) (show (i : Int) + 1 ≤ 9223372036854775807 by omega)]
    rw [marks_succ] at hr
    exact hr
  · refine evSucc ?_
    simp only [impl_rightBlock.l0, Int.lt_irrefl, if_false]
    exact Ev.now _

def partW (s k o : Int) : List Int := if k = 1 then [] else if k = 2 then [wrap64 (s + 1), wrap64 (s + 1)] else if k = 3 then [wrap64 (-(wrap64 (s + 1)))] else if k = 4 then [wrap64 (o + 1)] else [wrap64 (s + 1)]
theorem partS (s k o : Int) : spec_l14Part.f s k o = some (partW s k o) := by unfold spec_l14Part.f partW; split <;> (try rfl) <;> split <;> (try rfl) <;> split <;> (try rfl) <;> split <;> rfl
theorem leftI (s k o : Int) : impl_left.f s k o = some (partW s k o) := by unfold impl_left.f partW; split <;> (try rfl) <;> split <;> (try rfl) <;> split <;> (try rfl) <;> split <;> rfl
theorem part_len (s k o : Int) : (partW s k o).length ≤ 2 := by unfold partW; split <;> (try split) <;> (try split) <;> (try split) <;> simp
def MatchF (l : List S55) (b s : Int) (i : Nat) : Prop := (rd_T55 l (i : Int)).f0 = b ∧ (rd_T55 l (i : Int)).f1 = s
instance (l : List S55) (b s : Int) (i : Nat) : Decidable (MatchF l b s i) := by unfold MatchF; exact instDecidableAnd
/-- What a station leaves, by the first i faults. -/
def statUpto (l : List S55) (b s : Int) : Nat → List Int
  | 0 => partW s 0 0
  | i + 1 => if MatchF l b s i then partW s (rd_T55 l (i : Int)).f2 (rd_T55 l (i : Int)).f3 else statUpto l b s i
theorem stat_len (l : List S55) (b s : Int) : ∀ i : Nat, (statUpto l b s i).length ≤ 2
  | 0 => part_len _ _ _
  | i + 1 => by
    unfold statUpto
    split
    · exact part_len _ _ _
    · exact stat_len l b s i
theorem stat_miss (l : List S55) (b s : Int) (m : Nat) : ∀ d : Nat, (∀ j : Nat, m ≤ j → j < m + d → ¬ MatchF l b s j) → statUpto l b s (m + d) = statUpto l b s m
  | 0, _ => rfl
  | d + 1, h => by
    have e : statUpto l b s (m + (d + 1)) = if MatchF l b s (m + d) then partW s (rd_T55 l ((m + d : Nat) : Int)).f2 (rd_T55 l ((m + d : Nat) : Int)).f3 else statUpto l b s (m + d) := rfl
    rw [e, if_neg (h (m + d) (by omega) (by omega)), stat_miss l b s m d (fun j h1 h2 => h j h1 (by omega))]
/-- The block of a book by its first n stations. -/
def blockV (l : List S55) (b : Int) : Nat → List Int
  | 0 => []
  | s + 1 => blockV l b s ++ statUpto l b (s : Int) l.length
theorem block_len (l : List S55) (b : Int) : ∀ n : Nat, (blockV l b n).length ≤ 2 * n
  | 0 => by simp [blockV]
  | s + 1 => by
    have h1 := block_len l b s
    have h2 := stat_len l b (s : Int) l.length
    simp only [blockV, List.length_append]
    omega
theorem blockS (n : Nat) (b : Int) (l : List S55) (hn : n ≤ 12) (hl : l.length ≤ 20) : Ev (fun k => spec_l14Block.f k (n : Int) b l) (blockV l b n) := by
  unfold spec_l14Block.f
  refine evCount (fun k (o : List Int) s => spec_l14Block.l0 k (n : Int) b l o s) 0 n (blockV l b) _ ?_ ?_ (Nat.zero_le _)
  · intro s _ hs hr
    refine evSucc ?_
    simp only [spec_l14Block.l0, show (s : Int) < (n : Int) by omega, if_true, partS, Option.bind_some]
    refine evCount (fun k (p : List Int) i => spec_l14Block.l1 k (n : Int) b l (blockV l b s) (s : Int) p i) 0 l.length (statUpto l b (s : Int)) _ ?_ ?_ (Nat.zero_le _)
    · intro i _ hi hr
      refine evSucc ?_
      simp only [spec_l14Block.l1, show (i : Int) < (l.length : Int) by omega, show (0 : Int) ≤ (i : Int) by omega, if_true, partS, Option.bind_some, wrapNat (show i < 4611686018427387904 by omega)]
      simp only [statUpto] at hr
      by_cases h0 : (rd_T55 l (i : Int)).f0 = b
      · by_cases h1 : (rd_T55 l (i : Int)).f1 = (s : Int)
        · rw [if_pos (show MatchF l b (s : Int) i from ⟨h0, h1⟩)] at hr
          simp only [h0, h1, if_true]
          exact hr
        · rw [if_neg (fun h : MatchF l b (s : Int) i => h1 h.2)] at hr
          simp only [h0, h1, if_true, if_false]
          exact hr
      · rw [if_neg (fun h : MatchF l b (s : Int) i => h0 h.1)] at hr
        simp only [h0, if_false]
        exact hr
    · refine evSucc ?_
      have h1 := block_len l b s
      have h2 := stat_len l b (s : Int) l.length
      simp only [spec_l14Block.l1, Int.lt_irrefl, if_false, show (blockV l b s).length + (statUpto l b (s : Int) l.length).length < 17592186044416 by omega, if_true, wrapNat (show s < 4611686018427387904 by omega)]
      exact hr
  · refine evSucc ?_
    simp only [spec_l14Block.l0, Int.lt_irrefl, if_false]
    exact Ev.now _
/-- What gather's search finds. -/
theorem gather_find {n b : Int} {l : List S55} (hg : ∀ i : Nat, i < l.length → GoodF n b l i) (x s : Int) :
    (at_from (impl_gather_1.p x s) l 0 = -1 ∧ statUpto l x s l.length = partW s 0 0) ∨ ∃ i : Nat, i < l.length ∧ at_from (impl_gather_1.p x s) l 0 = (i : Int) ∧ statUpto l x s l.length = partW s (rd_T55 l (i : Int)).f2 (rd_T55 l (i : Int)).f3 := by
  have hp : ∀ (j : Nat) (hj : j < l.length), impl_gather_1.p x s l[j] = decide (MatchF l x s j) := fun j hj => by
    have hx : rd_T55 l (j : Int) = l[j] := rd55 l j hj
    by_cases hM : MatchF l x s j
    · rw [decide_eq_true hM]
      unfold MatchF at hM
      rw [hx] at hM
      simp [impl_gather_1.p, hM.1, hM.2]
    · rw [decide_eq_false hM]
      unfold MatchF at hM
      rw [hx] at hM
      unfold impl_gather_1.p
      by_cases h0 : l[j].f0 = x
      · by_cases h1 : l[j].f1 = s
        · exact absurd ⟨h0, h1⟩ hM
        · simp [h0, h1]
      · simp [h0]
  by_cases hm : ∃ i : Nat, i < l.length ∧ MatchF l x s i
  · obtain ⟨i, hi, hmi⟩ := hm
    have uniq : ∀ j : Nat, j < l.length → MatchF l x s j → j = i := fun j hj hmj => by
      rcases Nat.lt_trichotomy j i with h | h | h
      · exact absurd ⟨hmj.1.trans hmi.1.symm, hmj.2.trans hmi.2.symm⟩ ((hg i hi).2.2 j h)
      · exact h
      · exact absurd ⟨hmi.1.trans hmj.1.symm, hmi.2.trans hmj.2.symm⟩ ((hg j hj).2.2 i h)
    refine .inr ⟨i, hi, ?_, ?_⟩
    · rw [at_from_hit _ l i 0 hi (by rw [hp i hi]; exact decide_eq_true hmi) (fun j hj => by rw [hp j (by omega)]; exact decide_eq_false (fun h => by have := uniq j (by omega) h; omega))]
      omega
    · obtain ⟨d, hd⟩ : ∃ d, l.length = i + 1 + d := ⟨l.length - (i + 1), by omega⟩
      rw [hd, stat_miss l x s (i + 1) d (fun j h1 h2 h => by have := uniq j (by omega) h; omega)]
      simp only [statUpto]
      rw [if_pos hmi]
  · refine .inl ⟨at_from_miss _ l 0 (fun j hj => by rw [hp j hj]; exact decide_eq_false (fun h => hm ⟨j, hj, h⟩)), ?_⟩
    have := stat_miss l x s 0 l.length (fun j _ h2 h => hm ⟨j, by omega, h⟩)
    rw [Nat.zero_add] at this
    exact this
def booksV (l : List S55) (n : Nat) (m : Nat) : List (List Int) := (List.range m).map fun (b : Nat) => blockV l (b : Int) n
theorem books_len (l : List S55) (n m : Nat) : (booksV l n m).length = m := by simp [booksV]
theorem books_succ (l : List S55) (n m : Nat) : booksV l n m ++ [blockV l (m : Int) n] = booksV l n (m + 1) := by simp [booksV, List.range_succ]
theorem gatherI (n m : Nat) (l : List S55) (hn : n ≤ 12) (hm : m ≤ 40) (hl : l.length ≤ 20) {N M : Int} (hg : ∀ i : Nat, i < l.length → GoodF N M l i) : Ev (fun k => impl_gather.f k (n : Int) (m : Int) l) (booksV l n m) := by
  unfold impl_gather.f
  refine evCount (fun k (o : List (List Int)) b => impl_gather.l0 k (n : Int) l o (m : Int) b) 0 m (booksV l n) _ ?_ ?_ (Nat.zero_le _)
  · intro b _ hb hr
    refine evSucc ?_
    simp only [impl_gather.l0, show (b : Int) < (m : Int) by omega, if_true]
    refine evCount (fun k (p : List Int) s => impl_gather.l1 k (n : Int) l (booksV l n b) p (m : Int) (b : Int) (n : Int) s (b : Int)) 0 n (blockV l (b : Int)) _ ?_ ?_ (Nat.zero_le _)
    · intro s _ hs hr
      refine evSucc ?_
      have h1 := block_len l (b : Int) s
      have hp0 : partW (s : Int) 0 0 = [wrap64 ((s : Int) + 1)] := rfl
      rcases gather_find hg (b : Int) (s : Int) with ⟨e1, e2⟩ | ⟨i, hi, e1, e2⟩
      · simp only [blockV, e2, hp0] at hr
        simp only [impl_gather.l1, show (s : Int) < (n : Int) by omega, if_true, impl_gather_1.f, Option.bind_some, e1, show (-1 : Int) < 0 by decide, show (blockV l (b : Int) s).length < 17592186044416 by omega, wrapNat (show s < 4611686018427387904 by omega)]
        rw [wrapNat (show s < 4611686018427387904 by omega)] at hr
        exact hr
      · have h2 := part_len (s : Int) (rd_T55 l (i : Int)).f2 (rd_T55 l (i : Int)).f3
        simp only [blockV, e2] at hr
        simp only [impl_gather.l1, show (s : Int) < (n : Int) by omega, if_true, impl_gather_1.f, Option.bind_some, e1, show ¬ ((i : Int) < 0) by omega, if_false, show (0 : Int) ≤ (i : Int) by omega, show (i : Int) < (l.length : Int) by omega, leftI, show (blockV l (b : Int) s).length + (partW (s : Int) (rd_T55 l (i : Int)).f2 (rd_T55 l (i : Int)).f3).length < 17592186044416 by omega, wrapNat (show s < 4611686018427387904 by omega)]
        exact hr
    · refine evSucc ?_
      simp only [impl_gather.l1, Int.lt_irrefl, if_false, books_len, show b < 5864062014805 by omega, if_true, wrapNat (show b < 4611686018427387904 by omega), books_succ]
      exact hr
  · refine evSucc ?_
    simp only [impl_gather.l0, Int.lt_irrefl, if_false]
    exact Ev.now _
theorem block_nil (b : Int) : ∀ n : Nat, n ≤ 100 → blockV [] b n = marks n
  | 0, _ => rfl
  | n + 1, h => by
    rw [blockV, block_nil b n (by omega), marks_succ]
    congr 1
    show [wrap64 ((n : Int) + 1)] = _
    rw [wrapNat (by omega)]
    rfl

theorem sameI (x y : List Int) (hx : x.length ≤ 1048576) : Ev (fun k => slices_Equal_int64_int64.f k x y) (decide (x = y)) := by
  unfold slices_Equal_int64_int64.f
  by_cases hl : x.length = y.length
  · simp only [show ((x.length : Int) = (y.length : Int)) by omega, if_true]
    have := evAllC (fun k j => slices_Equal_int64_int64.l0 k x y (y.length : Int) j) 0 x.length (fun j => rd x (j : Int) = rd y (j : Int)) ?_ ?_ true ?_ (Nat.zero_le _)
    · rw [same_ext x y hl, Bool.and_true] at this
      exact this
    · intro j _ hj hg r hr
      refine evSucc ?_
      simp only [slices_Equal_int64_int64.l0, show (j : Int) < (y.length : Int) by omega, show (j : Int) < (x.length : Int) by omega, show (0 : Int) ≤ (j : Int) by omega, if_true, hg, wrapNat (show j < 4611686018427387904 by omega)]
      exact hr
    · intro j _ hj hg
      refine evSucc ?_
      simp only [slices_Equal_int64_int64.l0, show (j : Int) < (y.length : Int) by omega, show (j : Int) < (x.length : Int) by omega, show (0 : Int) ≤ (j : Int) by omega, if_true, hg, if_false]
      exact Ev.now _
    · intro _
      refine evSucc ?_
      simp only [slices_Equal_int64_int64.l0, hl, Int.lt_irrefl, if_false]
      exact Ev.now _
  · simp only [show ¬ ((x.length : Int) = (y.length : Int)) by omega, if_false]
    rw [decide_eq_false (fun h => hl (by rw [h]))]
    exact Ev.now _

def wrongV (l : List S55) (n : Nat) : Nat → List Int
  | 0 => []
  | b + 1 => if blockV l (b : Int) n = marks n then wrongV l n b else wrongV l n b ++ [(b : Int)]
theorem wrong_len (l : List S55) (n : Nat) : ∀ b : Nat, (wrongV l n b).length ≤ b
  | 0 => by simp [wrongV]
  | b + 1 => by
    have := wrong_len l n b
    unfold wrongV
    split
    · omega
    · rw [List.length_append, List.length_singleton]; omega
noncomputable def wrongR (n b : Int) (l : List S55) : List Int × Int := if codeF n b l = 0 then (wrongV l n.toNat b.toNat, 0) else ([], codeF n b l)
theorem wrongS (n b : Int) (l : List S55) : Ev (fun k => spec_WrongBooks.f k n b l) (wrongR n b l) := by
  unfold spec_WrongBooks.f wrongR
  refine Ev.bind (codeFS n b l) ?_
  by_cases hc : codeF n b l = 0
  · obtain ⟨⟨hn, hb⟩, hl, hg⟩ := codeF_ok hc
    obtain ⟨N, rfl⟩ := Int.eq_ofNat_of_zero_le (show 0 ≤ n by omega)
    obtain ⟨M, rfl⟩ := Int.eq_ofNat_of_zero_le (show 0 ≤ b by omega)
    simp only [hc, if_true, Int.toNat_natCast]
    refine Ev.bind (rightS (N : Int) 0 (by omega) (by omega)) ?_
    rw [Int.toNat_natCast]
    refine evCount (fun k (o : List Int) i => spec_WrongBooks.l0 k (N : Int) (M : Int) l (marks N) o i) 0 M (wrongV l N) _ ?_ ?_ (Nat.zero_le _)
    · intro i _ hi hr
      refine evSucc ?_
      have h1 := block_len l (i : Int) N
      have h2 := wrong_len l N i
      simp only [spec_WrongBooks.l0, show (i : Int) < (M : Int) by omega, if_true]
      refine Ev.bind (blockS N (i : Int) l (by omega) hl) (Ev.bind (sameS _ _ (by omega)) ?_)
      simp only [wrongV] at hr
      by_cases e : blockV l (i : Int) N = marks N
      · rw [if_pos e] at hr
        simp only [e, decide_true, if_true, wrapNat (show i < 4611686018427387904 by omega)]
        exact hr
      · rw [if_neg e] at hr
        simp only [e, decide_false, Bool.false_eq_true, if_false, show (wrongV l N i).length < 17592186044416 by omega, if_true, wrapNat (show i < 4611686018427387904 by omega)]
        exact hr
    · refine evSucc ?_
      simp only [spec_WrongBooks.l0, Int.lt_irrefl, if_false]
      exact Ev.now _
  · simp only [hc, if_false]
    exact Ev.now _
theorem rdL_books (l : List S55) (n m b : Nat) (h : b < m) : rd_L2 (booksV l n m) (b : Int) = blockV l (b : Int) n := by
  simp [rd_L2, booksV, List.getD_eq_getElem?_getD, h]
theorem wrongI (n b : Int) (l : List S55) : Ev (fun k => impl_WrongBooks.f k n b l) (wrongR n b l) := by
  unfold impl_WrongBooks.f wrongR
  refine Ev.bind (codeFI n b l) ?_
  by_cases hc : codeF n b l = 0
  · obtain ⟨⟨hn, hb⟩, hl, hg⟩ := codeF_ok hc
    obtain ⟨N, rfl⟩ := Int.eq_ofNat_of_zero_le (show 0 ≤ n by omega)
    obtain ⟨M, rfl⟩ := Int.eq_ofNat_of_zero_le (show 0 ≤ b by omega)
    simp only [hc, if_true, Int.toNat_natCast]
    refine Ev.bind (gatherI N M l (by omega) (by omega) hl hg) ?_
    rw [books_len]
    refine evCount (fun k (o : List Int) i => impl_WrongBooks.l0 k (N : Int) o (booksV l N M) (M : Int) i) 0 M (wrongV l N) _ ?_ ?_ (Nat.zero_le _)
    · intro i _ hi hr
      refine evSucc ?_
      have h1 := block_len l (i : Int) N
      have h2 := wrong_len l N i
      simp only [impl_WrongBooks.l0, show (i : Int) < (M : Int) by omega, show (0 : Int) ≤ (i : Int) by omega, books_len, if_true, rdL_books l N M i hi]
      refine Ev.bind (rightI (N : Int) (by omega) (by omega)) (Ev.bind (sameI _ _ (by omega)) ?_)
      rw [Int.toNat_natCast]
      simp only [wrongV] at hr
      by_cases e : blockV l (i : Int) N = marks N
      · rw [if_pos e] at hr
        simp only [e, decide_true, if_true, wrapNat (show i < 4611686018427387904 by omega)]
        exact hr
      · rw [if_neg e] at hr
        simp only [e, decide_false, Bool.false_eq_true, if_false, show (wrongV l N i).length < 17592186044416 by omega, if_true, wrapNat (show i < 4611686018427387904 by omega)]
        exact hr
    · refine evSucc ?_
      simp only [impl_WrongBooks.l0, Int.lt_irrefl, if_false]
      exact Ev.now _
  · simp only [hc, if_false]
    exact Ev.now _
theorem wrongR_len (n b : Int) (l : List S55) : (wrongR n b l).1.length ≤ 1048576 := by
  unfold wrongR
  split
  · rename_i hc
    obtain ⟨⟨hn, hb⟩, _⟩ := codeF_ok hc
    have := wrong_len l n.toNat b.toNat
    show (wrongV l n.toNat b.toNat).length ≤ _
    omega
  · simp

theorem foldl_mx : ∀ (xs : List Int) (x : Int), x ≤ xs.foldl mx x ∧ (∀ y ∈ xs, y ≤ xs.foldl mx x) ∧ (xs.foldl mx x = x ∨ xs.foldl mx x ∈ xs) := by
  intro xs
  induction xs with
  | nil => intro x; exact ⟨Int.le_refl _, fun y hy => by simp at hy, Or.inl rfl⟩
  | cons a xs ih =>
    intro x
    obtain ⟨h1, h2, h3⟩ := ih (mx x a)
    have m1 : x ≤ mx x a := by unfold mx; split <;> omega
    have m2 : a ≤ mx x a := by unfold mx; split <;> omega
    have m3 : mx x a = x ∨ mx x a = a := by unfold mx; split <;> simp
    rw [List.foldl_cons]
    refine ⟨Int.le_trans m1 h1, fun y hy => ?_, ?_⟩
    · rcases List.mem_cons.1 hy with e | hy
      · subst e
        exact Int.le_trans m2 h1
      · exact h2 y hy
    · rcases h3 with h3 | h3
      · rcases m3 with m3 | m3
        · exact Or.inl (h3.trans m3)
        · exact Or.inr (by rw [h3, m3]; exact List.mem_cons_self)
      · exact Or.inr (List.mem_cons_of_mem _ h3)
theorem maxI (l : List Int) (b : Nat) (hb : b < l.length) (h : ∀ j : Nat, j < l.length → rd l (j : Int) ≤ rd l (b : Int)) : slices_Max_int64_int64.f l = some (rd l (b : Int)) := by
  have key : ∀ v, slices_Max_int64_int64.f l = some v → v = rd l (b : Int) := by
    intro v hv
    cases l with
    | nil => simp at hb
    | cons x xs =>
      have e := Option.some.inj hv
      obtain ⟨f1, f2, f3⟩ := foldl_mx xs x
      rw [e] at f1 f2 f3
      have hmem : v ∈ x :: xs := by
        rcases f3 with f3 | f3
        · rw [f3]; exact List.mem_cons_self
        · exact List.mem_cons_of_mem _ f3
      have hle : ∀ y ∈ x :: xs, y ≤ v := fun y hy => by
        rcases List.mem_cons.1 hy with e | hy
        · rw [e]; exact f1
        · exact f2 y hy
      obtain ⟨j, hj, ej⟩ := List.getElem_of_mem hmem
      have h1 := h j hj
      have h2 := hle _ (List.getElem_mem hb)
      rw [rdN _ j hj, ej, rdN _ b hb] at h1
      rw [rdN _ b hb]
      omega
  cases l with
  | nil => simp at hb
  | cons x xs =>
    have := key _ rfl
    rw [← this]
    rfl
theorem indexI (l : List Int) (v : Int) (b : Nat) (hb : b < l.length) (hl : l.length ≤ 1048576) (h0 : ∀ j : Nat, j < b → ¬ rd l (j : Int) = v) (h1 : rd l (b : Int) = v) : Ev (fun k => slices_Index_int64_int64.f k l v) (b : Int) := by
  unfold slices_Index_int64_int64.f
  refine evCount (fun k (_ : Unit) i => slices_Index_int64_int64.l0 k l v (l.length : Int) i) 0 b (fun _ => ()) (b : Int) ?_ ?_ (Nat.zero_le _)
  · intro i _ hi hr
    refine evSucc ?_
    simp only [slices_Index_int64_int64.l0, show (i : Int) < (l.length : Int) by omega, show (0 : Int) ≤ (i : Int) by omega, if_true, show ¬ (v = rd l (i : Int)) from fun e => h0 i hi e.symm, if_false, wrapNat (show i < 4611686018427387904 by omega)]
    exact hr
  · refine evSucc ?_
    simp only [slices_Index_int64_int64.l0, show (b : Int) < (l.length : Int) by omega, show (0 : Int) ≤ (b : Int) by omega, if_true, h1]
    exact Ev.now _

def cntL (l : List S55) (n : Nat) : Nat → List Int
  | 0 => List.replicate n 0
  | i + 1 => (cntL l n i).set (rd_T55 l (i : Int)).f1.toNat (rd (cntL l n i) (rd_T55 l (i : Int)).f1 + 1)
theorem cnt_len (l : List S55) (n : Nat) : ∀ i : Nat, (cntL l n i).length = n
  | 0 => by simp [cntL]
  | i + 1 => by rw [cntL, List.length_set, cnt_len l n i]
theorem rd_set_le (c : List Int) (a : Nat) (v : Int) (j : Nat) (B0 B1 : Int) (hj : j < c.length) (h : B0 ≤ rd c (j : Int) ∧ rd c (j : Int) ≤ B1) (hv : B0 ≤ v ∧ v ≤ B1) : B0 ≤ rd (c.set a v) (j : Int) ∧ rd (c.set a v) (j : Int) ≤ B1 := by
  rw [rdN _ j (by rw [List.length_set]; exact hj), List.getElem_set]
  rw [rdN _ j hj] at h
  split
  · exact hv
  · exact h
theorem cnt_in (l : List S55) (n : Nat) (m : Nat) (hg : ∀ i : Nat, i < m → 0 ≤ (rd_T55 l (i : Int)).f1 ∧ (rd_T55 l (i : Int)).f1 ≤ (n : Int) - 1) : ∀ i : Nat, i ≤ m → ∀ j : Nat, j < n → 0 ≤ rd (cntL l n i) (j : Int) ∧ rd (cntL l n i) (j : Int) ≤ (i : Int)
  | 0, _, j, hj => by
    rw [rdN _ j (by rw [cnt_len]; exact hj)]
    simp [cntL]
  | i + 1, hi, j, hj => by
    have ih := cnt_in l n m hg i (by omega)
    have g := hg i (by omega)
    have iv := ih (rd_T55 l (i : Int)).f1.toNat (by omega)
    rw [show (((rd_T55 l (i : Int)).f1.toNat : Nat) : Int) = (rd_T55 l (i : Int)).f1 by omega] at iv
    have ij := ih j hj
    exact rd_set_le _ _ _ _ _ _ (by rw [cnt_len]; exact hj) ⟨ij.1, by omega⟩ ⟨by omega, by omega⟩
def Best (c : List Int) (m b : Nat) : Prop := b < c.length ∧ (∀ j : Nat, j < m → rd c (j : Int) ≤ rd c (b : Int)) ∧ ∀ j : Nat, j < b → rd c (j : Int) < rd c (b : Int)
theorem bestS (c : List Int) (hc : c.length ≤ 12) (d : Nat) : ∀ (m b : Nat), m + d = c.length → b ≤ m → Best c m b → ∃ b' : Nat, Best c c.length b' ∧ Ev (fun k => spec_BusiestStation.l1 k c (b : Int) (m : Int)) ((b' : Int), rd c (b' : Int), 0) := by
  induction d with
  | zero =>
    intro m b hm _ hb
    have e : m = c.length := by omega
    subst e
    refine ⟨b, hb, evSucc ?_⟩
    have h1 := hb.1
    simp only [spec_BusiestStation.l1, Int.lt_irrefl, if_false, show (0 : Int) ≤ (b : Int) by omega, show (b : Int) < (c.length : Int) by omega, if_true]
    exact Ev.now _
  | succ d ih =>
    intro m b hm hbm hb
    have hw := wrapNat (show m < 4611686018427387904 by omega)
    have h1 := hb.1
    by_cases g : rd c (m : Int) > rd c (b : Int)
    · have hb' : Best c (m + 1) m := ⟨by omega, fun j hj => by
        by_cases e : j = m
        · subst e; exact Int.le_refl _
        · have := hb.2.1 j (by omega); omega, fun j hj => by
        have := hb.2.1 j hj; omega⟩
      obtain ⟨b', hB, hE⟩ := ih (m + 1) m (by omega) (by omega) hb'
      refine ⟨b', hB, evSucc ?_⟩
      simp only [spec_BusiestStation.l1, show (m : Int) < (c.length : Int) by omega, show (0 : Int) ≤ (m : Int) by omega, show (0 : Int) ≤ (b : Int) by omega, show (b : Int) < (c.length : Int) by omega, if_true, g, hw]
      exact hE
    · have hb' : Best c (m + 1) b := ⟨h1, fun j hj => by
        by_cases e : j = m
        · subst e; omega
        · exact hb.2.1 j (by omega), hb.2.2⟩
      obtain ⟨b', hB, hE⟩ := ih (m + 1) b (by omega) (by omega) hb'
      refine ⟨b', hB, evSucc ?_⟩
      simp only [spec_BusiestStation.l1, show (m : Int) < (c.length : Int) by omega, show (0 : Int) ≤ (m : Int) by omega, show (0 : Int) ≤ (b : Int) by omega, show (b : Int) < (c.length : Int) by omega, if_true, g, if_false, hw]
      exact hE
theorem busy_both (n b : Int) (l : List S55) : ∃ r, Ev (fun k => spec_BusiestStation.f k n b l) r ∧ Ev (fun k => impl_BusiestStation.f k n b l) r ∧ (codeF n b l = 0 → ∃ s : Nat, s < n.toNat ∧ r = ((s : Int), rd (cntL l n.toNat l.length) (s : Int), 0)) ∧ r.2.2 = codeF n b l := by
  unfold spec_BusiestStation.f impl_BusiestStation.f
  by_cases hc : codeF n b l = 0
  · obtain ⟨⟨hn, _⟩, hl, hg⟩ := codeF_ok hc
    obtain ⟨N, rfl⟩ := Int.eq_ofNat_of_zero_le (show 0 ≤ n by omega)
    have hg1 : ∀ i : Nat, i < l.length → 0 ≤ (rd_T55 l (i : Int)).f1 ∧ (rd_T55 l (i : Int)).f1 ≤ (N : Int) - 1 := fun i hi => (hg i hi).1.2.1
    have hin := cnt_in l N l.length hg1
    have hcl := cnt_len l N l.length
    obtain ⟨b', hB, hE⟩ := bestS (cntL l N l.length) (by rw [hcl]; omega) N 0 0 (by rw [hcl]; omega) (Nat.le_refl _) ⟨by rw [hcl]; omega, fun j hj => absurd hj (by omega), fun j hj => absurd hj (by omega)⟩
    refine ⟨((b' : Int), rd (cntL l N l.length) (b' : Int), 0), Ev.bind (codeFS _ b l) ?_, Ev.bind (codeFI _ b l) ?_, fun _ => ⟨b', by have := hB.1; rw [hcl] at this; simpa using this, by rw [Int.toNat_natCast]⟩, hc.symm⟩
    · simp only [hc, if_true, show (0 : Int) ≤ (N : Int) by omega, Int.toNat_natCast, show N ≤ 35184372088832 by omega]
      refine evCount (fun k (s : List Int) i => spec_BusiestStation.l0 k l s i) 0 l.length (cntL l N) _ ?_ ?_ (Nat.zero_le _)
      · intro i _ hi hr
        refine evSucc ?_
        have g := hg1 i hi
        have iv := hin i (by omega) (rd_T55 l (i : Int)).f1.toNat (by omega)
        rw [show (((rd_T55 l (i : Int)).f1.toNat : Nat) : Int) = (rd_T55 l (i : Int)).f1 by omega] at iv
        simp only [spec_BusiestStation.l0, show (i : Int) < (l.length : Int) by omega, show (0 : Int) ≤ (i : Int) by omega, g.1, cnt_len, show (rd_T55 l (i : Int)).f1 < (N : Int) by omega, if_true, wrapNat (show i < 4611686018427387904 by omega)]
        rw [wrapIn (by omega) (by omega)]
        exact hr
      · refine evSucc ?_
        simp only [spec_BusiestStation.l0, Int.lt_irrefl, if_false]
        exact hE
    · simp only [hc, if_true, show (0 : Int) ≤ (N : Int) by omega, Int.toNat_natCast, show N ≤ 35184372088832 by omega]
      refine evCount (fun k (s : List Int) i => impl_BusiestStation.l0 k s l (l.length : Int) i) 0 l.length (cntL l N) _ ?_ ?_ (Nat.zero_le _)
      · intro i _ hi hr
        refine evSucc ?_
        have g := hg1 i hi
        have iv := hin i (by omega) (rd_T55 l (i : Int)).f1.toNat (by omega)
        rw [show (((rd_T55 l (i : Int)).f1.toNat : Nat) : Int) = (rd_T55 l (i : Int)).f1 by omega] at iv
        simp only [impl_BusiestStation.l0, show (i : Int) < (l.length : Int) by omega, show (0 : Int) ≤ (i : Int) by omega, g.1, cnt_len, show (rd_T55 l (i : Int)).f1 < (N : Int) by omega, if_true, wrapNat (show i < 4611686018427387904 by omega)]
        rw [wrapIn (by omega) (by omega)]
        exact hr
      · refine evSucc ?_
        simp only [impl_BusiestStation.l0, Int.lt_irrefl, if_false, maxI _ b' hB.1 hB.2.1, Option.bind_some]
        exact Ev.bind (indexI _ _ b' hB.1 (by rw [hcl]; omega) (fun j hj e => by have := hB.2.2 j hj; omega) rfl) (Ev.now _)
  · refine ⟨(0, 0, codeF n b l), Ev.bind (codeFS _ b l) ?_, Ev.bind (codeFI _ b l) ?_, fun h => absurd h hc, rfl⟩
    · simp only [hc, if_false]
      exact Ev.now _
    · simp only [hc, if_false]
      exact Ev.now _

def rightV (n : Int) : List Int × Int := if lineB n 0 = true then (marks n.toNat, 0) else ([], 2)
theorem RightS (n : Int) : Ev (fun k => spec_RightBlock.f k n) (rightV n) := by
  unfold spec_RightBlock.f rightV
  simp only [lineS, Option.bind_some]
  cases h : lineB n 0
  · simp only [Bool.false_eq_true, if_false]
    exact Ev.now _
  · have hl := line_of h
    simp only [if_true]
    exact Ev.bind (rightS n 0 (by omega) (by omega)) (Ev.now _)
theorem RightI (n : Int) : Ev (fun k => impl_RightBlock.f k n) (rightV n) := by
  unfold impl_RightBlock.f rightV
  simp only [lineI, Option.bind_some]
  cases h : lineB n 0
  · simp only [Bool.false_eq_true, if_false]
    exact Ev.now _
  · have hl := line_of h
    simp only [if_true]
    exact Ev.bind (rightI n (by omega) (by omega)) (Ev.now _)
theorem right_len (n : Int) : (rightV n).1.length ≤ 1048576 := by
  unfold rightV
  split
  · rename_i h
    have := line_of h
    simp only [marks_len]
    omega
  · simp

theorem drawW (l : List Int) (hw : ∀ x ∈ l, (Lit.int .u8 x).wf = true) (hl : l.length ≤ 4096) : ∃ n b f, Ev (fun k => spec_DrawWrongBooks.f k l) (n, b, f) := by
  obtain ⟨s0, h0, o0⟩ := from_ok l hw hl
  obtain ⟨n, b, f, a1, s1, h1, o1⟩ := drawLine o0
  refine ⟨n, b, f, ?_⟩
  unfold spec_DrawWrongBooks.f
  exact Ev.bind h0 (Ev.bind h1 (Ev.now _))
theorem drawR (l : List Int) (hw : ∀ x ∈ l, (Lit.int .u8 x).wf = true) (hl : l.length ≤ 4096) : ∃ m, Ev (fun k => spec_DrawRightBlock.f k l) m := by
  obtain ⟨s0, h0, o0⟩ := from_ok l hw hl
  obtain ⟨r, a1, s1, h1, o1, _⟩ := next_ok o0 15
  refine ⟨wrap64 (r - 1), ?_⟩
  unfold spec_DrawRightBlock.f
  refine Ev.bind h0 ?_
  simp only [h1, Option.bind_some]
  exact Ev.now _
theorem wrong_mem (l : List S55) (n : Nat) (a : Int) : ∀ m : Nat, a ∈ wrongV l n m ↔ ∃ j : Nat, j < m ∧ a = (j : Int) ∧ ¬ blockV l (j : Int) n = marks n
  | 0 => by simp [wrongV]
  | m + 1 => by
    have ih := wrong_mem l n a m
    unfold wrongV
    split
    · rename_i h
      rw [ih]
      exact ⟨fun ⟨j, h1, h2⟩ => ⟨j, by omega, h2⟩, fun ⟨j, h1, h2, h3⟩ => ⟨j, by
        rcases Nat.lt_or_ge j m with h4 | h4
        · exact h4
        · have : j = m := by omega
          subst this
          exact absurd h h3, h2, h3⟩⟩
    · rename_i h
      rw [List.mem_append, ih, List.mem_singleton]
      exact ⟨fun hh => hh.elim (fun ⟨j, h1, h2⟩ => ⟨j, by omega, h2⟩) (fun e => ⟨m, by omega, e, h⟩), fun ⟨j, h1, h2, h3⟩ => by
        rcases Nat.lt_or_ge j m with h4 | h4
        · exact .inl ⟨j, h4, h2, h3⟩
        · exact .inr (by rw [h2]; congr 1; omega)⟩
theorem wrong_in (l : List S55) (n m b : Nat) (hb : b < m) : (b : Int) ∈ wrongV l n m ↔ ¬ blockV l (b : Int) n = marks n := by
  rw [wrong_mem]
  exact ⟨fun ⟨j, _, h2, h3⟩ => by have : j = b := by omega
                                  subst this; exact h3, fun h => ⟨b, hb, rfl, h⟩⟩
def someV (l : List S55) (b : Int) : Nat → Bool
  | 0 => false
  | i + 1 => if someV l b i = true then true else (rd_T55 l (i : Int)).f0 == b
theorem some_no (l : List S55) (b : Int) : ∀ i : Nat, someV l b i = false → ∀ j : Nat, j < i → ¬ (rd_T55 l (j : Int)).f0 = b
  | 0, _, j, h => absurd h (by omega)
  | i + 1, h, j, hj => by
    unfold someV at h
    by_cases c : someV l b i = true
    · rw [if_pos c] at h
      exact absurd h (by decide)
    · rw [if_neg c] at h
      rcases Nat.lt_or_ge j i with h1 | h1
      · exact some_no l b i (by simpa using c) j h1
      · have : j = i := by omega
        subst this
        intro e
        rw [e, beq_self_eq_true] at h
        exact absurd h (by decide)
theorem block_no (l : List S55) (b : Int) (h : ∀ j : Nat, j < l.length → ¬ (rd_T55 l (j : Int)).f0 = b) : ∀ n : Nat, n ≤ 100 → blockV l b n = marks n
  | 0, _ => rfl
  | n + 1, hn => by
    have h1 := stat_miss l b (n : Int) 0 l.length (fun j _ h2 hm => h j (by omega) hm.1)
    rw [Nat.zero_add] at h1
    rw [blockV, block_no l b h n (by omega), marks_succ, h1]
    congr 1
    show [wrap64 ((n : Int) + 1)] = _
    rw [wrapNat (by omega)]
    rfl
def cntV (l : List S55) (s : Int) : Nat → Int
  | 0 => 0
  | i + 1 => if (rd_T55 l (i : Int)).f1 = s then cntV l s i + 1 else cntV l s i
theorem cntV_in (l : List S55) (s : Int) : ∀ i : Nat, 0 ≤ cntV l s i ∧ cntV l s i ≤ (i : Int)
  | 0 => by simp [cntV]
  | i + 1 => by
    have := cntV_in l s i
    unfold cntV
    split <;> omega
theorem cnt_is (l : List S55) (n : Nat) (s : Nat) (hs : s < n) (m : Nat) (hg : ∀ i : Nat, i < m → 0 ≤ (rd_T55 l (i : Int)).f1 ∧ (rd_T55 l (i : Int)).f1 ≤ (n : Int) - 1) : ∀ i : Nat, i ≤ m → rd (cntL l n i) (s : Int) = cntV l (s : Int) i
  | 0, _ => by
    rw [rdN _ s (by rw [cnt_len]; exact hs)]
    simp [cntL, cntV]
  | i + 1, hi => by
    have ih := cnt_is l n s hs m hg i (by omega)
    have g := hg i (by omega)
    rw [rdN _ s (by rw [cnt_len]; exact hs)]
    simp only [cntL, cntV, List.getElem_set]
    by_cases e : (rd_T55 l (i : Int)).f1 = (s : Int)
    · rw [if_pos (show (rd_T55 l (i : Int)).f1.toNat = s by omega), if_pos e, e, ih]
    · rw [if_neg (show ¬ (rd_T55 l (i : Int)).f1.toNat = s by omega), if_neg e, ← ih, rdN _ s (by rw [cnt_len]; exact hs)]
theorem faults_code (n b : Int) (l : List S55) : faultsB n b l = (codeF n b l == 0) := by
  unfold codeF
  by_cases hl : lineB n b = true
  · rw [if_pos hl]
    by_cases hf : faultsB n b l = true
    · rw [if_pos hf, hf]; rfl
    · rw [if_neg hf, Bool.eq_false_iff.2 hf]; rfl
  · rw [if_neg hl]
    unfold faultsB
    rw [Bool.eq_false_iff.2 hl, Bool.false_and]; rfl
theorem gatherBooksI (n b : Int) (l : List S55) (hc : codeF n b l = 0) : Ev (fun k => impl_GatherBooks.f k n b l) (booksV l n.toNat b.toNat, 0) := by
  unfold impl_GatherBooks.f
  refine Ev.bind (codeFI n b l) ?_
  obtain ⟨⟨hn, hb⟩, hl, hg⟩ := codeF_ok hc
  obtain ⟨N, rfl⟩ := Int.eq_ofNat_of_zero_le (show 0 ≤ n by omega)
  obtain ⟨M, rfl⟩ := Int.eq_ofNat_of_zero_le (show 0 ≤ b by omega)
  simp only [hc, if_true, Int.toNat_natCast]
  exact Ev.bind (gatherI N M l (by omega) (by omega) hl hg) (Ev.now _)
theorem FnLinesOfBooks : laws_FnLinesOfBooks.Pure := by
  intro l _ _ hw
  refine Ev.rounds ?_
  unfold laws_FnLinesOfBooks.f laws_big.f
  simp only [Option.bind_some]
  by_cases hb : (l.length : Int) > 4096
  · simp only [hb, decide_true, if_true]
    exact Ev.now _
  · simp only [hb, decide_false, Bool.false_eq_true, if_false]
    have hl : l.length ≤ 4096 := by omega
    obtain ⟨n, b, f, h0⟩ := drawW l hw hl
    obtain ⟨m, h1⟩ := drawR l hw hl
    obtain ⟨r, h2, h3, h4, h5⟩ := busy_both n b f
    have hwl := wrongR_len n b f
    have hrl := right_len m
    refine Ev.bind h0 (Ev.bind (wrongI n b f) (Ev.bind (wrongS n b f) (Ev.bind h3 (Ev.bind h2 (Ev.bind h1 (Ev.bind (RightI m) (Ev.bind (RightS m) ?_)))))))
    simp only [if_true]
    refine Ev.bind (likeI _ _ hwl) ?_
    simp only [decide_true, if_true]
    refine Ev.bind (likeI _ _ hrl) ?_
    simp only [decide_true, if_true]
    refine Ev.bind (faultI n b f) ?_
    have hwc : (wrongR n b f).2 = codeF n b f := by
      unfold wrongR
      split
      · rename_i h; exact h.symm
      · rfl
    rw [hwc, faults_code, bne_self_eq_false]
    refine evSucc ?_
    simp only [laws_FnLinesOfBooks.j0, Bool.false_eq_true, if_false]
    by_cases hc : codeF n b f = 0
    · obtain ⟨⟨hn, hb⟩, hfl, hg⟩ := codeF_ok hc
      obtain ⟨s, hs, rfl⟩ := h4 hc
      have hbk := gatherBooksI n b f hc
      obtain ⟨N, rfl⟩ := Int.eq_ofNat_of_zero_le (show 0 ≤ n by omega)
      obtain ⟨M, rfl⟩ := Int.eq_ofNat_of_zero_le (show 0 ≤ b by omega)
      rw [Int.toNat_natCast] at hs
      have hR : rightV (N : Int) = (marks N, 0) := by
        unfold rightV
        rw [if_pos (by simp only [lineB, Bool.and_eq_true, decide_eq_true_eq]; omega), Int.toNat_natCast]
      have hW : (wrongR (N : Int) (M : Int) f).1 = wrongV f N M := by
        unfold wrongR
        rw [if_pos hc, Int.toNat_natCast, Int.toNat_natCast]
      have hcnt := cnt_is f N s hs f.length (fun i hi => (hg i hi).1.2.1) f.length (Nat.le_refl _)
      rw [hc] at *
      simp only [if_true]
      refine Ev.bind hbk (Ev.bind (RightI (N : Int)) ?_)
      simp only [hR, if_true, Int.toNat_natCast, books_len, bne_self_eq_false, hW, hcnt]
      refine evSucc ?_
      simp only [laws_FnLinesOfBooks.j1, Bool.false_eq_true, if_false]
      refine evCount (fun k (_ : Unit) i => laws_FnLinesOfBooks.l0 k (M : Int) f (wrongV f N M) (s : Int) (cntV f (s : Int) f.length) (booksV f N M) (marks N) i) 0 M (fun _ => ()) _ ?_ ?_ (Nat.zero_le _)
      · intro j _ hj hr
        refine evSucc ?_
        simp only [laws_FnLinesOfBooks.l0, show (j : Int) < (M : Int) by omega, if_true]
        refine evCount (fun k (x : Bool) i => laws_FnLinesOfBooks.l1 k (M : Int) f (wrongV f N M) (s : Int) (cntV f (s : Int) f.length) (booksV f N M) (marks N) (j : Int) x i) 0 f.length (someV f (j : Int)) _ ?_ ?_ (Nat.zero_le _)
        · intro i _ hi hr
          refine evSucc ?_
          simp only [laws_FnLinesOfBooks.l1, show (i : Int) < (f.length : Int) by omega, show (0 : Int) ≤ (i : Int) by omega, if_true, wrapNat (show i < 4611686018427387904 by omega)]
          simp only [someV] at hr
          by_cases c : someV f (j : Int) i = true
          · rw [if_pos c] at hr
            simp only [c, if_true]
            exact hr
          · rw [if_neg c] at hr
            simp only [c, if_false, Bool.false_eq_true]
            exact hr
        · refine evSucc ?_
          have hbl := block_len f (j : Int) N
          have hwl2 := wrong_len f N M
          simp only [laws_FnLinesOfBooks.l1, Int.lt_irrefl, if_false, show (0 : Int) ≤ (j : Int) by omega, books_len, show (j : Int) < (M : Int) by omega, if_true, rdL_books f N M j hj]
          refine Ev.bind (likeI _ _ (by omega)) (Ev.bind (hasI _ _ (by omega)) ?_)
          have hx : (decide (blockV f (j : Int) N = marks N) == decide ((j : Int) ∈ wrongV f N M)) = false := by
            by_cases e : blockV f (j : Int) N = marks N
            · rw [decide_eq_true e, decide_eq_false (fun h => (wrong_in f N M j hj).1 h e)]; rfl
            · rw [decide_eq_false e, decide_eq_true ((wrong_in f N M j hj).2 e)]; rfl
          simp only [hx, Bool.false_eq_true, if_false]
          refine Ev.bind (hasI _ _ (by omega)) ?_
          by_cases e : (j : Int) ∈ wrongV f N M
          · have hsm : someV f (j : Int) f.length = true := by
              cases hv : someV f (j : Int) f.length with
              | true => rfl
              | false => exact absurd (block_no f (j : Int) (some_no f (j : Int) f.length hv) N (by omega)) ((wrong_in f N M j hj).1 e)
            simp only [e, decide_true, if_true, hsm, wrapNat (show j < 4611686018427387904 by omega)]
            exact hr
          · simp only [e, decide_false, Bool.false_eq_true, if_false, wrapNat (show j < 4611686018427387904 by omega)]
            exact hr
      · refine evSucc ?_
        simp only [laws_FnLinesOfBooks.l0, Int.lt_irrefl, if_false]
        refine evCount (fun k (x : Int) i => laws_FnLinesOfBooks.l2 k f (s : Int) (cntV f (s : Int) f.length) x i) 0 f.length (cntV f (s : Int)) _ ?_ ?_ (Nat.zero_le _)
        · intro i _ hi hr
          refine evSucc ?_
          have hci := cntV_in f (s : Int) i
          simp only [laws_FnLinesOfBooks.l2, show (i : Int) < (f.length : Int) by omega, show (0 : Int) ≤ (i : Int) by omega, if_true, wrapNat (show i < 4611686018427387904 by omega)]
          simp only [cntV] at hr
          by_cases c : (rd_T55 f (i : Int)).f1 = (s : Int)
          · rw [if_pos c] at hr
            simp only [c, if_true, wrapIn (x := cntV f (s : Int) i + 1) (by omega) (by omega)]
            exact hr
          · rw [if_neg c] at hr
            simp only [c, if_false]
            exact hr
        · refine evSucc ?_
          simp only [laws_FnLinesOfBooks.l2, Int.lt_irrefl, if_false, beq_self_eq_true]
          exact Ev.now _
    · simp only [hc, if_false]
      exact Ev.now _

end Go.Proofs.Ythmeohanbggnlaa.Pure
