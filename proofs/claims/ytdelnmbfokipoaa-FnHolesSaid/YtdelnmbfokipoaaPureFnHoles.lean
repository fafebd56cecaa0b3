/- For every string of at most 4096 bytes the drawn holes make the program and the reference agree on mirrored holes, even holes and the inside length; holes mirrored twice are the holes, even holes lie within the margins, and the inside of a section is shorter than its span. -/
import Derived.Test.YtdelnmbfokipoaaSayFnHoles
namespace Go.Proofs.Ytdelnmbfokipoaa.Pure
open Go.RowKit Go.Proofs.Ytdelnmbfokipoaa.PFnHoles Go.Proofs.YtdelnmbfokipoaaW.PrintWords Go.Proofs.YtdelnmbfokipoaaW.PrintLast
set_option linter.unusedVariables false
set_option linter.unusedSimpArgs false
-- BEGIN
/-- A proposition as a bool. -/
noncomputable def B (p : Prop) : Bool := @decide p (Classical.propDecidable p)
theorem B_iff {p : Prop} : B p = true ↔ p := by unfold B; exact @decide_eq_true_iff p (Classical.propDecidable p)
theorem B_true {p : Prop} (h : p) : B p = true := B_iff.2 h
theorem B_false {p : Prop} (h : ¬ p) : B p = false := by cases e : B p with | false => rfl | true => exact absurd (B_iff.1 e) h
theorem B_congr {p q : Prop} (h : p ↔ q) : B p = B q := by rw [propext h]
theorem B_dec (p : Prop) [Decidable p] : B p = decide p := by by_cases h : p <;> simp [h, B_true, B_false]
theorem B_and (p q : Prop) : (B p && B q) = B (p ∧ q) := by
  by_cases hp : p <;> by_cases hq : q <;> simp [B_true, B_false, hp, hq]
theorem B_not (p : Prop) : (!B p) = B (¬ p) := by by_cases hp : p <;> simp [B_true, B_false, hp]
theorem evSucc {α : Type} {g : Nat → Option α} {r : α} (h : Ev (fun k => g (k + 1)) r) : Ev g r := Ev.step (fun _ => rfl) h
theorem evNow {α : Type} {g : Nat → Option α} {r : α} (h : ∀ k, g k = some r) : Ev g r := ⟨0, fun k _ => h k⟩
theorem evCount {σ α : Type} (F : Nat → σ → Int → Option α) (i0 n : Nat) (S : Nat → σ) (r : α)
    (hstep : ∀ i, i0 ≤ i → i < n → Ev (fun k => F k (S (i + 1)) ((i + 1 : Nat) : Int)) r → Ev (fun k => F k (S i) (i : Int)) r) (hend : Ev (fun k => F k (S n) (n : Int)) r) (hle : i0 ≤ n) : Ev (fun k => F k (S i0) (i0 : Int)) r := by
  have key : ∀ d i, i0 ≤ i → i + d = n → Ev (fun k => F k (S i) (i : Int)) r := by
    intro d
    induction d with
    | zero =>
      intro i _ hi
      have h0 : i = n := by omega
      subst h0
      exact hend
    | succ d ih => intro i h0 hi; exact hstep i h0 (by omega) (ih (i + 1) (by omega) (by omega))
  exact key (n - i0) i0 (Nat.le_refl _) (by omega)
/-- A loop that leaves at the first place where G fails. -/
theorem evAll (F : Nat → Int → Option Bool) (i0 n : Nat) (G : Nat → Prop)
    (hstep : ∀ i, i0 ≤ i → i < n → G i → ∀ r, Ev (fun k => F k ((i + 1 : Nat) : Int)) r → Ev (fun k => F k (i : Int)) r) (hbad : ∀ i, i0 ≤ i → i < n → ¬ G i → Ev (fun k => F k (i : Int)) false) (e : Bool) (hend : Ev (fun k => F k (n : Int)) e) (hle : i0 ≤ n) :
    Ev (fun k => F k (i0 : Int)) (B (∀ j, i0 ≤ j → j < n → G j) && e) := by
  have key : ∀ d i, i0 ≤ i → i + d = n → Ev (fun k => F k (i : Int)) (B (∀ j, i ≤ j → j < n → G j) && e) := by
    intro d
    induction d with
    | zero =>
      intro i _ hi
      have h0 : i = n := by omega
      subst h0
      rw [B_true (fun j h1 h2 => absurd h2 (by omega)), Bool.true_and]
      exact hend
    | succ d ih =>
      intro i h0 hi
      by_cases hg : G i
      · have h1 : B (∀ j, i ≤ j → j < n → G j) = B (∀ j, i + 1 ≤ j → j < n → G j) := B_congr ⟨fun h j a b => h j (by omega) b, fun h j a b => by
          by_cases e : j = i
          · subst e; exact hg
          · exact h j (by omega) b⟩
        rw [h1]
        exact hstep i h0 (by omega) hg _ (ih (i + 1) (by omega) (by omega))
      · rw [B_false (fun h => hg (h i (Nat.le_refl _) (by omega))), Bool.false_and]
        exact hbad i h0 (by omega) hg
  exact key (n - i0) i0 (Nat.le_refl _) (by omega)
theorem wrapNat {i : Nat} (h : i < 4611686018427387904) : wrap64 ((i : Int) + 1) = ((i + 1 : Nat) : Int) := by
  unfold wrap64; omega
theorem wrapPred {i : Nat} (h0 : 1 ≤ i) (h : i < 4611686018427387904) : wrap64 ((i : Int) - 1) = ((i - 1 : Nat) : Int) := by
  unfold wrap64; omega
theorem rdN (xs : List Int) (i : Nat) (h : i < xs.length) : rd xs (i : Int) = xs[i] := by
  simp [rd, List.getD_eq_getElem?_getD, List.getElem?_eq_getElem h]
theorem fillStep {α : Type} (xs : List α) (z : α) (i : Nat) (h : i < xs.length) : (xs.take i ++ List.replicate (xs.length - i) z).set i xs[i] = xs.take (i + 1) ++ List.replicate (xs.length - (i + 1)) z := by
  have h1 : xs.length - i = (xs.length - (i + 1)) + 1 := by omega
  rw [h1, List.replicate_succ, List.set_append_right _ _ (by rw [List.length_take]; omega)]
  rw [List.length_take, Nat.min_eq_left (by omega), Nat.sub_self, List.set_cons_zero, List.take_succ_eq_append_getElem h, List.append_assoc]
  rfl
theorem fillLen {α : Type} (xs : List α) (z : α) (i : Nat) (h : i ≤ xs.length) : (xs.take i ++ List.replicate (xs.length - i) z).length = xs.length := by
  simp; omega

theorem wrapIn {x : Int} (h0 : -9223372036854775808 ≤ x) (h1 : x ≤ 9223372036854775807) : wrap64 x = x := by
  unfold wrap64; omega

structure OkS (l : List Int) (a s : Int) : Prop where
  bytes : ∀ x ∈ l, 0 ≤ x ∧ x ≤ 255
  len : l.length ≤ 4096
  a0 : 0 ≤ a
  a1 : a ≤ l.length
  s0 : 0 ≤ s
  s1 : s < 2147483647
theorem rd_byte {l : List Int} (h : ∀ x ∈ l, 0 ≤ x ∧ x ≤ 255) (i : Int) : 0 ≤ rd l i ∧ rd l i ≤ 255 := spec_l01Next.byte h i
theorem next_ok {l : List Int} {a s : Int} (h : OkS l a s) (n : Int) :
    ∃ r a' s', spec_l01Next.f l a s n = some (r, a', s') ∧ OkS l a' s' ∧ (1 ≤ n → 0 ≤ r ∧ r < n) ∧ (n ≤ 1 → r = 0) := by
  have hs := h.s0
  have hs1 := h.s1
  have ha0 := h.a0
  have ha1 := h.a1
  have hl := h.len
  have hb := rd_byte h.bytes a
  refine ⟨(spec_l01Next.V l a s n).1, (spec_l01Next.V l a s n).2.1, (spec_l01Next.V l a s n).2.2, ?_, ?_⟩
  · unfold spec_l01Next.f
    rw [if_pos ⟨h.bytes, by omega, ⟨ha0, ha1⟩, hs, hs1⟩]
  · unfold spec_l01Next.V
    have hS0 : 0 ≤ (s * 48271 + 61) % 2147483647 := by omega
    have hS1 : (s * 48271 + 61) % 2147483647 < 2147483647 := by omega
    have modr : ∀ x : Int, 1 < n → 0 ≤ x % n ∧ x % n < n := fun x hn => ⟨Int.emod_nonneg _ (by omega), Int.emod_lt_of_pos _ (by omega)⟩
    by_cases hn : n ≤ 1
    · rw [if_pos hn]
      exact ⟨h, fun _ => ⟨by simp, by simp; omega⟩, fun _ => rfl⟩
    · rw [if_neg hn]
      by_cases c1 : a < (l.length : Int)
      · rw [if_pos c1]
        have ok1 : OkS l (a + 1) ((s * 48271 + 61) % 2147483647) := ⟨h.bytes, h.len, by omega, by omega, hS0, hS1⟩
        by_cases c2 : n ≤ 256 ∧ (a + 1) % 2 = 0
        · rw [if_pos c2]
          exact ⟨ok1, fun _ => modr _ (by omega), fun h1 => absurd h1 hn⟩
        · rw [if_neg c2]
          exact ⟨ok1, fun _ => modr _ (by omega), fun h1 => absurd h1 hn⟩
      · rw [if_neg c1]
        exact ⟨⟨h.bytes, h.len, ha0, ha1, hS0, hS1⟩, fun _ => modr _ (by omega), fun h1 => absurd h1 hn⟩
theorem from_loop (l : List Int) (hb : ∀ x ∈ l, 0 ≤ x ∧ x ≤ 255) (_hl : l.length ≤ 4096) (d : Nat) : ∀ (i : Nat) (s : Int), i + d = l.length → 0 ≤ s → s < 2147483647 → ∃ r, Ev (fun k => spec_l01From.l0 k l (i : Int) l 0 s) (l, 0, r) ∧ 0 ≤ r ∧ r < 2147483647 := by
  induction d with
  | zero =>
    intro i s hi h0 h1
    refine ⟨s, evSucc ?_, h0, h1⟩
    simp only [spec_l01From.l0, show ¬ ((i : Int) < (l.length : Int)) by omega, if_false]
    exact Ev.now _
  | succ d ih =>
    intro i s hi h0 h1
    by_cases h64 : (i : Int) < 64
    · have hr := rd_byte hb (i : Int)
      have he : Int.tmod (wrap64 ((wrap64 (s * 71)) + (wrap64 (rd l (i : Int))))) 2147483647 = (s * 71 + rd l (i : Int)) % 2147483647 := by
        rw [wrapIn (x := s * 71) (by omega) (by omega), wrapIn (x := rd l (i : Int)) (by omega) (by omega), wrapIn (by omega) (by omega), Int.tmod_eq_emod_of_nonneg (by omega)]
      obtain ⟨r, hr1, hr2, hr3⟩ := ih (i + 1) ((s * 71 + rd l (i : Int)) % 2147483647) (by omega) (by omega) (by omega)
      refine ⟨r, evSucc ?_, hr2, hr3⟩
      simp only [spec_l01From.l0, show (i : Int) < (l.length : Int) by omega, h64, show (0 : Int) ≤ (i : Int) by omega, if_true, he, wrapNat (show i < 4611686018427387904 by omega)]
      exact hr1
    · refine ⟨s, evSucc ?_, h0, h1⟩
      simp only [spec_l01From.l0, show (i : Int) < (l.length : Int) by omega, h64, if_true, if_false]
      exact Ev.now _
theorem from_ok (l : List Int) (hw : ∀ x ∈ l, (Lit.int .u8 x).wf = true) (hl : l.length ≤ 4096) : ∃ s, Ev (fun k => spec_l01From.f k l) (l, 0, s) ∧ OkS l 0 s := by
  have hb : ∀ x ∈ l, 0 ≤ x ∧ x ≤ 255 := fun x hx => by
    have := hw x hx
    simp [Lit.wf, IntKind.min, IntKind.max, IntKind.signed, IntKind.bits] at this
    omega
  obtain ⟨r, h1, h2, h3⟩ := from_loop l hb hl l.length 0 88007 (by omega) (by omega) (by omega)
  refine ⟨r, ?_, ⟨hb, hl, by omega, by omega, h2, h3⟩⟩
  unfold spec_l01From.f
  exact h1

theorem pick_ok {l : List Int} {a s : Int} (h : OkS l a s) (xs : List Int) (h0 : 0 < xs.length) :
    ∃ r a' s', spec_l01Pick.f l a s xs = some (r, a', s') ∧ OkS l a' s' ∧ r ∈ xs := by
  obtain ⟨r, a', s', h1, h2, h3, _⟩ := next_ok h (xs.length : Int)
  obtain ⟨h4, h5⟩ := h3 (by omega)
  refine ⟨rd xs r, a', s', ?_, h2, ?_⟩
  · unfold spec_l01Pick.f
    rw [h1]
    simp only [Option.bind_some]
    rw [if_pos h4, if_pos h5]
  · unfold rd
    rw [List.getD_eq_getElem?_getD, List.getElem?_eq_getElem (show r.toNat < xs.length by omega)]
    exact List.getElem_mem _

theorem drawHoles_l0 (l : List Int) (d : Nat) : ∀ (x : List Int) (at_ a s : Int), OkS l a s → x.length + d ≤ 9 → 2 ≤ x.length + d → ∃ h a' s', Ev (fun k => spec_l16DrawHoles.l0 k x at_ (d : Int) l a s) (h, a', s') ∧ OkS l a' s' ∧ 1 ≤ h.length ∧ h.length ≤ 9 := by
  induction d with
  | zero =>
    intro x at_ a s ok h1 h2
    obtain ⟨r, a', s', e1, k1, _⟩ := next_ok ok 40
    by_cases c0 : r = 0
    · obtain ⟨r5, a5, s5, e5, k5, _⟩ := pick_ok k1 [(-1), rd x 1, 0] (by simp)
      refine ⟨x.set 0 r5, a5, s5, evSucc ?_, k5, by rw [List.length_set]; omega, by rw [List.length_set]; omega⟩
      simp only [spec_l16DrawHoles.l0, show ¬ (((0 : Nat) : Int) > 0) by decide, if_false, e1, Option.bind_some, c0, if_true, show (1 : Int) < (x.length : Int) by omega, e5, show (0 : Int) < (x.length : Int) by omega]
      exact Ev.now _
    · by_cases c1 : r = 1
      · obtain ⟨r5, a5, s5, e5, k5, _⟩ := pick_ok k1 [20000, 20001] (by decide)
        have e6 : wrap64 ((x.length : Int) - 1) = ((x.length - 1 : Nat) : Int) := wrapPred (by omega) (by omega)
        refine ⟨x.set (x.length - 1) r5, a5, s5, evSucc ?_, k5, by rw [List.length_set]; omega, by rw [List.length_set]; omega⟩
        simp only [spec_l16DrawHoles.l0, show ¬ (((0 : Nat) : Int) > 0) by decide, if_false, e1, Option.bind_some, c1, show ¬ ((1 : Int) = 0) by decide, if_true, e5, e6, show (0 : Int) ≤ ((x.length - 1 : Nat) : Int) by omega, show ((x.length - 1 : Nat) : Int) < (x.length : Int) by omega, Int.toNat_natCast]
        exact Ev.now _
      · by_cases c2 : r = 2
        · refine ⟨x.take 1, a', s', evSucc ?_, k1, by rw [List.length_take]; omega, by rw [List.length_take]; omega⟩
          simp only [spec_l16DrawHoles.l0, show ¬ (((0 : Nat) : Int) > 0) by decide, if_false, e1, Option.bind_some, c2, show ¬ ((2 : Int) = 0) by decide, show ¬ ((2 : Int) = 1) by decide, if_true, show (1 : Int) ≤ (x.length : Int) by omega]
          exact Ev.now _
        · refine ⟨x, a', s', evSucc ?_, k1, by omega, by omega⟩
          simp only [spec_l16DrawHoles.l0, show ¬ (((0 : Nat) : Int) > 0) by decide, if_false, e1, Option.bind_some, c0, c1, c2]
          exact Ev.now _
  | succ d ih =>
    intro x at_ a s ok h1 h2
    obtain ⟨r, a', s', e1, k1, _⟩ := next_ok ok 300
    obtain ⟨h, a2, s2, e2, k2⟩ := ih (x ++ [at_]) (wrap64 ((wrap64 (at_ + 1)) + r)) a' s' k1 (by rw [List.length_append, List.length_singleton]; omega) (by rw [List.length_append, List.length_singleton]; omega)
    have hd : wrap64 (((d + 1 : Nat) : Int) - 1) = (d : Int) := wrapPred (i := d + 1) (by omega) (by omega)
    refine ⟨h, a2, s2, evSucc ?_, k2⟩
    simp only [spec_l16DrawHoles.l0, show (((d + 1 : Nat) : Int) > 0) by omega, if_true, show x.length < 17592186044416 by omega, e1, Option.bind_some, hd]
    exact e2
theorem drawHoles {l : List Int} {a s : Int} (ok : OkS l a s) : ∃ h a' s', Ev (fun k => spec_l16DrawHoles.f k l a s) (h, a', s') ∧ OkS l a' s' ∧ 1 ≤ h.length ∧ h.length ≤ 9 := by
  obtain ⟨r1, a1, s1, e1, k1, _⟩ := next_ok ok 200
  obtain ⟨r2, a2, s2, e2, k2, q2, _⟩ := next_ok k1 4
  have q2 := q2 (by decide)
  obtain ⟨r3, a3, s3, e3, k3, _⟩ := next_ok k2 5
  have w1 : wrap64 (1 + r2) = 1 + r2 := wrapIn (by omega) (by omega)
  have w2 : wrap64 (2 * (1 + r2)) = ((2 * (1 + r2.toNat) : Nat) : Int) := by rw [wrapIn (by omega) (by omega)]; omega
  have w3 : wrap64 (((2 * (1 + r2.toNat) : Nat) : Int) + 1) = ((2 * (1 + r2.toNat) + 1 : Nat) : Int) := wrapNat (by omega)
  by_cases c : r3 = 0
  · obtain ⟨h, a4, s4, e4, k4⟩ := drawHoles_l0 l (2 * (1 + r2.toNat) + 1) [] r1 a3 s3 k3 (by simp; omega) (by simp; omega)
    refine ⟨h, a4, s4, ?_, k4⟩
    unfold spec_l16DrawHoles.f
    simp only [Option.bind_some, e1, e2, e3, c, if_true, w1, w2, w3]
    refine evSucc ?_
    simp only [spec_l16DrawHoles.j0]
    exact e4
  · obtain ⟨h, a4, s4, e4, k4⟩ := drawHoles_l0 l (2 * (1 + r2.toNat)) [] r1 a3 s3 k3 (by simp; omega) (by simp; omega)
    refine ⟨h, a4, s4, ?_, k4⟩
    unfold spec_l16DrawHoles.f
    simp only [Option.bind_some, e1, e2, e3, c, if_false, w1, w2]
    refine evSucc ?_
    simp only [spec_l16DrawHoles.j0]
    exact e4

theorem inS (a b c : Int) : spec_l01In.f a b c = some (decide (b ≤ a ∧ a ≤ c)) := by
  unfold spec_l01In.f
  by_cases h : b ≤ a <;> simp [h]

theorem inI (a b c : Int) : impl_inRange.f a b c = some (decide (b ≤ a ∧ a ≤ c)) := by
  unfold impl_inRange.f
  by_cases h : b ≤ a <;> simp [h]

def InAll (l : List Int) (a b : Int) : Prop := ∀ j, 0 ≤ j → j < l.length → a ≤ rd l (j : Int) ∧ rd l (j : Int) ≤ b
theorem inAll_mem {l : List Int} {a b : Int} : InAll l a b ↔ ∀ x ∈ l, a ≤ x ∧ x ≤ b := by
  constructor
  · intro h x hx
    obtain ⟨i, hi, rfl⟩ := List.mem_iff_getElem.1 hx
    have := h i (Nat.zero_le _) hi
    rwa [rdN l i hi] at this
  · intro h j _ hj
    rw [rdN l j hj]
    exact h _ (List.getElem_mem hj)
theorem allIn_all (l : List Int) (a b : Int) : (l.all fun x => decide (a ≤ x ∧ x ≤ b)) = B (InAll l a b) := by
  by_cases h : InAll l a b
  · rw [B_true h, List.all_eq_true]
    exact fun x hx => decide_eq_true (inAll_mem.1 h x hx)
  · rw [B_false h, Bool.eq_false_iff]
    intro h2
    exact h (inAll_mem.2 fun x hx => of_decide_eq_true (List.all_eq_true.1 h2 x hx))

theorem withinS (l : List Int) (m a b : Int) (h : l.length ≤ 1048576) : Ev (fun k => spec_l01Within.f k l m a b) (B (InAll l a b) && decide ((l.length : Int) ≤ m)) := by
  unfold spec_l01Within.f
  have := evAll (fun k i => spec_l01Within.l0 k l m a b i) 0 l.length (fun j => a ≤ rd l (j : Int) ∧ rd l (j : Int) ≤ b) ?_ ?_ (decide ((l.length : Int) ≤ m)) ?_ (Nat.zero_le _)
  · exact this
  · intro i h0 hi hg r hr
    refine evSucc ?_
    have e1 : (i : Int) < (l.length : Int) := by omega
    have e2 : (0 : Int) ≤ (i : Int) := by omega
    simp only [spec_l01Within.l0, inS, Option.bind_some, e1, e2, decide_eq_true hg, if_true, wrapNat (show i < 4611686018427387904 by omega)]
    exact hr
  · intro i h0 hi hg
    refine evSucc ?_
    have e1 : (i : Int) < (l.length : Int) := by omega
    have e2 : (0 : Int) ≤ (i : Int) := by omega
    simp only [spec_l01Within.l0, inS, Option.bind_some, e1, e2, decide_eq_false hg, if_true, if_false, Bool.false_eq_true]
    exact Ev.now _
  · refine evSucc ?_
    simp only [spec_l01Within.l0, Int.lt_irrefl, if_false]
    exact Ev.now _

def Rising (l : List Int) : Prop := ∀ j, 1 ≤ j → j < l.length → rd l ((j - 1 : Nat) : Int) < rd l (j : Int)
theorem risesS (l : List Int) (h : l.length ≤ 1048576) (h1 : 1 ≤ l.length) : Ev (fun k => spec_l01Rises.f k l) (B (Rising l)) := by
  unfold spec_l01Rises.f
  have := evAll (fun k i => spec_l01Rises.l0 k l i) 1 l.length (fun j => rd l ((j - 1 : Nat) : Int) < rd l (j : Int)) ?_ ?_ true ?_ h1
  · rw [Bool.and_true] at this; exact this
  · intro i h0 hi hg r hr
    refine evSucc ?_
    have e1 : (i : Int) < (l.length : Int) := by omega
    have e2 : (0 : Int) ≤ (i : Int) := by omega
    have e3 : (0 : Int) ≤ ((i - 1 : Nat) : Int) := by omega
    have e4 : ((i - 1 : Nat) : Int) < (l.length : Int) := by omega
    have e5 : ¬ (rd l (i : Int) ≤ rd l ((i - 1 : Nat) : Int)) := by omega
    simp only [spec_l01Rises.l0, wrapPred h0 (show i < 4611686018427387904 by omega), e1, e2, e3, e4, e5, if_true, if_false, wrapNat (show i < 4611686018427387904 by omega)]
    exact hr
  · intro i h0 hi hg
    refine evSucc ?_
    have e1 : (i : Int) < (l.length : Int) := by omega
    have e2 : (0 : Int) ≤ (i : Int) := by omega
    have e3 : (0 : Int) ≤ ((i - 1 : Nat) : Int) := by omega
    have e4 : ((i - 1 : Nat) : Int) < (l.length : Int) := by omega
    have e5 : rd l (i : Int) ≤ rd l ((i - 1 : Nat) : Int) := by omega
    simp only [spec_l01Rises.l0, wrapPred h0 (show i < 4611686018427387904 by omega), e1, e2, e3, e4, e5, if_true]
    exact Ev.now _
  · refine evSucc ?_
    simp only [spec_l01Rises.l0, Int.lt_irrefl, if_false]
    exact Ev.now _
theorem risesI (l : List Int) (h : l.length ≤ 1048576) (h1 : 1 ≤ l.length) : Ev (fun k => impl_AreHoles.l0 k l 1) (B (Rising l)) := by
  have := evAll (fun k i => impl_AreHoles.l0 k l i) 1 l.length (fun j => rd l ((j - 1 : Nat) : Int) < rd l (j : Int)) ?_ ?_ true ?_ h1
  · rw [Bool.and_true] at this; exact this
  · intro i h0 hi hg r hr
    refine evSucc ?_
    have e1 : (i : Int) < (l.length : Int) := by omega
    have e2 : (0 : Int) ≤ (i : Int) := by omega
    have e3 : (0 : Int) ≤ ((i - 1 : Nat) : Int) := by omega
    have e4 : ((i - 1 : Nat) : Int) < (l.length : Int) := by omega
    have e5 : ¬ (rd l ((i - 1 : Nat) : Int) ≥ rd l (i : Int)) := by omega
    simp only [impl_AreHoles.l0, wrapPred h0 (show i < 4611686018427387904 by omega), e1, e2, e3, e4, e5, if_true, if_false, wrapNat (show i < 4611686018427387904 by omega)]
    exact hr
  · intro i h0 hi hg
    refine evSucc ?_
    have e1 : (i : Int) < (l.length : Int) := by omega
    have e2 : (0 : Int) ≤ (i : Int) := by omega
    have e3 : (0 : Int) ≤ ((i - 1 : Nat) : Int) := by omega
    have e4 : ((i - 1 : Nat) : Int) < (l.length : Int) := by omega
    have e5 : rd l ((i - 1 : Nat) : Int) ≥ rd l (i : Int) := by omega
    simp only [impl_AreHoles.l0, wrapPred h0 (show i < 4611686018427387904 by omega), e1, e2, e3, e4, e5, if_true]
    exact Ev.now _
  · refine evSucc ?_
    simp only [impl_AreHoles.l0, Int.lt_irrefl, if_false]
    exact Ev.now _
noncomputable def holesB (l : List Int) : Bool := B ((2 ≤ l.length ∧ l.length ≤ 12) ∧ Rising l ∧ InAll l 0 20000)
theorem holesS (l : List Int) (h : l.length ≤ 1048576) : Ev (fun k => spec_AreHoles.f k l) (holesB l) := by
  unfold spec_AreHoles.f holesB
  by_cases h2 : (l.length : Int) ≥ 2
  · simp only [h2, if_true]
    refine Ev.bind (risesS l h (by omega)) ?_
    by_cases hr : Rising l
    · simp only [B_true hr, if_true]
      refine Ev.bind (withinS l 12 0 20000 h) ?_
      have e : (B (InAll l 0 20000) && decide ((l.length : Int) ≤ 12)) = B ((2 ≤ l.length ∧ l.length ≤ 12) ∧ Rising l ∧ InAll l 0 20000) := by
        rw [← B_dec, B_and]
        exact B_congr ⟨fun h => ⟨⟨by omega, by omega⟩, hr, h.1⟩, fun h => ⟨h.2.2, by omega⟩⟩
      rw [e]
      exact Ev.now _
    · simp only [B_false hr, Bool.false_eq_true, if_false]
      rw [B_false (fun h => hr h.2.1)]
      exact Ev.now _
  · simp only [h2, if_false]
    rw [B_false (fun h => h2 (by omega))]
    exact Ev.now _
theorem holesI (l : List Int) (h : l.length ≤ 1048576) : Ev (fun k => impl_AreHoles.f k l) (holesB l) := by
  unfold impl_AreHoles.f holesB impl_length_int64.f impl_allIn.f
  simp only [inI, Option.bind_some, allIn_all, decide_eq_true_eq]
  by_cases h2 : 2 ≤ (l.length : Int) ∧ (l.length : Int) ≤ 12
  · simp only [h2, and_self, if_true]
    refine evSucc ?_
    simp only [impl_AreHoles.j0]
    by_cases hi : InAll l 0 20000
    · simp only [B_true hi, Bool.not_true, Bool.false_eq_true, if_false]
      have e : B (Rising l) = B ((2 ≤ l.length ∧ l.length ≤ 12) ∧ Rising l ∧ InAll l 0 20000) := B_congr ⟨fun h => ⟨⟨by omega, by omega⟩, h, hi⟩, fun h => h.2.1⟩
      rw [← e]
      exact risesI l h (by omega)
    · simp only [B_false hi, Bool.not_false, if_true]
      rw [B_false (fun h => hi h.2.2)]
      exact Ev.now _
  · simp only [h2, if_false]
    refine evSucc ?_
    simp only [impl_AreHoles.j0, if_true]
    rw [B_false (fun h => h2 (by omega))]
    exact Ev.now _

theorem mholes_of {l : List Int} (h : holesB l = true) : (2 ≤ l.length ∧ l.length ≤ 12) ∧ Rising l ∧ InAll l 0 20000 := B_iff.1 h
theorem down_len (l : List Int) (a : Int) (k : Nat) : (impl_MirrorHoles.mir a (impl_MirrorHoles.down l k)).length = k := by simp [impl_MirrorHoles.mir, impl_MirrorHoles.down]
theorem mir_get (l : List Int) (a : Int) (n t : Nat) (h : t < n) : rd (impl_MirrorHoles.mir a (impl_MirrorHoles.down l n)) (t : Int) = wrap64 (a - rd l ((l.length - 1 - t : Nat) : Int)) := by
  rw [rdN _ _ (by rw [down_len]; exact h)]
  simp [impl_MirrorHoles.mir, impl_MirrorHoles.down]
noncomputable def mirV (l : List Int) (a : Int) : List Int × Int := if holesB l = true then (if rd l ((l.length - 1 : Nat) : Int) ≤ a ∧ a ≤ 20000 then (impl_MirrorHoles.mir a (impl_MirrorHoles.down l l.length), 0) else ([], 2)) else ([], 2)
theorem mirI (l : List Int) (h : l.length ≤ 1048576) (a : Int) : Ev (fun k => impl_MirrorHoles.f k l a) (mirV l a) := by
  unfold impl_MirrorHoles.f mirV
  refine Ev.bind (holesI l h) ?_
  by_cases hb : holesB l = true
  · have hl := (mholes_of hb).1
    simp only [hb, if_true, show 1 ≤ l.length ∧ l.length ≤ 1048576 by omega, and_self]
    split <;> exact Ev.now _
  · simp only [hb, if_false, Bool.false_eq_true]
    exact Ev.now _
theorem mirS (l : List Int) (h : l.length ≤ 1048576) (a : Int) : Ev (fun k => spec_MirrorHoles.f k l a) (mirV l a) := by
  unfold spec_MirrorHoles.f mirV
  refine Ev.bind (holesS l h) ?_
  by_cases hb : holesB l = true
  · have hl := (mholes_of hb).1
    have e1 : wrap64 ((l.length : Int) - 1) = ((l.length - 1 : Nat) : Int) := wrapPred (by omega) (by omega)
    simp only [hb, if_true, e1, show (0 : Int) ≤ ((l.length - 1 : Nat) : Int) by omega, show ((l.length - 1 : Nat) : Int) < (l.length : Int) by omega, inS, Option.bind_some]
    refine evSucc ?_
    by_cases h2 : rd l ((l.length - 1 : Nat) : Int) ≤ a ∧ a ≤ 20000
    · simp only [spec_MirrorHoles.j0, h2, and_self, decide_true, Bool.not_true, Bool.false_eq_true, if_false, if_true, e1]
      have key : ∀ d k : Nat, k + d = l.length → Ev (fun n => spec_MirrorHoles.l0 n l a (impl_MirrorHoles.mir a (impl_MirrorHoles.down l k)) ((d : Int) - 1)) (impl_MirrorHoles.mir a (impl_MirrorHoles.down l l.length), 0) := by
        intro d
        induction d with
        | zero =>
          intro k hk
          have : k = l.length := by omega
          subst this
          refine evSucc ?_
          simp only [spec_MirrorHoles.l0, show ¬ (((0 : Nat) : Int) - 1 ≥ 0) by decide, if_false]
          exact Ev.now _
        | succ d ih =>
          intro k hk
          have := ih (k + 1) (by omega)
          refine evSucc ?_
          have e2 : ((d + 1 : Nat) : Int) - 1 = (d : Int) := by omega
          have e3 : l.length - 1 - k = d := by omega
          rw [impl_MirrorHoles.down_succ, impl_MirrorHoles.mir_snoc, e3] at this
          simp only [spec_MirrorHoles.l0, e2, show (d : Int) ≥ 0 by omega, show (0 : Int) ≤ (d : Int) by omega, show (d : Int) < (l.length : Int) by omega, down_len, show k < 17592186044416 by omega, if_true, wrapIn (x := (d : Int) - 1) (by omega) (by omega)]
          exact this
      have := key l.length 0 (Nat.zero_add _)
      rw [show (l.length : Int) - 1 = ((l.length - 1 : Nat) : Int) by omega] at this
      exact this
    · simp only [spec_MirrorHoles.j0, h2, decide_false, Bool.not_false, if_true, if_false]
      exact Ev.now _
  · simp only [hb, if_false, Bool.false_eq_true]
    refine evSucc ?_
    simp only [spec_MirrorHoles.j0, if_true]
    exact Ev.now _
theorem mir_len (l : List Int) (a : Int) : (mirV l a).1.length ≤ 1048576 := by
  unfold mirV
  split
  · rename_i hb
    have hl := (mholes_of hb).1
    split
    · simp only [down_len]; omega
    · simp
  · simp

def evenAt (h n m : Int) (k : Nat) : Int := m + Int.tdiv ((k : Int) * (h - 2 * m)) (n - 1)
def evenL (h n m : Int) (c : Nat) : List Int := (List.range c).map fun k => evenAt h n m k
theorem evenL_len (h n m : Int) (c : Nat) : (evenL h n m c).length = c := by simp [evenL]
theorem evenL_succ (h n m : Int) (c : Nat) : evenL h n m (c + 1) = evenL h n m c ++ [evenAt h n m c] := by simp [evenL, List.range_succ]
theorem evenL_get (h n m : Int) (c i : Nat) (hi : i < c) : rd (evenL h n m c) (i : Int) = evenAt h n m i := by
  rw [rdN _ _ (by rw [evenL_len]; exact hi)]
  simp [evenL]
theorem even_term {h n m : Int} (h0 : 1 ≤ h) (h1 : h ≤ 20000) (n0 : 2 ≤ n) (n1 : n ≤ 12) (m0 : 0 ≤ m) (m1 : m ≤ h) (k : Nat) (hk : (k : Int) < n) :
    wrap64 (m + (wrap64 (Int.tdiv (wrap64 ((k : Int) * (wrap64 (h - (wrap64 (2 * m)))))) (wrap64 (n - 1))))) = evenAt h n m k ∧ -20000 ≤ Int.tdiv ((k : Int) * (h - 2 * m)) (n - 1) ∧ Int.tdiv ((k : Int) * (h - 2 * m)) (n - 1) ≤ 20000 := by
  have hk0 : 0 ≤ (k : Int) := by omega
  have hk1 : (k : Int) ≤ n - 1 := by omega
  have b1 : (k : Int) * (h - 2 * m) ≤ (n - 1) * 20000 := by
    have := Int.mul_le_mul_of_nonneg_left (show h - 2 * m ≤ 20000 by omega) hk0
    have := Int.mul_le_mul_of_nonneg_right hk1 (show (0 : Int) ≤ 20000 by decide)
    omega
  have b2 : -((n - 1) * 20000) ≤ (k : Int) * (h - 2 * m) := by
    have := Int.mul_le_mul_of_nonneg_left (show -20000 ≤ h - 2 * m by omega) hk0
    have := Int.mul_le_mul_of_nonneg_right hk1 (show (0 : Int) ≤ 20000 by decide)
    omega
  have q1 : Int.tdiv ((k : Int) * (h - 2 * m)) (n - 1) ≤ 20000 := by
    rcases Int.lt_or_le ((k : Int) * (h - 2 * m)) 0 with hneg | hpos
    · have e : (k : Int) * (h - 2 * m) = -(-((k : Int) * (h - 2 * m))) := by omega
      rw [e, Int.neg_tdiv, Int.tdiv_eq_ediv_of_nonneg (by omega)]
      have := Int.ediv_nonneg (show 0 ≤ -((k : Int) * (h - 2 * m)) by omega) (show 0 ≤ n - 1 by omega)
      omega
    · rw [Int.tdiv_eq_ediv_of_nonneg hpos]
      exact Int.ediv_le_of_le_mul (by omega) (by omega)
  have q2 : -20000 ≤ Int.tdiv ((k : Int) * (h - 2 * m)) (n - 1) := by
    rcases Int.lt_or_le ((k : Int) * (h - 2 * m)) 0 with hneg | hpos
    · have e : (k : Int) * (h - 2 * m) = -(-((k : Int) * (h - 2 * m))) := by omega
      rw [e, Int.neg_tdiv, Int.tdiv_eq_ediv_of_nonneg (by omega)]
      have : (-((k : Int) * (h - 2 * m))) / (n - 1) ≤ 20000 := Int.ediv_le_of_le_mul (by omega) (by omega)
      omega
    · rw [Int.tdiv_eq_ediv_of_nonneg hpos]
      have := Int.ediv_nonneg hpos (show 0 ≤ n - 1 by omega)
      omega
  refine ⟨?_, q2, q1⟩
  have hn : (n - 1) * 20000 ≤ 220000 := by omega
  rw [wrapIn (x := 2 * m) (by omega) (by omega), wrapIn (x := h - 2 * m) (by omega) (by omega), wrapIn (x := (k : Int) * (h - 2 * m)) (by omega) (by omega), wrapIn (x := n - 1) (by omega) (by omega), wrapIn (x := Int.tdiv _ _) (by omega) (by omega)]
  unfold evenAt
  rw [wrapIn (by omega) (by omega)]
noncomputable def evenV (h n m : Int) : List Int × Int := if (1 ≤ h ∧ h ≤ 20000) ∧ (2 ≤ n ∧ n ≤ 12) ∧ (0 ≤ m ∧ m ≤ h) then (if holesB (evenL h n m n.toNat) = true then (evenL h n m n.toNat, 0) else ([], 5)) else ([], 2)
theorem even_not {h n m : Int} (h0 : 1 ≤ h) (h1 : h ≤ 20000) (n0 : 2 ≤ n) (n1 : n ≤ 12) (hm : 2 * m > h) : holesB (evenL h n m n.toNat) = false := by
  refine B_false fun ⟨_, hr, _⟩ => ?_
  have := hr 1 (Nat.le_refl _) (by rw [evenL_len]; omega)
  rw [evenL_get _ _ _ _ _ (by omega), evenL_get _ _ _ _ _ (by omega)] at this
  unfold evenAt at this
  have e : ((1 : Nat) : Int) * (h - 2 * m) = -(2 * m - h) := by omega
  have e0 : ((1 - 1 : Nat) : Int) * (h - 2 * m) = 0 := by simp
  rw [e, e0, Int.neg_tdiv, Int.zero_tdiv, Int.tdiv_eq_ediv_of_nonneg (by omega)] at this
  have := Int.ediv_nonneg (show 0 ≤ 2 * m - h by omega) (show 0 ≤ n - 1 by omega)
  omega
theorem evenS (h n m : Int) : Ev (fun k => spec_EvenHoles.f k h n m) (evenV h n m) := by
  unfold spec_EvenHoles.f evenV
  simp only [inS, Option.bind_some, decide_eq_true_eq]
  by_cases hh : 1 ≤ h ∧ h ≤ 20000
  · by_cases hn : 2 ≤ n ∧ n ≤ 12
    · simp only [hh, hn, and_self, true_and, if_true]
      refine evSucc ?_
      simp only [spec_EvenHoles.j0]
      by_cases hm : 0 ≤ m ∧ m ≤ h
      · simp only [hm, and_self, decide_true, Bool.not_true, Bool.false_eq_true, if_false, if_true, wrapIn (show -9223372036854775808 ≤ 2 * m by omega) (show 2 * m ≤ 9223372036854775807 by omega)]
        by_cases h2 : 2 * m > h
        · simp only [h2, if_true, even_not hh.1 hh.2 hn.1 hn.2 h2, Bool.false_eq_true, if_false]
          exact Ev.now _
        · simp only [h2, if_false]
          obtain ⟨c, rfl⟩ := Int.eq_ofNat_of_zero_le (show 0 ≤ n by omega)
          have := evCount (fun k (s : List Int) i => spec_EvenHoles.l0 k h (c : Int) m s i) 0 c (fun i => evenL h (c : Int) m i) (if holesB (evenL h c m c) = true then (evenL h c m c, 0) else ([], 5)) ?_ ?_ (Nat.zero_le _)
          · simpa [evenL] using this
          · intro i _ hi hr
            refine evSucc ?_
            have ht := (even_term hh.1 hh.2 hn.1 hn.2 hm.1 hm.2 i (by omega)).1
            simp only [spec_EvenHoles.l0, show (i : Int) < (c : Int) by omega, wrapIn (show -9223372036854775808 ≤ (c : Int) - 1 by omega) (show (c : Int) - 1 ≤ 9223372036854775807 by omega), show ¬ ((c : Int) - 1 = 0) by omega, evenL_len, show i < 17592186044416 by omega, if_true, if_false, wrapNat (show i < 4611686018427387904 by omega)]
            rw [wrapIn (x := (c : Int) - 1) (by omega) (by omega)] at ht
            rw [ht]
            rw [evenL_succ] at hr
            exact hr
          · refine evSucc ?_
            simp only [spec_EvenHoles.l0, Int.lt_irrefl, if_false]
            refine Ev.bind (holesS _ (by rw [evenL_len]; omega)) ?_
            cases holesB (evenL h (c : Int) m c)
            · exact Ev.now _
            · exact Ev.now _
      · simp only [hm, decide_false, Bool.not_false, if_true, if_false]
        exact Ev.now _
    · simp only [hh, hn, and_self, true_and, false_and, if_true, if_false]
      refine evSucc ?_
      simp only [spec_EvenHoles.j0, if_true]
      exact Ev.now _
  · simp only [hh, false_and, if_false]
    refine evSucc ?_
    simp only [spec_EvenHoles.j0, if_true]
    exact Ev.now _
theorem evenI (h n m : Int) : Ev (fun k => impl_EvenHoles.f k h n m) (evenV h n m) := by
  unfold impl_EvenHoles.f evenV
  simp only [inI, Option.bind_some, decide_eq_true_eq]
  by_cases hh : 1 ≤ h ∧ h ≤ 20000
  · by_cases hn : 2 ≤ n ∧ n ≤ 12
    · simp only [hh, hn, and_self, true_and, if_true]
      refine evSucc ?_
      simp only [impl_EvenHoles.j0]
      by_cases hm : 0 ≤ m ∧ m ≤ h
      · simp only [hm, and_self, decide_true, Bool.not_true, Bool.false_eq_true, if_false, if_true]
        obtain ⟨c, rfl⟩ := Int.eq_ofNat_of_zero_le (show 0 ≤ n by omega)
        have := evCount (fun k (s : List Int) i => impl_EvenHoles.l0 k h (c : Int) m s (c : Int) i) 0 c (fun i => evenL h (c : Int) m i) (if holesB (evenL h c m c) = true then (evenL h c m c, 0) else ([], 5)) ?_ ?_ (Nat.zero_le _)
        · simpa [evenL] using this
        · intro i _ hi hr
          refine evSucc ?_
          have ht := (even_term hh.1 hh.2 hn.1 hn.2 hm.1 hm.2 i (by omega)).1
          simp only [impl_EvenHoles.l0, show (i : Int) < (c : Int) by omega, wrapIn (show -9223372036854775808 ≤ (c : Int) - 1 by omega) (show (c : Int) - 1 ≤ 9223372036854775807 by omega), show ¬ ((c : Int) - 1 = 0) by omega, evenL_len, show i < 17592186044416 by omega, if_true, if_false, wrapNat (show i < 4611686018427387904 by omega)]
          rw [wrapIn (x := (c : Int) - 1) (by omega) (by omega)] at ht
          rw [ht]
          rw [evenL_succ] at hr
          exact hr
        · refine evSucc ?_
          simp only [impl_EvenHoles.l0, Int.lt_irrefl, if_false]
          refine Ev.bind (holesI _ (by rw [evenL_len]; omega)) ?_
          cases holesB (evenL h (c : Int) m c)
          · exact Ev.now _
          · exact Ev.now _
      · simp only [hm, decide_false, Bool.not_false, if_true, if_false]
        exact Ev.now _
    · simp only [hh, hn, and_self, true_and, false_and, if_true, if_false]
      refine evSucc ?_
      simp only [impl_EvenHoles.j0, if_true]
      exact Ev.now _
  · simp only [hh, false_and, if_false]
    refine evSucc ?_
    simp only [impl_EvenHoles.j0, if_true]
    exact Ev.now _
theorem even_len (h n m : Int) : (evenV h n m).1.length ≤ 1048576 := by
  unfold evenV
  split
  · rename_i hc
    split
    · simp only [evenL_len]; omega
    · simp
  · simp

def inside (l : List Int) : Nat → Int
  | 0 => 0
  | p + 1 => inside l p + (rd l ((2 * p + 1 : Nat) : Int) - rd l ((2 * p : Nat) : Int))
theorem holes_of {l : List Int} (h : holesB l = true) : (2 ≤ l.length ∧ l.length ≤ 12) ∧ Rising l ∧ InAll l 0 20000 := B_iff.1 h
theorem inside_bd {l : List Int} (h : InAll l 0 20000) (p : Nat) (hp : 2 * p ≤ l.length) : -(20000 * p : Int) ≤ inside l p ∧ inside l p ≤ 20000 * p := by
  induction p with
  | zero => simp [inside]
  | succ p ih =>
    have h1 := ih (by omega)
    have h2 := h (2 * p + 1) (by omega) (by omega)
    have h3 := h (2 * p) (by omega) (by omega)
    simp only [inside]
    omega
def insideV (l : List Int) (b : Bool) : Int × Int := if b = true then (if (l.length : Int) % 2 = 1 then (0, 5) else (inside l (l.length / 2), 0)) else (0, 2)
theorem insideS (l : List Int) (h : l.length ≤ 1048576) : Ev (fun k => spec_InsideLength.f k l) (insideV l (holesB l)) := by
  unfold spec_InsideLength.f insideV
  refine Ev.bind (holesS l h) ?_
  cases hb : holesB l
  · simp only [Bool.false_eq_true, if_false]
    exact Ev.now _
  simp only [if_true]
  obtain ⟨hl, _, hi⟩ := holes_of hb
  by_cases ho : (l.length : Int) % 2 = 1
  · simp only [ho, if_true]
    exact Ev.now _
  simp only [ho, if_false]
  have := evCount (fun k (s : Int) i => spec_InsideLength.l0 k l s (2 * i)) 0 (l.length / 2) (fun p => inside l p) (inside l (l.length / 2), 0) ?_ ?_ (Nat.zero_le _)
  · simpa [inside] using this
  · intro p _ hp hr
    refine evSucc ?_
    have hb := inside_bd hi p (by omega)
    have h2 := hi (2 * p + 1) (by omega) (by omega)
    have h3 := hi (2 * p) (by omega) (by omega)
    have e1 : wrap64 (2 * (p : Int) + 1) = ((2 * p + 1 : Nat) : Int) := by rw [wrapIn (by omega) (by omega)]; omega
    have e2 : wrap64 (2 * (p : Int) + 2) = 2 * ((p + 1 : Nat) : Int) := by rw [wrapIn (by omega) (by omega)]; omega
    have e3 : 2 * (p : Int) = ((2 * p : Nat) : Int) := by omega
    have e4 : wrap64 ((wrap64 (inside l p + (rd l ((2 * p + 1 : Nat) : Int)))) - (rd l ((2 * p : Nat) : Int))) = inside l (p + 1) := by
      rw [wrapIn (x := inside l p + _) (by omega) (by omega), wrapIn (by omega) (by omega)]
      simp only [inside]
      omega
    simp only [spec_InsideLength.l0, e1, e2]
    rw [e3]
    simp only [show ((2 * p : Nat) : Int) < (l.length : Int) by omega, show (0 : Int) ≤ ((2 * p + 1 : Nat) : Int) by omega, show ((2 * p + 1 : Nat) : Int) < (l.length : Int) by omega, show (0 : Int) ≤ ((2 * p : Nat) : Int) by omega, if_true, e4]
    exact hr
  · refine evSucc ?_
    simp only [spec_InsideLength.l0, show ¬ (2 * ((l.length / 2 : Nat) : Int) < (l.length : Int)) by omega, if_false]
    exact Ev.now _
theorem insideI (l : List Int) (h : l.length ≤ 1048576) : Ev (fun k => impl_InsideLength.f k l) (insideV l (holesB l)) := by
  unfold impl_InsideLength.f insideV
  refine Ev.bind (holesI l h) ?_
  cases hb : holesB l
  · simp only [Bool.false_eq_true, if_false]
    exact Ev.now _
  simp only [if_true]
  obtain ⟨hl, _, hi⟩ := holes_of hb
  by_cases ho : (l.length : Int) % 2 = 1
  · simp only [ho, if_true]
    exact Ev.now _
  simp only [ho, if_false]
  have := evCount (fun k (s : Int) i => impl_InsideLength.l0 k l s (2 * i)) 0 (l.length / 2) (fun p => inside l p) (inside l (l.length / 2), 0) ?_ ?_ (Nat.zero_le _)
  · simpa [inside] using this
  · intro p _ hp hr
    refine evSucc ?_
    have hb := inside_bd hi p (by omega)
    have h2 := hi (2 * p + 1) (by omega) (by omega)
    have h3 := hi (2 * p) (by omega) (by omega)
    have e1 : wrap64 (2 * (p : Int) + 1) = ((2 * p + 1 : Nat) : Int) := by rw [wrapIn (by omega) (by omega)]; omega
    have e2 : wrap64 (2 * (p : Int) + 2) = 2 * ((p + 1 : Nat) : Int) := by rw [wrapIn (by omega) (by omega)]; omega
    have e3 : 2 * (p : Int) = ((2 * p : Nat) : Int) := by omega
    have e4 : wrap64 (inside l p + (wrap64 ((rd l ((2 * p + 1 : Nat) : Int)) - (rd l ((2 * p : Nat) : Int))))) = inside l (p + 1) := by
      rw [wrapIn (x := rd l ((2 * p + 1 : Nat) : Int) - _) (by omega) (by omega), wrapIn (by omega) (by omega)]
      simp only [inside]
    simp only [impl_InsideLength.l0, e1, e2]
    rw [e3]
    simp only [show ((2 * p : Nat) : Int) < (l.length : Int) by omega, show (0 : Int) ≤ ((2 * p + 1 : Nat) : Int) by omega, show ((2 * p + 1 : Nat) : Int) < (l.length : Int) by omega, show (0 : Int) ≤ ((2 * p : Nat) : Int) by omega, if_true, e4]
    exact hr
  · refine evSucc ?_
    simp only [impl_InsideLength.l0, show ¬ (2 * ((l.length / 2 : Nat) : Int) < (l.length : Int)) by omega, if_false]
    exact Ev.now _

theorem rising_le {l : List Int} (h : Rising l) : ∀ (d i : Nat), i + d < l.length → rd l (i : Int) ≤ rd l ((i + d : Nat) : Int)
  | 0, i, _ => Int.le_refl _
  | d + 1, i, hi => by
    have h1 := rising_le h d i (by omega)
    have h2 := h (i + d + 1) (by omega) (by omega)
    rw [Nat.add_sub_cancel] at h2
    have e : ((i + (d + 1) : Nat) : Int) = ((i + d + 1 : Nat) : Int) := by omega
    rw [e]
    omega
theorem mir_mir {l : List Int} {a : Int} (hb : holesB l = true) (ha : rd l ((l.length - 1 : Nat) : Int) ≤ a) (ha2 : a ≤ 20000) : mirV (impl_MirrorHoles.mir a (impl_MirrorHoles.down l l.length)) a = (l, 0) := by
  obtain ⟨hl, hr, hi⟩ := mholes_of hb
  have hlen := down_len l a l.length
  have hlast : ∀ i : Nat, i < l.length → 0 ≤ rd l (i : Int) ∧ rd l (i : Int) ≤ a := fun i h => by
    have h1 := rising_le hr (l.length - 1 - i) i (by omega)
    have h2 := hi i (by omega) (by omega)
    rw [show i + (l.length - 1 - i) = l.length - 1 by omega] at h1
    omega
  have hg : ∀ t : Nat, t < l.length → rd (impl_MirrorHoles.mir a (impl_MirrorHoles.down l l.length)) (t : Int) = a - rd l ((l.length - 1 - t : Nat) : Int) := fun t ht => by
    rw [mir_get l a l.length t ht]
    have := hlast (l.length - 1 - t) (by omega)
    exact wrapIn (by omega) (by omega)
  generalize hM : impl_MirrorHoles.mir a (impl_MirrorHoles.down l l.length) = M at hlen hg ⊢
  have hMb : holesB M = true := by
    refine B_true ⟨by omega, fun j h1 h2 => ?_, fun j h1 h2 => ?_⟩
    · rw [hg _ (by omega), hg _ (by omega)]
      have := hr (l.length - 1 - (j - 1)) (by omega) (by omega)
      rw [show l.length - 1 - (j - 1) - 1 = l.length - 1 - j by omega] at this
      omega
    · rw [hg _ (by omega)]
      have := hlast (l.length - 1 - j) (by omega)
      omega
  have hc : rd M ((M.length - 1 : Nat) : Int) ≤ a ∧ a ≤ 20000 := by
    rw [hg _ (by omega)]
    have := hlast (l.length - 1 - (M.length - 1)) (by omega)
    omega
  unfold mirV
  rw [if_pos hMb, if_pos hc]
  congr 1
  apply List.ext_getElem
  · rw [down_len, hlen]
  · intro i h1 h2
    have e := mir_get M a M.length i (by omega)
    rw [rdN _ _ h1, hg _ (by omega)] at e
    rw [e, show l.length - 1 - (M.length - 1 - i) = i by omega, rdN _ _ h2, show a - (a - l[i]) = l[i] by omega]
    have := hi i (Nat.zero_le _) h2
    rw [rdN _ _ h2] at this
    exact wrapIn (by omega) (by omega)
theorem inside_pos {l : List Int} (hr : Rising l) : ∀ p : Nat, 1 ≤ p → 2 * p ≤ l.length → 0 < inside l p ∧ inside l p ≤ rd l ((2 * p - 1 : Nat) : Int) - rd l 0
  | 0, h, _ => absurd h (by decide)
  | 1, _, h2 => by
    have := hr 1 (by omega) (by omega)
    simp only [inside]
    rw [show ((1 - 1 : Nat) : Int) = 0 by rfl] at this
    rw [show ((2 * 0 + 1 : Nat) : Int) = ((1 : Nat) : Int) by rfl, show ((2 * 0 : Nat) : Int) = 0 by rfl, show ((2 * 1 - 1 : Nat) : Int) = ((1 : Nat) : Int) by rfl]
    omega
  | p + 2, _, h2 => by
    have ih := inside_pos hr (p + 1) (by omega) (by omega)
    have x1 := hr (2 * (p + 1) + 1) (by omega) (by omega)
    have x2 := hr (2 * (p + 1)) (by omega) (by omega)
    rw [Nat.add_sub_cancel] at x1
    have e : inside l (p + 2) = inside l (p + 1) + (rd l ((2 * (p + 1) + 1 : Nat) : Int) - rd l ((2 * (p + 1) : Nat) : Int)) := rfl
    rw [e, show 2 * (p + 2) - 1 = 2 * (p + 1) + 1 by omega]
    omega
theorem even_first {h n m : Int} (c : Nat) (hc : 1 ≤ c) : rd (evenL h n m c) 0 = m := by
  have := evenL_get h n m c 0 (by omega)
  rw [show ((0 : Nat) : Int) = 0 by rfl] at this
  rw [this]
  simp [evenAt]
theorem even_last {h n m : Int} (hn : 2 ≤ n) : rd (evenL h n m n.toNat) ((n.toNat - 1 : Nat) : Int) = h - m := by
  rw [evenL_get _ _ _ _ _ (by omega)]
  unfold evenAt
  rw [show ((n.toNat - 1 : Nat) : Int) = n - 1 by omega, Int.mul_tdiv_cancel_left _ (by omega)]
  omega

/-- A loop that leaves at the first place where G fails; what comes after it counts only where none failed. -/
theorem evAllC (F : Nat → Int → Option Bool) (i0 n : Nat) (G : Nat → Prop)
    (hstep : ∀ i, i0 ≤ i → i < n → G i → ∀ r, Ev (fun k => F k ((i + 1 : Nat) : Int)) r → Ev (fun k => F k (i : Int)) r) (hbad : ∀ i, i0 ≤ i → i < n → ¬ G i → Ev (fun k => F k (i : Int)) false) (e : Bool) (hend : (∀ j, i0 ≤ j → j < n → G j) → Ev (fun k => F k (n : Int)) e) (hle : i0 ≤ n) :
    Ev (fun k => F k (i0 : Int)) (B (∀ j, i0 ≤ j → j < n → G j) && e) := by
  have key : ∀ d i, i0 ≤ i → i + d = n → (∀ j, i0 ≤ j → j < i → G j) → Ev (fun k => F k (i : Int)) (B (∀ j, i ≤ j → j < n → G j) && e) := by
    intro d
    induction d with
    | zero =>
      intro i _ hi hp
      have h0 : i = n := by omega
      subst h0
      rw [B_true (fun j h1 h2 => absurd h2 (by omega)), Bool.true_and]
      exact hend hp
    | succ d ih =>
      intro i h0 hi hp
      by_cases hg : G i
      · have h1 : B (∀ j, i ≤ j → j < n → G j) = B (∀ j, i + 1 ≤ j → j < n → G j) := B_congr ⟨fun h j a b => h j (by omega) b, fun h j a b => by
          by_cases e : j = i
          · subst e; exact hg
          · exact h j (by omega) b⟩
        rw [h1]
        exact hstep i h0 (by omega) hg _ (ih (i + 1) (by omega) (by omega) (fun j a b => by
          by_cases e : j = i
          · subst e; exact hg
          · exact hp j a (by omega)))
      · rw [B_false (fun h => hg (h i (Nat.le_refl _) (by omega))), Bool.false_and]
        exact hbad i h0 (by omega) hg
  exact key (n - i0) i0 (Nat.le_refl _) (by omega) (fun j a b => absurd b (by omega))

theorem same_ext (x y : List Int) (hl : x.length = y.length) : B (∀ j, 0 ≤ j → j < x.length → rd x ((j : Nat) : Int) = rd y ((j : Nat) : Int)) = decide (x = y) := by
  rw [← B_dec (x = y)]
  refine B_congr ⟨fun h => List.ext_getElem hl (fun i h1 h2 => ?_), fun h => by subst h; exact fun _ _ _ => rfl⟩
  have := h i (Nat.zero_le _) h1
  rwa [rdN x i h1, rdN y i h2] at this

theorem likeI (x y : List Int) (hx : x.length ≤ 1048576) : Ev (fun k => laws_likeInts.f k x y) (decide (x = y)) := by
  unfold laws_likeInts.f
  by_cases hl : x.length = y.length
  · simp only [show ((x.length : Int) = (y.length : Int)) by omega, if_true]
    have := evAllC (fun k j => laws_likeInts.l0 k x y j) 0 x.length (fun j => rd x (j : Int) = rd y (j : Int)) ?_ ?_ true ?_ (Nat.zero_le _)
    · rw [same_ext x y hl, Bool.and_true] at this
      exact this
    · intro j _ hj hg r hr
      refine evSucc ?_
      simp only [laws_likeInts.l0, show (j : Int) < (y.length : Int) by omega, show (j : Int) < (x.length : Int) by omega, show (0 : Int) ≤ (j : Int) by omega, if_true, hg, wrapNat (show j < 4611686018427387904 by omega)]
      exact hr
    · intro j _ hj hg
      refine evSucc ?_
      simp only [laws_likeInts.l0, show (j : Int) < (y.length : Int) by omega, show (j : Int) < (x.length : Int) by omega, show (0 : Int) ≤ (j : Int) by omega, if_true, hg, if_false]
      exact Ev.now _
    · intro _
      refine evSucc ?_
      simp only [laws_likeInts.l0, hl, Int.lt_irrefl, if_false]
      exact Ev.now _
  · simp only [show ¬ ((x.length : Int) = (y.length : Int)) by omega, if_false]
    rw [decide_eq_false (fun h => hl (by rw [h]))]
    exact Ev.now _

theorem drawM (l : List Int) (hw : ∀ x ∈ l, (Lit.int .u8 x).wf = true) (hl : l.length ≤ 4096) : ∃ h a, Ev (fun k => spec_DrawMirrorHoles.f k l) (h, a) ∧ h.length ≤ 9 := by
  obtain ⟨s0, e0, o0⟩ := from_ok l hw hl
  obtain ⟨h, a1, s1, e1, o1, l1, l2⟩ := drawHoles o0
  obtain ⟨r2, a2, s2, e2, o2, _⟩ := next_ok o1 200
  obtain ⟨r3, a3, s3, e3, o3, _⟩ := next_ok o2 2
  have w1 : wrap64 ((h.length : Int) - 1) = ((h.length - 1 : Nat) : Int) := wrapPred (by omega) (by omega)
  obtain ⟨r4, a4, s4, e4, o4, _⟩ := pick_ok o3 [rd h ((h.length - 1 : Nat) : Int), wrap64 ((rd h ((h.length - 1 : Nat) : Int)) + r2), wrap64 ((rd h ((h.length - 1 : Nat) : Int)) - 1), wrap64 (20000 + r3)] (by simp)
  refine ⟨h, r4, ?_, l2⟩
  unfold spec_DrawMirrorHoles.f
  refine Ev.bind e0 (Ev.bind e1 ?_)
  simp only [w1, show (0 : Int) ≤ ((h.length - 1 : Nat) : Int) by omega, show ((h.length - 1 : Nat) : Int) < (h.length : Int) by omega, if_true, e2, e3, e4, Option.bind_some]
  exact Ev.now _
theorem drawE (l : List Int) (hw : ∀ x ∈ l, (Lit.int .u8 x).wf = true) (hl : l.length ≤ 4096) : ∃ h n m, Ev (fun k => spec_DrawEvenHoles.f k l) (h, n, m) := by
  obtain ⟨s0, e0, o0⟩ := from_ok l hw hl
  obtain ⟨r1, a1, s1, e1, o1, _⟩ := next_ok o0 10
  by_cases c : r1 = 0
  · obtain ⟨r2, a2, s2, e2, o2, _⟩ := pick_ok o1 [0, 1, 20000, 20001] (by decide)
    obtain ⟨r3, a3, s3, e3, o3, _⟩ := pick_ok o2 [1, 2, 12, 13] (by decide)
    obtain ⟨r4, a4, s4, e4, o4, _⟩ := pick_ok o3 [(-1), 0, 1] (by decide)
    refine ⟨r2, r3, r4, ?_⟩
    unfold spec_DrawEvenHoles.f
    refine Ev.bind e0 ?_
    simp only [e1, Option.bind_some, c, if_true, e2, e3, e4]
    exact Ev.now _
  · obtain ⟨r2, a2, s2, e2, o2, _⟩ := next_ok o1 3000
    obtain ⟨r3, a3, s3, e3, o3, _⟩ := next_ok o2 8
    obtain ⟨r4, a4, s4, e4, o4, m4⟩ := pick_ok o3 [2, 3, 1] (by decide)
    have n4 : ¬ r4 = 0 := by
      simp only [List.mem_cons, List.not_mem_nil, or_false] at m4
      omega
    obtain ⟨r5, a5, s5, e5, o5, _⟩ := next_ok o4 (wrap64 ((wrap64 (Int.tdiv (wrap64 (1 + r2)) r4)) + 2))
    refine ⟨wrap64 (1 + r2), wrap64 (2 + r3), r5, ?_⟩
    unfold spec_DrawEvenHoles.f
    refine Ev.bind e0 ?_
    simp only [e1, Option.bind_some, c, if_false, e2, e3, e4, n4, e5]
    exact Ev.now _
theorem drawI (l : List Int) (hw : ∀ x ∈ l, (Lit.int .u8 x).wf = true) (hl : l.length ≤ 4096) : ∃ h, Ev (fun k => spec_DrawInsideLength.f k l) h ∧ h.length ≤ 9 := by
  obtain ⟨s0, e0, o0⟩ := from_ok l hw hl
  obtain ⟨h, a1, s1, e1, o1, l1, l2⟩ := drawHoles o0
  refine ⟨h, ?_, l2⟩
  unfold spec_DrawInsideLength.f
  exact Ev.bind e0 (Ev.bind e1 (Ev.now _))
theorem FnHoles : laws_FnHoles.Pure := by
  intro l _ _ hw
  refine Ev.rounds ?_
  unfold laws_FnHoles.f laws_big.f
  simp only [Option.bind_some]
  by_cases hb : (l.length : Int) > 4096
  · simp only [hb, decide_true, if_true]
    exact Ev.now _
  · simp only [hb, decide_false, Bool.false_eq_true, if_false]
    have hl : l.length ≤ 4096 := by omega
    obtain ⟨h, a, h0, l0⟩ := drawM l hw hl
    obtain ⟨g, n, m, h1⟩ := drawE l hw hl
    obtain ⟨x, h2, l2⟩ := drawI l hw hl
    have hml := mir_len h a
    have hel := even_len g n m
    refine Ev.bind h0 (Ev.bind (mirI h (by omega) a) (Ev.bind (mirS h (by omega) a) (Ev.bind h1 (Ev.bind (evenI g n m) (Ev.bind (evenS g n m) (Ev.bind h2 (Ev.bind (insideI x (by omega)) (Ev.bind (insideS x (by omega)) ?_))))))))
    simp only [if_true]
    refine Ev.bind (likeI _ _ hml) ?_
    simp only [decide_true, if_true]
    refine Ev.bind (likeI _ _ hel) ?_
    simp only [decide_true, if_true]
    refine Ev.bind (holesI x (by omega)) (Ev.bind (holesS x (by omega)) ?_)
    simp only [bne_self_eq_false]
    refine evSucc ?_
    have tail2 : Ev (fun k => laws_FnHoles.j2 k h a (mirV h a).1 (mirV h a).2 false) true := by
      refine evSucc ?_
      simp only [laws_FnHoles.j2, Bool.false_eq_true, if_false]
      by_cases hc : holesB h = true ∧ (rd h ((h.length - 1 : Nat) : Int) ≤ a ∧ a ≤ 20000)
      · have e : mirV h a = (impl_MirrorHoles.mir a (impl_MirrorHoles.down h h.length), 0) := by
          unfold mirV
          rw [if_pos hc.1, if_pos hc.2]
        have e2 := mirI (impl_MirrorHoles.mir a (impl_MirrorHoles.down h h.length)) (by rw [down_len]; omega) a
        rw [mir_mir hc.1 hc.2.1 hc.2.2] at e2
        rw [e]
        simp only [if_true]
        refine Ev.bind e2 ?_
        simp only [if_true]
        refine Ev.bind (likeI _ _ (by omega)) ?_
        simp only [decide_true]
        exact Ev.now _
      · have e : (mirV h a).2 = 2 := by
          unfold mirV
          by_cases c1 : holesB h = true
          · rw [if_pos c1, if_neg (fun c2 => hc ⟨c1, c2⟩)]
          · rw [if_neg c1]
        simp only [e, show ¬ ((2 : Int) = 0) by decide, if_false]
        exact Ev.now _
    have tail1 : Ev (fun k => laws_FnHoles.j1 k h a (mirV h a).1 (mirV h a).2 x (insideV x (holesB x)).1 (insideV x (holesB x)).2 false) true := by
      refine evSucc ?_
      simp only [laws_FnHoles.j1, Bool.false_eq_true, if_false]
      unfold insideV
      by_cases c1 : holesB x = true
      · obtain ⟨xl, xr, xi⟩ := holes_of c1
        by_cases c2 : (x.length : Int) % 2 = 1
        · simp only [c1, c2, if_true, show ¬ ((5 : Int) = 0) by decide, if_false]
          exact tail2
        · have hp := inside_pos xr (x.length / 2) (by omega) (by omega)
          rw [show 2 * (x.length / 2) - 1 = x.length - 1 by omega] at hp
          have w1 : wrap64 ((x.length : Int) - 1) = ((x.length - 1 : Nat) : Int) := wrapPred (by omega) (by omega)
          have b1 := xi (x.length - 1) (by omega) (by omega)
          have b0 := xi 0 (by omega) (by omega)
          rw [show ((0 : Nat) : Int) = 0 by rfl] at b0
          simp only [c1, c2, if_true, if_false, show ¬ (inside x (x.length / 2) ≤ 0) by omega, w1, show (0 : Int) ≤ ((x.length - 1 : Nat) : Int) by omega, show ((x.length - 1 : Nat) : Int) < (x.length : Int) by omega, show (0 : Int) < (x.length : Int) by omega,
            wrapIn (x := rd x ((x.length - 1 : Nat) : Int) - rd x 0) (by omega) (by omega), show ¬ (inside x (x.length / 2) > rd x ((x.length - 1 : Nat) : Int) - rd x 0) by omega, decide_false]
          exact tail2
      · simp only [c1, Bool.false_eq_true, if_false, show ¬ ((2 : Int) = 0) by decide]
        exact tail2
    simp only [laws_FnHoles.j0, Bool.false_eq_true, if_false]
    by_cases he : (evenV g n m).2 = 0
    · have hE : ((1 ≤ g ∧ g ≤ 20000) ∧ (2 ≤ n ∧ n ≤ 12) ∧ (0 ≤ m ∧ m ≤ g)) ∧ holesB (evenL g n m n.toNat) = true := by
        unfold evenV at he
        by_cases c1 : (1 ≤ g ∧ g ≤ 20000) ∧ (2 ≤ n ∧ n ≤ 12) ∧ (0 ≤ m ∧ m ≤ g)
        · rw [if_pos c1] at he
          by_cases c2 : holesB (evenL g n m n.toNat) = true
          · exact ⟨c1, c2⟩
          · rw [if_neg c2] at he
            exact absurd he (by decide)
        · rw [if_neg c1] at he
          exact absurd he (by decide)
      have e : evenV g n m = (evenL g n m n.toNat, 0) := by
        unfold evenV
        rw [if_pos hE.1, if_pos hE.2]
      have f1 := even_first (h := g) (n := n) (m := m) n.toNat (by omega)
      have f2 := even_last (h := g) (n := n) (m := m) (by omega)
      have w1 : wrap64 ((n.toNat : Int) - 1) = ((n.toNat - 1 : Nat) : Int) := wrapPred (by omega) (by omega)
      have hh := holesI (evenL g n m n.toNat) (by rw [evenL_len]; omega)
      rw [hE.2] at hh
      rw [e]
      simp only [if_true, evenL_len, show (0 : Int) < (n.toNat : Int) by omega, f1, w1, show (0 : Int) ≤ ((n.toNat - 1 : Nat) : Int) by omega, show ((n.toNat - 1 : Nat) : Int) < (n.toNat : Int) by omega, f2, wrapIn (x := g - m) (by omega) (by omega)]
      refine Ev.bind hh ?_
      simp only [Bool.not_true]
      exact tail1
    · simp only [he, if_false]
      exact tail1

end Go.Proofs.Ytdelnmbfokipoaa.Pure
