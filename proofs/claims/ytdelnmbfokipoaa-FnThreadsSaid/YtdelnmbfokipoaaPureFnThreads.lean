/- For every string of at most 4096 bytes the drawn paths make the program and the reference agree on plain paths, thread paths and their lengths; the plain path is a thread path, and it is as long as its sections and links. -/
import Derived.Test.YtdelnmbfokipoaaSayFnThreads
namespace Go.Proofs.Ytdelnmbfokipoaa.Pure
open Go.RowKit Go.Proofs.Ytdelnmbfokipoaa.PFnThreads Go.Proofs.YtdelnmbfokipoaaW.PrintWords Go.Proofs.YtdelnmbfokipoaaW.PrintLast
set_option linter.unusedVariables false
set_option linter.unusedSimpArgs false
-- BEGIN
/-- A proposition as a bool. -/
noncomputable def B (p : Prop) : Bool := @decide p (Classical.propDecidable p)
theorem B_iff {p : Prop} : B p = true ↔ p := by unfold B; exact @decide_eq_true_iff p (Classical.propDecidable p)
theorem B_true {p : Prop} (h : p) : B p = true := B_iff.2 h
theorem B_false {p : Prop} (h : ¬ p) : B p = false := by cases e : B p with | false => rfl | true => exact absurd (B_iff.1 e) h
theorem B_congr {p q : Prop} (h : p ↔ q) : B p = B q := by rw [propext h]
theorem B_dec (p : Prop) [Decidable p] : B p = decide p := by by_cases h : p <;> simp [h, B_true, B_false]
theorem B_and (p q : Prop) : (B p && B q) = B (p ∧ q) := by
  by_cases hp : p <;> by_cases hq : q <;> simp [B_true, B_false, hp, hq]
theorem B_not (p : Prop) : (!B p) = B (¬ p) := by by_cases hp : p <;> simp [B_true, B_false, hp]
theorem evSucc {α : Type} {g : Nat → Option α} {r : α} (h : Ev (fun k => g (k + 1)) r) : Ev g r := Ev.step (fun _ => rfl) h
theorem evNow {α : Type} {g : Nat → Option α} {r : α} (h : ∀ k, g k = some r) : Ev g r := ⟨0, fun k _ => h k⟩
theorem evCount {σ α : Type} (F : Nat → σ → Int → Option α) (i0 n : Nat) (S : Nat → σ) (r : α)
    (hstep : ∀ i, i0 ≤ i → i < n → Ev (fun k => F k (S (i + 1)) ((i + 1 : Nat) : Int)) r → Ev (fun k => F k (S i) (i : Int)) r) (hend : Ev (fun k => F k (S n) (n : Int)) r) (hle : i0 ≤ n) : Ev (fun k => F k (S i0) (i0 : Int)) r := by
  have key : ∀ d i, i0 ≤ i → i + d = n → Ev (fun k => F k (S i) (i : Int)) r := by
    intro d
    induction d with
    | zero =>
      intro i _ hi
      have h0 : i = n := by omega
      subst h0
      exact hend
    | succ d ih => intro i h0 hi; exact hstep i h0 (by omega) (ih (i + 1) (by omega) (by omega))
  exact key (n - i0) i0 (Nat.le_refl _) (by omega)
/-- A loop that leaves at the first place where G fails. -/
theorem evAll (F : Nat → Int → Option Bool) (i0 n : Nat) (G : Nat → Prop)
    (hstep : ∀ i, i0 ≤ i → i < n → G i → ∀ r, Ev (fun k => F k ((i + 1 : Nat) : Int)) r → Ev (fun k => F k (i : Int)) r) (hbad : ∀ i, i0 ≤ i → i < n → ¬ G i → Ev (fun k => F k (i : Int)) false) (e : Bool) (hend : Ev (fun k => F k (n : Int)) e) (hle : i0 ≤ n) :
    Ev (fun k => F k (i0 : Int)) (B (∀ j, i0 ≤ j → j < n → G j) && e) := by
  have key : ∀ d i, i0 ≤ i → i + d = n → Ev (fun k => F k (i : Int)) (B (∀ j, i ≤ j → j < n → G j) && e) := by
    intro d
    induction d with
    | zero =>
      intro i _ hi
      have h0 : i = n := by omega
      subst h0
      rw [B_true (fun j h1 h2 => absurd h2 (by omega)), Bool.true_and]
      exact hend
    | succ d ih =>
      intro i h0 hi
      by_cases hg : G i
      · have h1 : B (∀ j, i ≤ j → j < n → G j) = B (∀ j, i + 1 ≤ j → j < n → G j) := B_congr ⟨fun h j a b => h j (by omega) b, fun h j a b => by
          by_cases e : j = i
          · subst e; exact hg
          · exact h j (by omega) b⟩
        rw [h1]
        exact hstep i h0 (by omega) hg _ (ih (i + 1) (by omega) (by omega))
      · rw [B_false (fun h => hg (h i (Nat.le_refl _) (by omega))), Bool.false_and]
        exact hbad i h0 (by omega) hg
  exact key (n - i0) i0 (Nat.le_refl _) (by omega)
theorem wrapNat {i : Nat} (h : i < 4611686018427387904) : wrap64 ((i : Int) + 1) = ((i + 1 : Nat) : Int) := by
  unfold wrap64; omega
theorem wrapPred {i : Nat} (h0 : 1 ≤ i) (h : i < 4611686018427387904) : wrap64 ((i : Int) - 1) = ((i - 1 : Nat) : Int) := by
  unfold wrap64; omega
theorem rdN (xs : List Int) (i : Nat) (h : i < xs.length) : rd xs (i : Int) = xs[i] := by
  simp [rd, List.getD_eq_getElem?_getD, List.getElem?_eq_getElem h]
theorem fillStep {α : Type} (xs : List α) (z : α) (i : Nat) (h : i < xs.length) : (xs.take i ++ List.replicate (xs.length - i) z).set i xs[i] = xs.take (i + 1) ++ List.replicate (xs.length - (i + 1)) z := by
  have h1 : xs.length - i = (xs.length - (i + 1)) + 1 := by omega
  rw [h1, List.replicate_succ, List.set_append_right _ _ (by rw [List.length_take]; omega)]
  rw [List.length_take, Nat.min_eq_left (by omega), Nat.sub_self, List.set_cons_zero, List.take_succ_eq_append_getElem h, List.append_assoc]
  rfl
theorem fillLen {α : Type} (xs : List α) (z : α) (i : Nat) (h : i ≤ xs.length) : (xs.take i ++ List.replicate (xs.length - i) z).length = xs.length := by
  simp; omega

theorem wrapIn {x : Int} (h0 : -9223372036854775808 ≤ x) (h1 : x ≤ 9223372036854775807) : wrap64 x = x := by
  unfold wrap64; omega

structure OkS (l : List Int) (a s : Int) : Prop where
  bytes : ∀ x ∈ l, 0 ≤ x ∧ x ≤ 255
  len : l.length ≤ 4096
  a0 : 0 ≤ a
  a1 : a ≤ l.length
  s0 : 0 ≤ s
  s1 : s < 2147483647
theorem rd_byte {l : List Int} (h : ∀ x ∈ l, 0 ≤ x ∧ x ≤ 255) (i : Int) : 0 ≤ rd l i ∧ rd l i ≤ 255 := spec_l01Next.byte h i
theorem next_ok {l : List Int} {a s : Int} (h : OkS l a s) (n : Int) :
    ∃ r a' s', spec_l01Next.f l a s n = some (r, a', s') ∧ OkS l a' s' ∧ (1 ≤ n → 0 ≤ r ∧ r < n) ∧ (n ≤ 1 → r = 0) := by
  have hs := h.s0
  have hs1 := h.s1
  have ha0 := h.a0
  have ha1 := h.a1
  have hl := h.len
  have hb := rd_byte h.bytes a
  refine ⟨(spec_l01Next.V l a s n).1, (spec_l01Next.V l a s n).2.1, (spec_l01Next.V l a s n).2.2, ?_, ?_⟩
  · unfold spec_l01Next.f
    rw [if_pos ⟨h.bytes, by omega, ⟨ha0, ha1⟩, hs, hs1⟩]
  · unfold spec_l01Next.V
    have hS0 : 0 ≤ (s * 48271 + 61) % 2147483647 := by omega
    have hS1 : (s * 48271 + 61) % 2147483647 < 2147483647 := by omega
    have modr : ∀ x : Int, 1 < n → 0 ≤ x % n ∧ x % n < n := fun x hn => ⟨Int.emod_nonneg _ (by omega), Int.emod_lt_of_pos _ (by omega)⟩
    by_cases hn : n ≤ 1
    · rw [if_pos hn]
      exact ⟨h, fun _ => ⟨by simp, by simp; omega⟩, fun _ => rfl⟩
    · rw [if_neg hn]
      by_cases c1 : a < (l.length : Int)
      · rw [if_pos c1]
        have ok1 : OkS l (a + 1) ((s * 48271 + 61) % 2147483647) := ⟨h.bytes, h.len, by omega, by omega, hS0, hS1⟩
        by_cases c2 : n ≤ 256 ∧ (a + 1) % 2 = 0
        · rw [if_pos c2]
          exact ⟨ok1, fun _ => modr _ (by omega), fun h1 => absurd h1 hn⟩
        · rw [if_neg c2]
          exact ⟨ok1, fun _ => modr _ (by omega), fun h1 => absurd h1 hn⟩
      · rw [if_neg c1]
        exact ⟨⟨h.bytes, h.len, ha0, ha1, hS0, hS1⟩, fun _ => modr _ (by omega), fun h1 => absurd h1 hn⟩
theorem from_loop (l : List Int) (hb : ∀ x ∈ l, 0 ≤ x ∧ x ≤ 255) (_hl : l.length ≤ 4096) (d : Nat) : ∀ (i : Nat) (s : Int), i + d = l.length → 0 ≤ s → s < 2147483647 → ∃ r, Ev (fun k => spec_l01From.l0 k l (i : Int) l 0 s) (l, 0, r) ∧ 0 ≤ r ∧ r < 2147483647 := by
  induction d with
  | zero =>
    intro i s hi h0 h1
    refine ⟨s, evSucc ?_, h0, h1⟩
    simp only [spec_l01From.l0, show ¬ ((i : Int) < (l.length : Int)) by omega, if_false]
    exact Ev.now _
  | succ d ih =>
    intro i s hi h0 h1
    by_cases h64 : (i : Int) < 64
    · have hr := rd_byte hb (i : Int)
      have he : Int.tmod (wrap64 ((wrap64 (s * 71)) + (wrap64 (rd l (i : Int))))) 2147483647 = (s * 71 + rd l (i : Int)) % 2147483647 := by
        rw [wrapIn (x := s * 71) (by omega) (by omega), wrapIn (x := rd l (i : Int)) (by omega) (by omega), wrapIn (by omega) (by omega), Int.tmod_eq_emod_of_nonneg (by omega)]
      obtain ⟨r, hr1, hr2, hr3⟩ := ih (i + 1) ((s * 71 + rd l (i : Int)) % 2147483647) (by omega) (by omega) (by omega)
      refine ⟨r, evSucc ?_, hr2, hr3⟩
      simp only [spec_l01From.l0, show (i : Int) < (l.length : Int) by omega, h64, show (0 : Int) ≤ (i : Int) by omega, if_true, he, wrapNat (show i < 4611686018427387904 by omega)]
      exact hr1
    · refine ⟨s, evSucc ?_, h0, h1⟩
      simp only [spec_l01From.l0, show (i : Int) < (l.length : Int) by omega, h64, if_true, if_false]
      exact Ev.now _
theorem from_ok (l : List Int) (hw : ∀ x ∈ l, (Lit.int .u8 x).wf = true) (hl : l.length ≤ 4096) : ∃ s, Ev (fun k => spec_l01From.f k l) (l, 0, s) ∧ OkS l 0 s := by
  have hb : ∀ x ∈ l, 0 ≤ x ∧ x ≤ 255 := fun x hx => by
    have := hw x hx
    simp [Lit.wf, IntKind.min, IntKind.max, IntKind.signed, IntKind.bits] at this
    omega
  obtain ⟨r, h1, h2, h3⟩ := from_loop l hb hl l.length 0 88007 (by omega) (by omega) (by omega)
  refine ⟨r, ?_, ⟨hb, hl, by omega, by omega, h2, h3⟩⟩
  unfold spec_l01From.f
  exact h1

theorem pick_ok {l : List Int} {a s : Int} (h : OkS l a s) (xs : List Int) (h0 : 0 < xs.length) :
    ∃ r a' s', spec_l01Pick.f l a s xs = some (r, a', s') ∧ OkS l a' s' ∧ r ∈ xs := by
  obtain ⟨r, a', s', h1, h2, h3, _⟩ := next_ok h (xs.length : Int)
  obtain ⟨h4, h5⟩ := h3 (by omega)
  refine ⟨rd xs r, a', s', ?_, h2, ?_⟩
  · unfold spec_l01Pick.f
    rw [h1]
    simp only [Option.bind_some]
    rw [if_pos h4, if_pos h5]
  · unfold rd
    rw [List.getD_eq_getElem?_getD, List.getElem?_eq_getElem (show r.toNat < xs.length by omega)]
    exact List.getElem_mem _

theorem drawHoles_l0 (l : List Int) (d : Nat) : ∀ (x : List Int) (at_ a s : Int), OkS l a s → x.length + d ≤ 9 → 2 ≤ x.length + d → ∃ h a' s', Ev (fun k => spec_l16DrawHoles.l0 k x at_ (d : Int) l a s) (h, a', s') ∧ OkS l a' s' ∧ 1 ≤ h.length ∧ h.length ≤ 9 := by
  induction d with
  | zero =>
    intro x at_ a s ok h1 h2
    obtain ⟨r, a', s', e1, k1, _⟩ := next_ok ok 40
    by_cases c0 : r = 0
    · obtain ⟨r5, a5, s5, e5, k5, _⟩ := pick_ok k1 [(-1), rd x 1, 0] (by simp)
      refine ⟨x.set 0 r5, a5, s5, evSucc ?_, k5, by rw [List.length_set]; omega, by rw [List.length_set]; omega⟩
      simp only [spec_l16DrawHoles.l0, show ¬ (((0 : Nat) : Int) > 0) by decide, if_false, e1, Option.bind_some, c0, if_true, show (1 : Int) < (x.length : Int) by omega, e5, show (0 : Int) < (x.length : Int) by omega]
      exact Ev.now _
    · by_cases c1 : r = 1
      · obtain ⟨r5, a5, s5, e5, k5, _⟩ := pick_ok k1 [20000, 20001] (by decide)
        have e6 : wrap64 ((x.length : Int) - 1) = ((x.length - 1 : Nat) : Int) := wrapPred (by omega) (by omega)
        refine ⟨x.set (x.length - 1) r5, a5, s5, evSucc ?_, k5, by rw [List.length_set]; omega, by rw [List.length_set]; omega⟩
        simp only [spec_l16DrawHoles.l0, show ¬ (((0 : Nat) : Int) > 0) by decide, if_false, e1, Option.bind_some, c1, show ¬ ((1 : Int) = 0) by decide, if_true, e5, e6, show (0 : Int) ≤ ((x.length - 1 : Nat) : Int) by omega, show ((x.length - 1 : Nat) : Int) < (x.length : Int) by omega, Int.toNat_natCast]
        exact Ev.now _
      · by_cases c2 : r = 2
        · refine ⟨x.take 1, a', s', evSucc ?_, k1, by rw [List.length_take]; omega, by rw [List.length_take]; omega⟩
          simp only [spec_l16DrawHoles.l0, show ¬ (((0 : Nat) : Int) > 0) by decide, if_false, e1, Option.bind_some, c2, show ¬ ((2 : Int) = 0) by decide, show ¬ ((2 : Int) = 1) by decide, if_true, show (1 : Int) ≤ (x.length : Int) by omega]
          exact Ev.now _
        · refine ⟨x, a', s', evSucc ?_, k1, by omega, by omega⟩
          simp only [spec_l16DrawHoles.l0, show ¬ (((0 : Nat) : Int) > 0) by decide, if_false, e1, Option.bind_some, c0, c1, c2]
          exact Ev.now _
  | succ d ih =>
    intro x at_ a s ok h1 h2
    obtain ⟨r, a', s', e1, k1, _⟩ := next_ok ok 300
    obtain ⟨h, a2, s2, e2, k2⟩ := ih (x ++ [at_]) (wrap64 ((wrap64 (at_ + 1)) + r)) a' s' k1 (by rw [List.length_append, List.length_singleton]; omega) (by rw [List.length_append, List.length_singleton]; omega)
    have hd : wrap64 (((d + 1 : Nat) : Int) - 1) = (d : Int) := wrapPred (i := d + 1) (by omega) (by omega)
    refine ⟨h, a2, s2, evSucc ?_, k2⟩
    simp only [spec_l16DrawHoles.l0, show (((d + 1 : Nat) : Int) > 0) by omega, if_true, show x.length < 17592186044416 by omega, e1, Option.bind_some, hd]
    exact e2
theorem drawHoles {l : List Int} {a s : Int} (ok : OkS l a s) : ∃ h a' s', Ev (fun k => spec_l16DrawHoles.f k l a s) (h, a', s') ∧ OkS l a' s' ∧ 1 ≤ h.length ∧ h.length ≤ 9 := by
  obtain ⟨r1, a1, s1, e1, k1, _⟩ := next_ok ok 200
  obtain ⟨r2, a2, s2, e2, k2, q2, _⟩ := next_ok k1 4
  have q2 := q2 (by decide)
  obtain ⟨r3, a3, s3, e3, k3, _⟩ := next_ok k2 5
  have w1 : wrap64 (1 + r2) = 1 + r2 := wrapIn (by omega) (by omega)
  have w2 : wrap64 (2 * (1 + r2)) = ((2 * (1 + r2.toNat) : Nat) : Int) := by rw [wrapIn (by omega) (by omega)]; omega
  have w3 : wrap64 (((2 * (1 + r2.toNat) : Nat) : Int) + 1) = ((2 * (1 + r2.toNat) + 1 : Nat) : Int) := wrapNat (by omega)
  by_cases c : r3 = 0
  · obtain ⟨h, a4, s4, e4, k4⟩ := drawHoles_l0 l (2 * (1 + r2.toNat) + 1) [] r1 a3 s3 k3 (by simp; omega) (by simp; omega)
    refine ⟨h, a4, s4, ?_, k4⟩
    unfold spec_l16DrawHoles.f
    simp only [Option.bind_some, e1, e2, e3, c, if_true, w1, w2, w3]
    refine evSucc ?_
    simp only [spec_l16DrawHoles.j0]
    exact e4
  · obtain ⟨h, a4, s4, e4, k4⟩ := drawHoles_l0 l (2 * (1 + r2.toNat)) [] r1 a3 s3 k3 (by simp; omega) (by simp; omega)
    refine ⟨h, a4, s4, ?_, k4⟩
    unfold spec_l16DrawHoles.f
    simp only [Option.bind_some, e1, e2, e3, c, if_false, w1, w2]
    refine evSucc ?_
    simp only [spec_l16DrawHoles.j0]
    exact e4

theorem drawOf_l0 (l : List Int) (n d : Nat) : ∀ (i : Nat) (o : List Int) (a s : Int), OkS l a s → i + d = n → n ≤ 1000 → o.length = i → ∃ o' a' s', Ev (fun k => spec_l01DrawOf.l0 k (n : Int) o (i : Int) l a s) (o', a', s') ∧ OkS l a' s' ∧ o'.length = n := by
  induction d with
  | zero =>
    intro i o a s h hi hn ho
    refine ⟨o, a, s, evSucc ?_, h, by omega⟩
    simp only [spec_l01DrawOf.l0, show ¬ ((i : Int) < (n : Int)) by omega, if_false]
    exact Ev.now _
  | succ d ih =>
    intro i o a s h hi hn ho
    have w1 : wrap64 ((i : Int) + 1) = ((i + 1 : Nat) : Int) := wrapNat (by omega)
    obtain ⟨r, a', s', h1, h2, h3, _⟩ := next_ok h ((i + 1 : Nat) : Int)
    have h3 := h3 (by omega)
    obtain ⟨o', a2, s2, e2, k2, l2⟩ := ih (i + 1) (o.take r.toNat ++ [(i : Int)] ++ o.drop r.toNat) a' s' h2 (by omega) hn (by simp only [List.length_append, List.length_take, List.length_drop, List.length_singleton]; omega)
    refine ⟨o', a2, s2, evSucc ?_, k2, l2⟩
    simp only [spec_l01DrawOf.l0, show ((i : Int) < (n : Int)) by omega, if_true, w1, h1, Option.bind_some, h3.1, show r ≤ (o.length : Int) by omega, show o.length < 1099511627776 by omega]
    exact e2
theorem drawOf {l : List Int} {a s : Int} (h : OkS l a s) (n : Nat) (hn : n ≤ 1000) : ∃ o a' s', Ev (fun k => spec_l01DrawOf.f k l a s (n : Int)) (o, a', s') ∧ OkS l a' s' ∧ o.length = n := by
  unfold spec_l01DrawOf.f
  exact drawOf_l0 l n n 0 [] a s h (by omega) hn rfl

theorem inS (a b c : Int) : spec_l01In.f a b c = some (decide (b ≤ a ∧ a ≤ c)) := by
  unfold spec_l01In.f
  by_cases h : b ≤ a <;> simp [h]

theorem inI (a b c : Int) : impl_inRange.f a b c = some (decide (b ≤ a ∧ a ≤ c)) := by
  unfold impl_inRange.f
  by_cases h : b ≤ a <;> simp [h]

def sewnB (n c : Int) : Bool := decide (2 ≤ n ∧ n ≤ 12) && decide (1 ≤ c ∧ c ≤ 40)
theorem sewnS (n c : Int) : spec_l16Fits.f n c = some (sewnB n c) := by
  unfold spec_l16Fits.f sewnB
  simp only [inS, Option.bind_some]
  by_cases h1 : (2 ≤ n ∧ n ≤ 12) <;> simp [h1]
theorem sewnI (n c : Int) : impl_isSewn.f n c = some (sewnB n c) := by
  unfold impl_isSewn.f sewnB
  simp only [inI, Option.bind_some]
  by_cases h1 : (2 ≤ n ∧ n ≤ 12) <;> simp [h1]
theorem sewn_of {n c : Int} (h : sewnB n c = true) : ∃ a b : Nat, n = (a : Int) ∧ c = (b : Int) ∧ 2 ≤ a ∧ a ≤ 12 ∧ 1 ≤ b ∧ b ≤ 40 := by
  simp only [sewnB, Bool.and_eq_true, decide_eq_true_eq] at h
  exact ⟨n.toNat, c.toNat, by omega, by omega, by omega, by omega, by omega, by omega⟩

def PP (l : List Int) (g : Nat → Option (List S65 × Int × Int)) : Prop := ∃ h a' s', Ev g (h, a', s') ∧ OkS l a' s'
theorem PP.succ {l : List Int} {g : Nat → Option (List S65 × Int × Int)} (h : PP l (fun k => g (k + 1))) : PP l g := by
  obtain ⟨x, a, s, e, o⟩ := h
  exact ⟨x, a, s, evSucc e, o⟩
theorem PP.now {l : List Int} {a s : Int} (o : OkS l a s) (x : List S65) : PP l (fun _ => some (x, a, s)) := ⟨x, a, s, Ev.now _, o⟩
theorem drawPath_l2 (l : List Int) (n m t : Int) (x10 : List Int) (a s : Int) (h1 : 1 ≤ x10.length) (h2 : x10.length ≤ 100) (d : Nat) : ∀ (j : Nat) (x7 : List S65), j + d = x10.length → x7.length + d ≤ 100000 →
    (∀ y : List S65, y.length = x7.length + d → PP l (fun k => spec_l16DrawPath.l0 k n m y (rd x10 ((x10.length - 1 : Nat) : Int)) (wrap64 (t + 1)) l a s)) → PP l (fun k => spec_l16DrawPath.l2 k n m x7 t x10 (j : Int) l a s) := by
  induction d with
  | zero =>
    intro j x7 hj hx hc
    refine PP.succ ?_
    have w : wrap64 ((x10.length : Int) - 1) = ((x10.length - 1 : Nat) : Int) := wrapPred (by omega) (by omega)
    simp only [spec_l16DrawPath.l2, show ¬ ((j : Int) < (x10.length : Int)) by omega, if_false, w, show (0 : Int) ≤ ((x10.length - 1 : Nat) : Int) by omega, show ((x10.length - 1 : Nat) : Int) < (x10.length : Int) by omega, if_true]
    exact hc x7 rfl
  | succ d ih =>
    intro j x7 hj hx hc
    refine PP.succ ?_
    simp only [spec_l16DrawPath.l2, show ((j : Int) < (x10.length : Int)) by omega, if_true, show (0 : Int) ≤ (j : Int) by omega, show x7.length < 5864062014805 by omega, wrapNat (show j < 4611686018427387904 by omega)]
    refine ih (j + 1) _ (by omega) (by rw [List.length_append, List.length_singleton]; omega) (fun y hy => hc y ?_)
    rw [hy, List.length_append, List.length_singleton]; omega
theorem drawPath_l1 (l : List Int) (n m last t : Int) (x7 : List S65) (x11 : List Int) (h11 : x11.length ≤ 1000) (a s : Int) (d : Nat) : ∀ (j : Nat) (x10 : List Int), j + d = x11.length → x10.length + d ≤ 100 → 1 ≤ x10.length →
    (∀ y : List Int, 1 ≤ y.length → y.length ≤ x10.length + d → PP l (fun k => spec_l16DrawPath.l2 k n m x7 t y 0 l a s)) → PP l (fun k => spec_l16DrawPath.l1 k n m x7 last t x10 x11 (j : Int) l a s) := by
  induction d with
  | zero =>
    intro j x10 hj hx h1 hc
    refine PP.succ ?_
    simp only [spec_l16DrawPath.l1, show ¬ ((j : Int) < (x11.length : Int)) by omega, if_false]
    exact hc x10 h1 (Nat.le_refl _)
  | succ d ih =>
    intro j x10 hj hx h1 hc
    refine PP.succ ?_
    simp only [spec_l16DrawPath.l1, show ((j : Int) < (x11.length : Int)) by omega, if_true, show (0 : Int) ≤ (j : Int) by omega, show x10.length < 17592186044416 by omega, wrapNat (show j < 4611686018427387904 by omega)]
    split
    · exact ih (j + 1) x10 (by omega) (by omega) h1 (fun y a1 a2 => hc y a1 (by omega))
    · exact ih (j + 1) (x10 ++ [rd x11 (j : Int)]) (by omega) (by rw [List.length_append, List.length_singleton]; omega) (by rw [List.length_append, List.length_singleton]; omega) (fun y a1 a2 => hc y a1 (by rw [List.length_append, List.length_singleton] at a2; omega))
theorem PP.bind {l : List Int} {β : Type} {g : Nat → Option β} {v : β} {h : Nat → β → Option (List S65 × Int × Int)} (hg : Ev g v) (hh : PP l (fun k => h k v)) : PP l (fun k => (g k).bind (h k)) := by
  obtain ⟨x, a, s, e, o⟩ := hh
  exact ⟨x, a, s, Ev.bind hg e, o⟩
theorem drawPath_l0 (l : List Int) (n m : Nat) (hn : n ≤ 12) (hm : 1 ≤ m) (d : Nat) : ∀ (t : Nat) (x7 : List S65) (last a s : Int), OkS l a s → t + d = m → m ≤ 40 → x7.length ≤ 13 * t → (0 < t → 1 ≤ x7.length) → PP l (fun k => spec_l16DrawPath.l0 k (n : Int) (m : Int) x7 last (t : Int) l a s) := by
  induction d with
  | zero =>
    intro t x7 last a s h ht hm2 hx h1
    refine PP.succ ?_
    obtain ⟨r1, a1, s1, e1, k1, q1, _⟩ := next_ok h (x7.length : Int)
    have q1 := q1 (by have := h1 (by omega); omega)
    obtain ⟨r2, a2, s2, e2, k2, _⟩ := next_ok k1 16
    simp only [spec_l16DrawPath.l0, show ¬ ((t : Int) < (m : Int)) by omega, if_false, e1, e2, Option.bind_some, q1.1, q1.2, if_true, show r1 ≤ (x7.length : Int) by omega]
    by_cases c0 : r2 = 0
    · obtain ⟨r3, a3, s3, e3, k3, _⟩ := next_ok k2 (wrap64 ((n : Int) + 1))
      simp only [c0, if_true, e3, Option.bind_some]
      exact PP.now k3 _
    · by_cases c1 : r2 = 1
      · simp only [c1, show ¬ ((1 : Int) = 0) by decide, if_true, if_false]
        exact PP.now k2 _
      · by_cases c2 : r2 = 2
        · obtain ⟨r3, a3, s3, e3, k3, _⟩ := next_ok k2 (wrap64 ((m : Int) + 1))
          simp only [c2, show ¬ ((2 : Int) = 0) by decide, show ¬ ((2 : Int) = 1) by decide, if_true, if_false, e3, Option.bind_some]
          exact PP.now k3 _
        · by_cases c3 : r2 = 3
          · simp only [c3, show ¬ ((3 : Int) = 0) by decide, show ¬ ((3 : Int) = 1) by decide, show ¬ ((3 : Int) = 2) by decide, if_true, if_false]
            exact PP.now k2 _
          · simp only [c0, c1, c2, c3, if_false]
            exact PP.now k2 _
  | succ d ih =>
    intro t x7 last a s h ht hm2 hx h1
    refine PP.succ ?_
    obtain ⟨o, a1, s1, e1, k1, l1⟩ := drawOf h n (by omega)
    simp only [spec_l16DrawPath.l0, show ((t : Int) < (m : Int)) by omega, if_true]
    refine PP.bind e1 ?_
    refine drawPath_l1 l n m last t x7 o (by omega) a1 s1 o.length 0 [last] (by omega) (by simp; omega) (by simp) (fun y y1 y2 => ?_)
    rw [List.length_singleton] at y2
    refine drawPath_l2 l n m t y a1 s1 y1 (by omega) y.length 0 x7 (by omega) (by omega) (fun z hz => ?_)
    rw [wrapNat (show t < 4611686018427387904 by omega)]
    exact ih (t + 1) z _ a1 s1 k1 (by omega) hm2 (by omega) (fun _ => by omega)
theorem drawPath {l : List Int} {a s : Int} (h : OkS l a s) (n m : Int) : PP l (fun k => spec_l16DrawPath.f k l a s n m) := by
  unfold spec_l16DrawPath.f
  simp only [sewnS, Option.bind_some]
  by_cases c : sewnB n m = true
  · obtain ⟨x, y, rfl, rfl, h1, h2, h3, h4⟩ := sewn_of c
    obtain ⟨r1, a1, s1, e1, k1, _⟩ := next_ok h (x : Int)
    simp only [c, if_true, e1, Option.bind_some]
    exact drawPath_l0 l x y h2 h3 y 0 [] r1 a1 s1 k1 (by omega) h4 (by simp) (fun h => absurd h (by decide))
  · simp only [c, if_false, Bool.false_eq_true]
    exact PP.now h _
theorem drawSize {l : List Int} {a s : Int} (h : OkS l a s) : ∃ n m a' s', spec_l16DrawSize.f l a s = some (n, m, a', s') ∧ OkS l a' s' := by
  unfold spec_l16DrawSize.f
  obtain ⟨r1, a1, s1, e1, k1, _⟩ := next_ok h 16
  by_cases c : r1 = 0
  · obtain ⟨r2, a2, s2, e2, k2, _⟩ := pick_ok k1 [1, 2, 12, 13] (by decide)
    obtain ⟨r3, a3, s3, e3, k3, _⟩ := pick_ok k2 [0, 1, 40, 41] (by decide)
    simp only [e1, c, if_true, e2, e3, Option.bind_some]
    exact ⟨_, _, _, _, rfl, k3⟩
  · obtain ⟨r2, a2, s2, e2, k2, _⟩ := next_ok k1 7
    obtain ⟨r3, a3, s3, e3, k3, _⟩ := next_ok k2 6
    simp only [e1, c, if_false, e2, e3, Option.bind_some]
    exact ⟨_, _, _, _, rfl, k3⟩
theorem drawLink {l : List Int} {a s : Int} (h : OkS l a s) : ∃ n a' s', spec_l16DrawLink.f l a s = some (n, a', s') ∧ OkS l a' s' := by
  unfold spec_l16DrawLink.f
  obtain ⟨r1, a1, s1, e1, k1, _⟩ := next_ok h 24
  by_cases c : r1 = 0
  · obtain ⟨r2, a2, s2, e2, k2, _⟩ := pick_ok k1 [(-1), 0, 1000000000, 1000000001] (by decide)
    simp only [e1, c, if_true, e2, Option.bind_some]
    exact ⟨_, _, _, rfl, k2⟩
  · obtain ⟨r2, a2, s2, e2, k2, _⟩ := next_ok k1 60
    simp only [e1, c, if_false, e2, Option.bind_some]
    exact ⟨_, _, _, rfl, k2⟩

/-- A loop that leaves at the first place where G fails; what comes after it counts only where none failed. -/
theorem evAllC (F : Nat → Int → Option Bool) (i0 n : Nat) (G : Nat → Prop)
    (hstep : ∀ i, i0 ≤ i → i < n → G i → ∀ r, Ev (fun k => F k ((i + 1 : Nat) : Int)) r → Ev (fun k => F k (i : Int)) r) (hbad : ∀ i, i0 ≤ i → i < n → ¬ G i → Ev (fun k => F k (i : Int)) false) (e : Bool) (hend : (∀ j, i0 ≤ j → j < n → G j) → Ev (fun k => F k (n : Int)) e) (hle : i0 ≤ n) :
    Ev (fun k => F k (i0 : Int)) (B (∀ j, i0 ≤ j → j < n → G j) && e) := by
  have key : ∀ d i, i0 ≤ i → i + d = n → (∀ j, i0 ≤ j → j < i → G j) → Ev (fun k => F k (i : Int)) (B (∀ j, i ≤ j → j < n → G j) && e) := by
    intro d
    induction d with
    | zero =>
      intro i _ hi hp
      have h0 : i = n := by omega
      subst h0
      rw [B_true (fun j h1 h2 => absurd h2 (by omega)), Bool.true_and]
      exact hend hp
    | succ d ih =>
      intro i h0 hi hp
      by_cases hg : G i
      · have h1 : B (∀ j, i ≤ j → j < n → G j) = B (∀ j, i + 1 ≤ j → j < n → G j) := B_congr ⟨fun h j a b => h j (by omega) b, fun h j a b => by
          by_cases e : j = i
          · subst e; exact hg
          · exact h j (by omega) b⟩
        rw [h1]
        exact hstep i h0 (by omega) hg _ (ih (i + 1) (by omega) (by omega) (fun j a b => by
          by_cases e : j = i
          · subst e; exact hg
          · exact hp j a (by omega)))
      · rw [B_false (fun h => hg (h i (Nat.le_refl _) (by omega))), Bool.false_and]
        exact hbad i h0 (by omega) hg
  exact key (n - i0) i0 (Nat.le_refl _) (by omega) (fun j a b => absurd b (by omega))

def seenL (xs : List Int) (i : Nat) : List Bool := (List.range xs.length).map fun (v : Nat) => decide ((v : Int) ∈ xs.take i)
theorem seen_len (xs : List Int) (i : Nat) : (seenL xs i).length = xs.length := by simp [seenL]
theorem seen_get (xs : List Int) (i : Nat) (x : Int) (h0 : 0 ≤ x) (h1 : x < xs.length) : rdOf false (seenL xs i) x = decide (x ∈ xs.take i) := by
  have hx : x.toNat < (seenL xs i).length := by rw [seen_len]; omega
  have e : ((x.toNat : Nat) : Int) = x := by omega
  simp only [rdOf, List.getD_eq_getElem?_getD, List.getElem?_eq_getElem hx, Option.getD_some]
  simp only [seenL, List.getElem_map, List.getElem_range, e]
theorem seen_set (xs : List Int) (i : Nat) (hi : i < xs.length) (h0 : 0 ≤ xs[i]) : (seenL xs i).set xs[i].toNat true = seenL xs (i + 1) := by
  refine List.ext_getElem (by rw [List.length_set, seen_len, seen_len]) fun j h1 h2 => ?_
  rw [List.getElem_set]
  simp only [seenL, List.getElem_map, List.getElem_range, List.take_succ_eq_append_getElem hi, List.mem_append, List.mem_singleton]
  by_cases c : xs[i].toNat = j
  · rw [if_pos c]
    exact (decide_eq_true (Or.inr (by omega))).symm
  · rw [if_neg c]
    have : ¬ ((j : Int) = xs[i]) := by omega
    simp only [this, or_false]
def OrdAt (xs : List Int) (i : Nat) : Prop := (0 ≤ rd xs (i : Int) ∧ rd xs (i : Int) < xs.length) ∧ ¬ rd xs (i : Int) ∈ xs.take i
theorem isOrderI (xs : List Int) : Ev (fun k => impl_IsOrder.f k xs) (decide (xs.length ≤ 64) && B (∀ i, i < xs.length → OrdAt xs i)) := by
  unfold impl_IsOrder.f
  by_cases hl : xs.length ≤ 64
  · simp only [show ¬ ((xs.length : Int) > 64) by omega, if_false, Int.toNat_natCast, show (0 : Int) ≤ (xs.length : Int) by omega, show xs.length ≤ 281474976710656 by omega, if_true, decide_eq_true hl, Bool.true_and]
    have := evAllC (fun k i => impl_IsOrder.l0 k xs (seenL xs i.toNat) xs (xs.length : Int) i) 0 xs.length (OrdAt xs) ?_ ?_ true ?_ (Nat.zero_le _)
    · have e0 : seenL xs 0 = List.replicate xs.length false := by
        refine List.ext_getElem (by rw [seen_len, List.length_replicate]) fun j h1 h2 => ?_
        simp [seenL]
      have e1 : B (∀ j, 0 ≤ j → j < xs.length → OrdAt xs j) = B (∀ i, i < xs.length → OrdAt xs i) := B_congr ⟨fun h j hj => h j (Nat.zero_le _) hj, fun h j _ hj => h j hj⟩
      rw [Bool.and_true, e1] at this
      rw [← e0]
      exact this
    · intro i _ hi hg r hr
      refine evSucc ?_
      obtain ⟨⟨h0, h1⟩, h2⟩ := hg
      have hx : rd xs (i : Int) = xs[i] := rdN xs i hi
      have hw : wrap64 ((xs.length : Int) - 1) = (xs.length : Int) - 1 := wrapIn (by omega) (by omega)
      simp only [impl_IsOrder.l0, Int.toNat_natCast, show (i : Int) < (xs.length : Int) by omega, show (0 : Int) ≤ (i : Int) by omega, if_true, impl_length_int64.f, Option.bind_some, inI, hw, decide_eq_true_eq, show 0 ≤ rd xs (i : Int) ∧ rd xs (i : Int) ≤ (xs.length : Int) - 1 from ⟨h0, by omega⟩, and_self, seen_len, h1, seen_get xs i _ h0 h1, h2, if_false, wrapNat (show i < 4611686018427387904 by omega)]
      rw [hx] at h0 ⊢
      rw [seen_set xs i hi h0]
      simp only [Int.toNat_natCast] at hr
      exact hr
    · intro i _ hi hg
      refine evSucc ?_
      have hw : wrap64 ((xs.length : Int) - 1) = (xs.length : Int) - 1 := wrapIn (by omega) (by omega)
      simp only [impl_IsOrder.l0, Int.toNat_natCast, show (i : Int) < (xs.length : Int) by omega, show (0 : Int) ≤ (i : Int) by omega, if_true, impl_length_int64.f, Option.bind_some, inI, hw, decide_eq_true_eq]
      by_cases h : 0 ≤ rd xs (i : Int) ∧ rd xs (i : Int) ≤ (xs.length : Int) - 1
      · have h2 : rd xs (i : Int) ∈ xs.take i := Classical.byContradiction fun h2 => hg ⟨⟨h.1, by omega⟩, h2⟩
        have h1 : rd xs (i : Int) < (xs.length : Int) := by omega
        simp only [h, and_self, if_true, seen_len, h1, seen_get xs i _ h.1 h1, h2, decide_true]
        exact Ev.now _
      · simp only [h, if_false]
        exact Ev.now _
    · intro _
      refine evSucc ?_
      simp only [impl_IsOrder.l0, Int.lt_irrefl, if_false]
      exact Ev.now _
  · simp only [show (xs.length : Int) > 64 by omega, if_true, hl, decide_false, Bool.false_and]
    exact Ev.now _

theorem rd65 (xs : List S65) (i : Nat) (h : i < xs.length) : rd_T65 xs (i : Int) = xs[i] := by
  simp [rd_T65, List.getD_eq_getElem?_getD, List.getElem?_eq_getElem h]

def hL (p : List S65) (n j m : Nat) : List Int := (List.range m).map fun i => (rd_T65 p ((j * n + i : Nat) : Int)).f1
theorem hL_len (p : List S65) (n j m : Nat) : (hL p n j m).length = m := by simp [hL]
theorem hL_succ (p : List S65) (n j m : Nat) : hL p n j m ++ [(rd_T65 p ((j * n + m : Nat) : Int)).f1] = hL p n j (m + 1) := by simp [hL, List.range_succ]
theorem hL_take (p : List S65) (n j m i : Nat) (h : i ≤ m) : (hL p n j m).take i = hL p n j i := by
  refine List.ext_getElem (by rw [List.length_take, hL_len, hL_len]; omega) fun a h1 h2 => ?_
  simp [hL]
theorem hL_get (p : List S65) (n j m i : Nat) (h : i < m) : rd (hL p n j m) (i : Int) = (rd_T65 p ((j * n + i : Nat) : Int)).f1 := by
  rw [rdN _ _ (by rw [hL_len]; exact h)]
  simp [hL]
def EAt (p : List S65) (n j i : Nat) : Prop := (rd_T65 p ((j * n + i : Nat) : Int)).f0 = (j : Int) ∧ (rd_T65 p ((j * n + i : Nat) : Int)).f2 = (Int.tmod (i : Int) 2 == 0)
def OAt (p : List S65) (n j i : Nat) : Prop := (0 ≤ (rd_T65 p ((j * n + i : Nat) : Int)).f1 ∧ (rd_T65 p ((j * n + i : Nat) : Int)).f1 ≤ (n : Int) - 1) ∧ ¬ (rd_T65 p ((j * n + i : Nat) : Int)).f1 ∈ hL p n j i
def LAt (p : List S65) (n j : Nat) : Prop := 0 < j → (rd_T65 p ((j * n : Nat) : Int)).f1 = (rd_T65 p ((j * n - 1 : Nat) : Int)).f1
def JAt (p : List S65) (n j : Nat) : Prop := (∀ i, i < n → EAt p n j i ∧ OAt p n j i) ∧ LAt p n j
noncomputable def threadB (n c : Int) (p : List S65) : Bool := sewnB n c && (!decide (Int.tmod n 2 = 1) && (decide ((p.length : Int) = n * c) && B (∀ j : Nat, j < c.toNat → JAt p n.toNat j)))
theorem jn_lt {n c j i : Nat} (hj : j < c) (hi : i < n) : j * n + i < n * c := by
  have : (j + 1) * n ≤ c * n := Nat.mul_le_mul_right n hj
  rw [Nat.succ_mul] at this
  rw [Nat.mul_comm n c]
  omega
theorem all0 (n : Nat) (G : Nat → Prop) : B (∀ j, 0 ≤ j → j < n → G j) = B (∀ j, j < n → G j) := B_congr ⟨fun h j hj => h j (Nat.zero_le _) hj, fun h j _ hj => h j hj⟩

theorem threadI_loop (p : List S65) (n c : Nat) (h1 : 2 ≤ n) (h2 : n ≤ 12) (h4 : c ≤ 40) (hp : p.length = n * c) : Ev (fun k => impl_IsThreadPath.l0 k (n : Int) p (c : Int) 0) (B (∀ j : Nat, j < c → JAt p n j)) := by
  have hnc : n * c ≤ 12 * 40 := Nat.mul_le_mul h2 h4
  have inner : ∀ j, j < c → ∀ e, ((∀ i, i < n → EAt p n j i ∧ (i = 0 → LAt p n j)) → Ev (fun k => impl_IsThreadPath.l1 k (n : Int) p (j : Int) (hL p n j n) (c : Int) (j : Int) (n : Int) (n : Int)) e) →
      Ev (fun k => impl_IsThreadPath.l1 k (n : Int) p (j : Int) [] (c : Int) (j : Int) (n : Int) 0) (B (∀ i, i < n → EAt p n j i ∧ (i = 0 → LAt p n j)) && e) := by
    intro j hj e he
    have := evAllC (fun k i => impl_IsThreadPath.l1 k (n : Int) p (j : Int) (hL p n j i.toNat) (c : Int) (j : Int) (n : Int) i) 0 n (fun i => EAt p n j i ∧ (i = 0 → LAt p n j)) ?_ ?_ e ?_ (Nat.zero_le _)
    · rw [all0] at this
      simpa [hL] using this
    · intro i _ hi hg r hr
      refine evSucc ?_
      obtain ⟨⟨g1, g2⟩, g3⟩ := hg
      have hb := jn_lt hj hi
      have hw : wrap64 ((wrap64 ((j : Int) * (n : Int))) + (i : Int)) = ((j * n + i : Nat) : Int) := by
        rw [wrapIn (x := (j : Int) * (n : Int)) (by omega) (by omega), wrapIn (by omega) (by omega)]; omega
      simp only [impl_IsThreadPath.l1, Int.toNat_natCast, show (i : Int) < (n : Int) by omega, if_true, hw, show (0 : Int) ≤ ((j * n + i : Nat) : Int) by omega, show ((j * n + i : Nat) : Int) < (p.length : Int) by omega, g1, g2, bne_self_eq_false, Bool.false_eq_true, if_false, hL_len, show i < 17592186044416 by omega, hL_succ, wrapNat (show i < 4611686018427387904 by omega)]
      simp only [Int.toNat_natCast] at hr
      by_cases i0 : i = 0
      · subst i0
        by_cases j0 : 0 < j
        · have hjn : 1 * 2 ≤ j * n := Nat.mul_le_mul j0 h1
          have hw1 : wrap64 (((j * n + 0 : Nat) : Int) - 1) = ((j * n - 1 : Nat) : Int) := by rw [Nat.add_zero]; exact wrapPred (by omega) (by omega)
          have hl := g3 rfl j0
          simp only [hw1, show ((0 : Nat) : Int) = 0 from rfl, if_true, show ((j * n + 0 : Nat) : Int) > 0 by omega, show (0 : Int) ≤ ((j * n - 1 : Nat) : Int) by omega, show ((j * n - 1 : Nat) : Int) < (p.length : Int) by omega, show (rd_T65 p ((j * n - 1 : Nat) : Int)).f1 = (rd_T65 p ((j * n + 0 : Nat) : Int)).f1 from hl.symm]
          exact hr
        · have hz : j = 0 := by omega
          subst hz
          simp only [show ((0 : Nat) : Int) = 0 from rfl, if_true, show ¬ (((0 * n + 0 : Nat) : Int) > 0) by omega, if_false]
          exact hr
      · simp only [show ¬ ((i : Int) = 0) by omega, if_false]
        exact hr
    · intro i _ hi hg
      refine evSucc ?_
      have hb := jn_lt hj hi
      have hw : wrap64 ((wrap64 ((j : Int) * (n : Int))) + (i : Int)) = ((j * n + i : Nat) : Int) := by
        rw [wrapIn (x := (j : Int) * (n : Int)) (by omega) (by omega), wrapIn (by omega) (by omega)]; omega
      simp only [impl_IsThreadPath.l1, Int.toNat_natCast, show (i : Int) < (n : Int) by omega, if_true, hw, show (0 : Int) ≤ ((j * n + i : Nat) : Int) by omega, show ((j * n + i : Nat) : Int) < (p.length : Int) by omega]
      by_cases g1 : (rd_T65 p ((j * n + i : Nat) : Int)).f0 = (j : Int)
      · simp only [g1, if_true]
        by_cases g2 : (rd_T65 p ((j * n + i : Nat) : Int)).f2 = (Int.tmod (i : Int) 2 == 0)
        · have g3 : ¬ (i = 0 → LAt p n j) := fun h => hg ⟨⟨g1, g2⟩, h⟩
          have i0 : i = 0 := Classical.byContradiction fun h => g3 fun h' => absurd h' h
          subst i0
          have g4 : ¬ LAt p n j := fun h => g3 fun _ => h
          have j0 : 0 < j := Classical.byContradiction fun h => g4 fun h' => absurd h' h
          have hne : ¬ (rd_T65 p ((j * n - 1 : Nat) : Int)).f1 = (rd_T65 p ((j * n + 0 : Nat) : Int)).f1 := fun h => g4 fun _ => h.symm
          have hjn : 1 * 2 ≤ j * n := Nat.mul_le_mul j0 h1
          have hw1 : wrap64 (((j * n + 0 : Nat) : Int) - 1) = ((j * n - 1 : Nat) : Int) := by rw [Nat.add_zero]; exact wrapPred (by omega) (by omega)
          simp only [g2, bne_self_eq_false, Bool.false_eq_true, if_false, hw1, show ((0 : Nat) : Int) = 0 from rfl, if_true, show ((j * n + 0 : Nat) : Int) > 0 by omega, show (0 : Int) ≤ ((j * n - 1 : Nat) : Int) by omega, show ((j * n - 1 : Nat) : Int) < (p.length : Int) by omega, hne]
          exact Ev.now _
        · simp only [bne_iff_ne.2 g2, if_true]
          exact Ev.now _
      · simp only [g1, if_false]
        exact Ev.now _
    · intro hall
      simp only [Int.toNat_natCast]
      exact he fun i hi => hall i (Nat.zero_le _) hi
  have ord : ∀ j, (∀ i, i < (hL p n j n).length → OrdAt (hL p n j n) i) ↔ ∀ i, i < n → OAt p n j i := by
    intro j
    rw [hL_len]
    refine forall_congr' fun i => forall_congr' fun hi => ?_
    unfold OrdAt OAt
    rw [hL_get _ _ _ _ _ hi, hL_len, hL_take _ _ _ _ _ (by omega)]
    exact and_congr (and_congr Iff.rfl (by omega)) Iff.rfl
  have := evAllC (fun k j => impl_IsThreadPath.l0 k (n : Int) p (c : Int) j) 0 c (JAt p n) ?_ ?_ true ?_ (Nat.zero_le _)
  · rw [all0, Bool.and_true] at this
    exact this
  · intro j _ hj ⟨hg, hL0⟩ r hr
    refine evSucc ?_
    simp only [impl_IsThreadPath.l0, show (j : Int) < (c : Int) by omega, if_true]
    have := inner j hj r ?_
    · rw [B_true (fun i hi => ⟨(hg i hi).1, fun _ => hL0⟩), Bool.true_and] at this
      exact this
    · intro _
      refine evSucc ?_
      simp only [impl_IsThreadPath.l1, Int.lt_irrefl, if_false, wrapNat (show j < 4611686018427387904 by omega)]
      have ho := isOrderI (hL p n j n)
      rw [B_true ((ord j).2 fun i hi => (hg i hi).2), Bool.and_true, decide_eq_true (by rw [hL_len]; omega)] at ho
      refine Ev.bind ho ?_
      simp only [if_true]
      exact hr
  · intro j _ hj hg
    refine evSucc ?_
    simp only [impl_IsThreadPath.l0, show (j : Int) < (c : Int) by omega, if_true]
    by_cases ha : ∀ i, i < n → EAt p n j i ∧ (i = 0 → LAt p n j)
    · have hn : ¬ ∀ i, i < n → OAt p n j i := fun h => hg ⟨fun i hi => ⟨(ha i hi).1, h i hi⟩, (ha 0 (by omega)).2 rfl⟩
      have := inner j hj false ?_
      · rw [Bool.and_false] at this
        exact this
      · intro _
        refine evSucc ?_
        simp only [impl_IsThreadPath.l1, Int.lt_irrefl, if_false]
        have ho := isOrderI (hL p n j n)
        rw [B_false (fun h => hn ((ord j).1 h)), Bool.and_false] at ho
        refine Ev.bind ho ?_
        simp only [Bool.false_eq_true, if_false]
        exact Ev.now _
    · have := inner j hj true (fun h => absurd h ha)
      rw [B_false ha, Bool.false_and] at this
      exact this
  · intro _
    refine evSucc ?_
    simp only [impl_IsThreadPath.l0, Int.lt_irrefl, if_false]
    exact Ev.now _
theorem threadI (n c : Int) (p : List S65) : Ev (fun k => impl_IsThreadPath.f k n c p) (threadB n c p) := by
  unfold impl_IsThreadPath.f threadB
  simp only [sewnI, impl_Stitch.f, Option.bind_some]
  by_cases h : sewnB n c = true
  · obtain ⟨a, b, rfl, rfl, h1, h2, h3, h4⟩ := sewn_of h
    have hab : a * b ≤ 12 * 40 := Nat.mul_le_mul h2 h4
    have hw : wrap64 ((a : Int) * (b : Int)) = (a : Int) * (b : Int) := by
      have : (a : Int) * (b : Int) = ((a * b : Nat) : Int) := by omega
      exact wrapIn (by omega) (by omega)
    simp only [h, if_true, Bool.true_and, hw]
    by_cases h5 : Int.tmod (a : Int) 2 = 1
    · simp only [h5, if_true, decide_true, Bool.not_true, Bool.false_and]
      refine evSucc ?_
      simp only [impl_IsThreadPath.j0, if_true]
      exact Ev.now _
    · simp only [h5, if_false, decide_false, Bool.not_false, Bool.true_and]
      refine evSucc ?_
      by_cases h6 : (p.length : Int) = (a : Int) * (b : Int)
      · simp only [impl_IsThreadPath.j0, h6, bne_self_eq_false, Bool.false_eq_true, if_false, decide_true, Bool.true_and, Int.toNat_natCast]
        exact threadI_loop p a b h1 h2 h4 (by omega)
      · simp only [impl_IsThreadPath.j0, bne_iff_ne.2 h6, if_true, h6, decide_false, Bool.false_and]
        exact Ev.now _
  · simp only [h, if_false, Bool.false_eq_true, Bool.false_and]
    refine evSucc ?_
    simp only [impl_IsThreadPath.j0, if_true]
    exact Ev.now _

def InAll (l : List Int) (a b : Int) : Prop := ∀ j, 0 ≤ j → j < l.length → a ≤ rd l (j : Int) ∧ rd l (j : Int) ≤ b
theorem inAll_mem {l : List Int} {a b : Int} : InAll l a b ↔ ∀ x ∈ l, a ≤ x ∧ x ≤ b := by
  constructor
  · intro h x hx
    obtain ⟨i, hi, rfl⟩ := List.mem_iff_getElem.1 hx
    have := h i (Nat.zero_le _) hi
    rwa [rdN l i hi] at this
  · intro h j _ hj
    rw [rdN l j hj]
    exact h _ (List.getElem_mem hj)
theorem allIn_all (l : List Int) (a b : Int) : (l.all fun x => decide (a ≤ x ∧ x ≤ b)) = B (InAll l a b) := by
  by_cases h : InAll l a b
  · rw [B_true h, List.all_eq_true]
    exact fun x hx => decide_eq_true (inAll_mem.1 h x hx)
  · rw [B_false h, Bool.eq_false_iff]
    intro h2
    exact h (inAll_mem.2 fun x hx => of_decide_eq_true (List.all_eq_true.1 h2 x hx))

theorem withinS (l : List Int) (m a b : Int) (h : l.length ≤ 1048576) : Ev (fun k => spec_l01Within.f k l m a b) (B (InAll l a b) && decide ((l.length : Int) ≤ m)) := by
  unfold spec_l01Within.f
  have := evAll (fun k i => spec_l01Within.l0 k l m a b i) 0 l.length (fun j => a ≤ rd l (j : Int) ∧ rd l (j : Int) ≤ b) ?_ ?_ (decide ((l.length : Int) ≤ m)) ?_ (Nat.zero_le _)
  · exact this
  · intro i h0 hi hg r hr
    refine evSucc ?_
    have e1 : (i : Int) < (l.length : Int) := by omega
    have e2 : (0 : Int) ≤ (i : Int) := by omega
    simp only [spec_l01Within.l0, inS, Option.bind_some, e1, e2, decide_eq_true hg, if_true, wrapNat (show i < 4611686018427387904 by omega)]
    exact hr
  · intro i h0 hi hg
    refine evSucc ?_
    have e1 : (i : Int) < (l.length : Int) := by omega
    have e2 : (0 : Int) ≤ (i : Int) := by omega
    simp only [spec_l01Within.l0, inS, Option.bind_some, e1, e2, decide_eq_false hg, if_true, if_false, Bool.false_eq_true]
    exact Ev.now _
  · refine evSucc ?_
    simp only [spec_l01Within.l0, Int.lt_irrefl, if_false]
    exact Ev.now _

def Rising (l : List Int) : Prop := ∀ j, 1 ≤ j → j < l.length → rd l ((j - 1 : Nat) : Int) < rd l (j : Int)
theorem risesS (l : List Int) (h : l.length ≤ 1048576) (h1 : 1 ≤ l.length) : Ev (fun k => spec_l01Rises.f k l) (B (Rising l)) := by
  unfold spec_l01Rises.f
  have := evAll (fun k i => spec_l01Rises.l0 k l i) 1 l.length (fun j => rd l ((j - 1 : Nat) : Int) < rd l (j : Int)) ?_ ?_ true ?_ h1
  · rw [Bool.and_true] at this; exact this
  · intro i h0 hi hg r hr
    refine evSucc ?_
    have e1 : (i : Int) < (l.length : Int) := by omega
    have e2 : (0 : Int) ≤ (i : Int) := by omega
    have e3 : (0 : Int) ≤ ((i - 1 : Nat) : Int) := by omega
    have e4 : ((i - 1 : Nat) : Int) < (l.length : Int) := by omega
    have e5 : ¬ (rd l (i : Int) ≤ rd l ((i - 1 : Nat) : Int)) := by omega
    simp only [spec_l01Rises.l0, wrapPred h0 (show i < 4611686018427387904 by omega), e1, e2, e3, e4, e5, if_true, if_false, wrapNat (show i < 4611686018427387904 by omega)]
    exact hr
  · intro i h0 hi hg
    refine evSucc ?_
    have e1 : (i : Int) < (l.length : Int) := by omega
    have e2 : (0 : Int) ≤ (i : Int) := by omega
    have e3 : (0 : Int) ≤ ((i - 1 : Nat) : Int) := by omega
    have e4 : ((i - 1 : Nat) : Int) < (l.length : Int) := by omega
    have e5 : rd l (i : Int) ≤ rd l ((i - 1 : Nat) : Int) := by omega
    simp only [spec_l01Rises.l0, wrapPred h0 (show i < 4611686018427387904 by omega), e1, e2, e3, e4, e5, if_true]
    exact Ev.now _
  · refine evSucc ?_
    simp only [spec_l01Rises.l0, Int.lt_irrefl, if_false]
    exact Ev.now _
theorem risesI (l : List Int) (h : l.length ≤ 1048576) (h1 : 1 ≤ l.length) : Ev (fun k => impl_AreHoles.l0 k l 1) (B (Rising l)) := by
  have := evAll (fun k i => impl_AreHoles.l0 k l i) 1 l.length (fun j => rd l ((j - 1 : Nat) : Int) < rd l (j : Int)) ?_ ?_ true ?_ h1
  · rw [Bool.and_true] at this; exact this
  · intro i h0 hi hg r hr
    refine evSucc ?_
    have e1 : (i : Int) < (l.length : Int) := by omega
    have e2 : (0 : Int) ≤ (i : Int) := by omega
    have e3 : (0 : Int) ≤ ((i - 1 : Nat) : Int) := by omega
    have e4 : ((i - 1 : Nat) : Int) < (l.length : Int) := by omega
    have e5 : ¬ (rd l ((i - 1 : Nat) : Int) ≥ rd l (i : Int)) := by omega
    simp only [impl_AreHoles.l0, wrapPred h0 (show i < 4611686018427387904 by omega), e1, e2, e3, e4, e5, if_true, if_false, wrapNat (show i < 4611686018427387904 by omega)]
    exact hr
  · intro i h0 hi hg
    refine evSucc ?_
    have e1 : (i : Int) < (l.length : Int) := by omega
    have e2 : (0 : Int) ≤ (i : Int) := by omega
    have e3 : (0 : Int) ≤ ((i - 1 : Nat) : Int) := by omega
    have e4 : ((i - 1 : Nat) : Int) < (l.length : Int) := by omega
    have e5 : rd l ((i - 1 : Nat) : Int) ≥ rd l (i : Int) := by omega
    simp only [impl_AreHoles.l0, wrapPred h0 (show i < 4611686018427387904 by omega), e1, e2, e3, e4, e5, if_true]
    exact Ev.now _
  · refine evSucc ?_
    simp only [impl_AreHoles.l0, Int.lt_irrefl, if_false]
    exact Ev.now _
noncomputable def holesB (l : List Int) : Bool := B ((2 ≤ l.length ∧ l.length ≤ 12) ∧ Rising l ∧ InAll l 0 20000)
theorem holesS (l : List Int) (h : l.length ≤ 1048576) : Ev (fun k => spec_AreHoles.f k l) (holesB l) := by
  unfold spec_AreHoles.f holesB
  by_cases h2 : (l.length : Int) ≥ 2
  · simp only [h2, if_true]
    refine Ev.bind (risesS l h (by omega)) ?_
    by_cases hr : Rising l
    · simp only [B_true hr, if_true]
      refine Ev.bind (withinS l 12 0 20000 h) ?_
      have e : (B (InAll l 0 20000) && decide ((l.length : Int) ≤ 12)) = B ((2 ≤ l.length ∧ l.length ≤ 12) ∧ Rising l ∧ InAll l 0 20000) := by
        rw [← B_dec, B_and]
        exact B_congr ⟨fun h => ⟨⟨by omega, by omega⟩, hr, h.1⟩, fun h => ⟨h.2.2, by omega⟩⟩
      rw [e]
      exact Ev.now _
    · simp only [B_false hr, Bool.false_eq_true, if_false]
      rw [B_false (fun h => hr h.2.1)]
      exact Ev.now _
  · simp only [h2, if_false]
    rw [B_false (fun h => h2 (by omega))]
    exact Ev.now _
theorem holesI (l : List Int) (h : l.length ≤ 1048576) : Ev (fun k => impl_AreHoles.f k l) (holesB l) := by
  unfold impl_AreHoles.f holesB impl_length_int64.f impl_allIn.f
  simp only [inI, Option.bind_some, allIn_all, decide_eq_true_eq]
  by_cases h2 : 2 ≤ (l.length : Int) ∧ (l.length : Int) ≤ 12
  · simp only [h2, and_self, if_true]
    refine evSucc ?_
    simp only [impl_AreHoles.j0]
    by_cases hi : InAll l 0 20000
    · simp only [B_true hi, Bool.not_true, Bool.false_eq_true, if_false]
      have e : B (Rising l) = B ((2 ≤ l.length ∧ l.length ≤ 12) ∧ Rising l ∧ InAll l 0 20000) := B_congr ⟨fun h => ⟨⟨by omega, by omega⟩, h, hi⟩, fun h => h.2.1⟩
      rw [← e]
      exact risesI l h (by omega)
    · simp only [B_false hi, Bool.not_false, if_true]
      rw [B_false (fun h => hi h.2.2)]
      exact Ev.now _
  · simp only [h2, if_false]
    refine evSucc ?_
    simp only [impl_AreHoles.j0, if_true]
    rw [B_false (fun h => h2 (by omega))]
    exact Ev.now _

structure OkP (h : List Int) (p : List S65) (n c : Nat) : Prop where
  n1 : 2 ≤ n
  n2 : n ≤ 12
  c1 : 1 ≤ c
  c2 : c ≤ 40
  hl : h.length = n
  hin : ∀ j : Nat, j < n → 0 ≤ rd h (j : Int) ∧ rd h (j : Int) ≤ 20000
  pl : p.length = n * c
  f0 : ∀ m : Nat, m < n * c → (rd_T65 p (m : Int)).f0 = ((m / n : Nat) : Int)
  f1 : ∀ m : Nat, m < n * c → 0 ≤ (rd_T65 p (m : Int)).f1 ∧ (rd_T65 p (m : Int)).f1 ≤ (n : Int) - 1
def dA (h : List Int) (p : List S65) (m : Nat) : Int := mx (rd h (rd_T65 p (m : Int)).f1 - rd h (rd_T65 p ((m - 1 : Nat) : Int)).f1) (-(rd h (rd_T65 p (m : Int)).f1 - rd h (rd_T65 p ((m - 1 : Nat) : Int)).f1))
def sumS (h : List Int) (p : List S65) (n : Nat) (t : Int) : Nat → Int
  | 0 => 0
  | 1 => 0
  | m + 2 => sumS h p n t (m + 1) + (if (m + 1) / n = m / n then dA h p (m + 1) else t)
def sumI (h : List Int) (p : List S65) (n : Nat) : Nat → Int
  | 0 => 0
  | 1 => 0
  | m + 2 => sumI h p n (m + 1) + (if m / n = (m + 1) / n then dA h p (m + 1) else 0)
theorem mx_le' {a b x : Int} (h1 : a ≤ x) (h2 : b ≤ x) : mx a b ≤ x := by unfold mx; split <;> assumption
theorem le_mx {a : Int} : 0 ≤ mx a (-a) := by unfold mx; split <;> omega
theorem hole_in {h : List Int} {p : List S65} {n c : Nat} (ok : OkP h p n c) (m : Nat) (hm : m < n * c) : 0 ≤ rd h (rd_T65 p (m : Int)).f1 ∧ rd h (rd_T65 p (m : Int)).f1 ≤ 20000 := by
  have h1 := ok.f1 m hm
  have h2 := ok.hin (rd_T65 p (m : Int)).f1.toNat (by omega)
  rw [show (((rd_T65 p (m : Int)).f1.toNat : Nat) : Int) = (rd_T65 p (m : Int)).f1 by omega] at h2
  exact h2
theorem dA_in {h : List Int} {p : List S65} {n c : Nat} (ok : OkP h p n c) (m : Nat) (hm : m < n * c) : 0 ≤ dA h p m ∧ dA h p m ≤ 20000 := by
  have h1 := hole_in ok m hm
  have h2 := hole_in ok (m - 1) (by omega)
  unfold dA
  exact ⟨le_mx, mx_le' (by omega) (by omega)⟩
theorem div_step {n m : Nat} : (m + 1) / n = m / n ∨ (m + 1) / n = m / n + 1 := by
  rw [Nat.succ_div]
  split <;> simp
theorem sumS_in {h : List Int} {p : List S65} {n c : Nat} (ok : OkP h p n c) {t : Int} (t0 : 0 ≤ t) (t1 : t ≤ 1000000000) : ∀ m : Nat, m ≤ n * c → 0 ≤ sumS h p n t m ∧ sumS h p n t m ≤ 1000020000 * (m : Int)
  | 0, _ => ⟨Int.le_refl _, by simp [sumS]⟩
  | 1, _ => ⟨Int.le_refl _, by simp [sumS]⟩
  | m + 2, hm => by
    have ih := sumS_in ok t0 t1 (m + 1) (by omega)
    have hd := dA_in ok (m + 1) (by omega)
    simp only [sumS]
    split <;> omega
theorem sumI_in {h : List Int} {p : List S65} {n c : Nat} (ok : OkP h p n c) : ∀ m : Nat, m ≤ n * c → 0 ≤ sumI h p n m ∧ sumI h p n m ≤ 20000 * (m : Int)
  | 0, _ => ⟨Int.le_refl _, by simp [sumI]⟩
  | 1, _ => ⟨Int.le_refl _, by simp [sumI]⟩
  | m + 2, hm => by
    have ih := sumI_in ok (m + 1) (by omega)
    have hd := dA_in ok (m + 1) (by omega)
    simp only [sumI]
    split <;> omega
theorem sum_both {h : List Int} {p : List S65} {n : Nat} (t : Int) : ∀ m : Nat, sumS h p n t (m + 1) = ((m / n : Nat) : Int) * t + sumI h p n (m + 1)
  | 0 => by simp [sumS, sumI]
  | m + 1 => by
    have ih := sum_both (h := h) (p := p) (n := n) t m
    simp only [sumS, sumI, ih]
    rcases @div_step n m with e | e
    · simp only [e, if_true]
      omega
    · simp only [e, show ¬ (m / n + 1 = m / n) by omega, show ¬ (m / n = m / n + 1) by omega, if_false]
      rw [show ((m / n + 1 : Nat) : Int) = ((m / n : Nat) : Int) + 1 by omega, Int.add_mul]
      omega
theorem sum_end {h : List Int} {p : List S65} {n c : Nat} (ok : OkP h p n c) (t : Int) : sumS h p n t (n * c) = ((c : Int) - 1) * t + sumI h p n (n * c) := by
  have n1 := ok.n1
  have c1 := ok.c1
  have hnc : 2 * 1 ≤ n * c := Nat.mul_le_mul n1 c1
  have e := sum_both (h := h) (p := p) (n := n) t (n * c - 1)
  rw [show n * c - 1 + 1 = n * c by omega] at e
  have d : (n * c - 1) / n = c - 1 := by
    rw [Nat.div_eq_of_lt_le]
    · obtain ⟨c', rfl⟩ : ∃ c', c = c' + 1 := ⟨c - 1, by omega⟩
      rw [Nat.add_sub_cancel, Nat.mul_succ, Nat.mul_comm]
      omega
    · rw [Nat.sub_add_cancel c1, Nat.mul_comm c n]
      omega
  rw [e, d, show ((c - 1 : Nat) : Int) = (c : Int) - 1 by omega]
theorem lenS {h : List Int} {p : List S65} {n c : Nat} (ok : OkP h p n c) {t : Int} (t0 : 0 ≤ t) (t1 : t ≤ 1000000000) : Ev (fun k => spec_l16Length.f k h p t) (sumS h p n t (n * c)) := by
  have hnc : 2 * 1 ≤ n * c := Nat.mul_le_mul ok.n1 ok.c1
  have hnc2 : n * c ≤ 12 * 40 := Nat.mul_le_mul ok.n2 ok.c2
  unfold spec_l16Length.f
  refine evCount (fun k (s : Int) i => spec_l16Length.l0 k h p t s i) 1 (n * c) (fun m => sumS h p n t m) (sumS h p n t (n * c)) ?_ ?_ (by omega)
  · intro i hi0 hi hr
    refine evSucc ?_
    obtain ⟨m, rfl⟩ : ∃ m, i = m + 1 := ⟨i - 1, by omega⟩
    have hpl := ok.pl
    have hhl := ok.hl
    have a1 := ok.f1 (m + 1) hi
    have a2 := ok.f1 m (by omega)
    have b1 := hole_in ok (m + 1) hi
    have b2 := hole_in ok m (by omega)
    have hd := dA_in ok (m + 1) hi
    have hs := sumS_in ok t0 t1 (m + 1) (by omega)
    have hw1 : wrap64 (((m + 1 : Nat) : Int) - 1) = (m : Int) := wrapPred (i := m + 1) (by omega) (by omega)
    simp only [spec_l16Length.l0, hw1, show ((m + 1 : Nat) : Int) < (p.length : Int) by omega, show (0 : Int) ≤ ((m + 1 : Nat) : Int) by omega, a1.1, show (rd_T65 p ((m + 1 : Nat) : Int)).f1 < (h.length : Int) by omega, show (0 : Int) ≤ (m : Int) by omega, show (m : Int) < (p.length : Int) by omega, a2.1, show (rd_T65 p (m : Int)).f1 < (h.length : Int) by omega, if_true, ok.f0 (m + 1) hi, ok.f0 m (by omega), wrapNat (show m + 1 < 4611686018427387904 by omega)]
    simp only [sumS] at hr
    by_cases e : (m + 1) / n = m / n
    · simp only [e, if_true] at hr ⊢
      rw [wrapIn (x := rd h (rd_T65 p ((m + 1 : Nat) : Int)).f1 - rd h (rd_T65 p (m : Int)).f1) (by omega) (by omega), wrapIn (x := -(rd h (rd_T65 p ((m + 1 : Nat) : Int)).f1 - rd h (rd_T65 p (m : Int)).f1)) (by omega) (by omega)]
      have e2 : mx (rd h (rd_T65 p ((m + 1 : Nat) : Int)).f1 - rd h (rd_T65 p (m : Int)).f1) (-(rd h (rd_T65 p ((m + 1 : Nat) : Int)).f1 - rd h (rd_T65 p (m : Int)).f1)) = dA h p (m + 1) := rfl
      rw [e2, wrapIn (by omega) (by omega)]
      exact hr
    · simp only [e, if_false] at hr
      simp only [show ¬ (((m + 1) / n : Nat) : Int) = ((m / n : Nat) : Int) by omega, if_false]
      rw [wrapIn (by omega) (by omega)]
      exact hr
  · refine evSucc ?_
    have hpl := ok.pl
    simp only [spec_l16Length.l0, show ¬ (((n * c : Nat) : Int) < (p.length : Int)) by omega, if_false]
    exact Ev.now _
theorem lenI {h : List Int} {p : List S65} {n c : Nat} (ok : OkP h p n c) {t : Int} (t0 : 0 ≤ t) (t1 : t ≤ 1000000000) : Ev (fun k => impl_PathLength.l0 k h p (wrap64 ((wrap64 ((c : Int) - 1)) * t)) 1) (sumS h p n t (n * c), 0) := by
  have hnc : 2 * 1 ≤ n * c := Nat.mul_le_mul ok.n1 ok.c1
  have hnc2 : n * c ≤ 12 * 40 := Nat.mul_le_mul ok.n2 ok.c2
  have c1 := ok.c1
  have c2 := ok.c2
  have g0 : 0 ≤ ((c : Int) - 1) * t := Int.mul_nonneg (by omega) t0
  have g1 : ((c : Int) - 1) * t ≤ 39 * 1000000000 := Int.mul_le_mul (by omega) t1 t0 (by omega)
  rw [wrapIn (x := (c : Int) - 1) (by omega) (by omega), wrapIn (by omega) (by omega)]
  have := evCount (fun k (s : Int) i => impl_PathLength.l0 k h p s i) 1 (n * c) (fun m => ((c : Int) - 1) * t + sumI h p n m) (sumS h p n t (n * c), 0) ?_ ?_ (by omega)
  · simpa [sumI] using this
  · intro i hi0 hi hr
    refine evSucc ?_
    obtain ⟨m, rfl⟩ : ∃ m, i = m + 1 := ⟨i - 1, by omega⟩
    have hpl := ok.pl
    have hhl := ok.hl
    have a1 := ok.f1 (m + 1) hi
    have a2 := ok.f1 m (by omega)
    have b1 := hole_in ok (m + 1) hi
    have b2 := hole_in ok m (by omega)
    have hd := dA_in ok (m + 1) hi
    have hs := sumI_in ok (m + 1) (by omega)
    have hw1 : wrap64 (((m + 1 : Nat) : Int) - 1) = (m : Int) := wrapPred (i := m + 1) (by omega) (by omega)
    simp only [impl_PathLength.l0, hw1, show ((m + 1 : Nat) : Int) < (p.length : Int) by omega, show (0 : Int) ≤ ((m + 1 : Nat) : Int) by omega, a1.1, show (rd_T65 p ((m + 1 : Nat) : Int)).f1 < (h.length : Int) by omega, show (0 : Int) ≤ (m : Int) by omega, show (m : Int) < (p.length : Int) by omega, a2.1, show (rd_T65 p (m : Int)).f1 < (h.length : Int) by omega, if_true, ok.f0 (m + 1) hi, ok.f0 m (by omega), wrapNat (show m + 1 < 4611686018427387904 by omega)]
    simp only [sumI] at hr
    by_cases e : m / n = (m + 1) / n
    · simp only [e, if_true] at hr ⊢
      rw [wrapIn (x := rd h (rd_T65 p ((m + 1 : Nat) : Int)).f1 - rd h (rd_T65 p (m : Int)).f1) (by omega) (by omega), wrapIn (x := -(rd h (rd_T65 p ((m + 1 : Nat) : Int)).f1 - rd h (rd_T65 p (m : Int)).f1)) (by omega) (by omega)]
      have e2 : mx (rd h (rd_T65 p ((m + 1 : Nat) : Int)).f1 - rd h (rd_T65 p (m : Int)).f1) (-(rd h (rd_T65 p ((m + 1 : Nat) : Int)).f1 - rd h (rd_T65 p (m : Int)).f1)) = dA h p (m + 1) := rfl
      rw [e2, wrapIn (by omega) (by omega), Int.add_assoc]
      exact hr
    · simp only [e, if_false, Int.add_zero] at hr
      simp only [show ¬ ((m / n : Nat) : Int) = (((m + 1) / n : Nat) : Int) by omega, if_false]
      exact hr
  · refine evSucc ?_
    have hpl := ok.pl
    simp only [impl_PathLength.l0, show ¬ (((n * c : Nat) : Int) < (p.length : Int)) by omega, if_false]
    rw [← sum_end ok t]
    exact Ev.now _
theorem ok_of {h : List Int} {p : List S65} {n c : Nat} (n1 : 2 ≤ n) (n2 : n ≤ 12) (c1 : 1 ≤ c) (c2 : c ≤ 40) (hl : h.length = n) (hh : holesB h = true) (ht : threadB (n : Int) (c : Int) p = true) : OkP h p n c := by
  have hh := B_iff.1 hh
  simp only [threadB, Bool.and_eq_true, decide_eq_true_eq, B_iff, Int.toNat_natCast] at ht
  obtain ⟨_, _, ht1, ht2⟩ := ht
  have key : ∀ m : Nat, m < n * c → EAt p n (m / n) (m % n) ∧ OAt p n (m / n) (m % n) := fun m hm => (ht2 (m / n) (Nat.div_lt_of_lt_mul hm)).1 (m % n) (Nat.mod_lt _ (by omega))
  have dm : ∀ m : Nat, m / n * n + m % n = m := fun m => by rw [Nat.mul_comm]; exact Nat.div_add_mod m n
  refine ⟨n1, n2, c1, c2, hl, fun j hj => hh.2.2 j (Nat.zero_le _) (by omega), by omega, fun m hm => ?_, fun m hm => ?_⟩
  · have := (key m hm).1.1
    rw [dm] at this
    exact this
  · have := (key m hm).2.1
    rw [dm] at this
    exact this
noncomputable def checkV (h : List Int) (c t : Int) : Int := if holesB h = true ∧ (1 ≤ c ∧ c ≤ 40) ∧ (0 ≤ t ∧ t ≤ 1000000000) then (if (h.length : Int) % 2 = 1 then 5 else 0) else 2
theorem checkI (h : List Int) (hl : h.length ≤ 1048576) (c t : Int) : Ev (fun k => impl_checkThread.f k h c t) (checkV h c t) := by
  unfold impl_checkThread.f checkV
  refine Ev.bind (holesI h hl) ?_
  by_cases h1 : holesB h = true
  · simp only [h1, if_true, inI, impl_isLength.f, Option.bind_some, decide_eq_true_eq, true_and]
    by_cases h2 : 1 ≤ c ∧ c ≤ 40
    · simp only [h2, and_self, if_true, true_and]
      refine evSucc ?_
      by_cases h3 : 0 ≤ t ∧ t ≤ 1000000000
      · simp only [impl_checkThread.j0, h3, and_self, decide_true, Bool.not_true, Bool.false_eq_true, if_false, if_true]
        split <;> exact Ev.now _
      · simp only [impl_checkThread.j0, h3, decide_false, Bool.not_false, if_true, if_false]
        exact Ev.now _
    · simp only [h2, if_false, false_and]
      refine evSucc ?_
      simp only [impl_checkThread.j0, if_true]
      exact Ev.now _
  · simp only [h1, if_false, Bool.false_eq_true, false_and]
    refine evSucc ?_
    simp only [impl_checkThread.j0, if_true]
    exact Ev.now _
theorem holes_sewn {h : List Int} (hh : holesB h = true) (c : Int) : sewnB (h.length : Int) c = decide (1 ≤ c ∧ c ≤ 40) := by
  have := (B_iff.1 hh).1
  unfold sewnB
  rw [decide_eq_true (show (2 : Int) ≤ (h.length : Int) ∧ (h.length : Int) ≤ 12 by omega), Bool.true_and]
theorem tmod_emod (n : Nat) : Int.tmod (n : Int) 2 = (n : Int) % 2 := Int.tmod_eq_emod_of_nonneg (by omega)

noncomputable def pathV (h : List Int) (c : Int) (p : List S65) (t : Int) : Int × Int :=
  if checkV h c t = 0 then (if threadB (h.length : Int) c p = true then (sumS h p h.length t (h.length * c.toNat), 0) else (0, 2)) else (0, checkV h c t)
theorem checkV_ok {h : List Int} {c t : Int} (hc : checkV h c t = 0) : holesB h = true ∧ (1 ≤ c ∧ c ≤ 40) ∧ (0 ≤ t ∧ t ≤ 1000000000) := by
  unfold checkV at hc
  by_cases hx : holesB h = true ∧ (1 ≤ c ∧ c ≤ 40) ∧ (0 ≤ t ∧ t ≤ 1000000000)
  · exact hx
  · rw [if_neg hx] at hc
    exact absurd hc (by decide)
theorem pathI (h : List Int) (hl : h.length ≤ 1048576) (c : Int) (p : List S65) (t : Int) : Ev (fun k => impl_PathLength.f k h c p t) (pathV h c p t) := by
  unfold impl_PathLength.f pathV
  refine Ev.bind (checkI h hl c t) ?_
  by_cases hc : checkV h c t = 0
  · simp only [hc, if_true, impl_length_int64.f, Option.bind_some]
    refine Ev.bind (threadI _ c p) ?_
    by_cases ht : threadB (h.length : Int) c p = true
    · simp only [ht, if_true]
      obtain ⟨h1, h2, h3⟩ := checkV_ok hc
      have h4 := (B_iff.1 h1).1
      obtain ⟨b, rfl⟩ := Int.eq_ofNat_of_zero_le (show 0 ≤ c by omega)
      rw [Int.toNat_natCast]
      exact lenI (ok_of h4.1 h4.2 (by omega) (by omega) rfl h1 ht) h3.1 h3.2
    · simp only [ht, if_false, Bool.false_eq_true]
      exact Ev.now _
  · simp only [hc, if_false]
    exact Ev.now _

def plainAt (n s h : Nat) : S65 := ⟨(s : Int), if s % 2 = 1 then (n : Int) - 1 - (h : Int) else (h : Int), (Int.tmod (h : Int) 2) == 0⟩
def plainL (n m : Nat) : List S65 := (List.range m).map fun i => plainAt n (i / n) (i % n)
theorem plain_len (n m : Nat) : (plainL n m).length = m := by simp [plainL]
theorem plain_step (n s h : Nat) (hh : h < n) : plainL n (s * n + h) ++ [plainAt n s h] = plainL n (s * n + (h + 1)) := by
  have e1 : (s * n + h) / n = s := by
    rw [Nat.add_comm, Nat.add_mul_div_right _ _ (by omega), Nat.div_eq_of_lt hh, Nat.zero_add]
  have e2 : (s * n + h) % n = h := by
    rw [Nat.add_comm, Nat.add_mul_mod_self_right, Nat.mod_eq_of_lt hh]
  unfold plainL
  rw [← Nat.add_assoc, List.range_succ, List.map_append, List.map_singleton, e1, e2]
theorem plain_get (n m i : Nat) (h : i < m) : rd_T65 (plainL n m) (i : Int) = plainAt n (i / n) (i % n) := by
  rw [rd65 _ _ (by rw [plain_len]; exact h)]
  simp [plainL]
theorem tmod2 (s : Nat) : Int.tmod (s : Int) 2 = ((s % 2 : Nat) : Int) := rfl
theorem sn_le {n c s h : Nat} (hn : n ≤ 12) (hc : c ≤ 40) (hs : s < c) (hh : h < n) : s * n + h < 480 := by
  have : s * n ≤ 39 * 12 := Nat.mul_le_mul (by omega) hn
  omega
theorem plainI (n c : Nat) (hn : n ≤ 12) (hc : c ≤ 40) : Ev (fun k => impl_plainPath.f k (n : Int) (c : Int)) (plainL n (c * n)) := by
  unfold impl_plainPath.f
  have := evCount (fun k (l : List S65) i => impl_plainPath.l0 k (n : Int) l (c : Int) i) 0 c (fun s => plainL n (s * n)) (plainL n (c * n)) ?_ ?_ (Nat.zero_le _)
  · simpa [plainL] using this
  · intro s _ hs hr
    refine evSucc ?_
    simp only [impl_plainPath.l0, show (s : Int) < (c : Int) by omega, if_true]
    have := evCount (fun k (l : List S65) i => impl_plainPath.l1 k (n : Int) l (s : Int) (c : Int) (s : Int) (n : Int) i) 0 n (fun h => plainL n (s * n + h)) (plainL n (c * n)) ?_ ?_ (Nat.zero_le _)
    · simpa using this
    · intro h _ hh hr
      refine evSucc ?_
      have hb := sn_le hn hc hs hh
      have e := plain_step n s h hh
      unfold plainAt at e
      rw [← e] at hr
      by_cases h2 : s % 2 = 1
      · simp only [h2, if_true] at hr
        simp only [impl_plainPath.l1, show (h : Int) < (n : Int) by omega, tmod2 s, h2, plain_len, show s * n + h < 5864062014805 by omega, show ((1 : Nat) : Int) = 1 from rfl, if_true, wrapNat (show h < 4611686018427387904 by omega)]
        rw [wrapIn (x := (n : Int) - 1) (by omega) (by omega), wrapIn (x := (n : Int) - 1 - (h : Int)) (by omega) (by omega)]
        exact hr
      · simp only [h2, if_false] at hr
        simp only [impl_plainPath.l1, show (h : Int) < (n : Int) by omega, tmod2 s, show ¬ (((s % 2 : Nat) : Int) = 1) by omega, plain_len, show s * n + h < 5864062014805 by omega, if_true, if_false, wrapNat (show h < 4611686018427387904 by omega)]
        exact hr
    · refine evSucc ?_
      simp only [impl_plainPath.l1, Int.lt_irrefl, if_false, wrapNat (show s < 4611686018427387904 by omega)]
      rw [← Nat.succ_mul]
      exact hr
  · refine evSucc ?_
    simp only [impl_plainPath.l0, Int.lt_irrefl, if_false]
    exact Ev.now _
theorem plainS (n c : Nat) (hn : n ≤ 12) (hc : c ≤ 40) : Ev (fun k => spec_l16Plain.f k (n : Int) (c : Int)) (plainL n (c * n)) := by
  unfold spec_l16Plain.f
  have := evCount (fun k (l : List S65) i => spec_l16Plain.l0 k (n : Int) (c : Int) l i) 0 c (fun s => plainL n (s * n)) (plainL n (c * n)) ?_ ?_ (Nat.zero_le _)
  · simpa [plainL] using this
  · intro s _ hs hr
    refine evSucc ?_
    simp only [spec_l16Plain.l0, show (s : Int) < (c : Int) by omega, if_true]
    have := evCount (fun k (l : List S65) i => spec_l16Plain.l1 k (n : Int) (c : Int) l (s : Int) i) 0 n (fun h => plainL n (s * n + h)) (plainL n (c * n)) ?_ ?_ (Nat.zero_le _)
    · simpa using this
    · intro h _ hh hr
      refine evSucc ?_
      have hb := sn_le hn hc hs hh
      have e := plain_step n s h hh
      unfold plainAt at e
      rw [← e] at hr
      by_cases h2 : s % 2 = 1
      · simp only [h2, if_true] at hr
        simp only [spec_l16Plain.l1, show (h : Int) < (n : Int) by omega, tmod2 s, h2, plain_len, show s * n + h < 5864062014805 by omega, show ((1 : Nat) : Int) = 1 from rfl, if_true, wrapNat (show h < 4611686018427387904 by omega)]
        rw [wrapIn (x := (n : Int) - 1) (by omega) (by omega), wrapIn (x := (n : Int) - 1 - (h : Int)) (by omega) (by omega)]
        exact hr
      · simp only [h2, if_false] at hr
        simp only [spec_l16Plain.l1, show (h : Int) < (n : Int) by omega, tmod2 s, show ¬ (((s % 2 : Nat) : Int) = 1) by omega, plain_len, show s * n + h < 5864062014805 by omega, if_true, if_false, wrapNat (show h < 4611686018427387904 by omega)]
        exact hr
    · refine evSucc ?_
      simp only [spec_l16Plain.l1, Int.lt_irrefl, if_false, wrapNat (show s < 4611686018427387904 by omega)]
      rw [← Nat.succ_mul]
      exact hr
  · refine evSucc ?_
    simp only [spec_l16Plain.l0, Int.lt_irrefl, if_false]
    exact Ev.now _

theorem div_mod_step (n m : Nat) (hn : 0 < n) : ((m + 1) / n = m / n ∧ (m + 1) % n = m % n + 1) ∨ ((m + 1) / n = m / n + 1 ∧ (m + 1) % n = 0 ∧ m % n = n - 1) := by
  have h1 := Nat.div_add_mod m n
  have h2 := Nat.mod_lt m hn
  rcases Nat.lt_or_ge (m % n + 1) n with h | h
  · refine .inl ⟨?_, ?_⟩
    · rw [← h1, Nat.add_assoc, Nat.mul_add_div hn, Nat.div_eq_of_lt h, Nat.mul_add_div hn, Nat.div_eq_of_lt h2]
    · conv => lhs; rw [← h1, Nat.add_assoc, Nat.mul_add_mod, Nat.mod_eq_of_lt h]
  · have e : m % n + 1 = n := by omega
    refine .inr ⟨?_, ?_, by omega⟩
    · rw [← h1, Nat.add_assoc, e, Nat.mul_add_div hn, Nat.div_self hn, Nat.mul_add_div hn, Nat.div_eq_of_lt h2]
    · rw [← h1, Nat.add_assoc, e, Nat.mul_add_mod, Nat.mod_self]
/-- The plain path's length within its sections so far. -/
theorem sumI_plain (h : List Int) (n c : Nat) (hn : 2 ≤ n) (hr : ∀ i j : Nat, i ≤ j → j < n → rd h (i : Int) ≤ rd h (j : Int)) : ∀ m : Nat, m < c * n →
    sumI h (plainL n (c * n)) n (m + 1) = ((m / n : Nat) : Int) * (rd h ((n - 1 : Nat) : Int) - rd h 0) + (if (m / n) % 2 = 1 then rd h ((n - 1 : Nat) : Int) - rd h ((n - 1 - m % n : Nat) : Int) else rd h ((m % n : Nat) : Int) - rd h 0)
  | 0, _ => by
    simp only [sumI, Nat.zero_div, Nat.zero_mod]
    simp
  | m + 1, hm => by
    have ih := sumI_plain h n c hn hr m (by omega)
    have g1 := plain_get n (c * n) (m + 1) hm
    have g2 := plain_get n (c * n) m (by omega)
    have hlt := Nat.mod_lt m (show 0 < n by omega)
    simp only [sumI, ih]
    rcases div_mod_step n m (by omega) with ⟨e1, e2⟩ | ⟨e1, e2, e3⟩
    · have hlt2 := Nat.mod_lt (m + 1) (show 0 < n by omega)
      simp only [e1, if_true, dA, g1, g2, plainAt, Nat.add_sub_cancel]
      rw [e2] at hlt2 ⊢
      by_cases o : m / n % 2 = 1
      · simp only [o, if_true]
        have a1 := hr (n - 1 - (m % n + 1)) (n - 1 - m % n) (by omega) (by omega)
        rw [show (n : Int) - 1 - ((m % n + 1 : Nat) : Int) = ((n - 1 - (m % n + 1) : Nat) : Int) by omega, show (n : Int) - 1 - ((m % n : Nat) : Int) = ((n - 1 - m % n : Nat) : Int) by omega]
        unfold mx
        split <;> omega
      · simp only [o, if_false]
        have a1 := hr (m % n) (m % n + 1) (by omega) (by omega)
        unfold mx
        split <;> omega
    · simp only [e1, e2, e3, show ¬ (m / n = m / n + 1) by omega, if_false]
      rw [show ((m / n + 1 : Nat) : Int) = ((m / n : Nat) : Int) + 1 by omega, Int.add_mul]
      have n0 : n - 1 - (n - 1) = 0 := by omega
      by_cases o : m / n % 2 = 1
      · simp only [o, show ¬ ((m / n + 1) % 2 = 1) by omega, if_true, if_false, n0]
        simp only [Int.natCast_zero]
        omega
      · simp only [o, show (m / n + 1) % 2 = 1 by omega, if_true, if_false, Nat.sub_zero]
        omega
theorem sumI_plain_end (h : List Int) (n c : Nat) (hn : 2 ≤ n) (hc : 1 ≤ c) (hr : ∀ i j : Nat, i ≤ j → j < n → rd h (i : Int) ≤ rd h (j : Int)) :
    sumI h (plainL n (c * n)) n (n * c) = (c : Int) * (rd h ((n - 1 : Nat) : Int) - rd h 0) := by
  have hnc : 2 * 1 ≤ n * c := Nat.mul_le_mul hn hc
  have hcn : c * n = n * c := Nat.mul_comm _ _
  have e := sumI_plain h n c hn hr (n * c - 1) (by omega)
  rw [show n * c - 1 + 1 = n * c by omega] at e
  have d : (n * c - 1) / n = c - 1 := by
    rw [Nat.div_eq_of_lt_le]
    · obtain ⟨c', rfl⟩ : ∃ c', c = c' + 1 := ⟨c - 1, by omega⟩
      rw [Nat.add_sub_cancel, Nat.mul_succ, Nat.mul_comm]
      omega
    · rw [Nat.sub_add_cancel hc, hcn]
      omega
  have dm : (n * c - 1) % n = n - 1 := by
    obtain ⟨c', rfl⟩ : ∃ c', c = c' + 1 := ⟨c - 1, by omega⟩
    have h1 : n * (c' + 1) - 1 = n * c' + (n - 1) := by rw [Nat.mul_succ]; omega
    rw [h1, Nat.mul_add_mod, Nat.mod_eq_of_lt (by omega)]
  rw [e, d, dm, show n - 1 - (n - 1) = 0 by omega, show ((c - 1 : Nat) : Int) = (c : Int) - 1 by omega, Int.sub_mul, Int.one_mul]
  split
  · simp only [Int.natCast_zero]
    omega
  · omega

/-- Two holes: every path is as long within its sections. -/
theorem sumI_two (h : List Int) (p : List S65) (c : Nat) (hr : rd h 0 ≤ rd h 1) (hp : ∀ m : Nat, m < 2 * c → 0 ≤ (rd_T65 p (m : Int)).f1 ∧ (rd_T65 p (m : Int)).f1 ≤ 1)
    (hd : ∀ m : Nat, m + 1 < 2 * c → m / 2 = (m + 1) / 2 → (rd_T65 p ((m + 1 : Nat) : Int)).f1 ≠ (rd_T65 p (m : Int)).f1) :
    ∀ m : Nat, m < 2 * c → sumI h p 2 (m + 1) = (((m + 1) / 2 : Nat) : Int) * (rd h 1 - rd h 0)
  | 0, _ => by simp [sumI]
  | m + 1, hm => by
    have ih := sumI_two h p c hr hp hd m (by omega)
    simp only [sumI, ih]
    by_cases e : m / 2 = (m + 1) / 2
    · have h1 := hp (m + 1) hm
      have h2 := hp m (by omega)
      have h3 := hd m hm e
      have e2 : (m + 1 + 1) / 2 = (m + 1) / 2 + 1 := by omega
      simp only [e, if_true, e2, dA, Nat.add_sub_cancel]
      generalize (rd_T65 p ((m + 1 : Nat) : Int)).f1 = x at *
      generalize (rd_T65 p (m : Int)).f1 = y at *
      rw [show (((m + 1) / 2 + 1 : Nat) : Int) = (((m + 1) / 2 : Nat) : Int) + 1 by omega, Int.add_mul, Int.one_mul]
      have hx : x = 0 ∧ y = 1 ∨ x = 1 ∧ y = 0 := by omega
      rcases hx with ⟨rfl, rfl⟩ | ⟨rfl, rfl⟩ <;> unfold mx <;> split <;> omega
    · simp only [e, if_false]
      rw [show (m + 1 + 1) / 2 = (m + 1) / 2 by omega]
      omega

theorem plain_at (n c j i : Nat) (hj : j < c) (hi : i < n) : rd_T65 (plainL n (c * n)) ((j * n + i : Nat) : Int) = plainAt n j i := by
  have hb := jn_lt hj hi
  rw [plain_get _ _ _ (by rw [Nat.mul_comm c n]; exact hb)]
  have e1 : (j * n + i) / n = j := by
    rw [Nat.add_comm, Nat.add_mul_div_right _ _ (by omega), Nat.div_eq_of_lt hi, Nat.zero_add]
  have e2 : (j * n + i) % n = i := by
    rw [Nat.add_comm, Nat.add_mul_mod_self_right, Nat.mod_eq_of_lt hi]
  rw [e1, e2]
theorem plain_ok (n c : Nat) (h1 : 2 ≤ n) (h2 : n ≤ 12) (h3 : 1 ≤ c) (h4 : c ≤ 40) (he : ¬ Int.tmod (n : Int) 2 = 1) : threadB (n : Int) (c : Int) (plainL n (c * n)) = true := by
  have hs : sewnB (n : Int) (c : Int) = true := by
    simp only [sewnB, Bool.and_eq_true, decide_eq_true_eq]
    omega
  simp only [threadB, hs, he, decide_false, Bool.not_false, Bool.true_and, Bool.and_eq_true, decide_eq_true_eq, B_iff, Int.toNat_natCast, plain_len]
  refine ⟨by rw [Nat.mul_comm]; omega, fun j hj => ⟨fun i hi => ?_, fun j0 => ?_⟩⟩
  · have hb := plain_at n c j i hj hi
    refine ⟨⟨by rw [hb]; rfl, by rw [hb]; rfl⟩, ?_, ?_⟩
    · rw [hb]
      simp only [plainAt]
      split <;> omega
    · intro hm
      simp only [hL, List.mem_map, List.mem_range] at hm
      obtain ⟨i', hi', e⟩ := hm
      rw [hb, plain_at n c j i' hj (by omega)] at e
      simp only [plainAt] at e
      split at e <;> omega
  · have e1 := plain_at n c j 0 hj (by omega)
    have e2 := plain_at n c (j - 1) (n - 1) (by omega) (by omega)
    have hx : (j - 1) * n + (n - 1) = j * n - 1 := by
      obtain ⟨j', rfl⟩ : ∃ j', j = j' + 1 := ⟨j - 1, by omega⟩
      rw [Nat.add_sub_cancel, Nat.succ_mul]
      omega
    rw [Nat.add_zero] at e1
    rw [hx] at e2
    rw [e1, e2]
    simp only [plainAt]
    split <;> split <;> omega
noncomputable def plainV (h : List Int) (c t : Int) : Int × Int := if checkV h c t = 0 then (sumS h (plainL h.length (c.toNat * h.length)) h.length t (h.length * c.toNat), 0) else (0, checkV h c t)
theorem checkV_even {h : List Int} {c t : Int} (hc : checkV h c t = 0) : ¬ (h.length : Int) % 2 = 1 := by
  intro h5
  have := checkV_ok hc
  unfold checkV at hc
  rw [if_pos this, if_pos h5] at hc
  exact absurd hc (by decide)
theorem plainLenI (h : List Int) (hl : h.length ≤ 1048576) (c t : Int) : Ev (fun k => impl_PlainLength.f k h c t) (plainV h c t) := by
  unfold impl_PlainLength.f plainV
  refine Ev.bind (checkI h hl c t) ?_
  by_cases hc : checkV h c t = 0
  · simp only [hc, if_true, impl_length_int64.f, Option.bind_some]
    obtain ⟨h1, h2, h3⟩ := checkV_ok hc
    have h4 := (B_iff.1 h1).1
    have h5 := checkV_even hc
    obtain ⟨b, rfl⟩ := Int.eq_ofNat_of_zero_le (show 0 ≤ c by omega)
    rw [Int.toNat_natCast]
    refine Ev.bind (plainI h.length b (by omega) (by omega)) ?_
    have := pathI h hl (b : Int) (plainL h.length (b * h.length)) t
    rw [show pathV h (b : Int) (plainL h.length (b * h.length)) t = (sumS h (plainL h.length (b * h.length)) h.length t (h.length * b), 0) from by
      unfold pathV
      rw [if_pos hc, if_pos (plain_ok _ _ h4.1 h4.2 (by omega) (by omega) (by rw [tmod_emod]; exact h5)), Int.toNat_natCast]] at this
    exact Ev.bind this (Ev.now _)
  · simp only [hc, if_false]
    exact Ev.now _
theorem plainLenS (h : List Int) (hl : h.length ≤ 1048576) (c t : Int) : Ev (fun k => spec_PlainLength.f k h c t) (plainV h c t) := by
  unfold spec_PlainLength.f plainV
  refine Ev.bind (holesS h hl) ?_
  by_cases h1 : holesB h = true
  · simp only [h1, if_true, sewnS, inS, Option.bind_some, holes_sewn h1, decide_eq_true_eq]
    by_cases h2 : 1 ≤ c ∧ c ≤ 40
    · simp only [h2, and_self, if_true]
      refine evSucc ?_
      by_cases h3 : 0 ≤ t ∧ t ≤ 1000000000
      · simp only [spec_PlainLength.j0, h3, and_self, decide_true, Bool.not_true, Bool.false_eq_true, if_false, tmod_emod]
        by_cases h5 : (h.length : Int) % 2 = 1
        · simp only [checkV, h1, h2, h3, h5, and_self, if_true, show ¬ ((5 : Int) = 0) by decide, if_false]
          exact Ev.now _
        · simp only [checkV, h1, h2, h3, h5, and_self, if_true, if_false]
          have h4 := (B_iff.1 h1).1
          obtain ⟨b, rfl⟩ := Int.eq_ofNat_of_zero_le (show 0 ≤ c by omega)
          rw [Int.toNat_natCast]
          refine Ev.bind (plainS h.length b (by omega) (by omega)) ?_
          exact Ev.bind (lenS (ok_of h4.1 h4.2 (by omega) (by omega) rfl h1 (plain_ok _ _ h4.1 h4.2 (by omega) (by omega) (by rw [tmod_emod]; exact h5))) h3.1 h3.2) (Ev.now _)
      · simp only [spec_PlainLength.j0, h3, decide_false, Bool.not_false, if_true, checkV, and_false, if_false, show ¬ ((2 : Int) = 0) by decide]
        exact Ev.now _
    · simp only [h2, if_false]
      refine evSucc ?_
      simp only [spec_PlainLength.j0, if_true, checkV, h2, false_and, and_false, if_false, show ¬ ((2 : Int) = 0) by decide]
      exact Ev.now _
  · simp only [h1, if_false, Bool.false_eq_true]
    refine evSucc ?_
    simp only [spec_PlainLength.j0, if_true, checkV, h1, false_and, if_false, show ¬ ((2 : Int) = 0) by decide, Bool.false_eq_true]
    exact Ev.now _

theorem path_both (n c : Int) : ∃ l e, l.length ≤ 480 ∧ (e = 0 → threadB n c l = true) ∧ Ev (fun k => spec_PlainPath.f k n c) (l, e) ∧ Ev (fun k => impl_PlainPath.f k n c) (l, e) := by
  unfold spec_PlainPath.f impl_PlainPath.f
  simp only [sewnS, sewnI, Option.bind_some]
  by_cases h : sewnB n c = true
  · obtain ⟨a, b, rfl, rfl, h1, h2, h3, h4⟩ := sewn_of h
    simp only [h, if_true]
    by_cases h5 : Int.tmod (a : Int) 2 = 1
    · simp only [h5, if_true]
      exact ⟨[], 5, by simp, fun h => absurd h (by decide), Ev.now _, Ev.now _⟩
    · simp only [h5, if_false]
      refine ⟨_, 0, ?_, fun _ => plain_ok a b h1 h2 h3 h4 h5, Ev.bind (plainS a b h2 h4) (Ev.now _), Ev.bind (plainI a b h2 h4) (Ev.now _)⟩
      rw [plain_len]
      have := Nat.mul_le_mul h4 h2
      omega
  · simp only [h, if_false, Bool.false_eq_true]
    exact ⟨[], 2, by simp, fun h => absurd h (by decide), Ev.now _, Ev.now _⟩

theorem hasS (l : List Int) (v : Int) (hl : l.length ≤ 1048576) : Ev (fun k => spec_l01Has.f k l v) (B (v ∈ l)) := by
  unfold spec_l01Has.f
  have key : ∀ d i : Nat, i + d = l.length → Ev (fun k => spec_l01Has.l0 k l v (i : Int)) (B (v ∈ l.drop i)) := by
    intro d
    induction d with
    | zero =>
      intro i hi
      refine evSucc ?_
      rw [List.drop_of_length_le (by omega), B_false (by simp)]
      simp only [spec_l01Has.l0, show ¬ ((i : Int) < (l.length : Int)) by omega, if_false]
      exact Ev.now _
    | succ d ih =>
      intro i hi
      have hlt : i < l.length := by omega
      refine evSucc ?_
      simp only [spec_l01Has.l0, show (i : Int) < (l.length : Int) by omega, show (0 : Int) ≤ (i : Int) by omega, if_true, rdN l i hlt, wrapNat (show i < 4611686018427387904 by omega)]
      rw [List.drop_eq_getElem_cons hlt]
      by_cases c : l[i] = v
      · simp only [c, if_true]
        rw [B_true (by simp)]
        exact Ev.now _
      · simp only [c, if_false]
        have e : B (v ∈ l[i] :: l.drop (i + 1)) = B (v ∈ l.drop (i + 1)) := B_congr (by simp only [List.mem_cons]; exact ⟨fun h => h.resolve_left (fun h => c h.symm), Or.inr⟩)
        rw [e]
        exact ih (i + 1) (by omega)
  simpa using key l.length 0 (by omega)

theorem threadS_loop (p : List S65) (n c : Nat) (h1 : 2 ≤ n) (h2 : n ≤ 12) (h4 : c ≤ 40) (hp : p.length = n * c) : Ev (fun k => spec_IsThreadPath.l0 k (n : Int) (c : Int) p 0) (B (∀ j : Nat, j < c → JAt p n j)) := by
  have hnc : n * c ≤ 12 * 40 := Nat.mul_le_mul h2 h4
  have inner : ∀ j, j < c → ∀ e, ((∀ i, i < n → EAt p n j i ∧ OAt p n j i) → Ev (fun k => spec_IsThreadPath.l1 k (n : Int) (c : Int) p (j : Int) (hL p n j n) (n : Int)) e) →
      Ev (fun k => spec_IsThreadPath.l1 k (n : Int) (c : Int) p (j : Int) [] 0) (B (∀ i, i < n → EAt p n j i ∧ OAt p n j i) && e) := by
    intro j hj e he
    have := evAllC (fun k i => spec_IsThreadPath.l1 k (n : Int) (c : Int) p (j : Int) (hL p n j i.toNat) i) 0 n (fun i => EAt p n j i ∧ OAt p n j i) ?_ ?_ e ?_ (Nat.zero_le _)
    · rw [all0] at this
      simpa [hL] using this
    · intro i _ hi hg r hr
      refine evSucc ?_
      obtain ⟨⟨g1, g2⟩, g3, g4⟩ := hg
      have hb := jn_lt hj hi
      have hw : wrap64 ((wrap64 ((j : Int) * (n : Int))) + (i : Int)) = ((j * n + i : Nat) : Int) := by
        rw [wrapIn (x := (j : Int) * (n : Int)) (by omega) (by omega), wrapIn (by omega) (by omega)]; omega
      have hn1 : wrap64 ((n : Int) - 1) = (n : Int) - 1 := wrapIn (by omega) (by omega)
      simp only [spec_IsThreadPath.l1, Int.toNat_natCast, show (i : Int) < (n : Int) by omega, if_true, hw, hn1, show (0 : Int) ≤ ((j * n + i : Nat) : Int) by omega, show ((j * n + i : Nat) : Int) < (p.length : Int) by omega, g1, inS, Option.bind_some, decide_eq_true_eq, g3, and_self]
      have hm := hasS (hL p n j i) (rd_T65 p ((j * n + i : Nat) : Int)).f1 (by rw [hL_len]; omega)
      rw [B_false g4] at hm
      refine Ev.bind hm ?_
      simp only [Bool.false_eq_true, if_false, g2, bne_self_eq_false, hL_len, show i < 17592186044416 by omega, if_true, hL_succ, wrapNat (show i < 4611686018427387904 by omega)]
      simp only [Int.toNat_natCast] at hr
      exact hr
    · intro i _ hi hg
      refine evSucc ?_
      have hb := jn_lt hj hi
      have hw : wrap64 ((wrap64 ((j : Int) * (n : Int))) + (i : Int)) = ((j * n + i : Nat) : Int) := by
        rw [wrapIn (x := (j : Int) * (n : Int)) (by omega) (by omega), wrapIn (by omega) (by omega)]; omega
      have hn1 : wrap64 ((n : Int) - 1) = (n : Int) - 1 := wrapIn (by omega) (by omega)
      simp only [spec_IsThreadPath.l1, Int.toNat_natCast, show (i : Int) < (n : Int) by omega, if_true, hw, hn1, show (0 : Int) ≤ ((j * n + i : Nat) : Int) by omega, show ((j * n + i : Nat) : Int) < (p.length : Int) by omega, inS, Option.bind_some, decide_eq_true_eq]
      by_cases g1 : (rd_T65 p ((j * n + i : Nat) : Int)).f0 = (j : Int)
      · simp only [g1, if_true]
        by_cases g3 : 0 ≤ (rd_T65 p ((j * n + i : Nat) : Int)).f1 ∧ (rd_T65 p ((j * n + i : Nat) : Int)).f1 ≤ (n : Int) - 1
        · simp only [g3, and_self, if_true]
          have hm := hasS (hL p n j i) (rd_T65 p ((j * n + i : Nat) : Int)).f1 (by rw [hL_len]; omega)
          refine Ev.bind hm ?_
          by_cases g4 : (rd_T65 p ((j * n + i : Nat) : Int)).f1 ∈ hL p n j i
          · simp only [B_true g4, if_true]
            exact Ev.now _
          · have g2 : ¬ (rd_T65 p ((j * n + i : Nat) : Int)).f2 = (Int.tmod (i : Int) 2 == 0) := fun g2 => hg ⟨⟨g1, g2⟩, g3, g4⟩
            simp only [B_false g4, Bool.false_eq_true, if_false, bne_iff_ne.2 g2, if_true]
            exact Ev.now _
        · simp only [g3, if_false]
          exact Ev.now _
      · simp only [g1, if_false]
        exact Ev.now _
    · intro hall
      simp only [Int.toNat_natCast]
      exact he fun i hi => hall i (Nat.zero_le _) hi
  have := evAllC (fun k j => spec_IsThreadPath.l0 k (n : Int) (c : Int) p j) 0 c (JAt p n) ?_ ?_ true ?_ (Nat.zero_le _)
  · rw [all0, Bool.and_true] at this
    exact this
  · intro j _ hj ⟨hg, hL0⟩ r hr
    refine evSucc ?_
    simp only [spec_IsThreadPath.l0, show (j : Int) < (c : Int) by omega, if_true]
    have := inner j hj r ?_
    · rw [B_true hg, Bool.true_and] at this
      exact this
    · intro _
      refine evSucc ?_
      have hb := jn_lt hj (show 0 < n by omega)
      simp only [spec_IsThreadPath.l1, Int.lt_irrefl, if_false, wrapNat (show j < 4611686018427387904 by omega)]
      by_cases j0 : 0 < j
      · have hjn : 1 * 2 ≤ j * n := Nat.mul_le_mul j0 h1
        have hw : wrap64 ((j : Int) * (n : Int)) = ((j * n : Nat) : Int) := by rw [wrapIn (by omega) (by omega)]; omega
        have hw1 : wrap64 (((j * n : Nat) : Int) - 1) = ((j * n - 1 : Nat) : Int) := wrapPred (by omega) (by omega)
        simp only [hw, hw1, show (j : Int) > 0 by omega, show (0 : Int) ≤ ((j * n : Nat) : Int) by omega, show ((j * n : Nat) : Int) < (p.length : Int) by omega, show (0 : Int) ≤ ((j * n - 1 : Nat) : Int) by omega, show ((j * n - 1 : Nat) : Int) < (p.length : Int) by omega, if_true, hL0 j0]
        exact hr
      · simp only [show ¬ ((j : Int) > 0) by omega, if_false]
        exact hr
  · intro j _ hj hg
    refine evSucc ?_
    simp only [spec_IsThreadPath.l0, show (j : Int) < (c : Int) by omega, if_true]
    by_cases hL0 : LAt p n j
    · have hn : ¬ (∀ i, i < n → EAt p n j i ∧ OAt p n j i) := fun h => hg ⟨h, hL0⟩
      have := inner j hj true (fun h => absurd h hn)
      rw [B_false hn, Bool.false_and] at this
      exact this
    · have := inner j hj false ?_
      · rw [Bool.and_false] at this
        exact this
      · intro _
        refine evSucc ?_
        have hb := jn_lt hj (show 0 < n by omega)
        have j0 : 0 < j := Classical.byContradiction fun h => hL0 fun h' => absurd h' h
        have hne : ¬ (rd_T65 p ((j * n : Nat) : Int)).f1 = (rd_T65 p ((j * n - 1 : Nat) : Int)).f1 := fun h => hL0 fun _ => h
        have hjn : 1 * 2 ≤ j * n := Nat.mul_le_mul j0 h1
        have hw : wrap64 ((j : Int) * (n : Int)) = ((j * n : Nat) : Int) := by rw [wrapIn (by omega) (by omega)]; omega
        have hw1 : wrap64 (((j * n : Nat) : Int) - 1) = ((j * n - 1 : Nat) : Int) := wrapPred (by omega) (by omega)
        simp only [spec_IsThreadPath.l1, Int.lt_irrefl, if_false, hw, hw1, show (j : Int) > 0 by omega, show (0 : Int) ≤ ((j * n : Nat) : Int) by omega, show ((j * n : Nat) : Int) < (p.length : Int) by omega, show (0 : Int) ≤ ((j * n - 1 : Nat) : Int) by omega, show ((j * n - 1 : Nat) : Int) < (p.length : Int) by omega, if_true, hne]
        exact Ev.now _
  · intro _
    refine evSucc ?_
    simp only [spec_IsThreadPath.l0, Int.lt_irrefl, if_false]
    exact Ev.now _
theorem threadS (n c : Int) (p : List S65) : Ev (fun k => spec_IsThreadPath.f k n c p) (threadB n c p) := by
  unfold spec_IsThreadPath.f threadB
  simp only [sewnS, Option.bind_some]
  by_cases h : sewnB n c = true
  · obtain ⟨a, b, rfl, rfl, h1, h2, h3, h4⟩ := sewn_of h
    have hab : a * b ≤ 12 * 40 := Nat.mul_le_mul h2 h4
    have hw : wrap64 ((a : Int) * (b : Int)) = (a : Int) * (b : Int) := by
      have : (a : Int) * (b : Int) = ((a * b : Nat) : Int) := by omega
      exact wrapIn (by omega) (by omega)
    simp only [h, if_true, Bool.true_and, hw]
    by_cases h5 : Int.tmod (a : Int) 2 = 1
    · simp only [h5, if_true, decide_true, Bool.not_true, Bool.false_and]
      refine evSucc ?_
      simp only [spec_IsThreadPath.j0, if_true]
      exact Ev.now _
    · simp only [h5, if_false, decide_false, Bool.not_false, Bool.true_and]
      refine evSucc ?_
      by_cases h6 : (p.length : Int) = (a : Int) * (b : Int)
      · simp only [spec_IsThreadPath.j0, h6, bne_self_eq_false, Bool.false_eq_true, if_false, decide_true, Bool.true_and, Int.toNat_natCast]
        exact threadS_loop p a b h1 h2 h4 (by omega)
      · simp only [spec_IsThreadPath.j0, bne_iff_ne.2 h6, if_true, h6, decide_false, Bool.false_and]
        exact Ev.now _
  · simp only [h, if_false, Bool.false_eq_true, Bool.false_and]
    refine evSucc ?_
    simp only [spec_IsThreadPath.j0, if_true]
    exact Ev.now _

theorem pathS (h : List Int) (hl : h.length ≤ 1048576) (c : Int) (p : List S65) (t : Int) : Ev (fun k => spec_PathLength.f k h c p t) (pathV h c p t) := by
  unfold spec_PathLength.f pathV
  refine Ev.bind (holesS h hl) ?_
  by_cases h1 : holesB h = true
  · simp only [h1, if_true, sewnS, inS, Option.bind_some, holes_sewn h1, decide_eq_true_eq]
    by_cases h2 : 1 ≤ c ∧ c ≤ 40
    · simp only [h2, and_self, if_true]
      refine evSucc ?_
      by_cases h3 : 0 ≤ t ∧ t ≤ 1000000000
      · simp only [spec_PathLength.j0, h3, and_self, decide_true, Bool.not_true, Bool.false_eq_true, if_false, tmod_emod]
        by_cases h5 : (h.length : Int) % 2 = 1
        · simp only [checkV, h1, h2, h3, h5, and_self, if_true, show ¬ ((5 : Int) = 0) by decide, if_false]
          exact Ev.now _
        · simp only [checkV, h1, h2, h3, h5, and_self, if_true, if_false]
          refine Ev.bind (threadS _ c p) ?_
          by_cases ht : threadB (h.length : Int) c p = true
          · simp only [ht, if_true]
            have h4 := (B_iff.1 h1).1
            obtain ⟨b, rfl⟩ := Int.eq_ofNat_of_zero_le (show 0 ≤ c by omega)
            rw [Int.toNat_natCast]
            exact Ev.bind (lenS (ok_of h4.1 h4.2 (by omega) (by omega) rfl h1 ht) h3.1 h3.2) (Ev.now _)
          · simp only [ht, if_false, Bool.false_eq_true]
            exact Ev.now _
      · simp only [spec_PathLength.j0, h3, decide_false, Bool.not_false, if_true, checkV, and_false, if_false, show ¬ ((2 : Int) = 0) by decide]
        exact Ev.now _
    · simp only [h2, if_false]
      refine evSucc ?_
      simp only [spec_PathLength.j0, if_true, checkV, h2, false_and, and_false, if_false, show ¬ ((2 : Int) = 0) by decide]
      exact Ev.now _
  · simp only [h1, if_false, Bool.false_eq_true]
    refine evSucc ?_
    simp only [spec_PathLength.j0, if_true, checkV, h1, false_and, if_false, show ¬ ((2 : Int) = 0) by decide, Bool.false_eq_true]
    exact Ev.now _

theorem rising_le {l : List Int} (h : Rising l) : ∀ (d i : Nat), i + d < l.length → rd l (i : Int) ≤ rd l ((i + d : Nat) : Int)
  | 0, i, _ => Int.le_refl _
  | d + 1, i, hi => by
    have h1 := rising_le h d i (by omega)
    have h2 := h (i + d + 1) (by omega) (by omega)
    rw [Nat.add_sub_cancel] at h2
    have e : ((i + (d + 1) : Nat) : Int) = ((i + d + 1 : Nat) : Int) := by omega
    rw [e]
    omega

theorem likeT (l : List S65) (h : l.length ≤ 1048576) : Ev (fun k => laws_likeStitches9.f k l l) true := by
  unfold laws_likeStitches9.f
  simp only [if_true]
  have := evAll (fun k i => laws_likeStitches9.l0 k l l i) 0 l.length (fun _ => True) ?_ (fun i _ hi hn => absurd trivial hn) true ?_ (Nat.zero_le _)
  · simpa [B_true] using this
  · intro i _ hi _ r h
    refine evSucc ?_
    simp only [laws_likeStitches9.l0, show (i : Int) < (l.length : Int) by omega, show (0 : Int) ≤ (i : Int) by omega, if_true, beq_self_eq_true, Bool.not_true, Bool.or_false, Bool.false_eq_true, if_false, wrapNat (show i < 4611686018427387904 by omega)]
    exact h
  · refine evSucc ?_
    simp only [laws_likeStitches9.l0, Int.lt_irrefl, if_false]
    exact Ev.now _
theorem holes_rise {h : List Int} (hh : holesB h = true) : ∀ i j : Nat, i ≤ j → j < h.length → rd h (i : Int) ≤ rd h (j : Int) := fun i j hij hj => by
  have := rising_le (B_iff.1 hh).2.1 (j - i) i (by omega)
  rwa [show i + (j - i) = j by omega] at this
theorem plain_len2 {h : List Int} {c t : Int} (hc : checkV h c t = 0) : (plainV h c t).1 = (c - 1) * t + c * (rd h ((h.length - 1 : Nat) : Int) - rd h 0) := by
  obtain ⟨h1, h2, h3⟩ := checkV_ok hc
  have h4 := (B_iff.1 h1).1
  have h5 := checkV_even hc
  obtain ⟨b, rfl⟩ := Int.eq_ofNat_of_zero_le (show 0 ≤ c by omega)
  have ok := ok_of (c := b) h4.1 h4.2 (by omega) (by omega) rfl h1 (plain_ok h.length b h4.1 h4.2 (by omega) (by omega) (by rw [tmod_emod]; exact h5))
  unfold plainV
  rw [if_pos hc, Int.toNat_natCast]
  show sumS h (plainL h.length (b * h.length)) h.length t (h.length * b) = _
  rw [sum_end ok t, sumI_plain_end h h.length b h4.1 (by omega) (holes_rise h1)]
theorem path_two {h : List Int} {p : List S65} {c t : Int} (hc : checkV h c t = 0) (ht : threadB (h.length : Int) c p = true) : (c - 1) * t ≤ (pathV h c p t).1 ∧ (h.length = 2 → (pathV h c p t).1 = (plainV h c t).1) := by
  obtain ⟨h1, h2, h3⟩ := checkV_ok hc
  have h4 := (B_iff.1 h1).1
  obtain ⟨b, rfl⟩ := Int.eq_ofNat_of_zero_le (show 0 ≤ c by omega)
  have ok := ok_of h4.1 h4.2 (by omega) (by omega) rfl h1 ht
  have e1 : (pathV h (b : Int) p t).1 = ((b : Int) - 1) * t + sumI h p h.length (h.length * b) := by
    unfold pathV
    rw [if_pos hc, if_pos ht, Int.toNat_natCast]
    exact sum_end ok t
  refine ⟨by rw [e1]; have := (sumI_in ok (h.length * b) (Nat.le_refl _)).1; omega, fun hl2 => ?_⟩
  rw [plain_len2 hc, e1]
  congr 1
  have hn1 : ((h.length : Int) - 1) = 1 := by omega
  simp only [threadB, Bool.and_eq_true, decide_eq_true_eq, B_iff, Int.toNat_natCast] at ht
  have hj := ht.2.2.2
  have hf1 := ok.f1
  rw [hl2] at hf1 hj ⊢
  have hd : ∀ m : Nat, m + 1 < 2 * b → m / 2 = (m + 1) / 2 → (rd_T65 p ((m + 1 : Nat) : Int)).f1 ≠ (rd_T65 p (m : Int)).f1 := fun m hm he e => by
    have hm2 : m % 2 = 0 := by omega
    obtain ⟨j, rfl⟩ : ∃ j, m = j * 2 + 0 := ⟨m / 2, by omega⟩
    have := ((hj j (by omega)).1 1 (by omega)).2.2
    refine this ?_
    simp only [hL, List.mem_map, List.mem_range]
    exact ⟨0, by omega, e.symm⟩
  have := sumI_two h p b (holes_rise h1 0 1 (by omega) (by omega)) (fun m hm => by have := hf1 m hm; omega) hd (2 * b - 1) (by omega)
  rw [show 2 * b - 1 + 1 = 2 * b by omega, show 2 * b / 2 = b by omega] at this
  rw [this]
  rfl
theorem FnThreads : laws_FnThreads.Pure := by
  intro l _ _ hw
  refine Ev.rounds ?_
  unfold laws_FnThreads.f laws_big.f
  simp only [Option.bind_some]
  by_cases hb : (l.length : Int) > 4096
  · simp only [hb, decide_true, if_true]
    exact Ev.now _
  · simp only [hb, decide_false, Bool.false_eq_true, if_false]
    have hl : l.length ≤ 4096 := by omega
    obtain ⟨s0, e0, o0⟩ := from_ok l hw hl
    obtain ⟨n, m, a1, s1, e1, o1⟩ := drawSize o0
    obtain ⟨path, a2, s2, e2, o2⟩ := drawPath o1 n m
    obtain ⟨h, a3, s3, e3, o3, lh1, lh2⟩ := drawHoles o0
    obtain ⟨n4, c, a4, s4, e4, o4⟩ := drawSize o3
    obtain ⟨p, a5, s5, e5, o5⟩ := drawPath o4 (h.length : Int) c
    obtain ⟨t, a6, s6, e6, o6⟩ := drawLink o5
    obtain ⟨q, a7, s7, e7, o7, lq1, lq2⟩ := drawHoles o1
    obtain ⟨e, a8, s8, e8, o8⟩ := drawLink o7
    have d1 : Ev (fun k => spec_DrawPlainPath.f k l) (n, m) := by
      unfold spec_DrawPlainPath.f
      refine Ev.bind e0 ?_
      simp only [e1, Option.bind_some]
      exact Ev.now _
    have d2 : Ev (fun k => spec_DrawIsThreadPath.f k l) (n, m, path) := by
      unfold spec_DrawIsThreadPath.f
      refine Ev.bind e0 ?_
      simp only [e1, Option.bind_some]
      exact Ev.bind e2 (Ev.now _)
    have d3 : Ev (fun k => spec_DrawPathLength.f k l) (h, c, p, t) := by
      unfold spec_DrawPathLength.f
      refine Ev.bind e0 (Ev.bind e3 ?_)
      simp only [e4, Option.bind_some]
      refine Ev.bind e5 ?_
      simp only [e6, Option.bind_some]
      exact Ev.now _
    have d4 : Ev (fun k => spec_DrawPlainLength.f k l) (q, m, e) := by
      unfold spec_DrawPlainLength.f
      refine Ev.bind e0 ?_
      simp only [e1, Option.bind_some]
      refine Ev.bind e7 ?_
      simp only [e8, Option.bind_some]
      exact Ev.now _
    obtain ⟨P, E, hP, hPE, hPs, hPi⟩ := path_both n m
    refine Ev.bind d1 (Ev.bind hPi (Ev.bind hPs (Ev.bind d2 (Ev.bind d3 (Ev.bind (pathI h (by omega) c p t) (Ev.bind (pathS h (by omega) c p t) (Ev.bind d4 (Ev.bind (plainLenI q (by omega) m e) (Ev.bind (plainLenS q (by omega) m e) ?_)))))))))
    simp only [if_true]
    refine Ev.bind (likeT P (by omega)) ?_
    simp only [if_true]
    refine Ev.bind (threadI n m path) (Ev.bind (threadS n m path) ?_)
    simp only [bne_self_eq_false, Bool.false_eq_true, if_false]
    have both : Ev (fun k => laws_FnThreads.j1 k n m P E q m e (plainV q m e).1 (plainV q m e).2 false) true ∧ (¬ (pathV h c p t).2 = 0 → Ev (fun k => laws_FnThreads.j0 k n m P E h c t (pathV h c p t).1 (pathV h c p t).2 q m e (plainV q m e).1 (plainV q m e).2 false) true) := by
      refine ⟨evSucc ?_, fun h17 => evSucc ?_⟩
      simp only [laws_FnThreads.j1, Bool.false_eq_true, if_false]
      rotate_left
      simp only [laws_FnThreads.j0, h17, Bool.false_eq_true, if_false]
      all_goals (
        have last : Ev (fun k => if E = 0 then ((impl_IsThreadPath.f k n m P).bind fun t452 => (if t452 = true then (some ((P.length : Int) == (wrap64 (n * m)))) else (some false))) else (some true)) true := by
          by_cases hE : E = 0
          · have ht := hPE hE
            have h1 := threadI n m P
            rw [ht] at h1
            simp only [hE, if_true]
            refine Ev.bind h1 ?_
            simp only [if_true]
            simp only [threadB, Bool.and_eq_true, decide_eq_true_eq] at ht
            obtain ⟨a, b, rfl, rfl, x1, x2, x3, x4⟩ := sewn_of ht.1
            have hab := Nat.mul_le_mul x2 x4
            have hl3 := ht.2.2.1
            rw [← hl3, wrapIn (by omega) (by omega), beq_self_eq_true]
            exact Ev.now _
          · simp only [hE, if_false]
            exact Ev.now _
        by_cases hk : checkV q m e = 0
        · obtain ⟨h1, h2, h3⟩ := checkV_ok hk
          have h4 := (B_iff.1 h1)
          have e9 : (plainV q m e).2 = 0 := by unfold plainV; rw [if_pos hk]
          have e10 := plain_len2 hk
          have w1 : wrap64 ((q.length : Int) - 1) = ((q.length - 1 : Nat) : Int) := wrapPred (by omega) (by omega)
          have b1 := h4.2.2 (q.length - 1) (by omega) (by omega)
          have b0 := h4.2.2 0 (by omega) (by omega)
          rw [show ((0 : Nat) : Int) = 0 by rfl] at b0
          have m1 : m * (rd q ((q.length - 1 : Nat) : Int) - rd q 0) ≤ 40 * 20000 ∧ -(40 * 20000) ≤ m * (rd q ((q.length - 1 : Nat) : Int) - rd q 0) := by
            have u1 := Int.mul_le_mul_of_nonneg_left (show rd q ((q.length - 1 : Nat) : Int) - rd q 0 ≤ 20000 by omega) (show 0 ≤ m by omega)
            have u2 := Int.mul_le_mul_of_nonneg_left (show -20000 ≤ rd q ((q.length - 1 : Nat) : Int) - rd q 0 by omega) (show 0 ≤ m by omega)
            omega
          have m2 : 0 ≤ (m - 1) * e ∧ (m - 1) * e ≤ 39 * 1000000000 := ⟨Int.mul_nonneg (by omega) h3.1, Int.mul_le_mul (by omega) h3.2 h3.1 (by omega)⟩
          have w2 : wrap64 ((wrap64 (m * (wrap64 ((rd q ((q.length - 1 : Nat) : Int)) - (rd q 0))))) + (wrap64 ((wrap64 (m - 1)) * e))) = (m - 1) * e + m * (rd q ((q.length - 1 : Nat) : Int) - rd q 0) := by
            rw [wrapIn (x := rd q ((q.length - 1 : Nat) : Int) - rd q 0) (by omega) (by omega), wrapIn (x := m * _) (by omega) (by omega), wrapIn (x := m - 1) (by omega) (by omega), wrapIn (x := (m - 1) * e) (by omega) (by omega), wrapIn (by omega) (by omega), Int.add_comm]
          simp only [e9, if_true, w1, show (0 : Int) ≤ ((q.length - 1 : Nat) : Int) by omega, show ((q.length - 1 : Nat) : Int) < (q.length : Int) by omega, show (0 : Int) < (q.length : Int) by omega, w2, e10]
          exact last
        · have e9 : ¬ (plainV q m e).2 = 0 := by unfold plainV; rw [if_neg hk]; exact hk
          simp only [e9, if_false]
          exact last)
    by_cases h17 : (pathV h c p t).2 = 0
    · have hc : checkV h c t = 0 ∧ threadB (h.length : Int) c p = true := by
        unfold pathV at h17
        by_cases c1 : checkV h c t = 0
        · rw [if_pos c1] at h17
          by_cases c2 : threadB (h.length : Int) c p = true
          · exact ⟨c1, c2⟩
          · rw [if_neg c2] at h17
            exact absurd h17 (by decide)
        · rw [if_neg c1] at h17
          exact absurd h17 c1
      obtain ⟨g1, g2⟩ := path_two hc.1 hc.2
      obtain ⟨h1, h2, h3⟩ := checkV_ok hc.1
      have m2 : 0 ≤ (c - 1) * t ∧ (c - 1) * t ≤ 39 * 1000000000 := ⟨Int.mul_nonneg (by omega) h3.1, Int.mul_le_mul (by omega) h3.2 h3.1 (by omega)⟩
      have e9 : (plainV h c t).2 = 0 := by unfold plainV; rw [if_pos hc.1]
      have w2 : wrap64 ((wrap64 (c - 1)) * t) = (c - 1) * t := by rw [wrapIn (x := c - 1) (by omega) (by omega), wrapIn (by omega) (by omega)]
      refine evSucc ?_
      simp only [laws_FnThreads.j0, Bool.false_eq_true, if_false, h17, if_true]
      refine Ev.bind (plainLenI h (by omega) c t) ?_
      simp only [e9, if_true, w2, show ¬ ((pathV h c p t).1 < (c - 1) * t) by omega, if_false]
      by_cases c2 : h.length = 2
      · simp only [show ((h.length : Int) = 2) by omega, if_true, g2 c2, bne_self_eq_false]
        exact both.1
      · simp only [show ¬ ((h.length : Int) = 2) by omega, if_false]
        exact both.1
    · exact both.2 h17

end Go.Proofs.Ytdelnmbfokipoaa.Pure
