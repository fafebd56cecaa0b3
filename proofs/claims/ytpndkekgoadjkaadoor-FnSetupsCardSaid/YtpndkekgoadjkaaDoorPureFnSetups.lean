/- For every string of at most 4096 bytes: of what is drawn the program and the reference agree; a scheme is found from its set-up, the folded sheet has the size of a cell, and the layers are those of the sheet. -/
import Derived.Test.YtpndkekgoadjkaaDoorSayFnSetups
namespace Go.Proofs.YtpndkekgoadjkaaDoor.Pure
open Go.RowKit Go.Proofs.YtpndkekgoadjkaaDoor.PFnSetups Go.Proofs.YtpndkekgoadjkaaDoorW.PrintWords Go.Proofs.YtpndkekgoadjkaaDoorW.PrintLast
set_option linter.unusedVariables false
set_option linter.unusedSimpArgs false
-- BEGIN
/-- A proposition as a bool. -/
noncomputable def B (p : Prop) : Bool := @decide p (Classical.propDecidable p)
theorem B_iff {p : Prop} : B p = true ↔ p := by unfold B; exact @decide_eq_true_iff p (Classical.propDecidable p)
theorem B_true {p : Prop} (h : p) : B p = true := B_iff.2 h
theorem B_false {p : Prop} (h : ¬ p) : B p = false := by cases e : B p with | false => rfl | true => exact absurd (B_iff.1 e) h
theorem B_congr {p q : Prop} (h : p ↔ q) : B p = B q := by rw [propext h]
theorem B_dec (p : Prop) [Decidable p] : B p = decide p := by by_cases h : p <;> simp [h, B_true, B_false]
theorem B_and (p q : Prop) : (B p && B q) = B (p ∧ q) := by
  by_cases hp : p <;> by_cases hq : q <;> simp [B_true, B_false, hp, hq]
theorem B_not (p : Prop) : (!B p) = B (¬ p) := by by_cases hp : p <;> simp [B_true, B_false, hp]
theorem evSucc {α : Type} {g : Nat → Option α} {r : α} (h : Ev (fun k => g (k + 1)) r) : Ev g r := Ev.step (fun _ => rfl) h
theorem evNow {α : Type} {g : Nat → Option α} {r : α} (h : ∀ k, g k = some r) : Ev g r := ⟨0, fun k _ => h k⟩
theorem evCount {σ α : Type} (F : Nat → σ → Int → Option α) (i0 n : Nat) (S : Nat → σ) (r : α)
    (hstep : ∀ i, i0 ≤ i → i < n → Ev (fun k => F k (S (i + 1)) ((i + 1 : Nat) : Int)) r → Ev (fun k => F k (S i) (i : Int)) r) (hend : Ev (fun k => F k (S n) (n : Int)) r) (hle : i0 ≤ n) : Ev (fun k => F k (S i0) (i0 : Int)) r := by
  have key : ∀ d i, i0 ≤ i → i + d = n → Ev (fun k => F k (S i) (i : Int)) r := by
    intro d
    induction d with
    | zero =>
      intro i _ hi
      have h0 : i = n := by omega
      subst h0
      exact hend
    | succ d ih => intro i h0 hi; exact hstep i h0 (by omega) (ih (i + 1) (by omega) (by omega))
  exact key (n - i0) i0 (Nat.le_refl _) (by omega)
/-- A loop that leaves at the first place where G fails. -/
theorem evAll (F : Nat → Int → Option Bool) (i0 n : Nat) (G : Nat → Prop)
    (hstep : ∀ i, i0 ≤ i → i < n → G i → ∀ r, Ev (fun k => F k ((i + 1 : Nat) : Int)) r → Ev (fun k => F k (i : Int)) r) (hbad : ∀ i, i0 ≤ i → i < n → ¬ G i → Ev (fun k => F k (i : Int)) false) (e : Bool) (hend : Ev (fun k => F k (n : Int)) e) (hle : i0 ≤ n) :
    Ev (fun k => F k (i0 : Int)) (B (∀ j, i0 ≤ j → j < n → G j) && e) := by
  have key : ∀ d i, i0 ≤ i → i + d = n → Ev (fun k => F k (i : Int)) (B (∀ j, i ≤ j → j < n → G j) && e) := by
    intro d
    induction d with
    | zero =>
      intro i _ hi
      have h0 : i = n := by omega
      subst h0
      rw [B_true (fun j h1 h2 => absurd h2 (by omega)), Bool.true_and]
      exact hend
    | succ d ih =>
      intro i h0 hi
      by_cases hg : G i
      · have h1 : B (∀ j, i ≤ j → j < n → G j) = B (∀ j, i + 1 ≤ j → j < n → G j) := B_congr ⟨fun h j a b => h j (by omega) b, fun h j a b => by
          by_cases e : j = i
          · subst e; exact hg
          · exact h j (by omega) b⟩
        rw [h1]
        exact hstep i h0 (by omega) hg _ (ih (i + 1) (by omega) (by omega))
      · rw [B_false (fun h => hg (h i (Nat.le_refl _) (by omega))), Bool.false_and]
        exact hbad i h0 (by omega) hg
  exact key (n - i0) i0 (Nat.le_refl _) (by omega)
theorem wrapNat {i : Nat} (h : i < 4611686018427387904) : wrap64 ((i : Int) + 1) = ((i + 1 : Nat) : Int) := by
  unfold wrap64; omega
theorem wrapPred {i : Nat} (h0 : 1 ≤ i) (h : i < 4611686018427387904) : wrap64 ((i : Int) - 1) = ((i - 1 : Nat) : Int) := by
  unfold wrap64; omega
theorem rdN (xs : List Int) (i : Nat) (h : i < xs.length) : rd xs (i : Int) = xs[i] := by
  simp [rd, List.getD_eq_getElem?_getD, List.getElem?_eq_getElem h]
theorem fillStep {α : Type} (xs : List α) (z : α) (i : Nat) (h : i < xs.length) : (xs.take i ++ List.replicate (xs.length - i) z).set i xs[i] = xs.take (i + 1) ++ List.replicate (xs.length - (i + 1)) z := by
  have h1 : xs.length - i = (xs.length - (i + 1)) + 1 := by omega
  rw [h1, List.replicate_succ, List.set_append_right _ _ (by rw [List.length_take]; omega)]
  rw [List.length_take, Nat.min_eq_left (by omega), Nat.sub_self, List.set_cons_zero, List.take_succ_eq_append_getElem h, List.append_assoc]
  rfl
theorem fillLen {α : Type} (xs : List α) (z : α) (i : Nat) (h : i ≤ xs.length) : (xs.take i ++ List.replicate (xs.length - i) z).length = xs.length := by
  simp; omega

theorem wrapIn {x : Int} (h0 : -9223372036854775808 ≤ x) (h1 : x ≤ 9223372036854775807) : wrap64 x = x := by
  unfold wrap64; omega

structure OkS (l : List Int) (a s : Int) : Prop where
  bytes : ∀ x ∈ l, 0 ≤ x ∧ x ≤ 255
  len : l.length ≤ 4096
  a0 : 0 ≤ a
  a1 : a ≤ l.length
  s0 : 0 ≤ s
  s1 : s < 2147483647
theorem rd_byte {l : List Int} (h : ∀ x ∈ l, 0 ≤ x ∧ x ≤ 255) (i : Int) : 0 ≤ rd l i ∧ rd l i ≤ 255 := spec_l01Next.byte h i
theorem next_ok {l : List Int} {a s : Int} (h : OkS l a s) (n : Int) :
    ∃ r a' s', spec_l01Next.f l a s n = some (r, a', s') ∧ OkS l a' s' ∧ (1 ≤ n → 0 ≤ r ∧ r < n) ∧ (n ≤ 1 → r = 0) := by
  have hs := h.s0
  have hs1 := h.s1
  have ha0 := h.a0
  have ha1 := h.a1
  have hl := h.len
  have hb := rd_byte h.bytes a
  refine ⟨(spec_l01Next.V l a s n).1, (spec_l01Next.V l a s n).2.1, (spec_l01Next.V l a s n).2.2, ?_, ?_⟩
  · unfold spec_l01Next.f
    rw [if_pos ⟨h.bytes, by omega, ⟨ha0, ha1⟩, hs, hs1⟩]
  · unfold spec_l01Next.V
    have hS0 : 0 ≤ (s * 48271 + 61) % 2147483647 := by omega
    have hS1 : (s * 48271 + 61) % 2147483647 < 2147483647 := by omega
    have modr : ∀ x : Int, 1 < n → 0 ≤ x % n ∧ x % n < n := fun x hn => ⟨Int.emod_nonneg _ (by omega), Int.emod_lt_of_pos _ (by omega)⟩
    by_cases hn : n ≤ 1
    · rw [if_pos hn]
      exact ⟨h, fun _ => ⟨by simp, by simp; omega⟩, fun _ => rfl⟩
    · rw [if_neg hn]
      by_cases c1 : a < (l.length : Int)
      · rw [if_pos c1]
        have ok1 : OkS l (a + 1) ((s * 48271 + 61) % 2147483647) := ⟨h.bytes, h.len, by omega, by omega, hS0, hS1⟩
        by_cases c2 : n ≤ 256 ∧ (a + 1) % 2 = 0
        · rw [if_pos c2]
          exact ⟨ok1, fun _ => modr _ (by omega), fun h1 => absurd h1 hn⟩
        · rw [if_neg c2]
          exact ⟨ok1, fun _ => modr _ (by omega), fun h1 => absurd h1 hn⟩
      · rw [if_neg c1]
        exact ⟨⟨h.bytes, h.len, ha0, ha1, hS0, hS1⟩, fun _ => modr _ (by omega), fun h1 => absurd h1 hn⟩
theorem from_loop (l : List Int) (hb : ∀ x ∈ l, 0 ≤ x ∧ x ≤ 255) (_hl : l.length ≤ 4096) (d : Nat) : ∀ (i : Nat) (s : Int), i + d = l.length → 0 ≤ s → s < 2147483647 → ∃ r, Ev (fun k => spec_l01From.l0 k l (i : Int) l 0 s) (l, 0, r) ∧ 0 ≤ r ∧ r < 2147483647 := by
  induction d with
  | zero =>
    intro i s hi h0 h1
    refine ⟨s, evSucc ?_, h0, h1⟩
    simp only [spec_l01From.l0, show ¬ ((i : Int) < (l.length : Int)) by omega, if_false]
    exact Ev.now _
  | succ d ih =>
    intro i s hi h0 h1
    by_cases h64 : (i : Int) < 64
    · have hr := rd_byte hb (i : Int)
      have he : Int.tmod (wrap64 ((wrap64 (s * 71)) + (wrap64 (rd l (i : Int))))) 2147483647 = (s * 71 + rd l (i : Int)) % 2147483647 := by
        rw [wrapIn (x := s * 71) (by omega) (by omega), wrapIn (x := rd l (i : Int)) (by omega) (by omega), wrapIn (by omega) (by omega), Int.tmod_eq_emod_of_nonneg (by omega)]
      obtain ⟨r, hr1, hr2, hr3⟩ := ih (i + 1) ((s * 71 + rd l (i : Int)) % 2147483647) (by omega) (by omega) (by omega)
      refine ⟨r, evSucc ?_, hr2, hr3⟩
      simp only [spec_l01From.l0, show (i : Int) < (l.length : Int) by omega, h64, show (0 : Int) ≤ (i : Int) by omega, if_true, he, wrapNat (show i < 4611686018427387904 by omega)]
      exact hr1
    · refine ⟨s, evSucc ?_, h0, h1⟩
      simp only [spec_l01From.l0, show (i : Int) < (l.length : Int) by omega, h64, if_true, if_false]
      exact Ev.now _
theorem from_ok (l : List Int) (hw : ∀ x ∈ l, (Lit.int .u8 x).wf = true) (hl : l.length ≤ 4096) : ∃ s, Ev (fun k => spec_l01From.f k l) (l, 0, s) ∧ OkS l 0 s := by
  have hb : ∀ x ∈ l, 0 ≤ x ∧ x ≤ 255 := fun x hx => by
    have := hw x hx
    simp [Lit.wf, IntKind.min, IntKind.max, IntKind.signed, IntKind.bits] at this
    omega
  obtain ⟨r, h1, h2, h3⟩ := from_loop l hb hl l.length 0 88007 (by omega) (by omega) (by omega)
  refine ⟨r, ?_, ⟨hb, hl, by omega, by omega, h2, h3⟩⟩
  unfold spec_l01From.f
  exact h1

theorem pick_ok {l : List Int} {a s : Int} (h : OkS l a s) (xs : List Int) (h0 : 0 < xs.length) :
    ∃ r a' s', spec_l01Pick.f l a s xs = some (r, a', s') ∧ OkS l a' s' ∧ r ∈ xs := by
  obtain ⟨r, a', s', h1, h2, h3, _⟩ := next_ok h (xs.length : Int)
  obtain ⟨h4, h5⟩ := h3 (by omega)
  refine ⟨rd xs r, a', s', ?_, h2, ?_⟩
  · unfold spec_l01Pick.f
    rw [h1]
    simp only [Option.bind_some]
    rw [if_pos h4, if_pos h5]
  · unfold rd
    rw [List.getD_eq_getElem?_getD, List.getElem?_eq_getElem (show r.toNat < xs.length by omega)]
    exact List.getElem_mem _

theorem ba_len (s : ByteArray) : s.data.toList.length = s.size := Array.length_toList
theorem ba_loop (s : ByteArray) : ∀ (d i : Nat) (r : List UInt8), i + d = s.size → ByteArray.toList.loop s i r = r.reverse ++ s.data.toList.drop i := by
  have hl := ba_len s
  intro d
  induction d with
  | zero =>
    intro i r h
    unfold ByteArray.toList.loop
    rw [if_neg (by omega), List.drop_eq_nil_of_le (by omega), List.append_nil]
  | succ d ih =>
    intro i r h
    unfold ByteArray.toList.loop
    have e : s.get! i = s.data.toList[i]'(by omega) := by
      obtain ⟨a⟩ := s
      have hi : i < a.size := by have : (ByteArray.mk a).size = a.size := rfl; omega
      show a[i]! = _
      rw [getElem!_pos a i hi]
      rfl
    rw [if_pos (by omega), ih (i + 1) _ (by omega), List.drop_eq_getElem_cons (show i < s.data.toList.length by omega), e, List.reverse_cons, List.append_assoc]
    rfl
theorem ba_toList (s : ByteArray) : s.toList = s.data.toList := by
  unfold ByteArray.toList
  rw [ba_loop s s.size 0 [] (by omega)]
  rfl
theorem bt_rd (s : ByteArray) (i : Nat) (h : i < s.size) : bt s (i : Int) = rd (bytesOf s) (i : Int) := by
  have hl := ba_len s
  unfold bt rd bytesOf
  rw [Int.toNat_natCast, dif_pos h, List.getD_eq_getElem?_getD, List.getElem?_map, List.getElem?_eq_getElem (by omega)]
  rfl
theorem bytes_len (s : ByteArray) : (bytesOf s).length = s.size := by unfold bytesOf; rw [List.length_map, ba_len]
theorem bytes_in (s : ByteArray) : ∀ x ∈ bytesOf s, 0 ≤ x ∧ x ≤ 255 := by
  intro x hx
  unfold bytesOf at hx
  obtain ⟨b, _, rfl⟩ := List.mem_map.1 hx
  have := b.toNat_lt
  omega
theorem count_bytes (l : List UInt8) (b : UInt8) : l.count b = (l.map fun c => (c.toNat : Int)).count ((b.toNat : Nat) : Int) := by
  induction l with
  | nil => rfl
  | cons c l ih =>
    rw [List.map_cons, List.count_cons, List.count_cons, ih]
    by_cases e : c = b
    · subst e; simp
    · have : ¬ c.toNat = b.toNat := fun g => e (UInt8.toNat_inj.1 g)
      rw [beq_eq_false_iff_ne.mpr e, beq_eq_false_iff_ne.mpr (by omega)]

theorem inS (a b c : Int) : spec_l01In.f a b c = some (decide (b ≤ a ∧ a ≤ c)) := by
  unfold spec_l01In.f
  by_cases h : b ≤ a <;> simp [h]

theorem inI (a b c : Int) : impl_inRange.f a b c = some (decide (b ≤ a ∧ a ≤ c)) := by
  unfold impl_inRange.f
  by_cases h : b ≤ a <;> simp [h]

theorem dropWhile_nil {p : UInt8 → Bool} : ∀ l : List UInt8, l.dropWhile p = [] ↔ ∀ x ∈ l, p x = true
  | [] => by simp
  | x :: l => by
    rw [List.dropWhile_cons]
    by_cases c : p x = true
    · rw [if_pos c, dropWhile_nil l]
      simp [c]
    · rw [if_neg c]
      simp [c]
theorem dropWhile_head {p : UInt8 → Bool} : ∀ l : List UInt8, ∀ x t, l.dropWhile p = x :: t → p x = false
  | [], _, _, h => by simp at h
  | y :: l, x, t, h => by
    rw [List.dropWhile_cons] at h
    by_cases c : p y = true
    · rw [if_pos c] at h; exact dropWhile_head l x t h
    · rw [if_neg c] at h
      injection h with h1 _
      subst h1
      simpa using c
theorem trim_nil (l cs : List UInt8) : Go.Lib.trimS l cs = [] ↔ ∀ x ∈ l, cs.contains x = true := by
  unfold Go.Lib.trimS Go.Lib.trimLeftS Go.Lib.trimRightS
  rw [dropWhile_nil]
  constructor
  · intro h
    cases e : l.reverse.dropWhile (cs.contains ·) with
    | nil =>
      rw [dropWhile_nil] at e
      exact fun x hx => e x (List.mem_reverse.2 hx)
    | cons x t =>
      have h1 := dropWhile_head _ _ _ e
      rw [e] at h
      have h2 := h x (by simp)
      rw [h1] at h2
      cases h2
  · intro h x hx
    exact h x (List.mem_reverse.1 ((List.dropWhile_sublist _).subset (List.mem_reverse.1 hx)))
def sideB (n : Int) : Bool := decide (n = 1 ∨ n = 2 ∨ n = 4 ∨ n = 8)
def pw (n : Int) : Int := if n = 1 then 0 else if n = 2 then 1 else if n = 4 then 2 else if n = 8 then 3 else 0
def alongs (l : List Int) : Nat := l.count 76 + l.count 82
def Letter (x : Int) : Prop := x = 76 ∨ x = 82 ∨ x = 84 ∨ x = 66
instance (x : Int) : Decidable (Letter x) := by unfold Letter; infer_instance
def schemeB (w h : Int) (l : List Int) : Bool := (sideB w && sideB h) && (decide (∀ x ∈ l, Letter x) && (decide ((alongs l : Int) = pw w) && decide (((l.length - alongs l : Nat) : Int) = pw h)))
theorem powerS (n : Int) : spec_l04Power.f n = some (pw n, sideB n) := by
  unfold spec_l04Power.f pw sideB
  by_cases h1 : n = 1
  · simp [h1]
  · by_cases h2 : n = 2
    · simp [h2]
    · by_cases h3 : n = 4
      · simp [h3]
      · by_cases h4 : n = 8
        · simp [h4]
        · simp [h1, h2, h3, h4]
theorem sideI (n : Int) : impl_isSide.f n = some (sideB n) := by
  unfold impl_isSide.f sideB
  by_cases h1 : n = 1
  · simp [h1]
  · by_cases h2 : n = 2
    · simp [h2]
    · by_cases h3 : n = 4
      · simp [h3]
      · simp only [h1, h2, h3, if_false, false_or]
        by_cases h4 : n = 8 <;> simp [h4]
theorem sheetI (w h : Int) : impl_isSheet.f w h = some (sideB w && sideB h) := by
  unfold impl_isSheet.f
  simp only [sideI, Option.bind_some]
  cases sideB w <;> simp
theorem sheetS (w h : Int) : spec_l04Sheet.f w h = some (sideB w && sideB h) := by
  unfold spec_l04Sheet.f
  simp only [powerS, Option.bind_some]
  cases sideB w <;> simp
theorem halvI (n : Int) (h : sideB n = true) : Ev (fun k => impl_halvings.f k n) (pw n) := by
  unfold sideB at h
  have t2 : wrap64 (Int.tdiv 2 2) = 1 := by rw [show Int.tdiv 2 2 = 1 from rfl]; exact wrapIn (by decide) (by decide)
  have t4 : wrap64 (Int.tdiv 4 2) = 2 := by rw [show Int.tdiv 4 2 = 2 from rfl]; exact wrapIn (by decide) (by decide)
  have t8 : wrap64 (Int.tdiv 8 2) = 4 := by rw [show Int.tdiv 8 2 = 4 from rfl]; exact wrapIn (by decide) (by decide)
  have w0 : wrap64 (0 + 1) = 1 := wrapIn (by decide) (by decide)
  have w1 : wrap64 (1 + 1) = 2 := wrapIn (by decide) (by decide)
  have w2 : wrap64 (2 + 1) = 3 := wrapIn (by decide) (by decide)
  have e1 : ∀ c, Ev (fun k => impl_halvings.l0 k 1 c) c := fun c => by
    refine evSucc ?_
    simp only [impl_halvings.l0, show ¬ ((1 : Int) > 1) by decide, if_false]
    exact Ev.now _
  have e2 : ∀ c, Ev (fun k => impl_halvings.l0 k 2 c) (wrap64 (c + 1)) := fun c => by
    refine evSucc ?_
    simp only [impl_halvings.l0, show ((2 : Int) > 1) by decide, if_true, t2]
    exact e1 _
  have e4 : ∀ c, Ev (fun k => impl_halvings.l0 k 4 c) (wrap64 (wrap64 (c + 1) + 1)) := fun c => by
    refine evSucc ?_
    simp only [impl_halvings.l0, show ((4 : Int) > 1) by decide, if_true, t4]
    exact e2 _
  have e8 : ∀ c, Ev (fun k => impl_halvings.l0 k 8 c) (wrap64 (wrap64 (wrap64 (c + 1) + 1) + 1)) := fun c => by
    refine evSucc ?_
    simp only [impl_halvings.l0, show ((8 : Int) > 1) by decide, if_true, t8]
    exact e4 _
  have f2 := e2 0
  have f4 := e4 0
  have f8 := e8 0
  rw [w0] at f2 f4 f8
  rw [w1] at f4 f8
  rw [w2] at f8
  rcases of_decide_eq_true h with rfl | rfl | rfl | rfl
  · exact e1 0
  · exact f2
  · exact f4
  · exact f8
theorem alongs_le (l : List Int) : alongs l ≤ l.length := by
  unfold alongs
  induction l with
  | nil => simp
  | cons x l ih =>
    rw [List.count_cons, List.count_cons, List.length_cons]
    by_cases h1 : x = 76
    · subst h1; simp; omega
    · by_cases h2 : x = 82
      · subst h2; simp; omega
      · simp [h1, h2]; omega
theorem alongs_cons (x : Int) (l : List Int) : alongs (x :: l) = alongs l + (if x = 76 ∨ x = 82 then 1 else 0) := by
  unfold alongs
  rw [List.count_cons, List.count_cons]
  by_cases h1 : x = 76
  · subst h1; simp; omega
  · by_cases h2 : x = 82
    · subst h2; simp; omega
    · simp [h1, h2]
def restB (o : Bool) (l : List Int) (a b : Int) : Bool := o && (decide (∀ x ∈ l, Letter x) && (decide ((alongs l : Int) = a) && decide (((l.length - alongs l : Nat) : Int) = b)))
theorem letters_cons (x : Int) (l : List Int) : decide (∀ y ∈ x :: l, Letter y) = (decide (Letter x) && decide (∀ y ∈ l, Letter y)) := by
  rw [← Bool.decide_and]
  exact decide_eq_decide.2 (by simp)
theorem rest_along (o : Bool) (x : Int) (l : List Int) (a b : Int) (h : x = 76 ∨ x = 82) : restB o (x :: l) a b = restB o l (a - 1) b := by
  unfold restB
  rw [letters_cons, alongs_cons, if_pos h, decide_eq_true (show Letter x by unfold Letter; omega), Bool.true_and, List.length_cons]
  have h1 : decide (((alongs l + 1 : Nat) : Int) = a) = decide ((alongs l : Int) = a - 1) := decide_eq_decide.2 (by omega)
  rw [h1, Nat.add_sub_add_right]
theorem rest_cross (o : Bool) (x : Int) (l : List Int) (a b : Int) (h : x = 84 ∨ x = 66) : restB o (x :: l) a b = restB o l a (b - 1) := by
  have hle := alongs_le l
  unfold restB
  rw [letters_cons, alongs_cons, if_neg (by omega), decide_eq_true (show Letter x by unfold Letter; omega), Bool.true_and, List.length_cons, Nat.add_zero]
  have h1 : decide (((l.length + 1 - alongs l : Nat) : Int) = b) = decide (((l.length - alongs l : Nat) : Int) = b - 1) := decide_eq_decide.2 (by omega)
  rw [h1]
theorem rest_bad (o : Bool) (x : Int) (l : List Int) (a b : Int) (h : ¬ Letter x) : restB o (x :: l) a b = false := by
  unfold restB
  rw [letters_cons, decide_eq_false h]
  simp
theorem rest_nil (one two : Bool) (a b : Int) : restB (one && two) [] a b = (if one = true then (if two = true then (if a = 0 then (b == 0) else false) else false) else false) := by
  unfold restB
  have h1 : alongs [] = 0 := rfl
  rw [h1]
  cases one <;> cases two <;> simp
  by_cases ha : a = 0
  · subst ha
    simp
    by_cases hb : b = 0
    · subst hb; rfl
    · rw [decide_eq_false (fun h => hb h.symm), beq_eq_false_iff_ne.mpr hb]
  · rw [decide_eq_false (fun h => ha h.symm), decide_eq_false ha]; rfl
/-- The reference's test of a scheme, from a letter on. -/
theorem schS_l0 (s : ByteArray) (hs : s.size ≤ 1048576) (one two : Bool) : ∀ (d i : Nat) (a b : Int), i + d = s.size → -2000000 + (d : Int) ≤ a → a ≤ 10 → -2000000 + (d : Int) ≤ b → b ≤ 10 →
    Ev (fun k => spec_IsScheme.l0 k s a one b two (i : Int)) (restB (one && two) ((bytesOf s).drop i) a b) := by
  have hl := bytes_len s
  intro d
  induction d with
  | zero =>
    intro i a b hi _ _ _ _
    refine evSucc ?_
    rw [List.drop_eq_nil_of_le (show (bytesOf s).length ≤ i by omega), rest_nil]
    simp only [spec_IsScheme.l0, show ¬ ((i : Int) < (s.size : Int)) by omega, if_false]
    cases one <;> cases two <;> simp only [Bool.false_eq_true, if_false, if_true] <;> (try exact Ev.now _)
    by_cases ha : a = 0
    · simp only [ha, if_true]; exact Ev.now _
    · simp only [ha, if_false]; exact Ev.now _
  | succ d ih =>
    intro i a b hi ha1 ha2 hb1 hb2
    have hlt : i < (bytesOf s).length := by omega
    have hx : bt s (i : Int) = (bytesOf s)[i] := by rw [bt_rd s i (by omega), rdN (bytesOf s) i hlt]
    have hT := fun a' b' h1 h2 h3 h4 => ih (i + 1) a' b' (by omega) h1 h2 h3 h4
    rw [List.drop_eq_getElem_cons hlt]
    generalize (bytesOf s).drop (i + 1) = T at hT ⊢
    generalize (bytesOf s)[i] = x at hx ⊢
    have hw := wrapNat (show i < 4611686018427387904 by omega)
    have hwa : wrap64 (a - 1) = a - 1 := wrapIn (by omega) (by omega)
    have hwb : wrap64 (b - 1) = b - 1 := wrapIn (by omega) (by omega)
    have c0 : (i : Int) < (s.size : Int) := by omega
    have c1 : (0 : Int) ≤ (i : Int) := by omega
    refine evSucc ?_
    simp only [spec_IsScheme.l0, c0, c1, if_true, hx]
    by_cases x1 : x = 76
    · simp only [x1, if_true]
      refine evSucc ?_
      rw [rest_along _ _ _ _ _ (.inl rfl)]
      simp only [spec_IsScheme.j1, beq_self_eq_true, if_true, hw, hwa]
      exact hT _ _ (by omega) (by omega) (by omega) (by omega)
    · simp only [x1, if_false]
      refine evSucc ?_
      by_cases x2 : x = 82
      · rw [rest_along _ _ _ _ _ (.inr x2)]
        simp only [spec_IsScheme.j1, x2, beq_self_eq_true, if_true, hw, hwa]
        exact hT _ _ (by omega) (by omega) (by omega) (by omega)
      · have e2 : (x == 82) = false := beq_eq_false_iff_ne.mpr x2
        simp only [spec_IsScheme.j1, e2, Bool.false_eq_true, if_false]
        by_cases x3 : x = 84
        · rw [rest_cross _ _ _ _ _ (.inl x3)]
          simp only [x3, if_true, hw, hwb]
          exact hT _ _ (by omega) (by omega) (by omega) (by omega)
        · simp only [x3, if_false]
          by_cases x4 : x = 66
          · rw [rest_cross _ _ _ _ _ (.inr x4)]
            simp only [x4, if_true, hw, hwb]
            exact hT _ _ (by omega) (by omega) (by omega) (by omega)
          · simp only [x4, if_false]
            rw [rest_bad _ _ _ _ _ (by unfold Letter; omega)]
            exact Ev.now _
theorem pw_in (n : Int) : 0 ≤ pw n ∧ pw n ≤ 3 := by unfold pw; split <;> (try split) <;> (try split) <;> (try split) <;> decide
theorem scheme_rest (w h : Int) (l : List Int) : schemeB w h l = restB (sideB w && sideB h) l (pw w) (pw h) := rfl
theorem schS (w h : Int) (s : ByteArray) (hs : s.size ≤ 1048576) : Ev (fun k => spec_IsScheme.f k w h s) (schemeB w h (bytesOf s)) := by
  unfold spec_IsScheme.f
  simp only [powerS, Option.bind_some]
  have h1 := pw_in w
  have h2 := pw_in h
  have := schS_l0 s hs (sideB w) (sideB h) s.size 0 (pw w) (pw h) (by omega) (by omega) (by omega) (by omega) (by omega)
  rw [scheme_rest]
  simpa using this
theorem countI (s : ByteArray) (b : UInt8) : strings_Count.f s ⟨#[b]⟩ = some (((bytesOf s).count ((b.toNat : Nat) : Int) : Nat) : Int) := by
  show some ((Go.Lib.countByte s.data.toList b : Nat) : Int) = _
  unfold Go.Lib.countByte bytesOf
  rw [count_bytes]
theorem countL (s : ByteArray) : strings_Count.f s ⟨#[76]⟩ = some (((bytesOf s).count 76 : Nat) : Int) := countI s 76
theorem countR (s : ByteArray) : strings_Count.f s ⟨#[82]⟩ = some (((bytesOf s).count 82 : Nat) : Int) := countI s 82
theorem beq_dec (x y z : Int) (h : x = z) : (x == y) = decide (z = y) := by
  subst h
  by_cases c : x = y
  · rw [beq_iff_eq.mpr c, decide_eq_true c]
  · rw [beq_eq_false_iff_ne.mpr c, decide_eq_false c]
theorem sum_alongs (l : List Int) (h : l.length ≤ 1048576) : wrap64 (((l.count 76 : Nat) : Int) + ((l.count 82 : Nat) : Int)) = (alongs l : Int) := by
  have hle := alongs_le l
  have e : ((l.count 76 : Nat) : Int) + ((l.count 82 : Nat) : Int) = (alongs l : Int) := by unfold alongs; omega
  rw [e]
  generalize alongs l = n at hle
  exact wrapIn (by omega) (by omega)
theorem trimI (s : ByteArray) (hs : s.size ≤ 1048576) : ∃ t, strings_Trim.f s ⟨#[76, 82, 84, 66]⟩ = some t ∧ (t.toList != ([] : List UInt8)) = !decide (∀ x ∈ bytesOf s, Letter x) := by
  refine ⟨⟨(Go.Lib.trimS s.data.toList [76, 82, 84, 66]).toArray⟩, ?_, ?_⟩
  · unfold strings_Trim.f
    rw [if_pos rfl, if_pos (by omega)]
  · rw [ba_toList]
    have e : (⟨(Go.Lib.trimS s.data.toList [76, 82, 84, 66]).toArray⟩ : ByteArray).data.toList = Go.Lib.trimS s.data.toList [76, 82, 84, 66] := by simp
    rw [e]
    have h1 := trim_nil s.data.toList [76, 82, 84, 66]
    have h2 : (∀ x ∈ s.data.toList, ([76, 82, 84, 66] : List UInt8).contains x = true) ↔ ∀ x ∈ bytesOf s, Letter x := by
      unfold bytesOf
      constructor
      · intro h x hx
        obtain ⟨b, hb, rfl⟩ := List.mem_map.1 hx
        have := h b hb
        simp at this
        unfold Letter
        rcases this with rfl | rfl | rfl | rfl <;> simp
      · intro h b hb
        have := h _ (List.mem_map.2 ⟨b, hb, rfl⟩)
        unfold Letter at this
        simp
        rcases this with g | g | g | g
        · exact .inl (UInt8.toNat_inj.1 (show b.toNat = 76 by omega))
        · exact .inr (.inl (UInt8.toNat_inj.1 (show b.toNat = 82 by omega)))
        · exact .inr (.inr (.inl (UInt8.toNat_inj.1 (show b.toNat = 84 by omega))))
        · exact .inr (.inr (.inr (UInt8.toNat_inj.1 (show b.toNat = 66 by omega))))
    by_cases c : ∀ x ∈ bytesOf s, Letter x
    · rw [decide_eq_true c, h1.2 (h2.2 c)]; rfl
    · rw [decide_eq_false c]
      have : Go.Lib.trimS s.data.toList [76, 82, 84, 66] ≠ [] := fun g => c (h2.1 (h1.1 g))
      simpa using this
theorem schI (w h : Int) (s : ByteArray) (hs : s.size ≤ 1048576) : Ev (fun k => impl_IsScheme.f k w h s) (schemeB w h (bytesOf s)) := by
  unfold impl_IsScheme.f
  simp only [sheetI, Option.bind_some]
  have hl := bytes_len s
  have hle := alongs_le (bytesOf s)
  by_cases c : (sideB w && sideB h) = true
  · simp only [c, if_true]
    obtain ⟨t, h1, h2⟩ := trimI s hs
    simp only [h1, Option.bind_some, h2]
    refine evSucc ?_
    rw [scheme_rest, c]
    unfold restB
    by_cases d : ∀ x ∈ bytesOf s, Letter x
    · simp only [decide_eq_true d, Bool.not_true, impl_IsScheme.j0, Bool.false_eq_true, if_false, Bool.true_and]
      refine Ev.bind (evNow (fun _ => countL s)) (Ev.bind (evNow (fun _ => countR s)) ?_)
      have cw : sideB w = true := by revert c; cases sideB w <;> simp
      have ch : sideB h = true := by revert c; cases sideB h <;> simp
      have e1 := sum_alongs (bytesOf s) (by rw [hl]; exact hs)
      simp only [e1]
      refine Ev.bind (halvI w cw) ?_
      by_cases q : (alongs (bytesOf s) : Int) = pw w
      · simp only [q, if_true, decide_true, Bool.true_and]
        refine Ev.bind (halvI h ch) ?_
        rw [← q]
        have e3 : wrap64 ((s.size : Int) - (alongs (bytesOf s) : Int)) = (((bytesOf s).length - alongs (bytesOf s) : Nat) : Int) := by
          rw [hl] at hle ⊢
          generalize alongs (bytesOf s) = n at hle
          generalize s.size = z at hs hle
          rw [wrapIn (by omega) (by omega)]
          omega
        have e2 := beq_dec (wrap64 ((s.size : Int) - (alongs (bytesOf s) : Int))) (pw h) _ e3
        rw [e2]
        exact Ev.now _
      · simp only [q, if_false, decide_false, Bool.false_and]
        exact Ev.now _
    · simp only [decide_eq_false d, Bool.not_false, impl_IsScheme.j0, if_true, Bool.false_and, Bool.and_false]
      exact Ev.now _
  · simp only [c, Bool.false_eq_true, if_false]
    refine evSucc ?_
    rw [scheme_rest, Bool.eq_false_iff.2 c]
    simp only [impl_IsScheme.j0, if_true]
    exact Ev.now _
/-! the code of a sheet of cells and a scheme, and the sizes -/
def pieceB (a b : Int) : Bool := decide (1 ≤ a ∧ a ≤ 20000) && decide (1 ≤ b ∧ b ≤ 20000)
theorem pieceS (a b : Int) : spec_IsPiece.f a b = some (pieceB a b) := by
  unfold spec_IsPiece.f pieceB
  simp only [inS, Option.bind_some]
  by_cases c : 1 ≤ a ∧ a ≤ 20000 <;> simp [c]
theorem pieceI (a b : Int) : impl_IsPiece.f a b = some (pieceB a b) := by
  unfold impl_IsPiece.f pieceB
  simp only [inI, Option.bind_some]
  by_cases c : 1 ≤ a ∧ a ≤ 20000 <;> simp [c]
def cellsV (w h a b : Int) (l : List Int) : Int := if (sideB w && sideB h) = true then (if pieceB a b = true then (if schemeB w h l = true then 0 else 2) else 1) else 1
theorem cellsS (w h a b : Int) (s : ByteArray) (hs : s.size ≤ 1048576) : Ev (fun k => spec_l13Code.f k w h a b s) (cellsV w h a b (bytesOf s)) := by
  unfold spec_l13Code.f cellsV
  simp only [sheetS, Option.bind_some, pieceS]
  by_cases c : (sideB w && sideB h) = true
  · simp only [c, if_true]
    refine evSucc ?_
    by_cases d : pieceB a b = true
    · simp only [d, Bool.not_true, spec_l13Code.j0, Bool.false_eq_true, if_false, if_true]
      refine Ev.bind (schS w h s hs) ?_
      split <;> exact Ev.now _
    · simp only [Bool.eq_false_iff.2 d, Bool.not_false, spec_l13Code.j0, Bool.false_eq_true, if_false, if_true]
      exact Ev.now _
  · simp only [c, if_false]
    refine evSucc ?_
    simp only [spec_l13Code.j0, if_true]
    exact Ev.now _
theorem cellsI (w h a b : Int) (s : ByteArray) (hs : s.size ≤ 1048576) : Ev (fun k => impl_checkCells.f k w h a b s) (cellsV w h a b (bytesOf s)) := by
  unfold impl_checkCells.f cellsV
  simp only [sheetI, Option.bind_some, pieceI]
  by_cases c : (sideB w && sideB h) = true
  · simp only [c, if_true]
    by_cases d : pieceB a b = true
    · simp only [d, if_true]
      have e : Ev (fun k => impl_checkScheme.f k w h s) (if schemeB w h (bytesOf s) = true then 0 else 2) := by
        unfold impl_checkScheme.f
        simp only [sheetI, Option.bind_some, c, if_true]
        refine Ev.bind (schI w h s hs) ?_
        split <;> exact Ev.now _
      exact Ev.bind e (Ev.now _)
    · simp only [d, if_false]
      exact Ev.now _
  · simp only [c, if_false]
    exact Ev.now _
theorem cells_ok {w h a b : Int} {l : List Int} (e : cellsV w h a b l = 0) : (1 ≤ w ∧ w ≤ 8) ∧ (1 ≤ h ∧ h ≤ 8) ∧ (1 ≤ a ∧ a ≤ 20000) ∧ (1 ≤ b ∧ b ≤ 20000) ∧ schemeB w h l = true := by
  unfold cellsV at e
  by_cases c : (sideB w && sideB h) = true
  · rw [if_pos c] at e
    by_cases d : pieceB a b = true
    · rw [if_pos d] at e
      by_cases f : schemeB w h l = true
      · simp only [Bool.and_eq_true, sideB, decide_eq_true_eq] at c
        simp only [pieceB, Bool.and_eq_true, decide_eq_true_eq] at d
        exact ⟨by omega, by omega, d.1, d.2, f⟩
      · rw [if_neg f] at e; exact absurd e (by decide)
    · rw [if_neg d] at e; exact absurd e (by decide)
  · rw [if_neg c] at e; exact absurd e (by decide)
def along (x : Int) : Bool := decide (x = 76 ∨ x = 82)
/-- The sides after some folds. -/
def sizeV (W H : Int) (l : List Int) : Nat → Int × Int
  | 0 => (W, H)
  | i + 1 => if along (rd l (i : Int)) = true then (Int.tdiv (sizeV W H l i).1 2, (sizeV W H l i).2) else ((sizeV W H l i).1, Int.tdiv (sizeV W H l i).2 2)
theorem half_in (x : Int) (h : 0 ≤ x ∧ x ≤ 160000) : 0 ≤ Int.tdiv x 2 ∧ Int.tdiv x 2 ≤ 160000 := by
  rw [Int.tdiv_eq_ediv_of_nonneg h.1]
  omega
theorem size_in (W H : Int) (hW : 0 ≤ W ∧ W ≤ 160000) (hH : 0 ≤ H ∧ H ≤ 160000) (l : List Int) : ∀ i : Nat, (0 ≤ (sizeV W H l i).1 ∧ (sizeV W H l i).1 ≤ 160000) ∧ 0 ≤ (sizeV W H l i).2 ∧ (sizeV W H l i).2 ≤ 160000
  | 0 => ⟨hW, hH⟩
  | i + 1 => by
    have ih := size_in W H hW hH l i
    unfold sizeV
    split
    · exact ⟨half_in _ ih.1, ih.2⟩
    · exact ⟨ih.1, half_in _ ih.2⟩
theorem alongS (x : Int) : spec_l13Along.f x = some (along x) := by
  unfold spec_l13Along.f along
  by_cases c : x = 76
  · simp [c]
  · simp only [c, if_false, false_or]
    by_cases d : x = 82 <;> simp [d]
theorem prod_in {w a : Int} (hw : 1 ≤ w ∧ w ≤ 8) (ha : 1 ≤ a ∧ a ≤ 20000) : (0 ≤ w * a ∧ w * a ≤ 160000) ∧ wrap64 (w * a) = w * a := by
  have h1 : w * a ≤ 8 * 20000 := Int.mul_le_mul hw.2 ha.2 (by omega) (by omega)
  have h2 : 0 ≤ w * a := Int.mul_nonneg (by omega) (by omega)
  exact ⟨⟨h2, by omega⟩, wrapIn (by omega) (by omega)⟩
theorem sizeS (w h a b : Int) (s : ByteArray) (hw : 1 ≤ w ∧ w ≤ 8) (hh : 1 ≤ h ∧ h ≤ 8) (ha : 1 ≤ a ∧ a ≤ 20000) (hb : 1 ≤ b ∧ b ≤ 20000) (hs : s.size ≤ 1048576) (m : Nat) (hm : m ≤ s.size) :
    Ev (fun k => spec_l13Size.f k w h a b s (m : Int)) (sizeV (w * a) (h * b) (bytesOf s) m) := by
  unfold spec_l13Size.f
  have hW := prod_in hw ha
  have hH := prod_in hh hb
  rw [hW.2, hH.2]
  refine evCount (fun k (p : Int × Int) i => spec_l13Size.l0 k s (m : Int) i p.1 p.2) 0 m (sizeV (w * a) (h * b) (bytesOf s)) _ ?_ ?_ (Nat.zero_le _)
  · intro i _ hi hr
    have hin := size_in _ _ hW.1 hH.1 (bytesOf s) i
    have h1 := half_in _ hin.1
    have h2 := half_in _ hin.2
    refine evSucc ?_
    simp only [spec_l13Size.l0, show (i : Int) < (m : Int) by omega, show (0 : Int) ≤ (i : Int) by omega, show (i : Int) < (s.size : Int) by omega, if_true, bt_rd s i (by omega), alongS, Option.bind_some, wrapNat (show i < 4611686018427387904 by omega)]
    rw [wrapIn (x := Int.tdiv (sizeV (w * a) (h * b) (bytesOf s) i).1 2) (by omega) (by omega), wrapIn (x := Int.tdiv (sizeV (w * a) (h * b) (bytesOf s) i).2 2) (by omega) (by omega)]
    simp only [sizeV] at hr
    by_cases c : along (rd (bytesOf s) (i : Int)) = true
    · simp only [c, if_true] at hr ⊢; exact hr
    · simp only [c, if_false, Bool.false_eq_true] at hr ⊢; exact hr
  · refine evSucc ?_
    simp only [spec_l13Size.l0, Int.lt_irrefl, if_false]
    exact Ev.now _
def unitV (W H : Int) (l : List Int) (i : Nat) : S56 := ⟨along (rd l (i : Int)), if along (rd l (i : Int)) = true then (sizeV W H l (i + 1)).1 else (sizeV W H l (i + 1)).2, decide (rd l (i : Int) = 76 ∨ rd l (i : Int) = 84)⟩
def unitsV (W H : Int) (l : List Int) (n : Nat) : List S56 := (List.range n).map (unitV W H l)
def sizesV (W H : Int) (l : List Int) (n : Nat) : List S24 := (List.range (n + 1)).map fun i => ⟨(sizeV W H l i).1, (sizeV W H l i).2⟩
theorem units_succ (W H : Int) (l : List Int) (n : Nat) : unitsV W H l (n + 1) = unitsV W H l n ++ [unitV W H l n] := by simp [unitsV, List.range_succ]
theorem sizes_succ (W H : Int) (l : List Int) (n : Nat) : sizesV W H l (n + 1) = sizesV W H l n ++ [⟨(sizeV W H l (n + 1)).1, (sizeV W H l (n + 1)).2⟩] := by simp [sizesV, List.range_succ]
theorem setupI (w h a b : Int) (s : ByteArray) (hw : 1 ≤ w ∧ w ≤ 8) (hh : 1 ≤ h ∧ h ≤ 8) (ha : 1 ≤ a ∧ a ≤ 20000) (hb : 1 ≤ b ∧ b ≤ 20000) (hs : s.size ≤ 1048576) :
    Ev (fun k => impl_setupOf.f k w h a b s) (unitsV (w * a) (h * b) (bytesOf s) s.size, sizesV (w * a) (h * b) (bytesOf s) s.size) := by
  unfold impl_setupOf.f
  have hW := prod_in hw ha
  have hH := prod_in hh hb
  rw [hW.2, hH.2]
  refine evCount (fun k (p : List S56 × List S24 × Int × Int) i => impl_setupOf.l0 k s p.1 p.2.1 (s.size : Int) i p.2.2.1 p.2.2.2) 0 s.size (fun i => (unitsV (w * a) (h * b) (bytesOf s) i, sizesV (w * a) (h * b) (bytesOf s) i, (sizeV (w * a) (h * b) (bytesOf s) i).1, (sizeV (w * a) (h * b) (bytesOf s) i).2)) _ ?_ ?_ (Nat.zero_le _)
  · intro i _ hi hr
    have hin := size_in _ _ hW.1 hH.1 (bytesOf s) i
    have h1 := half_in _ hin.1
    have h2 := half_in _ hin.2
    have l1 : (unitsV (w * a) (h * b) (bytesOf s) i).length = i := by simp [unitsV]
    have l2 : (sizesV (w * a) (h * b) (bytesOf s) i).length = i + 1 := by simp [sizesV]
    refine evSucc ?_
    simp only [impl_setupOf.l0, show (i : Int) < (s.size : Int) by omega, show (0 : Int) ≤ (i : Int) by omega, if_true, bt_rd s i hi, Option.bind_some, wrapNat (show i < 4611686018427387904 by omega), List.length_cons, List.length_nil, l1, l2, show i + (0 + 1) < 5864062014805 by omega, show i + 1 + (0 + 1) < 8796093022208 by omega]
    rw [wrapIn (x := Int.tdiv (sizeV (w * a) (h * b) (bytesOf s) i).1 2) (by omega) (by omega), wrapIn (x := Int.tdiv (sizeV (w * a) (h * b) (bytesOf s) i).2 2) (by omega) (by omega)]
    simp only [units_succ, sizes_succ, unitV, sizeV] at hr
    generalize rd (bytesOf s) (i : Int) = x at hr ⊢
    by_cases c1 : x = 76
    · subst c1
      simp only [if_true]
      exact hr
    · simp only [c1, if_false]
      by_cases c2 : x = 82
      · subst c2
        simp only [if_true]
        exact hr
      · simp only [c2, if_false]
        have e1 : along x = false := by unfold along; exact decide_eq_false (by omega)
        have e3 : (x == 84) = decide (x = 76 ∨ x = 84) := by
          by_cases c3 : x = 84
          · subst c3; rfl
          · rw [beq_eq_false_iff_ne.mpr c3, decide_eq_false (by omega)]
        rw [e1, ← e3] at hr
        exact hr
  · refine evSucc ?_
    simp only [impl_setupOf.l0, Int.lt_irrefl, if_false]
    exact Ev.now _

theorem strOf_size (l : List Int) : (strOfNums l).size = l.length := by
  show ((l.map fun n => UInt8.ofNat n.toNat).toArray).size = _
  simp
theorem drawSide {l : List Int} {a s : Int} (h : OkS l a s) : ∃ v a' s', spec_l04DrawSide.f l a s = some (v, a', s') ∧ OkS l a' s' := by
  obtain ⟨r1, a1, s1, h1, k1, _⟩ := next_ok h 40
  unfold spec_l04DrawSide.f
  by_cases c : r1 = 0
  · obtain ⟨r2, a2, s2, h2, k2, _⟩ := pick_ok k1 [0, 3, (-1), 16] (by decide)
    refine ⟨r2, a2, s2, ?_, k2⟩
    simp only [h1, Option.bind_some, c, if_true, h2]
  · obtain ⟨r2, a2, s2, h2, k2, _⟩ := pick_ok k1 [1, 2, 2, 4, 4, 8] (by decide)
    refine ⟨r2, a2, s2, ?_, k2⟩
    simp only [h1, Option.bind_some, c, if_false, h2]
theorem draw_l0 (l : List Int) (w h : Int) : ∀ (d : Nat) (p q : Int) (o : List Int) (a s : Int), OkS l a s → 0 ≤ p → 0 ≤ q → p + q = (d : Int) → o.length + d ≤ 10 → ∃ t a' s', Ev (fun k => spec_l04Draw.l0 k w h p q o l a s) (w, h, t, a', s') ∧ OkS l a' s' ∧ t.size ≤ 20 := by
  intro d
  induction d with
  | zero =>
    intro p q o a s hk hp hq hd ho
    obtain ⟨r1, a1, s1, h1, k1, _⟩ := next_ok hk 40
    have hz := strOf_size o
    have hw : wrap64 (p + q) = 0 := by rw [wrapIn (by omega) (by omega)]; omega
    by_cases c : r1 = 0
    · refine ⟨strOfNums o ++ (⟨#[76]⟩ : ByteArray), a1, s1, evSucc ?_, k1, ?_⟩
      · simp only [spec_l04Draw.l0, hw, show ¬ ((0 : Int) > 0) by decide, if_false, h1, Option.bind_some, c, if_true, hz, show o.length + 1 ≤ 9223372036854775807 by omega]
        exact Ev.now _
      · rw [ByteArray.size_append, hz]; show o.length + 1 ≤ 20; omega
    · by_cases c2 : r1 = 1
      · refine ⟨(⟨#[120]⟩ : ByteArray), a1, s1, evSucc ?_, k1, by decide⟩
        simp only [spec_l04Draw.l0, hw, show ¬ ((0 : Int) > 0) by decide, if_false, h1, Option.bind_some, c2, show ¬ ((1 : Int) = 0) by decide, if_true]
        exact Ev.now _
      · refine ⟨strOfNums o, a1, s1, evSucc ?_, k1, by omega⟩
        simp only [spec_l04Draw.l0, hw, show ¬ ((0 : Int) > 0) by decide, if_false, h1, Option.bind_some, c, c2]
        exact Ev.now _
  | succ d ih =>
    intro p q o a s hk hp hq hd ho
    obtain ⟨r1, a1, s1, h1, k1, b1, _⟩ := next_ok hk (p + q)
    have b1 := b1 (by omega)
    obtain ⟨r2, a2, s2, h2, k2, b2, _⟩ := next_ok k1 2
    have b2 := b2 (by decide)
    have hw : wrap64 (p + q) = p + q := wrapIn (by omega) (by omega)
    by_cases c : r1 < p
    · obtain ⟨t, a', s', h3, k3, h4⟩ := ih (p - 1) q (o ++ [bt (⟨#[76, 82]⟩ : ByteArray) r2]) a2 s2 k2 (by omega) hq (by omega) (by rw [List.length_append, List.length_singleton]; omega)
      refine ⟨t, a', s', evSucc ?_, k3, h4⟩
      simp only [spec_l04Draw.l0, hw, show p + q > 0 by omega, if_true, h1, Option.bind_some, c, h2, b2, show o.length < 140737488355328 by omega, wrapIn (show -9223372036854775808 ≤ p - 1 by omega) (show p - 1 ≤ 9223372036854775807 by omega)]
      exact h3
    · obtain ⟨t, a', s', h3, k3, h4⟩ := ih p (q - 1) (o ++ [bt (⟨#[84, 66]⟩ : ByteArray) r2]) a2 s2 k2 hp (by omega) (by omega) (by rw [List.length_append, List.length_singleton]; omega)
      refine ⟨t, a', s', evSucc ?_, k3, h4⟩
      simp only [spec_l04Draw.l0, hw, show p + q > 0 by omega, if_true, h1, Option.bind_some, c, if_false, h2, b2, show o.length < 140737488355328 by omega, wrapIn (show -9223372036854775808 ≤ q - 1 by omega) (show q - 1 ≤ 9223372036854775807 by omega)]
      exact h3
theorem draw04 {l : List Int} {a s : Int} (hk : OkS l a s) : ∃ w h t a' s', Ev (fun k => spec_l04Draw.f k l a s) (w, h, t, a', s') ∧ OkS l a' s' ∧ t.size ≤ 20 := by
  obtain ⟨w, a1, s1, h1, k1⟩ := drawSide hk
  obtain ⟨h, a2, s2, h2, k2⟩ := drawSide k1
  have pw1 := pw_in w
  have pw2 := pw_in h
  obtain ⟨t, a', s', h3, k3, h4⟩ := draw_l0 l w h (pw w + pw h).toNat (pw w) (pw h) [] a2 s2 k2 (by omega) (by omega) (by omega) (by simp; omega)
  refine ⟨w, h, t, a', s', ?_, k3, h4⟩
  unfold spec_l04Draw.f
  simp only [h1, h2, powerS, Option.bind_some]
  exact h3
theorem drawPiece {l : List Int} {a s : Int} (h : OkS l a s) : ∃ x y a' s', spec_l09DrawPiece.f l a s = some (x, y, a', s') ∧ OkS l a' s' := by
  obtain ⟨r1, a1, s1, h1, k1, _⟩ := next_ok h 40
  unfold spec_l09DrawPiece.f
  by_cases c : r1 = 0
  · obtain ⟨r2, a2, s2, h2, k2, _⟩ := pick_ok k1 [0, 1, 20000, 20001] (by decide)
    obtain ⟨r3, a3, s3, h3, k3, _⟩ := pick_ok k2 [1, 20000] (by decide)
    refine ⟨r2, r3, a3, s3, ?_, k3⟩
    simp only [h1, Option.bind_some, c, if_true, h2, h3]
  · obtain ⟨r2, a2, s2, h2, k2, _⟩ := next_ok k1 60
    obtain ⟨r3, a3, s3, h3, k3, _⟩ := next_ok k2 60
    refine ⟨wrap64 (1 + r2), wrap64 (1 + r3), a3, s3, ?_, k3⟩
    simp only [h1, Option.bind_some, c, if_false, h2, h3]
theorem draw13 {l : List Int} {a s : Int} (hk : OkS l a s) : ∃ w h x y t a' s', Ev (fun k => spec_l13Draw.f k l a s) (w, h, x, y, t, a', s') ∧ OkS l a' s' ∧ t.size ≤ 20 := by
  obtain ⟨w, h, t, a1, s1, h1, k1, z⟩ := draw04 hk
  obtain ⟨x, y, a2, s2, h2, k2⟩ := drawPiece k1
  refine ⟨w, h, x, y, t, a2, s2, ?_, k2, z⟩
  unfold spec_l13Draw.f
  refine Ev.bind h1 ?_
  simp only [h2, Option.bind_some]
  exact Ev.now _

theorem drawSetup_l0 (l : List Int) : ∀ (d : Nat) (o : List S56) (a s : Int), OkS l a s → o.length + d ≤ 5 → ∃ u a' s', Ev (fun k => spec_l13DrawSetup.l0 k o (d : Int) l a s) (u, a', s') ∧ OkS l a' s' ∧ u.length ≤ 10 := by
  intro d
  induction d with
  | zero =>
    intro o a s h ho
    obtain ⟨r1, a1, s1, h1, k1, _⟩ := next_ok h 60
    by_cases c1 : r1 = 0
    · obtain ⟨r2, a2, s2, h2, k2, h3, _⟩ := next_ok k1 2
      have h3 := h3 (by decide)
      have hw : wrap64 (6 + r2) = 6 + r2 := wrapIn (by omega) (by omega)
      refine ⟨List.replicate (6 + r2).toNat z56, a2, s2, evSucc ?_, k2, ?_⟩
      · simp only [spec_l13DrawSetup.l0, show ¬ (((0 : Nat) : Int) > 0) by decide, if_false, h1, Option.bind_some, c1, if_true, h2, hw, show (0 : Int) ≤ 6 + r2 by omega, show (6 + r2).toNat ≤ 11728124029610 by omega]
        exact Ev.now _
      · rw [List.length_replicate]; omega
    · by_cases c2 : r1 = 1
      · obtain ⟨r2, a2, s2, h2, k2, _⟩ := pick_ok k1 [-1, 1000000000, 1000000001] (by decide)
        refine ⟨o ++ [(⟨false, r2, false⟩ : S56)], a2, s2, evSucc ?_, k2, ?_⟩
        · simp only [spec_l13DrawSetup.l0, show ¬ (((0 : Nat) : Int) > 0) by decide, if_false, h1, Option.bind_some, c2, show ¬ ((1 : Int) = 0) by decide, if_true, h2, show o.length < 5864062014805 by omega]
          exact Ev.now _
        · rw [List.length_append, List.length_singleton]; omega
      · refine ⟨o, a1, s1, evSucc ?_, k1, ?_⟩
        · simp only [spec_l13DrawSetup.l0, show ¬ (((0 : Nat) : Int) > 0) by decide, if_false, h1, Option.bind_some, c1, c2]
          exact Ev.now _
        · omega
  | succ d ih =>
    intro o a s h ho
    obtain ⟨r1, a1, s1, h1, k1, _⟩ := next_ok h 2
    obtain ⟨r2, a2, s2, h2, k2, _⟩ := next_ok k1 3
    obtain ⟨r3, a3, s3, h3, k3, _⟩ := next_ok k2 2
    obtain ⟨u, a', s', h4, k4, h5⟩ := ih (o ++ [(⟨(r1 == 0), wrap64 (100 * r2), (r3 == 0)⟩ : S56)]) a3 s3 k3 (by rw [List.length_append, List.length_singleton]; omega)
    refine ⟨u, a', s', evSucc ?_, k4, h5⟩
    have hw : wrap64 (((d + 1 : Nat) : Int) - 1) = (d : Int) := by rw [wrapIn (by omega) (by omega)]; omega
    simp only [spec_l13DrawSetup.l0, show ((d + 1 : Nat) : Int) > 0 by omega, if_true, h1, h2, h3, Option.bind_some, show o.length < 5864062014805 by omega, hw]
    exact h4
theorem drawSetup {l : List Int} {a s : Int} (h : OkS l a s) : ∃ u a' s', Ev (fun k => spec_l13DrawSetup.f k l a s) (u, a', s') ∧ OkS l a' s' ∧ u.length ≤ 10 := by
  obtain ⟨r1, a1, s1, h1, k1, h2, _⟩ := next_ok h 5
  have h2 := h2 (by decide)
  obtain ⟨n, rfl⟩ := Int.eq_ofNat_of_zero_le h2.1
  obtain ⟨u, a', s', h3, k3, h4⟩ := drawSetup_l0 l n [] a1 s1 k1 (by simp; omega)
  refine ⟨u, a', s', ?_, k3, h4⟩
  unfold spec_l13DrawSetup.f
  simp only [h1, Option.bind_some]
  exact h3

def setupV (w h a b : Int) (l : List Int) : List S56 × Int := if cellsV w h a b l = 0 then (unitsV (w * a) (h * b) l l.length, 0) else ([], cellsV w h a b l)
theorem setupRI (w h a b : Int) (s : ByteArray) (hs : s.size ≤ 1048576) : Ev (fun k => impl_SetupOf.f k w h a b s) (setupV w h a b (bytesOf s)) := by
  unfold impl_SetupOf.f setupV
  refine Ev.bind (cellsI w h a b s hs) ?_
  by_cases c : cellsV w h a b (bytesOf s) = 0
  · obtain ⟨h1, h2, h3, h4, _⟩ := cells_ok c
    simp only [c, if_true]
    refine Ev.bind (setupI w h a b s h1 h2 h3 h4 hs) ?_
    rw [bytes_len]
    exact Ev.now _
  · simp only [c, if_false]
    exact Ev.now _
theorem setupRS (w h a b : Int) (s : ByteArray) (hs : s.size ≤ 1048576) : Ev (fun k => spec_SetupOf.f k w h a b s) (setupV w h a b (bytesOf s)) := by
  unfold spec_SetupOf.f setupV
  refine Ev.bind (cellsS w h a b s hs) ?_
  by_cases c : cellsV w h a b (bytesOf s) = 0
  · obtain ⟨h1, h2, h3, h4, _⟩ := cells_ok c
    simp only [c, if_true, bytes_len]
    have hW := prod_in h1 h3
    have hH := prod_in h2 h4
    refine evCount (fun k (p : List S56) i => spec_SetupOf.l0 k w h s p i a b) 0 s.size (fun i => unitsV (w * a) (h * b) (bytesOf s) i) _ ?_ ?_ (Nat.zero_le _)
    · intro i _ hi hr
      have hin := size_in _ _ hW.1 hH.1 (bytesOf s) i
      have e1 := half_in _ hin.1
      have e2 := half_in _ hin.2
      have l1 : (unitsV (w * a) (h * b) (bytesOf s) i).length = i := by simp [unitsV]
      refine evSucc ?_
      simp only [spec_SetupOf.l0, show (i : Int) < (s.size : Int) by omega, show (0 : Int) ≤ (i : Int) by omega, if_true, bt_rd s i hi, alongS, Option.bind_some, wrapNat (show i < 4611686018427387904 by omega), l1, show i < 5864062014805 by omega]
      refine Ev.bind (sizeS w h a b s h1 h2 h3 h4 hs i (by omega)) ?_
      rw [wrapIn (x := Int.tdiv (sizeV (w * a) (h * b) (bytesOf s) i).1 2) (by omega) (by omega), wrapIn (x := Int.tdiv (sizeV (w * a) (h * b) (bytesOf s) i).2 2) (by omega) (by omega)]
      simp only [units_succ, unitV, sizeV] at hr
      generalize rd (bytesOf s) (i : Int) = x at hr ⊢
      by_cases c1 : x = 76
      · subst c1
        simp only [if_true, show along 76 = true by decide]
        exact hr
      · simp only [c1, if_false]
        have e3 : (x == 84) = decide (x = 76 ∨ x = 84) := by
          by_cases c3 : x = 84
          · subst c3; rfl
          · rw [beq_eq_false_iff_ne.mpr c3, decide_eq_false (by omega)]
        rw [← e3] at hr
        by_cases c2 : along x = true
        · simp only [c2, if_true] at hr ⊢
          exact hr
        · simp only [c2, if_false, Bool.false_eq_true] at hr ⊢
          rw [Bool.not_eq_true] at c2
          exact hr
    · refine evSucc ?_
      simp only [spec_SetupOf.l0, Int.lt_irrefl, if_false]
      exact Ev.now _
  · simp only [c, if_false]
    exact Ev.now _
theorem setup_len (w h a b : Int) (s : ByteArray) (hs : s.size ≤ 1048576) : (setupV w h a b (bytesOf s)).1.length ≤ 1048576 := by
  unfold setupV
  split
  · simp [unitsV, bytes_len]; omega
  · simp

def foldV (w h a b : Int) (l : List Int) (m : Int) : Int × Int × Int := if cellsV w h a b l = 0 then (if 0 ≤ m ∧ m ≤ (l.length : Int) then ((sizeV (w * a) (h * b) l m.toNat).1, (sizeV (w * a) (h * b) l m.toNat).2, 0) else (0, 0, 2)) else (0, 0, cellsV w h a b l)
theorem foldS (w h a b : Int) (s : ByteArray) (m : Int) (hs : s.size ≤ 1048576) : Ev (fun k => spec_FoldedSize.f k w h a b s m) (foldV w h a b (bytesOf s) m) := by
  unfold spec_FoldedSize.f foldV
  refine Ev.bind (cellsS w h a b s hs) ?_
  rw [bytes_len]
  by_cases c : cellsV w h a b (bytesOf s) = 0
  · have ok := cells_ok c
    simp only [c, if_true, inS, Option.bind_some]
    refine evSucc ?_
    by_cases d : 0 ≤ m ∧ m ≤ (s.size : Int)
    · obtain ⟨n, rfl⟩ := Int.eq_ofNat_of_zero_le d.1
      simp only [d, and_self, decide_true, Bool.not_true, spec_FoldedSize.j0, Bool.false_eq_true, if_false, if_true, Int.toNat_natCast]
      exact Ev.bind (sizeS w h a b s ok.1 ok.2.1 ok.2.2.1 ok.2.2.2.1 hs n (by omega)) (Ev.now _)
    · simp only [d, decide_false, Bool.not_false, spec_FoldedSize.j0, if_true, show ¬ ((2 : Int) = 0) by decide, if_false]
      exact Ev.now _
  · simp only [c, if_false]
    refine evSucc ?_
    simp only [spec_FoldedSize.j0, Bool.false_eq_true, if_false, c]
    exact Ev.now _
theorem foldI (w h a b : Int) (s : ByteArray) (m : Int) (hs : s.size ≤ 1048576) : Ev (fun k => impl_FoldedSize.f k w h a b s m) (foldV w h a b (bytesOf s) m) := by
  unfold impl_FoldedSize.f foldV
  refine Ev.bind (cellsI w h a b s hs) ?_
  rw [bytes_len]
  by_cases c : cellsV w h a b (bytesOf s) = 0
  · have ok := cells_ok c
    simp only [c, if_true, inI, Option.bind_some]
    by_cases d : 0 ≤ m ∧ m ≤ (s.size : Int)
    · obtain ⟨n, rfl⟩ := Int.eq_ofNat_of_zero_le d.1
      simp only [d, and_self, decide_true, if_true, Int.toNat_natCast]
      refine Ev.bind (setupI w h a b s ok.1 ok.2.1 ok.2.2.1 ok.2.2.2.1 hs) ?_
      have hl : (sizesV (w * a) (h * b) (bytesOf s) s.size).length = s.size + 1 := by simp [sizesV]
      have hn : n < s.size + 1 := by omega
      have hg : rd_T24 (sizesV (w * a) (h * b) (bytesOf s) s.size) (n : Int) = ⟨(sizeV (w * a) (h * b) (bytesOf s) n).1, (sizeV (w * a) (h * b) (bytesOf s) n).2⟩ := by
        unfold rd_T24 sizesV
        rw [Int.toNat_natCast, List.getD_eq_getElem?_getD, List.getElem?_map, List.getElem?_range hn]
        rfl
      simp only [hl, show (n : Int) < ((s.size + 1 : Nat) : Int) by omega, if_true, hg]
      exact Ev.now _
    · simp only [d, decide_false, Bool.false_eq_true, if_false]
      exact Ev.now _
  · simp only [c, if_false]
    exact Ev.now _

theorem rd56 (xs : List S56) (i : Nat) (h : i < xs.length) : rd_T56 xs (i : Int) = xs[i] := by
  simp [rd_T56, List.getD_eq_getElem?_getD, List.getElem?_eq_getElem h]

def isetB (l : List S56) : Bool := decide (l.length ≤ 6) && l.all fun u => decide (0 ≤ u.f1 ∧ u.f1 ≤ 1000000000)
theorem isetI (l : List S56) : impl_isSetup.f l = some (isetB l) := rfl
theorem isetS (l : List S56) (h : l.length ≤ 1048576) : Ev (fun k => spec_l13Setup.f k l) (isetB l) := by
  unfold spec_l13Setup.f
  have := evAll (fun k i => spec_l13Setup.l0 k l i) 0 l.length (fun i => 0 ≤ (rd_T56 l (i : Int)).f1 ∧ (rd_T56 l (i : Int)).f1 ≤ 1000000000) ?_ ?_ (decide ((l.length : Int) ≤ 6)) ?_ (Nat.zero_le _)
  · have e : isetB l = (B (∀ j, 0 ≤ j → j < l.length → 0 ≤ (rd_T56 l (j : Int)).f1 ∧ (rd_T56 l (j : Int)).f1 ≤ 1000000000) && decide ((l.length : Int) ≤ 6)) := by
      unfold isetB
      rw [Bool.and_comm]
      congr 1
      · rw [Bool.eq_iff_iff, B_iff, List.all_eq_true]
        refine ⟨fun hx j _ hj => ?_, fun hx u hu => ?_⟩
        · have := hx l[j] (List.getElem_mem hj)
          rw [rd56 l j hj]
          exact of_decide_eq_true this
        · obtain ⟨j, hj, rfl⟩ := List.getElem_of_mem hu
          have := hx j (Nat.zero_le _) hj
          rw [rd56 l j hj] at this
          exact decide_eq_true this
      · exact decide_eq_decide.2 (by omega)
    rw [e]
    exact this
  · intro i _ hi hg r hr
    refine evSucc ?_
    simp only [spec_l13Setup.l0, show (i : Int) < (l.length : Int) by omega, show (0 : Int) ≤ (i : Int) by omega, if_true, inS, Option.bind_some, decide_eq_true_eq, hg, and_self, wrapNat (show i < 4611686018427387904 by omega)]
    exact hr
  · intro i _ hi hg
    refine evSucc ?_
    simp only [spec_l13Setup.l0, show (i : Int) < (l.length : Int) by omega, show (0 : Int) ≤ (i : Int) by omega, if_true, inS, Option.bind_some, decide_eq_true_eq, hg, if_false]
    exact Ev.now _
  · refine evSucc ?_
    simp only [spec_l13Setup.l0, Int.lt_irrefl, if_false]
    exact Ev.now _
theorem iset_len {l : List S56} (h : isetB l = true) : l.length ≤ 6 := by
  simp only [isetB, Bool.and_eq_true, decide_eq_true_eq] at h
  exact h.1

def ltrC (u : S56) : ByteArray := if u.f0 = true then (if u.f2 = true then ⟨#[76]⟩ else ⟨#[82]⟩) else (if u.f2 = true then ⟨#[84]⟩ else ⟨#[66]⟩)
def ltrL (l : List S56) : Nat → ByteArray
  | 0 => ⟨#[]⟩
  | m + 1 => ltrL l m ++ ltrC (rd_T56 l (m : Int))
theorem ltrC_size (u : S56) : (ltrC u).size = 1 := by
  unfold ltrC
  split <;> split <;> rfl
theorem ltrL_size (l : List S56) : ∀ m : Nat, (ltrL l m).size = m
  | 0 => rfl
  | m + 1 => by rw [ltrL, ByteArray.size_append, ltrL_size l m, ltrC_size]
theorem ltrI (l : List S56) (hl : l.length ≤ 6) : Ev (fun k => impl_SchemeOfSetup.l0 k (⟨#[]⟩ : ByteArray) l (l.length : Int) 0) (ltrL l l.length, 0) := by
  refine evCount (fun k (s : ByteArray) i => impl_SchemeOfSetup.l0 k s l (l.length : Int) i) 0 l.length (ltrL l) (ltrL l l.length, 0) ?_ ?_ (Nat.zero_le _)
  · intro i _ hi hr
    refine evSucc ?_
    have hz := ltrL_size l i
    have hw := wrapNat (show i < 4611686018427387904 by omega)
    simp only [impl_SchemeOfSetup.l0, show (i : Int) < (l.length : Int) by omega, show (0 : Int) ≤ (i : Int) by omega, if_true]
    rw [ltrL] at hr
    by_cases a : (rd_T56 l (i : Int)).f0 = true
    · simp only [a, if_true]
      refine evSucc ?_
      by_cases b : (rd_T56 l (i : Int)).f2 = true
      · simp only [ltrC, a, b, if_true] at hr
        simp only [impl_SchemeOfSetup.j1, a, b, hz, show i + 1 ≤ 9223372036854775807 by omega, if_true, hw]
        exact hr
      · simp only [ltrC, a, b, if_true, if_false] at hr
        simp only [impl_SchemeOfSetup.j1, a, b, hz, show i + 1 ≤ 9223372036854775807 by omega, if_true, if_false, hw]
        exact hr
    · simp only [a, if_false, Bool.false_eq_true]
      refine evSucc ?_
      by_cases b : (rd_T56 l (i : Int)).f2 = true
      · simp only [ltrC, a, b, if_true, if_false] at hr
        simp only [impl_SchemeOfSetup.j1, a, b, hz, show i + 1 ≤ 9223372036854775807 by omega, if_true, if_false, hw, Bool.false_eq_true]
        exact hr
      · simp only [ltrC, a, b, if_false] at hr
        simp only [impl_SchemeOfSetup.j1, a, b, hz, show i + 1 ≤ 9223372036854775807 by omega, if_true, if_false, hw, Bool.false_eq_true]
        exact hr
  · refine evSucc ?_
    simp only [impl_SchemeOfSetup.l0, Int.lt_irrefl, if_false]
    exact Ev.now _
theorem ltrS (l : List S56) (hl : l.length ≤ 6) : Ev (fun k => spec_SchemeOfSetup.l0 k l (⟨#[]⟩ : ByteArray) 0) (ltrL l l.length, 0) := by
  refine evCount (fun k (s : ByteArray) i => spec_SchemeOfSetup.l0 k l s i) 0 l.length (ltrL l) (ltrL l l.length, 0) ?_ ?_ (Nat.zero_le _)
  · intro i _ hi hr
    refine evSucc ?_
    have hz := ltrL_size l i
    have hw := wrapNat (show i < 4611686018427387904 by omega)
    simp only [spec_SchemeOfSetup.l0, show (i : Int) < (l.length : Int) by omega, show (0 : Int) ≤ (i : Int) by omega, if_true]
    rw [ltrL] at hr
    by_cases a : (rd_T56 l (i : Int)).f0 = true
    · simp only [a, if_true]
      refine evSucc ?_
      by_cases b : (rd_T56 l (i : Int)).f2 = true
      · simp only [ltrC, a, b, if_true] at hr
        simp only [spec_SchemeOfSetup.j1, b, hz, show i + 1 ≤ 9223372036854775807 by omega, if_true, hw]
        exact hr
      · simp only [ltrC, a, b, if_true, if_false] at hr
        simp only [spec_SchemeOfSetup.j1, a, b, hz, show i + 1 ≤ 9223372036854775807 by omega, show (i : Int) < (l.length : Int) by omega, show (0 : Int) ≤ (i : Int) by omega, if_true, if_false, hw]
        exact hr
    · simp only [a, if_false, Bool.false_eq_true]
      refine evSucc ?_
      by_cases b : (rd_T56 l (i : Int)).f2 = true
      · simp only [ltrC, a, b, if_true, if_false] at hr
        simp only [spec_SchemeOfSetup.j1, a, b, hz, show i + 1 ≤ 9223372036854775807 by omega, show (i : Int) < (l.length : Int) by omega, show (0 : Int) ≤ (i : Int) by omega, if_true, if_false, hw, Bool.false_eq_true]
        exact hr
      · simp only [ltrC, a, b, if_false] at hr
        simp only [spec_SchemeOfSetup.j1, a, b, hz, show i + 1 ≤ 9223372036854775807 by omega, show (i : Int) < (l.length : Int) by omega, show (0 : Int) ≤ (i : Int) by omega, if_true, if_false, hw, Bool.false_eq_true]
        exact hr
  · refine evSucc ?_
    simp only [spec_SchemeOfSetup.l0, Int.lt_irrefl, if_false]
    exact Ev.now _
theorem scheme_both (l : List S56) (h : l.length ≤ 1048576) : ∃ r, Ev (fun k => spec_SchemeOfSetup.f k l) r ∧ Ev (fun k => impl_SchemeOfSetup.f k l) r := by
  unfold spec_SchemeOfSetup.f impl_SchemeOfSetup.f
  simp only [isetI, Option.bind_some]
  by_cases hs : isetB l = true
  · have hl := iset_len hs
    refine ⟨(ltrL l l.length, 0), Ev.bind (isetS l h) ?_, ?_⟩
    · simp only [hs, if_true]
      exact ltrS l hl
    · simp only [hs, if_true]
      exact ltrI l hl
  · refine ⟨((⟨#[]⟩ : ByteArray), 1), Ev.bind (isetS l h) ?_, ?_⟩
    · simp only [hs, if_false, Bool.false_eq_true]
      exact Ev.now _
    · simp only [hs, if_false, Bool.false_eq_true]
      exact Ev.now _

theorem layers_both (l : List S56) (h : l.length ≤ 1048576) (a : Int) : ∃ r, Ev (fun k => spec_LayersAfter.f k l a) r ∧ impl_LayersAfter.f l a = some r := by
  unfold spec_LayersAfter.f impl_LayersAfter.f
  simp only [isetI, impl_Unit_39.f, inS, inI, Option.bind_some, decide_eq_true_eq]
  by_cases hs : isetB l = true
  · have hl := iset_len hs
    simp only [hs, if_true]
    by_cases ha : 0 ≤ a ∧ a ≤ (l.length : Int)
    · have e : IntKind.u64.wrap a = a := by
        have : a = 0 ∨ a = 1 ∨ a = 2 ∨ a = 3 ∨ a = 4 ∨ a = 5 ∨ a = 6 := by omega
        rcases this with rfl | rfl | rfl | rfl | rfl | rfl | rfl <;> rfl
      refine ⟨(shl .i64 1 a, 0), Ev.bind (isetS l h) ?_, ?_⟩
      · simp only [hs, ha, and_self, if_true, e]
        exact Ev.now _
      · simp only [ha, and_self, if_true]
    · refine ⟨(0, 2), Ev.bind (isetS l h) ?_, ?_⟩
      · simp only [hs, ha, if_true, if_false]
        exact Ev.now _
      · simp only [ha, if_false]
  · refine ⟨(0, 1), Ev.bind (isetS l h) ?_, ?_⟩
    · simp only [hs, if_false, Bool.false_eq_true]
      exact Ev.now _
    · simp only [hs, if_false, Bool.false_eq_true]

theorem drawSetupOf (l : List Int) (hw : ∀ x ∈ l, (Lit.int .u8 x).wf = true) (hl : l.length ≤ 4096) : ∃ w h x y t, Ev (fun k => spec_DrawSetupOf.f k l) (w, h, x, y, t) ∧ t.size ≤ 20 := by
  obtain ⟨s, h0, k0⟩ := from_ok l hw hl
  obtain ⟨w, h, x, y, t, a', s', h1, _, z⟩ := draw13 k0
  exact ⟨w, h, x, y, t, Ev.bind h0 (Ev.bind h1 (Ev.now _)), z⟩
theorem drawFold (l : List Int) (hw : ∀ x ∈ l, (Lit.int .u8 x).wf = true) (hl : l.length ≤ 4096) : ∃ w h x y t m, Ev (fun k => spec_DrawFoldedSize.f k l) (w, h, x, y, t, m) ∧ t.size ≤ 20 := by
  obtain ⟨s, h0, k0⟩ := from_ok l hw hl
  obtain ⟨w, h, x, y, t, a1, s1, h1, k1, z⟩ := draw13 k0
  obtain ⟨r2, a2, s2, h2, k2, _⟩ := next_ok k1 (wrap64 ((t.size : Int) + 1))
  obtain ⟨r3, a3, s3, h3, k3, _⟩ := next_ok k2 20
  refine ⟨w, h, x, y, t, wrap64 (r2 - wrap64 (Int.tdiv r3 19)), Ev.bind h0 (Ev.bind h1 ?_), z⟩
  simp only [h2, h3, Option.bind_some]
  exact Ev.now _
theorem drawUnits (l : List Int) (hw : ∀ x ∈ l, (Lit.int .u8 x).wf = true) (hl : l.length ≤ 4096) : ∃ u, Ev (fun k => spec_DrawSchemeOfSetup.f k l) u ∧ u.length ≤ 10 := by
  obtain ⟨s, h0, k0⟩ := from_ok l hw hl
  obtain ⟨u, a', s', h1, _, z⟩ := drawSetup k0
  exact ⟨u, Ev.bind h0 (Ev.bind h1 (Ev.now _)), z⟩
theorem drawLayers (l : List Int) (hw : ∀ x ∈ l, (Lit.int .u8 x).wf = true) (hl : l.length ≤ 4096) : ∃ u m, Ev (fun k => spec_DrawLayersAfter.f k l) (u, m) ∧ u.length ≤ 10 := by
  obtain ⟨s, h0, k0⟩ := from_ok l hw hl
  obtain ⟨u, a1, s1, h1, k1, z⟩ := drawSetup k0
  obtain ⟨r2, a2, s2, h2, k2, _⟩ := next_ok k1 (wrap64 ((u.length : Int) + 2))
  obtain ⟨r3, a3, s3, h3, k3, _⟩ := next_ok k2 20
  refine ⟨u, wrap64 (r2 - wrap64 (Int.tdiv r3 19)), Ev.bind h0 (Ev.bind h1 ?_), z⟩
  simp only [h2, h3, Option.bind_some]
  exact Ev.now _
theorem likeU (l : List S56) (h : l.length ≤ 1048576) : Ev (fun k => laws_likeUnits9.f k l l) true := by
  unfold laws_likeUnits9.f
  simp only [if_true]
  have := evAll (fun k i => laws_likeUnits9.l0 k l l i) 0 l.length (fun _ => True) ?_ (fun i _ hi hn => absurd trivial hn) true ?_ (Nat.zero_le _)
  · simpa [B_true] using this
  · intro i _ hi _ r hr
    refine evSucc ?_
    simp only [laws_likeUnits9.l0, show (i : Int) < (l.length : Int) by omega, show (0 : Int) ≤ (i : Int) by omega, if_true, beq_self_eq_true, Bool.not_true, Bool.or_self, Bool.false_eq_true, if_false, wrapNat (show i < 4611686018427387904 by omega)]
    exact hr
  · refine evSucc ?_
    simp only [laws_likeUnits9.l0, Int.lt_irrefl, if_false]
    exact Ev.now _
theorem scheme_of {w h : Int} {l : List Int} (e : schemeB w h l = true) : sideB w = true ∧ sideB h = true ∧ (∀ x ∈ l, Letter x) ∧ (alongs l : Int) = pw w ∧ ((l.length - alongs l : Nat) : Int) = pw h := by
  unfold schemeB at e
  simp only [Bool.and_eq_true, decide_eq_true_eq] at e
  exact ⟨e.1.1, e.1.2, e.2.1, e.2.2.1, e.2.2.2⟩
theorem side_pw {n : Int} (h : sideB n = true) : n = 2 ^ (pw n).toNat := by
  unfold sideB at h
  rw [decide_eq_true_eq] at h
  rcases h with rfl | rfl | rfl | rfl <;> rfl
theorem along_take (l : List Int) (i : Nat) (hi : i < l.length) : alongs (l.take (i + 1)) = alongs (l.take i) + (if along (rd l (i : Int)) = true then 1 else 0) := by
  rw [List.take_succ_eq_append_getElem hi, rdN l i hi]
  unfold alongs along
  rw [List.count_append, List.count_append]
  by_cases c1 : l[i] = 76
  · simp [c1]; omega
  · by_cases c2 : l[i] = 82
    · simp [c2]; omega
    · simp [c1, c2]
theorem size_pow (W H : Int) (hW : 0 ≤ W) (hH : 0 ≤ H) (l : List Int) : ∀ i : Nat, i ≤ l.length → alongs (l.take i) ≤ i ∧ sizeV W H l i = (W / 2 ^ alongs (l.take i), H / 2 ^ (i - alongs (l.take i)))
  | 0, _ => by simp [sizeV, alongs]
  | i + 1, hi => by
    obtain ⟨h1, h2⟩ := size_pow W H hW hH l i (by omega)
    have h3 := along_take l i (by omega)
    have p1 : 0 ≤ W / 2 ^ alongs (l.take i) := Int.ediv_nonneg hW (Int.le_of_lt (Int.pow_pos (by decide)))
    have p2 : 0 ≤ H / 2 ^ (i - alongs (l.take i)) := Int.ediv_nonneg hH (Int.le_of_lt (Int.pow_pos (by decide)))
    by_cases c : along (rd l (i : Int)) = true
    · rw [if_pos c] at h3
      refine ⟨by omega, ?_⟩
      rw [sizeV, if_pos c, h2, h3]
      refine Prod.ext ?_ ?_
      · show Int.tdiv (W / 2 ^ alongs (l.take i)) 2 = W / 2 ^ (alongs (l.take i) + 1)
        rw [Int.tdiv_eq_ediv_of_nonneg p1, Int.pow_succ, Int.ediv_ediv_of_nonneg (Int.le_of_lt (Int.pow_pos (by decide)))]
      · show H / 2 ^ (i - alongs (l.take i)) = H / 2 ^ (i + 1 - (alongs (l.take i) + 1))
        rw [show i + 1 - (alongs (l.take i) + 1) = i - alongs (l.take i) by omega]
    · rw [if_neg c] at h3
      refine ⟨by omega, ?_⟩
      rw [sizeV, if_neg c, h2, h3]
      refine Prod.ext ?_ ?_
      · show W / 2 ^ alongs (l.take i) = W / 2 ^ (alongs (l.take i) + 0)
        rw [Nat.add_zero]
      · show Int.tdiv (H / 2 ^ (i - alongs (l.take i))) 2 = H / 2 ^ (i + 1 - (alongs (l.take i) + 0))
        rw [Int.tdiv_eq_ediv_of_nonneg p2, show i + 1 - (alongs (l.take i) + 0) = (i - alongs (l.take i)) + 1 by omega, Int.pow_succ, Int.ediv_ediv_of_nonneg (Int.le_of_lt (Int.pow_pos (by decide)))]
theorem folded {w h a b : Int} {l : List Int} (e : schemeB w h l = true) (ha : 1 ≤ a ∧ a ≤ 20000) (hb : 1 ≤ b ∧ b ≤ 20000) (hw : 1 ≤ w ∧ w ≤ 8) (hh : 1 ≤ h ∧ h ≤ 8) : sizeV (w * a) (h * b) l l.length = (a, b) := by
  obtain ⟨e1, e2, _, e4, e5⟩ := scheme_of e
  obtain ⟨_, h2⟩ := size_pow (w * a) (h * b) (prod_in hw ha).1.1 (prod_in hh hb).1.1 l l.length (Nat.le_refl _)
  rw [h2, List.take_length]
  have x1 : alongs l = (pw w).toNat := by omega
  have x2 : l.length - alongs l = (pw h).toNat := by omega
  rw [x2, x1, ← side_pw e1, ← side_pw e2]
  rw [Int.mul_ediv_cancel_left _ (by omega), Int.mul_ediv_cancel_left _ (by omega)]
theorem unit_letter (W H : Int) (l : List Int) (i : Nat) (h : Letter (rd l (i : Int))) : ltrC (unitV W H l i) = ⟨#[UInt8.ofNat (rd l (i : Int)).toNat]⟩ := by
  unfold ltrC unitV along
  rcases h with e | e | e | e <;> rw [e] <;> rfl
theorem rd_units (W H : Int) (l : List Int) (n i : Nat) (hi : i < n) : rd_T56 (unitsV W H l n) (i : Int) = unitV W H l i := by
  unfold rd_T56 unitsV
  rw [Int.toNat_natCast, List.getD_eq_getElem?_getD, List.getElem?_map, List.getElem?_range hi]
  rfl
theorem back_text (W H : Int) (s : ByteArray) (hL : ∀ x ∈ bytesOf s, Letter x) : ltrL (unitsV W H (bytesOf s) s.size) s.size = s := by
  have key : ∀ m : Nat, m ≤ s.size → ltrL (unitsV W H (bytesOf s) s.size) m = ⟨(s.data.toList.take m).toArray⟩ := by
    intro m
    induction m with
    | zero => intro _; rfl
    | succ m ih =>
      intro hm
      have hl := ba_len s
      have hb := bytes_len s
      rw [ltrL, ih (by omega), rd_units _ _ _ _ _ (by omega), unit_letter _ _ _ _ (by
        rw [rdN _ m (by omega)]
        exact hL _ (List.getElem_mem _))]
      have e1 : UInt8.ofNat (rd (bytesOf s) (m : Int)).toNat = s.data.toList[m]'(by omega) := by
        rw [rdN _ m (by omega)]
        simp [bytesOf]
      rw [e1, List.take_succ_eq_append_getElem (by omega)]
      apply ByteArray.ext
      rw [ByteArray.data_append]
      simp
  have hl := ba_len s
  rw [key s.size (Nat.le_refl _), List.take_of_length_le (by omega)]
theorem ltr_f (l : List S56) (h : isetB l = true) : Ev (fun k => impl_SchemeOfSetup.f k l) (ltrL l l.length, 0) := by
  unfold impl_SchemeOfSetup.f
  simp only [isetI, Option.bind_some, h, if_true]
  exact ltrI l (iset_len h)
theorem FnSetups : laws_FnSetups.Pure := by
  intro l _ _ hw
  refine Ev.rounds ?_
  unfold laws_FnSetups.f laws_big.f
  simp only [Option.bind_some]
  by_cases hb : (l.length : Int) > 4096
  · simp only [hb, decide_true, if_true]
    exact Ev.now _
  · simp only [hb, decide_false, Bool.false_eq_true, if_false]
    have hl : l.length ≤ 4096 := by omega
    obtain ⟨w, h, a, b, s, h0, z0⟩ := drawSetupOf l hw hl
    obtain ⟨w1, h1_, a1, b1, s1, m1, h1, z1⟩ := drawFold l hw hl
    obtain ⟨u, h2, z2⟩ := drawUnits l hw hl
    obtain ⟨v, m, h3, z3⟩ := drawLayers l hw hl
    obtain ⟨r, hr1, hr2⟩ := scheme_both u (by omega)
    obtain ⟨q, hq1, hq2⟩ := layers_both v (by omega) m
    refine Ev.bind h0 (Ev.bind (setupRI w h a b s (by omega)) (Ev.bind (setupRS w h a b s (by omega)) (Ev.bind h1 (Ev.bind (foldI w1 h1_ a1 b1 s1 m1 (by omega)) (Ev.bind (foldS w1 h1_ a1 b1 s1 m1 (by omega)) (Ev.bind h2 (Ev.bind hr2 (Ev.bind hr1 (Ev.bind h3 ?_)))))))))
    simp only [hq2, Option.bind_some]
    refine Ev.bind hq1 ?_
    simp only [if_true]
    refine Ev.bind (likeU _ (setup_len w h a b s (by omega))) ?_
    simp only [if_true, beq_self_eq_true, Bool.not_true, Bool.or_self, Bool.false_eq_true, if_false, bne_self_eq_false]
    refine evSucc ?_
    simp only [laws_FnSetups.j0, Bool.false_eq_true, if_false]
    by_cases c : cellsV w h a b (bytesOf s) = 0
    · obtain ⟨c1, c2, c3, c4, c5⟩ := cells_ok c
      obtain ⟨e1, e2, e3, e4, e5⟩ := scheme_of c5
      have p1 := pw_in w
      have p2 := pw_in h
      have hal := alongs_le (bytesOf s)
      have hbl := bytes_len s
      have hV : setupV w h a b (bytesOf s) = (unitsV (w * a) (h * b) (bytesOf s) s.size, 0) := by
        unfold setupV; rw [if_pos c, hbl]
      have hlen : (unitsV (w * a) (h * b) (bytesOf s) s.size).length = s.size := by simp [unitsV]
      have hset : isetB (unitsV (w * a) (h * b) (bytesOf s) s.size) = true := by
        unfold isetB
        rw [Bool.and_eq_true, hlen]
        refine ⟨decide_eq_true (by omega), ?_⟩
        rw [List.all_eq_true]
        intro x hx
        obtain ⟨i, _, rfl⟩ := List.mem_map.1 hx
        have hin := size_in _ _ (prod_in c1 c3).1 (prod_in c2 c4).1 (bytesOf s) (i + 1)
        refine decide_eq_true ?_
        unfold unitV
        show 0 ≤ (if along (rd (bytesOf s) (i : Int)) = true then _ else _) ∧ (if along (rd (bytesOf s) (i : Int)) = true then _ else _) ≤ 1000000000
        split <;> omega
      have hT := ltr_f _ hset
      rw [hlen, back_text _ _ s e3] at hT
      have hF := foldI w h a b s (s.size : Int) (by omega)
      have hFv : foldV w h a b (bytesOf s) (s.size : Int) = (a, b, 0) := by
        unfold foldV
        have hf := folded c5 c3 c4 c1 c2
        rw [hbl] at hf
        rw [if_pos c, if_pos ⟨by omega, by omega⟩, Int.toNat_natCast, hf]
      rw [hFv] at hF
      have hLy : impl_LayersAfter.f (unitsV (w * a) (h * b) (bytesOf s) s.size) (s.size : Int) = some (wrap64 (w * h), 0) := by
        unfold impl_LayersAfter.f
        simp only [isetI, impl_Unit_39.f, inI, Option.bind_some, hset, hlen, if_true, show (0 : Int) ≤ (s.size : Int) by omega, Int.le_refl, and_self, decide_true]
        have hn : s.size = (pw w).toNat + (pw h).toNat := by omega
        rw [hn]
        unfold sideB at e1 e2
        rw [decide_eq_true_eq] at e1 e2
        rcases e1 with rfl | rfl | rfl | rfl <;> rcases e2 with rfl | rfl | rfl | rfl <;> decide +kernel
      simp only [hV, if_true, hlen]
      refine Ev.bind hT (Ev.bind hF ?_)
      simp only [hLy, Option.bind_some, if_true, beq_self_eq_true, Bool.and_self]
      exact Ev.now _
    · have hV : (setupV w h a b (bytesOf s)).2 = cellsV w h a b (bytesOf s) := by unfold setupV; rw [if_neg c]
      simp only [hV, c, if_false]
      exact Ev.now _

end Go.Proofs.YtpndkekgoadjkaaDoor.Pure
