/- The program and the reference give the same mirrored holes, for every list of int64 and every int64; what is handed back is the caller's own. -/
import Derived.Test.YtdelnmbfokipoaaSayFnExactMirrorHoles
namespace Go.Proofs.Ytdelnmbfokipoaa.Pure
open Go.RowKit Go.Proofs.Ytdelnmbfokipoaa.PFnExactMirrorHoles Go.Proofs.YtdelnmbfokipoaaW.PrintWords Go.Proofs.YtdelnmbfokipoaaW.PrintLast
set_option linter.unusedVariables false
set_option linter.unusedSimpArgs false
-- BEGIN
/-- A proposition as a bool. -/
noncomputable def B (p : Prop) : Bool := @decide p (Classical.propDecidable p)
theorem B_iff {p : Prop} : B p = true ↔ p := by unfold B; exact @decide_eq_true_iff p (Classical.propDecidable p)
theorem B_true {p : Prop} (h : p) : B p = true := B_iff.2 h
theorem B_false {p : Prop} (h : ¬ p) : B p = false := by cases e : B p with | false => rfl | true => exact absurd (B_iff.1 e) h
theorem B_congr {p q : Prop} (h : p ↔ q) : B p = B q := by rw [propext h]
theorem B_dec (p : Prop) [Decidable p] : B p = decide p := by by_cases h : p <;> simp [h, B_true, B_false]
theorem B_and (p q : Prop) : (B p && B q) = B (p ∧ q) := by
  by_cases hp : p <;> by_cases hq : q <;> simp [B_true, B_false, hp, hq]
theorem B_not (p : Prop) : (!B p) = B (¬ p) := by by_cases hp : p <;> simp [B_true, B_false, hp]
theorem evSucc {α : Type} {g : Nat → Option α} {r : α} (h : Ev (fun k => g (k + 1)) r) : Ev g r := Ev.step (fun _ => rfl) h
theorem evNow {α : Type} {g : Nat → Option α} {r : α} (h : ∀ k, g k = some r) : Ev g r := ⟨0, fun k _ => h k⟩
theorem evCount {σ α : Type} (F : Nat → σ → Int → Option α) (i0 n : Nat) (S : Nat → σ) (r : α)
    (hstep : ∀ i, i0 ≤ i → i < n → Ev (fun k => F k (S (i + 1)) ((i + 1 : Nat) : Int)) r → Ev (fun k => F k (S i) (i : Int)) r) (hend : Ev (fun k => F k (S n) (n : Int)) r) (hle : i0 ≤ n) : Ev (fun k => F k (S i0) (i0 : Int)) r := by
  have key : ∀ d i, i0 ≤ i → i + d = n → Ev (fun k => F k (S i) (i : Int)) r := by
    intro d
    induction d with
    | zero =>
      intro i _ hi
      have h0 : i = n := by omega
      subst h0
      exact hend
    | succ d ih => intro i h0 hi; exact hstep i h0 (by omega) (ih (i + 1) (by omega) (by omega))
  exact key (n - i0) i0 (Nat.le_refl _) (by omega)
/-- A loop that leaves at the first place where G fails. -/
theorem evAll (F : Nat → Int → Option Bool) (i0 n : Nat) (G : Nat → Prop)
    (hstep : ∀ i, i0 ≤ i → i < n → G i → ∀ r, Ev (fun k => F k ((i + 1 : Nat) : Int)) r → Ev (fun k => F k (i : Int)) r) (hbad : ∀ i, i0 ≤ i → i < n → ¬ G i → Ev (fun k => F k (i : Int)) false) (e : Bool) (hend : Ev (fun k => F k (n : Int)) e) (hle : i0 ≤ n) :
    Ev (fun k => F k (i0 : Int)) (B (∀ j, i0 ≤ j → j < n → G j) && e) := by
  have key : ∀ d i, i0 ≤ i → i + d = n → Ev (fun k => F k (i : Int)) (B (∀ j, i ≤ j → j < n → G j) && e) := by
    intro d
    induction d with
    | zero =>
      intro i _ hi
      have h0 : i = n := by omega
      subst h0
      rw [B_true (fun j h1 h2 => absurd h2 (by omega)), Bool.true_and]
      exact hend
    | succ d ih =>
      intro i h0 hi
      by_cases hg : G i
      · have h1 : B (∀ j, i ≤ j → j < n → G j) = B (∀ j, i + 1 ≤ j → j < n → G j) := B_congr ⟨fun h j a b => h j (by omega) b, fun h j a b => by
          by_cases e : j = i
          · subst e; exact hg
          · exact h j (by omega) b⟩
        rw [h1]
        exact hstep i h0 (by omega) hg _ (ih (i + 1) (by omega) (by omega))
      · rw [B_false (fun h => hg (h i (Nat.le_refl _) (by omega))), Bool.false_and]
        exact hbad i h0 (by omega) hg
  exact key (n - i0) i0 (Nat.le_refl _) (by omega)
theorem wrapNat {i : Nat} (h : i < 4611686018427387904) : wrap64 ((i : Int) + 1) = ((i + 1 : Nat) : Int) := by
  unfold wrap64; omega
theorem wrapPred {i : Nat} (h0 : 1 ≤ i) (h : i < 4611686018427387904) : wrap64 ((i : Int) - 1) = ((i - 1 : Nat) : Int) := by
  unfold wrap64; omega
theorem rdN (xs : List Int) (i : Nat) (h : i < xs.length) : rd xs (i : Int) = xs[i] := by
  simp [rd, List.getD_eq_getElem?_getD, List.getElem?_eq_getElem h]
theorem fillStep {α : Type} (xs : List α) (z : α) (i : Nat) (h : i < xs.length) : (xs.take i ++ List.replicate (xs.length - i) z).set i xs[i] = xs.take (i + 1) ++ List.replicate (xs.length - (i + 1)) z := by
  have h1 : xs.length - i = (xs.length - (i + 1)) + 1 := by omega
  rw [h1, List.replicate_succ, List.set_append_right _ _ (by rw [List.length_take]; omega)]
  rw [List.length_take, Nat.min_eq_left (by omega), Nat.sub_self, List.set_cons_zero, List.take_succ_eq_append_getElem h, List.append_assoc]
  rfl
theorem fillLen {α : Type} (xs : List α) (z : α) (i : Nat) (h : i ≤ xs.length) : (xs.take i ++ List.replicate (xs.length - i) z).length = xs.length := by
  simp; omega

theorem inS (a b c : Int) : spec_l01In.f a b c = some (decide (b ≤ a ∧ a ≤ c)) := by
  unfold spec_l01In.f
  by_cases h : b ≤ a <;> simp [h]

theorem inI (a b c : Int) : impl_inRange.f a b c = some (decide (b ≤ a ∧ a ≤ c)) := by
  unfold impl_inRange.f
  by_cases h : b ≤ a <;> simp [h]

theorem wrapIn {x : Int} (h0 : -9223372036854775808 ≤ x) (h1 : x ≤ 9223372036854775807) : wrap64 x = x := by
  unfold wrap64; omega

def InAll (l : List Int) (a b : Int) : Prop := ∀ j, 0 ≤ j → j < l.length → a ≤ rd l (j : Int) ∧ rd l (j : Int) ≤ b
theorem inAll_mem {l : List Int} {a b : Int} : InAll l a b ↔ ∀ x ∈ l, a ≤ x ∧ x ≤ b := by
  constructor
  · intro h x hx
    obtain ⟨i, hi, rfl⟩ := List.mem_iff_getElem.1 hx
    have := h i (Nat.zero_le _) hi
    rwa [rdN l i hi] at this
  · intro h j _ hj
    rw [rdN l j hj]
    exact h _ (List.getElem_mem hj)
theorem allIn_all (l : List Int) (a b : Int) : (l.all fun x => decide (a ≤ x ∧ x ≤ b)) = B (InAll l a b) := by
  by_cases h : InAll l a b
  · rw [B_true h, List.all_eq_true]
    exact fun x hx => decide_eq_true (inAll_mem.1 h x hx)
  · rw [B_false h, Bool.eq_false_iff]
    intro h2
    exact h (inAll_mem.2 fun x hx => of_decide_eq_true (List.all_eq_true.1 h2 x hx))

theorem withinS (l : List Int) (m a b : Int) (h : l.length ≤ 1048576) : Ev (fun k => spec_l01Within.f k l m a b) (B (InAll l a b) && decide ((l.length : Int) ≤ m)) := by
  unfold spec_l01Within.f
  have := evAll (fun k i => spec_l01Within.l0 k l m a b i) 0 l.length (fun j => a ≤ rd l (j : Int) ∧ rd l (j : Int) ≤ b) ?_ ?_ (decide ((l.length : Int) ≤ m)) ?_ (Nat.zero_le _)
  · exact this
  · intro i h0 hi hg r hr
    refine evSucc ?_
    have e1 : (i : Int) < (l.length : Int) := by omega
    have e2 : (0 : Int) ≤ (i : Int) := by omega
    simp only [spec_l01Within.l0, inS, Option.bind_some, e1, e2, decide_eq_true hg, if_true, wrapNat (show i < 4611686018427387904 by omega)]
    exact hr
  · intro i h0 hi hg
    refine evSucc ?_
    have e1 : (i : Int) < (l.length : Int) := by omega
    have e2 : (0 : Int) ≤ (i : Int) := by omega
    simp only [spec_l01Within.l0, inS, Option.bind_some, e1, e2, decide_eq_false hg, if_true, if_false, Bool.false_eq_true]
    exact Ev.now _
  · refine evSucc ?_
    simp only [spec_l01Within.l0, Int.lt_irrefl, if_false]
    exact Ev.now _

def Rising (l : List Int) : Prop := ∀ j, 1 ≤ j → j < l.length → rd l ((j - 1 : Nat) : Int) < rd l (j : Int)
theorem risesS (l : List Int) (h : l.length ≤ 1048576) (h1 : 1 ≤ l.length) : Ev (fun k => spec_l01Rises.f k l) (B (Rising l)) := by
  unfold spec_l01Rises.f
  have := evAll (fun k i => spec_l01Rises.l0 k l i) 1 l.length (fun j => rd l ((j - 1 : Nat) : Int) < rd l (j : Int)) ?_ ?_ true ?_ h1
  · rw [Bool.and_true] at this; exact this
  · intro i h0 hi hg r hr
    refine evSucc ?_
    have e1 : (i : Int) < (l.length : Int) := by omega
    have e2 : (0 : Int) ≤ (i : Int) := by omega
    have e3 : (0 : Int) ≤ ((i - 1 : Nat) : Int) := by omega
    have e4 : ((i - 1 : Nat) : Int) < (l.length : Int) := by omega
    have e5 : ¬ (rd l (i : Int) ≤ rd l ((i - 1 : Nat) : Int)) := by omega
    simp only [spec_l01Rises.l0, wrapPred h0 (show i < 4611686018427387904 by omega), e1, e2, e3, e4, e5, if_true, if_false, wrapNat (show i < 4611686018427387904 by omega)]
    exact hr
  · intro i h0 hi hg
    refine evSucc ?_
    have e1 : (i : Int) < (l.length : Int) := by omega
    have e2 : (0 : Int) ≤ (i : Int) := by omega
    have e3 : (0 : Int) ≤ ((i - 1 : Nat) : Int) := by omega
    have e4 : ((i - 1 : Nat) : Int) < (l.length : Int) := by omega
    have e5 : rd l (i : Int) ≤ rd l ((i - 1 : Nat) : Int) := by omega
    simp only [spec_l01Rises.l0, wrapPred h0 (show i < 4611686018427387904 by omega), e1, e2, e3, e4, e5, if_true]
    exact Ev.now _
  · refine evSucc ?_
    simp only [spec_l01Rises.l0, Int.lt_irrefl, if_false]
    exact Ev.now _
theorem risesI (l : List Int) (h : l.length ≤ 1048576) (h1 : 1 ≤ l.length) : Ev (fun k => impl_AreHoles.l0 k l 1) (B (Rising l)) := by
  have := evAll (fun k i => impl_AreHoles.l0 k l i) 1 l.length (fun j => rd l ((j - 1 : Nat) : Int) < rd l (j : Int)) ?_ ?_ true ?_ h1
  · rw [Bool.and_true] at this; exact this
  · intro i h0 hi hg r hr
    refine evSucc ?_
    have e1 : (i : Int) < (l.length : Int) := by omega
    have e2 : (0 : Int) ≤ (i : Int) := by omega
    have e3 : (0 : Int) ≤ ((i - 1 : Nat) : Int) := by omega
    have e4 : ((i - 1 : Nat) : Int) < (l.length : Int) := by omega
    have e5 : ¬ (rd l ((i - 1 : Nat) : Int) ≥ rd l (i : Int)) := by omega
    simp only [impl_AreHoles.l0, wrapPred h0 (show i < 4611686018427387904 by omega), e1, e2, e3, e4, e5, if_true, if_false, wrapNat (show i < 4611686018427387904 by omega)]
    exact hr
  · intro i h0 hi hg
    refine evSucc ?_
    have e1 : (i : Int) < (l.length : Int) := by omega
    have e2 : (0 : Int) ≤ (i : Int) := by omega
    have e3 : (0 : Int) ≤ ((i - 1 : Nat) : Int) := by omega
    have e4 : ((i - 1 : Nat) : Int) < (l.length : Int) := by omega
    have e5 : rd l ((i - 1 : Nat) : Int) ≥ rd l (i : Int) := by omega
    simp only [impl_AreHoles.l0, wrapPred h0 (show i < 4611686018427387904 by omega), e1, e2, e3, e4, e5, if_true]
    exact Ev.now _
  · refine evSucc ?_
    simp only [impl_AreHoles.l0, Int.lt_irrefl, if_false]
    exact Ev.now _
noncomputable def holesB (l : List Int) : Bool := B ((2 ≤ l.length ∧ l.length ≤ 12) ∧ Rising l ∧ InAll l 0 20000)
theorem holesS (l : List Int) (h : l.length ≤ 1048576) : Ev (fun k => spec_AreHoles.f k l) (holesB l) := by
  unfold spec_AreHoles.f holesB
  by_cases h2 : (l.length : Int) ≥ 2
  · simp only [h2, if_true]
    refine Ev.bind (risesS l h (by omega)) ?_
    by_cases hr : Rising l
    · simp only [B_true hr, if_true]
      refine Ev.bind (withinS l 12 0 20000 h) ?_
      have e : (B (InAll l 0 20000) && decide ((l.length : Int) ≤ 12)) = B ((2 ≤ l.length ∧ l.length ≤ 12) ∧ Rising l ∧ InAll l 0 20000) := by
        rw [← B_dec, B_and]
        exact B_congr ⟨fun h => ⟨⟨by omega, by omega⟩, hr, h.1⟩, fun h => ⟨h.2.2, by omega⟩⟩
      rw [e]
      exact Ev.now _
    · simp only [B_false hr, Bool.false_eq_true, if_false]
      rw [B_false (fun h => hr h.2.1)]
      exact Ev.now _
  · simp only [h2, if_false]
    rw [B_false (fun h => h2 (by omega))]
    exact Ev.now _
theorem holesI (l : List Int) (h : l.length ≤ 1048576) : Ev (fun k => impl_AreHoles.f k l) (holesB l) := by
  unfold impl_AreHoles.f holesB impl_length_int64.f impl_allIn.f
  simp only [inI, Option.bind_some, allIn_all, decide_eq_true_eq]
  by_cases h2 : 2 ≤ (l.length : Int) ∧ (l.length : Int) ≤ 12
  · simp only [h2, and_self, if_true]
    refine evSucc ?_
    simp only [impl_AreHoles.j0]
    by_cases hi : InAll l 0 20000
    · simp only [B_true hi, Bool.not_true, Bool.false_eq_true, if_false]
      have e : B (Rising l) = B ((2 ≤ l.length ∧ l.length ≤ 12) ∧ Rising l ∧ InAll l 0 20000) := B_congr ⟨fun h => ⟨⟨by omega, by omega⟩, h, hi⟩, fun h => h.2.1⟩
      rw [← e]
      exact risesI l h (by omega)
    · simp only [B_false hi, Bool.not_false, if_true]
      rw [B_false (fun h => hi h.2.2)]
      exact Ev.now _
  · simp only [h2, if_false]
    refine evSucc ?_
    simp only [impl_AreHoles.j0, if_true]
    rw [B_false (fun h => h2 (by omega))]
    exact Ev.now _

theorem mholes_of {l : List Int} (h : holesB l = true) : (2 ≤ l.length ∧ l.length ≤ 12) ∧ Rising l ∧ InAll l 0 20000 := B_iff.1 h
theorem down_len (l : List Int) (a : Int) (k : Nat) : (impl_MirrorHoles.mir a (impl_MirrorHoles.down l k)).length = k := by simp [impl_MirrorHoles.mir, impl_MirrorHoles.down]
theorem mir_get (l : List Int) (a : Int) (n t : Nat) (h : t < n) : rd (impl_MirrorHoles.mir a (impl_MirrorHoles.down l n)) (t : Int) = wrap64 (a - rd l ((l.length - 1 - t : Nat) : Int)) := by
  rw [rdN _ _ (by rw [down_len]; exact h)]
  simp [impl_MirrorHoles.mir, impl_MirrorHoles.down]
noncomputable def mirV (l : List Int) (a : Int) : List Int × Int := if holesB l = true then (if rd l ((l.length - 1 : Nat) : Int) ≤ a ∧ a ≤ 20000 then (impl_MirrorHoles.mir a (impl_MirrorHoles.down l l.length), 0) else ([], 2)) else ([], 2)
theorem mirI (l : List Int) (h : l.length ≤ 1048576) (a : Int) : Ev (fun k => impl_MirrorHoles.f k l a) (mirV l a) := by
  unfold impl_MirrorHoles.f mirV
  refine Ev.bind (holesI l h) ?_
  by_cases hb : holesB l = true
  · have hl := (mholes_of hb).1
    simp only [hb, if_true, show 1 ≤ l.length ∧ l.length ≤ 1048576 by omega, and_self]
    split <;> exact Ev.now _
  · simp only [hb, if_false, Bool.false_eq_true]
    exact Ev.now _
theorem mirS (l : List Int) (h : l.length ≤ 1048576) (a : Int) : Ev (fun k => spec_MirrorHoles.f k l a) (mirV l a) := by
  unfold spec_MirrorHoles.f mirV
  refine Ev.bind (holesS l h) ?_
  by_cases hb : holesB l = true
  · have hl := (mholes_of hb).1
    have e1 : wrap64 ((l.length : Int) - 1) = ((l.length - 1 : Nat) : Int) := wrapPred (by omega) (by omega)
    simp only [hb, if_true, e1, show (0 : Int) ≤ ((l.length - 1 : Nat) : Int) by omega, show ((l.length - 1 : Nat) : Int) < (l.length : Int) by omega, inS, Option.bind_some]
    refine evSucc ?_
    by_cases h2 : rd l ((l.length - 1 : Nat) : Int) ≤ a ∧ a ≤ 20000
    · simp only [spec_MirrorHoles.j0, h2, and_self, decide_true, Bool.not_true, Bool.false_eq_true, if_false, if_true, e1]
      have key : ∀ d k : Nat, k + d = l.length → Ev (fun n => spec_MirrorHoles.l0 n l a (impl_MirrorHoles.mir a (impl_MirrorHoles.down l k)) ((d : Int) - 1)) (impl_MirrorHoles.mir a (impl_MirrorHoles.down l l.length), 0) := by
        intro d
        induction d with
        | zero =>
          intro k hk
          have : k = l.length := by omega
          subst this
          refine evSucc ?_
          simp only [spec_MirrorHoles.l0, show ¬ (((0 : Nat) : Int) - 1 ≥ 0) by decide, if_false]
          exact Ev.now _
        | succ d ih =>
          intro k hk
          have := ih (k + 1) (by omega)
          refine evSucc ?_
          have e2 : ((d + 1 : Nat) : Int) - 1 = (d : Int) := by omega
          have e3 : l.length - 1 - k = d := by omega
          rw [impl_MirrorHoles.down_succ, impl_MirrorHoles.mir_snoc, e3] at this
          simp only [spec_MirrorHoles.l0, e2, show (d : Int) ≥ 0 by omega, show (0 : Int) ≤ (d : Int) by omega, show (d : Int) < (l.length : Int) by omega, down_len, show k < 17592186044416 by omega, if_true, wrapIn (x := (d : Int) - 1) (by omega) (by omega)]
          exact this
      have := key l.length 0 (Nat.zero_add _)
      rw [show (l.length : Int) - 1 = ((l.length - 1 : Nat) : Int) by omega] at this
      exact this
    · simp only [spec_MirrorHoles.j0, h2, decide_false, Bool.not_false, if_true, if_false]
      exact Ev.now _
  · simp only [hb, if_false, Bool.false_eq_true]
    refine evSucc ?_
    simp only [spec_MirrorHoles.j0, if_true]
    exact Ev.now _
theorem mir_len (l : List Int) (a : Int) : (mirV l a).1.length ≤ 1048576 := by
  unfold mirV
  split
  · rename_i hb
    have hl := (mholes_of hb).1
    split
    · simp only [down_len]; omega
    · simp
  · simp

theorem toInt64S (l : List Int) (h : l.length ≤ 1048576) : Ev (fun k => laws_toInt64S.f k l) l := by
  unfold laws_toInt64S.f
  simp only [Int.toNat_natCast]
  rw [show (fun k => if 0 ≤ (l.length : Int) then (if l.length ≤ 35184372088832 then laws_toInt64S.l0 k l (List.replicate l.length 0) 0 else none) else none) = fun k => laws_toInt64S.l0 k l (List.replicate l.length 0) 0 from by
    funext k; rw [if_pos (by omega), if_pos (by omega)]]
  have := evCount (fun k s i => laws_toInt64S.l0 k l s i) 0 l.length (fun i => l.take i ++ List.replicate (l.length - i) 0) l ?_ ?_ (Nat.zero_le _)
  · simpa using this
  · intro i _ hi h
    refine evSucc ?_
    simp only [laws_toInt64S.l0]
    have hl := fillLen l (0 : Int) i (by omega)
    have h1 : (i : Int) < (l.length : Int) := by omega
    have h2 : (0 : Int) ≤ (i : Int) := by omega
    have h3 : (i : Int) < ((l.take i ++ List.replicate (l.length - i) (0 : Int)).length : Int) := by rw [hl]; omega
    simp only [h1, h2, h3, if_true, Int.toNat_natCast, rdN l i hi, fillStep l 0 i hi, wrapNat (show i < 4611686018427387904 by omega)]
    exact h
  · refine evSucc ?_
    simp only [laws_toInt64S.l0, Int.lt_irrefl, if_false, List.take_length, Nat.sub_self, List.replicate_zero, List.append_nil]
    exact Ev.now _

theorem eqInt64S (l : List Int) (h : l.length ≤ 1048576) : Ev (fun k => laws_eqInt64S.f k l l) true := by
  unfold laws_eqInt64S.f
  simp only [if_true]
  have := evAll (fun k i => laws_eqInt64S.l0 k l l i) 0 l.length (fun _ => True) ?_ (fun i _ hi hn => absurd trivial hn) true ?_ (Nat.zero_le _)
  · simpa [B_true] using this
  · intro i _ hi _ r h
    refine evSucc ?_
    have h1 : (i : Int) < (l.length : Int) := by omega
    have h2 : (0 : Int) ≤ (i : Int) := by omega
    simp only [laws_eqInt64S.l0, h1, h2, if_true, wrapNat (show i < 4611686018427387904 by omega)]
    exact h
  · refine evSucc ?_
    simp only [laws_eqInt64S.l0, Int.lt_irrefl, if_false]
    exact Ev.now _



def marks (i : Nat) : List Int := (List.range i).map fun (j : Nat) => (j : Int) + 1
theorem marks_len (i : Nat) : (marks i).length = i := by simp [marks]
theorem marks_succ (i : Nat) : marks (i + 1) = marks i ++ [(i : Int) + 1] := by simp [marks, List.range_succ]
theorem marks_get (n i : Nat) (h : i < n) : rd (marks n) (i : Int) = (i : Int) + 1 := by
  rw [rdN _ _ (by rw [marks_len]; exact h)]
  simp [marks]
theorem set_marks (l : List Int) (i : Nat) (h : i < l.length) : (marks i ++ l.drop i).set i ((i : Int) + 1) = marks (i + 1) ++ l.drop (i + 1) := by
  rw [List.set_append_right _ _ (by rw [marks_len]; omega), marks_len, Nat.sub_self, List.drop_eq_getElem_cons h, List.set_cons_zero, marks_succ, List.append_assoc]
  rfl

theorem markInt64S (l : List Int) (h : l.length ≤ 1048576) : Ev (fun k => laws_markInt64S.f k l 1) ((l.length : Int) + 1, marks l.length) := by
  unfold laws_markInt64S.f
  have := evCount (fun k (s : List Int × Int) i => laws_markInt64S.l0 k s.1 s.2 i) 0 l.length (fun i => (marks i ++ l.drop i, (i : Int) + 1)) ((l.length : Int) + 1, marks l.length) ?_ ?_ (Nat.zero_le _)
  · simpa [marks] using this
  · intro i _ hi hr
    refine evSucc ?_
    have hl : (marks i ++ l.drop i).length = l.length := by simp [marks_len]; omega
    simp only [laws_markInt64S.l0, hl, show (i : Int) < (l.length : Int) by omega, show (0 : Int) ≤ (i : Int) by omega, if_true, Int.toNat_natCast, set_marks l i hi, wrapNat (show i < 4611686018427387904 by omega), wrapIn (show -9223372036854775808 ≤ (i : Int) + 1 + 1 by omega) (show (i : Int) + 1 + 1 ≤ 9223372036854775807 by omega)]
    simp only [show ((i + 1 : Nat) : Int) + 1 = (i : Int) + 1 + 1 by omega] at hr
    exact hr
  · refine evSucc ?_
    have hl : (marks l.length ++ l.drop l.length).length = l.length := by simp [marks_len]
    simp only [laws_markInt64S.l0, hl, Int.lt_irrefl, if_false]
    rw [List.drop_length, List.append_nil]
    exact Ev.now _
theorem heldInt64S (n : Nat) (h : n ≤ 1048576) : Ev (fun k => laws_heldInt64S.f k (marks n) 1) ((n : Int) + 1) := by
  unfold laws_heldInt64S.f
  have := evCount (fun k (s : Int) i => laws_heldInt64S.l0 k (marks n) s i) 0 n (fun i => (i : Int) + 1) ((n : Int) + 1) ?_ ?_ (Nat.zero_le _)
  · exact this
  · intro i _ hi hr
    refine evSucc ?_
    simp only [laws_heldInt64S.l0, marks_len, show (i : Int) < (n : Int) by omega, show (0 : Int) ≤ (i : Int) by omega, if_true, marks_get n i hi, wrapNat (show i < 4611686018427387904 by omega), wrapIn (show -9223372036854775808 ≤ (i : Int) + 1 + 1 by omega) (show (i : Int) + 1 + 1 ≤ 9223372036854775807 by omega)]
    simp only [show ((i + 1 : Nat) : Int) + 1 = (i : Int) + 1 + 1 by omega] at hr
    exact hr
  · refine evSucc ?_
    simp only [laws_heldInt64S.l0, marks_len, Int.lt_irrefl, if_false]
    exact Ev.now _

theorem FnExactMirrorHoles : laws_FnExactMirrorHoles.Pure := by
  intro l a _ _ _ _
  refine Ev.rounds ?_
  unfold laws_FnExactMirrorHoles.f
  by_cases hl : (l.length : Int) > 1048576
  · simp only [hl, if_true]
    exact Ev.now _
  · simp only [hl, if_false]
    have h : l.length ≤ 1048576 := by omega
    have hw := mir_len l a
    refine Ev.bind (toInt64S l h) (Ev.bind (mirS l h a) (Ev.bind (toInt64S l h) (Ev.bind (mirI l h a) (Ev.bind (eqInt64S _ hw) ?_))))
    simp only [if_true, bne_self_eq_false]
    refine evSucc ?_
    simp only [laws_FnExactMirrorHoles.j0, Bool.false_eq_true, if_false]
    refine Ev.bind (toInt64S l h) (Ev.bind (eqInt64S l h) ?_)
    simp only [if_true]
    refine Ev.bind (markInt64S l h) ?_
    simp only [show ¬ (((l.length : Nat) : Int) + 1 < 0) by omega, if_false]
    refine Ev.bind (eqInt64S _ hw) ?_
    simp only [if_true]
    refine evSucc ?_
    simp only [laws_FnExactMirrorHoles.j1, bne_self_eq_false, Bool.false_eq_true, if_false]
    refine Ev.bind (markInt64S _ hw) ?_
    refine Ev.bind (heldInt64S _ hw) ?_
    simp only [show ¬ ((((mirV l a).1.length : Nat) : Int) + 1 < 0) by omega, if_false, if_true]
    refine Ev.bind (toInt64S l h) (Ev.bind (mirI l h a) (Ev.bind (eqInt64S _ hw) ?_))
    simp only [if_true, bne_self_eq_false]
    refine evSucc ?_
    simp only [laws_FnExactMirrorHoles.j2, Bool.false_eq_true, if_false]
    refine Ev.bind (heldInt64S _ hw) ?_
    simp only [show ¬ ((((mirV l a).1.length : Nat) : Int) + 1 < 0) by omega, if_false, if_true]
    exact Ev.now _

end Go.Proofs.Ytdelnmbfokipoaa.Pure
