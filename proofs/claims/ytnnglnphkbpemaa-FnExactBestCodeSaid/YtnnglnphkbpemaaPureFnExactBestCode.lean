/- The program and the reference tell the same best code and how often it was read, for every list of int64. -/
import Derived.Test.YtnnglnphkbpemaaSayFnExactBestCode
namespace Go.Proofs.Ytnnglnphkbpemaa.Pure
open Go.RowKit Go.Proofs.Ytnnglnphkbpemaa.PFnExactBestCode Go.Proofs.YtnnglnphkbpemaaW.PrintWords Go.Proofs.YtnnglnphkbpemaaW.PrintLast
set_option linter.unusedVariables false
set_option linter.unusedSimpArgs false
-- BEGIN
/-- A proposition as a bool. -/
noncomputable def B (p : Prop) : Bool := @decide p (Classical.propDecidable p)
theorem B_iff {p : Prop} : B p = true ↔ p := by unfold B; exact @decide_eq_true_iff p (Classical.propDecidable p)
theorem B_true {p : Prop} (h : p) : B p = true := B_iff.2 h
theorem B_false {p : Prop} (h : ¬ p) : B p = false := by cases e : B p with | false => rfl | true => exact absurd (B_iff.1 e) h
theorem B_congr {p q : Prop} (h : p ↔ q) : B p = B q := by rw [propext h]
theorem B_dec (p : Prop) [Decidable p] : B p = decide p := by by_cases h : p <;> simp [h, B_true, B_false]
theorem B_and (p q : Prop) : (B p && B q) = B (p ∧ q) := by
  by_cases hp : p <;> by_cases hq : q <;> simp [B_true, B_false, hp, hq]
theorem B_not (p : Prop) : (!B p) = B (¬ p) := by by_cases hp : p <;> simp [B_true, B_false, hp]
theorem evSucc {α : Type} {g : Nat → Option α} {r : α} (h : Ev (fun k => g (k + 1)) r) : Ev g r := Ev.step (fun _ => rfl) h
theorem evNow {α : Type} {g : Nat → Option α} {r : α} (h : ∀ k, g k = some r) : Ev g r := ⟨0, fun k _ => h k⟩
theorem evCount {σ α : Type} (F : Nat → σ → Int → Option α) (i0 n : Nat) (S : Nat → σ) (r : α)
    (hstep : ∀ i, i0 ≤ i → i < n → Ev (fun k => F k (S (i + 1)) ((i + 1 : Nat) : Int)) r → Ev (fun k => F k (S i) (i : Int)) r) (hend : Ev (fun k => F k (S n) (n : Int)) r) (hle : i0 ≤ n) : Ev (fun k => F k (S i0) (i0 : Int)) r := by
  have key : ∀ d i, i0 ≤ i → i + d = n → Ev (fun k => F k (S i) (i : Int)) r := by
    intro d
    induction d with
    | zero =>
      intro i _ hi
      have h0 : i = n := by omega
      subst h0
      exact hend
    | succ d ih => intro i h0 hi; exact hstep i h0 (by omega) (ih (i + 1) (by omega) (by omega))
  exact key (n - i0) i0 (Nat.le_refl _) (by omega)
/-- A loop that leaves at the first place where G fails. -/
theorem evAll (F : Nat → Int → Option Bool) (i0 n : Nat) (G : Nat → Prop)
    (hstep : ∀ i, i0 ≤ i → i < n → G i → ∀ r, Ev (fun k => F k ((i + 1 : Nat) : Int)) r → Ev (fun k => F k (i : Int)) r) (hbad : ∀ i, i0 ≤ i → i < n → ¬ G i → Ev (fun k => F k (i : Int)) false) (e : Bool) (hend : Ev (fun k => F k (n : Int)) e) (hle : i0 ≤ n) :
    Ev (fun k => F k (i0 : Int)) (B (∀ j, i0 ≤ j → j < n → G j) && e) := by
  have key : ∀ d i, i0 ≤ i → i + d = n → Ev (fun k => F k (i : Int)) (B (∀ j, i ≤ j → j < n → G j) && e) := by
    intro d
    induction d with
    | zero =>
      intro i _ hi
      have h0 : i = n := by omega
      subst h0
      rw [B_true (fun j h1 h2 => absurd h2 (by omega)), Bool.true_and]
      exact hend
    | succ d ih =>
      intro i h0 hi
      by_cases hg : G i
      · have h1 : B (∀ j, i ≤ j → j < n → G j) = B (∀ j, i + 1 ≤ j → j < n → G j) := B_congr ⟨fun h j a b => h j (by omega) b, fun h j a b => by
          by_cases e : j = i
          · subst e; exact hg
          · exact h j (by omega) b⟩
        rw [h1]
        exact hstep i h0 (by omega) hg _ (ih (i + 1) (by omega) (by omega))
      · rw [B_false (fun h => hg (h i (Nat.le_refl _) (by omega))), Bool.false_and]
        exact hbad i h0 (by omega) hg
  exact key (n - i0) i0 (Nat.le_refl _) (by omega)
theorem wrapNat {i : Nat} (h : i < 4611686018427387904) : wrap64 ((i : Int) + 1) = ((i + 1 : Nat) : Int) := by
  unfold wrap64; omega
theorem wrapPred {i : Nat} (h0 : 1 ≤ i) (h : i < 4611686018427387904) : wrap64 ((i : Int) - 1) = ((i - 1 : Nat) : Int) := by
  unfold wrap64; omega
theorem rdN (xs : List Int) (i : Nat) (h : i < xs.length) : rd xs (i : Int) = xs[i] := by
  simp [rd, List.getD_eq_getElem?_getD, List.getElem?_eq_getElem h]
theorem fillStep {α : Type} (xs : List α) (z : α) (i : Nat) (h : i < xs.length) : (xs.take i ++ List.replicate (xs.length - i) z).set i xs[i] = xs.take (i + 1) ++ List.replicate (xs.length - (i + 1)) z := by
  have h1 : xs.length - i = (xs.length - (i + 1)) + 1 := by omega
  rw [h1, List.replicate_succ, List.set_append_right _ _ (by rw [List.length_take]; omega)]
  rw [List.length_take, Nat.min_eq_left (by omega), Nat.sub_self, List.set_cons_zero, List.take_succ_eq_append_getElem h, List.append_assoc]
  rfl
theorem fillLen {α : Type} (xs : List α) (z : α) (i : Nat) (h : i ≤ xs.length) : (xs.take i ++ List.replicate (xs.length - i) z).length = xs.length := by
  simp; omega

theorem inS (a b c : Int) : spec_l01In.f a b c = some (decide (b ≤ a ∧ a ≤ c)) := by
  unfold spec_l01In.f
  by_cases h : b ≤ a <;> simp [h]

theorem inI (a b c : Int) : impl_inRange.f a b c = some (decide (b ≤ a ∧ a ≤ c)) := by
  unfold impl_inRange.f
  by_cases h : b ≤ a <;> simp [h]

def InAll (l : List Int) (a b : Int) : Prop := ∀ j, 0 ≤ j → j < l.length → a ≤ rd l (j : Int) ∧ rd l (j : Int) ≤ b
theorem inAll_mem {l : List Int} {a b : Int} : InAll l a b ↔ ∀ x ∈ l, a ≤ x ∧ x ≤ b := by
  constructor
  · intro h x hx
    obtain ⟨i, hi, rfl⟩ := List.mem_iff_getElem.1 hx
    have := h i (Nat.zero_le _) hi
    rwa [rdN l i hi] at this
  · intro h j _ hj
    rw [rdN l j hj]
    exact h _ (List.getElem_mem hj)
theorem allIn_all (l : List Int) (a b : Int) : (l.all fun x => decide (a ≤ x ∧ x ≤ b)) = B (InAll l a b) := by
  by_cases h : InAll l a b
  · rw [B_true h, List.all_eq_true]
    exact fun x hx => decide_eq_true (inAll_mem.1 h x hx)
  · rw [B_false h, Bool.eq_false_iff]
    intro h2
    exact h (inAll_mem.2 fun x hx => of_decide_eq_true (List.all_eq_true.1 h2 x hx))

theorem withinS (l : List Int) (m a b : Int) (h : l.length ≤ 1048576) : Ev (fun k => spec_l01Within.f k l m a b) (B (InAll l a b) && decide ((l.length : Int) ≤ m)) := by
  unfold spec_l01Within.f
  have := evAll (fun k i => spec_l01Within.l0 k l m a b i) 0 l.length (fun j => a ≤ rd l (j : Int) ∧ rd l (j : Int) ≤ b) ?_ ?_ (decide ((l.length : Int) ≤ m)) ?_ (Nat.zero_le _)
  · exact this
  · intro i h0 hi hg r hr
    refine evSucc ?_
    have e1 : (i : Int) < (l.length : Int) := by omega
    have e2 : (0 : Int) ≤ (i : Int) := by omega
    simp only [spec_l01Within.l0, inS, Option.bind_some, e1, e2, decide_eq_true hg, if_true, wrapNat (show i < 4611686018427387904 by omega)]
    exact hr
  · intro i h0 hi hg
    refine evSucc ?_
    have e1 : (i : Int) < (l.length : Int) := by omega
    have e2 : (0 : Int) ≤ (i : Int) := by omega
    simp only [spec_l01Within.l0, inS, Option.bind_some, e1, e2, decide_eq_false hg, if_true, if_false, Bool.false_eq_true]
    exact Ev.now _
  · refine evSucc ?_
    simp only [spec_l01Within.l0, Int.lt_irrefl, if_false]
    exact Ev.now _

noncomputable def readsB (l : List Int) : Bool := B (InAll l 0 9999999) && decide ((l.length : Int) ≤ 200)
theorem readsI (l : List Int) : impl_areReads.f l = some (readsB l) := by
  unfold impl_areReads.f impl_allIn.f readsB
  simp only [allIn_all, Option.bind_some]
  by_cases h : (l.length : Int) ≤ 200
  · simp [h]
  · simp [h]
theorem readsS (l : List Int) (hl : l.length ≤ 1048576) : Ev (fun k => spec_l15Reads.f k l) (readsB l) := by
  unfold spec_l15Reads.f
  have hw := withinS l 200 0 9999999 hl
  rw [← readsB] at hw
  exact Ev.bind hw (Ev.now _)
theorem reads_len {l : List Int} (h : readsB l = true) : l.length ≤ 200 := by
  unfold readsB at h
  simp only [Bool.and_eq_true, decide_eq_true_eq] at h
  omega

def codeB (a : Int) : Bool := decide ((0 ≤ a ∧ a ≤ 9999999) ∧ (1 ≤ Int.tmod a 100 ∧ Int.tmod a 100 ≤ 97) ∧ Int.tmod a 97 = 1)
theorem codeS (a : Int) : spec_IsCode.f a = some (codeB a) := by
  unfold spec_IsCode.f spec_l15Remainder.f codeB
  simp only [inS, Option.bind_some]
  by_cases h1 : (0 ≤ a ∧ a ≤ 9999999) <;> by_cases h2 : (1 ≤ Int.tmod a 100 ∧ Int.tmod a 100 ≤ 97) <;> by_cases h3 : Int.tmod a 97 = 1 <;> simp [h1, h2, h3]
theorem codeI (a : Int) : impl_IsCode.f a = some (codeB a) := by
  unfold impl_IsCode.f codeB
  simp only [inI, Option.bind_some]
  by_cases h1 : (0 ≤ a ∧ a ≤ 9999999) <;> by_cases h2 : (1 ≤ Int.tmod a 100 ∧ Int.tmod a 100 ≤ 97) <;> by_cases h3 : Int.tmod a 97 = 1 <;> simp [h1, h2, h3]

theorem wrapIn {x : Int} (h0 : -9223372036854775808 ≤ x) (h1 : x ≤ 9223372036854775807) : wrap64 x = x := by
  unfold wrap64; omega

theorem code_is (x : Int) : impl_BestCode.code x = codeB x := by
  unfold impl_BestCode.code
  rw [codeI]
  simp
noncomputable def bestCR (l : List Int) : Int × Int × Int := if readsB l = true then (if (impl_BestCode.best l).2 = 0 then (0, 0, 4) else ((impl_BestCode.best l).1, (impl_BestCode.best l).2, 0)) else (0, 0, 2)
theorem bestCI (l : List Int) : impl_BestCode.f l = some (bestCR l) := by
  unfold impl_BestCode.f bestCR
  rw [readsI, Option.bind_some]
  by_cases h : readsB l = true
  · rw [if_pos h, if_pos h]
    split <;> rfl
  · rw [if_neg h, if_neg h]
theorem count_take (l : List Int) (v : Int) (i : Nat) (hi : i < l.length) : ((l.take (i + 1)).count v : Nat) = if l[i] = v then (l.take i).count v + 1 else (l.take i).count v := by
  rw [List.take_succ_eq_append_getElem hi, List.count_append, List.count_singleton]
  by_cases h : l[i] = v
  · rw [if_pos h]; simp [h]
  · rw [if_neg h]; simp [h]
theorem bestCS (l : List Int) (hl : l.length ≤ 1048576) : Ev (fun k => spec_BestCode.f k l) (bestCR l) := by
  unfold spec_BestCode.f bestCR
  refine Ev.bind (readsS l hl) ?_
  by_cases h : readsB l = true
  · have h200 := reads_len h
    simp only [h, if_true]
    have key := evCount (fun k (s : Int × Int) i => spec_BestCode.l0 k l s.1 s.2 i) 0 l.length (fun i => (l.take i).foldl (impl_BestCode.step l) (0, 0)) (if (impl_BestCode.best l).2 = 0 then (0, 0, 4) else ((impl_BestCode.best l).1, (impl_BestCode.best l).2, 0)) ?_ ?_ (Nat.zero_le _)
    · simpa using key
    · intro i _ hi hr
      rw [List.take_succ_eq_append_getElem hi, List.foldl_append] at hr
      generalize (l.take i).foldl (impl_BestCode.step l) (0, 0) = s at hr ⊢
      simp only [List.foldl_cons, List.foldl_nil] at hr
      refine evSucc ?_
      simp only [spec_BestCode.l0, show (i : Int) < (l.length : Int) by omega, if_true]
      have in2 := evCount (fun k (c : Int) j => spec_BestCode.l1 k l s.1 s.2 (i : Int) c j) 0 l.length (fun j => (((l.take j).count l[i] : Nat) : Int)) (if (impl_BestCode.best l).2 = 0 then (0, 0, 4) else ((impl_BestCode.best l).1, (impl_BestCode.best l).2, 0)) ?_ ?_ (Nat.zero_le _)
      · simpa using in2
      · intro j _ hj h2
        refine evSucc ?_
        have hc : (l.take j).count l[i] ≤ 200 := Nat.le_trans List.count_le_length (by rw [List.length_take]; omega)
        rw [count_take l l[i] j hj] at h2
        simp only [spec_BestCode.l1, show (j : Int) < (l.length : Int) by omega, show (0 : Int) ≤ (j : Int) by omega, show (0 : Int) ≤ (i : Int) by omega, show (i : Int) < (l.length : Int) by omega, if_true, rdN l i hi, rdN l j hj, wrapNat (show j < 4611686018427387904 by omega), wrapNat (show (l.take j).count l[i] < 4611686018427387904 by omega)]
        by_cases e : l[j] = l[i]
        · rw [if_pos e] at h2
          simp only [e, if_true]
          exact h2
        · rw [if_neg e] at h2
          simp only [e, if_false]
          exact h2
      · refine evSucc ?_
        simp only [spec_BestCode.l1, Int.lt_irrefl, if_false, show (0 : Int) ≤ (i : Int) by omega, show (i : Int) < (l.length : Int) by omega, if_true, rdN l i hi, codeS, Option.bind_some, List.take_length, wrapNat (show i < 4611686018427387904 by omega)]
        unfold impl_BestCode.step impl_BestCode.cc at hr
        rw [code_is] at hr
        by_cases c : codeB l[i] = true
        · simp only [c, if_true, true_and] at hr ⊢
          by_cases c1 : ((l.count l[i] : Nat) : Int) > s.2
          · rw [if_pos (.inl c1)] at hr
            simp only [c1, if_true]
            exact hr
          · by_cases c2 : ((l.count l[i] : Nat) : Int) = s.2
            · by_cases c3 : l[i] < s.1
              · rw [if_pos (.inr ⟨c2, c3⟩)] at hr
                simp only [c1, if_false, if_pos c2, c3, if_true]
                exact hr
              · rw [if_neg (fun g => g.elim c1 (fun g => c3 g.2))] at hr
                simp only [c1, if_false, if_pos c2, c3]
                exact hr
            · rw [if_neg (fun g => g.elim c1 (fun g => c2 g.1))] at hr
              simp only [c1, if_false, if_neg c2]
              exact hr
        · simp only [c, if_false, Bool.false_eq_true, false_and] at hr ⊢
          exact hr
    · refine evSucc ?_
      rw [List.take_length]
      simp only [spec_BestCode.l0, Int.lt_irrefl, if_false]
      unfold impl_BestCode.best
      split <;> exact Ev.now _
  · simp only [h, if_false, Bool.false_eq_true]
    exact Ev.now _

theorem toInt64S (l : List Int) (h : l.length ≤ 1048576) : Ev (fun k => laws_toInt64S.f k l) l := by
  unfold laws_toInt64S.f
  simp only [Int.toNat_natCast]
  rw [show (fun k => if 0 ≤ (l.length : Int) then (if l.length ≤ 35184372088832 then laws_toInt64S.l0 k l (List.replicate l.length 0) 0 else none) else none) = fun k => laws_toInt64S.l0 k l (List.replicate l.length 0) 0 from by
    funext k; rw [if_pos (by omega), if_pos (by omega)]]
  have := evCount (fun k s i => laws_toInt64S.l0 k l s i) 0 l.length (fun i => l.take i ++ List.replicate (l.length - i) 0) l ?_ ?_ (Nat.zero_le _)
  · simpa using this
  · intro i _ hi h
    refine evSucc ?_
    simp only [laws_toInt64S.l0]
    have hl := fillLen l (0 : Int) i (by omega)
    have h1 : (i : Int) < (l.length : Int) := by omega
    have h2 : (0 : Int) ≤ (i : Int) := by omega
    have h3 : (i : Int) < ((l.take i ++ List.replicate (l.length - i) (0 : Int)).length : Int) := by rw [hl]; omega
    simp only [h1, h2, h3, if_true, Int.toNat_natCast, rdN l i hi, fillStep l 0 i hi, wrapNat (show i < 4611686018427387904 by omega)]
    exact h
  · refine evSucc ?_
    simp only [laws_toInt64S.l0, Int.lt_irrefl, if_false, List.take_length, Nat.sub_self, List.replicate_zero, List.append_nil]
    exact Ev.now _

theorem eqInt64S (l : List Int) (h : l.length ≤ 1048576) : Ev (fun k => laws_eqInt64S.f k l l) true := by
  unfold laws_eqInt64S.f
  simp only [if_true]
  have := evAll (fun k i => laws_eqInt64S.l0 k l l i) 0 l.length (fun _ => True) ?_ (fun i _ hi hn => absurd trivial hn) true ?_ (Nat.zero_le _)
  · simpa [B_true] using this
  · intro i _ hi _ r h
    refine evSucc ?_
    have h1 : (i : Int) < (l.length : Int) := by omega
    have h2 : (0 : Int) ≤ (i : Int) := by omega
    simp only [laws_eqInt64S.l0, h1, h2, if_true, wrapNat (show i < 4611686018427387904 by omega)]
    exact h
  · refine evSucc ?_
    simp only [laws_eqInt64S.l0, Int.lt_irrefl, if_false]
    exact Ev.now _



theorem FnExactBestCode : laws_FnExactBestCode.Pure := by
  intro l _ _ _
  refine Ev.rounds ?_
  unfold laws_FnExactBestCode.f
  by_cases hl : (l.length : Int) > 1048576
  · simp only [hl, if_true]
    exact Ev.now _
  · simp only [hl, if_false]
    have h : l.length ≤ 1048576 := by omega
    refine Ev.bind (toInt64S l h) (Ev.bind (bestCS l h) (Ev.bind (toInt64S l h) ?_))
    simp only [bestCI, Option.bind_some, if_true, bne_self_eq_false]
    refine evSucc ?_
    simp only [laws_FnExactBestCode.j0, Bool.false_eq_true, if_false]
    refine Ev.bind (toInt64S l h) (Ev.bind (eqInt64S l h) ?_)
    simp only [if_true]
    exact Ev.now _

end Go.Proofs.Ytnnglnphkbpemaa.Pure
