-- Written by a program of this session.
import Derived.Test.YtnnglnphkbpemaaPFnReadsx0
import Derived.Test.YtnnglnphkbpemaaPFnReadsx1
import Derived.Maps.RangeWalk
import Derived.Maps.OwnOps
import Derived.Maps.Views
import Derived.Carry
namespace Go.Proofs.Ytnnglnphkbpemaa.PFnReads
open Go.RowKit Go.Proofs.YtnnglnphkbpemaaW.PrintWords Go.Proofs.YtnnglnphkbpemaaW.PrintLast Go.Proofs.YtnnglnphkbpemaaW.PrintMore
attribute [local go_sem] max2_int min2_int max_two min_two max_three min_three max_four min_four   -- for this text's walks alone
set_option linter.unusedVariables false
set_option linter.unusedSimpArgs false

/-! ### impl_BestCode: function 12, by a template of this session -/
def impl_BestCode.code (x : Int) : Bool := decide (impl_IsCode.f x = some true)
def impl_BestCode.cc (l : List Int) (x : Int) : Nat := if impl_BestCode.code x = true then l.count x else 0
def impl_BestCode.step (l : List Int) (s : Int × Int) (x : Int) : Int × Int := if impl_BestCode.code x = true ∧ ((impl_BestCode.cc l x : Int) > s.2 ∨ ((impl_BestCode.cc l x : Int) = s.2 ∧ x < s.1)) then (x, (impl_BestCode.cc l x : Int)) else s
def impl_BestCode.best (l : List Int) : Int × Int := l.foldl (impl_BestCode.step l) (0, 0)
def impl_BestCode.f (l0 : List Int) : Option (Int × Int × Int) := (impl_areReads.f l0).bind fun t => (if t = true then (if (impl_BestCode.best l0).2 = 0 then some (0, 0, 4) else some ((impl_BestCode.best l0).1, (impl_BestCode.best l0).2, 0)) else some (0, 0, 2))
/-- The best of what P holds. -/
structure impl_BestCode.Opt (l : List Int) (P : Int → Prop) (b m : Int) : Prop where
  pos : 0 ≤ m
  none_ : m = 0 → b = 0 ∧ ∀ x, ¬ P x
  some_ : 0 < m → P b ∧ (impl_BestCode.cc l b : Int) = m ∧ ∀ x, P x → (impl_BestCode.cc l x : Int) < m ∨ ((impl_BestCode.cc l x : Int) = m ∧ b ≤ x)
theorem impl_BestCode.opt_take {l : List Int} {P P' : Int → Prop} {b m x : Int} (h : impl_BestCode.Opt l P b m) (hP : ∀ y, P' y → P y ∨ y = x) (hx : P' x) (h0 : 0 < impl_BestCode.cc l x) (c : (impl_BestCode.cc l x : Int) > m ∨ ((impl_BestCode.cc l x : Int) = m ∧ x < b)) : impl_BestCode.Opt l P' x (impl_BestCode.cc l x : Int) := by
  refine ⟨by omega, fun e => by omega, fun _ => ⟨hx, rfl, fun y hy => ?_⟩⟩
  rcases hP y hy with h1 | rfl
  · by_cases hm : m = 0
    · exact ((h.none_ hm).2 y h1).elim
    · have := (h.some_ (by have := h.pos; omega)).2.2 y h1
      omega
  · exact .inr ⟨rfl, Int.le_refl _⟩
theorem impl_BestCode.opt_keep {l : List Int} {P P' : Int → Prop} {b m x : Int} (h : impl_BestCode.Opt l P b m) (hP : ∀ y, P' y → P y ∨ y = x) (hQ : ∀ y, P y → P' y) (h0 : 0 < impl_BestCode.cc l x) (c : ¬ ((impl_BestCode.cc l x : Int) > m ∨ ((impl_BestCode.cc l x : Int) = m ∧ x < b))) : impl_BestCode.Opt l P' b m := by
  have hm : 0 < m := by omega
  refine ⟨h.pos, fun e => by omega, fun _ => ?_⟩
  obtain ⟨h1, h2, h3⟩ := h.some_ hm
  refine ⟨hQ b h1, h2, fun y hy => ?_⟩
  rcases hP y hy with h4 | rfl
  · exact h3 y h4
  · omega
theorem impl_BestCode.opt_one {l : List Int} {P : Int → Prop} {b m b' m' : Int} (h : impl_BestCode.Opt l P b m) (h' : impl_BestCode.Opt l P b' m') : b = b' ∧ m = m' := by
  have hp := h.pos
  have hp' := h'.pos
  by_cases c : m = 0
  · have e := h.none_ c
    by_cases c' : m' = 0
    · have e' := h'.none_ c'
      omega
    · exact (e.2 _ (h'.some_ (by omega)).1).elim
  · obtain ⟨a1, a2, a3⟩ := h.some_ (by omega)
    by_cases c' : m' = 0
    · exact ((h'.none_ c').2 _ a1).elim
    · obtain ⟨b1, b2, b3⟩ := h'.some_ (by omega)
      have x1 := a3 _ b1
      have x2 := b3 _ a1
      omega
theorem impl_BestCode.cc_pos {l : List Int} {x : Int} : 0 < impl_BestCode.cc l x ↔ impl_BestCode.code x = true ∧ x ∈ l := by
  unfold impl_BestCode.cc
  by_cases c : impl_BestCode.code x = true
  · rw [if_pos c, List.count_pos_iff]
    exact ⟨fun h => ⟨c, h⟩, fun h => h.2⟩
  · rw [if_neg c]
    exact ⟨fun h => absurd h (by decide), fun h => absurd h.1 c⟩
theorem impl_BestCode.best_opt (l : List Int) : impl_BestCode.Opt l (fun x => 0 < impl_BestCode.cc l x) (impl_BestCode.best l).1 (impl_BestCode.best l).2 := by
  have key : ∀ (q p : List Int) (s : Int × Int), l = p ++ q → impl_BestCode.Opt l (fun x => 0 < impl_BestCode.cc l x ∧ x ∈ p) s.1 s.2 → impl_BestCode.Opt l (fun x => 0 < impl_BestCode.cc l x ∧ x ∈ l) (q.foldl (impl_BestCode.step l) s).1 (q.foldl (impl_BestCode.step l) s).2 := by
    intro q
    induction q with
    | nil => intro p s e h; rw [List.append_nil] at e; subst e; exact h
    | cons x q ih =>
      intro p s e h
      refine ih (p ++ [x]) (impl_BestCode.step l s x) (by rw [e]; simp) ?_
      have hxl : x ∈ l := by rw [e]; simp
      unfold impl_BestCode.step
      by_cases cx : impl_BestCode.code x = true
      · have h0 : 0 < impl_BestCode.cc l x := impl_BestCode.cc_pos.2 ⟨cx, hxl⟩
        have hP : ∀ y, (0 < impl_BestCode.cc l y ∧ y ∈ p ++ [x]) → (0 < impl_BestCode.cc l y ∧ y ∈ p) ∨ y = x := fun y hy => by
          rcases List.mem_append.1 hy.2 with h1 | h1
          · exact .inl ⟨hy.1, h1⟩
          · exact .inr (List.mem_singleton.1 h1)
        by_cases c : (impl_BestCode.cc l x : Int) > s.2 ∨ ((impl_BestCode.cc l x : Int) = s.2 ∧ x < s.1)
        · rw [if_pos ⟨cx, c⟩]
          exact impl_BestCode.opt_take h hP ⟨h0, by simp⟩ h0 c
        · rw [if_neg (fun g => c g.2)]
          exact impl_BestCode.opt_keep h hP (fun y hy => ⟨hy.1, List.mem_append_left _ hy.2⟩) h0 c
      · rw [if_neg (fun g => cx g.1)]
        have hn : impl_BestCode.cc l x = 0 := by unfold impl_BestCode.cc; rw [if_neg cx]
        have e2 : (fun y => 0 < impl_BestCode.cc l y ∧ y ∈ p ++ [x]) = fun y => 0 < impl_BestCode.cc l y ∧ y ∈ p := by
          funext y
          refine propext ⟨fun g => ⟨g.1, ?_⟩, fun g => ⟨g.1, List.mem_append_left _ g.2⟩⟩
          rcases List.mem_append.1 g.2 with h1 | h1
          · exact h1
          · rw [List.mem_singleton.1 h1] at g; omega
        rw [e2]
        exact h
  have h := key l [] (0, 0) rfl ⟨Int.le_refl _, fun _ => ⟨rfl, fun x hx => absurd hx.2 (by simp)⟩, fun h => absurd h (by decide)⟩
  have e : (fun x => 0 < impl_BestCode.cc l x ∧ x ∈ l) = fun x => 0 < impl_BestCode.cc l x := by
    funext x
    exact propext ⟨fun g => g.1, fun g => ⟨g, (impl_BestCode.cc_pos.1 g).2⟩⟩
  rw [e] at h
  exact h
theorem impl_BestCode.code_in {x : Int} (h : impl_BestCode.code x = true) : 0 ≤ x ∧ x ≤ 9999999 := by
  unfold impl_BestCode.code at h
  rw [decide_eq_true_eq] at h
  unfold impl_IsCode.f impl_inRange.f at h
  by_cases c : (0 : Int) ≤ x
  · by_cases c2 : x ≤ 9999999
    · exact ⟨c, c2⟩
    · simp [c, c2] at h
  · simp [c] at h
theorem impl_BestCode.code_f (x : Int) : impl_IsCode.f x = some (impl_BestCode.code x) := by
  have inR : ∀ a b c : Int, impl_inRange.f a b c = some (decide (b ≤ a ∧ a ≤ c)) := fun a b c => by
    unfold impl_inRange.f
    by_cases h1 : b ≤ a <;> by_cases h2 : a ≤ c <;> simp [h1, h2]
  have h : ∃ r, impl_IsCode.f x = some r := by
    unfold impl_IsCode.f
    simp only [inR, Option.bind_some]
    repeat' (first | exact ⟨_, rfl⟩ | split)
  obtain ⟨r, h⟩ := h
  unfold impl_BestCode.code
  rw [h]
  cases r <;> simp
/-- What the map holds behind p. -/
def impl_BestCode.Holds (D : DataW Unit) (p : List Int) : Prop := (∀ x : Int, D.atKey (.int .i64 x) (.lit (.int .i64 0)) = .lit (.int .i64 ((impl_BestCode.cc p x : Nat) : Int))) ∧ ∀ x : Int, Go.Maps.has D (.int .i64 x) = true ↔ 0 < impl_BestCode.cc p x
theorem impl_BestCode.holds_nil : impl_BestCode.Holds (.map []) [] := by
  refine ⟨fun x => ?_, fun x => ?_⟩
  · have : impl_BestCode.cc [] x = 0 := by unfold impl_BestCode.cc; split <;> simp
    rw [this]; rfl
  · have : impl_BestCode.cc [] x = 0 := by unfold impl_BestCode.cc; split <;> simp
    rw [this]; simp [Go.Maps.has]
theorem impl_BestCode.cc_snoc (p : List Int) (x y : Int) : impl_BestCode.cc (p ++ [x]) y = if impl_BestCode.code y = true ∧ x = y then impl_BestCode.cc p y + 1 else impl_BestCode.cc p y := by
  unfold impl_BestCode.cc
  by_cases c : impl_BestCode.code y = true
  · rw [if_pos c, if_pos c, List.count_append]
    by_cases e : x = y
    · subst e; simp [c]
    · simp [e, c, List.count_singleton]
  · rw [if_neg c, if_neg c, if_neg (fun g => c g.1)]
theorem impl_BestCode.holds_miss {D : DataW Unit} {p : List Int} {x : Int} (h : impl_BestCode.Holds D p) (c : impl_BestCode.code x = false) : impl_BestCode.Holds D (p ++ [x]) := by
  have e : ∀ y, impl_BestCode.cc (p ++ [x]) y = impl_BestCode.cc p y := fun y => by
    rw [impl_BestCode.cc_snoc, if_neg]
    rintro ⟨g, rfl⟩
    rw [c] at g; cases g
  exact ⟨fun y => by rw [e]; exact h.1 y, fun y => by rw [e]; exact h.2 y⟩
theorem impl_BestCode.holds_at {D : DataW Unit} {p : List Int} {x c : Int} (h : impl_BestCode.Holds D p) (hat : D.atKey (.int .i64 x) (.lit (.int .i64 0)) = .lit (.int .i64 c)) : c = ((impl_BestCode.cc p x : Nat) : Int) := by
  have := (h.1 x).symm.trans hat
  injection this with h1
  injection h1 with _ h2
  exact h2.symm
theorem impl_BestCode.holds_hit {D : DataW Unit} {p : List Int} {x : Int} (hD : Go.Maps.IsMap D) (h : impl_BestCode.Holds D p) (c : impl_BestCode.code x = true) : impl_BestCode.Holds (D.put (.int .i64 x) (.lit (.int .i64 (((impl_BestCode.cc p x : Nat) : Int) + 1)))) (p ++ [x]) := by
  refine ⟨fun y => ?_, fun y => ?_⟩
  · rw [impl_BestCode.cc_snoc]
    by_cases e : x = y
    · subst e
      rw [if_pos ⟨c, rfl⟩, Go.Maps.atKey_put_same (k := .int .i64 x) hD (show WideAt.IsKeyLit (.int .i64 x) from trivial)]
      rfl
    · rw [if_neg (fun g => e g.2), Go.Maps.atKey_put_other (fun g => e (by injection g with _ g; exact g.symm))]
      exact h.1 y
  · rw [impl_BestCode.cc_snoc]
    by_cases e : x = y
    · subst e
      rw [if_pos ⟨c, rfl⟩, Go.Maps.has_put_same (k := .int .i64 x) hD (show WideAt.IsKeyLit (.int .i64 x) from trivial)]
      simp
    · rw [if_neg (fun g => e g.2), Go.Maps.has_put_other (fun g => e (by injection g with _ g; exact g.symm))]
      exact h.2 y
theorem rdX (l : List Int) (i : Nat) (h : i < l.length) : rd l (i : Int) = l[i] := by simp [rd, List.getD_eq_getElem?_getD, List.getElem?_eq_getElem h]
theorem impl_BestCode.wf {x : Int} (h : 0 ≤ x ∧ x ≤ 9999999) : (Lit.int .i64 x).wf = true := by
  simp [Lit.wf, IntKind.min, IntKind.max, IntKind.signed, IntKind.bits]
  omega
theorem impl_BestCode.cc_wrap {p : List Int} {x : Int} (h : p.length ≤ 200) : (Lit.int .i64 (wrap64 (((impl_BestCode.cc p x : Nat) : Int) + 1))).wf = true ∧ wrap64 (((impl_BestCode.cc p x : Nat) : Int) + 1) = ((impl_BestCode.cc p x : Nat) : Int) + 1 := by
  have h1 : impl_BestCode.cc p x ≤ 200 := by
    unfold impl_BestCode.cc
    split
    · exact Nat.le_trans List.count_le_length h
    · omega
  have h2 : wrap64 (((impl_BestCode.cc p x : Nat) : Int) + 1) = ((impl_BestCode.cc p x : Nat) : Int) + 1 := by unfold wrap64; omega
  rw [h2]
  exact ⟨impl_BestCode.wf ⟨by omega, by omega⟩, rfl⟩
theorem impl_BestCode.lawK : Go.Maps.Keyed Try.prog 2 := Go.Maps.int_keyed Try.underlying2
set_option maxHeartbeats 8000000 in
set_option maxRecDepth 100000 in
theorem impl_BestCode.calls (A0 : Option Addr) (c0 : Nat) (l0 : List Int) (r1 r2 r3 : Int) (w : World) (hr0 : Kd.C (Kd.int .i64) w A0 l0.length l0) (hc0 : l0.length ≤ c0) (h : impl_BestCode.f l0 = some (r1, r2, r3)) :
    Calls Try.prog 12 #[.slice A0 l0.length c0] w fun e w' => e = .returned (.tuple #[.int .i64 r1, .int .i64 r2, .int .i64 r3]) ∧ Below w.heap.size w w' := by
  have HR := Aside0.mk hr0
  have HC := Aside0.mk hc0
  have HB := Aside0.mk (Below.refl w.heap.size w)
  unfold impl_BestCode.f at h
  obtain ⟨t, hA1, H⟩ := Option.bind_eq_some_iff.mp h
  have A1 := Aside0.mk hA1
  clear h hA1 hr0 hc0
  cases t with
  | false =>
    rw [if_neg (by decide)] at H
    simp only [Option.some.injEq, Prod.mk.injEq] at H
    obtain ⟨rfl, rfl, rfl⟩ := H
    go_enter Try.func12, Try.ntmps12
    go_wp2_with (first | ((with_reducible refine gate_callee (f := 26) rfl ?_); refine goesL_ (some 13) rfl rfl Try.func26 (by kernel_rfl) rfl #[.slice A0 l0.length c0] rfl (by (try simp only [List.map_toArray, List.map_cons, List.map_nil]); first | done | rfl) ?_; (with_reducible refine (impl_areReads.calls A0 c0 l0 false _ (by first | exact HR.out | exact Kd.C_drewN HR.out _) HC.out A1.out).mono ?_); rintro e w' ⟨rfl, hb⟩; refine ⟨_, rfl, ?_⟩; have HB1 := Aside0.mk hb; clear hb))
    go_ret3
    exact ⟨rfl, HB1.out⟩
  | true =>
    rw [if_pos rfl] at H
    have hmm : ∀ W, (Instr.makeMap 42 none).run Try.prog W = .ok (.map (some W.heap.size)) (W.alloc (.map #[] 0)) := fun W => run_makeMap 42 W
    have HX := Aside0.mk H
    have HL := Aside0.mk (show l0.length ≤ 200 from by
      have h_ := A1.out
      unfold impl_areReads.f at h_
      by_cases c : (l0.length : Int) ≤ 200
      · omega
      · rw [if_neg c] at h_; cases h_)
    clear H
    go_enter Try.func12, Try.ntmps12
    go_wp2_with (first | ((with_reducible refine gate_callee (f := 26) rfl ?_); refine goesL_ (some 13) rfl rfl Try.func26 (by kernel_rfl) rfl #[.slice A0 l0.length c0] rfl (by (try simp only [List.map_toArray, List.map_cons, List.map_nil]); first | done | rfl) ?_; (with_reducible refine (impl_areReads.calls A0 c0 l0 true _ (by first | exact HR.out | exact Kd.C_drewN HR.out _) HC.out A1.out).mono ?_); rintro e w1 ⟨rfl, hb⟩; refine ⟨_, rfl, ?_⟩; have HB1 := Aside0.mk (below_step (by repeat (first | exact HB.out | refine below_drew1 ?_ | refine pw_below_drewN ?_ _)) hb); clear hb))
    have HM := Aside0.mk (World.ownsMap_made (H := Unit) w1 Try.prog 2 (plainElem Try.prog 2))
    have HB2 := Aside0.mk (below_alloc HB1.out (.map #[] 0))
    have HBB := Aside0.mk (show w.heap.size ≤ w1.heap.size from below_size HB1.out)
    generalize w1.alloc (.map #[] 0) = w2 at HM HB2 ⊢
    generalize w1.heap.size = bm at HM HBB ⊢
    clear hmm HB1 HB
    go_loopg [18] l0.length (fun gg s18 wr => ∃ (i n : Nat) (D : DataW Unit), s18 = .int .i64 (i : Int) ∧ Aside0 (gg + i = l0.length) ∧ Aside0 (wr.ownsMap Try.prog 2 (plainElem Try.prog 2) bm n D) ∧ Aside0 (n ≤ i) ∧ Aside0 (impl_BestCode.Holds D (l0.take i)) ∧ Aside0 (Below w.heap.size w wr))
    case atStart => exact ⟨0, 0, .map [], rfl, ⟨by omega⟩, HM, ⟨Nat.le_refl _⟩, ⟨impl_BestCode.holds_nil⟩, HB2⟩
    case round =>
      clear HM HB2
      obtain ⟨i, n, D, rfl, HG, HM, HN, HD, HB⟩ := hrel
      have HCr := Aside0.mk (Kd.C_below HR.out HB.out)
      by_cases c : (i : Int) < (l0.length : Int)
      · obtain ⟨ad, ea, hx⟩ := Kd.at_int HCr.out (i : Int) (by omega) c
        have hxe := rdX l0 i (by omega)
        have cb : decide ((i : Int) < (l0.length : Int)) = true := decide_eq_true c
        have p0 : (0 : Int) ≤ (i : Int) := by omega
        have hwi : wrap64 ((i : Int) + 1) = ((i + 1 : Nat) : Int) := by have := HL.out; unfold wrap64; omega
        subst ea
        have hT : l0.take (i + 1) = l0.take i ++ [rd l0 (i : Int)] := by rw [hxe, List.take_succ_eq_append_getElem (by omega)]
        have HT := Aside0.mk hT
        have HW := Aside0.mk hwi
        have HLt := Aside0.mk c
        obtain ⟨x, hxx⟩ : ∃ x, x = rd l0 (i : Int) := ⟨_, rfl⟩
        rw [← hxx] at hx HT
        rw [Int.toNat_natCast] at hx
        clear hT hxe hxx hwi
        have hcf := impl_BestCode.code_f x
        cases hco : impl_BestCode.code x with
        | false =>
          rw [hco] at hcf
          have AI := Aside0.mk hcf
          have HCo := Aside0.mk hco
          clear hcf hco
          go_wp2_with (first | ((with_reducible refine gate_callee (f := 22) rfl ?_); refine goesL_ (some 23) rfl rfl Try.func22 (by kernel_rfl) rfl #[.int .i64 x] rfl (by (try simp only [List.map_toArray, List.map_cons, List.map_nil]); first | done | rfl) ?_; (with_reducible refine (impl_IsCode.calls x false _ AI.out).mono ?_); rintro e w' ⟨rfl, ⟨nd, rfl⟩⟩; refine ⟨_, rfl, ?_⟩))
          go_roundg (gk - 1)
          case measure => have := HG.out; have := HLt.out; omega
          case rel => exact ⟨i + 1, n, D, by rw [HW.out], ⟨by have := HG.out; have := HLt.out; omega⟩, ⟨HM.out⟩, ⟨by have := HN.out; omega⟩, ⟨by rw [HT.out]; exact impl_BestCode.holds_miss HD.out HCo.out⟩, ⟨pw_below_drewN HB.out _⟩⟩
        | true =>
          rw [hco] at hcf
          have AI := Aside0.mk hcf
          have HCo := Aside0.mk hco
          have hwf := impl_BestCode.wf (impl_BestCode.code_in hco)
          have HKEY := Aside0.mk (Go.Maps.keyOf_int_mk (P := Try.prog) Try.underlying2 hwf)
          clear hcf hco hwf
          go_wp2_with (first
            | ((with_reducible refine gate_callee (f := 22) rfl ?_); refine goesL_ (some 23) rfl rfl Try.func22 (by kernel_rfl) rfl #[.int .i64 x] rfl (by (try simp only [List.map_toArray, List.map_cons, List.map_nil]); first | done | rfl) ?_; (with_reducible refine (impl_IsCode.calls x true _ AI.out).mono ?_); rintro e w' ⟨rfl, ⟨nd, rfl⟩⟩; refine ⟨_, rfl, ?_⟩)
            | (at_lookup; refine wpList_lookup_own_int _ rfl _ _ 42 rfl 2 2 .i64 impl_BestCode.lawK Try.underlying42 Try.underlying2 (by first | rfl | (simp [zeroValue]; rfl)) bm n D rfl HM.out (.int .i64 x) (.int .i64 x) rfl HKEY.out ?_; intro c5 hat hwc; have hc5 := impl_BestCode.holds_at HD.out hat; subst hc5; have HWC := Aside0.mk (impl_BestCode.cc_wrap (p := l0.take i) (x := x) (by have := HL.out; rw [List.length_take]; omega)); clear hat hwc)
            | (at_mapUpdate; refine wpList_mapUpdate_own _ rfl _ _ _ 42 rfl 2 2 impl_BestCode.lawK Try.underlying42 (plainElem Try.prog 2) bm n D rfl HM.out (by have := HN.out; have := HL.out; have := HLt.out; unfold maxLen; omega) (.int .i64 x) (.int .i64 (wrap64 (((impl_BestCode.cc (l0.take i) x : Nat) : Int) + 1))) (.int .i64 x) rfl rfl HKEY.out (.lit (.int .i64 (wrap64 (((impl_BestCode.cc (l0.take i) x : Nat) : Int) + 1)))) [] (plainElem_int Try.underlying2 HWC.out.1) ?_; intro w5 hm5 hg5; have HM5 := Aside0.mk hm5; have HB5 := Aside0.mk (Below.grown (show Below w.heap.size w _ from pw_below_drewN HB.out _) hg5 (by first | exact below_size (pw_below_drewN HB.out _) | exact below_size HB.out) (fun k_ hk_ => by injection hk_ with hk_; subst hk_; exact HBB.out)); clear hm5 hg5))
          go_roundg (gk - 1)
          case measure => have := HG.out; have := HLt.out; omega
          case rel => exact ⟨i + 1, n + 1, _, by rw [HW.out], ⟨by have := HG.out; have := HLt.out; omega⟩, HM5, ⟨by have := HN.out; omega⟩, ⟨by rw [HT.out, HWC.out.2]; exact impl_BestCode.holds_hit HM.out.isMap HD.out HCo.out⟩, HB5⟩
      · have cb : decide ((i : Int) < (l0.length : Int)) = false := decide_eq_false c
        have HD := Aside0.mk (show impl_BestCode.Holds D l0 from by have h_ := HD.out; rw [List.take_of_length_le (by omega)] at h_; exact h_)
        have cn : ¬ i < l0.length := by omega
        clear HG
        go_wp2_with (first
          | (at_range; refine wpList_range_own _ rfl _ 42 rfl 2 2 impl_BestCode.lawK Try.underlying42 (plainElem Try.prog 2) bm n D rfl HM.out ?_; intro w6 hrg6 hg6 hs6; have HR6 := Aside0.mk hrg6; have HB6 := Aside0.mk (Below.grown HB.out hg6 (below_size HB.out) (fun k_ hk_ => by cases hk_)); clear hrg6 hg6 hs6))
        have hri : w.heap.size ≤ wr.heap.size := below_size HB.out
        have HRI := Aside0.mk hri
        have hopt := impl_BestCode.best_opt l0
        generalize wr.heap.size = ri at HR6 HRI ⊢
        clear hri HB HM
        go_loopg [8, 9] (Go.Maps.size D) (fun gg s8 s9 wr => ∃ (left : Lit → Bool) (b m : Int), s8 = .int .i64 b ∧ s9 = .int .i64 m ∧ Aside0 (wr.ranges Try.prog 2 (plainElem Try.prog 2) bm ri n D left gg) ∧ Aside0 (impl_BestCode.Opt l0 (fun x => 0 < impl_BestCode.cc l0 x ∧ left (.int .i64 x) = false) b m) ∧ Aside0 (∀ x : Int, left (.int .i64 x) = true → 0 < impl_BestCode.cc l0 x) ∧ Aside0 (Below w.heap.size w wr))
        case atStart => exact ⟨Go.Maps.has D, 0, 0, rfl, rfl, HR6, ⟨⟨Int.le_refl _, fun _ => ⟨rfl, fun x hx => by have h1 := (HD.out.2 x).2 hx.1; rw [hx.2] at h1; cases h1⟩, fun h => absurd h (by decide)⟩⟩, ⟨fun x hx => (HD.out.2 x).1 hx⟩, HB6⟩
        case round =>
          clear HR6 HB6
          obtain ⟨left, b, m, rfl, rfl, HR, HO, HLf, HB⟩ := hrel
          go_wp2_with (first
            | (at_next; refine wpList_next_ranges_ii _ rfl _ rfl 2 2 .i64 .i64 impl_BestCode.lawK Try.underlying2 Try.underlying2 bm ri n _ _ _ rfl HR.out ?_ ?_))
          · intro _ hl0
            have hu := impl_BestCode.opt_one HO.out (b' := (impl_BestCode.best l0).1) (m' := (impl_BestCode.best l0).2) (by
              have e : (fun x => 0 < impl_BestCode.cc l0 x ∧ left (.int .i64 x) = false) = fun x => 0 < impl_BestCode.cc l0 x := by
                funext x
                exact propext ⟨fun g => g.1, fun g => ⟨g, hl0 _⟩⟩
              rw [e]; exact hopt)
            have H := HX.out
            rw [← hu.1, ← hu.2] at H
            clear hu hopt HO HLf HR hl0
            by_cases c0 : m = 0
            · rw [if_pos c0] at H
              simp only [Option.some.injEq, Prod.mk.injEq] at H
              obtain ⟨rfl, rfl, rfl⟩ := H
              have cb : (m == 0) = true := beq_iff_eq.mpr c0
              go_wp2
              go_ret3
              exact ⟨rfl, HB.out⟩
            · rw [if_neg c0] at H
              simp only [Option.some.injEq, Prod.mk.injEq] at H
              obtain ⟨rfl, rfl, rfl⟩ := H
              have cb : (b == b) = true := by simp
              have cb2 : (m == 0) = false := beq_eq_false_iff_ne.mpr c0
              go_wp2
              go_ret3
              exact ⟨rfl, HB.out⟩
          · intro x c wx cnt1 hwx hwc hlx hat hrg1 hlt hg1 hs1 hen
            have hc := impl_BestCode.holds_at HD.out (hat _)
            have h0 := HLf.out x hlx
            have HR1 := Aside0.mk hrg1
            have HLt := Aside0.mk hlt
            have HB1 := Aside0.mk (Below.grown HB.out hg1 (below_size HB.out) (fun k_ hk_ => by injection hk_ with hk_; subst hk_; exact HRI.out))
            have hsame : ∀ y : Int, (Lit.int .i64 y).sameKey (.int .i64 x) = decide (y = x) := fun y => by simp [Lit.sameKey]
            have hP : ∀ y, (0 < impl_BestCode.cc l0 y ∧ (left (.int .i64 y) && !(Lit.int .i64 y).sameKey (.int .i64 x)) = false) → (0 < impl_BestCode.cc l0 y ∧ left (.int .i64 y) = false) ∨ y = x := fun y hy => by
              by_cases e : y = x
              · exact .inr e
              · refine .inl ⟨hy.1, ?_⟩
                have h1 := hy.2
                rw [hsame, decide_eq_false e] at h1
                simpa using h1
            have hQ : ∀ y, (0 < impl_BestCode.cc l0 y ∧ left (.int .i64 y) = false) → (0 < impl_BestCode.cc l0 y ∧ (left (.int .i64 y) && !(Lit.int .i64 y).sameKey (.int .i64 x)) = false) := fun y hy => ⟨hy.1, by rw [hy.2]; rfl⟩
            have hXx : 0 < impl_BestCode.cc l0 x ∧ (left (.int .i64 x) && !(Lit.int .i64 x).sameKey (.int .i64 x)) = false := ⟨h0, by rw [hsame, decide_eq_true rfl]; simp⟩
            have HL1 := Aside0.mk (show ∀ y : Int, (left (.int .i64 y) && !(Lit.int .i64 y).sameKey (.int .i64 x)) = true → 0 < impl_BestCode.cc l0 y from fun y hy => HLf.out y (by simp only [Bool.and_eq_true] at hy; exact hy.1))
            by_cases cond : c > m ∨ (c = m ∧ x < b)
            · have HO1 := Aside0.mk (impl_BestCode.opt_take HO.out hP hXx h0 (by rw [← hc]; exact cond))
              rw [← hc] at HO1
              clear hP hQ hXx hsame HO HLf HR hat hrg1 hlt hg1 hs1 hwx hwc hlx h0 hc hopt
              by_cases c1 : m < c
              · have b1 : decide (m < c) = true := decide_eq_true c1
                have b2 : decide (c > m) = true := decide_eq_true c1
                clear cond
                go_wp2
                go_roundg cnt1
                case measure => exact HLt.out
                case rel => exact ⟨_, x, c, rfl, rfl, HR1, HO1, HL1, HB1⟩
              · have b1 : decide (m < c) = false := decide_eq_false c1
                have b2 : decide (c > m) = false := decide_eq_false c1
                have b3 : c = m := by omega
                have b4 : (c == m) = true := beq_iff_eq.mpr b3
                have b5 : x < b := by omega
                have b6 : decide (x < b) = true := decide_eq_true b5
                clear cond b3
                go_wp2
                go_roundg cnt1
                case measure => exact HLt.out
                case rel => exact ⟨_, x, c, rfl, rfl, HR1, HO1, HL1, HB1⟩
            · have HO1 := Aside0.mk (impl_BestCode.opt_keep HO.out hP hQ h0 (by rw [← hc]; exact cond))
              clear hP hQ hXx hsame HO HLf HR hat hrg1 hlt hg1 hs1 hwx hwc hlx h0 hc hopt
              have c1 : ¬ m < c := by omega
              have b1 : decide (m < c) = false := decide_eq_false c1
              have b2 : decide (c > m) = false := decide_eq_false c1
              by_cases c2 : c = m
              · have b4 : (c == m) = true := beq_iff_eq.mpr c2
                have b5 : ¬ x < b := by omega
                have b6 : decide (x < b) = false := decide_eq_false b5
                clear cond c2
                go_wp2
                go_roundg cnt1
                case measure => exact HLt.out
                case rel => exact ⟨_, b, m, rfl, rfl, HR1, HO1, HL1, HB1⟩
              · have b4 : (c == m) = false := beq_eq_false_iff_ne.mpr c2
                clear cond
                go_wp2
                go_roundg cnt1
                case measure => exact HLt.out
                case rel => exact ⟨_, b, m, rfl, rfl, HR1, HO1, HL1, HB1⟩

/-! ### spec_l15Digits: function 28 -/
def spec_l15Digits.l0 : Nat → Int → List Int → Int → Option (List Int)
  | 0, _, _, _ => none
  | k + 1, x0, x3, x4 => if x4 ≥ 0 then (if 0 ≤ x4 then (if x4 < (x3.length : Int) then (spec_l15Digits.l0 k (wrap64 (Int.tdiv x0 10)) (x3.set (x4 : Int).toNat (Int.tmod x0 10)) (wrap64 (x4 - 1))) else (none)) else (none)) else (some x3)
def spec_l15Digits.f (k : Nat) (a0 : Int) : Option (List Int) := if 7 ≤ 35184372088832 then (spec_l15Digits.l0 k a0 (List.replicate 7 0) 6) else (none)
theorem spec_l15Digits.mono_l : ∀ k, (∀ y0 y1 y2, LeO (spec_l15Digits.l0 k y0 y1 y2) (spec_l15Digits.l0 (k + 1) y0 y1 y2))
  | 0 => fun _ _ _ r h => by simp [spec_l15Digits.l0] at h
  | k + 1 => by
    have ih0 := spec_l15Digits.mono_l k
    · intro y0 y1 y2
      unfold spec_l15Digits.l0
      repeat' first
      | (with_reducible exact ih0 _ _ _)
      | (with_reducible exact LeO.refl _)
      | (with_reducible exact LeO.none _)
      | (with_reducible refine LeO.ite ?_ ?_)
      | (with_reducible refine LeO.bind ?_ (fun _ => ?_))
      | exact ih0 _ _ _
      | exact LeO.none _
      | refine LeO.ite ?_ ?_
      | refine LeO.bind ?_ (fun _ => ?_)
theorem spec_l15Digits.mono : ∀ a0 k, LeO (spec_l15Digits.f k a0) (spec_l15Digits.f (k + 1) a0) := by
  intro a0 k
  have ih0 := spec_l15Digits.mono_l k
  unfold spec_l15Digits.f
  repeat' first
      | (with_reducible exact ih0 _ _ _)
      | (with_reducible exact LeO.refl _)
      | (with_reducible exact LeO.none _)
      | (with_reducible refine LeO.ite ?_ ?_)
      | (with_reducible refine LeO.bind ?_ (fun _ => ?_))
      | exact ih0 _ _ _
      | exact LeO.none _
      | refine LeO.ite ?_ ?_
      | refine LeO.bind ?_ (fun _ => ?_)
set_option maxHeartbeats 8000000 in
set_option maxRecDepth 100000 in
theorem spec_l15Digits.calls (k : Nat) (a0 : Int) (r : List Int) (w : World) (h : spec_l15Digits.f k a0 = some r) :
    Calls Try.prog 28 #[.int .i64 a0] w fun e w' => ∃ v0_ : Value, e = .returned (v0_) ∧ Kd.R (Kd.int .i64) 2 w' w.heap.size (fun _ => True) v0_ r ∧ Below w.heap.size w w' := by
  have HB := Aside0.mk (Below.refl w.heap.size w)
  have H : (if 7 ≤ 35184372088832 then (spec_l15Digits.l0 k a0 (List.replicate 7 0) 6) else (none)) = some r := h
  clear h
  by_cases c2 : 7 ≤ 35184372088832
  · rw [if_pos c2] at H
    have c2b0 := eq_true c2
    have c2b1 : decide (7 ≤ 35184372088832) = true := decide_eq_true c2
    clear c2
    obtain ⟨y126, hy126⟩ : ∃ y_ : List Int, y_ = (List.replicate 7 0) := ⟨_, rfl⟩
    replace H : (spec_l15Digits.l0 k a0 y126 6) = some r := by first | (rw [hy126]; with_reducible exact H) | (have H2_ := (Option.bind_some _ _).symm.trans H; rw [hy126]; with_reducible exact H2_) | (have H2_ := (Option.bind_some _ _).symm.trans H; with_reducible exact H2_) | with_reducible exact H | (rw [hy126]; exact H) | exact H
    have Ny126 := Aside0.mk hy126
    clear hy126
    have H' := Aside0.mk H
    clear H
    go_enter Try.func28, Try.ntmps28
    go_wp2_with (first | ((with_reducible refine gate_dst (N := 5) rfl ?_); refine Kd.R_make (Kd.int .i64) _ 2 rfl (N := 5) rfl 22 _ _ rfl 7 rfl rfl Try.underlying22 (.int .i64 0) 8 info2 rfl (by decide) (by omega) 0 (ok := fun _ => True) (okp := fun _ => True) rfl (fun _ hk => hk) trivial (by omega) (by omega) (Below.refl _ _) (Nat.le_refl _) ?_; intro v127 w3 ho4 hb hg_ hnew_; clear hg_ hnew_; (first | rw [← Ny126.out] at ho4 | (simp only [Int.reduceToNat] at ho4; rw [← Ny126.out] at ho4)); have n0_ := Aside0.mk (Kd.R_lower ho4 (below_size (by repeat (first | (with_reducible first | exact HB.out | apply below_alloc | apply pw_below_drewN | apply below_drew1) | exact HB.out)))); have n1_ := Aside0.mk (below_step (by repeat (first | (with_reducible first | exact HB.out | apply below_alloc | apply pw_below_drewN | apply below_drew1) | exact HB.out)) hb); clear HB; have HO128 := n0_; have HB := n1_; clear n0_ n1_; clear hb ho4))
    go_loopg [0, 4] k (fun kq v0 v4 w' => ∃ (x0_1 : Int) (x3_1 : List Int) (x4_1 : Int), v0 = .int .i64 x0_1 ∧ v4 = .int .i64 x4_1 ∧ Aside0 (spec_l15Digits.l0 kq x0_1 x3_1 x4_1 = some r) ∧ Aside0 (kq ≤ k) ∧ Aside0 (Kd.R (Kd.int .i64) 2 w' w.heap.size (fun _ => True) v127 x3_1) ∧ Aside0 (Below w.heap.size w w'))
    case atStart => exact ⟨(a0), (y126), (6), (by first | rfl | (simp; done) | (simp [*]; done)), (by first | rfl | (simp; done) | (simp [*]; done)), H', ⟨Nat.le_refl _⟩, ⟨by (with_reducible repeat (first | apply Kd.R_alloc | apply Kd.R_drewN | apply Kd.R_drew)); exact HO128.out⟩, ⟨by repeat (first | (with_reducible first | exact HB.out | apply below_alloc | apply pw_below_drewN | apply below_drew1) | exact HB.out)⟩⟩
    case round =>
      clear H'
      try clear c2
      try clear c2b0
      try clear c2b1
      try clear p2
      obtain ⟨x0_1, x3_1, x4_1, rfl, rfl, HA, HK1, HO_3, HB⟩ := hrel
      cases gk with
      | zero => exact absurd HA.out (by simp [spec_l15Digits.l0])
      | succ k1 =>
        have H := HA.out
        clear HA
        simp only [spec_l15Digits.l0] at H
        by_cases c5 : x4_1 ≥ 0
        · rw [if_pos c5] at H
          have c5b0 : decide (0 ≤ x4_1) = true := decide_eq_true c5
          clear c5
          by_cases c6 : 0 ≤ x4_1
          · rw [if_pos c6] at H
            have c6b0 : decide (0 ≤ x4_1) = true := decide_eq_true c6
            clear c6
            by_cases c7 : x4_1 < (x3_1.length : Int)
            · rw [if_pos c7] at H
              have c7b0 : decide (x4_1 < (x3_1.length : Int)) = true := decide_eq_true c7
              clear c7
              obtain ⟨y129, hy129⟩ : ∃ y_ : List Int, y_ = (x3_1.set (x4_1 : Int).toNat (Int.tmod x0_1 10)) := ⟨_, rfl⟩
              replace H : (spec_l15Digits.l0 k1 (wrap64 (Int.tdiv x0_1 10)) y129 (wrap64 (x4_1 - 1))) = some r := by first | (rw [hy129]; with_reducible exact H) | (have H2_ := (Option.bind_some _ _).symm.trans H; rw [hy129]; with_reducible exact H2_) | (have H2_ := (Option.bind_some _ _).symm.trans H; with_reducible exact H2_) | with_reducible exact H | (rw [hy129]; exact H) | exact H
              have Ny129 := Aside0.mk hy129
              clear hy129
              have H' := Aside0.mk H
              clear H
              have p8 : 0 ≤ (x4_1 : Int) := of_decide_eq_true (by first | (with_reducible assumption) | assumption)
              have q8 : (x4_1 : Int) < ((x3_1.length : Int) : Int) := of_decide_eq_true (by first | (with_reducible assumption) | assumption)
              obtain ⟨go8, co8, eo8, gb8, gl8, cl8, HG8⟩ := Kd.R_form HO_3.out (by omega)
              (first | cases eo8 | (injection eo8 with ea_ en_ ec_; (first | subst ea_ | (injection ea_ with ea_; subst ea_)); subst ec_; clear en_))
              have GB8 := Aside0.mk gb8
              have GG8 := Aside0.mk HG8
              clear gb8 gl8 HG8
              obtain ⟨hx8_0, hf8_0⟩ := Kd.R_celln 0 HO_3.out (x4_1 : Int) p8 q8
              replace p8 := eq_true p8
              replace q8 := eq_true q8
              have HP9 := Kd.R_putg HO_3.out (x4_1 : Int) (Int.tmod x0_1 10)
              go_wp2_with (first | ((with_reducible refine gate_store (t := 2) (p := 14) rfl ?_); refine store_event (t := 2) (p := 14) (v := ?vo_w10) (w1 := (wr.setCell ⟨go8, (x4_1 : Int).toNat, none⟩ (.int .i64 (Int.tmod x0_1 10)))) ?hg ?ho ?hn ?hr ?_; (case ho => rfl); (case hg => rfl); (case hn => rfl); (case hr => first | (go_simp; done) | (go_simp; rfl)); intro w10 hw; have hg : wr.grownBy w10 (some go8) := (by rw [hw]; exact HP9.2); have hp_ : Kd.R (Kd.int .i64) 2 w10 w.heap.size (fun _ => True) (.slice (some ⟨go8, 0, none⟩) x3_1.length co8) y129 := (by rw [hw, Ny129.out]; exact HP9.1); clear HP9; have n0_ := Aside0.mk (hp_); have n1_ := Aside0.mk ((by rw [hw]; exact below_set (HB.out) GB8.out : Below w.heap.size w w10)); clear HO_3; clear HB; have HO_3 := n0_; have HB := n1_; clear n0_ n1_; clear hg hw hp_))
              go_roundg k1
              case measure => have := HK1.out; omega
              case rel => exact ⟨(wrap64 (Int.tdiv x0_1 10)), (y129), (wrap64 (x4_1 - 1)), (by first | rfl | (simp; done) | (simp [*]; done)), (by first | rfl | (simp; done) | (simp [*]; done)), H', ⟨by have := HK1.out; omega⟩, ⟨by (with_reducible repeat (first | apply Kd.R_alloc | apply Kd.R_drewN | apply Kd.R_drew)); exact HO_3.out⟩, ⟨by repeat (first | (with_reducible first | exact HB.out | apply below_alloc | apply pw_below_drewN | apply below_drew1) | exact HB.out)⟩⟩
            · rw [if_neg c7] at H
              exact absurd H (by simp)
          · rw [if_neg c6] at H
            exact absurd H (by simp)
        · rw [if_neg c5] at H
          have c5b0 : decide (0 ≤ x4_1) = false := decide_eq_false c5
          clear c5
          obtain rfl := Option.some.inj H
          go_wp2
          go_ret
          exact ⟨_, by first | rfl | (simp [errW_none, errW_some] <;> rfl) | (simp [*, errW_none, errW_some] <;> rfl), by (with_reducible repeat (first | apply Kd.R_alloc | apply Kd.R_drewN | apply Kd.R_drew)); exact HO_3.out, by repeat (first | (with_reducible first | exact HB.out | apply below_alloc | apply pw_below_drewN | apply below_drew1) | exact HB.out)⟩
  · rw [if_neg c2] at H
    exact absurd H (by simp)

/-! ### spec_l01Own: function 29 -/
def spec_l01Own.f (l0 : List Int) : Option (List Int) := (some (([] : List Int) : List Int)).bind fun y130 => (if y130.length + l0.length < 17592186044416 then (some (y130 ++ l0)) else (none))
set_option maxHeartbeats 8000000 in
set_option maxRecDepth 100000 in
theorem spec_l01Own.calls (A0 : Option Addr) (c0 : Nat) (l0 : List Int) (r : List Int) (w : World) (hr0 : Kd.C (Kd.int .i64) w A0 l0.length l0) (hc0 : l0.length ≤ c0) (h : spec_l01Own.f l0 = some r) :
    Calls Try.prog 29 #[.slice A0 l0.length c0] w fun e w' => ∃ v0_ : Value, e = .returned (v0_) ∧ Kd.R (Kd.int .i64) 2 w' w.heap.size (fun _ => True) v0_ r ∧ Below w.heap.size w w' := by
  have HR0 := Aside0.mk hr0
  have HC0 := Aside0.mk hc0
  clear hr0 hc0
  have HB := Aside0.mk (Below.refl w.heap.size w)
  have H : ((some (([] : List Int) : List Int)).bind fun y130 => (if y130.length + l0.length < 17592186044416 then (some (y130 ++ l0)) else (none))) = some r := h
  clear h
  obtain ⟨y130, hy130⟩ : ∃ y_ : List Int, y_ = (([] : List Int)) := ⟨_, rfl⟩
  replace H : (if y130.length + l0.length < 17592186044416 then (some (y130 ++ l0)) else (none)) = some r := by first | (rw [hy130]; with_reducible exact H) | (have H2_ := (Option.bind_some _ _).symm.trans H; rw [hy130]; with_reducible exact H2_) | (have H2_ := (Option.bind_some _ _).symm.trans H; with_reducible exact H2_) | with_reducible exact H | (rw [hy130]; exact H) | exact H
  have Ny130 := Aside0.mk hy130
  clear hy130
  by_cases c2 : y130.length + l0.length < 17592186044416
  · rw [if_pos c2] at H
    have LMc2 := Aside0.mk c2
    clear c2
    obtain ⟨y133, hy133⟩ : ∃ y_ : List Int, y_ = (y130 ++ l0) := ⟨_, rfl⟩
    replace H : (some y133) = some r := by first | (rw [hy133]; with_reducible exact H) | (have H2_ := (Option.bind_some _ _).symm.trans H; rw [hy133]; with_reducible exact H2_) | (have H2_ := (Option.bind_some _ _).symm.trans H; with_reducible exact H2_) | with_reducible exact H | (rw [hy133]; exact H) | exact H
    have Ny133 := Aside0.mk hy133
    clear hy133
    obtain rfl := Option.some.inj H
    go_enter Try.func29, Try.ntmps29
    go_wp2_with (first | ((with_reducible refine gate_dst (N := 3) rfl ?_); refine Kd.R_lit (Kd.int .i64) _ 2 ?hg (N := 3) ?hd (xs := ([] : List Int)) (inner := []) (ok := fun _ => True) (okp := fun _ => True) ?hr ?hp (fun _ hk => hk) trivial (Below.refl _ _) (Nat.le_refl _) (by simp) ?_; (case hd => rfl); (case hg => rfl); (case hr => first | (go_simp; done) | (go_simp; rfl)); (case hp => exact (Reps.none _ _)); intro v131 w3 ho4 hb hg_ hnew_; clear hg_ hnew_; (first | rw [← Ny130.out] at ho4 | (simp only [Int.reduceToNat] at ho4; rw [← Ny130.out] at ho4)); have n0_ := Aside0.mk (Kd.R_lower ho4 (below_size (by repeat (first | (with_reducible first | exact HB.out | apply below_alloc | apply pw_below_drewN | apply below_drew1) | exact HB.out)))); have n1_ := Aside0.mk (below_step (by repeat (first | (with_reducible first | exact HB.out | apply below_alloc | apply pw_below_drewN | apply below_drew1) | exact HB.out)) hb); clear HB; have HO132 := n0_; have HB := n1_; clear n0_ n1_; clear hb ho4) | ((with_reducible refine gate_builtin (b := .append) (xs := #[.tmp 3, .tmp 4]) rfl ?_); at_builtin; refine Kd.R_append_rows (Kd.int .i64) (w0 := w) w.heap.size rfl (.tmp 3) (.tmp 4) 22 2 (.int .i64 0) 8 rfl Try.underlying22 info2 rfl (by decide) (by omega) v131 y130 l0 _ _ _ (fun _ => True) (fun _ => False) rfl rfl ?aO ?aR (fun _ _ h => h) (fun _ h => h.elim) ?aF ?aB ?aS ?aL ?_; (case aR => repeat (first | exact (Kd.C_below HR0.out HB.out) | (with_reducible refine Kd.C_alloc ?_ _) | (with_reducible refine Kd.C_drewN ?_ _) | (with_reducible refine Kd.C_drew ?_))); (case aB => exact (by repeat (first | (with_reducible first | exact HB.out | apply below_alloc | apply pw_below_drewN | apply below_drew1) | exact HB.out))); (case aF => exact (fun _ _ => trivial)); (case aO => exact (by (with_reducible repeat (first | apply Kd.R_alloc | apply Kd.R_drewN | apply Kd.R_drew)); exact HO132.out)); (case aS => exact (below_size (by repeat (first | (with_reducible first | exact HB.out | apply below_alloc | apply pw_below_drewN | apply below_drew1) | exact HB.out)))); (case aL => have := LMc2.out; omega); intro v134 w5 ho hb hg hat; rw [← Ny133.out] at ho; have n0_ := Aside0.mk (hb); have n1_ := Aside0.mk (ho); clear HB; clear HO132; have HB := n0_; have HO135 := n1_; clear n0_ n1_; clear ho hb hg hat))
    go_ret
    exact ⟨_, by first | rfl | (simp [errW_none, errW_some] <;> rfl) | (simp [*, errW_none, errW_some] <;> rfl), by (with_reducible repeat (first | apply Kd.R_alloc | apply Kd.R_drewN | apply Kd.R_drew)); exact HO135.out, by repeat (first | (with_reducible first | exact HB.out | apply below_alloc | apply pw_below_drewN | apply below_drew1) | exact HB.out)⟩
  · rw [if_neg c2] at H
    exact absurd H (by simp)

/-! ### spec_l15Number: function 30 -/
def spec_l15Number.l0 : Nat → List Int → Int → Int → Option (Int)
  | 0, _, _, _ => none
  | k + 1, x0, x3, x4 => if x4 < (x0.length : Int) then (if 0 ≤ x4 then (spec_l15Number.l0 k x0 (wrap64 ((wrap64 (10 * x3)) + (rd x0 x4))) (wrap64 (x4 + 1))) else (none)) else (some x3)
def spec_l15Number.f (k : Nat) (l0 : List Int) : Option (Int) := spec_l15Number.l0 k l0 0 0
theorem spec_l15Number.mono_l : ∀ k, (∀ y0 y1 y2, LeO (spec_l15Number.l0 k y0 y1 y2) (spec_l15Number.l0 (k + 1) y0 y1 y2))
  | 0 => fun _ _ _ r h => by simp [spec_l15Number.l0] at h
  | k + 1 => by
    have ih0 := spec_l15Number.mono_l k
    · intro y0 y1 y2
      unfold spec_l15Number.l0
      repeat' first
      | (with_reducible exact ih0 _ _ _)
      | (with_reducible exact LeO.refl _)
      | (with_reducible exact LeO.none _)
      | (with_reducible refine LeO.ite ?_ ?_)
      | (with_reducible refine LeO.bind ?_ (fun _ => ?_))
      | exact ih0 _ _ _
      | exact LeO.none _
      | refine LeO.ite ?_ ?_
      | refine LeO.bind ?_ (fun _ => ?_)
theorem spec_l15Number.mono : ∀ a0 k, LeO (spec_l15Number.f k a0) (spec_l15Number.f (k + 1) a0) := by
  intro a0 k
  have ih0 := spec_l15Number.mono_l k
  unfold spec_l15Number.f
  repeat' first
      | (with_reducible exact ih0 _ _ _)
      | (with_reducible exact LeO.refl _)
      | (with_reducible exact LeO.none _)
      | (with_reducible refine LeO.ite ?_ ?_)
      | (with_reducible refine LeO.bind ?_ (fun _ => ?_))
      | exact ih0 _ _ _
      | exact LeO.none _
      | refine LeO.ite ?_ ?_
      | refine LeO.bind ?_ (fun _ => ?_)
set_option maxHeartbeats 8000000 in
set_option maxRecDepth 100000 in
theorem spec_l15Number.calls (k : Nat) (A0 : Option Addr) (c0 : Nat) (l0 : List Int) (r : Int) (w : World) (hr0 : Kd.C (Kd.int .i64) w A0 l0.length l0) (hc0 : l0.length ≤ c0) (h : spec_l15Number.f k l0 = some r) :
    Calls Try.prog 30 #[.slice A0 l0.length c0] w fun e w' => e = .returned (.int .i64 r) ∧ Drawn0 w w' := by
  have HR0 := Aside0.mk hr0
  have HC0 := Aside0.mk hc0
  clear hr0 hc0
  have H : (spec_l15Number.l0 k l0 0 0) = some r := h
  clear h
  have H' := Aside0.mk H
  clear H
  go_enter Try.func30, Try.ntmps30
  go_wp2
  go_loopg [3, 4] k (fun kq v3 v4 w' => ∃ (x3_1 : Int) (x4_1 : Int), v3 = .int .i64 x3_1 ∧ v4 = .int .i64 x4_1 ∧ Aside0 (spec_l15Number.l0 kq l0 x3_1 x4_1 = some r) ∧ Aside0 (kq ≤ k) ∧ Drawn0 w w')
  case atStart => exact ⟨(0), (0), (by first | rfl | (simp; done) | (simp [*]; done)), (by first | rfl | (simp; done) | (simp [*]; done)), H', ⟨Nat.le_refl _⟩, by repeat (first | exact Drawn0.refl _ | apply Drawn0.step)⟩
  case round =>
    clear H'
    obtain ⟨x3_1, x4_1, rfl, rfl, HA, HK1, ⟨m1, rfl⟩⟩ := hrel
    cases gk with
    | zero => exact absurd HA.out (by simp [spec_l15Number.l0])
    | succ k1 =>
      have H := HA.out
      clear HA
      simp only [spec_l15Number.l0] at H
      by_cases c2 : x4_1 < (l0.length : Int)
      · rw [if_pos c2] at H
        have c2b0 : decide (x4_1 < (l0.length : Int)) = true := decide_eq_true c2
        clear c2
        by_cases c3 : 0 ≤ x4_1
        · rw [if_pos c3] at H
          have c3b0 : decide (0 ≤ x4_1) = true := decide_eq_true c3
          clear c3
          have H' := Aside0.mk H
          clear H
          have p136 : 0 ≤ (x4_1 : Int) := of_decide_eq_true (by first | (with_reducible assumption) | assumption)
          have q136 : x4_1 < (l0.length : Int) := of_decide_eq_true (by first | (with_reducible assumption) | assumption)
          obtain ⟨ad136, e136, hx136_0⟩ := Kd.at_int HR0.out x4_1 p136 q136
          cases e136
          replace p136 := eq_true p136
          replace q136 := eq_true q136
          go_wp2
          go_roundg k1
          case measure => have := HK1.out; omega
          case rel => exact ⟨(wrap64 ((wrap64 (10 * x3_1)) + (rd l0 x4_1))), (wrap64 (x4_1 + 1)), (by first | rfl | (simp; done) | (simp [*]; done)), (by first | rfl | (simp; done) | (simp [*]; done)), H', ⟨by have := HK1.out; omega⟩, by repeat (first | exact Drawn0.refl _ | apply Drawn0.step)⟩
        · rw [if_neg c3] at H
          exact absurd H (by simp)
      · rw [if_neg c2] at H
        have c2b0 : decide (x4_1 < (l0.length : Int)) = false := decide_eq_false c2
        clear c2
        obtain rfl := Option.some.inj H
        go_wp2
        go_ret
        exact ⟨by first | rfl | (simp; done) | (simp [*]; done), by repeat (first | exact Drawn0.refl _ | apply Drawn0.step)⟩

end Go.Proofs.Ytnnglnphkbpemaa.PFnReads
