-- Written by a program of this session.
import Derived.Test.YtnnglnphkbpemaaPFnReadsx0
import Derived.Test.YtnnglnphkbpemaaPFnReadsx1
import Derived.Test.YtnnglnphkbpemaaPFnReadsx3
import Derived.Deep.RegionLaw
namespace Go.Proofs.Ytnnglnphkbpemaa.PFnReads
open Go.RowKit Go.Proofs.YtnnglnphkbpemaaW.PrintWords Go.Proofs.YtnnglnphkbpemaaW.PrintLast Go.Proofs.YtnnglnphkbpemaaW.PrintMore
attribute [local go_sem] max2_int min2_int max_two min_two max_three min_three max_four min_four   -- for this text's walks alone
set_option linter.unusedVariables false
set_option linter.unusedSimpArgs false

/-! ### spec_NearCodes: function 13, by a template of this session -/
def spec_NearCodes.at : Nat → List Int → Int → Int → Option Int
  | 0, _, _, _ => none
  | k + 1, o, m, a => if a < (o.length : Int) then (if 0 ≤ a then (if rd o a < m then spec_NearCodes.at k o m (wrap64 (a + 1)) else some a) else none) else some a
mutual
def spec_NearCodes.l0 : Nat → Int → List Int → List Int → Int → Option (List Int × Int)
  | 0, _, _, _, _ => none
  | k + 1, n, ds, o, i => if i < (ds.length : Int) then spec_NearCodes.l1 k n ds o i 0 else some (o, 0)
def spec_NearCodes.l1 : Nat → Int → List Int → List Int → Int → Int → Option (List Int × Int)
  | 0, _, _, _, _, _ => none
  | k + 1, n, ds, o, i, d => if d < 10 then (if 0 ≤ i then (if i < (ds.length : Int) then (if ds.length < 4096 then ((spec_l15Number.f k (ds.set i.toNat d)).bind fun m => (if m = n then spec_NearCodes.l1 k n ds o i (wrap64 (d + 1)) else ((spec_IsCode.f m).bind fun t => (if t = true then ((spec_NearCodes.at k o m 0).bind fun a => (if 0 ≤ a then (if a ≤ (o.length : Int) then (if o.length < 4096 then spec_NearCodes.l1 k n ds (o.take a.toNat ++ [m] ++ o.drop a.toNat) i (wrap64 (d + 1)) else none) else none) else none)) else spec_NearCodes.l1 k n ds o i (wrap64 (d + 1)))))) else none) else none) else none) else spec_NearCodes.l0 k n ds o (wrap64 (i + 1))
end
def spec_NearCodes.f (k : Nat) (a0 : Int) : Option (List Int × Int) := (spec_l01In.f a0 0 9999999).bind fun t => (if t = true then ((spec_l15Digits.f k a0).bind fun ds => spec_NearCodes.l0 k a0 ds [] 0) else some (([] : List Int), 2))
theorem spec_NearCodes.mono_a : ∀ k o m a, LeO (spec_NearCodes.at k o m a) (spec_NearCodes.at (k + 1) o m a)
  | 0, _, _, _ => fun r h => by simp [spec_NearCodes.at] at h
  | k + 1, o, m, a => by
    have ih := spec_NearCodes.mono_a k
    unfold spec_NearCodes.at
    repeat' first
    | (with_reducible exact ih _ _ _)
    | (with_reducible exact LeO.refl _)
    | (with_reducible refine LeO.ite ?_ ?_)
theorem spec_NearCodes.mono_l : ∀ k, (∀ n ds o i, LeO (spec_NearCodes.l0 k n ds o i) (spec_NearCodes.l0 (k + 1) n ds o i)) ∧ (∀ n ds o i d, LeO (spec_NearCodes.l1 k n ds o i d) (spec_NearCodes.l1 (k + 1) n ds o i d))
  | 0 => ⟨fun _ _ _ _ r h => by simp [spec_NearCodes.l0] at h, fun _ _ _ _ _ r h => by simp [spec_NearCodes.l1] at h⟩
  | k + 1 => by
    obtain ⟨ih0, ih1⟩ := spec_NearCodes.mono_l k
    refine ⟨?_, ?_⟩
    · intro n ds o i
      unfold spec_NearCodes.l0
      repeat' first
      | (with_reducible exact ih1 _ _ _ _ _)
      | (with_reducible exact LeO.refl _)
      | (with_reducible refine LeO.ite ?_ ?_)
    · intro n ds o i d
      unfold spec_NearCodes.l1
      repeat' first
      | (with_reducible exact ih0 _ _ _ _)
      | (with_reducible exact ih1 _ _ _ _ _)
      | (with_reducible exact spec_NearCodes.mono_a _ _ _ _)
      | (with_reducible exact spec_l15Number.mono _ _)
      | (with_reducible exact LeO.refl _)
      | (with_reducible refine LeO.ite ?_ ?_)
      | (with_reducible refine LeO.bind ?_ (fun _ => ?_))
theorem spec_NearCodes.mono : ∀ a0 k, LeO (spec_NearCodes.f k a0) (spec_NearCodes.f (k + 1) a0) := by
  intro a0 k
  unfold spec_NearCodes.f
  repeat' first
    | (with_reducible exact (spec_NearCodes.mono_l k).1 _ _ _ _)
    | (with_reducible exact spec_l15Digits.mono _ _)
    | (with_reducible exact LeO.refl _)
    | (with_reducible refine LeO.ite ?_ ?_)
    | (with_reducible refine LeO.bind ?_ (fun _ => ?_))
theorem spec_NearCodes.box {W : World} {b : Nat} {i : Int} {t : TypeId} (h : W.heap[b]? = some (.cells #[.int .i64 i] t (0, 0))) : Kd.C (Kd.int .i64) W (some ⟨b, 0, none⟩) 1 [i] := by
  have ho : W.ownsRow 0 t 1 (.slice (some ⟨b, 0, none⟩) 1 1) [i].length (encs (Value.int .i64) [i]) := ⟨rfl, .inr ⟨b, 1, #[.int .i64 i], rfl, Nat.zero_le _, h, Nat.le_refl _, by unfold maxLen; decide, rfl, rfl⟩⟩
  exact (Kd.R_reads' (Kd.R_of_own (h1 := fun _ => rfl) (ok := fun _ => True) ho (fun _ _ => trivial))).2.2
set_option maxHeartbeats 16000000 in
set_option maxRecDepth 100000 in
theorem spec_NearCodes.calls (k : Nat) (a0 : Int) (r1 : List Int) (r2 : Int) (w : World) (h : spec_NearCodes.f k a0 = some (r1, r2)) :
    Calls Try.prog 13 #[.int .i64 a0] w fun e w' => ∃ v0_ : Value, e = .returned (.tuple #[v0_, .int .i64 r2]) ∧ Kd.R (Kd.int .i64) 2 w' w.heap.size (fun _ => True) v0_ r1 ∧ Below w.heap.size w w' := by
  have mixed : Try.prog.follows .mixedOrders = true := by kernel_rfl
  have HB := Aside0.mk (Below.refl w.heap.size w)
  unfold spec_NearCodes.f at h
  obtain ⟨t, hA1, H⟩ := Option.bind_eq_some_iff.mp h
  have A1 := Aside0.mk hA1
  clear h hA1
  cases t with
  | false =>
    rw [if_neg (by decide)] at H
    obtain ⟨rfl, rfl⟩ := Prod.mk.inj (Option.some.inj H)
    clear H
    go_enter Try.func13, Try.ntmps13
    go_wp2_with (first | ((with_reducible refine gate_callee (f := 24) rfl ?_); refine goesL_ (some 12) rfl rfl Try.func24 (by kernel_rfl) rfl #[.int .i64 a0, .int .i64 0, .int .i64 9999999] rfl (by (try simp only [List.map_toArray, List.map_cons, List.map_nil]); first | done | rfl) ?_; (with_reducible refine (spec_l01In.calls a0 0 9999999 false _ A1.out).mono ?_); rintro e w' ⟨rfl, ⟨nd, rfl⟩⟩; refine ⟨_, rfl, ?_⟩))
    go_ret2
    exact ⟨_, rfl, Kd.R_nil _ _ _ _ _, (by repeat (first | (with_reducible first | exact HB.out | apply below_alloc | apply pw_below_drewN | apply below_drew1) | exact HB.out))⟩
  | true =>
    rw [if_pos rfl] at H
    obtain ⟨ds, hA2, H⟩ := Option.bind_eq_some_iff.mp H
    have A2 := Aside0.mk hA2
    have HC := Aside0.mk H
    clear hA2 H
    go_enter Try.func13, Try.ntmps13
    go_wp2_with (first
      | ((with_reducible refine gate_callee (f := 24) rfl ?_); refine goesL_ (some 12) rfl rfl Try.func24 (by kernel_rfl) rfl #[.int .i64 a0, .int .i64 0, .int .i64 9999999] rfl (by (try simp only [List.map_toArray, List.map_cons, List.map_nil]); first | done | rfl) ?_; (with_reducible refine (spec_l01In.calls a0 0 9999999 true _ A1.out).mono ?_); rintro e w' ⟨rfl, ⟨nd, rfl⟩⟩; refine ⟨_, rfl, ?_⟩)
      | ((with_reducible refine gate_callee (f := 28) rfl ?_); refine goesL_ (some 15) rfl rfl Try.func28 (by kernel_rfl) rfl #[.int .i64 a0] rfl (by (try simp only [List.map_toArray, List.map_cons, List.map_nil]); first | done | rfl) ?_; (with_reducible refine (spec_l15Digits.calls k a0 ds _ A2.out).mono ?_); rintro e w4 ⟨v4, rfl, ho, hb⟩; refine ⟨_, rfl, ?_⟩; have HB4 := Aside0.mk (below_step (by repeat (first | (with_reducible first | exact HB.out | apply below_alloc | apply pw_below_drewN | apply below_drew1) | exact HB.out)) hb); obtain ⟨A4, c4, hev, hl4, hC4⟩ := Kd.R_reads ho; subst hev; have D4 := Aside0.mk hC4; have L4 := Aside0.mk hl4; clear ho hb hC4 hl4)
      | ((with_reducible refine gate_dst (N := 16) rfl ?_); refine Kd.R_lit (Kd.int .i64) (w0 := w) w.heap.size 2 ?hg (N := 16) ?hd (xs := ([] : List Int)) (inner := []) (ok := fun _ => True) (okp := fun _ => True) ?hr ?hp (fun _ hk => hk) trivial HB4.out (below_size HB4.out) (by simp) ?_; (case hd => rfl); (case hg => rfl); (case hr => first | (go_simp; done) | (go_simp; rfl)); (case hp => exact (Reps.none _ _)); intro v5 w5 ho hb hg_ hnew_; have HO5 := Aside0.mk ho; have HB5 := Aside0.mk hb; have D5 := Aside0.mk (Kd.C_below D4.out (Below.grown (Below.refl _ _) hg_ (Nat.le_refl _) (fun k_ hk_ => by cases hk_))); clear ho hb hg_ hnew_))
    clear HB HB4 D4
    go_loopg [5, 6] k (fun gg s5 s6 wr => ∃ (o : List Int) (i : Int), s6 = .int .i64 i ∧ Aside0 (spec_NearCodes.l0 gg a0 ds o i = some (r1, r2)) ∧ Aside0 (Kd.R (Kd.int .i64) 2 wr w.heap.size (fun _ => True) s5 o) ∧ Aside0 (Kd.C (Kd.int .i64) wr A4 ds.length ds) ∧ Aside0 (Below w.heap.size w wr))
    case atStart => exact ⟨[], 0, rfl, HC, HO5, D5, HB5⟩
    case round =>
      clear HC HO5 D5 HB5
      obtain ⟨o, i, rfl, HC, HO, HD, HB⟩ := hrel
      cases gk with
      | zero => exact absurd HC.out (by simp [spec_NearCodes.l0])
      | succ k1 =>
        have H := HC.out
        clear HC
        unfold spec_NearCodes.l0 at H
        by_cases c : i < (ds.length : Int)
        · rw [if_pos c] at H
          have HC := Aside0.mk H
          have cb : decide (i < (ds.length : Int)) = true := decide_eq_true c
          clear H
          go_wp2
          go_loopg [5, 7] k1 (fun gg s5 s7 wr => ∃ (o : List Int) (d : Int), s7 = .int .i64 d ∧ Aside0 (gg ≤ k1) ∧ Aside0 (spec_NearCodes.l1 gg a0 ds o i d = some (r1, r2)) ∧ Aside0 (Kd.R (Kd.int .i64) 2 wr w.heap.size (fun _ => True) s5 o) ∧ Aside0 (Kd.C (Kd.int .i64) wr A4 ds.length ds) ∧ Aside0 (Below w.heap.size w wr))
          case atStart => exact ⟨o, 0, rfl, ⟨Nat.le_refl _⟩, HC, HO, HD, HB⟩
          case round =>
            clear HC HO HD HB
            obtain ⟨o, d, rfl, HK, HC, HO, HD, HB⟩ := hrel
            cases gk with
            | zero => exact absurd HC.out (by simp [spec_NearCodes.l1])
            | succ k2 =>
              have H := HC.out
              clear HC
              unfold spec_NearCodes.l1 at H
              by_cases e : d < 10
              · rw [if_pos e] at H
                by_cases e0 : 0 ≤ i
                · rw [if_pos e0, if_pos c] at H
                  by_cases e1 : ds.length < 4096
                  · rw [if_pos e1] at H
                    obtain ⟨m, hM, H⟩ := Option.bind_eq_some_iff.mp H
                    replace e0 : (0 : Int) ≤ i := e0
                    have AM := Aside0.mk hM
                    have HOWN := Aside0.mk (show spec_l01Own.f ds = some ds from by unfold spec_l01Own.f; rw [Option.bind_some, if_pos (by simp; omega)]; rfl)
                    have eb : decide (d < 10) = true := decide_eq_true e
                    obtain ⟨nI, rfl⟩ := Int.eq_ofNat_of_zero_le e0
                    clear hM e e1
                    go_upto_region 12 with ((with_reducible refine gate_callee (f := 29) rfl ?_); refine goesL_ (some 28) rfl rfl Try.func29 (by kernel_rfl) rfl #[.slice A4 ds.length c4] rfl (by (try simp only [List.map_toArray, List.map_cons, List.map_nil]); first | done | rfl) ?_; (with_reducible refine (spec_l01Own.calls A4 c4 ds ds _ (by first | exact HD.out | exact Kd.C_drewN HD.out _) L4.out HOWN.out).mono ?_); rintro e w8 ⟨v8, rfl, ho, hb⟩; refine ⟨_, rfl, ?_⟩; have HO8 := Aside0.mk (show Kd.R (Kd.int .i64) 2 w8 wr.heap.size (fun _ => True) v8 ds from Kd.R_lower ho (by simp)); have HB8 := Aside0.mk (show Below wr.heap.size wr w8 from below_step (by repeat (first | exact Below.refl _ _ | refine below_drew1 ?_ | refine pw_below_drewN ?_ _)) hb); clear ho hb)
                    obtain ⟨g8, c8, e8, gb8, gl8, HG8⟩ := Kd.R_form HO8.out (by omega)
                    subst e8
                    have p8 : (0 : Int) ≤ (nI : Int) := by omega
                    have q8 : (nI : Int) < (ds.length : Int) := c
                    obtain ⟨hx8, hf8⟩ := Kd.R_celln 0 HO8.out (nI : Int) p8 q8
                    have HP9 := Kd.R_putg HO8.out (nI : Int) d
                    simp only [Int.toNat_natCast] at hx8 hf8 HP9 H AM
                    obtain ⟨y, hy⟩ : ∃ y, y = ds.set nI d := ⟨_, rfl⟩
                    have hyl : y.length = ds.length := by rw [hy, List.length_set]
                    rw [← hy] at HP9 AM
                    have NY := Aside0.mk hyl
                    have GB := Aside0.mk gb8
                    have HS := Aside0.mk H
                    clear hy hyl gb8 gl8 HG8 H
                    go_upto_region 14 with (first
                      | ((with_reducible refine gate_store (t := 2) (p := 32) rfl ?_); refine store_event (t := 2) (p := 32) (v := ?vo) (w1 := (w8.setCell ⟨g8, nI, none⟩ (.int .i64 d))) ?hg ?ho ?hn ?hr ?_; (case ho => rfl); (case hg => rfl); (case hn => rfl); (case hr => first | (go_simp; done) | (go_simp; rfl)); intro w9 hw; have HO9 := Aside0.mk (show Kd.R (Kd.int .i64) 2 w9 wr.heap.size (fun _ => True) (.slice (some ⟨g8, 0, none⟩) ds.length c8) y from by rw [hw]; exact HP9.1); have HB9 := Aside0.mk (show Below wr.heap.size wr w9 from by rw [hw]; exact below_set HB8.out GB.out); clear HP9 hw hx8 hf8)
                      | ((with_reducible refine gate_callee (f := 30) rfl ?_); refine goesL_ (some 34) rfl rfl Try.func30 (by kernel_rfl) rfl #[.slice (some ⟨g8, 0, none⟩) y.length c8] rfl (by rw [NY.out]; (try simp only [List.map_toArray, List.map_cons, List.map_nil]); first | done | rfl) ?_; (with_reducible refine (spec_l15Number.calls k2 _ c8 y m _ (by have h_ := (Kd.R_reads' HO9.out).2.2; exact h_) (by rw [NY.out]; exact (Kd.R_reads' HO9.out).2.1) AM.out).mono ?_); rintro e w' ⟨rfl, ⟨nd, rfl⟩⟩; refine ⟨_, rfl, ?_⟩))
                    have HOW := Aside0.mk (Kd.R_drewN (Kd.R_below HO.out HB9.out) nd)
                    have HDW := Aside0.mk (Kd.C_drewN (Kd.C_below HD.out HB9.out) nd)
                    have HB0 := Aside0.mk (below_step HB.out HB9.out)
                    have HBW := Aside0.mk (pw_below_drewN HB0.out nd)
                    clear HO HD HB HO8 HB8 HO9 HB9 AM
                    have H := HS.out
                    clear HS
                    by_cases em : m = a0
                    · rw [if_pos em] at H
                      have HC := Aside0.mk H
                      have mb : (m == a0) = true := beq_iff_eq.mpr em
                      clear H em
                      go_wp2
                      go_roundg k2
                      case measure => omega
                      case rel => exact ⟨o, wrap64 (d + 1), rfl, ⟨by have := HK.out; omega⟩, HC, HOW, HDW, HBW⟩
                    · rw [if_neg em] at H
                      obtain ⟨t, hT, H⟩ := Option.bind_eq_some_iff.mp H
                      have AT := Aside0.mk hT
                      have mb : (m == a0) = false := beq_eq_false_iff_ne.mpr em
                      clear hT em
                      cases t with
                      | false =>
                        rw [if_neg (by decide)] at H
                        have HC := Aside0.mk H
                        clear H
                        go_wp2_with (first | (go_at_call 25; (with_reducible refine (spec_IsCode.calls m false _ AT.out).mono ?_); rintro e w' ⟨rfl, ⟨nd2, rfl⟩⟩))
                        go_roundg k2
                        case measure => omega
                        case rel => exact ⟨o, wrap64 (d + 1), rfl, ⟨by have := HK.out; omega⟩, HC, by first | exact HOW | exact ⟨Kd.R_drewN HOW.out _⟩, by first | exact HDW | exact ⟨Kd.C_drewN HDW.out _⟩, by first | exact HBW | exact ⟨pw_below_drewN HB0.out _⟩⟩
                      | true =>
                        rw [if_pos rfl] at H
                        obtain ⟨aR, hR, H⟩ := Option.bind_eq_some_iff.mp H
                        by_cases f0 : 0 ≤ aR
                        · rw [if_pos f0] at H
                          by_cases f1 : aR ≤ (o.length : Int)
                          · rw [if_pos f1] at H
                            by_cases f2 : o.length < 4096
                            · rw [if_pos f2] at H
                              have HCX := Aside0.mk H
                              have C1 := Aside0.mk f0
                              have C2 := Aside0.mk f1
                              have C3 := Aside0.mk f2
                              have AR := Aside0.mk hR
                              clear H f0 f1 f2 hR
                              go_wp2_with (first | (go_at_call 25; (with_reducible refine (spec_IsCode.calls m true _ AT.out).mono ?_); rintro e w' ⟨rfl, ⟨nd2, rfl⟩⟩))
                              go_loopg [10] k2 (fun gg s10 wr => ∃ (a : Int), s10 = .int .i64 a ∧ Aside0 (spec_NearCodes.at gg o m a = some aR) ∧ Aside0 (Kd.R (Kd.int .i64) 2 wr w.heap.size (fun _ => True) u5 o) ∧ Aside0 (Kd.C (Kd.int .i64) wr A4 ds.length ds) ∧ Aside0 (Below w.heap.size w wr))
                              case atStart => exact ⟨0, rfl, AR, by first | exact HOW | exact ⟨Kd.R_drewN HOW.out _⟩, by first | exact HDW | exact ⟨Kd.C_drewN HDW.out _⟩, by first | exact HBW | exact ⟨pw_below_drewN HB0.out _⟩⟩
                              case round =>
                                clear HOW HDW HBW HB0 AR
                                obtain ⟨a, rfl, AR, HO, HD, HB⟩ := hrel
                                cases gk with
                                | zero => exact absurd AR.out (by simp [spec_NearCodes.at])
                                | succ k3 =>
                                  have H := AR.out
                                  clear AR
                                  unfold spec_NearCodes.at at H
                                  by_cases s0 : a < (o.length : Int)
                                  · rw [if_pos s0] at H
                                    by_cases s1 : 0 ≤ a
                                    · rw [if_pos s1] at H
                                      obtain ⟨Au, cp, eu⟩ := Kd.R_slice HO.out
                                      subst eu
                                      obtain ⟨ad, ea, hx⟩ := Kd.at_int (Kd.R_reads' HO.out).2.2 a s1 s0
                                      subst ea
                                      have s0b : decide (a < (o.length : Int)) = true := decide_eq_true s0
                                      by_cases s2 : rd o a < m
                                      · rw [if_pos s2] at H
                                        have AR := Aside0.mk H
                                        have s2b : decide (rd o a < m) = true := decide_eq_true s2
                                        clear H s2
                                        go_wp2
                                        go_roundg k3
                                        case measure => omega
                                        case rel => exact ⟨wrap64 (a + 1), rfl, AR, HO, HD, HB⟩
                                      · rw [if_neg s2] at H
                                        obtain rfl := Option.some.inj H
                                        have s2b : decide (rd o a < m) = false := decide_eq_false s2
                                        clear H s2
                                        go_wp2_with fail
                                        generalize some ad = A at HO ⊢
                                        obtain ⟨_, hcap, HCo⟩ := Kd.R_reads' HO.out
                                        obtain ⟨i0, hi0, _, hsz, _⟩ := info_parts info2
                                        have hmo : a.toNat ≤ o.length := by have := C2.out; omega
                                        have ht0 : 0 ≤ a := C1.out
                                        obtain ⟨o1, ho1⟩ : ∃ o1, o1 = o.take a.toNat := ⟨_, rfl⟩
                                        obtain ⟨o2, ho2⟩ : ∃ o2, o2 = o.drop a.toNat := ⟨_, rfl⟩
                                        have hl1 : o1.length = a.toNat := by rw [ho1, List.length_take]; omega
                                        have hl2 : o2.length = o.length - a.toNat := by rw [ho2, List.length_drop]
                                        have hcut1 := cut_to (P := Try.prog) 22 2 .i64 Try.underlying22 hi0 A o.length cp a ht0 (by omega) hcap
                                        have hcut2 := cut_from (P := Try.prog) 22 2 .i64 Try.underlying22 hi0 1 hsz A o.length cp a ht0 (by omega)
                                        have HT := Kd.C_take (m := a.toNat) HCo hmo
                                        have HDr := Kd.C_drop (m := a.toNat) (c := cp) HCo hmo hcap
                                        obtain ⟨A2, hA2⟩ : ∃ A2, A2 = (if cp = a.toNat then A else A.map (·.add (a.toNat * 1))) := ⟨_, rfl⟩
                                        obtain ⟨cp2, hcp2⟩ : ∃ cp2, cp2 = cp - a.toNat := ⟨_, rfl⟩
                                        rw [← ho1] at HT
                                        rw [← ho2] at HDr
                                        rw [← hA2, ← hl2, ← hcp2] at hcut2
                                        rw [← hl1] at hcut1
                                        have HDr : Kd.C (Kd.int .i64) wr A2 o2.length o2 := by rw [hA2]; exact HDr
                                        have HCN := Aside0.mk (show spec_NearCodes.l1 k2 a0 ds ((o1 ++ [m]) ++ o2) (nI : Int) (wrap64 (d + 1)) = some (r1, r2) from by rw [ho1, ho2]; exact HCX.out)
                                        have HTT := Aside0.mk HT
                                        have HDD := Aside0.mk HDr
                                        have HL1 := Aside0.mk (show o1.length ≤ cp from by omega)
                                        have HL2 := Aside0.mk (show o1.length + 1 + o2.length ≤ 1099511627777 from by have := C3.out; omega)
                                        have HOwn := Aside0.mk (show spec_l01Own.f o1 = some o1 from by unfold spec_l01Own.f; rw [Option.bind_some, if_pos (by have := C3.out; simp; omega)]; rfl)
                                        clear HCo HT HDr hl1 hl2 hA2 hcp2 hcap hmo ht0 ho1 ho2 hi0 hsz
                                        have HX := Aside0.mk (Below.refl wr.heap.size wr)
                                        go_region_law (first
                                          | (refine Kd.R_append_rows_step (Kd.int .i64) (Rr := (Kd.int .i64).K wr) (w0 := wr) wr.heap.size (by rfl) (.tmp 63) (.tmp 66) 22 2 (.int .i64 0) 8 rfl Try.underlying22 info2 rfl (by decide) (by decide) v7 (o1 ++ [m]) o2 A2 o2.length cp2 (fun _ => True) (fun _ => False) (by first | rfl | (go_simp; done)) (by first | rfl | (go_simp; done)) HO7.out (Kd.C_below HDD.out HB7.out) (fun _ _ h => h) (fun _ hk => hk.elim) (fun _ _ => trivial) HB7.out (HB7.out).size (by have := HL2.out; (try simp only [List.length_append, List.length_cons, List.length_nil]); omega) ?_; intro v8 w8 ho8 hb8 hg8 hat8; have HO8 := Aside0.mk ho8; have HB8 := Aside0.mk hb8; clear ho8 hb8 hg8 hat8)
                                          | (refine goes_ Try.func29 (by kernel_rfl) rfl #[.slice A o1.length cp] (by rfl) rfl rfl (by first | rfl | (simp [Act.put, Act.eval]; done) | (go_simp; done)) ?_; refine (spec_l01Own.calls A cp o1 o1 _ (Kd.C_below HTT.out (by repeat (first | exact Below.refl _ _ | refine below_alloc ?_ _ | refine below_drew1 ?_ | refine pw_below_drewN ?_ _))) HL1.out HOwn.out).mono ?_; rintro e w6 ⟨v6, rfl, ho6, hb6⟩; refine ⟨_, rfl, ?_⟩; have HO6 := Aside0.mk (show Kd.R (Kd.int .i64) 2 w6 wr.heap.size (fun _ => True) v6 o1 from Kd.R_lower ho6 (by simp)); have HB6 := Aside0.mk (show Below wr.heap.size wr w6 from below_step (by repeat (first | exact Below.refl _ _ | refine below_alloc ?_ _ | refine below_drew1 ?_ | refine pw_below_drewN ?_ _)) hb6); (try have HX6 := Aside0.mk (show w6.heap[wr.heap.size]? = some (.cells #[.int .i64 m] 2 (0, 0)) from (hb6.block _ (by simp)).trans (blk_new _ _))); clear ho6 hb6)
                                          | (refine Kd.R_append_rows_step (Kd.int .i64) (Rr := (Kd.int .i64).K wr) (w0 := wr) wr.heap.size (by rfl) (.tmp 60) (.tmp 62) 22 2 (.int .i64 0) 8 rfl Try.underlying22 info2 rfl (by decide) (by decide) v6 o1 [m] (some ⟨w6.heap.size, 0, none⟩) 1 1 (fun _ => True) (fun _ => False) (by first | rfl | (go_simp; done)) (by first | rfl | (go_simp; done)) (Kd.R_alloc HO6.out _) (spec_NearCodes.box (blk_new w6 _)) (fun _ _ h => h) (fun _ hk => hk.elim) (fun _ _ => trivial) (below_alloc HB6.out _) ((below_alloc HB6.out _)).size (by have := HL2.out; (try simp only [List.length_append, List.length_cons, List.length_nil]); omega) ?_; intro v7 w7 ho7 hb7 hg7 hat7; have HO7 := Aside0.mk ho7; have HB7 := Aside0.mk hb7; clear ho7 hb7 hg7 hat7)
                                          | (refine Kd.R_append_rows_step (Kd.int .i64) (Rr := (Kd.int .i64).K wr) (w0 := wr) wr.heap.size (by rfl) (.tmp 60) (.tmp 62) 22 2 (.int .i64 0) 8 rfl Try.underlying22 info2 rfl (by decide) (by decide) v6 o1 [m] (some ⟨wr.heap.size, 0, none⟩) 1 1 (fun _ => True) (fun _ => False) (by first | rfl | (go_simp; done)) (by first | rfl | (go_simp; done)) HO6.out (spec_NearCodes.box HX6.out) (fun _ _ h => h) (fun _ hk => hk.elim) (fun _ _ => trivial) HB6.out (HB6.out).size (by have := HL2.out; (try simp only [List.length_append, List.length_cons, List.length_nil]); omega) ?_; intro v7 w7 ho7 hb7 hg7 hat7; have HO7 := Aside0.mk ho7; have HB7 := Aside0.mk hb7; clear ho7 hb7 hg7 hat7)
                                          | fail)
                                        all_goals (
                                          go_wp2
                                          go_roundg k2
                                          case measure => omega
                                          case rel => exact ⟨(o1 ++ [m]) ++ o2, wrap64 (d + 1), rfl, ⟨by have := HK.out; omega⟩, HCN, ⟨Kd.R_lower HO8.out (below_size HB.out)⟩, ⟨Kd.C_below HD.out HB8.out⟩, ⟨below_step HB.out HB8.out⟩⟩)
                                    · rw [if_neg s1] at H
                                      cases H
                                  · rw [if_neg s0] at H
                                    obtain rfl := Option.some.inj H
                                    have s0b : decide (a < (o.length : Int)) = false := decide_eq_false s0
                                    clear H s0
                                    obtain ⟨A, cp, ev⟩ := Kd.R_slice HO.out
                                    subst ev
                                    go_wp2_with fail
                                    obtain ⟨_, hcap, HCo⟩ := Kd.R_reads' HO.out
                                    obtain ⟨i0, hi0, _, hsz, _⟩ := info_parts info2
                                    have hmo : a.toNat ≤ o.length := by have := C2.out; omega
                                    have ht0 : 0 ≤ a := C1.out
                                    obtain ⟨o1, ho1⟩ : ∃ o1, o1 = o.take a.toNat := ⟨_, rfl⟩
                                    obtain ⟨o2, ho2⟩ : ∃ o2, o2 = o.drop a.toNat := ⟨_, rfl⟩
                                    have hl1 : o1.length = a.toNat := by rw [ho1, List.length_take]; omega
                                    have hl2 : o2.length = o.length - a.toNat := by rw [ho2, List.length_drop]
                                    have hcut1 := cut_to (P := Try.prog) 22 2 .i64 Try.underlying22 hi0 A o.length cp a ht0 (by omega) hcap
                                    have hcut2 := cut_from (P := Try.prog) 22 2 .i64 Try.underlying22 hi0 1 hsz A o.length cp a ht0 (by omega)
                                    have HT := Kd.C_take (m := a.toNat) HCo hmo
                                    have HDr := Kd.C_drop (m := a.toNat) (c := cp) HCo hmo hcap
                                    obtain ⟨A2, hA2⟩ : ∃ A2, A2 = (if cp = a.toNat then A else A.map (·.add (a.toNat * 1))) := ⟨_, rfl⟩
                                    obtain ⟨cp2, hcp2⟩ : ∃ cp2, cp2 = cp - a.toNat := ⟨_, rfl⟩
                                    rw [← ho1] at HT
                                    rw [← ho2] at HDr
                                    rw [← hA2, ← hl2, ← hcp2] at hcut2
                                    rw [← hl1] at hcut1
                                    have HDr : Kd.C (Kd.int .i64) wr A2 o2.length o2 := by rw [hA2]; exact HDr
                                    have HCN := Aside0.mk (show spec_NearCodes.l1 k2 a0 ds ((o1 ++ [m]) ++ o2) (nI : Int) (wrap64 (d + 1)) = some (r1, r2) from by rw [ho1, ho2]; exact HCX.out)
                                    have HTT := Aside0.mk HT
                                    have HDD := Aside0.mk HDr
                                    have HL1 := Aside0.mk (show o1.length ≤ cp from by omega)
                                    have HL2 := Aside0.mk (show o1.length + 1 + o2.length ≤ 1099511627777 from by have := C3.out; omega)
                                    have HOwn := Aside0.mk (show spec_l01Own.f o1 = some o1 from by unfold spec_l01Own.f; rw [Option.bind_some, if_pos (by have := C3.out; simp; omega)]; rfl)
                                    clear HCo HT HDr hl1 hl2 hA2 hcp2 hcap hmo ht0 ho1 ho2 hi0 hsz
                                    have HX := Aside0.mk (Below.refl wr.heap.size wr)
                                    go_region_law (first
                                      | (refine Kd.R_append_rows_step (Kd.int .i64) (Rr := (Kd.int .i64).K wr) (w0 := wr) wr.heap.size (by rfl) (.tmp 63) (.tmp 66) 22 2 (.int .i64 0) 8 rfl Try.underlying22 info2 rfl (by decide) (by decide) v7 (o1 ++ [m]) o2 A2 o2.length cp2 (fun _ => True) (fun _ => False) (by first | rfl | (go_simp; done)) (by first | rfl | (go_simp; done)) HO7.out (Kd.C_below HDD.out HB7.out) (fun _ _ h => h) (fun _ hk => hk.elim) (fun _ _ => trivial) HB7.out (HB7.out).size (by have := HL2.out; (try simp only [List.length_append, List.length_cons, List.length_nil]); omega) ?_; intro v8 w8 ho8 hb8 hg8 hat8; have HO8 := Aside0.mk ho8; have HB8 := Aside0.mk hb8; clear ho8 hb8 hg8 hat8)
                                      | (refine goes_ Try.func29 (by kernel_rfl) rfl #[.slice A o1.length cp] (by rfl) rfl rfl (by first | rfl | (simp [Act.put, Act.eval]; done) | (go_simp; done)) ?_; refine (spec_l01Own.calls A cp o1 o1 _ (Kd.C_below HTT.out (by repeat (first | exact Below.refl _ _ | refine below_alloc ?_ _ | refine below_drew1 ?_ | refine pw_below_drewN ?_ _))) HL1.out HOwn.out).mono ?_; rintro e w6 ⟨v6, rfl, ho6, hb6⟩; refine ⟨_, rfl, ?_⟩; have HO6 := Aside0.mk (show Kd.R (Kd.int .i64) 2 w6 wr.heap.size (fun _ => True) v6 o1 from Kd.R_lower ho6 (by simp)); have HB6 := Aside0.mk (show Below wr.heap.size wr w6 from below_step (by repeat (first | exact Below.refl _ _ | refine below_alloc ?_ _ | refine below_drew1 ?_ | refine pw_below_drewN ?_ _)) hb6); (try have HX6 := Aside0.mk (show w6.heap[wr.heap.size]? = some (.cells #[.int .i64 m] 2 (0, 0)) from (hb6.block _ (by simp)).trans (blk_new _ _))); clear ho6 hb6)
                                      | (refine Kd.R_append_rows_step (Kd.int .i64) (Rr := (Kd.int .i64).K wr) (w0 := wr) wr.heap.size (by rfl) (.tmp 60) (.tmp 62) 22 2 (.int .i64 0) 8 rfl Try.underlying22 info2 rfl (by decide) (by decide) v6 o1 [m] (some ⟨w6.heap.size, 0, none⟩) 1 1 (fun _ => True) (fun _ => False) (by first | rfl | (go_simp; done)) (by first | rfl | (go_simp; done)) (Kd.R_alloc HO6.out _) (spec_NearCodes.box (blk_new w6 _)) (fun _ _ h => h) (fun _ hk => hk.elim) (fun _ _ => trivial) (below_alloc HB6.out _) ((below_alloc HB6.out _)).size (by have := HL2.out; (try simp only [List.length_append, List.length_cons, List.length_nil]); omega) ?_; intro v7 w7 ho7 hb7 hg7 hat7; have HO7 := Aside0.mk ho7; have HB7 := Aside0.mk hb7; clear ho7 hb7 hg7 hat7)
                                      | (refine Kd.R_append_rows_step (Kd.int .i64) (Rr := (Kd.int .i64).K wr) (w0 := wr) wr.heap.size (by rfl) (.tmp 60) (.tmp 62) 22 2 (.int .i64 0) 8 rfl Try.underlying22 info2 rfl (by decide) (by decide) v6 o1 [m] (some ⟨wr.heap.size, 0, none⟩) 1 1 (fun _ => True) (fun _ => False) (by first | rfl | (go_simp; done)) (by first | rfl | (go_simp; done)) HO6.out (spec_NearCodes.box HX6.out) (fun _ _ h => h) (fun _ hk => hk.elim) (fun _ _ => trivial) HB6.out (HB6.out).size (by have := HL2.out; (try simp only [List.length_append, List.length_cons, List.length_nil]); omega) ?_; intro v7 w7 ho7 hb7 hg7 hat7; have HO7 := Aside0.mk ho7; have HB7 := Aside0.mk hb7; clear ho7 hb7 hg7 hat7)
                                      | fail)
                                    all_goals (
                                      go_wp2
                                      go_roundg k2
                                      case measure => omega
                                      case rel => exact ⟨(o1 ++ [m]) ++ o2, wrap64 (d + 1), rfl, ⟨by have := HK.out; omega⟩, HCN, ⟨Kd.R_lower HO8.out (below_size HB.out)⟩, ⟨Kd.C_below HD.out HB8.out⟩, ⟨below_step HB.out HB8.out⟩⟩)
                            · rw [if_neg f2] at H
                              cases H
                          · rw [if_neg f1] at H
                            cases H
                        · rw [if_neg f0] at H
                          cases H
                  · rw [if_neg e1] at H
                    cases H
                · rw [if_neg e0] at H
                  cases H
              · rw [if_neg e] at H
                have HC := Aside0.mk H
                have eb : decide (d < 10) = false := decide_eq_false e
                clear H e
                go_wp2
                go_roundg k2
                case measure => have := HK.out; omega
                case rel => exact ⟨o, wrap64 (i + 1), rfl, HC, HO, HD, HB⟩
        · rw [if_neg c] at H
          obtain ⟨rfl, rfl⟩ := Prod.mk.inj (Option.some.inj H)
          have cb : decide (i < (ds.length : Int)) = false := decide_eq_false c
          clear H c
          go_wp2
          go_ret2
          exact ⟨_, rfl, HO.out, HB.out⟩

/-! ### cmp_isNaN_int64: function 62 -/
def cmp_isNaN_int64.f (a0 : Int) : Option (Bool) := some (a0 != a0)
set_option maxHeartbeats 8000000 in
set_option maxRecDepth 100000 in
theorem cmp_isNaN_int64.calls (a0 : Int) (r : Bool) (w : World) (h : cmp_isNaN_int64.f a0 = some r) :
    Calls Try.prog 62 #[.int .i64 a0] w fun e w' => e = .returned (.bool r) ∧ Drawn0 w w' := by
  have H : (some (a0 != a0)) = some r := h
  clear h
  obtain rfl := Option.some.inj H
  go_enter Try.func62, Try.ntmps62
  go_wp2
  go_ret
  exact ⟨by first | rfl | (simp; done) | (simp [*]; done), by repeat (first | exact Drawn0.refl _ | apply Drawn0.step)⟩

/-! ### cmp_Less_int64: function 51 -/
def cmp_Less_int64.f (a0 : Int) (a1 : Int) : Option (Bool) := (cmp_isNaN_int64.f a0).bind fun t137 => (if t137 = true then ((cmp_isNaN_int64.f a1).bind fun t138 => (if t138 = true then (some (decide (a0 < a1))) else (some true))) else (some (decide (a0 < a1))))
set_option maxHeartbeats 8000000 in
set_option maxRecDepth 100000 in
theorem cmp_Less_int64.calls (a0 : Int) (a1 : Int) (r : Bool) (w : World) (h : cmp_Less_int64.f a0 a1 = some r) :
    Calls Try.prog 51 #[.int .i64 a0, .int .i64 a1] w fun e w' => e = .returned (.bool r) ∧ Drawn0 w w' := by
  have H : ((cmp_isNaN_int64.f a0).bind fun t137 => (if t137 = true then ((cmp_isNaN_int64.f a1).bind fun t138 => (if t138 = true then (some (decide (a0 < a1))) else (some true))) else (some (decide (a0 < a1))))) = some r := h
  clear h
  replace H := Option.bind_eq_some_iff.mp H
  obtain ⟨t137, A30, H⟩ := H
  replace H : (if t137 = true then ((cmp_isNaN_int64.f a1).bind fun t138 => (if t138 = true then (some (decide (a0 < a1))) else (some true))) else (some (decide (a0 < a1)))) = some r := H
  have A3 := Aside0.mk A30
  clear A30
  by_cases c4 : t137 = true
  · subst c4
    have H1 : ((cmp_isNaN_int64.f a1).bind fun t138 => (if t138 = true then (some (decide (a0 < a1))) else (some true))) = some r := by rw [if_pos rfl] at H; exact H
    clear H
    have H := H1
    clear H1
    replace H := Option.bind_eq_some_iff.mp H
    obtain ⟨t138, A50, H⟩ := H
    replace H : (if t138 = true then (some (decide (a0 < a1))) else (some true)) = some r := H
    have A5 := Aside0.mk A50
    clear A50
    by_cases c6 : t138 = true
    · subst c6
      have H1 : (some (decide (a0 < a1))) = some r := by rw [if_pos rfl] at H; exact H
      clear H
      have H := H1
      clear H1
      obtain rfl := Option.some.inj H
      go_enter Try.func51, Try.ntmps51
      go_wp2_with (first | ((with_reducible refine gate_callee (f := 62) rfl ?_); refine goesL_ (some 6) rfl rfl Try.func62 (by kernel_rfl) rfl #[.int .i64 a0] rfl (by (try simp only [List.map_toArray, List.map_cons, List.map_nil]); first | done | rfl | (simp only [List.length_drop, List.length_take]; rfl)) ?_; (with_reducible refine (cmp_isNaN_int64.calls a0 true _ A3.out).mono ?_); rintro e w' ⟨rfl, ⟨nd, rfl⟩⟩; refine ⟨_, rfl, ?_⟩) | (go_at_call 62; (with_reducible refine (cmp_isNaN_int64.calls a1 true _ A5.out).mono ?_); rintro e w' ⟨rfl, ⟨nd, rfl⟩⟩))
      go_ret
      exact ⟨by first | rfl | (simp; done) | (simp [*]; done), by repeat (first | exact Drawn0.refl _ | apply Drawn0.step)⟩
    · replace c6 := Bool.eq_false_iff.mpr c6
      subst c6
      have H1 : (some true) = some r := by rw [if_neg (show ¬ (false = true) by decide)] at H; exact H
      clear H
      have H := H1
      clear H1
      obtain rfl := Option.some.inj H
      go_enter Try.func51, Try.ntmps51
      go_wp2_with (first | ((with_reducible refine gate_callee (f := 62) rfl ?_); refine goesL_ (some 6) rfl rfl Try.func62 (by kernel_rfl) rfl #[.int .i64 a0] rfl (by (try simp only [List.map_toArray, List.map_cons, List.map_nil]); first | done | rfl | (simp only [List.length_drop, List.length_take]; rfl)) ?_; (with_reducible refine (cmp_isNaN_int64.calls a0 true _ A3.out).mono ?_); rintro e w' ⟨rfl, ⟨nd, rfl⟩⟩; refine ⟨_, rfl, ?_⟩) | (go_at_call 62; (with_reducible refine (cmp_isNaN_int64.calls a1 false _ A5.out).mono ?_); rintro e w' ⟨rfl, ⟨nd, rfl⟩⟩))
      go_ret
      exact ⟨by first | rfl | (simp; done) | (simp [*]; done), by repeat (first | exact Drawn0.refl _ | apply Drawn0.step)⟩
  · replace c4 := Bool.eq_false_iff.mpr c4
    subst c4
    have H1 : (some (decide (a0 < a1))) = some r := by rw [if_neg (show ¬ (false = true) by decide)] at H; exact H
    clear H
    have H := H1
    clear H1
    obtain rfl := Option.some.inj H
    go_enter Try.func51, Try.ntmps51
    go_wp2_with (first | ((with_reducible refine gate_callee (f := 62) rfl ?_); refine goesL_ (some 6) rfl rfl Try.func62 (by kernel_rfl) rfl #[.int .i64 a0] rfl (by (try simp only [List.map_toArray, List.map_cons, List.map_nil]); first | done | rfl | (simp only [List.length_drop, List.length_take]; rfl)) ?_; (with_reducible refine (cmp_isNaN_int64.calls a0 false _ A3.out).mono ?_); rintro e w' ⟨rfl, ⟨nd, rfl⟩⟩; refine ⟨_, rfl, ?_⟩))
    go_ret
    exact ⟨by first | rfl | (simp; done) | (simp [*]; done), by repeat (first | exact Drawn0.refl _ | apply Drawn0.step)⟩

end Go.Proofs.Ytnnglnphkbpemaa.PFnReads
