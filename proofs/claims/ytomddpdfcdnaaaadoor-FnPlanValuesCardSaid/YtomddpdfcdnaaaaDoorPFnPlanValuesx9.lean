import Derived.Test.YtomddpdfcdnaaaaDoorPFnPlanValuesx0
import Derived.Test.YtomddpdfcdnaaaaDoorPFnPlanValuesx1
import Derived.Test.YtomddpdfcdnaaaaDoorPFnPlanValuesx7
import Derived.Test.YtomddpdfcdnaaaaDoorPFnPlanValuesx8
import Derived.StillTactics
namespace Go.Proofs.YtomddpdfcdnaaaaDoor.PFnPlanValues
open Go.RowKit Go.Proofs.YtomddpdfcdnaaaaDoorW.PrintWords Go.Proofs.YtomddpdfcdnaaaaDoorW.PrintLast Go.Proofs.YtomddpdfcdnaaaaDoorW.PrintMore
attribute [local go_sem] max2_int min2_int max_two min_two max_three min_three max_four min_four   -- for this text's walks alone
set_option linter.unusedVariables false
set_option linter.unusedSimpArgs false

def spec_l12Table.rr (o : List (List Int)) (x : Nat) : List Int := o.getD x []
def spec_l12Table.cx (o : List (List Int)) (w h : Nat) (b : Int) : Nat → Int
 | 0 => b
 | n + 1 => max (spec_l12Table.cx o w h b n) (wrap64 (rd (spec_l12Table.rr o (n + 1)) (h : Int) + rd (spec_l12Table.rr o (w - (n + 1))) (h : Int)))
def spec_l12Table.cy (r : List Int) (h : Nat) (b : Int) : Nat → Int
 | 0 => b
 | n + 1 => max (spec_l12Table.cy r h b n) (wrap64 (rd r ((n + 1 : Nat) : Int) + rd r ((h - (n + 1) : Nat) : Int)))
def spec_l12Table.best (o : List (List Int)) (r : List Int) (l : List S50) (w h : Nat) : Int := spec_l12Table.cy r h (spec_l12Table.cx o w h (l12Kd l w h l.length) (w - 1)) (h - 1)
def spec_l12Table.row (o : List (List Int)) (l : List S50) (w : Nat) : Nat → List Int
 | 0 => [0]
 | n + 1 => spec_l12Table.row o l w n ++ [spec_l12Table.best o (spec_l12Table.row o l w n) l w (n + 1)]
def spec_l12Table.tab (l : List S50) (H : Nat) : Nat → List (List Int)
 | 0 => [List.replicate (H + 1) 0]
 | n + 1 => spec_l12Table.tab l H n ++ [spec_l12Table.row (spec_l12Table.tab l H n) l (n + 1) H]
theorem spec_l12Table.row_len (o : List (List Int)) (l : List S50) (w : Nat) : ∀ n, (spec_l12Table.row o l w n).length = n + 1
 | 0 => rfl
 | n + 1 => by rw [spec_l12Table.row, List.length_append, spec_l12Table.row_len o l w n]; rfl
theorem spec_l12Table.tab_len (l : List S50) (H : Nat) : ∀ n, (spec_l12Table.tab l H n).length = n + 1
 | 0 => rfl
 | n + 1 => by rw [spec_l12Table.tab, List.length_append, spec_l12Table.tab_len l H n]; rfl
theorem spec_l12Table.tab_row (l : List S50) (H : Nat) : ∀ n x, x ≤ n → (spec_l12Table.rr (spec_l12Table.tab l H n) x).length = H + 1
 | 0, x, hx => by
  have : x = 0 := by omega
  subst this
  exact List.length_replicate
 | n + 1, x, hx => by
  have ht := spec_l12Table.tab_len l H n
  unfold spec_l12Table.rr
  rw [spec_l12Table.tab, List.getD_eq_getElem?_getD]
  by_cases c : x ≤ n
  ·rw [List.getElem?_append_left (by omega)]
   have := spec_l12Table.tab_row l H n x c
   rwa [spec_l12Table.rr, List.getD_eq_getElem?_getD] at this
  ·have : x = n + 1 := by omega
   subst this
   rw [List.getElem?_append_right (by omega), ht, Nat.sub_self]
   exact spec_l12Table.row_len _ _ _ _
def spec_l12Table.VK : Kd (Value × List Int) where
 sz := 1
 E := [2]
 K := fun w x cs => cs = [x.1] ∧ ∃ A c, x.1 = .slice A x.2.length c ∧ x.2.length ≤ c ∧ (Kd.int .i64).C w A x.2.length x.2
 M := fun w base ok x cs => cs = [x.1] ∧ (Kd.int .i64).R 2 w base ok x.1 x.2
 K_len := by
  rintro w x cs ⟨rfl, _⟩
  rfl
 K_one := by
  rintro w x cs ⟨rfl, A, c, e, _⟩ u hu
  rw [List.mem_singleton.1 hu, e]
  rfl
 K_below := by
  rintro w w1 x cs hb ⟨e0, A, c, e, hl, hr⟩
  exact ⟨e0, A, c, e, hl, Kd.C_below hr hb⟩
 K_of_M := by
  rintro w base ok x cs ⟨e0, h⟩
  obtain ⟨A, c, e, hl, hr⟩ := Kd.R_reads h
  exact ⟨e0, A, c, e, hl, hr⟩
 M_mono := by
  rintro w base ok ok' x cs hok ⟨e0, h⟩
  exact ⟨e0, Kd.R_mono h hok⟩
 M_bound := by
  rintro w base ok x cs ⟨e0, h⟩
  exact ⟨e0, Kd.R_bound h⟩
 M_move := by
  rintro w w1 base ok x cs hm ⟨e0, h⟩
  exact ⟨e0, Kd.R_move h hm⟩
 M_lower := by
  rintro w base base' ok x cs hb ⟨e0, h⟩
  exact ⟨e0, Kd.R_lower h hb⟩
theorem spec_l12Table.VK_S {e : Nat} {w : World} {base : Nat} {ok : Nat → Prop} {v : Value} {xs : List (Value × List Int)} (h : Kd.S spec_l12Table.VK e w base ok v xs) : Kd.S (Kd.slice 2 (Kd.int .i64)) e w base ok v (xs.map Prod.snd) := by
 obtain ⟨f, h0, inner, ho, hr⟩ := h
 rw [List.length_zipIdx] at ho
 refine ⟨f, h0, inner, by rw [List.length_zipIdx, List.length_map]; exact ho, by have := hr.1; rw [List.length_zipIdx] at this; rw [List.length_zipIdx, List.length_map]; exact this, fun j p hj => ?_⟩
 rw [List.getElem?_zipIdx, List.getElem?_map] at hj
 obtain ⟨q, hq, rfl⟩ := Option.map_eq_some_iff.1 hj
 obtain ⟨x, hx, rfl⟩ := Option.map_eq_some_iff.1 hq
 obtain ⟨e1, h1⟩ := hr.2 j (x, 0 + j) (by rw [List.getElem?_zipIdx, hx]; rfl)
 exact ⟨x.1, e1, h1⟩
theorem spec_l12Table.rr_map (xs : List (Value × List Int)) (x : Nat) : spec_l12Table.rr (xs.map Prod.snd) x = (xs.getD x (.slice none 0 0, [])).2 := by
 unfold spec_l12Table.rr
 simp only [List.getD_eq_getElem?_getD, List.getElem?_map]
 cases xs[x]? <;> rfl
theorem spec_l12Table.at_V {w : World} {g n : Nat} {xs : List (Value × List Int)} (h : spec_l12Table.VK.C w (some ⟨g, 0, none⟩) n xs) (x : Nat) (hx : x < n) : ∃ A0 c0, w.cell? ⟨g, x, none⟩ = some (.slice A0 (spec_l12Table.rr (xs.map Prod.snd) x).length c0) ∧ (Kd.int .i64).C w A0 (spec_l12Table.rr (xs.map Prod.snd) x).length (spec_l12Table.rr (xs.map Prod.snd) x) := by
 obtain ⟨ad, c, e, _, ⟨e1, A, c0, e2, _, hr⟩, hc⟩ := Kd.C_get h (.slice none 0 0, []) (x : Int) (by omega) (by omega)
 have hq := hc 0 (xs.getD x (.slice none 0 0, [])).1 (by rw [e1]; rfl)
 injection e with e
 subst e
 rw [spec_l12Table.rr_map]
 refine ⟨A, c0, ?_, hr⟩
 rw [add_at, Nat.zero_add] at hq
 have e3 : (xs.getD x (.slice none 0 0, [])).1 = .slice A (xs.getD x (.slice none 0 0, [])).2.length c0 := e2
 rw [← e3, ← hq]
 show _ = w.cell? ⟨g, (x : Int).toNat * 1 + 0, none⟩
 rw [Int.toNat_natCast, Nat.mul_one, Nat.add_zero]
theorem spec_l12Table.lend {W : World} {base g cap n : Nat} {xs : List (Value × List Int)} (h : Kd.S spec_l12Table.VK 24 W base (fun _ => True) (.slice (some ⟨g, 0, none⟩) n cap) xs) (i : Nat) (hi : i < n) :
  ∃ oki : Nat → Prop, (Kd.int .i64).R 2 W base oki (xs.getD i (.slice none 0 0, [])).1 (xs.getD i (.slice none 0 0, [])).2 ∧ W.cell? ⟨g, i, none⟩ = some (xs.getD i (.slice none 0 0, [])).1 ∧ (∀ k, oki k → k ≠ g) ∧ W.frozen? ⟨g, i, none⟩ = false ∧
   Kd.H spec_l12Table.VK 24 W base (fun _ => True) (.slice (some ⟨g, 0, none⟩) n cap) xs (i : Int) oki [(xs.getD i (.slice none 0 0, [])).1] := by
 obtain ⟨oki, c, hcl, ⟨e1, hR⟩, hcc, hfr, hok, hH⟩ := Kd.S_elem h (.slice none 0 0, []) (i : Int) (by omega) (by omega)
 have e1 : c = [(xs.getD i (.slice none 0 0, [])).1] := e1
 subst e1
 refine ⟨oki, hR, ?_, fun k hk => (hok k hk).2, ?_, hH⟩
 ·have := hcc 0 _ rfl
  rw [← this]
  show W.cell? ⟨g, i, none⟩ = W.cell? ⟨g, (i : Int).toNat * 1 + 0, none⟩
  rw [Int.toNat_natCast, Nat.mul_one, Nat.add_zero]
 ·have := hfr 0
  rw [← this]
  show W.frozen? ⟨g, i, none⟩ = W.frozen? ⟨g, (i : Int).toNat * 1 + 0, none⟩
  rw [Int.toNat_natCast, Nat.mul_one, Nat.add_zero]
theorem spec_l12Table.back {W : World} {base g cap n : Nat} {xs : List (Value × List Int)} {i : Nat} {oki : Nat → Prop} {u : Value} (hH : Kd.H spec_l12Table.VK 24 W base (fun _ => True) (.slice (some ⟨g, 0, none⟩) n cap) xs (i : Int) oki [u]) (hi : i < n) {v : Value} {r : List Int} (hv : v.oneCell' = true) (hR : (Kd.int .i64).R 2 W base oki v r) (hg : ∀ k, oki k → k ≠ g) :
  Kd.S spec_l12Table.VK 24 (W.setCell ⟨g, i, none⟩ v) base (fun _ => True) (.slice (some ⟨g, 0, none⟩) n cap) (xs.set i (v, r)) := by
 obtain ⟨h2, h3⟩ := Kd.H_seg hH (by omega) (by omega) (seg := [v]) (j := 0) (by show 0 + 1 ≤ 1; omega) (fun q hq => by rw [List.mem_singleton.1 hq]; exact hv)
 have e : W.setCells g ((i : Int).toNat * spec_l12Table.VK.sz + 0) [v] = W.setCell ⟨g, i, none⟩ v := by
  show W.setCells g ((i : Int).toNat * 1 + 0) [v] = _
  rw [Int.toNat_natCast, Nat.mul_one, Nat.add_zero]
  rfl
 rw [e] at h2 h3
 have h4 := Kd.H_back h2 (x' := (v, r)) (okp := oki) ⟨rfl, Kd.R_step hR (fun k hk hlt => h3.block k hlt (fun he => hg k hk (by injection he)))⟩ (fun _ hk => hk)
 rwa [Int.toNat_natCast] at h4
theorem spec_l12Table.hole {W : World} {base g cap n : Nat} {xs : List (Value × List Int)} {i : Nat} {oki : Nat → Prop} {u : Value} (hH : Kd.H spec_l12Table.VK 24 W base (fun _ => True) (.slice (some ⟨g, 0, none⟩) n cap) xs (i : Int) oki [u]) (hi : i < n) : W.cell? ⟨g, i, none⟩ = some u ∧ W.frozen? ⟨g, i, none⟩ = false := by
 obtain ⟨rows, _, hraw, _, _, hcc, _⟩ := Kd.H_raw hH (by omega) (by omega)
 obtain ⟨_, _, _, _, hfr⟩ := Kd.R_elem hraw [] (i : Int) (by omega) (by omega)
 have e : (⟨g, i, none⟩ : Addr) = ⟨g, (i : Int).toNat * 1 + 0, none⟩ := by rw [Int.toNat_natCast, Nat.mul_one, Nat.add_zero]
 rw [e]
 exact ⟨hcc 0 u rfl, hfr 0⟩
theorem spec_l12Table.rr_left (o : List (List Int)) (r : List Int) (x : Nat) (hx : x < o.length) : spec_l12Table.rr (o ++ [r]) x = spec_l12Table.rr o x := by
 unfold spec_l12Table.rr
 rw [List.getD_eq_getElem?_getD, List.getD_eq_getElem?_getD, List.getElem?_append_left hx]
theorem spec_l12Table.cx_step (o : List (List Int)) (w h : Nat) (b : Int) (x : Nat) (hx : 1 ≤ x) : spec_l12Table.cx o w h b (x + 1 - 1) = max (spec_l12Table.cx o w h b (x - 1)) (IntKind.i64.wrap (rd (spec_l12Table.rr o x) (h : Int) + rd (spec_l12Table.rr o (w - x)) (h : Int))) := by
 obtain ⟨m, rfl⟩ : ∃ m, x = m + 1 := ⟨x - 1, by omega⟩
 rw [i64_w]
 rfl
theorem spec_l12Table.cy_step (r : List Int) (h : Nat) (b : Int) (y : Nat) (hy : 1 ≤ y) : spec_l12Table.cy r h b (y + 1 - 1) = max (spec_l12Table.cy r h b (y - 1)) (IntKind.i64.wrap (rd r (y : Int) + rd r ((h - y : Nat) : Int))) := by
 obtain ⟨m, rfl⟩ : ∃ m, y = m + 1 := ⟨y - 1, by omega⟩
 rw [i64_w]
 rfl
theorem spec_l12Table.row_step (o : List (List Int)) (l : List S50) (w j : Nat) (hj : 1 ≤ j) : spec_l12Table.row o l w (j + 1 - 1) = spec_l12Table.row o l w (j - 1) ++ [spec_l12Table.best o (spec_l12Table.row o l w (j - 1)) l w j] := by
 obtain ⟨m, rfl⟩ : ∃ m, j = m + 1 := ⟨j - 1, by omega⟩
 rfl
theorem spec_l12Table.set_last (o : List (List Int)) (r r' : List Int) (i : Nat) (hi : o.length = i) : (o ++ [r]).set i r' = o ++ [r'] := by
 subst hi
 induction o with
 | nil => rfl
 | cons x o ih => simp
set_option maxHeartbeats 8000000 in
set_option maxRecDepth 100000 in
theorem spec_l12Table.walk (A2 : Option Addr) (c2 : Nat) (l2 : List S50) (W H : Nat) (w : World) (hW : W ≤ 40) (hH : H ≤ 40) (hr2 : Kd.C k50 w A2 l2.length l2) (hc2 : l2.length ≤ c2) (hl : l2.length ≤ 1000000) :
  Calls Tryd.prog 42 #[.int .i64 W, .int .i64 H, .slice A2 l2.length c2] w fun e w' => ∃ v, e = .returned v ∧ (∃ xs : List (Value × List Int), xs.map Prod.snd = spec_l12Table.tab l2 H W ∧ Kd.S spec_l12Table.VK 24 w' w.heap.size (fun _ => True) v xs) ∧ Below w.heap.size w w' := by
 have mixed : Tryd.prog.follows .mixedOrders = true := by kernel_rfl
 have HR2 := Aside0.mk hr2
 have HB0 := Aside0.mk (Below.refl w.heap.size w)
 clear hr2
 have hH1 : IntKind.i64.wrap ((H : Int) + 1) = (H : Int) + 1 := by rw [i64_w]; unfold wrap64; omega
 have HR0 := Aside0.mk (show List.replicate ((H : Int) + 1).toNat (0 : Int) = List.replicate (H + 1) 0 from by congr 1)
 go_enter Tryd.func42, Tryd.ntmps42
 go_wp2_with (first
  | ((with_reducible refine gate_dst (N := 17) rfl ?_); refine Kd.R_make (Kd.int .i64) (w0 := w) w.heap.size 2 rfl (N := 17) rfl 24 _ _ rfl ((H : Int) + 1) (by first | rfl | (go_simp; done)) (by first | rfl | (go_simp; done)) Tryd.underlying24 (.int .i64 0) 8 info2 rfl (by decide) (by omega) (0 : Int) (ok := fun _ => True) (okp := fun _ => True) rfl (fun _ hk => hk) trivial (by omega) (by omega) HB0.out (Nat.le_refl _) ?_; intro v1 w1 ho1 hb1 hg1 hn1; rw [HR0.out] at ho1; obtain ⟨g1, c1, e1, _, _, _⟩ := Kd.R_form ho1 (by simp); subst e1; have HO1 := Aside0.mk ho1; have HB1 := Aside0.mk hb1; clear ho1 hb1 hg1 hn1)
  | ((with_reducible refine gate_dst (N := 18) rfl ?_); refine Kd.S_lits spec_l12Table.VK (w0 := w) w.heap.size 24 ?hg (N := 18) ?hd (xs := [(.slice (some ⟨g1, 0, none⟩) (List.replicate (H + 1) (0 : Int)).length c1, List.replicate (H + 1) (0 : Int))]) (inner := [.slice (some ⟨g1, 0, none⟩) (List.replicate (H + 1) (0 : Int)).length c1]) (ok := fun _ => True) (fun j k => j = 0 ∧ k = g1) ?hr rfl ?hrep (fun i j k h1 h2 => by omega) (fun _ _ _ => trivial) trivial HB1.out (below_size HB1.out) (by simp) ?_; (case hd => rfl); (case hg => rfl); (case hr => first | (go_simp; done) | (go_simp; rfl)); (case hrep => (intro j x hx; have hj : j = 0 := (by have := (List.getElem?_eq_some_iff.1 hx).1; simp at this; exact this); subst hj; obtain rfl := Option.some.inj hx; exact ⟨rfl, Kd.R_mono (Kd.R_tight rfl HO1.out) (fun k hk => ⟨rfl, by simpa [Value.ownBlock] using hk⟩)⟩)); intro v2 w2 ho2 hb2 hg2 hn2; have HO2 := Aside0.mk ho2; have HB2 := Aside0.mk hb2; clear ho2 hb2 hg2 hn2))
 clear HO1 HB1 HB0
 go_loopg [7, 8] W (fun gg s7 s8 wr => ∃ (i : Nat) (xs : List (Value × List Int)), s8 = .int .i64 (i : Int) ∧ Aside0 (1 ≤ i) ∧ Aside0 (i + gg = W + 1) ∧ Aside0 (xs.map Prod.snd = spec_l12Table.tab l2 H (i - 1)) ∧ Aside0 (Kd.S spec_l12Table.VK 24 wr w.heap.size (fun _ => True) s7 xs) ∧ Aside0 (Below w.heap.size w wr))
 case atStart => exact ⟨1, _, rfl, ⟨by omega⟩, ⟨by omega⟩, ⟨rfl⟩, HO2, HB2⟩
 case round =>
  clear HO2 HB2
  obtain ⟨i, xs, rfl, H1, HN, HX, HO, HB⟩ := hrel
  cases gk with
  | zero =>
   have hiW : i = W + 1 := by have := HN.out; omega
   subst hiW
   have cb : decide (((W + 1 : Nat) : Int) ≤ (W : Int)) = false := decide_eq_false (by omega)
   go_wp2
   go_ret
   exact ⟨_, rfl, ⟨xs, HX.out, HO.out⟩, HB.out⟩
  | succ k1 =>
   have hi : i ≤ W := by have := HN.out; omega
   have h1 := H1.out
   have cb : decide ((i : Int) ≤ (W : Int)) = true := decide_eq_true (by omega)
   have hxl : xs.length = i := by
    have := congrArg List.length HX.out
    rw [List.length_map, spec_l12Table.tab_len] at this
    omega
   obtain ⟨g7, c7, e7, hb7, hlt7, _⟩ := Kd.R_form (Kd.S_R HO.out) (by omega)
   subst e7
   have HXL := Aside0.mk hxl
   clear hxl hb7 hlt7
   go_wp2_with (first
    | ((with_reducible refine gate_dst (N := 24) rfl ?_); refine Kd.R_lit (Kd.int .i64) (w0 := w) w.heap.size 2 ?hg (N := 24) ?hd (xs := [(0 : Int)]) (inner := [.int .i64 0]) (ok := fun _ => True) (okp := fun _ => True) ?hr ?hp (fun _ hk => hk) trivial HB.out (below_size HB.out) (by simp) ?_; (case hd => rfl); (case hg => rfl); (case hr => first | (go_simp; done) | (go_simp; rfl)); (case hp => exact Reps.snoc (ps := []) (cs := []) (Reps.none _ _) (p := (0 : Int)) (c := [.int .i64 0]) rfl rfl); intro v3 w3 ho3 hb3 hg3 hn3; obtain ⟨g3, c3, e3, _, _, _⟩ := Kd.R_form ho3 (by simp); subst e3; have HO3 := Aside0.mk ho3; have HB3 := Aside0.mk hb3; have HS3 := Aside0.mk (Kd.S_elder' HO.out (v := .slice (some ⟨g3, 0, none⟩) [(0 : Int)].length c3) (fun k hk => by obtain ⟨b, hb, hle⟩ := hn3; rw [hb] at hk; injection hk with hk; omega) (Below.grown (Below.refl _ _) hg3 (Nat.le_refl _) (fun k_ hk_ => by cases hk_))); clear ho3 hb3 hg3 hn3)
    | ((with_reducible refine gate_builtin (b := .append) (xs := #[.tmp 25, .tmp 27]) rfl ?_); at_builtin; refine Kd.S_append spec_l12Table.VK (w0 := w) w.heap.size rfl (.tmp 25) (.tmp 27) 57 24 (.slice none 0 0) 24 rfl Tryd.underlying57 info24 rfl (by decide) (by omega) (.slice (some ⟨g7, 0, none⟩) xs.length c7) xs (.slice (some ⟨g3, 0, none⟩) [(0 : Int)].length c3, [(0 : Int)]) [.slice (some ⟨g3, 0, none⟩) [(0 : Int)].length c3] (fun _ => True) (fun k_ => k_ = g3) rfl rfl ?aP ?aK (fun _ _ => trivial) ?aO HB3.out (below_size HB3.out) ?aL ?_; (case aP => exact ⟨rfl, Kd.R_mono (Kd.R_tight rfl HO3.out) (fun k hk => by have : g3 = k := (by simpa [Value.ownBlock] using hk.symm); exact this.symm)⟩); (case aK => exact (fun k hk => ⟨trivial, fun he => ((Kd.S_R HS3.out).1 k he.symm).2 (by rw [hk]; simp [Value.ownBlock])⟩)); (case aO => exact Kd.S_mono HS3.out (fun k hk => ⟨trivial, fun e => hk.2 (by rw [e]; simp [Value.ownBlock])⟩)); (case aL => (have := HXL.out; have := hi; omega)); intro v4 w4 ho4 hb4 hg4 hat4; have HO4 := Aside0.mk ho4; have HB4 := Aside0.mk hb4; clear ho4 hb4 hg4 hat4))
   clear HO3 HB3 HS3 HB HO
   obtain ⟨g4, c4, e4, hb4, hlt4, _⟩ := Kd.R_form (Kd.S_R HO4.out) (by simp)
   obtain ⟨m, hm⟩ : ∃ m, m = (xs ++ [((.slice (some ⟨g3, 0, none⟩) [(0 : Int)].length c3 : Value), [(0 : Int)])]).length := ⟨_, rfl⟩
   rw [← hm] at e4
   subst e4
   have HM4 := Aside0.mk (show m = i + 1 from by rw [hm, List.length_append, HXL.out]; rfl)
   clear hb4 hlt4 hm
   have HX4 := Aside0.mk (show (xs ++ [((.slice (some ⟨g3, 0, none⟩) [(0 : Int)].length c3 : Value), [(0 : Int)])]).map Prod.snd = spec_l12Table.tab l2 H (i - 1) ++ [spec_l12Table.row (spec_l12Table.tab l2 H (i - 1)) l2 i 0] from by rw [List.map_append, HX.out]; rfl)
   have HL4 := Aside0.mk (show (xs ++ [((.slice (some ⟨g3, 0, none⟩) [(0 : Int)].length c3 : Value), [(0 : Int)])]).length = i + 1 from by rw [List.length_append, HXL.out]; rfl)
   have HV4 := Aside0.mk (show (xs ++ [((.slice (some ⟨g3, 0, none⟩) [(0 : Int)].length c3 : Value), [(0 : Int)])]).getD i (.slice none 0 0, []) = ((.slice (some ⟨g3, 0, none⟩) [(0 : Int)].length c3 : Value), [(0 : Int)]) from by rw [List.getD_eq_getElem?_getD, List.getElem?_append_right (by rw [HXL.out]; exact Nat.le_refl _), HXL.out, Nat.sub_self]; rfl)
   generalize xs ++ [((.slice (some ⟨g3, 0, none⟩) [(0 : Int)].length c3 : Value), [(0 : Int)])] = ys at HO4 HX4 HL4 HV4 ⊢
   go_loopg [9, 10] H (fun gg s9 s10 wr => ∃ (j : Nat) (ys : List (Value × List Int)), s10 = .int .i64 (j : Int) ∧ Aside0 (1 ≤ j) ∧ Aside0 (j + gg = H + 1) ∧ Aside0 (ys.length = i + 1) ∧ Aside0 (ys.getD i (.slice none 0 0, []) = (s9, spec_l12Table.row (spec_l12Table.tab l2 H (i - 1)) l2 i (j - 1))) ∧ Aside0 (ys.map Prod.snd = spec_l12Table.tab l2 H (i - 1) ++ [spec_l12Table.row (spec_l12Table.tab l2 H (i - 1)) l2 i (j - 1)]) ∧ Aside0 (Kd.S spec_l12Table.VK 24 wr w.heap.size (fun _ => True) (.slice (some ⟨g4, 0, none⟩) m c4) ys) ∧ Aside0 (Below w.heap.size w wr))
   case atStart => exact ⟨1, ys, rfl, ⟨by omega⟩, ⟨by omega⟩, HL4, HV4, HX4, HO4, HB4⟩
   case round =>
    clear HO4 HX4 HL4 HV4 HB4 HX HXL ys
    obtain ⟨j, ys, rfl, J1, HM, HL, HV, HX, HO, HB⟩ := hrel
    cases gk with
    | zero =>
     have hj : j = H + 1 := by have := HM.out; omega
     subst hj
     have cj : decide (((H + 1 : Nat) : Int) ≤ (H : Int)) = false := decide_eq_false (by omega)
     go_wp2
     go_roundg k1
     case measure => omega
     case rel => exact ⟨i + 1, ys, by first | rfl | (congr 1; omega), ⟨by omega⟩, ⟨by have := HN.out; omega⟩, ⟨by
      rw [HX.out]
      obtain ⟨m, rfl⟩ : ∃ m, i = m + 1 := ⟨i - 1, by omega⟩
      rfl⟩, HO, HB⟩
    | succ k2 =>
     have hj : j ≤ H := by have := HM.out; omega
     have j1 := J1.out
     have hm : i < m := by have := HM4.out; omega
     obtain ⟨okr, hRr, -, -, -, -⟩ := spec_l12Table.lend HO.out i hm
     rw [HV.out] at hRr
     dsimp only at hRr
     have HRL := Aside0.mk (show (spec_l12Table.row (spec_l12Table.tab l2 H (i - 1)) l2 i (j - 1)).length = j from by rw [spec_l12Table.row_len]; omega)
     obtain ⟨g9, c9, e9, -, -, -⟩ := Kd.R_form hRr (by have := HRL.out; omega)
     subst e9
     clear hRr okr
     have HR9 := Aside0.mk (show spec_l12Table.row (spec_l12Table.tab l2 H (i - 1)) l2 i (j + 1 - 1) = _ from spec_l12Table.row_step _ l2 i j j1)
     generalize spec_l12Table.row (spec_l12Table.tab l2 H (i - 1)) l2 i (j - 1) = r at HV HX HRL HR9 ⊢
     have cj : decide ((j : Int) ≤ (H : Int)) = true := decide_eq_true (by omega)
     go_wp2
     go_loopg [11, 12] l2.length (fun gg s11 s12 wr => ∃ n : Nat, s12 = .int .i64 (n : Int) ∧ s11 = .int .i64 (l12Kd l2 (i : Int) (j : Int) n) ∧ Aside0 (n + gg = l2.length) ∧ Aside0 (Kd.S spec_l12Table.VK 24 wr w.heap.size (fun _ => True) (.slice (some ⟨g4, 0, none⟩) m c4) ys) ∧ Aside0 (Below w.heap.size w wr))
     case atStart => exact ⟨0, rfl, rfl, ⟨by omega⟩, HO, HB⟩
     case round =>
      clear HO HB
      obtain ⟨n, rfl, rfl, HQ, HO, HB⟩ := hrel
      cases gk with
      | zero =>
       have hn : n = l2.length := by have := HQ.out; omega
       subst hn
       have cn : decide (((l2.length : Nat) : Int) < ((l2.length : Nat) : Int)) = false := decide_eq_false (by omega)
       go_wp2
       clear HQ
       generalize hb0 : l12Kd l2 (i : Int) (j : Int) l2.length = b0
       have HT := Aside0.mk (show (spec_l12Table.tab l2 H (i - 1)).length = i from by rw [spec_l12Table.tab_len]; omega)
       have HTR := Aside0.mk (show ∀ x, x < i → (spec_l12Table.rr (spec_l12Table.tab l2 H (i - 1)) x).length = H + 1 from fun x hx => spec_l12Table.tab_row l2 H _ x (by omega))
       generalize hto : spec_l12Table.tab l2 H (i - 1) = o at HX HT HTR HR9
       have HTO := Aside0.mk hto
       clear hto
       go_loopg [13, 11] (i - 1) (fun gg s13 s11 wr => ∃ x : Nat, s13 = .int .i64 (x : Int) ∧ s11 = .int .i64 (spec_l12Table.cx o i j b0 (x - 1)) ∧ Aside0 (1 ≤ x) ∧ Aside0 (x + gg = i) ∧ Aside0 (Kd.S spec_l12Table.VK 24 wr w.heap.size (fun _ => True) (.slice (some ⟨g4, 0, none⟩) m c4) ys) ∧ Aside0 (Below w.heap.size w wr))
       case atStart => exact ⟨1, rfl, rfl, ⟨by omega⟩, ⟨by omega⟩, HO, HB⟩
       case round =>
        clear HO HB
        obtain ⟨x, rfl, rfl, X1, HQ, HO, HB⟩ := hrel
        have x1 := X1.out
        cases gk with
        | zero =>
         have hx : i = x := by have := HQ.out; omega
         subst hx
         have cx : decide ((i : Int) < (i : Int)) = false := decide_eq_false (by omega)
         go_wp2
         clear HQ
         generalize hb1 : spec_l12Table.cx o i j b0 (i - 1) = b1
         go_loopg [14, 11] (j - 1) (fun gg s14 s11 wr => ∃ y : Nat, s14 = .int .i64 (y : Int) ∧ s11 = .int .i64 (spec_l12Table.cy r j b1 (y - 1)) ∧ Aside0 (1 ≤ y) ∧ Aside0 (y + gg = j) ∧ Aside0 (Kd.S spec_l12Table.VK 24 wr w.heap.size (fun _ => True) (.slice (some ⟨g4, 0, none⟩) m c4) ys) ∧ Aside0 (Below w.heap.size w wr))
         case atStart => exact ⟨1, rfl, rfl, ⟨by omega⟩, ⟨by omega⟩, HO, HB⟩
         case round =>
          clear HO HB
          obtain ⟨y, rfl, rfl, Y1, HQ, HO, HB⟩ := hrel
          have y1 := Y1.out
          cases gk with
          | zero =>
           have hy : j = y := by have := HQ.out; omega
           subst hy
           have cy : decide ((j : Int) < (j : Int)) = false := decide_eq_false (by omega)
           have hm4 := HM4.out
           have rl := HRL.out
           have HR10 := HR9.out
           have hbst : spec_l12Table.best o r l2 i j = spec_l12Table.cy r j b1 (j - 1) := by
            unfold spec_l12Table.best
            rw [← hb1, ← hb0]
           rw [hbst] at HR10
           have HR11 := Aside0.mk HR10
           clear HR10 hbst hb1 hb0
           generalize spec_l12Table.cy r j b1 (j - 1) = bst at HR11 ⊢
           obtain ⟨okr, hRr, _, hng, _, hH⟩ := spec_l12Table.lend HO.out i hm
           have hgl : g4 < wr.heap.size := by
            obtain ⟨gq, cq, eq, _, hq, _⟩ := Kd.R_form (Kd.S_R HO.out) (by rw [HL.out]; omega)
            injection eq with e1 _ _
            injection e1 with e1
            injection e1 with e1 _ _
            omega
           have hgb : w.heap.size ≤ g4 := by
            obtain ⟨gq, cq, eq, hq, _, _⟩ := Kd.R_form (Kd.S_R HO.out) (by rw [HL.out]; omega)
            injection eq with e1 _ _
            injection e1 with e1
            injection e1 with e1 _ _
            omega
           rw [HV.out] at hRr hH
           dsimp only at hRr hH
           have HRr := Aside0.mk hRr
           have HH := Aside0.mk hH
           have HNG := Aside0.mk (show ∀ k, okr k ∨ True ∧ wr.heap.size ≤ k → k ≠ g4 from fun k hk => hk.elim (hng k) (fun h2 => by have := h2.2; omega))
           have HGB := Aside0.mk hgb
           have pi : (0 ≤ (i : Int)) = True := eq_true (by omega)
           have qi : ((i : Int) < (m : Int)) = True := eq_true (by omega)
           have HIM := Aside0.mk hm
           clear hRr hH hng hgl hgb hm4 rl
           go_wp2_with (first
            | ((with_reducible refine gate_builtin (b := .append) (xs := #[.tmp 105, .tmp 107]) rfl ?_); at_builtin; refine Kd.R_append (Kd.int .i64) (w0 := w) w.heap.size rfl (.tmp 105) (.tmp 107) 24 2 (.int .i64 0) 8 rfl Tryd.underlying24 info2 rfl (by decide) (by omega) (.slice (some ⟨g9, 0, none⟩) r.length c9) r bst [.int .i64 bst] (fun k => okr k ∨ True ∧ wr.heap.size ≤ k) (fun _ => False) rfl rfl rfl (fun _ hk => hk.elim) (fun k hk => .inr ⟨trivial, hk⟩) (Kd.R_mono HRr.out (fun k hk => .inl hk)) HB.out (below_size HB.out) (by have := HRL.out; omega) ?_; intro v6 w6 ho6 hb6 hg6 hat6; have hH1 := Kd.H_grown (Kd.H_widen HH.out) hg6 (fun k hk => .inl (HRr.out.1 k hk)); obtain ⟨g6, c6, e6, -, -, -⟩ := Kd.R_form ho6 (by simp); obtain ⟨n6, hn6⟩ : ∃ n6, n6 = (r ++ [bst]).length := ⟨_, rfl⟩; rw [← hn6] at e6; subst e6; clear hn6; obtain ⟨hcS, hfS⟩ := spec_l12Table.hole hH1 HIM.out; have HO6 := Aside0.mk ho6; have HB6 := Aside0.mk hb6; have HH6 := Aside0.mk hH1; clear ho6 hb6 hg6 hat6 hH1))
           go_roundg k2
           case measure => omega
           case rel => exact ⟨j + 1, ys.set i ((.slice (some ⟨g6, 0, none⟩) n6 c6 : Value), r ++ [bst]), by first | rfl | (congr 1; omega), ⟨by omega⟩, ⟨by have := HM.out; omega⟩, ⟨by rw [List.length_set]; exact HL.out⟩, ⟨by
            rw [HTO.out, List.getD_eq_getElem?_getD, List.getElem?_set_self (by rw [HL.out]; omega), HR11.out]
            rfl⟩, ⟨by rw [HTO.out, List.map_set, HX.out, HR11.out]; exact spec_l12Table.set_last o r _ i HT.out⟩, ⟨spec_l12Table.back HH6.out HIM.out rfl HO6.out HNG.out⟩, ⟨HB6.out.setCell HGB.out _⟩⟩
          | succ k5 =>
           have hy : y < j := by have := HQ.out; omega
           have cy : decide ((y : Int) < (j : Int)) = true := decide_eq_true (by omega)
           obtain ⟨okr, hRr, -, -, -, -⟩ := spec_l12Table.lend HO.out i hm
           rw [HV.out] at hRr
           dsimp only at hRr
           have rl := HRL.out
           have py : (0 ≤ (y : Int)) = True := eq_true (by omega)
           have qy : ((y : Int) < (r.length : Int)) = True := eq_true (by omega)
           have hsub : (j : Int) - (y : Int) = ((j - y : Nat) : Int) := by omega
           have hwr : IntKind.i64.wrap ((j - y : Nat) : Int) = ((j - y : Nat) : Int) := by rw [i64_w]; unfold wrap64; omega
           have ps : (0 ≤ ((j - y : Nat) : Int)) = True := eq_true (by omega)
           have qs : (((j - y : Nat) : Int) < (r.length : Int)) = True := eq_true (by omega)
           have hcA := show wr.drew.cell? ⟨g9, y, none⟩ = some (.int .i64 (rd r (y : Int))) from (Kd.R_celln 0 hRr (y : Int) (by omega) (by omega)).1
           have hcB := show wr.drew.cell? ⟨g9, j - y, none⟩ = some (.int .i64 (rd r ((j - y : Nat) : Int))) from (Kd.R_celln 0 hRr ((j - y : Nat) : Int) (by omega) (by omega)).1
           have hcy := spec_l12Table.cy_step r j b1 y y1
           clear hRr rl
           go_wp2
           refine wp_region_still_lit mixed (by kernel_rfl) ?_
           repeat still_step
           refine wpStill_nil ?_
           change Exit.inBlock _ _ _ _ wr.drew
           have HO2 := Aside0.mk (Kd.S_drew HO.out)
           have HB2 := Aside0.mk (below_drew1 HB.out)
           generalize wr.drew = wr2 at HO2 HB2 ⊢
           go_wp2
           all_goals
            go_roundg k5
            case measure => omega
            case rel => exact ⟨y + 1, by first | rfl | (congr 1; omega), by rw [hcy]; congr 1; omega, ⟨by omega⟩, ⟨by have := HQ.out; omega⟩, HO2, HB2⟩
        | succ k4 =>
         have hx : x < i := by have := HQ.out; omega
         have cx : decide ((x : Int) < (i : Int)) = true := decide_eq_true (by omega)
         have hm4 := HM4.out
         have hrc := (Kd.S_reads' HO.out).2.2
         obtain ⟨A0, c0, hcA, hrA⟩ := spec_l12Table.at_V hrc x (by have := HL.out; omega)
         obtain ⟨B0, d0, hcB, hrB⟩ := spec_l12Table.at_V hrc (i - x) (by have := HL.out; omega)
         rw [HX.out, spec_l12Table.rr_left o r x (by rw [HT.out]; omega)] at hcA hrA
         rw [HX.out, spec_l12Table.rr_left o r (i - x) (by rw [HT.out]; omega)] at hcB hrB
         have lA := HTR.out x (by omega)
         have lB := HTR.out (i - x) (by omega)
         have hcx := spec_l12Table.cx_step o i j b0 x x1
         generalize spec_l12Table.rr o x = ra at hcA hrA lA hcx
         generalize spec_l12Table.rr o (i - x) = rb at hcB hrB lB hcx
         obtain ⟨aA, eA, hdA⟩ := Kd.at_int hrA (j : Int) (by omega) (by omega)
         obtain ⟨aB, eB, hdB⟩ := Kd.at_int hrB (j : Int) (by omega) (by omega)
         subst eA
         subst eB
         simp only [Int.toNat_natCast] at hdA hdB
         have px : (0 ≤ (x : Int)) = True := eq_true (by omega)
         have qx : ((x : Int) < (m : Int)) = True := eq_true (by omega)
         have pj : (0 ≤ (j : Int)) = True := eq_true (by omega)
         have qA : ((j : Int) < (ra.length : Int)) = True := eq_true (by omega)
         have qB : ((j : Int) < (rb.length : Int)) = True := eq_true (by omega)
         have hsub : (i : Int) - (x : Int) = ((i - x : Nat) : Int) := by omega
         have hwr : IntKind.i64.wrap ((i - x : Nat) : Int) = ((i - x : Nat) : Int) := by rw [i64_w]; unfold wrap64; omega
         have ps : (0 ≤ ((i - x : Nat) : Int)) = True := eq_true (by omega)
         have qs : (((i - x : Nat) : Int) < (m : Int)) = True := eq_true (by omega)
         have hcA := show wr.drew.cell? ⟨g4, x, none⟩ = _ from hcA
         have hcB := show wr.drew.cell? ⟨g4, i - x, none⟩ = _ from hcB
         have hdA := show wr.drew.cell? (aA.add j) = _ from hdA
         have hdB := show wr.drew.cell? (aB.add j) = _ from hdB
         clear hrc hrA hrB lA lB hm4
         go_wp2
         refine wp_region_still_lit mixed (by kernel_rfl) ?_
         repeat still_step
         refine wpStill_nil ?_
         change Exit.inBlock _ _ _ _ wr.drew
         have HO2 := Aside0.mk (Kd.S_drew HO.out)
         have HB2 := Aside0.mk (below_drew1 HB.out)
         generalize wr.drew = wr2 at HO2 HB2 ⊢
         go_wp2
         all_goals
          go_roundg k4
          case measure => omega
          case rel => exact ⟨x + 1, by first | rfl | (congr 1; omega), by rw [hcx]; congr 1; omega, ⟨by omega⟩, ⟨by have := HQ.out; omega⟩, HO2, HB2⟩
      | succ k3 =>
       have hn : n < l2.length := by have := HQ.out; omega
       have cn : decide ((n : Int) < ((l2.length : Nat) : Int)) = true := decide_eq_true (by omega)
       obtain ⟨ad, e1, hx0, hx1, hx2⟩ := at_T50 HR2.out (n : Int) (by omega) (by omega)
       subst e1
       replace hx0 := (HB.out.cell (World.block_lt_of_cell? _ _ hx0)).trans hx0
       replace hx1 := (HB.out.cell (World.block_lt_of_cell? _ _ hx1)).trans hx1
       replace hx2 := (HB.out.cell (World.block_lt_of_cell? _ _ hx2)).trans hx2
       have p1 : (0 ≤ (n : Int)) = True := eq_true (by omega)
       have hkd := l12Kd_step l2 (i : Int) (j : Int) n hn
       simp only [Int.toNat_natCast] at hx0 hx1 hx2
       generalize rd_T50 l2 (n : Int) = x at hx0 hx1 hx2 hkd
       by_cases c0 : x.f0 ≤ (i : Int)
       ·have c0b : decide (x.f0 ≤ (i : Int)) = true := decide_eq_true c0
        by_cases c1 : x.f1 ≤ (j : Int)
        ·have c1b : decide (x.f1 ≤ (j : Int)) = true := decide_eq_true c1
         rw [if_pos c0, if_pos c1] at hkd
         go_wp2
         all_goals
          go_roundg k3
          case measure => omega
          case rel => exact ⟨n + 1, by first | rfl | (congr 1; omega), by rw [hkd]; congr 1; omega, ⟨by have := HQ.out; omega⟩, HO, HB⟩
        ·have c1b : decide (x.f1 ≤ (j : Int)) = false := decide_eq_false c1
         rw [if_pos c0, if_neg c1] at hkd
         go_wp2
         go_roundg k3
         case measure => omega
         case rel => exact ⟨n + 1, by first | rfl | (congr 1; omega), by rw [hkd], ⟨by have := HQ.out; omega⟩, HO, HB⟩
       ·have c0b : decide (x.f0 ≤ (i : Int)) = false := decide_eq_false c0
        rw [if_neg c0] at hkd
        go_wp2
        go_roundg k3
        case measure => omega
        case rel => exact ⟨n + 1, by first | rfl | (congr 1; omega), by rw [hkd], ⟨by have := HQ.out; omega⟩, HO, HB⟩
def spec_l12Table.f (a0 : Int) (a1 : Int) (l2 : List S50) : Option (List (List Int)) := if 0 ≤ a0 ∧ a0 ≤ 40 ∧ 0 ≤ a1 ∧ a1 ≤ 40 ∧ l2.length ≤ 1000000 then some (spec_l12Table.tab l2 a1.toNat a0.toNat) else none
theorem spec_l12Table.calls (a0 : Int) (a1 : Int) (A2 : Option Addr) (c2 : Nat) (l2 : List S50) (r : List (List Int)) (w : World) (hr2 : Kd.C k50 w A2 l2.length l2) (hc2 : l2.length ≤ c2) (h : spec_l12Table.f a0 a1 l2 = some r) :
  Calls Tryd.prog 42 #[.int .i64 a0, .int .i64 a1, .slice A2 l2.length c2] w fun e w' => ∃ v0_ : Value, e = .returned (v0_) ∧ Kd.S (Kd.slice 2 (Kd.int .i64)) 24 w' w.heap.size (fun _ => True) v0_ r ∧ Below w.heap.size w w' := by
 unfold spec_l12Table.f at h
 by_cases c : 0 ≤ a0 ∧ a0 ≤ 40 ∧ 0 ≤ a1 ∧ a1 ≤ 40 ∧ l2.length ≤ 1000000
 ·rw [if_pos c] at h
  obtain rfl := Option.some.inj h
  obtain ⟨W, rfl⟩ := Int.eq_ofNat_of_zero_le c.1
  obtain ⟨H, rfl⟩ := Int.eq_ofNat_of_zero_le c.2.2.1
  refine (spec_l12Table.walk A2 c2 l2 W H w (by omega) (by omega) hr2 hc2 c.2.2.2.2).mono ?_
  rintro e w' ⟨v, rfl, ⟨xs, hx, ho⟩, hb⟩
  exact ⟨v, rfl, by have := spec_l12Table.VK_S ho; rw [hx] at this; exact this, hb⟩
 ·rw [if_neg c] at h
  cases h

def spec_BestPlan.f (k : Nat) (a0 : Int) (a1 : Int) (l2 : List (S50)) : Option (ByteArray × Int) := (spec_l12Code.f k a0 a1 l2).bind fun t252 => (if t252 = 0 then ((spec_l12Table.f a0 a1 l2).bind fun t253 => ((spec_l12Plan.f k t253 a0 a1 l2).bind fun t256 => (some (t256, 0)))) else (some ((⟨#[]⟩ : ByteArray), t252)))
theorem spec_BestPlan.mono : ∀ a0 a1 a2 k, LeO (spec_BestPlan.f k a0 a1 a2) (spec_BestPlan.f (k + 1) a0 a1 a2) := by
 intro a0 a1 a2 k
 unfold spec_BestPlan.f
 repeat' first
   | (with_reducible exact spec_l12Code.mono _ _ _ _)
   | (with_reducible exact spec_l12Plan.mono _ _ _ _ _)
   | (with_reducible exact LeO.refl _)
   | (with_reducible exact LeO.none _)
   | (with_reducible refine LeO.ite ?_ ?_)
   | (with_reducible refine LeO.bind ?_ (fun _ => ?_))
   | exact spec_l12Code.mono _ _ _ _
   | exact spec_l12Plan.mono _ _ _ _ _
   | exact LeO.none _
   | refine LeO.ite ?_ ?_
   | refine LeO.bind ?_ (fun _ => ?_)
set_option maxHeartbeats 8000000 in
set_option maxRecDepth 100000 in
theorem spec_BestPlan.calls (k : Nat) (a0 : Int) (a1 : Int) (A2 : Option Addr) (c2 : Nat) (l2 : List (S50)) (r1 : ByteArray) (r2 : Int) (w : World) (hr2 : Kd.C k50 w A2 l2.length l2) (hc2 : l2.length ≤ c2) (h : spec_BestPlan.f k a0 a1 l2 = some (r1, r2)) :
  Calls Tryd.prog 18 #[.int .i64 a0, .int .i64 a1, .slice A2 l2.length c2] w fun e w' => e = .returned (.tuple #[.string r1, .int .i64 r2]) ∧ Below w.heap.size w w' := by
 have HR2 := Aside0.mk hr2
 have HC2 := Aside0.mk hc2
 clear hr2 hc2
 have HB := Aside0.mk (Below.refl w.heap.size w)
 have H : ((spec_l12Code.f k a0 a1 l2).bind fun t252 => (if t252 = 0 then ((spec_l12Table.f a0 a1 l2).bind fun t253 => ((spec_l12Plan.f k t253 a0 a1 l2).bind fun t256 => (some (t256, 0)))) else (some ((⟨#[]⟩ : ByteArray), t252)))) = some (r1, r2) := h
 clear h
 replace H := Option.bind_eq_some_iff.mp H
 obtain ⟨t252, A40, H⟩ := H
 replace H : (if t252 = 0 then ((spec_l12Table.f a0 a1 l2).bind fun t253 => ((spec_l12Plan.f k t253 a0 a1 l2).bind fun t256 => (some (t256, 0)))) else (some ((⟨#[]⟩ : ByteArray), t252))) = some (r1, r2) := H
 have A4 := Aside0.mk A40
 clear A40
 by_cases c5 : t252 = 0
 ·rw [if_pos c5] at H
  have c5b0 : (t252 == 0) = true := beq_iff_eq.mpr c5
  have c5b1 : (t252 != 0) = false := bne_eq_false_iff_eq.mpr c5
  clear c5
  replace H := Option.bind_eq_some_iff.mp H
  obtain ⟨t253, A60, H⟩ := H
  replace H : ((spec_l12Plan.f k t253 a0 a1 l2).bind fun t256 => (some (t256, 0))) = some (r1, r2) := H
  have A6 := Aside0.mk A60
  clear A60
  replace H := Option.bind_eq_some_iff.mp H
  obtain ⟨t256, A70, H⟩ := H
  replace H : (some (t256, 0)) = some (r1, r2) := H
  have A7 := Aside0.mk A70
  clear A70
  simp only [Option.some.injEq, Prod.mk.injEq] at H
  obtain ⟨rfl, rfl⟩ := H
  go_enter Tryd.func18, Tryd.ntmps18
  go_wp2_with (first | ((with_reducible refine gate_callee (f := 36) rfl ?_); refine goesL_ (some 12) rfl rfl Tryd.func36 (by kernel_rfl) rfl #[.int .i64 a0, .int .i64 a1, .slice A2 l2.length c2] rfl (by (try simp only [List.map_toArray, List.map_cons, List.map_nil]); first | done | rfl | (simp only [List.length_drop, List.length_take]; rfl)) ?_; (with_reducible refine (spec_l12Code.calls k a0 a1 _ _ l2 t252 _ ?side1 ?side2 A4.out).mono ?_); (case side1 => repeat (first | exact HR2.out | (with_reducible refine Kd.C_alloc ?_ _) | (with_reducible refine Kd.C_drewN ?_ _) | (with_reducible refine Kd.C_drew ?_))); (case side2 => exact HC2.out); rintro e w8 ⟨rfl, hb⟩; refine ⟨_, rfl, ?_⟩; have n0_ := Aside0.mk (below_step (by repeat (first | (with_reducible first | exact HB.out | apply below_alloc | apply pw_below_drewN | apply below_drew1) | exact HB.out)) hb); clear HB; have HB := n0_; clear n0_; (try clear hb)) | ((with_reducible refine gate_callee (f := 42) rfl ?_); refine goesL_ (some 19) rfl rfl Tryd.func42 (by kernel_rfl) rfl #[.int .i64 a0, .int .i64 a1, .slice A2 l2.length c2] rfl (by (try simp only [List.map_toArray, List.map_cons, List.map_nil]); first | done | rfl | (simp only [List.length_drop, List.length_take]; rfl)) ?_; (with_reducible refine (spec_l12Table.calls a0 a1 _ _ l2 t253 _ ?side1 ?side2 A6.out).mono ?_); (case side1 => repeat (first | exact (Kd.C_below HR2.out HB.out) | (with_reducible refine Kd.C_alloc ?_ _) | (with_reducible refine Kd.C_drewN ?_ _) | (with_reducible refine Kd.C_drew ?_))); (case side2 => exact HC2.out); rintro e w9 ⟨v254, rfl, ho0, hb⟩; refine ⟨_, rfl, ?_⟩; have n0_ := Aside0.mk (Kd.S_lower ho0 (below_size (by repeat (first | (with_reducible first | exact HB.out | apply below_alloc | apply pw_below_drewN | apply below_drew1) | exact HB.out)))); have n1_ := Aside0.mk (below_step (by repeat (first | (with_reducible first | exact HB.out | apply below_alloc | apply pw_below_drewN | apply below_drew1) | exact HB.out)) hb); clear HB; have HO255 := n0_; have HB := n1_; clear n0_ n1_; (try clear hb); (try clear ho0); obtain ⟨Ao10, co10, eo10⟩ := Kd.S_slice HO255.out; subst eo10) | ((with_reducible refine gate_callee (f := 41) rfl ?_); refine goesL_ (some 23) rfl rfl Tryd.func41 (by kernel_rfl) rfl #[.slice Ao10 t253.length co10, .int .i64 a0, .int .i64 a1, .slice A2 l2.length c2] rfl (by (try simp only [List.map_toArray, List.map_cons, List.map_nil]); first | done | rfl | (simp only [List.length_drop, List.length_take]; rfl)) ?_; (with_reducible refine (spec_l12Plan.calls k _ _ t253 a0 a1 _ _ l2 t256 _ ?side1 ?side2 ?side3 ?side4 A7.out).mono ?_); (case side1 => repeat (first | exact (Kd.S_reads' HO255.out).2.2 | (with_reducible refine Kd.C_alloc ?_ _) | (with_reducible refine Kd.C_drewN ?_ _) | (with_reducible refine Kd.C_drew ?_))); (case side2 => exact (Kd.S_reads' HO255.out).2.1); (case side3 => repeat (first | exact (Kd.C_below HR2.out HB.out) | (with_reducible refine Kd.C_alloc ?_ _) | (with_reducible refine Kd.C_drewN ?_ _) | (with_reducible refine Kd.C_drew ?_))); (case side4 => exact HC2.out); rintro e w11 ⟨rfl, hb⟩; refine ⟨_, rfl, ?_⟩; have n0_ := Aside0.mk (Kd.S_below (by (with_reducible repeat (first | apply Kd.S_alloc | apply Kd.S_drewN | apply Kd.S_drew)); exact HO255.out) hb); have n1_ := Aside0.mk (below_step (by repeat (first | (with_reducible first | exact HB.out | apply below_alloc | apply pw_below_drewN | apply below_drew1) | exact HB.out)) hb); clear HO255; clear HB; have HO255 := n0_; have HB := n1_; clear n0_ n1_; (try clear hb)))
  go_ret2
  exact ⟨by first | rfl | (simp [errW_none, errW_some] <;> rfl) | (simp [*, errW_none, errW_some] <;> rfl), by repeat (first | (with_reducible first | exact HB.out | apply below_alloc | apply pw_below_drewN | apply below_drew1) | exact HB.out)⟩
 ·rw [if_neg c5] at H
  have c5b0 : (t252 == 0) = false := beq_eq_false_iff_ne.mpr c5
  have c5b1 : (t252 != 0) = true := bne_iff_ne.mpr c5
  simp only [Option.some.injEq, Prod.mk.injEq] at H
  obtain ⟨rfl, rfl⟩ := H
  go_enter Tryd.func18, Tryd.ntmps18
  go_wp2_with (first | ((with_reducible refine gate_callee (f := 36) rfl ?_); refine goesL_ (some 12) rfl rfl Tryd.func36 (by kernel_rfl) rfl #[.int .i64 a0, .int .i64 a1, .slice A2 l2.length c2] rfl (by (try simp only [List.map_toArray, List.map_cons, List.map_nil]); first | done | rfl | (simp only [List.length_drop, List.length_take]; rfl)) ?_; (with_reducible refine (spec_l12Code.calls k a0 a1 _ _ l2 t252 _ ?side1 ?side2 A4.out).mono ?_); (case side1 => repeat (first | exact HR2.out | (with_reducible refine Kd.C_alloc ?_ _) | (with_reducible refine Kd.C_drewN ?_ _) | (with_reducible refine Kd.C_drew ?_))); (case side2 => exact HC2.out); rintro e w12 ⟨rfl, hb⟩; refine ⟨_, rfl, ?_⟩; have n0_ := Aside0.mk (below_step (by repeat (first | (with_reducible first | exact HB.out | apply below_alloc | apply pw_below_drewN | apply below_drew1) | exact HB.out)) hb); clear HB; have HB := n0_; clear n0_; (try clear hb)))
  go_ret2
  exact ⟨by first | rfl | (simp [errW_none, errW_some] <;> rfl) | (simp [*, errW_none, errW_some] <;> rfl), by repeat (first | (with_reducible first | exact HB.out | apply below_alloc | apply pw_below_drewN | apply below_drew1) | exact HB.out)⟩

abbrev spec_l01Next.Inv (l : List Int) (a s : Int) : Prop := (∀ x ∈ l, 0 ≤ x ∧ x ≤ 255) ∧ (l.length : Int) ≤ 1099511627776 ∧ (0 ≤ a ∧ a ≤ l.length) ∧ (0 ≤ s ∧ s < 2147483647)
def spec_l01Next.V (l : List Int) (a s n : Int) : Int × Int × Int :=
 if n ≤ 1 then (0, a, s) else if a < l.length then (if n ≤ 256 ∧ (a + 1) % 2 = 0 then (rd l a % n, a + 1, (s * 48271 + 61) % 2147483647) else (((s * 48271 + 61) % 2147483647 / 31 + rd l a) % n, a + 1, (s * 48271 + 61) % 2147483647)) else ((s * 48271 + 61) % 2147483647 / 31 % n, a, (s * 48271 + 61) % 2147483647)
def spec_l01Next.f (s0_0 : List Int) (s0_1 : Int) (s0_2 : Int) (a1 : Int) : Option (Int × Int × Int) := if spec_l01Next.Inv s0_0 s0_1 s0_2 then some (spec_l01Next.V s0_0 s0_1 s0_2 a1) else none
theorem spec_l01Next.byte {l : List Int} (h : ∀ x ∈ l, 0 ≤ x ∧ x ≤ 255) (i : Int) : 0 ≤ rd l i ∧ rd l i ≤ 255 := by
 unfold rd
 rw [List.getD_eq_getElem?_getD]
 rcases Nat.lt_or_ge i.toNat l.length with hi | hi
 ·rw [List.getElem?_eq_getElem hi]
  exact h _ (List.getElem_mem hi)
 ·rw [List.getElem?_eq_none hi]
  decide
set_option maxHeartbeats 1000000 in
set_option maxRecDepth 100000 in
theorem spec_l01Next.small (g : Nat) (l : List Int) (a s n : Int) (w0 w : World) (hI : IsS82 w0 w g l a s) (hn : n ≤ 1) (hd : decide (n ≤ 1) = true) :
  Calls Tryd.prog 59 #[.pointer (some ⟨g, 0, none⟩), .int .i64 n] w fun e w' => e = .returned (.int .i64 0) ∧ ∃ m : Nat, w' = w.drewN m := by
 clear hI
 go_enter Tryd.func59, Tryd.ntmps59
 go_wp2
 go_ret
 exact ⟨rfl, 0, rfl⟩
set_option maxHeartbeats 1000000 in
set_option maxRecDepth 100000 in
theorem spec_l01Next.byteOnly (g : Nat) (l : List Int) (a s n : Int) (w0 w : World) (hI : IsS82 w0 w g l a s) (hB : Below w0.heap.size w0 w) (hn : 2 ≤ n) (ha0 : 0 ≤ a) (hl : (l.length : Int) ≤ 1099511627776) (hs0 : 0 ≤ s) (hs1 : s ≤ 2147483646)
  (hd1 : decide (n ≤ 1) = false) (ha1 : a < l.length) (hd2 : decide (a < (l.length : Int)) = true) (hb0 : 0 ≤ rd l a) (hb1 : rd l a ≤ 255) (hn2 : n ≤ 256) (hd3 : decide (n ≤ 256) = true) (hd4 : ((a + 1) % 2 == 0) = true) :
  Calls Tryd.prog 59 #[.pointer (some ⟨g, 0, none⟩), .int .i64 n] w fun e w' => e = .returned (.int .i64 (rd l a % n)) ∧ ∃ m1 m2 : Nat, w' = ((((w.setCell ⟨g, 2, none⟩ (.int .i64 ((s * 48271 + 61) % 2147483647))).drewN m1).setCell ⟨g, 1, none⟩ (.int .i64 (a + 1)))).drewN m2 := by
 obtain ⟨A0, c0, HG, hge, HS⟩ := hI
 obtain ⟨ad, e1, hx⟩ := Kd.at_int HS a ha0 ha1
 cases e1
 have hne : ad.block ≠ g := Nat.ne_of_lt (Nat.lt_of_lt_of_le (by have := World.block_lt_of_cell? _ _ hx; first | rwa [add_block] at this | exact this) hge)
 have hxw := pw_cell_below hB hx
 have hc0 := cellS82_0 HG
 have hc1 := cellS82_1 HG
 have hc2 := cellS82_2 HG
 have hf1 := blk_frozen HG 1
 have hf2 := blk_frozen HG 2
 have hcf : ∀ (W : World) (j : Nat) (u : Value), (W.setCell ⟨g, j, none⟩ u).cell? (ad.add a.toNat) = W.cell? (ad.add a.toNat) := fun W j u => cell_far (by rw [add_block]; exact hne) u
 clear HG HS hx hB hge hne
 go_enter Tryd.func59, Tryd.ntmps59
 go_wp2
 go_quiet (fail)
 go_wp2
 go_quiet (fail)
 go_wp2
 have hw1 : IntKind.i64.wrap (a + 1 - 1) = a := by rw [IntWalk.i64_in _ (by omega)]; omega
 go_quiet (fail)
 clear hw1
 go_wp2
 go_ret
 exact ⟨rfl, _, _, rfl⟩
set_option maxHeartbeats 1000000 in
set_option maxRecDepth 100000 in
theorem spec_l01Next.odd (g : Nat) (l : List Int) (a s n : Int) (w0 w : World) (hI : IsS82 w0 w g l a s) (hB : Below w0.heap.size w0 w) (hn : 2 ≤ n) (ha0 : 0 ≤ a) (hl : (l.length : Int) ≤ 1099511627776) (hs0 : 0 ≤ s) (hs1 : s ≤ 2147483646)
  (hd1 : decide (n ≤ 1) = false) (ha1 : a < l.length) (hd2 : decide (a < (l.length : Int)) = true) (hb0 : 0 ≤ rd l a) (hb1 : rd l a ≤ 255) (hn2 : n ≤ 256) (hd3 : decide (n ≤ 256) = true) (hd4 : ((a + 1) % 2 == 0) = false) :
  Calls Tryd.prog 59 #[.pointer (some ⟨g, 0, none⟩), .int .i64 n] w fun e w' => e = .returned (.int .i64 (((s * 48271 + 61) % 2147483647 / 31 + rd l a) % n)) ∧ ∃ m1 m2 : Nat, w' = ((((w.setCell ⟨g, 2, none⟩ (.int .i64 ((s * 48271 + 61) % 2147483647))).drewN m1).setCell ⟨g, 1, none⟩ (.int .i64 (a + 1)))).drewN m2 := by
 obtain ⟨A0, c0, HG, hge, HS⟩ := hI
 obtain ⟨ad, e1, hx⟩ := Kd.at_int HS a ha0 ha1
 cases e1
 have hne : ad.block ≠ g := Nat.ne_of_lt (Nat.lt_of_lt_of_le (by have := World.block_lt_of_cell? _ _ hx; first | rwa [add_block] at this | exact this) hge)
 have hxw := pw_cell_below hB hx
 have hc0 := cellS82_0 HG
 have hc1 := cellS82_1 HG
 have hc2 := cellS82_2 HG
 have hf1 := blk_frozen HG 1
 have hf2 := blk_frozen HG 2
 have hcf : ∀ (W : World) (j : Nat) (u : Value), (W.setCell ⟨g, j, none⟩ u).cell? (ad.add a.toNat) = W.cell? (ad.add a.toNat) := fun W j u => cell_far (by rw [add_block]; exact hne) u
 clear HG HS hx hB hge hne
 go_enter Tryd.func59, Tryd.ntmps59
 go_wp2
 go_quiet (fail)
 go_wp2
 go_quiet (fail)
 go_wp2
 go_ret
 exact ⟨rfl, _, 0, rfl⟩
set_option maxHeartbeats 1000000 in
set_option maxRecDepth 100000 in
theorem spec_l01Next.great (g : Nat) (l : List Int) (a s n : Int) (w0 w : World) (hI : IsS82 w0 w g l a s) (hB : Below w0.heap.size w0 w) (hn : 2 ≤ n) (ha0 : 0 ≤ a) (hl : (l.length : Int) ≤ 1099511627776) (hs0 : 0 ≤ s) (hs1 : s ≤ 2147483646)
  (hd1 : decide (n ≤ 1) = false) (ha1 : a < l.length) (hd2 : decide (a < (l.length : Int)) = true) (hb0 : 0 ≤ rd l a) (hb1 : rd l a ≤ 255) (hn2 : 257 ≤ n) (hd3 : decide (n ≤ 256) = false) :
  Calls Tryd.prog 59 #[.pointer (some ⟨g, 0, none⟩), .int .i64 n] w fun e w' => e = .returned (.int .i64 (((s * 48271 + 61) % 2147483647 / 31 + rd l a) % n)) ∧ ∃ m1 m2 : Nat, w' = ((((w.setCell ⟨g, 2, none⟩ (.int .i64 ((s * 48271 + 61) % 2147483647))).drewN m1).setCell ⟨g, 1, none⟩ (.int .i64 (a + 1)))).drewN m2 := by
 obtain ⟨A0, c0, HG, hge, HS⟩ := hI
 obtain ⟨ad, e1, hx⟩ := Kd.at_int HS a ha0 ha1
 cases e1
 have hne : ad.block ≠ g := Nat.ne_of_lt (Nat.lt_of_lt_of_le (by have := World.block_lt_of_cell? _ _ hx; first | rwa [add_block] at this | exact this) hge)
 have hxw := pw_cell_below hB hx
 have hc0 := cellS82_0 HG
 have hc1 := cellS82_1 HG
 have hc2 := cellS82_2 HG
 have hf1 := blk_frozen HG 1
 have hf2 := blk_frozen HG 2
 have hcf : ∀ (W : World) (j : Nat) (u : Value), (W.setCell ⟨g, j, none⟩ u).cell? (ad.add a.toNat) = W.cell? (ad.add a.toNat) := fun W j u => cell_far (by rw [add_block]; exact hne) u
 clear HG HS hx hB hge hne
 go_enter Tryd.func59, Tryd.ntmps59
 go_wp2
 go_quiet (fail)
 go_wp2
 go_quiet (fail)
 go_wp2
 go_ret
 exact ⟨rfl, _, 0, rfl⟩
set_option maxHeartbeats 1000000 in
set_option maxRecDepth 100000 in
theorem spec_l01Next.beyond (g : Nat) (l : List Int) (a s n : Int) (w0 w : World) (hI : IsS82 w0 w g l a s) (hB : Below w0.heap.size w0 w) (hn : 2 ≤ n) (ha0 : 0 ≤ a) (hl : (l.length : Int) ≤ 1099511627776) (hs0 : 0 ≤ s) (hs1 : s ≤ 2147483646)
  (hd1 : decide (n ≤ 1) = false) (ha1 : (l.length : Int) ≤ a) (hd2 : decide (a < (l.length : Int)) = false) :
  Calls Tryd.prog 59 #[.pointer (some ⟨g, 0, none⟩), .int .i64 n] w fun e w' => e = .returned (.int .i64 ((s * 48271 + 61) % 2147483647 / 31 % n)) ∧ ∃ m1 : Nat, w' = (w.setCell ⟨g, 2, none⟩ (.int .i64 ((s * 48271 + 61) % 2147483647))).drewN m1 := by
 obtain ⟨A0, c0, HG, hge, HS⟩ := hI
 have hc0 := cellS82_0 HG
 have hc1 := cellS82_1 HG
 have hc2 := cellS82_2 HG
 have hf1 := blk_frozen HG 1
 have hf2 := blk_frozen HG 2
 clear HG HS hB hge
 go_enter Tryd.func59, Tryd.ntmps59
 go_wp2
 go_quiet (fail)
 go_wp2
 go_ret
 exact ⟨rfl, _, rfl⟩
theorem spec_l01Next.post2 {g : Nat} {l : List Int} {a s : Int} {w0 w : World} (hI : IsS82 w0 w g l a s) (hB : Below w0.heap.size w0 w) (S b : Int) (m1 m2 : Nat) :
  IsS82 w0 (((((w.setCell ⟨g, 2, none⟩ (.int .i64 S)).drewN m1).setCell ⟨g, 1, none⟩ (.int .i64 b))).drewN m2) g l b S ∧ Below w0.heap.size w0 (((((w.setCell ⟨g, 2, none⟩ (.int .i64 S)).drewN m1).setCell ⟨g, 1, none⟩ (.int .i64 b))).drewN m2) ∧ KeepBut w (((((w.setCell ⟨g, 2, none⟩ (.int .i64 S)).drewN m1).setCell ⟨g, 1, none⟩ (.int .i64 b))).drewN m2) g none :=
 ⟨((((hI.set_2 S).drewN m1).set_1 b).drewN m2), pw_below_drewN (below_set (pw_below_drewN (below_set hB hI.ge) m1) hI.ge) m2, keep_drewN ((keep_drewN ((KeepBut.refl w g none).set_ 2 _) m1).set_ 1 _) m2⟩
theorem spec_l01Next.post1 {g : Nat} {l : List Int} {a s : Int} {w0 w : World} (hI : IsS82 w0 w g l a s) (hB : Below w0.heap.size w0 w) (S : Int) (m1 : Nat) :
  IsS82 w0 ((w.setCell ⟨g, 2, none⟩ (.int .i64 S)).drewN m1) g l a S ∧ Below w0.heap.size w0 ((w.setCell ⟨g, 2, none⟩ (.int .i64 S)).drewN m1) ∧ KeepBut w ((w.setCell ⟨g, 2, none⟩ (.int .i64 S)).drewN m1) g none :=
 ⟨(hI.set_2 S).drewN m1, pw_below_drewN (below_set hB hI.ge) m1, keep_drewN ((KeepBut.refl w g none).set_ 2 _) m1⟩
theorem spec_l01Next.calls (g : Nat) (s0_0 : List Int) (s0_1 : Int) (s0_2 : Int) (a1 : Int) (r1 : Int) (r2 : Int) (r3 : Int) (w0 w : World) (hI : IsS82 w0 w g s0_0 s0_1 s0_2) (hB : Below w0.heap.size w0 w) (h : spec_l01Next.f s0_0 s0_1 s0_2 a1 = some (r1, r2, r3)) :
  Calls Tryd.prog 59 #[.pointer (some ⟨g, 0, none⟩), .int .i64 a1] w fun e w' => e = .returned (.int .i64 r1) ∧ IsS82 w0 w' g s0_0 r2 r3 ∧ Below w0.heap.size w0 w' ∧ KeepBut w w' g none := by
 unfold spec_l01Next.f at h
 by_cases hC : spec_l01Next.Inv s0_0 s0_1 s0_2
 ·rw [if_pos hC] at h
  obtain ⟨hb, hl, ⟨ha0, ha1⟩, hs0, hs1⟩ := hC
  have hv := Option.some.inj h
  unfold spec_l01Next.V at hv
  have hbr := spec_l01Next.byte hb s0_1
  by_cases c1 : a1 ≤ 1
  ·rw [if_pos c1] at hv
   simp only [Prod.mk.injEq] at hv
   obtain ⟨rfl, rfl, rfl⟩ := hv
   refine (spec_l01Next.small g s0_0 s0_1 s0_2 a1 w0 w hI c1 (decide_eq_true c1)).mono ?_
   rintro e w' ⟨rfl, m, rfl⟩
   exact ⟨rfl, hI.drewN m, pw_below_drewN hB m, keep_drewN (KeepBut.refl w g none) m⟩
  ·rw [if_neg c1] at hv
   by_cases c2 : s0_1 < (s0_0.length : Int)
   ·rw [if_pos c2] at hv
    by_cases c3 : a1 ≤ 256
    ·by_cases c4 : (s0_1 + 1) % 2 = 0
     ·rw [if_pos ⟨c3, c4⟩] at hv
      simp only [Prod.mk.injEq] at hv
      obtain ⟨rfl, rfl, rfl⟩ := hv
      refine (spec_l01Next.byteOnly g s0_0 s0_1 s0_2 a1 w0 w hI hB (by omega) ha0 hl hs0 (by omega) (decide_eq_false c1) c2 (decide_eq_true c2) hbr.1 hbr.2 c3 (decide_eq_true c3) (beq_iff_eq.2 c4)).mono ?_
      rintro e w' ⟨rfl, m1, m2, rfl⟩
      exact ⟨rfl, spec_l01Next.post2 hI hB _ _ m1 m2⟩
     ·rw [if_neg (fun hh => c4 hh.2)] at hv
      simp only [Prod.mk.injEq] at hv
      obtain ⟨rfl, rfl, rfl⟩ := hv
      refine (spec_l01Next.odd g s0_0 s0_1 s0_2 a1 w0 w hI hB (by omega) ha0 hl hs0 (by omega) (decide_eq_false c1) c2 (decide_eq_true c2) hbr.1 hbr.2 c3 (decide_eq_true c3) (beq_eq_false_iff_ne.2 c4)).mono ?_
      rintro e w' ⟨rfl, m1, m2, rfl⟩
      exact ⟨rfl, spec_l01Next.post2 hI hB _ _ m1 m2⟩
    ·rw [if_neg (fun hh => c3 hh.1)] at hv
     simp only [Prod.mk.injEq] at hv
     obtain ⟨rfl, rfl, rfl⟩ := hv
     refine (spec_l01Next.great g s0_0 s0_1 s0_2 a1 w0 w hI hB (by omega) ha0 hl hs0 (by omega) (decide_eq_false c1) c2 (decide_eq_true c2) hbr.1 hbr.2 (by omega) (decide_eq_false c3)).mono ?_
     rintro e w' ⟨rfl, m1, m2, rfl⟩
     exact ⟨rfl, spec_l01Next.post2 hI hB _ _ m1 m2⟩
   ·rw [if_neg c2] at hv
    simp only [Prod.mk.injEq] at hv
    obtain ⟨rfl, rfl, rfl⟩ := hv
    refine (spec_l01Next.beyond g s0_0 s0_1 s0_2 a1 w0 w hI hB (by omega) ha0 hl hs0 (by omega) (decide_eq_false c1) (by omega) (decide_eq_false c2)).mono ?_
    rintro e w' ⟨rfl, m1, rfl⟩
    exact ⟨rfl, spec_l01Next.post1 hI hB _ m1⟩
 ·rw [if_neg hC] at h
  cases h

def spec_l01Pick.f (s0_0 : List Int) (s0_1 : Int) (s0_2 : Int) (l1 : List Int) : Option (Int × Int × Int) := (spec_l01Next.f s0_0 s0_1 s0_2 (l1.length : Int)).bind fun bt257 => (if 0 ≤ bt257.1 then (if bt257.1 < (l1.length : Int) then (some (rd l1 bt257.1, bt257.2.1, bt257.2.2)) else (none)) else (none))
set_option maxHeartbeats 8000000 in
set_option maxRecDepth 100000 in
theorem spec_l01Pick.calls (g : Nat) (s0_0 : List Int) (s0_1 : Int) (s0_2 : Int) (A1 : Option Addr) (c1 : Nat) (l1 : List Int) (r1 : Int) (r2 : Int) (r3 : Int) (w0 w : World) (hI : IsS82 w0 w g s0_0 s0_1 s0_2) (hB : Below w0.heap.size w0 w) (hr1 : Kd.C (Kd.int .i64) w A1 l1.length l1) (hc1 : l1.length ≤ c1) (hf1 : ∀ ad, A1 = some ad → 0 < l1.length → ad.block ≠ g) (h : spec_l01Pick.f s0_0 s0_1 s0_2 l1 = some (r1, r2, r3)) :
  Calls Tryd.prog 60 #[.pointer (some ⟨g, 0, none⟩), .slice A1 l1.length c1] w fun e w' => e = .returned (.int .i64 r1) ∧ IsS82 w0 w' g s0_0 r2 r3 ∧ Below w0.heap.size w0 w' ∧ KeepBut w w' g none := by
 have HR1 := Aside0.mk hr1
 have HC1 := Aside0.mk hc1
 clear hr1 hc1
 have HI0 := Aside0.mk hI
 have HK := Aside0.mk (KeepBut.refl w g none)
 have HL := Aside0.mk hB.size
 clear hI
 have HW0 := Aside0.mk hB.size
 have HB := Aside0.mk hB
 clear hB
 have H : ((spec_l01Next.f s0_0 s0_1 s0_2 (l1.length : Int)).bind fun bt257 => (if 0 ≤ bt257.1 then (if bt257.1 < (l1.length : Int) then (some (rd l1 bt257.1, bt257.2.1, bt257.2.2)) else (none)) else (none))) = some (r1, r2, r3) := h
 clear h
 replace H := Option.bind_eq_some_iff.mp H
 obtain ⟨⟨t257, t258, t259⟩, A30, H⟩ := H
 replace H : (if 0 ≤ t257 then (if t257 < (l1.length : Int) then (some (rd l1 t257, t258, t259)) else (none)) else (none)) = some (r1, r2, r3) := H
 have A3 := Aside0.mk A30
 clear A30
 by_cases c4 : 0 ≤ t257
 ·rw [if_pos c4] at H
  have c4b0 : decide (0 ≤ t257) = true := decide_eq_true c4
  clear c4
  by_cases c5 : t257 < (l1.length : Int)
  ·rw [if_pos c5] at H
   have c5b0 : decide (t257 < (l1.length : Int)) = true := decide_eq_true c5
   clear c5
   simp only [Option.some.injEq, Prod.mk.injEq] at H
   obtain ⟨rfl, rfl, rfl⟩ := H
   go_enter Tryd.func60, Tryd.ntmps60
   go_wp2_with (first | ((with_reducible refine gate_callee (f := 59) rfl ?_); refine goesL_ (some 9) rfl rfl Tryd.func59 (by kernel_rfl) rfl #[.pointer (some ⟨g, 0, none⟩), .int .i64 (l1.length : Int)] rfl (by (try simp only [List.map_toArray, List.map_cons, List.map_nil]); first | done | rfl | (simp only [List.length_drop, List.length_take]; rfl)) ?_; (with_reducible refine (spec_l01Next.calls g s0_0 s0_1 s0_2 (l1.length : Int) t257 t258 t259 w0 _ ?side1 ?side2 A3.out).mono ?_); (case side1 => repeat (first | (with_reducible first | exact HI0.out | apply IsS82.alloc | apply IsS82.drewN | apply IsS82.drew | apply IsS82.set_1 | apply IsS82.set_2) | exact HI0.out)); (case side2 => repeat (first | (with_reducible first | exact HB.out | apply below_alloc | apply pw_below_drewN | apply below_drew1 | refine below_set ?_ (IsS82.ge HI0.out)) | exact HB.out)); rintro e w6 ⟨rfl, hi, hb, hk⟩; refine ⟨_, rfl, ?_⟩; have n0_ := Aside0.mk (KeepBut.trans (by repeat (first | (with_reducible first | exact HK.out | apply KeepBut.set_ | apply keep_drewN | apply keep_drew | apply keep_alloc) | exact HK.out)) hk (.inl rfl)); have n1_ := Aside0.mk (hb); have n2_ := Aside0.mk (hi); clear HK; clear HB; clear HI0; have HK := n0_; have HB := n1_; have HI0 := n2_; clear n0_ n1_ n2_; (try clear hb); (try clear hk); (try clear hi); have p260 : 0 ≤ (t257 : Int) := of_decide_eq_true (by first | (with_reducible assumption) | assumption); have q260 : t257 < (l1.length : Int) := of_decide_eq_true (by first | (with_reducible assumption) | assumption); obtain ⟨ad260, e260, hx260_0⟩ := Kd.at_int HR1.out t257 p260 q260; cases e260; replace hx260_0 := keep_cell HK.out hx260_0 (by first | (rw [add_block]; exact hf1 _ rfl (by omega)) | exact hf1 _ rfl (by omega) | exact hf1 ad260 rfl (by omega)); replace p260 := eq_true p260; replace q260 := eq_true q260))
   go_ret
   exact ⟨by first | rfl | (simp [errW_none, errW_some] <;> rfl) | (simp [*, errW_none, errW_some] <;> rfl), by repeat (first | (with_reducible first | exact HI0.out | apply IsS82.alloc | apply IsS82.drewN | apply IsS82.drew | apply IsS82.set_1 | apply IsS82.set_2) | exact HI0.out), by repeat (first | (with_reducible first | exact HB.out | apply below_alloc | apply pw_below_drewN | apply below_drew1 | refine below_set ?_ (IsS82.ge HI0.out)) | exact HB.out), by repeat (first | (with_reducible first | exact HK.out | apply KeepBut.set_ | apply keep_drewN | apply keep_drew | apply keep_alloc) | exact HK.out)⟩
  ·rw [if_neg c5] at H
   exact absurd H (by simp)
 ·rw [if_neg c4] at H
  exact absurd H (by simp)

end Go.Proofs.YtomddpdfcdnaaaaDoor.PFnPlanValues
