import Derived.Test.YtomddpdfcdnaaaaDoorPFnBestPlansx0
import Derived.Test.YtomddpdfcdnaaaaDoorPFnBestPlansx1
import Derived.Test.YtomddpdfcdnaaaaDoorPFnBestPlansx2
import Derived.StillTactics
namespace Go.Proofs.YtomddpdfcdnaaaaDoor.PFnBestPlans
open Go.RowKit Go.Proofs.YtomddpdfcdnaaaaDoorW.PrintWords Go.Proofs.YtomddpdfcdnaaaaDoorW.PrintLast Go.Proofs.YtomddpdfcdnaaaaDoorW.PrintMore
attribute [local go_sem] max2_int min2_int max_two min_two max_three min_three max_four min_four   -- for this text's walks alone
set_option linter.unusedVariables false
set_option linter.unusedSimpArgs false

def l12Kd (l : List S50) (w h : Int) (n : Nat) : Int := (l.take n).foldl (fun b k => if k.f0 ≤ w then (if k.f1 ≤ h then max b k.f2 else b) else b) 0
theorem l12Kd_step (l : List S50) (w h : Int) (n : Nat) (hn : n < l.length) : l12Kd l w h (n + 1) = (if (rd_T50 l (n : Int)).f0 ≤ w then (if (rd_T50 l (n : Int)).f1 ≤ h then max (l12Kd l w h n) (rd_T50 l (n : Int)).f2 else l12Kd l w h n) else l12Kd l w h n) := by
 unfold l12Kd
 rw [List.take_succ_eq_append_getElem hn, List.foldl_append, List.foldl_cons, List.foldl_nil]
 have : rd_T50 l (n : Int) = l[n] := by simp [rd_T50, List.getD_eq_getElem?_getD, List.getElem?_eq_getElem hn]
 rw [this]
def spec_l12Table.rr (o : List (List Int)) (x : Nat) : List Int := o.getD x []
def spec_l12Table.cx (o : List (List Int)) (w h : Nat) (b : Int) : Nat → Int
 | 0 => b
 | n + 1 => max (spec_l12Table.cx o w h b n) (wrap64 (rd (spec_l12Table.rr o (n + 1)) (h : Int) + rd (spec_l12Table.rr o (w - (n + 1))) (h : Int)))
def spec_l12Table.cy (r : List Int) (h : Nat) (b : Int) : Nat → Int
 | 0 => b
 | n + 1 => max (spec_l12Table.cy r h b n) (wrap64 (rd r ((n + 1 : Nat) : Int) + rd r ((h - (n + 1) : Nat) : Int)))
def spec_l12Table.best (o : List (List Int)) (r : List Int) (l : List S50) (w h : Nat) : Int := spec_l12Table.cy r h (spec_l12Table.cx o w h (l12Kd l w h l.length) (w - 1)) (h - 1)
def spec_l12Table.row (o : List (List Int)) (l : List S50) (w : Nat) : Nat → List Int
 | 0 => [0]
 | n + 1 => spec_l12Table.row o l w n ++ [spec_l12Table.best o (spec_l12Table.row o l w n) l w (n + 1)]
def spec_l12Table.tab (l : List S50) (H : Nat) : Nat → List (List Int)
 | 0 => [List.replicate (H + 1) 0]
 | n + 1 => spec_l12Table.tab l H n ++ [spec_l12Table.row (spec_l12Table.tab l H n) l (n + 1) H]
theorem spec_l12Table.row_len (o : List (List Int)) (l : List S50) (w : Nat) : ∀ n, (spec_l12Table.row o l w n).length = n + 1
 | 0 => rfl
 | n + 1 => by rw [spec_l12Table.row, List.length_append, spec_l12Table.row_len o l w n]; rfl
theorem spec_l12Table.tab_len (l : List S50) (H : Nat) : ∀ n, (spec_l12Table.tab l H n).length = n + 1
 | 0 => rfl
 | n + 1 => by rw [spec_l12Table.tab, List.length_append, spec_l12Table.tab_len l H n]; rfl
theorem spec_l12Table.tab_row (l : List S50) (H : Nat) : ∀ n x, x ≤ n → (spec_l12Table.rr (spec_l12Table.tab l H n) x).length = H + 1
 | 0, x, hx => by
  have : x = 0 := by omega
  subst this
  exact List.length_replicate
 | n + 1, x, hx => by
  have ht := spec_l12Table.tab_len l H n
  unfold spec_l12Table.rr
  rw [spec_l12Table.tab, List.getD_eq_getElem?_getD]
  by_cases c : x ≤ n
  ·rw [List.getElem?_append_left (by omega)]
   have := spec_l12Table.tab_row l H n x c
   rwa [spec_l12Table.rr, List.getD_eq_getElem?_getD] at this
  ·have : x = n + 1 := by omega
   subst this
   rw [List.getElem?_append_right (by omega), ht, Nat.sub_self]
   exact spec_l12Table.row_len _ _ _ _
def spec_l12Table.VK : Kd (Value × List Int) where
 sz := 1
 E := [2]
 K := fun w x cs => cs = [x.1] ∧ ∃ A c, x.1 = .slice A x.2.length c ∧ x.2.length ≤ c ∧ (Kd.int .i64).C w A x.2.length x.2
 M := fun w base ok x cs => cs = [x.1] ∧ (Kd.int .i64).R 2 w base ok x.1 x.2
 K_len := by
  rintro w x cs ⟨rfl, _⟩
  rfl
 K_one := by
  rintro w x cs ⟨rfl, A, c, e, _⟩ u hu
  rw [List.mem_singleton.1 hu, e]
  rfl
 K_below := by
  rintro w w1 x cs hb ⟨e0, A, c, e, hl, hr⟩
  exact ⟨e0, A, c, e, hl, Kd.C_below hr hb⟩
 K_of_M := by
  rintro w base ok x cs ⟨e0, h⟩
  obtain ⟨A, c, e, hl, hr⟩ := Kd.R_reads h
  exact ⟨e0, A, c, e, hl, hr⟩
 M_mono := by
  rintro w base ok ok' x cs hok ⟨e0, h⟩
  exact ⟨e0, Kd.R_mono h hok⟩
 M_bound := by
  rintro w base ok x cs ⟨e0, h⟩
  exact ⟨e0, Kd.R_bound h⟩
 M_move := by
  rintro w w1 base ok x cs hm ⟨e0, h⟩
  exact ⟨e0, Kd.R_move h hm⟩
 M_lower := by
  rintro w base base' ok x cs hb ⟨e0, h⟩
  exact ⟨e0, Kd.R_lower h hb⟩
theorem spec_l12Table.VK_S {e : Nat} {w : World} {base : Nat} {ok : Nat → Prop} {v : Value} {xs : List (Value × List Int)} (h : Kd.S spec_l12Table.VK e w base ok v xs) : Kd.S (Kd.slice 2 (Kd.int .i64)) e w base ok v (xs.map Prod.snd) := by
 obtain ⟨f, h0, inner, ho, hr⟩ := h
 rw [List.length_zipIdx] at ho
 refine ⟨f, h0, inner, by rw [List.length_zipIdx, List.length_map]; exact ho, by have := hr.1; rw [List.length_zipIdx] at this; rw [List.length_zipIdx, List.length_map]; exact this, fun j p hj => ?_⟩
 rw [List.getElem?_zipIdx, List.getElem?_map] at hj
 obtain ⟨q, hq, rfl⟩ := Option.map_eq_some_iff.1 hj
 obtain ⟨x, hx, rfl⟩ := Option.map_eq_some_iff.1 hq
 obtain ⟨e1, h1⟩ := hr.2 j (x, 0 + j) (by rw [List.getElem?_zipIdx, hx]; rfl)
 exact ⟨x.1, e1, h1⟩
theorem spec_l12Table.rr_map (xs : List (Value × List Int)) (x : Nat) : spec_l12Table.rr (xs.map Prod.snd) x = (xs.getD x (.slice none 0 0, [])).2 := by
 unfold spec_l12Table.rr
 simp only [List.getD_eq_getElem?_getD, List.getElem?_map]
 cases xs[x]? <;> rfl
theorem spec_l12Table.at_V {w : World} {g n : Nat} {xs : List (Value × List Int)} (h : spec_l12Table.VK.C w (some ⟨g, 0, none⟩) n xs) (x : Nat) (hx : x < n) : ∃ A0 c0, w.cell? ⟨g, x, none⟩ = some (.slice A0 (spec_l12Table.rr (xs.map Prod.snd) x).length c0) ∧ (Kd.int .i64).C w A0 (spec_l12Table.rr (xs.map Prod.snd) x).length (spec_l12Table.rr (xs.map Prod.snd) x) := by
 obtain ⟨ad, c, e, _, ⟨e1, A, c0, e2, _, hr⟩, hc⟩ := Kd.C_get h (.slice none 0 0, []) (x : Int) (by omega) (by omega)
 have hq := hc 0 (xs.getD x (.slice none 0 0, [])).1 (by rw [e1]; rfl)
 injection e with e
 subst e
 rw [spec_l12Table.rr_map]
 refine ⟨A, c0, ?_, hr⟩
 rw [add_at, Nat.zero_add] at hq
 have e3 : (xs.getD x (.slice none 0 0, [])).1 = .slice A (xs.getD x (.slice none 0 0, [])).2.length c0 := e2
 rw [← e3, ← hq]
 show _ = w.cell? ⟨g, (x : Int).toNat * 1 + 0, none⟩
 rw [Int.toNat_natCast, Nat.mul_one, Nat.add_zero]
theorem spec_l12Table.lend {W : World} {base g cap n : Nat} {xs : List (Value × List Int)} (h : Kd.S spec_l12Table.VK 24 W base (fun _ => True) (.slice (some ⟨g, 0, none⟩) n cap) xs) (i : Nat) (hi : i < n) :
  ∃ oki : Nat → Prop, (Kd.int .i64).R 2 W base oki (xs.getD i (.slice none 0 0, [])).1 (xs.getD i (.slice none 0 0, [])).2 ∧ W.cell? ⟨g, i, none⟩ = some (xs.getD i (.slice none 0 0, [])).1 ∧ (∀ k, oki k → k ≠ g) ∧ W.frozen? ⟨g, i, none⟩ = false ∧
   Kd.H spec_l12Table.VK 24 W base (fun _ => True) (.slice (some ⟨g, 0, none⟩) n cap) xs (i : Int) oki [(xs.getD i (.slice none 0 0, [])).1] := by
 obtain ⟨oki, c, hcl, ⟨e1, hR⟩, hcc, hfr, hok, hH⟩ := Kd.S_elem h (.slice none 0 0, []) (i : Int) (by omega) (by omega)
 have e1 : c = [(xs.getD i (.slice none 0 0, [])).1] := e1
 subst e1
 refine ⟨oki, hR, ?_, fun k hk => (hok k hk).2, ?_, hH⟩
 ·have := hcc 0 _ rfl
  rw [← this]
  show W.cell? ⟨g, i, none⟩ = W.cell? ⟨g, (i : Int).toNat * 1 + 0, none⟩
  rw [Int.toNat_natCast, Nat.mul_one, Nat.add_zero]
 ·have := hfr 0
  rw [← this]
  show W.frozen? ⟨g, i, none⟩ = W.frozen? ⟨g, (i : Int).toNat * 1 + 0, none⟩
  rw [Int.toNat_natCast, Nat.mul_one, Nat.add_zero]
theorem spec_l12Table.back {W : World} {base g cap n : Nat} {xs : List (Value × List Int)} {i : Nat} {oki : Nat → Prop} {u : Value} (hH : Kd.H spec_l12Table.VK 24 W base (fun _ => True) (.slice (some ⟨g, 0, none⟩) n cap) xs (i : Int) oki [u]) (hi : i < n) {v : Value} {r : List Int} (hv : v.oneCell' = true) (hR : (Kd.int .i64).R 2 W base oki v r) (hg : ∀ k, oki k → k ≠ g) :
  Kd.S spec_l12Table.VK 24 (W.setCell ⟨g, i, none⟩ v) base (fun _ => True) (.slice (some ⟨g, 0, none⟩) n cap) (xs.set i (v, r)) := by
 obtain ⟨h2, h3⟩ := Kd.H_seg hH (by omega) (by omega) (seg := [v]) (j := 0) (by show 0 + 1 ≤ 1; omega) (fun q hq => by rw [List.mem_singleton.1 hq]; exact hv)
 have e : W.setCells g ((i : Int).toNat * spec_l12Table.VK.sz + 0) [v] = W.setCell ⟨g, i, none⟩ v := by
  show W.setCells g ((i : Int).toNat * 1 + 0) [v] = _
  rw [Int.toNat_natCast, Nat.mul_one, Nat.add_zero]
  rfl
 rw [e] at h2 h3
 have h4 := Kd.H_back h2 (x' := (v, r)) (okp := oki) ⟨rfl, Kd.R_step hR (fun k hk hlt => h3.block k hlt (fun he => hg k hk (by injection he)))⟩ (fun _ hk => hk)
 rwa [Int.toNat_natCast] at h4
theorem spec_l12Table.hole {W : World} {base g cap n : Nat} {xs : List (Value × List Int)} {i : Nat} {oki : Nat → Prop} {u : Value} (hH : Kd.H spec_l12Table.VK 24 W base (fun _ => True) (.slice (some ⟨g, 0, none⟩) n cap) xs (i : Int) oki [u]) (hi : i < n) : W.cell? ⟨g, i, none⟩ = some u ∧ W.frozen? ⟨g, i, none⟩ = false := by
 obtain ⟨rows, _, hraw, _, _, hcc, _⟩ := Kd.H_raw hH (by omega) (by omega)
 obtain ⟨_, _, _, _, hfr⟩ := Kd.R_elem hraw [] (i : Int) (by omega) (by omega)
 have e : (⟨g, i, none⟩ : Addr) = ⟨g, (i : Int).toNat * 1 + 0, none⟩ := by rw [Int.toNat_natCast, Nat.mul_one, Nat.add_zero]
 rw [e]
 exact ⟨hcc 0 u rfl, hfr 0⟩
theorem spec_l12Table.rr_left (o : List (List Int)) (r : List Int) (x : Nat) (hx : x < o.length) : spec_l12Table.rr (o ++ [r]) x = spec_l12Table.rr o x := by
 unfold spec_l12Table.rr
 rw [List.getD_eq_getElem?_getD, List.getD_eq_getElem?_getD, List.getElem?_append_left hx]
theorem spec_l12Table.cx_step (o : List (List Int)) (w h : Nat) (b : Int) (x : Nat) (hx : 1 ≤ x) : spec_l12Table.cx o w h b (x + 1 - 1) = max (spec_l12Table.cx o w h b (x - 1)) (IntKind.i64.wrap (rd (spec_l12Table.rr o x) (h : Int) + rd (spec_l12Table.rr o (w - x)) (h : Int))) := by
 obtain ⟨m, rfl⟩ : ∃ m, x = m + 1 := ⟨x - 1, by omega⟩
 rw [i64_w]
 rfl
theorem spec_l12Table.cy_step (r : List Int) (h : Nat) (b : Int) (y : Nat) (hy : 1 ≤ y) : spec_l12Table.cy r h b (y + 1 - 1) = max (spec_l12Table.cy r h b (y - 1)) (IntKind.i64.wrap (rd r (y : Int) + rd r ((h - y : Nat) : Int))) := by
 obtain ⟨m, rfl⟩ : ∃ m, y = m + 1 := ⟨y - 1, by omega⟩
 rw [i64_w]
 rfl
theorem spec_l12Table.row_step (o : List (List Int)) (l : List S50) (w j : Nat) (hj : 1 ≤ j) : spec_l12Table.row o l w (j + 1 - 1) = spec_l12Table.row o l w (j - 1) ++ [spec_l12Table.best o (spec_l12Table.row o l w (j - 1)) l w j] := by
 obtain ⟨m, rfl⟩ : ∃ m, j = m + 1 := ⟨j - 1, by omega⟩
 rfl
theorem spec_l12Table.set_last (o : List (List Int)) (r r' : List Int) (i : Nat) (hi : o.length = i) : (o ++ [r]).set i r' = o ++ [r'] := by
 subst hi
 induction o with
 | nil => rfl
 | cons x o ih => simp
set_option maxHeartbeats 8000000 in
set_option maxRecDepth 100000 in
theorem spec_l12Table.walk (A2 : Option Addr) (c2 : Nat) (l2 : List S50) (W H : Nat) (w : World) (hW : W ≤ 40) (hH : H ≤ 40) (hr2 : Kd.C k50 w A2 l2.length l2) (hc2 : l2.length ≤ c2) (hl : l2.length ≤ 1000000) :
  Calls Tryd.prog 42 #[.int .i64 W, .int .i64 H, .slice A2 l2.length c2] w fun e w' => ∃ v, e = .returned v ∧ (∃ xs : List (Value × List Int), xs.map Prod.snd = spec_l12Table.tab l2 H W ∧ Kd.S spec_l12Table.VK 24 w' w.heap.size (fun _ => True) v xs) ∧ Below w.heap.size w w' := by
 have mixed : Tryd.prog.follows .mixedOrders = true := by kernel_rfl
 have HR2 := Aside0.mk hr2
 have HB0 := Aside0.mk (Below.refl w.heap.size w)
 clear hr2
 have hH1 : IntKind.i64.wrap ((H : Int) + 1) = (H : Int) + 1 := by rw [i64_w]; unfold wrap64; omega
 have HR0 := Aside0.mk (show List.replicate ((H : Int) + 1).toNat (0 : Int) = List.replicate (H + 1) 0 from by congr 1)
 go_enter Tryd.func42, Tryd.ntmps42
 go_wp2_with (first
  | ((with_reducible refine gate_dst (N := 17) rfl ?_); refine Kd.R_make (Kd.int .i64) (w0 := w) w.heap.size 2 rfl (N := 17) rfl 24 _ _ rfl ((H : Int) + 1) (by first | rfl | (go_simp; done)) (by first | rfl | (go_simp; done)) Tryd.underlying24 (.int .i64 0) 8 info2 rfl (by decide) (by omega) (0 : Int) (ok := fun _ => True) (okp := fun _ => True) rfl (fun _ hk => hk) trivial (by omega) (by omega) HB0.out (Nat.le_refl _) ?_; intro v1 w1 ho1 hb1 hg1 hn1; rw [HR0.out] at ho1; obtain ⟨g1, c1, e1, _, _, _⟩ := Kd.R_form ho1 (by simp); subst e1; have HO1 := Aside0.mk ho1; have HB1 := Aside0.mk hb1; clear ho1 hb1 hg1 hn1)
  | ((with_reducible refine gate_dst (N := 18) rfl ?_); refine Kd.S_lits spec_l12Table.VK (w0 := w) w.heap.size 24 ?hg (N := 18) ?hd (xs := [(.slice (some ⟨g1, 0, none⟩) (List.replicate (H + 1) (0 : Int)).length c1, List.replicate (H + 1) (0 : Int))]) (inner := [.slice (some ⟨g1, 0, none⟩) (List.replicate (H + 1) (0 : Int)).length c1]) (ok := fun _ => True) (fun j k => j = 0 ∧ k = g1) ?hr rfl ?hrep (fun i j k h1 h2 => by omega) (fun _ _ _ => trivial) trivial HB1.out (below_size HB1.out) (by simp) ?_; (case hd => rfl); (case hg => rfl); (case hr => first | (go_simp; done) | (go_simp; rfl)); (case hrep => (intro j x hx; have hj : j = 0 := (by have := (List.getElem?_eq_some_iff.1 hx).1; simp at this; exact this); subst hj; obtain rfl := Option.some.inj hx; exact ⟨rfl, Kd.R_mono (Kd.R_tight rfl HO1.out) (fun k hk => ⟨rfl, by simpa [Value.ownBlock] using hk⟩)⟩)); intro v2 w2 ho2 hb2 hg2 hn2; have HO2 := Aside0.mk ho2; have HB2 := Aside0.mk hb2; clear ho2 hb2 hg2 hn2))
 clear HO1 HB1 HB0
 go_loopg [7, 8] W (fun gg s7 s8 wr => ∃ (i : Nat) (xs : List (Value × List Int)), s8 = .int .i64 (i : Int) ∧ Aside0 (1 ≤ i) ∧ Aside0 (i + gg = W + 1) ∧ Aside0 (xs.map Prod.snd = spec_l12Table.tab l2 H (i - 1)) ∧ Aside0 (Kd.S spec_l12Table.VK 24 wr w.heap.size (fun _ => True) s7 xs) ∧ Aside0 (Below w.heap.size w wr))
 case atStart => exact ⟨1, _, rfl, ⟨by omega⟩, ⟨by omega⟩, ⟨rfl⟩, HO2, HB2⟩
 case round =>
  clear HO2 HB2
  obtain ⟨i, xs, rfl, H1, HN, HX, HO, HB⟩ := hrel
  cases gk with
  | zero =>
   have hiW : i = W + 1 := by have := HN.out; omega
   subst hiW
   have cb : decide (((W + 1 : Nat) : Int) ≤ (W : Int)) = false := decide_eq_false (by omega)
   go_wp2
   go_ret
   exact ⟨_, rfl, ⟨xs, HX.out, HO.out⟩, HB.out⟩
  | succ k1 =>
   have hi : i ≤ W := by have := HN.out; omega
   have h1 := H1.out
   have cb : decide ((i : Int) ≤ (W : Int)) = true := decide_eq_true (by omega)
   have hxl : xs.length = i := by
    have := congrArg List.length HX.out
    rw [List.length_map, spec_l12Table.tab_len] at this
    omega
   obtain ⟨g7, c7, e7, hb7, hlt7, _⟩ := Kd.R_form (Kd.S_R HO.out) (by omega)
   subst e7
   have HXL := Aside0.mk hxl
   clear hxl hb7 hlt7
   go_wp2_with (first
    | ((with_reducible refine gate_dst (N := 24) rfl ?_); refine Kd.R_lit (Kd.int .i64) (w0 := w) w.heap.size 2 ?hg (N := 24) ?hd (xs := [(0 : Int)]) (inner := [.int .i64 0]) (ok := fun _ => True) (okp := fun _ => True) ?hr ?hp (fun _ hk => hk) trivial HB.out (below_size HB.out) (by simp) ?_; (case hd => rfl); (case hg => rfl); (case hr => first | (go_simp; done) | (go_simp; rfl)); (case hp => exact Reps.snoc (ps := []) (cs := []) (Reps.none _ _) (p := (0 : Int)) (c := [.int .i64 0]) rfl rfl); intro v3 w3 ho3 hb3 hg3 hn3; obtain ⟨g3, c3, e3, _, _, _⟩ := Kd.R_form ho3 (by simp); subst e3; have HO3 := Aside0.mk ho3; have HB3 := Aside0.mk hb3; have HS3 := Aside0.mk (Kd.S_elder' HO.out (v := .slice (some ⟨g3, 0, none⟩) [(0 : Int)].length c3) (fun k hk => by obtain ⟨b, hb, hle⟩ := hn3; rw [hb] at hk; injection hk with hk; omega) (Below.grown (Below.refl _ _) hg3 (Nat.le_refl _) (fun k_ hk_ => by cases hk_))); clear ho3 hb3 hg3 hn3)
    | ((with_reducible refine gate_builtin (b := .append) (xs := #[.tmp 25, .tmp 27]) rfl ?_); at_builtin; refine Kd.S_append spec_l12Table.VK (w0 := w) w.heap.size rfl (.tmp 25) (.tmp 27) 57 24 (.slice none 0 0) 24 rfl Tryd.underlying57 info24 rfl (by decide) (by omega) (.slice (some ⟨g7, 0, none⟩) xs.length c7) xs (.slice (some ⟨g3, 0, none⟩) [(0 : Int)].length c3, [(0 : Int)]) [.slice (some ⟨g3, 0, none⟩) [(0 : Int)].length c3] (fun _ => True) (fun k_ => k_ = g3) rfl rfl ?aP ?aK (fun _ _ => trivial) ?aO HB3.out (below_size HB3.out) ?aL ?_; (case aP => exact ⟨rfl, Kd.R_mono (Kd.R_tight rfl HO3.out) (fun k hk => by have : g3 = k := (by simpa [Value.ownBlock] using hk.symm); exact this.symm)⟩); (case aK => exact (fun k hk => ⟨trivial, fun he => ((Kd.S_R HS3.out).1 k he.symm).2 (by rw [hk]; simp [Value.ownBlock])⟩)); (case aO => exact Kd.S_mono HS3.out (fun k hk => ⟨trivial, fun e => hk.2 (by rw [e]; simp [Value.ownBlock])⟩)); (case aL => (have := HXL.out; have := hi; omega)); intro v4 w4 ho4 hb4 hg4 hat4; have HO4 := Aside0.mk ho4; have HB4 := Aside0.mk hb4; clear ho4 hb4 hg4 hat4))
   clear HO3 HB3 HS3 HB HO
   obtain ⟨g4, c4, e4, hb4, hlt4, _⟩ := Kd.R_form (Kd.S_R HO4.out) (by simp)
   obtain ⟨m, hm⟩ : ∃ m, m = (xs ++ [((.slice (some ⟨g3, 0, none⟩) [(0 : Int)].length c3 : Value), [(0 : Int)])]).length := ⟨_, rfl⟩
   rw [← hm] at e4
   subst e4
   have HM4 := Aside0.mk (show m = i + 1 from by rw [hm, List.length_append, HXL.out]; rfl)
   clear hb4 hlt4 hm
   have HX4 := Aside0.mk (show (xs ++ [((.slice (some ⟨g3, 0, none⟩) [(0 : Int)].length c3 : Value), [(0 : Int)])]).map Prod.snd = spec_l12Table.tab l2 H (i - 1) ++ [spec_l12Table.row (spec_l12Table.tab l2 H (i - 1)) l2 i 0] from by rw [List.map_append, HX.out]; rfl)
   have HL4 := Aside0.mk (show (xs ++ [((.slice (some ⟨g3, 0, none⟩) [(0 : Int)].length c3 : Value), [(0 : Int)])]).length = i + 1 from by rw [List.length_append, HXL.out]; rfl)
   have HV4 := Aside0.mk (show (xs ++ [((.slice (some ⟨g3, 0, none⟩) [(0 : Int)].length c3 : Value), [(0 : Int)])]).getD i (.slice none 0 0, []) = ((.slice (some ⟨g3, 0, none⟩) [(0 : Int)].length c3 : Value), [(0 : Int)]) from by rw [List.getD_eq_getElem?_getD, List.getElem?_append_right (by rw [HXL.out]; exact Nat.le_refl _), HXL.out, Nat.sub_self]; rfl)
   generalize xs ++ [((.slice (some ⟨g3, 0, none⟩) [(0 : Int)].length c3 : Value), [(0 : Int)])] = ys at HO4 HX4 HL4 HV4 ⊢
   go_loopg [9, 10] H (fun gg s9 s10 wr => ∃ (j : Nat) (ys : List (Value × List Int)), s10 = .int .i64 (j : Int) ∧ Aside0 (1 ≤ j) ∧ Aside0 (j + gg = H + 1) ∧ Aside0 (ys.length = i + 1) ∧ Aside0 (ys.getD i (.slice none 0 0, []) = (s9, spec_l12Table.row (spec_l12Table.tab l2 H (i - 1)) l2 i (j - 1))) ∧ Aside0 (ys.map Prod.snd = spec_l12Table.tab l2 H (i - 1) ++ [spec_l12Table.row (spec_l12Table.tab l2 H (i - 1)) l2 i (j - 1)]) ∧ Aside0 (Kd.S spec_l12Table.VK 24 wr w.heap.size (fun _ => True) (.slice (some ⟨g4, 0, none⟩) m c4) ys) ∧ Aside0 (Below w.heap.size w wr))
   case atStart => exact ⟨1, ys, rfl, ⟨by omega⟩, ⟨by omega⟩, HL4, HV4, HX4, HO4, HB4⟩
   case round =>
    clear HO4 HX4 HL4 HV4 HB4 HX HXL ys
    obtain ⟨j, ys, rfl, J1, HM, HL, HV, HX, HO, HB⟩ := hrel
    cases gk with
    | zero =>
     have hj : j = H + 1 := by have := HM.out; omega
     subst hj
     have cj : decide (((H + 1 : Nat) : Int) ≤ (H : Int)) = false := decide_eq_false (by omega)
     go_wp2
     go_roundg k1
     case measure => omega
     case rel => exact ⟨i + 1, ys, by first | rfl | (congr 1; omega), ⟨by omega⟩, ⟨by have := HN.out; omega⟩, ⟨by
      rw [HX.out]
      obtain ⟨m, rfl⟩ : ∃ m, i = m + 1 := ⟨i - 1, by omega⟩
      rfl⟩, HO, HB⟩
    | succ k2 =>
     have hj : j ≤ H := by have := HM.out; omega
     have j1 := J1.out
     have hm : i < m := by have := HM4.out; omega
     obtain ⟨okr, hRr, -, -, -, -⟩ := spec_l12Table.lend HO.out i hm
     rw [HV.out] at hRr
     dsimp only at hRr
     have HRL := Aside0.mk (show (spec_l12Table.row (spec_l12Table.tab l2 H (i - 1)) l2 i (j - 1)).length = j from by rw [spec_l12Table.row_len]; omega)
     obtain ⟨g9, c9, e9, -, -, -⟩ := Kd.R_form hRr (by have := HRL.out; omega)
     subst e9
     clear hRr okr
     have HR9 := Aside0.mk (show spec_l12Table.row (spec_l12Table.tab l2 H (i - 1)) l2 i (j + 1 - 1) = _ from spec_l12Table.row_step _ l2 i j j1)
     generalize spec_l12Table.row (spec_l12Table.tab l2 H (i - 1)) l2 i (j - 1) = r at HV HX HRL HR9 ⊢
     have cj : decide ((j : Int) ≤ (H : Int)) = true := decide_eq_true (by omega)
     go_wp2
     go_loopg [11, 12] l2.length (fun gg s11 s12 wr => ∃ n : Nat, s12 = .int .i64 (n : Int) ∧ s11 = .int .i64 (l12Kd l2 (i : Int) (j : Int) n) ∧ Aside0 (n + gg = l2.length) ∧ Aside0 (Kd.S spec_l12Table.VK 24 wr w.heap.size (fun _ => True) (.slice (some ⟨g4, 0, none⟩) m c4) ys) ∧ Aside0 (Below w.heap.size w wr))
     case atStart => exact ⟨0, rfl, rfl, ⟨by omega⟩, HO, HB⟩
     case round =>
      clear HO HB
      obtain ⟨n, rfl, rfl, HQ, HO, HB⟩ := hrel
      cases gk with
      | zero =>
       have hn : n = l2.length := by have := HQ.out; omega
       subst hn
       have cn : decide (((l2.length : Nat) : Int) < ((l2.length : Nat) : Int)) = false := decide_eq_false (by omega)
       go_wp2
       clear HQ
       generalize hb0 : l12Kd l2 (i : Int) (j : Int) l2.length = b0
       have HT := Aside0.mk (show (spec_l12Table.tab l2 H (i - 1)).length = i from by rw [spec_l12Table.tab_len]; omega)
       have HTR := Aside0.mk (show ∀ x, x < i → (spec_l12Table.rr (spec_l12Table.tab l2 H (i - 1)) x).length = H + 1 from fun x hx => spec_l12Table.tab_row l2 H _ x (by omega))
       generalize hto : spec_l12Table.tab l2 H (i - 1) = o at HX HT HTR HR9
       have HTO := Aside0.mk hto
       clear hto
       go_loopg [13, 11] (i - 1) (fun gg s13 s11 wr => ∃ x : Nat, s13 = .int .i64 (x : Int) ∧ s11 = .int .i64 (spec_l12Table.cx o i j b0 (x - 1)) ∧ Aside0 (1 ≤ x) ∧ Aside0 (x + gg = i) ∧ Aside0 (Kd.S spec_l12Table.VK 24 wr w.heap.size (fun _ => True) (.slice (some ⟨g4, 0, none⟩) m c4) ys) ∧ Aside0 (Below w.heap.size w wr))
       case atStart => exact ⟨1, rfl, rfl, ⟨by omega⟩, ⟨by omega⟩, HO, HB⟩
       case round =>
        clear HO HB
        obtain ⟨x, rfl, rfl, X1, HQ, HO, HB⟩ := hrel
        have x1 := X1.out
        cases gk with
        | zero =>
         have hx : i = x := by have := HQ.out; omega
         subst hx
         have cx : decide ((i : Int) < (i : Int)) = false := decide_eq_false (by omega)
         go_wp2
         clear HQ
         generalize hb1 : spec_l12Table.cx o i j b0 (i - 1) = b1
         go_loopg [14, 11] (j - 1) (fun gg s14 s11 wr => ∃ y : Nat, s14 = .int .i64 (y : Int) ∧ s11 = .int .i64 (spec_l12Table.cy r j b1 (y - 1)) ∧ Aside0 (1 ≤ y) ∧ Aside0 (y + gg = j) ∧ Aside0 (Kd.S spec_l12Table.VK 24 wr w.heap.size (fun _ => True) (.slice (some ⟨g4, 0, none⟩) m c4) ys) ∧ Aside0 (Below w.heap.size w wr))
         case atStart => exact ⟨1, rfl, rfl, ⟨by omega⟩, ⟨by omega⟩, HO, HB⟩
         case round =>
          clear HO HB
          obtain ⟨y, rfl, rfl, Y1, HQ, HO, HB⟩ := hrel
          have y1 := Y1.out
          cases gk with
          | zero =>
           have hy : j = y := by have := HQ.out; omega
           subst hy
           have cy : decide ((j : Int) < (j : Int)) = false := decide_eq_false (by omega)
           have hm4 := HM4.out
           have rl := HRL.out
           have HR10 := HR9.out
           have hbst : spec_l12Table.best o r l2 i j = spec_l12Table.cy r j b1 (j - 1) := by
            unfold spec_l12Table.best
            rw [← hb1, ← hb0]
           rw [hbst] at HR10
           have HR11 := Aside0.mk HR10
           clear HR10 hbst hb1 hb0
           generalize spec_l12Table.cy r j b1 (j - 1) = bst at HR11 ⊢
           obtain ⟨okr, hRr, _, hng, _, hH⟩ := spec_l12Table.lend HO.out i hm
           have hgl : g4 < wr.heap.size := by
            obtain ⟨gq, cq, eq, _, hq, _⟩ := Kd.R_form (Kd.S_R HO.out) (by rw [HL.out]; omega)
            injection eq with e1 _ _
            injection e1 with e1
            injection e1 with e1 _ _
            omega
           have hgb : w.heap.size ≤ g4 := by
            obtain ⟨gq, cq, eq, hq, _, _⟩ := Kd.R_form (Kd.S_R HO.out) (by rw [HL.out]; omega)
            injection eq with e1 _ _
            injection e1 with e1
            injection e1 with e1 _ _
            omega
           rw [HV.out] at hRr hH
           dsimp only at hRr hH
           have HRr := Aside0.mk hRr
           have HH := Aside0.mk hH
           have HNG := Aside0.mk (show ∀ k, okr k ∨ True ∧ wr.heap.size ≤ k → k ≠ g4 from fun k hk => hk.elim (hng k) (fun h2 => by have := h2.2; omega))
           have HGB := Aside0.mk hgb
           have pi : (0 ≤ (i : Int)) = True := eq_true (by omega)
           have qi : ((i : Int) < (m : Int)) = True := eq_true (by omega)
           have HIM := Aside0.mk hm
           clear hRr hH hng hgl hgb hm4 rl
           go_wp2_with (first
            | ((with_reducible refine gate_builtin (b := .append) (xs := #[.tmp 105, .tmp 107]) rfl ?_); at_builtin; refine Kd.R_append (Kd.int .i64) (w0 := w) w.heap.size rfl (.tmp 105) (.tmp 107) 24 2 (.int .i64 0) 8 rfl Tryd.underlying24 info2 rfl (by decide) (by omega) (.slice (some ⟨g9, 0, none⟩) r.length c9) r bst [.int .i64 bst] (fun k => okr k ∨ True ∧ wr.heap.size ≤ k) (fun _ => False) rfl rfl rfl (fun _ hk => hk.elim) (fun k hk => .inr ⟨trivial, hk⟩) (Kd.R_mono HRr.out (fun k hk => .inl hk)) HB.out (below_size HB.out) (by have := HRL.out; omega) ?_; intro v6 w6 ho6 hb6 hg6 hat6; have hH1 := Kd.H_grown (Kd.H_widen HH.out) hg6 (fun k hk => .inl (HRr.out.1 k hk)); obtain ⟨g6, c6, e6, -, -, -⟩ := Kd.R_form ho6 (by simp); obtain ⟨n6, hn6⟩ : ∃ n6, n6 = (r ++ [bst]).length := ⟨_, rfl⟩; rw [← hn6] at e6; subst e6; clear hn6; obtain ⟨hcS, hfS⟩ := spec_l12Table.hole hH1 HIM.out; have HO6 := Aside0.mk ho6; have HB6 := Aside0.mk hb6; have HH6 := Aside0.mk hH1; clear ho6 hb6 hg6 hat6 hH1))
           go_roundg k2
           case measure => omega
           case rel => exact ⟨j + 1, ys.set i ((.slice (some ⟨g6, 0, none⟩) n6 c6 : Value), r ++ [bst]), by first | rfl | (congr 1; omega), ⟨by omega⟩, ⟨by have := HM.out; omega⟩, ⟨by rw [List.length_set]; exact HL.out⟩, ⟨by
            rw [HTO.out, List.getD_eq_getElem?_getD, List.getElem?_set_self (by rw [HL.out]; omega), HR11.out]
            rfl⟩, ⟨by rw [HTO.out, List.map_set, HX.out, HR11.out]; exact spec_l12Table.set_last o r _ i HT.out⟩, ⟨spec_l12Table.back HH6.out HIM.out rfl HO6.out HNG.out⟩, ⟨HB6.out.setCell HGB.out _⟩⟩
          | succ k5 =>
           have hy : y < j := by have := HQ.out; omega
           have cy : decide ((y : Int) < (j : Int)) = true := decide_eq_true (by omega)
           obtain ⟨okr, hRr, -, -, -, -⟩ := spec_l12Table.lend HO.out i hm
           rw [HV.out] at hRr
           dsimp only at hRr
           have rl := HRL.out
           have py : (0 ≤ (y : Int)) = True := eq_true (by omega)
           have qy : ((y : Int) < (r.length : Int)) = True := eq_true (by omega)
           have hsub : (j : Int) - (y : Int) = ((j - y : Nat) : Int) := by omega
           have hwr : IntKind.i64.wrap ((j - y : Nat) : Int) = ((j - y : Nat) : Int) := by rw [i64_w]; unfold wrap64; omega
           have ps : (0 ≤ ((j - y : Nat) : Int)) = True := eq_true (by omega)
           have qs : (((j - y : Nat) : Int) < (r.length : Int)) = True := eq_true (by omega)
           have hcA := show wr.drew.cell? ⟨g9, y, none⟩ = some (.int .i64 (rd r (y : Int))) from (Kd.R_celln 0 hRr (y : Int) (by omega) (by omega)).1
           have hcB := show wr.drew.cell? ⟨g9, j - y, none⟩ = some (.int .i64 (rd r ((j - y : Nat) : Int))) from (Kd.R_celln 0 hRr ((j - y : Nat) : Int) (by omega) (by omega)).1
           have hcy := spec_l12Table.cy_step r j b1 y y1
           clear hRr rl
           go_wp2
           refine wp_region_still_lit mixed (by kernel_rfl) ?_
           repeat still_step
           refine wpStill_nil ?_
           change Exit.inBlock _ _ _ _ wr.drew
           have HO2 := Aside0.mk (Kd.S_drew HO.out)
           have HB2 := Aside0.mk (below_drew1 HB.out)
           generalize wr.drew = wr2 at HO2 HB2 ⊢
           go_wp2
           all_goals
            go_roundg k5
            case measure => omega
            case rel => exact ⟨y + 1, by first | rfl | (congr 1; omega), by rw [hcy]; congr 1; omega, ⟨by omega⟩, ⟨by have := HQ.out; omega⟩, HO2, HB2⟩
        | succ k4 =>
         have hx : x < i := by have := HQ.out; omega
         have cx : decide ((x : Int) < (i : Int)) = true := decide_eq_true (by omega)
         have hm4 := HM4.out
         have hrc := (Kd.S_reads' HO.out).2.2
         obtain ⟨A0, c0, hcA, hrA⟩ := spec_l12Table.at_V hrc x (by have := HL.out; omega)
         obtain ⟨B0, d0, hcB, hrB⟩ := spec_l12Table.at_V hrc (i - x) (by have := HL.out; omega)
         rw [HX.out, spec_l12Table.rr_left o r x (by rw [HT.out]; omega)] at hcA hrA
         rw [HX.out, spec_l12Table.rr_left o r (i - x) (by rw [HT.out]; omega)] at hcB hrB
         have lA := HTR.out x (by omega)
         have lB := HTR.out (i - x) (by omega)
         have hcx := spec_l12Table.cx_step o i j b0 x x1
         generalize spec_l12Table.rr o x = ra at hcA hrA lA hcx
         generalize spec_l12Table.rr o (i - x) = rb at hcB hrB lB hcx
         obtain ⟨aA, eA, hdA⟩ := Kd.at_int hrA (j : Int) (by omega) (by omega)
         obtain ⟨aB, eB, hdB⟩ := Kd.at_int hrB (j : Int) (by omega) (by omega)
         subst eA
         subst eB
         simp only [Int.toNat_natCast] at hdA hdB
         have px : (0 ≤ (x : Int)) = True := eq_true (by omega)
         have qx : ((x : Int) < (m : Int)) = True := eq_true (by omega)
         have pj : (0 ≤ (j : Int)) = True := eq_true (by omega)
         have qA : ((j : Int) < (ra.length : Int)) = True := eq_true (by omega)
         have qB : ((j : Int) < (rb.length : Int)) = True := eq_true (by omega)
         have hsub : (i : Int) - (x : Int) = ((i - x : Nat) : Int) := by omega
         have hwr : IntKind.i64.wrap ((i - x : Nat) : Int) = ((i - x : Nat) : Int) := by rw [i64_w]; unfold wrap64; omega
         have ps : (0 ≤ ((i - x : Nat) : Int)) = True := eq_true (by omega)
         have qs : (((i - x : Nat) : Int) < (m : Int)) = True := eq_true (by omega)
         have hcA := show wr.drew.cell? ⟨g4, x, none⟩ = _ from hcA
         have hcB := show wr.drew.cell? ⟨g4, i - x, none⟩ = _ from hcB
         have hdA := show wr.drew.cell? (aA.add j) = _ from hdA
         have hdB := show wr.drew.cell? (aB.add j) = _ from hdB
         clear hrc hrA hrB lA lB hm4
         go_wp2
         refine wp_region_still_lit mixed (by kernel_rfl) ?_
         repeat still_step
         refine wpStill_nil ?_
         change Exit.inBlock _ _ _ _ wr.drew
         have HO2 := Aside0.mk (Kd.S_drew HO.out)
         have HB2 := Aside0.mk (below_drew1 HB.out)
         generalize wr.drew = wr2 at HO2 HB2 ⊢
         go_wp2
         all_goals
          go_roundg k4
          case measure => omega
          case rel => exact ⟨x + 1, by first | rfl | (congr 1; omega), by rw [hcx]; congr 1; omega, ⟨by omega⟩, ⟨by have := HQ.out; omega⟩, HO2, HB2⟩
      | succ k3 =>
       have hn : n < l2.length := by have := HQ.out; omega
       have cn : decide ((n : Int) < ((l2.length : Nat) : Int)) = true := decide_eq_true (by omega)
       obtain ⟨ad, e1, hx0, hx1, hx2⟩ := at_T50 HR2.out (n : Int) (by omega) (by omega)
       subst e1
       replace hx0 := (HB.out.cell (World.block_lt_of_cell? _ _ hx0)).trans hx0
       replace hx1 := (HB.out.cell (World.block_lt_of_cell? _ _ hx1)).trans hx1
       replace hx2 := (HB.out.cell (World.block_lt_of_cell? _ _ hx2)).trans hx2
       have p1 : (0 ≤ (n : Int)) = True := eq_true (by omega)
       have hkd := l12Kd_step l2 (i : Int) (j : Int) n hn
       simp only [Int.toNat_natCast] at hx0 hx1 hx2
       generalize rd_T50 l2 (n : Int) = x at hx0 hx1 hx2 hkd
       by_cases c0 : x.f0 ≤ (i : Int)
       ·have c0b : decide (x.f0 ≤ (i : Int)) = true := decide_eq_true c0
        by_cases c1 : x.f1 ≤ (j : Int)
        ·have c1b : decide (x.f1 ≤ (j : Int)) = true := decide_eq_true c1
         rw [if_pos c0, if_pos c1] at hkd
         go_wp2
         all_goals
          go_roundg k3
          case measure => omega
          case rel => exact ⟨n + 1, by first | rfl | (congr 1; omega), by rw [hkd]; congr 1; omega, ⟨by have := HQ.out; omega⟩, HO, HB⟩
        ·have c1b : decide (x.f1 ≤ (j : Int)) = false := decide_eq_false c1
         rw [if_pos c0, if_neg c1] at hkd
         go_wp2
         go_roundg k3
         case measure => omega
         case rel => exact ⟨n + 1, by first | rfl | (congr 1; omega), by rw [hkd], ⟨by have := HQ.out; omega⟩, HO, HB⟩
       ·have c0b : decide (x.f0 ≤ (i : Int)) = false := decide_eq_false c0
        rw [if_neg c0] at hkd
        go_wp2
        go_roundg k3
        case measure => omega
        case rel => exact ⟨n + 1, by first | rfl | (congr 1; omega), by rw [hkd], ⟨by have := HQ.out; omega⟩, HO, HB⟩
def spec_l12Table.f (a0 : Int) (a1 : Int) (l2 : List S50) : Option (List (List Int)) := if 0 ≤ a0 ∧ a0 ≤ 40 ∧ 0 ≤ a1 ∧ a1 ≤ 40 ∧ l2.length ≤ 1000000 then some (spec_l12Table.tab l2 a1.toNat a0.toNat) else none
theorem spec_l12Table.calls (a0 : Int) (a1 : Int) (A2 : Option Addr) (c2 : Nat) (l2 : List S50) (r : List (List Int)) (w : World) (hr2 : Kd.C k50 w A2 l2.length l2) (hc2 : l2.length ≤ c2) (h : spec_l12Table.f a0 a1 l2 = some r) :
  Calls Tryd.prog 42 #[.int .i64 a0, .int .i64 a1, .slice A2 l2.length c2] w fun e w' => ∃ v0_ : Value, e = .returned (v0_) ∧ Kd.S (Kd.slice 2 (Kd.int .i64)) 24 w' w.heap.size (fun _ => True) v0_ r ∧ Below w.heap.size w w' := by
 unfold spec_l12Table.f at h
 by_cases c : 0 ≤ a0 ∧ a0 ≤ 40 ∧ 0 ≤ a1 ∧ a1 ≤ 40 ∧ l2.length ≤ 1000000
 ·rw [if_pos c] at h
  obtain rfl := Option.some.inj h
  obtain ⟨W, rfl⟩ := Int.eq_ofNat_of_zero_le c.1
  obtain ⟨H, rfl⟩ := Int.eq_ofNat_of_zero_le c.2.2.1
  refine (spec_l12Table.walk A2 c2 l2 W H w (by omega) (by omega) hr2 hc2 c.2.2.2.2).mono ?_
  rintro e w' ⟨v, rfl, ⟨xs, hx, ho⟩, hb⟩
  exact ⟨v, rfl, by have := spec_l12Table.VK_S ho; rw [hx] at this; exact this, hb⟩
 ·rw [if_neg c] at h
  cases h

def spec_BestPlan.f (k : Nat) (a0 : Int) (a1 : Int) (l2 : List (S50)) : Option (ByteArray × Int) := (spec_l12Code.f k a0 a1 l2).bind fun t135 => (if t135 = 0 then ((spec_l12Table.f a0 a1 l2).bind fun t136 => ((spec_l12Plan.f k t136 a0 a1 l2).bind fun t139 => (some (t139, 0)))) else (some ((⟨#[]⟩ : ByteArray), t135)))
theorem spec_BestPlan.mono : ∀ a0 a1 a2 k, LeO (spec_BestPlan.f k a0 a1 a2) (spec_BestPlan.f (k + 1) a0 a1 a2) := by
 intro a0 a1 a2 k
 unfold spec_BestPlan.f
 repeat' first
   | (with_reducible exact spec_l12Code.mono _ _ _ _)
   | (with_reducible exact spec_l12Plan.mono _ _ _ _ _)
   | (with_reducible exact LeO.refl _)
   | (with_reducible exact LeO.none _)
   | (with_reducible refine LeO.ite ?_ ?_)
   | (with_reducible refine LeO.bind ?_ (fun _ => ?_))
   | exact spec_l12Code.mono _ _ _ _
   | exact spec_l12Plan.mono _ _ _ _ _
   | exact LeO.none _
   | refine LeO.ite ?_ ?_
   | refine LeO.bind ?_ (fun _ => ?_)
set_option maxHeartbeats 8000000 in
set_option maxRecDepth 100000 in
theorem spec_BestPlan.calls (k : Nat) (a0 : Int) (a1 : Int) (A2 : Option Addr) (c2 : Nat) (l2 : List (S50)) (r1 : ByteArray) (r2 : Int) (w : World) (hr2 : Kd.C k50 w A2 l2.length l2) (hc2 : l2.length ≤ c2) (h : spec_BestPlan.f k a0 a1 l2 = some (r1, r2)) :
  Calls Tryd.prog 18 #[.int .i64 a0, .int .i64 a1, .slice A2 l2.length c2] w fun e w' => e = .returned (.tuple #[.string r1, .int .i64 r2]) ∧ Below w.heap.size w w' := by
 have HR2 := Aside0.mk hr2
 have HC2 := Aside0.mk hc2
 clear hr2 hc2
 have HB := Aside0.mk (Below.refl w.heap.size w)
 have H : ((spec_l12Code.f k a0 a1 l2).bind fun t135 => (if t135 = 0 then ((spec_l12Table.f a0 a1 l2).bind fun t136 => ((spec_l12Plan.f k t136 a0 a1 l2).bind fun t139 => (some (t139, 0)))) else (some ((⟨#[]⟩ : ByteArray), t135)))) = some (r1, r2) := h
 clear h
 replace H := Option.bind_eq_some_iff.mp H
 obtain ⟨t135, A40, H⟩ := H
 replace H : (if t135 = 0 then ((spec_l12Table.f a0 a1 l2).bind fun t136 => ((spec_l12Plan.f k t136 a0 a1 l2).bind fun t139 => (some (t139, 0)))) else (some ((⟨#[]⟩ : ByteArray), t135))) = some (r1, r2) := H
 have A4 := Aside0.mk A40
 clear A40
 by_cases c5 : t135 = 0
 ·rw [if_pos c5] at H
  have c5b0 : (t135 == 0) = true := beq_iff_eq.mpr c5
  have c5b1 : (t135 != 0) = false := bne_eq_false_iff_eq.mpr c5
  clear c5
  replace H := Option.bind_eq_some_iff.mp H
  obtain ⟨t136, A60, H⟩ := H
  replace H : ((spec_l12Plan.f k t136 a0 a1 l2).bind fun t139 => (some (t139, 0))) = some (r1, r2) := H
  have A6 := Aside0.mk A60
  clear A60
  replace H := Option.bind_eq_some_iff.mp H
  obtain ⟨t139, A70, H⟩ := H
  replace H : (some (t139, 0)) = some (r1, r2) := H
  have A7 := Aside0.mk A70
  clear A70
  simp only [Option.some.injEq, Prod.mk.injEq] at H
  obtain ⟨rfl, rfl⟩ := H
  go_enter Tryd.func18, Tryd.ntmps18
  go_wp2_with (first | ((with_reducible refine gate_callee (f := 36) rfl ?_); refine goesL_ (some 12) rfl rfl Tryd.func36 (by kernel_rfl) rfl #[.int .i64 a0, .int .i64 a1, .slice A2 l2.length c2] rfl (by (try simp only [List.map_toArray, List.map_cons, List.map_nil]); first | done | rfl | (simp only [List.length_drop, List.length_take]; rfl)) ?_; (with_reducible refine (spec_l12Code.calls k a0 a1 _ _ l2 t135 _ ?side1 ?side2 A4.out).mono ?_); (case side1 => repeat (first | exact HR2.out | (with_reducible refine Kd.C_alloc ?_ _) | (with_reducible refine Kd.C_drewN ?_ _) | (with_reducible refine Kd.C_drew ?_))); (case side2 => exact HC2.out); rintro e w8 ⟨rfl, hb⟩; refine ⟨_, rfl, ?_⟩; have n0_ := Aside0.mk (below_step (by repeat (first | (with_reducible first | exact HB.out | apply below_alloc | apply pw_below_drewN | apply below_drew1) | exact HB.out)) hb); clear HB; have HB := n0_; clear n0_; (try clear hb)) | ((with_reducible refine gate_callee (f := 42) rfl ?_); refine goesL_ (some 19) rfl rfl Tryd.func42 (by kernel_rfl) rfl #[.int .i64 a0, .int .i64 a1, .slice A2 l2.length c2] rfl (by (try simp only [List.map_toArray, List.map_cons, List.map_nil]); first | done | rfl | (simp only [List.length_drop, List.length_take]; rfl)) ?_; (with_reducible refine (spec_l12Table.calls a0 a1 _ _ l2 t136 _ ?side1 ?side2 A6.out).mono ?_); (case side1 => repeat (first | exact (Kd.C_below HR2.out HB.out) | (with_reducible refine Kd.C_alloc ?_ _) | (with_reducible refine Kd.C_drewN ?_ _) | (with_reducible refine Kd.C_drew ?_))); (case side2 => exact HC2.out); rintro e w9 ⟨v137, rfl, ho0, hb⟩; refine ⟨_, rfl, ?_⟩; have n0_ := Aside0.mk (Kd.S_lower ho0 (below_size (by repeat (first | (with_reducible first | exact HB.out | apply below_alloc | apply pw_below_drewN | apply below_drew1) | exact HB.out)))); have n1_ := Aside0.mk (below_step (by repeat (first | (with_reducible first | exact HB.out | apply below_alloc | apply pw_below_drewN | apply below_drew1) | exact HB.out)) hb); clear HB; have HO138 := n0_; have HB := n1_; clear n0_ n1_; (try clear hb); (try clear ho0); obtain ⟨Ao10, co10, eo10⟩ := Kd.S_slice HO138.out; subst eo10) | ((with_reducible refine gate_callee (f := 41) rfl ?_); refine goesL_ (some 23) rfl rfl Tryd.func41 (by kernel_rfl) rfl #[.slice Ao10 t136.length co10, .int .i64 a0, .int .i64 a1, .slice A2 l2.length c2] rfl (by (try simp only [List.map_toArray, List.map_cons, List.map_nil]); first | done | rfl | (simp only [List.length_drop, List.length_take]; rfl)) ?_; (with_reducible refine (spec_l12Plan.calls k _ _ t136 a0 a1 _ _ l2 t139 _ ?side1 ?side2 ?side3 ?side4 A7.out).mono ?_); (case side1 => repeat (first | exact (Kd.S_reads' HO138.out).2.2 | (with_reducible refine Kd.C_alloc ?_ _) | (with_reducible refine Kd.C_drewN ?_ _) | (with_reducible refine Kd.C_drew ?_))); (case side2 => exact (Kd.S_reads' HO138.out).2.1); (case side3 => repeat (first | exact (Kd.C_below HR2.out HB.out) | (with_reducible refine Kd.C_alloc ?_ _) | (with_reducible refine Kd.C_drewN ?_ _) | (with_reducible refine Kd.C_drew ?_))); (case side4 => exact HC2.out); rintro e w11 ⟨rfl, hb⟩; refine ⟨_, rfl, ?_⟩; have n0_ := Aside0.mk (Kd.S_below (by (with_reducible repeat (first | apply Kd.S_alloc | apply Kd.S_drewN | apply Kd.S_drew)); exact HO138.out) hb); have n1_ := Aside0.mk (below_step (by repeat (first | (with_reducible first | exact HB.out | apply below_alloc | apply pw_below_drewN | apply below_drew1) | exact HB.out)) hb); clear HO138; clear HB; have HO138 := n0_; have HB := n1_; clear n0_ n1_; (try clear hb)))
  go_ret2
  exact ⟨by first | rfl | (simp [errW_none, errW_some] <;> rfl) | (simp [*, errW_none, errW_some] <;> rfl), by repeat (first | (with_reducible first | exact HB.out | apply below_alloc | apply pw_below_drewN | apply below_drew1) | exact HB.out)⟩
 ·rw [if_neg c5] at H
  have c5b0 : (t135 == 0) = false := beq_eq_false_iff_ne.mpr c5
  have c5b1 : (t135 != 0) = true := bne_iff_ne.mpr c5
  simp only [Option.some.injEq, Prod.mk.injEq] at H
  obtain ⟨rfl, rfl⟩ := H
  go_enter Tryd.func18, Tryd.ntmps18
  go_wp2_with (first | ((with_reducible refine gate_callee (f := 36) rfl ?_); refine goesL_ (some 12) rfl rfl Tryd.func36 (by kernel_rfl) rfl #[.int .i64 a0, .int .i64 a1, .slice A2 l2.length c2] rfl (by (try simp only [List.map_toArray, List.map_cons, List.map_nil]); first | done | rfl | (simp only [List.length_drop, List.length_take]; rfl)) ?_; (with_reducible refine (spec_l12Code.calls k a0 a1 _ _ l2 t135 _ ?side1 ?side2 A4.out).mono ?_); (case side1 => repeat (first | exact HR2.out | (with_reducible refine Kd.C_alloc ?_ _) | (with_reducible refine Kd.C_drewN ?_ _) | (with_reducible refine Kd.C_drew ?_))); (case side2 => exact HC2.out); rintro e w12 ⟨rfl, hb⟩; refine ⟨_, rfl, ?_⟩; have n0_ := Aside0.mk (below_step (by repeat (first | (with_reducible first | exact HB.out | apply below_alloc | apply pw_below_drewN | apply below_drew1) | exact HB.out)) hb); clear HB; have HB := n0_; clear n0_; (try clear hb)))
  go_ret2
  exact ⟨by first | rfl | (simp [errW_none, errW_some] <;> rfl) | (simp [*, errW_none, errW_some] <;> rfl), by repeat (first | (with_reducible first | exact HB.out | apply below_alloc | apply pw_below_drewN | apply below_drew1) | exact HB.out)⟩

def impl_inRange.f (a0 : Int) (a1 : Int) (a2 : Int) : Option (Bool) := if a1 ≤ a0 then (some (decide (a0 ≤ a2))) else (some false)
set_option maxHeartbeats 8000000 in
set_option maxRecDepth 100000 in
theorem impl_inRange.calls (a0 : Int) (a1 : Int) (a2 : Int) (r : Bool) (w : World) (h : impl_inRange.f a0 a1 a2 = some r) :
  Calls Tryd.prog 48 #[.int .i64 a0, .int .i64 a1, .int .i64 a2] w fun e w' => e = .returned (.bool r) ∧ Drawn0 w w' := by
 have H : (if a1 ≤ a0 then (some (decide (a0 ≤ a2))) else (some false)) = some r := h
 clear h
 by_cases c4 : a1 ≤ a0
 ·rw [if_pos c4] at H
  have c4b0 : decide (a1 ≤ a0) = true := decide_eq_true c4
  clear c4
  obtain rfl := Option.some.inj H
  go_enter Tryd.func48, Tryd.ntmps48
  go_wp2
  go_ret
  exact ⟨by first | rfl | (simp; done) | (simp [*]; done), by repeat (first | exact Drawn0.refl _ | apply Drawn0.step)⟩
 ·rw [if_neg c4] at H
  have c4b0 : decide (a1 ≤ a0) = false := decide_eq_false c4
  clear c4
  obtain rfl := Option.some.inj H
  go_enter Tryd.func48, Tryd.ntmps48
  go_wp2
  go_ret
  exact ⟨by first | rfl | (simp; done) | (simp [*]; done), by repeat (first | exact Drawn0.refl _ | apply Drawn0.step)⟩

def impl_Kind_49.f (l0 : List (S50)) : Option (Int) := some (l0.length : Int)
set_option maxHeartbeats 8000000 in
set_option maxRecDepth 100000 in
theorem impl_Kind_49.calls (A0 : Option Addr) (c0 : Nat) (l0 : List (S50)) (r : Int) (w : World) (hr0 : Kd.C k50 w A0 l0.length l0) (hc0 : l0.length ≤ c0) (h : impl_Kind_49.f l0 = some r) :
  Calls Tryd.prog 49 #[.slice A0 l0.length c0] w fun e w' => e = .returned (.int .i64 r) ∧ Drawn0 w w' := by
 have HR0 := Aside0.mk hr0
 have HC0 := Aside0.mk hc0
 clear hr0 hc0
 have H : (some (l0.length : Int)) = some r := h
 clear h
 obtain rfl := Option.some.inj H
 go_enter Tryd.func49, Tryd.ntmps49
 go_wp2
 go_ret
 exact ⟨by first | rfl | (simp; done) | (simp [*]; done), by repeat (first | exact Drawn0.refl _ | apply Drawn0.step)⟩



def impl_IsCatalogue_1.f (a0_0 : Int) (a0_1 : Int) (a0_2 : Int) : Option (Bool) := (impl_inRange.f a0_0 1 40).bind fun t141 => (if t141 = true then ((impl_inRange.f a0_1 1 40).bind fun t142 => (if t142 = true then ((impl_inRange.f a0_2 0 1000).bind fun t143 => (some (!t143))) else (some true))) else (some true))
set_option maxHeartbeats 8000000 in
set_option maxRecDepth 100000 in
theorem impl_IsCatalogue_1.calls (a0_0 : Int) (a0_1 : Int) (a0_2 : Int) (r : Bool) (w : World) (h : impl_IsCatalogue_1.f a0_0 a0_1 a0_2 = some r) :
  Calls Tryd.prog 51 #[.agg #[.int .i64 a0_0, .int .i64 a0_1, .int .i64 a0_2]] w fun e w' => e = .returned (.bool r) ∧ Below w.heap.size w w' := by
 have hu50 := Tryd.underlying50
 have HB := Aside0.mk (Below.refl w.heap.size w)
 have H : ((impl_inRange.f a0_0 1 40).bind fun t141 => (if t141 = true then ((impl_inRange.f a0_1 1 40).bind fun t142 => (if t142 = true then ((impl_inRange.f a0_2 0 1000).bind fun t143 => (some (!t143))) else (some true))) else (some true))) = some r := h
 clear h
 replace H := Option.bind_eq_some_iff.mp H
 obtain ⟨t141, A20, H⟩ := H
 replace H : (if t141 = true then ((impl_inRange.f a0_1 1 40).bind fun t142 => (if t142 = true then ((impl_inRange.f a0_2 0 1000).bind fun t143 => (some (!t143))) else (some true))) else (some true)) = some r := H
 have A2 := Aside0.mk A20
 clear A20
 by_cases c3 : t141 = true
 ·subst c3
  have H1 : ((impl_inRange.f a0_1 1 40).bind fun t142 => (if t142 = true then ((impl_inRange.f a0_2 0 1000).bind fun t143 => (some (!t143))) else (some true))) = some r := by rw [if_pos rfl] at H; exact H
  clear H
  have H := H1
  clear H1
  replace H := Option.bind_eq_some_iff.mp H
  obtain ⟨t142, A40, H⟩ := H
  replace H : (if t142 = true then ((impl_inRange.f a0_2 0 1000).bind fun t143 => (some (!t143))) else (some true)) = some r := H
  have A4 := Aside0.mk A40
  clear A40
  by_cases c5 : t142 = true
  ·subst c5
   have H1 : ((impl_inRange.f a0_2 0 1000).bind fun t143 => (some (!t143))) = some r := by rw [if_pos rfl] at H; exact H
   clear H
   have H := H1
   clear H1
   replace H := Option.bind_eq_some_iff.mp H
   obtain ⟨t143, A60, H⟩ := H
   replace H : (some (!t143)) = some r := H
   have A6 := Aside0.mk A60
   clear A60
   obtain rfl := Option.some.inj H
   go_enter Tryd.func51, Tryd.ntmps51
   go_wp2_with (first | ((with_reducible refine gate_dst (N := 1) rfl ?_); refine box_event ?hg (N := 1) ?hd (cs := #[.int .i64 a0_0, .int .i64 a0_1, .int .i64 a0_2]) (t := 50) ?hr ?_; (case hd => rfl); (case hg => rfl); (case hr => first | (go_simp; done) | (go_simp; rfl)); intro gb140 hg w7 hbox hb; have n0_ := Aside0.mk (below_step (by repeat (first | (with_reducible first | exact HB.out | apply below_alloc | apply pw_below_drewN | apply below_drew1) | exact HB.out)) hb); have n1_ := Aside0.mk (hbox); have n2_ := Aside0.mk ((by rw [hg]; exact (below_size (by repeat (first | (with_reducible first | exact HB.out | apply below_alloc | apply pw_below_drewN | apply below_drew1) | exact HB.out))) : w.heap.size ≤ gb140)); have n3_ := n2_; clear HB; have HB := n0_; have BK140 := n1_; have GW140 := n2_; have GE140 := n3_; clear n0_ n1_ n2_ n3_; clear hb hbox hg; have hcz8_0 : w7.cell? ⟨gb140, 0, none⟩ = some (.int .i64 a0_0) := (blk_cell BK140.out 0).trans rfl; have hcz8_1 : w7.cell? ⟨gb140, 1, none⟩ = some (.int .i64 a0_1) := (blk_cell BK140.out 1).trans rfl; have hcz8_2 : w7.cell? ⟨gb140, 2, none⟩ = some (.int .i64 a0_2) := (blk_cell BK140.out 2).trans rfl; have hfz8_0 := blk_frozen BK140.out 0; have hfz8_1 := blk_frozen BK140.out 1; have hfz8_2 := blk_frozen BK140.out 2) | ((with_reducible refine gate_callee (f := 48) rfl ?_); refine goesL_ (some 5) rfl rfl Tryd.func48 (by kernel_rfl) rfl #[.int .i64 a0_0, .int .i64 1, .int .i64 40] rfl (by (try simp only [List.map_toArray, List.map_cons, List.map_nil]); first | done | rfl | (simp only [List.length_drop, List.length_take]; rfl)) ?_; (with_reducible refine (impl_inRange.calls a0_0 1 40 true _ A2.out).mono ?_); rintro e w' ⟨rfl, ⟨nd, rfl⟩⟩; refine ⟨_, rfl, ?_⟩) | (go_at_call 48; (with_reducible refine (impl_inRange.calls a0_1 1 40 true _ A4.out).mono ?_); rintro e w' ⟨rfl, ⟨nd, rfl⟩⟩) | (go_at_call 48; (with_reducible refine (impl_inRange.calls a0_2 0 1000 t143 _ A6.out).mono ?_); rintro e w' ⟨rfl, ⟨nd, rfl⟩⟩))
   go_ret
   exact ⟨by first | rfl | (simp [errW_none, errW_some] <;> rfl) | (simp [*, errW_none, errW_some] <;> rfl), by repeat (first | (with_reducible first | exact HB.out | apply below_alloc | apply pw_below_drewN | apply below_drew1 | refine below_set ?_ GE140.out) | exact HB.out)⟩
  ·replace c5 := Bool.eq_false_iff.mpr c5
   subst c5
   have H1 : (some true) = some r := by rw [if_neg (show ¬ (false = true) by decide)] at H; exact H
   clear H
   have H := H1
   clear H1
   obtain rfl := Option.some.inj H
   go_enter Tryd.func51, Tryd.ntmps51
   go_wp2_with (first | ((with_reducible refine gate_dst (N := 1) rfl ?_); refine box_event ?hg (N := 1) ?hd (cs := #[.int .i64 a0_0, .int .i64 a0_1, .int .i64 a0_2]) (t := 50) ?hr ?_; (case hd => rfl); (case hg => rfl); (case hr => first | (go_simp; done) | (go_simp; rfl)); intro gb140 hg w9 hbox hb; have n0_ := Aside0.mk (below_step (by repeat (first | (with_reducible first | exact HB.out | apply below_alloc | apply pw_below_drewN | apply below_drew1) | exact HB.out)) hb); have n1_ := Aside0.mk (hbox); have n2_ := Aside0.mk ((by rw [hg]; exact (below_size (by repeat (first | (with_reducible first | exact HB.out | apply below_alloc | apply pw_below_drewN | apply below_drew1) | exact HB.out))) : w.heap.size ≤ gb140)); have n3_ := n2_; clear HB; have HB := n0_; have BK140 := n1_; have GW140 := n2_; have GE140 := n3_; clear n0_ n1_ n2_ n3_; clear hb hbox hg; have hcz10_0 : w9.cell? ⟨gb140, 0, none⟩ = some (.int .i64 a0_0) := (blk_cell BK140.out 0).trans rfl; have hcz10_1 : w9.cell? ⟨gb140, 1, none⟩ = some (.int .i64 a0_1) := (blk_cell BK140.out 1).trans rfl; have hcz10_2 : w9.cell? ⟨gb140, 2, none⟩ = some (.int .i64 a0_2) := (blk_cell BK140.out 2).trans rfl; have hfz10_0 := blk_frozen BK140.out 0; have hfz10_1 := blk_frozen BK140.out 1; have hfz10_2 := blk_frozen BK140.out 2) | ((with_reducible refine gate_callee (f := 48) rfl ?_); refine goesL_ (some 5) rfl rfl Tryd.func48 (by kernel_rfl) rfl #[.int .i64 a0_0, .int .i64 1, .int .i64 40] rfl (by (try simp only [List.map_toArray, List.map_cons, List.map_nil]); first | done | rfl | (simp only [List.length_drop, List.length_take]; rfl)) ?_; (with_reducible refine (impl_inRange.calls a0_0 1 40 true _ A2.out).mono ?_); rintro e w' ⟨rfl, ⟨nd, rfl⟩⟩; refine ⟨_, rfl, ?_⟩) | (go_at_call 48; (with_reducible refine (impl_inRange.calls a0_1 1 40 false _ A4.out).mono ?_); rintro e w' ⟨rfl, ⟨nd, rfl⟩⟩))
   go_ret
   exact ⟨by first | rfl | (simp [errW_none, errW_some] <;> rfl) | (simp [*, errW_none, errW_some] <;> rfl), by repeat (first | (with_reducible first | exact HB.out | apply below_alloc | apply pw_below_drewN | apply below_drew1 | refine below_set ?_ GE140.out) | exact HB.out)⟩
 ·replace c3 := Bool.eq_false_iff.mpr c3
  subst c3
  have H1 : (some true) = some r := by rw [if_neg (show ¬ (false = true) by decide)] at H; exact H
  clear H
  have H := H1
  clear H1
  obtain rfl := Option.some.inj H
  go_enter Tryd.func51, Tryd.ntmps51
  go_wp2_with (first | ((with_reducible refine gate_dst (N := 1) rfl ?_); refine box_event ?hg (N := 1) ?hd (cs := #[.int .i64 a0_0, .int .i64 a0_1, .int .i64 a0_2]) (t := 50) ?hr ?_; (case hd => rfl); (case hg => rfl); (case hr => first | (go_simp; done) | (go_simp; rfl)); intro gb140 hg w11 hbox hb; have n0_ := Aside0.mk (below_step (by repeat (first | (with_reducible first | exact HB.out | apply below_alloc | apply pw_below_drewN | apply below_drew1) | exact HB.out)) hb); have n1_ := Aside0.mk (hbox); have n2_ := Aside0.mk ((by rw [hg]; exact (below_size (by repeat (first | (with_reducible first | exact HB.out | apply below_alloc | apply pw_below_drewN | apply below_drew1) | exact HB.out))) : w.heap.size ≤ gb140)); have n3_ := n2_; clear HB; have HB := n0_; have BK140 := n1_; have GW140 := n2_; have GE140 := n3_; clear n0_ n1_ n2_ n3_; clear hb hbox hg; have hcz12_0 : w11.cell? ⟨gb140, 0, none⟩ = some (.int .i64 a0_0) := (blk_cell BK140.out 0).trans rfl; have hcz12_1 : w11.cell? ⟨gb140, 1, none⟩ = some (.int .i64 a0_1) := (blk_cell BK140.out 1).trans rfl; have hcz12_2 : w11.cell? ⟨gb140, 2, none⟩ = some (.int .i64 a0_2) := (blk_cell BK140.out 2).trans rfl; have hfz12_0 := blk_frozen BK140.out 0; have hfz12_1 := blk_frozen BK140.out 1; have hfz12_2 := blk_frozen BK140.out 2) | ((with_reducible refine gate_callee (f := 48) rfl ?_); refine goesL_ (some 5) rfl rfl Tryd.func48 (by kernel_rfl) rfl #[.int .i64 a0_0, .int .i64 1, .int .i64 40] rfl (by (try simp only [List.map_toArray, List.map_cons, List.map_nil]); first | done | rfl | (simp only [List.length_drop, List.length_take]; rfl)) ?_; (with_reducible refine (impl_inRange.calls a0_0 1 40 false _ A2.out).mono ?_); rintro e w' ⟨rfl, ⟨nd, rfl⟩⟩; refine ⟨_, rfl, ?_⟩))
  go_ret
  exact ⟨by first | rfl | (simp [errW_none, errW_some] <;> rfl) | (simp [*, errW_none, errW_some] <;> rfl), by repeat (first | (with_reducible first | exact HB.out | apply below_alloc | apply pw_below_drewN | apply below_drew1 | refine below_set ?_ GE140.out) | exact HB.out)⟩

def at_from {α : Type} (p : α → Bool) : List α → Int → Int
 | [], _ => -1
 | x :: xs, i => if p x then i else at_from p xs (i + 1)
theorem at_from_hit {α : Type} (p : α → Bool) : ∀ (l : List α) (k : Nat) (i : Int) (h : k < l.length), p l[k] = true → (∀ j (hj : j < k), p (l[j]'(by omega)) = false) → at_from p l i = i + k := by
 intro l
 induction l with
 | nil => intro k i h; simp at h
 | cons x xs ih =>
  intro k i h hp hq
  cases k with
  | zero => simp at hp; simp [at_from, hp]
  | succ k =>
   have h0 := hq 0 (by omega)
   simp at h0
   simp only [at_from, h0]
   have := ih k (i + 1) (by simpa using h) (by simpa using hp) (fun j hj => by have := hq (j + 1) (by omega); simpa using this)
   simp only [Bool.false_eq_true, if_false, this]
   omega
theorem at_from_miss {α : Type} (p : α → Bool) : ∀ (l : List α) (i : Int), (∀ j (hj : j < l.length), p l[j] = false) → at_from p l i = -1 := by
 intro l
 induction l with
 | nil => intro i _; rfl
 | cons x xs ih =>
  intro i hq
  have h0 := hq 0 (by simp)
  simp at h0
  simp only [at_from, h0, Bool.false_eq_true, if_false]
  exact ih (i + 1) (fun j hj => by have := hq (j + 1) (by simpa using hj); simpa using this)
theorem at_from_any {α : Type} (p : α → Bool) : ∀ (l : List α) (i : Int), 0 ≤ i → decide (0 ≤ at_from p l i) = l.any p := by
 intro l
 induction l with
 | nil => intro i _; simp [at_from]
 | cons x xs ih =>
  intro i hi
  have h1 := ih (i + 1) (by omega)
  cases hp : p x with
  | true => simp [at_from, hp, hi]
  | false => simp [at_from, hp]; simpa using h1
theorem impl_IsCatalogue.rd_get (l : List S50) (x : Int) (h0 : 0 ≤ x) (h : x.toNat < l.length) : rd_T50 l x = l[x.toNat] := by
 simp [rd_T50, List.getD_eq_getElem?_getD, List.getElem?_eq_getElem h]
set_option maxHeartbeats 2000000 in
theorem impl_IsCatalogue.index (lb : Array Value) (p : S50 → Bool) (A0 : Option Addr) (c0 : Nat) (l0 : List S50) (w : World)
  (hp : ∀ (W : World) (x : S50), Below w.heap.size w W → Calls Tryd.prog 51 (#[.agg #[.int .i64 x.f0, .int .i64 x.f1, .int .i64 x.f2]] ++ lb) W fun e w' => e = .returned (.bool (p x)) ∧ Below w.heap.size w w')
  (hr0 : Kd.C k50 w A0 l0.length l0) :
  Calls Tryd.prog 61 #[.slice A0 l0.length c0, .func (.func 51) #[] lb] w fun e w' => e = .returned (.int .i64 (at_from p l0 0)) ∧ Below w.heap.size w w' := by
 have HR0 := Aside0.mk hr0
 have HL := Aside0.mk (show (l0.length : Int) ≤ 9223372036854775807 by have := hr0.2.1; omega)
 have HP := Aside0.mk hp
 clear hr0 hp
 have hu50 := Tryd.underlying50
 go_enter Tryd.func61, Tryd.ntmps61
 go_wp2
 go_loopg [5, 8] l0.length (fun gg _ s8 wr => ∃ x : Int, s8 = .int .i64 x ∧ Aside0 (0 ≤ x ∧ x ≤ l0.length ∧ (l0.length : Int) - x ≤ gg) ∧ Aside0 (Below w.heap.size w wr) ∧ Aside0 (∀ (j : Nat) (hj : (j : Int) < x) (hl : j < l0.length), p l0[j] = false))
 case atStart => exact ⟨0, rfl, ⟨by omega⟩, ⟨Below.refl _ w⟩, ⟨fun j hj => by omega⟩⟩
 case round =>
  obtain ⟨x, rfl, XX, BW, AA⟩ := hrel
  by_cases hlt : x < (l0.length : Int)
  ·have hx0 : 0 ≤ x := XX.out.1
   have hltz : decide (x < (l0.length : Int)) = true := decide_eq_true hlt
   have hx1 : x ≤ 9223372036854775806 := by have := HL.out; omega
   have hcall := HP.out wr (rd_T50 l0 x) BW.out
   obtain ⟨ad, ead, hxa, hxb, hxc⟩ := at_T50 (Kd.C_below HR0.out BW.out) x hx0 hlt
   cases ead
   have B : Aside0 (∀ h : x.toNat < l0.length, rd_T50 l0 x = l0[x.toNat]) := ⟨fun h => impl_IsCatalogue.rd_get l0 x hx0 h⟩
   generalize rd_T50 l0 x = y at hcall hxa hxb hxc B
   cases hq : p y with
   | true =>
    have Q : Aside0 (p y = true) := ⟨hq⟩
    rw [hq] at hcall
    clear hq
    have LT : Aside0 (x < (l0.length : Int)) := ⟨hlt⟩
    replace hlt := eq_true hlt
    replace hx0 := eq_true hx0
    go_wp2_with (go_at_call 51; refine hcall.mono ?_; rintro e w' ⟨rfl, hb'⟩)
    go_ret
    refine ⟨?_, hb'⟩
    have h1 := XX.out
    have h2 := LT.out
    rw [at_from_hit p l0 x.toNat 0 (by omega) (by rw [← B.out (by omega)]; exact Q.out) (fun j hj => AA.out j (by omega) (by omega))]
    rw [Int.toNat_of_nonneg (by omega), Int.zero_add]
    rfl
   | false =>
    have Q : Aside0 (p y = false) := ⟨hq⟩
    rw [hq] at hcall
    clear hq
    have LT : Aside0 (x < (l0.length : Int)) := ⟨hlt⟩
    have hx2 : 0 ≤ x + 1 := by omega
    go_wp2_with (go_at_call 51; refine hcall.mono ?_; rintro e w' ⟨rfl, hb'⟩)
    go_roundg ((l0.length : Int) - (x + 1)).toNat
    case measure => have h1 := XX.out; have h2 := LT.out; omega
    case rel =>
     have h1 := XX.out
     have h2 := LT.out
     refine ⟨x + 1, rfl, ⟨by omega⟩, ⟨hb'⟩, ⟨fun j hj hl => ?_⟩⟩
     by_cases e : (j : Int) = x
     ·have hj : j = x.toNat := by omega
      subst hj
      rw [← B.out hl]; exact Q.out
     ·exact AA.out j (by omega) hl
  ·have hltz : decide (x < (l0.length : Int)) = false := decide_eq_false hlt
   have LT : Aside0 (¬ x < (l0.length : Int)) := ⟨hlt⟩
   clear hlt
   go_wp2
   go_ret
   refine ⟨?_, BW.out⟩
   have h2 := LT.out
   rw [at_from_miss p l0 0 (fun j hj => AA.out j (by omega) hj)]
   rfl
set_option maxHeartbeats 2000000 in
theorem impl_IsCatalogue.contains (lb : Array Value) (p : S50 → Bool) (A0 : Option Addr) (c0 : Nat) (l0 : List S50) (w : World)
  (hp : ∀ (W : World) (x : S50), Below w.heap.size w W → Calls Tryd.prog 51 (#[.agg #[.int .i64 x.f0, .int .i64 x.f1, .int .i64 x.f2]] ++ lb) W fun e w' => e = .returned (.bool (p x)) ∧ Below w.heap.size w w')
  (hr0 : Kd.C k50 w A0 l0.length l0) :
  Calls Tryd.prog 50 #[.slice A0 l0.length c0, .func (.func 51) #[] lb] w fun e w' => e = .returned (.bool (l0.any p)) ∧ Below w.heap.size w w' := by
 have E := Aside0.mk (at_from_any p l0 0 (Int.le_refl 0))
 have HC := Aside0.mk (impl_IsCatalogue.index lb p A0 c0 l0 w hp hr0)
 clear hp hr0
 go_enter Tryd.func50, Tryd.ntmps50
 go_wp2_with (go_at_call 61; (with_reducible refine HC.out.mono ?_); rintro e w' ⟨rfl, hb'⟩)
 go_ret
 refine ⟨?_, hb'⟩
 rw [← E.out]
 rfl
def impl_IsCatalogue.good (u : S50) : Bool := decide (1 ≤ u.f0 ∧ u.f0 ≤ 40) && (decide (1 ≤ u.f1 ∧ u.f1 ≤ 40) && decide (0 ≤ u.f2 ∧ u.f2 ≤ 1000))
def impl_IsCatalogue.f (l0 : List S50) : Option (Bool) := some (decide (1 ≤ (l0.length : Int) ∧ (l0.length : Int) ≤ 6) && l0.all impl_IsCatalogue.good)
theorem impl_IsCatalogue.inI (a b c : Int) : impl_inRange.f a b c = some (decide (b ≤ a ∧ a ≤ c)) := by
 unfold impl_inRange.f
 by_cases h : b ≤ a <;> simp [h]
theorem impl_IsCatalogue.lit (u : S50) : impl_IsCatalogue_1.f u.f0 u.f1 u.f2 = some (!impl_IsCatalogue.good u) := by
 unfold impl_IsCatalogue_1.f impl_IsCatalogue.good
 simp only [impl_IsCatalogue.inI, Option.bind_some]
 by_cases h1 : (1 ≤ u.f0 ∧ u.f0 ≤ 40) <;> by_cases h2 : (1 ≤ u.f1 ∧ u.f1 ≤ 40) <;> simp [h1, h2]
theorem impl_IsCatalogue.any_all (l : List S50) : (!l.any fun u => !impl_IsCatalogue.good u) = l.all impl_IsCatalogue.good := by
 induction l with
 | nil => rfl
 | cons x xs ih => simp only [List.any_cons, List.all_cons, ← ih]; cases impl_IsCatalogue.good x <;> simp
set_option maxHeartbeats 2000000 in
theorem impl_IsCatalogue.calls (A0 : Option Addr) (c0 : Nat) (l0 : List S50) (r : Bool) (w : World) (hr0 : Kd.C k50 w A0 l0.length l0) (hc0 : l0.length ≤ c0) (h : impl_IsCatalogue.f l0 = some r) :
  Calls Tryd.prog 32 #[.slice A0 l0.length c0] w fun e w' => e = .returned (.bool r) ∧ Below w.heap.size w w' := by
 unfold impl_IsCatalogue.f at h
 rw [← impl_IsCatalogue.any_all] at h
 have H := Aside0.mk (Option.some.inj h)
 have HC := fun W (hb : Below w.heap.size w W) => impl_IsCatalogue.contains #[] (fun u => !impl_IsCatalogue.good u) A0 c0 l0 W
  (fun W1 x hb1 => (impl_IsCatalogue_1.calls x.f0 x.f1 x.f2 _ W1 (impl_IsCatalogue.lit x)).mono (fun e w' ⟨he, hb'⟩ => ⟨he, hb1.trans (hb'.mono hb1.size)⟩)) (Kd.C_below hr0 hb)
 replace HC := Aside0.mk HC
 have HL := Aside0.mk (impl_Kind_49.calls A0 c0 l0 (l0.length : Int) w hr0 hc0 rfl)
 clear h hr0
 generalize l0.any (fun u => !impl_IsCatalogue.good u) = v at H HC
 have HI := Aside0.mk (impl_IsCatalogue.inI (l0.length : Int) 1 6)
 generalize hd : decide (1 ≤ (l0.length : Int) ∧ (l0.length : Int) ≤ 6) = d at H HI
 clear hd
 cases d with
 | true =>
  go_enter Tryd.func32, Tryd.ntmps32
  go_wp2_with (first | (go_at_call 49; (with_reducible refine HL.out.mono ?_); rintro e w1 ⟨rfl, ⟨nd, rfl⟩⟩) | (go_at_call 48; (with_reducible refine (impl_inRange.calls (l0.length : Int) 1 6 true _ HI.out).mono ?_); rintro e w' ⟨rfl, ⟨nd2, rfl⟩⟩) | (go_at_call 50; (with_reducible refine (HC.out _ (by repeat (first | exact Below.refl _ _ | apply pw_below_drewN))).mono ?_); rintro e w' ⟨rfl, hb'⟩))
  go_ret
  refine ⟨?_, (pw_below_drewN (Below.refl _ _) _).trans hb'⟩
  rw [← H.out]
  rfl
 | false =>
  go_enter Tryd.func32, Tryd.ntmps32
  go_wp2_with (first | (go_at_call 49; (with_reducible refine HL.out.mono ?_); rintro e w1 ⟨rfl, ⟨nd, rfl⟩⟩) | (go_at_call 48; (with_reducible refine (impl_inRange.calls (l0.length : Int) 1 6 false _ HI.out).mono ?_); rintro e w' ⟨rfl, ⟨nd2, rfl⟩⟩))
  go_ret
  refine ⟨?_, by repeat (first | exact Below.refl _ _ | apply pw_below_drewN)⟩
  rw [← H.out]
  rfl

def impl_checkTable.f (a0 : Int) (a1 : Int) (l2 : List (S50)) : Option (Int) := (impl_IsCatalogue.f l2).bind fun t144 => (if t144 = true then ((impl_inRange.f a0 1 40).bind fun t145 => (if t145 = true then ((impl_inRange.f a1 1 40).bind fun t146 => (if t146 = true then (some 0) else (some 2))) else (some 2))) else (some 1))
set_option maxHeartbeats 8000000 in
set_option maxRecDepth 100000 in
theorem impl_checkTable.calls (a0 : Int) (a1 : Int) (A2 : Option Addr) (c2 : Nat) (l2 : List (S50)) (r : Int) (w : World) (hr2 : Kd.C k50 w A2 l2.length l2) (hc2 : l2.length ≤ c2) (h : impl_checkTable.f a0 a1 l2 = some r) :
  Calls Tryd.prog 43 #[.int .i64 a0, .int .i64 a1, .slice A2 l2.length c2] w fun e w' => e = .returned (.int .i64 r) ∧ Below w.heap.size w w' := by
 have HR2 := Aside0.mk hr2
 have HC2 := Aside0.mk hc2
 clear hr2 hc2
 have HB := Aside0.mk (Below.refl w.heap.size w)
 have H : ((impl_IsCatalogue.f l2).bind fun t144 => (if t144 = true then ((impl_inRange.f a0 1 40).bind fun t145 => (if t145 = true then ((impl_inRange.f a1 1 40).bind fun t146 => (if t146 = true then (some 0) else (some 2))) else (some 2))) else (some 1))) = some r := h
 clear h
 replace H := Option.bind_eq_some_iff.mp H
 obtain ⟨t144, A40, H⟩ := H
 replace H : (if t144 = true then ((impl_inRange.f a0 1 40).bind fun t145 => (if t145 = true then ((impl_inRange.f a1 1 40).bind fun t146 => (if t146 = true then (some 0) else (some 2))) else (some 2))) else (some 1)) = some r := H
 have A4 := Aside0.mk A40
 clear A40
 by_cases c5 : t144 = true
 ·subst c5
  have H1 : ((impl_inRange.f a0 1 40).bind fun t145 => (if t145 = true then ((impl_inRange.f a1 1 40).bind fun t146 => (if t146 = true then (some 0) else (some 2))) else (some 2))) = some r := by rw [if_pos rfl] at H; exact H
  clear H
  have H := H1
  clear H1
  replace H := Option.bind_eq_some_iff.mp H
  obtain ⟨t145, A60, H⟩ := H
  replace H : (if t145 = true then ((impl_inRange.f a1 1 40).bind fun t146 => (if t146 = true then (some 0) else (some 2))) else (some 2)) = some r := H
  have A6 := Aside0.mk A60
  clear A60
  by_cases c7 : t145 = true
  ·subst c7
   have H1 : ((impl_inRange.f a1 1 40).bind fun t146 => (if t146 = true then (some 0) else (some 2))) = some r := by rw [if_pos rfl] at H; exact H
   clear H
   have H := H1
   clear H1
   replace H := Option.bind_eq_some_iff.mp H
   obtain ⟨t146, A80, H⟩ := H
   replace H : (if t146 = true then (some 0) else (some 2)) = some r := H
   have A8 := Aside0.mk A80
   clear A80
   by_cases c9 : t146 = true
   ·subst c9
    have H1 : (some 0) = some r := by rw [if_pos rfl] at H; exact H
    clear H
    have H := H1
    clear H1
    obtain rfl := Option.some.inj H
    go_enter Tryd.func43, Tryd.ntmps43
    go_wp2_with (first | ((with_reducible refine gate_callee (f := 32) rfl ?_); refine goesL_ (some 9) rfl rfl Tryd.func32 (by kernel_rfl) rfl #[.slice A2 l2.length c2] rfl (by (try simp only [List.map_toArray, List.map_cons, List.map_nil]); first | done | rfl | (simp only [List.length_drop, List.length_take]; rfl)) ?_; (with_reducible refine (impl_IsCatalogue.calls _ _ l2 true _ ?side1 ?side2 A4.out).mono ?_); (case side1 => repeat (first | exact HR2.out | (with_reducible refine Kd.C_alloc ?_ _) | (with_reducible refine Kd.C_drewN ?_ _) | (with_reducible refine Kd.C_drew ?_))); (case side2 => exact HC2.out); rintro e w10 ⟨rfl, hb⟩; refine ⟨_, rfl, ?_⟩; have n0_ := Aside0.mk (below_step (by repeat (first | (with_reducible first | exact HB.out | apply below_alloc | apply pw_below_drewN | apply below_drew1) | exact HB.out)) hb); clear HB; have HB := n0_; clear n0_; (try clear hb)) | ((with_reducible refine gate_callee (f := 48) rfl ?_); refine goesL_ (some 13) rfl rfl Tryd.func48 (by kernel_rfl) rfl #[.int .i64 a0, .int .i64 1, .int .i64 40] rfl (by (try simp only [List.map_toArray, List.map_cons, List.map_nil]); first | done | rfl | (simp only [List.length_drop, List.length_take]; rfl)) ?_; (with_reducible refine (impl_inRange.calls a0 1 40 true _ A6.out).mono ?_); rintro e w' ⟨rfl, ⟨nd, rfl⟩⟩; refine ⟨_, rfl, ?_⟩) | (go_at_call 48; (with_reducible refine (impl_inRange.calls a1 1 40 true _ A8.out).mono ?_); rintro e w' ⟨rfl, ⟨nd, rfl⟩⟩))
    go_ret
    exact ⟨by first | rfl | (simp [errW_none, errW_some] <;> rfl) | (simp [*, errW_none, errW_some] <;> rfl), by repeat (first | (with_reducible first | exact HB.out | apply below_alloc | apply pw_below_drewN | apply below_drew1) | exact HB.out)⟩
   ·replace c9 := Bool.eq_false_iff.mpr c9
    subst c9
    have H1 : (some 2) = some r := by rw [if_neg (show ¬ (false = true) by decide)] at H; exact H
    clear H
    have H := H1
    clear H1
    obtain rfl := Option.some.inj H
    go_enter Tryd.func43, Tryd.ntmps43
    go_wp2_with (first | ((with_reducible refine gate_callee (f := 32) rfl ?_); refine goesL_ (some 9) rfl rfl Tryd.func32 (by kernel_rfl) rfl #[.slice A2 l2.length c2] rfl (by (try simp only [List.map_toArray, List.map_cons, List.map_nil]); first | done | rfl | (simp only [List.length_drop, List.length_take]; rfl)) ?_; (with_reducible refine (impl_IsCatalogue.calls _ _ l2 true _ ?side1 ?side2 A4.out).mono ?_); (case side1 => repeat (first | exact HR2.out | (with_reducible refine Kd.C_alloc ?_ _) | (with_reducible refine Kd.C_drewN ?_ _) | (with_reducible refine Kd.C_drew ?_))); (case side2 => exact HC2.out); rintro e w11 ⟨rfl, hb⟩; refine ⟨_, rfl, ?_⟩; have n0_ := Aside0.mk (below_step (by repeat (first | (with_reducible first | exact HB.out | apply below_alloc | apply pw_below_drewN | apply below_drew1) | exact HB.out)) hb); clear HB; have HB := n0_; clear n0_; (try clear hb)) | ((with_reducible refine gate_callee (f := 48) rfl ?_); refine goesL_ (some 13) rfl rfl Tryd.func48 (by kernel_rfl) rfl #[.int .i64 a0, .int .i64 1, .int .i64 40] rfl (by (try simp only [List.map_toArray, List.map_cons, List.map_nil]); first | done | rfl | (simp only [List.length_drop, List.length_take]; rfl)) ?_; (with_reducible refine (impl_inRange.calls a0 1 40 true _ A6.out).mono ?_); rintro e w' ⟨rfl, ⟨nd, rfl⟩⟩; refine ⟨_, rfl, ?_⟩) | (go_at_call 48; (with_reducible refine (impl_inRange.calls a1 1 40 false _ A8.out).mono ?_); rintro e w' ⟨rfl, ⟨nd, rfl⟩⟩))
    go_ret
    exact ⟨by first | rfl | (simp [errW_none, errW_some] <;> rfl) | (simp [*, errW_none, errW_some] <;> rfl), by repeat (first | (with_reducible first | exact HB.out | apply below_alloc | apply pw_below_drewN | apply below_drew1) | exact HB.out)⟩
  ·replace c7 := Bool.eq_false_iff.mpr c7
   subst c7
   have H1 : (some 2) = some r := by rw [if_neg (show ¬ (false = true) by decide)] at H; exact H
   clear H
   have H := H1
   clear H1
   obtain rfl := Option.some.inj H
   go_enter Tryd.func43, Tryd.ntmps43
   go_wp2_with (first | ((with_reducible refine gate_callee (f := 32) rfl ?_); refine goesL_ (some 9) rfl rfl Tryd.func32 (by kernel_rfl) rfl #[.slice A2 l2.length c2] rfl (by (try simp only [List.map_toArray, List.map_cons, List.map_nil]); first | done | rfl | (simp only [List.length_drop, List.length_take]; rfl)) ?_; (with_reducible refine (impl_IsCatalogue.calls _ _ l2 true _ ?side1 ?side2 A4.out).mono ?_); (case side1 => repeat (first | exact HR2.out | (with_reducible refine Kd.C_alloc ?_ _) | (with_reducible refine Kd.C_drewN ?_ _) | (with_reducible refine Kd.C_drew ?_))); (case side2 => exact HC2.out); rintro e w12 ⟨rfl, hb⟩; refine ⟨_, rfl, ?_⟩; have n0_ := Aside0.mk (below_step (by repeat (first | (with_reducible first | exact HB.out | apply below_alloc | apply pw_below_drewN | apply below_drew1) | exact HB.out)) hb); clear HB; have HB := n0_; clear n0_; (try clear hb)) | ((with_reducible refine gate_callee (f := 48) rfl ?_); refine goesL_ (some 13) rfl rfl Tryd.func48 (by kernel_rfl) rfl #[.int .i64 a0, .int .i64 1, .int .i64 40] rfl (by (try simp only [List.map_toArray, List.map_cons, List.map_nil]); first | done | rfl | (simp only [List.length_drop, List.length_take]; rfl)) ?_; (with_reducible refine (impl_inRange.calls a0 1 40 false _ A6.out).mono ?_); rintro e w' ⟨rfl, ⟨nd, rfl⟩⟩; refine ⟨_, rfl, ?_⟩))
   go_ret
   exact ⟨by first | rfl | (simp [errW_none, errW_some] <;> rfl) | (simp [*, errW_none, errW_some] <;> rfl), by repeat (first | (with_reducible first | exact HB.out | apply below_alloc | apply pw_below_drewN | apply below_drew1) | exact HB.out)⟩
 ·replace c5 := Bool.eq_false_iff.mpr c5
  subst c5
  have H1 : (some 1) = some r := by rw [if_neg (show ¬ (false = true) by decide)] at H; exact H
  clear H
  have H := H1
  clear H1
  obtain rfl := Option.some.inj H
  go_enter Tryd.func43, Tryd.ntmps43
  go_wp2_with (first | ((with_reducible refine gate_callee (f := 32) rfl ?_); refine goesL_ (some 9) rfl rfl Tryd.func32 (by kernel_rfl) rfl #[.slice A2 l2.length c2] rfl (by (try simp only [List.map_toArray, List.map_cons, List.map_nil]); first | done | rfl | (simp only [List.length_drop, List.length_take]; rfl)) ?_; (with_reducible refine (impl_IsCatalogue.calls _ _ l2 false _ ?side1 ?side2 A4.out).mono ?_); (case side1 => repeat (first | exact HR2.out | (with_reducible refine Kd.C_alloc ?_ _) | (with_reducible refine Kd.C_drewN ?_ _) | (with_reducible refine Kd.C_drew ?_))); (case side2 => exact HC2.out); rintro e w13 ⟨rfl, hb⟩; refine ⟨_, rfl, ?_⟩; have n0_ := Aside0.mk (below_step (by repeat (first | (with_reducible first | exact HB.out | apply below_alloc | apply pw_below_drewN | apply below_drew1) | exact HB.out)) hb); clear HB; have HB := n0_; clear n0_; (try clear hb)))
  go_ret
  exact ⟨by first | rfl | (simp [errW_none, errW_some] <;> rfl) | (simp [*, errW_none, errW_some] <;> rfl), by repeat (first | (with_reducible first | exact HB.out | apply below_alloc | apply pw_below_drewN | apply below_drew1) | exact HB.out)⟩

end Go.Proofs.YtomddpdfcdnaaaaDoor.PFnBestPlans
