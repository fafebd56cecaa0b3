import Derived.Test.YthmeohanbggnlaaPFnLinesOfBooksx0
import Derived.Test.YthmeohanbggnlaaPFnLinesOfBooksx3
import Derived.Test.YthmeohanbggnlaaPFnLinesOfBooksx7
namespace Go.Proofs.Ythmeohanbggnlaa.PFnLinesOfBooks
open Go.RowKit Go.Proofs.YthmeohanbggnlaaW.PrintWords Go.Proofs.YthmeohanbggnlaaW.PrintLast Go.Proofs.YthmeohanbggnlaaW.PrintMore
attribute [local go_sem] max2_int min2_int max_two min_two max_three min_three max_four min_four   -- for this text's walks alone
theorem ak_ {p : Prop} (h : p) : Aside0 p := ⟨h⟩
set_option linter.unusedVariables false
set_option linter.unusedSimpArgs false

mutual
def spec_l14Draw.l0 : Nat → Int → Int → List (S55) → Int → List Int → Int → Int → Option (Int × Int × (List (S55)) × Int × Int)
 | 0, _, _, _, _, _, _, _ => none
 | k + 1, x5, x6, x7, x8, x1000, x1001, x1002 => if x8 > 0 then ((spec_l01Next.f x1000 x1001 x1002 x6).bind fun bt285 => ((spec_l01Next.f x1000 bt285.2.1 bt285.2.2 x5).bind fun bt288 => ((spec_l01Next.f x1000 bt288.2.1 bt288.2.2 4).bind fun bt291 => (if (wrap64 (1 + bt291.1)) = 4 then ((spec_l01Next.f x1000 bt291.2.1 bt291.2.2 (wrap64 (x5 - 1))).bind fun bt295 => (if x5 = 0 then (none) else (spec_l14Draw.j1 k x5 x6 x7 x8 x1000 bt295.2.1 bt295.2.2 bt285.1 bt288.1 (wrap64 (1 + bt291.1)) (Int.tmod (wrap64 ((wrap64 (bt288.1 + 1)) + bt295.1)) x5)))) else (spec_l14Draw.j1 k x5 x6 x7 x8 x1000 bt291.2.1 bt291.2.2 bt285.1 bt288.1 (wrap64 (1 + bt291.1)) 0))))) else ((spec_l01Next.f x1000 x1001 x1002 40).bind fun bt326 => (if bt326.1 = 0 then ((spec_l01Pick.f x1000 bt326.2.1 bt326.2.2 (([0, 12, 13] : List Int))).bind fun bt332 => (some (bt332.1, x6, x7, bt332.2.1, bt332.2.2))) else (if bt326.1 = 1 then ((spec_l01Pick.f x1000 bt326.2.1 bt326.2.2 (([(-1), 40, 41] : List Int))).bind fun bt338 => (some (x5, bt338.1, x7, bt338.2.1, bt338.2.2))) else (if bt326.1 = 2 then ((spec_l01Pick.f x1000 bt326.2.1 bt326.2.2 (([0, 1, 5] : List Int))).bind fun bt344 => ((spec_l01Pick.f x1000 bt344.2.1 bt344.2.2 (([0, 1, (-1)] : List Int))).bind fun bt350 => ((some (([(⟨0, 0, bt344.1, bt350.1⟩ : S55)] : List (S55)) : List (S55))).bind fun y353 => (if x7.length + y353.length < 4398046511104 then (some (x5, x6, (x7 ++ y353), bt350.2.1, bt350.2.2)) else (none))))) else (if bt326.1 = 3 then (spec_l14Draw.l1 k x5 (([] : List (S55))) 0 x1000 bt326.2.1 bt326.2.2) else (some (x5, x6, x7, bt326.2.1, bt326.2.2)))))))
def spec_l14Draw.j1 : Nat → Int → Int → List (S55) → Int → List Int → Int → Int → Int → Int → Int → Int → Option (Int × Int × (List (S55)) × Int × Int)
 | 0, _, _, _, _, _, _, _, _, _, _, _ => none
 | k + 1, x5, x6, x7, x8, x1000, x1001, x1002, x295000, x295001, x295002, x295003 => (some (([] : List (S55)) : List (S55))).bind fun y298 => (if y298.length + x7.length < 4398046511104 then ((some (y298 ++ x7 : List (S55))).bind fun y301 => ((some (([(⟨x295000, x295001, x295002, x295003⟩ : S55)] : List (S55)) : List (S55))).bind fun y304 => (if y301.length + y304.length < 4398046511104 then ((spec_AreFaults.f k x5 x6 (y301 ++ y304)).bind fun t310 => (if t310 = true then ((some (([(⟨x295000, x295001, x295002, x295003⟩ : S55)] : List (S55)) : List (S55))).bind fun y314 => (if x7.length + y314.length < 4398046511104 then (spec_l14Draw.l0 k x5 x6 (x7 ++ y314) (wrap64 (x8 - 1)) x1000 x1001 x1002) else (none))) else ((spec_l01Next.f x1000 x1001 x1002 30).bind fun bt311 => (if bt311.1 = 0 then ((some (([(⟨x295000, x295001, x295002, x295003⟩ : S55)] : List (S55)) : List (S55))).bind fun y320 => (if x7.length + y320.length < 4398046511104 then (spec_l14Draw.l0 k x5 x6 (x7 ++ y320) (wrap64 (x8 - 1)) x1000 bt311.2.1 bt311.2.2) else (none))) else (spec_l14Draw.l0 k x5 x6 x7 (wrap64 (x8 - 1)) x1000 bt311.2.1 bt311.2.2))))) else (none)))) else (none))
def spec_l14Draw.l1 : Nat → Int → List (S55) → Int → List Int → Int → Int → Option (Int × Int × (List (S55)) × Int × Int)
 | 0, _, _, _, _, _, _ => none
 | k + 1, x5, x7, x10, x1000, x1001, x1002 => (spec_l01Next.f x1000 x1001 x1002 2).bind fun bt362 => (if x10 < (wrap64 (20 + bt362.1)) then ((some (([(⟨x10, 0, 1, 0⟩ : S55)] : List (S55)) : List (S55))).bind fun y365 => (if x7.length + y365.length < 4398046511104 then (spec_l14Draw.l1 k x5 (x7 ++ y365) (wrap64 (x10 + 1)) x1000 bt362.2.1 bt362.2.2) else (none))) else (some (x5, 30, x7, bt362.2.1, bt362.2.2)))
end
def spec_l14Draw.f (k : Nat) (s0_0 : List Int) (s0_1 : Int) (s0_2 : Int) : Option (Int × Int × (List (S55)) × Int × Int) := (spec_l01Next.f s0_0 s0_1 s0_2 6).bind fun bt273 => ((spec_l01Next.f s0_0 bt273.2.1 bt273.2.2 8).bind fun bt276 => ((spec_l01Next.f s0_0 bt276.2.1 bt276.2.2 5).bind fun bt282 => (spec_l14Draw.l0 k (wrap64 (1 + bt273.1)) bt276.1 (([] : List (S55))) bt282.1 s0_0 bt282.2.1 bt282.2.2)))
theorem spec_l14Draw.mono_l : ∀ k, (∀ y0 y1 y2 y3 y4 y5 y6, LeO (spec_l14Draw.l0 k y0 y1 y2 y3 y4 y5 y6) (spec_l14Draw.l0 (k + 1) y0 y1 y2 y3 y4 y5 y6)) ∧ (∀ y0 y1 y2 y3 y4 y5 y6 y7 y8 y9 y10, LeO (spec_l14Draw.j1 k y0 y1 y2 y3 y4 y5 y6 y7 y8 y9 y10) (spec_l14Draw.j1 (k + 1) y0 y1 y2 y3 y4 y5 y6 y7 y8 y9 y10)) ∧ (∀ y0 y1 y2 y3 y4 y5, LeO (spec_l14Draw.l1 k y0 y1 y2 y3 y4 y5) (spec_l14Draw.l1 (k + 1) y0 y1 y2 y3 y4 y5))
 | 0 => ⟨fun _ _ _ _ _ _ _ r h => by simp [spec_l14Draw.l0] at h, fun _ _ _ _ _ _ _ _ _ _ _ r h => by simp [spec_l14Draw.j1] at h, fun _ _ _ _ _ _ r h => by simp [spec_l14Draw.l1] at h⟩
 | k + 1 => by
  obtain ⟨ih0, ih1, ih2⟩ := spec_l14Draw.mono_l k
  refine ⟨?_, ?_, ?_⟩
  ·intro y0 y1 y2 y3 y4 y5 y6
   unfold spec_l14Draw.l0
   repeat' first
   | (with_reducible exact ih0 _ _ _ _ _ _ _)
   | (with_reducible exact ih1 _ _ _ _ _ _ _ _ _ _ _)
   | (with_reducible exact ih2 _ _ _ _ _ _)
   | (with_reducible exact spec_AreFaults.mono _ _ _ _)
   | (with_reducible exact LeO.refl _)
   | (with_reducible exact LeO.none _)
   | (with_reducible refine LeO.ite ?_ ?_)
   | (with_reducible refine LeO.bind ?_ (fun _ => ?_))
   | exact ih0 _ _ _ _ _ _ _
   | exact ih1 _ _ _ _ _ _ _ _ _ _ _
   | exact ih2 _ _ _ _ _ _
   | exact spec_AreFaults.mono _ _ _ _
   | exact LeO.none _
   | refine LeO.ite ?_ ?_
   | refine LeO.bind ?_ (fun _ => ?_)
  ·intro y0 y1 y2 y3 y4 y5 y6 y7 y8 y9 y10
   unfold spec_l14Draw.j1
   repeat' first
   | (with_reducible exact ih0 _ _ _ _ _ _ _)
   | (with_reducible exact ih1 _ _ _ _ _ _ _ _ _ _ _)
   | (with_reducible exact ih2 _ _ _ _ _ _)
   | (with_reducible exact spec_AreFaults.mono _ _ _ _)
   | (with_reducible exact LeO.refl _)
   | (with_reducible exact LeO.none _)
   | (with_reducible refine LeO.ite ?_ ?_)
   | (with_reducible refine LeO.bind ?_ (fun _ => ?_))
   | exact ih0 _ _ _ _ _ _ _
   | exact ih1 _ _ _ _ _ _ _ _ _ _ _
   | exact ih2 _ _ _ _ _ _
   | exact spec_AreFaults.mono _ _ _ _
   | exact LeO.none _
   | refine LeO.ite ?_ ?_
   | refine LeO.bind ?_ (fun _ => ?_)
  ·intro y0 y1 y2 y3 y4 y5
   unfold spec_l14Draw.l1
   repeat' first
   | (with_reducible exact ih0 _ _ _ _ _ _ _)
   | (with_reducible exact ih1 _ _ _ _ _ _ _ _ _ _ _)
   | (with_reducible exact ih2 _ _ _ _ _ _)
   | (with_reducible exact spec_AreFaults.mono _ _ _ _)
   | (with_reducible exact LeO.refl _)
   | (with_reducible exact LeO.none _)
   | (with_reducible refine LeO.ite ?_ ?_)
   | (with_reducible refine LeO.bind ?_ (fun _ => ?_))
   | exact ih0 _ _ _ _ _ _ _
   | exact ih1 _ _ _ _ _ _ _ _ _ _ _
   | exact ih2 _ _ _ _ _ _
   | exact spec_AreFaults.mono _ _ _ _
   | exact LeO.none _
   | refine LeO.ite ?_ ?_
   | refine LeO.bind ?_ (fun _ => ?_)
theorem spec_l14Draw.mono : ∀ a0 a1 a2 k, LeO (spec_l14Draw.f k a0 a1 a2) (spec_l14Draw.f (k + 1) a0 a1 a2) := by
 intro a0 a1 a2 k
 obtain ⟨ih0, ih1, ih2⟩ := spec_l14Draw.mono_l k
 unfold spec_l14Draw.f
 repeat' first
   | (with_reducible exact ih0 _ _ _ _ _ _ _)
   | (with_reducible exact ih1 _ _ _ _ _ _ _ _ _ _ _)
   | (with_reducible exact ih2 _ _ _ _ _ _)
   | (with_reducible exact spec_AreFaults.mono _ _ _ _)
   | (with_reducible exact LeO.refl _)
   | (with_reducible exact LeO.none _)
   | (with_reducible refine LeO.ite ?_ ?_)
   | (with_reducible refine LeO.bind ?_ (fun _ => ?_))
   | exact ih0 _ _ _ _ _ _ _
   | exact ih1 _ _ _ _ _ _ _ _ _ _ _
   | exact ih2 _ _ _ _ _ _
   | exact spec_AreFaults.mono _ _ _ _
   | exact LeO.none _
   | refine LeO.ite ?_ ?_
   | refine LeO.bind ?_ (fun _ => ?_)
def spec_l14Draw.T8 : Bool × List (List Nat × List Nat) := (true, [([], []), ([0], [0]), ([1], [1]), ([], []), ([], []), ([4], [4]), ([3, 5], [3, 5]), ([2, 6], [2, 6]), ([], []), ([7, 8], [7, 8]), ([0, 1, 2, 3, 4, 5, 6, 7, 8, 9], []), ([10, 9, 6, 0, 1, 2, 3, 4, 5, 6, 7, 8, 9], [9, 10])])
def spec_l14Draw.B8 : List Nat := [0, 1, 3, 0, 0, 16, 56, 127, 0, 511, 1023, 2047]
theorem spec_l14Draw.tab8 : rtab .any (opsOf Try.f70 8) = spec_l14Draw.T8 := by kernel_rfl
theorem spec_l14Draw.bits8 : waitsOk spec_l14Draw.T8.2 spec_l14Draw.B8 = true := by kernel_rfl
def spec_l14Draw.T9 : Bool × List (List Nat × List Nat) := (true, [([], []), ([], []), ([], []), ([], []), ([2, 3], [2, 3]), ([], []), ([5], [5]), ([4, 6, 4], [4, 6]), ([0, 1, 7, 7], [0, 1, 7]), ([8, 8], [8]), ([9], [9]), ([10, 9, 9], [9, 10]), ([11, 9], [9, 11]), ([9, 12], [9, 12])])
def spec_l14Draw.B9 : List Nat := [0, 0, 0, 0, 12, 0, 32, 124, 255, 511, 1023, 2047, 4095, 8191]
theorem spec_l14Draw.tab9 : rtab .any (opsOf Try.f70 9) = spec_l14Draw.T9 := by kernel_rfl
theorem spec_l14Draw.bits9 : waitsOk spec_l14Draw.T9.2 spec_l14Draw.B9 = true := by kernel_rfl
set_option maxHeartbeats 8000000 in
set_option maxRecDepth 100000 in
theorem spec_l14Draw.calls (k : Nat) (g : Nat) (s0_0 : List Int) (s0_1 : Int) (s0_2 : Int) (r1 : Int) (r2 : Int) (r3 : List (S55)) (r4 : Int) (r5 : Int) (w0 w : World) (hI : IsS94 w0 w g s0_0 s0_1 s0_2) (hB : Below w0.heap.size w0 w) (h : spec_l14Draw.f k s0_0 s0_1 s0_2 = some (r1, r2, r3, r4, r5)) :
  Calls Try.prog 70 #[.pointer (some ⟨g, 0, none⟩)] w fun e w' => ∃ v2_ : Value, e = .returned (.tuple #[.int .i64 r1, .int .i64 r2, v2_]) ∧ Kd.R k55 55 w' w.heap.size (fun _ => True) v2_ r3 ∧ IsS94 w0 w' g s0_0 r4 r5 ∧ Below w0.heap.size w0 w' ∧ KeepBut w w' g none := by
 have hu55:=Try.underlying55
 have HI0:=ak_ hI
 have HK:=ak_ (KeepBut.refl w g none)
 have HL:=ak_ hB.size
 clear hI
 have HW0:=ak_ hB.size
 have HB:=ak_ hB
 clear hB
 have H:((spec_l01Next.f s0_0 s0_1 s0_2 6).bind fun bt273=>((spec_l01Next.f s0_0 bt273.2.1 bt273.2.2 8).bind fun bt276=>((spec_l01Next.f s0_0 bt276.2.1 bt276.2.2 5).bind fun bt282=>(spec_l14Draw.l0 k (wrap64 (1+bt273.1)) bt276.1 (([]:List (S55))) bt282.1 s0_0 bt282.2.1 bt282.2.2))))=some (r1,r2,r3,r4,r5):=h
 clear h
 replace H:=Option.bind_eq_some_iff.mp H
 obtain⟨⟨t273,t274,t275⟩,A20,H⟩:=H
 replace H:((spec_l01Next.f s0_0 t274 t275 8).bind fun bt276=>((spec_l01Next.f s0_0 bt276.2.1 bt276.2.2 5).bind fun bt282=>(spec_l14Draw.l0 k (wrap64 (1+t273)) bt276.1 (([]:List (S55))) bt282.1 s0_0 bt282.2.1 bt282.2.2)))=some (r1,r2,r3,r4,r5):=H
 have A2:=ak_ A20
 clear A20
 replace H:=Option.bind_eq_some_iff.mp H
 obtain⟨⟨t276,t277,t278⟩,A30,H⟩:=H
 replace H:((spec_l01Next.f s0_0 t277 t278 5).bind fun bt282=>(spec_l14Draw.l0 k (wrap64 (1+t273)) t276 (([]:List (S55))) bt282.1 s0_0 bt282.2.1 bt282.2.2))=some (r1,r2,r3,r4,r5):=H
 have A3:=ak_ A30
 clear A30
 obtain⟨y279,hy279⟩:∃ y_:List (S55),y_=(([]:List (S55))):=⟨_,rfl⟩
 replace H:((spec_l01Next.f s0_0 t277 t278 5).bind fun bt282=>(spec_l14Draw.l0 k (wrap64 (1+t273)) t276 y279 bt282.1 s0_0 bt282.2.1 bt282.2.2))=some (r1,r2,r3,r4,r5):=by first|(rw [hy279];with_reducible exact H)|(have H2_:=(Option.bind_some _ _).symm.trans H;rw [hy279];with_reducible exact H2_)|(have H2_:=(Option.bind_some _ _).symm.trans H;with_reducible exact H2_)|with_reducible exact H|(rw [hy279];exact H)|exact H
 have Ny279:=ak_ hy279
 clear hy279
 replace H:=Option.bind_eq_some_iff.mp H
 obtain⟨⟨t282,t283,t284⟩,A40,H⟩:=H
 replace H:(spec_l14Draw.l0 k (wrap64 (1+t273)) t276 y279 t282 s0_0 t283 t284)=some (r1,r2,r3,r4,r5):=H
 have A4:=ak_ A40
 clear A40
 have H':=ak_ H
 clear H
 go_enter Try.func70,Try.ntmps70
 go_wp2_with (first|((with_reducible refine gate_callee (f:=72) rfl ?_);refine goesL_ (some 12) rfl rfl Try.func72 (by kernel_rfl) rfl #[.pointer (some ⟨g,0,none⟩),.int .i64 6] rfl (by(try simp only [List.map_toArray,List.map_cons,List.map_nil]);first|done|rfl|(simp only [List.length_drop,List.length_take];rfl)) ?_;(with_reducible refine(spec_l01Next.calls g s0_0 s0_1 s0_2 6 t273 t274 t275 w0 _ ?side1 ?side2 A2.out).mono ?_);(case side1=>repeat(first|(with_reducible first|exact HI0.out|apply IsS94.alloc|apply IsS94.drewN|apply IsS94.drew|apply IsS94.set_1|apply IsS94.set_2)|exact HI0.out));(case side2=>repeat(first|(with_reducible first|exact HB.out|apply below_alloc|apply pw_below_drewN|apply below_drew1|refine below_set ?_ (IsS94.ge HI0.out))|exact HB.out));rintro e w5 ⟨rfl,hi,hb,hk⟩;refine⟨_,rfl,?_⟩;have n0_:=ak_ (KeepBut.trans (by repeat(first|(with_reducible first|exact HK.out|apply KeepBut.set_|apply keep_drewN|apply keep_drew|apply keep_alloc)|exact HK.out)) hk (.inl rfl));have n1_:=ak_ (hb);have n2_:=ak_ (hi);clear HK;clear HB;clear HI0;have HK:=n0_;have HB:=n1_;have HI0:=n2_;clear n0_ n1_ n2_;(try clear hb);(try clear hk);(try clear hi))|((with_reducible refine gate_callee (f:=72) rfl ?_);refine goesL_ (some 15) rfl rfl Try.func72 (by kernel_rfl) rfl #[.pointer (some ⟨g,0,none⟩),.int .i64 8] rfl (by(try simp only [List.map_toArray,List.map_cons,List.map_nil]);first|done|rfl|(simp only [List.length_drop,List.length_take];rfl)) ?_;(with_reducible refine(spec_l01Next.calls g s0_0 t274 t275 8 t276 t277 t278 w0 _ ?side1 ?side2 A3.out).mono ?_);(case side1=>repeat(first|(with_reducible first|exact HI0.out|apply IsS94.alloc|apply IsS94.drewN|apply IsS94.drew|apply IsS94.set_1|apply IsS94.set_2)|exact HI0.out));(case side2=>repeat(first|(with_reducible first|exact HB.out|apply below_alloc|apply pw_below_drewN|apply below_drew1|refine below_set ?_ (IsS94.ge HI0.out))|exact HB.out));rintro e w6 ⟨rfl,hi,hb,hk⟩;refine⟨_,rfl,?_⟩;have n0_:=ak_ (KeepBut.trans (by repeat(first|(with_reducible first|exact HK.out|apply KeepBut.set_|apply keep_drewN|apply keep_drew|apply keep_alloc)|exact HK.out)) hk (.inl rfl));have n1_:=ak_ (hb);have n2_:=ak_ (hi);clear HK;clear HB;clear HI0;have HK:=n0_;have HB:=n1_;have HI0:=n2_;clear n0_ n1_ n2_;(try clear hb);(try clear hk);(try clear hi))|((with_reducible refine gate_dst (N:=16) rfl ?_);refine Kd.R_lit k55 _ 55 ?hg (N:=16) ?hd (xs:=([]:List (S55))) (inner:=[]) (ok:=fun _=>True) (okp:=fun _=>True) ?hr ?hp (fun _ hk=>hk) trivial (Below.refl _ _) (Nat.le_refl _) (by simp) ?_;(case hd=>rfl);(case hg=>rfl);(case hr=>first|(go_simp;done)|(go_simp;rfl));(case hp=>exact(Reps.none _ _));intro v280 w7 ho8 hb hg_ hnew_;clear hg_ hnew_;(first|rw [← Ny279.out] at ho8|(simp only [Int.reduceToNat] at ho8;rw [← Ny279.out] at ho8));have n0_:=ak_ (Kd.R_lower ho8 (keep_size (w:=w) (g:=g) (row:=none) (by repeat(first|(with_reducible first|exact HK.out|apply KeepBut.set_|apply keep_drewN|apply keep_drew|apply keep_alloc)|exact HK.out))));have n1_:=ak_ (IsS94.below (by repeat(first|(with_reducible first|exact HI0.out|apply IsS94.alloc|apply IsS94.drewN|apply IsS94.drew|apply IsS94.set_1|apply IsS94.set_2)|exact HI0.out)) hb);have n2_:=ak_ (KeepBut.trans (by repeat(first|(with_reducible first|exact HK.out|apply KeepBut.set_|apply keep_drewN|apply keep_drew|apply keep_alloc)|exact HK.out)) (KeepBut.of_below hb g none) (.inl rfl));have n3_:=ak_ (below_step (by repeat(first|(with_reducible first|exact HB.out|apply below_alloc|apply pw_below_drewN|apply below_drew1|refine below_set ?_ (IsS94.ge HI0.out))|exact HB.out)) hb);clear HI0;clear HK;clear HB;have HO281:=n0_;have HI0:=n1_;have HK:=n2_;have HB:=n3_;clear n0_ n1_ n2_ n3_;clear hb ho8)|((with_reducible refine gate_callee (f:=72) rfl ?_);refine goesL_ (some 18) rfl rfl Try.func72 (by kernel_rfl) rfl #[.pointer (some ⟨g,0,none⟩),.int .i64 5] rfl (by(try simp only [List.map_toArray,List.map_cons,List.map_nil]);first|done|rfl|(simp only [List.length_drop,List.length_take];rfl)) ?_;(with_reducible refine(spec_l01Next.calls g s0_0 t277 t278 5 t282 t283 t284 w0 _ ?side1 ?side2 A4.out).mono ?_);(case side1=>repeat(first|(with_reducible first|exact HI0.out|apply IsS94.alloc|apply IsS94.drewN|apply IsS94.drew|apply IsS94.set_1|apply IsS94.set_2)|exact HI0.out));(case side2=>repeat(first|(with_reducible first|exact HB.out|apply below_alloc|apply pw_below_drewN|apply below_drew1|refine below_set ?_ (IsS94.ge HI0.out))|exact HB.out));rintro e w9 ⟨rfl,hi,hb,hk⟩;refine⟨_,rfl,?_⟩;have n0_:=ak_ (Kd.R_mono (Kd.R_keep (IsS94.apart (show IsS94 w0 _ g s0_0 t277 t278 from by repeat(first|(with_reducible first|exact HI0.out|apply IsS94.alloc|apply IsS94.drewN|apply IsS94.drew|apply IsS94.set_1|apply IsS94.set_2)|exact HI0.out)) (by(with_reducible repeat(first|apply Kd.R_alloc|apply Kd.R_drewN|apply Kd.R_drew));exact HO281.out) (by decide)) hk (fun _ h=>h.2)) (fun _ h=>h.1));have n1_:=ak_ (KeepBut.trans (by repeat(first|(with_reducible first|exact HK.out|apply KeepBut.set_|apply keep_drewN|apply keep_drew|apply keep_alloc)|exact HK.out)) hk (.inl rfl));have n2_:=ak_ (hb);have n3_:=ak_ (hi);clear HO281;clear HK;clear HB;clear HI0;have HO281:=n0_;have HK:=n1_;have HB:=n2_;have HI0:=n3_;clear n0_ n1_ n2_ n3_;(try clear hb);(try clear hk);(try clear hi)))
 go_loopg [7,8] k (fun kq v7 v8 w'=>∃ (x7_1:List (S55)) (x8_1:Int) (x1001_1:Int) (x1002_1:Int),v8=.int .i64 x8_1∧Aside0 (spec_l14Draw.l0 kq (wrap64 (1+t273)) t276 x7_1 x8_1 s0_0 x1001_1 x1002_1=some (r1,r2,r3,r4,r5))∧Aside0 (kq≤k)∧Aside0 (Kd.R k55 55 w' w.heap.size (fun _=>True) v7 x7_1)∧Aside0 (IsS94 w0 w' g s0_0 x1001_1 x1002_1)∧Aside0 (KeepBut w w' g none)∧Aside0 (Below w0.heap.size w0 w'))
 case atStart=>exact⟨(y279),(t282),(t283),(t284),(by first|rfl|(simp;done)|(simp [*];done)),H',⟨Nat.le_refl _⟩,⟨by(with_reducible repeat(first|apply Kd.R_alloc|apply Kd.R_drewN|apply Kd.R_drew));exact HO281.out⟩,⟨by repeat(first|(with_reducible first|exact HI0.out|apply IsS94.alloc|apply IsS94.drewN|apply IsS94.drew|apply IsS94.set_1|apply IsS94.set_2)|exact HI0.out)⟩,⟨by repeat(first|(with_reducible first|exact HK.out|apply KeepBut.set_|apply keep_drewN|apply keep_drew|apply keep_alloc)|exact HK.out)⟩,⟨by repeat(first|(with_reducible first|exact HB.out|apply below_alloc|apply pw_below_drewN|apply below_drew1|refine below_set ?_ (IsS94.ge HI0.out))|exact HB.out)⟩⟩
 case round =>
  clear H'
  try clear p2
  try clear p6
  try clear c7
  obtain⟨x7_1,x8_1,x1001_1,x1002_1,rfl,HA,HK1,HO_7,HI0,HK,HB⟩:=hrel
  cases gk with
 |zero=>exact absurd HA.out (by simp [spec_l14Draw.l0])
 |succ k1 =>
   have H:=HA.out
   clear HA
   simp only [spec_l14Draw.l0] at H
   by_cases c10:x8_1 > 0
   ·rw [if_pos c10] at H
    have c10b0:decide (0<x8_1)=true:=decide_eq_true c10
    clear c10
    replace H:=Option.bind_eq_some_iff.mp H
    obtain⟨⟨t285,t286,t287⟩,A110,H⟩:=H
    replace H:((spec_l01Next.f s0_0 t286 t287 (wrap64 (1+t273))).bind fun bt288=>((spec_l01Next.f s0_0 bt288.2.1 bt288.2.2 4).bind fun bt291=>(if (wrap64 (1+bt291.1))=4 then ((spec_l01Next.f s0_0 bt291.2.1 bt291.2.2 (wrap64 ((wrap64 (1+t273)) - 1))).bind fun bt295=>(if (wrap64 (1+t273))=0 then (none) else (spec_l14Draw.j1 k1 (wrap64 (1+t273)) t276 x7_1 x8_1 s0_0 bt295.2.1 bt295.2.2 t285 bt288.1 (wrap64 (1+bt291.1)) (Int.tmod (wrap64 ((wrap64 (bt288.1+1))+bt295.1)) (wrap64 (1+t273)))))) else (spec_l14Draw.j1 k1 (wrap64 (1+t273)) t276 x7_1 x8_1 s0_0 bt291.2.1 bt291.2.2 t285 bt288.1 (wrap64 (1+bt291.1)) 0))))=some (r1,r2,r3,r4,r5):=H
    have A11:=ak_ A110
    clear A110
    replace H:=Option.bind_eq_some_iff.mp H
    obtain⟨⟨t288,t289,t290⟩,A120,H⟩:=H
    replace H:((spec_l01Next.f s0_0 t289 t290 4).bind fun bt291=>(if (wrap64 (1+bt291.1))=4 then ((spec_l01Next.f s0_0 bt291.2.1 bt291.2.2 (wrap64 ((wrap64 (1+t273)) - 1))).bind fun bt295=>(if (wrap64 (1+t273))=0 then (none) else (spec_l14Draw.j1 k1 (wrap64 (1+t273)) t276 x7_1 x8_1 s0_0 bt295.2.1 bt295.2.2 t285 t288 (wrap64 (1+bt291.1)) (Int.tmod (wrap64 ((wrap64 (t288+1))+bt295.1)) (wrap64 (1+t273)))))) else (spec_l14Draw.j1 k1 (wrap64 (1+t273)) t276 x7_1 x8_1 s0_0 bt291.2.1 bt291.2.2 t285 t288 (wrap64 (1+bt291.1)) 0)))=some (r1,r2,r3,r4,r5):=H
    have A12:=ak_ A120
    clear A120
    replace H:=Option.bind_eq_some_iff.mp H
    obtain⟨⟨t291,t292,t293⟩,A130,H⟩:=H
    replace H:(if (wrap64 (1+t291))=4 then ((spec_l01Next.f s0_0 t292 t293 (wrap64 ((wrap64 (1+t273)) - 1))).bind fun bt295=>(if (wrap64 (1+t273))=0 then (none) else (spec_l14Draw.j1 k1 (wrap64 (1+t273)) t276 x7_1 x8_1 s0_0 bt295.2.1 bt295.2.2 t285 t288 (wrap64 (1+t291)) (Int.tmod (wrap64 ((wrap64 (t288+1))+bt295.1)) (wrap64 (1+t273)))))) else (spec_l14Draw.j1 k1 (wrap64 (1+t273)) t276 x7_1 x8_1 s0_0 t292 t293 t285 t288 (wrap64 (1+t291)) 0))=some (r1,r2,r3,r4,r5):=H
    have A13:=ak_ A130
    clear A130
    have HC14:=ak_ H
    clear H
    go_upto_if 35 with (first|((with_reducible refine gate_callee (f:=72) rfl ?_);refine goesL_ (some 25) rfl rfl Try.func72 (by kernel_rfl) rfl #[.pointer (some ⟨g,0,none⟩),.int .i64 t276] rfl (by(try simp only [List.map_toArray,List.map_cons,List.map_nil]);first|done|rfl|(simp only [List.length_drop,List.length_take];rfl)) ?_;(with_reducible refine(spec_l01Next.calls g s0_0 x1001_1 x1002_1 t276 t285 t286 t287 w0 _ ?side1 ?side2 A11.out).mono ?_);(case side1=>repeat(first|(with_reducible first|exact HI0.out|apply IsS94.alloc|apply IsS94.drewN|apply IsS94.drew|apply IsS94.set_1|apply IsS94.set_2)|exact HI0.out));(case side2=>repeat(first|(with_reducible first|exact HB.out|apply below_alloc|apply pw_below_drewN|apply below_drew1|refine below_set ?_ (IsS94.ge HI0.out))|exact HB.out));rintro e w15 ⟨rfl,hi,hb,hk⟩;refine⟨_,rfl,?_⟩;have n0_:=ak_ (Kd.R_mono (Kd.R_keep (IsS94.apart (show IsS94 w0 _ g s0_0 x1001_1 x1002_1 from by repeat(first|(with_reducible first|exact HI0.out|apply IsS94.alloc|apply IsS94.drewN|apply IsS94.drew|apply IsS94.set_1|apply IsS94.set_2)|exact HI0.out)) (by(with_reducible repeat(first|apply Kd.R_alloc|apply Kd.R_drewN|apply Kd.R_drew));exact HO_7.out) (by decide)) hk (fun _ h=>h.2)) (fun _ h=>h.1));have n1_:=ak_ (KeepBut.trans (by repeat(first|(with_reducible first|exact HK.out|apply KeepBut.set_|apply keep_drewN|apply keep_drew|apply keep_alloc)|exact HK.out)) hk (.inl rfl));have n2_:=ak_ (hb);have n3_:=ak_ (hi);clear HO_7;clear HK;clear HB;clear HI0;have HO_7:=n0_;have HK:=n1_;have HB:=n2_;have HI0:=n3_;clear n0_ n1_ n2_ n3_;(try clear hb);(try clear hk);(try clear hi))|((with_reducible refine gate_callee (f:=72) rfl ?_);refine goesL_ (some 28) rfl rfl Try.func72 (by kernel_rfl) rfl #[.pointer (some ⟨g,0,none⟩),.int .i64 (wrap64 (1+t273))] rfl (by(try simp only [List.map_toArray,List.map_cons,List.map_nil]);first|done|rfl|(simp only [List.length_drop,List.length_take];rfl)) ?_;(with_reducible refine(spec_l01Next.calls g s0_0 t286 t287 (wrap64 (1+t273)) t288 t289 t290 w0 _ ?side1 ?side2 A12.out).mono ?_);(case side1=>repeat(first|(with_reducible first|exact HI0.out|apply IsS94.alloc|apply IsS94.drewN|apply IsS94.drew|apply IsS94.set_1|apply IsS94.set_2)|exact HI0.out));(case side2=>repeat(first|(with_reducible first|exact HB.out|apply below_alloc|apply pw_below_drewN|apply below_drew1|refine below_set ?_ (IsS94.ge HI0.out))|exact HB.out));rintro e w16 ⟨rfl,hi,hb,hk⟩;refine⟨_,rfl,?_⟩;have n0_:=ak_ (Kd.R_mono (Kd.R_keep (IsS94.apart (show IsS94 w0 _ g s0_0 t286 t287 from by repeat(first|(with_reducible first|exact HI0.out|apply IsS94.alloc|apply IsS94.drewN|apply IsS94.drew|apply IsS94.set_1|apply IsS94.set_2)|exact HI0.out)) (by(with_reducible repeat(first|apply Kd.R_alloc|apply Kd.R_drewN|apply Kd.R_drew));exact HO_7.out) (by decide)) hk (fun _ h=>h.2)) (fun _ h=>h.1));have n1_:=ak_ (KeepBut.trans (by repeat(first|(with_reducible first|exact HK.out|apply KeepBut.set_|apply keep_drewN|apply keep_drew|apply keep_alloc)|exact HK.out)) hk (.inl rfl));have n2_:=ak_ (hb);have n3_:=ak_ (hi);clear HO_7;clear HK;clear HB;clear HI0;have HO_7:=n0_;have HK:=n1_;have HB:=n2_;have HI0:=n3_;clear n0_ n1_ n2_ n3_;(try clear hb);(try clear hk);(try clear hi))|((with_reducible refine gate_callee (f:=72) rfl ?_);refine goesL_ (some 30) rfl rfl Try.func72 (by kernel_rfl) rfl #[.pointer (some ⟨g,0,none⟩),.int .i64 4] rfl (by(try simp only [List.map_toArray,List.map_cons,List.map_nil]);first|done|rfl|(simp only [List.length_drop,List.length_take];rfl)) ?_;(with_reducible refine(spec_l01Next.calls g s0_0 t289 t290 4 t291 t292 t293 w0 _ ?side1 ?side2 A13.out).mono ?_);(case side1=>repeat(first|(with_reducible first|exact HI0.out|apply IsS94.alloc|apply IsS94.drewN|apply IsS94.drew|apply IsS94.set_1|apply IsS94.set_2)|exact HI0.out));(case side2=>repeat(first|(with_reducible first|exact HB.out|apply below_alloc|apply pw_below_drewN|apply below_drew1|refine below_set ?_ (IsS94.ge HI0.out))|exact HB.out));rintro e w17 ⟨rfl,hi,hb,hk⟩;refine⟨_,rfl,?_⟩;have n0_:=ak_ (Kd.R_mono (Kd.R_keep (IsS94.apart (show IsS94 w0 _ g s0_0 t289 t290 from by repeat(first|(with_reducible first|exact HI0.out|apply IsS94.alloc|apply IsS94.drewN|apply IsS94.drew|apply IsS94.set_1|apply IsS94.set_2)|exact HI0.out)) (by(with_reducible repeat(first|apply Kd.R_alloc|apply Kd.R_drewN|apply Kd.R_drew));exact HO_7.out) (by decide)) hk (fun _ h=>h.2)) (fun _ h=>h.1));have n1_:=ak_ (KeepBut.trans (by repeat(first|(with_reducible first|exact HK.out|apply KeepBut.set_|apply keep_drewN|apply keep_drew|apply keep_alloc)|exact HK.out)) hk (.inl rfl));have n2_:=ak_ (hb);have n3_:=ak_ (hi);clear HO_7;clear HK;clear HB;clear HI0;have HO_7:=n0_;have HK:=n1_;have HB:=n2_;have HI0:=n3_;clear n0_ n1_ n2_ n3_;(try clear hb);(try clear hk);(try clear hi))|((with_reducible refine gate_dst (N:=9) rfl ?_);refine box_event ?hg (N:=9) ?hd (cs:=#[.int .i64 0,.int .i64 0,.int .i64 0,.int .i64 0]) (t:=55) ?hr ?_;(case hd=>rfl);(case hg=>rfl);(case hr=>first|(go_simp;done)|(go_simp;rfl));intro q1 hg w18 hbox hb;have n0_:=ak_ (Kd.R_below (Kd.R_elderB (by(with_reducible repeat(first|apply Kd.R_alloc|apply Kd.R_drewN|apply Kd.R_drew));exact HO_7.out) q1 (Nat.le_of_eq hg.symm)) hb);have n1_:=ak_ (IsS94.below (by repeat(first|(with_reducible first|exact HI0.out|apply IsS94.alloc|apply IsS94.drewN|apply IsS94.drew|apply IsS94.set_1|apply IsS94.set_2)|exact HI0.out)) hb);have n2_:=ak_ (KeepBut.trans (by repeat(first|(with_reducible first|exact HK.out|apply KeepBut.set_|apply keep_drewN|apply keep_drew|apply keep_alloc)|exact HK.out)) (KeepBut.of_below hb g none) (.inl rfl));have n3_:=ak_ (below_step (by repeat(first|(with_reducible first|exact HB.out|apply below_alloc|apply pw_below_drewN|apply below_drew1|refine below_set ?_ (IsS94.ge HI0.out))|exact HB.out)) hb);have n4_:=ak_ (hbox);have n5_:=ak_ ((by rw [hg];exact(keep_size (w:=w) (g:=g) (row:=none) (by repeat(first|(with_reducible first|exact HK.out|apply KeepBut.set_|apply keep_drewN|apply keep_drew|apply keep_alloc)|exact HK.out))):w.heap.size≤q1));have n6_:=ak_ ((Nat.le_trans HW0.out (by rw [hg];exact(keep_size (w:=w) (g:=g) (row:=none) (by repeat(first|(with_reducible first|exact HK.out|apply KeepBut.set_|apply keep_drewN|apply keep_drew|apply keep_alloc)|exact HK.out))):w.heap.size≤q1):w0.heap.size≤q1));have n7_:=ak_ ((by rw [hg];exact Nat.ne_of_lt (IsS94.lt (show IsS94 w0 _ g s0_0 t292 t293 from by repeat(first|(with_reducible first|exact HI0.out|apply IsS94.alloc|apply IsS94.drewN|apply IsS94.drew|apply IsS94.set_1|apply IsS94.set_2)|exact HI0.out))):g≠q1));have n8_:=ak_ ((by rw [hg];exact Nat.ne_of_gt (IsS94.lt (show IsS94 w0 _ g s0_0 t292 t293 from by repeat(first|(with_reducible first|exact HI0.out|apply IsS94.alloc|apply IsS94.drewN|apply IsS94.drew|apply IsS94.set_1|apply IsS94.set_2)|exact HI0.out))):q1≠g));clear HO_7;clear HI0;clear HK;clear HB;have HO_7:=n0_;have HI0:=n1_;have HK:=n2_;have HB:=n3_;have q0:=n4_;have GW294:=n5_;have GE294:=n6_;have NB0_294:=n7_;have NB294_0:=n8_;clear n0_ n1_ n2_ n3_ n4_ n5_ n6_ n7_ n8_;clear hb hbox hg;have hnb19:=NB294_0.out;have hnc19:=NB0_294.out;have hcz20_0:w18.cell? ⟨q1,0,none⟩=some (.int .i64 0):=(blk_cell q0.out 0).trans rfl;have hcz20_1:w18.cell? ⟨q1,1,none⟩=some (.int .i64 0):=(blk_cell q0.out 1).trans rfl;have hcz20_2:w18.cell? ⟨q1,2,none⟩=some (.int .i64 0):=(blk_cell q0.out 2).trans rfl;have hcz20_3:w18.cell? ⟨q1,3,none⟩=some (.int .i64 0):=(blk_cell q0.out 3).trans rfl;have hfz20_0:=blk_frozen q0.out 0;have hfz20_1:=blk_frozen q0.out 1;have hfz20_2:=blk_frozen q0.out 2;have hfz20_3:=blk_frozen q0.out 3))
    (try simp only [Act.put,List.setIfInBounds_toArray,List.set_cons_zero,List.set_cons_succ])
    go_cut [] (fun wc=>∃ (kq:Nat) (x1001_13:Int) (x1002_13:Int) (q2:Int),Aside0 (spec_l14Draw.j1 kq (wrap64 (1+t273)) t276 x7_1 x8_1 s0_0 x1001_13 x1002_13 t285 t288 (wrap64 (1+t291)) q2=some (r1,r2,r3,r4,r5))∧Aside0 (kq≤k1)∧Aside0 (Kd.R k55 55 wc w.heap.size (fun k_=>k_≠q1) u7 x7_1)∧Aside0 (wc.heap[q1]?=some (.cells #[.int .i64 t285,.int .i64 t288,.int .i64 (wrap64 (1+t291)),.int .i64 q2] 55 (0,0)))∧Aside0 (IsS94 w0 wc g s0_0 x1001_13 x1002_13)∧Aside0 (KeepBut w wc g none)∧Aside0 (Below w0.heap.size w0 wc))
    case first =>
     have H:=HC14.out
     clear HC14
     by_cases c21:(wrap64 (1+t291))=4
     ·rw [if_pos c21] at H
      have c21b0:((wrap64 (1+t291)) == 4)=true:=beq_iff_eq.mpr c21
      have c21b1:((wrap64 (1+t291)) != 4)=false:=bne_eq_false_iff_eq.mpr c21
      clear c21
      (first|rw [c21b0]|(simp only [i64_w,i32_w];rw [c21b0])|skip)
      replace H:=Option.bind_eq_some_iff.mp H
      obtain⟨⟨t295,t296,t297⟩,A220,H⟩:=H
      replace H:(if (wrap64 (1+t273))=0 then (none) else (spec_l14Draw.j1 k1 (wrap64 (1+t273)) t276 x7_1 x8_1 s0_0 t296 t297 t285 t288 (wrap64 (1+t291)) (Int.tmod (wrap64 ((wrap64 (t288+1))+t295)) (wrap64 (1+t273)))))=some (r1,r2,r3,r4,r5):=H
      have A22:=ak_ A220
      clear A220
      by_cases c23:(wrap64 (1+t273))=0
      ·rw [if_pos c23] at H
       exact absurd H (by simp)
      ·rw [if_neg c23] at H
       have c23b0:((wrap64 (1+t273)) == 0)=false:=beq_eq_false_iff_ne.mpr c23
       have c23b1:((wrap64 (1+t273)) != 0)=true:=bne_iff_ne.mpr c23
       have H':=ak_ H
       clear H
       try go_wp2
       have n0_:Aside0 (Kd.R k55 55 ((((w18.setCell ⟨q1,0,none⟩ (.int .i64 t285)).setCell ⟨q1,1,none⟩ (.int .i64 t288)).setCell ⟨q1,2,none⟩ (.int .i64 (wrap64 (1+t291)))).setCell ⟨q1,3,none⟩ (.int .i64 0)) w.heap.size (fun k_=>k_≠q1) u7 x7_1):=⟨by(with_reducible repeat(first|apply Kd.R_alloc|apply Kd.R_drewN|apply Kd.R_drew));exact Kd.R_mono (Kd.R_far (p:=⟨q1,3,none⟩) (Kd.R_far (p:=⟨q1,2,none⟩) (Kd.R_far (p:=⟨q1,1,none⟩) (Kd.R_far (p:=⟨q1,0,none⟩) (Kd.R_mono HO_7.out (fun k_ hk=>(⟨hk,hk.2⟩:_∧k_≠q1))) (fun _ hk=>hk.2) (.int .i64 t285)) (fun _ hk=>hk.2) (.int .i64 t288)) (fun _ hk=>hk.2) (.int .i64 (wrap64 (1+t291)))) (fun _ hk=>hk.2) (.int .i64 0)) (fun _ hk=>hk.1.2)⟩
       have n1_:Aside0 (((((w18.setCell ⟨q1,0,none⟩ (.int .i64 t285)).setCell ⟨q1,1,none⟩ (.int .i64 t288)).setCell ⟨q1,2,none⟩ (.int .i64 (wrap64 (1+t291)))).setCell ⟨q1,3,none⟩ (.int .i64 0)).heap[q1]?=some (.cells #[.int .i64 t285,.int .i64 t288,.int .i64 (wrap64 (1+t291)),.int .i64 0] 55 (0,0))):=⟨by(with_reducible repeat(first|refine blk_drewN ?_ _|refine blk_drew ?_|refine blk_alloc ?_ _));refine blk_put (cs:=#[.int .i64 t285,.int .i64 t288,.int .i64 (wrap64 (1+t291)),.int .i64 0]) ?_ 3 _ rfl;(with_reducible repeat(first|refine blk_drewN ?_ _|refine blk_drew ?_|refine blk_alloc ?_ _));refine blk_put (cs:=#[.int .i64 t285,.int .i64 t288,.int .i64 0,.int .i64 0]) ?_ 2 _ rfl;(with_reducible repeat(first|refine blk_drewN ?_ _|refine blk_drew ?_|refine blk_alloc ?_ _));refine blk_put (cs:=#[.int .i64 t285,.int .i64 0,.int .i64 0,.int .i64 0]) ?_ 1 _ rfl;(with_reducible repeat(first|refine blk_drewN ?_ _|refine blk_drew ?_|refine blk_alloc ?_ _));refine blk_put (cs:=#[.int .i64 0,.int .i64 0,.int .i64 0,.int .i64 0]) ?_ 0 _ rfl;(with_reducible repeat(first|refine blk_drewN ?_ _|refine blk_drew ?_|refine blk_alloc ?_ _));exact q0.out⟩
       have n2_:Aside0 (IsS94 w0 ((((w18.setCell ⟨q1,0,none⟩ (.int .i64 t285)).setCell ⟨q1,1,none⟩ (.int .i64 t288)).setCell ⟨q1,2,none⟩ (.int .i64 (wrap64 (1+t291)))).setCell ⟨q1,3,none⟩ (.int .i64 0)) g s0_0 t292 t293):=⟨by repeat(first|(with_reducible first|exact HI0.out|apply IsS94.alloc|apply IsS94.drewN|apply IsS94.drew|apply IsS94.set_1|apply IsS94.set_2|refine IsS94.far ?_ NB0_294.out _)|exact HI0.out)⟩
       have n3_:Aside0 (KeepBut w ((((w18.setCell ⟨q1,0,none⟩ (.int .i64 t285)).setCell ⟨q1,1,none⟩ (.int .i64 t288)).setCell ⟨q1,2,none⟩ (.int .i64 (wrap64 (1+t291)))).setCell ⟨q1,3,none⟩ (.int .i64 0)) g none):=⟨by repeat(first|(with_reducible first|exact HK.out|apply KeepBut.set_|apply keep_drewN|apply keep_drew|apply keep_alloc|refine keep_far ?_ GW294.out _)|exact HK.out)⟩
       have n4_:Aside0 (Below w0.heap.size w0 ((((w18.setCell ⟨q1,0,none⟩ (.int .i64 t285)).setCell ⟨q1,1,none⟩ (.int .i64 t288)).setCell ⟨q1,2,none⟩ (.int .i64 (wrap64 (1+t291)))).setCell ⟨q1,3,none⟩ (.int .i64 0))):=⟨by repeat(first|(with_reducible first|exact HB.out|apply below_alloc|apply pw_below_drewN|apply below_drew1|refine below_set ?_ (IsS94.ge HI0.out)|refine below_set ?_ GE294.out)|exact HB.out)⟩
       (try clear HO_7)
       (try clear q0)
       (try clear HI0)
       (try clear HK)
       (try clear HB)
       generalize ((((w18.setCell ⟨q1,0,none⟩ (.int .i64 t285)).setCell ⟨q1,1,none⟩ (.int .i64 t288)).setCell ⟨q1,2,none⟩ (.int .i64 (wrap64 (1+t291)))).setCell ⟨q1,3,none⟩ (.int .i64 0))=w24 at n0_ n1_ n2_ n3_ n4_ ⊢
       have HO_7:=n0_
       have q0:=n1_
       have HI0:=n2_
       have HK:=n3_
       have HB:=n4_
       clear n0_ n1_ n2_ n3_ n4_
       have n0_:=ak_ (Kd.R_drew HO_7.out)
       have n1_:=ak_ (blk_drew q0.out)
       have n2_:=ak_ (IsS94.drew HI0.out)
       have n3_:=ak_ (keep_drew HK.out)
       have n4_:=ak_ (below_drew1 HB.out)
       clear HO_7
       clear q0
       clear HI0
       clear HK
       clear HB
       have HO_7:=n0_
       have q0:=n1_
       have HI0:=n2_
       have HK:=n3_
       have HB:=n4_
       clear n0_ n1_ n2_ n3_ n4_
       refine start_ (n:=12) (S:=fun w'=>w'.cell? ⟨q1,0,none⟩=some (.int .i64 t285)∧w'.cell? ⟨q1,1,none⟩=some (.int .i64 t288)∧w'.cell? ⟨q1,2,none⟩=some (.int .i64 (wrap64 (1+t291)))∧w'.cell? ⟨q1,3,none⟩=some (.int .i64 0)) (ds:=[11]) #[false,false,false,false,false,false,false,false,false,false,false,false] (by kernel_rfl) rfl rfl ⟨(blk_cell q0.out 0).trans rfl,(blk_cell q0.out 1).trans rfl,(blk_cell q0.out 2).trans rfl,(blk_cell q0.out 3).trans rfl⟩ (fun hHeld=>?_);refine with_tabW spec_l14Draw.tab8 spec_l14Draw.bits8 (fun HT_ HW_=>?_)
       generalize w24.drew=w25 at HO_7 q0 HI0 HK HB hHeld ⊢
       refine pure_ (i:=0) (N:=some 36) (v:=?_) (a':=?_) #[true,false,false,false,false,false,false,false,false,false,false,false] rfl rfl (any_of HT_.out (by kernel_rfl)) (fun _ _ _ h=>h) (Or.inl ⟨by rfl,?_⟩) ?_ ?_
       rotate_left
       ·intro w'
        go_simp
        with_reducible rfl
       rotate_left
       ·simp only [Act.put,List.setIfInBounds_toArray,List.set_cons_zero,List.set_cons_succ,i64_w,i32_w]
        rfl
       refine pure_ (i:=3) (N:=some 39) (v:=?_) (a':=?_) #[true,false,false,true,false,false,false,false,false,false,false,false] rfl rfl (any_of HT_.out (by kernel_rfl)) (fun _ _ _ h=>h) (Or.inl ⟨by rfl,?_⟩) ?_ ?_
       rotate_left
       ·intro w'
        go_simp
        with_reducible rfl
       rotate_left
       ·simp only [Act.put,List.setIfInBounds_toArray,List.set_cons_zero,List.set_cons_succ,i64_w,i32_w]
        rfl
       refine pure_ (i:=4) (N:=some 40) (v:=?_) (a':=?_) #[true,false,false,true,true,false,false,false,false,false,false,false] rfl rfl (any_of HT_.out (by kernel_rfl)) (fun _ _ _ h=>h) (Or.inl ⟨by rfl,?_⟩) ?_ ?_
       rotate_left
       ·intro w'
        go_simp
        with_reducible rfl
       rotate_left
       ·simp only [Act.put,List.setIfInBounds_toArray,List.set_cons_zero,List.set_cons_succ,i64_w,i32_w]
        rfl
       refine pure_ (i:=5) (N:=some 41) (v:=?_) (a':=?_) #[true,false,false,true,true,true,false,false,false,false,false,false] rfl rfl (any_of HT_.out (by kernel_rfl)) (fun _ _ _ h=>h) (Or.inl ⟨by rfl,?_⟩) ?_ ?_
       rotate_left
       ·intro w'
        go_simp
        with_reducible rfl
       rotate_left
       ·simp only [Act.put,List.setIfInBounds_toArray,List.set_cons_zero,List.set_cons_succ,i64_w,i32_w]
        rfl
       refine pure_ (i:=8) (N:=some 44) (v:=?_) (a':=?_) #[true,false,false,true,true,true,false,false,true,false,false,false] rfl rfl (any_of HT_.out (by kernel_rfl)) (fun _ _ _ h=>h) (Or.inl ⟨by rfl,?_⟩) ?_ ?_
       rotate_left
       ·intro w'
        go_simp
        with_reducible rfl
       rotate_left
       ·simp only [Act.put,List.setIfInBounds_toArray,List.set_cons_zero,List.set_cons_succ,i64_w,i32_w]
        rfl
       refine take_ (i:=1) (N:=some 37) (v:=?_) (a':=?_) #[true,true,false,true,true,true,false,false,true,false,false,false] rfl rfl (take_ofW HT_.out HW_.out (by kernel_rfl)) (fun _ _ _ h=>h) (Or.inl ⟨by rfl,?_⟩) hHeld ?_ ?_
       rotate_left
       ·rintro w' ⟨s0,s1,s2,s3⟩
        go_simp
        with_reducible rfl
       rotate_left
       ·simp only [Act.put,List.setIfInBounds_toArray,List.set_cons_zero,List.set_cons_succ,i64_w,i32_w]
        rfl
       refine pure_ (i:=2) (N:=some 38) (v:=?_) (a':=?_) #[true,true,true,true,true,true,false,false,true,false,false,false] rfl rfl (any_of HT_.out (by kernel_rfl)) (fun _ _ _ h=>h) (Or.inl ⟨by rfl,?_⟩) ?_ ?_
       rotate_left
       ·intro w'
        go_simp
        with_reducible rfl
       rotate_left
       ·simp only [Act.put,List.setIfInBounds_toArray,List.set_cons_zero,List.set_cons_succ,i64_w,i32_w]
        rfl
       refine one_ (i:=6) (N:=some 42) #[true,true,true,true,true,true,true,false,true,false,false,false] rfl rfl (one_of HT_.out (by kernel_rfl)) (by decide) (fun K hK=>?_)
       refine goes_ Try.func72 (by kernel_rfl) rfl #[.pointer (some ⟨g,0,none⟩),.int .i64 (wrap64 ((wrap64 (1+t273)) - 1))] (by rfl) rfl rfl (by(try simp only [List.map_toArray,List.map_cons,List.map_nil]);first|done|rfl|(simp only [List.length_drop,List.length_take];rfl)) ?_
       with_reducible refine(spec_l01Next.calls g s0_0 t292 t293 (wrap64 ((wrap64 (1+t273)) - 1)) t295 t296 t297 w0 _ ?side1 ?side2 A22.out).mono ?_
       (case side1=>repeat(first|(with_reducible first|exact HI0.out|apply IsS94.alloc|apply IsS94.drewN|apply IsS94.drew|apply IsS94.set_1|apply IsS94.set_2|refine IsS94.far ?_ NB0_294.out _)|exact HI0.out))
       (case side2=>repeat(first|(with_reducible first|exact HB.out|apply below_alloc|apply pw_below_drewN|apply below_drew1|refine below_set ?_ (IsS94.ge HI0.out)|refine below_set ?_ GE294.out)|exact HB.out))
       rintro e w26 ⟨rfl,hi,hb,hk⟩
       refine⟨_,rfl,?_⟩
       have n0_:=ak_ (Kd.R_mono (Kd.R_keep (IsS94.apart (show IsS94 w0 _ g s0_0 t292 t293 from by repeat(first|(with_reducible first|exact HI0.out|apply IsS94.alloc|apply IsS94.drewN|apply IsS94.drew|apply IsS94.set_1|apply IsS94.set_2|refine IsS94.far ?_ NB0_294.out _)|exact HI0.out)) (by(with_reducible repeat(first|apply Kd.R_alloc|apply Kd.R_drewN|apply Kd.R_drew));exact HO_7.out) (by decide)) hk (fun _ h=>h.2)) (fun _ h=>h.1))
       have n1_:=ak_ (KeepBut.blk hk (g':=q1) (o:=.cells #[.int .i64 t285,.int .i64 t288,.int .i64 (wrap64 (1+t291)),.int .i64 0] 55 (0,0)) (by(with_reducible repeat(first|refine blk_drewN ?_ _|refine blk_drew ?_|refine blk_alloc ?_ _));exact q0.out) NB294_0.out (by simp))
       have n2_:=ak_ (KeepBut.trans (by repeat(first|(with_reducible first|exact HK.out|apply KeepBut.set_|apply keep_drewN|apply keep_drew|apply keep_alloc|refine keep_far ?_ GW294.out _)|exact HK.out)) hk (.inl rfl))
       have n3_:=ak_ (hb)
       have n4_:=ak_ (hi)
       clear HO_7
       clear q0
       clear HK
       clear HB
       clear HI0
       have HO_7:=n0_
       have q0:=n1_
       have HK:=n2_
       have HB:=n3_
       have HI0:=n4_
       clear n0_ n1_ n2_ n3_ n4_
       (try clear hb)
       (try clear hb2)
       (try clear hk)
       (try clear hi)
       refine hK.out _ _ ⟨(blk_cell q0.out 0).trans rfl,(blk_cell q0.out 1).trans rfl,(blk_cell q0.out 2).trans rfl,(blk_cell q0.out 3).trans rfl⟩ (fun hHeld=>?_)
       clear hK K
       refine norm_ (a':=?_) ?_ ?_
       rotate_left
       ·show Act.put _ (some 42) _=_
        simp only [Act.put,List.setIfInBounds_toArray,List.set_cons_zero,List.set_cons_succ,i64_w,i32_w]
        rfl
       refine pure_ (i:=7) (N:=some 43) (v:=?_) (a':=?_) #[true,true,true,true,true,true,true,true,true,false,false,false] rfl rfl (any_of HT_.out (by kernel_rfl)) (fun _ _ _ h=>h) (Or.inl ⟨by rfl,?_⟩) ?_ ?_
       rotate_left
       ·intro w'
        go_simp
        with_reducible rfl
       rotate_left
       ·simp only [Act.put,List.setIfInBounds_toArray,List.set_cons_zero,List.set_cons_succ,i64_w,i32_w]
        rfl
       refine pure_ (i:=9) (N:=some 45) (v:=?_) (a':=?_) #[true,true,true,true,true,true,true,true,true,true,false,false] rfl rfl (any_of HT_.out (by kernel_rfl)) (fun _ _ _ h=>h) (Or.inl ⟨by rfl,?_⟩) ?_ ?_
       rotate_left
       ·intro w'
        go_simp
        with_reducible rfl
       rotate_left
       ·simp only [Act.put,List.setIfInBounds_toArray,List.set_cons_zero,List.set_cons_succ,i64_w,i32_w]
        rfl
       refine pure_ (i:=10) (N:=some 46) (v:=?_) (a':=?_) #[true,true,true,true,true,true,true,true,true,true,true,false] rfl rfl (any_of HT_.out (by kernel_rfl)) (fun _ _ _ h=>h) (Or.inl ⟨by rfl,?_⟩) ?_ ?_
       rotate_left
       ·intro w'
        go_simp
        with_reducible rfl
       rotate_left
       ·simp only [Act.put,List.setIfInBounds_toArray,List.set_cons_zero,List.set_cons_succ,i64_w,i32_w]
        rfl
       refine last_ (i:=11) (N:=none) #[true,true,true,true,true,true,true,true,true,true,true,true] rfl rfl (one_of HT_.out (by kernel_rfl)) (by decide) (fun K hK=>?_)
       have hs27:w26.cell? ⟨q1,3,none⟩=some (.int .i64 0):=(blk_cell q0.out 3).trans rfl
       have hfs27:=blk_frozen q0.out 3
       refine skip_ (w1:=?_) (by rfl) rfl ?_ ?_
       rotate_left
       ·go_simp
        rfl
       refine hK.out _ _ ?_
       clear hK K
       refine done_ (done_of HT_.out (by kernel_rfl)) ?_
       try go_wp2
       go_meet
       case rel=>exact⟨_,(t296),(t297),(Int.tmod (wrap64 ((wrap64 (t288+1))+t295)) (wrap64 (1+t273))),H',⟨by have:=HK1.out;first|omega|exact Nat.le_refl _⟩,⟨by(with_reducible repeat(first|apply Kd.R_alloc|apply Kd.R_drewN|apply Kd.R_drew));exact Kd.R_mono (Kd.R_far (p:=⟨q1,3,none⟩) (Kd.R_mono HO_7.out (fun k_ hk=>(⟨hk,hk⟩:_∧k_≠q1))) (fun _ hk=>hk.2) (.int .i64 (Int.tmod (wrap64 ((wrap64 (t288+1))+t295)) (wrap64 (1+t273))))) (fun _ hk=>hk.1)⟩,⟨by(with_reducible repeat(first|refine blk_drewN ?_ _|refine blk_drew ?_|refine blk_alloc ?_ _));refine blk_put (cs:=#[.int .i64 t285,.int .i64 t288,.int .i64 (wrap64 (1+t291)),.int .i64 0]) ?_ 3 _ rfl;(with_reducible repeat(first|refine blk_drewN ?_ _|refine blk_drew ?_|refine blk_alloc ?_ _));exact q0.out⟩,⟨by repeat(first|(with_reducible first|exact HI0.out|apply IsS94.alloc|apply IsS94.drewN|apply IsS94.drew|apply IsS94.set_1|apply IsS94.set_2|refine IsS94.far ?_ NB0_294.out _)|exact HI0.out)⟩,⟨by repeat(first|(with_reducible first|exact HK.out|apply KeepBut.set_|apply keep_drewN|apply keep_drew|apply keep_alloc|refine keep_far ?_ GW294.out _)|exact HK.out)⟩,⟨by repeat(first|(with_reducible first|exact HB.out|apply below_alloc|apply pw_below_drewN|apply below_drew1|refine below_set ?_ (IsS94.ge HI0.out)|refine below_set ?_ GE294.out)|exact HB.out)⟩⟩
     ·rw [if_neg c21] at H
      have c21b0:((wrap64 (1+t291)) == 4)=false:=beq_eq_false_iff_ne.mpr c21
      have c21b1:((wrap64 (1+t291)) != 4)=true:=bne_iff_ne.mpr c21
      (first|rw [c21b0]|(simp only [i64_w,i32_w];rw [c21b0])|skip)
      have H':=ak_ H
      clear H
      go_wp2
      go_meet
      case rel=>exact⟨_,(t292),(t293),(0),H',⟨by have:=HK1.out;first|omega|exact Nat.le_refl _⟩,⟨by(with_reducible repeat(first|apply Kd.R_alloc|apply Kd.R_drewN|apply Kd.R_drew));exact Kd.R_mono (Kd.R_far (p:=⟨q1,3,none⟩) (Kd.R_far (p:=⟨q1,2,none⟩) (Kd.R_far (p:=⟨q1,1,none⟩) (Kd.R_far (p:=⟨q1,0,none⟩) (Kd.R_mono HO_7.out (fun k_ hk=>(⟨hk,hk.2⟩:_∧k_≠q1))) (fun _ hk=>hk.2) (.int .i64 t285)) (fun _ hk=>hk.2) (.int .i64 t288)) (fun _ hk=>hk.2) (.int .i64 (wrap64 (1+t291)))) (fun _ hk=>hk.2) (.int .i64 0)) (fun _ hk=>hk.1.2)⟩,⟨by(with_reducible repeat(first|refine blk_drewN ?_ _|refine blk_drew ?_|refine blk_alloc ?_ _));refine blk_put (cs:=#[.int .i64 t285,.int .i64 t288,.int .i64 (wrap64 (1+t291)),.int .i64 0]) ?_ 3 _ rfl;(with_reducible repeat(first|refine blk_drewN ?_ _|refine blk_drew ?_|refine blk_alloc ?_ _));refine blk_put (cs:=#[.int .i64 t285,.int .i64 t288,.int .i64 0,.int .i64 0]) ?_ 2 _ rfl;(with_reducible repeat(first|refine blk_drewN ?_ _|refine blk_drew ?_|refine blk_alloc ?_ _));refine blk_put (cs:=#[.int .i64 t285,.int .i64 0,.int .i64 0,.int .i64 0]) ?_ 1 _ rfl;(with_reducible repeat(first|refine blk_drewN ?_ _|refine blk_drew ?_|refine blk_alloc ?_ _));refine blk_put (cs:=#[.int .i64 0,.int .i64 0,.int .i64 0,.int .i64 0]) ?_ 0 _ rfl;(with_reducible repeat(first|refine blk_drewN ?_ _|refine blk_drew ?_|refine blk_alloc ?_ _));exact q0.out⟩,⟨by repeat(first|(with_reducible first|exact HI0.out|apply IsS94.alloc|apply IsS94.drewN|apply IsS94.drew|apply IsS94.set_1|apply IsS94.set_2|refine IsS94.far ?_ NB0_294.out _)|exact HI0.out)⟩,⟨by repeat(first|(with_reducible first|exact HK.out|apply KeepBut.set_|apply keep_drewN|apply keep_drew|apply keep_alloc|refine keep_far ?_ GW294.out _)|exact HK.out)⟩,⟨by repeat(first|(with_reducible first|exact HB.out|apply below_alloc|apply pw_below_drewN|apply below_drew1|refine below_set ?_ (IsS94.ge HI0.out)|refine below_set ?_ GE294.out)|exact HB.out)⟩⟩
    case rest =>
     clear HC14
     try clear c1
     try clear c2
     try clear p2
     try clear p6
     try clear c7
     try clear c10
     try clear c10b0
     try clear c19
     try clear c21
     try clear c21b0
     try clear c21b1
     try clear c23
     try clear c23b0
     try clear c23b1
     try clear hcz20_0
     try clear hcz20_1
     try clear hcz20_2
     try clear hcz20_3
     try clear hfz20_0
     try clear hfz20_1
     try clear hfz20_2
     try clear hfz20_3
     try clear p2
     try clear p6
     obtain⟨kq,x1001_13,x1002_13,q2,HA,HJ13,HO_7,q0,HI0,HK,HB⟩:=hcut
     cases kq with
    |zero=>exact absurd HA.out (by simp [spec_l14Draw.j1])
    |succ kj13 =>
      have H:=HA.out
      clear HA
      simp only [spec_l14Draw.j1] at H
      obtain⟨y298,hy298⟩:∃ y_:List (S55),y_=(([]:List (S55))):=⟨_,rfl⟩
      replace H:(if y298.length+x7_1.length<4398046511104 then ((some (y298 ++ x7_1:List (S55))).bind fun y301=>((some (([(⟨t285,t288,(wrap64 (1+t291)),q2⟩:S55)]:List (S55)):List (S55))).bind fun y304=>(if y301.length+y304.length<4398046511104 then ((spec_AreFaults.f kj13 (wrap64 (1+t273)) t276 (y301 ++ y304)).bind fun t310=>(if t310=true then ((some (([(⟨t285,t288,(wrap64 (1+t291)),q2⟩:S55)]:List (S55)):List (S55))).bind fun y314=>(if x7_1.length+y314.length<4398046511104 then (spec_l14Draw.l0 kj13 (wrap64 (1+t273)) t276 (x7_1 ++ y314) (wrap64 (x8_1 - 1)) s0_0 x1001_13 x1002_13) else (none))) else ((spec_l01Next.f s0_0 x1001_13 x1002_13 30).bind fun bt311=>(if bt311.1=0 then ((some (([(⟨t285,t288,(wrap64 (1+t291)),q2⟩:S55)]:List (S55)):List (S55))).bind fun y320=>(if x7_1.length+y320.length<4398046511104 then (spec_l14Draw.l0 kj13 (wrap64 (1+t273)) t276 (x7_1 ++ y320) (wrap64 (x8_1 - 1)) s0_0 bt311.2.1 bt311.2.2) else (none))) else (spec_l14Draw.l0 kj13 (wrap64 (1+t273)) t276 x7_1 (wrap64 (x8_1 - 1)) s0_0 bt311.2.1 bt311.2.2))))) else (none)))) else (none))=some (r1,r2,r3,r4,r5):=by first|(rw [hy298];with_reducible exact H)|(have H2_:=(Option.bind_some _ _).symm.trans H;rw [hy298];with_reducible exact H2_)|(have H2_:=(Option.bind_some _ _).symm.trans H;with_reducible exact H2_)|with_reducible exact H|(rw [hy298];exact H)|exact H
      have Ny298:=ak_ hy298
      clear hy298
      by_cases c28:y298.length+x7_1.length<4398046511104
      ·rw [if_pos c28] at H
       have LMc28:=ak_ c28
       clear c28
       obtain⟨y301,hy301⟩:∃ y_:List (S55),y_=(y298 ++ x7_1):=⟨_,rfl⟩
       replace H:((some (([(⟨t285,t288,(wrap64 (1+t291)),q2⟩:S55)]:List (S55)):List (S55))).bind fun y304=>(if y301.length+y304.length<4398046511104 then ((spec_AreFaults.f kj13 (wrap64 (1+t273)) t276 (y301 ++ y304)).bind fun t310=>(if t310=true then ((some (([(⟨t285,t288,(wrap64 (1+t291)),q2⟩:S55)]:List (S55)):List (S55))).bind fun y314=>(if x7_1.length+y314.length<4398046511104 then (spec_l14Draw.l0 kj13 (wrap64 (1+t273)) t276 (x7_1 ++ y314) (wrap64 (x8_1 - 1)) s0_0 x1001_13 x1002_13) else (none))) else ((spec_l01Next.f s0_0 x1001_13 x1002_13 30).bind fun bt311=>(if bt311.1=0 then ((some (([(⟨t285,t288,(wrap64 (1+t291)),q2⟩:S55)]:List (S55)):List (S55))).bind fun y320=>(if x7_1.length+y320.length<4398046511104 then (spec_l14Draw.l0 kj13 (wrap64 (1+t273)) t276 (x7_1 ++ y320) (wrap64 (x8_1 - 1)) s0_0 bt311.2.1 bt311.2.2) else (none))) else (spec_l14Draw.l0 kj13 (wrap64 (1+t273)) t276 x7_1 (wrap64 (x8_1 - 1)) s0_0 bt311.2.1 bt311.2.2))))) else (none)))=some (r1,r2,r3,r4,r5):=by first|(rw [hy301];with_reducible exact H)|(have H2_:=(Option.bind_some _ _).symm.trans H;rw [hy301];with_reducible exact H2_)|(have H2_:=(Option.bind_some _ _).symm.trans H;with_reducible exact H2_)|with_reducible exact H|(rw [hy301];exact H)|exact H
       have Ny301:=ak_ hy301
       clear hy301
       obtain⟨y304,hy304⟩:∃ y_:List (S55),y_=(([(⟨t285,t288,(wrap64 (1+t291)),q2⟩:S55)]:List (S55))):=⟨_,rfl⟩
       replace H:(if y301.length+y304.length<4398046511104 then ((spec_AreFaults.f kj13 (wrap64 (1+t273)) t276 (y301 ++ y304)).bind fun t310=>(if t310=true then ((some (([(⟨t285,t288,(wrap64 (1+t291)),q2⟩:S55)]:List (S55)):List (S55))).bind fun y314=>(if x7_1.length+y314.length<4398046511104 then (spec_l14Draw.l0 kj13 (wrap64 (1+t273)) t276 (x7_1 ++ y314) (wrap64 (x8_1 - 1)) s0_0 x1001_13 x1002_13) else (none))) else ((spec_l01Next.f s0_0 x1001_13 x1002_13 30).bind fun bt311=>(if bt311.1=0 then ((some (([(⟨t285,t288,(wrap64 (1+t291)),q2⟩:S55)]:List (S55)):List (S55))).bind fun y320=>(if x7_1.length+y320.length<4398046511104 then (spec_l14Draw.l0 kj13 (wrap64 (1+t273)) t276 (x7_1 ++ y320) (wrap64 (x8_1 - 1)) s0_0 bt311.2.1 bt311.2.2) else (none))) else (spec_l14Draw.l0 kj13 (wrap64 (1+t273)) t276 x7_1 (wrap64 (x8_1 - 1)) s0_0 bt311.2.1 bt311.2.2))))) else (none))=some (r1,r2,r3,r4,r5):=by first|(rw [hy304];with_reducible exact H)|(have H2_:=(Option.bind_some _ _).symm.trans H;rw [hy304];with_reducible exact H2_)|(have H2_:=(Option.bind_some _ _).symm.trans H;with_reducible exact H2_)|with_reducible exact H|(rw [hy304];exact H)|exact H
       have Ny304:=ak_ hy304
       clear hy304
       by_cases c29:y301.length+y304.length<4398046511104
       ·rw [if_pos c29] at H
        have LMc29:=ak_ c29
        clear c29
        obtain⟨y307,hy307⟩:∃ y_:List (S55),y_=(y301 ++ y304):=⟨_,rfl⟩
        replace H:((spec_AreFaults.f kj13 (wrap64 (1+t273)) t276 y307).bind fun t310=>(if t310=true then ((some (([(⟨t285,t288,(wrap64 (1+t291)),q2⟩:S55)]:List (S55)):List (S55))).bind fun y314=>(if x7_1.length+y314.length<4398046511104 then (spec_l14Draw.l0 kj13 (wrap64 (1+t273)) t276 (x7_1 ++ y314) (wrap64 (x8_1 - 1)) s0_0 x1001_13 x1002_13) else (none))) else ((spec_l01Next.f s0_0 x1001_13 x1002_13 30).bind fun bt311=>(if bt311.1=0 then ((some (([(⟨t285,t288,(wrap64 (1+t291)),q2⟩:S55)]:List (S55)):List (S55))).bind fun y320=>(if x7_1.length+y320.length<4398046511104 then (spec_l14Draw.l0 kj13 (wrap64 (1+t273)) t276 (x7_1 ++ y320) (wrap64 (x8_1 - 1)) s0_0 bt311.2.1 bt311.2.2) else (none))) else (spec_l14Draw.l0 kj13 (wrap64 (1+t273)) t276 x7_1 (wrap64 (x8_1 - 1)) s0_0 bt311.2.1 bt311.2.2)))))=some (r1,r2,r3,r4,r5):=by first|(rw [hy307];with_reducible exact H)|(have H2_:=(Option.bind_some _ _).symm.trans H;rw [hy307];with_reducible exact H2_)|(have H2_:=(Option.bind_some _ _).symm.trans H;with_reducible exact H2_)|with_reducible exact H|(rw [hy307];exact H)|exact H
        have Ny307:=ak_ hy307
        clear hy307
        replace H:=Option.bind_eq_some_iff.mp H
        obtain⟨t310,A300,H⟩:=H
        replace H:(if t310=true then ((some (([(⟨t285,t288,(wrap64 (1+t291)),q2⟩:S55)]:List (S55)):List (S55))).bind fun y314=>(if x7_1.length+y314.length<4398046511104 then (spec_l14Draw.l0 kj13 (wrap64 (1+t273)) t276 (x7_1 ++ y314) (wrap64 (x8_1 - 1)) s0_0 x1001_13 x1002_13) else (none))) else ((spec_l01Next.f s0_0 x1001_13 x1002_13 30).bind fun bt311=>(if bt311.1=0 then ((some (([(⟨t285,t288,(wrap64 (1+t291)),q2⟩:S55)]:List (S55)):List (S55))).bind fun y320=>(if x7_1.length+y320.length<4398046511104 then (spec_l14Draw.l0 kj13 (wrap64 (1+t273)) t276 (x7_1 ++ y320) (wrap64 (x8_1 - 1)) s0_0 bt311.2.1 bt311.2.2) else (none))) else (spec_l14Draw.l0 kj13 (wrap64 (1+t273)) t276 x7_1 (wrap64 (x8_1 - 1)) s0_0 bt311.2.1 bt311.2.2))))=some (r1,r2,r3,r4,r5):=H
        have A30:=ak_ A300
        clear A300
        by_cases c31:t310=true
        ·subst c31
         have H1:((some (([(⟨t285,t288,(wrap64 (1+t291)),q2⟩:S55)]:List (S55)):List (S55))).bind fun y314=>(if x7_1.length+y314.length<4398046511104 then (spec_l14Draw.l0 kj13 (wrap64 (1+t273)) t276 (x7_1 ++ y314) (wrap64 (x8_1 - 1)) s0_0 x1001_13 x1002_13) else (none)))=some (r1,r2,r3,r4,r5):=by rw [if_pos rfl] at H;exact H
         clear H
         have H:=H1
         clear H1
         obtain⟨y314,hy314⟩:∃ y_:List (S55),y_=(([(⟨t285,t288,(wrap64 (1+t291)),q2⟩:S55)]:List (S55))):=⟨_,rfl⟩
         replace H:(if x7_1.length+y314.length<4398046511104 then (spec_l14Draw.l0 kj13 (wrap64 (1+t273)) t276 (x7_1 ++ y314) (wrap64 (x8_1 - 1)) s0_0 x1001_13 x1002_13) else (none))=some (r1,r2,r3,r4,r5):=by first|(rw [hy314];with_reducible exact H)|(have H2_:=(Option.bind_some _ _).symm.trans H;rw [hy314];with_reducible exact H2_)|(have H2_:=(Option.bind_some _ _).symm.trans H;with_reducible exact H2_)|with_reducible exact H|(rw [hy314];exact H)|exact H
         have Ny314:=ak_ hy314
         clear hy314
         by_cases c32:x7_1.length+y314.length<4398046511104
         ·rw [if_pos c32] at H
          have LMc32:=ak_ c32
          clear c32
          obtain⟨y317,hy317⟩:∃ y_:List (S55),y_=(x7_1 ++ y314):=⟨_,rfl⟩
          replace H:(spec_l14Draw.l0 kj13 (wrap64 (1+t273)) t276 y317 (wrap64 (x8_1 - 1)) s0_0 x1001_13 x1002_13)=some (r1,r2,r3,r4,r5):=by first|(rw [hy317];with_reducible exact H)|(have H2_:=(Option.bind_some _ _).symm.trans H;rw [hy317];with_reducible exact H2_)|(have H2_:=(Option.bind_some _ _).symm.trans H;with_reducible exact H2_)|with_reducible exact H|(rw [hy317];exact H)|exact H
          have Ny317:=ak_ hy317
          clear hy317
          have H':=ak_ H
          clear H
          obtain⟨Ao33,co33,eo33⟩:=Kd.R_slice HO_7.out
          subst eo33
          try go_wp2
          have n0_:=ak_ (Kd.R_drew HO_7.out)
          have n1_:=ak_ (blk_drew q0.out)
          have n2_:=ak_ (IsS94.drew HI0.out)
          have n3_:=ak_ (keep_drew HK.out)
          have n4_:=ak_ (below_drew1 HB.out)
          clear HO_7
          clear q0
          clear HI0
          clear HK
          clear HB
          have HO_7:=n0_
          have q0:=n1_
          have HI0:=n2_
          have HK:=n3_
          have HB:=n4_
          clear n0_ n1_ n2_ n3_ n4_
          refine start_ (n:=14) (S:=fun w'=>w'.cell? ⟨q1,0,none⟩=some (.int .i64 t285)∧w'.cell? ⟨q1,1,none⟩=some (.int .i64 t288)∧w'.cell? ⟨q1,2,none⟩=some (.int .i64 (wrap64 (1+t291)))∧w'.cell? ⟨q1,3,none⟩=some (.int .i64 q2)) (ds:=[]) #[false,false,false,false,false,false,false,false,false,false,false,false,false,false] (by kernel_rfl) rfl rfl ⟨(blk_cell q0.out 0).trans rfl,(blk_cell q0.out 1).trans rfl,(blk_cell q0.out 2).trans rfl,(blk_cell q0.out 3).trans rfl⟩ (fun hHeld=>?_);refine with_tabW spec_l14Draw.tab9 spec_l14Draw.bits9 (fun HT_ HW_=>?_)
          generalize wc.drew=w34 at HO_7 q0 HI0 HK HB hHeld ⊢
          refine pure_ (i:=0) (N:=some 47) (v:=?_) (a':=?_) #[true,false,false,false,false,false,false,false,false,false,false,false,false,false] rfl rfl (any_of HT_.out (by kernel_rfl)) (fun _ _ _ h=>h) (Or.inl ⟨by rfl,?_⟩) ?_ ?_
          rotate_left
          ·intro w'
           go_simp
           with_reducible rfl
          rotate_left
          ·simp only [Act.put,List.setIfInBounds_toArray,List.set_cons_zero,List.set_cons_succ,i64_w,i32_w]
           rfl
          refine pure_ (i:=1) (N:=some 48) (v:=?_) (a':=?_) #[true,true,false,false,false,false,false,false,false,false,false,false,false,false] rfl rfl (any_of HT_.out (by kernel_rfl)) (fun _ _ _ h=>h) (Or.inl ⟨by rfl,?_⟩) ?_ ?_
          rotate_left
          ·intro w'
           go_simp
           with_reducible rfl
          rotate_left
          ·simp only [Act.put,List.setIfInBounds_toArray,List.set_cons_zero,List.set_cons_succ,i64_w,i32_w]
           rfl
          refine pure_ (i:=3) (N:=some 50) (v:=?_) (a':=?_) #[true,true,false,true,false,false,false,false,false,false,false,false,false,false] rfl rfl (any_of HT_.out (by kernel_rfl)) (fun _ _ _ h=>h) (Or.inl ⟨by rfl,?_⟩) ?_ ?_
          rotate_left
          ·intro w'
           go_simp
           with_reducible rfl
          rotate_left
          ·simp only [Act.put,List.setIfInBounds_toArray,List.set_cons_zero,List.set_cons_succ,i64_w,i32_w]
           rfl
          refine take_ (i:=5) (N:=some 52) (v:=?_) (a':=?_) #[true,true,false,true,false,true,false,false,false,false,false,false,false,false] rfl rfl (take_ofW HT_.out HW_.out (by kernel_rfl)) (fun _ _ _ h=>h) (Or.inl ⟨by rfl,?_⟩) hHeld ?_ ?_
          rotate_left
          ·rintro w' ⟨s0,s1,s2,s3⟩
           go_simp
           with_reducible rfl
          rotate_left
          ·simp only [Act.put,List.setIfInBounds_toArray,List.set_cons_zero,List.set_cons_succ,i64_w,i32_w]
           rfl
          refine join_ (σ:=Value × Value × Value) 7 #[true,true,true,true,true,true,true,false,false,false,false,false,false,false] (fun s_=>[(49,s_.1),(51,s_.2.1),(53,s_.2.2)]) (fun s_ w'=>(w'.cell? ⟨q1,0,none⟩=some (.int .i64 t285)∧w'.cell? ⟨q1,1,none⟩=some (.int .i64 t288)∧w'.cell? ⟨q1,2,none⟩=some (.int .i64 (wrap64 (1+t291)))∧w'.cell? ⟨q1,3,none⟩=some (.int .i64 q2))∧(Kd.R k55 55 w' w.heap.size (fun k_=>some k_≠(s_.2.2:Value).ownBlock∧some k_≠(.slice Ao33 x7_1.length co33:Value).ownBlock∧k_≠q1) s_.2.1 y301)∧(Kd.R k55 55 w' w.heap.size (fun k_=>some k_≠(s_.2.1:Value).ownBlock∧some k_≠(.slice Ao33 x7_1.length co33:Value).ownBlock∧k_≠q1) s_.2.2 y304)∧(Kd.R k55 55 w' w.heap.size (fun k_=>some k_≠(s_.2.1:Value).ownBlock∧some k_≠(s_.2.2:Value).ownBlock∧k_≠q1) (.slice Ao33 x7_1.length co33) x7_1)∧(w'.heap[q1]?=some (.cells #[.int .i64 t285,.int .i64 t288,.int .i64 (wrap64 (1+t291)),.int .i64 q2] 55 (0,0)))∧(IsS94 w0 w' g s0_0 x1001_13 x1002_13)∧(KeepBut w w' g none)∧(Below w0.heap.size w0 w')) ?_ ?_
          rotate_left
          ·intro hCont
           refine two_ (i:=2) (j:=6) (Ni:=some 49) (Nj:=some 53) #[true,true,true,true,false,true,false,false,false,false,false,false,false,false] #[true,true,false,true,false,true,true,false,false,false,false,false,false,false] rfl rfl rfl rfl (two_of HT_.out (by kernel_rfl)) (by decide) (by decide) (fun K hK=>?_) (fun K hK=>?_)
           ·skip
            refine Kd.R_lit_step k55 _ 55 ?hg (N:=49) ?hd (xs:=([]:List (S55))) (inner:=[]) (ok:=fun _=>True) (okp:=fun _=>True) ?hr ?hp (fun _ hk=>hk) trivial (Below.refl _ _) (Nat.le_refl _) (by simp) ?_;(case hd=>rfl);(case hg=>rfl);(case hr=>first|(go_simp;done)|(go_simp;rfl));(case hp=>exact(Reps.none _ _))
            intro v299 w35 ho36 hb hg_ hnew_
            clear hg_ hnew_
            (first|rw [← Ny298.out] at ho36|(simp only [Int.reduceToNat] at ho36;rw [← Ny298.out] at ho36))
            have n0_:=ak_ (Kd.R_elder' (by(with_reducible repeat(first|apply Kd.R_alloc|apply Kd.R_drewN|apply Kd.R_drew));exact HO_7.out) (Kd.R_base ho36) hb)
            have n1_:=ak_ (Kd.R_lower (Kd.R_newB (Kd.R_new' ho36 (Kd.R_lt (by(with_reducible repeat(first|apply Kd.R_alloc|apply Kd.R_drewN|apply Kd.R_drew));exact HO_7.out))) (g:=q1) (o:=.cells #[.int .i64 t285,.int .i64 t288,.int .i64 (wrap64 (1+t291)),.int .i64 q2] 55 (0,0)) (by(with_reducible repeat(first|refine blk_drewN ?_ _|refine blk_drew ?_|refine blk_alloc ?_ _));exact q0.out)) (keep_size (w:=w) (g:=g) (row:=none) (by repeat(first|(with_reducible first|exact HK.out|apply KeepBut.set_|apply keep_drewN|apply keep_drew|apply keep_alloc|refine keep_far ?_ GW294.out _)|exact HK.out))))
            have n2_:=ak_ (blk_below (g:=q1) (o:=.cells #[.int .i64 t285,.int .i64 t288,.int .i64 (wrap64 (1+t291)),.int .i64 q2] 55 (0,0)) (by(with_reducible repeat(first|refine blk_drewN ?_ _|refine blk_drew ?_|refine blk_alloc ?_ _));exact q0.out) hb)
            have n3_:=ak_ (IsS94.below (by repeat(first|(with_reducible first|exact HI0.out|apply IsS94.alloc|apply IsS94.drewN|apply IsS94.drew|apply IsS94.set_1|apply IsS94.set_2|refine IsS94.far ?_ NB0_294.out _)|exact HI0.out)) hb)
            have n4_:=ak_ (KeepBut.trans (by repeat(first|(with_reducible first|exact HK.out|apply KeepBut.set_|apply keep_drewN|apply keep_drew|apply keep_alloc|refine keep_far ?_ GW294.out _)|exact HK.out)) (KeepBut.of_below hb g none) (.inl rfl))
            have n5_:=ak_ (below_step (by repeat(first|(with_reducible first|exact HB.out|apply below_alloc|apply pw_below_drewN|apply below_drew1|refine below_set ?_ (IsS94.ge HI0.out)|refine below_set ?_ GE294.out)|exact HB.out)) hb)
            clear HO_7
            clear q0
            clear HI0
            clear HK
            clear HB
            have HO_7:=n0_
            have HO300:=n1_
            have q0:=n2_
            have HI0:=n3_
            have HK:=n4_
            have HB:=n5_
            clear n0_ n1_ n2_ n3_ n4_ n5_
            clear hb ho36
            refine hK.out _ _ ⟨(blk_cell q0.out 0).trans rfl,(blk_cell q0.out 1).trans rfl,(blk_cell q0.out 2).trans rfl,(blk_cell q0.out 3).trans rfl⟩ (fun hHeld=>?_)
            clear hK K
            refine norm_ (a':=?_) ?_ ?_
            rotate_left
            ·show Act.put _ (some 49) _=_
             simp only [Act.put,List.setIfInBounds_toArray,List.set_cons_zero,List.set_cons_succ,i64_w,i32_w]
             rfl
            refine two_ (i:=4) (j:=6) (Ni:=some 51) (Nj:=some 53) #[true,true,true,true,true,true,false,false,false,false,false,false,false,false] #[true,true,true,true,false,true,true,false,false,false,false,false,false,false] rfl rfl rfl rfl (two_of HT_.out (by kernel_rfl)) (by decide) (by decide) (fun K hK=>?_) (fun K hK=>?_)
            ·skip
             refine Kd.R_append_rows_step k55 w.heap.size (by rfl) (.tmp 49) (.tmp 50) 31 55 (.agg #[(.int .i64 0),(.int .i64 0),(.int .i64 0),(.int .i64 0)]) 32 rfl Try.underlying31 info55 rfl (by decide) (by omega) v299 y298 x7_1 _ _ _ (fun k_=>some k_≠(.slice Ao33 x7_1.length co33:Value).ownBlock∧k_≠q1) (fun _=>False) rfl rfl ?aO ?aR (fun _ _ h=>h) (fun _ h=>h.elim) ?aF (Below.refl _ _) ?aS ?aL ?_
             (case aR=>repeat(first|exact(Kd.R_reads' HO_7.out).2.2|(with_reducible refine Kd.C_alloc ?_ _)|(with_reducible refine Kd.C_drewN ?_ _)|(with_reducible refine Kd.C_drew ?_)))
             (case aF=>exact(fun k_ hk=>⟨Kd.fresh' (Kd.R_lt (by(with_reducible repeat(first|apply Kd.R_alloc|apply Kd.R_drewN|apply Kd.R_drew));exact HO_7.out)) k_ hk,Kd.freshB (g:=q1) (o:=.cells #[.int .i64 t285,.int .i64 t288,.int .i64 (wrap64 (1+t291)),.int .i64 q2] 55 (0,0)) (by(with_reducible repeat(first|refine blk_drewN ?_ _|refine blk_drew ?_|refine blk_alloc ?_ _));exact q0.out) k_ hk⟩))
             (case aO=>exact(by(with_reducible repeat(first|apply Kd.R_alloc|apply Kd.R_drewN|apply Kd.R_drew));exact Kd.R_mono HO300.out (fun _ hk=>⟨hk.1.2,hk.2⟩)))
             (case aS=>exact(keep_size (w:=w) (g:=g) (row:=none) (by repeat(first|(with_reducible first|exact HK.out|apply KeepBut.set_|apply keep_drewN|apply keep_drew|apply keep_alloc|refine keep_far ?_ GW294.out _)|exact HK.out))))
             (case aL=>have:=LMc28.out;omega)
             intro v302 w37 ho hb hg hat
             rw [← Ny301.out] at ho
             have n0_:=ak_ (Kd.R_after (ok:=(fun k_=>k_≠q1)) (by(with_reducible repeat(first|apply Kd.R_alloc|apply Kd.R_drewN|apply Kd.R_drew));exact HO_7.out) hg hat)
             have n1_:=ak_ (blk_grown (g:=q1) (o:=.cells #[.int .i64 t285,.int .i64 t288,.int .i64 (wrap64 (1+t291)),.int .i64 q2] 55 (0,0)) (by(with_reducible repeat(first|refine blk_drewN ?_ _|refine blk_drew ?_|refine blk_alloc ?_ _));exact q0.out) hg (Kd.R_away HO300.out (fun _ hk=>hk.2)))
             have n2_:=ak_ (IsS94.grown (by repeat(first|(with_reducible first|exact HI0.out|apply IsS94.alloc|apply IsS94.drewN|apply IsS94.drew|apply IsS94.set_1|apply IsS94.set_2|refine IsS94.far ?_ NB0_294.out _)|exact HI0.out)) hg (IsS94.own_ne HI0.out HO300.out (by decide)))
             have n3_:=ak_ (below_weaken (by repeat(first|(with_reducible first|exact HB.out|apply below_alloc|apply pw_below_drewN|apply below_drew1|refine below_set ?_ (IsS94.ge HI0.out)|refine below_set ?_ GE294.out)|exact HB.out)) HL.out hb)
             have n4_:=ak_ (KeepBut.trans (by repeat(first|(with_reducible first|exact HK.out|apply KeepBut.set_|apply keep_drewN|apply keep_drew|apply keep_alloc|refine keep_far ?_ GW294.out _)|exact HK.out)) (KeepBut.of_grown hg g) (Kd.R_base2 HO300.out))
             have n5_:=ak_ (ho)
             clear HO_7
             clear q0
             clear HI0
             clear HB
             clear HK
             clear HO300
             have HO_7:=n0_
             have q0:=n1_
             have HI0:=n2_
             have HB:=n3_
             have HK:=n4_
             have HO303:=n5_
             clear n0_ n1_ n2_ n3_ n4_ n5_
             clear ho hb hg hat
             refine hK.out _ _ ⟨(blk_cell q0.out 0).trans rfl,(blk_cell q0.out 1).trans rfl,(blk_cell q0.out 2).trans rfl,(blk_cell q0.out 3).trans rfl⟩ (fun hHeld=>?_)
             clear hK K
             refine norm_ (a':=?_) ?_ ?_
             rotate_left
             ·show Act.put _ (some 51) _=_
              simp only [Act.put,List.setIfInBounds_toArray,List.set_cons_zero,List.set_cons_succ,i64_w,i32_w]
              rfl
             refine one_ (i:=6) (N:=some 53) #[true,true,true,true,true,true,true,false,false,false,false,false,false,false] rfl rfl (one_of HT_.out (by kernel_rfl)) (by decide) (fun K hK=>?_)
             refine Kd.R_lit_step k55 _ 55 ?hg (N:=53) ?hd (xs:=([(⟨t285,t288,(wrap64 (1+t291)),q2⟩:S55)]:List (S55))) (inner:=[.int .i64 t285,.int .i64 t288,.int .i64 (wrap64 (1+t291)),.int .i64 q2]) (ok:=fun _=>True) (okp:=fun _=>True) ?hr ?hp (fun _ hk=>hk) trivial (Below.refl _ _) (Nat.le_refl _) (by simp) ?_;(case hd=>rfl);(case hg=>rfl);(case hr=>first|(go_simp;done)|(go_simp;rfl));(case hp=>exact(Reps.c4 (show Kd.M k55 _ _ _ (⟨t285,t288,(wrap64 (1+t291)),q2⟩:S55) [.int .i64 t285,.int .i64 t288,.int .i64 (wrap64 (1+t291)),.int .i64 q2] from(k55_mkM _ _ _ (⟨t285,t288,(wrap64 (1+t291)),q2⟩:S55) )) (Reps.none _ _)))
             intro v305 w38 ho39 hb hg_ hnew_
             clear hg_ hnew_
             (first|rw [← Ny304.out] at ho39|(simp only [Int.reduceToNat] at ho39;rw [← Ny304.out] at ho39))
             have n0_:=ak_ (Kd.R_elder' (by(with_reducible repeat(first|apply Kd.R_alloc|apply Kd.R_drewN|apply Kd.R_drew));exact HO_7.out) (Kd.R_base ho39) hb)
             have n1_:=ak_ (Kd.R_elder' (by(with_reducible repeat(first|apply Kd.R_alloc|apply Kd.R_drewN|apply Kd.R_drew));exact HO303.out) (Kd.R_base ho39) hb)
             have n2_:=ak_ (Kd.R_lower (Kd.R_newB (Kd.R_new' (Kd.R_new' ho39 (Kd.R_lt (by(with_reducible repeat(first|apply Kd.R_alloc|apply Kd.R_drewN|apply Kd.R_drew));exact HO_7.out))) (Kd.R_lt (by(with_reducible repeat(first|apply Kd.R_alloc|apply Kd.R_drewN|apply Kd.R_drew));exact HO303.out))) (g:=q1) (o:=.cells #[.int .i64 t285,.int .i64 t288,.int .i64 (wrap64 (1+t291)),.int .i64 q2] 55 (0,0)) (by(with_reducible repeat(first|refine blk_drewN ?_ _|refine blk_drew ?_|refine blk_alloc ?_ _));exact q0.out)) (keep_size (w:=w) (g:=g) (row:=none) (by repeat(first|(with_reducible first|exact HK.out|apply KeepBut.set_|apply keep_drewN|apply keep_drew|apply keep_alloc|refine keep_far ?_ GW294.out _)|exact HK.out))))
             have n3_:=ak_ (blk_below (g:=q1) (o:=.cells #[.int .i64 t285,.int .i64 t288,.int .i64 (wrap64 (1+t291)),.int .i64 q2] 55 (0,0)) (by(with_reducible repeat(first|refine blk_drewN ?_ _|refine blk_drew ?_|refine blk_alloc ?_ _));exact q0.out) hb)
             have n4_:=ak_ (IsS94.below (by repeat(first|(with_reducible first|exact HI0.out|apply IsS94.alloc|apply IsS94.drewN|apply IsS94.drew|apply IsS94.set_1|apply IsS94.set_2|refine IsS94.far ?_ NB0_294.out _)|exact HI0.out)) hb)
             have n5_:=ak_ (KeepBut.trans (by repeat(first|(with_reducible first|exact HK.out|apply KeepBut.set_|apply keep_drewN|apply keep_drew|apply keep_alloc|refine keep_far ?_ GW294.out _)|exact HK.out)) (KeepBut.of_below hb g none) (.inl rfl))
             have n6_:=ak_ (below_step (by repeat(first|(with_reducible first|exact HB.out|apply below_alloc|apply pw_below_drewN|apply below_drew1|refine below_set ?_ (IsS94.ge HI0.out)|refine below_set ?_ GE294.out)|exact HB.out)) hb)
             clear HO_7
             clear HO303
             clear q0
             clear HI0
             clear HK
             clear HB
             have HO_7:=n0_
             have HO303:=n1_
             have HO306:=n2_
             have q0:=n3_
             have HI0:=n4_
             have HK:=n5_
             have HB:=n6_
             clear n0_ n1_ n2_ n3_ n4_ n5_ n6_
             clear hb ho39
             refine hK.out _ _ ⟨(blk_cell q0.out 0).trans rfl,(blk_cell q0.out 1).trans rfl,(blk_cell q0.out 2).trans rfl,(blk_cell q0.out 3).trans rfl⟩ (fun hHeld=>?_)
             clear hK K
             refine norm_ (a':=?_) ?_ ?_
             rotate_left
             ·show Act.put _ (some 53) _=_
              simp only [Act.put,List.setIfInBounds_toArray,List.set_cons_zero,List.set_cons_succ,i64_w,i32_w]
              rfl
             exact norm_ (by simp only [putAll,Act.put,List.setIfInBounds_toArray,List.set_cons_zero,List.set_cons_succ]) (hCont (v299,v302,v305) _ ⟨hHeld,(by(with_reducible repeat(first|apply Kd.R_alloc|apply Kd.R_drewN|apply Kd.R_drew));exact Kd.R_mono HO303.out (fun _ hk=>⟨hk.2,⟨hk.1.1,hk.1.2⟩⟩)),(by(with_reducible repeat(first|apply Kd.R_alloc|apply Kd.R_drewN|apply Kd.R_drew));exact Kd.R_mono HO306.out (fun _ hk=>⟨hk.1.2,⟨hk.1.1.2,hk.2⟩⟩)),(by(with_reducible repeat(first|apply Kd.R_alloc|apply Kd.R_drewN|apply Kd.R_drew));exact Kd.R_mono HO_7.out (fun _ hk=>⟨hk.1.2,⟨hk.2,hk.1.1⟩⟩)),(by(with_reducible repeat(first|refine blk_drewN ?_ _|refine blk_drew ?_|refine blk_alloc ?_ _));exact q0.out),(by repeat(first|(with_reducible first|exact HI0.out|apply IsS94.alloc|apply IsS94.drewN|apply IsS94.drew|apply IsS94.set_1|apply IsS94.set_2|refine IsS94.far ?_ NB0_294.out _)|exact HI0.out)),(by repeat(first|(with_reducible first|exact HK.out|apply KeepBut.set_|apply keep_drewN|apply keep_drew|apply keep_alloc|refine keep_far ?_ GW294.out _)|exact HK.out)),(by repeat(first|(with_reducible first|exact HB.out|apply below_alloc|apply pw_below_drewN|apply below_drew1|refine below_set ?_ (IsS94.ge HI0.out)|refine below_set ?_ GE294.out)|exact HB.out))⟩)
            ·skip
             refine Kd.R_lit_step k55 _ 55 ?hg (N:=53) ?hd (xs:=([(⟨t285,t288,(wrap64 (1+t291)),q2⟩:S55)]:List (S55))) (inner:=[.int .i64 t285,.int .i64 t288,.int .i64 (wrap64 (1+t291)),.int .i64 q2]) (ok:=fun _=>True) (okp:=fun _=>True) ?hr ?hp (fun _ hk=>hk) trivial (Below.refl _ _) (Nat.le_refl _) (by simp) ?_;(case hd=>rfl);(case hg=>rfl);(case hr=>first|(go_simp;done)|(go_simp;rfl));(case hp=>exact(Reps.c4 (show Kd.M k55 _ _ _ (⟨t285,t288,(wrap64 (1+t291)),q2⟩:S55) [.int .i64 t285,.int .i64 t288,.int .i64 (wrap64 (1+t291)),.int .i64 q2] from(k55_mkM _ _ _ (⟨t285,t288,(wrap64 (1+t291)),q2⟩:S55) )) (Reps.none _ _)))
             intro v305 w37 ho38 hb hg_ hnew_
             clear hg_ hnew_
             (first|rw [← Ny304.out] at ho38|(simp only [Int.reduceToNat] at ho38;rw [← Ny304.out] at ho38))
             have n0_:=ak_ (Kd.R_elder' (by(with_reducible repeat(first|apply Kd.R_alloc|apply Kd.R_drewN|apply Kd.R_drew));exact HO_7.out) (Kd.R_base ho38) hb)
             have n1_:=ak_ (Kd.R_elder' (by(with_reducible repeat(first|apply Kd.R_alloc|apply Kd.R_drewN|apply Kd.R_drew));exact HO300.out) (Kd.R_base ho38) hb)
             have n2_:=ak_ (Kd.R_lower (Kd.R_newB (Kd.R_new' (Kd.R_new' ho38 (Kd.R_lt (by(with_reducible repeat(first|apply Kd.R_alloc|apply Kd.R_drewN|apply Kd.R_drew));exact HO_7.out))) (Kd.R_lt (by(with_reducible repeat(first|apply Kd.R_alloc|apply Kd.R_drewN|apply Kd.R_drew));exact HO300.out))) (g:=q1) (o:=.cells #[.int .i64 t285,.int .i64 t288,.int .i64 (wrap64 (1+t291)),.int .i64 q2] 55 (0,0)) (by(with_reducible repeat(first|refine blk_drewN ?_ _|refine blk_drew ?_|refine blk_alloc ?_ _));exact q0.out)) (keep_size (w:=w) (g:=g) (row:=none) (by repeat(first|(with_reducible first|exact HK.out|apply KeepBut.set_|apply keep_drewN|apply keep_drew|apply keep_alloc|refine keep_far ?_ GW294.out _)|exact HK.out))))
             have n3_:=ak_ (blk_below (g:=q1) (o:=.cells #[.int .i64 t285,.int .i64 t288,.int .i64 (wrap64 (1+t291)),.int .i64 q2] 55 (0,0)) (by(with_reducible repeat(first|refine blk_drewN ?_ _|refine blk_drew ?_|refine blk_alloc ?_ _));exact q0.out) hb)
             have n4_:=ak_ (IsS94.below (by repeat(first|(with_reducible first|exact HI0.out|apply IsS94.alloc|apply IsS94.drewN|apply IsS94.drew|apply IsS94.set_1|apply IsS94.set_2|refine IsS94.far ?_ NB0_294.out _)|exact HI0.out)) hb)
             have n5_:=ak_ (KeepBut.trans (by repeat(first|(with_reducible first|exact HK.out|apply KeepBut.set_|apply keep_drewN|apply keep_drew|apply keep_alloc|refine keep_far ?_ GW294.out _)|exact HK.out)) (KeepBut.of_below hb g none) (.inl rfl))
             have n6_:=ak_ (below_step (by repeat(first|(with_reducible first|exact HB.out|apply below_alloc|apply pw_below_drewN|apply below_drew1|refine below_set ?_ (IsS94.ge HI0.out)|refine below_set ?_ GE294.out)|exact HB.out)) hb)
             clear HO_7
             clear HO300
             clear q0
             clear HI0
             clear HK
             clear HB
             have HO_7:=n0_
             have HO300:=n1_
             have HO306:=n2_
             have q0:=n3_
             have HI0:=n4_
             have HK:=n5_
             have HB:=n6_
             clear n0_ n1_ n2_ n3_ n4_ n5_ n6_
             clear hb ho38
             refine hK.out _ _ ⟨(blk_cell q0.out 0).trans rfl,(blk_cell q0.out 1).trans rfl,(blk_cell q0.out 2).trans rfl,(blk_cell q0.out 3).trans rfl⟩ (fun hHeld=>?_)
             clear hK K
             refine norm_ (a':=?_) ?_ ?_
             rotate_left
             ·show Act.put _ (some 53) _=_
              simp only [Act.put,List.setIfInBounds_toArray,List.set_cons_zero,List.set_cons_succ,i64_w,i32_w]
              rfl
             refine one_ (i:=4) (N:=some 51) #[true,true,true,true,true,true,true,false,false,false,false,false,false,false] rfl rfl (one_of HT_.out (by kernel_rfl)) (by decide) (fun K hK=>?_)
             refine Kd.R_append_rows_step k55 w.heap.size (by rfl) (.tmp 49) (.tmp 50) 31 55 (.agg #[(.int .i64 0),(.int .i64 0),(.int .i64 0),(.int .i64 0)]) 32 rfl Try.underlying31 info55 rfl (by decide) (by omega) v299 y298 x7_1 _ _ _ (fun k_=>some k_≠(.slice Ao33 x7_1.length co33:Value).ownBlock∧some k_≠(v305:Value).ownBlock∧k_≠q1) (fun _=>False) rfl rfl ?aO ?aR (fun _ _ h=>h) (fun _ h=>h.elim) ?aF (Below.refl _ _) ?aS ?aL ?_
             (case aR=>repeat(first|exact(Kd.R_reads' HO_7.out).2.2|(with_reducible refine Kd.C_alloc ?_ _)|(with_reducible refine Kd.C_drewN ?_ _)|(with_reducible refine Kd.C_drew ?_)))
             (case aF=>exact(fun k_ hk=>⟨Kd.fresh' (Kd.R_lt (by(with_reducible repeat(first|apply Kd.R_alloc|apply Kd.R_drewN|apply Kd.R_drew));exact HO_7.out)) k_ hk,Kd.fresh' (Kd.R_lt (by(with_reducible repeat(first|apply Kd.R_alloc|apply Kd.R_drewN|apply Kd.R_drew));exact HO306.out)) k_ hk,Kd.freshB (g:=q1) (o:=.cells #[.int .i64 t285,.int .i64 t288,.int .i64 (wrap64 (1+t291)),.int .i64 q2] 55 (0,0)) (by(with_reducible repeat(first|refine blk_drewN ?_ _|refine blk_drew ?_|refine blk_alloc ?_ _));exact q0.out) k_ hk⟩))
             (case aO=>exact(by(with_reducible repeat(first|apply Kd.R_alloc|apply Kd.R_drewN|apply Kd.R_drew));exact Kd.R_mono HO300.out (fun _ hk=>⟨hk.1.1.2,⟨hk.2,hk.1.2⟩⟩)))
             (case aS=>exact(keep_size (w:=w) (g:=g) (row:=none) (by repeat(first|(with_reducible first|exact HK.out|apply KeepBut.set_|apply keep_drewN|apply keep_drew|apply keep_alloc|refine keep_far ?_ GW294.out _)|exact HK.out))))
             (case aL=>have:=LMc28.out;omega)
             intro v302 w39 ho hb hg hat
             rw [← Ny301.out] at ho
             have n0_:=ak_ (Kd.R_after (ok:=(fun k_=>some k_≠(v305:Value).ownBlock∧k_≠q1)) (by(with_reducible repeat(first|apply Kd.R_alloc|apply Kd.R_drewN|apply Kd.R_drew));exact Kd.R_mono HO_7.out (fun _ hk=>⟨⟨hk.2,hk.1.1⟩,hk.1.2⟩)) hg hat)
             have n1_:=ak_ (blk_grown (g:=q1) (o:=.cells #[.int .i64 t285,.int .i64 t288,.int .i64 (wrap64 (1+t291)),.int .i64 q2] 55 (0,0)) (by(with_reducible repeat(first|refine blk_drewN ?_ _|refine blk_drew ?_|refine blk_alloc ?_ _));exact q0.out) hg (Kd.R_away HO300.out (fun _ hk=>hk.1.2)))
             have n2_:=ak_ (IsS94.grown (by repeat(first|(with_reducible first|exact HI0.out|apply IsS94.alloc|apply IsS94.drewN|apply IsS94.drew|apply IsS94.set_1|apply IsS94.set_2|refine IsS94.far ?_ NB0_294.out _)|exact HI0.out)) hg (IsS94.own_ne HI0.out HO300.out (by decide)))
             have n3_:=ak_ (Kd.R_after (ok:=(fun k_=>some k_≠(.slice Ao33 x7_1.length co33:Value).ownBlock∧k_≠q1)) (by(with_reducible repeat(first|apply Kd.R_alloc|apply Kd.R_drewN|apply Kd.R_drew));exact Kd.R_mono HO306.out (fun _ hk=>⟨⟨hk.1.1.2,hk.2⟩,hk.1.2⟩)) hg hat)
             have n4_:=ak_ (below_weaken (by repeat(first|(with_reducible first|exact HB.out|apply below_alloc|apply pw_below_drewN|apply below_drew1|refine below_set ?_ (IsS94.ge HI0.out)|refine below_set ?_ GE294.out)|exact HB.out)) HL.out hb)
             have n5_:=ak_ (KeepBut.trans (by repeat(first|(with_reducible first|exact HK.out|apply KeepBut.set_|apply keep_drewN|apply keep_drew|apply keep_alloc|refine keep_far ?_ GW294.out _)|exact HK.out)) (KeepBut.of_grown hg g) (Kd.R_base2 HO300.out))
             have n6_:=ak_ (ho)
             clear HO_7
             clear q0
             clear HI0
             clear HO306
             clear HB
             clear HK
             clear HO300
             have HO_7:=n0_
             have q0:=n1_
             have HI0:=n2_
             have HO306:=n3_
             have HB:=n4_
             have HK:=n5_
             have HO303:=n6_
             clear n0_ n1_ n2_ n3_ n4_ n5_ n6_
             clear ho hb hg hat
             refine hK.out _ _ ⟨(blk_cell q0.out 0).trans rfl,(blk_cell q0.out 1).trans rfl,(blk_cell q0.out 2).trans rfl,(blk_cell q0.out 3).trans rfl⟩ (fun hHeld=>?_)
             clear hK K
             refine norm_ (a':=?_) ?_ ?_
             rotate_left
             ·show Act.put _ (some 51) _=_
              simp only [Act.put,List.setIfInBounds_toArray,List.set_cons_zero,List.set_cons_succ,i64_w,i32_w]
              rfl
             exact norm_ (by simp only [putAll,Act.put,List.setIfInBounds_toArray,List.set_cons_zero,List.set_cons_succ]) (hCont (v299,v302,v305) _ ⟨hHeld,(by(with_reducible repeat(first|apply Kd.R_alloc|apply Kd.R_drewN|apply Kd.R_drew));exact Kd.R_mono HO303.out (fun _ hk=>⟨hk.2.1,⟨hk.1,hk.2.2⟩⟩)),(by(with_reducible repeat(first|apply Kd.R_alloc|apply Kd.R_drewN|apply Kd.R_drew));exact Kd.R_mono HO306.out (fun _ hk=>⟨hk.2,⟨hk.1.1,hk.1.2⟩⟩)),(by(with_reducible repeat(first|apply Kd.R_alloc|apply Kd.R_drewN|apply Kd.R_drew));exact Kd.R_mono HO_7.out (fun _ hk=>⟨hk.2,⟨hk.1.1,hk.1.2⟩⟩)),(by(with_reducible repeat(first|refine blk_drewN ?_ _|refine blk_drew ?_|refine blk_alloc ?_ _));exact q0.out),(by repeat(first|(with_reducible first|exact HI0.out|apply IsS94.alloc|apply IsS94.drewN|apply IsS94.drew|apply IsS94.set_1|apply IsS94.set_2|refine IsS94.far ?_ NB0_294.out _)|exact HI0.out)),(by repeat(first|(with_reducible first|exact HK.out|apply KeepBut.set_|apply keep_drewN|apply keep_drew|apply keep_alloc|refine keep_far ?_ GW294.out _)|exact HK.out)),(by repeat(first|(with_reducible first|exact HB.out|apply below_alloc|apply pw_below_drewN|apply below_drew1|refine below_set ?_ (IsS94.ge HI0.out)|refine below_set ?_ GE294.out)|exact HB.out))⟩)
           ·skip
            refine Kd.R_lit_step k55 _ 55 ?hg (N:=53) ?hd (xs:=([(⟨t285,t288,(wrap64 (1+t291)),q2⟩:S55)]:List (S55))) (inner:=[.int .i64 t285,.int .i64 t288,.int .i64 (wrap64 (1+t291)),.int .i64 q2]) (ok:=fun _=>True) (okp:=fun _=>True) ?hr ?hp (fun _ hk=>hk) trivial (Below.refl _ _) (Nat.le_refl _) (by simp) ?_;(case hd=>rfl);(case hg=>rfl);(case hr=>first|(go_simp;done)|(go_simp;rfl));(case hp=>exact(Reps.c4 (show Kd.M k55 _ _ _ (⟨t285,t288,(wrap64 (1+t291)),q2⟩:S55) [.int .i64 t285,.int .i64 t288,.int .i64 (wrap64 (1+t291)),.int .i64 q2] from(k55_mkM _ _ _ (⟨t285,t288,(wrap64 (1+t291)),q2⟩:S55) )) (Reps.none _ _)))
            intro v305 w35 ho36 hb hg_ hnew_
            clear hg_ hnew_
            (first|rw [← Ny304.out] at ho36|(simp only [Int.reduceToNat] at ho36;rw [← Ny304.out] at ho36))
            have n0_:=ak_ (Kd.R_elder' (by(with_reducible repeat(first|apply Kd.R_alloc|apply Kd.R_drewN|apply Kd.R_drew));exact HO_7.out) (Kd.R_base ho36) hb)
            have n1_:=ak_ (Kd.R_lower (Kd.R_newB (Kd.R_new' ho36 (Kd.R_lt (by(with_reducible repeat(first|apply Kd.R_alloc|apply Kd.R_drewN|apply Kd.R_drew));exact HO_7.out))) (g:=q1) (o:=.cells #[.int .i64 t285,.int .i64 t288,.int .i64 (wrap64 (1+t291)),.int .i64 q2] 55 (0,0)) (by(with_reducible repeat(first|refine blk_drewN ?_ _|refine blk_drew ?_|refine blk_alloc ?_ _));exact q0.out)) (keep_size (w:=w) (g:=g) (row:=none) (by repeat(first|(with_reducible first|exact HK.out|apply KeepBut.set_|apply keep_drewN|apply keep_drew|apply keep_alloc|refine keep_far ?_ GW294.out _)|exact HK.out))))
            have n2_:=ak_ (blk_below (g:=q1) (o:=.cells #[.int .i64 t285,.int .i64 t288,.int .i64 (wrap64 (1+t291)),.int .i64 q2] 55 (0,0)) (by(with_reducible repeat(first|refine blk_drewN ?_ _|refine blk_drew ?_|refine blk_alloc ?_ _));exact q0.out) hb)
            have n3_:=ak_ (IsS94.below (by repeat(first|(with_reducible first|exact HI0.out|apply IsS94.alloc|apply IsS94.drewN|apply IsS94.drew|apply IsS94.set_1|apply IsS94.set_2|refine IsS94.far ?_ NB0_294.out _)|exact HI0.out)) hb)
            have n4_:=ak_ (KeepBut.trans (by repeat(first|(with_reducible first|exact HK.out|apply KeepBut.set_|apply keep_drewN|apply keep_drew|apply keep_alloc|refine keep_far ?_ GW294.out _)|exact HK.out)) (KeepBut.of_below hb g none) (.inl rfl))
            have n5_:=ak_ (below_step (by repeat(first|(with_reducible first|exact HB.out|apply below_alloc|apply pw_below_drewN|apply below_drew1|refine below_set ?_ (IsS94.ge HI0.out)|refine below_set ?_ GE294.out)|exact HB.out)) hb)
            clear HO_7
            clear q0
            clear HI0
            clear HK
            clear HB
            have HO_7:=n0_
            have HO306:=n1_
            have q0:=n2_
            have HI0:=n3_
            have HK:=n4_
            have HB:=n5_
            clear n0_ n1_ n2_ n3_ n4_ n5_
            clear hb ho36
            refine hK.out _ _ ⟨(blk_cell q0.out 0).trans rfl,(blk_cell q0.out 1).trans rfl,(blk_cell q0.out 2).trans rfl,(blk_cell q0.out 3).trans rfl⟩ (fun hHeld=>?_)
            clear hK K
            refine norm_ (a':=?_) ?_ ?_
            rotate_left
            ·show Act.put _ (some 53) _=_
             simp only [Act.put,List.setIfInBounds_toArray,List.set_cons_zero,List.set_cons_succ,i64_w,i32_w]
             rfl
            refine one_ (i:=2) (N:=some 49) #[true,true,true,true,false,true,true,false,false,false,false,false,false,false] rfl rfl (one_of HT_.out (by kernel_rfl)) (by decide) (fun K hK=>?_)
            refine Kd.R_lit_step k55 _ 55 ?hg (N:=49) ?hd (xs:=([]:List (S55))) (inner:=[]) (ok:=fun _=>True) (okp:=fun _=>True) ?hr ?hp (fun _ hk=>hk) trivial (Below.refl _ _) (Nat.le_refl _) (by simp) ?_;(case hd=>rfl);(case hg=>rfl);(case hr=>first|(go_simp;done)|(go_simp;rfl));(case hp=>exact(Reps.none _ _))
            intro v299 w37 ho38 hb hg_ hnew_
            clear hg_ hnew_
            (first|rw [← Ny298.out] at ho38|(simp only [Int.reduceToNat] at ho38;rw [← Ny298.out] at ho38))
            have n0_:=ak_ (Kd.R_elder' (by(with_reducible repeat(first|apply Kd.R_alloc|apply Kd.R_drewN|apply Kd.R_drew));exact HO_7.out) (Kd.R_base ho38) hb)
            have n1_:=ak_ (Kd.R_elder' (by(with_reducible repeat(first|apply Kd.R_alloc|apply Kd.R_drewN|apply Kd.R_drew));exact HO306.out) (Kd.R_base ho38) hb)
            have n2_:=ak_ (Kd.R_lower (Kd.R_newB (Kd.R_new' (Kd.R_new' ho38 (Kd.R_lt (by(with_reducible repeat(first|apply Kd.R_alloc|apply Kd.R_drewN|apply Kd.R_drew));exact HO_7.out))) (Kd.R_lt (by(with_reducible repeat(first|apply Kd.R_alloc|apply Kd.R_drewN|apply Kd.R_drew));exact HO306.out))) (g:=q1) (o:=.cells #[.int .i64 t285,.int .i64 t288,.int .i64 (wrap64 (1+t291)),.int .i64 q2] 55 (0,0)) (by(with_reducible repeat(first|refine blk_drewN ?_ _|refine blk_drew ?_|refine blk_alloc ?_ _));exact q0.out)) (keep_size (w:=w) (g:=g) (row:=none) (by repeat(first|(with_reducible first|exact HK.out|apply KeepBut.set_|apply keep_drewN|apply keep_drew|apply keep_alloc|refine keep_far ?_ GW294.out _)|exact HK.out))))
            have n3_:=ak_ (blk_below (g:=q1) (o:=.cells #[.int .i64 t285,.int .i64 t288,.int .i64 (wrap64 (1+t291)),.int .i64 q2] 55 (0,0)) (by(with_reducible repeat(first|refine blk_drewN ?_ _|refine blk_drew ?_|refine blk_alloc ?_ _));exact q0.out) hb)
            have n4_:=ak_ (IsS94.below (by repeat(first|(with_reducible first|exact HI0.out|apply IsS94.alloc|apply IsS94.drewN|apply IsS94.drew|apply IsS94.set_1|apply IsS94.set_2|refine IsS94.far ?_ NB0_294.out _)|exact HI0.out)) hb)
            have n5_:=ak_ (KeepBut.trans (by repeat(first|(with_reducible first|exact HK.out|apply KeepBut.set_|apply keep_drewN|apply keep_drew|apply keep_alloc|refine keep_far ?_ GW294.out _)|exact HK.out)) (KeepBut.of_below hb g none) (.inl rfl))
            have n6_:=ak_ (below_step (by repeat(first|(with_reducible first|exact HB.out|apply below_alloc|apply pw_below_drewN|apply below_drew1|refine below_set ?_ (IsS94.ge HI0.out)|refine below_set ?_ GE294.out)|exact HB.out)) hb)
            clear HO_7
            clear HO306
            clear q0
            clear HI0
            clear HK
            clear HB
            have HO_7:=n0_
            have HO306:=n1_
            have HO300:=n2_
            have q0:=n3_
            have HI0:=n4_
            have HK:=n5_
            have HB:=n6_
            clear n0_ n1_ n2_ n3_ n4_ n5_ n6_
            clear hb ho38
            refine hK.out _ _ ⟨(blk_cell q0.out 0).trans rfl,(blk_cell q0.out 1).trans rfl,(blk_cell q0.out 2).trans rfl,(blk_cell q0.out 3).trans rfl⟩ (fun hHeld=>?_)
            clear hK K
            refine norm_ (a':=?_) ?_ ?_
            rotate_left
            ·show Act.put _ (some 49) _=_
             simp only [Act.put,List.setIfInBounds_toArray,List.set_cons_zero,List.set_cons_succ,i64_w,i32_w]
             rfl
            refine one_ (i:=4) (N:=some 51) #[true,true,true,true,true,true,true,false,false,false,false,false,false,false] rfl rfl (one_of HT_.out (by kernel_rfl)) (by decide) (fun K hK=>?_)
            refine Kd.R_append_rows_step k55 w.heap.size (by rfl) (.tmp 49) (.tmp 50) 31 55 (.agg #[(.int .i64 0),(.int .i64 0),(.int .i64 0),(.int .i64 0)]) 32 rfl Try.underlying31 info55 rfl (by decide) (by omega) v299 y298 x7_1 _ _ _ (fun k_=>some k_≠(.slice Ao33 x7_1.length co33:Value).ownBlock∧some k_≠(v305:Value).ownBlock∧k_≠q1) (fun _=>False) rfl rfl ?aO ?aR (fun _ _ h=>h) (fun _ h=>h.elim) ?aF (Below.refl _ _) ?aS ?aL ?_
            (case aR=>repeat(first|exact(Kd.R_reads' HO_7.out).2.2|(with_reducible refine Kd.C_alloc ?_ _)|(with_reducible refine Kd.C_drewN ?_ _)|(with_reducible refine Kd.C_drew ?_)))
            (case aF=>exact(fun k_ hk=>⟨Kd.fresh' (Kd.R_lt (by(with_reducible repeat(first|apply Kd.R_alloc|apply Kd.R_drewN|apply Kd.R_drew));exact HO_7.out)) k_ hk,Kd.fresh' (Kd.R_lt (by(with_reducible repeat(first|apply Kd.R_alloc|apply Kd.R_drewN|apply Kd.R_drew));exact HO306.out)) k_ hk,Kd.freshB (g:=q1) (o:=.cells #[.int .i64 t285,.int .i64 t288,.int .i64 (wrap64 (1+t291)),.int .i64 q2] 55 (0,0)) (by(with_reducible repeat(first|refine blk_drewN ?_ _|refine blk_drew ?_|refine blk_alloc ?_ _));exact q0.out) k_ hk⟩))
            (case aO=>exact(by(with_reducible repeat(first|apply Kd.R_alloc|apply Kd.R_drewN|apply Kd.R_drew));exact Kd.R_mono HO300.out (fun _ hk=>⟨hk.1.1.2,⟨hk.1.2,hk.2⟩⟩)))
            (case aS=>exact(keep_size (w:=w) (g:=g) (row:=none) (by repeat(first|(with_reducible first|exact HK.out|apply KeepBut.set_|apply keep_drewN|apply keep_drew|apply keep_alloc|refine keep_far ?_ GW294.out _)|exact HK.out))))
            (case aL=>have:=LMc28.out;omega)
            intro v302 w39 ho hb hg hat
            rw [← Ny301.out] at ho
            have n0_:=ak_ (Kd.R_after (ok:=(fun k_=>some k_≠(v305:Value).ownBlock∧k_≠q1)) (by(with_reducible repeat(first|apply Kd.R_alloc|apply Kd.R_drewN|apply Kd.R_drew));exact Kd.R_mono HO_7.out (fun _ hk=>⟨⟨hk.1.2,hk.1.1⟩,hk.2⟩)) hg hat)
            have n1_:=ak_ (blk_grown (g:=q1) (o:=.cells #[.int .i64 t285,.int .i64 t288,.int .i64 (wrap64 (1+t291)),.int .i64 q2] 55 (0,0)) (by(with_reducible repeat(first|refine blk_drewN ?_ _|refine blk_drew ?_|refine blk_alloc ?_ _));exact q0.out) hg (Kd.R_away HO300.out (fun _ hk=>hk.2)))
            have n2_:=ak_ (IsS94.grown (by repeat(first|(with_reducible first|exact HI0.out|apply IsS94.alloc|apply IsS94.drewN|apply IsS94.drew|apply IsS94.set_1|apply IsS94.set_2|refine IsS94.far ?_ NB0_294.out _)|exact HI0.out)) hg (IsS94.own_ne HI0.out HO300.out (by decide)))
            have n3_:=ak_ (Kd.R_after (ok:=(fun k_=>some k_≠(.slice Ao33 x7_1.length co33:Value).ownBlock∧k_≠q1)) (by(with_reducible repeat(first|apply Kd.R_alloc|apply Kd.R_drewN|apply Kd.R_drew));exact Kd.R_mono HO306.out (fun _ hk=>⟨⟨hk.1.1.2,hk.1.2⟩,hk.2⟩)) hg hat)
            have n4_:=ak_ (below_weaken (by repeat(first|(with_reducible first|exact HB.out|apply below_alloc|apply pw_below_drewN|apply below_drew1|refine below_set ?_ (IsS94.ge HI0.out)|refine below_set ?_ GE294.out)|exact HB.out)) HL.out hb)
            have n5_:=ak_ (KeepBut.trans (by repeat(first|(with_reducible first|exact HK.out|apply KeepBut.set_|apply keep_drewN|apply keep_drew|apply keep_alloc|refine keep_far ?_ GW294.out _)|exact HK.out)) (KeepBut.of_grown hg g) (Kd.R_base2 HO300.out))
            have n6_:=ak_ (ho)
            clear HO_7
            clear q0
            clear HI0
            clear HO306
            clear HB
            clear HK
            clear HO300
            have HO_7:=n0_
            have q0:=n1_
            have HI0:=n2_
            have HO306:=n3_
            have HB:=n4_
            have HK:=n5_
            have HO303:=n6_
            clear n0_ n1_ n2_ n3_ n4_ n5_ n6_
            clear ho hb hg hat
            refine hK.out _ _ ⟨(blk_cell q0.out 0).trans rfl,(blk_cell q0.out 1).trans rfl,(blk_cell q0.out 2).trans rfl,(blk_cell q0.out 3).trans rfl⟩ (fun hHeld=>?_)
            clear hK K
            refine norm_ (a':=?_) ?_ ?_
            rotate_left
            ·show Act.put _ (some 51) _=_
             simp only [Act.put,List.setIfInBounds_toArray,List.set_cons_zero,List.set_cons_succ,i64_w,i32_w]
             rfl
            exact norm_ (by simp only [putAll,Act.put,List.setIfInBounds_toArray,List.set_cons_zero,List.set_cons_succ]) (hCont (v299,v302,v305) _ ⟨hHeld,(by(with_reducible repeat(first|apply Kd.R_alloc|apply Kd.R_drewN|apply Kd.R_drew));exact Kd.R_mono HO303.out (fun _ hk=>⟨hk.2.1,⟨hk.1,hk.2.2⟩⟩)),(by(with_reducible repeat(first|apply Kd.R_alloc|apply Kd.R_drewN|apply Kd.R_drew));exact Kd.R_mono HO306.out (fun _ hk=>⟨hk.2,⟨hk.1.1,hk.1.2⟩⟩)),(by(with_reducible repeat(first|apply Kd.R_alloc|apply Kd.R_drewN|apply Kd.R_drew));exact Kd.R_mono HO_7.out (fun _ hk=>⟨hk.2,⟨hk.1.1,hk.1.2⟩⟩)),(by(with_reducible repeat(first|refine blk_drewN ?_ _|refine blk_drew ?_|refine blk_alloc ?_ _));exact q0.out),(by repeat(first|(with_reducible first|exact HI0.out|apply IsS94.alloc|apply IsS94.drewN|apply IsS94.drew|apply IsS94.set_1|apply IsS94.set_2|refine IsS94.far ?_ NB0_294.out _)|exact HI0.out)),(by repeat(first|(with_reducible first|exact HK.out|apply KeepBut.set_|apply keep_drewN|apply keep_drew|apply keep_alloc|refine keep_far ?_ GW294.out _)|exact HK.out)),(by repeat(first|(with_reducible first|exact HB.out|apply below_alloc|apply pw_below_drewN|apply below_drew1|refine below_set ?_ (IsS94.ge HI0.out)|refine below_set ?_ GE294.out)|exact HB.out))⟩)
          rintro⟨v299,v302,v305⟩ w40 ⟨hS_,h0_,h1_,h2_,h3_,h4_,h5_,h6_⟩
          have n0_:Aside0 (Kd.R k55 55 w40 w.heap.size (fun k_=>some k_≠(v305:Value).ownBlock∧some k_≠(.slice Ao33 x7_1.length co33:Value).ownBlock∧k_≠q1) v302 y301):=⟨h0_⟩
          have n1_:Aside0 (Kd.R k55 55 w40 w.heap.size (fun k_=>some k_≠(v302:Value).ownBlock∧some k_≠(.slice Ao33 x7_1.length co33:Value).ownBlock∧k_≠q1) v305 y304):=⟨h1_⟩
          have n2_:Aside0 (Kd.R k55 55 w40 w.heap.size (fun k_=>some k_≠(v302:Value).ownBlock∧some k_≠(v305:Value).ownBlock∧k_≠q1) (.slice Ao33 x7_1.length co33) x7_1):=⟨h2_⟩
          have n3_:Aside0 (w40.heap[q1]?=some (.cells #[.int .i64 t285,.int .i64 t288,.int .i64 (wrap64 (1+t291)),.int .i64 q2] 55 (0,0))):=⟨h3_⟩
          have n4_:Aside0 (IsS94 w0 w40 g s0_0 x1001_13 x1002_13):=⟨h4_⟩
          have n5_:Aside0 (KeepBut w w40 g none):=⟨h5_⟩
          have n6_:Aside0 (Below w0.heap.size w0 w40):=⟨h6_⟩
          clear HO_7
          clear q0
          clear HI0
          clear HK
          clear HB
          clear h0_ h1_ h2_ h3_ h4_ h5_ h6_
          have HO303:=n0_
          have HO306:=n1_
          have HO_7:=n2_
          have q0:=n3_
          have HI0:=n4_
          have HK:=n5_
          have HB:=n6_
          clear n0_ n1_ n2_ n3_ n4_ n5_ n6_
          have hHeld:w40.cell? ⟨q1,0,none⟩=some (.int .i64 t285)∧w40.cell? ⟨q1,1,none⟩=some (.int .i64 t288)∧w40.cell? ⟨q1,2,none⟩=some (.int .i64 (wrap64 (1+t291)))∧w40.cell? ⟨q1,3,none⟩=some (.int .i64 q2):=hS_
          obtain⟨Ao42,co42,eo42⟩:=Kd.R_slice HO306.out
          (first|subst eo42|(injection eo42 with f1_ f2_ f3_;have f4_:=f1_.symm;have f5_:=f3_.symm;clear f1_ f2_ f3_;subst f4_;subst f5_))
          refine norm_ (a':=?_) ?_ ?_
          rotate_left
          ·simp only [putAll,Act.put,List.setIfInBounds_toArray,List.set_cons_zero,List.set_cons_succ]
           rfl
          refine one_ (i:=7) (N:=some 54) #[true,true,true,true,true,true,true,true,false,false,false,false,false,false] rfl rfl (one_of HT_.out (by kernel_rfl)) (by decide) (fun K hK=>?_)
          refine Kd.R_append_rows_step k55 w.heap.size (by rfl) (.tmp 51) (.tmp 53) 31 55 (.agg #[(.int .i64 0),(.int .i64 0),(.int .i64 0),(.int .i64 0)]) 32 rfl Try.underlying31 info55 rfl (by decide) (by omega) v302 y301 y304 _ _ _ (fun k_=>some k_≠(.slice Ao33 x7_1.length co33:Value).ownBlock∧some k_≠(.slice Ao42 y304.length co42:Value).ownBlock∧k_≠q1) (fun _=>False) rfl rfl ?aO ?aR (fun _ _ h=>h) (fun _ h=>h.elim) ?aF (Below.refl _ _) ?aS ?aL ?_
          (case aR=>repeat(first|exact(Kd.R_reads' HO306.out).2.2|(with_reducible refine Kd.C_alloc ?_ _)|(with_reducible refine Kd.C_drewN ?_ _)|(with_reducible refine Kd.C_drew ?_)))
          (case aF=>exact(fun k_ hk=>⟨Kd.fresh' (Kd.R_lt (by(with_reducible repeat(first|apply Kd.R_alloc|apply Kd.R_drewN|apply Kd.R_drew));exact HO_7.out)) k_ hk,Kd.fresh' (Kd.R_lt (by(with_reducible repeat(first|apply Kd.R_alloc|apply Kd.R_drewN|apply Kd.R_drew));exact HO306.out)) k_ hk,Kd.freshB (g:=q1) (o:=.cells #[.int .i64 t285,.int .i64 t288,.int .i64 (wrap64 (1+t291)),.int .i64 q2] 55 (0,0)) (by(with_reducible repeat(first|refine blk_drewN ?_ _|refine blk_drew ?_|refine blk_alloc ?_ _));exact q0.out) k_ hk⟩))
          (case aO=>exact(by(with_reducible repeat(first|apply Kd.R_alloc|apply Kd.R_drewN|apply Kd.R_drew));exact Kd.R_mono HO303.out (fun _ hk=>⟨hk.2.1,⟨hk.1,hk.2.2⟩⟩)))
          (case aS=>exact(keep_size (w:=w) (g:=g) (row:=none) (by repeat(first|(with_reducible first|exact HK.out|apply KeepBut.set_|apply keep_drewN|apply keep_drew|apply keep_alloc|refine keep_far ?_ GW294.out _)|exact HK.out))))
          (case aL=>have:=LMc29.out;omega)
          intro v308 w41 ho hb hg hat
          rw [← Ny307.out] at ho
          have n0_:=ak_ (Kd.R_after (ok:=(fun k_=>some k_≠(.slice Ao42 y304.length co42:Value).ownBlock∧k_≠q1)) (by(with_reducible repeat(first|apply Kd.R_alloc|apply Kd.R_drewN|apply Kd.R_drew));exact Kd.R_mono HO_7.out (fun _ hk=>⟨⟨hk.2.1,hk.2.2⟩,hk.1⟩)) hg hat)
          have n1_:=ak_ (blk_grown (g:=q1) (o:=.cells #[.int .i64 t285,.int .i64 t288,.int .i64 (wrap64 (1+t291)),.int .i64 q2] 55 (0,0)) (by(with_reducible repeat(first|refine blk_drewN ?_ _|refine blk_drew ?_|refine blk_alloc ?_ _));exact q0.out) hg (Kd.R_away HO303.out (fun _ hk=>hk.2.2)))
          have n2_:=ak_ (IsS94.grown (by repeat(first|(with_reducible first|exact HI0.out|apply IsS94.alloc|apply IsS94.drewN|apply IsS94.drew|apply IsS94.set_1|apply IsS94.set_2|refine IsS94.far ?_ NB0_294.out _)|exact HI0.out)) hg (IsS94.own_ne HI0.out HO303.out (by decide)))
          have n3_:=ak_ (Kd.R_after (ok:=(fun k_=>some k_≠(.slice Ao33 x7_1.length co33:Value).ownBlock∧k_≠q1)) (by(with_reducible repeat(first|apply Kd.R_alloc|apply Kd.R_drewN|apply Kd.R_drew));exact Kd.R_mono HO306.out (fun _ hk=>⟨⟨hk.2.1,hk.2.2⟩,hk.1⟩)) hg hat)
          have n4_:=ak_ (below_weaken (by repeat(first|(with_reducible first|exact HB.out|apply below_alloc|apply pw_below_drewN|apply below_drew1|refine below_set ?_ (IsS94.ge HI0.out)|refine below_set ?_ GE294.out)|exact HB.out)) HL.out hb)
          have n5_:=ak_ (KeepBut.trans (by repeat(first|(with_reducible first|exact HK.out|apply KeepBut.set_|apply keep_drewN|apply keep_drew|apply keep_alloc|refine keep_far ?_ GW294.out _)|exact HK.out)) (KeepBut.of_grown hg g) (Kd.R_base2 HO303.out))
          have n6_:=ak_ (ho)
          clear HO_7
          clear q0
          clear HI0
          clear HO306
          clear HB
          clear HK
          clear HO303
          have HO_7:=n0_
          have q0:=n1_
          have HI0:=n2_
          have HO306:=n3_
          have HB:=n4_
          have HK:=n5_
          have HO309:=n6_
          clear n0_ n1_ n2_ n3_ n4_ n5_ n6_
          clear ho hb hg hat
          obtain⟨Ao43,co43,eo43⟩:=Kd.R_slice HO309.out
          (first|subst eo43|(injection eo43 with f1_ f2_ f3_;have f4_:=f1_.symm;have f5_:=f3_.symm;clear f1_ f2_ f3_;subst f4_;subst f5_))
          refine hK.out _ _ ⟨(blk_cell q0.out 0).trans rfl,(blk_cell q0.out 1).trans rfl,(blk_cell q0.out 2).trans rfl,(blk_cell q0.out 3).trans rfl⟩ (fun hHeld=>?_)
          clear hK K
          refine norm_ (a':=?_) ?_ ?_
          rotate_left
          ·show Act.put _ (some 54) _=_
           simp only [Act.put,List.setIfInBounds_toArray,List.set_cons_zero,List.set_cons_succ,i64_w,i32_w]
           rfl
          refine one_ (i:=8) (N:=some 55) #[true,true,true,true,true,true,true,true,true,false,false,false,false,false] rfl rfl (one_of HT_.out (by kernel_rfl)) (by decide) (fun K hK=>?_)
          refine goes_ Try.func19 (by kernel_rfl) rfl #[.int .i64 (wrap64 (1+t273)),.int .i64 t276,.slice Ao43 y307.length co43] (by rfl) rfl rfl (by(try simp only [List.map_toArray,List.map_cons,List.map_nil]);first|done|rfl|(simp only [List.length_drop,List.length_take];rfl)) ?_
          with_reducible refine(spec_AreFaults.calls kj13 (wrap64 (1+t273)) t276 _ _ y307 true _ ?side1 ?side2 A30.out).mono ?_
          (case side1=>repeat(first|exact(Kd.R_reads' HO309.out).2.2|(with_reducible refine Kd.C_alloc ?_ _)|(with_reducible refine Kd.C_drewN ?_ _)|(with_reducible refine Kd.C_drew ?_)))
          (case side2=>exact(Kd.R_reads' HO309.out).2.1)
          rintro e w44 ⟨rfl,hb⟩
          refine⟨_,rfl,?_⟩
          have n0_:=ak_ (Kd.R_below (by(with_reducible repeat(first|apply Kd.R_alloc|apply Kd.R_drewN|apply Kd.R_drew));exact HO_7.out) hb)
          have n1_:=ak_ (Kd.R_below (by(with_reducible repeat(first|apply Kd.R_alloc|apply Kd.R_drewN|apply Kd.R_drew));exact HO306.out) hb)
          have n2_:=ak_ (Kd.R_below (by(with_reducible repeat(first|apply Kd.R_alloc|apply Kd.R_drewN|apply Kd.R_drew));exact HO309.out) hb)
          have n3_:=ak_ (blk_below (g:=q1) (o:=.cells #[.int .i64 t285,.int .i64 t288,.int .i64 (wrap64 (1+t291)),.int .i64 q2] 55 (0,0)) (by(with_reducible repeat(first|refine blk_drewN ?_ _|refine blk_drew ?_|refine blk_alloc ?_ _));exact q0.out) hb)
          have n4_:=ak_ (IsS94.below (by repeat(first|(with_reducible first|exact HI0.out|apply IsS94.alloc|apply IsS94.drewN|apply IsS94.drew|apply IsS94.set_1|apply IsS94.set_2|refine IsS94.far ?_ NB0_294.out _)|exact HI0.out)) hb)
          have n5_:=ak_ (KeepBut.trans (by repeat(first|(with_reducible first|exact HK.out|apply KeepBut.set_|apply keep_drewN|apply keep_drew|apply keep_alloc|refine keep_far ?_ GW294.out _)|exact HK.out)) (KeepBut.of_below hb g none) (.inl rfl))
          have n6_:=ak_ (below_step (by repeat(first|(with_reducible first|exact HB.out|apply below_alloc|apply pw_below_drewN|apply below_drew1|refine below_set ?_ (IsS94.ge HI0.out)|refine below_set ?_ GE294.out)|exact HB.out)) hb)
          clear HO_7
          clear HO306
          clear HO309
          clear q0
          clear HI0
          clear HK
          clear HB
          have HO_7:=n0_
          have HO306:=n1_
          have HO309:=n2_
          have q0:=n3_
          have HI0:=n4_
          have HK:=n5_
          have HB:=n6_
          clear n0_ n1_ n2_ n3_ n4_ n5_ n6_
          (try clear hb)
          (try clear hb2)
          (try clear hk)
          (try clear hi)
          refine hK.out _ _ ⟨(blk_cell q0.out 0).trans rfl,(blk_cell q0.out 1).trans rfl,(blk_cell q0.out 2).trans rfl,(blk_cell q0.out 3).trans rfl⟩ (fun hHeld=>?_)
          clear hK K
          refine norm_ (a':=?_) ?_ ?_
          rotate_left
          ·show Act.put _ (some 55) _=_
           simp only [Act.put,List.setIfInBounds_toArray,List.set_cons_zero,List.set_cons_succ,i64_w,i32_w]
           rfl
          refine pure_ (i:=9) (N:=some 56) (v:=?_) (a':=?_) #[true,true,true,true,true,true,true,true,true,true,false,false,false,false] rfl rfl (any_of HT_.out (by kernel_rfl)) (fun _ _ _ h=>h) (Or.inl ⟨by rfl,?_⟩) ?_ ?_
          rotate_left
          ·intro w'
           go_simp
           with_reducible rfl
          rotate_left
          ·simp only [Act.put,List.setIfInBounds_toArray,List.set_cons_zero,List.set_cons_succ,i64_w,i32_w]
           rfl
          refine pure_ (i:=10) (N:=some 57) (v:=undef) (a':=?_) #[true,true,true,true,true,true,true,true,true,true,true,false,false,false] rfl rfl (any_of HT_.out (by kernel_rfl)) (fun _ _ _ h=>h) (Or.inr ⟨by rfl,rfl⟩) ?_ ?_
          rotate_left
          ·simp only [Act.put,List.setIfInBounds_toArray,List.set_cons_zero,List.set_cons_succ,i64_w,i32_w]
           rfl
          refine pure_ (i:=11) (N:=some 58) (v:=undef) (a':=?_) #[true,true,true,true,true,true,true,true,true,true,true,true,false,false] rfl rfl (any_of HT_.out (by kernel_rfl)) (fun _ _ _ h=>h) (Or.inr ⟨by rfl,rfl⟩) ?_ ?_
          rotate_left
          ·simp only [Act.put,List.setIfInBounds_toArray,List.set_cons_zero,List.set_cons_succ,i64_w,i32_w]
           rfl
          refine pure_ (i:=12) (N:=some 59) (v:=undef) (a':=?_) #[true,true,true,true,true,true,true,true,true,true,true,true,true,false] rfl rfl (any_of HT_.out (by kernel_rfl)) (fun _ _ _ h=>h) (Or.inr ⟨by rfl,rfl⟩) ?_ ?_
          rotate_left
          ·simp only [Act.put,List.setIfInBounds_toArray,List.set_cons_zero,List.set_cons_succ,i64_w,i32_w]
           rfl
          refine pure_ (i:=13) (N:=some 60) (v:=?_) (a':=?_) #[true,true,true,true,true,true,true,true,true,true,true,true,true,true] rfl rfl (any_of HT_.out (by kernel_rfl)) (fun _ _ _ h=>h) (Or.inl ⟨by rfl,?_⟩) ?_ ?_
          rotate_left
          ·intro w'
           go_simp
           with_reducible rfl
          rotate_left
          ·simp only [Act.put,List.setIfInBounds_toArray,List.set_cons_zero,List.set_cons_succ,i64_w,i32_w]
           rfl
          refine done_ (done_of HT_.out (by kernel_rfl)) ?_
          have hnb45:=NB294_0.out
          have hnc45:=NB0_294.out
          have hcz46_0:w44.cell? ⟨q1,0,none⟩=some (.int .i64 t285):=(blk_cell q0.out 0).trans rfl
          have hcz46_1:w44.cell? ⟨q1,1,none⟩=some (.int .i64 t288):=(blk_cell q0.out 1).trans rfl
          have hcz46_2:w44.cell? ⟨q1,2,none⟩=some (.int .i64 (wrap64 (1+t291))):=(blk_cell q0.out 2).trans rfl
          have hcz46_3:w44.cell? ⟨q1,3,none⟩=some (.int .i64 q2):=(blk_cell q0.out 3).trans rfl
          have hfz46_0:=blk_frozen q0.out 0
          have hfz46_1:=blk_frozen q0.out 1
          have hfz46_2:=blk_frozen q0.out 2
          have hfz46_3:=blk_frozen q0.out 3
          try go_wp2_with (first|((with_reducible refine gate_dst (N:=63) rfl ?_);refine Kd.R_lit k55 _ 55 ?hg (N:=63) ?hd (xs:=([(⟨t285,t288,(wrap64 (1+t291)),q2⟩:S55)]:List (S55))) (inner:=[.int .i64 t285,.int .i64 t288,.int .i64 (wrap64 (1+t291)),.int .i64 q2]) (ok:=fun _=>True) (okp:=fun _=>True) ?hr ?hp (fun _ hk=>hk) trivial (Below.refl _ _) (Nat.le_refl _) (by simp) ?_;(case hd=>rfl);(case hg=>rfl);(case hr=>first|(go_simp;done)|(go_simp;rfl));(case hp=>exact(Reps.c4 (show Kd.M k55 _ _ _ (⟨t285,t288,(wrap64 (1+t291)),q2⟩:S55) [.int .i64 t285,.int .i64 t288,.int .i64 (wrap64 (1+t291)),.int .i64 q2] from(k55_mkM _ _ _ (⟨t285,t288,(wrap64 (1+t291)),q2⟩:S55) )) (Reps.none _ _)));intro v315 w47 ho48 hb hg_ hnew_;clear hg_ hnew_;(first|rw [← Ny314.out] at ho48|(simp only [Int.reduceToNat] at ho48;rw [← Ny314.out] at ho48));have n0_:=ak_ (Kd.R_elder' (by(with_reducible repeat(first|apply Kd.R_alloc|apply Kd.R_drewN|apply Kd.R_drew));exact HO_7.out) (Kd.R_base ho48) hb);have n1_:=ak_ (Kd.R_elder' (by(with_reducible repeat(first|apply Kd.R_alloc|apply Kd.R_drewN|apply Kd.R_drew));exact HO306.out) (Kd.R_base ho48) hb);have n2_:=ak_ (Kd.R_elder' (by(with_reducible repeat(first|apply Kd.R_alloc|apply Kd.R_drewN|apply Kd.R_drew));exact HO309.out) (Kd.R_base ho48) hb);have n3_:=ak_ (Kd.R_lower (Kd.R_newB (Kd.R_new' (Kd.R_new' (Kd.R_new' ho48 (Kd.R_lt (by(with_reducible repeat(first|apply Kd.R_alloc|apply Kd.R_drewN|apply Kd.R_drew));exact HO_7.out))) (Kd.R_lt (by(with_reducible repeat(first|apply Kd.R_alloc|apply Kd.R_drewN|apply Kd.R_drew));exact HO306.out))) (Kd.R_lt (by(with_reducible repeat(first|apply Kd.R_alloc|apply Kd.R_drewN|apply Kd.R_drew));exact HO309.out))) (g:=q1) (o:=.cells #[.int .i64 t285,.int .i64 t288,.int .i64 (wrap64 (1+t291)),.int .i64 q2] 55 (0,0)) (by(with_reducible repeat(first|refine blk_drewN ?_ _|refine blk_drew ?_|refine blk_alloc ?_ _));exact q0.out)) (keep_size (w:=w) (g:=g) (row:=none) (by repeat(first|(with_reducible first|exact HK.out|apply KeepBut.set_|apply keep_drewN|apply keep_drew|apply keep_alloc|refine keep_far ?_ GW294.out _)|exact HK.out))));have n4_:=ak_ (blk_below (g:=q1) (o:=.cells #[.int .i64 t285,.int .i64 t288,.int .i64 (wrap64 (1+t291)),.int .i64 q2] 55 (0,0)) (by(with_reducible repeat(first|refine blk_drewN ?_ _|refine blk_drew ?_|refine blk_alloc ?_ _));exact q0.out) hb);have n5_:=ak_ (IsS94.below (by repeat(first|(with_reducible first|exact HI0.out|apply IsS94.alloc|apply IsS94.drewN|apply IsS94.drew|apply IsS94.set_1|apply IsS94.set_2|refine IsS94.far ?_ NB0_294.out _)|exact HI0.out)) hb);have n6_:=ak_ (KeepBut.trans (by repeat(first|(with_reducible first|exact HK.out|apply KeepBut.set_|apply keep_drewN|apply keep_drew|apply keep_alloc|refine keep_far ?_ GW294.out _)|exact HK.out)) (KeepBut.of_below hb g none) (.inl rfl));have n7_:=ak_ (below_step (by repeat(first|(with_reducible first|exact HB.out|apply below_alloc|apply pw_below_drewN|apply below_drew1|refine below_set ?_ (IsS94.ge HI0.out)|refine below_set ?_ GE294.out)|exact HB.out)) hb);clear HO_7;clear HO306;clear HO309;clear q0;clear HI0;clear HK;clear HB;have HO_7:=n0_;have HO306:=n1_;have HO309:=n2_;have HO316:=n3_;have q0:=n4_;have HI0:=n5_;have HK:=n6_;have HB:=n7_;clear n0_ n1_ n2_ n3_ n4_ n5_ n6_ n7_;clear hb ho48;obtain⟨Ao50,co50,eo50⟩:=Kd.R_slice HO316.out;subst eo50)|((with_reducible refine gate_builtin (b:=.append) (xs:=#[.tmp 61,.tmp 63]) rfl ?_);at_builtin;refine Kd.R_append_rows k55 w.heap.size rfl (.tmp 61) (.tmp 63) 31 55 (.agg #[(.int .i64 0),(.int .i64 0),(.int .i64 0),(.int .i64 0)]) 32 rfl Try.underlying31 info55 rfl (by decide) (by omega) (.slice Ao33 x7_1.length co33) x7_1 y314 _ _ _ (fun k_=>some k_≠(.slice Ao42 y304.length co42:Value).ownBlock∧some k_≠(.slice Ao43 y307.length co43:Value).ownBlock∧some k_≠(.slice Ao50 y314.length co50:Value).ownBlock∧k_≠q1) (fun _=>False) rfl rfl ?aO ?aR (fun _ _ h=>h) (fun _ h=>h.elim) ?aF (Below.refl _ _) ?aS ?aL ?_;(case aR=>repeat(first|exact(Kd.R_reads' HO316.out).2.2|(with_reducible refine Kd.C_alloc ?_ _)|(with_reducible refine Kd.C_drewN ?_ _)|(with_reducible refine Kd.C_drew ?_)));(case aF=>exact(fun k_ hk=>⟨Kd.fresh' (Kd.R_lt (by(with_reducible repeat(first|apply Kd.R_alloc|apply Kd.R_drewN|apply Kd.R_drew));exact HO306.out)) k_ hk,Kd.fresh' (Kd.R_lt (by(with_reducible repeat(first|apply Kd.R_alloc|apply Kd.R_drewN|apply Kd.R_drew));exact HO309.out)) k_ hk,Kd.fresh' (Kd.R_lt (by(with_reducible repeat(first|apply Kd.R_alloc|apply Kd.R_drewN|apply Kd.R_drew));exact HO316.out)) k_ hk,Kd.freshB (g:=q1) (o:=.cells #[.int .i64 t285,.int .i64 t288,.int .i64 (wrap64 (1+t291)),.int .i64 q2] 55 (0,0)) (by(with_reducible repeat(first|refine blk_drewN ?_ _|refine blk_drew ?_|refine blk_alloc ?_ _));exact q0.out) k_ hk⟩));(case aO=>exact(by(with_reducible repeat(first|apply Kd.R_alloc|apply Kd.R_drewN|apply Kd.R_drew));exact Kd.R_mono HO_7.out (fun _ hk=>⟨hk.1.1.1,⟨hk.1.2,⟨hk.2,hk.1.1.2⟩⟩⟩)));(case aS=>exact(keep_size (w:=w) (g:=g) (row:=none) (by repeat(first|(with_reducible first|exact HK.out|apply KeepBut.set_|apply keep_drewN|apply keep_drew|apply keep_alloc|refine keep_far ?_ GW294.out _)|exact HK.out))));(case aL=>have:=LMc32.out;omega);intro v318 w49 ho hb hg hat;rw [← Ny317.out] at ho;have n0_:=ak_ (blk_grown (g:=q1) (o:=.cells #[.int .i64 t285,.int .i64 t288,.int .i64 (wrap64 (1+t291)),.int .i64 q2] 55 (0,0)) (by(with_reducible repeat(first|refine blk_drewN ?_ _|refine blk_drew ?_|refine blk_alloc ?_ _));exact q0.out) hg (Kd.R_away HO_7.out (fun _ hk=>hk.1.1.2)));have n1_:=ak_ (IsS94.grown (by repeat(first|(with_reducible first|exact HI0.out|apply IsS94.alloc|apply IsS94.drewN|apply IsS94.drew|apply IsS94.set_1|apply IsS94.set_2|refine IsS94.far ?_ NB0_294.out _)|exact HI0.out)) hg (IsS94.own_ne HI0.out HO_7.out (by decide)));have n2_:=ak_ (Kd.R_after (ok:=(fun k_=>some k_≠(.slice Ao43 y307.length co43:Value).ownBlock∧some k_≠(.slice Ao50 y314.length co50:Value).ownBlock∧k_≠q1)) (by(with_reducible repeat(first|apply Kd.R_alloc|apply Kd.R_drewN|apply Kd.R_drew));exact Kd.R_mono HO306.out (fun _ hk=>⟨⟨hk.1.2,⟨hk.2,hk.1.1.2⟩⟩,hk.1.1.1⟩)) hg hat);have n3_:=ak_ (Kd.R_after (ok:=(fun k_=>some k_≠(.slice Ao42 y304.length co42:Value).ownBlock∧some k_≠(.slice Ao50 y314.length co50:Value).ownBlock∧k_≠q1)) (by(with_reducible repeat(first|apply Kd.R_alloc|apply Kd.R_drewN|apply Kd.R_drew));exact Kd.R_mono HO309.out (fun _ hk=>⟨⟨hk.1.2.1,⟨hk.2,hk.1.2.2⟩⟩,hk.1.1⟩)) hg hat);have n4_:=ak_ (Kd.R_after (ok:=(fun k_=>some k_≠(.slice Ao42 y304.length co42:Value).ownBlock∧some k_≠(.slice Ao43 y307.length co43:Value).ownBlock∧k_≠q1)) (by(with_reducible repeat(first|apply Kd.R_alloc|apply Kd.R_drewN|apply Kd.R_drew));exact Kd.R_mono HO316.out (fun _ hk=>⟨⟨hk.1.1.2,⟨hk.1.2,hk.2⟩⟩,hk.1.1.1.2⟩)) hg hat);have n5_:=ak_ (below_weaken (by repeat(first|(with_reducible first|exact HB.out|apply below_alloc|apply pw_below_drewN|apply below_drew1|refine below_set ?_ (IsS94.ge HI0.out)|refine below_set ?_ GE294.out)|exact HB.out)) HL.out hb);have n6_:=ak_ (KeepBut.trans (by repeat(first|(with_reducible first|exact HK.out|apply KeepBut.set_|apply keep_drewN|apply keep_drew|apply keep_alloc|refine keep_far ?_ GW294.out _)|exact HK.out)) (KeepBut.of_grown hg g) (Kd.R_base2 HO_7.out));have n7_:=ak_ (ho);clear q0;clear HI0;clear HO306;clear HO309;clear HO316;clear HB;clear HK;clear HO_7;have q0:=n0_;have HI0:=n1_;have HO306:=n2_;have HO309:=n3_;have HO316:=n4_;have HB:=n5_;have HK:=n6_;have HO319:=n7_;clear n0_ n1_ n2_ n3_ n4_ n5_ n6_ n7_;clear ho hb hg hat))
          go_roundg kj13
          case measure=>have:=HK1.out;have:=HJ13.out;omega
          case rel=>exact⟨(y317),(wrap64 (x8_1 - 1)),(x1001_13),(x1002_13),(by first|rfl|(simp;done)|(simp [*];done)),H',⟨by have:=HK1.out;have:=HJ13.out;omega⟩,⟨by(with_reducible repeat(first|apply Kd.R_alloc|apply Kd.R_drewN|apply Kd.R_drew));exact Kd.R_mono HO319.out (fun _ hk=>trivial)⟩,⟨by repeat(first|(with_reducible first|exact HI0.out|apply IsS94.alloc|apply IsS94.drewN|apply IsS94.drew|apply IsS94.set_1|apply IsS94.set_2|refine IsS94.far ?_ NB0_294.out _)|exact HI0.out)⟩,⟨by repeat(first|(with_reducible first|exact HK.out|apply KeepBut.set_|apply keep_drewN|apply keep_drew|apply keep_alloc|refine keep_far ?_ GW294.out _)|exact HK.out)⟩,⟨by repeat(first|(with_reducible first|exact HB.out|apply below_alloc|apply pw_below_drewN|apply below_drew1|refine below_set ?_ (IsS94.ge HI0.out)|refine below_set ?_ GE294.out)|exact HB.out)⟩⟩
         ·rw [if_neg c32] at H
          exact absurd H (by simp)
        ·replace c31:=Bool.eq_false_iff.mpr c31
         subst c31
         have H1:((spec_l01Next.f s0_0 x1001_13 x1002_13 30).bind fun bt311=>(if bt311.1=0 then ((some (([(⟨t285,t288,(wrap64 (1+t291)),q2⟩:S55)]:List (S55)):List (S55))).bind fun y320=>(if x7_1.length+y320.length<4398046511104 then (spec_l14Draw.l0 kj13 (wrap64 (1+t273)) t276 (x7_1 ++ y320) (wrap64 (x8_1 - 1)) s0_0 bt311.2.1 bt311.2.2) else (none))) else (spec_l14Draw.l0 kj13 (wrap64 (1+t273)) t276 x7_1 (wrap64 (x8_1 - 1)) s0_0 bt311.2.1 bt311.2.2)))=some (r1,r2,r3,r4,r5):=by rw [if_neg (show ¬ (false=true) by decide)] at H;exact H
         clear H
         have H:=H1
         clear H1
         replace H:=Option.bind_eq_some_iff.mp H
         obtain⟨⟨t311,t312,t313⟩,A510,H⟩:=H
         replace H:(if t311=0 then ((some (([(⟨t285,t288,(wrap64 (1+t291)),q2⟩:S55)]:List (S55)):List (S55))).bind fun y320=>(if x7_1.length+y320.length<4398046511104 then (spec_l14Draw.l0 kj13 (wrap64 (1+t273)) t276 (x7_1 ++ y320) (wrap64 (x8_1 - 1)) s0_0 t312 t313) else (none))) else (spec_l14Draw.l0 kj13 (wrap64 (1+t273)) t276 x7_1 (wrap64 (x8_1 - 1)) s0_0 t312 t313))=some (r1,r2,r3,r4,r5):=H
         have A51:=ak_ A510
         clear A510
         by_cases c52:t311=0
         ·rw [if_pos c52] at H
          have c52b0:(t311 == 0)=true:=beq_iff_eq.mpr c52
          have c52b1:(t311 != 0)=false:=bne_eq_false_iff_eq.mpr c52
          clear c52
          obtain⟨y320,hy320⟩:∃ y_:List (S55),y_=(([(⟨t285,t288,(wrap64 (1+t291)),q2⟩:S55)]:List (S55))):=⟨_,rfl⟩
          replace H:(if x7_1.length+y320.length<4398046511104 then (spec_l14Draw.l0 kj13 (wrap64 (1+t273)) t276 (x7_1 ++ y320) (wrap64 (x8_1 - 1)) s0_0 t312 t313) else (none))=some (r1,r2,r3,r4,r5):=by first|(rw [hy320];with_reducible exact H)|(have H2_:=(Option.bind_some _ _).symm.trans H;rw [hy320];with_reducible exact H2_)|(have H2_:=(Option.bind_some _ _).symm.trans H;with_reducible exact H2_)|with_reducible exact H|(rw [hy320];exact H)|exact H
          have Ny320:=ak_ hy320
          clear hy320
          by_cases c53:x7_1.length+y320.length<4398046511104
          ·rw [if_pos c53] at H
           have LMc53:=ak_ c53
           clear c53
           obtain⟨y323,hy323⟩:∃ y_:List (S55),y_=(x7_1 ++ y320):=⟨_,rfl⟩
           replace H:(spec_l14Draw.l0 kj13 (wrap64 (1+t273)) t276 y323 (wrap64 (x8_1 - 1)) s0_0 t312 t313)=some (r1,r2,r3,r4,r5):=by first|(rw [hy323];with_reducible exact H)|(have H2_:=(Option.bind_some _ _).symm.trans H;rw [hy323];with_reducible exact H2_)|(have H2_:=(Option.bind_some _ _).symm.trans H;with_reducible exact H2_)|with_reducible exact H|(rw [hy323];exact H)|exact H
           have Ny323:=ak_ hy323
           clear hy323
           have H':=ak_ H
           clear H
           obtain⟨Ao54,co54,eo54⟩:=Kd.R_slice HO_7.out
           subst eo54
           try go_wp2
           have n0_:=ak_ (Kd.R_drew HO_7.out)
           have n1_:=ak_ (blk_drew q0.out)
           have n2_:=ak_ (IsS94.drew HI0.out)
           have n3_:=ak_ (keep_drew HK.out)
           have n4_:=ak_ (below_drew1 HB.out)
           clear HO_7
           clear q0
           clear HI0
           clear HK
           clear HB
           have HO_7:=n0_
           have q0:=n1_
           have HI0:=n2_
           have HK:=n3_
           have HB:=n4_
           clear n0_ n1_ n2_ n3_ n4_
           refine start_ (n:=14) (S:=fun w'=>w'.cell? ⟨q1,0,none⟩=some (.int .i64 t285)∧w'.cell? ⟨q1,1,none⟩=some (.int .i64 t288)∧w'.cell? ⟨q1,2,none⟩=some (.int .i64 (wrap64 (1+t291)))∧w'.cell? ⟨q1,3,none⟩=some (.int .i64 q2)) (ds:=[]) #[false,false,false,false,false,false,false,false,false,false,false,false,false,false] (by kernel_rfl) rfl rfl ⟨(blk_cell q0.out 0).trans rfl,(blk_cell q0.out 1).trans rfl,(blk_cell q0.out 2).trans rfl,(blk_cell q0.out 3).trans rfl⟩ (fun hHeld=>?_);refine with_tabW spec_l14Draw.tab9 spec_l14Draw.bits9 (fun HT_ HW_=>?_)
           generalize wc.drew=w55 at HO_7 q0 HI0 HK HB hHeld ⊢
           refine pure_ (i:=0) (N:=some 47) (v:=?_) (a':=?_) #[true,false,false,false,false,false,false,false,false,false,false,false,false,false] rfl rfl (any_of HT_.out (by kernel_rfl)) (fun _ _ _ h=>h) (Or.inl ⟨by rfl,?_⟩) ?_ ?_
           rotate_left
           ·intro w'
            go_simp
            with_reducible rfl
           rotate_left
           ·simp only [Act.put,List.setIfInBounds_toArray,List.set_cons_zero,List.set_cons_succ,i64_w,i32_w]
            rfl
           refine pure_ (i:=1) (N:=some 48) (v:=?_) (a':=?_) #[true,true,false,false,false,false,false,false,false,false,false,false,false,false] rfl rfl (any_of HT_.out (by kernel_rfl)) (fun _ _ _ h=>h) (Or.inl ⟨by rfl,?_⟩) ?_ ?_
           rotate_left
           ·intro w'
            go_simp
            with_reducible rfl
           rotate_left
           ·simp only [Act.put,List.setIfInBounds_toArray,List.set_cons_zero,List.set_cons_succ,i64_w,i32_w]
            rfl
           refine pure_ (i:=3) (N:=some 50) (v:=?_) (a':=?_) #[true,true,false,true,false,false,false,false,false,false,false,false,false,false] rfl rfl (any_of HT_.out (by kernel_rfl)) (fun _ _ _ h=>h) (Or.inl ⟨by rfl,?_⟩) ?_ ?_
           rotate_left
           ·intro w'
            go_simp
            with_reducible rfl
           rotate_left
           ·simp only [Act.put,List.setIfInBounds_toArray,List.set_cons_zero,List.set_cons_succ,i64_w,i32_w]
            rfl
           refine take_ (i:=5) (N:=some 52) (v:=?_) (a':=?_) #[true,true,false,true,false,true,false,false,false,false,false,false,false,false] rfl rfl (take_ofW HT_.out HW_.out (by kernel_rfl)) (fun _ _ _ h=>h) (Or.inl ⟨by rfl,?_⟩) hHeld ?_ ?_
           rotate_left
           ·rintro w' ⟨s0,s1,s2,s3⟩
            go_simp
            with_reducible rfl
           rotate_left
           ·simp only [Act.put,List.setIfInBounds_toArray,List.set_cons_zero,List.set_cons_succ,i64_w,i32_w]
            rfl
           refine join_ (σ:=Value × Value × Value) 7 #[true,true,true,true,true,true,true,false,false,false,false,false,false,false] (fun s_=>[(49,s_.1),(51,s_.2.1),(53,s_.2.2)]) (fun s_ w'=>(w'.cell? ⟨q1,0,none⟩=some (.int .i64 t285)∧w'.cell? ⟨q1,1,none⟩=some (.int .i64 t288)∧w'.cell? ⟨q1,2,none⟩=some (.int .i64 (wrap64 (1+t291)))∧w'.cell? ⟨q1,3,none⟩=some (.int .i64 q2))∧(Kd.R k55 55 w' w.heap.size (fun k_=>some k_≠(s_.2.2:Value).ownBlock∧some k_≠(.slice Ao54 x7_1.length co54:Value).ownBlock∧k_≠q1) s_.2.1 y301)∧(Kd.R k55 55 w' w.heap.size (fun k_=>some k_≠(s_.2.1:Value).ownBlock∧some k_≠(.slice Ao54 x7_1.length co54:Value).ownBlock∧k_≠q1) s_.2.2 y304)∧(Kd.R k55 55 w' w.heap.size (fun k_=>some k_≠(s_.2.1:Value).ownBlock∧some k_≠(s_.2.2:Value).ownBlock∧k_≠q1) (.slice Ao54 x7_1.length co54) x7_1)∧(w'.heap[q1]?=some (.cells #[.int .i64 t285,.int .i64 t288,.int .i64 (wrap64 (1+t291)),.int .i64 q2] 55 (0,0)))∧(IsS94 w0 w' g s0_0 x1001_13 x1002_13)∧(KeepBut w w' g none)∧(Below w0.heap.size w0 w')) ?_ ?_
           rotate_left
           ·intro hCont
            refine two_ (i:=2) (j:=6) (Ni:=some 49) (Nj:=some 53) #[true,true,true,true,false,true,false,false,false,false,false,false,false,false] #[true,true,false,true,false,true,true,false,false,false,false,false,false,false] rfl rfl rfl rfl (two_of HT_.out (by kernel_rfl)) (by decide) (by decide) (fun K hK=>?_) (fun K hK=>?_)
            ·skip
             refine Kd.R_lit_step k55 _ 55 ?hg (N:=49) ?hd (xs:=([]:List (S55))) (inner:=[]) (ok:=fun _=>True) (okp:=fun _=>True) ?hr ?hp (fun _ hk=>hk) trivial (Below.refl _ _) (Nat.le_refl _) (by simp) ?_;(case hd=>rfl);(case hg=>rfl);(case hr=>first|(go_simp;done)|(go_simp;rfl));(case hp=>exact(Reps.none _ _))
             intro v299 w56 ho57 hb hg_ hnew_
             clear hg_ hnew_
             (first|rw [← Ny298.out] at ho57|(simp only [Int.reduceToNat] at ho57;rw [← Ny298.out] at ho57))
             have n0_:=ak_ (Kd.R_elder' (by(with_reducible repeat(first|apply Kd.R_alloc|apply Kd.R_drewN|apply Kd.R_drew));exact HO_7.out) (Kd.R_base ho57) hb)
             have n1_:=ak_ (Kd.R_lower (Kd.R_newB (Kd.R_new' ho57 (Kd.R_lt (by(with_reducible repeat(first|apply Kd.R_alloc|apply Kd.R_drewN|apply Kd.R_drew));exact HO_7.out))) (g:=q1) (o:=.cells #[.int .i64 t285,.int .i64 t288,.int .i64 (wrap64 (1+t291)),.int .i64 q2] 55 (0,0)) (by(with_reducible repeat(first|refine blk_drewN ?_ _|refine blk_drew ?_|refine blk_alloc ?_ _));exact q0.out)) (keep_size (w:=w) (g:=g) (row:=none) (by repeat(first|(with_reducible first|exact HK.out|apply KeepBut.set_|apply keep_drewN|apply keep_drew|apply keep_alloc|refine keep_far ?_ GW294.out _)|exact HK.out))))
             have n2_:=ak_ (blk_below (g:=q1) (o:=.cells #[.int .i64 t285,.int .i64 t288,.int .i64 (wrap64 (1+t291)),.int .i64 q2] 55 (0,0)) (by(with_reducible repeat(first|refine blk_drewN ?_ _|refine blk_drew ?_|refine blk_alloc ?_ _));exact q0.out) hb)
             have n3_:=ak_ (IsS94.below (by repeat(first|(with_reducible first|exact HI0.out|apply IsS94.alloc|apply IsS94.drewN|apply IsS94.drew|apply IsS94.set_1|apply IsS94.set_2|refine IsS94.far ?_ NB0_294.out _)|exact HI0.out)) hb)
             have n4_:=ak_ (KeepBut.trans (by repeat(first|(with_reducible first|exact HK.out|apply KeepBut.set_|apply keep_drewN|apply keep_drew|apply keep_alloc|refine keep_far ?_ GW294.out _)|exact HK.out)) (KeepBut.of_below hb g none) (.inl rfl))
             have n5_:=ak_ (below_step (by repeat(first|(with_reducible first|exact HB.out|apply below_alloc|apply pw_below_drewN|apply below_drew1|refine below_set ?_ (IsS94.ge HI0.out)|refine below_set ?_ GE294.out)|exact HB.out)) hb)
             clear HO_7
             clear q0
             clear HI0
             clear HK
             clear HB
             have HO_7:=n0_
             have HO300:=n1_
             have q0:=n2_
             have HI0:=n3_
             have HK:=n4_
             have HB:=n5_
             clear n0_ n1_ n2_ n3_ n4_ n5_
             clear hb ho57
             refine hK.out _ _ ⟨(blk_cell q0.out 0).trans rfl,(blk_cell q0.out 1).trans rfl,(blk_cell q0.out 2).trans rfl,(blk_cell q0.out 3).trans rfl⟩ (fun hHeld=>?_)
             clear hK K
             refine norm_ (a':=?_) ?_ ?_
             rotate_left
             ·show Act.put _ (some 49) _=_
              simp only [Act.put,List.setIfInBounds_toArray,List.set_cons_zero,List.set_cons_succ,i64_w,i32_w]
              rfl
             refine two_ (i:=4) (j:=6) (Ni:=some 51) (Nj:=some 53) #[true,true,true,true,true,true,false,false,false,false,false,false,false,false] #[true,true,true,true,false,true,true,false,false,false,false,false,false,false] rfl rfl rfl rfl (two_of HT_.out (by kernel_rfl)) (by decide) (by decide) (fun K hK=>?_) (fun K hK=>?_)
             ·skip
              refine Kd.R_append_rows_step k55 w.heap.size (by rfl) (.tmp 49) (.tmp 50) 31 55 (.agg #[(.int .i64 0),(.int .i64 0),(.int .i64 0),(.int .i64 0)]) 32 rfl Try.underlying31 info55 rfl (by decide) (by omega) v299 y298 x7_1 _ _ _ (fun k_=>some k_≠(.slice Ao54 x7_1.length co54:Value).ownBlock∧k_≠q1) (fun _=>False) rfl rfl ?aO ?aR (fun _ _ h=>h) (fun _ h=>h.elim) ?aF (Below.refl _ _) ?aS ?aL ?_
              (case aR=>repeat(first|exact(Kd.R_reads' HO_7.out).2.2|(with_reducible refine Kd.C_alloc ?_ _)|(with_reducible refine Kd.C_drewN ?_ _)|(with_reducible refine Kd.C_drew ?_)))
              (case aF=>exact(fun k_ hk=>⟨Kd.fresh' (Kd.R_lt (by(with_reducible repeat(first|apply Kd.R_alloc|apply Kd.R_drewN|apply Kd.R_drew));exact HO_7.out)) k_ hk,Kd.freshB (g:=q1) (o:=.cells #[.int .i64 t285,.int .i64 t288,.int .i64 (wrap64 (1+t291)),.int .i64 q2] 55 (0,0)) (by(with_reducible repeat(first|refine blk_drewN ?_ _|refine blk_drew ?_|refine blk_alloc ?_ _));exact q0.out) k_ hk⟩))
              (case aO=>exact(by(with_reducible repeat(first|apply Kd.R_alloc|apply Kd.R_drewN|apply Kd.R_drew));exact Kd.R_mono HO300.out (fun _ hk=>⟨hk.1.2,hk.2⟩)))
              (case aS=>exact(keep_size (w:=w) (g:=g) (row:=none) (by repeat(first|(with_reducible first|exact HK.out|apply KeepBut.set_|apply keep_drewN|apply keep_drew|apply keep_alloc|refine keep_far ?_ GW294.out _)|exact HK.out))))
              (case aL=>have:=LMc28.out;omega)
              intro v302 w58 ho hb hg hat
              rw [← Ny301.out] at ho
              have n0_:=ak_ (Kd.R_after (ok:=(fun k_=>k_≠q1)) (by(with_reducible repeat(first|apply Kd.R_alloc|apply Kd.R_drewN|apply Kd.R_drew));exact HO_7.out) hg hat)
              have n1_:=ak_ (blk_grown (g:=q1) (o:=.cells #[.int .i64 t285,.int .i64 t288,.int .i64 (wrap64 (1+t291)),.int .i64 q2] 55 (0,0)) (by(with_reducible repeat(first|refine blk_drewN ?_ _|refine blk_drew ?_|refine blk_alloc ?_ _));exact q0.out) hg (Kd.R_away HO300.out (fun _ hk=>hk.2)))
              have n2_:=ak_ (IsS94.grown (by repeat(first|(with_reducible first|exact HI0.out|apply IsS94.alloc|apply IsS94.drewN|apply IsS94.drew|apply IsS94.set_1|apply IsS94.set_2|refine IsS94.far ?_ NB0_294.out _)|exact HI0.out)) hg (IsS94.own_ne HI0.out HO300.out (by decide)))
              have n3_:=ak_ (below_weaken (by repeat(first|(with_reducible first|exact HB.out|apply below_alloc|apply pw_below_drewN|apply below_drew1|refine below_set ?_ (IsS94.ge HI0.out)|refine below_set ?_ GE294.out)|exact HB.out)) HL.out hb)
              have n4_:=ak_ (KeepBut.trans (by repeat(first|(with_reducible first|exact HK.out|apply KeepBut.set_|apply keep_drewN|apply keep_drew|apply keep_alloc|refine keep_far ?_ GW294.out _)|exact HK.out)) (KeepBut.of_grown hg g) (Kd.R_base2 HO300.out))
              have n5_:=ak_ (ho)
              clear HO_7
              clear q0
              clear HI0
              clear HB
              clear HK
              clear HO300
              have HO_7:=n0_
              have q0:=n1_
              have HI0:=n2_
              have HB:=n3_
              have HK:=n4_
              have HO303:=n5_
              clear n0_ n1_ n2_ n3_ n4_ n5_
              clear ho hb hg hat
              refine hK.out _ _ ⟨(blk_cell q0.out 0).trans rfl,(blk_cell q0.out 1).trans rfl,(blk_cell q0.out 2).trans rfl,(blk_cell q0.out 3).trans rfl⟩ (fun hHeld=>?_)
              clear hK K
              refine norm_ (a':=?_) ?_ ?_
              rotate_left
              ·show Act.put _ (some 51) _=_
               simp only [Act.put,List.setIfInBounds_toArray,List.set_cons_zero,List.set_cons_succ,i64_w,i32_w]
               rfl
              refine one_ (i:=6) (N:=some 53) #[true,true,true,true,true,true,true,false,false,false,false,false,false,false] rfl rfl (one_of HT_.out (by kernel_rfl)) (by decide) (fun K hK=>?_)
              refine Kd.R_lit_step k55 _ 55 ?hg (N:=53) ?hd (xs:=([(⟨t285,t288,(wrap64 (1+t291)),q2⟩:S55)]:List (S55))) (inner:=[.int .i64 t285,.int .i64 t288,.int .i64 (wrap64 (1+t291)),.int .i64 q2]) (ok:=fun _=>True) (okp:=fun _=>True) ?hr ?hp (fun _ hk=>hk) trivial (Below.refl _ _) (Nat.le_refl _) (by simp) ?_;(case hd=>rfl);(case hg=>rfl);(case hr=>first|(go_simp;done)|(go_simp;rfl));(case hp=>exact(Reps.c4 (show Kd.M k55 _ _ _ (⟨t285,t288,(wrap64 (1+t291)),q2⟩:S55) [.int .i64 t285,.int .i64 t288,.int .i64 (wrap64 (1+t291)),.int .i64 q2] from(k55_mkM _ _ _ (⟨t285,t288,(wrap64 (1+t291)),q2⟩:S55) )) (Reps.none _ _)))
              intro v305 w59 ho60 hb hg_ hnew_
              clear hg_ hnew_
              (first|rw [← Ny304.out] at ho60|(simp only [Int.reduceToNat] at ho60;rw [← Ny304.out] at ho60))
              have n0_:=ak_ (Kd.R_elder' (by(with_reducible repeat(first|apply Kd.R_alloc|apply Kd.R_drewN|apply Kd.R_drew));exact HO_7.out) (Kd.R_base ho60) hb)
              have n1_:=ak_ (Kd.R_elder' (by(with_reducible repeat(first|apply Kd.R_alloc|apply Kd.R_drewN|apply Kd.R_drew));exact HO303.out) (Kd.R_base ho60) hb)
              have n2_:=ak_ (Kd.R_lower (Kd.R_newB (Kd.R_new' (Kd.R_new' ho60 (Kd.R_lt (by(with_reducible repeat(first|apply Kd.R_alloc|apply Kd.R_drewN|apply Kd.R_drew));exact HO_7.out))) (Kd.R_lt (by(with_reducible repeat(first|apply Kd.R_alloc|apply Kd.R_drewN|apply Kd.R_drew));exact HO303.out))) (g:=q1) (o:=.cells #[.int .i64 t285,.int .i64 t288,.int .i64 (wrap64 (1+t291)),.int .i64 q2] 55 (0,0)) (by(with_reducible repeat(first|refine blk_drewN ?_ _|refine blk_drew ?_|refine blk_alloc ?_ _));exact q0.out)) (keep_size (w:=w) (g:=g) (row:=none) (by repeat(first|(with_reducible first|exact HK.out|apply KeepBut.set_|apply keep_drewN|apply keep_drew|apply keep_alloc|refine keep_far ?_ GW294.out _)|exact HK.out))))
              have n3_:=ak_ (blk_below (g:=q1) (o:=.cells #[.int .i64 t285,.int .i64 t288,.int .i64 (wrap64 (1+t291)),.int .i64 q2] 55 (0,0)) (by(with_reducible repeat(first|refine blk_drewN ?_ _|refine blk_drew ?_|refine blk_alloc ?_ _));exact q0.out) hb)
              have n4_:=ak_ (IsS94.below (by repeat(first|(with_reducible first|exact HI0.out|apply IsS94.alloc|apply IsS94.drewN|apply IsS94.drew|apply IsS94.set_1|apply IsS94.set_2|refine IsS94.far ?_ NB0_294.out _)|exact HI0.out)) hb)
              have n5_:=ak_ (KeepBut.trans (by repeat(first|(with_reducible first|exact HK.out|apply KeepBut.set_|apply keep_drewN|apply keep_drew|apply keep_alloc|refine keep_far ?_ GW294.out _)|exact HK.out)) (KeepBut.of_below hb g none) (.inl rfl))
              have n6_:=ak_ (below_step (by repeat(first|(with_reducible first|exact HB.out|apply below_alloc|apply pw_below_drewN|apply below_drew1|refine below_set ?_ (IsS94.ge HI0.out)|refine below_set ?_ GE294.out)|exact HB.out)) hb)
              clear HO_7
              clear HO303
              clear q0
              clear HI0
              clear HK
              clear HB
              have HO_7:=n0_
              have HO303:=n1_
              have HO306:=n2_
              have q0:=n3_
              have HI0:=n4_
              have HK:=n5_
              have HB:=n6_
              clear n0_ n1_ n2_ n3_ n4_ n5_ n6_
              clear hb ho60
              refine hK.out _ _ ⟨(blk_cell q0.out 0).trans rfl,(blk_cell q0.out 1).trans rfl,(blk_cell q0.out 2).trans rfl,(blk_cell q0.out 3).trans rfl⟩ (fun hHeld=>?_)
              clear hK K
              refine norm_ (a':=?_) ?_ ?_
              rotate_left
              ·show Act.put _ (some 53) _=_
               simp only [Act.put,List.setIfInBounds_toArray,List.set_cons_zero,List.set_cons_succ,i64_w,i32_w]
               rfl
              exact norm_ (by simp only [putAll,Act.put,List.setIfInBounds_toArray,List.set_cons_zero,List.set_cons_succ]) (hCont (v299,v302,v305) _ ⟨hHeld,(by(with_reducible repeat(first|apply Kd.R_alloc|apply Kd.R_drewN|apply Kd.R_drew));exact Kd.R_mono HO303.out (fun _ hk=>⟨hk.2,⟨hk.1.1,hk.1.2⟩⟩)),(by(with_reducible repeat(first|apply Kd.R_alloc|apply Kd.R_drewN|apply Kd.R_drew));exact Kd.R_mono HO306.out (fun _ hk=>⟨hk.1.2,⟨hk.1.1.2,hk.2⟩⟩)),(by(with_reducible repeat(first|apply Kd.R_alloc|apply Kd.R_drewN|apply Kd.R_drew));exact Kd.R_mono HO_7.out (fun _ hk=>⟨hk.1.2,⟨hk.2,hk.1.1⟩⟩)),(by(with_reducible repeat(first|refine blk_drewN ?_ _|refine blk_drew ?_|refine blk_alloc ?_ _));exact q0.out),(by repeat(first|(with_reducible first|exact HI0.out|apply IsS94.alloc|apply IsS94.drewN|apply IsS94.drew|apply IsS94.set_1|apply IsS94.set_2|refine IsS94.far ?_ NB0_294.out _)|exact HI0.out)),(by repeat(first|(with_reducible first|exact HK.out|apply KeepBut.set_|apply keep_drewN|apply keep_drew|apply keep_alloc|refine keep_far ?_ GW294.out _)|exact HK.out)),(by repeat(first|(with_reducible first|exact HB.out|apply below_alloc|apply pw_below_drewN|apply below_drew1|refine below_set ?_ (IsS94.ge HI0.out)|refine below_set ?_ GE294.out)|exact HB.out))⟩)
             ·skip
              refine Kd.R_lit_step k55 _ 55 ?hg (N:=53) ?hd (xs:=([(⟨t285,t288,(wrap64 (1+t291)),q2⟩:S55)]:List (S55))) (inner:=[.int .i64 t285,.int .i64 t288,.int .i64 (wrap64 (1+t291)),.int .i64 q2]) (ok:=fun _=>True) (okp:=fun _=>True) ?hr ?hp (fun _ hk=>hk) trivial (Below.refl _ _) (Nat.le_refl _) (by simp) ?_;(case hd=>rfl);(case hg=>rfl);(case hr=>first|(go_simp;done)|(go_simp;rfl));(case hp=>exact(Reps.c4 (show Kd.M k55 _ _ _ (⟨t285,t288,(wrap64 (1+t291)),q2⟩:S55) [.int .i64 t285,.int .i64 t288,.int .i64 (wrap64 (1+t291)),.int .i64 q2] from(k55_mkM _ _ _ (⟨t285,t288,(wrap64 (1+t291)),q2⟩:S55) )) (Reps.none _ _)))
              intro v305 w58 ho59 hb hg_ hnew_
              clear hg_ hnew_
              (first|rw [← Ny304.out] at ho59|(simp only [Int.reduceToNat] at ho59;rw [← Ny304.out] at ho59))
              have n0_:=ak_ (Kd.R_elder' (by(with_reducible repeat(first|apply Kd.R_alloc|apply Kd.R_drewN|apply Kd.R_drew));exact HO_7.out) (Kd.R_base ho59) hb)
              have n1_:=ak_ (Kd.R_elder' (by(with_reducible repeat(first|apply Kd.R_alloc|apply Kd.R_drewN|apply Kd.R_drew));exact HO300.out) (Kd.R_base ho59) hb)
              have n2_:=ak_ (Kd.R_lower (Kd.R_newB (Kd.R_new' (Kd.R_new' ho59 (Kd.R_lt (by(with_reducible repeat(first|apply Kd.R_alloc|apply Kd.R_drewN|apply Kd.R_drew));exact HO_7.out))) (Kd.R_lt (by(with_reducible repeat(first|apply Kd.R_alloc|apply Kd.R_drewN|apply Kd.R_drew));exact HO300.out))) (g:=q1) (o:=.cells #[.int .i64 t285,.int .i64 t288,.int .i64 (wrap64 (1+t291)),.int .i64 q2] 55 (0,0)) (by(with_reducible repeat(first|refine blk_drewN ?_ _|refine blk_drew ?_|refine blk_alloc ?_ _));exact q0.out)) (keep_size (w:=w) (g:=g) (row:=none) (by repeat(first|(with_reducible first|exact HK.out|apply KeepBut.set_|apply keep_drewN|apply keep_drew|apply keep_alloc|refine keep_far ?_ GW294.out _)|exact HK.out))))
              have n3_:=ak_ (blk_below (g:=q1) (o:=.cells #[.int .i64 t285,.int .i64 t288,.int .i64 (wrap64 (1+t291)),.int .i64 q2] 55 (0,0)) (by(with_reducible repeat(first|refine blk_drewN ?_ _|refine blk_drew ?_|refine blk_alloc ?_ _));exact q0.out) hb)
              have n4_:=ak_ (IsS94.below (by repeat(first|(with_reducible first|exact HI0.out|apply IsS94.alloc|apply IsS94.drewN|apply IsS94.drew|apply IsS94.set_1|apply IsS94.set_2|refine IsS94.far ?_ NB0_294.out _)|exact HI0.out)) hb)
              have n5_:=ak_ (KeepBut.trans (by repeat(first|(with_reducible first|exact HK.out|apply KeepBut.set_|apply keep_drewN|apply keep_drew|apply keep_alloc|refine keep_far ?_ GW294.out _)|exact HK.out)) (KeepBut.of_below hb g none) (.inl rfl))
              have n6_:=ak_ (below_step (by repeat(first|(with_reducible first|exact HB.out|apply below_alloc|apply pw_below_drewN|apply below_drew1|refine below_set ?_ (IsS94.ge HI0.out)|refine below_set ?_ GE294.out)|exact HB.out)) hb)
              clear HO_7
              clear HO300
              clear q0
              clear HI0
              clear HK
              clear HB
              have HO_7:=n0_
              have HO300:=n1_
              have HO306:=n2_
              have q0:=n3_
              have HI0:=n4_
              have HK:=n5_
              have HB:=n6_
              clear n0_ n1_ n2_ n3_ n4_ n5_ n6_
              clear hb ho59
              refine hK.out _ _ ⟨(blk_cell q0.out 0).trans rfl,(blk_cell q0.out 1).trans rfl,(blk_cell q0.out 2).trans rfl,(blk_cell q0.out 3).trans rfl⟩ (fun hHeld=>?_)
              clear hK K
              refine norm_ (a':=?_) ?_ ?_
              rotate_left
              ·show Act.put _ (some 53) _=_
               simp only [Act.put,List.setIfInBounds_toArray,List.set_cons_zero,List.set_cons_succ,i64_w,i32_w]
               rfl
              refine one_ (i:=4) (N:=some 51) #[true,true,true,true,true,true,true,false,false,false,false,false,false,false] rfl rfl (one_of HT_.out (by kernel_rfl)) (by decide) (fun K hK=>?_)
              refine Kd.R_append_rows_step k55 w.heap.size (by rfl) (.tmp 49) (.tmp 50) 31 55 (.agg #[(.int .i64 0),(.int .i64 0),(.int .i64 0),(.int .i64 0)]) 32 rfl Try.underlying31 info55 rfl (by decide) (by omega) v299 y298 x7_1 _ _ _ (fun k_=>some k_≠(.slice Ao54 x7_1.length co54:Value).ownBlock∧some k_≠(v305:Value).ownBlock∧k_≠q1) (fun _=>False) rfl rfl ?aO ?aR (fun _ _ h=>h) (fun _ h=>h.elim) ?aF (Below.refl _ _) ?aS ?aL ?_
              (case aR=>repeat(first|exact(Kd.R_reads' HO_7.out).2.2|(with_reducible refine Kd.C_alloc ?_ _)|(with_reducible refine Kd.C_drewN ?_ _)|(with_reducible refine Kd.C_drew ?_)))
              (case aF=>exact(fun k_ hk=>⟨Kd.fresh' (Kd.R_lt (by(with_reducible repeat(first|apply Kd.R_alloc|apply Kd.R_drewN|apply Kd.R_drew));exact HO_7.out)) k_ hk,Kd.fresh' (Kd.R_lt (by(with_reducible repeat(first|apply Kd.R_alloc|apply Kd.R_drewN|apply Kd.R_drew));exact HO306.out)) k_ hk,Kd.freshB (g:=q1) (o:=.cells #[.int .i64 t285,.int .i64 t288,.int .i64 (wrap64 (1+t291)),.int .i64 q2] 55 (0,0)) (by(with_reducible repeat(first|refine blk_drewN ?_ _|refine blk_drew ?_|refine blk_alloc ?_ _));exact q0.out) k_ hk⟩))
              (case aO=>exact(by(with_reducible repeat(first|apply Kd.R_alloc|apply Kd.R_drewN|apply Kd.R_drew));exact Kd.R_mono HO300.out (fun _ hk=>⟨hk.1.1.2,⟨hk.2,hk.1.2⟩⟩)))
              (case aS=>exact(keep_size (w:=w) (g:=g) (row:=none) (by repeat(first|(with_reducible first|exact HK.out|apply KeepBut.set_|apply keep_drewN|apply keep_drew|apply keep_alloc|refine keep_far ?_ GW294.out _)|exact HK.out))))
              (case aL=>have:=LMc28.out;omega)
              intro v302 w60 ho hb hg hat
              rw [← Ny301.out] at ho
              have n0_:=ak_ (Kd.R_after (ok:=(fun k_=>some k_≠(v305:Value).ownBlock∧k_≠q1)) (by(with_reducible repeat(first|apply Kd.R_alloc|apply Kd.R_drewN|apply Kd.R_drew));exact Kd.R_mono HO_7.out (fun _ hk=>⟨⟨hk.2,hk.1.1⟩,hk.1.2⟩)) hg hat)
              have n1_:=ak_ (blk_grown (g:=q1) (o:=.cells #[.int .i64 t285,.int .i64 t288,.int .i64 (wrap64 (1+t291)),.int .i64 q2] 55 (0,0)) (by(with_reducible repeat(first|refine blk_drewN ?_ _|refine blk_drew ?_|refine blk_alloc ?_ _));exact q0.out) hg (Kd.R_away HO300.out (fun _ hk=>hk.1.2)))
              have n2_:=ak_ (IsS94.grown (by repeat(first|(with_reducible first|exact HI0.out|apply IsS94.alloc|apply IsS94.drewN|apply IsS94.drew|apply IsS94.set_1|apply IsS94.set_2|refine IsS94.far ?_ NB0_294.out _)|exact HI0.out)) hg (IsS94.own_ne HI0.out HO300.out (by decide)))
              have n3_:=ak_ (Kd.R_after (ok:=(fun k_=>some k_≠(.slice Ao54 x7_1.length co54:Value).ownBlock∧k_≠q1)) (by(with_reducible repeat(first|apply Kd.R_alloc|apply Kd.R_drewN|apply Kd.R_drew));exact Kd.R_mono HO306.out (fun _ hk=>⟨⟨hk.1.1.2,hk.2⟩,hk.1.2⟩)) hg hat)
              have n4_:=ak_ (below_weaken (by repeat(first|(with_reducible first|exact HB.out|apply below_alloc|apply pw_below_drewN|apply below_drew1|refine below_set ?_ (IsS94.ge HI0.out)|refine below_set ?_ GE294.out)|exact HB.out)) HL.out hb)
              have n5_:=ak_ (KeepBut.trans (by repeat(first|(with_reducible first|exact HK.out|apply KeepBut.set_|apply keep_drewN|apply keep_drew|apply keep_alloc|refine keep_far ?_ GW294.out _)|exact HK.out)) (KeepBut.of_grown hg g) (Kd.R_base2 HO300.out))
              have n6_:=ak_ (ho)
              clear HO_7
              clear q0
              clear HI0
              clear HO306
              clear HB
              clear HK
              clear HO300
              have HO_7:=n0_
              have q0:=n1_
              have HI0:=n2_
              have HO306:=n3_
              have HB:=n4_
              have HK:=n5_
              have HO303:=n6_
              clear n0_ n1_ n2_ n3_ n4_ n5_ n6_
              clear ho hb hg hat
              refine hK.out _ _ ⟨(blk_cell q0.out 0).trans rfl,(blk_cell q0.out 1).trans rfl,(blk_cell q0.out 2).trans rfl,(blk_cell q0.out 3).trans rfl⟩ (fun hHeld=>?_)
              clear hK K
              refine norm_ (a':=?_) ?_ ?_
              rotate_left
              ·show Act.put _ (some 51) _=_
               simp only [Act.put,List.setIfInBounds_toArray,List.set_cons_zero,List.set_cons_succ,i64_w,i32_w]
               rfl
              exact norm_ (by simp only [putAll,Act.put,List.setIfInBounds_toArray,List.set_cons_zero,List.set_cons_succ]) (hCont (v299,v302,v305) _ ⟨hHeld,(by(with_reducible repeat(first|apply Kd.R_alloc|apply Kd.R_drewN|apply Kd.R_drew));exact Kd.R_mono HO303.out (fun _ hk=>⟨hk.2.1,⟨hk.1,hk.2.2⟩⟩)),(by(with_reducible repeat(first|apply Kd.R_alloc|apply Kd.R_drewN|apply Kd.R_drew));exact Kd.R_mono HO306.out (fun _ hk=>⟨hk.2,⟨hk.1.1,hk.1.2⟩⟩)),(by(with_reducible repeat(first|apply Kd.R_alloc|apply Kd.R_drewN|apply Kd.R_drew));exact Kd.R_mono HO_7.out (fun _ hk=>⟨hk.2,⟨hk.1.1,hk.1.2⟩⟩)),(by(with_reducible repeat(first|refine blk_drewN ?_ _|refine blk_drew ?_|refine blk_alloc ?_ _));exact q0.out),(by repeat(first|(with_reducible first|exact HI0.out|apply IsS94.alloc|apply IsS94.drewN|apply IsS94.drew|apply IsS94.set_1|apply IsS94.set_2|refine IsS94.far ?_ NB0_294.out _)|exact HI0.out)),(by repeat(first|(with_reducible first|exact HK.out|apply KeepBut.set_|apply keep_drewN|apply keep_drew|apply keep_alloc|refine keep_far ?_ GW294.out _)|exact HK.out)),(by repeat(first|(with_reducible first|exact HB.out|apply below_alloc|apply pw_below_drewN|apply below_drew1|refine below_set ?_ (IsS94.ge HI0.out)|refine below_set ?_ GE294.out)|exact HB.out))⟩)
            ·skip
             refine Kd.R_lit_step k55 _ 55 ?hg (N:=53) ?hd (xs:=([(⟨t285,t288,(wrap64 (1+t291)),q2⟩:S55)]:List (S55))) (inner:=[.int .i64 t285,.int .i64 t288,.int .i64 (wrap64 (1+t291)),.int .i64 q2]) (ok:=fun _=>True) (okp:=fun _=>True) ?hr ?hp (fun _ hk=>hk) trivial (Below.refl _ _) (Nat.le_refl _) (by simp) ?_;(case hd=>rfl);(case hg=>rfl);(case hr=>first|(go_simp;done)|(go_simp;rfl));(case hp=>exact(Reps.c4 (show Kd.M k55 _ _ _ (⟨t285,t288,(wrap64 (1+t291)),q2⟩:S55) [.int .i64 t285,.int .i64 t288,.int .i64 (wrap64 (1+t291)),.int .i64 q2] from(k55_mkM _ _ _ (⟨t285,t288,(wrap64 (1+t291)),q2⟩:S55) )) (Reps.none _ _)))
             intro v305 w56 ho57 hb hg_ hnew_
             clear hg_ hnew_
             (first|rw [← Ny304.out] at ho57|(simp only [Int.reduceToNat] at ho57;rw [← Ny304.out] at ho57))
             have n0_:=ak_ (Kd.R_elder' (by(with_reducible repeat(first|apply Kd.R_alloc|apply Kd.R_drewN|apply Kd.R_drew));exact HO_7.out) (Kd.R_base ho57) hb)
             have n1_:=ak_ (Kd.R_lower (Kd.R_newB (Kd.R_new' ho57 (Kd.R_lt (by(with_reducible repeat(first|apply Kd.R_alloc|apply Kd.R_drewN|apply Kd.R_drew));exact HO_7.out))) (g:=q1) (o:=.cells #[.int .i64 t285,.int .i64 t288,.int .i64 (wrap64 (1+t291)),.int .i64 q2] 55 (0,0)) (by(with_reducible repeat(first|refine blk_drewN ?_ _|refine blk_drew ?_|refine blk_alloc ?_ _));exact q0.out)) (keep_size (w:=w) (g:=g) (row:=none) (by repeat(first|(with_reducible first|exact HK.out|apply KeepBut.set_|apply keep_drewN|apply keep_drew|apply keep_alloc|refine keep_far ?_ GW294.out _)|exact HK.out))))
             have n2_:=ak_ (blk_below (g:=q1) (o:=.cells #[.int .i64 t285,.int .i64 t288,.int .i64 (wrap64 (1+t291)),.int .i64 q2] 55 (0,0)) (by(with_reducible repeat(first|refine blk_drewN ?_ _|refine blk_drew ?_|refine blk_alloc ?_ _));exact q0.out) hb)
             have n3_:=ak_ (IsS94.below (by repeat(first|(with_reducible first|exact HI0.out|apply IsS94.alloc|apply IsS94.drewN|apply IsS94.drew|apply IsS94.set_1|apply IsS94.set_2|refine IsS94.far ?_ NB0_294.out _)|exact HI0.out)) hb)
             have n4_:=ak_ (KeepBut.trans (by repeat(first|(with_reducible first|exact HK.out|apply KeepBut.set_|apply keep_drewN|apply keep_drew|apply keep_alloc|refine keep_far ?_ GW294.out _)|exact HK.out)) (KeepBut.of_below hb g none) (.inl rfl))
             have n5_:=ak_ (below_step (by repeat(first|(with_reducible first|exact HB.out|apply below_alloc|apply pw_below_drewN|apply below_drew1|refine below_set ?_ (IsS94.ge HI0.out)|refine below_set ?_ GE294.out)|exact HB.out)) hb)
             clear HO_7
             clear q0
             clear HI0
             clear HK
             clear HB
             have HO_7:=n0_
             have HO306:=n1_
             have q0:=n2_
             have HI0:=n3_
             have HK:=n4_
             have HB:=n5_
             clear n0_ n1_ n2_ n3_ n4_ n5_
             clear hb ho57
             refine hK.out _ _ ⟨(blk_cell q0.out 0).trans rfl,(blk_cell q0.out 1).trans rfl,(blk_cell q0.out 2).trans rfl,(blk_cell q0.out 3).trans rfl⟩ (fun hHeld=>?_)
             clear hK K
             refine norm_ (a':=?_) ?_ ?_
             rotate_left
             ·show Act.put _ (some 53) _=_
              simp only [Act.put,List.setIfInBounds_toArray,List.set_cons_zero,List.set_cons_succ,i64_w,i32_w]
              rfl
             refine one_ (i:=2) (N:=some 49) #[true,true,true,true,false,true,true,false,false,false,false,false,false,false] rfl rfl (one_of HT_.out (by kernel_rfl)) (by decide) (fun K hK=>?_)
             refine Kd.R_lit_step k55 _ 55 ?hg (N:=49) ?hd (xs:=([]:List (S55))) (inner:=[]) (ok:=fun _=>True) (okp:=fun _=>True) ?hr ?hp (fun _ hk=>hk) trivial (Below.refl _ _) (Nat.le_refl _) (by simp) ?_;(case hd=>rfl);(case hg=>rfl);(case hr=>first|(go_simp;done)|(go_simp;rfl));(case hp=>exact(Reps.none _ _))
             intro v299 w58 ho59 hb hg_ hnew_
             clear hg_ hnew_
             (first|rw [← Ny298.out] at ho59|(simp only [Int.reduceToNat] at ho59;rw [← Ny298.out] at ho59))
             have n0_:=ak_ (Kd.R_elder' (by(with_reducible repeat(first|apply Kd.R_alloc|apply Kd.R_drewN|apply Kd.R_drew));exact HO_7.out) (Kd.R_base ho59) hb)
             have n1_:=ak_ (Kd.R_elder' (by(with_reducible repeat(first|apply Kd.R_alloc|apply Kd.R_drewN|apply Kd.R_drew));exact HO306.out) (Kd.R_base ho59) hb)
             have n2_:=ak_ (Kd.R_lower (Kd.R_newB (Kd.R_new' (Kd.R_new' ho59 (Kd.R_lt (by(with_reducible repeat(first|apply Kd.R_alloc|apply Kd.R_drewN|apply Kd.R_drew));exact HO_7.out))) (Kd.R_lt (by(with_reducible repeat(first|apply Kd.R_alloc|apply Kd.R_drewN|apply Kd.R_drew));exact HO306.out))) (g:=q1) (o:=.cells #[.int .i64 t285,.int .i64 t288,.int .i64 (wrap64 (1+t291)),.int .i64 q2] 55 (0,0)) (by(with_reducible repeat(first|refine blk_drewN ?_ _|refine blk_drew ?_|refine blk_alloc ?_ _));exact q0.out)) (keep_size (w:=w) (g:=g) (row:=none) (by repeat(first|(with_reducible first|exact HK.out|apply KeepBut.set_|apply keep_drewN|apply keep_drew|apply keep_alloc|refine keep_far ?_ GW294.out _)|exact HK.out))))
             have n3_:=ak_ (blk_below (g:=q1) (o:=.cells #[.int .i64 t285,.int .i64 t288,.int .i64 (wrap64 (1+t291)),.int .i64 q2] 55 (0,0)) (by(with_reducible repeat(first|refine blk_drewN ?_ _|refine blk_drew ?_|refine blk_alloc ?_ _));exact q0.out) hb)
             have n4_:=ak_ (IsS94.below (by repeat(first|(with_reducible first|exact HI0.out|apply IsS94.alloc|apply IsS94.drewN|apply IsS94.drew|apply IsS94.set_1|apply IsS94.set_2|refine IsS94.far ?_ NB0_294.out _)|exact HI0.out)) hb)
             have n5_:=ak_ (KeepBut.trans (by repeat(first|(with_reducible first|exact HK.out|apply KeepBut.set_|apply keep_drewN|apply keep_drew|apply keep_alloc|refine keep_far ?_ GW294.out _)|exact HK.out)) (KeepBut.of_below hb g none) (.inl rfl))
             have n6_:=ak_ (below_step (by repeat(first|(with_reducible first|exact HB.out|apply below_alloc|apply pw_below_drewN|apply below_drew1|refine below_set ?_ (IsS94.ge HI0.out)|refine below_set ?_ GE294.out)|exact HB.out)) hb)
             clear HO_7
             clear HO306
             clear q0
             clear HI0
             clear HK
             clear HB
             have HO_7:=n0_
             have HO306:=n1_
             have HO300:=n2_
             have q0:=n3_
             have HI0:=n4_
             have HK:=n5_
             have HB:=n6_
             clear n0_ n1_ n2_ n3_ n4_ n5_ n6_
             clear hb ho59
             refine hK.out _ _ ⟨(blk_cell q0.out 0).trans rfl,(blk_cell q0.out 1).trans rfl,(blk_cell q0.out 2).trans rfl,(blk_cell q0.out 3).trans rfl⟩ (fun hHeld=>?_)
             clear hK K
             refine norm_ (a':=?_) ?_ ?_
             rotate_left
             ·show Act.put _ (some 49) _=_
              simp only [Act.put,List.setIfInBounds_toArray,List.set_cons_zero,List.set_cons_succ,i64_w,i32_w]
              rfl
             refine one_ (i:=4) (N:=some 51) #[true,true,true,true,true,true,true,false,false,false,false,false,false,false] rfl rfl (one_of HT_.out (by kernel_rfl)) (by decide) (fun K hK=>?_)
             refine Kd.R_append_rows_step k55 w.heap.size (by rfl) (.tmp 49) (.tmp 50) 31 55 (.agg #[(.int .i64 0),(.int .i64 0),(.int .i64 0),(.int .i64 0)]) 32 rfl Try.underlying31 info55 rfl (by decide) (by omega) v299 y298 x7_1 _ _ _ (fun k_=>some k_≠(.slice Ao54 x7_1.length co54:Value).ownBlock∧some k_≠(v305:Value).ownBlock∧k_≠q1) (fun _=>False) rfl rfl ?aO ?aR (fun _ _ h=>h) (fun _ h=>h.elim) ?aF (Below.refl _ _) ?aS ?aL ?_
             (case aR=>repeat(first|exact(Kd.R_reads' HO_7.out).2.2|(with_reducible refine Kd.C_alloc ?_ _)|(with_reducible refine Kd.C_drewN ?_ _)|(with_reducible refine Kd.C_drew ?_)))
             (case aF=>exact(fun k_ hk=>⟨Kd.fresh' (Kd.R_lt (by(with_reducible repeat(first|apply Kd.R_alloc|apply Kd.R_drewN|apply Kd.R_drew));exact HO_7.out)) k_ hk,Kd.fresh' (Kd.R_lt (by(with_reducible repeat(first|apply Kd.R_alloc|apply Kd.R_drewN|apply Kd.R_drew));exact HO306.out)) k_ hk,Kd.freshB (g:=q1) (o:=.cells #[.int .i64 t285,.int .i64 t288,.int .i64 (wrap64 (1+t291)),.int .i64 q2] 55 (0,0)) (by(with_reducible repeat(first|refine blk_drewN ?_ _|refine blk_drew ?_|refine blk_alloc ?_ _));exact q0.out) k_ hk⟩))
             (case aO=>exact(by(with_reducible repeat(first|apply Kd.R_alloc|apply Kd.R_drewN|apply Kd.R_drew));exact Kd.R_mono HO300.out (fun _ hk=>⟨hk.1.1.2,⟨hk.1.2,hk.2⟩⟩)))
             (case aS=>exact(keep_size (w:=w) (g:=g) (row:=none) (by repeat(first|(with_reducible first|exact HK.out|apply KeepBut.set_|apply keep_drewN|apply keep_drew|apply keep_alloc|refine keep_far ?_ GW294.out _)|exact HK.out))))
             (case aL=>have:=LMc28.out;omega)
             intro v302 w60 ho hb hg hat
             rw [← Ny301.out] at ho
             have n0_:=ak_ (Kd.R_after (ok:=(fun k_=>some k_≠(v305:Value).ownBlock∧k_≠q1)) (by(with_reducible repeat(first|apply Kd.R_alloc|apply Kd.R_drewN|apply Kd.R_drew));exact Kd.R_mono HO_7.out (fun _ hk=>⟨⟨hk.1.2,hk.1.1⟩,hk.2⟩)) hg hat)
             have n1_:=ak_ (blk_grown (g:=q1) (o:=.cells #[.int .i64 t285,.int .i64 t288,.int .i64 (wrap64 (1+t291)),.int .i64 q2] 55 (0,0)) (by(with_reducible repeat(first|refine blk_drewN ?_ _|refine blk_drew ?_|refine blk_alloc ?_ _));exact q0.out) hg (Kd.R_away HO300.out (fun _ hk=>hk.2)))
             have n2_:=ak_ (IsS94.grown (by repeat(first|(with_reducible first|exact HI0.out|apply IsS94.alloc|apply IsS94.drewN|apply IsS94.drew|apply IsS94.set_1|apply IsS94.set_2|refine IsS94.far ?_ NB0_294.out _)|exact HI0.out)) hg (IsS94.own_ne HI0.out HO300.out (by decide)))
             have n3_:=ak_ (Kd.R_after (ok:=(fun k_=>some k_≠(.slice Ao54 x7_1.length co54:Value).ownBlock∧k_≠q1)) (by(with_reducible repeat(first|apply Kd.R_alloc|apply Kd.R_drewN|apply Kd.R_drew));exact Kd.R_mono HO306.out (fun _ hk=>⟨⟨hk.1.1.2,hk.1.2⟩,hk.2⟩)) hg hat)
             have n4_:=ak_ (below_weaken (by repeat(first|(with_reducible first|exact HB.out|apply below_alloc|apply pw_below_drewN|apply below_drew1|refine below_set ?_ (IsS94.ge HI0.out)|refine below_set ?_ GE294.out)|exact HB.out)) HL.out hb)
             have n5_:=ak_ (KeepBut.trans (by repeat(first|(with_reducible first|exact HK.out|apply KeepBut.set_|apply keep_drewN|apply keep_drew|apply keep_alloc|refine keep_far ?_ GW294.out _)|exact HK.out)) (KeepBut.of_grown hg g) (Kd.R_base2 HO300.out))
             have n6_:=ak_ (ho)
             clear HO_7
             clear q0
             clear HI0
             clear HO306
             clear HB
             clear HK
             clear HO300
             have HO_7:=n0_
             have q0:=n1_
             have HI0:=n2_
             have HO306:=n3_
             have HB:=n4_
             have HK:=n5_
             have HO303:=n6_
             clear n0_ n1_ n2_ n3_ n4_ n5_ n6_
             clear ho hb hg hat
             refine hK.out _ _ ⟨(blk_cell q0.out 0).trans rfl,(blk_cell q0.out 1).trans rfl,(blk_cell q0.out 2).trans rfl,(blk_cell q0.out 3).trans rfl⟩ (fun hHeld=>?_)
             clear hK K
             refine norm_ (a':=?_) ?_ ?_
             rotate_left
             ·show Act.put _ (some 51) _=_
              simp only [Act.put,List.setIfInBounds_toArray,List.set_cons_zero,List.set_cons_succ,i64_w,i32_w]
              rfl
             exact norm_ (by simp only [putAll,Act.put,List.setIfInBounds_toArray,List.set_cons_zero,List.set_cons_succ]) (hCont (v299,v302,v305) _ ⟨hHeld,(by(with_reducible repeat(first|apply Kd.R_alloc|apply Kd.R_drewN|apply Kd.R_drew));exact Kd.R_mono HO303.out (fun _ hk=>⟨hk.2.1,⟨hk.1,hk.2.2⟩⟩)),(by(with_reducible repeat(first|apply Kd.R_alloc|apply Kd.R_drewN|apply Kd.R_drew));exact Kd.R_mono HO306.out (fun _ hk=>⟨hk.2,⟨hk.1.1,hk.1.2⟩⟩)),(by(with_reducible repeat(first|apply Kd.R_alloc|apply Kd.R_drewN|apply Kd.R_drew));exact Kd.R_mono HO_7.out (fun _ hk=>⟨hk.2,⟨hk.1.1,hk.1.2⟩⟩)),(by(with_reducible repeat(first|refine blk_drewN ?_ _|refine blk_drew ?_|refine blk_alloc ?_ _));exact q0.out),(by repeat(first|(with_reducible first|exact HI0.out|apply IsS94.alloc|apply IsS94.drewN|apply IsS94.drew|apply IsS94.set_1|apply IsS94.set_2|refine IsS94.far ?_ NB0_294.out _)|exact HI0.out)),(by repeat(first|(with_reducible first|exact HK.out|apply KeepBut.set_|apply keep_drewN|apply keep_drew|apply keep_alloc|refine keep_far ?_ GW294.out _)|exact HK.out)),(by repeat(first|(with_reducible first|exact HB.out|apply below_alloc|apply pw_below_drewN|apply below_drew1|refine below_set ?_ (IsS94.ge HI0.out)|refine below_set ?_ GE294.out)|exact HB.out))⟩)
           rintro⟨v299,v302,v305⟩ w61 ⟨hS_,h0_,h1_,h2_,h3_,h4_,h5_,h6_⟩
           have n0_:Aside0 (Kd.R k55 55 w61 w.heap.size (fun k_=>some k_≠(v305:Value).ownBlock∧some k_≠(.slice Ao54 x7_1.length co54:Value).ownBlock∧k_≠q1) v302 y301):=⟨h0_⟩
           have n1_:Aside0 (Kd.R k55 55 w61 w.heap.size (fun k_=>some k_≠(v302:Value).ownBlock∧some k_≠(.slice Ao54 x7_1.length co54:Value).ownBlock∧k_≠q1) v305 y304):=⟨h1_⟩
           have n2_:Aside0 (Kd.R k55 55 w61 w.heap.size (fun k_=>some k_≠(v302:Value).ownBlock∧some k_≠(v305:Value).ownBlock∧k_≠q1) (.slice Ao54 x7_1.length co54) x7_1):=⟨h2_⟩
           have n3_:Aside0 (w61.heap[q1]?=some (.cells #[.int .i64 t285,.int .i64 t288,.int .i64 (wrap64 (1+t291)),.int .i64 q2] 55 (0,0))):=⟨h3_⟩
           have n4_:Aside0 (IsS94 w0 w61 g s0_0 x1001_13 x1002_13):=⟨h4_⟩
           have n5_:Aside0 (KeepBut w w61 g none):=⟨h5_⟩
           have n6_:Aside0 (Below w0.heap.size w0 w61):=⟨h6_⟩
           clear HO_7
           clear q0
           clear HI0
           clear HK
           clear HB
           clear h0_ h1_ h2_ h3_ h4_ h5_ h6_
           have HO303:=n0_
           have HO306:=n1_
           have HO_7:=n2_
           have q0:=n3_
           have HI0:=n4_
           have HK:=n5_
           have HB:=n6_
           clear n0_ n1_ n2_ n3_ n4_ n5_ n6_
           have hHeld:w61.cell? ⟨q1,0,none⟩=some (.int .i64 t285)∧w61.cell? ⟨q1,1,none⟩=some (.int .i64 t288)∧w61.cell? ⟨q1,2,none⟩=some (.int .i64 (wrap64 (1+t291)))∧w61.cell? ⟨q1,3,none⟩=some (.int .i64 q2):=hS_
           obtain⟨Ao63,co63,eo63⟩:=Kd.R_slice HO306.out
           (first|subst eo63|(injection eo63 with f1_ f2_ f3_;have f4_:=f1_.symm;have f5_:=f3_.symm;clear f1_ f2_ f3_;subst f4_;subst f5_))
           refine norm_ (a':=?_) ?_ ?_
           rotate_left
           ·simp only [putAll,Act.put,List.setIfInBounds_toArray,List.set_cons_zero,List.set_cons_succ]
            rfl
           refine one_ (i:=7) (N:=some 54) #[true,true,true,true,true,true,true,true,false,false,false,false,false,false] rfl rfl (one_of HT_.out (by kernel_rfl)) (by decide) (fun K hK=>?_)
           refine Kd.R_append_rows_step k55 w.heap.size (by rfl) (.tmp 51) (.tmp 53) 31 55 (.agg #[(.int .i64 0),(.int .i64 0),(.int .i64 0),(.int .i64 0)]) 32 rfl Try.underlying31 info55 rfl (by decide) (by omega) v302 y301 y304 _ _ _ (fun k_=>some k_≠(.slice Ao54 x7_1.length co54:Value).ownBlock∧some k_≠(.slice Ao63 y304.length co63:Value).ownBlock∧k_≠q1) (fun _=>False) rfl rfl ?aO ?aR (fun _ _ h=>h) (fun _ h=>h.elim) ?aF (Below.refl _ _) ?aS ?aL ?_
           (case aR=>repeat(first|exact(Kd.R_reads' HO306.out).2.2|(with_reducible refine Kd.C_alloc ?_ _)|(with_reducible refine Kd.C_drewN ?_ _)|(with_reducible refine Kd.C_drew ?_)))
           (case aF=>exact(fun k_ hk=>⟨Kd.fresh' (Kd.R_lt (by(with_reducible repeat(first|apply Kd.R_alloc|apply Kd.R_drewN|apply Kd.R_drew));exact HO_7.out)) k_ hk,Kd.fresh' (Kd.R_lt (by(with_reducible repeat(first|apply Kd.R_alloc|apply Kd.R_drewN|apply Kd.R_drew));exact HO306.out)) k_ hk,Kd.freshB (g:=q1) (o:=.cells #[.int .i64 t285,.int .i64 t288,.int .i64 (wrap64 (1+t291)),.int .i64 q2] 55 (0,0)) (by(with_reducible repeat(first|refine blk_drewN ?_ _|refine blk_drew ?_|refine blk_alloc ?_ _));exact q0.out) k_ hk⟩))
           (case aO=>exact(by(with_reducible repeat(first|apply Kd.R_alloc|apply Kd.R_drewN|apply Kd.R_drew));exact Kd.R_mono HO303.out (fun _ hk=>⟨hk.2.1,⟨hk.1,hk.2.2⟩⟩)))
           (case aS=>exact(keep_size (w:=w) (g:=g) (row:=none) (by repeat(first|(with_reducible first|exact HK.out|apply KeepBut.set_|apply keep_drewN|apply keep_drew|apply keep_alloc|refine keep_far ?_ GW294.out _)|exact HK.out))))
           (case aL=>have:=LMc29.out;omega)
           intro v308 w62 ho hb hg hat
           rw [← Ny307.out] at ho
           have n0_:=ak_ (Kd.R_after (ok:=(fun k_=>some k_≠(.slice Ao63 y304.length co63:Value).ownBlock∧k_≠q1)) (by(with_reducible repeat(first|apply Kd.R_alloc|apply Kd.R_drewN|apply Kd.R_drew));exact Kd.R_mono HO_7.out (fun _ hk=>⟨⟨hk.2.1,hk.2.2⟩,hk.1⟩)) hg hat)
           have n1_:=ak_ (blk_grown (g:=q1) (o:=.cells #[.int .i64 t285,.int .i64 t288,.int .i64 (wrap64 (1+t291)),.int .i64 q2] 55 (0,0)) (by(with_reducible repeat(first|refine blk_drewN ?_ _|refine blk_drew ?_|refine blk_alloc ?_ _));exact q0.out) hg (Kd.R_away HO303.out (fun _ hk=>hk.2.2)))
           have n2_:=ak_ (IsS94.grown (by repeat(first|(with_reducible first|exact HI0.out|apply IsS94.alloc|apply IsS94.drewN|apply IsS94.drew|apply IsS94.set_1|apply IsS94.set_2|refine IsS94.far ?_ NB0_294.out _)|exact HI0.out)) hg (IsS94.own_ne HI0.out HO303.out (by decide)))
           have n3_:=ak_ (Kd.R_after (ok:=(fun k_=>some k_≠(.slice Ao54 x7_1.length co54:Value).ownBlock∧k_≠q1)) (by(with_reducible repeat(first|apply Kd.R_alloc|apply Kd.R_drewN|apply Kd.R_drew));exact Kd.R_mono HO306.out (fun _ hk=>⟨⟨hk.2.1,hk.2.2⟩,hk.1⟩)) hg hat)
           have n4_:=ak_ (below_weaken (by repeat(first|(with_reducible first|exact HB.out|apply below_alloc|apply pw_below_drewN|apply below_drew1|refine below_set ?_ (IsS94.ge HI0.out)|refine below_set ?_ GE294.out)|exact HB.out)) HL.out hb)
           have n5_:=ak_ (KeepBut.trans (by repeat(first|(with_reducible first|exact HK.out|apply KeepBut.set_|apply keep_drewN|apply keep_drew|apply keep_alloc|refine keep_far ?_ GW294.out _)|exact HK.out)) (KeepBut.of_grown hg g) (Kd.R_base2 HO303.out))
           have n6_:=ak_ (ho)
           clear HO_7
           clear q0
           clear HI0
           clear HO306
           clear HB
           clear HK
           clear HO303
           have HO_7:=n0_
           have q0:=n1_
           have HI0:=n2_
           have HO306:=n3_
           have HB:=n4_
           have HK:=n5_
           have HO309:=n6_
           clear n0_ n1_ n2_ n3_ n4_ n5_ n6_
           clear ho hb hg hat
           obtain⟨Ao64,co64,eo64⟩:=Kd.R_slice HO309.out
           (first|subst eo64|(injection eo64 with f1_ f2_ f3_;have f4_:=f1_.symm;have f5_:=f3_.symm;clear f1_ f2_ f3_;subst f4_;subst f5_))
           refine hK.out _ _ ⟨(blk_cell q0.out 0).trans rfl,(blk_cell q0.out 1).trans rfl,(blk_cell q0.out 2).trans rfl,(blk_cell q0.out 3).trans rfl⟩ (fun hHeld=>?_)
           clear hK K
           refine norm_ (a':=?_) ?_ ?_
           rotate_left
           ·show Act.put _ (some 54) _=_
            simp only [Act.put,List.setIfInBounds_toArray,List.set_cons_zero,List.set_cons_succ,i64_w,i32_w]
            rfl
           refine one_ (i:=8) (N:=some 55) #[true,true,true,true,true,true,true,true,true,false,false,false,false,false] rfl rfl (one_of HT_.out (by kernel_rfl)) (by decide) (fun K hK=>?_)
           refine goes_ Try.func19 (by kernel_rfl) rfl #[.int .i64 (wrap64 (1+t273)),.int .i64 t276,.slice Ao64 y307.length co64] (by rfl) rfl rfl (by(try simp only [List.map_toArray,List.map_cons,List.map_nil]);first|done|rfl|(simp only [List.length_drop,List.length_take];rfl)) ?_
           with_reducible refine(spec_AreFaults.calls kj13 (wrap64 (1+t273)) t276 _ _ y307 false _ ?side1 ?side2 A30.out).mono ?_
           (case side1=>repeat(first|exact(Kd.R_reads' HO309.out).2.2|(with_reducible refine Kd.C_alloc ?_ _)|(with_reducible refine Kd.C_drewN ?_ _)|(with_reducible refine Kd.C_drew ?_)))
           (case side2=>exact(Kd.R_reads' HO309.out).2.1)
           rintro e w65 ⟨rfl,hb⟩
           refine⟨_,rfl,?_⟩
           have n0_:=ak_ (Kd.R_below (by(with_reducible repeat(first|apply Kd.R_alloc|apply Kd.R_drewN|apply Kd.R_drew));exact HO_7.out) hb)
           have n1_:=ak_ (Kd.R_below (by(with_reducible repeat(first|apply Kd.R_alloc|apply Kd.R_drewN|apply Kd.R_drew));exact HO306.out) hb)
           have n2_:=ak_ (Kd.R_below (by(with_reducible repeat(first|apply Kd.R_alloc|apply Kd.R_drewN|apply Kd.R_drew));exact HO309.out) hb)
           have n3_:=ak_ (blk_below (g:=q1) (o:=.cells #[.int .i64 t285,.int .i64 t288,.int .i64 (wrap64 (1+t291)),.int .i64 q2] 55 (0,0)) (by(with_reducible repeat(first|refine blk_drewN ?_ _|refine blk_drew ?_|refine blk_alloc ?_ _));exact q0.out) hb)
           have n4_:=ak_ (IsS94.below (by repeat(first|(with_reducible first|exact HI0.out|apply IsS94.alloc|apply IsS94.drewN|apply IsS94.drew|apply IsS94.set_1|apply IsS94.set_2|refine IsS94.far ?_ NB0_294.out _)|exact HI0.out)) hb)
           have n5_:=ak_ (KeepBut.trans (by repeat(first|(with_reducible first|exact HK.out|apply KeepBut.set_|apply keep_drewN|apply keep_drew|apply keep_alloc|refine keep_far ?_ GW294.out _)|exact HK.out)) (KeepBut.of_below hb g none) (.inl rfl))
           have n6_:=ak_ (below_step (by repeat(first|(with_reducible first|exact HB.out|apply below_alloc|apply pw_below_drewN|apply below_drew1|refine below_set ?_ (IsS94.ge HI0.out)|refine below_set ?_ GE294.out)|exact HB.out)) hb)
           clear HO_7
           clear HO306
           clear HO309
           clear q0
           clear HI0
           clear HK
           clear HB
           have HO_7:=n0_
           have HO306:=n1_
           have HO309:=n2_
           have q0:=n3_
           have HI0:=n4_
           have HK:=n5_
           have HB:=n6_
           clear n0_ n1_ n2_ n3_ n4_ n5_ n6_
           (try clear hb)
           (try clear hb2)
           (try clear hk)
           (try clear hi)
           refine hK.out _ _ ⟨(blk_cell q0.out 0).trans rfl,(blk_cell q0.out 1).trans rfl,(blk_cell q0.out 2).trans rfl,(blk_cell q0.out 3).trans rfl⟩ (fun hHeld=>?_)
           clear hK K
           refine norm_ (a':=?_) ?_ ?_
           rotate_left
           ·show Act.put _ (some 55) _=_
            simp only [Act.put,List.setIfInBounds_toArray,List.set_cons_zero,List.set_cons_succ,i64_w,i32_w]
            rfl
           refine pure_ (i:=9) (N:=some 56) (v:=?_) (a':=?_) #[true,true,true,true,true,true,true,true,true,true,false,false,false,false] rfl rfl (any_of HT_.out (by kernel_rfl)) (fun _ _ _ h=>h) (Or.inl ⟨by rfl,?_⟩) ?_ ?_
           rotate_left
           ·intro w'
            go_simp
            with_reducible rfl
           rotate_left
           ·simp only [Act.put,List.setIfInBounds_toArray,List.set_cons_zero,List.set_cons_succ,i64_w,i32_w]
            rfl
           refine pure_ (i:=10) (N:=some 57) (v:=?_) (a':=?_) #[true,true,true,true,true,true,true,true,true,true,true,false,false,false] rfl rfl (any_of HT_.out (by kernel_rfl)) (fun _ _ _ h=>h) (Or.inl ⟨by rfl,?_⟩) ?_ ?_
           rotate_left
           ·intro w'
            go_simp
            with_reducible rfl
           rotate_left
           ·simp only [Act.put,List.setIfInBounds_toArray,List.set_cons_zero,List.set_cons_succ,i64_w,i32_w]
            rfl
           refine one_ (i:=11) (N:=some 58) #[true,true,true,true,true,true,true,true,true,true,true,true,false,false] rfl rfl (one_of HT_.out (by kernel_rfl)) (by decide) (fun K hK=>?_)
           refine goes_ Try.func72 (by kernel_rfl) rfl #[.pointer (some ⟨g,0,none⟩),.int .i64 30] (by rfl) rfl rfl (by(try simp only [List.map_toArray,List.map_cons,List.map_nil]);first|done|rfl|(simp only [List.length_drop,List.length_take];rfl)) ?_
           with_reducible refine(spec_l01Next.calls g s0_0 x1001_13 x1002_13 30 t311 t312 t313 w0 _ ?side1 ?side2 A51.out).mono ?_
           (case side1=>repeat(first|(with_reducible first|exact HI0.out|apply IsS94.alloc|apply IsS94.drewN|apply IsS94.drew|apply IsS94.set_1|apply IsS94.set_2|refine IsS94.far ?_ NB0_294.out _)|exact HI0.out))
           (case side2=>repeat(first|(with_reducible first|exact HB.out|apply below_alloc|apply pw_below_drewN|apply below_drew1|refine below_set ?_ (IsS94.ge HI0.out)|refine below_set ?_ GE294.out)|exact HB.out))
           rintro e w66 ⟨rfl,hi,hb,hk⟩
           refine⟨_,rfl,?_⟩
           have n0_:=ak_ (Kd.R_mono (Kd.R_keep (IsS94.apart (show IsS94 w0 _ g s0_0 x1001_13 x1002_13 from by repeat(first|(with_reducible first|exact HI0.out|apply IsS94.alloc|apply IsS94.drewN|apply IsS94.drew|apply IsS94.set_1|apply IsS94.set_2|refine IsS94.far ?_ NB0_294.out _)|exact HI0.out)) (by(with_reducible repeat(first|apply Kd.R_alloc|apply Kd.R_drewN|apply Kd.R_drew));exact HO_7.out) (by decide)) hk (fun _ h=>h.2)) (fun _ h=>h.1))
           have n1_:=ak_ (KeepBut.blk hk (g':=q1) (o:=.cells #[.int .i64 t285,.int .i64 t288,.int .i64 (wrap64 (1+t291)),.int .i64 q2] 55 (0,0)) (by(with_reducible repeat(first|refine blk_drewN ?_ _|refine blk_drew ?_|refine blk_alloc ?_ _));exact q0.out) NB294_0.out (by simp))
           have n2_:=ak_ (Kd.R_mono (Kd.R_keep (IsS94.apart (show IsS94 w0 _ g s0_0 x1001_13 x1002_13 from by repeat(first|(with_reducible first|exact HI0.out|apply IsS94.alloc|apply IsS94.drewN|apply IsS94.drew|apply IsS94.set_1|apply IsS94.set_2|refine IsS94.far ?_ NB0_294.out _)|exact HI0.out)) (by(with_reducible repeat(first|apply Kd.R_alloc|apply Kd.R_drewN|apply Kd.R_drew));exact HO306.out) (by decide)) hk (fun _ h=>h.2)) (fun _ h=>h.1))
           have n3_:=ak_ (Kd.R_mono (Kd.R_keep (IsS94.apart (show IsS94 w0 _ g s0_0 x1001_13 x1002_13 from by repeat(first|(with_reducible first|exact HI0.out|apply IsS94.alloc|apply IsS94.drewN|apply IsS94.drew|apply IsS94.set_1|apply IsS94.set_2|refine IsS94.far ?_ NB0_294.out _)|exact HI0.out)) (by(with_reducible repeat(first|apply Kd.R_alloc|apply Kd.R_drewN|apply Kd.R_drew));exact HO309.out) (by decide)) hk (fun _ h=>h.2)) (fun _ h=>h.1))
           have n4_:=ak_ (KeepBut.trans (by repeat(first|(with_reducible first|exact HK.out|apply KeepBut.set_|apply keep_drewN|apply keep_drew|apply keep_alloc|refine keep_far ?_ GW294.out _)|exact HK.out)) hk (.inl rfl))
           have n5_:=ak_ (hb)
           have n6_:=ak_ (hi)
           clear HO_7
           clear q0
           clear HO306
           clear HO309
           clear HK
           clear HB
           clear HI0
           have HO_7:=n0_
           have q0:=n1_
           have HO306:=n2_
           have HO309:=n3_
           have HK:=n4_
           have HB:=n5_
           have HI0:=n6_
           clear n0_ n1_ n2_ n3_ n4_ n5_ n6_
           (try clear hb)
           (try clear hb2)
           (try clear hk)
           (try clear hi)
           refine hK.out _ _ ⟨(blk_cell q0.out 0).trans rfl,(blk_cell q0.out 1).trans rfl,(blk_cell q0.out 2).trans rfl,(blk_cell q0.out 3).trans rfl⟩ (fun hHeld=>?_)
           clear hK K
           refine norm_ (a':=?_) ?_ ?_
           rotate_left
           ·show Act.put _ (some 58) _=_
            simp only [Act.put,List.setIfInBounds_toArray,List.set_cons_zero,List.set_cons_succ,i64_w,i32_w]
            rfl
           refine pure_ (i:=12) (N:=some 59) (v:=?_) (a':=?_) #[true,true,true,true,true,true,true,true,true,true,true,true,true,false] rfl rfl (any_of HT_.out (by kernel_rfl)) (fun _ _ _ h=>h) (Or.inl ⟨by rfl,?_⟩) ?_ ?_
           rotate_left
           ·intro w'
            go_simp
            with_reducible rfl
           rotate_left
           ·simp only [Act.put,List.setIfInBounds_toArray,List.set_cons_zero,List.set_cons_succ,i64_w,i32_w]
            rfl
           refine pure_ (i:=13) (N:=some 60) (v:=?_) (a':=?_) #[true,true,true,true,true,true,true,true,true,true,true,true,true,true] rfl rfl (any_of HT_.out (by kernel_rfl)) (fun _ _ _ h=>h) (Or.inl ⟨by rfl,?_⟩) ?_ ?_
           rotate_left
           ·intro w'
            go_simp
            with_reducible rfl
           rotate_left
           ·simp only [Act.put,List.setIfInBounds_toArray,List.set_cons_zero,List.set_cons_succ,i64_w,i32_w]
            rfl
           refine done_ (done_of HT_.out (by kernel_rfl)) ?_
           have hnb67:=NB294_0.out
           have hnc67:=NB0_294.out
           have hcz68_0:w66.cell? ⟨q1,0,none⟩=some (.int .i64 t285):=(blk_cell q0.out 0).trans rfl
           have hcz68_1:w66.cell? ⟨q1,1,none⟩=some (.int .i64 t288):=(blk_cell q0.out 1).trans rfl
           have hcz68_2:w66.cell? ⟨q1,2,none⟩=some (.int .i64 (wrap64 (1+t291))):=(blk_cell q0.out 2).trans rfl
           have hcz68_3:w66.cell? ⟨q1,3,none⟩=some (.int .i64 q2):=(blk_cell q0.out 3).trans rfl
           have hfz68_0:=blk_frozen q0.out 0
           have hfz68_1:=blk_frozen q0.out 1
           have hfz68_2:=blk_frozen q0.out 2
           have hfz68_3:=blk_frozen q0.out 3
           try go_wp2_with (first|((with_reducible refine gate_dst (N:=63) rfl ?_);refine Kd.R_lit k55 _ 55 ?hg (N:=63) ?hd (xs:=([(⟨t285,t288,(wrap64 (1+t291)),q2⟩:S55)]:List (S55))) (inner:=[.int .i64 t285,.int .i64 t288,.int .i64 (wrap64 (1+t291)),.int .i64 q2]) (ok:=fun _=>True) (okp:=fun _=>True) ?hr ?hp (fun _ hk=>hk) trivial (Below.refl _ _) (Nat.le_refl _) (by simp) ?_;(case hd=>rfl);(case hg=>rfl);(case hr=>first|(go_simp;done)|(go_simp;rfl));(case hp=>exact(Reps.c4 (show Kd.M k55 _ _ _ (⟨t285,t288,(wrap64 (1+t291)),q2⟩:S55) [.int .i64 t285,.int .i64 t288,.int .i64 (wrap64 (1+t291)),.int .i64 q2] from(k55_mkM _ _ _ (⟨t285,t288,(wrap64 (1+t291)),q2⟩:S55) )) (Reps.none _ _)));intro v321 w69 ho70 hb hg_ hnew_;clear hg_ hnew_;(first|rw [← Ny320.out] at ho70|(simp only [Int.reduceToNat] at ho70;rw [← Ny320.out] at ho70));have n0_:=ak_ (Kd.R_elder' (by(with_reducible repeat(first|apply Kd.R_alloc|apply Kd.R_drewN|apply Kd.R_drew));exact HO_7.out) (Kd.R_base ho70) hb);have n1_:=ak_ (Kd.R_elder' (by(with_reducible repeat(first|apply Kd.R_alloc|apply Kd.R_drewN|apply Kd.R_drew));exact HO306.out) (Kd.R_base ho70) hb);have n2_:=ak_ (Kd.R_elder' (by(with_reducible repeat(first|apply Kd.R_alloc|apply Kd.R_drewN|apply Kd.R_drew));exact HO309.out) (Kd.R_base ho70) hb);have n3_:=ak_ (Kd.R_lower (Kd.R_newB (Kd.R_new' (Kd.R_new' (Kd.R_new' ho70 (Kd.R_lt (by(with_reducible repeat(first|apply Kd.R_alloc|apply Kd.R_drewN|apply Kd.R_drew));exact HO_7.out))) (Kd.R_lt (by(with_reducible repeat(first|apply Kd.R_alloc|apply Kd.R_drewN|apply Kd.R_drew));exact HO306.out))) (Kd.R_lt (by(with_reducible repeat(first|apply Kd.R_alloc|apply Kd.R_drewN|apply Kd.R_drew));exact HO309.out))) (g:=q1) (o:=.cells #[.int .i64 t285,.int .i64 t288,.int .i64 (wrap64 (1+t291)),.int .i64 q2] 55 (0,0)) (by(with_reducible repeat(first|refine blk_drewN ?_ _|refine blk_drew ?_|refine blk_alloc ?_ _));exact q0.out)) (keep_size (w:=w) (g:=g) (row:=none) (by repeat(first|(with_reducible first|exact HK.out|apply KeepBut.set_|apply keep_drewN|apply keep_drew|apply keep_alloc|refine keep_far ?_ GW294.out _)|exact HK.out))));have n4_:=ak_ (blk_below (g:=q1) (o:=.cells #[.int .i64 t285,.int .i64 t288,.int .i64 (wrap64 (1+t291)),.int .i64 q2] 55 (0,0)) (by(with_reducible repeat(first|refine blk_drewN ?_ _|refine blk_drew ?_|refine blk_alloc ?_ _));exact q0.out) hb);have n5_:=ak_ (IsS94.below (by repeat(first|(with_reducible first|exact HI0.out|apply IsS94.alloc|apply IsS94.drewN|apply IsS94.drew|apply IsS94.set_1|apply IsS94.set_2|refine IsS94.far ?_ NB0_294.out _)|exact HI0.out)) hb);have n6_:=ak_ (KeepBut.trans (by repeat(first|(with_reducible first|exact HK.out|apply KeepBut.set_|apply keep_drewN|apply keep_drew|apply keep_alloc|refine keep_far ?_ GW294.out _)|exact HK.out)) (KeepBut.of_below hb g none) (.inl rfl));have n7_:=ak_ (below_step (by repeat(first|(with_reducible first|exact HB.out|apply below_alloc|apply pw_below_drewN|apply below_drew1|refine below_set ?_ (IsS94.ge HI0.out)|refine below_set ?_ GE294.out)|exact HB.out)) hb);clear HO_7;clear HO306;clear HO309;clear q0;clear HI0;clear HK;clear HB;have HO_7:=n0_;have HO306:=n1_;have HO309:=n2_;have HO322:=n3_;have q0:=n4_;have HI0:=n5_;have HK:=n6_;have HB:=n7_;clear n0_ n1_ n2_ n3_ n4_ n5_ n6_ n7_;clear hb ho70;obtain⟨Ao72,co72,eo72⟩:=Kd.R_slice HO322.out;subst eo72)|((with_reducible refine gate_builtin (b:=.append) (xs:=#[.tmp 61,.tmp 63]) rfl ?_);at_builtin;refine Kd.R_append_rows k55 w.heap.size rfl (.tmp 61) (.tmp 63) 31 55 (.agg #[(.int .i64 0),(.int .i64 0),(.int .i64 0),(.int .i64 0)]) 32 rfl Try.underlying31 info55 rfl (by decide) (by omega) (.slice Ao54 x7_1.length co54) x7_1 y320 _ _ _ (fun k_=>some k_≠(.slice Ao63 y304.length co63:Value).ownBlock∧some k_≠(.slice Ao64 y307.length co64:Value).ownBlock∧some k_≠(.slice Ao72 y320.length co72:Value).ownBlock∧k_≠q1) (fun _=>False) rfl rfl ?aO ?aR (fun _ _ h=>h) (fun _ h=>h.elim) ?aF (Below.refl _ _) ?aS ?aL ?_;(case aR=>repeat(first|exact(Kd.R_reads' HO322.out).2.2|(with_reducible refine Kd.C_alloc ?_ _)|(with_reducible refine Kd.C_drewN ?_ _)|(with_reducible refine Kd.C_drew ?_)));(case aF=>exact(fun k_ hk=>⟨Kd.fresh' (Kd.R_lt (by(with_reducible repeat(first|apply Kd.R_alloc|apply Kd.R_drewN|apply Kd.R_drew));exact HO306.out)) k_ hk,Kd.fresh' (Kd.R_lt (by(with_reducible repeat(first|apply Kd.R_alloc|apply Kd.R_drewN|apply Kd.R_drew));exact HO309.out)) k_ hk,Kd.fresh' (Kd.R_lt (by(with_reducible repeat(first|apply Kd.R_alloc|apply Kd.R_drewN|apply Kd.R_drew));exact HO322.out)) k_ hk,Kd.freshB (g:=q1) (o:=.cells #[.int .i64 t285,.int .i64 t288,.int .i64 (wrap64 (1+t291)),.int .i64 q2] 55 (0,0)) (by(with_reducible repeat(first|refine blk_drewN ?_ _|refine blk_drew ?_|refine blk_alloc ?_ _));exact q0.out) k_ hk⟩));(case aO=>exact(by(with_reducible repeat(first|apply Kd.R_alloc|apply Kd.R_drewN|apply Kd.R_drew));exact Kd.R_mono HO_7.out (fun _ hk=>⟨hk.1.1.1,⟨hk.1.2,⟨hk.2,hk.1.1.2⟩⟩⟩)));(case aS=>exact(keep_size (w:=w) (g:=g) (row:=none) (by repeat(first|(with_reducible first|exact HK.out|apply KeepBut.set_|apply keep_drewN|apply keep_drew|apply keep_alloc|refine keep_far ?_ GW294.out _)|exact HK.out))));(case aL=>have:=LMc53.out;omega);intro v324 w71 ho hb hg hat;rw [← Ny323.out] at ho;have n0_:=ak_ (blk_grown (g:=q1) (o:=.cells #[.int .i64 t285,.int .i64 t288,.int .i64 (wrap64 (1+t291)),.int .i64 q2] 55 (0,0)) (by(with_reducible repeat(first|refine blk_drewN ?_ _|refine blk_drew ?_|refine blk_alloc ?_ _));exact q0.out) hg (Kd.R_away HO_7.out (fun _ hk=>hk.1.1.2)));have n1_:=ak_ (IsS94.grown (by repeat(first|(with_reducible first|exact HI0.out|apply IsS94.alloc|apply IsS94.drewN|apply IsS94.drew|apply IsS94.set_1|apply IsS94.set_2|refine IsS94.far ?_ NB0_294.out _)|exact HI0.out)) hg (IsS94.own_ne HI0.out HO_7.out (by decide)));have n2_:=ak_ (Kd.R_after (ok:=(fun k_=>some k_≠(.slice Ao64 y307.length co64:Value).ownBlock∧some k_≠(.slice Ao72 y320.length co72:Value).ownBlock∧k_≠q1)) (by(with_reducible repeat(first|apply Kd.R_alloc|apply Kd.R_drewN|apply Kd.R_drew));exact Kd.R_mono HO306.out (fun _ hk=>⟨⟨hk.1.2,⟨hk.2,hk.1.1.2⟩⟩,hk.1.1.1⟩)) hg hat);have n3_:=ak_ (Kd.R_after (ok:=(fun k_=>some k_≠(.slice Ao63 y304.length co63:Value).ownBlock∧some k_≠(.slice Ao72 y320.length co72:Value).ownBlock∧k_≠q1)) (by(with_reducible repeat(first|apply Kd.R_alloc|apply Kd.R_drewN|apply Kd.R_drew));exact Kd.R_mono HO309.out (fun _ hk=>⟨⟨hk.1.2.1,⟨hk.2,hk.1.2.2⟩⟩,hk.1.1⟩)) hg hat);have n4_:=ak_ (Kd.R_after (ok:=(fun k_=>some k_≠(.slice Ao63 y304.length co63:Value).ownBlock∧some k_≠(.slice Ao64 y307.length co64:Value).ownBlock∧k_≠q1)) (by(with_reducible repeat(first|apply Kd.R_alloc|apply Kd.R_drewN|apply Kd.R_drew));exact Kd.R_mono HO322.out (fun _ hk=>⟨⟨hk.1.1.2,⟨hk.1.2,hk.2⟩⟩,hk.1.1.1.2⟩)) hg hat);have n5_:=ak_ (below_weaken (by repeat(first|(with_reducible first|exact HB.out|apply below_alloc|apply pw_below_drewN|apply below_drew1|refine below_set ?_ (IsS94.ge HI0.out)|refine below_set ?_ GE294.out)|exact HB.out)) HL.out hb);have n6_:=ak_ (KeepBut.trans (by repeat(first|(with_reducible first|exact HK.out|apply KeepBut.set_|apply keep_drewN|apply keep_drew|apply keep_alloc|refine keep_far ?_ GW294.out _)|exact HK.out)) (KeepBut.of_grown hg g) (Kd.R_base2 HO_7.out));have n7_:=ak_ (ho);clear q0;clear HI0;clear HO306;clear HO309;clear HO322;clear HB;clear HK;clear HO_7;have q0:=n0_;have HI0:=n1_;have HO306:=n2_;have HO309:=n3_;have HO322:=n4_;have HB:=n5_;have HK:=n6_;have HO325:=n7_;clear n0_ n1_ n2_ n3_ n4_ n5_ n6_ n7_;clear ho hb hg hat))
           go_roundg kj13
           case measure=>have:=HK1.out;have:=HJ13.out;omega
           case rel=>exact⟨(y323),(wrap64 (x8_1 - 1)),(t312),(t313),(by first|rfl|(simp;done)|(simp [*];done)),H',⟨by have:=HK1.out;have:=HJ13.out;omega⟩,⟨by(with_reducible repeat(first|apply Kd.R_alloc|apply Kd.R_drewN|apply Kd.R_drew));exact Kd.R_mono HO325.out (fun _ hk=>trivial)⟩,⟨by repeat(first|(with_reducible first|exact HI0.out|apply IsS94.alloc|apply IsS94.drewN|apply IsS94.drew|apply IsS94.set_1|apply IsS94.set_2|refine IsS94.far ?_ NB0_294.out _)|exact HI0.out)⟩,⟨by repeat(first|(with_reducible first|exact HK.out|apply KeepBut.set_|apply keep_drewN|apply keep_drew|apply keep_alloc|refine keep_far ?_ GW294.out _)|exact HK.out)⟩,⟨by repeat(first|(with_reducible first|exact HB.out|apply below_alloc|apply pw_below_drewN|apply below_drew1|refine below_set ?_ (IsS94.ge HI0.out)|refine below_set ?_ GE294.out)|exact HB.out)⟩⟩
          ·rw [if_neg c53] at H
           exact absurd H (by simp)
         ·rw [if_neg c52] at H
          have c52b0:(t311 == 0)=false:=beq_eq_false_iff_ne.mpr c52
          have c52b1:(t311 != 0)=true:=bne_iff_ne.mpr c52
          have H':=ak_ H
          clear H
          obtain⟨Ao73,co73,eo73⟩:=Kd.R_slice HO_7.out
          subst eo73
          try go_wp2
          have n0_:=ak_ (Kd.R_drew HO_7.out)
          have n1_:=ak_ (blk_drew q0.out)
          have n2_:=ak_ (IsS94.drew HI0.out)
          have n3_:=ak_ (keep_drew HK.out)
          have n4_:=ak_ (below_drew1 HB.out)
          clear HO_7
          clear q0
          clear HI0
          clear HK
          clear HB
          have HO_7:=n0_
          have q0:=n1_
          have HI0:=n2_
          have HK:=n3_
          have HB:=n4_
          clear n0_ n1_ n2_ n3_ n4_
          refine start_ (n:=14) (S:=fun w'=>w'.cell? ⟨q1,0,none⟩=some (.int .i64 t285)∧w'.cell? ⟨q1,1,none⟩=some (.int .i64 t288)∧w'.cell? ⟨q1,2,none⟩=some (.int .i64 (wrap64 (1+t291)))∧w'.cell? ⟨q1,3,none⟩=some (.int .i64 q2)) (ds:=[]) #[false,false,false,false,false,false,false,false,false,false,false,false,false,false] (by kernel_rfl) rfl rfl ⟨(blk_cell q0.out 0).trans rfl,(blk_cell q0.out 1).trans rfl,(blk_cell q0.out 2).trans rfl,(blk_cell q0.out 3).trans rfl⟩ (fun hHeld=>?_);refine with_tabW spec_l14Draw.tab9 spec_l14Draw.bits9 (fun HT_ HW_=>?_)
          generalize wc.drew=w74 at HO_7 q0 HI0 HK HB hHeld ⊢
          refine pure_ (i:=0) (N:=some 47) (v:=?_) (a':=?_) #[true,false,false,false,false,false,false,false,false,false,false,false,false,false] rfl rfl (any_of HT_.out (by kernel_rfl)) (fun _ _ _ h=>h) (Or.inl ⟨by rfl,?_⟩) ?_ ?_
          rotate_left
          ·intro w'
           go_simp
           with_reducible rfl
          rotate_left
          ·simp only [Act.put,List.setIfInBounds_toArray,List.set_cons_zero,List.set_cons_succ,i64_w,i32_w]
           rfl
          refine pure_ (i:=1) (N:=some 48) (v:=?_) (a':=?_) #[true,true,false,false,false,false,false,false,false,false,false,false,false,false] rfl rfl (any_of HT_.out (by kernel_rfl)) (fun _ _ _ h=>h) (Or.inl ⟨by rfl,?_⟩) ?_ ?_
          rotate_left
          ·intro w'
           go_simp
           with_reducible rfl
          rotate_left
          ·simp only [Act.put,List.setIfInBounds_toArray,List.set_cons_zero,List.set_cons_succ,i64_w,i32_w]
           rfl
          refine pure_ (i:=3) (N:=some 50) (v:=?_) (a':=?_) #[true,true,false,true,false,false,false,false,false,false,false,false,false,false] rfl rfl (any_of HT_.out (by kernel_rfl)) (fun _ _ _ h=>h) (Or.inl ⟨by rfl,?_⟩) ?_ ?_
          rotate_left
          ·intro w'
           go_simp
           with_reducible rfl
          rotate_left
          ·simp only [Act.put,List.setIfInBounds_toArray,List.set_cons_zero,List.set_cons_succ,i64_w,i32_w]
           rfl
          refine take_ (i:=5) (N:=some 52) (v:=?_) (a':=?_) #[true,true,false,true,false,true,false,false,false,false,false,false,false,false] rfl rfl (take_ofW HT_.out HW_.out (by kernel_rfl)) (fun _ _ _ h=>h) (Or.inl ⟨by rfl,?_⟩) hHeld ?_ ?_
          rotate_left
          ·rintro w' ⟨s0,s1,s2,s3⟩
           go_simp
           with_reducible rfl
          rotate_left
          ·simp only [Act.put,List.setIfInBounds_toArray,List.set_cons_zero,List.set_cons_succ,i64_w,i32_w]
           rfl
          refine join_ (σ:=Value × Value × Value) 7 #[true,true,true,true,true,true,true,false,false,false,false,false,false,false] (fun s_=>[(49,s_.1),(51,s_.2.1),(53,s_.2.2)]) (fun s_ w'=>(w'.cell? ⟨q1,0,none⟩=some (.int .i64 t285)∧w'.cell? ⟨q1,1,none⟩=some (.int .i64 t288)∧w'.cell? ⟨q1,2,none⟩=some (.int .i64 (wrap64 (1+t291)))∧w'.cell? ⟨q1,3,none⟩=some (.int .i64 q2))∧(Kd.R k55 55 w' w.heap.size (fun k_=>some k_≠(s_.2.2:Value).ownBlock∧some k_≠(.slice Ao73 x7_1.length co73:Value).ownBlock∧k_≠q1) s_.2.1 y301)∧(Kd.R k55 55 w' w.heap.size (fun k_=>some k_≠(s_.2.1:Value).ownBlock∧some k_≠(.slice Ao73 x7_1.length co73:Value).ownBlock∧k_≠q1) s_.2.2 y304)∧(Kd.R k55 55 w' w.heap.size (fun k_=>some k_≠(s_.2.1:Value).ownBlock∧some k_≠(s_.2.2:Value).ownBlock∧k_≠q1) (.slice Ao73 x7_1.length co73) x7_1)∧(w'.heap[q1]?=some (.cells #[.int .i64 t285,.int .i64 t288,.int .i64 (wrap64 (1+t291)),.int .i64 q2] 55 (0,0)))∧(IsS94 w0 w' g s0_0 x1001_13 x1002_13)∧(KeepBut w w' g none)∧(Below w0.heap.size w0 w')) ?_ ?_
          rotate_left
          ·intro hCont
           refine two_ (i:=2) (j:=6) (Ni:=some 49) (Nj:=some 53) #[true,true,true,true,false,true,false,false,false,false,false,false,false,false] #[true,true,false,true,false,true,true,false,false,false,false,false,false,false] rfl rfl rfl rfl (two_of HT_.out (by kernel_rfl)) (by decide) (by decide) (fun K hK=>?_) (fun K hK=>?_)
           ·skip
            refine Kd.R_lit_step k55 _ 55 ?hg (N:=49) ?hd (xs:=([]:List (S55))) (inner:=[]) (ok:=fun _=>True) (okp:=fun _=>True) ?hr ?hp (fun _ hk=>hk) trivial (Below.refl _ _) (Nat.le_refl _) (by simp) ?_;(case hd=>rfl);(case hg=>rfl);(case hr=>first|(go_simp;done)|(go_simp;rfl));(case hp=>exact(Reps.none _ _))
            intro v299 w75 ho76 hb hg_ hnew_
            clear hg_ hnew_
            (first|rw [← Ny298.out] at ho76|(simp only [Int.reduceToNat] at ho76;rw [← Ny298.out] at ho76))
            have n0_:=ak_ (Kd.R_elder' (by(with_reducible repeat(first|apply Kd.R_alloc|apply Kd.R_drewN|apply Kd.R_drew));exact HO_7.out) (Kd.R_base ho76) hb)
            have n1_:=ak_ (Kd.R_lower (Kd.R_newB (Kd.R_new' ho76 (Kd.R_lt (by(with_reducible repeat(first|apply Kd.R_alloc|apply Kd.R_drewN|apply Kd.R_drew));exact HO_7.out))) (g:=q1) (o:=.cells #[.int .i64 t285,.int .i64 t288,.int .i64 (wrap64 (1+t291)),.int .i64 q2] 55 (0,0)) (by(with_reducible repeat(first|refine blk_drewN ?_ _|refine blk_drew ?_|refine blk_alloc ?_ _));exact q0.out)) (keep_size (w:=w) (g:=g) (row:=none) (by repeat(first|(with_reducible first|exact HK.out|apply KeepBut.set_|apply keep_drewN|apply keep_drew|apply keep_alloc|refine keep_far ?_ GW294.out _)|exact HK.out))))
            have n2_:=ak_ (blk_below (g:=q1) (o:=.cells #[.int .i64 t285,.int .i64 t288,.int .i64 (wrap64 (1+t291)),.int .i64 q2] 55 (0,0)) (by(with_reducible repeat(first|refine blk_drewN ?_ _|refine blk_drew ?_|refine blk_alloc ?_ _));exact q0.out) hb)
            have n3_:=ak_ (IsS94.below (by repeat(first|(with_reducible first|exact HI0.out|apply IsS94.alloc|apply IsS94.drewN|apply IsS94.drew|apply IsS94.set_1|apply IsS94.set_2|refine IsS94.far ?_ NB0_294.out _)|exact HI0.out)) hb)
            have n4_:=ak_ (KeepBut.trans (by repeat(first|(with_reducible first|exact HK.out|apply KeepBut.set_|apply keep_drewN|apply keep_drew|apply keep_alloc|refine keep_far ?_ GW294.out _)|exact HK.out)) (KeepBut.of_below hb g none) (.inl rfl))
            have n5_:=ak_ (below_step (by repeat(first|(with_reducible first|exact HB.out|apply below_alloc|apply pw_below_drewN|apply below_drew1|refine below_set ?_ (IsS94.ge HI0.out)|refine below_set ?_ GE294.out)|exact HB.out)) hb)
            clear HO_7
            clear q0
            clear HI0
            clear HK
            clear HB
            have HO_7:=n0_
            have HO300:=n1_
            have q0:=n2_
            have HI0:=n3_
            have HK:=n4_
            have HB:=n5_
            clear n0_ n1_ n2_ n3_ n4_ n5_
            clear hb ho76
            refine hK.out _ _ ⟨(blk_cell q0.out 0).trans rfl,(blk_cell q0.out 1).trans rfl,(blk_cell q0.out 2).trans rfl,(blk_cell q0.out 3).trans rfl⟩ (fun hHeld=>?_)
            clear hK K
            refine norm_ (a':=?_) ?_ ?_
            rotate_left
            ·show Act.put _ (some 49) _=_
             simp only [Act.put,List.setIfInBounds_toArray,List.set_cons_zero,List.set_cons_succ,i64_w,i32_w]
             rfl
            refine two_ (i:=4) (j:=6) (Ni:=some 51) (Nj:=some 53) #[true,true,true,true,true,true,false,false,false,false,false,false,false,false] #[true,true,true,true,false,true,true,false,false,false,false,false,false,false] rfl rfl rfl rfl (two_of HT_.out (by kernel_rfl)) (by decide) (by decide) (fun K hK=>?_) (fun K hK=>?_)
            ·skip
             refine Kd.R_append_rows_step k55 w.heap.size (by rfl) (.tmp 49) (.tmp 50) 31 55 (.agg #[(.int .i64 0),(.int .i64 0),(.int .i64 0),(.int .i64 0)]) 32 rfl Try.underlying31 info55 rfl (by decide) (by omega) v299 y298 x7_1 _ _ _ (fun k_=>some k_≠(.slice Ao73 x7_1.length co73:Value).ownBlock∧k_≠q1) (fun _=>False) rfl rfl ?aO ?aR (fun _ _ h=>h) (fun _ h=>h.elim) ?aF (Below.refl _ _) ?aS ?aL ?_
             (case aR=>repeat(first|exact(Kd.R_reads' HO_7.out).2.2|(with_reducible refine Kd.C_alloc ?_ _)|(with_reducible refine Kd.C_drewN ?_ _)|(with_reducible refine Kd.C_drew ?_)))
             (case aF=>exact(fun k_ hk=>⟨Kd.fresh' (Kd.R_lt (by(with_reducible repeat(first|apply Kd.R_alloc|apply Kd.R_drewN|apply Kd.R_drew));exact HO_7.out)) k_ hk,Kd.freshB (g:=q1) (o:=.cells #[.int .i64 t285,.int .i64 t288,.int .i64 (wrap64 (1+t291)),.int .i64 q2] 55 (0,0)) (by(with_reducible repeat(first|refine blk_drewN ?_ _|refine blk_drew ?_|refine blk_alloc ?_ _));exact q0.out) k_ hk⟩))
             (case aO=>exact(by(with_reducible repeat(first|apply Kd.R_alloc|apply Kd.R_drewN|apply Kd.R_drew));exact Kd.R_mono HO300.out (fun _ hk=>⟨hk.1.2,hk.2⟩)))
             (case aS=>exact(keep_size (w:=w) (g:=g) (row:=none) (by repeat(first|(with_reducible first|exact HK.out|apply KeepBut.set_|apply keep_drewN|apply keep_drew|apply keep_alloc|refine keep_far ?_ GW294.out _)|exact HK.out))))
             (case aL=>have:=LMc28.out;omega)
             intro v302 w77 ho hb hg hat
             rw [← Ny301.out] at ho
             have n0_:=ak_ (Kd.R_after (ok:=(fun k_=>k_≠q1)) (by(with_reducible repeat(first|apply Kd.R_alloc|apply Kd.R_drewN|apply Kd.R_drew));exact HO_7.out) hg hat)
             have n1_:=ak_ (blk_grown (g:=q1) (o:=.cells #[.int .i64 t285,.int .i64 t288,.int .i64 (wrap64 (1+t291)),.int .i64 q2] 55 (0,0)) (by(with_reducible repeat(first|refine blk_drewN ?_ _|refine blk_drew ?_|refine blk_alloc ?_ _));exact q0.out) hg (Kd.R_away HO300.out (fun _ hk=>hk.2)))
             have n2_:=ak_ (IsS94.grown (by repeat(first|(with_reducible first|exact HI0.out|apply IsS94.alloc|apply IsS94.drewN|apply IsS94.drew|apply IsS94.set_1|apply IsS94.set_2|refine IsS94.far ?_ NB0_294.out _)|exact HI0.out)) hg (IsS94.own_ne HI0.out HO300.out (by decide)))
             have n3_:=ak_ (below_weaken (by repeat(first|(with_reducible first|exact HB.out|apply below_alloc|apply pw_below_drewN|apply below_drew1|refine below_set ?_ (IsS94.ge HI0.out)|refine below_set ?_ GE294.out)|exact HB.out)) HL.out hb)
             have n4_:=ak_ (KeepBut.trans (by repeat(first|(with_reducible first|exact HK.out|apply KeepBut.set_|apply keep_drewN|apply keep_drew|apply keep_alloc|refine keep_far ?_ GW294.out _)|exact HK.out)) (KeepBut.of_grown hg g) (Kd.R_base2 HO300.out))
             have n5_:=ak_ (ho)
             clear HO_7
             clear q0
             clear HI0
             clear HB
             clear HK
             clear HO300
             have HO_7:=n0_
             have q0:=n1_
             have HI0:=n2_
             have HB:=n3_
             have HK:=n4_
             have HO303:=n5_
             clear n0_ n1_ n2_ n3_ n4_ n5_
             clear ho hb hg hat
             refine hK.out _ _ ⟨(blk_cell q0.out 0).trans rfl,(blk_cell q0.out 1).trans rfl,(blk_cell q0.out 2).trans rfl,(blk_cell q0.out 3).trans rfl⟩ (fun hHeld=>?_)
             clear hK K
             refine norm_ (a':=?_) ?_ ?_
             rotate_left
             ·show Act.put _ (some 51) _=_
              simp only [Act.put,List.setIfInBounds_toArray,List.set_cons_zero,List.set_cons_succ,i64_w,i32_w]
              rfl
             refine one_ (i:=6) (N:=some 53) #[true,true,true,true,true,true,true,false,false,false,false,false,false,false] rfl rfl (one_of HT_.out (by kernel_rfl)) (by decide) (fun K hK=>?_)
             refine Kd.R_lit_step k55 _ 55 ?hg (N:=53) ?hd (xs:=([(⟨t285,t288,(wrap64 (1+t291)),q2⟩:S55)]:List (S55))) (inner:=[.int .i64 t285,.int .i64 t288,.int .i64 (wrap64 (1+t291)),.int .i64 q2]) (ok:=fun _=>True) (okp:=fun _=>True) ?hr ?hp (fun _ hk=>hk) trivial (Below.refl _ _) (Nat.le_refl _) (by simp) ?_;(case hd=>rfl);(case hg=>rfl);(case hr=>first|(go_simp;done)|(go_simp;rfl));(case hp=>exact(Reps.c4 (show Kd.M k55 _ _ _ (⟨t285,t288,(wrap64 (1+t291)),q2⟩:S55) [.int .i64 t285,.int .i64 t288,.int .i64 (wrap64 (1+t291)),.int .i64 q2] from(k55_mkM _ _ _ (⟨t285,t288,(wrap64 (1+t291)),q2⟩:S55) )) (Reps.none _ _)))
             intro v305 w78 ho79 hb hg_ hnew_
             clear hg_ hnew_
             (first|rw [← Ny304.out] at ho79|(simp only [Int.reduceToNat] at ho79;rw [← Ny304.out] at ho79))
             have n0_:=ak_ (Kd.R_elder' (by(with_reducible repeat(first|apply Kd.R_alloc|apply Kd.R_drewN|apply Kd.R_drew));exact HO_7.out) (Kd.R_base ho79) hb)
             have n1_:=ak_ (Kd.R_elder' (by(with_reducible repeat(first|apply Kd.R_alloc|apply Kd.R_drewN|apply Kd.R_drew));exact HO303.out) (Kd.R_base ho79) hb)
             have n2_:=ak_ (Kd.R_lower (Kd.R_newB (Kd.R_new' (Kd.R_new' ho79 (Kd.R_lt (by(with_reducible repeat(first|apply Kd.R_alloc|apply Kd.R_drewN|apply Kd.R_drew));exact HO_7.out))) (Kd.R_lt (by(with_reducible repeat(first|apply Kd.R_alloc|apply Kd.R_drewN|apply Kd.R_drew));exact HO303.out))) (g:=q1) (o:=.cells #[.int .i64 t285,.int .i64 t288,.int .i64 (wrap64 (1+t291)),.int .i64 q2] 55 (0,0)) (by(with_reducible repeat(first|refine blk_drewN ?_ _|refine blk_drew ?_|refine blk_alloc ?_ _));exact q0.out)) (keep_size (w:=w) (g:=g) (row:=none) (by repeat(first|(with_reducible first|exact HK.out|apply KeepBut.set_|apply keep_drewN|apply keep_drew|apply keep_alloc|refine keep_far ?_ GW294.out _)|exact HK.out))))
             have n3_:=ak_ (blk_below (g:=q1) (o:=.cells #[.int .i64 t285,.int .i64 t288,.int .i64 (wrap64 (1+t291)),.int .i64 q2] 55 (0,0)) (by(with_reducible repeat(first|refine blk_drewN ?_ _|refine blk_drew ?_|refine blk_alloc ?_ _));exact q0.out) hb)
             have n4_:=ak_ (IsS94.below (by repeat(first|(with_reducible first|exact HI0.out|apply IsS94.alloc|apply IsS94.drewN|apply IsS94.drew|apply IsS94.set_1|apply IsS94.set_2|refine IsS94.far ?_ NB0_294.out _)|exact HI0.out)) hb)
             have n5_:=ak_ (KeepBut.trans (by repeat(first|(with_reducible first|exact HK.out|apply KeepBut.set_|apply keep_drewN|apply keep_drew|apply keep_alloc|refine keep_far ?_ GW294.out _)|exact HK.out)) (KeepBut.of_below hb g none) (.inl rfl))
             have n6_:=ak_ (below_step (by repeat(first|(with_reducible first|exact HB.out|apply below_alloc|apply pw_below_drewN|apply below_drew1|refine below_set ?_ (IsS94.ge HI0.out)|refine below_set ?_ GE294.out)|exact HB.out)) hb)
             clear HO_7
             clear HO303
             clear q0
             clear HI0
             clear HK
             clear HB
             have HO_7:=n0_
             have HO303:=n1_
             have HO306:=n2_
             have q0:=n3_
             have HI0:=n4_
             have HK:=n5_
             have HB:=n6_
             clear n0_ n1_ n2_ n3_ n4_ n5_ n6_
             clear hb ho79
             refine hK.out _ _ ⟨(blk_cell q0.out 0).trans rfl,(blk_cell q0.out 1).trans rfl,(blk_cell q0.out 2).trans rfl,(blk_cell q0.out 3).trans rfl⟩ (fun hHeld=>?_)
             clear hK K
             refine norm_ (a':=?_) ?_ ?_
             rotate_left
             ·show Act.put _ (some 53) _=_
              simp only [Act.put,List.setIfInBounds_toArray,List.set_cons_zero,List.set_cons_succ,i64_w,i32_w]
              rfl
             exact norm_ (by simp only [putAll,Act.put,List.setIfInBounds_toArray,List.set_cons_zero,List.set_cons_succ]) (hCont (v299,v302,v305) _ ⟨hHeld,(by(with_reducible repeat(first|apply Kd.R_alloc|apply Kd.R_drewN|apply Kd.R_drew));exact Kd.R_mono HO303.out (fun _ hk=>⟨hk.2,⟨hk.1.1,hk.1.2⟩⟩)),(by(with_reducible repeat(first|apply Kd.R_alloc|apply Kd.R_drewN|apply Kd.R_drew));exact Kd.R_mono HO306.out (fun _ hk=>⟨hk.1.2,⟨hk.1.1.2,hk.2⟩⟩)),(by(with_reducible repeat(first|apply Kd.R_alloc|apply Kd.R_drewN|apply Kd.R_drew));exact Kd.R_mono HO_7.out (fun _ hk=>⟨hk.1.2,⟨hk.2,hk.1.1⟩⟩)),(by(with_reducible repeat(first|refine blk_drewN ?_ _|refine blk_drew ?_|refine blk_alloc ?_ _));exact q0.out),(by repeat(first|(with_reducible first|exact HI0.out|apply IsS94.alloc|apply IsS94.drewN|apply IsS94.drew|apply IsS94.set_1|apply IsS94.set_2|refine IsS94.far ?_ NB0_294.out _)|exact HI0.out)),(by repeat(first|(with_reducible first|exact HK.out|apply KeepBut.set_|apply keep_drewN|apply keep_drew|apply keep_alloc|refine keep_far ?_ GW294.out _)|exact HK.out)),(by repeat(first|(with_reducible first|exact HB.out|apply below_alloc|apply pw_below_drewN|apply below_drew1|refine below_set ?_ (IsS94.ge HI0.out)|refine below_set ?_ GE294.out)|exact HB.out))⟩)
            ·skip
             refine Kd.R_lit_step k55 _ 55 ?hg (N:=53) ?hd (xs:=([(⟨t285,t288,(wrap64 (1+t291)),q2⟩:S55)]:List (S55))) (inner:=[.int .i64 t285,.int .i64 t288,.int .i64 (wrap64 (1+t291)),.int .i64 q2]) (ok:=fun _=>True) (okp:=fun _=>True) ?hr ?hp (fun _ hk=>hk) trivial (Below.refl _ _) (Nat.le_refl _) (by simp) ?_;(case hd=>rfl);(case hg=>rfl);(case hr=>first|(go_simp;done)|(go_simp;rfl));(case hp=>exact(Reps.c4 (show Kd.M k55 _ _ _ (⟨t285,t288,(wrap64 (1+t291)),q2⟩:S55) [.int .i64 t285,.int .i64 t288,.int .i64 (wrap64 (1+t291)),.int .i64 q2] from(k55_mkM _ _ _ (⟨t285,t288,(wrap64 (1+t291)),q2⟩:S55) )) (Reps.none _ _)))
             intro v305 w77 ho78 hb hg_ hnew_
             clear hg_ hnew_
             (first|rw [← Ny304.out] at ho78|(simp only [Int.reduceToNat] at ho78;rw [← Ny304.out] at ho78))
             have n0_:=ak_ (Kd.R_elder' (by(with_reducible repeat(first|apply Kd.R_alloc|apply Kd.R_drewN|apply Kd.R_drew));exact HO_7.out) (Kd.R_base ho78) hb)
             have n1_:=ak_ (Kd.R_elder' (by(with_reducible repeat(first|apply Kd.R_alloc|apply Kd.R_drewN|apply Kd.R_drew));exact HO300.out) (Kd.R_base ho78) hb)
             have n2_:=ak_ (Kd.R_lower (Kd.R_newB (Kd.R_new' (Kd.R_new' ho78 (Kd.R_lt (by(with_reducible repeat(first|apply Kd.R_alloc|apply Kd.R_drewN|apply Kd.R_drew));exact HO_7.out))) (Kd.R_lt (by(with_reducible repeat(first|apply Kd.R_alloc|apply Kd.R_drewN|apply Kd.R_drew));exact HO300.out))) (g:=q1) (o:=.cells #[.int .i64 t285,.int .i64 t288,.int .i64 (wrap64 (1+t291)),.int .i64 q2] 55 (0,0)) (by(with_reducible repeat(first|refine blk_drewN ?_ _|refine blk_drew ?_|refine blk_alloc ?_ _));exact q0.out)) (keep_size (w:=w) (g:=g) (row:=none) (by repeat(first|(with_reducible first|exact HK.out|apply KeepBut.set_|apply keep_drewN|apply keep_drew|apply keep_alloc|refine keep_far ?_ GW294.out _)|exact HK.out))))
             have n3_:=ak_ (blk_below (g:=q1) (o:=.cells #[.int .i64 t285,.int .i64 t288,.int .i64 (wrap64 (1+t291)),.int .i64 q2] 55 (0,0)) (by(with_reducible repeat(first|refine blk_drewN ?_ _|refine blk_drew ?_|refine blk_alloc ?_ _));exact q0.out) hb)
             have n4_:=ak_ (IsS94.below (by repeat(first|(with_reducible first|exact HI0.out|apply IsS94.alloc|apply IsS94.drewN|apply IsS94.drew|apply IsS94.set_1|apply IsS94.set_2|refine IsS94.far ?_ NB0_294.out _)|exact HI0.out)) hb)
             have n5_:=ak_ (KeepBut.trans (by repeat(first|(with_reducible first|exact HK.out|apply KeepBut.set_|apply keep_drewN|apply keep_drew|apply keep_alloc|refine keep_far ?_ GW294.out _)|exact HK.out)) (KeepBut.of_below hb g none) (.inl rfl))
             have n6_:=ak_ (below_step (by repeat(first|(with_reducible first|exact HB.out|apply below_alloc|apply pw_below_drewN|apply below_drew1|refine below_set ?_ (IsS94.ge HI0.out)|refine below_set ?_ GE294.out)|exact HB.out)) hb)
             clear HO_7
             clear HO300
             clear q0
             clear HI0
             clear HK
             clear HB
             have HO_7:=n0_
             have HO300:=n1_
             have HO306:=n2_
             have q0:=n3_
             have HI0:=n4_
             have HK:=n5_
             have HB:=n6_
             clear n0_ n1_ n2_ n3_ n4_ n5_ n6_
             clear hb ho78
             refine hK.out _ _ ⟨(blk_cell q0.out 0).trans rfl,(blk_cell q0.out 1).trans rfl,(blk_cell q0.out 2).trans rfl,(blk_cell q0.out 3).trans rfl⟩ (fun hHeld=>?_)
             clear hK K
             refine norm_ (a':=?_) ?_ ?_
             rotate_left
             ·show Act.put _ (some 53) _=_
              simp only [Act.put,List.setIfInBounds_toArray,List.set_cons_zero,List.set_cons_succ,i64_w,i32_w]
              rfl
             refine one_ (i:=4) (N:=some 51) #[true,true,true,true,true,true,true,false,false,false,false,false,false,false] rfl rfl (one_of HT_.out (by kernel_rfl)) (by decide) (fun K hK=>?_)
             refine Kd.R_append_rows_step k55 w.heap.size (by rfl) (.tmp 49) (.tmp 50) 31 55 (.agg #[(.int .i64 0),(.int .i64 0),(.int .i64 0),(.int .i64 0)]) 32 rfl Try.underlying31 info55 rfl (by decide) (by omega) v299 y298 x7_1 _ _ _ (fun k_=>some k_≠(.slice Ao73 x7_1.length co73:Value).ownBlock∧some k_≠(v305:Value).ownBlock∧k_≠q1) (fun _=>False) rfl rfl ?aO ?aR (fun _ _ h=>h) (fun _ h=>h.elim) ?aF (Below.refl _ _) ?aS ?aL ?_
             (case aR=>repeat(first|exact(Kd.R_reads' HO_7.out).2.2|(with_reducible refine Kd.C_alloc ?_ _)|(with_reducible refine Kd.C_drewN ?_ _)|(with_reducible refine Kd.C_drew ?_)))
             (case aF=>exact(fun k_ hk=>⟨Kd.fresh' (Kd.R_lt (by(with_reducible repeat(first|apply Kd.R_alloc|apply Kd.R_drewN|apply Kd.R_drew));exact HO_7.out)) k_ hk,Kd.fresh' (Kd.R_lt (by(with_reducible repeat(first|apply Kd.R_alloc|apply Kd.R_drewN|apply Kd.R_drew));exact HO306.out)) k_ hk,Kd.freshB (g:=q1) (o:=.cells #[.int .i64 t285,.int .i64 t288,.int .i64 (wrap64 (1+t291)),.int .i64 q2] 55 (0,0)) (by(with_reducible repeat(first|refine blk_drewN ?_ _|refine blk_drew ?_|refine blk_alloc ?_ _));exact q0.out) k_ hk⟩))
             (case aO=>exact(by(with_reducible repeat(first|apply Kd.R_alloc|apply Kd.R_drewN|apply Kd.R_drew));exact Kd.R_mono HO300.out (fun _ hk=>⟨hk.1.1.2,⟨hk.2,hk.1.2⟩⟩)))
             (case aS=>exact(keep_size (w:=w) (g:=g) (row:=none) (by repeat(first|(with_reducible first|exact HK.out|apply KeepBut.set_|apply keep_drewN|apply keep_drew|apply keep_alloc|refine keep_far ?_ GW294.out _)|exact HK.out))))
             (case aL=>have:=LMc28.out;omega)
             intro v302 w79 ho hb hg hat
             rw [← Ny301.out] at ho
             have n0_:=ak_ (Kd.R_after (ok:=(fun k_=>some k_≠(v305:Value).ownBlock∧k_≠q1)) (by(with_reducible repeat(first|apply Kd.R_alloc|apply Kd.R_drewN|apply Kd.R_drew));exact Kd.R_mono HO_7.out (fun _ hk=>⟨⟨hk.2,hk.1.1⟩,hk.1.2⟩)) hg hat)
             have n1_:=ak_ (blk_grown (g:=q1) (o:=.cells #[.int .i64 t285,.int .i64 t288,.int .i64 (wrap64 (1+t291)),.int .i64 q2] 55 (0,0)) (by(with_reducible repeat(first|refine blk_drewN ?_ _|refine blk_drew ?_|refine blk_alloc ?_ _));exact q0.out) hg (Kd.R_away HO300.out (fun _ hk=>hk.1.2)))
             have n2_:=ak_ (IsS94.grown (by repeat(first|(with_reducible first|exact HI0.out|apply IsS94.alloc|apply IsS94.drewN|apply IsS94.drew|apply IsS94.set_1|apply IsS94.set_2|refine IsS94.far ?_ NB0_294.out _)|exact HI0.out)) hg (IsS94.own_ne HI0.out HO300.out (by decide)))
             have n3_:=ak_ (Kd.R_after (ok:=(fun k_=>some k_≠(.slice Ao73 x7_1.length co73:Value).ownBlock∧k_≠q1)) (by(with_reducible repeat(first|apply Kd.R_alloc|apply Kd.R_drewN|apply Kd.R_drew));exact Kd.R_mono HO306.out (fun _ hk=>⟨⟨hk.1.1.2,hk.2⟩,hk.1.2⟩)) hg hat)
             have n4_:=ak_ (below_weaken (by repeat(first|(with_reducible first|exact HB.out|apply below_alloc|apply pw_below_drewN|apply below_drew1|refine below_set ?_ (IsS94.ge HI0.out)|refine below_set ?_ GE294.out)|exact HB.out)) HL.out hb)
             have n5_:=ak_ (KeepBut.trans (by repeat(first|(with_reducible first|exact HK.out|apply KeepBut.set_|apply keep_drewN|apply keep_drew|apply keep_alloc|refine keep_far ?_ GW294.out _)|exact HK.out)) (KeepBut.of_grown hg g) (Kd.R_base2 HO300.out))
             have n6_:=ak_ (ho)
             clear HO_7
             clear q0
             clear HI0
             clear HO306
             clear HB
             clear HK
             clear HO300
             have HO_7:=n0_
             have q0:=n1_
             have HI0:=n2_
             have HO306:=n3_
             have HB:=n4_
             have HK:=n5_
             have HO303:=n6_
             clear n0_ n1_ n2_ n3_ n4_ n5_ n6_
             clear ho hb hg hat
             refine hK.out _ _ ⟨(blk_cell q0.out 0).trans rfl,(blk_cell q0.out 1).trans rfl,(blk_cell q0.out 2).trans rfl,(blk_cell q0.out 3).trans rfl⟩ (fun hHeld=>?_)
             clear hK K
             refine norm_ (a':=?_) ?_ ?_
             rotate_left
             ·show Act.put _ (some 51) _=_
              simp only [Act.put,List.setIfInBounds_toArray,List.set_cons_zero,List.set_cons_succ,i64_w,i32_w]
              rfl
             exact norm_ (by simp only [putAll,Act.put,List.setIfInBounds_toArray,List.set_cons_zero,List.set_cons_succ]) (hCont (v299,v302,v305) _ ⟨hHeld,(by(with_reducible repeat(first|apply Kd.R_alloc|apply Kd.R_drewN|apply Kd.R_drew));exact Kd.R_mono HO303.out (fun _ hk=>⟨hk.2.1,⟨hk.1,hk.2.2⟩⟩)),(by(with_reducible repeat(first|apply Kd.R_alloc|apply Kd.R_drewN|apply Kd.R_drew));exact Kd.R_mono HO306.out (fun _ hk=>⟨hk.2,⟨hk.1.1,hk.1.2⟩⟩)),(by(with_reducible repeat(first|apply Kd.R_alloc|apply Kd.R_drewN|apply Kd.R_drew));exact Kd.R_mono HO_7.out (fun _ hk=>⟨hk.2,⟨hk.1.1,hk.1.2⟩⟩)),(by(with_reducible repeat(first|refine blk_drewN ?_ _|refine blk_drew ?_|refine blk_alloc ?_ _));exact q0.out),(by repeat(first|(with_reducible first|exact HI0.out|apply IsS94.alloc|apply IsS94.drewN|apply IsS94.drew|apply IsS94.set_1|apply IsS94.set_2|refine IsS94.far ?_ NB0_294.out _)|exact HI0.out)),(by repeat(first|(with_reducible first|exact HK.out|apply KeepBut.set_|apply keep_drewN|apply keep_drew|apply keep_alloc|refine keep_far ?_ GW294.out _)|exact HK.out)),(by repeat(first|(with_reducible first|exact HB.out|apply below_alloc|apply pw_below_drewN|apply below_drew1|refine below_set ?_ (IsS94.ge HI0.out)|refine below_set ?_ GE294.out)|exact HB.out))⟩)
           ·skip
            refine Kd.R_lit_step k55 _ 55 ?hg (N:=53) ?hd (xs:=([(⟨t285,t288,(wrap64 (1+t291)),q2⟩:S55)]:List (S55))) (inner:=[.int .i64 t285,.int .i64 t288,.int .i64 (wrap64 (1+t291)),.int .i64 q2]) (ok:=fun _=>True) (okp:=fun _=>True) ?hr ?hp (fun _ hk=>hk) trivial (Below.refl _ _) (Nat.le_refl _) (by simp) ?_;(case hd=>rfl);(case hg=>rfl);(case hr=>first|(go_simp;done)|(go_simp;rfl));(case hp=>exact(Reps.c4 (show Kd.M k55 _ _ _ (⟨t285,t288,(wrap64 (1+t291)),q2⟩:S55) [.int .i64 t285,.int .i64 t288,.int .i64 (wrap64 (1+t291)),.int .i64 q2] from(k55_mkM _ _ _ (⟨t285,t288,(wrap64 (1+t291)),q2⟩:S55) )) (Reps.none _ _)))
            intro v305 w75 ho76 hb hg_ hnew_
            clear hg_ hnew_
            (first|rw [← Ny304.out] at ho76|(simp only [Int.reduceToNat] at ho76;rw [← Ny304.out] at ho76))
            have n0_:=ak_ (Kd.R_elder' (by(with_reducible repeat(first|apply Kd.R_alloc|apply Kd.R_drewN|apply Kd.R_drew));exact HO_7.out) (Kd.R_base ho76) hb)
            have n1_:=ak_ (Kd.R_lower (Kd.R_newB (Kd.R_new' ho76 (Kd.R_lt (by(with_reducible repeat(first|apply Kd.R_alloc|apply Kd.R_drewN|apply Kd.R_drew));exact HO_7.out))) (g:=q1) (o:=.cells #[.int .i64 t285,.int .i64 t288,.int .i64 (wrap64 (1+t291)),.int .i64 q2] 55 (0,0)) (by(with_reducible repeat(first|refine blk_drewN ?_ _|refine blk_drew ?_|refine blk_alloc ?_ _));exact q0.out)) (keep_size (w:=w) (g:=g) (row:=none) (by repeat(first|(with_reducible first|exact HK.out|apply KeepBut.set_|apply keep_drewN|apply keep_drew|apply keep_alloc|refine keep_far ?_ GW294.out _)|exact HK.out))))
            have n2_:=ak_ (blk_below (g:=q1) (o:=.cells #[.int .i64 t285,.int .i64 t288,.int .i64 (wrap64 (1+t291)),.int .i64 q2] 55 (0,0)) (by(with_reducible repeat(first|refine blk_drewN ?_ _|refine blk_drew ?_|refine blk_alloc ?_ _));exact q0.out) hb)
            have n3_:=ak_ (IsS94.below (by repeat(first|(with_reducible first|exact HI0.out|apply IsS94.alloc|apply IsS94.drewN|apply IsS94.drew|apply IsS94.set_1|apply IsS94.set_2|refine IsS94.far ?_ NB0_294.out _)|exact HI0.out)) hb)
            have n4_:=ak_ (KeepBut.trans (by repeat(first|(with_reducible first|exact HK.out|apply KeepBut.set_|apply keep_drewN|apply keep_drew|apply keep_alloc|refine keep_far ?_ GW294.out _)|exact HK.out)) (KeepBut.of_below hb g none) (.inl rfl))
            have n5_:=ak_ (below_step (by repeat(first|(with_reducible first|exact HB.out|apply below_alloc|apply pw_below_drewN|apply below_drew1|refine below_set ?_ (IsS94.ge HI0.out)|refine below_set ?_ GE294.out)|exact HB.out)) hb)
            clear HO_7
            clear q0
            clear HI0
            clear HK
            clear HB
            have HO_7:=n0_
            have HO306:=n1_
            have q0:=n2_
            have HI0:=n3_
            have HK:=n4_
            have HB:=n5_
            clear n0_ n1_ n2_ n3_ n4_ n5_
            clear hb ho76
            refine hK.out _ _ ⟨(blk_cell q0.out 0).trans rfl,(blk_cell q0.out 1).trans rfl,(blk_cell q0.out 2).trans rfl,(blk_cell q0.out 3).trans rfl⟩ (fun hHeld=>?_)
            clear hK K
            refine norm_ (a':=?_) ?_ ?_
            rotate_left
            ·show Act.put _ (some 53) _=_
             simp only [Act.put,List.setIfInBounds_toArray,List.set_cons_zero,List.set_cons_succ,i64_w,i32_w]
             rfl
            refine one_ (i:=2) (N:=some 49) #[true,true,true,true,false,true,true,false,false,false,false,false,false,false] rfl rfl (one_of HT_.out (by kernel_rfl)) (by decide) (fun K hK=>?_)
            refine Kd.R_lit_step k55 _ 55 ?hg (N:=49) ?hd (xs:=([]:List (S55))) (inner:=[]) (ok:=fun _=>True) (okp:=fun _=>True) ?hr ?hp (fun _ hk=>hk) trivial (Below.refl _ _) (Nat.le_refl _) (by simp) ?_;(case hd=>rfl);(case hg=>rfl);(case hr=>first|(go_simp;done)|(go_simp;rfl));(case hp=>exact(Reps.none _ _))
            intro v299 w77 ho78 hb hg_ hnew_
            clear hg_ hnew_
            (first|rw [← Ny298.out] at ho78|(simp only [Int.reduceToNat] at ho78;rw [← Ny298.out] at ho78))
            have n0_:=ak_ (Kd.R_elder' (by(with_reducible repeat(first|apply Kd.R_alloc|apply Kd.R_drewN|apply Kd.R_drew));exact HO_7.out) (Kd.R_base ho78) hb)
            have n1_:=ak_ (Kd.R_elder' (by(with_reducible repeat(first|apply Kd.R_alloc|apply Kd.R_drewN|apply Kd.R_drew));exact HO306.out) (Kd.R_base ho78) hb)
            have n2_:=ak_ (Kd.R_lower (Kd.R_newB (Kd.R_new' (Kd.R_new' ho78 (Kd.R_lt (by(with_reducible repeat(first|apply Kd.R_alloc|apply Kd.R_drewN|apply Kd.R_drew));exact HO_7.out))) (Kd.R_lt (by(with_reducible repeat(first|apply Kd.R_alloc|apply Kd.R_drewN|apply Kd.R_drew));exact HO306.out))) (g:=q1) (o:=.cells #[.int .i64 t285,.int .i64 t288,.int .i64 (wrap64 (1+t291)),.int .i64 q2] 55 (0,0)) (by(with_reducible repeat(first|refine blk_drewN ?_ _|refine blk_drew ?_|refine blk_alloc ?_ _));exact q0.out)) (keep_size (w:=w) (g:=g) (row:=none) (by repeat(first|(with_reducible first|exact HK.out|apply KeepBut.set_|apply keep_drewN|apply keep_drew|apply keep_alloc|refine keep_far ?_ GW294.out _)|exact HK.out))))
            have n3_:=ak_ (blk_below (g:=q1) (o:=.cells #[.int .i64 t285,.int .i64 t288,.int .i64 (wrap64 (1+t291)),.int .i64 q2] 55 (0,0)) (by(with_reducible repeat(first|refine blk_drewN ?_ _|refine blk_drew ?_|refine blk_alloc ?_ _));exact q0.out) hb)
            have n4_:=ak_ (IsS94.below (by repeat(first|(with_reducible first|exact HI0.out|apply IsS94.alloc|apply IsS94.drewN|apply IsS94.drew|apply IsS94.set_1|apply IsS94.set_2|refine IsS94.far ?_ NB0_294.out _)|exact HI0.out)) hb)
            have n5_:=ak_ (KeepBut.trans (by repeat(first|(with_reducible first|exact HK.out|apply KeepBut.set_|apply keep_drewN|apply keep_drew|apply keep_alloc|refine keep_far ?_ GW294.out _)|exact HK.out)) (KeepBut.of_below hb g none) (.inl rfl))
            have n6_:=ak_ (below_step (by repeat(first|(with_reducible first|exact HB.out|apply below_alloc|apply pw_below_drewN|apply below_drew1|refine below_set ?_ (IsS94.ge HI0.out)|refine below_set ?_ GE294.out)|exact HB.out)) hb)
            clear HO_7
            clear HO306
            clear q0
            clear HI0
            clear HK
            clear HB
            have HO_7:=n0_
            have HO306:=n1_
            have HO300:=n2_
            have q0:=n3_
            have HI0:=n4_
            have HK:=n5_
            have HB:=n6_
            clear n0_ n1_ n2_ n3_ n4_ n5_ n6_
            clear hb ho78
            refine hK.out _ _ ⟨(blk_cell q0.out 0).trans rfl,(blk_cell q0.out 1).trans rfl,(blk_cell q0.out 2).trans rfl,(blk_cell q0.out 3).trans rfl⟩ (fun hHeld=>?_)
            clear hK K
            refine norm_ (a':=?_) ?_ ?_
            rotate_left
            ·show Act.put _ (some 49) _=_
             simp only [Act.put,List.setIfInBounds_toArray,List.set_cons_zero,List.set_cons_succ,i64_w,i32_w]
             rfl
            refine one_ (i:=4) (N:=some 51) #[true,true,true,true,true,true,true,false,false,false,false,false,false,false] rfl rfl (one_of HT_.out (by kernel_rfl)) (by decide) (fun K hK=>?_)
            refine Kd.R_append_rows_step k55 w.heap.size (by rfl) (.tmp 49) (.tmp 50) 31 55 (.agg #[(.int .i64 0),(.int .i64 0),(.int .i64 0),(.int .i64 0)]) 32 rfl Try.underlying31 info55 rfl (by decide) (by omega) v299 y298 x7_1 _ _ _ (fun k_=>some k_≠(.slice Ao73 x7_1.length co73:Value).ownBlock∧some k_≠(v305:Value).ownBlock∧k_≠q1) (fun _=>False) rfl rfl ?aO ?aR (fun _ _ h=>h) (fun _ h=>h.elim) ?aF (Below.refl _ _) ?aS ?aL ?_
            (case aR=>repeat(first|exact(Kd.R_reads' HO_7.out).2.2|(with_reducible refine Kd.C_alloc ?_ _)|(with_reducible refine Kd.C_drewN ?_ _)|(with_reducible refine Kd.C_drew ?_)))
            (case aF=>exact(fun k_ hk=>⟨Kd.fresh' (Kd.R_lt (by(with_reducible repeat(first|apply Kd.R_alloc|apply Kd.R_drewN|apply Kd.R_drew));exact HO_7.out)) k_ hk,Kd.fresh' (Kd.R_lt (by(with_reducible repeat(first|apply Kd.R_alloc|apply Kd.R_drewN|apply Kd.R_drew));exact HO306.out)) k_ hk,Kd.freshB (g:=q1) (o:=.cells #[.int .i64 t285,.int .i64 t288,.int .i64 (wrap64 (1+t291)),.int .i64 q2] 55 (0,0)) (by(with_reducible repeat(first|refine blk_drewN ?_ _|refine blk_drew ?_|refine blk_alloc ?_ _));exact q0.out) k_ hk⟩))
            (case aO=>exact(by(with_reducible repeat(first|apply Kd.R_alloc|apply Kd.R_drewN|apply Kd.R_drew));exact Kd.R_mono HO300.out (fun _ hk=>⟨hk.1.1.2,⟨hk.1.2,hk.2⟩⟩)))
            (case aS=>exact(keep_size (w:=w) (g:=g) (row:=none) (by repeat(first|(with_reducible first|exact HK.out|apply KeepBut.set_|apply keep_drewN|apply keep_drew|apply keep_alloc|refine keep_far ?_ GW294.out _)|exact HK.out))))
            (case aL=>have:=LMc28.out;omega)
            intro v302 w79 ho hb hg hat
            rw [← Ny301.out] at ho
            have n0_:=ak_ (Kd.R_after (ok:=(fun k_=>some k_≠(v305:Value).ownBlock∧k_≠q1)) (by(with_reducible repeat(first|apply Kd.R_alloc|apply Kd.R_drewN|apply Kd.R_drew));exact Kd.R_mono HO_7.out (fun _ hk=>⟨⟨hk.1.2,hk.1.1⟩,hk.2⟩)) hg hat)
            have n1_:=ak_ (blk_grown (g:=q1) (o:=.cells #[.int .i64 t285,.int .i64 t288,.int .i64 (wrap64 (1+t291)),.int .i64 q2] 55 (0,0)) (by(with_reducible repeat(first|refine blk_drewN ?_ _|refine blk_drew ?_|refine blk_alloc ?_ _));exact q0.out) hg (Kd.R_away HO300.out (fun _ hk=>hk.2)))
            have n2_:=ak_ (IsS94.grown (by repeat(first|(with_reducible first|exact HI0.out|apply IsS94.alloc|apply IsS94.drewN|apply IsS94.drew|apply IsS94.set_1|apply IsS94.set_2|refine IsS94.far ?_ NB0_294.out _)|exact HI0.out)) hg (IsS94.own_ne HI0.out HO300.out (by decide)))
            have n3_:=ak_ (Kd.R_after (ok:=(fun k_=>some k_≠(.slice Ao73 x7_1.length co73:Value).ownBlock∧k_≠q1)) (by(with_reducible repeat(first|apply Kd.R_alloc|apply Kd.R_drewN|apply Kd.R_drew));exact Kd.R_mono HO306.out (fun _ hk=>⟨⟨hk.1.1.2,hk.1.2⟩,hk.2⟩)) hg hat)
            have n4_:=ak_ (below_weaken (by repeat(first|(with_reducible first|exact HB.out|apply below_alloc|apply pw_below_drewN|apply below_drew1|refine below_set ?_ (IsS94.ge HI0.out)|refine below_set ?_ GE294.out)|exact HB.out)) HL.out hb)
            have n5_:=ak_ (KeepBut.trans (by repeat(first|(with_reducible first|exact HK.out|apply KeepBut.set_|apply keep_drewN|apply keep_drew|apply keep_alloc|refine keep_far ?_ GW294.out _)|exact HK.out)) (KeepBut.of_grown hg g) (Kd.R_base2 HO300.out))
            have n6_:=ak_ (ho)
            clear HO_7
            clear q0
            clear HI0
            clear HO306
            clear HB
            clear HK
            clear HO300
            have HO_7:=n0_
            have q0:=n1_
            have HI0:=n2_
            have HO306:=n3_
            have HB:=n4_
            have HK:=n5_
            have HO303:=n6_
            clear n0_ n1_ n2_ n3_ n4_ n5_ n6_
            clear ho hb hg hat
            refine hK.out _ _ ⟨(blk_cell q0.out 0).trans rfl,(blk_cell q0.out 1).trans rfl,(blk_cell q0.out 2).trans rfl,(blk_cell q0.out 3).trans rfl⟩ (fun hHeld=>?_)
            clear hK K
            refine norm_ (a':=?_) ?_ ?_
            rotate_left
            ·show Act.put _ (some 51) _=_
             simp only [Act.put,List.setIfInBounds_toArray,List.set_cons_zero,List.set_cons_succ,i64_w,i32_w]
             rfl
            exact norm_ (by simp only [putAll,Act.put,List.setIfInBounds_toArray,List.set_cons_zero,List.set_cons_succ]) (hCont (v299,v302,v305) _ ⟨hHeld,(by(with_reducible repeat(first|apply Kd.R_alloc|apply Kd.R_drewN|apply Kd.R_drew));exact Kd.R_mono HO303.out (fun _ hk=>⟨hk.2.1,⟨hk.1,hk.2.2⟩⟩)),(by(with_reducible repeat(first|apply Kd.R_alloc|apply Kd.R_drewN|apply Kd.R_drew));exact Kd.R_mono HO306.out (fun _ hk=>⟨hk.2,⟨hk.1.1,hk.1.2⟩⟩)),(by(with_reducible repeat(first|apply Kd.R_alloc|apply Kd.R_drewN|apply Kd.R_drew));exact Kd.R_mono HO_7.out (fun _ hk=>⟨hk.2,⟨hk.1.1,hk.1.2⟩⟩)),(by(with_reducible repeat(first|refine blk_drewN ?_ _|refine blk_drew ?_|refine blk_alloc ?_ _));exact q0.out),(by repeat(first|(with_reducible first|exact HI0.out|apply IsS94.alloc|apply IsS94.drewN|apply IsS94.drew|apply IsS94.set_1|apply IsS94.set_2|refine IsS94.far ?_ NB0_294.out _)|exact HI0.out)),(by repeat(first|(with_reducible first|exact HK.out|apply KeepBut.set_|apply keep_drewN|apply keep_drew|apply keep_alloc|refine keep_far ?_ GW294.out _)|exact HK.out)),(by repeat(first|(with_reducible first|exact HB.out|apply below_alloc|apply pw_below_drewN|apply below_drew1|refine below_set ?_ (IsS94.ge HI0.out)|refine below_set ?_ GE294.out)|exact HB.out))⟩)
          rintro⟨v299,v302,v305⟩ w80 ⟨hS_,h0_,h1_,h2_,h3_,h4_,h5_,h6_⟩
          have n0_:Aside0 (Kd.R k55 55 w80 w.heap.size (fun k_=>some k_≠(v305:Value).ownBlock∧some k_≠(.slice Ao73 x7_1.length co73:Value).ownBlock∧k_≠q1) v302 y301):=⟨h0_⟩
          have n1_:Aside0 (Kd.R k55 55 w80 w.heap.size (fun k_=>some k_≠(v302:Value).ownBlock∧some k_≠(.slice Ao73 x7_1.length co73:Value).ownBlock∧k_≠q1) v305 y304):=⟨h1_⟩
          have n2_:Aside0 (Kd.R k55 55 w80 w.heap.size (fun k_=>some k_≠(v302:Value).ownBlock∧some k_≠(v305:Value).ownBlock∧k_≠q1) (.slice Ao73 x7_1.length co73) x7_1):=⟨h2_⟩
          have n3_:Aside0 (w80.heap[q1]?=some (.cells #[.int .i64 t285,.int .i64 t288,.int .i64 (wrap64 (1+t291)),.int .i64 q2] 55 (0,0))):=⟨h3_⟩
          have n4_:Aside0 (IsS94 w0 w80 g s0_0 x1001_13 x1002_13):=⟨h4_⟩
          have n5_:Aside0 (KeepBut w w80 g none):=⟨h5_⟩
          have n6_:Aside0 (Below w0.heap.size w0 w80):=⟨h6_⟩
          clear HO_7
          clear q0
          clear HI0
          clear HK
          clear HB
          clear h0_ h1_ h2_ h3_ h4_ h5_ h6_
          have HO303:=n0_
          have HO306:=n1_
          have HO_7:=n2_
          have q0:=n3_
          have HI0:=n4_
          have HK:=n5_
          have HB:=n6_
          clear n0_ n1_ n2_ n3_ n4_ n5_ n6_
          have hHeld:w80.cell? ⟨q1,0,none⟩=some (.int .i64 t285)∧w80.cell? ⟨q1,1,none⟩=some (.int .i64 t288)∧w80.cell? ⟨q1,2,none⟩=some (.int .i64 (wrap64 (1+t291)))∧w80.cell? ⟨q1,3,none⟩=some (.int .i64 q2):=hS_
          obtain⟨Ao82,co82,eo82⟩:=Kd.R_slice HO306.out
          (first|subst eo82|(injection eo82 with f1_ f2_ f3_;have f4_:=f1_.symm;have f5_:=f3_.symm;clear f1_ f2_ f3_;subst f4_;subst f5_))
          refine norm_ (a':=?_) ?_ ?_
          rotate_left
          ·simp only [putAll,Act.put,List.setIfInBounds_toArray,List.set_cons_zero,List.set_cons_succ]
           rfl
          refine one_ (i:=7) (N:=some 54) #[true,true,true,true,true,true,true,true,false,false,false,false,false,false] rfl rfl (one_of HT_.out (by kernel_rfl)) (by decide) (fun K hK=>?_)
          refine Kd.R_append_rows_step k55 w.heap.size (by rfl) (.tmp 51) (.tmp 53) 31 55 (.agg #[(.int .i64 0),(.int .i64 0),(.int .i64 0),(.int .i64 0)]) 32 rfl Try.underlying31 info55 rfl (by decide) (by omega) v302 y301 y304 _ _ _ (fun k_=>some k_≠(.slice Ao73 x7_1.length co73:Value).ownBlock∧some k_≠(.slice Ao82 y304.length co82:Value).ownBlock∧k_≠q1) (fun _=>False) rfl rfl ?aO ?aR (fun _ _ h=>h) (fun _ h=>h.elim) ?aF (Below.refl _ _) ?aS ?aL ?_
          (case aR=>repeat(first|exact(Kd.R_reads' HO306.out).2.2|(with_reducible refine Kd.C_alloc ?_ _)|(with_reducible refine Kd.C_drewN ?_ _)|(with_reducible refine Kd.C_drew ?_)))
          (case aF=>exact(fun k_ hk=>⟨Kd.fresh' (Kd.R_lt (by(with_reducible repeat(first|apply Kd.R_alloc|apply Kd.R_drewN|apply Kd.R_drew));exact HO_7.out)) k_ hk,Kd.fresh' (Kd.R_lt (by(with_reducible repeat(first|apply Kd.R_alloc|apply Kd.R_drewN|apply Kd.R_drew));exact HO306.out)) k_ hk,Kd.freshB (g:=q1) (o:=.cells #[.int .i64 t285,.int .i64 t288,.int .i64 (wrap64 (1+t291)),.int .i64 q2] 55 (0,0)) (by(with_reducible repeat(first|refine blk_drewN ?_ _|refine blk_drew ?_|refine blk_alloc ?_ _));exact q0.out) k_ hk⟩))
          (case aO=>exact(by(with_reducible repeat(first|apply Kd.R_alloc|apply Kd.R_drewN|apply Kd.R_drew));exact Kd.R_mono HO303.out (fun _ hk=>⟨hk.2.1,⟨hk.1,hk.2.2⟩⟩)))
          (case aS=>exact(keep_size (w:=w) (g:=g) (row:=none) (by repeat(first|(with_reducible first|exact HK.out|apply KeepBut.set_|apply keep_drewN|apply keep_drew|apply keep_alloc|refine keep_far ?_ GW294.out _)|exact HK.out))))
          (case aL=>have:=LMc29.out;omega)
          intro v308 w81 ho hb hg hat
          rw [← Ny307.out] at ho
          have n0_:=ak_ (Kd.R_after (ok:=(fun k_=>some k_≠(.slice Ao82 y304.length co82:Value).ownBlock∧k_≠q1)) (by(with_reducible repeat(first|apply Kd.R_alloc|apply Kd.R_drewN|apply Kd.R_drew));exact Kd.R_mono HO_7.out (fun _ hk=>⟨⟨hk.2.1,hk.2.2⟩,hk.1⟩)) hg hat)
          have n1_:=ak_ (blk_grown (g:=q1) (o:=.cells #[.int .i64 t285,.int .i64 t288,.int .i64 (wrap64 (1+t291)),.int .i64 q2] 55 (0,0)) (by(with_reducible repeat(first|refine blk_drewN ?_ _|refine blk_drew ?_|refine blk_alloc ?_ _));exact q0.out) hg (Kd.R_away HO303.out (fun _ hk=>hk.2.2)))
          have n2_:=ak_ (IsS94.grown (by repeat(first|(with_reducible first|exact HI0.out|apply IsS94.alloc|apply IsS94.drewN|apply IsS94.drew|apply IsS94.set_1|apply IsS94.set_2|refine IsS94.far ?_ NB0_294.out _)|exact HI0.out)) hg (IsS94.own_ne HI0.out HO303.out (by decide)))
          have n3_:=ak_ (Kd.R_after (ok:=(fun k_=>some k_≠(.slice Ao73 x7_1.length co73:Value).ownBlock∧k_≠q1)) (by(with_reducible repeat(first|apply Kd.R_alloc|apply Kd.R_drewN|apply Kd.R_drew));exact Kd.R_mono HO306.out (fun _ hk=>⟨⟨hk.2.1,hk.2.2⟩,hk.1⟩)) hg hat)
          have n4_:=ak_ (below_weaken (by repeat(first|(with_reducible first|exact HB.out|apply below_alloc|apply pw_below_drewN|apply below_drew1|refine below_set ?_ (IsS94.ge HI0.out)|refine below_set ?_ GE294.out)|exact HB.out)) HL.out hb)
          have n5_:=ak_ (KeepBut.trans (by repeat(first|(with_reducible first|exact HK.out|apply KeepBut.set_|apply keep_drewN|apply keep_drew|apply keep_alloc|refine keep_far ?_ GW294.out _)|exact HK.out)) (KeepBut.of_grown hg g) (Kd.R_base2 HO303.out))
          have n6_:=ak_ (ho)
          clear HO_7
          clear q0
          clear HI0
          clear HO306
          clear HB
          clear HK
          clear HO303
          have HO_7:=n0_
          have q0:=n1_
          have HI0:=n2_
          have HO306:=n3_
          have HB:=n4_
          have HK:=n5_
          have HO309:=n6_
          clear n0_ n1_ n2_ n3_ n4_ n5_ n6_
          clear ho hb hg hat
          obtain⟨Ao83,co83,eo83⟩:=Kd.R_slice HO309.out
          (first|subst eo83|(injection eo83 with f1_ f2_ f3_;have f4_:=f1_.symm;have f5_:=f3_.symm;clear f1_ f2_ f3_;subst f4_;subst f5_))
          refine hK.out _ _ ⟨(blk_cell q0.out 0).trans rfl,(blk_cell q0.out 1).trans rfl,(blk_cell q0.out 2).trans rfl,(blk_cell q0.out 3).trans rfl⟩ (fun hHeld=>?_)
          clear hK K
          refine norm_ (a':=?_) ?_ ?_
          rotate_left
          ·show Act.put _ (some 54) _=_
           simp only [Act.put,List.setIfInBounds_toArray,List.set_cons_zero,List.set_cons_succ,i64_w,i32_w]
           rfl
          refine one_ (i:=8) (N:=some 55) #[true,true,true,true,true,true,true,true,true,false,false,false,false,false] rfl rfl (one_of HT_.out (by kernel_rfl)) (by decide) (fun K hK=>?_)
          refine goes_ Try.func19 (by kernel_rfl) rfl #[.int .i64 (wrap64 (1+t273)),.int .i64 t276,.slice Ao83 y307.length co83] (by rfl) rfl rfl (by(try simp only [List.map_toArray,List.map_cons,List.map_nil]);first|done|rfl|(simp only [List.length_drop,List.length_take];rfl)) ?_
          with_reducible refine(spec_AreFaults.calls kj13 (wrap64 (1+t273)) t276 _ _ y307 false _ ?side1 ?side2 A30.out).mono ?_
          (case side1=>repeat(first|exact(Kd.R_reads' HO309.out).2.2|(with_reducible refine Kd.C_alloc ?_ _)|(with_reducible refine Kd.C_drewN ?_ _)|(with_reducible refine Kd.C_drew ?_)))
          (case side2=>exact(Kd.R_reads' HO309.out).2.1)
          rintro e w84 ⟨rfl,hb⟩
          refine⟨_,rfl,?_⟩
          have n0_:=ak_ (Kd.R_below (by(with_reducible repeat(first|apply Kd.R_alloc|apply Kd.R_drewN|apply Kd.R_drew));exact HO_7.out) hb)
          have n1_:=ak_ (Kd.R_below (by(with_reducible repeat(first|apply Kd.R_alloc|apply Kd.R_drewN|apply Kd.R_drew));exact HO306.out) hb)
          have n2_:=ak_ (Kd.R_below (by(with_reducible repeat(first|apply Kd.R_alloc|apply Kd.R_drewN|apply Kd.R_drew));exact HO309.out) hb)
          have n3_:=ak_ (blk_below (g:=q1) (o:=.cells #[.int .i64 t285,.int .i64 t288,.int .i64 (wrap64 (1+t291)),.int .i64 q2] 55 (0,0)) (by(with_reducible repeat(first|refine blk_drewN ?_ _|refine blk_drew ?_|refine blk_alloc ?_ _));exact q0.out) hb)
          have n4_:=ak_ (IsS94.below (by repeat(first|(with_reducible first|exact HI0.out|apply IsS94.alloc|apply IsS94.drewN|apply IsS94.drew|apply IsS94.set_1|apply IsS94.set_2|refine IsS94.far ?_ NB0_294.out _)|exact HI0.out)) hb)
          have n5_:=ak_ (KeepBut.trans (by repeat(first|(with_reducible first|exact HK.out|apply KeepBut.set_|apply keep_drewN|apply keep_drew|apply keep_alloc|refine keep_far ?_ GW294.out _)|exact HK.out)) (KeepBut.of_below hb g none) (.inl rfl))
          have n6_:=ak_ (below_step (by repeat(first|(with_reducible first|exact HB.out|apply below_alloc|apply pw_below_drewN|apply below_drew1|refine below_set ?_ (IsS94.ge HI0.out)|refine below_set ?_ GE294.out)|exact HB.out)) hb)
          clear HO_7
          clear HO306
          clear HO309
          clear q0
          clear HI0
          clear HK
          clear HB
          have HO_7:=n0_
          have HO306:=n1_
          have HO309:=n2_
          have q0:=n3_
          have HI0:=n4_
          have HK:=n5_
          have HB:=n6_
          clear n0_ n1_ n2_ n3_ n4_ n5_ n6_
          (try clear hb)
          (try clear hb2)
          (try clear hk)
          (try clear hi)
          refine hK.out _ _ ⟨(blk_cell q0.out 0).trans rfl,(blk_cell q0.out 1).trans rfl,(blk_cell q0.out 2).trans rfl,(blk_cell q0.out 3).trans rfl⟩ (fun hHeld=>?_)
          clear hK K
          refine norm_ (a':=?_) ?_ ?_
          rotate_left
          ·show Act.put _ (some 55) _=_
           simp only [Act.put,List.setIfInBounds_toArray,List.set_cons_zero,List.set_cons_succ,i64_w,i32_w]
           rfl
          refine pure_ (i:=9) (N:=some 56) (v:=?_) (a':=?_) #[true,true,true,true,true,true,true,true,true,true,false,false,false,false] rfl rfl (any_of HT_.out (by kernel_rfl)) (fun _ _ _ h=>h) (Or.inl ⟨by rfl,?_⟩) ?_ ?_
          rotate_left
          ·intro w'
           go_simp
           with_reducible rfl
          rotate_left
          ·simp only [Act.put,List.setIfInBounds_toArray,List.set_cons_zero,List.set_cons_succ,i64_w,i32_w]
           rfl
          refine pure_ (i:=10) (N:=some 57) (v:=?_) (a':=?_) #[true,true,true,true,true,true,true,true,true,true,true,false,false,false] rfl rfl (any_of HT_.out (by kernel_rfl)) (fun _ _ _ h=>h) (Or.inl ⟨by rfl,?_⟩) ?_ ?_
          rotate_left
          ·intro w'
           go_simp
           with_reducible rfl
          rotate_left
          ·simp only [Act.put,List.setIfInBounds_toArray,List.set_cons_zero,List.set_cons_succ,i64_w,i32_w]
           rfl
          refine one_ (i:=11) (N:=some 58) #[true,true,true,true,true,true,true,true,true,true,true,true,false,false] rfl rfl (one_of HT_.out (by kernel_rfl)) (by decide) (fun K hK=>?_)
          refine goes_ Try.func72 (by kernel_rfl) rfl #[.pointer (some ⟨g,0,none⟩),.int .i64 30] (by rfl) rfl rfl (by(try simp only [List.map_toArray,List.map_cons,List.map_nil]);first|done|rfl|(simp only [List.length_drop,List.length_take];rfl)) ?_
          with_reducible refine(spec_l01Next.calls g s0_0 x1001_13 x1002_13 30 t311 t312 t313 w0 _ ?side1 ?side2 A51.out).mono ?_
          (case side1=>repeat(first|(with_reducible first|exact HI0.out|apply IsS94.alloc|apply IsS94.drewN|apply IsS94.drew|apply IsS94.set_1|apply IsS94.set_2|refine IsS94.far ?_ NB0_294.out _)|exact HI0.out))
          (case side2=>repeat(first|(with_reducible first|exact HB.out|apply below_alloc|apply pw_below_drewN|apply below_drew1|refine below_set ?_ (IsS94.ge HI0.out)|refine below_set ?_ GE294.out)|exact HB.out))
          rintro e w85 ⟨rfl,hi,hb,hk⟩
          refine⟨_,rfl,?_⟩
          have n0_:=ak_ (Kd.R_mono (Kd.R_keep (IsS94.apart (show IsS94 w0 _ g s0_0 x1001_13 x1002_13 from by repeat(first|(with_reducible first|exact HI0.out|apply IsS94.alloc|apply IsS94.drewN|apply IsS94.drew|apply IsS94.set_1|apply IsS94.set_2|refine IsS94.far ?_ NB0_294.out _)|exact HI0.out)) (by(with_reducible repeat(first|apply Kd.R_alloc|apply Kd.R_drewN|apply Kd.R_drew));exact HO_7.out) (by decide)) hk (fun _ h=>h.2)) (fun _ h=>h.1))
          have n1_:=ak_ (KeepBut.blk hk (g':=q1) (o:=.cells #[.int .i64 t285,.int .i64 t288,.int .i64 (wrap64 (1+t291)),.int .i64 q2] 55 (0,0)) (by(with_reducible repeat(first|refine blk_drewN ?_ _|refine blk_drew ?_|refine blk_alloc ?_ _));exact q0.out) NB294_0.out (by simp))
          have n2_:=ak_ (Kd.R_mono (Kd.R_keep (IsS94.apart (show IsS94 w0 _ g s0_0 x1001_13 x1002_13 from by repeat(first|(with_reducible first|exact HI0.out|apply IsS94.alloc|apply IsS94.drewN|apply IsS94.drew|apply IsS94.set_1|apply IsS94.set_2|refine IsS94.far ?_ NB0_294.out _)|exact HI0.out)) (by(with_reducible repeat(first|apply Kd.R_alloc|apply Kd.R_drewN|apply Kd.R_drew));exact HO306.out) (by decide)) hk (fun _ h=>h.2)) (fun _ h=>h.1))
          have n3_:=ak_ (Kd.R_mono (Kd.R_keep (IsS94.apart (show IsS94 w0 _ g s0_0 x1001_13 x1002_13 from by repeat(first|(with_reducible first|exact HI0.out|apply IsS94.alloc|apply IsS94.drewN|apply IsS94.drew|apply IsS94.set_1|apply IsS94.set_2|refine IsS94.far ?_ NB0_294.out _)|exact HI0.out)) (by(with_reducible repeat(first|apply Kd.R_alloc|apply Kd.R_drewN|apply Kd.R_drew));exact HO309.out) (by decide)) hk (fun _ h=>h.2)) (fun _ h=>h.1))
          have n4_:=ak_ (KeepBut.trans (by repeat(first|(with_reducible first|exact HK.out|apply KeepBut.set_|apply keep_drewN|apply keep_drew|apply keep_alloc|refine keep_far ?_ GW294.out _)|exact HK.out)) hk (.inl rfl))
          have n5_:=ak_ (hb)
          have n6_:=ak_ (hi)
          clear HO_7
          clear q0
          clear HO306
          clear HO309
          clear HK
          clear HB
          clear HI0
          have HO_7:=n0_
          have q0:=n1_
          have HO306:=n2_
          have HO309:=n3_
          have HK:=n4_
          have HB:=n5_
          have HI0:=n6_
          clear n0_ n1_ n2_ n3_ n4_ n5_ n6_
          (try clear hb)
          (try clear hb2)
          (try clear hk)
          (try clear hi)
          refine hK.out _ _ ⟨(blk_cell q0.out 0).trans rfl,(blk_cell q0.out 1).trans rfl,(blk_cell q0.out 2).trans rfl,(blk_cell q0.out 3).trans rfl⟩ (fun hHeld=>?_)
          clear hK K
          refine norm_ (a':=?_) ?_ ?_
          rotate_left
          ·show Act.put _ (some 58) _=_
           simp only [Act.put,List.setIfInBounds_toArray,List.set_cons_zero,List.set_cons_succ,i64_w,i32_w]
           rfl
          refine pure_ (i:=12) (N:=some 59) (v:=?_) (a':=?_) #[true,true,true,true,true,true,true,true,true,true,true,true,true,false] rfl rfl (any_of HT_.out (by kernel_rfl)) (fun _ _ _ h=>h) (Or.inl ⟨by rfl,?_⟩) ?_ ?_
          rotate_left
          ·intro w'
           go_simp
           with_reducible rfl
          rotate_left
          ·simp only [Act.put,List.setIfInBounds_toArray,List.set_cons_zero,List.set_cons_succ,i64_w,i32_w]
           rfl
          refine pure_ (i:=13) (N:=some 60) (v:=?_) (a':=?_) #[true,true,true,true,true,true,true,true,true,true,true,true,true,true] rfl rfl (any_of HT_.out (by kernel_rfl)) (fun _ _ _ h=>h) (Or.inl ⟨by rfl,?_⟩) ?_ ?_
          rotate_left
          ·intro w'
           go_simp
           with_reducible rfl
          rotate_left
          ·simp only [Act.put,List.setIfInBounds_toArray,List.set_cons_zero,List.set_cons_succ,i64_w,i32_w]
           rfl
          refine done_ (done_of HT_.out (by kernel_rfl)) ?_
          try go_wp2
          go_roundg kj13
          case measure=>have:=HK1.out;have:=HJ13.out;omega
          case rel=>exact⟨(x7_1),(wrap64 (x8_1 - 1)),(t312),(t313),(by first|rfl|(simp;done)|(simp [*];done)),H',⟨by have:=HK1.out;have:=HJ13.out;omega⟩,⟨by(with_reducible repeat(first|apply Kd.R_alloc|apply Kd.R_drewN|apply Kd.R_drew));exact Kd.R_mono HO_7.out (fun _ hk=>trivial)⟩,⟨by repeat(first|(with_reducible first|exact HI0.out|apply IsS94.alloc|apply IsS94.drewN|apply IsS94.drew|apply IsS94.set_1|apply IsS94.set_2|refine IsS94.far ?_ NB0_294.out _)|exact HI0.out)⟩,⟨by repeat(first|(with_reducible first|exact HK.out|apply KeepBut.set_|apply keep_drewN|apply keep_drew|apply keep_alloc|refine keep_far ?_ GW294.out _)|exact HK.out)⟩,⟨by repeat(first|(with_reducible first|exact HB.out|apply below_alloc|apply pw_below_drewN|apply below_drew1|refine below_set ?_ (IsS94.ge HI0.out)|refine below_set ?_ GE294.out)|exact HB.out)⟩⟩
       ·rw [if_neg c29] at H
        exact absurd H (by simp)
      ·rw [if_neg c28] at H
       exact absurd H (by simp)
   ·rw [if_neg c10] at H
    have c10b0:decide (0<x8_1)=false:=decide_eq_false c10
    clear c10
    replace H:=Option.bind_eq_some_iff.mp H
    obtain⟨⟨t326,t327,t328⟩,A860,H⟩:=H
    replace H:(if t326=0 then ((spec_l01Pick.f s0_0 t327 t328 (([0,12,13]:List Int))).bind fun bt332=>(some (bt332.1,t276,x7_1,bt332.2.1,bt332.2.2))) else (if t326=1 then ((spec_l01Pick.f s0_0 t327 t328 (([(-1),40,41]:List Int))).bind fun bt338=>(some ((wrap64 (1+t273)),bt338.1,x7_1,bt338.2.1,bt338.2.2))) else (if t326=2 then ((spec_l01Pick.f s0_0 t327 t328 (([0,1,5]:List Int))).bind fun bt344=>((spec_l01Pick.f s0_0 bt344.2.1 bt344.2.2 (([0,1,(-1)]:List Int))).bind fun bt350=>((some (([(⟨0,0,bt344.1,bt350.1⟩:S55)]:List (S55)):List (S55))).bind fun y353=>(if x7_1.length+y353.length<4398046511104 then (some ((wrap64 (1+t273)),t276,(x7_1 ++ y353),bt350.2.1,bt350.2.2)) else (none))))) else (if t326=3 then (spec_l14Draw.l1 k1 (wrap64 (1+t273)) (([]:List (S55))) 0 s0_0 t327 t328) else (some ((wrap64 (1+t273)),t276,x7_1,t327,t328))))))=some (r1,r2,r3,r4,r5):=H
    have A86:=ak_ A860
    clear A860
    by_cases c87:t326=0
    ·rw [if_pos c87] at H
     have c87b0:(t326 == 0)=true:=beq_iff_eq.mpr c87
     have c87b1:(t326 != 0)=false:=bne_eq_false_iff_eq.mpr c87
     clear c87
     obtain⟨y329,hy329⟩:∃ y_:List Int,y_=(([0,12,13]:List Int)):=⟨_,rfl⟩
     replace H:((spec_l01Pick.f s0_0 t327 t328 y329).bind fun bt332=>(some (bt332.1,t276,x7_1,bt332.2.1,bt332.2.2)))=some (r1,r2,r3,r4,r5):=by first|(rw [hy329];with_reducible exact H)|(have H2_:=(Option.bind_some _ _).symm.trans H;rw [hy329];with_reducible exact H2_)|(have H2_:=(Option.bind_some _ _).symm.trans H;with_reducible exact H2_)|with_reducible exact H|(rw [hy329];exact H)|exact H
     have Ny329:=ak_ hy329
     clear hy329
     replace H:=Option.bind_eq_some_iff.mp H
     obtain⟨⟨t332,t333,t334⟩,A880,H⟩:=H
     replace H:(some (t332,t276,x7_1,t333,t334))=some (r1,r2,r3,r4,r5):=H
     have A88:=ak_ A880
     clear A880
     simp only [Option.some.injEq,Prod.mk.injEq] at H
     obtain⟨rfl,rfl,rfl,rfl,rfl⟩:=H
     go_wp2_with (first|((with_reducible refine gate_callee (f:=72) rfl ?_);refine goesL_ (some 66) rfl rfl Try.func72 (by kernel_rfl) rfl #[.pointer (some ⟨g,0,none⟩),.int .i64 40] rfl (by(try simp only [List.map_toArray,List.map_cons,List.map_nil]);first|done|rfl|(simp only [List.length_drop,List.length_take];rfl)) ?_;(with_reducible refine(spec_l01Next.calls g s0_0 x1001_1 x1002_1 40 t326 t327 t328 w0 _ ?side1 ?side2 A86.out).mono ?_);(case side1=>repeat(first|(with_reducible first|exact HI0.out|apply IsS94.alloc|apply IsS94.drewN|apply IsS94.drew|apply IsS94.set_1|apply IsS94.set_2)|exact HI0.out));(case side2=>repeat(first|(with_reducible first|exact HB.out|apply below_alloc|apply pw_below_drewN|apply below_drew1|refine below_set ?_ (IsS94.ge HI0.out))|exact HB.out));rintro e w89 ⟨rfl,hi,hb,hk⟩;refine⟨_,rfl,?_⟩;have n0_:=ak_ (Kd.R_mono (Kd.R_keep (IsS94.apart (show IsS94 w0 _ g s0_0 x1001_1 x1002_1 from by repeat(first|(with_reducible first|exact HI0.out|apply IsS94.alloc|apply IsS94.drewN|apply IsS94.drew|apply IsS94.set_1|apply IsS94.set_2)|exact HI0.out)) (by(with_reducible repeat(first|apply Kd.R_alloc|apply Kd.R_drewN|apply Kd.R_drew));exact HO_7.out) (by decide)) hk (fun _ h=>h.2)) (fun _ h=>h.1));have n1_:=ak_ (KeepBut.trans (by repeat(first|(with_reducible first|exact HK.out|apply KeepBut.set_|apply keep_drewN|apply keep_drew|apply keep_alloc)|exact HK.out)) hk (.inl rfl));have n2_:=ak_ (hb);have n3_:=ak_ (hi);clear HO_7;clear HK;clear HB;clear HI0;have HO_7:=n0_;have HK:=n1_;have HB:=n2_;have HI0:=n3_;clear n0_ n1_ n2_ n3_;(try clear hb);(try clear hk);(try clear hi))|((with_reducible refine gate_dst (N:=70) rfl ?_);refine Kd.R_lit (Kd.int .i64) _ 2 ?hg (N:=70) ?hd (xs:=([0,12,13]:List Int)) (inner:=[.int .i64 0,.int .i64 12,.int .i64 13]) (ok:=fun _=>True) (okp:=fun _=>True) ?hr ?hp (fun _ hk=>hk) trivial (Below.refl _ _) (Nat.le_refl _) (by simp) ?_;(case hd=>rfl);(case hg=>rfl);(case hr=>first|(go_simp;done)|(go_simp;rfl));(case hp=>exact(Reps.one (show Kd.M (Kd.int .i64) _ _ _ 0 [.int .i64 0] from rfl) (Reps.one (show Kd.M (Kd.int .i64) _ _ _ 12 [.int .i64 12] from rfl) (Reps.one (show Kd.M (Kd.int .i64) _ _ _ 13 [.int .i64 13] from rfl) (Reps.none _ _)))));intro v330 w90 ho91 hb hg_ hnew_;clear hg_ hnew_;(first|rw [← Ny329.out] at ho91|(simp only [Int.reduceToNat] at ho91;rw [← Ny329.out] at ho91));have n0_:=ak_ (Kd.R_below (by(with_reducible repeat(first|apply Kd.R_alloc|apply Kd.R_drewN|apply Kd.R_drew));exact HO_7.out) hb);have n1_:=ak_ (Kd.R_lower ho91 (keep_size (w:=w) (g:=g) (row:=none) (by repeat(first|(with_reducible first|exact HK.out|apply KeepBut.set_|apply keep_drewN|apply keep_drew|apply keep_alloc)|exact HK.out))));have n2_:=ak_ (IsS94.below (by repeat(first|(with_reducible first|exact HI0.out|apply IsS94.alloc|apply IsS94.drewN|apply IsS94.drew|apply IsS94.set_1|apply IsS94.set_2)|exact HI0.out)) hb);have n3_:=ak_ (KeepBut.trans (by repeat(first|(with_reducible first|exact HK.out|apply KeepBut.set_|apply keep_drewN|apply keep_drew|apply keep_alloc)|exact HK.out)) (KeepBut.of_below hb g none) (.inl rfl));have n4_:=ak_ (below_step (by repeat(first|(with_reducible first|exact HB.out|apply below_alloc|apply pw_below_drewN|apply below_drew1|refine below_set ?_ (IsS94.ge HI0.out))|exact HB.out)) hb);clear HO_7;clear HI0;clear HK;clear HB;have HO_7:=n0_;have HO331:=n1_;have HI0:=n2_;have HK:=n3_;have HB:=n4_;clear n0_ n1_ n2_ n3_ n4_;clear hb ho91;obtain⟨Ao92,co92,eo92⟩:=Kd.R_slice HO331.out;subst eo92)|((with_reducible refine gate_callee (f:=83) rfl ?_);refine goesL_ (some 71) rfl rfl Try.func83 (by kernel_rfl) rfl #[.pointer (some ⟨g,0,none⟩),.slice Ao92 y329.length co92] rfl (by(try simp only [List.map_toArray,List.map_cons,List.map_nil]);first|done|rfl|(simp only [List.length_drop,List.length_take];rfl)) ?_;(with_reducible refine(spec_l01Pick.calls g s0_0 t327 t328 _ _ y329 t332 t333 t334 w0 _ ?side1 ?side2 ?side3 ?side4 ?side5 A88.out).mono ?_);(case side1=>repeat(first|(with_reducible first|exact HI0.out|apply IsS94.alloc|apply IsS94.drewN|apply IsS94.drew|apply IsS94.set_1|apply IsS94.set_2)|exact HI0.out));(case side2=>repeat(first|(with_reducible first|exact HB.out|apply below_alloc|apply pw_below_drewN|apply below_drew1|refine below_set ?_ (IsS94.ge HI0.out))|exact HB.out));(case side3=>repeat(first|exact(Kd.R_reads' HO331.out).2.2|(with_reducible refine Kd.C_alloc ?_ _)|(with_reducible refine Kd.C_drewN ?_ _)|(with_reducible refine Kd.C_drew ?_)));(case side4=>exact(Kd.R_reads' HO331.out).2.1);(case side5=>exact far_slice (IsS94.own_ne HI0.out HO331.out (by decide)));rintro e w93 ⟨rfl,hi,hb,hk⟩;refine⟨_,rfl,?_⟩;have n0_:=ak_ (Kd.R_mono (Kd.R_keep (IsS94.apart (show IsS94 w0 _ g s0_0 t327 t328 from by repeat(first|(with_reducible first|exact HI0.out|apply IsS94.alloc|apply IsS94.drewN|apply IsS94.drew|apply IsS94.set_1|apply IsS94.set_2)|exact HI0.out)) (by(with_reducible repeat(first|apply Kd.R_alloc|apply Kd.R_drewN|apply Kd.R_drew));exact HO_7.out) (by decide)) hk (fun _ h=>h.2)) (fun _ h=>h.1));have n1_:=ak_ (Kd.R_mono (Kd.R_keep (IsS94.apart (show IsS94 w0 _ g s0_0 t327 t328 from by repeat(first|(with_reducible first|exact HI0.out|apply IsS94.alloc|apply IsS94.drewN|apply IsS94.drew|apply IsS94.set_1|apply IsS94.set_2)|exact HI0.out)) (by(with_reducible repeat(first|apply Kd.R_alloc|apply Kd.R_drewN|apply Kd.R_drew));exact HO331.out) (by decide)) hk (fun _ h=>h.2)) (fun _ h=>h.1));have n2_:=ak_ (KeepBut.trans (by repeat(first|(with_reducible first|exact HK.out|apply KeepBut.set_|apply keep_drewN|apply keep_drew|apply keep_alloc)|exact HK.out)) hk (.inl rfl));have n3_:=ak_ (hb);have n4_:=ak_ (hi);clear HO_7;clear HO331;clear HK;clear HB;clear HI0;have HO_7:=n0_;have HO331:=n1_;have HK:=n2_;have HB:=n3_;have HI0:=n4_;clear n0_ n1_ n2_ n3_ n4_;(try clear hb);(try clear hk);(try clear hi)))
     go_ret3
     exact⟨_,by first|rfl|(simp [errW_none,errW_some] <;> rfl)|(simp [*,errW_none,errW_some] <;> rfl),by(with_reducible repeat(first|apply Kd.R_alloc|apply Kd.R_drewN|apply Kd.R_drew));exact HO_7.out,by repeat(first|(with_reducible first|exact HI0.out|apply IsS94.alloc|apply IsS94.drewN|apply IsS94.drew|apply IsS94.set_1|apply IsS94.set_2)|exact HI0.out),by repeat(first|(with_reducible first|exact HB.out|apply below_alloc|apply pw_below_drewN|apply below_drew1|refine below_set ?_ (IsS94.ge HI0.out))|exact HB.out),by repeat(first|(with_reducible first|exact HK.out|apply KeepBut.set_|apply keep_drewN|apply keep_drew|apply keep_alloc)|exact HK.out)⟩
    ·rw [if_neg c87] at H
     have c87b0:(t326 == 0)=false:=beq_eq_false_iff_ne.mpr c87
     have c87b1:(t326 != 0)=true:=bne_iff_ne.mpr c87
     by_cases c94:t326=1
     ·rw [if_pos c94] at H
      have c94b0:(t326 == 1)=true:=beq_iff_eq.mpr c94
      have c94b1:(t326 != 1)=false:=bne_eq_false_iff_eq.mpr c94
      clear c94
      obtain⟨y335,hy335⟩:∃ y_:List Int,y_=(([(-1),40,41]:List Int)):=⟨_,rfl⟩
      replace H:((spec_l01Pick.f s0_0 t327 t328 y335).bind fun bt338=>(some ((wrap64 (1+t273)),bt338.1,x7_1,bt338.2.1,bt338.2.2)))=some (r1,r2,r3,r4,r5):=by first|(rw [hy335];with_reducible exact H)|(have H2_:=(Option.bind_some _ _).symm.trans H;rw [hy335];with_reducible exact H2_)|(have H2_:=(Option.bind_some _ _).symm.trans H;with_reducible exact H2_)|with_reducible exact H|(rw [hy335];exact H)|exact H
      have Ny335:=ak_ hy335
      clear hy335
      replace H:=Option.bind_eq_some_iff.mp H
      obtain⟨⟨t338,t339,t340⟩,A950,H⟩:=H
      replace H:(some ((wrap64 (1+t273)),t338,x7_1,t339,t340))=some (r1,r2,r3,r4,r5):=H
      have A95:=ak_ A950
      clear A950
      simp only [Option.some.injEq,Prod.mk.injEq] at H
      obtain⟨rfl,rfl,rfl,rfl,rfl⟩:=H
      go_wp2_with (first|((with_reducible refine gate_callee (f:=72) rfl ?_);refine goesL_ (some 66) rfl rfl Try.func72 (by kernel_rfl) rfl #[.pointer (some ⟨g,0,none⟩),.int .i64 40] rfl (by(try simp only [List.map_toArray,List.map_cons,List.map_nil]);first|done|rfl|(simp only [List.length_drop,List.length_take];rfl)) ?_;(with_reducible refine(spec_l01Next.calls g s0_0 x1001_1 x1002_1 40 t326 t327 t328 w0 _ ?side1 ?side2 A86.out).mono ?_);(case side1=>repeat(first|(with_reducible first|exact HI0.out|apply IsS94.alloc|apply IsS94.drewN|apply IsS94.drew|apply IsS94.set_1|apply IsS94.set_2)|exact HI0.out));(case side2=>repeat(first|(with_reducible first|exact HB.out|apply below_alloc|apply pw_below_drewN|apply below_drew1|refine below_set ?_ (IsS94.ge HI0.out))|exact HB.out));rintro e w96 ⟨rfl,hi,hb,hk⟩;refine⟨_,rfl,?_⟩;have n0_:=ak_ (Kd.R_mono (Kd.R_keep (IsS94.apart (show IsS94 w0 _ g s0_0 x1001_1 x1002_1 from by repeat(first|(with_reducible first|exact HI0.out|apply IsS94.alloc|apply IsS94.drewN|apply IsS94.drew|apply IsS94.set_1|apply IsS94.set_2)|exact HI0.out)) (by(with_reducible repeat(first|apply Kd.R_alloc|apply Kd.R_drewN|apply Kd.R_drew));exact HO_7.out) (by decide)) hk (fun _ h=>h.2)) (fun _ h=>h.1));have n1_:=ak_ (KeepBut.trans (by repeat(first|(with_reducible first|exact HK.out|apply KeepBut.set_|apply keep_drewN|apply keep_drew|apply keep_alloc)|exact HK.out)) hk (.inl rfl));have n2_:=ak_ (hb);have n3_:=ak_ (hi);clear HO_7;clear HK;clear HB;clear HI0;have HO_7:=n0_;have HK:=n1_;have HB:=n2_;have HI0:=n3_;clear n0_ n1_ n2_ n3_;(try clear hb);(try clear hk);(try clear hi))|((with_reducible refine gate_dst (N:=75) rfl ?_);refine Kd.R_lit (Kd.int .i64) _ 2 ?hg (N:=75) ?hd (xs:=([(-1),40,41]:List Int)) (inner:=[.int .i64 (-1),.int .i64 40,.int .i64 41]) (ok:=fun _=>True) (okp:=fun _=>True) ?hr ?hp (fun _ hk=>hk) trivial (Below.refl _ _) (Nat.le_refl _) (by simp) ?_;(case hd=>rfl);(case hg=>rfl);(case hr=>first|(go_simp;done)|(go_simp;rfl));(case hp=>exact(Reps.one (show Kd.M (Kd.int .i64) _ _ _ (-1) [.int .i64 (-1)] from rfl) (Reps.one (show Kd.M (Kd.int .i64) _ _ _ 40 [.int .i64 40] from rfl) (Reps.one (show Kd.M (Kd.int .i64) _ _ _ 41 [.int .i64 41] from rfl) (Reps.none _ _)))));intro v336 w97 ho98 hb hg_ hnew_;clear hg_ hnew_;(first|rw [← Ny335.out] at ho98|(simp only [Int.reduceToNat] at ho98;rw [← Ny335.out] at ho98));have n0_:=ak_ (Kd.R_below (by(with_reducible repeat(first|apply Kd.R_alloc|apply Kd.R_drewN|apply Kd.R_drew));exact HO_7.out) hb);have n1_:=ak_ (Kd.R_lower ho98 (keep_size (w:=w) (g:=g) (row:=none) (by repeat(first|(with_reducible first|exact HK.out|apply KeepBut.set_|apply keep_drewN|apply keep_drew|apply keep_alloc)|exact HK.out))));have n2_:=ak_ (IsS94.below (by repeat(first|(with_reducible first|exact HI0.out|apply IsS94.alloc|apply IsS94.drewN|apply IsS94.drew|apply IsS94.set_1|apply IsS94.set_2)|exact HI0.out)) hb);have n3_:=ak_ (KeepBut.trans (by repeat(first|(with_reducible first|exact HK.out|apply KeepBut.set_|apply keep_drewN|apply keep_drew|apply keep_alloc)|exact HK.out)) (KeepBut.of_below hb g none) (.inl rfl));have n4_:=ak_ (below_step (by repeat(first|(with_reducible first|exact HB.out|apply below_alloc|apply pw_below_drewN|apply below_drew1|refine below_set ?_ (IsS94.ge HI0.out))|exact HB.out)) hb);clear HO_7;clear HI0;clear HK;clear HB;have HO_7:=n0_;have HO337:=n1_;have HI0:=n2_;have HK:=n3_;have HB:=n4_;clear n0_ n1_ n2_ n3_ n4_;clear hb ho98;obtain⟨Ao99,co99,eo99⟩:=Kd.R_slice HO337.out;subst eo99)|((with_reducible refine gate_callee (f:=83) rfl ?_);refine goesL_ (some 76) rfl rfl Try.func83 (by kernel_rfl) rfl #[.pointer (some ⟨g,0,none⟩),.slice Ao99 y335.length co99] rfl (by(try simp only [List.map_toArray,List.map_cons,List.map_nil]);first|done|rfl|(simp only [List.length_drop,List.length_take];rfl)) ?_;(with_reducible refine(spec_l01Pick.calls g s0_0 t327 t328 _ _ y335 t338 t339 t340 w0 _ ?side1 ?side2 ?side3 ?side4 ?side5 A95.out).mono ?_);(case side1=>repeat(first|(with_reducible first|exact HI0.out|apply IsS94.alloc|apply IsS94.drewN|apply IsS94.drew|apply IsS94.set_1|apply IsS94.set_2)|exact HI0.out));(case side2=>repeat(first|(with_reducible first|exact HB.out|apply below_alloc|apply pw_below_drewN|apply below_drew1|refine below_set ?_ (IsS94.ge HI0.out))|exact HB.out));(case side3=>repeat(first|exact(Kd.R_reads' HO337.out).2.2|(with_reducible refine Kd.C_alloc ?_ _)|(with_reducible refine Kd.C_drewN ?_ _)|(with_reducible refine Kd.C_drew ?_)));(case side4=>exact(Kd.R_reads' HO337.out).2.1);(case side5=>exact far_slice (IsS94.own_ne HI0.out HO337.out (by decide)));rintro e w100 ⟨rfl,hi,hb,hk⟩;refine⟨_,rfl,?_⟩;have n0_:=ak_ (Kd.R_mono (Kd.R_keep (IsS94.apart (show IsS94 w0 _ g s0_0 t327 t328 from by repeat(first|(with_reducible first|exact HI0.out|apply IsS94.alloc|apply IsS94.drewN|apply IsS94.drew|apply IsS94.set_1|apply IsS94.set_2)|exact HI0.out)) (by(with_reducible repeat(first|apply Kd.R_alloc|apply Kd.R_drewN|apply Kd.R_drew));exact HO_7.out) (by decide)) hk (fun _ h=>h.2)) (fun _ h=>h.1));have n1_:=ak_ (Kd.R_mono (Kd.R_keep (IsS94.apart (show IsS94 w0 _ g s0_0 t327 t328 from by repeat(first|(with_reducible first|exact HI0.out|apply IsS94.alloc|apply IsS94.drewN|apply IsS94.drew|apply IsS94.set_1|apply IsS94.set_2)|exact HI0.out)) (by(with_reducible repeat(first|apply Kd.R_alloc|apply Kd.R_drewN|apply Kd.R_drew));exact HO337.out) (by decide)) hk (fun _ h=>h.2)) (fun _ h=>h.1));have n2_:=ak_ (KeepBut.trans (by repeat(first|(with_reducible first|exact HK.out|apply KeepBut.set_|apply keep_drewN|apply keep_drew|apply keep_alloc)|exact HK.out)) hk (.inl rfl));have n3_:=ak_ (hb);have n4_:=ak_ (hi);clear HO_7;clear HO337;clear HK;clear HB;clear HI0;have HO_7:=n0_;have HO337:=n1_;have HK:=n2_;have HB:=n3_;have HI0:=n4_;clear n0_ n1_ n2_ n3_ n4_;(try clear hb);(try clear hk);(try clear hi)))
      go_ret3
      exact⟨_,by first|rfl|(simp [errW_none,errW_some] <;> rfl)|(simp [*,errW_none,errW_some] <;> rfl),by(with_reducible repeat(first|apply Kd.R_alloc|apply Kd.R_drewN|apply Kd.R_drew));exact HO_7.out,by repeat(first|(with_reducible first|exact HI0.out|apply IsS94.alloc|apply IsS94.drewN|apply IsS94.drew|apply IsS94.set_1|apply IsS94.set_2)|exact HI0.out),by repeat(first|(with_reducible first|exact HB.out|apply below_alloc|apply pw_below_drewN|apply below_drew1|refine below_set ?_ (IsS94.ge HI0.out))|exact HB.out),by repeat(first|(with_reducible first|exact HK.out|apply KeepBut.set_|apply keep_drewN|apply keep_drew|apply keep_alloc)|exact HK.out)⟩
     ·rw [if_neg c94] at H
      have c94b0:(t326 == 1)=false:=beq_eq_false_iff_ne.mpr c94
      have c94b1:(t326 != 1)=true:=bne_iff_ne.mpr c94
      by_cases c101:t326=2
      ·rw [if_pos c101] at H
       have c101b0:(t326 == 2)=true:=beq_iff_eq.mpr c101
       have c101b1:(t326 != 2)=false:=bne_eq_false_iff_eq.mpr c101
       clear c101
       obtain⟨y341,hy341⟩:∃ y_:List Int,y_=(([0,1,5]:List Int)):=⟨_,rfl⟩
       replace H:((spec_l01Pick.f s0_0 t327 t328 y341).bind fun bt344=>((spec_l01Pick.f s0_0 bt344.2.1 bt344.2.2 (([0,1,(-1)]:List Int))).bind fun bt350=>((some (([(⟨0,0,bt344.1,bt350.1⟩:S55)]:List (S55)):List (S55))).bind fun y353=>(if x7_1.length+y353.length<4398046511104 then (some ((wrap64 (1+t273)),t276,(x7_1 ++ y353),bt350.2.1,bt350.2.2)) else (none)))))=some (r1,r2,r3,r4,r5):=by first|(rw [hy341];with_reducible exact H)|(have H2_:=(Option.bind_some _ _).symm.trans H;rw [hy341];with_reducible exact H2_)|(have H2_:=(Option.bind_some _ _).symm.trans H;with_reducible exact H2_)|with_reducible exact H|(rw [hy341];exact H)|exact H
       have Ny341:=ak_ hy341
       clear hy341
       replace H:=Option.bind_eq_some_iff.mp H
       obtain⟨⟨t344,t345,t346⟩,A1020,H⟩:=H
       replace H:((spec_l01Pick.f s0_0 t345 t346 (([0,1,(-1)]:List Int))).bind fun bt350=>((some (([(⟨0,0,t344,bt350.1⟩:S55)]:List (S55)):List (S55))).bind fun y353=>(if x7_1.length+y353.length<4398046511104 then (some ((wrap64 (1+t273)),t276,(x7_1 ++ y353),bt350.2.1,bt350.2.2)) else (none))))=some (r1,r2,r3,r4,r5):=H
       have A102:=ak_ A1020
       clear A1020
       obtain⟨y347,hy347⟩:∃ y_:List Int,y_=(([0,1,(-1)]:List Int)):=⟨_,rfl⟩
       replace H:((spec_l01Pick.f s0_0 t345 t346 y347).bind fun bt350=>((some (([(⟨0,0,t344,bt350.1⟩:S55)]:List (S55)):List (S55))).bind fun y353=>(if x7_1.length+y353.length<4398046511104 then (some ((wrap64 (1+t273)),t276,(x7_1 ++ y353),bt350.2.1,bt350.2.2)) else (none))))=some (r1,r2,r3,r4,r5):=by first|(rw [hy347];with_reducible exact H)|(have H2_:=(Option.bind_some _ _).symm.trans H;rw [hy347];with_reducible exact H2_)|(have H2_:=(Option.bind_some _ _).symm.trans H;with_reducible exact H2_)|with_reducible exact H|(rw [hy347];exact H)|exact H
       have Ny347:=ak_ hy347
       clear hy347
       replace H:=Option.bind_eq_some_iff.mp H
       obtain⟨⟨t350,t351,t352⟩,A1030,H⟩:=H
       replace H:((some (([(⟨0,0,t344,t350⟩:S55)]:List (S55)):List (S55))).bind fun y353=>(if x7_1.length+y353.length<4398046511104 then (some ((wrap64 (1+t273)),t276,(x7_1 ++ y353),t351,t352)) else (none)))=some (r1,r2,r3,r4,r5):=H
       have A103:=ak_ A1030
       clear A1030
       obtain⟨y353,hy353⟩:∃ y_:List (S55),y_=(([(⟨0,0,t344,t350⟩:S55)]:List (S55))):=⟨_,rfl⟩
       replace H:(if x7_1.length+y353.length<4398046511104 then (some ((wrap64 (1+t273)),t276,(x7_1 ++ y353),t351,t352)) else (none))=some (r1,r2,r3,r4,r5):=by first|(rw [hy353];with_reducible exact H)|(have H2_:=(Option.bind_some _ _).symm.trans H;rw [hy353];with_reducible exact H2_)|(have H2_:=(Option.bind_some _ _).symm.trans H;with_reducible exact H2_)|with_reducible exact H|(rw [hy353];exact H)|exact H
       have Ny353:=ak_ hy353
       clear hy353
       by_cases c104:x7_1.length+y353.length<4398046511104
       ·rw [if_pos c104] at H
        have LMc104:=ak_ c104
        clear c104
        obtain⟨y356,hy356⟩:∃ y_:List (S55),y_=(x7_1 ++ y353):=⟨_,rfl⟩
        replace H:(some ((wrap64 (1+t273)),t276,y356,t351,t352))=some (r1,r2,r3,r4,r5):=by first|(rw [hy356];with_reducible exact H)|(have H2_:=(Option.bind_some _ _).symm.trans H;rw [hy356];with_reducible exact H2_)|(have H2_:=(Option.bind_some _ _).symm.trans H;with_reducible exact H2_)|with_reducible exact H|(rw [hy356];exact H)|exact H
        have Ny356:=ak_ hy356
        clear hy356
        simp only [Option.some.injEq,Prod.mk.injEq] at H
        obtain⟨rfl,rfl,rfl,rfl,rfl⟩:=H
        go_wp2_with (first|((with_reducible refine gate_callee (f:=72) rfl ?_);refine goesL_ (some 66) rfl rfl Try.func72 (by kernel_rfl) rfl #[.pointer (some ⟨g,0,none⟩),.int .i64 40] rfl (by(try simp only [List.map_toArray,List.map_cons,List.map_nil]);first|done|rfl|(simp only [List.length_drop,List.length_take];rfl)) ?_;(with_reducible refine(spec_l01Next.calls g s0_0 x1001_1 x1002_1 40 t326 t327 t328 w0 _ ?side1 ?side2 A86.out).mono ?_);(case side1=>repeat(first|(with_reducible first|exact HI0.out|apply IsS94.alloc|apply IsS94.drewN|apply IsS94.drew|apply IsS94.set_1|apply IsS94.set_2)|exact HI0.out));(case side2=>repeat(first|(with_reducible first|exact HB.out|apply below_alloc|apply pw_below_drewN|apply below_drew1|refine below_set ?_ (IsS94.ge HI0.out))|exact HB.out));rintro e w105 ⟨rfl,hi,hb,hk⟩;refine⟨_,rfl,?_⟩;have n0_:=ak_ (Kd.R_mono (Kd.R_keep (IsS94.apart (show IsS94 w0 _ g s0_0 x1001_1 x1002_1 from by repeat(first|(with_reducible first|exact HI0.out|apply IsS94.alloc|apply IsS94.drewN|apply IsS94.drew|apply IsS94.set_1|apply IsS94.set_2)|exact HI0.out)) (by(with_reducible repeat(first|apply Kd.R_alloc|apply Kd.R_drewN|apply Kd.R_drew));exact HO_7.out) (by decide)) hk (fun _ h=>h.2)) (fun _ h=>h.1));have n1_:=ak_ (KeepBut.trans (by repeat(first|(with_reducible first|exact HK.out|apply KeepBut.set_|apply keep_drewN|apply keep_drew|apply keep_alloc)|exact HK.out)) hk (.inl rfl));have n2_:=ak_ (hb);have n3_:=ak_ (hi);clear HO_7;clear HK;clear HB;clear HI0;have HO_7:=n0_;have HK:=n1_;have HB:=n2_;have HI0:=n3_;clear n0_ n1_ n2_ n3_;(try clear hb);(try clear hk);(try clear hi))|((with_reducible refine gate_dst (N:=81) rfl ?_);refine Kd.R_lit (Kd.int .i64) _ 2 ?hg (N:=81) ?hd (xs:=([0,1,5]:List Int)) (inner:=[.int .i64 0,.int .i64 1,.int .i64 5]) (ok:=fun _=>True) (okp:=fun _=>True) ?hr ?hp (fun _ hk=>hk) trivial (Below.refl _ _) (Nat.le_refl _) (by simp) ?_;(case hd=>rfl);(case hg=>rfl);(case hr=>first|(go_simp;done)|(go_simp;rfl));(case hp=>exact(Reps.one (show Kd.M (Kd.int .i64) _ _ _ 0 [.int .i64 0] from rfl) (Reps.one (show Kd.M (Kd.int .i64) _ _ _ 1 [.int .i64 1] from rfl) (Reps.one (show Kd.M (Kd.int .i64) _ _ _ 5 [.int .i64 5] from rfl) (Reps.none _ _)))));intro v342 w106 ho107 hb hg_ hnew_;clear hg_ hnew_;(first|rw [← Ny341.out] at ho107|(simp only [Int.reduceToNat] at ho107;rw [← Ny341.out] at ho107));have n0_:=ak_ (Kd.R_below (by(with_reducible repeat(first|apply Kd.R_alloc|apply Kd.R_drewN|apply Kd.R_drew));exact HO_7.out) hb);have n1_:=ak_ (Kd.R_lower ho107 (keep_size (w:=w) (g:=g) (row:=none) (by repeat(first|(with_reducible first|exact HK.out|apply KeepBut.set_|apply keep_drewN|apply keep_drew|apply keep_alloc)|exact HK.out))));have n2_:=ak_ (IsS94.below (by repeat(first|(with_reducible first|exact HI0.out|apply IsS94.alloc|apply IsS94.drewN|apply IsS94.drew|apply IsS94.set_1|apply IsS94.set_2)|exact HI0.out)) hb);have n3_:=ak_ (KeepBut.trans (by repeat(first|(with_reducible first|exact HK.out|apply KeepBut.set_|apply keep_drewN|apply keep_drew|apply keep_alloc)|exact HK.out)) (KeepBut.of_below hb g none) (.inl rfl));have n4_:=ak_ (below_step (by repeat(first|(with_reducible first|exact HB.out|apply below_alloc|apply pw_below_drewN|apply below_drew1|refine below_set ?_ (IsS94.ge HI0.out))|exact HB.out)) hb);clear HO_7;clear HI0;clear HK;clear HB;have HO_7:=n0_;have HO343:=n1_;have HI0:=n2_;have HK:=n3_;have HB:=n4_;clear n0_ n1_ n2_ n3_ n4_;clear hb ho107;obtain⟨Ao108,co108,eo108⟩:=Kd.R_slice HO343.out;subst eo108)|((with_reducible refine gate_callee (f:=83) rfl ?_);refine goesL_ (some 82) rfl rfl Try.func83 (by kernel_rfl) rfl #[.pointer (some ⟨g,0,none⟩),.slice Ao108 y341.length co108] rfl (by(try simp only [List.map_toArray,List.map_cons,List.map_nil]);first|done|rfl|(simp only [List.length_drop,List.length_take];rfl)) ?_;(with_reducible refine(spec_l01Pick.calls g s0_0 t327 t328 _ _ y341 t344 t345 t346 w0 _ ?side1 ?side2 ?side3 ?side4 ?side5 A102.out).mono ?_);(case side1=>repeat(first|(with_reducible first|exact HI0.out|apply IsS94.alloc|apply IsS94.drewN|apply IsS94.drew|apply IsS94.set_1|apply IsS94.set_2)|exact HI0.out));(case side2=>repeat(first|(with_reducible first|exact HB.out|apply below_alloc|apply pw_below_drewN|apply below_drew1|refine below_set ?_ (IsS94.ge HI0.out))|exact HB.out));(case side3=>repeat(first|exact(Kd.R_reads' HO343.out).2.2|(with_reducible refine Kd.C_alloc ?_ _)|(with_reducible refine Kd.C_drewN ?_ _)|(with_reducible refine Kd.C_drew ?_)));(case side4=>exact(Kd.R_reads' HO343.out).2.1);(case side5=>exact far_slice (IsS94.own_ne HI0.out HO343.out (by decide)));rintro e w109 ⟨rfl,hi,hb,hk⟩;refine⟨_,rfl,?_⟩;have n0_:=ak_ (Kd.R_mono (Kd.R_keep (IsS94.apart (show IsS94 w0 _ g s0_0 t327 t328 from by repeat(first|(with_reducible first|exact HI0.out|apply IsS94.alloc|apply IsS94.drewN|apply IsS94.drew|apply IsS94.set_1|apply IsS94.set_2)|exact HI0.out)) (by(with_reducible repeat(first|apply Kd.R_alloc|apply Kd.R_drewN|apply Kd.R_drew));exact HO_7.out) (by decide)) hk (fun _ h=>h.2)) (fun _ h=>h.1));have n1_:=ak_ (Kd.R_mono (Kd.R_keep (IsS94.apart (show IsS94 w0 _ g s0_0 t327 t328 from by repeat(first|(with_reducible first|exact HI0.out|apply IsS94.alloc|apply IsS94.drewN|apply IsS94.drew|apply IsS94.set_1|apply IsS94.set_2)|exact HI0.out)) (by(with_reducible repeat(first|apply Kd.R_alloc|apply Kd.R_drewN|apply Kd.R_drew));exact HO343.out) (by decide)) hk (fun _ h=>h.2)) (fun _ h=>h.1));have n2_:=ak_ (KeepBut.trans (by repeat(first|(with_reducible first|exact HK.out|apply KeepBut.set_|apply keep_drewN|apply keep_drew|apply keep_alloc)|exact HK.out)) hk (.inl rfl));have n3_:=ak_ (hb);have n4_:=ak_ (hi);clear HO_7;clear HO343;clear HK;clear HB;clear HI0;have HO_7:=n0_;have HO343:=n1_;have HK:=n2_;have HB:=n3_;have HI0:=n4_;clear n0_ n1_ n2_ n3_ n4_;(try clear hb);(try clear hk);(try clear hi))|((with_reducible refine gate_dst (N:=84) rfl ?_);refine Kd.R_lit (Kd.int .i64) _ 2 ?hg (N:=84) ?hd (xs:=([0,1,(-1)]:List Int)) (inner:=[.int .i64 0,.int .i64 1,.int .i64 (-1)]) (ok:=fun _=>True) (okp:=fun _=>True) ?hr ?hp (fun _ hk=>hk) trivial (Below.refl _ _) (Nat.le_refl _) (by simp) ?_;(case hd=>rfl);(case hg=>rfl);(case hr=>first|(go_simp;done)|(go_simp;rfl));(case hp=>exact(Reps.one (show Kd.M (Kd.int .i64) _ _ _ 0 [.int .i64 0] from rfl) (Reps.one (show Kd.M (Kd.int .i64) _ _ _ 1 [.int .i64 1] from rfl) (Reps.one (show Kd.M (Kd.int .i64) _ _ _ (-1) [.int .i64 (-1)] from rfl) (Reps.none _ _)))));intro v348 w110 ho111 hb hg_ hnew_;clear hg_ hnew_;(first|rw [← Ny347.out] at ho111|(simp only [Int.reduceToNat] at ho111;rw [← Ny347.out] at ho111));have n0_:=ak_ (Kd.R_below (by(with_reducible repeat(first|apply Kd.R_alloc|apply Kd.R_drewN|apply Kd.R_drew));exact HO_7.out) hb);have n1_:=ak_ (Kd.R_elder' (by(with_reducible repeat(first|apply Kd.R_alloc|apply Kd.R_drewN|apply Kd.R_drew));exact HO343.out) (Kd.R_base ho111) hb);have n2_:=ak_ (Kd.R_lower (Kd.R_new' ho111 (Kd.R_lt (by(with_reducible repeat(first|apply Kd.R_alloc|apply Kd.R_drewN|apply Kd.R_drew));exact HO343.out))) (keep_size (w:=w) (g:=g) (row:=none) (by repeat(first|(with_reducible first|exact HK.out|apply KeepBut.set_|apply keep_drewN|apply keep_drew|apply keep_alloc)|exact HK.out))));have n3_:=ak_ (IsS94.below (by repeat(first|(with_reducible first|exact HI0.out|apply IsS94.alloc|apply IsS94.drewN|apply IsS94.drew|apply IsS94.set_1|apply IsS94.set_2)|exact HI0.out)) hb);have n4_:=ak_ (KeepBut.trans (by repeat(first|(with_reducible first|exact HK.out|apply KeepBut.set_|apply keep_drewN|apply keep_drew|apply keep_alloc)|exact HK.out)) (KeepBut.of_below hb g none) (.inl rfl));have n5_:=ak_ (below_step (by repeat(first|(with_reducible first|exact HB.out|apply below_alloc|apply pw_below_drewN|apply below_drew1|refine below_set ?_ (IsS94.ge HI0.out))|exact HB.out)) hb);clear HO_7;clear HO343;clear HI0;clear HK;clear HB;have HO_7:=n0_;have HO343:=n1_;have HO349:=n2_;have HI0:=n3_;have HK:=n4_;have HB:=n5_;clear n0_ n1_ n2_ n3_ n4_ n5_;clear hb ho111;obtain⟨Ao112,co112,eo112⟩:=Kd.R_slice HO349.out;subst eo112)|((with_reducible refine gate_callee (f:=83) rfl ?_);refine goesL_ (some 85) rfl rfl Try.func83 (by kernel_rfl) rfl #[.pointer (some ⟨g,0,none⟩),.slice Ao112 y347.length co112] rfl (by(try simp only [List.map_toArray,List.map_cons,List.map_nil]);first|done|rfl|(simp only [List.length_drop,List.length_take];rfl)) ?_;(with_reducible refine(spec_l01Pick.calls g s0_0 t345 t346 _ _ y347 t350 t351 t352 w0 _ ?side1 ?side2 ?side3 ?side4 ?side5 A103.out).mono ?_);(case side1=>repeat(first|(with_reducible first|exact HI0.out|apply IsS94.alloc|apply IsS94.drewN|apply IsS94.drew|apply IsS94.set_1|apply IsS94.set_2)|exact HI0.out));(case side2=>repeat(first|(with_reducible first|exact HB.out|apply below_alloc|apply pw_below_drewN|apply below_drew1|refine below_set ?_ (IsS94.ge HI0.out))|exact HB.out));(case side3=>repeat(first|exact(Kd.R_reads' HO349.out).2.2|(with_reducible refine Kd.C_alloc ?_ _)|(with_reducible refine Kd.C_drewN ?_ _)|(with_reducible refine Kd.C_drew ?_)));(case side4=>exact(Kd.R_reads' HO349.out).2.1);(case side5=>exact far_slice (IsS94.own_ne HI0.out HO349.out (by decide)));rintro e w113 ⟨rfl,hi,hb,hk⟩;refine⟨_,rfl,?_⟩;have n0_:=ak_ (Kd.R_mono (Kd.R_keep (IsS94.apart (show IsS94 w0 _ g s0_0 t345 t346 from by repeat(first|(with_reducible first|exact HI0.out|apply IsS94.alloc|apply IsS94.drewN|apply IsS94.drew|apply IsS94.set_1|apply IsS94.set_2)|exact HI0.out)) (by(with_reducible repeat(first|apply Kd.R_alloc|apply Kd.R_drewN|apply Kd.R_drew));exact HO_7.out) (by decide)) hk (fun _ h=>h.2)) (fun _ h=>h.1));have n1_:=ak_ (Kd.R_mono (Kd.R_keep (IsS94.apart (show IsS94 w0 _ g s0_0 t345 t346 from by repeat(first|(with_reducible first|exact HI0.out|apply IsS94.alloc|apply IsS94.drewN|apply IsS94.drew|apply IsS94.set_1|apply IsS94.set_2)|exact HI0.out)) (by(with_reducible repeat(first|apply Kd.R_alloc|apply Kd.R_drewN|apply Kd.R_drew));exact HO343.out) (by decide)) hk (fun _ h=>h.2)) (fun _ h=>h.1));have n2_:=ak_ (Kd.R_mono (Kd.R_keep (IsS94.apart (show IsS94 w0 _ g s0_0 t345 t346 from by repeat(first|(with_reducible first|exact HI0.out|apply IsS94.alloc|apply IsS94.drewN|apply IsS94.drew|apply IsS94.set_1|apply IsS94.set_2)|exact HI0.out)) (by(with_reducible repeat(first|apply Kd.R_alloc|apply Kd.R_drewN|apply Kd.R_drew));exact HO349.out) (by decide)) hk (fun _ h=>h.2)) (fun _ h=>h.1));have n3_:=ak_ (KeepBut.trans (by repeat(first|(with_reducible first|exact HK.out|apply KeepBut.set_|apply keep_drewN|apply keep_drew|apply keep_alloc)|exact HK.out)) hk (.inl rfl));have n4_:=ak_ (hb);have n5_:=ak_ (hi);clear HO_7;clear HO343;clear HO349;clear HK;clear HB;clear HI0;have HO_7:=n0_;have HO343:=n1_;have HO349:=n2_;have HK:=n3_;have HB:=n4_;have HI0:=n5_;clear n0_ n1_ n2_ n3_ n4_ n5_;(try clear hb);(try clear hk);(try clear hi))|((with_reducible refine gate_dst (N:=87) rfl ?_);refine Kd.R_lit k55 _ 55 ?hg (N:=87) ?hd (xs:=([(⟨0,0,t344,t350⟩:S55)]:List (S55))) (inner:=[.int .i64 0,.int .i64 0,.int .i64 t344,.int .i64 t350]) (ok:=fun _=>True) (okp:=fun _=>True) ?hr ?hp (fun _ hk=>hk) trivial (Below.refl _ _) (Nat.le_refl _) (by simp) ?_;(case hd=>rfl);(case hg=>rfl);(case hr=>first|(go_simp;done)|(go_simp;rfl));(case hp=>exact(Reps.c4 (show Kd.M k55 _ _ _ (⟨0,0,t344,t350⟩:S55) [.int .i64 0,.int .i64 0,.int .i64 t344,.int .i64 t350] from(k55_mkM _ _ _ (⟨0,0,t344,t350⟩:S55) )) (Reps.none _ _)));intro v354 w114 ho115 hb hg_ hnew_;clear hg_ hnew_;(first|rw [← Ny353.out] at ho115|(simp only [Int.reduceToNat] at ho115;rw [← Ny353.out] at ho115));have n0_:=ak_ (Kd.R_elder' (by(with_reducible repeat(first|apply Kd.R_alloc|apply Kd.R_drewN|apply Kd.R_drew));exact HO_7.out) (Kd.R_base ho115) hb);have n1_:=ak_ (Kd.R_below (by(with_reducible repeat(first|apply Kd.R_alloc|apply Kd.R_drewN|apply Kd.R_drew));exact HO343.out) hb);have n2_:=ak_ (Kd.R_below (by(with_reducible repeat(first|apply Kd.R_alloc|apply Kd.R_drewN|apply Kd.R_drew));exact HO349.out) hb);have n3_:=ak_ (Kd.R_lower (Kd.R_new' ho115 (Kd.R_lt (by(with_reducible repeat(first|apply Kd.R_alloc|apply Kd.R_drewN|apply Kd.R_drew));exact HO_7.out))) (keep_size (w:=w) (g:=g) (row:=none) (by repeat(first|(with_reducible first|exact HK.out|apply KeepBut.set_|apply keep_drewN|apply keep_drew|apply keep_alloc)|exact HK.out))));have n4_:=ak_ (IsS94.below (by repeat(first|(with_reducible first|exact HI0.out|apply IsS94.alloc|apply IsS94.drewN|apply IsS94.drew|apply IsS94.set_1|apply IsS94.set_2)|exact HI0.out)) hb);have n5_:=ak_ (KeepBut.trans (by repeat(first|(with_reducible first|exact HK.out|apply KeepBut.set_|apply keep_drewN|apply keep_drew|apply keep_alloc)|exact HK.out)) (KeepBut.of_below hb g none) (.inl rfl));have n6_:=ak_ (below_step (by repeat(first|(with_reducible first|exact HB.out|apply below_alloc|apply pw_below_drewN|apply below_drew1|refine below_set ?_ (IsS94.ge HI0.out))|exact HB.out)) hb);clear HO_7;clear HO343;clear HO349;clear HI0;clear HK;clear HB;have HO_7:=n0_;have HO343:=n1_;have HO349:=n2_;have HO355:=n3_;have HI0:=n4_;have HK:=n5_;have HB:=n6_;clear n0_ n1_ n2_ n3_ n4_ n5_ n6_;clear hb ho115;obtain⟨Ao117,co117,eo117⟩:=Kd.R_slice HO355.out;subst eo117)|((with_reducible refine gate_builtin (b:=.append) (xs:=#[.tmp 79,.tmp 87]) rfl ?_);at_builtin;refine Kd.R_append_rows k55 w.heap.size rfl (.tmp 79) (.tmp 87) 31 55 (.agg #[(.int .i64 0),(.int .i64 0),(.int .i64 0),(.int .i64 0)]) 32 rfl Try.underlying31 info55 rfl (by decide) (by omega) u7 x7_1 y353 _ _ _ (fun k_=>some k_≠(.slice Ao117 y353.length co117:Value).ownBlock) (fun _=>False) rfl rfl ?aO ?aR (fun _ _ h=>h) (fun _ h=>h.elim) ?aF (Below.refl _ _) ?aS ?aL ?_;(case aR=>repeat(first|exact(Kd.R_reads' HO355.out).2.2|(with_reducible refine Kd.C_alloc ?_ _)|(with_reducible refine Kd.C_drewN ?_ _)|(with_reducible refine Kd.C_drew ?_)));(case aF=>exact(fun k_ hk=>Kd.fresh' (Kd.R_lt (by(with_reducible repeat(first|apply Kd.R_alloc|apply Kd.R_drewN|apply Kd.R_drew));exact HO355.out)) k_ hk));(case aO=>exact(by(with_reducible repeat(first|apply Kd.R_alloc|apply Kd.R_drewN|apply Kd.R_drew));exact Kd.R_mono HO_7.out (fun _ hk=>hk.2)));(case aS=>exact(keep_size (w:=w) (g:=g) (row:=none) (by repeat(first|(with_reducible first|exact HK.out|apply KeepBut.set_|apply keep_drewN|apply keep_drew|apply keep_alloc)|exact HK.out))));(case aL=>have:=LMc104.out;omega);intro v357 w116 ho hb hg hat;rw [← Ny356.out] at ho;have n0_:=ak_ (IsS94.grown (by repeat(first|(with_reducible first|exact HI0.out|apply IsS94.alloc|apply IsS94.drewN|apply IsS94.drew|apply IsS94.set_1|apply IsS94.set_2)|exact HI0.out)) hg (IsS94.own_ne HI0.out HO_7.out (by decide)));have n1_:=ak_ (Kd.R_over' (by(with_reducible repeat(first|apply Kd.R_alloc|apply Kd.R_drewN|apply Kd.R_drew));exact HO343.out) (Kd.R_typed (by(with_reducible repeat(first|apply Kd.R_alloc|apply Kd.R_drewN|apply Kd.R_drew));exact HO_7.out)) (by decide) hg);have n2_:=ak_ (Kd.R_over' (by(with_reducible repeat(first|apply Kd.R_alloc|apply Kd.R_drewN|apply Kd.R_drew));exact HO349.out) (Kd.R_typed (by(with_reducible repeat(first|apply Kd.R_alloc|apply Kd.R_drewN|apply Kd.R_drew));exact HO_7.out)) (by decide) hg);have n3_:=ak_ (Kd.R_after (ok:=(fun _=>True)) (by(with_reducible repeat(first|apply Kd.R_alloc|apply Kd.R_drewN|apply Kd.R_drew));exact HO355.out) hg hat);have n4_:=ak_ (below_weaken (by repeat(first|(with_reducible first|exact HB.out|apply below_alloc|apply pw_below_drewN|apply below_drew1|refine below_set ?_ (IsS94.ge HI0.out))|exact HB.out)) HL.out hb);have n5_:=ak_ (KeepBut.trans (by repeat(first|(with_reducible first|exact HK.out|apply KeepBut.set_|apply keep_drewN|apply keep_drew|apply keep_alloc)|exact HK.out)) (KeepBut.of_grown hg g) (Kd.R_base2 HO_7.out));have n6_:=ak_ (ho);clear HI0;clear HO343;clear HO349;clear HO355;clear HB;clear HK;clear HO_7;have HI0:=n0_;have HO343:=n1_;have HO349:=n2_;have HO355:=n3_;have HB:=n4_;have HK:=n5_;have HO358:=n6_;clear n0_ n1_ n2_ n3_ n4_ n5_ n6_;clear ho hb hg hat))
        go_ret3
        exact⟨_,by first|rfl|(simp [errW_none,errW_some] <;> rfl)|(simp [*,errW_none,errW_some] <;> rfl),by(with_reducible repeat(first|apply Kd.R_alloc|apply Kd.R_drewN|apply Kd.R_drew));exact Kd.R_mono HO358.out (fun _ hk=>trivial),by repeat(first|(with_reducible first|exact HI0.out|apply IsS94.alloc|apply IsS94.drewN|apply IsS94.drew|apply IsS94.set_1|apply IsS94.set_2)|exact HI0.out),by repeat(first|(with_reducible first|exact HB.out|apply below_alloc|apply pw_below_drewN|apply below_drew1|refine below_set ?_ (IsS94.ge HI0.out))|exact HB.out),by repeat(first|(with_reducible first|exact HK.out|apply KeepBut.set_|apply keep_drewN|apply keep_drew|apply keep_alloc)|exact HK.out)⟩
       ·rw [if_neg c104] at H
        exact absurd H (by simp)
      ·rw [if_neg c101] at H
       have c101b0:(t326 == 2)=false:=beq_eq_false_iff_ne.mpr c101
       have c101b1:(t326 != 2)=true:=bne_iff_ne.mpr c101
       by_cases c118:t326=3
       ·rw [if_pos c118] at H
        have c118b0:(t326 == 3)=true:=beq_iff_eq.mpr c118
        have c118b1:(t326 != 3)=false:=bne_eq_false_iff_eq.mpr c118
        clear c118
        obtain⟨y359,hy359⟩:∃ y_:List (S55),y_=(([]:List (S55))):=⟨_,rfl⟩
        replace H:(spec_l14Draw.l1 k1 (wrap64 (1+t273)) y359 0 s0_0 t327 t328)=some (r1,r2,r3,r4,r5):=by first|(rw [hy359];with_reducible exact H)|(have H2_:=(Option.bind_some _ _).symm.trans H;rw [hy359];with_reducible exact H2_)|(have H2_:=(Option.bind_some _ _).symm.trans H;with_reducible exact H2_)|with_reducible exact H|(rw [hy359];exact H)|exact H
        have Ny359:=ak_ hy359
        clear hy359
        have H':=ak_ H
        clear H
        go_wp2_with (first|((with_reducible refine gate_callee (f:=72) rfl ?_);refine goesL_ (some 66) rfl rfl Try.func72 (by kernel_rfl) rfl #[.pointer (some ⟨g,0,none⟩),.int .i64 40] rfl (by(try simp only [List.map_toArray,List.map_cons,List.map_nil]);first|done|rfl|(simp only [List.length_drop,List.length_take];rfl)) ?_;(with_reducible refine(spec_l01Next.calls g s0_0 x1001_1 x1002_1 40 t326 t327 t328 w0 _ ?side1 ?side2 A86.out).mono ?_);(case side1=>repeat(first|(with_reducible first|exact HI0.out|apply IsS94.alloc|apply IsS94.drewN|apply IsS94.drew|apply IsS94.set_1|apply IsS94.set_2)|exact HI0.out));(case side2=>repeat(first|(with_reducible first|exact HB.out|apply below_alloc|apply pw_below_drewN|apply below_drew1|refine below_set ?_ (IsS94.ge HI0.out))|exact HB.out));rintro e w119 ⟨rfl,hi,hb,hk⟩;refine⟨_,rfl,?_⟩;have n0_:=ak_ (Kd.R_mono (Kd.R_keep (IsS94.apart (show IsS94 w0 _ g s0_0 x1001_1 x1002_1 from by repeat(first|(with_reducible first|exact HI0.out|apply IsS94.alloc|apply IsS94.drewN|apply IsS94.drew|apply IsS94.set_1|apply IsS94.set_2)|exact HI0.out)) (by(with_reducible repeat(first|apply Kd.R_alloc|apply Kd.R_drewN|apply Kd.R_drew));exact HO_7.out) (by decide)) hk (fun _ h=>h.2)) (fun _ h=>h.1));have n1_:=ak_ (KeepBut.trans (by repeat(first|(with_reducible first|exact HK.out|apply KeepBut.set_|apply keep_drewN|apply keep_drew|apply keep_alloc)|exact HK.out)) hk (.inl rfl));have n2_:=ak_ (hb);have n3_:=ak_ (hi);clear HO_7;clear HK;clear HB;clear HI0;have HO_7:=n0_;have HK:=n1_;have HB:=n2_;have HI0:=n3_;clear n0_ n1_ n2_ n3_;(try clear hb);(try clear hk);(try clear hi))|((with_reducible refine gate_dst (N:=91) rfl ?_);refine Kd.R_lit k55 _ 55 ?hg (N:=91) ?hd (xs:=([]:List (S55))) (inner:=[]) (ok:=fun _=>True) (okp:=fun _=>True) ?hr ?hp (fun _ hk=>hk) trivial (Below.refl _ _) (Nat.le_refl _) (by simp) ?_;(case hd=>rfl);(case hg=>rfl);(case hr=>first|(go_simp;done)|(go_simp;rfl));(case hp=>exact(Reps.none _ _));intro v360 w120 ho121 hb hg_ hnew_;clear hg_ hnew_;(first|rw [← Ny359.out] at ho121|(simp only [Int.reduceToNat] at ho121;rw [← Ny359.out] at ho121));have n0_:=ak_ (Kd.R_elder' (by(with_reducible repeat(first|apply Kd.R_alloc|apply Kd.R_drewN|apply Kd.R_drew));exact HO_7.out) (Kd.R_base ho121) hb);have n1_:=ak_ (Kd.R_lower (Kd.R_new' ho121 (Kd.R_lt (by(with_reducible repeat(first|apply Kd.R_alloc|apply Kd.R_drewN|apply Kd.R_drew));exact HO_7.out))) (keep_size (w:=w) (g:=g) (row:=none) (by repeat(first|(with_reducible first|exact HK.out|apply KeepBut.set_|apply keep_drewN|apply keep_drew|apply keep_alloc)|exact HK.out))));have n2_:=ak_ (IsS94.below (by repeat(first|(with_reducible first|exact HI0.out|apply IsS94.alloc|apply IsS94.drewN|apply IsS94.drew|apply IsS94.set_1|apply IsS94.set_2)|exact HI0.out)) hb);have n3_:=ak_ (KeepBut.trans (by repeat(first|(with_reducible first|exact HK.out|apply KeepBut.set_|apply keep_drewN|apply keep_drew|apply keep_alloc)|exact HK.out)) (KeepBut.of_below hb g none) (.inl rfl));have n4_:=ak_ (below_step (by repeat(first|(with_reducible first|exact HB.out|apply below_alloc|apply pw_below_drewN|apply below_drew1|refine below_set ?_ (IsS94.ge HI0.out))|exact HB.out)) hb);clear HO_7;clear HI0;clear HK;clear HB;have HO_7:=n0_;have HO361:=n1_;have HI0:=n2_;have HK:=n3_;have HB:=n4_;clear n0_ n1_ n2_ n3_ n4_;clear hb ho121))
        go_loopg [7,10] k1 (fun kq v7 v10 w'=>∃ (x7_2:List (S55)) (x10_2:Int) (x1001_2:Int) (x1002_2:Int),v10=.int .i64 x10_2∧Aside0 (spec_l14Draw.l1 kq (wrap64 (1+t273)) x7_2 x10_2 s0_0 x1001_2 x1002_2=some (r1,r2,r3,r4,r5))∧Aside0 (kq≤k1)∧Aside0 (Kd.R k55 55 w' w.heap.size (fun _=>True) v7 x7_2)∧Aside0 (IsS94 w0 w' g s0_0 x1001_2 x1002_2)∧Aside0 (KeepBut w w' g none)∧Aside0 (Below w0.heap.size w0 w'))
        case atStart=>exact⟨(y359),(0),(t327),(t328),(by first|rfl|(simp;done)|(simp [*];done)),H',⟨Nat.le_refl _⟩,⟨by(with_reducible repeat(first|apply Kd.R_alloc|apply Kd.R_drewN|apply Kd.R_drew));exact Kd.R_mono HO361.out (fun _ hk=>trivial)⟩,⟨by repeat(first|(with_reducible first|exact HI0.out|apply IsS94.alloc|apply IsS94.drewN|apply IsS94.drew|apply IsS94.set_1|apply IsS94.set_2)|exact HI0.out)⟩,⟨by repeat(first|(with_reducible first|exact HK.out|apply KeepBut.set_|apply keep_drewN|apply keep_drew|apply keep_alloc)|exact HK.out)⟩,⟨by repeat(first|(with_reducible first|exact HB.out|apply below_alloc|apply pw_below_drewN|apply below_drew1|refine below_set ?_ (IsS94.ge HI0.out))|exact HB.out)⟩⟩
        case round =>
         clear H'
         try clear c1
         try clear c2
         try clear p2
         try clear c4
         try clear p6
         try clear c7
         try clear c8
         try clear c9
         try clear c10
         try clear c10b0
         try clear c11
         try clear c19
         try clear c28
         try clear c29
         try clear p64
         try clear c72
         try clear c83
         try clear c87
         try clear c87b0
         try clear c87b1
         try clear c94
         try clear c94b0
         try clear c94b1
         try clear c101
         try clear c101b0
         try clear c101b1
         try clear c104
         try clear c118
         try clear c118b0
         try clear c118b1
         obtain⟨x7_2,x10_2,x1001_2,x1002_2,rfl,HA,HK2,HO_7,HI0,HK,HB⟩:=hrel
         cases gk with
        |zero=>exact absurd HA.out (by simp [spec_l14Draw.l1])
        |succ k2 =>
          have H:=HA.out
          clear HA
          simp only [spec_l14Draw.l1] at H
          replace H:=Option.bind_eq_some_iff.mp H
          obtain⟨⟨t362,t363,t364⟩,A1220,H⟩:=H
          replace H:(if x10_2<(wrap64 (20+t362)) then ((some (([(⟨x10_2,0,1,0⟩:S55)]:List (S55)):List (S55))).bind fun y365=>(if x7_2.length+y365.length<4398046511104 then (spec_l14Draw.l1 k2 (wrap64 (1+t273)) (x7_2 ++ y365) (wrap64 (x10_2+1)) s0_0 t363 t364) else (none))) else (some ((wrap64 (1+t273)),30,x7_2,t363,t364)))=some (r1,r2,r3,r4,r5):=H
          have A122:=ak_ A1220
          clear A1220
          by_cases c123:x10_2<(wrap64 (20+t362))
          ·rw [if_pos c123] at H
           have c123b0:decide (x10_2<(wrap64 (20+t362)))=true:=decide_eq_true c123
           clear c123
           obtain⟨y365,hy365⟩:∃ y_:List (S55),y_=(([(⟨x10_2,0,1,0⟩:S55)]:List (S55))):=⟨_,rfl⟩
           replace H:(if x7_2.length+y365.length<4398046511104 then (spec_l14Draw.l1 k2 (wrap64 (1+t273)) (x7_2 ++ y365) (wrap64 (x10_2+1)) s0_0 t363 t364) else (none))=some (r1,r2,r3,r4,r5):=by first|(rw [hy365];with_reducible exact H)|(have H2_:=(Option.bind_some _ _).symm.trans H;rw [hy365];with_reducible exact H2_)|(have H2_:=(Option.bind_some _ _).symm.trans H;with_reducible exact H2_)|with_reducible exact H|(rw [hy365];exact H)|exact H
           have Ny365:=ak_ hy365
           clear hy365
           by_cases c124:x7_2.length+y365.length<4398046511104
           ·rw [if_pos c124] at H
            have LMc124:=ak_ c124
            clear c124
            obtain⟨y368,hy368⟩:∃ y_:List (S55),y_=(x7_2 ++ y365):=⟨_,rfl⟩
            replace H:(spec_l14Draw.l1 k2 (wrap64 (1+t273)) y368 (wrap64 (x10_2+1)) s0_0 t363 t364)=some (r1,r2,r3,r4,r5):=by first|(rw [hy368];with_reducible exact H)|(have H2_:=(Option.bind_some _ _).symm.trans H;rw [hy368];with_reducible exact H2_)|(have H2_:=(Option.bind_some _ _).symm.trans H;with_reducible exact H2_)|with_reducible exact H|(rw [hy368];exact H)|exact H
            have Ny368:=ak_ hy368
            clear hy368
            have H':=ak_ H
            clear H
            go_wp2_with (first|((with_reducible refine gate_callee (f:=72) rfl ?_);refine goesL_ (some 94) rfl rfl Try.func72 (by kernel_rfl) rfl #[.pointer (some ⟨g,0,none⟩),.int .i64 2] rfl (by(try simp only [List.map_toArray,List.map_cons,List.map_nil]);first|done|rfl|(simp only [List.length_drop,List.length_take];rfl)) ?_;(with_reducible refine(spec_l01Next.calls g s0_0 x1001_2 x1002_2 2 t362 t363 t364 w0 _ ?side1 ?side2 A122.out).mono ?_);(case side1=>repeat(first|(with_reducible first|exact HI0.out|apply IsS94.alloc|apply IsS94.drewN|apply IsS94.drew|apply IsS94.set_1|apply IsS94.set_2)|exact HI0.out));(case side2=>repeat(first|(with_reducible first|exact HB.out|apply below_alloc|apply pw_below_drewN|apply below_drew1|refine below_set ?_ (IsS94.ge HI0.out))|exact HB.out));rintro e w125 ⟨rfl,hi,hb,hk⟩;refine⟨_,rfl,?_⟩;have n0_:=ak_ (Kd.R_mono (Kd.R_keep (IsS94.apart (show IsS94 w0 _ g s0_0 x1001_2 x1002_2 from by repeat(first|(with_reducible first|exact HI0.out|apply IsS94.alloc|apply IsS94.drewN|apply IsS94.drew|apply IsS94.set_1|apply IsS94.set_2)|exact HI0.out)) (by(with_reducible repeat(first|apply Kd.R_alloc|apply Kd.R_drewN|apply Kd.R_drew));exact HO_7.out) (by decide)) hk (fun _ h=>h.2)) (fun _ h=>h.1));have n1_:=ak_ (KeepBut.trans (by repeat(first|(with_reducible first|exact HK.out|apply KeepBut.set_|apply keep_drewN|apply keep_drew|apply keep_alloc)|exact HK.out)) hk (.inl rfl));have n2_:=ak_ (hb);have n3_:=ak_ (hi);clear HO_7;clear HK;clear HB;clear HI0;have HO_7:=n0_;have HK:=n1_;have HB:=n2_;have HI0:=n3_;clear n0_ n1_ n2_ n3_;(try clear hb);(try clear hk);(try clear hi))|((with_reducible refine gate_dst (N:=102) rfl ?_);refine Kd.R_lit k55 _ 55 ?hg (N:=102) ?hd (xs:=([(⟨x10_2,0,1,0⟩:S55)]:List (S55))) (inner:=[.int .i64 x10_2,.int .i64 0,.int .i64 1,.int .i64 0]) (ok:=fun _=>True) (okp:=fun _=>True) ?hr ?hp (fun _ hk=>hk) trivial (Below.refl _ _) (Nat.le_refl _) (by simp) ?_;(case hd=>rfl);(case hg=>rfl);(case hr=>first|(go_simp;done)|(go_simp;rfl));(case hp=>exact(Reps.c4 (show Kd.M k55 _ _ _ (⟨x10_2,0,1,0⟩:S55) [.int .i64 x10_2,.int .i64 0,.int .i64 1,.int .i64 0] from(k55_mkM _ _ _ (⟨x10_2,0,1,0⟩:S55) )) (Reps.none _ _)));intro v366 w126 ho127 hb hg_ hnew_;clear hg_ hnew_;(first|rw [← Ny365.out] at ho127|(simp only [Int.reduceToNat] at ho127;rw [← Ny365.out] at ho127));have n0_:=ak_ (Kd.R_elder' (by(with_reducible repeat(first|apply Kd.R_alloc|apply Kd.R_drewN|apply Kd.R_drew));exact HO_7.out) (Kd.R_base ho127) hb);have n1_:=ak_ (Kd.R_lower (Kd.R_new' ho127 (Kd.R_lt (by(with_reducible repeat(first|apply Kd.R_alloc|apply Kd.R_drewN|apply Kd.R_drew));exact HO_7.out))) (keep_size (w:=w) (g:=g) (row:=none) (by repeat(first|(with_reducible first|exact HK.out|apply KeepBut.set_|apply keep_drewN|apply keep_drew|apply keep_alloc)|exact HK.out))));have n2_:=ak_ (IsS94.below (by repeat(first|(with_reducible first|exact HI0.out|apply IsS94.alloc|apply IsS94.drewN|apply IsS94.drew|apply IsS94.set_1|apply IsS94.set_2)|exact HI0.out)) hb);have n3_:=ak_ (KeepBut.trans (by repeat(first|(with_reducible first|exact HK.out|apply KeepBut.set_|apply keep_drewN|apply keep_drew|apply keep_alloc)|exact HK.out)) (KeepBut.of_below hb g none) (.inl rfl));have n4_:=ak_ (below_step (by repeat(first|(with_reducible first|exact HB.out|apply below_alloc|apply pw_below_drewN|apply below_drew1|refine below_set ?_ (IsS94.ge HI0.out))|exact HB.out)) hb);clear HO_7;clear HI0;clear HK;clear HB;have HO_7:=n0_;have HO367:=n1_;have HI0:=n2_;have HK:=n3_;have HB:=n4_;clear n0_ n1_ n2_ n3_ n4_;clear hb ho127;obtain⟨Ao129,co129,eo129⟩:=Kd.R_slice HO367.out;subst eo129)|((with_reducible refine gate_builtin (b:=.append) (xs:=#[.tmp 99,.tmp 102]) rfl ?_);at_builtin;refine Kd.R_append_rows k55 w.heap.size rfl (.tmp 99) (.tmp 102) 31 55 (.agg #[(.int .i64 0),(.int .i64 0),(.int .i64 0),(.int .i64 0)]) 32 rfl Try.underlying31 info55 rfl (by decide) (by omega) u7 x7_2 y365 _ _ _ (fun k_=>some k_≠(.slice Ao129 y365.length co129:Value).ownBlock) (fun _=>False) rfl rfl ?aO ?aR (fun _ _ h=>h) (fun _ h=>h.elim) ?aF (Below.refl _ _) ?aS ?aL ?_;(case aR=>repeat(first|exact(Kd.R_reads' HO367.out).2.2|(with_reducible refine Kd.C_alloc ?_ _)|(with_reducible refine Kd.C_drewN ?_ _)|(with_reducible refine Kd.C_drew ?_)));(case aF=>exact(fun k_ hk=>Kd.fresh' (Kd.R_lt (by(with_reducible repeat(first|apply Kd.R_alloc|apply Kd.R_drewN|apply Kd.R_drew));exact HO367.out)) k_ hk));(case aO=>exact(by(with_reducible repeat(first|apply Kd.R_alloc|apply Kd.R_drewN|apply Kd.R_drew));exact Kd.R_mono HO_7.out (fun _ hk=>hk.2)));(case aS=>exact(keep_size (w:=w) (g:=g) (row:=none) (by repeat(first|(with_reducible first|exact HK.out|apply KeepBut.set_|apply keep_drewN|apply keep_drew|apply keep_alloc)|exact HK.out))));(case aL=>have:=LMc124.out;omega);intro v369 w128 ho hb hg hat;rw [← Ny368.out] at ho;have n0_:=ak_ (IsS94.grown (by repeat(first|(with_reducible first|exact HI0.out|apply IsS94.alloc|apply IsS94.drewN|apply IsS94.drew|apply IsS94.set_1|apply IsS94.set_2)|exact HI0.out)) hg (IsS94.own_ne HI0.out HO_7.out (by decide)));have n1_:=ak_ (Kd.R_after (ok:=(fun _=>True)) (by(with_reducible repeat(first|apply Kd.R_alloc|apply Kd.R_drewN|apply Kd.R_drew));exact HO367.out) hg hat);have n2_:=ak_ (below_weaken (by repeat(first|(with_reducible first|exact HB.out|apply below_alloc|apply pw_below_drewN|apply below_drew1|refine below_set ?_ (IsS94.ge HI0.out))|exact HB.out)) HL.out hb);have n3_:=ak_ (KeepBut.trans (by repeat(first|(with_reducible first|exact HK.out|apply KeepBut.set_|apply keep_drewN|apply keep_drew|apply keep_alloc)|exact HK.out)) (KeepBut.of_grown hg g) (Kd.R_base2 HO_7.out));have n4_:=ak_ (ho);clear HI0;clear HO367;clear HB;clear HK;clear HO_7;have HI0:=n0_;have HO367:=n1_;have HB:=n2_;have HK:=n3_;have HO370:=n4_;clear n0_ n1_ n2_ n3_ n4_;clear ho hb hg hat))
            go_roundg k2
            case measure=>have:=HK1.out;have:=HK2.out;omega
            case rel=>exact⟨(y368),(wrap64 (x10_2+1)),(t363),(t364),(by first|rfl|(simp;done)|(simp [*];done)),H',⟨by have:=HK1.out;have:=HK2.out;omega⟩,⟨by(with_reducible repeat(first|apply Kd.R_alloc|apply Kd.R_drewN|apply Kd.R_drew));exact Kd.R_mono HO370.out (fun _ hk=>trivial)⟩,⟨by repeat(first|(with_reducible first|exact HI0.out|apply IsS94.alloc|apply IsS94.drewN|apply IsS94.drew|apply IsS94.set_1|apply IsS94.set_2)|exact HI0.out)⟩,⟨by repeat(first|(with_reducible first|exact HK.out|apply KeepBut.set_|apply keep_drewN|apply keep_drew|apply keep_alloc)|exact HK.out)⟩,⟨by repeat(first|(with_reducible first|exact HB.out|apply below_alloc|apply pw_below_drewN|apply below_drew1|refine below_set ?_ (IsS94.ge HI0.out))|exact HB.out)⟩⟩
           ·rw [if_neg c124] at H
            exact absurd H (by simp)
          ·rw [if_neg c123] at H
           have c123b0:decide (x10_2<(wrap64 (20+t362)))=false:=decide_eq_false c123
           clear c123
           simp only [Option.some.injEq,Prod.mk.injEq] at H
           obtain⟨rfl,rfl,rfl,rfl,rfl⟩:=H
           go_wp2_with (first|((with_reducible refine gate_callee (f:=72) rfl ?_);refine goesL_ (some 94) rfl rfl Try.func72 (by kernel_rfl) rfl #[.pointer (some ⟨g,0,none⟩),.int .i64 2] rfl (by(try simp only [List.map_toArray,List.map_cons,List.map_nil]);first|done|rfl|(simp only [List.length_drop,List.length_take];rfl)) ?_;(with_reducible refine(spec_l01Next.calls g s0_0 x1001_2 x1002_2 2 t362 t363 t364 w0 _ ?side1 ?side2 A122.out).mono ?_);(case side1=>repeat(first|(with_reducible first|exact HI0.out|apply IsS94.alloc|apply IsS94.drewN|apply IsS94.drew|apply IsS94.set_1|apply IsS94.set_2)|exact HI0.out));(case side2=>repeat(first|(with_reducible first|exact HB.out|apply below_alloc|apply pw_below_drewN|apply below_drew1|refine below_set ?_ (IsS94.ge HI0.out))|exact HB.out));rintro e w130 ⟨rfl,hi,hb,hk⟩;refine⟨_,rfl,?_⟩;have n0_:=ak_ (Kd.R_mono (Kd.R_keep (IsS94.apart (show IsS94 w0 _ g s0_0 x1001_2 x1002_2 from by repeat(first|(with_reducible first|exact HI0.out|apply IsS94.alloc|apply IsS94.drewN|apply IsS94.drew|apply IsS94.set_1|apply IsS94.set_2)|exact HI0.out)) (by(with_reducible repeat(first|apply Kd.R_alloc|apply Kd.R_drewN|apply Kd.R_drew));exact HO_7.out) (by decide)) hk (fun _ h=>h.2)) (fun _ h=>h.1));have n1_:=ak_ (KeepBut.trans (by repeat(first|(with_reducible first|exact HK.out|apply KeepBut.set_|apply keep_drewN|apply keep_drew|apply keep_alloc)|exact HK.out)) hk (.inl rfl));have n2_:=ak_ (hb);have n3_:=ak_ (hi);clear HO_7;clear HK;clear HB;clear HI0;have HO_7:=n0_;have HK:=n1_;have HB:=n2_;have HI0:=n3_;clear n0_ n1_ n2_ n3_;(try clear hb);(try clear hk);(try clear hi)))
           go_ret3
           exact⟨_,by first|rfl|(simp [errW_none,errW_some] <;> rfl)|(simp [*,errW_none,errW_some] <;> rfl),by(with_reducible repeat(first|apply Kd.R_alloc|apply Kd.R_drewN|apply Kd.R_drew));exact HO_7.out,by repeat(first|(with_reducible first|exact HI0.out|apply IsS94.alloc|apply IsS94.drewN|apply IsS94.drew|apply IsS94.set_1|apply IsS94.set_2)|exact HI0.out),by repeat(first|(with_reducible first|exact HB.out|apply below_alloc|apply pw_below_drewN|apply below_drew1|refine below_set ?_ (IsS94.ge HI0.out))|exact HB.out),by repeat(first|(with_reducible first|exact HK.out|apply KeepBut.set_|apply keep_drewN|apply keep_drew|apply keep_alloc)|exact HK.out)⟩
       ·rw [if_neg c118] at H
        have c118b0:(t326 == 3)=false:=beq_eq_false_iff_ne.mpr c118
        have c118b1:(t326 != 3)=true:=bne_iff_ne.mpr c118
        simp only [Option.some.injEq,Prod.mk.injEq] at H
        obtain⟨rfl,rfl,rfl,rfl,rfl⟩:=H
        go_wp2_with (first|((with_reducible refine gate_callee (f:=72) rfl ?_);refine goesL_ (some 66) rfl rfl Try.func72 (by kernel_rfl) rfl #[.pointer (some ⟨g,0,none⟩),.int .i64 40] rfl (by(try simp only [List.map_toArray,List.map_cons,List.map_nil]);first|done|rfl|(simp only [List.length_drop,List.length_take];rfl)) ?_;(with_reducible refine(spec_l01Next.calls g s0_0 x1001_1 x1002_1 40 t326 t327 t328 w0 _ ?side1 ?side2 A86.out).mono ?_);(case side1=>repeat(first|(with_reducible first|exact HI0.out|apply IsS94.alloc|apply IsS94.drewN|apply IsS94.drew|apply IsS94.set_1|apply IsS94.set_2)|exact HI0.out));(case side2=>repeat(first|(with_reducible first|exact HB.out|apply below_alloc|apply pw_below_drewN|apply below_drew1|refine below_set ?_ (IsS94.ge HI0.out))|exact HB.out));rintro e w131 ⟨rfl,hi,hb,hk⟩;refine⟨_,rfl,?_⟩;have n0_:=ak_ (Kd.R_mono (Kd.R_keep (IsS94.apart (show IsS94 w0 _ g s0_0 x1001_1 x1002_1 from by repeat(first|(with_reducible first|exact HI0.out|apply IsS94.alloc|apply IsS94.drewN|apply IsS94.drew|apply IsS94.set_1|apply IsS94.set_2)|exact HI0.out)) (by(with_reducible repeat(first|apply Kd.R_alloc|apply Kd.R_drewN|apply Kd.R_drew));exact HO_7.out) (by decide)) hk (fun _ h=>h.2)) (fun _ h=>h.1));have n1_:=ak_ (KeepBut.trans (by repeat(first|(with_reducible first|exact HK.out|apply KeepBut.set_|apply keep_drewN|apply keep_drew|apply keep_alloc)|exact HK.out)) hk (.inl rfl));have n2_:=ak_ (hb);have n3_:=ak_ (hi);clear HO_7;clear HK;clear HB;clear HI0;have HO_7:=n0_;have HK:=n1_;have HB:=n2_;have HI0:=n3_;clear n0_ n1_ n2_ n3_;(try clear hb);(try clear hk);(try clear hi)))
        go_ret3
        exact⟨_,by first|rfl|(simp [errW_none,errW_some] <;> rfl)|(simp [*,errW_none,errW_some] <;> rfl),by(with_reducible repeat(first|apply Kd.R_alloc|apply Kd.R_drewN|apply Kd.R_drew));exact HO_7.out,by repeat(first|(with_reducible first|exact HI0.out|apply IsS94.alloc|apply IsS94.drewN|apply IsS94.drew|apply IsS94.set_1|apply IsS94.set_2)|exact HI0.out),by repeat(first|(with_reducible first|exact HB.out|apply below_alloc|apply pw_below_drewN|apply below_drew1|refine below_set ?_ (IsS94.ge HI0.out))|exact HB.out),by repeat(first|(with_reducible first|exact HK.out|apply KeepBut.set_|apply keep_drewN|apply keep_drew|apply keep_alloc)|exact HK.out)⟩

end Go.Proofs.Ythmeohanbggnlaa.PFnLinesOfBooks
