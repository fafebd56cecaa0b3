import Derived.Test.YthmeohanbggnlaaPFnLinesOfBooksx0
import Derived.Test.YthmeohanbggnlaaPFnLinesOfBooksx1
import Derived.Test.YthmeohanbggnlaaPFnLinesOfBooksx2
import Derived.Test.YthmeohanbggnlaaPFnLinesOfBooksx4
import Derived.Test.YthmeohanbggnlaaPFnLinesOfBooksx5
import Derived.Test.YthmeohanbggnlaaPFnLinesOfBooksx6
import Derived.Test.YthmeohanbggnlaaPFnLinesOfBooksx7
import Derived.Test.YthmeohanbggnlaaPFnLinesOfBooksx9
namespace Go.Proofs.Ythmeohanbggnlaa.PFnLinesOfBooks
open Go.RowKit Go.Proofs.YthmeohanbggnlaaW.PrintWords Go.Proofs.YthmeohanbggnlaaW.PrintLast Go.Proofs.YthmeohanbggnlaaW.PrintMore
attribute [local go_sem] max2_int min2_int max_two min_two max_three min_three max_four min_four   -- for this text's walks alone
set_option linter.unusedVariables false
set_option linter.unusedSimpArgs false

mutual
def laws_FnLinesOfBooks.j0 : Nat → Int → Int → List (S55) → List Int → Int → Int → Int → Bool → Option (Bool)
 | 0, _, _, _, _, _, _, _, _ => none
 | k + 1, x3, x4, x5, x6, x7, x10, x11, x123 => if x123 = true then (some false) else (if x7 = 0 then ((impl_GatherBooks.f k x3 x4 x5).bind fun bt426 => ((impl_RightBlock.f k x3).bind fun bt430 => (if bt426.2 = 0 then (if bt430.2 = 0 then (laws_FnLinesOfBooks.j1 k x4 x5 x6 x10 x11 bt426.1 bt430.1 ((bt426.1.length : Int) != x4)) else (laws_FnLinesOfBooks.j1 k x4 x5 x6 x10 x11 bt426.1 bt430.1 true)) else (laws_FnLinesOfBooks.j1 k x4 x5 x6 x10 x11 bt426.1 bt430.1 true)))) else (some true))
def laws_FnLinesOfBooks.j1 : Nat → Int → List (S55) → List Int → Int → Int → List (List Int) → List Int → Bool → Option (Bool)
 | 0, _, _, _, _, _, _, _, _ => none
 | k + 1, x4, x5, x6, x10, x11, x21, x23, x149 => if x149 = true then (some false) else (laws_FnLinesOfBooks.l0 k x4 x5 x6 x10 x11 x21 x23 0)
def laws_FnLinesOfBooks.l0 : Nat → Int → List (S55) → List Int → Int → Int → List (List Int) → List Int → Int → Option (Bool)
 | 0, _, _, _, _, _, _, _, _ => none
 | k + 1, x4, x5, x6, x10, x11, x21, x23, x25 => if x25 < x4 then (laws_FnLinesOfBooks.l1 k x4 x5 x6 x10 x11 x21 x23 x25 false 0) else (laws_FnLinesOfBooks.l2 k x5 x10 x11 0 0)
def laws_FnLinesOfBooks.l1 : Nat → Int → List (S55) → List Int → Int → Int → List (List Int) → List Int → Int → Bool → Int → Option (Bool)
 | 0, _, _, _, _, _, _, _, _, _, _ => none
 | k + 1, x4, x5, x6, x10, x11, x21, x23, x25, x26, x27 => if x27 < (x5.length : Int) then (if x26 = true then (laws_FnLinesOfBooks.l1 k x4 x5 x6 x10 x11 x21 x23 x25 true (wrap64 (x27 + 1))) else (if 0 ≤ x27 then (laws_FnLinesOfBooks.l1 k x4 x5 x6 x10 x11 x21 x23 x25 (((rd_T55 x5 x27).f0) == x25) (wrap64 (x27 + 1))) else (none))) else (if 0 ≤ x25 then (if x25 < (x21.length : Int) then ((laws_likeInts.f k (rd_L2 x21 x25) x23).bind fun t436 => ((laws_hasInt.f k x6 x25).bind fun t437 => (if (t436 == t437) = true then (some false) else ((laws_hasInt.f k x6 x25).bind fun t438 => (if t438 = true then (if x26 = true then (laws_FnLinesOfBooks.l0 k x4 x5 x6 x10 x11 x21 x23 (wrap64 (x25 + 1))) else (some false)) else (laws_FnLinesOfBooks.l0 k x4 x5 x6 x10 x11 x21 x23 (wrap64 (x25 + 1)))))))) else (none)) else (none))
def laws_FnLinesOfBooks.l2 : Nat → List (S55) → Int → Int → Int → Int → Option (Bool)
 | 0, _, _, _, _, _ => none
 | k + 1, x5, x10, x11, x28, x29 => if x29 < (x5.length : Int) then (if 0 ≤ x29 then (if ((rd_T55 x5 x29).f1) = x10 then (laws_FnLinesOfBooks.l2 k x5 x10 x11 (wrap64 (x28 + 1)) (wrap64 (x29 + 1))) else (laws_FnLinesOfBooks.l2 k x5 x10 x11 x28 (wrap64 (x29 + 1)))) else (none)) else (some (x28 == x11))
end
def laws_FnLinesOfBooks.f (k : Nat) (l0 : List Int) : Option (Bool) := (laws_big.f l0).bind fun t394 => (if t394 = true then (some true) else ((spec_DrawWrongBooks.f k l0).bind fun bt395 => ((impl_WrongBooks.f k bt395.1 bt395.2.1 bt395.2.2).bind fun bt400 => ((spec_WrongBooks.f k bt395.1 bt395.2.1 bt395.2.2).bind fun bt404 => ((impl_BusiestStation.f k bt395.1 bt395.2.1 bt395.2.2).bind fun bt408 => ((spec_BusiestStation.f k bt395.1 bt395.2.1 bt395.2.2).bind fun bt411 => ((spec_DrawRightBlock.f k l0).bind fun t414 => ((impl_RightBlock.f k t414).bind fun bt415 => ((spec_RightBlock.f k t414).bind fun bt419 => (if bt400.2 = bt404.2 then ((laws_likeInts.f k bt400.1 bt404.1).bind fun t423 => (if t423 = true then (if bt408.2.2 = bt411.2.2 then (if bt408.1 = bt411.1 then (if bt408.2.1 = bt411.2.1 then (if bt415.2 = bt419.2 then ((laws_likeInts.f k bt415.1 bt419.1).bind fun t424 => (if t424 = true then ((impl_AreFaults.f k bt395.1 bt395.2.1 bt395.2.2).bind fun t425 => (laws_FnLinesOfBooks.j0 k bt395.1 bt395.2.1 bt395.2.2 bt400.1 bt400.2 bt408.1 bt408.2.1 (t425 != (bt404.2 == 0)))) else (laws_FnLinesOfBooks.j0 k bt395.1 bt395.2.1 bt395.2.2 bt400.1 bt400.2 bt408.1 bt408.2.1 true))) else (laws_FnLinesOfBooks.j0 k bt395.1 bt395.2.1 bt395.2.2 bt400.1 bt400.2 bt408.1 bt408.2.1 true)) else (laws_FnLinesOfBooks.j0 k bt395.1 bt395.2.1 bt395.2.2 bt400.1 bt400.2 bt408.1 bt408.2.1 true)) else (laws_FnLinesOfBooks.j0 k bt395.1 bt395.2.1 bt395.2.2 bt400.1 bt400.2 bt408.1 bt408.2.1 true)) else (laws_FnLinesOfBooks.j0 k bt395.1 bt395.2.1 bt395.2.2 bt400.1 bt400.2 bt408.1 bt408.2.1 true)) else (laws_FnLinesOfBooks.j0 k bt395.1 bt395.2.1 bt395.2.2 bt400.1 bt400.2 bt408.1 bt408.2.1 true))) else (laws_FnLinesOfBooks.j0 k bt395.1 bt395.2.1 bt395.2.2 bt400.1 bt400.2 bt408.1 bt408.2.1 true)))))))))))
theorem laws_FnLinesOfBooks.mono_l : ∀ k, (∀ y0 y1 y2 y3 y4 y5 y6 y7, LeO (laws_FnLinesOfBooks.j0 k y0 y1 y2 y3 y4 y5 y6 y7) (laws_FnLinesOfBooks.j0 (k + 1) y0 y1 y2 y3 y4 y5 y6 y7)) ∧ (∀ y0 y1 y2 y3 y4 y5 y6 y7, LeO (laws_FnLinesOfBooks.j1 k y0 y1 y2 y3 y4 y5 y6 y7) (laws_FnLinesOfBooks.j1 (k + 1) y0 y1 y2 y3 y4 y5 y6 y7)) ∧ (∀ y0 y1 y2 y3 y4 y5 y6 y7, LeO (laws_FnLinesOfBooks.l0 k y0 y1 y2 y3 y4 y5 y6 y7) (laws_FnLinesOfBooks.l0 (k + 1) y0 y1 y2 y3 y4 y5 y6 y7)) ∧ (∀ y0 y1 y2 y3 y4 y5 y6 y7 y8 y9, LeO (laws_FnLinesOfBooks.l1 k y0 y1 y2 y3 y4 y5 y6 y7 y8 y9) (laws_FnLinesOfBooks.l1 (k + 1) y0 y1 y2 y3 y4 y5 y6 y7 y8 y9)) ∧ (∀ y0 y1 y2 y3 y4, LeO (laws_FnLinesOfBooks.l2 k y0 y1 y2 y3 y4) (laws_FnLinesOfBooks.l2 (k + 1) y0 y1 y2 y3 y4))
 | 0 => ⟨fun _ _ _ _ _ _ _ _ r h => by simp [laws_FnLinesOfBooks.j0] at h, fun _ _ _ _ _ _ _ _ r h => by simp [laws_FnLinesOfBooks.j1] at h, fun _ _ _ _ _ _ _ _ r h => by simp [laws_FnLinesOfBooks.l0] at h, fun _ _ _ _ _ _ _ _ _ _ r h => by simp [laws_FnLinesOfBooks.l1] at h, fun _ _ _ _ _ r h => by simp [laws_FnLinesOfBooks.l2] at h⟩
 | k + 1 => by
  obtain ⟨ih0, ih1, ih2, ih3, ih4⟩ := laws_FnLinesOfBooks.mono_l k
  refine ⟨?_, ?_, ?_, ?_, ?_⟩
  ·intro y0 y1 y2 y3 y4 y5 y6 y7
   unfold laws_FnLinesOfBooks.j0
   repeat' first
   | (with_reducible exact ih0 _ _ _ _ _ _ _ _)
   | (with_reducible exact ih1 _ _ _ _ _ _ _ _)
   | (with_reducible exact ih2 _ _ _ _ _ _ _ _)
   | (with_reducible exact ih3 _ _ _ _ _ _ _ _ _ _)
   | (with_reducible exact ih4 _ _ _ _ _)
   | (with_reducible exact impl_AreFaults.mono _ _ _ _)
   | (with_reducible exact impl_BusiestStation.mono _ _ _ _)
   | (with_reducible exact impl_GatherBooks.mono _ _ _ _)
   | (with_reducible exact impl_RightBlock.mono _ _)
   | (with_reducible exact impl_WrongBooks.mono _ _ _ _)
   | (with_reducible exact laws_hasInt.mono _ _ _)
   | (with_reducible exact laws_likeInts.mono _ _ _)
   | (with_reducible exact spec_BusiestStation.mono _ _ _ _)
   | (with_reducible exact spec_DrawRightBlock.mono _ _)
   | (with_reducible exact spec_DrawWrongBooks.mono _ _)
   | (with_reducible exact spec_RightBlock.mono _ _)
   | (with_reducible exact spec_WrongBooks.mono _ _ _ _)
   | (with_reducible exact LeO.refl _)
   | (with_reducible exact LeO.none _)
   | (with_reducible refine LeO.ite ?_ ?_)
   | (with_reducible refine LeO.bind ?_ (fun _ => ?_))
   | exact ih0 _ _ _ _ _ _ _ _
   | exact ih1 _ _ _ _ _ _ _ _
   | exact ih2 _ _ _ _ _ _ _ _
   | exact ih3 _ _ _ _ _ _ _ _ _ _
   | exact ih4 _ _ _ _ _
   | exact impl_AreFaults.mono _ _ _ _
   | exact impl_BusiestStation.mono _ _ _ _
   | exact impl_GatherBooks.mono _ _ _ _
   | exact impl_RightBlock.mono _ _
   | exact impl_WrongBooks.mono _ _ _ _
   | exact laws_hasInt.mono _ _ _
   | exact laws_likeInts.mono _ _ _
   | exact spec_BusiestStation.mono _ _ _ _
   | exact spec_DrawRightBlock.mono _ _
   | exact spec_DrawWrongBooks.mono _ _
   | exact spec_RightBlock.mono _ _
   | exact spec_WrongBooks.mono _ _ _ _
   | exact LeO.none _
   | refine LeO.ite ?_ ?_
   | refine LeO.bind ?_ (fun _ => ?_)
  ·intro y0 y1 y2 y3 y4 y5 y6 y7
   unfold laws_FnLinesOfBooks.j1
   repeat' first
   | (with_reducible exact ih0 _ _ _ _ _ _ _ _)
   | (with_reducible exact ih1 _ _ _ _ _ _ _ _)
   | (with_reducible exact ih2 _ _ _ _ _ _ _ _)
   | (with_reducible exact ih3 _ _ _ _ _ _ _ _ _ _)
   | (with_reducible exact ih4 _ _ _ _ _)
   | (with_reducible exact impl_AreFaults.mono _ _ _ _)
   | (with_reducible exact impl_BusiestStation.mono _ _ _ _)
   | (with_reducible exact impl_GatherBooks.mono _ _ _ _)
   | (with_reducible exact impl_RightBlock.mono _ _)
   | (with_reducible exact impl_WrongBooks.mono _ _ _ _)
   | (with_reducible exact laws_hasInt.mono _ _ _)
   | (with_reducible exact laws_likeInts.mono _ _ _)
   | (with_reducible exact spec_BusiestStation.mono _ _ _ _)
   | (with_reducible exact spec_DrawRightBlock.mono _ _)
   | (with_reducible exact spec_DrawWrongBooks.mono _ _)
   | (with_reducible exact spec_RightBlock.mono _ _)
   | (with_reducible exact spec_WrongBooks.mono _ _ _ _)
   | (with_reducible exact LeO.refl _)
   | (with_reducible exact LeO.none _)
   | (with_reducible refine LeO.ite ?_ ?_)
   | (with_reducible refine LeO.bind ?_ (fun _ => ?_))
   | exact ih0 _ _ _ _ _ _ _ _
   | exact ih1 _ _ _ _ _ _ _ _
   | exact ih2 _ _ _ _ _ _ _ _
   | exact ih3 _ _ _ _ _ _ _ _ _ _
   | exact ih4 _ _ _ _ _
   | exact impl_AreFaults.mono _ _ _ _
   | exact impl_BusiestStation.mono _ _ _ _
   | exact impl_GatherBooks.mono _ _ _ _
   | exact impl_RightBlock.mono _ _
   | exact impl_WrongBooks.mono _ _ _ _
   | exact laws_hasInt.mono _ _ _
   | exact laws_likeInts.mono _ _ _
   | exact spec_BusiestStation.mono _ _ _ _
   | exact spec_DrawRightBlock.mono _ _
   | exact spec_DrawWrongBooks.mono _ _
   | exact spec_RightBlock.mono _ _
   | exact spec_WrongBooks.mono _ _ _ _
   | exact LeO.none _
   | refine LeO.ite ?_ ?_
   | refine LeO.bind ?_ (fun _ => ?_)
  ·intro y0 y1 y2 y3 y4 y5 y6 y7
   unfold laws_FnLinesOfBooks.l0
   repeat' first
   | (with_reducible exact ih0 _ _ _ _ _ _ _ _)
   | (with_reducible exact ih1 _ _ _ _ _ _ _ _)
   | (with_reducible exact ih2 _ _ _ _ _ _ _ _)
   | (with_reducible exact ih3 _ _ _ _ _ _ _ _ _ _)
   | (with_reducible exact ih4 _ _ _ _ _)
   | (with_reducible exact impl_AreFaults.mono _ _ _ _)
   | (with_reducible exact impl_BusiestStation.mono _ _ _ _)
   | (with_reducible exact impl_GatherBooks.mono _ _ _ _)
   | (with_reducible exact impl_RightBlock.mono _ _)
   | (with_reducible exact impl_WrongBooks.mono _ _ _ _)
   | (with_reducible exact laws_hasInt.mono _ _ _)
   | (with_reducible exact laws_likeInts.mono _ _ _)
   | (with_reducible exact spec_BusiestStation.mono _ _ _ _)
   | (with_reducible exact spec_DrawRightBlock.mono _ _)
   | (with_reducible exact spec_DrawWrongBooks.mono _ _)
   | (with_reducible exact spec_RightBlock.mono _ _)
   | (with_reducible exact spec_WrongBooks.mono _ _ _ _)
   | (with_reducible exact LeO.refl _)
   | (with_reducible exact LeO.none _)
   | (with_reducible refine LeO.ite ?_ ?_)
   | (with_reducible refine LeO.bind ?_ (fun _ => ?_))
   | exact ih0 _ _ _ _ _ _ _ _
   | exact ih1 _ _ _ _ _ _ _ _
   | exact ih2 _ _ _ _ _ _ _ _
   | exact ih3 _ _ _ _ _ _ _ _ _ _
   | exact ih4 _ _ _ _ _
   | exact impl_AreFaults.mono _ _ _ _
   | exact impl_BusiestStation.mono _ _ _ _
   | exact impl_GatherBooks.mono _ _ _ _
   | exact impl_RightBlock.mono _ _
   | exact impl_WrongBooks.mono _ _ _ _
   | exact laws_hasInt.mono _ _ _
   | exact laws_likeInts.mono _ _ _
   | exact spec_BusiestStation.mono _ _ _ _
   | exact spec_DrawRightBlock.mono _ _
   | exact spec_DrawWrongBooks.mono _ _
   | exact spec_RightBlock.mono _ _
   | exact spec_WrongBooks.mono _ _ _ _
   | exact LeO.none _
   | refine LeO.ite ?_ ?_
   | refine LeO.bind ?_ (fun _ => ?_)
  ·intro y0 y1 y2 y3 y4 y5 y6 y7 y8 y9
   unfold laws_FnLinesOfBooks.l1
   repeat' first
   | (with_reducible exact ih0 _ _ _ _ _ _ _ _)
   | (with_reducible exact ih1 _ _ _ _ _ _ _ _)
   | (with_reducible exact ih2 _ _ _ _ _ _ _ _)
   | (with_reducible exact ih3 _ _ _ _ _ _ _ _ _ _)
   | (with_reducible exact ih4 _ _ _ _ _)
   | (with_reducible exact impl_AreFaults.mono _ _ _ _)
   | (with_reducible exact impl_BusiestStation.mono _ _ _ _)
   | (with_reducible exact impl_GatherBooks.mono _ _ _ _)
   | (with_reducible exact impl_RightBlock.mono _ _)
   | (with_reducible exact impl_WrongBooks.mono _ _ _ _)
   | (with_reducible exact laws_hasInt.mono _ _ _)
   | (with_reducible exact laws_likeInts.mono _ _ _)
   | (with_reducible exact spec_BusiestStation.mono _ _ _ _)
   | (with_reducible exact spec_DrawRightBlock.mono _ _)
   | (with_reducible exact spec_DrawWrongBooks.mono _ _)
   | (with_reducible exact spec_RightBlock.mono _ _)
   | (with_reducible exact spec_WrongBooks.mono _ _ _ _)
   | (with_reducible exact LeO.refl _)
   | (with_reducible exact LeO.none _)
   | (with_reducible refine LeO.ite ?_ ?_)
   | (with_reducible refine LeO.bind ?_ (fun _ => ?_))
   | exact ih0 _ _ _ _ _ _ _ _
   | exact ih1 _ _ _ _ _ _ _ _
   | exact ih2 _ _ _ _ _ _ _ _
   | exact ih3 _ _ _ _ _ _ _ _ _ _
   | exact ih4 _ _ _ _ _
   | exact impl_AreFaults.mono _ _ _ _
   | exact impl_BusiestStation.mono _ _ _ _
   | exact impl_GatherBooks.mono _ _ _ _
   | exact impl_RightBlock.mono _ _
   | exact impl_WrongBooks.mono _ _ _ _
   | exact laws_hasInt.mono _ _ _
   | exact laws_likeInts.mono _ _ _
   | exact spec_BusiestStation.mono _ _ _ _
   | exact spec_DrawRightBlock.mono _ _
   | exact spec_DrawWrongBooks.mono _ _
   | exact spec_RightBlock.mono _ _
   | exact spec_WrongBooks.mono _ _ _ _
   | exact LeO.none _
   | refine LeO.ite ?_ ?_
   | refine LeO.bind ?_ (fun _ => ?_)
  ·intro y0 y1 y2 y3 y4
   unfold laws_FnLinesOfBooks.l2
   repeat' first
   | (with_reducible exact ih0 _ _ _ _ _ _ _ _)
   | (with_reducible exact ih1 _ _ _ _ _ _ _ _)
   | (with_reducible exact ih2 _ _ _ _ _ _ _ _)
   | (with_reducible exact ih3 _ _ _ _ _ _ _ _ _ _)
   | (with_reducible exact ih4 _ _ _ _ _)
   | (with_reducible exact impl_AreFaults.mono _ _ _ _)
   | (with_reducible exact impl_BusiestStation.mono _ _ _ _)
   | (with_reducible exact impl_GatherBooks.mono _ _ _ _)
   | (with_reducible exact impl_RightBlock.mono _ _)
   | (with_reducible exact impl_WrongBooks.mono _ _ _ _)
   | (with_reducible exact laws_hasInt.mono _ _ _)
   | (with_reducible exact laws_likeInts.mono _ _ _)
   | (with_reducible exact spec_BusiestStation.mono _ _ _ _)
   | (with_reducible exact spec_DrawRightBlock.mono _ _)
   | (with_reducible exact spec_DrawWrongBooks.mono _ _)
   | (with_reducible exact spec_RightBlock.mono _ _)
   | (with_reducible exact spec_WrongBooks.mono _ _ _ _)
   | (with_reducible exact LeO.refl _)
   | (with_reducible exact LeO.none _)
   | (with_reducible refine LeO.ite ?_ ?_)
   | (with_reducible refine LeO.bind ?_ (fun _ => ?_))
   | exact ih0 _ _ _ _ _ _ _ _
   | exact ih1 _ _ _ _ _ _ _ _
   | exact ih2 _ _ _ _ _ _ _ _
   | exact ih3 _ _ _ _ _ _ _ _ _ _
   | exact ih4 _ _ _ _ _
   | exact impl_AreFaults.mono _ _ _ _
   | exact impl_BusiestStation.mono _ _ _ _
   | exact impl_GatherBooks.mono _ _ _ _
   | exact impl_RightBlock.mono _ _
   | exact impl_WrongBooks.mono _ _ _ _
   | exact laws_hasInt.mono _ _ _
   | exact laws_likeInts.mono _ _ _
   | exact spec_BusiestStation.mono _ _ _ _
   | exact spec_DrawRightBlock.mono _ _
   | exact spec_DrawWrongBooks.mono _ _
   | exact spec_RightBlock.mono _ _
   | exact spec_WrongBooks.mono _ _ _ _
   | exact LeO.none _
   | refine LeO.ite ?_ ?_
   | refine LeO.bind ?_ (fun _ => ?_)
theorem laws_FnLinesOfBooks.mono : ∀ a0 k, LeO (laws_FnLinesOfBooks.f k a0) (laws_FnLinesOfBooks.f (k + 1) a0) := by
 intro a0 k
 obtain ⟨ih0, ih1, ih2, ih3, ih4⟩ := laws_FnLinesOfBooks.mono_l k
 unfold laws_FnLinesOfBooks.f
 repeat' first
   | (with_reducible exact ih0 _ _ _ _ _ _ _ _)
   | (with_reducible exact ih1 _ _ _ _ _ _ _ _)
   | (with_reducible exact ih2 _ _ _ _ _ _ _ _)
   | (with_reducible exact ih3 _ _ _ _ _ _ _ _ _ _)
   | (with_reducible exact ih4 _ _ _ _ _)
   | (with_reducible exact impl_AreFaults.mono _ _ _ _)
   | (with_reducible exact impl_BusiestStation.mono _ _ _ _)
   | (with_reducible exact impl_GatherBooks.mono _ _ _ _)
   | (with_reducible exact impl_RightBlock.mono _ _)
   | (with_reducible exact impl_WrongBooks.mono _ _ _ _)
   | (with_reducible exact laws_hasInt.mono _ _ _)
   | (with_reducible exact laws_likeInts.mono _ _ _)
   | (with_reducible exact spec_BusiestStation.mono _ _ _ _)
   | (with_reducible exact spec_DrawRightBlock.mono _ _)
   | (with_reducible exact spec_DrawWrongBooks.mono _ _)
   | (with_reducible exact spec_RightBlock.mono _ _)
   | (with_reducible exact spec_WrongBooks.mono _ _ _ _)
   | (with_reducible exact LeO.refl _)
   | (with_reducible exact LeO.none _)
   | (with_reducible refine LeO.ite ?_ ?_)
   | (with_reducible refine LeO.bind ?_ (fun _ => ?_))
   | exact ih0 _ _ _ _ _ _ _ _
   | exact ih1 _ _ _ _ _ _ _ _
   | exact ih2 _ _ _ _ _ _ _ _
   | exact ih3 _ _ _ _ _ _ _ _ _ _
   | exact ih4 _ _ _ _ _
   | exact impl_AreFaults.mono _ _ _ _
   | exact impl_BusiestStation.mono _ _ _ _
   | exact impl_GatherBooks.mono _ _ _ _
   | exact impl_RightBlock.mono _ _
   | exact impl_WrongBooks.mono _ _ _ _
   | exact laws_hasInt.mono _ _ _
   | exact laws_likeInts.mono _ _ _
   | exact spec_BusiestStation.mono _ _ _ _
   | exact spec_DrawRightBlock.mono _ _
   | exact spec_DrawWrongBooks.mono _ _
   | exact spec_RightBlock.mono _ _
   | exact spec_WrongBooks.mono _ _ _ _
   | exact LeO.none _
   | refine LeO.ite ?_ ?_
   | refine LeO.bind ?_ (fun _ => ?_)
set_option maxHeartbeats 8000000 in
set_option maxRecDepth 100000 in
theorem laws_FnLinesOfBooks.calls (k : Nat) (A0 : Option Addr) (c0 : Nat) (l0 : List Int) (r : Bool) (w : World) (hr0 : Kd.C (Kd.int .u8) w A0 l0.length l0) (hc0 : l0.length ≤ c0) (hr_ : Aside0 (r = true)) (h : laws_FnLinesOfBooks.f k l0 = some r) :
  Calls Try.prog 11 #[.slice A0 l0.length c0] w fun e w' => e = .returned (.bool r) ∧ Below w.heap.size w w' := by
 have HR0 := Aside0.mk hr0
 have HC0 := Aside0.mk hc0
 clear hr0 hc0
 have HB := Aside0.mk (Below.refl w.heap.size w)
 have H : ((laws_big.f l0).bind fun t394 => (if t394 = true then (some true) else ((spec_DrawWrongBooks.f k l0).bind fun bt395 => ((impl_WrongBooks.f k bt395.1 bt395.2.1 bt395.2.2).bind fun bt400 => ((spec_WrongBooks.f k bt395.1 bt395.2.1 bt395.2.2).bind fun bt404 => ((impl_BusiestStation.f k bt395.1 bt395.2.1 bt395.2.2).bind fun bt408 => ((spec_BusiestStation.f k bt395.1 bt395.2.1 bt395.2.2).bind fun bt411 => ((spec_DrawRightBlock.f k l0).bind fun t414 => ((impl_RightBlock.f k t414).bind fun bt415 => ((spec_RightBlock.f k t414).bind fun bt419 => (if bt400.2 = bt404.2 then ((laws_likeInts.f k bt400.1 bt404.1).bind fun t423 => (if t423 = true then (if bt408.2.2 = bt411.2.2 then (if bt408.1 = bt411.1 then (if bt408.2.1 = bt411.2.1 then (if bt415.2 = bt419.2 then ((laws_likeInts.f k bt415.1 bt419.1).bind fun t424 => (if t424 = true then ((impl_AreFaults.f k bt395.1 bt395.2.1 bt395.2.2).bind fun t425 => (laws_FnLinesOfBooks.j0 k bt395.1 bt395.2.1 bt395.2.2 bt400.1 bt400.2 bt408.1 bt408.2.1 (t425 != (bt404.2 == 0)))) else (laws_FnLinesOfBooks.j0 k bt395.1 bt395.2.1 bt395.2.2 bt400.1 bt400.2 bt408.1 bt408.2.1 true))) else (laws_FnLinesOfBooks.j0 k bt395.1 bt395.2.1 bt395.2.2 bt400.1 bt400.2 bt408.1 bt408.2.1 true)) else (laws_FnLinesOfBooks.j0 k bt395.1 bt395.2.1 bt395.2.2 bt400.1 bt400.2 bt408.1 bt408.2.1 true)) else (laws_FnLinesOfBooks.j0 k bt395.1 bt395.2.1 bt395.2.2 bt400.1 bt400.2 bt408.1 bt408.2.1 true)) else (laws_FnLinesOfBooks.j0 k bt395.1 bt395.2.1 bt395.2.2 bt400.1 bt400.2 bt408.1 bt408.2.1 true)) else (laws_FnLinesOfBooks.j0 k bt395.1 bt395.2.1 bt395.2.2 bt400.1 bt400.2 bt408.1 bt408.2.1 true))) else (laws_FnLinesOfBooks.j0 k bt395.1 bt395.2.1 bt395.2.2 bt400.1 bt400.2 bt408.1 bt408.2.1 true)))))))))))) = some r := h
 clear h
 replace H := Option.bind_eq_some_iff.mp H
 obtain ⟨t394, A20, H⟩ := H
 replace H : (if t394 = true then (some true) else ((spec_DrawWrongBooks.f k l0).bind fun bt395 => ((impl_WrongBooks.f k bt395.1 bt395.2.1 bt395.2.2).bind fun bt400 => ((spec_WrongBooks.f k bt395.1 bt395.2.1 bt395.2.2).bind fun bt404 => ((impl_BusiestStation.f k bt395.1 bt395.2.1 bt395.2.2).bind fun bt408 => ((spec_BusiestStation.f k bt395.1 bt395.2.1 bt395.2.2).bind fun bt411 => ((spec_DrawRightBlock.f k l0).bind fun t414 => ((impl_RightBlock.f k t414).bind fun bt415 => ((spec_RightBlock.f k t414).bind fun bt419 => (if bt400.2 = bt404.2 then ((laws_likeInts.f k bt400.1 bt404.1).bind fun t423 => (if t423 = true then (if bt408.2.2 = bt411.2.2 then (if bt408.1 = bt411.1 then (if bt408.2.1 = bt411.2.1 then (if bt415.2 = bt419.2 then ((laws_likeInts.f k bt415.1 bt419.1).bind fun t424 => (if t424 = true then ((impl_AreFaults.f k bt395.1 bt395.2.1 bt395.2.2).bind fun t425 => (laws_FnLinesOfBooks.j0 k bt395.1 bt395.2.1 bt395.2.2 bt400.1 bt400.2 bt408.1 bt408.2.1 (t425 != (bt404.2 == 0)))) else (laws_FnLinesOfBooks.j0 k bt395.1 bt395.2.1 bt395.2.2 bt400.1 bt400.2 bt408.1 bt408.2.1 true))) else (laws_FnLinesOfBooks.j0 k bt395.1 bt395.2.1 bt395.2.2 bt400.1 bt400.2 bt408.1 bt408.2.1 true)) else (laws_FnLinesOfBooks.j0 k bt395.1 bt395.2.1 bt395.2.2 bt400.1 bt400.2 bt408.1 bt408.2.1 true)) else (laws_FnLinesOfBooks.j0 k bt395.1 bt395.2.1 bt395.2.2 bt400.1 bt400.2 bt408.1 bt408.2.1 true)) else (laws_FnLinesOfBooks.j0 k bt395.1 bt395.2.1 bt395.2.2 bt400.1 bt400.2 bt408.1 bt408.2.1 true)) else (laws_FnLinesOfBooks.j0 k bt395.1 bt395.2.1 bt395.2.2 bt400.1 bt400.2 bt408.1 bt408.2.1 true))) else (laws_FnLinesOfBooks.j0 k bt395.1 bt395.2.1 bt395.2.2 bt400.1 bt400.2 bt408.1 bt408.2.1 true))))))))))) = some r := H
 have A2 := Aside0.mk A20
 clear A20
 by_cases c3 : t394 = true
 ·subst c3
  have H1 : (some true) = some r := by rw [if_pos rfl] at H; exact H
  clear H
  have H := H1
  clear H1
  obtain rfl := Option.some.inj H
  go_enter Try.func11, Try.ntmps11
  go_wp2_with (first | ((with_reducible refine gate_callee (f := 40) rfl ?_); refine goesL_ (some 31) rfl rfl Try.func40 (by kernel_rfl) rfl #[.slice A0 l0.length c0] rfl (by (try simp only [List.map_toArray, List.map_cons, List.map_nil]); first | done | rfl | (simp only [List.length_drop, List.length_take]; rfl)) ?_; (with_reducible refine (laws_big.calls _ _ l0 true _ ?side1 ?side2 A2.out).mono ?_); (case side1 => repeat (first | exact HR0.out | (with_reducible refine Kd.C_alloc ?_ _) | (with_reducible refine Kd.C_drewN ?_ _) | (with_reducible refine Kd.C_drew ?_))); (case side2 => exact HC0.out); rintro e w' ⟨rfl, ⟨nd, rfl⟩⟩; refine ⟨_, rfl, ?_⟩))
  go_ret
  exact ⟨by first | rfl | (simp [errW_none, errW_some] <;> rfl) | (simp [*, errW_none, errW_some] <;> rfl), by repeat (first | (with_reducible first | exact HB.out | apply below_alloc | apply pw_below_drewN | apply below_drew1) | exact HB.out)⟩
 ·replace c3 := Bool.eq_false_iff.mpr c3
  subst c3
  have H1 : ((spec_DrawWrongBooks.f k l0).bind fun bt395 => ((impl_WrongBooks.f k bt395.1 bt395.2.1 bt395.2.2).bind fun bt400 => ((spec_WrongBooks.f k bt395.1 bt395.2.1 bt395.2.2).bind fun bt404 => ((impl_BusiestStation.f k bt395.1 bt395.2.1 bt395.2.2).bind fun bt408 => ((spec_BusiestStation.f k bt395.1 bt395.2.1 bt395.2.2).bind fun bt411 => ((spec_DrawRightBlock.f k l0).bind fun t414 => ((impl_RightBlock.f k t414).bind fun bt415 => ((spec_RightBlock.f k t414).bind fun bt419 => (if bt400.2 = bt404.2 then ((laws_likeInts.f k bt400.1 bt404.1).bind fun t423 => (if t423 = true then (if bt408.2.2 = bt411.2.2 then (if bt408.1 = bt411.1 then (if bt408.2.1 = bt411.2.1 then (if bt415.2 = bt419.2 then ((laws_likeInts.f k bt415.1 bt419.1).bind fun t424 => (if t424 = true then ((impl_AreFaults.f k bt395.1 bt395.2.1 bt395.2.2).bind fun t425 => (laws_FnLinesOfBooks.j0 k bt395.1 bt395.2.1 bt395.2.2 bt400.1 bt400.2 bt408.1 bt408.2.1 (t425 != (bt404.2 == 0)))) else (laws_FnLinesOfBooks.j0 k bt395.1 bt395.2.1 bt395.2.2 bt400.1 bt400.2 bt408.1 bt408.2.1 true))) else (laws_FnLinesOfBooks.j0 k bt395.1 bt395.2.1 bt395.2.2 bt400.1 bt400.2 bt408.1 bt408.2.1 true)) else (laws_FnLinesOfBooks.j0 k bt395.1 bt395.2.1 bt395.2.2 bt400.1 bt400.2 bt408.1 bt408.2.1 true)) else (laws_FnLinesOfBooks.j0 k bt395.1 bt395.2.1 bt395.2.2 bt400.1 bt400.2 bt408.1 bt408.2.1 true)) else (laws_FnLinesOfBooks.j0 k bt395.1 bt395.2.1 bt395.2.2 bt400.1 bt400.2 bt408.1 bt408.2.1 true)) else (laws_FnLinesOfBooks.j0 k bt395.1 bt395.2.1 bt395.2.2 bt400.1 bt400.2 bt408.1 bt408.2.1 true))) else (laws_FnLinesOfBooks.j0 k bt395.1 bt395.2.1 bt395.2.2 bt400.1 bt400.2 bt408.1 bt408.2.1 true)))))))))) = some r := by rw [if_neg (show ¬ (false = true) by decide)] at H; exact H
  clear H
  have H := H1
  clear H1
  replace H := Option.bind_eq_some_iff.mp H
  obtain ⟨⟨t395, t396, t397⟩, A40, H⟩ := H
  replace H : ((impl_WrongBooks.f k t395 t396 t397).bind fun bt400 => ((spec_WrongBooks.f k t395 t396 t397).bind fun bt404 => ((impl_BusiestStation.f k t395 t396 t397).bind fun bt408 => ((spec_BusiestStation.f k t395 t396 t397).bind fun bt411 => ((spec_DrawRightBlock.f k l0).bind fun t414 => ((impl_RightBlock.f k t414).bind fun bt415 => ((spec_RightBlock.f k t414).bind fun bt419 => (if bt400.2 = bt404.2 then ((laws_likeInts.f k bt400.1 bt404.1).bind fun t423 => (if t423 = true then (if bt408.2.2 = bt411.2.2 then (if bt408.1 = bt411.1 then (if bt408.2.1 = bt411.2.1 then (if bt415.2 = bt419.2 then ((laws_likeInts.f k bt415.1 bt419.1).bind fun t424 => (if t424 = true then ((impl_AreFaults.f k t395 t396 t397).bind fun t425 => (laws_FnLinesOfBooks.j0 k t395 t396 t397 bt400.1 bt400.2 bt408.1 bt408.2.1 (t425 != (bt404.2 == 0)))) else (laws_FnLinesOfBooks.j0 k t395 t396 t397 bt400.1 bt400.2 bt408.1 bt408.2.1 true))) else (laws_FnLinesOfBooks.j0 k t395 t396 t397 bt400.1 bt400.2 bt408.1 bt408.2.1 true)) else (laws_FnLinesOfBooks.j0 k t395 t396 t397 bt400.1 bt400.2 bt408.1 bt408.2.1 true)) else (laws_FnLinesOfBooks.j0 k t395 t396 t397 bt400.1 bt400.2 bt408.1 bt408.2.1 true)) else (laws_FnLinesOfBooks.j0 k t395 t396 t397 bt400.1 bt400.2 bt408.1 bt408.2.1 true)) else (laws_FnLinesOfBooks.j0 k t395 t396 t397 bt400.1 bt400.2 bt408.1 bt408.2.1 true))) else (laws_FnLinesOfBooks.j0 k t395 t396 t397 bt400.1 bt400.2 bt408.1 bt408.2.1 true))))))))) = some r := H
  have A4 := Aside0.mk A40
  clear A40
  replace H := Option.bind_eq_some_iff.mp H
  obtain ⟨⟨t400, t401⟩, A50, H⟩ := H
  replace H : ((spec_WrongBooks.f k t395 t396 t397).bind fun bt404 => ((impl_BusiestStation.f k t395 t396 t397).bind fun bt408 => ((spec_BusiestStation.f k t395 t396 t397).bind fun bt411 => ((spec_DrawRightBlock.f k l0).bind fun t414 => ((impl_RightBlock.f k t414).bind fun bt415 => ((spec_RightBlock.f k t414).bind fun bt419 => (if t401 = bt404.2 then ((laws_likeInts.f k t400 bt404.1).bind fun t423 => (if t423 = true then (if bt408.2.2 = bt411.2.2 then (if bt408.1 = bt411.1 then (if bt408.2.1 = bt411.2.1 then (if bt415.2 = bt419.2 then ((laws_likeInts.f k bt415.1 bt419.1).bind fun t424 => (if t424 = true then ((impl_AreFaults.f k t395 t396 t397).bind fun t425 => (laws_FnLinesOfBooks.j0 k t395 t396 t397 t400 t401 bt408.1 bt408.2.1 (t425 != (bt404.2 == 0)))) else (laws_FnLinesOfBooks.j0 k t395 t396 t397 t400 t401 bt408.1 bt408.2.1 true))) else (laws_FnLinesOfBooks.j0 k t395 t396 t397 t400 t401 bt408.1 bt408.2.1 true)) else (laws_FnLinesOfBooks.j0 k t395 t396 t397 t400 t401 bt408.1 bt408.2.1 true)) else (laws_FnLinesOfBooks.j0 k t395 t396 t397 t400 t401 bt408.1 bt408.2.1 true)) else (laws_FnLinesOfBooks.j0 k t395 t396 t397 t400 t401 bt408.1 bt408.2.1 true)) else (laws_FnLinesOfBooks.j0 k t395 t396 t397 t400 t401 bt408.1 bt408.2.1 true))) else (laws_FnLinesOfBooks.j0 k t395 t396 t397 t400 t401 bt408.1 bt408.2.1 true)))))))) = some r := H
  have A5 := Aside0.mk A50
  clear A50
  replace H := Option.bind_eq_some_iff.mp H
  obtain ⟨⟨t404, t405⟩, A60, H⟩ := H
  replace H : ((impl_BusiestStation.f k t395 t396 t397).bind fun bt408 => ((spec_BusiestStation.f k t395 t396 t397).bind fun bt411 => ((spec_DrawRightBlock.f k l0).bind fun t414 => ((impl_RightBlock.f k t414).bind fun bt415 => ((spec_RightBlock.f k t414).bind fun bt419 => (if t401 = t405 then ((laws_likeInts.f k t400 t404).bind fun t423 => (if t423 = true then (if bt408.2.2 = bt411.2.2 then (if bt408.1 = bt411.1 then (if bt408.2.1 = bt411.2.1 then (if bt415.2 = bt419.2 then ((laws_likeInts.f k bt415.1 bt419.1).bind fun t424 => (if t424 = true then ((impl_AreFaults.f k t395 t396 t397).bind fun t425 => (laws_FnLinesOfBooks.j0 k t395 t396 t397 t400 t401 bt408.1 bt408.2.1 (t425 != (t405 == 0)))) else (laws_FnLinesOfBooks.j0 k t395 t396 t397 t400 t401 bt408.1 bt408.2.1 true))) else (laws_FnLinesOfBooks.j0 k t395 t396 t397 t400 t401 bt408.1 bt408.2.1 true)) else (laws_FnLinesOfBooks.j0 k t395 t396 t397 t400 t401 bt408.1 bt408.2.1 true)) else (laws_FnLinesOfBooks.j0 k t395 t396 t397 t400 t401 bt408.1 bt408.2.1 true)) else (laws_FnLinesOfBooks.j0 k t395 t396 t397 t400 t401 bt408.1 bt408.2.1 true)) else (laws_FnLinesOfBooks.j0 k t395 t396 t397 t400 t401 bt408.1 bt408.2.1 true))) else (laws_FnLinesOfBooks.j0 k t395 t396 t397 t400 t401 bt408.1 bt408.2.1 true))))))) = some r := H
  have A6 := Aside0.mk A60
  clear A60
  replace H := Option.bind_eq_some_iff.mp H
  obtain ⟨⟨t408, t409, t410⟩, A70, H⟩ := H
  replace H : ((spec_BusiestStation.f k t395 t396 t397).bind fun bt411 => ((spec_DrawRightBlock.f k l0).bind fun t414 => ((impl_RightBlock.f k t414).bind fun bt415 => ((spec_RightBlock.f k t414).bind fun bt419 => (if t401 = t405 then ((laws_likeInts.f k t400 t404).bind fun t423 => (if t423 = true then (if t410 = bt411.2.2 then (if t408 = bt411.1 then (if t409 = bt411.2.1 then (if bt415.2 = bt419.2 then ((laws_likeInts.f k bt415.1 bt419.1).bind fun t424 => (if t424 = true then ((impl_AreFaults.f k t395 t396 t397).bind fun t425 => (laws_FnLinesOfBooks.j0 k t395 t396 t397 t400 t401 t408 t409 (t425 != (t405 == 0)))) else (laws_FnLinesOfBooks.j0 k t395 t396 t397 t400 t401 t408 t409 true))) else (laws_FnLinesOfBooks.j0 k t395 t396 t397 t400 t401 t408 t409 true)) else (laws_FnLinesOfBooks.j0 k t395 t396 t397 t400 t401 t408 t409 true)) else (laws_FnLinesOfBooks.j0 k t395 t396 t397 t400 t401 t408 t409 true)) else (laws_FnLinesOfBooks.j0 k t395 t396 t397 t400 t401 t408 t409 true)) else (laws_FnLinesOfBooks.j0 k t395 t396 t397 t400 t401 t408 t409 true))) else (laws_FnLinesOfBooks.j0 k t395 t396 t397 t400 t401 t408 t409 true)))))) = some r := H
  have A7 := Aside0.mk A70
  clear A70
  replace H := Option.bind_eq_some_iff.mp H
  obtain ⟨⟨t411, t412, t413⟩, A80, H⟩ := H
  replace H : ((spec_DrawRightBlock.f k l0).bind fun t414 => ((impl_RightBlock.f k t414).bind fun bt415 => ((spec_RightBlock.f k t414).bind fun bt419 => (if t401 = t405 then ((laws_likeInts.f k t400 t404).bind fun t423 => (if t423 = true then (if t410 = t413 then (if t408 = t411 then (if t409 = t412 then (if bt415.2 = bt419.2 then ((laws_likeInts.f k bt415.1 bt419.1).bind fun t424 => (if t424 = true then ((impl_AreFaults.f k t395 t396 t397).bind fun t425 => (laws_FnLinesOfBooks.j0 k t395 t396 t397 t400 t401 t408 t409 (t425 != (t405 == 0)))) else (laws_FnLinesOfBooks.j0 k t395 t396 t397 t400 t401 t408 t409 true))) else (laws_FnLinesOfBooks.j0 k t395 t396 t397 t400 t401 t408 t409 true)) else (laws_FnLinesOfBooks.j0 k t395 t396 t397 t400 t401 t408 t409 true)) else (laws_FnLinesOfBooks.j0 k t395 t396 t397 t400 t401 t408 t409 true)) else (laws_FnLinesOfBooks.j0 k t395 t396 t397 t400 t401 t408 t409 true)) else (laws_FnLinesOfBooks.j0 k t395 t396 t397 t400 t401 t408 t409 true))) else (laws_FnLinesOfBooks.j0 k t395 t396 t397 t400 t401 t408 t409 true))))) = some r := H
  have A8 := Aside0.mk A80
  clear A80
  replace H := Option.bind_eq_some_iff.mp H
  obtain ⟨t414, A90, H⟩ := H
  replace H : ((impl_RightBlock.f k t414).bind fun bt415 => ((spec_RightBlock.f k t414).bind fun bt419 => (if t401 = t405 then ((laws_likeInts.f k t400 t404).bind fun t423 => (if t423 = true then (if t410 = t413 then (if t408 = t411 then (if t409 = t412 then (if bt415.2 = bt419.2 then ((laws_likeInts.f k bt415.1 bt419.1).bind fun t424 => (if t424 = true then ((impl_AreFaults.f k t395 t396 t397).bind fun t425 => (laws_FnLinesOfBooks.j0 k t395 t396 t397 t400 t401 t408 t409 (t425 != (t405 == 0)))) else (laws_FnLinesOfBooks.j0 k t395 t396 t397 t400 t401 t408 t409 true))) else (laws_FnLinesOfBooks.j0 k t395 t396 t397 t400 t401 t408 t409 true)) else (laws_FnLinesOfBooks.j0 k t395 t396 t397 t400 t401 t408 t409 true)) else (laws_FnLinesOfBooks.j0 k t395 t396 t397 t400 t401 t408 t409 true)) else (laws_FnLinesOfBooks.j0 k t395 t396 t397 t400 t401 t408 t409 true)) else (laws_FnLinesOfBooks.j0 k t395 t396 t397 t400 t401 t408 t409 true))) else (laws_FnLinesOfBooks.j0 k t395 t396 t397 t400 t401 t408 t409 true)))) = some r := H
  have A9 := Aside0.mk A90
  clear A90
  replace H := Option.bind_eq_some_iff.mp H
  obtain ⟨⟨t415, t416⟩, A100, H⟩ := H
  replace H : ((spec_RightBlock.f k t414).bind fun bt419 => (if t401 = t405 then ((laws_likeInts.f k t400 t404).bind fun t423 => (if t423 = true then (if t410 = t413 then (if t408 = t411 then (if t409 = t412 then (if t416 = bt419.2 then ((laws_likeInts.f k t415 bt419.1).bind fun t424 => (if t424 = true then ((impl_AreFaults.f k t395 t396 t397).bind fun t425 => (laws_FnLinesOfBooks.j0 k t395 t396 t397 t400 t401 t408 t409 (t425 != (t405 == 0)))) else (laws_FnLinesOfBooks.j0 k t395 t396 t397 t400 t401 t408 t409 true))) else (laws_FnLinesOfBooks.j0 k t395 t396 t397 t400 t401 t408 t409 true)) else (laws_FnLinesOfBooks.j0 k t395 t396 t397 t400 t401 t408 t409 true)) else (laws_FnLinesOfBooks.j0 k t395 t396 t397 t400 t401 t408 t409 true)) else (laws_FnLinesOfBooks.j0 k t395 t396 t397 t400 t401 t408 t409 true)) else (laws_FnLinesOfBooks.j0 k t395 t396 t397 t400 t401 t408 t409 true))) else (laws_FnLinesOfBooks.j0 k t395 t396 t397 t400 t401 t408 t409 true))) = some r := H
  have A10 := Aside0.mk A100
  clear A100
  replace H := Option.bind_eq_some_iff.mp H
  obtain ⟨⟨t419, t420⟩, A110, H⟩ := H
  replace H : (if t401 = t405 then ((laws_likeInts.f k t400 t404).bind fun t423 => (if t423 = true then (if t410 = t413 then (if t408 = t411 then (if t409 = t412 then (if t416 = t420 then ((laws_likeInts.f k t415 t419).bind fun t424 => (if t424 = true then ((impl_AreFaults.f k t395 t396 t397).bind fun t425 => (laws_FnLinesOfBooks.j0 k t395 t396 t397 t400 t401 t408 t409 (t425 != (t405 == 0)))) else (laws_FnLinesOfBooks.j0 k t395 t396 t397 t400 t401 t408 t409 true))) else (laws_FnLinesOfBooks.j0 k t395 t396 t397 t400 t401 t408 t409 true)) else (laws_FnLinesOfBooks.j0 k t395 t396 t397 t400 t401 t408 t409 true)) else (laws_FnLinesOfBooks.j0 k t395 t396 t397 t400 t401 t408 t409 true)) else (laws_FnLinesOfBooks.j0 k t395 t396 t397 t400 t401 t408 t409 true)) else (laws_FnLinesOfBooks.j0 k t395 t396 t397 t400 t401 t408 t409 true))) else (laws_FnLinesOfBooks.j0 k t395 t396 t397 t400 t401 t408 t409 true)) = some r := H
  have A11 := Aside0.mk A110
  clear A110
  have HC12 := Aside0.mk H
  clear H
  go_enter Try.func11, Try.ntmps11
  go_upto_region 11 with (first | ((with_reducible refine gate_callee (f := 40) rfl ?_); refine goesL_ (some 31) rfl rfl Try.func40 (by kernel_rfl) rfl #[.slice A0 l0.length c0] rfl (by (try simp only [List.map_toArray, List.map_cons, List.map_nil]); first | done | rfl | (simp only [List.length_drop, List.length_take]; rfl)) ?_; (with_reducible refine (laws_big.calls _ _ l0 false _ ?side1 ?side2 A2.out).mono ?_); (case side1 => repeat (first | exact HR0.out | (with_reducible refine Kd.C_alloc ?_ _) | (with_reducible refine Kd.C_drewN ?_ _) | (with_reducible refine Kd.C_drew ?_))); (case side2 => exact HC0.out); rintro e w' ⟨rfl, ⟨nd, rfl⟩⟩; refine ⟨_, rfl, ?_⟩) | ((with_reducible refine gate_callee (f := 41) rfl ?_); refine goesL_ (some 34) rfl rfl Try.func41 (by kernel_rfl) rfl #[.slice A0 l0.length c0] rfl (by (try simp only [List.map_toArray, List.map_cons, List.map_nil]); first | done | rfl | (simp only [List.length_drop, List.length_take]; rfl)) ?_; (with_reducible refine (spec_DrawWrongBooks.calls k _ _ l0 t395 t396 t397 _ ?side1 ?side2 A4.out).mono ?_); (case side1 => repeat (first | exact HR0.out | (with_reducible refine Kd.C_alloc ?_ _) | (with_reducible refine Kd.C_drewN ?_ _) | (with_reducible refine Kd.C_drew ?_))); (case side2 => exact HC0.out); rintro e w13 ⟨v398, rfl, ho0, hb⟩; refine ⟨_, rfl, ?_⟩; have n0_ := Aside0.mk (Kd.R_lower ho0 (below_size (by repeat (first | (with_reducible first | exact HB.out | apply below_alloc | apply pw_below_drewN | apply below_drew1) | exact HB.out)))); have n1_ := Aside0.mk (below_step (by repeat (first | (with_reducible first | exact HB.out | apply below_alloc | apply pw_below_drewN | apply below_drew1) | exact HB.out)) hb); clear HB; have HO399 := n0_; have HB := n1_; clear n0_ n1_; (try clear hb); (try clear ho0); obtain ⟨Ao14, co14, eo14⟩ := Kd.R_slice HO399.out; subst eo14) | ((with_reducible refine gate_callee (f := 39) rfl ?_); refine goesL_ (some 42) rfl rfl Try.func39 (by kernel_rfl) rfl #[.int .i64 t395, .int .i64 t396, .slice Ao14 t397.length co14] rfl (by (try simp only [List.map_toArray, List.map_cons, List.map_nil]); first | done | rfl | (simp only [List.length_drop, List.length_take]; rfl)) ?_; (with_reducible refine (impl_WrongBooks.calls k t395 t396 _ _ t397 t400 t401 _ ?side1 ?side2 A5.out).mono ?_); (case side1 => repeat (first | exact (Kd.R_reads' HO399.out).2.2 | (with_reducible refine Kd.C_alloc ?_ _) | (with_reducible refine Kd.C_drewN ?_ _) | (with_reducible refine Kd.C_drew ?_))); (case side2 => exact (Kd.R_reads' HO399.out).2.1); rintro e w15 ⟨v402, rfl, ho0, hb⟩; refine ⟨_, rfl, ?_⟩; have n0_ := Aside0.mk (Kd.R_below (by (with_reducible repeat (first | apply Kd.R_alloc | apply Kd.R_drewN | apply Kd.R_drew)); exact HO399.out) hb); have n1_ := Aside0.mk (Kd.R_lower ho0 (below_size (by repeat (first | (with_reducible first | exact HB.out | apply below_alloc | apply pw_below_drewN | apply below_drew1) | exact HB.out)))); have n2_ := Aside0.mk (below_step (by repeat (first | (with_reducible first | exact HB.out | apply below_alloc | apply pw_below_drewN | apply below_drew1) | exact HB.out)) hb); clear HO399; clear HB; have HO399 := n0_; have HO403 := n1_; have HB := n2_; clear n0_ n1_ n2_; (try clear hb); (try clear ho0)) | ((with_reducible refine gate_callee (f := 38) rfl ?_); refine goesL_ (some 49) rfl rfl Try.func38 (by kernel_rfl) rfl #[.int .i64 t395, .int .i64 t396, .slice Ao14 t397.length co14] rfl (by (try simp only [List.map_toArray, List.map_cons, List.map_nil]); first | done | rfl | (simp only [List.length_drop, List.length_take]; rfl)) ?_; (with_reducible refine (spec_WrongBooks.calls k t395 t396 _ _ t397 t404 t405 _ ?side1 ?side2 A6.out).mono ?_); (case side1 => repeat (first | exact (Kd.R_reads' HO399.out).2.2 | (with_reducible refine Kd.C_alloc ?_ _) | (with_reducible refine Kd.C_drewN ?_ _) | (with_reducible refine Kd.C_drew ?_))); (case side2 => exact (Kd.R_reads' HO399.out).2.1); rintro e w16 ⟨v406, rfl, ho0, hb⟩; refine ⟨_, rfl, ?_⟩; have n0_ := Aside0.mk (Kd.R_below (by (with_reducible repeat (first | apply Kd.R_alloc | apply Kd.R_drewN | apply Kd.R_drew)); exact HO399.out) hb); have n1_ := Aside0.mk (Kd.R_elder' (by (with_reducible repeat (first | apply Kd.R_alloc | apply Kd.R_drewN | apply Kd.R_drew)); exact HO403.out) (Kd.R_base ho0) hb); have n2_ := Aside0.mk (Kd.R_lower (Kd.R_new' ho0 (Kd.R_lt (by (with_reducible repeat (first | apply Kd.R_alloc | apply Kd.R_drewN | apply Kd.R_drew)); exact HO403.out))) (below_size (by repeat (first | (with_reducible first | exact HB.out | apply below_alloc | apply pw_below_drewN | apply below_drew1) | exact HB.out)))); have n3_ := Aside0.mk (below_step (by repeat (first | (with_reducible first | exact HB.out | apply below_alloc | apply pw_below_drewN | apply below_drew1) | exact HB.out)) hb); clear HO399; clear HO403; clear HB; have HO399 := n0_; have HO403 := n1_; have HO407 := n2_; have HB := n3_; clear n0_ n1_ n2_ n3_; (try clear hb); (try clear ho0)) | ((with_reducible refine gate_callee (f := 27) rfl ?_); refine goesL_ (some 56) rfl rfl Try.func27 (by kernel_rfl) rfl #[.int .i64 t395, .int .i64 t396, .slice Ao14 t397.length co14] rfl (by (try simp only [List.map_toArray, List.map_cons, List.map_nil]); first | done | rfl | (simp only [List.length_drop, List.length_take]; rfl)) ?_; (with_reducible refine (impl_BusiestStation.calls k t395 t396 _ _ t397 t408 t409 t410 _ ?side1 ?side2 A7.out).mono ?_); (case side1 => repeat (first | exact (Kd.R_reads' HO399.out).2.2 | (with_reducible refine Kd.C_alloc ?_ _) | (with_reducible refine Kd.C_drewN ?_ _) | (with_reducible refine Kd.C_drew ?_))); (case side2 => exact (Kd.R_reads' HO399.out).2.1); rintro e w17 ⟨rfl, hb⟩; refine ⟨_, rfl, ?_⟩; have n0_ := Aside0.mk (Kd.R_below (by (with_reducible repeat (first | apply Kd.R_alloc | apply Kd.R_drewN | apply Kd.R_drew)); exact HO399.out) hb); have n1_ := Aside0.mk (Kd.R_below (by (with_reducible repeat (first | apply Kd.R_alloc | apply Kd.R_drewN | apply Kd.R_drew)); exact HO403.out) hb); have n2_ := Aside0.mk (Kd.R_below (by (with_reducible repeat (first | apply Kd.R_alloc | apply Kd.R_drewN | apply Kd.R_drew)); exact HO407.out) hb); have n3_ := Aside0.mk (below_step (by repeat (first | (with_reducible first | exact HB.out | apply below_alloc | apply pw_below_drewN | apply below_drew1) | exact HB.out)) hb); clear HO399; clear HO403; clear HO407; clear HB; have HO399 := n0_; have HO403 := n1_; have HO407 := n2_; have HB := n3_; clear n0_ n1_ n2_ n3_; (try clear hb)) | ((with_reducible refine gate_callee (f := 26) rfl ?_); refine goesL_ (some 64) rfl rfl Try.func26 (by kernel_rfl) rfl #[.int .i64 t395, .int .i64 t396, .slice Ao14 t397.length co14] rfl (by (try simp only [List.map_toArray, List.map_cons, List.map_nil]); first | done | rfl | (simp only [List.length_drop, List.length_take]; rfl)) ?_; (with_reducible refine (spec_BusiestStation.calls k t395 t396 _ _ t397 t411 t412 t413 _ ?side1 ?side2 A8.out).mono ?_); (case side1 => repeat (first | exact (Kd.R_reads' HO399.out).2.2 | (with_reducible refine Kd.C_alloc ?_ _) | (with_reducible refine Kd.C_drewN ?_ _) | (with_reducible refine Kd.C_drew ?_))); (case side2 => exact (Kd.R_reads' HO399.out).2.1); rintro e w18 ⟨rfl, hb⟩; refine ⟨_, rfl, ?_⟩; have n0_ := Aside0.mk (Kd.R_below (by (with_reducible repeat (first | apply Kd.R_alloc | apply Kd.R_drewN | apply Kd.R_drew)); exact HO399.out) hb); have n1_ := Aside0.mk (Kd.R_below (by (with_reducible repeat (first | apply Kd.R_alloc | apply Kd.R_drewN | apply Kd.R_drew)); exact HO403.out) hb); have n2_ := Aside0.mk (Kd.R_below (by (with_reducible repeat (first | apply Kd.R_alloc | apply Kd.R_drewN | apply Kd.R_drew)); exact HO407.out) hb); have n3_ := Aside0.mk (below_step (by repeat (first | (with_reducible first | exact HB.out | apply below_alloc | apply pw_below_drewN | apply below_drew1) | exact HB.out)) hb); clear HO399; clear HO403; clear HO407; clear HB; have HO399 := n0_; have HO403 := n1_; have HO407 := n2_; have HB := n3_; clear n0_ n1_ n2_ n3_; (try clear hb)) | ((with_reducible refine gate_callee (f := 42) rfl ?_); refine goesL_ (some 69) rfl rfl Try.func42 (by kernel_rfl) rfl #[.slice A0 l0.length c0] rfl (by (try simp only [List.map_toArray, List.map_cons, List.map_nil]); first | done | rfl | (simp only [List.length_drop, List.length_take]; rfl)) ?_; (with_reducible refine (spec_DrawRightBlock.calls k _ _ l0 t414 _ ?side1 ?side2 A9.out).mono ?_); (case side1 => repeat (first | exact (Kd.C_below HR0.out HB.out) | (with_reducible refine Kd.C_alloc ?_ _) | (with_reducible refine Kd.C_drewN ?_ _) | (with_reducible refine Kd.C_drew ?_))); (case side2 => exact HC0.out); rintro e w19 ⟨rfl, hb⟩; refine ⟨_, rfl, ?_⟩; have n0_ := Aside0.mk (Kd.R_below (by (with_reducible repeat (first | apply Kd.R_alloc | apply Kd.R_drewN | apply Kd.R_drew)); exact HO399.out) hb); have n1_ := Aside0.mk (Kd.R_below (by (with_reducible repeat (first | apply Kd.R_alloc | apply Kd.R_drewN | apply Kd.R_drew)); exact HO403.out) hb); have n2_ := Aside0.mk (Kd.R_below (by (with_reducible repeat (first | apply Kd.R_alloc | apply Kd.R_drewN | apply Kd.R_drew)); exact HO407.out) hb); have n3_ := Aside0.mk (below_step (by repeat (first | (with_reducible first | exact HB.out | apply below_alloc | apply pw_below_drewN | apply below_drew1) | exact HB.out)) hb); clear HO399; clear HO403; clear HO407; clear HB; have HO399 := n0_; have HO403 := n1_; have HO407 := n2_; have HB := n3_; clear n0_ n1_ n2_ n3_; (try clear hb)) | ((with_reducible refine gate_callee (f := 14) rfl ?_); refine goesL_ (some 72) rfl rfl Try.func14 (by kernel_rfl) rfl #[.int .i64 t414] rfl (by (try simp only [List.map_toArray, List.map_cons, List.map_nil]); first | done | rfl | (simp only [List.length_drop, List.length_take]; rfl)) ?_; (with_reducible refine (impl_RightBlock.calls k t414 t415 t416 _ A10.out).mono ?_); rintro e w20 ⟨v417, rfl, ho0, hb⟩; refine ⟨_, rfl, ?_⟩; have n0_ := Aside0.mk (Kd.R_below (by (with_reducible repeat (first | apply Kd.R_alloc | apply Kd.R_drewN | apply Kd.R_drew)); exact HO399.out) hb); have n1_ := Aside0.mk (Kd.R_elder' (by (with_reducible repeat (first | apply Kd.R_alloc | apply Kd.R_drewN | apply Kd.R_drew)); exact HO403.out) (Kd.R_base ho0) hb); have n2_ := Aside0.mk (Kd.R_elder' (by (with_reducible repeat (first | apply Kd.R_alloc | apply Kd.R_drewN | apply Kd.R_drew)); exact HO407.out) (Kd.R_base ho0) hb); have n3_ := Aside0.mk (Kd.R_lower (Kd.R_new' (Kd.R_new' ho0 (Kd.R_lt (by (with_reducible repeat (first | apply Kd.R_alloc | apply Kd.R_drewN | apply Kd.R_drew)); exact HO403.out))) (Kd.R_lt (by (with_reducible repeat (first | apply Kd.R_alloc | apply Kd.R_drewN | apply Kd.R_drew)); exact HO407.out))) (below_size (by repeat (first | (with_reducible first | exact HB.out | apply below_alloc | apply pw_below_drewN | apply below_drew1) | exact HB.out)))); have n4_ := Aside0.mk (below_step (by repeat (first | (with_reducible first | exact HB.out | apply below_alloc | apply pw_below_drewN | apply below_drew1) | exact HB.out)) hb); clear HO399; clear HO403; clear HO407; clear HB; have HO399 := n0_; have HO403 := n1_; have HO407 := n2_; have HO418 := n3_; have HB := n4_; clear n0_ n1_ n2_ n3_ n4_; (try clear hb); (try clear ho0)) | ((with_reducible refine gate_callee (f := 13) rfl ?_); refine goesL_ (some 77) rfl rfl Try.func13 (by kernel_rfl) rfl #[.int .i64 t414] rfl (by (try simp only [List.map_toArray, List.map_cons, List.map_nil]); first | done | rfl | (simp only [List.length_drop, List.length_take]; rfl)) ?_; (with_reducible refine (spec_RightBlock.calls k t414 t419 t420 _ A11.out).mono ?_); rintro e w21 ⟨v421, rfl, ho0, hb⟩; refine ⟨_, rfl, ?_⟩; have n0_ := Aside0.mk (Kd.R_below (by (with_reducible repeat (first | apply Kd.R_alloc | apply Kd.R_drewN | apply Kd.R_drew)); exact HO399.out) hb); have n1_ := Aside0.mk (Kd.R_elder' (by (with_reducible repeat (first | apply Kd.R_alloc | apply Kd.R_drewN | apply Kd.R_drew)); exact HO403.out) (Kd.R_base ho0) hb); have n2_ := Aside0.mk (Kd.R_elder' (by (with_reducible repeat (first | apply Kd.R_alloc | apply Kd.R_drewN | apply Kd.R_drew)); exact HO407.out) (Kd.R_base ho0) hb); have n3_ := Aside0.mk (Kd.R_elder' (by (with_reducible repeat (first | apply Kd.R_alloc | apply Kd.R_drewN | apply Kd.R_drew)); exact HO418.out) (Kd.R_base ho0) hb); have n4_ := Aside0.mk (Kd.R_lower (Kd.R_new' (Kd.R_new' (Kd.R_new' ho0 (Kd.R_lt (by (with_reducible repeat (first | apply Kd.R_alloc | apply Kd.R_drewN | apply Kd.R_drew)); exact HO403.out))) (Kd.R_lt (by (with_reducible repeat (first | apply Kd.R_alloc | apply Kd.R_drewN | apply Kd.R_drew)); exact HO407.out))) (Kd.R_lt (by (with_reducible repeat (first | apply Kd.R_alloc | apply Kd.R_drewN | apply Kd.R_drew)); exact HO418.out))) (below_size (by repeat (first | (with_reducible first | exact HB.out | apply below_alloc | apply pw_below_drewN | apply below_drew1) | exact HB.out)))); have n5_ := Aside0.mk (below_step (by repeat (first | (with_reducible first | exact HB.out | apply below_alloc | apply pw_below_drewN | apply below_drew1) | exact HB.out)) hb); clear HO399; clear HO403; clear HO407; clear HO418; clear HB; have HO399 := n0_; have HO403 := n1_; have HO407 := n2_; have HO418 := n3_; have HO422 := n4_; have HB := n5_; clear n0_ n1_ n2_ n3_ n4_ n5_; (try clear hb); (try clear ho0)))
  (try simp only [Act.put, List.setIfInBounds_toArray, List.set_cons_zero, List.set_cons_succ])
  go_cut [123] (fun v123 wc => ∃ (kq : Nat) (x123_11 : Bool), v123 = .bool x123_11 ∧ Aside0 (laws_FnLinesOfBooks.j0 kq t395 t396 t397 t400 t401 t408 t409 x123_11 = some r) ∧ Aside0 (kq ≤ k) ∧ Aside0 (Kd.R k55 55 wc w.heap.size (fun _ => True) (.slice Ao14 t397.length co14) t397) ∧ Aside0 (Kd.R (Kd.int .i64) 2 wc w.heap.size (fun _ => True) v402 t400) ∧ Aside0 (Below w.heap.size w wc))
  case first =>
   have H := HC12.out
   clear HC12
   by_cases c22 : t401 = t405
   ·rw [if_pos c22] at H
    have c22b0 : (t401 == t405) = true := beq_iff_eq.mpr c22
    have c22b1 : (t401 != t405) = false := bne_eq_false_iff_eq.mpr c22
    clear c22
    (first | rw [c22b0] | (simp only [i64_w, i32_w]; rw [c22b0]) | skip)
    replace H := Option.bind_eq_some_iff.mp H
    obtain ⟨t423, A230, H⟩ := H
    replace H : (if t423 = true then (if t410 = t413 then (if t408 = t411 then (if t409 = t412 then (if t416 = t420 then ((laws_likeInts.f k t415 t419).bind fun t424 => (if t424 = true then ((impl_AreFaults.f k t395 t396 t397).bind fun t425 => (laws_FnLinesOfBooks.j0 k t395 t396 t397 t400 t401 t408 t409 (t425 != (t405 == 0)))) else (laws_FnLinesOfBooks.j0 k t395 t396 t397 t400 t401 t408 t409 true))) else (laws_FnLinesOfBooks.j0 k t395 t396 t397 t400 t401 t408 t409 true)) else (laws_FnLinesOfBooks.j0 k t395 t396 t397 t400 t401 t408 t409 true)) else (laws_FnLinesOfBooks.j0 k t395 t396 t397 t400 t401 t408 t409 true)) else (laws_FnLinesOfBooks.j0 k t395 t396 t397 t400 t401 t408 t409 true)) else (laws_FnLinesOfBooks.j0 k t395 t396 t397 t400 t401 t408 t409 true)) = some r := H
    have A23 := Aside0.mk A230
    clear A230
    by_cases c24 : t423 = true
    ·subst c24
     have H1 : (if t410 = t413 then (if t408 = t411 then (if t409 = t412 then (if t416 = t420 then ((laws_likeInts.f k t415 t419).bind fun t424 => (if t424 = true then ((impl_AreFaults.f k t395 t396 t397).bind fun t425 => (laws_FnLinesOfBooks.j0 k t395 t396 t397 t400 t401 t408 t409 (t425 != (t405 == 0)))) else (laws_FnLinesOfBooks.j0 k t395 t396 t397 t400 t401 t408 t409 true))) else (laws_FnLinesOfBooks.j0 k t395 t396 t397 t400 t401 t408 t409 true)) else (laws_FnLinesOfBooks.j0 k t395 t396 t397 t400 t401 t408 t409 true)) else (laws_FnLinesOfBooks.j0 k t395 t396 t397 t400 t401 t408 t409 true)) else (laws_FnLinesOfBooks.j0 k t395 t396 t397 t400 t401 t408 t409 true)) = some r := by rw [if_pos rfl] at H; exact H
     clear H
     have H := H1
     clear H1
     by_cases c25 : t410 = t413
     ·rw [if_pos c25] at H
      have c25b0 : (t410 == t413) = true := beq_iff_eq.mpr c25
      have c25b1 : (t410 != t413) = false := bne_eq_false_iff_eq.mpr c25
      clear c25
      by_cases c26 : t408 = t411
      ·rw [if_pos c26] at H
       have c26b0 : (t408 == t411) = true := beq_iff_eq.mpr c26
       have c26b1 : (t408 != t411) = false := bne_eq_false_iff_eq.mpr c26
       clear c26
       by_cases c27 : t409 = t412
       ·rw [if_pos c27] at H
        have c27b0 : (t409 == t412) = true := beq_iff_eq.mpr c27
        have c27b1 : (t409 != t412) = false := bne_eq_false_iff_eq.mpr c27
        clear c27
        by_cases c28 : t416 = t420
        ·rw [if_pos c28] at H
         have c28b0 : (t416 == t420) = true := beq_iff_eq.mpr c28
         have c28b1 : (t416 != t420) = false := bne_eq_false_iff_eq.mpr c28
         clear c28
         replace H := Option.bind_eq_some_iff.mp H
         obtain ⟨t424, A290, H⟩ := H
         replace H : (if t424 = true then ((impl_AreFaults.f k t395 t396 t397).bind fun t425 => (laws_FnLinesOfBooks.j0 k t395 t396 t397 t400 t401 t408 t409 (t425 != (t405 == 0)))) else (laws_FnLinesOfBooks.j0 k t395 t396 t397 t400 t401 t408 t409 true)) = some r := H
         have A29 := Aside0.mk A290
         clear A290
         by_cases c30 : t424 = true
         ·subst c30
          have H1 : ((impl_AreFaults.f k t395 t396 t397).bind fun t425 => (laws_FnLinesOfBooks.j0 k t395 t396 t397 t400 t401 t408 t409 (t425 != (t405 == 0)))) = some r := by rw [if_pos rfl] at H; exact H
          clear H
          have H := H1
          clear H1
          replace H := Option.bind_eq_some_iff.mp H
          obtain ⟨t425, A310, H⟩ := H
          replace H : (laws_FnLinesOfBooks.j0 k t395 t396 t397 t400 t401 t408 t409 (t425 != (t405 == 0))) = some r := H
          have A31 := Aside0.mk A310
          clear A310
          have H' := Aside0.mk H
          clear H
          obtain ⟨Ao32, co32, eo32⟩ := Kd.R_slice HO403.out
          subst eo32
          obtain ⟨Ao33, co33, eo33⟩ := Kd.R_slice HO407.out
          subst eo33
          go_wp2_with (first | (go_at_call 43; (with_reducible refine (laws_likeInts.calls k _ _ t400 _ _ t404 true _ ?side1 ?side2 ?side3 ?side4 A23.out).mono ?_); (case side1 => repeat (first | exact (Kd.R_reads' HO403.out).2.2 | (with_reducible refine Kd.C_alloc ?_ _) | (with_reducible refine Kd.C_drewN ?_ _) | (with_reducible refine Kd.C_drew ?_))); (case side2 => exact (Kd.R_reads' HO403.out).2.1); (case side3 => repeat (first | exact (Kd.R_reads' HO407.out).2.2 | (with_reducible refine Kd.C_alloc ?_ _) | (with_reducible refine Kd.C_drewN ?_ _) | (with_reducible refine Kd.C_drew ?_))); (case side4 => exact (Kd.R_reads' HO407.out).2.1); rintro e w' ⟨rfl, ⟨nd, rfl⟩⟩; obtain ⟨Ao34, co34, eo34⟩ := Kd.R_slice HO418.out; subst eo34; obtain ⟨Ao35, co35, eo35⟩ := Kd.R_slice HO422.out; subst eo35) | (go_at_call 43; (with_reducible refine (laws_likeInts.calls k _ _ t415 _ _ t419 true _ ?side1 ?side2 ?side3 ?side4 A29.out).mono ?_); (case side1 => repeat (first | exact (Kd.R_reads' HO418.out).2.2 | (with_reducible refine Kd.C_alloc ?_ _) | (with_reducible refine Kd.C_drewN ?_ _) | (with_reducible refine Kd.C_drew ?_))); (case side2 => exact (Kd.R_reads' HO418.out).2.1); (case side3 => repeat (first | exact (Kd.R_reads' HO422.out).2.2 | (with_reducible refine Kd.C_alloc ?_ _) | (with_reducible refine Kd.C_drewN ?_ _) | (with_reducible refine Kd.C_drew ?_))); (case side4 => exact (Kd.R_reads' HO422.out).2.1); rintro e w' ⟨rfl, ⟨nd, rfl⟩⟩) | (go_at_call 21; (with_reducible refine (impl_AreFaults.calls k t395 t396 _ _ t397 t425 _ ?side1 ?side2 A31.out).mono ?_); (case side1 => repeat (first | exact (Kd.R_reads' HO399.out).2.2 | (with_reducible refine Kd.C_alloc ?_ _) | (with_reducible refine Kd.C_drewN ?_ _) | (with_reducible refine Kd.C_drew ?_))); (case side2 => exact (Kd.R_reads' HO399.out).2.1); rintro e w36 ⟨rfl, hb⟩; have n0_ := Aside0.mk (Kd.R_below (by (with_reducible repeat (first | apply Kd.R_alloc | apply Kd.R_drewN | apply Kd.R_drew)); exact HO399.out) hb); have n1_ := Aside0.mk (Kd.R_below (by (with_reducible repeat (first | apply Kd.R_alloc | apply Kd.R_drewN | apply Kd.R_drew)); exact HO403.out) hb); have n2_ := Aside0.mk (Kd.R_below (by (with_reducible repeat (first | apply Kd.R_alloc | apply Kd.R_drewN | apply Kd.R_drew)); exact HO407.out) hb); have n3_ := Aside0.mk (Kd.R_below (by (with_reducible repeat (first | apply Kd.R_alloc | apply Kd.R_drewN | apply Kd.R_drew)); exact HO418.out) hb); have n4_ := Aside0.mk (Kd.R_below (by (with_reducible repeat (first | apply Kd.R_alloc | apply Kd.R_drewN | apply Kd.R_drew)); exact HO422.out) hb); have n5_ := Aside0.mk (below_step (by repeat (first | (with_reducible first | exact HB.out | apply below_alloc | apply pw_below_drewN | apply below_drew1) | exact HB.out)) hb); clear HO399; clear HO403; clear HO407; clear HO418; clear HO422; clear HB; have HO399 := n0_; have HO403 := n1_; have HO407 := n2_; have HO418 := n3_; have HO422 := n4_; have HB := n5_; clear n0_ n1_ n2_ n3_ n4_ n5_; (try clear hb)))
          go_meet
          case rel => exact ⟨_, ((t425 != (t405 == 0))), (by first | rfl | (simp; done) | (simp [*]; done)), H', ⟨by first | omega | exact Nat.le_refl _⟩, ⟨by (with_reducible repeat (first | apply Kd.R_alloc | apply Kd.R_drewN | apply Kd.R_drew)); exact HO399.out⟩, ⟨by (with_reducible repeat (first | apply Kd.R_alloc | apply Kd.R_drewN | apply Kd.R_drew)); exact Kd.R_mono HO403.out (fun _ hk => trivial)⟩, ⟨by repeat (first | (with_reducible first | exact HB.out | apply below_alloc | apply pw_below_drewN | apply below_drew1) | exact HB.out)⟩⟩
         ·replace c30 := Bool.eq_false_iff.mpr c30
          subst c30
          have H1 : (laws_FnLinesOfBooks.j0 k t395 t396 t397 t400 t401 t408 t409 true) = some r := by rw [if_neg (show ¬ (false = true) by decide)] at H; exact H
          clear H
          have H := H1
          clear H1
          have H' := Aside0.mk H
          clear H
          obtain ⟨Ao37, co37, eo37⟩ := Kd.R_slice HO403.out
          subst eo37
          obtain ⟨Ao38, co38, eo38⟩ := Kd.R_slice HO407.out
          subst eo38
          go_wp2_with (first | (go_at_call 43; (with_reducible refine (laws_likeInts.calls k _ _ t400 _ _ t404 true _ ?side1 ?side2 ?side3 ?side4 A23.out).mono ?_); (case side1 => repeat (first | exact (Kd.R_reads' HO403.out).2.2 | (with_reducible refine Kd.C_alloc ?_ _) | (with_reducible refine Kd.C_drewN ?_ _) | (with_reducible refine Kd.C_drew ?_))); (case side2 => exact (Kd.R_reads' HO403.out).2.1); (case side3 => repeat (first | exact (Kd.R_reads' HO407.out).2.2 | (with_reducible refine Kd.C_alloc ?_ _) | (with_reducible refine Kd.C_drewN ?_ _) | (with_reducible refine Kd.C_drew ?_))); (case side4 => exact (Kd.R_reads' HO407.out).2.1); rintro e w' ⟨rfl, ⟨nd, rfl⟩⟩; obtain ⟨Ao39, co39, eo39⟩ := Kd.R_slice HO418.out; subst eo39; obtain ⟨Ao40, co40, eo40⟩ := Kd.R_slice HO422.out; subst eo40) | (go_at_call 43; (with_reducible refine (laws_likeInts.calls k _ _ t415 _ _ t419 false _ ?side1 ?side2 ?side3 ?side4 A29.out).mono ?_); (case side1 => repeat (first | exact (Kd.R_reads' HO418.out).2.2 | (with_reducible refine Kd.C_alloc ?_ _) | (with_reducible refine Kd.C_drewN ?_ _) | (with_reducible refine Kd.C_drew ?_))); (case side2 => exact (Kd.R_reads' HO418.out).2.1); (case side3 => repeat (first | exact (Kd.R_reads' HO422.out).2.2 | (with_reducible refine Kd.C_alloc ?_ _) | (with_reducible refine Kd.C_drewN ?_ _) | (with_reducible refine Kd.C_drew ?_))); (case side4 => exact (Kd.R_reads' HO422.out).2.1); rintro e w' ⟨rfl, ⟨nd, rfl⟩⟩))
          go_meet
          case rel => exact ⟨_, (true), (by first | rfl | (simp; done) | (simp [*]; done)), H', ⟨by first | omega | exact Nat.le_refl _⟩, ⟨by (with_reducible repeat (first | apply Kd.R_alloc | apply Kd.R_drewN | apply Kd.R_drew)); exact HO399.out⟩, ⟨by (with_reducible repeat (first | apply Kd.R_alloc | apply Kd.R_drewN | apply Kd.R_drew)); exact Kd.R_mono HO403.out (fun _ hk => trivial)⟩, ⟨by repeat (first | (with_reducible first | exact HB.out | apply below_alloc | apply pw_below_drewN | apply below_drew1) | exact HB.out)⟩⟩
        ·rw [if_neg c28] at H
         have c28b0 : (t416 == t420) = false := beq_eq_false_iff_ne.mpr c28
         have c28b1 : (t416 != t420) = true := bne_iff_ne.mpr c28
         have H' := Aside0.mk H
         clear H
         obtain ⟨Ao41, co41, eo41⟩ := Kd.R_slice HO403.out
         subst eo41
         obtain ⟨Ao42, co42, eo42⟩ := Kd.R_slice HO407.out
         subst eo42
         go_wp2_with (first | (go_at_call 43; (with_reducible refine (laws_likeInts.calls k _ _ t400 _ _ t404 true _ ?side1 ?side2 ?side3 ?side4 A23.out).mono ?_); (case side1 => repeat (first | exact (Kd.R_reads' HO403.out).2.2 | (with_reducible refine Kd.C_alloc ?_ _) | (with_reducible refine Kd.C_drewN ?_ _) | (with_reducible refine Kd.C_drew ?_))); (case side2 => exact (Kd.R_reads' HO403.out).2.1); (case side3 => repeat (first | exact (Kd.R_reads' HO407.out).2.2 | (with_reducible refine Kd.C_alloc ?_ _) | (with_reducible refine Kd.C_drewN ?_ _) | (with_reducible refine Kd.C_drew ?_))); (case side4 => exact (Kd.R_reads' HO407.out).2.1); rintro e w' ⟨rfl, ⟨nd, rfl⟩⟩))
         go_meet
         case rel => exact ⟨_, (true), (by first | rfl | (simp; done) | (simp [*]; done)), H', ⟨by first | omega | exact Nat.le_refl _⟩, ⟨by (with_reducible repeat (first | apply Kd.R_alloc | apply Kd.R_drewN | apply Kd.R_drew)); exact HO399.out⟩, ⟨by (with_reducible repeat (first | apply Kd.R_alloc | apply Kd.R_drewN | apply Kd.R_drew)); exact Kd.R_mono HO403.out (fun _ hk => trivial)⟩, ⟨by repeat (first | (with_reducible first | exact HB.out | apply below_alloc | apply pw_below_drewN | apply below_drew1) | exact HB.out)⟩⟩
       ·rw [if_neg c27] at H
        have c27b0 : (t409 == t412) = false := beq_eq_false_iff_ne.mpr c27
        have c27b1 : (t409 != t412) = true := bne_iff_ne.mpr c27
        have H' := Aside0.mk H
        clear H
        obtain ⟨Ao43, co43, eo43⟩ := Kd.R_slice HO403.out
        subst eo43
        obtain ⟨Ao44, co44, eo44⟩ := Kd.R_slice HO407.out
        subst eo44
        go_wp2_with (first | (go_at_call 43; (with_reducible refine (laws_likeInts.calls k _ _ t400 _ _ t404 true _ ?side1 ?side2 ?side3 ?side4 A23.out).mono ?_); (case side1 => repeat (first | exact (Kd.R_reads' HO403.out).2.2 | (with_reducible refine Kd.C_alloc ?_ _) | (with_reducible refine Kd.C_drewN ?_ _) | (with_reducible refine Kd.C_drew ?_))); (case side2 => exact (Kd.R_reads' HO403.out).2.1); (case side3 => repeat (first | exact (Kd.R_reads' HO407.out).2.2 | (with_reducible refine Kd.C_alloc ?_ _) | (with_reducible refine Kd.C_drewN ?_ _) | (with_reducible refine Kd.C_drew ?_))); (case side4 => exact (Kd.R_reads' HO407.out).2.1); rintro e w' ⟨rfl, ⟨nd, rfl⟩⟩))
        go_meet
        case rel => exact ⟨_, (true), (by first | rfl | (simp; done) | (simp [*]; done)), H', ⟨by first | omega | exact Nat.le_refl _⟩, ⟨by (with_reducible repeat (first | apply Kd.R_alloc | apply Kd.R_drewN | apply Kd.R_drew)); exact HO399.out⟩, ⟨by (with_reducible repeat (first | apply Kd.R_alloc | apply Kd.R_drewN | apply Kd.R_drew)); exact Kd.R_mono HO403.out (fun _ hk => trivial)⟩, ⟨by repeat (first | (with_reducible first | exact HB.out | apply below_alloc | apply pw_below_drewN | apply below_drew1) | exact HB.out)⟩⟩
      ·rw [if_neg c26] at H
       have c26b0 : (t408 == t411) = false := beq_eq_false_iff_ne.mpr c26
       have c26b1 : (t408 != t411) = true := bne_iff_ne.mpr c26
       have H' := Aside0.mk H
       clear H
       obtain ⟨Ao45, co45, eo45⟩ := Kd.R_slice HO403.out
       subst eo45
       obtain ⟨Ao46, co46, eo46⟩ := Kd.R_slice HO407.out
       subst eo46
       go_wp2_with (first | (go_at_call 43; (with_reducible refine (laws_likeInts.calls k _ _ t400 _ _ t404 true _ ?side1 ?side2 ?side3 ?side4 A23.out).mono ?_); (case side1 => repeat (first | exact (Kd.R_reads' HO403.out).2.2 | (with_reducible refine Kd.C_alloc ?_ _) | (with_reducible refine Kd.C_drewN ?_ _) | (with_reducible refine Kd.C_drew ?_))); (case side2 => exact (Kd.R_reads' HO403.out).2.1); (case side3 => repeat (first | exact (Kd.R_reads' HO407.out).2.2 | (with_reducible refine Kd.C_alloc ?_ _) | (with_reducible refine Kd.C_drewN ?_ _) | (with_reducible refine Kd.C_drew ?_))); (case side4 => exact (Kd.R_reads' HO407.out).2.1); rintro e w' ⟨rfl, ⟨nd, rfl⟩⟩))
       go_meet
       case rel => exact ⟨_, (true), (by first | rfl | (simp; done) | (simp [*]; done)), H', ⟨by first | omega | exact Nat.le_refl _⟩, ⟨by (with_reducible repeat (first | apply Kd.R_alloc | apply Kd.R_drewN | apply Kd.R_drew)); exact HO399.out⟩, ⟨by (with_reducible repeat (first | apply Kd.R_alloc | apply Kd.R_drewN | apply Kd.R_drew)); exact Kd.R_mono HO403.out (fun _ hk => trivial)⟩, ⟨by repeat (first | (with_reducible first | exact HB.out | apply below_alloc | apply pw_below_drewN | apply below_drew1) | exact HB.out)⟩⟩
     ·rw [if_neg c25] at H
      have c25b0 : (t410 == t413) = false := beq_eq_false_iff_ne.mpr c25
      have c25b1 : (t410 != t413) = true := bne_iff_ne.mpr c25
      have H' := Aside0.mk H
      clear H
      obtain ⟨Ao47, co47, eo47⟩ := Kd.R_slice HO403.out
      subst eo47
      obtain ⟨Ao48, co48, eo48⟩ := Kd.R_slice HO407.out
      subst eo48
      go_wp2_with (first | (go_at_call 43; (with_reducible refine (laws_likeInts.calls k _ _ t400 _ _ t404 true _ ?side1 ?side2 ?side3 ?side4 A23.out).mono ?_); (case side1 => repeat (first | exact (Kd.R_reads' HO403.out).2.2 | (with_reducible refine Kd.C_alloc ?_ _) | (with_reducible refine Kd.C_drewN ?_ _) | (with_reducible refine Kd.C_drew ?_))); (case side2 => exact (Kd.R_reads' HO403.out).2.1); (case side3 => repeat (first | exact (Kd.R_reads' HO407.out).2.2 | (with_reducible refine Kd.C_alloc ?_ _) | (with_reducible refine Kd.C_drewN ?_ _) | (with_reducible refine Kd.C_drew ?_))); (case side4 => exact (Kd.R_reads' HO407.out).2.1); rintro e w' ⟨rfl, ⟨nd, rfl⟩⟩))
      go_meet
      case rel => exact ⟨_, (true), (by first | rfl | (simp; done) | (simp [*]; done)), H', ⟨by first | omega | exact Nat.le_refl _⟩, ⟨by (with_reducible repeat (first | apply Kd.R_alloc | apply Kd.R_drewN | apply Kd.R_drew)); exact HO399.out⟩, ⟨by (with_reducible repeat (first | apply Kd.R_alloc | apply Kd.R_drewN | apply Kd.R_drew)); exact Kd.R_mono HO403.out (fun _ hk => trivial)⟩, ⟨by repeat (first | (with_reducible first | exact HB.out | apply below_alloc | apply pw_below_drewN | apply below_drew1) | exact HB.out)⟩⟩
    ·replace c24 := Bool.eq_false_iff.mpr c24
     subst c24
     have H1 : (laws_FnLinesOfBooks.j0 k t395 t396 t397 t400 t401 t408 t409 true) = some r := by rw [if_neg (show ¬ (false = true) by decide)] at H; exact H
     clear H
     have H := H1
     clear H1
     have H' := Aside0.mk H
     clear H
     obtain ⟨Ao49, co49, eo49⟩ := Kd.R_slice HO403.out
     subst eo49
     obtain ⟨Ao50, co50, eo50⟩ := Kd.R_slice HO407.out
     subst eo50
     go_wp2_with (first | (go_at_call 43; (with_reducible refine (laws_likeInts.calls k _ _ t400 _ _ t404 false _ ?side1 ?side2 ?side3 ?side4 A23.out).mono ?_); (case side1 => repeat (first | exact (Kd.R_reads' HO403.out).2.2 | (with_reducible refine Kd.C_alloc ?_ _) | (with_reducible refine Kd.C_drewN ?_ _) | (with_reducible refine Kd.C_drew ?_))); (case side2 => exact (Kd.R_reads' HO403.out).2.1); (case side3 => repeat (first | exact (Kd.R_reads' HO407.out).2.2 | (with_reducible refine Kd.C_alloc ?_ _) | (with_reducible refine Kd.C_drewN ?_ _) | (with_reducible refine Kd.C_drew ?_))); (case side4 => exact (Kd.R_reads' HO407.out).2.1); rintro e w' ⟨rfl, ⟨nd, rfl⟩⟩))
     go_meet
     case rel => exact ⟨_, (true), (by first | rfl | (simp; done) | (simp [*]; done)), H', ⟨by first | omega | exact Nat.le_refl _⟩, ⟨by (with_reducible repeat (first | apply Kd.R_alloc | apply Kd.R_drewN | apply Kd.R_drew)); exact HO399.out⟩, ⟨by (with_reducible repeat (first | apply Kd.R_alloc | apply Kd.R_drewN | apply Kd.R_drew)); exact Kd.R_mono HO403.out (fun _ hk => trivial)⟩, ⟨by repeat (first | (with_reducible first | exact HB.out | apply below_alloc | apply pw_below_drewN | apply below_drew1) | exact HB.out)⟩⟩
   ·rw [if_neg c22] at H
    have c22b0 : (t401 == t405) = false := beq_eq_false_iff_ne.mpr c22
    have c22b1 : (t401 != t405) = true := bne_iff_ne.mpr c22
    (first | rw [c22b0] | (simp only [i64_w, i32_w]; rw [c22b0]) | skip)
    have H' := Aside0.mk H
    clear H
    go_wp2
    go_meet
    case rel => exact ⟨_, (true), (by first | rfl | (simp; done) | (simp [*]; done)), H', ⟨by first | omega | exact Nat.le_refl _⟩, ⟨by (with_reducible repeat (first | apply Kd.R_alloc | apply Kd.R_drewN | apply Kd.R_drew)); exact HO399.out⟩, ⟨by (with_reducible repeat (first | apply Kd.R_alloc | apply Kd.R_drewN | apply Kd.R_drew)); exact Kd.R_mono HO403.out (fun _ hk => trivial)⟩, ⟨by repeat (first | (with_reducible first | exact HB.out | apply below_alloc | apply pw_below_drewN | apply below_drew1) | exact HB.out)⟩⟩
  case rest =>
   clear HC12
   try clear c1
   try clear c2
   try clear p2
   try clear c3
   try clear c4
   try clear c11
   try clear c13
   try clear c14
   try clear c22
   try clear c22b0
   try clear c22b1
   try clear c24
   try clear c25
   try clear c25b0
   try clear c25b1
   try clear c26
   try clear c26b0
   try clear c26b1
   try clear c27
   try clear c27b0
   try clear c27b1
   try clear c28
   try clear c28b0
   try clear c28b1
   try clear c30
   try clear c38
   try clear c39
   try clear c40
   try clear c41
   try clear c42
   obtain ⟨kq, x123_11, rfl, HA, HJ11, HO_5, HO_6, HB⟩ := hcut
   cases kq with
   | zero => exact absurd HA.out (by simp [laws_FnLinesOfBooks.j0])
   | succ kj11 =>
    have H := HA.out
    clear HA
    simp only [laws_FnLinesOfBooks.j0] at H
    by_cases c51 : x123_11 = true
    ·subst c51
     have H1 : (some false) = some r := by rw [if_pos rfl] at H; exact H
     clear H
     have H := H1
     clear H1
     exact absurd ((Option.some.inj H).trans hr_.out) (by decide)
    ·replace c51 := Bool.eq_false_iff.mpr c51
     subst c51
     have H1 : (if t401 = 0 then ((impl_GatherBooks.f kj11 t395 t396 t397).bind fun bt426 => ((impl_RightBlock.f kj11 t395).bind fun bt430 => (if bt426.2 = 0 then (if bt430.2 = 0 then (laws_FnLinesOfBooks.j1 kj11 t396 t397 t400 t408 t409 bt426.1 bt430.1 ((bt426.1.length : Int) != t396)) else (laws_FnLinesOfBooks.j1 kj11 t396 t397 t400 t408 t409 bt426.1 bt430.1 true)) else (laws_FnLinesOfBooks.j1 kj11 t396 t397 t400 t408 t409 bt426.1 bt430.1 true)))) else (some true)) = some r := by rw [if_neg (show ¬ (false = true) by decide)] at H; exact H
     clear H
     have H := H1
     clear H1
     by_cases c52 : t401 = 0
     ·rw [if_pos c52] at H
      have c52b0 : (t401 == 0) = true := beq_iff_eq.mpr c52
      have c52b1 : (t401 != 0) = false := bne_eq_false_iff_eq.mpr c52
      clear c52
      replace H := Option.bind_eq_some_iff.mp H
      obtain ⟨⟨t426, t427⟩, A530, H⟩ := H
      replace H : ((impl_RightBlock.f kj11 t395).bind fun bt430 => (if t427 = 0 then (if bt430.2 = 0 then (laws_FnLinesOfBooks.j1 kj11 t396 t397 t400 t408 t409 t426 bt430.1 ((t426.length : Int) != t396)) else (laws_FnLinesOfBooks.j1 kj11 t396 t397 t400 t408 t409 t426 bt430.1 true)) else (laws_FnLinesOfBooks.j1 kj11 t396 t397 t400 t408 t409 t426 bt430.1 true))) = some r := H
      have A53 := Aside0.mk A530
      clear A530
      replace H := Option.bind_eq_some_iff.mp H
      obtain ⟨⟨t430, t431⟩, A540, H⟩ := H
      replace H : (if t427 = 0 then (if t431 = 0 then (laws_FnLinesOfBooks.j1 kj11 t396 t397 t400 t408 t409 t426 t430 ((t426.length : Int) != t396)) else (laws_FnLinesOfBooks.j1 kj11 t396 t397 t400 t408 t409 t426 t430 true)) else (laws_FnLinesOfBooks.j1 kj11 t396 t397 t400 t408 t409 t426 t430 true)) = some r := H
      have A54 := Aside0.mk A540
      clear A540
      have HC55 := Aside0.mk H
      clear H
      go_upto_region 17 with (first | ((with_reducible refine gate_callee (f := 33) rfl ?_); refine goesL_ (some 130) rfl rfl Try.func33 (by kernel_rfl) rfl #[.int .i64 t395, .int .i64 t396, .slice Ao14 t397.length co14] rfl (by (try simp only [List.map_toArray, List.map_cons, List.map_nil]); first | done | rfl | (simp only [List.length_drop, List.length_take]; rfl)) ?_; (with_reducible refine (impl_GatherBooks.calls kj11 t395 t396 _ _ t397 t426 t427 _ ?side1 ?side2 A53.out).mono ?_); (case side1 => repeat (first | exact (Kd.R_reads' HO_5.out).2.2 | (with_reducible refine Kd.C_alloc ?_ _) | (with_reducible refine Kd.C_drewN ?_ _) | (with_reducible refine Kd.C_drew ?_))); (case side2 => exact (Kd.R_reads' HO_5.out).2.1); rintro e w56 ⟨v428, rfl, ho0, hb⟩; refine ⟨_, rfl, ?_⟩; have n0_ := Aside0.mk (Kd.R_below (by (with_reducible repeat (first | apply Kd.R_alloc | apply Kd.R_drewN | apply Kd.R_drew)); exact HO_5.out) hb); have n1_ := Aside0.mk (Kd.R_below (by (with_reducible repeat (first | apply Kd.R_alloc | apply Kd.R_drewN | apply Kd.R_drew)); exact HO_6.out) hb); have n2_ := Aside0.mk (Kd.S_lower (Kd.S_new' ho0 (Kd.R_lt (by (with_reducible repeat (first | apply Kd.R_alloc | apply Kd.R_drewN | apply Kd.R_drew)); exact HO_6.out))) (below_size (by repeat (first | (with_reducible first | exact HB.out | apply below_alloc | apply pw_below_drewN | apply below_drew1) | exact HB.out)))); have n3_ := Aside0.mk (below_step (by repeat (first | (with_reducible first | exact HB.out | apply below_alloc | apply pw_below_drewN | apply below_drew1) | exact HB.out)) hb); clear HO_5; clear HO_6; clear HB; have HO_5 := n0_; have HO_6 := n1_; have HO429 := n2_; have HB := n3_; clear n0_ n1_ n2_ n3_; (try clear hb); (try clear ho0)) | ((with_reducible refine gate_callee (f := 14) rfl ?_); refine goesL_ (some 135) rfl rfl Try.func14 (by kernel_rfl) rfl #[.int .i64 t395] rfl (by (try simp only [List.map_toArray, List.map_cons, List.map_nil]); first | done | rfl | (simp only [List.length_drop, List.length_take]; rfl)) ?_; (with_reducible refine (impl_RightBlock.calls kj11 t395 t430 t431 _ A54.out).mono ?_); rintro e w57 ⟨v432, rfl, ho0, hb⟩; refine ⟨_, rfl, ?_⟩; have n0_ := Aside0.mk (Kd.R_below (by (with_reducible repeat (first | apply Kd.R_alloc | apply Kd.R_drewN | apply Kd.R_drew)); exact HO_5.out) hb); have n1_ := Aside0.mk (Kd.R_elder' (by (with_reducible repeat (first | apply Kd.R_alloc | apply Kd.R_drewN | apply Kd.R_drew)); exact HO_6.out) (Kd.R_base ho0) hb); have n2_ := Aside0.mk (Kd.S_elder' (by (with_reducible repeat (first | apply Kd.S_alloc | apply Kd.S_drewN | apply Kd.S_drew)); exact HO429.out) (Kd.R_base ho0) hb); have n3_ := Aside0.mk (Kd.R_lower (Kd.R_new' ho0 (Kd.R_lt (by (with_reducible repeat (first | apply Kd.R_alloc | apply Kd.R_drewN | apply Kd.R_drew)); exact HO_6.out))) (below_size (by repeat (first | (with_reducible first | exact HB.out | apply below_alloc | apply pw_below_drewN | apply below_drew1) | exact HB.out)))); have n4_ := Aside0.mk (below_step (by repeat (first | (with_reducible first | exact HB.out | apply below_alloc | apply pw_below_drewN | apply below_drew1) | exact HB.out)) hb); clear HO_5; clear HO_6; clear HO429; clear HB; have HO_5 := n0_; have HO_6 := n1_; have HO429 := n2_; have HO433 := n3_; have HB := n4_; clear n0_ n1_ n2_ n3_ n4_; (try clear hb); (try clear ho0)))
      (try simp only [Act.put, List.setIfInBounds_toArray, List.set_cons_zero, List.set_cons_succ])
      go_cut [149] (fun v149 wc => ∃ (kq : Nat) (x149_54 : Bool), v149 = .bool x149_54 ∧ Aside0 (laws_FnLinesOfBooks.j1 kq t396 t397 t400 t408 t409 t426 t430 x149_54 = some r) ∧ Aside0 (kq ≤ kj11) ∧ Aside0 (Kd.R k55 55 wc w.heap.size (fun _ => True) (.slice Ao14 t397.length co14) t397) ∧ Aside0 (Kd.R (Kd.int .i64) 2 wc w.heap.size (fun k_ => some k_ ≠ (v432 : Value).ownBlock) v402 t400) ∧ Aside0 (Kd.S (Kd.slice 2 (Kd.int .i64)) 22 wc w.heap.size (fun k_ => some k_ ≠ (v402 : Value).ownBlock ∧ some k_ ≠ (v432 : Value).ownBlock) v428 t426) ∧ Aside0 (Kd.R (Kd.int .i64) 2 wc w.heap.size (fun k_ => some k_ ≠ (v402 : Value).ownBlock) v432 t430) ∧ Aside0 (Below w.heap.size w wc))
      case first =>
       have H := HC55.out
       clear HC55
       by_cases c58 : t427 = 0
       ·rw [if_pos c58] at H
        have c58b0 : (t427 == 0) = true := beq_iff_eq.mpr c58
        have c58b1 : (t427 != 0) = false := bne_eq_false_iff_eq.mpr c58
        clear c58
        (first | rw [c58b0] | (simp only [i64_w, i32_w]; rw [c58b0]) | skip)
        by_cases c59 : t431 = 0
        ·rw [if_pos c59] at H
         have c59b0 : (t431 == 0) = true := beq_iff_eq.mpr c59
         have c59b1 : (t431 != 0) = false := bne_eq_false_iff_eq.mpr c59
         clear c59
         have H' := Aside0.mk H
         clear H
         obtain ⟨Ao60, co60, eo60⟩ := Kd.S_slice HO429.out
         subst eo60
         go_wp2
         go_meet
         case rel => exact ⟨_, (((t426.length : Int) != t396)), (by first | rfl | (simp; done) | (simp [*]; done)), H', ⟨by have := HJ11.out; first | omega | exact Nat.le_refl _⟩, ⟨by (with_reducible repeat (first | apply Kd.R_alloc | apply Kd.R_drewN | apply Kd.R_drew)); exact HO_5.out⟩, ⟨by (with_reducible repeat (first | apply Kd.R_alloc | apply Kd.R_drewN | apply Kd.R_drew)); exact Kd.R_mono HO_6.out (fun _ hk => hk.2)⟩, ⟨by (with_reducible repeat (first | apply Kd.S_alloc | apply Kd.S_drewN | apply Kd.S_drew)); exact Kd.S_mono HO429.out (fun _ hk => ⟨hk.1.2, hk.2⟩)⟩, ⟨by (with_reducible repeat (first | apply Kd.R_alloc | apply Kd.R_drewN | apply Kd.R_drew)); exact Kd.R_mono HO433.out (fun _ hk => hk.2)⟩, ⟨by repeat (first | (with_reducible first | exact HB.out | apply below_alloc | apply pw_below_drewN | apply below_drew1) | exact HB.out)⟩⟩
        ·rw [if_neg c59] at H
         have c59b0 : (t431 == 0) = false := beq_eq_false_iff_ne.mpr c59
         have c59b1 : (t431 != 0) = true := bne_iff_ne.mpr c59
         have H' := Aside0.mk H
         clear H
         go_wp2
         go_meet
         case rel => exact ⟨_, (true), (by first | rfl | (simp; done) | (simp [*]; done)), H', ⟨by have := HJ11.out; first | omega | exact Nat.le_refl _⟩, ⟨by (with_reducible repeat (first | apply Kd.R_alloc | apply Kd.R_drewN | apply Kd.R_drew)); exact HO_5.out⟩, ⟨by (with_reducible repeat (first | apply Kd.R_alloc | apply Kd.R_drewN | apply Kd.R_drew)); exact Kd.R_mono HO_6.out (fun _ hk => hk.2)⟩, ⟨by (with_reducible repeat (first | apply Kd.S_alloc | apply Kd.S_drewN | apply Kd.S_drew)); exact Kd.S_mono HO429.out (fun _ hk => ⟨hk.1.2, hk.2⟩)⟩, ⟨by (with_reducible repeat (first | apply Kd.R_alloc | apply Kd.R_drewN | apply Kd.R_drew)); exact Kd.R_mono HO433.out (fun _ hk => hk.2)⟩, ⟨by repeat (first | (with_reducible first | exact HB.out | apply below_alloc | apply pw_below_drewN | apply below_drew1) | exact HB.out)⟩⟩
       ·rw [if_neg c58] at H
        have c58b0 : (t427 == 0) = false := beq_eq_false_iff_ne.mpr c58
        have c58b1 : (t427 != 0) = true := bne_iff_ne.mpr c58
        (first | rw [c58b0] | (simp only [i64_w, i32_w]; rw [c58b0]) | skip)
        have H' := Aside0.mk H
        clear H
        go_wp2
        go_meet
        case rel => exact ⟨_, (true), (by first | rfl | (simp; done) | (simp [*]; done)), H', ⟨by have := HJ11.out; first | omega | exact Nat.le_refl _⟩, ⟨by (with_reducible repeat (first | apply Kd.R_alloc | apply Kd.R_drewN | apply Kd.R_drew)); exact HO_5.out⟩, ⟨by (with_reducible repeat (first | apply Kd.R_alloc | apply Kd.R_drewN | apply Kd.R_drew)); exact Kd.R_mono HO_6.out (fun _ hk => hk.2)⟩, ⟨by (with_reducible repeat (first | apply Kd.S_alloc | apply Kd.S_drewN | apply Kd.S_drew)); exact Kd.S_mono HO429.out (fun _ hk => ⟨hk.1.2, hk.2⟩)⟩, ⟨by (with_reducible repeat (first | apply Kd.R_alloc | apply Kd.R_drewN | apply Kd.R_drew)); exact Kd.R_mono HO433.out (fun _ hk => hk.2)⟩, ⟨by repeat (first | (with_reducible first | exact HB.out | apply below_alloc | apply pw_below_drewN | apply below_drew1) | exact HB.out)⟩⟩
      case rest =>
       clear HC55
       try clear c1
       try clear c2
       try clear p2
       try clear c3
       try clear c4
       try clear c5
       try clear c11
       try clear c13
       try clear c14
       try clear c22
       try clear c22b0
       try clear c22b1
       try clear c24
       try clear c25
       try clear c25b0
       try clear c25b1
       try clear c26
       try clear c26b0
       try clear c26b1
       try clear c27
       try clear c27b0
       try clear c27b1
       try clear c28
       try clear c28b0
       try clear c28b1
       try clear c30
       try clear c33
       try clear c38
       try clear c39
       try clear c40
       try clear c41
       try clear c42
       try clear c51
       try clear c52
       try clear c52b0
       try clear c52b1
       try clear c58
       try clear c58b0
       try clear c58b1
       try clear c59
       try clear c59b0
       try clear c59b1
       try clear p2
       obtain ⟨kq, x149_54, rfl, HA, HJ54, HO_5, HO_6, HO_21, HO_23, HB⟩ := hcut
       cases kq with
       | zero => exact absurd HA.out (by simp [laws_FnLinesOfBooks.j1])
       | succ kj54 =>
        have H := HA.out
        clear HA
        simp only [laws_FnLinesOfBooks.j1] at H
        by_cases c61 : x149_54 = true
        ·subst c61
         have H1 : (some false) = some r := by rw [if_pos rfl] at H; exact H
         clear H
         have H := H1
         clear H1
         exact absurd ((Option.some.inj H).trans hr_.out) (by decide)
        ·replace c61 := Bool.eq_false_iff.mpr c61
         subst c61
         have H1 : (laws_FnLinesOfBooks.l0 kj54 t396 t397 t400 t408 t409 t426 t430 0) = some r := by rw [if_neg (show ¬ (false = true) by decide)] at H; exact H
         clear H
         have H := H1
         clear H1
         have H' := Aside0.mk H
         clear H
         go_wp2
         go_loopg [25] kj54 (fun kq v25 w' => ∃ (x25_3 : Int), v25 = .int .i64 x25_3 ∧ Aside0 (laws_FnLinesOfBooks.l0 kq t396 t397 t400 t408 t409 t426 t430 x25_3 = some r) ∧ Aside0 (kq ≤ kj54) ∧ Aside0 (Kd.R k55 55 w' w.heap.size (fun _ => True) (.slice Ao14 t397.length co14) t397) ∧ Aside0 (Kd.R (Kd.int .i64) 2 w' w.heap.size (fun k_ => some k_ ≠ (v432 : Value).ownBlock) v402 t400) ∧ Aside0 (Kd.S (Kd.slice 2 (Kd.int .i64)) 22 w' w.heap.size (fun k_ => some k_ ≠ (v402 : Value).ownBlock ∧ some k_ ≠ (v432 : Value).ownBlock) v428 t426) ∧ Aside0 (Kd.R (Kd.int .i64) 2 w' w.heap.size (fun k_ => some k_ ≠ (v402 : Value).ownBlock) v432 t430) ∧ Aside0 (Below w.heap.size w w'))
         case atStart => exact ⟨(0), (by first | rfl | (simp; done) | (simp [*]; done)), H', ⟨Nat.le_refl _⟩, ⟨by (with_reducible repeat (first | apply Kd.R_alloc | apply Kd.R_drewN | apply Kd.R_drew)); exact HO_5.out⟩, ⟨by (with_reducible repeat (first | apply Kd.R_alloc | apply Kd.R_drewN | apply Kd.R_drew)); exact HO_6.out⟩, ⟨by (with_reducible repeat (first | apply Kd.S_alloc | apply Kd.S_drewN | apply Kd.S_drew)); exact HO_21.out⟩, ⟨by (with_reducible repeat (first | apply Kd.R_alloc | apply Kd.R_drewN | apply Kd.R_drew)); exact HO_23.out⟩, ⟨by repeat (first | (with_reducible first | exact HB.out | apply below_alloc | apply pw_below_drewN | apply below_drew1) | exact HB.out)⟩⟩
         case round =>
          clear H'
          try clear c1
          try clear c2
          try clear p2
          try clear c3
          try clear c4
          try clear c5
          try clear c6
          try clear c11
          try clear c13
          try clear c14
          try clear c22
          try clear c22b0
          try clear c22b1
          try clear c24
          try clear c25
          try clear c25b0
          try clear c25b1
          try clear c26
          try clear c26b0
          try clear c26b1
          try clear c27
          try clear c27b0
          try clear c27b1
          try clear c28
          try clear c28b0
          try clear c28b1
          try clear c30
          try clear c33
          try clear c38
          try clear c39
          try clear c40
          try clear c41
          try clear c42
          try clear c51
          try clear c52
          try clear c52b0
          try clear c52b1
          try clear c58
          try clear c58b0
          try clear c58b1
          try clear c59
          try clear c59b0
          try clear c59b1
          try clear c61
          try clear p2
          obtain ⟨x25_3, rfl, HA, HK3, HO_5, HO_6, HO_21, HO_23, HB⟩ := hrel
          cases gk with
          | zero => exact absurd HA.out (by simp [laws_FnLinesOfBooks.l0])
          | succ k3 =>
           have H := HA.out
           clear HA
           simp only [laws_FnLinesOfBooks.l0] at H
           by_cases c62 : x25_3 < t396
           ·rw [if_pos c62] at H
            have c62b0 : decide (x25_3 < t396) = true := decide_eq_true c62
            clear c62
            have H' := Aside0.mk H
            clear H
            go_wp2
            go_loopg [26, 27] k3 (fun kq v26 v27 w' => ∃ (x26_4 : Bool) (x27_4 : Int), v26 = .bool x26_4 ∧ v27 = .int .i64 x27_4 ∧ Aside0 (laws_FnLinesOfBooks.l1 kq t396 t397 t400 t408 t409 t426 t430 x25_3 x26_4 x27_4 = some r) ∧ Aside0 (kq ≤ k3) ∧ Aside0 (Kd.R k55 55 w' w.heap.size (fun _ => True) (.slice Ao14 t397.length co14) t397) ∧ Aside0 (Kd.R (Kd.int .i64) 2 w' w.heap.size (fun k_ => some k_ ≠ (v432 : Value).ownBlock) v402 t400) ∧ Aside0 (Kd.S (Kd.slice 2 (Kd.int .i64)) 22 w' w.heap.size (fun k_ => some k_ ≠ (v402 : Value).ownBlock ∧ some k_ ≠ (v432 : Value).ownBlock) v428 t426) ∧ Aside0 (Kd.R (Kd.int .i64) 2 w' w.heap.size (fun k_ => some k_ ≠ (v402 : Value).ownBlock) v432 t430) ∧ Aside0 (Below w.heap.size w w'))
            case atStart => exact ⟨(false), (0), (by first | rfl | (simp; done) | (simp [*]; done)), (by first | rfl | (simp; done) | (simp [*]; done)), H', ⟨Nat.le_refl _⟩, ⟨by (with_reducible repeat (first | apply Kd.R_alloc | apply Kd.R_drewN | apply Kd.R_drew)); exact HO_5.out⟩, ⟨by (with_reducible repeat (first | apply Kd.R_alloc | apply Kd.R_drewN | apply Kd.R_drew)); exact HO_6.out⟩, ⟨by (with_reducible repeat (first | apply Kd.S_alloc | apply Kd.S_drewN | apply Kd.S_drew)); exact HO_21.out⟩, ⟨by (with_reducible repeat (first | apply Kd.R_alloc | apply Kd.R_drewN | apply Kd.R_drew)); exact HO_23.out⟩, ⟨by repeat (first | (with_reducible first | exact HB.out | apply below_alloc | apply pw_below_drewN | apply below_drew1) | exact HB.out)⟩⟩
            case round =>
             clear H'
             try clear c1
             try clear c2
             try clear p2
             try clear c3
             try clear c4
             try clear c5
             try clear c6
             try clear c11
             try clear c13
             try clear c14
             try clear c22
             try clear c22b0
             try clear c22b1
             try clear c24
             try clear c25
             try clear c25b0
             try clear c25b1
             try clear c26
             try clear c26b0
             try clear c26b1
             try clear c27
             try clear c27b0
             try clear c27b1
             try clear c28
             try clear c28b0
             try clear c28b1
             try clear c30
             try clear c33
             try clear c38
             try clear c39
             try clear c40
             try clear c41
             try clear c42
             try clear c51
             try clear c52
             try clear c52b0
             try clear c52b1
             try clear c58
             try clear c58b0
             try clear c58b1
             try clear c59
             try clear c59b0
             try clear c59b1
             try clear c61
             try clear c62
             try clear c62b0
             try clear p2
             obtain ⟨x26_4, x27_4, rfl, rfl, HA, HK4, HO_5, HO_6, HO_21, HO_23, HB⟩ := hrel
             cases gk with
             | zero => exact absurd HA.out (by simp [laws_FnLinesOfBooks.l1])
             | succ k4 =>
              have H := HA.out
              clear HA
              simp only [laws_FnLinesOfBooks.l1] at H
              by_cases c63 : x27_4 < (t397.length : Int)
              ·rw [if_pos c63] at H
               have c63b0 : decide (x27_4 < (t397.length : Int)) = true := decide_eq_true c63
               clear c63
               by_cases c64 : x26_4 = true
               ·subst c64
                have H1 : (laws_FnLinesOfBooks.l1 k4 t396 t397 t400 t408 t409 t426 t430 x25_3 true (wrap64 (x27_4 + 1))) = some r := by rw [if_pos rfl] at H; exact H
                clear H
                have H := H1
                clear H1
                have H' := Aside0.mk H
                clear H
                go_wp2
                go_roundg k4
                case measure => have := HJ11.out; have := HJ54.out; have := HK3.out; have := HK4.out; omega
                case rel => exact ⟨(true), (wrap64 (x27_4 + 1)), (by first | rfl | (simp; done) | (simp [*]; done)), (by first | rfl | (simp; done) | (simp [*]; done)), H', ⟨by have := HJ11.out; have := HJ54.out; have := HK3.out; have := HK4.out; omega⟩, ⟨by (with_reducible repeat (first | apply Kd.R_alloc | apply Kd.R_drewN | apply Kd.R_drew)); exact HO_5.out⟩, ⟨by (with_reducible repeat (first | apply Kd.R_alloc | apply Kd.R_drewN | apply Kd.R_drew)); exact HO_6.out⟩, ⟨by (with_reducible repeat (first | apply Kd.S_alloc | apply Kd.S_drewN | apply Kd.S_drew)); exact HO_21.out⟩, ⟨by (with_reducible repeat (first | apply Kd.R_alloc | apply Kd.R_drewN | apply Kd.R_drew)); exact HO_23.out⟩, ⟨by repeat (first | (with_reducible first | exact HB.out | apply below_alloc | apply pw_below_drewN | apply below_drew1) | exact HB.out)⟩⟩
               ·replace c64 := Bool.eq_false_iff.mpr c64
                subst c64
                have H1 : (if 0 ≤ x27_4 then (laws_FnLinesOfBooks.l1 k4 t396 t397 t400 t408 t409 t426 t430 x25_3 (((rd_T55 t397 x27_4).f0) == x25_3) (wrap64 (x27_4 + 1))) else (none)) = some r := by rw [if_neg (show ¬ (false = true) by decide)] at H; exact H
                clear H
                have H := H1
                clear H1
                by_cases c65 : 0 ≤ x27_4
                ·rw [if_pos c65] at H
                 have c65b0 : decide (0 ≤ x27_4) = true := decide_eq_true c65
                 clear c65
                 have H' := Aside0.mk H
                 clear H
                 have p434 : 0 ≤ (x27_4 : Int) := of_decide_eq_true (by first | (with_reducible assumption) | assumption)
                 have q434 : x27_4 < (t397.length : Int) := of_decide_eq_true (by first | (with_reducible assumption) | assumption)
                 obtain ⟨ad434, e434, hx434_0, hx434_1, hx434_2, hx434_3⟩ := at_T55 (Kd.R_reads' HO_5.out).2.2 x27_4 p434 q434
                 cases e434
                 replace p434 := eq_true p434
                 replace q434 := eq_true q434
                 go_wp2
                 go_roundg k4
                 case measure => have := HJ11.out; have := HJ54.out; have := HK3.out; have := HK4.out; omega
                 case rel => exact ⟨((((rd_T55 t397 x27_4).f0) == x25_3)), (wrap64 (x27_4 + 1)), (by first | rfl | (simp; done) | (simp [*]; done)), (by first | rfl | (simp; done) | (simp [*]; done)), H', ⟨by have := HJ11.out; have := HJ54.out; have := HK3.out; have := HK4.out; omega⟩, ⟨by (with_reducible repeat (first | apply Kd.R_alloc | apply Kd.R_drewN | apply Kd.R_drew)); exact HO_5.out⟩, ⟨by (with_reducible repeat (first | apply Kd.R_alloc | apply Kd.R_drewN | apply Kd.R_drew)); exact HO_6.out⟩, ⟨by (with_reducible repeat (first | apply Kd.S_alloc | apply Kd.S_drewN | apply Kd.S_drew)); exact HO_21.out⟩, ⟨by (with_reducible repeat (first | apply Kd.R_alloc | apply Kd.R_drewN | apply Kd.R_drew)); exact HO_23.out⟩, ⟨by repeat (first | (with_reducible first | exact HB.out | apply below_alloc | apply pw_below_drewN | apply below_drew1) | exact HB.out)⟩⟩
                ·rw [if_neg c65] at H
                 exact absurd H (by simp)
              ·rw [if_neg c63] at H
               have c63b0 : decide (x27_4 < (t397.length : Int)) = false := decide_eq_false c63
               clear c63
               by_cases c66 : 0 ≤ x25_3
               ·rw [if_pos c66] at H
                have c66b0 : decide (0 ≤ x25_3) = true := decide_eq_true c66
                clear c66
                by_cases c67 : x25_3 < (t426.length : Int)
                ·rw [if_pos c67] at H
                 have c67b0 : decide (x25_3 < (t426.length : Int)) = true := decide_eq_true c67
                 clear c67
                 replace H := Option.bind_eq_some_iff.mp H
                 obtain ⟨t436, A680, H⟩ := H
                 replace H : ((laws_hasInt.f k4 t400 x25_3).bind fun t437 => (if (t436 == t437) = true then (some false) else ((laws_hasInt.f k4 t400 x25_3).bind fun t438 => (if t438 = true then (if x26_4 = true then (laws_FnLinesOfBooks.l0 k4 t396 t397 t400 t408 t409 t426 t430 (wrap64 (x25_3 + 1))) else (some false)) else (laws_FnLinesOfBooks.l0 k4 t396 t397 t400 t408 t409 t426 t430 (wrap64 (x25_3 + 1))))))) = some r := H
                 have A68 := Aside0.mk A680
                 clear A680
                 replace H := Option.bind_eq_some_iff.mp H
                 obtain ⟨t437, A690, H⟩ := H
                 replace H : (if (t436 == t437) = true then (some false) else ((laws_hasInt.f k4 t400 x25_3).bind fun t438 => (if t438 = true then (if x26_4 = true then (laws_FnLinesOfBooks.l0 k4 t396 t397 t400 t408 t409 t426 t430 (wrap64 (x25_3 + 1))) else (some false)) else (laws_FnLinesOfBooks.l0 k4 t396 t397 t400 t408 t409 t426 t430 (wrap64 (x25_3 + 1)))))) = some r := H
                 have A69 := Aside0.mk A690
                 clear A690
                 by_cases c70 : (t436 == t437) = true
                 ·rw [if_pos c70] at H
                  have c70b0 : (t436 == t437) = true := c70
                  (try (have c70b1 : decide (t436 = t437) = true := by simpa using c70))
                  (try (have c70b2 : (t436 == t437) = true := by simpa using c70))
                  clear c70
                  exact absurd ((Option.some.inj H).trans hr_.out) (by decide)
                 ·rw [if_neg c70] at H
                  have c70b0 : (t436 == t437) = false := by simpa using c70
                  (try (have c70b1 : decide (t436 = t437) = false := by simpa using c70))
                  (try (have c70b2 : (t436 == t437) = false := by simpa using c70))
                  (try (have c70b3 : ¬ (t436 = t437) := by simpa using c70))
                  clear c70
                  replace H := Option.bind_eq_some_iff.mp H
                  obtain ⟨t438, A710, H⟩ := H
                  replace H : (if t438 = true then (if x26_4 = true then (laws_FnLinesOfBooks.l0 k4 t396 t397 t400 t408 t409 t426 t430 (wrap64 (x25_3 + 1))) else (some false)) else (laws_FnLinesOfBooks.l0 k4 t396 t397 t400 t408 t409 t426 t430 (wrap64 (x25_3 + 1)))) = some r := H
                  have A71 := Aside0.mk A710
                  clear A710
                  by_cases c72 : t438 = true
                  ·subst c72
                   have H1 : (if x26_4 = true then (laws_FnLinesOfBooks.l0 k4 t396 t397 t400 t408 t409 t426 t430 (wrap64 (x25_3 + 1))) else (some false)) = some r := by rw [if_pos rfl] at H; exact H
                   clear H
                   have H := H1
                   clear H1
                   by_cases c73 : x26_4 = true
                   ·subst c73
                    have H1 : (laws_FnLinesOfBooks.l0 k4 t396 t397 t400 t408 t409 t426 t430 (wrap64 (x25_3 + 1))) = some r := by rw [if_pos rfl] at H; exact H
                    clear H
                    have H := H1
                    clear H1
                    have H' := Aside0.mk H
                    clear H
                    obtain ⟨Ao74, co74, eo74⟩ := Kd.S_slice HO_21.out
                    subst eo74
                    have p435 : 0 ≤ (x25_3 : Int) := of_decide_eq_true (by first | (with_reducible assumption) | assumption)
                    have q435 : x25_3 < (t426.length : Int) := of_decide_eq_true (by first | (with_reducible assumption) | assumption)
                    obtain ⟨ad435, A435_0, c435_0, e435, hx435_0, hl435_0, hi435_0⟩ := at_L2 (Kd.S_reads' HO_21.out).2.2 x25_3 p435 q435
                    cases e435
                    obtain ⟨ce435, hce435, hMe435, hcc435⟩ := Kd.S_get HO_21.out [] x25_3 p435 (by first | exact q435 | exact of_decide_eq_true (by first | (with_reducible assumption) | assumption) | (have e_ := (Kd.S_reads' HO_21.out).1; omega))
                    obtain ⟨ve435_0, rfl, ge435_0⟩ := hMe435
                    have hv435_0 := hcc435 0 _ rfl
                    rw [Nat.add_zero, show ((Kd.slice 2 (Kd.int .i64))).sz = 1 from rfl, Nat.mul_one] at hv435_0
                    replace hv435_0 := Option.some.inj (hv435_0.symm.trans hx435_0)
                    rw [hv435_0] at ge435_0
                    have HL435_0 := Aside0.mk (show Kd.R (Kd.int .i64) 2 _ _ _ _ (rd_L2 t426 x25_3) from ge435_0)
                    clear hv435_0 ge435_0
                    clear hcc435 hce435
                    have HR435_0 := Aside0.mk hi435_0
                    have HC435_0 := Aside0.mk hl435_0
                    clear hi435_0 hl435_0
                    replace p435 := eq_true p435
                    replace q435 := eq_true q435
                    obtain ⟨Ao75, co75, eo75⟩ := Kd.R_slice HO_23.out
                    subst eo75
                    go_wp2_with (first | ((with_reducible refine gate_callee (f := 43) rfl ?_); refine goesL_ (some 176) rfl rfl Try.func43 (by kernel_rfl) rfl #[.slice A435_0 (rd_L2 t426 x25_3).length c435_0, .slice Ao75 t430.length co75] rfl (by (try simp only [List.map_toArray, List.map_cons, List.map_nil]); first | done | rfl | (simp only [List.length_drop, List.length_take]; rfl)) ?_; (with_reducible refine (laws_likeInts.calls k4 _ _ (rd_L2 t426 x25_3) _ _ t430 t436 _ ?side1 ?side2 ?side3 ?side4 A68.out).mono ?_); (case side1 => repeat (first | exact (by repeat (first | (with_reducible exact HR435_0.out) | (with_reducible refine Kd.C_alloc ?_ _) | (with_reducible refine Kd.C_drewN ?_ _) | (with_reducible refine Kd.C_drew ?_) | exact HR435_0.out)) | (with_reducible refine Kd.C_alloc ?_ _) | (with_reducible refine Kd.C_drewN ?_ _) | (with_reducible refine Kd.C_drew ?_))); (case side2 => exact HC435_0.out); (case side3 => repeat (first | exact (Kd.R_reads' HO_23.out).2.2 | (with_reducible refine Kd.C_alloc ?_ _) | (with_reducible refine Kd.C_drewN ?_ _) | (with_reducible refine Kd.C_drew ?_))); (case side4 => exact (Kd.R_reads' HO_23.out).2.1); rintro e w' ⟨rfl, ⟨nd, rfl⟩⟩; refine ⟨_, rfl, ?_⟩; obtain ⟨Ao76, co76, eo76⟩ := Kd.R_slice HO_6.out; subst eo76) | ((with_reducible refine gate_callee (f := 44) rfl ?_); refine goesL_ (some 179) rfl rfl Try.func44 (by kernel_rfl) rfl #[.slice Ao76 t400.length co76, .int .i64 x25_3] rfl (by (try simp only [List.map_toArray, List.map_cons, List.map_nil]); first | done | rfl | (simp only [List.length_drop, List.length_take]; rfl)) ?_; (with_reducible refine (laws_hasInt.calls k4 _ _ t400 x25_3 t437 _ ?side1 ?side2 A69.out).mono ?_); (case side1 => repeat (first | exact (Kd.R_reads' HO_6.out).2.2 | (with_reducible refine Kd.C_alloc ?_ _) | (with_reducible refine Kd.C_drewN ?_ _) | (with_reducible refine Kd.C_drew ?_))); (case side2 => exact (Kd.R_reads' HO_6.out).2.1); rintro e w' ⟨rfl, ⟨nd, rfl⟩⟩; refine ⟨_, rfl, ?_⟩) | (go_at_call 44; (with_reducible refine (laws_hasInt.calls k4 _ _ t400 x25_3 true _ ?side1 ?side2 A71.out).mono ?_); (case side1 => repeat (first | exact (Kd.R_reads' HO_6.out).2.2 | (with_reducible refine Kd.C_alloc ?_ _) | (with_reducible refine Kd.C_drewN ?_ _) | (with_reducible refine Kd.C_drew ?_))); (case side2 => exact (Kd.R_reads' HO_6.out).2.1); rintro e w' ⟨rfl, ⟨nd, rfl⟩⟩))
                    go_roundg k4
                    case measure => have := HJ11.out; have := HJ54.out; have := HK3.out; have := HK4.out; omega
                    case rel => exact ⟨(wrap64 (x25_3 + 1)), (by first | rfl | (simp; done) | (simp [*]; done)), H', ⟨by have := HJ11.out; have := HJ54.out; have := HK3.out; have := HK4.out; omega⟩, ⟨by (with_reducible repeat (first | apply Kd.R_alloc | apply Kd.R_drewN | apply Kd.R_drew)); exact HO_5.out⟩, ⟨by (with_reducible repeat (first | apply Kd.R_alloc | apply Kd.R_drewN | apply Kd.R_drew)); exact HO_6.out⟩, ⟨by (with_reducible repeat (first | apply Kd.S_alloc | apply Kd.S_drewN | apply Kd.S_drew)); exact HO_21.out⟩, ⟨by (with_reducible repeat (first | apply Kd.R_alloc | apply Kd.R_drewN | apply Kd.R_drew)); exact HO_23.out⟩, ⟨by repeat (first | (with_reducible first | exact HB.out | apply below_alloc | apply pw_below_drewN | apply below_drew1) | exact HB.out)⟩⟩
                   ·replace c73 := Bool.eq_false_iff.mpr c73
                    subst c73
                    have H1 : (some false) = some r := by rw [if_neg (show ¬ (false = true) by decide)] at H; exact H
                    clear H
                    have H := H1
                    clear H1
                    exact absurd ((Option.some.inj H).trans hr_.out) (by decide)
                  ·replace c72 := Bool.eq_false_iff.mpr c72
                   subst c72
                   have H1 : (laws_FnLinesOfBooks.l0 k4 t396 t397 t400 t408 t409 t426 t430 (wrap64 (x25_3 + 1))) = some r := by rw [if_neg (show ¬ (false = true) by decide)] at H; exact H
                   clear H
                   have H := H1
                   clear H1
                   have H' := Aside0.mk H
                   clear H
                   obtain ⟨Ao77, co77, eo77⟩ := Kd.S_slice HO_21.out
                   subst eo77
                   have p435 : 0 ≤ (x25_3 : Int) := of_decide_eq_true (by first | (with_reducible assumption) | assumption)
                   have q435 : x25_3 < (t426.length : Int) := of_decide_eq_true (by first | (with_reducible assumption) | assumption)
                   obtain ⟨ad435, A435_0, c435_0, e435, hx435_0, hl435_0, hi435_0⟩ := at_L2 (Kd.S_reads' HO_21.out).2.2 x25_3 p435 q435
                   cases e435
                   obtain ⟨ce435, hce435, hMe435, hcc435⟩ := Kd.S_get HO_21.out [] x25_3 p435 (by first | exact q435 | exact of_decide_eq_true (by first | (with_reducible assumption) | assumption) | (have e_ := (Kd.S_reads' HO_21.out).1; omega))
                   obtain ⟨ve435_0, rfl, ge435_0⟩ := hMe435
                   have hv435_0 := hcc435 0 _ rfl
                   rw [Nat.add_zero, show ((Kd.slice 2 (Kd.int .i64))).sz = 1 from rfl, Nat.mul_one] at hv435_0
                   replace hv435_0 := Option.some.inj (hv435_0.symm.trans hx435_0)
                   rw [hv435_0] at ge435_0
                   have HL435_0 := Aside0.mk (show Kd.R (Kd.int .i64) 2 _ _ _ _ (rd_L2 t426 x25_3) from ge435_0)
                   clear hv435_0 ge435_0
                   clear hcc435 hce435
                   have HR435_0 := Aside0.mk hi435_0
                   have HC435_0 := Aside0.mk hl435_0
                   clear hi435_0 hl435_0
                   replace p435 := eq_true p435
                   replace q435 := eq_true q435
                   obtain ⟨Ao78, co78, eo78⟩ := Kd.R_slice HO_23.out
                   subst eo78
                   go_wp2_with (first | ((with_reducible refine gate_callee (f := 43) rfl ?_); refine goesL_ (some 176) rfl rfl Try.func43 (by kernel_rfl) rfl #[.slice A435_0 (rd_L2 t426 x25_3).length c435_0, .slice Ao78 t430.length co78] rfl (by (try simp only [List.map_toArray, List.map_cons, List.map_nil]); first | done | rfl | (simp only [List.length_drop, List.length_take]; rfl)) ?_; (with_reducible refine (laws_likeInts.calls k4 _ _ (rd_L2 t426 x25_3) _ _ t430 t436 _ ?side1 ?side2 ?side3 ?side4 A68.out).mono ?_); (case side1 => repeat (first | exact (by repeat (first | (with_reducible exact HR435_0.out) | (with_reducible refine Kd.C_alloc ?_ _) | (with_reducible refine Kd.C_drewN ?_ _) | (with_reducible refine Kd.C_drew ?_) | exact HR435_0.out)) | (with_reducible refine Kd.C_alloc ?_ _) | (with_reducible refine Kd.C_drewN ?_ _) | (with_reducible refine Kd.C_drew ?_))); (case side2 => exact HC435_0.out); (case side3 => repeat (first | exact (Kd.R_reads' HO_23.out).2.2 | (with_reducible refine Kd.C_alloc ?_ _) | (with_reducible refine Kd.C_drewN ?_ _) | (with_reducible refine Kd.C_drew ?_))); (case side4 => exact (Kd.R_reads' HO_23.out).2.1); rintro e w' ⟨rfl, ⟨nd, rfl⟩⟩; refine ⟨_, rfl, ?_⟩; obtain ⟨Ao79, co79, eo79⟩ := Kd.R_slice HO_6.out; subst eo79) | ((with_reducible refine gate_callee (f := 44) rfl ?_); refine goesL_ (some 179) rfl rfl Try.func44 (by kernel_rfl) rfl #[.slice Ao79 t400.length co79, .int .i64 x25_3] rfl (by (try simp only [List.map_toArray, List.map_cons, List.map_nil]); first | done | rfl | (simp only [List.length_drop, List.length_take]; rfl)) ?_; (with_reducible refine (laws_hasInt.calls k4 _ _ t400 x25_3 t437 _ ?side1 ?side2 A69.out).mono ?_); (case side1 => repeat (first | exact (Kd.R_reads' HO_6.out).2.2 | (with_reducible refine Kd.C_alloc ?_ _) | (with_reducible refine Kd.C_drewN ?_ _) | (with_reducible refine Kd.C_drew ?_))); (case side2 => exact (Kd.R_reads' HO_6.out).2.1); rintro e w' ⟨rfl, ⟨nd, rfl⟩⟩; refine ⟨_, rfl, ?_⟩) | (go_at_call 44; (with_reducible refine (laws_hasInt.calls k4 _ _ t400 x25_3 false _ ?side1 ?side2 A71.out).mono ?_); (case side1 => repeat (first | exact (Kd.R_reads' HO_6.out).2.2 | (with_reducible refine Kd.C_alloc ?_ _) | (with_reducible refine Kd.C_drewN ?_ _) | (with_reducible refine Kd.C_drew ?_))); (case side2 => exact (Kd.R_reads' HO_6.out).2.1); rintro e w' ⟨rfl, ⟨nd, rfl⟩⟩))
                   go_roundg k4
                   case measure => have := HJ11.out; have := HJ54.out; have := HK3.out; have := HK4.out; omega
                   case rel => exact ⟨(wrap64 (x25_3 + 1)), (by first | rfl | (simp; done) | (simp [*]; done)), H', ⟨by have := HJ11.out; have := HJ54.out; have := HK3.out; have := HK4.out; omega⟩, ⟨by (with_reducible repeat (first | apply Kd.R_alloc | apply Kd.R_drewN | apply Kd.R_drew)); exact HO_5.out⟩, ⟨by (with_reducible repeat (first | apply Kd.R_alloc | apply Kd.R_drewN | apply Kd.R_drew)); exact HO_6.out⟩, ⟨by (with_reducible repeat (first | apply Kd.S_alloc | apply Kd.S_drewN | apply Kd.S_drew)); exact HO_21.out⟩, ⟨by (with_reducible repeat (first | apply Kd.R_alloc | apply Kd.R_drewN | apply Kd.R_drew)); exact HO_23.out⟩, ⟨by repeat (first | (with_reducible first | exact HB.out | apply below_alloc | apply pw_below_drewN | apply below_drew1) | exact HB.out)⟩⟩
                ·rw [if_neg c67] at H
                 exact absurd H (by simp)
               ·rw [if_neg c66] at H
                exact absurd H (by simp)
           ·rw [if_neg c62] at H
            have c62b0 : decide (x25_3 < t396) = false := decide_eq_false c62
            clear c62
            have H' := Aside0.mk H
            clear H
            go_wp2
            go_loopg [28, 29] k3 (fun kq v28 v29 w' => ∃ (x28_4 : Int) (x29_4 : Int), v28 = .int .i64 x28_4 ∧ v29 = .int .i64 x29_4 ∧ Aside0 (laws_FnLinesOfBooks.l2 kq t397 t408 t409 x28_4 x29_4 = some r) ∧ Aside0 (kq ≤ k3) ∧ Aside0 (Kd.R k55 55 w' w.heap.size (fun _ => True) (.slice Ao14 t397.length co14) t397) ∧ Aside0 (Below w.heap.size w w'))
            case atStart => exact ⟨(0), (0), (by first | rfl | (simp; done) | (simp [*]; done)), (by first | rfl | (simp; done) | (simp [*]; done)), H', ⟨Nat.le_refl _⟩, ⟨by (with_reducible repeat (first | apply Kd.R_alloc | apply Kd.R_drewN | apply Kd.R_drew)); exact HO_5.out⟩, ⟨by repeat (first | (with_reducible first | exact HB.out | apply below_alloc | apply pw_below_drewN | apply below_drew1) | exact HB.out)⟩⟩
            case round =>
             clear H'
             try clear c1
             try clear c2
             try clear p2
             try clear c3
             try clear c4
             try clear p4
             try clear q4
             try clear hx4
             try clear c5
             try clear c6
             try clear p6
             try clear c7
             try clear c11
             try clear c13
             try clear c14
             try clear c22
             try clear c22b0
             try clear c22b1
             try clear c24
             try clear c25
             try clear c25b0
             try clear c25b1
             try clear c26
             try clear c26b0
             try clear c26b1
             try clear c27
             try clear c27b0
             try clear c27b1
             try clear c28
             try clear c28b0
             try clear c28b1
             try clear c30
             try clear c33
             try clear c38
             try clear c39
             try clear c40
             try clear c41
             try clear c42
             try clear c43
             try clear p43
             try clear q43
             try clear hx43
             try clear c44
             try clear c51
             try clear c52
             try clear c52b0
             try clear c52b1
             try clear c58
             try clear c58b0
             try clear c58b1
             try clear c59
             try clear c59b0
             try clear c59b1
             try clear c61
             try clear c62
             try clear c62b0
             try clear c63
             try clear c63b0
             try clear c64
             try clear p64
             try clear c65
             try clear c65b0
             try clear c66
             try clear c66b0
             try clear c67
             try clear c67b0
             try clear c70
             try clear c70b0
             try clear c70b1
             try clear c70b2
             try clear c72
             try clear c73
             try clear hx434_0
             try clear hx434_1
             try clear hx434_2
             try clear hx434_3
             try clear hx435_0
             try clear p2
             try clear p434
             try clear p435
             try clear q434
             try clear q435
             obtain ⟨x28_4, x29_4, rfl, rfl, HA, HK4, HO_5, HB⟩ := hrel
             cases gk with
             | zero => exact absurd HA.out (by simp [laws_FnLinesOfBooks.l2])
             | succ k4 =>
              have H := HA.out
              clear HA
              simp only [laws_FnLinesOfBooks.l2] at H
              by_cases c80 : x29_4 < (t397.length : Int)
              ·rw [if_pos c80] at H
               have c80b0 : decide (x29_4 < (t397.length : Int)) = true := decide_eq_true c80
               clear c80
               by_cases c81 : 0 ≤ x29_4
               ·rw [if_pos c81] at H
                have c81b0 : decide (0 ≤ x29_4) = true := decide_eq_true c81
                clear c81
                by_cases c82 : ((rd_T55 t397 x29_4).f1) = t408
                ·rw [if_pos c82] at H
                 have c82b0 : (((rd_T55 t397 x29_4).f1) == t408) = true := beq_iff_eq.mpr c82
                 have c82b1 : (((rd_T55 t397 x29_4).f1) != t408) = false := bne_eq_false_iff_eq.mpr c82
                 clear c82
                 have H' := Aside0.mk H
                 clear H
                 have p439 : 0 ≤ (x29_4 : Int) := of_decide_eq_true (by first | (with_reducible assumption) | assumption)
                 have q439 : x29_4 < (t397.length : Int) := of_decide_eq_true (by first | (with_reducible assumption) | assumption)
                 obtain ⟨ad439, e439, hx439_0, hx439_1, hx439_2, hx439_3⟩ := at_T55 (Kd.R_reads' HO_5.out).2.2 x29_4 p439 q439
                 cases e439
                 replace p439 := eq_true p439
                 replace q439 := eq_true q439
                 go_wp2
                 go_roundg k4
                 case measure => have := HJ11.out; have := HJ54.out; have := HK3.out; have := HK4.out; omega
                 case rel => exact ⟨(wrap64 (x28_4 + 1)), (wrap64 (x29_4 + 1)), (by first | rfl | (simp; done) | (simp [*]; done)), (by first | rfl | (simp; done) | (simp [*]; done)), H', ⟨by have := HJ11.out; have := HJ54.out; have := HK3.out; have := HK4.out; omega⟩, ⟨by (with_reducible repeat (first | apply Kd.R_alloc | apply Kd.R_drewN | apply Kd.R_drew)); exact HO_5.out⟩, ⟨by repeat (first | (with_reducible first | exact HB.out | apply below_alloc | apply pw_below_drewN | apply below_drew1) | exact HB.out)⟩⟩
                ·rw [if_neg c82] at H
                 have c82b0 : (((rd_T55 t397 x29_4).f1) == t408) = false := beq_eq_false_iff_ne.mpr c82
                 have c82b1 : (((rd_T55 t397 x29_4).f1) != t408) = true := bne_iff_ne.mpr c82
                 have H' := Aside0.mk H
                 clear H
                 have p439 : 0 ≤ (x29_4 : Int) := of_decide_eq_true (by first | (with_reducible assumption) | assumption)
                 have q439 : x29_4 < (t397.length : Int) := of_decide_eq_true (by first | (with_reducible assumption) | assumption)
                 obtain ⟨ad439, e439, hx439_0, hx439_1, hx439_2, hx439_3⟩ := at_T55 (Kd.R_reads' HO_5.out).2.2 x29_4 p439 q439
                 cases e439
                 replace p439 := eq_true p439
                 replace q439 := eq_true q439
                 go_wp2
                 go_roundg k4
                 case measure => have := HJ11.out; have := HJ54.out; have := HK3.out; have := HK4.out; omega
                 case rel => exact ⟨(x28_4), (wrap64 (x29_4 + 1)), (by first | rfl | (simp; done) | (simp [*]; done)), (by first | rfl | (simp; done) | (simp [*]; done)), H', ⟨by have := HJ11.out; have := HJ54.out; have := HK3.out; have := HK4.out; omega⟩, ⟨by (with_reducible repeat (first | apply Kd.R_alloc | apply Kd.R_drewN | apply Kd.R_drew)); exact HO_5.out⟩, ⟨by repeat (first | (with_reducible first | exact HB.out | apply below_alloc | apply pw_below_drewN | apply below_drew1) | exact HB.out)⟩⟩
               ·rw [if_neg c81] at H
                exact absurd H (by simp)
              ·rw [if_neg c80] at H
               have c80b0 : decide (x29_4 < (t397.length : Int)) = false := decide_eq_false c80
               clear c80
               obtain rfl := Option.some.inj H
               go_wp2
               go_ret
               exact ⟨by first | rfl | (simp [errW_none, errW_some] <;> rfl) | (simp [*, errW_none, errW_some] <;> rfl), by repeat (first | (with_reducible first | exact HB.out | apply below_alloc | apply pw_below_drewN | apply below_drew1) | exact HB.out)⟩
     ·rw [if_neg c52] at H
      have c52b0 : (t401 == 0) = false := beq_eq_false_iff_ne.mpr c52
      have c52b1 : (t401 != 0) = true := bne_iff_ne.mpr c52
      obtain rfl := Option.some.inj H
      go_wp2
      go_ret
      exact ⟨by first | rfl | (simp [errW_none, errW_some] <;> rfl) | (simp [*, errW_none, errW_some] <;> rfl), by repeat (first | (with_reducible first | exact HB.out | apply below_alloc | apply pw_below_drewN | apply below_drew1) | exact HB.out)⟩

end Go.Proofs.Ythmeohanbggnlaa.PFnLinesOfBooks
