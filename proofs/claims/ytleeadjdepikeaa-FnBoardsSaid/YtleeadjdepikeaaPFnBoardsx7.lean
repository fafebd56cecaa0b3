import Derived.Test.YtleeadjdepikeaaPFnBoardsx0
import Derived.Test.YtleeadjdepikeaaPFnBoardsx1
import Derived.Test.YtleeadjdepikeaaPFnBoardsx2
import Derived.Test.YtleeadjdepikeaaPFnBoardsx3
import Derived.Test.YtleeadjdepikeaaPFnBoardsx4
import Derived.Test.YtleeadjdepikeaaPFnBoardsx5
import Derived.Test.YtleeadjdepikeaaPFnBoardsx6
namespace Go.Proofs.Ytleeadjdepikeaa.PFnBoards
open Go.RowKit Go.Proofs.YtleeadjdepikeaaW.PrintWords Go.Proofs.YtleeadjdepikeaaW.PrintLast Go.Proofs.YtleeadjdepikeaaW.PrintMore
attribute [local go_sem] max2_int min2_int max_two min_two max_three min_three max_four min_four   -- for this text's walks alone
set_option linter.unusedVariables false
set_option linter.unusedSimpArgs false

attribute [local go_sem high] eqA30
mutual
def laws_FnBoards.j0 : Nat → Int → Int → Int → Int → Int → Int → Bool → Int → Int → Int → Int → Int → Int → Int → Int → Int → Int → Int → Int → Int → Int → Int → Int → Option (Bool)
 | 0, _, _, _, _, _, _, _, _, _, _, _, _, _, _, _, _, _, _, _, _, _, _, _ => none
 | k + 1, x6, x7, x10, x20, x21, x23, x140, x439000, x439001, x439002, x440000, x440001, x440002, x440003, x441000, x441001, x464000, x464001, x464002, x464003, x469000, x469001, x469002 => if x140 = true then (some false) else (if x23 = 0 then ((impl_SpineWidth.f x20 x21 0).bind fun bt474 => (if bt474.2 = 0 then (if x469002 = bt474.1 then (if x469000 = x464000 then (laws_FnBoards.j1 k x6 x7 x10 (x469001 != x464001) x439000 x439001 x439002 x440000 x440001 x440002 x440003 x441000 x441001) else (laws_FnBoards.j1 k x6 x7 x10 true x439000 x439001 x439002 x440000 x440001 x440002 x440003 x441000 x441001)) else (laws_FnBoards.j1 k x6 x7 x10 true x439000 x439001 x439002 x440000 x440001 x440002 x440003 x441000 x441001)) else (laws_FnBoards.j1 k x6 x7 x10 true x439000 x439001 x439002 x440000 x440001 x440002 x440003 x441000 x441001))) else (if x7 = 0 then ((impl_CaseOf.f x439000 x439001 x439002 x440000 x440001 x440002 x440003).bind fun bt483 => (if bt483.2.2.2.2.2 = 0 then (if (wrap64 ((wrap64 (x6 * bt483.1)) * bt483.2.1)) ≤ (wrap64 (x441000 * x441001)) then (some (decide ((wrap64 ((wrap64 (x10 * bt483.2.2.2.1)) * bt483.2.2.2.2.1)) ≤ (wrap64 (x441000 * x441001))))) else (some false)) else (some false))) else (some true)))
def laws_FnBoards.j1 : Nat → Int → Int → Int → Bool → Int → Int → Int → Int → Int → Int → Int → Int → Int → Option (Bool)
 | 0, _, _, _, _, _, _, _, _, _, _, _, _, _ => none
 | k + 1, x6, x7, x10, x170, x439000, x439001, x439002, x440000, x440001, x440002, x440003, x441000, x441001 => if x170 = true then (some false) else (if x7 = 0 then ((impl_CaseOf.f x439000 x439001 x439002 x440000 x440001 x440002 x440003).bind fun bt476 => (if bt476.2.2.2.2.2 = 0 then (if (wrap64 ((wrap64 (x6 * bt476.1)) * bt476.2.1)) ≤ (wrap64 (x441000 * x441001)) then (some (decide ((wrap64 ((wrap64 (x10 * bt476.2.2.2.1)) * bt476.2.2.2.2.1)) ≤ (wrap64 (x441000 * x441001))))) else (some false)) else (some false))) else (some true))
end
def laws_FnBoards.f (k : Nat) (l0 : List Int) : Option (Bool) := (laws_big.f l0).bind fun t428 => (if t428 = true then (some true) else ((spec_DrawBoardsPerSheet.f k l0).bind fun bt429 => ((impl_BoardsPerSheet.f bt429.1 bt429.2.1 bt429.2.2.1 bt429.2.2.2.1 bt429.2.2.2.2.1 bt429.2.2.2.2.2.1 bt429.2.2.2.2.2.2.1 bt429.2.2.2.2.2.2.2.1 bt429.2.2.2.2.2.2.2.2).bind fun bt441 => ((spec_BoardsPerSheet.f k bt429.1 bt429.2.1 bt429.2.2.1 bt429.2.2.2.1 bt429.2.2.2.2.1 bt429.2.2.2.2.2.1 bt429.2.2.2.2.2.2.1 bt429.2.2.2.2.2.2.2.1 bt429.2.2.2.2.2.2.2.2).bind fun bt443 => ((impl_CasesPerCloth.f bt429.1 bt429.2.1 bt429.2.2.1 bt429.2.2.2.1 bt429.2.2.2.2.1 bt429.2.2.2.2.2.1 bt429.2.2.2.2.2.2.1 bt429.2.2.2.2.2.2.2.1 bt429.2.2.2.2.2.2.2.2).bind fun bt445 => ((spec_CasesPerCloth.f k bt429.1 bt429.2.1 bt429.2.2.1 bt429.2.2.2.1 bt429.2.2.2.2.1 bt429.2.2.2.2.2.1 bt429.2.2.2.2.2.2.1 bt429.2.2.2.2.2.2.2.1 bt429.2.2.2.2.2.2.2.2).bind fun bt447 => ((spec_DrawGlueArea.f k l0).bind fun bt449 => ((impl_GlueArea.f bt449.1 bt449.2.1 bt449.2.2).bind fun bt453 => ((spec_GlueArea.f bt449.1 bt449.2.1 bt449.2.2).bind fun bt455 => ((spec_DrawBlockOf.f k l0).bind fun bt457 => ((impl_BlockOf.f bt457.1 bt457.2.1 bt457.2.2.1 bt457.2.2.2.1 bt457.2.2.2.2.1 bt457.2.2.2.2.2).bind fun bt464 => ((spec_BlockOf.f k bt457.1 bt457.2.1 bt457.2.2.1 bt457.2.2.2.1 bt457.2.2.2.2.1 bt457.2.2.2.2.2).bind fun bt469 => (if bt441.2 = bt443.2 then (if bt441.1 = bt443.1 then (if bt445.2 = bt447.2 then (if bt445.1 = bt447.1 then (if bt453.2 = bt455.2 then (if bt453.1 = bt455.1 then (if bt464.2.2.2 = bt469.2.2.2 then (if (!(bt464.1 == bt469.1) || (!(bt464.2.1 == bt469.2.1) || (!(bt464.2.2.1 == bt469.2.2.1)))) = true then (laws_FnBoards.j0 k bt441.1 bt441.2 bt445.1 bt457.2.2.2.2.1 bt457.2.2.2.2.2 bt464.2.2.2 true bt429.1 bt429.2.1 bt429.2.2.1 bt429.2.2.2.1 bt429.2.2.2.2.1 bt429.2.2.2.2.2.1 bt429.2.2.2.2.2.2.1 bt429.2.2.2.2.2.2.2.1 bt429.2.2.2.2.2.2.2.2 bt457.1 bt457.2.1 bt457.2.2.1 bt457.2.2.2.1 bt464.1 bt464.2.1 bt464.2.2.1) else (laws_FnBoards.j0 k bt441.1 bt441.2 bt445.1 bt457.2.2.2.2.1 bt457.2.2.2.2.2 bt464.2.2.2 (bt445.2 != bt441.2) bt429.1 bt429.2.1 bt429.2.2.1 bt429.2.2.2.1 bt429.2.2.2.2.1 bt429.2.2.2.2.2.1 bt429.2.2.2.2.2.2.1 bt429.2.2.2.2.2.2.2.1 bt429.2.2.2.2.2.2.2.2 bt457.1 bt457.2.1 bt457.2.2.1 bt457.2.2.2.1 bt464.1 bt464.2.1 bt464.2.2.1)) else (laws_FnBoards.j0 k bt441.1 bt441.2 bt445.1 bt457.2.2.2.2.1 bt457.2.2.2.2.2 bt464.2.2.2 true bt429.1 bt429.2.1 bt429.2.2.1 bt429.2.2.2.1 bt429.2.2.2.2.1 bt429.2.2.2.2.2.1 bt429.2.2.2.2.2.2.1 bt429.2.2.2.2.2.2.2.1 bt429.2.2.2.2.2.2.2.2 bt457.1 bt457.2.1 bt457.2.2.1 bt457.2.2.2.1 bt464.1 bt464.2.1 bt464.2.2.1)) else (laws_FnBoards.j0 k bt441.1 bt441.2 bt445.1 bt457.2.2.2.2.1 bt457.2.2.2.2.2 bt464.2.2.2 true bt429.1 bt429.2.1 bt429.2.2.1 bt429.2.2.2.1 bt429.2.2.2.2.1 bt429.2.2.2.2.2.1 bt429.2.2.2.2.2.2.1 bt429.2.2.2.2.2.2.2.1 bt429.2.2.2.2.2.2.2.2 bt457.1 bt457.2.1 bt457.2.2.1 bt457.2.2.2.1 bt464.1 bt464.2.1 bt464.2.2.1)) else (laws_FnBoards.j0 k bt441.1 bt441.2 bt445.1 bt457.2.2.2.2.1 bt457.2.2.2.2.2 bt464.2.2.2 true bt429.1 bt429.2.1 bt429.2.2.1 bt429.2.2.2.1 bt429.2.2.2.2.1 bt429.2.2.2.2.2.1 bt429.2.2.2.2.2.2.1 bt429.2.2.2.2.2.2.2.1 bt429.2.2.2.2.2.2.2.2 bt457.1 bt457.2.1 bt457.2.2.1 bt457.2.2.2.1 bt464.1 bt464.2.1 bt464.2.2.1)) else (laws_FnBoards.j0 k bt441.1 bt441.2 bt445.1 bt457.2.2.2.2.1 bt457.2.2.2.2.2 bt464.2.2.2 true bt429.1 bt429.2.1 bt429.2.2.1 bt429.2.2.2.1 bt429.2.2.2.2.1 bt429.2.2.2.2.2.1 bt429.2.2.2.2.2.2.1 bt429.2.2.2.2.2.2.2.1 bt429.2.2.2.2.2.2.2.2 bt457.1 bt457.2.1 bt457.2.2.1 bt457.2.2.2.1 bt464.1 bt464.2.1 bt464.2.2.1)) else (laws_FnBoards.j0 k bt441.1 bt441.2 bt445.1 bt457.2.2.2.2.1 bt457.2.2.2.2.2 bt464.2.2.2 true bt429.1 bt429.2.1 bt429.2.2.1 bt429.2.2.2.1 bt429.2.2.2.2.1 bt429.2.2.2.2.2.1 bt429.2.2.2.2.2.2.1 bt429.2.2.2.2.2.2.2.1 bt429.2.2.2.2.2.2.2.2 bt457.1 bt457.2.1 bt457.2.2.1 bt457.2.2.2.1 bt464.1 bt464.2.1 bt464.2.2.1)) else (laws_FnBoards.j0 k bt441.1 bt441.2 bt445.1 bt457.2.2.2.2.1 bt457.2.2.2.2.2 bt464.2.2.2 true bt429.1 bt429.2.1 bt429.2.2.1 bt429.2.2.2.1 bt429.2.2.2.2.1 bt429.2.2.2.2.2.1 bt429.2.2.2.2.2.2.1 bt429.2.2.2.2.2.2.2.1 bt429.2.2.2.2.2.2.2.2 bt457.1 bt457.2.1 bt457.2.2.1 bt457.2.2.2.1 bt464.1 bt464.2.1 bt464.2.2.1)) else (laws_FnBoards.j0 k bt441.1 bt441.2 bt445.1 bt457.2.2.2.2.1 bt457.2.2.2.2.2 bt464.2.2.2 true bt429.1 bt429.2.1 bt429.2.2.1 bt429.2.2.2.1 bt429.2.2.2.2.1 bt429.2.2.2.2.2.1 bt429.2.2.2.2.2.2.1 bt429.2.2.2.2.2.2.2.1 bt429.2.2.2.2.2.2.2.2 bt457.1 bt457.2.1 bt457.2.2.1 bt457.2.2.2.1 bt464.1 bt464.2.1 bt464.2.2.1))))))))))))))
theorem laws_FnBoards.mono_l : ∀ k, (∀ y0 y1 y2 y3 y4 y5 y6 y7 y8 y9 y10 y11 y12 y13 y14 y15 y16 y17 y18 y19 y20 y21 y22, LeO (laws_FnBoards.j0 k y0 y1 y2 y3 y4 y5 y6 y7 y8 y9 y10 y11 y12 y13 y14 y15 y16 y17 y18 y19 y20 y21 y22) (laws_FnBoards.j0 (k + 1) y0 y1 y2 y3 y4 y5 y6 y7 y8 y9 y10 y11 y12 y13 y14 y15 y16 y17 y18 y19 y20 y21 y22)) ∧ (∀ y0 y1 y2 y3 y4 y5 y6 y7 y8 y9 y10 y11 y12, LeO (laws_FnBoards.j1 k y0 y1 y2 y3 y4 y5 y6 y7 y8 y9 y10 y11 y12) (laws_FnBoards.j1 (k + 1) y0 y1 y2 y3 y4 y5 y6 y7 y8 y9 y10 y11 y12))
 | 0 => ⟨fun _ _ _ _ _ _ _ _ _ _ _ _ _ _ _ _ _ _ _ _ _ _ _ r h => by simp [laws_FnBoards.j0] at h, fun _ _ _ _ _ _ _ _ _ _ _ _ _ r h => by simp [laws_FnBoards.j1] at h⟩
 | k + 1 => by
  obtain ⟨ih0, ih1⟩ := laws_FnBoards.mono_l k
  refine ⟨?_, ?_⟩
  ·intro y0 y1 y2 y3 y4 y5 y6 y7 y8 y9 y10 y11 y12 y13 y14 y15 y16 y17 y18 y19 y20 y21 y22
   unfold laws_FnBoards.j0
   repeat' first
   | (with_reducible exact ih0 _ _ _ _ _ _ _ _ _ _ _ _ _ _ _ _ _ _ _ _ _ _ _)
   | (with_reducible exact ih1 _ _ _ _ _ _ _ _ _ _ _ _ _)
   | (with_reducible exact spec_BlockOf.mono _ _ _ _ _ _ _)
   | (with_reducible exact spec_BoardsPerSheet.mono _ _ _ _ _ _ _ _ _ _)
   | (with_reducible exact spec_CasesPerCloth.mono _ _ _ _ _ _ _ _ _ _)
   | (with_reducible exact spec_DrawBlockOf.mono _ _)
   | (with_reducible exact spec_DrawBoardsPerSheet.mono _ _)
   | (with_reducible exact spec_DrawGlueArea.mono _ _)
   | (with_reducible exact LeO.refl _)
   | (with_reducible exact LeO.none _)
   | (with_reducible refine LeO.ite ?_ ?_)
   | (with_reducible refine LeO.bind ?_ (fun _ => ?_))
   | exact ih0 _ _ _ _ _ _ _ _ _ _ _ _ _ _ _ _ _ _ _ _ _ _ _
   | exact ih1 _ _ _ _ _ _ _ _ _ _ _ _ _
   | exact spec_BlockOf.mono _ _ _ _ _ _ _
   | exact spec_BoardsPerSheet.mono _ _ _ _ _ _ _ _ _ _
   | exact spec_CasesPerCloth.mono _ _ _ _ _ _ _ _ _ _
   | exact spec_DrawBlockOf.mono _ _
   | exact spec_DrawBoardsPerSheet.mono _ _
   | exact spec_DrawGlueArea.mono _ _
   | exact LeO.none _
   | refine LeO.ite ?_ ?_
   | refine LeO.bind ?_ (fun _ => ?_)
  ·intro y0 y1 y2 y3 y4 y5 y6 y7 y8 y9 y10 y11 y12
   unfold laws_FnBoards.j1
   repeat' first
   | (with_reducible exact ih0 _ _ _ _ _ _ _ _ _ _ _ _ _ _ _ _ _ _ _ _ _ _ _)
   | (with_reducible exact ih1 _ _ _ _ _ _ _ _ _ _ _ _ _)
   | (with_reducible exact spec_BlockOf.mono _ _ _ _ _ _ _)
   | (with_reducible exact spec_BoardsPerSheet.mono _ _ _ _ _ _ _ _ _ _)
   | (with_reducible exact spec_CasesPerCloth.mono _ _ _ _ _ _ _ _ _ _)
   | (with_reducible exact spec_DrawBlockOf.mono _ _)
   | (with_reducible exact spec_DrawBoardsPerSheet.mono _ _)
   | (with_reducible exact spec_DrawGlueArea.mono _ _)
   | (with_reducible exact LeO.refl _)
   | (with_reducible exact LeO.none _)
   | (with_reducible refine LeO.ite ?_ ?_)
   | (with_reducible refine LeO.bind ?_ (fun _ => ?_))
   | exact ih0 _ _ _ _ _ _ _ _ _ _ _ _ _ _ _ _ _ _ _ _ _ _ _
   | exact ih1 _ _ _ _ _ _ _ _ _ _ _ _ _
   | exact spec_BlockOf.mono _ _ _ _ _ _ _
   | exact spec_BoardsPerSheet.mono _ _ _ _ _ _ _ _ _ _
   | exact spec_CasesPerCloth.mono _ _ _ _ _ _ _ _ _ _
   | exact spec_DrawBlockOf.mono _ _
   | exact spec_DrawBoardsPerSheet.mono _ _
   | exact spec_DrawGlueArea.mono _ _
   | exact LeO.none _
   | refine LeO.ite ?_ ?_
   | refine LeO.bind ?_ (fun _ => ?_)
theorem laws_FnBoards.mono : ∀ a0 k, LeO (laws_FnBoards.f k a0) (laws_FnBoards.f (k + 1) a0) := by
 intro a0 k
 obtain ⟨ih0, ih1⟩ := laws_FnBoards.mono_l k
 unfold laws_FnBoards.f
 repeat' first
   | (with_reducible exact ih0 _ _ _ _ _ _ _ _ _ _ _ _ _ _ _ _ _ _ _ _ _ _ _)
   | (with_reducible exact ih1 _ _ _ _ _ _ _ _ _ _ _ _ _)
   | (with_reducible exact spec_BlockOf.mono _ _ _ _ _ _ _)
   | (with_reducible exact spec_BoardsPerSheet.mono _ _ _ _ _ _ _ _ _ _)
   | (with_reducible exact spec_CasesPerCloth.mono _ _ _ _ _ _ _ _ _ _)
   | (with_reducible exact spec_DrawBlockOf.mono _ _)
   | (with_reducible exact spec_DrawBoardsPerSheet.mono _ _)
   | (with_reducible exact spec_DrawGlueArea.mono _ _)
   | (with_reducible exact LeO.refl _)
   | (with_reducible exact LeO.none _)
   | (with_reducible refine LeO.ite ?_ ?_)
   | (with_reducible refine LeO.bind ?_ (fun _ => ?_))
   | exact ih0 _ _ _ _ _ _ _ _ _ _ _ _ _ _ _ _ _ _ _ _ _ _ _
   | exact ih1 _ _ _ _ _ _ _ _ _ _ _ _ _
   | exact spec_BlockOf.mono _ _ _ _ _ _ _
   | exact spec_BoardsPerSheet.mono _ _ _ _ _ _ _ _ _ _
   | exact spec_CasesPerCloth.mono _ _ _ _ _ _ _ _ _ _
   | exact spec_DrawBlockOf.mono _ _
   | exact spec_DrawBoardsPerSheet.mono _ _
   | exact spec_DrawGlueArea.mono _ _
   | exact LeO.none _
   | refine LeO.ite ?_ ?_
   | refine LeO.bind ?_ (fun _ => ?_)
set_option maxHeartbeats 8000000 in
set_option maxRecDepth 100000 in
theorem laws_FnBoards.calls (k : Nat) (A0 : Option Addr) (c0 : Nat) (l0 : List Int) (r : Bool) (w : World) (hr0 : Kd.C (Kd.int .u8) w A0 l0.length l0) (hc0 : l0.length ≤ c0) (hr_ : Aside0 (r = true)) (h : laws_FnBoards.f k l0 = some r) :
  Calls Try.prog 9 #[.slice A0 l0.length c0] w fun e w' => e = .returned (.bool r) ∧ Below w.heap.size w w' := by
 have hu30 := Try.underlying30
 have hu32 := Try.underlying32
 have hu52 := Try.underlying52
 have hu40 := Try.underlying40
 have hu27 := Try.underlying27
 have HR0 := Aside0.mk hr0
 have HC0 := Aside0.mk hc0
 clear hr0 hc0
 have HB := Aside0.mk (Below.refl w.heap.size w)
 have H : ((laws_big.f l0).bind fun t428 => (if t428 = true then (some true) else ((spec_DrawBoardsPerSheet.f k l0).bind fun bt429 => ((impl_BoardsPerSheet.f bt429.1 bt429.2.1 bt429.2.2.1 bt429.2.2.2.1 bt429.2.2.2.2.1 bt429.2.2.2.2.2.1 bt429.2.2.2.2.2.2.1 bt429.2.2.2.2.2.2.2.1 bt429.2.2.2.2.2.2.2.2).bind fun bt441 => ((spec_BoardsPerSheet.f k bt429.1 bt429.2.1 bt429.2.2.1 bt429.2.2.2.1 bt429.2.2.2.2.1 bt429.2.2.2.2.2.1 bt429.2.2.2.2.2.2.1 bt429.2.2.2.2.2.2.2.1 bt429.2.2.2.2.2.2.2.2).bind fun bt443 => ((impl_CasesPerCloth.f bt429.1 bt429.2.1 bt429.2.2.1 bt429.2.2.2.1 bt429.2.2.2.2.1 bt429.2.2.2.2.2.1 bt429.2.2.2.2.2.2.1 bt429.2.2.2.2.2.2.2.1 bt429.2.2.2.2.2.2.2.2).bind fun bt445 => ((spec_CasesPerCloth.f k bt429.1 bt429.2.1 bt429.2.2.1 bt429.2.2.2.1 bt429.2.2.2.2.1 bt429.2.2.2.2.2.1 bt429.2.2.2.2.2.2.1 bt429.2.2.2.2.2.2.2.1 bt429.2.2.2.2.2.2.2.2).bind fun bt447 => ((spec_DrawGlueArea.f k l0).bind fun bt449 => ((impl_GlueArea.f bt449.1 bt449.2.1 bt449.2.2).bind fun bt453 => ((spec_GlueArea.f bt449.1 bt449.2.1 bt449.2.2).bind fun bt455 => ((spec_DrawBlockOf.f k l0).bind fun bt457 => ((impl_BlockOf.f bt457.1 bt457.2.1 bt457.2.2.1 bt457.2.2.2.1 bt457.2.2.2.2.1 bt457.2.2.2.2.2).bind fun bt464 => ((spec_BlockOf.f k bt457.1 bt457.2.1 bt457.2.2.1 bt457.2.2.2.1 bt457.2.2.2.2.1 bt457.2.2.2.2.2).bind fun bt469 => (if bt441.2 = bt443.2 then (if bt441.1 = bt443.1 then (if bt445.2 = bt447.2 then (if bt445.1 = bt447.1 then (if bt453.2 = bt455.2 then (if bt453.1 = bt455.1 then (if bt464.2.2.2 = bt469.2.2.2 then (if (!(bt464.1 == bt469.1) || (!(bt464.2.1 == bt469.2.1) || (!(bt464.2.2.1 == bt469.2.2.1)))) = true then (laws_FnBoards.j0 k bt441.1 bt441.2 bt445.1 bt457.2.2.2.2.1 bt457.2.2.2.2.2 bt464.2.2.2 true bt429.1 bt429.2.1 bt429.2.2.1 bt429.2.2.2.1 bt429.2.2.2.2.1 bt429.2.2.2.2.2.1 bt429.2.2.2.2.2.2.1 bt429.2.2.2.2.2.2.2.1 bt429.2.2.2.2.2.2.2.2 bt457.1 bt457.2.1 bt457.2.2.1 bt457.2.2.2.1 bt464.1 bt464.2.1 bt464.2.2.1) else (laws_FnBoards.j0 k bt441.1 bt441.2 bt445.1 bt457.2.2.2.2.1 bt457.2.2.2.2.2 bt464.2.2.2 (bt445.2 != bt441.2) bt429.1 bt429.2.1 bt429.2.2.1 bt429.2.2.2.1 bt429.2.2.2.2.1 bt429.2.2.2.2.2.1 bt429.2.2.2.2.2.2.1 bt429.2.2.2.2.2.2.2.1 bt429.2.2.2.2.2.2.2.2 bt457.1 bt457.2.1 bt457.2.2.1 bt457.2.2.2.1 bt464.1 bt464.2.1 bt464.2.2.1)) else (laws_FnBoards.j0 k bt441.1 bt441.2 bt445.1 bt457.2.2.2.2.1 bt457.2.2.2.2.2 bt464.2.2.2 true bt429.1 bt429.2.1 bt429.2.2.1 bt429.2.2.2.1 bt429.2.2.2.2.1 bt429.2.2.2.2.2.1 bt429.2.2.2.2.2.2.1 bt429.2.2.2.2.2.2.2.1 bt429.2.2.2.2.2.2.2.2 bt457.1 bt457.2.1 bt457.2.2.1 bt457.2.2.2.1 bt464.1 bt464.2.1 bt464.2.2.1)) else (laws_FnBoards.j0 k bt441.1 bt441.2 bt445.1 bt457.2.2.2.2.1 bt457.2.2.2.2.2 bt464.2.2.2 true bt429.1 bt429.2.1 bt429.2.2.1 bt429.2.2.2.1 bt429.2.2.2.2.1 bt429.2.2.2.2.2.1 bt429.2.2.2.2.2.2.1 bt429.2.2.2.2.2.2.2.1 bt429.2.2.2.2.2.2.2.2 bt457.1 bt457.2.1 bt457.2.2.1 bt457.2.2.2.1 bt464.1 bt464.2.1 bt464.2.2.1)) else (laws_FnBoards.j0 k bt441.1 bt441.2 bt445.1 bt457.2.2.2.2.1 bt457.2.2.2.2.2 bt464.2.2.2 true bt429.1 bt429.2.1 bt429.2.2.1 bt429.2.2.2.1 bt429.2.2.2.2.1 bt429.2.2.2.2.2.1 bt429.2.2.2.2.2.2.1 bt429.2.2.2.2.2.2.2.1 bt429.2.2.2.2.2.2.2.2 bt457.1 bt457.2.1 bt457.2.2.1 bt457.2.2.2.1 bt464.1 bt464.2.1 bt464.2.2.1)) else (laws_FnBoards.j0 k bt441.1 bt441.2 bt445.1 bt457.2.2.2.2.1 bt457.2.2.2.2.2 bt464.2.2.2 true bt429.1 bt429.2.1 bt429.2.2.1 bt429.2.2.2.1 bt429.2.2.2.2.1 bt429.2.2.2.2.2.1 bt429.2.2.2.2.2.2.1 bt429.2.2.2.2.2.2.2.1 bt429.2.2.2.2.2.2.2.2 bt457.1 bt457.2.1 bt457.2.2.1 bt457.2.2.2.1 bt464.1 bt464.2.1 bt464.2.2.1)) else (laws_FnBoards.j0 k bt441.1 bt441.2 bt445.1 bt457.2.2.2.2.1 bt457.2.2.2.2.2 bt464.2.2.2 true bt429.1 bt429.2.1 bt429.2.2.1 bt429.2.2.2.1 bt429.2.2.2.2.1 bt429.2.2.2.2.2.1 bt429.2.2.2.2.2.2.1 bt429.2.2.2.2.2.2.2.1 bt429.2.2.2.2.2.2.2.2 bt457.1 bt457.2.1 bt457.2.2.1 bt457.2.2.2.1 bt464.1 bt464.2.1 bt464.2.2.1)) else (laws_FnBoards.j0 k bt441.1 bt441.2 bt445.1 bt457.2.2.2.2.1 bt457.2.2.2.2.2 bt464.2.2.2 true bt429.1 bt429.2.1 bt429.2.2.1 bt429.2.2.2.1 bt429.2.2.2.2.1 bt429.2.2.2.2.2.1 bt429.2.2.2.2.2.2.1 bt429.2.2.2.2.2.2.2.1 bt429.2.2.2.2.2.2.2.2 bt457.1 bt457.2.1 bt457.2.2.1 bt457.2.2.2.1 bt464.1 bt464.2.1 bt464.2.2.1)) else (laws_FnBoards.j0 k bt441.1 bt441.2 bt445.1 bt457.2.2.2.2.1 bt457.2.2.2.2.2 bt464.2.2.2 true bt429.1 bt429.2.1 bt429.2.2.1 bt429.2.2.2.1 bt429.2.2.2.2.1 bt429.2.2.2.2.2.1 bt429.2.2.2.2.2.2.1 bt429.2.2.2.2.2.2.2.1 bt429.2.2.2.2.2.2.2.2 bt457.1 bt457.2.1 bt457.2.2.1 bt457.2.2.2.1 bt464.1 bt464.2.1 bt464.2.2.1))))))))))))))) = some r := h
 clear h
 replace H := Option.bind_eq_some_iff.mp H
 obtain ⟨t428, A20, H⟩ := H
 replace H : (if t428 = true then (some true) else ((spec_DrawBoardsPerSheet.f k l0).bind fun bt429 => ((impl_BoardsPerSheet.f bt429.1 bt429.2.1 bt429.2.2.1 bt429.2.2.2.1 bt429.2.2.2.2.1 bt429.2.2.2.2.2.1 bt429.2.2.2.2.2.2.1 bt429.2.2.2.2.2.2.2.1 bt429.2.2.2.2.2.2.2.2).bind fun bt441 => ((spec_BoardsPerSheet.f k bt429.1 bt429.2.1 bt429.2.2.1 bt429.2.2.2.1 bt429.2.2.2.2.1 bt429.2.2.2.2.2.1 bt429.2.2.2.2.2.2.1 bt429.2.2.2.2.2.2.2.1 bt429.2.2.2.2.2.2.2.2).bind fun bt443 => ((impl_CasesPerCloth.f bt429.1 bt429.2.1 bt429.2.2.1 bt429.2.2.2.1 bt429.2.2.2.2.1 bt429.2.2.2.2.2.1 bt429.2.2.2.2.2.2.1 bt429.2.2.2.2.2.2.2.1 bt429.2.2.2.2.2.2.2.2).bind fun bt445 => ((spec_CasesPerCloth.f k bt429.1 bt429.2.1 bt429.2.2.1 bt429.2.2.2.1 bt429.2.2.2.2.1 bt429.2.2.2.2.2.1 bt429.2.2.2.2.2.2.1 bt429.2.2.2.2.2.2.2.1 bt429.2.2.2.2.2.2.2.2).bind fun bt447 => ((spec_DrawGlueArea.f k l0).bind fun bt449 => ((impl_GlueArea.f bt449.1 bt449.2.1 bt449.2.2).bind fun bt453 => ((spec_GlueArea.f bt449.1 bt449.2.1 bt449.2.2).bind fun bt455 => ((spec_DrawBlockOf.f k l0).bind fun bt457 => ((impl_BlockOf.f bt457.1 bt457.2.1 bt457.2.2.1 bt457.2.2.2.1 bt457.2.2.2.2.1 bt457.2.2.2.2.2).bind fun bt464 => ((spec_BlockOf.f k bt457.1 bt457.2.1 bt457.2.2.1 bt457.2.2.2.1 bt457.2.2.2.2.1 bt457.2.2.2.2.2).bind fun bt469 => (if bt441.2 = bt443.2 then (if bt441.1 = bt443.1 then (if bt445.2 = bt447.2 then (if bt445.1 = bt447.1 then (if bt453.2 = bt455.2 then (if bt453.1 = bt455.1 then (if bt464.2.2.2 = bt469.2.2.2 then (if (!(bt464.1 == bt469.1) || (!(bt464.2.1 == bt469.2.1) || (!(bt464.2.2.1 == bt469.2.2.1)))) = true then (laws_FnBoards.j0 k bt441.1 bt441.2 bt445.1 bt457.2.2.2.2.1 bt457.2.2.2.2.2 bt464.2.2.2 true bt429.1 bt429.2.1 bt429.2.2.1 bt429.2.2.2.1 bt429.2.2.2.2.1 bt429.2.2.2.2.2.1 bt429.2.2.2.2.2.2.1 bt429.2.2.2.2.2.2.2.1 bt429.2.2.2.2.2.2.2.2 bt457.1 bt457.2.1 bt457.2.2.1 bt457.2.2.2.1 bt464.1 bt464.2.1 bt464.2.2.1) else (laws_FnBoards.j0 k bt441.1 bt441.2 bt445.1 bt457.2.2.2.2.1 bt457.2.2.2.2.2 bt464.2.2.2 (bt445.2 != bt441.2) bt429.1 bt429.2.1 bt429.2.2.1 bt429.2.2.2.1 bt429.2.2.2.2.1 bt429.2.2.2.2.2.1 bt429.2.2.2.2.2.2.1 bt429.2.2.2.2.2.2.2.1 bt429.2.2.2.2.2.2.2.2 bt457.1 bt457.2.1 bt457.2.2.1 bt457.2.2.2.1 bt464.1 bt464.2.1 bt464.2.2.1)) else (laws_FnBoards.j0 k bt441.1 bt441.2 bt445.1 bt457.2.2.2.2.1 bt457.2.2.2.2.2 bt464.2.2.2 true bt429.1 bt429.2.1 bt429.2.2.1 bt429.2.2.2.1 bt429.2.2.2.2.1 bt429.2.2.2.2.2.1 bt429.2.2.2.2.2.2.1 bt429.2.2.2.2.2.2.2.1 bt429.2.2.2.2.2.2.2.2 bt457.1 bt457.2.1 bt457.2.2.1 bt457.2.2.2.1 bt464.1 bt464.2.1 bt464.2.2.1)) else (laws_FnBoards.j0 k bt441.1 bt441.2 bt445.1 bt457.2.2.2.2.1 bt457.2.2.2.2.2 bt464.2.2.2 true bt429.1 bt429.2.1 bt429.2.2.1 bt429.2.2.2.1 bt429.2.2.2.2.1 bt429.2.2.2.2.2.1 bt429.2.2.2.2.2.2.1 bt429.2.2.2.2.2.2.2.1 bt429.2.2.2.2.2.2.2.2 bt457.1 bt457.2.1 bt457.2.2.1 bt457.2.2.2.1 bt464.1 bt464.2.1 bt464.2.2.1)) else (laws_FnBoards.j0 k bt441.1 bt441.2 bt445.1 bt457.2.2.2.2.1 bt457.2.2.2.2.2 bt464.2.2.2 true bt429.1 bt429.2.1 bt429.2.2.1 bt429.2.2.2.1 bt429.2.2.2.2.1 bt429.2.2.2.2.2.1 bt429.2.2.2.2.2.2.1 bt429.2.2.2.2.2.2.2.1 bt429.2.2.2.2.2.2.2.2 bt457.1 bt457.2.1 bt457.2.2.1 bt457.2.2.2.1 bt464.1 bt464.2.1 bt464.2.2.1)) else (laws_FnBoards.j0 k bt441.1 bt441.2 bt445.1 bt457.2.2.2.2.1 bt457.2.2.2.2.2 bt464.2.2.2 true bt429.1 bt429.2.1 bt429.2.2.1 bt429.2.2.2.1 bt429.2.2.2.2.1 bt429.2.2.2.2.2.1 bt429.2.2.2.2.2.2.1 bt429.2.2.2.2.2.2.2.1 bt429.2.2.2.2.2.2.2.2 bt457.1 bt457.2.1 bt457.2.2.1 bt457.2.2.2.1 bt464.1 bt464.2.1 bt464.2.2.1)) else (laws_FnBoards.j0 k bt441.1 bt441.2 bt445.1 bt457.2.2.2.2.1 bt457.2.2.2.2.2 bt464.2.2.2 true bt429.1 bt429.2.1 bt429.2.2.1 bt429.2.2.2.1 bt429.2.2.2.2.1 bt429.2.2.2.2.2.1 bt429.2.2.2.2.2.2.1 bt429.2.2.2.2.2.2.2.1 bt429.2.2.2.2.2.2.2.2 bt457.1 bt457.2.1 bt457.2.2.1 bt457.2.2.2.1 bt464.1 bt464.2.1 bt464.2.2.1)) else (laws_FnBoards.j0 k bt441.1 bt441.2 bt445.1 bt457.2.2.2.2.1 bt457.2.2.2.2.2 bt464.2.2.2 true bt429.1 bt429.2.1 bt429.2.2.1 bt429.2.2.2.1 bt429.2.2.2.2.1 bt429.2.2.2.2.2.1 bt429.2.2.2.2.2.2.1 bt429.2.2.2.2.2.2.2.1 bt429.2.2.2.2.2.2.2.2 bt457.1 bt457.2.1 bt457.2.2.1 bt457.2.2.2.1 bt464.1 bt464.2.1 bt464.2.2.1)) else (laws_FnBoards.j0 k bt441.1 bt441.2 bt445.1 bt457.2.2.2.2.1 bt457.2.2.2.2.2 bt464.2.2.2 true bt429.1 bt429.2.1 bt429.2.2.1 bt429.2.2.2.1 bt429.2.2.2.2.1 bt429.2.2.2.2.2.1 bt429.2.2.2.2.2.2.1 bt429.2.2.2.2.2.2.2.1 bt429.2.2.2.2.2.2.2.2 bt457.1 bt457.2.1 bt457.2.2.1 bt457.2.2.2.1 bt464.1 bt464.2.1 bt464.2.2.1)))))))))))))) = some r := H
 have A2 := Aside0.mk A20
 clear A20
 by_cases c3 : t428 = true
 ·subst c3
  have H1 : (some true) = some r := by rw [if_pos rfl] at H; exact H
  clear H
  have H := H1
  clear H1
  obtain rfl := Option.some.inj H
  go_enter Try.func9, Try.ntmps9
  go_wp2_with (first | ((with_reducible refine gate_callee (f := 27) rfl ?_); refine goesL_ (some 31) rfl rfl Try.func27 (by kernel_rfl) rfl #[.slice A0 l0.length c0] rfl (by (try simp only [List.map_toArray, List.map_cons, List.map_nil]); first | done | rfl | (simp only [List.length_drop, List.length_take]; rfl)) ?_; (with_reducible refine (laws_big.calls _ _ l0 true _ ?side1 ?side2 A2.out).mono ?_); (case side1 => repeat (first | exact HR0.out | (with_reducible refine Kd.C_alloc ?_ _) | (with_reducible refine Kd.C_drewN ?_ _) | (with_reducible refine Kd.C_drew ?_))); (case side2 => exact HC0.out); rintro e w' ⟨rfl, ⟨nd, rfl⟩⟩; refine ⟨_, rfl, ?_⟩))
  go_ret
  exact ⟨by first | rfl | (simp [errW_none, errW_some] <;> rfl) | (simp [*, errW_none, errW_some] <;> rfl), by repeat (first | (with_reducible first | exact HB.out | apply below_alloc | apply pw_below_drewN | apply below_drew1) | exact HB.out)⟩
 ·replace c3 := Bool.eq_false_iff.mpr c3
  subst c3
  have H1 : ((spec_DrawBoardsPerSheet.f k l0).bind fun bt429 => ((impl_BoardsPerSheet.f bt429.1 bt429.2.1 bt429.2.2.1 bt429.2.2.2.1 bt429.2.2.2.2.1 bt429.2.2.2.2.2.1 bt429.2.2.2.2.2.2.1 bt429.2.2.2.2.2.2.2.1 bt429.2.2.2.2.2.2.2.2).bind fun bt441 => ((spec_BoardsPerSheet.f k bt429.1 bt429.2.1 bt429.2.2.1 bt429.2.2.2.1 bt429.2.2.2.2.1 bt429.2.2.2.2.2.1 bt429.2.2.2.2.2.2.1 bt429.2.2.2.2.2.2.2.1 bt429.2.2.2.2.2.2.2.2).bind fun bt443 => ((impl_CasesPerCloth.f bt429.1 bt429.2.1 bt429.2.2.1 bt429.2.2.2.1 bt429.2.2.2.2.1 bt429.2.2.2.2.2.1 bt429.2.2.2.2.2.2.1 bt429.2.2.2.2.2.2.2.1 bt429.2.2.2.2.2.2.2.2).bind fun bt445 => ((spec_CasesPerCloth.f k bt429.1 bt429.2.1 bt429.2.2.1 bt429.2.2.2.1 bt429.2.2.2.2.1 bt429.2.2.2.2.2.1 bt429.2.2.2.2.2.2.1 bt429.2.2.2.2.2.2.2.1 bt429.2.2.2.2.2.2.2.2).bind fun bt447 => ((spec_DrawGlueArea.f k l0).bind fun bt449 => ((impl_GlueArea.f bt449.1 bt449.2.1 bt449.2.2).bind fun bt453 => ((spec_GlueArea.f bt449.1 bt449.2.1 bt449.2.2).bind fun bt455 => ((spec_DrawBlockOf.f k l0).bind fun bt457 => ((impl_BlockOf.f bt457.1 bt457.2.1 bt457.2.2.1 bt457.2.2.2.1 bt457.2.2.2.2.1 bt457.2.2.2.2.2).bind fun bt464 => ((spec_BlockOf.f k bt457.1 bt457.2.1 bt457.2.2.1 bt457.2.2.2.1 bt457.2.2.2.2.1 bt457.2.2.2.2.2).bind fun bt469 => (if bt441.2 = bt443.2 then (if bt441.1 = bt443.1 then (if bt445.2 = bt447.2 then (if bt445.1 = bt447.1 then (if bt453.2 = bt455.2 then (if bt453.1 = bt455.1 then (if bt464.2.2.2 = bt469.2.2.2 then (if (!(bt464.1 == bt469.1) || (!(bt464.2.1 == bt469.2.1) || (!(bt464.2.2.1 == bt469.2.2.1)))) = true then (laws_FnBoards.j0 k bt441.1 bt441.2 bt445.1 bt457.2.2.2.2.1 bt457.2.2.2.2.2 bt464.2.2.2 true bt429.1 bt429.2.1 bt429.2.2.1 bt429.2.2.2.1 bt429.2.2.2.2.1 bt429.2.2.2.2.2.1 bt429.2.2.2.2.2.2.1 bt429.2.2.2.2.2.2.2.1 bt429.2.2.2.2.2.2.2.2 bt457.1 bt457.2.1 bt457.2.2.1 bt457.2.2.2.1 bt464.1 bt464.2.1 bt464.2.2.1) else (laws_FnBoards.j0 k bt441.1 bt441.2 bt445.1 bt457.2.2.2.2.1 bt457.2.2.2.2.2 bt464.2.2.2 (bt445.2 != bt441.2) bt429.1 bt429.2.1 bt429.2.2.1 bt429.2.2.2.1 bt429.2.2.2.2.1 bt429.2.2.2.2.2.1 bt429.2.2.2.2.2.2.1 bt429.2.2.2.2.2.2.2.1 bt429.2.2.2.2.2.2.2.2 bt457.1 bt457.2.1 bt457.2.2.1 bt457.2.2.2.1 bt464.1 bt464.2.1 bt464.2.2.1)) else (laws_FnBoards.j0 k bt441.1 bt441.2 bt445.1 bt457.2.2.2.2.1 bt457.2.2.2.2.2 bt464.2.2.2 true bt429.1 bt429.2.1 bt429.2.2.1 bt429.2.2.2.1 bt429.2.2.2.2.1 bt429.2.2.2.2.2.1 bt429.2.2.2.2.2.2.1 bt429.2.2.2.2.2.2.2.1 bt429.2.2.2.2.2.2.2.2 bt457.1 bt457.2.1 bt457.2.2.1 bt457.2.2.2.1 bt464.1 bt464.2.1 bt464.2.2.1)) else (laws_FnBoards.j0 k bt441.1 bt441.2 bt445.1 bt457.2.2.2.2.1 bt457.2.2.2.2.2 bt464.2.2.2 true bt429.1 bt429.2.1 bt429.2.2.1 bt429.2.2.2.1 bt429.2.2.2.2.1 bt429.2.2.2.2.2.1 bt429.2.2.2.2.2.2.1 bt429.2.2.2.2.2.2.2.1 bt429.2.2.2.2.2.2.2.2 bt457.1 bt457.2.1 bt457.2.2.1 bt457.2.2.2.1 bt464.1 bt464.2.1 bt464.2.2.1)) else (laws_FnBoards.j0 k bt441.1 bt441.2 bt445.1 bt457.2.2.2.2.1 bt457.2.2.2.2.2 bt464.2.2.2 true bt429.1 bt429.2.1 bt429.2.2.1 bt429.2.2.2.1 bt429.2.2.2.2.1 bt429.2.2.2.2.2.1 bt429.2.2.2.2.2.2.1 bt429.2.2.2.2.2.2.2.1 bt429.2.2.2.2.2.2.2.2 bt457.1 bt457.2.1 bt457.2.2.1 bt457.2.2.2.1 bt464.1 bt464.2.1 bt464.2.2.1)) else (laws_FnBoards.j0 k bt441.1 bt441.2 bt445.1 bt457.2.2.2.2.1 bt457.2.2.2.2.2 bt464.2.2.2 true bt429.1 bt429.2.1 bt429.2.2.1 bt429.2.2.2.1 bt429.2.2.2.2.1 bt429.2.2.2.2.2.1 bt429.2.2.2.2.2.2.1 bt429.2.2.2.2.2.2.2.1 bt429.2.2.2.2.2.2.2.2 bt457.1 bt457.2.1 bt457.2.2.1 bt457.2.2.2.1 bt464.1 bt464.2.1 bt464.2.2.1)) else (laws_FnBoards.j0 k bt441.1 bt441.2 bt445.1 bt457.2.2.2.2.1 bt457.2.2.2.2.2 bt464.2.2.2 true bt429.1 bt429.2.1 bt429.2.2.1 bt429.2.2.2.1 bt429.2.2.2.2.1 bt429.2.2.2.2.2.1 bt429.2.2.2.2.2.2.1 bt429.2.2.2.2.2.2.2.1 bt429.2.2.2.2.2.2.2.2 bt457.1 bt457.2.1 bt457.2.2.1 bt457.2.2.2.1 bt464.1 bt464.2.1 bt464.2.2.1)) else (laws_FnBoards.j0 k bt441.1 bt441.2 bt445.1 bt457.2.2.2.2.1 bt457.2.2.2.2.2 bt464.2.2.2 true bt429.1 bt429.2.1 bt429.2.2.1 bt429.2.2.2.1 bt429.2.2.2.2.1 bt429.2.2.2.2.2.1 bt429.2.2.2.2.2.2.1 bt429.2.2.2.2.2.2.2.1 bt429.2.2.2.2.2.2.2.2 bt457.1 bt457.2.1 bt457.2.2.1 bt457.2.2.2.1 bt464.1 bt464.2.1 bt464.2.2.1)) else (laws_FnBoards.j0 k bt441.1 bt441.2 bt445.1 bt457.2.2.2.2.1 bt457.2.2.2.2.2 bt464.2.2.2 true bt429.1 bt429.2.1 bt429.2.2.1 bt429.2.2.2.1 bt429.2.2.2.2.1 bt429.2.2.2.2.2.1 bt429.2.2.2.2.2.2.1 bt429.2.2.2.2.2.2.2.1 bt429.2.2.2.2.2.2.2.2 bt457.1 bt457.2.1 bt457.2.2.1 bt457.2.2.2.1 bt464.1 bt464.2.1 bt464.2.2.1))))))))))))) = some r := by rw [if_neg (show ¬ (false = true) by decide)] at H; exact H
  clear H
  have H := H1
  clear H1
  replace H := Option.bind_eq_some_iff.mp H
  obtain ⟨⟨t429, t430, t431, t432, t433, t434, t435, t436, t437⟩, A40, H⟩ := H
  replace H : ((impl_BoardsPerSheet.f t429 t430 t431 t432 t433 t434 t435 t436 t437).bind fun bt441 => ((spec_BoardsPerSheet.f k t429 t430 t431 t432 t433 t434 t435 t436 t437).bind fun bt443 => ((impl_CasesPerCloth.f t429 t430 t431 t432 t433 t434 t435 t436 t437).bind fun bt445 => ((spec_CasesPerCloth.f k t429 t430 t431 t432 t433 t434 t435 t436 t437).bind fun bt447 => ((spec_DrawGlueArea.f k l0).bind fun bt449 => ((impl_GlueArea.f bt449.1 bt449.2.1 bt449.2.2).bind fun bt453 => ((spec_GlueArea.f bt449.1 bt449.2.1 bt449.2.2).bind fun bt455 => ((spec_DrawBlockOf.f k l0).bind fun bt457 => ((impl_BlockOf.f bt457.1 bt457.2.1 bt457.2.2.1 bt457.2.2.2.1 bt457.2.2.2.2.1 bt457.2.2.2.2.2).bind fun bt464 => ((spec_BlockOf.f k bt457.1 bt457.2.1 bt457.2.2.1 bt457.2.2.2.1 bt457.2.2.2.2.1 bt457.2.2.2.2.2).bind fun bt469 => (if bt441.2 = bt443.2 then (if bt441.1 = bt443.1 then (if bt445.2 = bt447.2 then (if bt445.1 = bt447.1 then (if bt453.2 = bt455.2 then (if bt453.1 = bt455.1 then (if bt464.2.2.2 = bt469.2.2.2 then (if (!(bt464.1 == bt469.1) || (!(bt464.2.1 == bt469.2.1) || (!(bt464.2.2.1 == bt469.2.2.1)))) = true then (laws_FnBoards.j0 k bt441.1 bt441.2 bt445.1 bt457.2.2.2.2.1 bt457.2.2.2.2.2 bt464.2.2.2 true t429 t430 t431 t432 t433 t434 t435 t436 t437 bt457.1 bt457.2.1 bt457.2.2.1 bt457.2.2.2.1 bt464.1 bt464.2.1 bt464.2.2.1) else (laws_FnBoards.j0 k bt441.1 bt441.2 bt445.1 bt457.2.2.2.2.1 bt457.2.2.2.2.2 bt464.2.2.2 (bt445.2 != bt441.2) t429 t430 t431 t432 t433 t434 t435 t436 t437 bt457.1 bt457.2.1 bt457.2.2.1 bt457.2.2.2.1 bt464.1 bt464.2.1 bt464.2.2.1)) else (laws_FnBoards.j0 k bt441.1 bt441.2 bt445.1 bt457.2.2.2.2.1 bt457.2.2.2.2.2 bt464.2.2.2 true t429 t430 t431 t432 t433 t434 t435 t436 t437 bt457.1 bt457.2.1 bt457.2.2.1 bt457.2.2.2.1 bt464.1 bt464.2.1 bt464.2.2.1)) else (laws_FnBoards.j0 k bt441.1 bt441.2 bt445.1 bt457.2.2.2.2.1 bt457.2.2.2.2.2 bt464.2.2.2 true t429 t430 t431 t432 t433 t434 t435 t436 t437 bt457.1 bt457.2.1 bt457.2.2.1 bt457.2.2.2.1 bt464.1 bt464.2.1 bt464.2.2.1)) else (laws_FnBoards.j0 k bt441.1 bt441.2 bt445.1 bt457.2.2.2.2.1 bt457.2.2.2.2.2 bt464.2.2.2 true t429 t430 t431 t432 t433 t434 t435 t436 t437 bt457.1 bt457.2.1 bt457.2.2.1 bt457.2.2.2.1 bt464.1 bt464.2.1 bt464.2.2.1)) else (laws_FnBoards.j0 k bt441.1 bt441.2 bt445.1 bt457.2.2.2.2.1 bt457.2.2.2.2.2 bt464.2.2.2 true t429 t430 t431 t432 t433 t434 t435 t436 t437 bt457.1 bt457.2.1 bt457.2.2.1 bt457.2.2.2.1 bt464.1 bt464.2.1 bt464.2.2.1)) else (laws_FnBoards.j0 k bt441.1 bt441.2 bt445.1 bt457.2.2.2.2.1 bt457.2.2.2.2.2 bt464.2.2.2 true t429 t430 t431 t432 t433 t434 t435 t436 t437 bt457.1 bt457.2.1 bt457.2.2.1 bt457.2.2.2.1 bt464.1 bt464.2.1 bt464.2.2.1)) else (laws_FnBoards.j0 k bt441.1 bt441.2 bt445.1 bt457.2.2.2.2.1 bt457.2.2.2.2.2 bt464.2.2.2 true t429 t430 t431 t432 t433 t434 t435 t436 t437 bt457.1 bt457.2.1 bt457.2.2.1 bt457.2.2.2.1 bt464.1 bt464.2.1 bt464.2.2.1)) else (laws_FnBoards.j0 k bt441.1 bt441.2 bt445.1 bt457.2.2.2.2.1 bt457.2.2.2.2.2 bt464.2.2.2 true t429 t430 t431 t432 t433 t434 t435 t436 t437 bt457.1 bt457.2.1 bt457.2.2.1 bt457.2.2.2.1 bt464.1 bt464.2.1 bt464.2.2.1)))))))))))) = some r := H
  have A4 := Aside0.mk A40
  clear A40
  replace H := Option.bind_eq_some_iff.mp H
  obtain ⟨⟨t441, t442⟩, A50, H⟩ := H
  replace H : ((spec_BoardsPerSheet.f k t429 t430 t431 t432 t433 t434 t435 t436 t437).bind fun bt443 => ((impl_CasesPerCloth.f t429 t430 t431 t432 t433 t434 t435 t436 t437).bind fun bt445 => ((spec_CasesPerCloth.f k t429 t430 t431 t432 t433 t434 t435 t436 t437).bind fun bt447 => ((spec_DrawGlueArea.f k l0).bind fun bt449 => ((impl_GlueArea.f bt449.1 bt449.2.1 bt449.2.2).bind fun bt453 => ((spec_GlueArea.f bt449.1 bt449.2.1 bt449.2.2).bind fun bt455 => ((spec_DrawBlockOf.f k l0).bind fun bt457 => ((impl_BlockOf.f bt457.1 bt457.2.1 bt457.2.2.1 bt457.2.2.2.1 bt457.2.2.2.2.1 bt457.2.2.2.2.2).bind fun bt464 => ((spec_BlockOf.f k bt457.1 bt457.2.1 bt457.2.2.1 bt457.2.2.2.1 bt457.2.2.2.2.1 bt457.2.2.2.2.2).bind fun bt469 => (if t442 = bt443.2 then (if t441 = bt443.1 then (if bt445.2 = bt447.2 then (if bt445.1 = bt447.1 then (if bt453.2 = bt455.2 then (if bt453.1 = bt455.1 then (if bt464.2.2.2 = bt469.2.2.2 then (if (!(bt464.1 == bt469.1) || (!(bt464.2.1 == bt469.2.1) || (!(bt464.2.2.1 == bt469.2.2.1)))) = true then (laws_FnBoards.j0 k t441 t442 bt445.1 bt457.2.2.2.2.1 bt457.2.2.2.2.2 bt464.2.2.2 true t429 t430 t431 t432 t433 t434 t435 t436 t437 bt457.1 bt457.2.1 bt457.2.2.1 bt457.2.2.2.1 bt464.1 bt464.2.1 bt464.2.2.1) else (laws_FnBoards.j0 k t441 t442 bt445.1 bt457.2.2.2.2.1 bt457.2.2.2.2.2 bt464.2.2.2 (bt445.2 != t442) t429 t430 t431 t432 t433 t434 t435 t436 t437 bt457.1 bt457.2.1 bt457.2.2.1 bt457.2.2.2.1 bt464.1 bt464.2.1 bt464.2.2.1)) else (laws_FnBoards.j0 k t441 t442 bt445.1 bt457.2.2.2.2.1 bt457.2.2.2.2.2 bt464.2.2.2 true t429 t430 t431 t432 t433 t434 t435 t436 t437 bt457.1 bt457.2.1 bt457.2.2.1 bt457.2.2.2.1 bt464.1 bt464.2.1 bt464.2.2.1)) else (laws_FnBoards.j0 k t441 t442 bt445.1 bt457.2.2.2.2.1 bt457.2.2.2.2.2 bt464.2.2.2 true t429 t430 t431 t432 t433 t434 t435 t436 t437 bt457.1 bt457.2.1 bt457.2.2.1 bt457.2.2.2.1 bt464.1 bt464.2.1 bt464.2.2.1)) else (laws_FnBoards.j0 k t441 t442 bt445.1 bt457.2.2.2.2.1 bt457.2.2.2.2.2 bt464.2.2.2 true t429 t430 t431 t432 t433 t434 t435 t436 t437 bt457.1 bt457.2.1 bt457.2.2.1 bt457.2.2.2.1 bt464.1 bt464.2.1 bt464.2.2.1)) else (laws_FnBoards.j0 k t441 t442 bt445.1 bt457.2.2.2.2.1 bt457.2.2.2.2.2 bt464.2.2.2 true t429 t430 t431 t432 t433 t434 t435 t436 t437 bt457.1 bt457.2.1 bt457.2.2.1 bt457.2.2.2.1 bt464.1 bt464.2.1 bt464.2.2.1)) else (laws_FnBoards.j0 k t441 t442 bt445.1 bt457.2.2.2.2.1 bt457.2.2.2.2.2 bt464.2.2.2 true t429 t430 t431 t432 t433 t434 t435 t436 t437 bt457.1 bt457.2.1 bt457.2.2.1 bt457.2.2.2.1 bt464.1 bt464.2.1 bt464.2.2.1)) else (laws_FnBoards.j0 k t441 t442 bt445.1 bt457.2.2.2.2.1 bt457.2.2.2.2.2 bt464.2.2.2 true t429 t430 t431 t432 t433 t434 t435 t436 t437 bt457.1 bt457.2.1 bt457.2.2.1 bt457.2.2.2.1 bt464.1 bt464.2.1 bt464.2.2.1)) else (laws_FnBoards.j0 k t441 t442 bt445.1 bt457.2.2.2.2.1 bt457.2.2.2.2.2 bt464.2.2.2 true t429 t430 t431 t432 t433 t434 t435 t436 t437 bt457.1 bt457.2.1 bt457.2.2.1 bt457.2.2.2.1 bt464.1 bt464.2.1 bt464.2.2.1))))))))))) = some r := H
  have A5 := Aside0.mk A50
  clear A50
  replace H := Option.bind_eq_some_iff.mp H
  obtain ⟨⟨t443, t444⟩, A60, H⟩ := H
  replace H : ((impl_CasesPerCloth.f t429 t430 t431 t432 t433 t434 t435 t436 t437).bind fun bt445 => ((spec_CasesPerCloth.f k t429 t430 t431 t432 t433 t434 t435 t436 t437).bind fun bt447 => ((spec_DrawGlueArea.f k l0).bind fun bt449 => ((impl_GlueArea.f bt449.1 bt449.2.1 bt449.2.2).bind fun bt453 => ((spec_GlueArea.f bt449.1 bt449.2.1 bt449.2.2).bind fun bt455 => ((spec_DrawBlockOf.f k l0).bind fun bt457 => ((impl_BlockOf.f bt457.1 bt457.2.1 bt457.2.2.1 bt457.2.2.2.1 bt457.2.2.2.2.1 bt457.2.2.2.2.2).bind fun bt464 => ((spec_BlockOf.f k bt457.1 bt457.2.1 bt457.2.2.1 bt457.2.2.2.1 bt457.2.2.2.2.1 bt457.2.2.2.2.2).bind fun bt469 => (if t442 = t444 then (if t441 = t443 then (if bt445.2 = bt447.2 then (if bt445.1 = bt447.1 then (if bt453.2 = bt455.2 then (if bt453.1 = bt455.1 then (if bt464.2.2.2 = bt469.2.2.2 then (if (!(bt464.1 == bt469.1) || (!(bt464.2.1 == bt469.2.1) || (!(bt464.2.2.1 == bt469.2.2.1)))) = true then (laws_FnBoards.j0 k t441 t442 bt445.1 bt457.2.2.2.2.1 bt457.2.2.2.2.2 bt464.2.2.2 true t429 t430 t431 t432 t433 t434 t435 t436 t437 bt457.1 bt457.2.1 bt457.2.2.1 bt457.2.2.2.1 bt464.1 bt464.2.1 bt464.2.2.1) else (laws_FnBoards.j0 k t441 t442 bt445.1 bt457.2.2.2.2.1 bt457.2.2.2.2.2 bt464.2.2.2 (bt445.2 != t442) t429 t430 t431 t432 t433 t434 t435 t436 t437 bt457.1 bt457.2.1 bt457.2.2.1 bt457.2.2.2.1 bt464.1 bt464.2.1 bt464.2.2.1)) else (laws_FnBoards.j0 k t441 t442 bt445.1 bt457.2.2.2.2.1 bt457.2.2.2.2.2 bt464.2.2.2 true t429 t430 t431 t432 t433 t434 t435 t436 t437 bt457.1 bt457.2.1 bt457.2.2.1 bt457.2.2.2.1 bt464.1 bt464.2.1 bt464.2.2.1)) else (laws_FnBoards.j0 k t441 t442 bt445.1 bt457.2.2.2.2.1 bt457.2.2.2.2.2 bt464.2.2.2 true t429 t430 t431 t432 t433 t434 t435 t436 t437 bt457.1 bt457.2.1 bt457.2.2.1 bt457.2.2.2.1 bt464.1 bt464.2.1 bt464.2.2.1)) else (laws_FnBoards.j0 k t441 t442 bt445.1 bt457.2.2.2.2.1 bt457.2.2.2.2.2 bt464.2.2.2 true t429 t430 t431 t432 t433 t434 t435 t436 t437 bt457.1 bt457.2.1 bt457.2.2.1 bt457.2.2.2.1 bt464.1 bt464.2.1 bt464.2.2.1)) else (laws_FnBoards.j0 k t441 t442 bt445.1 bt457.2.2.2.2.1 bt457.2.2.2.2.2 bt464.2.2.2 true t429 t430 t431 t432 t433 t434 t435 t436 t437 bt457.1 bt457.2.1 bt457.2.2.1 bt457.2.2.2.1 bt464.1 bt464.2.1 bt464.2.2.1)) else (laws_FnBoards.j0 k t441 t442 bt445.1 bt457.2.2.2.2.1 bt457.2.2.2.2.2 bt464.2.2.2 true t429 t430 t431 t432 t433 t434 t435 t436 t437 bt457.1 bt457.2.1 bt457.2.2.1 bt457.2.2.2.1 bt464.1 bt464.2.1 bt464.2.2.1)) else (laws_FnBoards.j0 k t441 t442 bt445.1 bt457.2.2.2.2.1 bt457.2.2.2.2.2 bt464.2.2.2 true t429 t430 t431 t432 t433 t434 t435 t436 t437 bt457.1 bt457.2.1 bt457.2.2.1 bt457.2.2.2.1 bt464.1 bt464.2.1 bt464.2.2.1)) else (laws_FnBoards.j0 k t441 t442 bt445.1 bt457.2.2.2.2.1 bt457.2.2.2.2.2 bt464.2.2.2 true t429 t430 t431 t432 t433 t434 t435 t436 t437 bt457.1 bt457.2.1 bt457.2.2.1 bt457.2.2.2.1 bt464.1 bt464.2.1 bt464.2.2.1)))))))))) = some r := H
  have A6 := Aside0.mk A60
  clear A60
  replace H := Option.bind_eq_some_iff.mp H
  obtain ⟨⟨t445, t446⟩, A70, H⟩ := H
  replace H : ((spec_CasesPerCloth.f k t429 t430 t431 t432 t433 t434 t435 t436 t437).bind fun bt447 => ((spec_DrawGlueArea.f k l0).bind fun bt449 => ((impl_GlueArea.f bt449.1 bt449.2.1 bt449.2.2).bind fun bt453 => ((spec_GlueArea.f bt449.1 bt449.2.1 bt449.2.2).bind fun bt455 => ((spec_DrawBlockOf.f k l0).bind fun bt457 => ((impl_BlockOf.f bt457.1 bt457.2.1 bt457.2.2.1 bt457.2.2.2.1 bt457.2.2.2.2.1 bt457.2.2.2.2.2).bind fun bt464 => ((spec_BlockOf.f k bt457.1 bt457.2.1 bt457.2.2.1 bt457.2.2.2.1 bt457.2.2.2.2.1 bt457.2.2.2.2.2).bind fun bt469 => (if t442 = t444 then (if t441 = t443 then (if t446 = bt447.2 then (if t445 = bt447.1 then (if bt453.2 = bt455.2 then (if bt453.1 = bt455.1 then (if bt464.2.2.2 = bt469.2.2.2 then (if (!(bt464.1 == bt469.1) || (!(bt464.2.1 == bt469.2.1) || (!(bt464.2.2.1 == bt469.2.2.1)))) = true then (laws_FnBoards.j0 k t441 t442 t445 bt457.2.2.2.2.1 bt457.2.2.2.2.2 bt464.2.2.2 true t429 t430 t431 t432 t433 t434 t435 t436 t437 bt457.1 bt457.2.1 bt457.2.2.1 bt457.2.2.2.1 bt464.1 bt464.2.1 bt464.2.2.1) else (laws_FnBoards.j0 k t441 t442 t445 bt457.2.2.2.2.1 bt457.2.2.2.2.2 bt464.2.2.2 (t446 != t442) t429 t430 t431 t432 t433 t434 t435 t436 t437 bt457.1 bt457.2.1 bt457.2.2.1 bt457.2.2.2.1 bt464.1 bt464.2.1 bt464.2.2.1)) else (laws_FnBoards.j0 k t441 t442 t445 bt457.2.2.2.2.1 bt457.2.2.2.2.2 bt464.2.2.2 true t429 t430 t431 t432 t433 t434 t435 t436 t437 bt457.1 bt457.2.1 bt457.2.2.1 bt457.2.2.2.1 bt464.1 bt464.2.1 bt464.2.2.1)) else (laws_FnBoards.j0 k t441 t442 t445 bt457.2.2.2.2.1 bt457.2.2.2.2.2 bt464.2.2.2 true t429 t430 t431 t432 t433 t434 t435 t436 t437 bt457.1 bt457.2.1 bt457.2.2.1 bt457.2.2.2.1 bt464.1 bt464.2.1 bt464.2.2.1)) else (laws_FnBoards.j0 k t441 t442 t445 bt457.2.2.2.2.1 bt457.2.2.2.2.2 bt464.2.2.2 true t429 t430 t431 t432 t433 t434 t435 t436 t437 bt457.1 bt457.2.1 bt457.2.2.1 bt457.2.2.2.1 bt464.1 bt464.2.1 bt464.2.2.1)) else (laws_FnBoards.j0 k t441 t442 t445 bt457.2.2.2.2.1 bt457.2.2.2.2.2 bt464.2.2.2 true t429 t430 t431 t432 t433 t434 t435 t436 t437 bt457.1 bt457.2.1 bt457.2.2.1 bt457.2.2.2.1 bt464.1 bt464.2.1 bt464.2.2.1)) else (laws_FnBoards.j0 k t441 t442 t445 bt457.2.2.2.2.1 bt457.2.2.2.2.2 bt464.2.2.2 true t429 t430 t431 t432 t433 t434 t435 t436 t437 bt457.1 bt457.2.1 bt457.2.2.1 bt457.2.2.2.1 bt464.1 bt464.2.1 bt464.2.2.1)) else (laws_FnBoards.j0 k t441 t442 t445 bt457.2.2.2.2.1 bt457.2.2.2.2.2 bt464.2.2.2 true t429 t430 t431 t432 t433 t434 t435 t436 t437 bt457.1 bt457.2.1 bt457.2.2.1 bt457.2.2.2.1 bt464.1 bt464.2.1 bt464.2.2.1)) else (laws_FnBoards.j0 k t441 t442 t445 bt457.2.2.2.2.1 bt457.2.2.2.2.2 bt464.2.2.2 true t429 t430 t431 t432 t433 t434 t435 t436 t437 bt457.1 bt457.2.1 bt457.2.2.1 bt457.2.2.2.1 bt464.1 bt464.2.1 bt464.2.2.1))))))))) = some r := H
  have A7 := Aside0.mk A70
  clear A70
  replace H := Option.bind_eq_some_iff.mp H
  obtain ⟨⟨t447, t448⟩, A80, H⟩ := H
  replace H : ((spec_DrawGlueArea.f k l0).bind fun bt449 => ((impl_GlueArea.f bt449.1 bt449.2.1 bt449.2.2).bind fun bt453 => ((spec_GlueArea.f bt449.1 bt449.2.1 bt449.2.2).bind fun bt455 => ((spec_DrawBlockOf.f k l0).bind fun bt457 => ((impl_BlockOf.f bt457.1 bt457.2.1 bt457.2.2.1 bt457.2.2.2.1 bt457.2.2.2.2.1 bt457.2.2.2.2.2).bind fun bt464 => ((spec_BlockOf.f k bt457.1 bt457.2.1 bt457.2.2.1 bt457.2.2.2.1 bt457.2.2.2.2.1 bt457.2.2.2.2.2).bind fun bt469 => (if t442 = t444 then (if t441 = t443 then (if t446 = t448 then (if t445 = t447 then (if bt453.2 = bt455.2 then (if bt453.1 = bt455.1 then (if bt464.2.2.2 = bt469.2.2.2 then (if (!(bt464.1 == bt469.1) || (!(bt464.2.1 == bt469.2.1) || (!(bt464.2.2.1 == bt469.2.2.1)))) = true then (laws_FnBoards.j0 k t441 t442 t445 bt457.2.2.2.2.1 bt457.2.2.2.2.2 bt464.2.2.2 true t429 t430 t431 t432 t433 t434 t435 t436 t437 bt457.1 bt457.2.1 bt457.2.2.1 bt457.2.2.2.1 bt464.1 bt464.2.1 bt464.2.2.1) else (laws_FnBoards.j0 k t441 t442 t445 bt457.2.2.2.2.1 bt457.2.2.2.2.2 bt464.2.2.2 (t446 != t442) t429 t430 t431 t432 t433 t434 t435 t436 t437 bt457.1 bt457.2.1 bt457.2.2.1 bt457.2.2.2.1 bt464.1 bt464.2.1 bt464.2.2.1)) else (laws_FnBoards.j0 k t441 t442 t445 bt457.2.2.2.2.1 bt457.2.2.2.2.2 bt464.2.2.2 true t429 t430 t431 t432 t433 t434 t435 t436 t437 bt457.1 bt457.2.1 bt457.2.2.1 bt457.2.2.2.1 bt464.1 bt464.2.1 bt464.2.2.1)) else (laws_FnBoards.j0 k t441 t442 t445 bt457.2.2.2.2.1 bt457.2.2.2.2.2 bt464.2.2.2 true t429 t430 t431 t432 t433 t434 t435 t436 t437 bt457.1 bt457.2.1 bt457.2.2.1 bt457.2.2.2.1 bt464.1 bt464.2.1 bt464.2.2.1)) else (laws_FnBoards.j0 k t441 t442 t445 bt457.2.2.2.2.1 bt457.2.2.2.2.2 bt464.2.2.2 true t429 t430 t431 t432 t433 t434 t435 t436 t437 bt457.1 bt457.2.1 bt457.2.2.1 bt457.2.2.2.1 bt464.1 bt464.2.1 bt464.2.2.1)) else (laws_FnBoards.j0 k t441 t442 t445 bt457.2.2.2.2.1 bt457.2.2.2.2.2 bt464.2.2.2 true t429 t430 t431 t432 t433 t434 t435 t436 t437 bt457.1 bt457.2.1 bt457.2.2.1 bt457.2.2.2.1 bt464.1 bt464.2.1 bt464.2.2.1)) else (laws_FnBoards.j0 k t441 t442 t445 bt457.2.2.2.2.1 bt457.2.2.2.2.2 bt464.2.2.2 true t429 t430 t431 t432 t433 t434 t435 t436 t437 bt457.1 bt457.2.1 bt457.2.2.1 bt457.2.2.2.1 bt464.1 bt464.2.1 bt464.2.2.1)) else (laws_FnBoards.j0 k t441 t442 t445 bt457.2.2.2.2.1 bt457.2.2.2.2.2 bt464.2.2.2 true t429 t430 t431 t432 t433 t434 t435 t436 t437 bt457.1 bt457.2.1 bt457.2.2.1 bt457.2.2.2.1 bt464.1 bt464.2.1 bt464.2.2.1)) else (laws_FnBoards.j0 k t441 t442 t445 bt457.2.2.2.2.1 bt457.2.2.2.2.2 bt464.2.2.2 true t429 t430 t431 t432 t433 t434 t435 t436 t437 bt457.1 bt457.2.1 bt457.2.2.1 bt457.2.2.2.1 bt464.1 bt464.2.1 bt464.2.2.1)))))))) = some r := H
  have A8 := Aside0.mk A80
  clear A80
  replace H := Option.bind_eq_some_iff.mp H
  obtain ⟨⟨t449, t450, t451⟩, A90, H⟩ := H
  replace H : ((impl_GlueArea.f t449 t450 t451).bind fun bt453 => ((spec_GlueArea.f t449 t450 t451).bind fun bt455 => ((spec_DrawBlockOf.f k l0).bind fun bt457 => ((impl_BlockOf.f bt457.1 bt457.2.1 bt457.2.2.1 bt457.2.2.2.1 bt457.2.2.2.2.1 bt457.2.2.2.2.2).bind fun bt464 => ((spec_BlockOf.f k bt457.1 bt457.2.1 bt457.2.2.1 bt457.2.2.2.1 bt457.2.2.2.2.1 bt457.2.2.2.2.2).bind fun bt469 => (if t442 = t444 then (if t441 = t443 then (if t446 = t448 then (if t445 = t447 then (if bt453.2 = bt455.2 then (if bt453.1 = bt455.1 then (if bt464.2.2.2 = bt469.2.2.2 then (if (!(bt464.1 == bt469.1) || (!(bt464.2.1 == bt469.2.1) || (!(bt464.2.2.1 == bt469.2.2.1)))) = true then (laws_FnBoards.j0 k t441 t442 t445 bt457.2.2.2.2.1 bt457.2.2.2.2.2 bt464.2.2.2 true t429 t430 t431 t432 t433 t434 t435 t436 t437 bt457.1 bt457.2.1 bt457.2.2.1 bt457.2.2.2.1 bt464.1 bt464.2.1 bt464.2.2.1) else (laws_FnBoards.j0 k t441 t442 t445 bt457.2.2.2.2.1 bt457.2.2.2.2.2 bt464.2.2.2 (t446 != t442) t429 t430 t431 t432 t433 t434 t435 t436 t437 bt457.1 bt457.2.1 bt457.2.2.1 bt457.2.2.2.1 bt464.1 bt464.2.1 bt464.2.2.1)) else (laws_FnBoards.j0 k t441 t442 t445 bt457.2.2.2.2.1 bt457.2.2.2.2.2 bt464.2.2.2 true t429 t430 t431 t432 t433 t434 t435 t436 t437 bt457.1 bt457.2.1 bt457.2.2.1 bt457.2.2.2.1 bt464.1 bt464.2.1 bt464.2.2.1)) else (laws_FnBoards.j0 k t441 t442 t445 bt457.2.2.2.2.1 bt457.2.2.2.2.2 bt464.2.2.2 true t429 t430 t431 t432 t433 t434 t435 t436 t437 bt457.1 bt457.2.1 bt457.2.2.1 bt457.2.2.2.1 bt464.1 bt464.2.1 bt464.2.2.1)) else (laws_FnBoards.j0 k t441 t442 t445 bt457.2.2.2.2.1 bt457.2.2.2.2.2 bt464.2.2.2 true t429 t430 t431 t432 t433 t434 t435 t436 t437 bt457.1 bt457.2.1 bt457.2.2.1 bt457.2.2.2.1 bt464.1 bt464.2.1 bt464.2.2.1)) else (laws_FnBoards.j0 k t441 t442 t445 bt457.2.2.2.2.1 bt457.2.2.2.2.2 bt464.2.2.2 true t429 t430 t431 t432 t433 t434 t435 t436 t437 bt457.1 bt457.2.1 bt457.2.2.1 bt457.2.2.2.1 bt464.1 bt464.2.1 bt464.2.2.1)) else (laws_FnBoards.j0 k t441 t442 t445 bt457.2.2.2.2.1 bt457.2.2.2.2.2 bt464.2.2.2 true t429 t430 t431 t432 t433 t434 t435 t436 t437 bt457.1 bt457.2.1 bt457.2.2.1 bt457.2.2.2.1 bt464.1 bt464.2.1 bt464.2.2.1)) else (laws_FnBoards.j0 k t441 t442 t445 bt457.2.2.2.2.1 bt457.2.2.2.2.2 bt464.2.2.2 true t429 t430 t431 t432 t433 t434 t435 t436 t437 bt457.1 bt457.2.1 bt457.2.2.1 bt457.2.2.2.1 bt464.1 bt464.2.1 bt464.2.2.1)) else (laws_FnBoards.j0 k t441 t442 t445 bt457.2.2.2.2.1 bt457.2.2.2.2.2 bt464.2.2.2 true t429 t430 t431 t432 t433 t434 t435 t436 t437 bt457.1 bt457.2.1 bt457.2.2.1 bt457.2.2.2.1 bt464.1 bt464.2.1 bt464.2.2.1))))))) = some r := H
  have A9 := Aside0.mk A90
  clear A90
  replace H := Option.bind_eq_some_iff.mp H
  obtain ⟨⟨t453, t454⟩, A100, H⟩ := H
  replace H : ((spec_GlueArea.f t449 t450 t451).bind fun bt455 => ((spec_DrawBlockOf.f k l0).bind fun bt457 => ((impl_BlockOf.f bt457.1 bt457.2.1 bt457.2.2.1 bt457.2.2.2.1 bt457.2.2.2.2.1 bt457.2.2.2.2.2).bind fun bt464 => ((spec_BlockOf.f k bt457.1 bt457.2.1 bt457.2.2.1 bt457.2.2.2.1 bt457.2.2.2.2.1 bt457.2.2.2.2.2).bind fun bt469 => (if t442 = t444 then (if t441 = t443 then (if t446 = t448 then (if t445 = t447 then (if t454 = bt455.2 then (if t453 = bt455.1 then (if bt464.2.2.2 = bt469.2.2.2 then (if (!(bt464.1 == bt469.1) || (!(bt464.2.1 == bt469.2.1) || (!(bt464.2.2.1 == bt469.2.2.1)))) = true then (laws_FnBoards.j0 k t441 t442 t445 bt457.2.2.2.2.1 bt457.2.2.2.2.2 bt464.2.2.2 true t429 t430 t431 t432 t433 t434 t435 t436 t437 bt457.1 bt457.2.1 bt457.2.2.1 bt457.2.2.2.1 bt464.1 bt464.2.1 bt464.2.2.1) else (laws_FnBoards.j0 k t441 t442 t445 bt457.2.2.2.2.1 bt457.2.2.2.2.2 bt464.2.2.2 (t446 != t442) t429 t430 t431 t432 t433 t434 t435 t436 t437 bt457.1 bt457.2.1 bt457.2.2.1 bt457.2.2.2.1 bt464.1 bt464.2.1 bt464.2.2.1)) else (laws_FnBoards.j0 k t441 t442 t445 bt457.2.2.2.2.1 bt457.2.2.2.2.2 bt464.2.2.2 true t429 t430 t431 t432 t433 t434 t435 t436 t437 bt457.1 bt457.2.1 bt457.2.2.1 bt457.2.2.2.1 bt464.1 bt464.2.1 bt464.2.2.1)) else (laws_FnBoards.j0 k t441 t442 t445 bt457.2.2.2.2.1 bt457.2.2.2.2.2 bt464.2.2.2 true t429 t430 t431 t432 t433 t434 t435 t436 t437 bt457.1 bt457.2.1 bt457.2.2.1 bt457.2.2.2.1 bt464.1 bt464.2.1 bt464.2.2.1)) else (laws_FnBoards.j0 k t441 t442 t445 bt457.2.2.2.2.1 bt457.2.2.2.2.2 bt464.2.2.2 true t429 t430 t431 t432 t433 t434 t435 t436 t437 bt457.1 bt457.2.1 bt457.2.2.1 bt457.2.2.2.1 bt464.1 bt464.2.1 bt464.2.2.1)) else (laws_FnBoards.j0 k t441 t442 t445 bt457.2.2.2.2.1 bt457.2.2.2.2.2 bt464.2.2.2 true t429 t430 t431 t432 t433 t434 t435 t436 t437 bt457.1 bt457.2.1 bt457.2.2.1 bt457.2.2.2.1 bt464.1 bt464.2.1 bt464.2.2.1)) else (laws_FnBoards.j0 k t441 t442 t445 bt457.2.2.2.2.1 bt457.2.2.2.2.2 bt464.2.2.2 true t429 t430 t431 t432 t433 t434 t435 t436 t437 bt457.1 bt457.2.1 bt457.2.2.1 bt457.2.2.2.1 bt464.1 bt464.2.1 bt464.2.2.1)) else (laws_FnBoards.j0 k t441 t442 t445 bt457.2.2.2.2.1 bt457.2.2.2.2.2 bt464.2.2.2 true t429 t430 t431 t432 t433 t434 t435 t436 t437 bt457.1 bt457.2.1 bt457.2.2.1 bt457.2.2.2.1 bt464.1 bt464.2.1 bt464.2.2.1)) else (laws_FnBoards.j0 k t441 t442 t445 bt457.2.2.2.2.1 bt457.2.2.2.2.2 bt464.2.2.2 true t429 t430 t431 t432 t433 t434 t435 t436 t437 bt457.1 bt457.2.1 bt457.2.2.1 bt457.2.2.2.1 bt464.1 bt464.2.1 bt464.2.2.1)))))) = some r := H
  have A10 := Aside0.mk A100
  clear A100
  replace H := Option.bind_eq_some_iff.mp H
  obtain ⟨⟨t455, t456⟩, A110, H⟩ := H
  replace H : ((spec_DrawBlockOf.f k l0).bind fun bt457 => ((impl_BlockOf.f bt457.1 bt457.2.1 bt457.2.2.1 bt457.2.2.2.1 bt457.2.2.2.2.1 bt457.2.2.2.2.2).bind fun bt464 => ((spec_BlockOf.f k bt457.1 bt457.2.1 bt457.2.2.1 bt457.2.2.2.1 bt457.2.2.2.2.1 bt457.2.2.2.2.2).bind fun bt469 => (if t442 = t444 then (if t441 = t443 then (if t446 = t448 then (if t445 = t447 then (if t454 = t456 then (if t453 = t455 then (if bt464.2.2.2 = bt469.2.2.2 then (if (!(bt464.1 == bt469.1) || (!(bt464.2.1 == bt469.2.1) || (!(bt464.2.2.1 == bt469.2.2.1)))) = true then (laws_FnBoards.j0 k t441 t442 t445 bt457.2.2.2.2.1 bt457.2.2.2.2.2 bt464.2.2.2 true t429 t430 t431 t432 t433 t434 t435 t436 t437 bt457.1 bt457.2.1 bt457.2.2.1 bt457.2.2.2.1 bt464.1 bt464.2.1 bt464.2.2.1) else (laws_FnBoards.j0 k t441 t442 t445 bt457.2.2.2.2.1 bt457.2.2.2.2.2 bt464.2.2.2 (t446 != t442) t429 t430 t431 t432 t433 t434 t435 t436 t437 bt457.1 bt457.2.1 bt457.2.2.1 bt457.2.2.2.1 bt464.1 bt464.2.1 bt464.2.2.1)) else (laws_FnBoards.j0 k t441 t442 t445 bt457.2.2.2.2.1 bt457.2.2.2.2.2 bt464.2.2.2 true t429 t430 t431 t432 t433 t434 t435 t436 t437 bt457.1 bt457.2.1 bt457.2.2.1 bt457.2.2.2.1 bt464.1 bt464.2.1 bt464.2.2.1)) else (laws_FnBoards.j0 k t441 t442 t445 bt457.2.2.2.2.1 bt457.2.2.2.2.2 bt464.2.2.2 true t429 t430 t431 t432 t433 t434 t435 t436 t437 bt457.1 bt457.2.1 bt457.2.2.1 bt457.2.2.2.1 bt464.1 bt464.2.1 bt464.2.2.1)) else (laws_FnBoards.j0 k t441 t442 t445 bt457.2.2.2.2.1 bt457.2.2.2.2.2 bt464.2.2.2 true t429 t430 t431 t432 t433 t434 t435 t436 t437 bt457.1 bt457.2.1 bt457.2.2.1 bt457.2.2.2.1 bt464.1 bt464.2.1 bt464.2.2.1)) else (laws_FnBoards.j0 k t441 t442 t445 bt457.2.2.2.2.1 bt457.2.2.2.2.2 bt464.2.2.2 true t429 t430 t431 t432 t433 t434 t435 t436 t437 bt457.1 bt457.2.1 bt457.2.2.1 bt457.2.2.2.1 bt464.1 bt464.2.1 bt464.2.2.1)) else (laws_FnBoards.j0 k t441 t442 t445 bt457.2.2.2.2.1 bt457.2.2.2.2.2 bt464.2.2.2 true t429 t430 t431 t432 t433 t434 t435 t436 t437 bt457.1 bt457.2.1 bt457.2.2.1 bt457.2.2.2.1 bt464.1 bt464.2.1 bt464.2.2.1)) else (laws_FnBoards.j0 k t441 t442 t445 bt457.2.2.2.2.1 bt457.2.2.2.2.2 bt464.2.2.2 true t429 t430 t431 t432 t433 t434 t435 t436 t437 bt457.1 bt457.2.1 bt457.2.2.1 bt457.2.2.2.1 bt464.1 bt464.2.1 bt464.2.2.1)) else (laws_FnBoards.j0 k t441 t442 t445 bt457.2.2.2.2.1 bt457.2.2.2.2.2 bt464.2.2.2 true t429 t430 t431 t432 t433 t434 t435 t436 t437 bt457.1 bt457.2.1 bt457.2.2.1 bt457.2.2.2.1 bt464.1 bt464.2.1 bt464.2.2.1))))) = some r := H
  have A11 := Aside0.mk A110
  clear A110
  replace H := Option.bind_eq_some_iff.mp H
  obtain ⟨⟨t457, t458, t459, t460, t461, t462⟩, A120, H⟩ := H
  replace H : ((impl_BlockOf.f t457 t458 t459 t460 t461 t462).bind fun bt464 => ((spec_BlockOf.f k t457 t458 t459 t460 t461 t462).bind fun bt469 => (if t442 = t444 then (if t441 = t443 then (if t446 = t448 then (if t445 = t447 then (if t454 = t456 then (if t453 = t455 then (if bt464.2.2.2 = bt469.2.2.2 then (if (!(bt464.1 == bt469.1) || (!(bt464.2.1 == bt469.2.1) || (!(bt464.2.2.1 == bt469.2.2.1)))) = true then (laws_FnBoards.j0 k t441 t442 t445 t461 t462 bt464.2.2.2 true t429 t430 t431 t432 t433 t434 t435 t436 t437 t457 t458 t459 t460 bt464.1 bt464.2.1 bt464.2.2.1) else (laws_FnBoards.j0 k t441 t442 t445 t461 t462 bt464.2.2.2 (t446 != t442) t429 t430 t431 t432 t433 t434 t435 t436 t437 t457 t458 t459 t460 bt464.1 bt464.2.1 bt464.2.2.1)) else (laws_FnBoards.j0 k t441 t442 t445 t461 t462 bt464.2.2.2 true t429 t430 t431 t432 t433 t434 t435 t436 t437 t457 t458 t459 t460 bt464.1 bt464.2.1 bt464.2.2.1)) else (laws_FnBoards.j0 k t441 t442 t445 t461 t462 bt464.2.2.2 true t429 t430 t431 t432 t433 t434 t435 t436 t437 t457 t458 t459 t460 bt464.1 bt464.2.1 bt464.2.2.1)) else (laws_FnBoards.j0 k t441 t442 t445 t461 t462 bt464.2.2.2 true t429 t430 t431 t432 t433 t434 t435 t436 t437 t457 t458 t459 t460 bt464.1 bt464.2.1 bt464.2.2.1)) else (laws_FnBoards.j0 k t441 t442 t445 t461 t462 bt464.2.2.2 true t429 t430 t431 t432 t433 t434 t435 t436 t437 t457 t458 t459 t460 bt464.1 bt464.2.1 bt464.2.2.1)) else (laws_FnBoards.j0 k t441 t442 t445 t461 t462 bt464.2.2.2 true t429 t430 t431 t432 t433 t434 t435 t436 t437 t457 t458 t459 t460 bt464.1 bt464.2.1 bt464.2.2.1)) else (laws_FnBoards.j0 k t441 t442 t445 t461 t462 bt464.2.2.2 true t429 t430 t431 t432 t433 t434 t435 t436 t437 t457 t458 t459 t460 bt464.1 bt464.2.1 bt464.2.2.1)) else (laws_FnBoards.j0 k t441 t442 t445 t461 t462 bt464.2.2.2 true t429 t430 t431 t432 t433 t434 t435 t436 t437 t457 t458 t459 t460 bt464.1 bt464.2.1 bt464.2.2.1)))) = some r := H
  have A12 := Aside0.mk A120
  clear A120
  replace H := Option.bind_eq_some_iff.mp H
  obtain ⟨⟨t464, t465, t466, t467⟩, A130, H⟩ := H
  replace H : ((spec_BlockOf.f k t457 t458 t459 t460 t461 t462).bind fun bt469 => (if t442 = t444 then (if t441 = t443 then (if t446 = t448 then (if t445 = t447 then (if t454 = t456 then (if t453 = t455 then (if t467 = bt469.2.2.2 then (if (!(t464 == bt469.1) || (!(t465 == bt469.2.1) || (!(t466 == bt469.2.2.1)))) = true then (laws_FnBoards.j0 k t441 t442 t445 t461 t462 t467 true t429 t430 t431 t432 t433 t434 t435 t436 t437 t457 t458 t459 t460 t464 t465 t466) else (laws_FnBoards.j0 k t441 t442 t445 t461 t462 t467 (t446 != t442) t429 t430 t431 t432 t433 t434 t435 t436 t437 t457 t458 t459 t460 t464 t465 t466)) else (laws_FnBoards.j0 k t441 t442 t445 t461 t462 t467 true t429 t430 t431 t432 t433 t434 t435 t436 t437 t457 t458 t459 t460 t464 t465 t466)) else (laws_FnBoards.j0 k t441 t442 t445 t461 t462 t467 true t429 t430 t431 t432 t433 t434 t435 t436 t437 t457 t458 t459 t460 t464 t465 t466)) else (laws_FnBoards.j0 k t441 t442 t445 t461 t462 t467 true t429 t430 t431 t432 t433 t434 t435 t436 t437 t457 t458 t459 t460 t464 t465 t466)) else (laws_FnBoards.j0 k t441 t442 t445 t461 t462 t467 true t429 t430 t431 t432 t433 t434 t435 t436 t437 t457 t458 t459 t460 t464 t465 t466)) else (laws_FnBoards.j0 k t441 t442 t445 t461 t462 t467 true t429 t430 t431 t432 t433 t434 t435 t436 t437 t457 t458 t459 t460 t464 t465 t466)) else (laws_FnBoards.j0 k t441 t442 t445 t461 t462 t467 true t429 t430 t431 t432 t433 t434 t435 t436 t437 t457 t458 t459 t460 t464 t465 t466)) else (laws_FnBoards.j0 k t441 t442 t445 t461 t462 t467 true t429 t430 t431 t432 t433 t434 t435 t436 t437 t457 t458 t459 t460 t464 t465 t466))) = some r := H
  have A13 := Aside0.mk A130
  clear A130
  replace H := Option.bind_eq_some_iff.mp H
  obtain ⟨⟨t469, t470, t471, t472⟩, A140, H⟩ := H
  replace H : (if t442 = t444 then (if t441 = t443 then (if t446 = t448 then (if t445 = t447 then (if t454 = t456 then (if t453 = t455 then (if t467 = t472 then (if (!(t464 == t469) || (!(t465 == t470) || (!(t466 == t471)))) = true then (laws_FnBoards.j0 k t441 t442 t445 t461 t462 t467 true t429 t430 t431 t432 t433 t434 t435 t436 t437 t457 t458 t459 t460 t464 t465 t466) else (laws_FnBoards.j0 k t441 t442 t445 t461 t462 t467 (t446 != t442) t429 t430 t431 t432 t433 t434 t435 t436 t437 t457 t458 t459 t460 t464 t465 t466)) else (laws_FnBoards.j0 k t441 t442 t445 t461 t462 t467 true t429 t430 t431 t432 t433 t434 t435 t436 t437 t457 t458 t459 t460 t464 t465 t466)) else (laws_FnBoards.j0 k t441 t442 t445 t461 t462 t467 true t429 t430 t431 t432 t433 t434 t435 t436 t437 t457 t458 t459 t460 t464 t465 t466)) else (laws_FnBoards.j0 k t441 t442 t445 t461 t462 t467 true t429 t430 t431 t432 t433 t434 t435 t436 t437 t457 t458 t459 t460 t464 t465 t466)) else (laws_FnBoards.j0 k t441 t442 t445 t461 t462 t467 true t429 t430 t431 t432 t433 t434 t435 t436 t437 t457 t458 t459 t460 t464 t465 t466)) else (laws_FnBoards.j0 k t441 t442 t445 t461 t462 t467 true t429 t430 t431 t432 t433 t434 t435 t436 t437 t457 t458 t459 t460 t464 t465 t466)) else (laws_FnBoards.j0 k t441 t442 t445 t461 t462 t467 true t429 t430 t431 t432 t433 t434 t435 t436 t437 t457 t458 t459 t460 t464 t465 t466)) else (laws_FnBoards.j0 k t441 t442 t445 t461 t462 t467 true t429 t430 t431 t432 t433 t434 t435 t436 t437 t457 t458 t459 t460 t464 t465 t466)) = some r := H
  have A14 := Aside0.mk A140
  clear A140
  have HC15 := Aside0.mk H
  clear H
  go_enter Try.func9, Try.ntmps9
  go_upto_region 14 with (first | ((with_reducible refine gate_callee (f := 27) rfl ?_); refine goesL_ (some 31) rfl rfl Try.func27 (by kernel_rfl) rfl #[.slice A0 l0.length c0] rfl (by (try simp only [List.map_toArray, List.map_cons, List.map_nil]); first | done | rfl | (simp only [List.length_drop, List.length_take]; rfl)) ?_; (with_reducible refine (laws_big.calls _ _ l0 false _ ?side1 ?side2 A2.out).mono ?_); (case side1 => repeat (first | exact HR0.out | (with_reducible refine Kd.C_alloc ?_ _) | (with_reducible refine Kd.C_drewN ?_ _) | (with_reducible refine Kd.C_drew ?_))); (case side2 => exact HC0.out); rintro e w' ⟨rfl, ⟨nd, rfl⟩⟩; refine ⟨_, rfl, ?_⟩) | ((with_reducible refine gate_callee (f := 34) rfl ?_); refine goesL_ (some 34) rfl rfl Try.func34 (by kernel_rfl) rfl #[.slice A0 l0.length c0] rfl (by (try simp only [List.map_toArray, List.map_cons, List.map_nil]); first | done | rfl | (simp only [List.length_drop, List.length_take]; rfl)) ?_; (with_reducible refine (spec_DrawBoardsPerSheet.calls k _ _ l0 t429 t430 t431 t432 t433 t434 t435 t436 t437 _ ?side1 ?side2 A4.out).mono ?_); (case side1 => repeat (first | exact HR0.out | (with_reducible refine Kd.C_alloc ?_ _) | (with_reducible refine Kd.C_drewN ?_ _) | (with_reducible refine Kd.C_drew ?_))); (case side2 => exact HC0.out); rintro e w16 ⟨rfl, hb⟩; refine ⟨_, rfl, ?_⟩; have n0_ := Aside0.mk (below_step (by repeat (first | (with_reducible first | exact HB.out | apply below_alloc | apply pw_below_drewN | apply below_drew1) | exact HB.out)) hb); clear HB; have HB := n0_; clear n0_; (try clear hb)) | ((with_reducible refine gate_dst (N := 3) rfl ?_); refine box_event ?hg (N := 3) ?hd (cs := #[.int .i64 0, .int .i64 0, .int .i64 0]) (t := 30) ?hr ?_; (case hd => rfl); (case hg => rfl); (case hr => first | (go_simp; done) | (go_simp; rfl)); intro gb438 hg w17 hbox hb; have n0_ := Aside0.mk (below_step (by repeat (first | (with_reducible first | exact HB.out | apply below_alloc | apply pw_below_drewN | apply below_drew1) | exact HB.out)) hb); have n1_ := Aside0.mk (hbox); have n2_ := Aside0.mk ((by rw [hg]; exact (below_size (by repeat (first | (with_reducible first | exact HB.out | apply below_alloc | apply pw_below_drewN | apply below_drew1) | exact HB.out))) : w.heap.size ≤ gb438)); have n3_ := n2_; clear HB; have HB := n0_; have BK438 := n1_; have GW438 := n2_; have GE438 := n3_; clear n0_ n1_ n2_ n3_; clear hb hbox hg) | ((with_reducible refine gate_dst (N := 4) rfl ?_); refine box_event ?hg (N := 4) ?hd (cs := #[.int .i64 0, .int .i64 0, .int .i64 0, .int .i64 0]) (t := 32) ?hr ?_; (case hd => rfl); (case hg => rfl); (case hr => first | (go_simp; done) | (go_simp; rfl)); intro gb439 hg w18 hbox hb; have n0_ := Aside0.mk (blk_below (g := gb438) (o := .cells #[.int .i64 0, .int .i64 0, .int .i64 0] 30 (0, 0)) (by (with_reducible repeat (first | refine blk_drewN ?_ _ | refine blk_drew ?_ | refine blk_alloc ?_ _)); exact BK438.out) hb); have n1_ := Aside0.mk (below_step (by repeat (first | (with_reducible first | exact HB.out | apply below_alloc | apply pw_below_drewN | apply below_drew1 | refine below_set ?_ GE438.out) | exact HB.out)) hb); have n2_ := Aside0.mk (hbox); have n3_ := Aside0.mk ((by rw [hg]; exact (below_size (by repeat (first | (with_reducible first | exact HB.out | apply below_alloc | apply pw_below_drewN | apply below_drew1 | refine below_set ?_ GE438.out) | exact HB.out))) : w.heap.size ≤ gb439)); have n4_ := n3_; have n5_ := Aside0.mk ((by rw [hg]; exact Nat.ne_of_lt (blk_lt (g := gb438) (o := .cells #[.int .i64 0, .int .i64 0, .int .i64 0] 30 (0, 0)) (by (with_reducible repeat (first | refine blk_drewN ?_ _ | refine blk_drew ?_ | refine blk_alloc ?_ _)); exact BK438.out)) : gb438 ≠ gb439)); have n6_ := Aside0.mk n5_.out.symm; clear BK438; clear HB; have BK438 := n0_; have HB := n1_; have BK439 := n2_; have GW439 := n3_; have GE439 := n4_; have NB438_439 := n5_; have NB439_438 := n6_; clear n0_ n1_ n2_ n3_ n4_ n5_ n6_; clear hb hbox hg) | ((with_reducible refine gate_dst (N := 5) rfl ?_); refine box_event ?hg (N := 5) ?hd (cs := #[.int .i64 0, .int .i64 0]) (t := 52) ?hr ?_; (case hd => rfl); (case hg => rfl); (case hr => first | (go_simp; done) | (go_simp; rfl)); intro gb440 hg w19 hbox hb; have n0_ := Aside0.mk (blk_below (g := gb438) (o := .cells #[.int .i64 0, .int .i64 0, .int .i64 0] 30 (0, 0)) (by (with_reducible repeat (first | refine blk_drewN ?_ _ | refine blk_drew ?_ | refine blk_alloc ?_ _)); exact BK438.out) hb); have n1_ := Aside0.mk (blk_below (g := gb439) (o := .cells #[.int .i64 0, .int .i64 0, .int .i64 0, .int .i64 0] 32 (0, 0)) (by (with_reducible repeat (first | refine blk_drewN ?_ _ | refine blk_drew ?_ | refine blk_alloc ?_ _)); exact BK439.out) hb); have n2_ := Aside0.mk (below_step (by repeat (first | (with_reducible first | exact HB.out | apply below_alloc | apply pw_below_drewN | apply below_drew1 | refine below_set ?_ GE438.out | refine below_set ?_ GE439.out) | exact HB.out)) hb); have n3_ := Aside0.mk (hbox); have n4_ := Aside0.mk ((by rw [hg]; exact (below_size (by repeat (first | (with_reducible first | exact HB.out | apply below_alloc | apply pw_below_drewN | apply below_drew1 | refine below_set ?_ GE438.out | refine below_set ?_ GE439.out) | exact HB.out))) : w.heap.size ≤ gb440)); have n5_ := n4_; have n6_ := Aside0.mk ((by rw [hg]; exact Nat.ne_of_lt (blk_lt (g := gb438) (o := .cells #[.int .i64 0, .int .i64 0, .int .i64 0] 30 (0, 0)) (by (with_reducible repeat (first | refine blk_drewN ?_ _ | refine blk_drew ?_ | refine blk_alloc ?_ _)); exact BK438.out)) : gb438 ≠ gb440)); have n7_ := Aside0.mk n6_.out.symm; have n8_ := Aside0.mk ((by rw [hg]; exact Nat.ne_of_lt (blk_lt (g := gb439) (o := .cells #[.int .i64 0, .int .i64 0, .int .i64 0, .int .i64 0] 32 (0, 0)) (by (with_reducible repeat (first | refine blk_drewN ?_ _ | refine blk_drew ?_ | refine blk_alloc ?_ _)); exact BK439.out)) : gb439 ≠ gb440)); have n9_ := Aside0.mk n8_.out.symm; clear BK438; clear BK439; clear HB; have BK438 := n0_; have BK439 := n1_; have HB := n2_; have BK440 := n3_; have GW440 := n4_; have GE440 := n5_; have NB438_440 := n6_; have NB440_438 := n7_; have NB439_440 := n8_; have NB440_439 := n9_; clear n0_ n1_ n2_ n3_ n4_ n5_ n6_ n7_ n8_ n9_; clear hb hbox hg; have hnb20 := NB438_439.out; have hnc20 := NB439_438.out; have hnb21 := NB438_440.out; have hnc21 := NB440_438.out; have hcz22_0 : w19.cell? ⟨gb438, 0, none⟩ = some (.int .i64 0) := (blk_cell BK438.out 0).trans rfl; have hcz22_1 : w19.cell? ⟨gb438, 1, none⟩ = some (.int .i64 0) := (blk_cell BK438.out 1).trans rfl; have hcz22_2 : w19.cell? ⟨gb438, 2, none⟩ = some (.int .i64 0) := (blk_cell BK438.out 2).trans rfl; have hfz22_0 := blk_frozen BK438.out 0; have hfz22_1 := blk_frozen BK438.out 1; have hfz22_2 := blk_frozen BK438.out 2; have hnb23 := NB439_440.out; have hnc23 := NB440_439.out; have hcz24_0 : w19.cell? ⟨gb439, 0, none⟩ = some (.int .i64 0) := (blk_cell BK439.out 0).trans rfl; have hcz24_1 : w19.cell? ⟨gb439, 1, none⟩ = some (.int .i64 0) := (blk_cell BK439.out 1).trans rfl; have hcz24_2 : w19.cell? ⟨gb439, 2, none⟩ = some (.int .i64 0) := (blk_cell BK439.out 2).trans rfl; have hcz24_3 : w19.cell? ⟨gb439, 3, none⟩ = some (.int .i64 0) := (blk_cell BK439.out 3).trans rfl; have hfz24_0 := blk_frozen BK439.out 0; have hfz24_1 := blk_frozen BK439.out 1; have hfz24_2 := blk_frozen BK439.out 2; have hfz24_3 := blk_frozen BK439.out 3; have hcz25_0 : w19.cell? ⟨gb440, 0, none⟩ = some (.int .i64 0) := (blk_cell BK440.out 0).trans rfl; have hcz25_1 : w19.cell? ⟨gb440, 1, none⟩ = some (.int .i64 0) := (blk_cell BK440.out 1).trans rfl; have hfz25_0 := blk_frozen BK440.out 0; have hfz25_1 := blk_frozen BK440.out 1) | ((with_reducible refine gate_callee (f := 26) rfl ?_); refine goesL_ (some 42) rfl rfl Try.func26 (by kernel_rfl) rfl #[.agg #[.int .i64 t429, .int .i64 t430, .int .i64 t431], .agg #[.int .i64 t432, .int .i64 t433, .int .i64 t434, .int .i64 t435], .agg #[.int .i64 t436, .int .i64 t437]] rfl (by (try simp only [List.map_toArray, List.map_cons, List.map_nil]); first | done | rfl | (simp only [List.length_drop, List.length_take]; rfl)) ?_; (with_reducible refine (impl_BoardsPerSheet.calls t429 t430 t431 t432 t433 t434 t435 t436 t437 t441 t442 _ A5.out).mono ?_); rintro e w26 ⟨rfl, hb⟩; refine ⟨_, rfl, ?_⟩; have n0_ := Aside0.mk (blk_below (g := gb438) (o := .cells #[.int .i64 t429, .int .i64 t430, .int .i64 t431] 30 (0, 0)) (by (with_reducible repeat (first | refine blk_drewN ?_ _ | refine blk_drew ?_ | refine blk_alloc ?_ _)); refine blk_far ?_ NB438_440.out _; (with_reducible repeat (first | refine blk_drewN ?_ _ | refine blk_drew ?_ | refine blk_alloc ?_ _)); refine blk_far ?_ NB438_440.out _; (with_reducible repeat (first | refine blk_drewN ?_ _ | refine blk_drew ?_ | refine blk_alloc ?_ _)); refine blk_far ?_ NB438_439.out _; (with_reducible repeat (first | refine blk_drewN ?_ _ | refine blk_drew ?_ | refine blk_alloc ?_ _)); refine blk_far ?_ NB438_439.out _; (with_reducible repeat (first | refine blk_drewN ?_ _ | refine blk_drew ?_ | refine blk_alloc ?_ _)); refine blk_far ?_ NB438_439.out _; (with_reducible repeat (first | refine blk_drewN ?_ _ | refine blk_drew ?_ | refine blk_alloc ?_ _)); refine blk_far ?_ NB438_439.out _; (with_reducible repeat (first | refine blk_drewN ?_ _ | refine blk_drew ?_ | refine blk_alloc ?_ _)); refine blk_put (cs := #[.int .i64 t429, .int .i64 t430, .int .i64 0]) ?_ 2 _ rfl; (with_reducible repeat (first | refine blk_drewN ?_ _ | refine blk_drew ?_ | refine blk_alloc ?_ _)); refine blk_put (cs := #[.int .i64 t429, .int .i64 0, .int .i64 0]) ?_ 1 _ rfl; (with_reducible repeat (first | refine blk_drewN ?_ _ | refine blk_drew ?_ | refine blk_alloc ?_ _)); refine blk_put (cs := #[.int .i64 0, .int .i64 0, .int .i64 0]) ?_ 0 _ rfl; (with_reducible repeat (first | refine blk_drewN ?_ _ | refine blk_drew ?_ | refine blk_alloc ?_ _)); exact BK438.out) hb); have n1_ := Aside0.mk (blk_below (g := gb439) (o := .cells #[.int .i64 t432, .int .i64 t433, .int .i64 t434, .int .i64 t435] 32 (0, 0)) (by (with_reducible repeat (first | refine blk_drewN ?_ _ | refine blk_drew ?_ | refine blk_alloc ?_ _)); refine blk_far ?_ NB439_440.out _; (with_reducible repeat (first | refine blk_drewN ?_ _ | refine blk_drew ?_ | refine blk_alloc ?_ _)); refine blk_far ?_ NB439_440.out _; (with_reducible repeat (first | refine blk_drewN ?_ _ | refine blk_drew ?_ | refine blk_alloc ?_ _)); refine blk_put (cs := #[.int .i64 t432, .int .i64 t433, .int .i64 t434, .int .i64 0]) ?_ 3 _ rfl; (with_reducible repeat (first | refine blk_drewN ?_ _ | refine blk_drew ?_ | refine blk_alloc ?_ _)); refine blk_put (cs := #[.int .i64 t432, .int .i64 t433, .int .i64 0, .int .i64 0]) ?_ 2 _ rfl; (with_reducible repeat (first | refine blk_drewN ?_ _ | refine blk_drew ?_ | refine blk_alloc ?_ _)); refine blk_put (cs := #[.int .i64 t432, .int .i64 0, .int .i64 0, .int .i64 0]) ?_ 1 _ rfl; (with_reducible repeat (first | refine blk_drewN ?_ _ | refine blk_drew ?_ | refine blk_alloc ?_ _)); refine blk_put (cs := #[.int .i64 0, .int .i64 0, .int .i64 0, .int .i64 0]) ?_ 0 _ rfl; (with_reducible repeat (first | refine blk_drewN ?_ _ | refine blk_drew ?_ | refine blk_alloc ?_ _)); refine blk_far ?_ NB439_438.out _; (with_reducible repeat (first | refine blk_drewN ?_ _ | refine blk_drew ?_ | refine blk_alloc ?_ _)); refine blk_far ?_ NB439_438.out _; (with_reducible repeat (first | refine blk_drewN ?_ _ | refine blk_drew ?_ | refine blk_alloc ?_ _)); refine blk_far ?_ NB439_438.out _; (with_reducible repeat (first | refine blk_drewN ?_ _ | refine blk_drew ?_ | refine blk_alloc ?_ _)); exact BK439.out) hb); have n2_ := Aside0.mk (blk_below (g := gb440) (o := .cells #[.int .i64 t436, .int .i64 t437] 52 (0, 0)) (by (with_reducible repeat (first | refine blk_drewN ?_ _ | refine blk_drew ?_ | refine blk_alloc ?_ _)); refine blk_put (cs := #[.int .i64 t436, .int .i64 0]) ?_ 1 _ rfl; (with_reducible repeat (first | refine blk_drewN ?_ _ | refine blk_drew ?_ | refine blk_alloc ?_ _)); refine blk_put (cs := #[.int .i64 0, .int .i64 0]) ?_ 0 _ rfl; (with_reducible repeat (first | refine blk_drewN ?_ _ | refine blk_drew ?_ | refine blk_alloc ?_ _)); refine blk_far ?_ NB440_439.out _; (with_reducible repeat (first | refine blk_drewN ?_ _ | refine blk_drew ?_ | refine blk_alloc ?_ _)); refine blk_far ?_ NB440_439.out _; (with_reducible repeat (first | refine blk_drewN ?_ _ | refine blk_drew ?_ | refine blk_alloc ?_ _)); refine blk_far ?_ NB440_439.out _; (with_reducible repeat (first | refine blk_drewN ?_ _ | refine blk_drew ?_ | refine blk_alloc ?_ _)); refine blk_far ?_ NB440_439.out _; (with_reducible repeat (first | refine blk_drewN ?_ _ | refine blk_drew ?_ | refine blk_alloc ?_ _)); refine blk_far ?_ NB440_438.out _; (with_reducible repeat (first | refine blk_drewN ?_ _ | refine blk_drew ?_ | refine blk_alloc ?_ _)); refine blk_far ?_ NB440_438.out _; (with_reducible repeat (first | refine blk_drewN ?_ _ | refine blk_drew ?_ | refine blk_alloc ?_ _)); refine blk_far ?_ NB440_438.out _; (with_reducible repeat (first | refine blk_drewN ?_ _ | refine blk_drew ?_ | refine blk_alloc ?_ _)); exact BK440.out) hb); have n3_ := Aside0.mk (below_step (by repeat (first | (with_reducible first | exact HB.out | apply below_alloc | apply pw_below_drewN | apply below_drew1 | refine below_set ?_ GE438.out | refine below_set ?_ GE439.out | refine below_set ?_ GE440.out) | exact HB.out)) hb); clear BK438; clear BK439; clear BK440; clear HB; have BK438 := n0_; have BK439 := n1_; have BK440 := n2_; have HB := n3_; clear n0_ n1_ n2_ n3_; (try clear hb); have hcz27_0 : w26.cell? ⟨gb438, 0, none⟩ = some (.int .i64 t429) := (blk_cell BK438.out 0).trans rfl; have hcz27_1 : w26.cell? ⟨gb438, 1, none⟩ = some (.int .i64 t430) := (blk_cell BK438.out 1).trans rfl; have hcz27_2 : w26.cell? ⟨gb438, 2, none⟩ = some (.int .i64 t431) := (blk_cell BK438.out 2).trans rfl; have hfz27_0 := blk_frozen BK438.out 0; have hfz27_1 := blk_frozen BK438.out 1; have hfz27_2 := blk_frozen BK438.out 2; have hcz28_0 : w26.cell? ⟨gb439, 0, none⟩ = some (.int .i64 t432) := (blk_cell BK439.out 0).trans rfl; have hcz28_1 : w26.cell? ⟨gb439, 1, none⟩ = some (.int .i64 t433) := (blk_cell BK439.out 1).trans rfl; have hcz28_2 : w26.cell? ⟨gb439, 2, none⟩ = some (.int .i64 t434) := (blk_cell BK439.out 2).trans rfl; have hcz28_3 : w26.cell? ⟨gb439, 3, none⟩ = some (.int .i64 t435) := (blk_cell BK439.out 3).trans rfl; have hfz28_0 := blk_frozen BK439.out 0; have hfz28_1 := blk_frozen BK439.out 1; have hfz28_2 := blk_frozen BK439.out 2; have hfz28_3 := blk_frozen BK439.out 3; have hcz29_0 : w26.cell? ⟨gb440, 0, none⟩ = some (.int .i64 t436) := (blk_cell BK440.out 0).trans rfl; have hcz29_1 : w26.cell? ⟨gb440, 1, none⟩ = some (.int .i64 t437) := (blk_cell BK440.out 1).trans rfl; have hfz29_0 := blk_frozen BK440.out 0; have hfz29_1 := blk_frozen BK440.out 1) | ((with_reducible refine gate_callee (f := 25) rfl ?_); refine goesL_ (some 49) rfl rfl Try.func25 (by kernel_rfl) rfl #[.agg #[.int .i64 t429, .int .i64 t430, .int .i64 t431], .agg #[.int .i64 t432, .int .i64 t433, .int .i64 t434, .int .i64 t435], .agg #[.int .i64 t436, .int .i64 t437]] rfl (by (try simp only [List.map_toArray, List.map_cons, List.map_nil]); first | done | rfl | (simp only [List.length_drop, List.length_take]; rfl)) ?_; (with_reducible refine (spec_BoardsPerSheet.calls k t429 t430 t431 t432 t433 t434 t435 t436 t437 t443 t444 _ A6.out).mono ?_); rintro e w30 ⟨rfl, hb⟩; refine ⟨_, rfl, ?_⟩; have n0_ := Aside0.mk (blk_below (g := gb438) (o := .cells #[.int .i64 t429, .int .i64 t430, .int .i64 t431] 30 (0, 0)) (by (with_reducible repeat (first | refine blk_drewN ?_ _ | refine blk_drew ?_ | refine blk_alloc ?_ _)); exact BK438.out) hb); have n1_ := Aside0.mk (blk_below (g := gb439) (o := .cells #[.int .i64 t432, .int .i64 t433, .int .i64 t434, .int .i64 t435] 32 (0, 0)) (by (with_reducible repeat (first | refine blk_drewN ?_ _ | refine blk_drew ?_ | refine blk_alloc ?_ _)); exact BK439.out) hb); have n2_ := Aside0.mk (blk_below (g := gb440) (o := .cells #[.int .i64 t436, .int .i64 t437] 52 (0, 0)) (by (with_reducible repeat (first | refine blk_drewN ?_ _ | refine blk_drew ?_ | refine blk_alloc ?_ _)); exact BK440.out) hb); have n3_ := Aside0.mk (below_step (by repeat (first | (with_reducible first | exact HB.out | apply below_alloc | apply pw_below_drewN | apply below_drew1 | refine below_set ?_ GE438.out | refine below_set ?_ GE439.out | refine below_set ?_ GE440.out) | exact HB.out)) hb); clear BK438; clear BK439; clear BK440; clear HB; have BK438 := n0_; have BK439 := n1_; have BK440 := n2_; have HB := n3_; clear n0_ n1_ n2_ n3_; (try clear hb); have hcz31_0 : w30.cell? ⟨gb438, 0, none⟩ = some (.int .i64 t429) := (blk_cell BK438.out 0).trans rfl; have hcz31_1 : w30.cell? ⟨gb438, 1, none⟩ = some (.int .i64 t430) := (blk_cell BK438.out 1).trans rfl; have hcz31_2 : w30.cell? ⟨gb438, 2, none⟩ = some (.int .i64 t431) := (blk_cell BK438.out 2).trans rfl; have hfz31_0 := blk_frozen BK438.out 0; have hfz31_1 := blk_frozen BK438.out 1; have hfz31_2 := blk_frozen BK438.out 2; have hcz32_0 : w30.cell? ⟨gb439, 0, none⟩ = some (.int .i64 t432) := (blk_cell BK439.out 0).trans rfl; have hcz32_1 : w30.cell? ⟨gb439, 1, none⟩ = some (.int .i64 t433) := (blk_cell BK439.out 1).trans rfl; have hcz32_2 : w30.cell? ⟨gb439, 2, none⟩ = some (.int .i64 t434) := (blk_cell BK439.out 2).trans rfl; have hcz32_3 : w30.cell? ⟨gb439, 3, none⟩ = some (.int .i64 t435) := (blk_cell BK439.out 3).trans rfl; have hfz32_0 := blk_frozen BK439.out 0; have hfz32_1 := blk_frozen BK439.out 1; have hfz32_2 := blk_frozen BK439.out 2; have hfz32_3 := blk_frozen BK439.out 3; have hcz33_0 : w30.cell? ⟨gb440, 0, none⟩ = some (.int .i64 t436) := (blk_cell BK440.out 0).trans rfl; have hcz33_1 : w30.cell? ⟨gb440, 1, none⟩ = some (.int .i64 t437) := (blk_cell BK440.out 1).trans rfl; have hfz33_0 := blk_frozen BK440.out 0; have hfz33_1 := blk_frozen BK440.out 1) | ((with_reducible refine gate_callee (f := 24) rfl ?_); refine goesL_ (some 56) rfl rfl Try.func24 (by kernel_rfl) rfl #[.agg #[.int .i64 t429, .int .i64 t430, .int .i64 t431], .agg #[.int .i64 t432, .int .i64 t433, .int .i64 t434, .int .i64 t435], .agg #[.int .i64 t436, .int .i64 t437]] rfl (by (try simp only [List.map_toArray, List.map_cons, List.map_nil]); first | done | rfl | (simp only [List.length_drop, List.length_take]; rfl)) ?_; (with_reducible refine (impl_CasesPerCloth.calls t429 t430 t431 t432 t433 t434 t435 t436 t437 t445 t446 _ A7.out).mono ?_); rintro e w34 ⟨rfl, hb⟩; refine ⟨_, rfl, ?_⟩; have n0_ := Aside0.mk (blk_below (g := gb438) (o := .cells #[.int .i64 t429, .int .i64 t430, .int .i64 t431] 30 (0, 0)) (by (with_reducible repeat (first | refine blk_drewN ?_ _ | refine blk_drew ?_ | refine blk_alloc ?_ _)); exact BK438.out) hb); have n1_ := Aside0.mk (blk_below (g := gb439) (o := .cells #[.int .i64 t432, .int .i64 t433, .int .i64 t434, .int .i64 t435] 32 (0, 0)) (by (with_reducible repeat (first | refine blk_drewN ?_ _ | refine blk_drew ?_ | refine blk_alloc ?_ _)); exact BK439.out) hb); have n2_ := Aside0.mk (blk_below (g := gb440) (o := .cells #[.int .i64 t436, .int .i64 t437] 52 (0, 0)) (by (with_reducible repeat (first | refine blk_drewN ?_ _ | refine blk_drew ?_ | refine blk_alloc ?_ _)); exact BK440.out) hb); have n3_ := Aside0.mk (below_step (by repeat (first | (with_reducible first | exact HB.out | apply below_alloc | apply pw_below_drewN | apply below_drew1 | refine below_set ?_ GE438.out | refine below_set ?_ GE439.out | refine below_set ?_ GE440.out) | exact HB.out)) hb); clear BK438; clear BK439; clear BK440; clear HB; have BK438 := n0_; have BK439 := n1_; have BK440 := n2_; have HB := n3_; clear n0_ n1_ n2_ n3_; (try clear hb); have hcz35_0 : w34.cell? ⟨gb438, 0, none⟩ = some (.int .i64 t429) := (blk_cell BK438.out 0).trans rfl; have hcz35_1 : w34.cell? ⟨gb438, 1, none⟩ = some (.int .i64 t430) := (blk_cell BK438.out 1).trans rfl; have hcz35_2 : w34.cell? ⟨gb438, 2, none⟩ = some (.int .i64 t431) := (blk_cell BK438.out 2).trans rfl; have hfz35_0 := blk_frozen BK438.out 0; have hfz35_1 := blk_frozen BK438.out 1; have hfz35_2 := blk_frozen BK438.out 2; have hcz36_0 : w34.cell? ⟨gb439, 0, none⟩ = some (.int .i64 t432) := (blk_cell BK439.out 0).trans rfl; have hcz36_1 : w34.cell? ⟨gb439, 1, none⟩ = some (.int .i64 t433) := (blk_cell BK439.out 1).trans rfl; have hcz36_2 : w34.cell? ⟨gb439, 2, none⟩ = some (.int .i64 t434) := (blk_cell BK439.out 2).trans rfl; have hcz36_3 : w34.cell? ⟨gb439, 3, none⟩ = some (.int .i64 t435) := (blk_cell BK439.out 3).trans rfl; have hfz36_0 := blk_frozen BK439.out 0; have hfz36_1 := blk_frozen BK439.out 1; have hfz36_2 := blk_frozen BK439.out 2; have hfz36_3 := blk_frozen BK439.out 3; have hcz37_0 : w34.cell? ⟨gb440, 0, none⟩ = some (.int .i64 t436) := (blk_cell BK440.out 0).trans rfl; have hcz37_1 : w34.cell? ⟨gb440, 1, none⟩ = some (.int .i64 t437) := (blk_cell BK440.out 1).trans rfl; have hfz37_0 := blk_frozen BK440.out 0; have hfz37_1 := blk_frozen BK440.out 1) | ((with_reducible refine gate_callee (f := 22) rfl ?_); refine goesL_ (some 63) rfl rfl Try.func22 (by kernel_rfl) rfl #[.agg #[.int .i64 t429, .int .i64 t430, .int .i64 t431], .agg #[.int .i64 t432, .int .i64 t433, .int .i64 t434, .int .i64 t435], .agg #[.int .i64 t436, .int .i64 t437]] rfl (by (try simp only [List.map_toArray, List.map_cons, List.map_nil]); first | done | rfl | (simp only [List.length_drop, List.length_take]; rfl)) ?_; (with_reducible refine (spec_CasesPerCloth.calls k t429 t430 t431 t432 t433 t434 t435 t436 t437 t447 t448 _ A8.out).mono ?_); rintro e w38 ⟨rfl, hb⟩; refine ⟨_, rfl, ?_⟩; have n0_ := Aside0.mk (blk_below (g := gb438) (o := .cells #[.int .i64 t429, .int .i64 t430, .int .i64 t431] 30 (0, 0)) (by (with_reducible repeat (first | refine blk_drewN ?_ _ | refine blk_drew ?_ | refine blk_alloc ?_ _)); exact BK438.out) hb); have n1_ := Aside0.mk (blk_below (g := gb439) (o := .cells #[.int .i64 t432, .int .i64 t433, .int .i64 t434, .int .i64 t435] 32 (0, 0)) (by (with_reducible repeat (first | refine blk_drewN ?_ _ | refine blk_drew ?_ | refine blk_alloc ?_ _)); exact BK439.out) hb); have n2_ := Aside0.mk (blk_below (g := gb440) (o := .cells #[.int .i64 t436, .int .i64 t437] 52 (0, 0)) (by (with_reducible repeat (first | refine blk_drewN ?_ _ | refine blk_drew ?_ | refine blk_alloc ?_ _)); exact BK440.out) hb); have n3_ := Aside0.mk (below_step (by repeat (first | (with_reducible first | exact HB.out | apply below_alloc | apply pw_below_drewN | apply below_drew1 | refine below_set ?_ GE438.out | refine below_set ?_ GE439.out | refine below_set ?_ GE440.out) | exact HB.out)) hb); clear BK438; clear BK439; clear BK440; clear HB; have BK438 := n0_; have BK439 := n1_; have BK440 := n2_; have HB := n3_; clear n0_ n1_ n2_ n3_; (try clear hb)) | ((with_reducible refine gate_callee (f := 35) rfl ?_); refine goesL_ (some 67) rfl rfl Try.func35 (by kernel_rfl) rfl #[.slice A0 l0.length c0] rfl (by (try simp only [List.map_toArray, List.map_cons, List.map_nil]); first | done | rfl | (simp only [List.length_drop, List.length_take]; rfl)) ?_; (with_reducible refine (spec_DrawGlueArea.calls k _ _ l0 t449 t450 t451 _ ?side1 ?side2 A9.out).mono ?_); (case side1 => repeat (first | exact (Kd.C_below HR0.out HB.out) | (with_reducible refine Kd.C_alloc ?_ _) | (with_reducible refine Kd.C_drewN ?_ _) | (with_reducible refine Kd.C_drew ?_))); (case side2 => exact HC0.out); rintro e w39 ⟨rfl, hb⟩; refine ⟨_, rfl, ?_⟩; have n0_ := Aside0.mk (blk_below (g := gb438) (o := .cells #[.int .i64 t429, .int .i64 t430, .int .i64 t431] 30 (0, 0)) (by (with_reducible repeat (first | refine blk_drewN ?_ _ | refine blk_drew ?_ | refine blk_alloc ?_ _)); exact BK438.out) hb); have n1_ := Aside0.mk (blk_below (g := gb439) (o := .cells #[.int .i64 t432, .int .i64 t433, .int .i64 t434, .int .i64 t435] 32 (0, 0)) (by (with_reducible repeat (first | refine blk_drewN ?_ _ | refine blk_drew ?_ | refine blk_alloc ?_ _)); exact BK439.out) hb); have n2_ := Aside0.mk (blk_below (g := gb440) (o := .cells #[.int .i64 t436, .int .i64 t437] 52 (0, 0)) (by (with_reducible repeat (first | refine blk_drewN ?_ _ | refine blk_drew ?_ | refine blk_alloc ?_ _)); exact BK440.out) hb); have n3_ := Aside0.mk (below_step (by repeat (first | (with_reducible first | exact HB.out | apply below_alloc | apply pw_below_drewN | apply below_drew1 | refine below_set ?_ GE438.out | refine below_set ?_ GE439.out | refine below_set ?_ GE440.out) | exact HB.out)) hb); clear BK438; clear BK439; clear BK440; clear HB; have BK438 := n0_; have BK439 := n1_; have BK440 := n2_; have HB := n3_; clear n0_ n1_ n2_ n3_; (try clear hb)) | ((with_reducible refine gate_dst (N := 14) rfl ?_); refine box_event ?hg (N := 14) ?hd (cs := #[.int .i64 0, .int .i64 0, .int .i64 0]) (t := 30) ?hr ?_; (case hd => rfl); (case hg => rfl); (case hr => first | (go_simp; done) | (go_simp; rfl)); intro gb452 hg w40 hbox hb; have n0_ := Aside0.mk (blk_below (g := gb438) (o := .cells #[.int .i64 t429, .int .i64 t430, .int .i64 t431] 30 (0, 0)) (by (with_reducible repeat (first | refine blk_drewN ?_ _ | refine blk_drew ?_ | refine blk_alloc ?_ _)); exact BK438.out) hb); have n1_ := Aside0.mk (blk_below (g := gb439) (o := .cells #[.int .i64 t432, .int .i64 t433, .int .i64 t434, .int .i64 t435] 32 (0, 0)) (by (with_reducible repeat (first | refine blk_drewN ?_ _ | refine blk_drew ?_ | refine blk_alloc ?_ _)); exact BK439.out) hb); have n2_ := Aside0.mk (blk_below (g := gb440) (o := .cells #[.int .i64 t436, .int .i64 t437] 52 (0, 0)) (by (with_reducible repeat (first | refine blk_drewN ?_ _ | refine blk_drew ?_ | refine blk_alloc ?_ _)); exact BK440.out) hb); have n3_ := Aside0.mk (below_step (by repeat (first | (with_reducible first | exact HB.out | apply below_alloc | apply pw_below_drewN | apply below_drew1 | refine below_set ?_ GE438.out | refine below_set ?_ GE439.out | refine below_set ?_ GE440.out) | exact HB.out)) hb); have n4_ := Aside0.mk (hbox); have n5_ := Aside0.mk ((by rw [hg]; exact (below_size (by repeat (first | (with_reducible first | exact HB.out | apply below_alloc | apply pw_below_drewN | apply below_drew1 | refine below_set ?_ GE438.out | refine below_set ?_ GE439.out | refine below_set ?_ GE440.out) | exact HB.out))) : w.heap.size ≤ gb452)); have n6_ := n5_; have n7_ := Aside0.mk ((by rw [hg]; exact Nat.ne_of_lt (blk_lt (g := gb438) (o := .cells #[.int .i64 t429, .int .i64 t430, .int .i64 t431] 30 (0, 0)) (by (with_reducible repeat (first | refine blk_drewN ?_ _ | refine blk_drew ?_ | refine blk_alloc ?_ _)); exact BK438.out)) : gb438 ≠ gb452)); have n8_ := Aside0.mk n7_.out.symm; have n9_ := Aside0.mk ((by rw [hg]; exact Nat.ne_of_lt (blk_lt (g := gb439) (o := .cells #[.int .i64 t432, .int .i64 t433, .int .i64 t434, .int .i64 t435] 32 (0, 0)) (by (with_reducible repeat (first | refine blk_drewN ?_ _ | refine blk_drew ?_ | refine blk_alloc ?_ _)); exact BK439.out)) : gb439 ≠ gb452)); have n10_ := Aside0.mk n9_.out.symm; have n11_ := Aside0.mk ((by rw [hg]; exact Nat.ne_of_lt (blk_lt (g := gb440) (o := .cells #[.int .i64 t436, .int .i64 t437] 52 (0, 0)) (by (with_reducible repeat (first | refine blk_drewN ?_ _ | refine blk_drew ?_ | refine blk_alloc ?_ _)); exact BK440.out)) : gb440 ≠ gb452)); have n12_ := Aside0.mk n11_.out.symm; clear BK438; clear BK439; clear BK440; clear HB; have BK438 := n0_; have BK439 := n1_; have BK440 := n2_; have HB := n3_; have BK452 := n4_; have GW452 := n5_; have GE452 := n6_; have NB438_452 := n7_; have NB452_438 := n8_; have NB439_452 := n9_; have NB452_439 := n10_; have NB440_452 := n11_; have NB452_440 := n12_; clear n0_ n1_ n2_ n3_ n4_ n5_ n6_ n7_ n8_ n9_ n10_ n11_ n12_; clear hb hbox hg; have hnb41 := NB452_438.out; have hnc41 := NB438_452.out; have hnb42 := NB452_439.out; have hnc42 := NB439_452.out; have hnb43 := NB452_440.out; have hnc43 := NB440_452.out; have hcz44_0 : w40.cell? ⟨gb452, 0, none⟩ = some (.int .i64 0) := (blk_cell BK452.out 0).trans rfl; have hcz44_1 : w40.cell? ⟨gb452, 1, none⟩ = some (.int .i64 0) := (blk_cell BK452.out 1).trans rfl; have hcz44_2 : w40.cell? ⟨gb452, 2, none⟩ = some (.int .i64 0) := (blk_cell BK452.out 2).trans rfl; have hfz44_0 := blk_frozen BK452.out 0; have hfz44_1 := blk_frozen BK452.out 1; have hfz44_2 := blk_frozen BK452.out 2) | ((with_reducible refine gate_callee (f := 36) rfl ?_); refine goesL_ (some 70) rfl rfl Try.func36 (by kernel_rfl) rfl #[.agg #[.int .i64 t449, .int .i64 t450, .int .i64 t451]] rfl (by (try simp only [List.map_toArray, List.map_cons, List.map_nil]); first | done | rfl | (simp only [List.length_drop, List.length_take]; rfl)) ?_; (with_reducible refine (impl_GlueArea.calls t449 t450 t451 t453 t454 _ A10.out).mono ?_); rintro e w45 ⟨rfl, hb⟩; refine ⟨_, rfl, ?_⟩; have n0_ := Aside0.mk (blk_below (g := gb438) (o := .cells #[.int .i64 t429, .int .i64 t430, .int .i64 t431] 30 (0, 0)) (by (with_reducible repeat (first | refine blk_drewN ?_ _ | refine blk_drew ?_ | refine blk_alloc ?_ _)); refine blk_far ?_ NB438_452.out _; (with_reducible repeat (first | refine blk_drewN ?_ _ | refine blk_drew ?_ | refine blk_alloc ?_ _)); refine blk_far ?_ NB438_452.out _; (with_reducible repeat (first | refine blk_drewN ?_ _ | refine blk_drew ?_ | refine blk_alloc ?_ _)); refine blk_far ?_ NB438_452.out _; (with_reducible repeat (first | refine blk_drewN ?_ _ | refine blk_drew ?_ | refine blk_alloc ?_ _)); exact BK438.out) hb); have n1_ := Aside0.mk (blk_below (g := gb439) (o := .cells #[.int .i64 t432, .int .i64 t433, .int .i64 t434, .int .i64 t435] 32 (0, 0)) (by (with_reducible repeat (first | refine blk_drewN ?_ _ | refine blk_drew ?_ | refine blk_alloc ?_ _)); refine blk_far ?_ NB439_452.out _; (with_reducible repeat (first | refine blk_drewN ?_ _ | refine blk_drew ?_ | refine blk_alloc ?_ _)); refine blk_far ?_ NB439_452.out _; (with_reducible repeat (first | refine blk_drewN ?_ _ | refine blk_drew ?_ | refine blk_alloc ?_ _)); refine blk_far ?_ NB439_452.out _; (with_reducible repeat (first | refine blk_drewN ?_ _ | refine blk_drew ?_ | refine blk_alloc ?_ _)); exact BK439.out) hb); have n2_ := Aside0.mk (blk_below (g := gb440) (o := .cells #[.int .i64 t436, .int .i64 t437] 52 (0, 0)) (by (with_reducible repeat (first | refine blk_drewN ?_ _ | refine blk_drew ?_ | refine blk_alloc ?_ _)); refine blk_far ?_ NB440_452.out _; (with_reducible repeat (first | refine blk_drewN ?_ _ | refine blk_drew ?_ | refine blk_alloc ?_ _)); refine blk_far ?_ NB440_452.out _; (with_reducible repeat (first | refine blk_drewN ?_ _ | refine blk_drew ?_ | refine blk_alloc ?_ _)); refine blk_far ?_ NB440_452.out _; (with_reducible repeat (first | refine blk_drewN ?_ _ | refine blk_drew ?_ | refine blk_alloc ?_ _)); exact BK440.out) hb); have n3_ := Aside0.mk (blk_below (g := gb452) (o := .cells #[.int .i64 t449, .int .i64 t450, .int .i64 t451] 30 (0, 0)) (by (with_reducible repeat (first | refine blk_drewN ?_ _ | refine blk_drew ?_ | refine blk_alloc ?_ _)); refine blk_put (cs := #[.int .i64 t449, .int .i64 t450, .int .i64 0]) ?_ 2 _ rfl; (with_reducible repeat (first | refine blk_drewN ?_ _ | refine blk_drew ?_ | refine blk_alloc ?_ _)); refine blk_put (cs := #[.int .i64 t449, .int .i64 0, .int .i64 0]) ?_ 1 _ rfl; (with_reducible repeat (first | refine blk_drewN ?_ _ | refine blk_drew ?_ | refine blk_alloc ?_ _)); refine blk_put (cs := #[.int .i64 0, .int .i64 0, .int .i64 0]) ?_ 0 _ rfl; (with_reducible repeat (first | refine blk_drewN ?_ _ | refine blk_drew ?_ | refine blk_alloc ?_ _)); exact BK452.out) hb); have n4_ := Aside0.mk (below_step (by repeat (first | (with_reducible first | exact HB.out | apply below_alloc | apply pw_below_drewN | apply below_drew1 | refine below_set ?_ GE438.out | refine below_set ?_ GE439.out | refine below_set ?_ GE440.out | refine below_set ?_ GE452.out) | exact HB.out)) hb); clear BK438; clear BK439; clear BK440; clear BK452; clear HB; have BK438 := n0_; have BK439 := n1_; have BK440 := n2_; have BK452 := n3_; have HB := n4_; clear n0_ n1_ n2_ n3_ n4_; (try clear hb); have hcz46_0 : w45.cell? ⟨gb452, 0, none⟩ = some (.int .i64 t449) := (blk_cell BK452.out 0).trans rfl; have hcz46_1 : w45.cell? ⟨gb452, 1, none⟩ = some (.int .i64 t450) := (blk_cell BK452.out 1).trans rfl; have hcz46_2 : w45.cell? ⟨gb452, 2, none⟩ = some (.int .i64 t451) := (blk_cell BK452.out 2).trans rfl; have hfz46_0 := blk_frozen BK452.out 0; have hfz46_1 := blk_frozen BK452.out 1; have hfz46_2 := blk_frozen BK452.out 2) | ((with_reducible refine gate_callee (f := 37) rfl ?_); refine goesL_ (some 75) rfl rfl Try.func37 (by kernel_rfl) rfl #[.agg #[.int .i64 t449, .int .i64 t450, .int .i64 t451]] rfl (by (try simp only [List.map_toArray, List.map_cons, List.map_nil]); first | done | rfl | (simp only [List.length_drop, List.length_take]; rfl)) ?_; (with_reducible refine (spec_GlueArea.calls t449 t450 t451 t455 t456 _ A11.out).mono ?_); rintro e w47 ⟨rfl, hb⟩; refine ⟨_, rfl, ?_⟩; have n0_ := Aside0.mk (blk_below (g := gb438) (o := .cells #[.int .i64 t429, .int .i64 t430, .int .i64 t431] 30 (0, 0)) (by (with_reducible repeat (first | refine blk_drewN ?_ _ | refine blk_drew ?_ | refine blk_alloc ?_ _)); exact BK438.out) hb); have n1_ := Aside0.mk (blk_below (g := gb439) (o := .cells #[.int .i64 t432, .int .i64 t433, .int .i64 t434, .int .i64 t435] 32 (0, 0)) (by (with_reducible repeat (first | refine blk_drewN ?_ _ | refine blk_drew ?_ | refine blk_alloc ?_ _)); exact BK439.out) hb); have n2_ := Aside0.mk (blk_below (g := gb440) (o := .cells #[.int .i64 t436, .int .i64 t437] 52 (0, 0)) (by (with_reducible repeat (first | refine blk_drewN ?_ _ | refine blk_drew ?_ | refine blk_alloc ?_ _)); exact BK440.out) hb); have n3_ := Aside0.mk (blk_below (g := gb452) (o := .cells #[.int .i64 t449, .int .i64 t450, .int .i64 t451] 30 (0, 0)) (by (with_reducible repeat (first | refine blk_drewN ?_ _ | refine blk_drew ?_ | refine blk_alloc ?_ _)); exact BK452.out) hb); have n4_ := Aside0.mk (below_step (by repeat (first | (with_reducible first | exact HB.out | apply below_alloc | apply pw_below_drewN | apply below_drew1 | refine below_set ?_ GE438.out | refine below_set ?_ GE439.out | refine below_set ?_ GE440.out | refine below_set ?_ GE452.out) | exact HB.out)) hb); clear BK438; clear BK439; clear BK440; clear BK452; clear HB; have BK438 := n0_; have BK439 := n1_; have BK440 := n2_; have BK452 := n3_; have HB := n4_; clear n0_ n1_ n2_ n3_ n4_; (try clear hb)) | ((with_reducible refine gate_callee (f := 38) rfl ?_); refine goesL_ (some 80) rfl rfl Try.func38 (by kernel_rfl) rfl #[.slice A0 l0.length c0] rfl (by (try simp only [List.map_toArray, List.map_cons, List.map_nil]); first | done | rfl | (simp only [List.length_drop, List.length_take]; rfl)) ?_; (with_reducible refine (spec_DrawBlockOf.calls k _ _ l0 t457 t458 t459 t460 t461 t462 _ ?side1 ?side2 A12.out).mono ?_); (case side1 => repeat (first | exact (Kd.C_below HR0.out HB.out) | (with_reducible refine Kd.C_alloc ?_ _) | (with_reducible refine Kd.C_drewN ?_ _) | (with_reducible refine Kd.C_drew ?_))); (case side2 => exact HC0.out); rintro e w48 ⟨rfl, hb⟩; refine ⟨_, rfl, ?_⟩; have n0_ := Aside0.mk (blk_below (g := gb438) (o := .cells #[.int .i64 t429, .int .i64 t430, .int .i64 t431] 30 (0, 0)) (by (with_reducible repeat (first | refine blk_drewN ?_ _ | refine blk_drew ?_ | refine blk_alloc ?_ _)); exact BK438.out) hb); have n1_ := Aside0.mk (blk_below (g := gb439) (o := .cells #[.int .i64 t432, .int .i64 t433, .int .i64 t434, .int .i64 t435] 32 (0, 0)) (by (with_reducible repeat (first | refine blk_drewN ?_ _ | refine blk_drew ?_ | refine blk_alloc ?_ _)); exact BK439.out) hb); have n2_ := Aside0.mk (blk_below (g := gb440) (o := .cells #[.int .i64 t436, .int .i64 t437] 52 (0, 0)) (by (with_reducible repeat (first | refine blk_drewN ?_ _ | refine blk_drew ?_ | refine blk_alloc ?_ _)); exact BK440.out) hb); have n3_ := Aside0.mk (blk_below (g := gb452) (o := .cells #[.int .i64 t449, .int .i64 t450, .int .i64 t451] 30 (0, 0)) (by (with_reducible repeat (first | refine blk_drewN ?_ _ | refine blk_drew ?_ | refine blk_alloc ?_ _)); exact BK452.out) hb); have n4_ := Aside0.mk (below_step (by repeat (first | (with_reducible first | exact HB.out | apply below_alloc | apply pw_below_drewN | apply below_drew1 | refine below_set ?_ GE438.out | refine below_set ?_ GE439.out | refine below_set ?_ GE440.out | refine below_set ?_ GE452.out) | exact HB.out)) hb); clear BK438; clear BK439; clear BK440; clear BK452; clear HB; have BK438 := n0_; have BK439 := n1_; have BK440 := n2_; have BK452 := n3_; have HB := n4_; clear n0_ n1_ n2_ n3_ n4_; (try clear hb)) | ((with_reducible refine gate_dst (N := 19) rfl ?_); refine box_event ?hg (N := 19) ?hd (cs := #[.int .i64 0, .int .i64 0, .int .i64 0, .int .i64 0]) (t := 40) ?hr ?_; (case hd => rfl); (case hg => rfl); (case hr => first | (go_simp; done) | (go_simp; rfl)); intro gb463 hg w49 hbox hb; have n0_ := Aside0.mk (blk_below (g := gb438) (o := .cells #[.int .i64 t429, .int .i64 t430, .int .i64 t431] 30 (0, 0)) (by (with_reducible repeat (first | refine blk_drewN ?_ _ | refine blk_drew ?_ | refine blk_alloc ?_ _)); exact BK438.out) hb); have n1_ := Aside0.mk (blk_below (g := gb439) (o := .cells #[.int .i64 t432, .int .i64 t433, .int .i64 t434, .int .i64 t435] 32 (0, 0)) (by (with_reducible repeat (first | refine blk_drewN ?_ _ | refine blk_drew ?_ | refine blk_alloc ?_ _)); exact BK439.out) hb); have n2_ := Aside0.mk (blk_below (g := gb440) (o := .cells #[.int .i64 t436, .int .i64 t437] 52 (0, 0)) (by (with_reducible repeat (first | refine blk_drewN ?_ _ | refine blk_drew ?_ | refine blk_alloc ?_ _)); exact BK440.out) hb); have n3_ := Aside0.mk (blk_below (g := gb452) (o := .cells #[.int .i64 t449, .int .i64 t450, .int .i64 t451] 30 (0, 0)) (by (with_reducible repeat (first | refine blk_drewN ?_ _ | refine blk_drew ?_ | refine blk_alloc ?_ _)); exact BK452.out) hb); have n4_ := Aside0.mk (below_step (by repeat (first | (with_reducible first | exact HB.out | apply below_alloc | apply pw_below_drewN | apply below_drew1 | refine below_set ?_ GE438.out | refine below_set ?_ GE439.out | refine below_set ?_ GE440.out | refine below_set ?_ GE452.out) | exact HB.out)) hb); have n5_ := Aside0.mk (hbox); have n6_ := Aside0.mk ((by rw [hg]; exact (below_size (by repeat (first | (with_reducible first | exact HB.out | apply below_alloc | apply pw_below_drewN | apply below_drew1 | refine below_set ?_ GE438.out | refine below_set ?_ GE439.out | refine below_set ?_ GE440.out | refine below_set ?_ GE452.out) | exact HB.out))) : w.heap.size ≤ gb463)); have n7_ := n6_; have n8_ := Aside0.mk ((by rw [hg]; exact Nat.ne_of_lt (blk_lt (g := gb438) (o := .cells #[.int .i64 t429, .int .i64 t430, .int .i64 t431] 30 (0, 0)) (by (with_reducible repeat (first | refine blk_drewN ?_ _ | refine blk_drew ?_ | refine blk_alloc ?_ _)); exact BK438.out)) : gb438 ≠ gb463)); have n9_ := Aside0.mk n8_.out.symm; have n10_ := Aside0.mk ((by rw [hg]; exact Nat.ne_of_lt (blk_lt (g := gb439) (o := .cells #[.int .i64 t432, .int .i64 t433, .int .i64 t434, .int .i64 t435] 32 (0, 0)) (by (with_reducible repeat (first | refine blk_drewN ?_ _ | refine blk_drew ?_ | refine blk_alloc ?_ _)); exact BK439.out)) : gb439 ≠ gb463)); have n11_ := Aside0.mk n10_.out.symm; have n12_ := Aside0.mk ((by rw [hg]; exact Nat.ne_of_lt (blk_lt (g := gb440) (o := .cells #[.int .i64 t436, .int .i64 t437] 52 (0, 0)) (by (with_reducible repeat (first | refine blk_drewN ?_ _ | refine blk_drew ?_ | refine blk_alloc ?_ _)); exact BK440.out)) : gb440 ≠ gb463)); have n13_ := Aside0.mk n12_.out.symm; have n14_ := Aside0.mk ((by rw [hg]; exact Nat.ne_of_lt (blk_lt (g := gb452) (o := .cells #[.int .i64 t449, .int .i64 t450, .int .i64 t451] 30 (0, 0)) (by (with_reducible repeat (first | refine blk_drewN ?_ _ | refine blk_drew ?_ | refine blk_alloc ?_ _)); exact BK452.out)) : gb452 ≠ gb463)); have n15_ := Aside0.mk n14_.out.symm; clear BK438; clear BK439; clear BK440; clear BK452; clear HB; have BK438 := n0_; have BK439 := n1_; have BK440 := n2_; have BK452 := n3_; have HB := n4_; have BK463 := n5_; have GW463 := n6_; have GE463 := n7_; have NB438_463 := n8_; have NB463_438 := n9_; have NB439_463 := n10_; have NB463_439 := n11_; have NB440_463 := n12_; have NB463_440 := n13_; have NB452_463 := n14_; have NB463_452 := n15_; clear n0_ n1_ n2_ n3_ n4_ n5_ n6_ n7_ n8_ n9_ n10_ n11_ n12_ n13_ n14_ n15_; clear hb hbox hg; have hnb50 := NB463_438.out; have hnc50 := NB438_463.out; have hnb51 := NB463_439.out; have hnc51 := NB439_463.out; have hnb52 := NB463_440.out; have hnc52 := NB440_463.out; have hnb53 := NB463_452.out; have hnc53 := NB452_463.out; have hcz54_0 : w49.cell? ⟨gb463, 0, none⟩ = some (.int .i64 0) := (blk_cell BK463.out 0).trans rfl; have hcz54_1 : w49.cell? ⟨gb463, 1, none⟩ = some (.int .i64 0) := (blk_cell BK463.out 1).trans rfl; have hcz54_2 : w49.cell? ⟨gb463, 2, none⟩ = some (.int .i64 0) := (blk_cell BK463.out 2).trans rfl; have hcz54_3 : w49.cell? ⟨gb463, 3, none⟩ = some (.int .i64 0) := (blk_cell BK463.out 3).trans rfl; have hfz54_0 := blk_frozen BK463.out 0; have hfz54_1 := blk_frozen BK463.out 1; have hfz54_2 := blk_frozen BK463.out 2; have hfz54_3 := blk_frozen BK463.out 3) | ((with_reducible refine gate_callee (f := 17) rfl ?_); refine goesL_ (some 88) rfl rfl Try.func17 (by kernel_rfl) rfl #[.agg #[.int .i64 t457, .int .i64 t458, .int .i64 t459, .int .i64 t460], .int .i64 t461, .int .i64 t462] rfl (by (try simp only [List.map_toArray, List.map_cons, List.map_nil]); first | done | rfl | (simp only [List.length_drop, List.length_take]; rfl)) ?_; (with_reducible refine (impl_BlockOf.calls t457 t458 t459 t460 t461 t462 t464 t465 t466 t467 _ A13.out).mono ?_); rintro e w55 ⟨rfl, hb⟩; refine ⟨_, rfl, ?_⟩; have n0_ := Aside0.mk (blk_below (g := gb438) (o := .cells #[.int .i64 t429, .int .i64 t430, .int .i64 t431] 30 (0, 0)) (by (with_reducible repeat (first | refine blk_drewN ?_ _ | refine blk_drew ?_ | refine blk_alloc ?_ _)); refine blk_far ?_ NB438_463.out _; (with_reducible repeat (first | refine blk_drewN ?_ _ | refine blk_drew ?_ | refine blk_alloc ?_ _)); refine blk_far ?_ NB438_463.out _; (with_reducible repeat (first | refine blk_drewN ?_ _ | refine blk_drew ?_ | refine blk_alloc ?_ _)); refine blk_far ?_ NB438_463.out _; (with_reducible repeat (first | refine blk_drewN ?_ _ | refine blk_drew ?_ | refine blk_alloc ?_ _)); refine blk_far ?_ NB438_463.out _; (with_reducible repeat (first | refine blk_drewN ?_ _ | refine blk_drew ?_ | refine blk_alloc ?_ _)); exact BK438.out) hb); have n1_ := Aside0.mk (blk_below (g := gb439) (o := .cells #[.int .i64 t432, .int .i64 t433, .int .i64 t434, .int .i64 t435] 32 (0, 0)) (by (with_reducible repeat (first | refine blk_drewN ?_ _ | refine blk_drew ?_ | refine blk_alloc ?_ _)); refine blk_far ?_ NB439_463.out _; (with_reducible repeat (first | refine blk_drewN ?_ _ | refine blk_drew ?_ | refine blk_alloc ?_ _)); refine blk_far ?_ NB439_463.out _; (with_reducible repeat (first | refine blk_drewN ?_ _ | refine blk_drew ?_ | refine blk_alloc ?_ _)); refine blk_far ?_ NB439_463.out _; (with_reducible repeat (first | refine blk_drewN ?_ _ | refine blk_drew ?_ | refine blk_alloc ?_ _)); refine blk_far ?_ NB439_463.out _; (with_reducible repeat (first | refine blk_drewN ?_ _ | refine blk_drew ?_ | refine blk_alloc ?_ _)); exact BK439.out) hb); have n2_ := Aside0.mk (blk_below (g := gb440) (o := .cells #[.int .i64 t436, .int .i64 t437] 52 (0, 0)) (by (with_reducible repeat (first | refine blk_drewN ?_ _ | refine blk_drew ?_ | refine blk_alloc ?_ _)); refine blk_far ?_ NB440_463.out _; (with_reducible repeat (first | refine blk_drewN ?_ _ | refine blk_drew ?_ | refine blk_alloc ?_ _)); refine blk_far ?_ NB440_463.out _; (with_reducible repeat (first | refine blk_drewN ?_ _ | refine blk_drew ?_ | refine blk_alloc ?_ _)); refine blk_far ?_ NB440_463.out _; (with_reducible repeat (first | refine blk_drewN ?_ _ | refine blk_drew ?_ | refine blk_alloc ?_ _)); refine blk_far ?_ NB440_463.out _; (with_reducible repeat (first | refine blk_drewN ?_ _ | refine blk_drew ?_ | refine blk_alloc ?_ _)); exact BK440.out) hb); have n3_ := Aside0.mk (blk_below (g := gb452) (o := .cells #[.int .i64 t449, .int .i64 t450, .int .i64 t451] 30 (0, 0)) (by (with_reducible repeat (first | refine blk_drewN ?_ _ | refine blk_drew ?_ | refine blk_alloc ?_ _)); refine blk_far ?_ NB452_463.out _; (with_reducible repeat (first | refine blk_drewN ?_ _ | refine blk_drew ?_ | refine blk_alloc ?_ _)); refine blk_far ?_ NB452_463.out _; (with_reducible repeat (first | refine blk_drewN ?_ _ | refine blk_drew ?_ | refine blk_alloc ?_ _)); refine blk_far ?_ NB452_463.out _; (with_reducible repeat (first | refine blk_drewN ?_ _ | refine blk_drew ?_ | refine blk_alloc ?_ _)); refine blk_far ?_ NB452_463.out _; (with_reducible repeat (first | refine blk_drewN ?_ _ | refine blk_drew ?_ | refine blk_alloc ?_ _)); exact BK452.out) hb); have n4_ := Aside0.mk (blk_below (g := gb463) (o := .cells #[.int .i64 t457, .int .i64 t458, .int .i64 t459, .int .i64 t460] 40 (0, 0)) (by (with_reducible repeat (first | refine blk_drewN ?_ _ | refine blk_drew ?_ | refine blk_alloc ?_ _)); refine blk_put (cs := #[.int .i64 t457, .int .i64 t458, .int .i64 t459, .int .i64 0]) ?_ 3 _ rfl; (with_reducible repeat (first | refine blk_drewN ?_ _ | refine blk_drew ?_ | refine blk_alloc ?_ _)); refine blk_put (cs := #[.int .i64 t457, .int .i64 t458, .int .i64 0, .int .i64 0]) ?_ 2 _ rfl; (with_reducible repeat (first | refine blk_drewN ?_ _ | refine blk_drew ?_ | refine blk_alloc ?_ _)); refine blk_put (cs := #[.int .i64 t457, .int .i64 0, .int .i64 0, .int .i64 0]) ?_ 1 _ rfl; (with_reducible repeat (first | refine blk_drewN ?_ _ | refine blk_drew ?_ | refine blk_alloc ?_ _)); refine blk_put (cs := #[.int .i64 0, .int .i64 0, .int .i64 0, .int .i64 0]) ?_ 0 _ rfl; (with_reducible repeat (first | refine blk_drewN ?_ _ | refine blk_drew ?_ | refine blk_alloc ?_ _)); exact BK463.out) hb); have n5_ := Aside0.mk (below_step (by repeat (first | (with_reducible first | exact HB.out | apply below_alloc | apply pw_below_drewN | apply below_drew1 | refine below_set ?_ GE438.out | refine below_set ?_ GE439.out | refine below_set ?_ GE440.out | refine below_set ?_ GE452.out | refine below_set ?_ GE463.out) | exact HB.out)) hb); clear BK438; clear BK439; clear BK440; clear BK452; clear BK463; clear HB; have BK438 := n0_; have BK439 := n1_; have BK440 := n2_; have BK452 := n3_; have BK463 := n4_; have HB := n5_; clear n0_ n1_ n2_ n3_ n4_ n5_; (try clear hb)) | ((with_reducible refine gate_dst (N := 22) rfl ?_); refine box_event ?hg (N := 22) ?hd (cs := #[.int .i64 0, .int .i64 0, .int .i64 0]) (t := 30) ?hr ?_; (case hd => rfl); (case hg => rfl); (case hr => first | (go_simp; done) | (go_simp; rfl)); intro gb468 hg w56 hbox hb; have n0_ := Aside0.mk (blk_below (g := gb438) (o := .cells #[.int .i64 t429, .int .i64 t430, .int .i64 t431] 30 (0, 0)) (by (with_reducible repeat (first | refine blk_drewN ?_ _ | refine blk_drew ?_ | refine blk_alloc ?_ _)); exact BK438.out) hb); have n1_ := Aside0.mk (blk_below (g := gb439) (o := .cells #[.int .i64 t432, .int .i64 t433, .int .i64 t434, .int .i64 t435] 32 (0, 0)) (by (with_reducible repeat (first | refine blk_drewN ?_ _ | refine blk_drew ?_ | refine blk_alloc ?_ _)); exact BK439.out) hb); have n2_ := Aside0.mk (blk_below (g := gb440) (o := .cells #[.int .i64 t436, .int .i64 t437] 52 (0, 0)) (by (with_reducible repeat (first | refine blk_drewN ?_ _ | refine blk_drew ?_ | refine blk_alloc ?_ _)); exact BK440.out) hb); have n3_ := Aside0.mk (blk_below (g := gb452) (o := .cells #[.int .i64 t449, .int .i64 t450, .int .i64 t451] 30 (0, 0)) (by (with_reducible repeat (first | refine blk_drewN ?_ _ | refine blk_drew ?_ | refine blk_alloc ?_ _)); exact BK452.out) hb); have n4_ := Aside0.mk (blk_below (g := gb463) (o := .cells #[.int .i64 t457, .int .i64 t458, .int .i64 t459, .int .i64 t460] 40 (0, 0)) (by (with_reducible repeat (first | refine blk_drewN ?_ _ | refine blk_drew ?_ | refine blk_alloc ?_ _)); exact BK463.out) hb); have n5_ := Aside0.mk (below_step (by repeat (first | (with_reducible first | exact HB.out | apply below_alloc | apply pw_below_drewN | apply below_drew1 | refine below_set ?_ GE438.out | refine below_set ?_ GE439.out | refine below_set ?_ GE440.out | refine below_set ?_ GE452.out | refine below_set ?_ GE463.out) | exact HB.out)) hb); have n6_ := Aside0.mk (hbox); have n7_ := Aside0.mk ((by rw [hg]; exact (below_size (by repeat (first | (with_reducible first | exact HB.out | apply below_alloc | apply pw_below_drewN | apply below_drew1 | refine below_set ?_ GE438.out | refine below_set ?_ GE439.out | refine below_set ?_ GE440.out | refine below_set ?_ GE452.out | refine below_set ?_ GE463.out) | exact HB.out))) : w.heap.size ≤ gb468)); have n8_ := n7_; have n9_ := Aside0.mk ((by rw [hg]; exact Nat.ne_of_lt (blk_lt (g := gb438) (o := .cells #[.int .i64 t429, .int .i64 t430, .int .i64 t431] 30 (0, 0)) (by (with_reducible repeat (first | refine blk_drewN ?_ _ | refine blk_drew ?_ | refine blk_alloc ?_ _)); exact BK438.out)) : gb438 ≠ gb468)); have n10_ := Aside0.mk n9_.out.symm; have n11_ := Aside0.mk ((by rw [hg]; exact Nat.ne_of_lt (blk_lt (g := gb439) (o := .cells #[.int .i64 t432, .int .i64 t433, .int .i64 t434, .int .i64 t435] 32 (0, 0)) (by (with_reducible repeat (first | refine blk_drewN ?_ _ | refine blk_drew ?_ | refine blk_alloc ?_ _)); exact BK439.out)) : gb439 ≠ gb468)); have n12_ := Aside0.mk n11_.out.symm; have n13_ := Aside0.mk ((by rw [hg]; exact Nat.ne_of_lt (blk_lt (g := gb440) (o := .cells #[.int .i64 t436, .int .i64 t437] 52 (0, 0)) (by (with_reducible repeat (first | refine blk_drewN ?_ _ | refine blk_drew ?_ | refine blk_alloc ?_ _)); exact BK440.out)) : gb440 ≠ gb468)); have n14_ := Aside0.mk n13_.out.symm; have n15_ := Aside0.mk ((by rw [hg]; exact Nat.ne_of_lt (blk_lt (g := gb452) (o := .cells #[.int .i64 t449, .int .i64 t450, .int .i64 t451] 30 (0, 0)) (by (with_reducible repeat (first | refine blk_drewN ?_ _ | refine blk_drew ?_ | refine blk_alloc ?_ _)); exact BK452.out)) : gb452 ≠ gb468)); have n16_ := Aside0.mk n15_.out.symm; have n17_ := Aside0.mk ((by rw [hg]; exact Nat.ne_of_lt (blk_lt (g := gb463) (o := .cells #[.int .i64 t457, .int .i64 t458, .int .i64 t459, .int .i64 t460] 40 (0, 0)) (by (with_reducible repeat (first | refine blk_drewN ?_ _ | refine blk_drew ?_ | refine blk_alloc ?_ _)); exact BK463.out)) : gb463 ≠ gb468)); have n18_ := Aside0.mk n17_.out.symm; clear BK438; clear BK439; clear BK440; clear BK452; clear BK463; clear HB; have BK438 := n0_; have BK439 := n1_; have BK440 := n2_; have BK452 := n3_; have BK463 := n4_; have HB := n5_; have BK468 := n6_; have GW468 := n7_; have GE468 := n8_; have NB438_468 := n9_; have NB468_438 := n10_; have NB439_468 := n11_; have NB468_439 := n12_; have NB440_468 := n13_; have NB468_440 := n14_; have NB452_468 := n15_; have NB468_452 := n16_; have NB463_468 := n17_; have NB468_463 := n18_; clear n0_ n1_ n2_ n3_ n4_ n5_ n6_ n7_ n8_ n9_ n10_ n11_ n12_ n13_ n14_ n15_ n16_ n17_ n18_; clear hb hbox hg; have hnb57 := NB468_438.out; have hnc57 := NB438_468.out; have hnb58 := NB468_439.out; have hnc58 := NB439_468.out; have hnb59 := NB468_440.out; have hnc59 := NB440_468.out; have hnb60 := NB468_452.out; have hnc60 := NB452_468.out; have hnb61 := NB468_463.out; have hnc61 := NB463_468.out; have hcz62_0 : w56.cell? ⟨gb468, 0, none⟩ = some (.int .i64 0) := (blk_cell BK468.out 0).trans rfl; have hcz62_1 : w56.cell? ⟨gb468, 1, none⟩ = some (.int .i64 0) := (blk_cell BK468.out 1).trans rfl; have hcz62_2 : w56.cell? ⟨gb468, 2, none⟩ = some (.int .i64 0) := (blk_cell BK468.out 2).trans rfl; have hfz62_0 := blk_frozen BK468.out 0; have hfz62_1 := blk_frozen BK468.out 1; have hfz62_2 := blk_frozen BK468.out 2; have hcz63_0 : w56.cell? ⟨gb463, 0, none⟩ = some (.int .i64 t457) := (blk_cell BK463.out 0).trans rfl; have hcz63_1 : w56.cell? ⟨gb463, 1, none⟩ = some (.int .i64 t458) := (blk_cell BK463.out 1).trans rfl; have hcz63_2 : w56.cell? ⟨gb463, 2, none⟩ = some (.int .i64 t459) := (blk_cell BK463.out 2).trans rfl; have hcz63_3 : w56.cell? ⟨gb463, 3, none⟩ = some (.int .i64 t460) := (blk_cell BK463.out 3).trans rfl; have hfz63_0 := blk_frozen BK463.out 0; have hfz63_1 := blk_frozen BK463.out 1; have hfz63_2 := blk_frozen BK463.out 2; have hfz63_3 := blk_frozen BK463.out 3) | ((with_reducible refine gate_callee (f := 15) rfl ?_); refine goesL_ (some 95) rfl rfl Try.func15 (by kernel_rfl) rfl #[.agg #[.int .i64 t457, .int .i64 t458, .int .i64 t459, .int .i64 t460], .int .i64 t461, .int .i64 t462] rfl (by (try simp only [List.map_toArray, List.map_cons, List.map_nil]); first | done | rfl | (simp only [List.length_drop, List.length_take]; rfl)) ?_; (with_reducible refine (spec_BlockOf.calls k t457 t458 t459 t460 t461 t462 t469 t470 t471 t472 _ A14.out).mono ?_); rintro e w64 ⟨rfl, hb⟩; refine ⟨_, rfl, ?_⟩; have n0_ := Aside0.mk (blk_below (g := gb438) (o := .cells #[.int .i64 t429, .int .i64 t430, .int .i64 t431] 30 (0, 0)) (by (with_reducible repeat (first | refine blk_drewN ?_ _ | refine blk_drew ?_ | refine blk_alloc ?_ _)); refine blk_far ?_ NB438_468.out _; (with_reducible repeat (first | refine blk_drewN ?_ _ | refine blk_drew ?_ | refine blk_alloc ?_ _)); refine blk_far ?_ NB438_468.out _; (with_reducible repeat (first | refine blk_drewN ?_ _ | refine blk_drew ?_ | refine blk_alloc ?_ _)); refine blk_far ?_ NB438_468.out _; (with_reducible repeat (first | refine blk_drewN ?_ _ | refine blk_drew ?_ | refine blk_alloc ?_ _)); exact BK438.out) hb); have n1_ := Aside0.mk (blk_below (g := gb439) (o := .cells #[.int .i64 t432, .int .i64 t433, .int .i64 t434, .int .i64 t435] 32 (0, 0)) (by (with_reducible repeat (first | refine blk_drewN ?_ _ | refine blk_drew ?_ | refine blk_alloc ?_ _)); refine blk_far ?_ NB439_468.out _; (with_reducible repeat (first | refine blk_drewN ?_ _ | refine blk_drew ?_ | refine blk_alloc ?_ _)); refine blk_far ?_ NB439_468.out _; (with_reducible repeat (first | refine blk_drewN ?_ _ | refine blk_drew ?_ | refine blk_alloc ?_ _)); refine blk_far ?_ NB439_468.out _; (with_reducible repeat (first | refine blk_drewN ?_ _ | refine blk_drew ?_ | refine blk_alloc ?_ _)); exact BK439.out) hb); have n2_ := Aside0.mk (blk_below (g := gb440) (o := .cells #[.int .i64 t436, .int .i64 t437] 52 (0, 0)) (by (with_reducible repeat (first | refine blk_drewN ?_ _ | refine blk_drew ?_ | refine blk_alloc ?_ _)); refine blk_far ?_ NB440_468.out _; (with_reducible repeat (first | refine blk_drewN ?_ _ | refine blk_drew ?_ | refine blk_alloc ?_ _)); refine blk_far ?_ NB440_468.out _; (with_reducible repeat (first | refine blk_drewN ?_ _ | refine blk_drew ?_ | refine blk_alloc ?_ _)); refine blk_far ?_ NB440_468.out _; (with_reducible repeat (first | refine blk_drewN ?_ _ | refine blk_drew ?_ | refine blk_alloc ?_ _)); exact BK440.out) hb); have n3_ := Aside0.mk (blk_below (g := gb452) (o := .cells #[.int .i64 t449, .int .i64 t450, .int .i64 t451] 30 (0, 0)) (by (with_reducible repeat (first | refine blk_drewN ?_ _ | refine blk_drew ?_ | refine blk_alloc ?_ _)); refine blk_far ?_ NB452_468.out _; (with_reducible repeat (first | refine blk_drewN ?_ _ | refine blk_drew ?_ | refine blk_alloc ?_ _)); refine blk_far ?_ NB452_468.out _; (with_reducible repeat (first | refine blk_drewN ?_ _ | refine blk_drew ?_ | refine blk_alloc ?_ _)); refine blk_far ?_ NB452_468.out _; (with_reducible repeat (first | refine blk_drewN ?_ _ | refine blk_drew ?_ | refine blk_alloc ?_ _)); exact BK452.out) hb); have n4_ := Aside0.mk (blk_below (g := gb463) (o := .cells #[.int .i64 t457, .int .i64 t458, .int .i64 t459, .int .i64 t460] 40 (0, 0)) (by (with_reducible repeat (first | refine blk_drewN ?_ _ | refine blk_drew ?_ | refine blk_alloc ?_ _)); refine blk_far ?_ NB463_468.out _; (with_reducible repeat (first | refine blk_drewN ?_ _ | refine blk_drew ?_ | refine blk_alloc ?_ _)); refine blk_far ?_ NB463_468.out _; (with_reducible repeat (first | refine blk_drewN ?_ _ | refine blk_drew ?_ | refine blk_alloc ?_ _)); refine blk_far ?_ NB463_468.out _; (with_reducible repeat (first | refine blk_drewN ?_ _ | refine blk_drew ?_ | refine blk_alloc ?_ _)); exact BK463.out) hb); have n5_ := Aside0.mk (blk_below (g := gb468) (o := .cells #[.int .i64 t464, .int .i64 t465, .int .i64 t466] 30 (0, 0)) (by (with_reducible repeat (first | refine blk_drewN ?_ _ | refine blk_drew ?_ | refine blk_alloc ?_ _)); refine blk_put (cs := #[.int .i64 t464, .int .i64 t465, .int .i64 0]) ?_ 2 _ rfl; (with_reducible repeat (first | refine blk_drewN ?_ _ | refine blk_drew ?_ | refine blk_alloc ?_ _)); refine blk_put (cs := #[.int .i64 t464, .int .i64 0, .int .i64 0]) ?_ 1 _ rfl; (with_reducible repeat (first | refine blk_drewN ?_ _ | refine blk_drew ?_ | refine blk_alloc ?_ _)); refine blk_put (cs := #[.int .i64 0, .int .i64 0, .int .i64 0]) ?_ 0 _ rfl; (with_reducible repeat (first | refine blk_drewN ?_ _ | refine blk_drew ?_ | refine blk_alloc ?_ _)); exact BK468.out) hb); have n6_ := Aside0.mk (below_step (by repeat (first | (with_reducible first | exact HB.out | apply below_alloc | apply pw_below_drewN | apply below_drew1 | refine below_set ?_ GE438.out | refine below_set ?_ GE439.out | refine below_set ?_ GE440.out | refine below_set ?_ GE452.out | refine below_set ?_ GE463.out | refine below_set ?_ GE468.out) | exact HB.out)) hb); clear BK438; clear BK439; clear BK440; clear BK452; clear BK463; clear BK468; clear HB; have BK438 := n0_; have BK439 := n1_; have BK440 := n2_; have BK452 := n3_; have BK463 := n4_; have BK468 := n5_; have HB := n6_; clear n0_ n1_ n2_ n3_ n4_ n5_ n6_; (try clear hb)) | ((with_reducible refine gate_dst (N := 24) rfl ?_); refine box_event ?hg (N := 24) ?hd (cs := #[.int .i64 0, .int .i64 0, .int .i64 0]) (t := 30) ?hr ?_; (case hd => rfl); (case hg => rfl); (case hr => first | (go_simp; done) | (go_simp; rfl)); intro gb473 hg w65 hbox hb; have n0_ := Aside0.mk (blk_below (g := gb438) (o := .cells #[.int .i64 t429, .int .i64 t430, .int .i64 t431] 30 (0, 0)) (by (with_reducible repeat (first | refine blk_drewN ?_ _ | refine blk_drew ?_ | refine blk_alloc ?_ _)); exact BK438.out) hb); have n1_ := Aside0.mk (blk_below (g := gb439) (o := .cells #[.int .i64 t432, .int .i64 t433, .int .i64 t434, .int .i64 t435] 32 (0, 0)) (by (with_reducible repeat (first | refine blk_drewN ?_ _ | refine blk_drew ?_ | refine blk_alloc ?_ _)); exact BK439.out) hb); have n2_ := Aside0.mk (blk_below (g := gb440) (o := .cells #[.int .i64 t436, .int .i64 t437] 52 (0, 0)) (by (with_reducible repeat (first | refine blk_drewN ?_ _ | refine blk_drew ?_ | refine blk_alloc ?_ _)); exact BK440.out) hb); have n3_ := Aside0.mk (blk_below (g := gb452) (o := .cells #[.int .i64 t449, .int .i64 t450, .int .i64 t451] 30 (0, 0)) (by (with_reducible repeat (first | refine blk_drewN ?_ _ | refine blk_drew ?_ | refine blk_alloc ?_ _)); exact BK452.out) hb); have n4_ := Aside0.mk (blk_below (g := gb463) (o := .cells #[.int .i64 t457, .int .i64 t458, .int .i64 t459, .int .i64 t460] 40 (0, 0)) (by (with_reducible repeat (first | refine blk_drewN ?_ _ | refine blk_drew ?_ | refine blk_alloc ?_ _)); exact BK463.out) hb); have n5_ := Aside0.mk (blk_below (g := gb468) (o := .cells #[.int .i64 t464, .int .i64 t465, .int .i64 t466] 30 (0, 0)) (by (with_reducible repeat (first | refine blk_drewN ?_ _ | refine blk_drew ?_ | refine blk_alloc ?_ _)); exact BK468.out) hb); have n6_ := Aside0.mk (below_step (by repeat (first | (with_reducible first | exact HB.out | apply below_alloc | apply pw_below_drewN | apply below_drew1 | refine below_set ?_ GE438.out | refine below_set ?_ GE439.out | refine below_set ?_ GE440.out | refine below_set ?_ GE452.out | refine below_set ?_ GE463.out | refine below_set ?_ GE468.out) | exact HB.out)) hb); have n7_ := Aside0.mk (hbox); have n8_ := Aside0.mk ((by rw [hg]; exact (below_size (by repeat (first | (with_reducible first | exact HB.out | apply below_alloc | apply pw_below_drewN | apply below_drew1 | refine below_set ?_ GE438.out | refine below_set ?_ GE439.out | refine below_set ?_ GE440.out | refine below_set ?_ GE452.out | refine below_set ?_ GE463.out | refine below_set ?_ GE468.out) | exact HB.out))) : w.heap.size ≤ gb473)); have n9_ := n8_; have n10_ := Aside0.mk ((by rw [hg]; exact Nat.ne_of_lt (blk_lt (g := gb438) (o := .cells #[.int .i64 t429, .int .i64 t430, .int .i64 t431] 30 (0, 0)) (by (with_reducible repeat (first | refine blk_drewN ?_ _ | refine blk_drew ?_ | refine blk_alloc ?_ _)); exact BK438.out)) : gb438 ≠ gb473)); have n11_ := Aside0.mk n10_.out.symm; have n12_ := Aside0.mk ((by rw [hg]; exact Nat.ne_of_lt (blk_lt (g := gb439) (o := .cells #[.int .i64 t432, .int .i64 t433, .int .i64 t434, .int .i64 t435] 32 (0, 0)) (by (with_reducible repeat (first | refine blk_drewN ?_ _ | refine blk_drew ?_ | refine blk_alloc ?_ _)); exact BK439.out)) : gb439 ≠ gb473)); have n13_ := Aside0.mk n12_.out.symm; have n14_ := Aside0.mk ((by rw [hg]; exact Nat.ne_of_lt (blk_lt (g := gb440) (o := .cells #[.int .i64 t436, .int .i64 t437] 52 (0, 0)) (by (with_reducible repeat (first | refine blk_drewN ?_ _ | refine blk_drew ?_ | refine blk_alloc ?_ _)); exact BK440.out)) : gb440 ≠ gb473)); have n15_ := Aside0.mk n14_.out.symm; have n16_ := Aside0.mk ((by rw [hg]; exact Nat.ne_of_lt (blk_lt (g := gb452) (o := .cells #[.int .i64 t449, .int .i64 t450, .int .i64 t451] 30 (0, 0)) (by (with_reducible repeat (first | refine blk_drewN ?_ _ | refine blk_drew ?_ | refine blk_alloc ?_ _)); exact BK452.out)) : gb452 ≠ gb473)); have n17_ := Aside0.mk n16_.out.symm; have n18_ := Aside0.mk ((by rw [hg]; exact Nat.ne_of_lt (blk_lt (g := gb463) (o := .cells #[.int .i64 t457, .int .i64 t458, .int .i64 t459, .int .i64 t460] 40 (0, 0)) (by (with_reducible repeat (first | refine blk_drewN ?_ _ | refine blk_drew ?_ | refine blk_alloc ?_ _)); exact BK463.out)) : gb463 ≠ gb473)); have n19_ := Aside0.mk n18_.out.symm; have n20_ := Aside0.mk ((by rw [hg]; exact Nat.ne_of_lt (blk_lt (g := gb468) (o := .cells #[.int .i64 t464, .int .i64 t465, .int .i64 t466] 30 (0, 0)) (by (with_reducible repeat (first | refine blk_drewN ?_ _ | refine blk_drew ?_ | refine blk_alloc ?_ _)); exact BK468.out)) : gb468 ≠ gb473)); have n21_ := Aside0.mk n20_.out.symm; clear BK438; clear BK439; clear BK440; clear BK452; clear BK463; clear BK468; clear HB; have BK438 := n0_; have BK439 := n1_; have BK440 := n2_; have BK452 := n3_; have BK463 := n4_; have BK468 := n5_; have HB := n6_; have BK473 := n7_; have GW473 := n8_; have GE473 := n9_; have NB438_473 := n10_; have NB473_438 := n11_; have NB439_473 := n12_; have NB473_439 := n13_; have NB440_473 := n14_; have NB473_440 := n15_; have NB452_473 := n16_; have NB473_452 := n17_; have NB463_473 := n18_; have NB473_463 := n19_; have NB468_473 := n20_; have NB473_468 := n21_; clear n0_ n1_ n2_ n3_ n4_ n5_ n6_ n7_ n8_ n9_ n10_ n11_ n12_ n13_ n14_ n15_ n16_ n17_ n18_ n19_ n20_ n21_; clear hb hbox hg; have hnb66 := NB473_438.out; have hnc66 := NB438_473.out; have hnb67 := NB473_439.out; have hnc67 := NB439_473.out; have hnb68 := NB473_440.out; have hnc68 := NB440_473.out; have hnb69 := NB473_452.out; have hnc69 := NB452_473.out; have hnb70 := NB473_463.out; have hnc70 := NB463_473.out; have hnb71 := NB473_468.out; have hnc71 := NB468_473.out; have hcz72_0 : w65.cell? ⟨gb473, 0, none⟩ = some (.int .i64 0) := (blk_cell BK473.out 0).trans rfl; have hcz72_1 : w65.cell? ⟨gb473, 1, none⟩ = some (.int .i64 0) := (blk_cell BK473.out 1).trans rfl; have hcz72_2 : w65.cell? ⟨gb473, 2, none⟩ = some (.int .i64 0) := (blk_cell BK473.out 2).trans rfl; have hfz72_0 := blk_frozen BK473.out 0; have hfz72_1 := blk_frozen BK473.out 1; have hfz72_2 := blk_frozen BK473.out 2))
  (try simp only [Act.put, List.setIfInBounds_toArray, List.set_cons_zero, List.set_cons_succ])
  go_cut [140] (fun v140 wc => ∃ (kq : Nat) (x140_14 : Bool), v140 = .bool x140_14 ∧ Aside0 (laws_FnBoards.j0 kq t441 t442 t445 t461 t462 t467 x140_14 t429 t430 t431 t432 t433 t434 t435 t436 t437 t457 t458 t459 t460 t464 t465 t466 = some r) ∧ Aside0 (kq ≤ k) ∧ Aside0 (wc.heap[gb438]? = some (.cells #[.int .i64 t429, .int .i64 t430, .int .i64 t431] 30 (0, 0))) ∧ Aside0 (wc.heap[gb439]? = some (.cells #[.int .i64 t432, .int .i64 t433, .int .i64 t434, .int .i64 t435] 32 (0, 0))) ∧ Aside0 (wc.heap[gb440]? = some (.cells #[.int .i64 t436, .int .i64 t437] 52 (0, 0))) ∧ Aside0 (wc.heap[gb452]? = some (.cells #[.int .i64 t449, .int .i64 t450, .int .i64 t451] 30 (0, 0))) ∧ Aside0 (wc.heap[gb463]? = some (.cells #[.int .i64 t457, .int .i64 t458, .int .i64 t459, .int .i64 t460] 40 (0, 0))) ∧ Aside0 (wc.heap[gb468]? = some (.cells #[.int .i64 t464, .int .i64 t465, .int .i64 t466] 30 (0, 0))) ∧ Aside0 (wc.heap[gb473]? = some (.cells #[.int .i64 t469, .int .i64 t470, .int .i64 t471] 30 (0, 0))) ∧ Aside0 (Below w.heap.size w wc))
  case first =>
   have H := HC15.out
   clear HC15
   by_cases c73 : t442 = t444
   ·rw [if_pos c73] at H
    have c73b0 : (t442 == t444) = true := beq_iff_eq.mpr c73
    have c73b1 : (t442 != t444) = false := bne_eq_false_iff_eq.mpr c73
    clear c73
    (first | rw [c73b0] | (simp only [i64_w, i32_w]; rw [c73b0]) | skip)
    by_cases c74 : t441 = t443
    ·rw [if_pos c74] at H
     have c74b0 : (t441 == t443) = true := beq_iff_eq.mpr c74
     have c74b1 : (t441 != t443) = false := bne_eq_false_iff_eq.mpr c74
     clear c74
     by_cases c75 : t446 = t448
     ·rw [if_pos c75] at H
      have c75b0 : (t446 == t448) = true := beq_iff_eq.mpr c75
      have c75b1 : (t446 != t448) = false := bne_eq_false_iff_eq.mpr c75
      clear c75
      by_cases c76 : t445 = t447
      ·rw [if_pos c76] at H
       have c76b0 : (t445 == t447) = true := beq_iff_eq.mpr c76
       have c76b1 : (t445 != t447) = false := bne_eq_false_iff_eq.mpr c76
       clear c76
       by_cases c77 : t454 = t456
       ·rw [if_pos c77] at H
        have c77b0 : (t454 == t456) = true := beq_iff_eq.mpr c77
        have c77b1 : (t454 != t456) = false := bne_eq_false_iff_eq.mpr c77
        clear c77
        by_cases c78 : t453 = t455
        ·rw [if_pos c78] at H
         have c78b0 : (t453 == t455) = true := beq_iff_eq.mpr c78
         have c78b1 : (t453 != t455) = false := bne_eq_false_iff_eq.mpr c78
         clear c78
         by_cases c79 : t467 = t472
         ·rw [if_pos c79] at H
          have c79b0 : (t467 == t472) = true := beq_iff_eq.mpr c79
          have c79b1 : (t467 != t472) = false := bne_eq_false_iff_eq.mpr c79
          clear c79
          by_cases c80 : (!(t464 == t469) || (!(t465 == t470) || (!(t466 == t471)))) = true
          ·rw [if_pos c80] at H
           have c80b0 : (!(t464 == t469) || (!(t465 == t470) || (!(t466 == t471)))) = true := c80
           clear c80
           have H' := Aside0.mk H
           clear H
           have hnb81 := NB468_438.out
           have hnc81 := NB438_468.out
           have hnb82 := NB468_439.out
           have hnc82 := NB439_468.out
           have hnb83 := NB468_440.out
           have hnc83 := NB440_468.out
           have hnb84 := NB468_452.out
           have hnc84 := NB452_468.out
           have hnb85 := NB468_463.out
           have hnc85 := NB463_468.out
           have hnb86 := NB468_473.out
           have hnc86 := NB473_468.out
           have hcz87_0 : w65.cell? ⟨gb468, 0, none⟩ = some (.int .i64 t464) := (blk_cell BK468.out 0).trans rfl
           have hcz87_1 : w65.cell? ⟨gb468, 1, none⟩ = some (.int .i64 t465) := (blk_cell BK468.out 1).trans rfl
           have hcz87_2 : w65.cell? ⟨gb468, 2, none⟩ = some (.int .i64 t466) := (blk_cell BK468.out 2).trans rfl
           have hfz87_0 := blk_frozen BK468.out 0
           have hfz87_1 := blk_frozen BK468.out 1
           have hfz87_2 := blk_frozen BK468.out 2
           have hnb88 := NB473_438.out
           have hnc88 := NB438_473.out
           have hnb89 := NB473_439.out
           have hnc89 := NB439_473.out
           have hnb90 := NB473_440.out
           have hnc90 := NB440_473.out
           have hnb91 := NB473_452.out
           have hnc91 := NB452_473.out
           have hnb92 := NB473_463.out
           have hnc92 := NB463_473.out
           have hcz93_0 : w65.cell? ⟨gb473, 0, none⟩ = some (.int .i64 0) := (blk_cell BK473.out 0).trans rfl
           have hcz93_1 : w65.cell? ⟨gb473, 1, none⟩ = some (.int .i64 0) := (blk_cell BK473.out 1).trans rfl
           have hcz93_2 : w65.cell? ⟨gb473, 2, none⟩ = some (.int .i64 0) := (blk_cell BK473.out 2).trans rfl
           have hfz93_0 := blk_frozen BK473.out 0
           have hfz93_1 := blk_frozen BK473.out 1
           have hfz93_2 := blk_frozen BK473.out 2
           go_wp2
           go_meet
           case rel => exact ⟨_, (true), (by first | rfl | (simp; done) | (simp [*]; done)), H', ⟨by first | omega | exact Nat.le_refl _⟩, ⟨by (with_reducible repeat (first | refine blk_drewN ?_ _ | refine blk_drew ?_ | refine blk_alloc ?_ _)); refine blk_far ?_ NB438_473.out _; (with_reducible repeat (first | refine blk_drewN ?_ _ | refine blk_drew ?_ | refine blk_alloc ?_ _)); refine blk_far ?_ NB438_473.out _; (with_reducible repeat (first | refine blk_drewN ?_ _ | refine blk_drew ?_ | refine blk_alloc ?_ _)); refine blk_far ?_ NB438_473.out _; (with_reducible repeat (first | refine blk_drewN ?_ _ | refine blk_drew ?_ | refine blk_alloc ?_ _)); exact BK438.out⟩, ⟨by (with_reducible repeat (first | refine blk_drewN ?_ _ | refine blk_drew ?_ | refine blk_alloc ?_ _)); refine blk_far ?_ NB439_473.out _; (with_reducible repeat (first | refine blk_drewN ?_ _ | refine blk_drew ?_ | refine blk_alloc ?_ _)); refine blk_far ?_ NB439_473.out _; (with_reducible repeat (first | refine blk_drewN ?_ _ | refine blk_drew ?_ | refine blk_alloc ?_ _)); refine blk_far ?_ NB439_473.out _; (with_reducible repeat (first | refine blk_drewN ?_ _ | refine blk_drew ?_ | refine blk_alloc ?_ _)); exact BK439.out⟩, ⟨by (with_reducible repeat (first | refine blk_drewN ?_ _ | refine blk_drew ?_ | refine blk_alloc ?_ _)); refine blk_far ?_ NB440_473.out _; (with_reducible repeat (first | refine blk_drewN ?_ _ | refine blk_drew ?_ | refine blk_alloc ?_ _)); refine blk_far ?_ NB440_473.out _; (with_reducible repeat (first | refine blk_drewN ?_ _ | refine blk_drew ?_ | refine blk_alloc ?_ _)); refine blk_far ?_ NB440_473.out _; (with_reducible repeat (first | refine blk_drewN ?_ _ | refine blk_drew ?_ | refine blk_alloc ?_ _)); exact BK440.out⟩, ⟨by (with_reducible repeat (first | refine blk_drewN ?_ _ | refine blk_drew ?_ | refine blk_alloc ?_ _)); refine blk_far ?_ NB452_473.out _; (with_reducible repeat (first | refine blk_drewN ?_ _ | refine blk_drew ?_ | refine blk_alloc ?_ _)); refine blk_far ?_ NB452_473.out _; (with_reducible repeat (first | refine blk_drewN ?_ _ | refine blk_drew ?_ | refine blk_alloc ?_ _)); refine blk_far ?_ NB452_473.out _; (with_reducible repeat (first | refine blk_drewN ?_ _ | refine blk_drew ?_ | refine blk_alloc ?_ _)); exact BK452.out⟩, ⟨by (with_reducible repeat (first | refine blk_drewN ?_ _ | refine blk_drew ?_ | refine blk_alloc ?_ _)); refine blk_far ?_ NB463_473.out _; (with_reducible repeat (first | refine blk_drewN ?_ _ | refine blk_drew ?_ | refine blk_alloc ?_ _)); refine blk_far ?_ NB463_473.out _; (with_reducible repeat (first | refine blk_drewN ?_ _ | refine blk_drew ?_ | refine blk_alloc ?_ _)); refine blk_far ?_ NB463_473.out _; (with_reducible repeat (first | refine blk_drewN ?_ _ | refine blk_drew ?_ | refine blk_alloc ?_ _)); exact BK463.out⟩, ⟨by (with_reducible repeat (first | refine blk_drewN ?_ _ | refine blk_drew ?_ | refine blk_alloc ?_ _)); refine blk_far ?_ NB468_473.out _; (with_reducible repeat (first | refine blk_drewN ?_ _ | refine blk_drew ?_ | refine blk_alloc ?_ _)); refine blk_far ?_ NB468_473.out _; (with_reducible repeat (first | refine blk_drewN ?_ _ | refine blk_drew ?_ | refine blk_alloc ?_ _)); refine blk_far ?_ NB468_473.out _; (with_reducible repeat (first | refine blk_drewN ?_ _ | refine blk_drew ?_ | refine blk_alloc ?_ _)); exact BK468.out⟩, ⟨by (with_reducible repeat (first | refine blk_drewN ?_ _ | refine blk_drew ?_ | refine blk_alloc ?_ _)); refine blk_put (cs := #[.int .i64 t469, .int .i64 t470, .int .i64 0]) ?_ 2 _ rfl; (with_reducible repeat (first | refine blk_drewN ?_ _ | refine blk_drew ?_ | refine blk_alloc ?_ _)); refine blk_put (cs := #[.int .i64 t469, .int .i64 0, .int .i64 0]) ?_ 1 _ rfl; (with_reducible repeat (first | refine blk_drewN ?_ _ | refine blk_drew ?_ | refine blk_alloc ?_ _)); refine blk_put (cs := #[.int .i64 0, .int .i64 0, .int .i64 0]) ?_ 0 _ rfl; (with_reducible repeat (first | refine blk_drewN ?_ _ | refine blk_drew ?_ | refine blk_alloc ?_ _)); exact BK473.out⟩, ⟨by repeat (first | (with_reducible first | exact HB.out | apply below_alloc | apply pw_below_drewN | apply below_drew1 | refine below_set ?_ GE438.out | refine below_set ?_ GE439.out | refine below_set ?_ GE440.out | refine below_set ?_ GE452.out | refine below_set ?_ GE463.out | refine below_set ?_ GE468.out | refine below_set ?_ GE473.out) | exact HB.out)⟩⟩
          ·rw [if_neg c80] at H
           have c80b0 : (!(t464 == t469) || (!(t465 == t470) || (!(t466 == t471)))) = false := by simpa using c80
           clear c80
           have H' := Aside0.mk H
           clear H
           have hnb94 := NB468_438.out
           have hnc94 := NB438_468.out
           have hnb95 := NB468_439.out
           have hnc95 := NB439_468.out
           have hnb96 := NB468_440.out
           have hnc96 := NB440_468.out
           have hnb97 := NB468_452.out
           have hnc97 := NB452_468.out
           have hnb98 := NB468_463.out
           have hnc98 := NB463_468.out
           have hnb99 := NB468_473.out
           have hnc99 := NB473_468.out
           have hcz100_0 : w65.cell? ⟨gb468, 0, none⟩ = some (.int .i64 t464) := (blk_cell BK468.out 0).trans rfl
           have hcz100_1 : w65.cell? ⟨gb468, 1, none⟩ = some (.int .i64 t465) := (blk_cell BK468.out 1).trans rfl
           have hcz100_2 : w65.cell? ⟨gb468, 2, none⟩ = some (.int .i64 t466) := (blk_cell BK468.out 2).trans rfl
           have hfz100_0 := blk_frozen BK468.out 0
           have hfz100_1 := blk_frozen BK468.out 1
           have hfz100_2 := blk_frozen BK468.out 2
           have hnb101 := NB473_438.out
           have hnc101 := NB438_473.out
           have hnb102 := NB473_439.out
           have hnc102 := NB439_473.out
           have hnb103 := NB473_440.out
           have hnc103 := NB440_473.out
           have hnb104 := NB473_452.out
           have hnc104 := NB452_473.out
           have hnb105 := NB473_463.out
           have hnc105 := NB463_473.out
           have hcz106_0 : w65.cell? ⟨gb473, 0, none⟩ = some (.int .i64 0) := (blk_cell BK473.out 0).trans rfl
           have hcz106_1 : w65.cell? ⟨gb473, 1, none⟩ = some (.int .i64 0) := (blk_cell BK473.out 1).trans rfl
           have hcz106_2 : w65.cell? ⟨gb473, 2, none⟩ = some (.int .i64 0) := (blk_cell BK473.out 2).trans rfl
           have hfz106_0 := blk_frozen BK473.out 0
           have hfz106_1 := blk_frozen BK473.out 1
           have hfz106_2 := blk_frozen BK473.out 2
           go_wp2
           go_meet
           case rel => exact ⟨_, ((t446 != t442)), (by first | rfl | (simp; done) | (simp [*]; done)), H', ⟨by first | omega | exact Nat.le_refl _⟩, ⟨by (with_reducible repeat (first | refine blk_drewN ?_ _ | refine blk_drew ?_ | refine blk_alloc ?_ _)); refine blk_far ?_ NB438_473.out _; (with_reducible repeat (first | refine blk_drewN ?_ _ | refine blk_drew ?_ | refine blk_alloc ?_ _)); refine blk_far ?_ NB438_473.out _; (with_reducible repeat (first | refine blk_drewN ?_ _ | refine blk_drew ?_ | refine blk_alloc ?_ _)); refine blk_far ?_ NB438_473.out _; (with_reducible repeat (first | refine blk_drewN ?_ _ | refine blk_drew ?_ | refine blk_alloc ?_ _)); exact BK438.out⟩, ⟨by (with_reducible repeat (first | refine blk_drewN ?_ _ | refine blk_drew ?_ | refine blk_alloc ?_ _)); refine blk_far ?_ NB439_473.out _; (with_reducible repeat (first | refine blk_drewN ?_ _ | refine blk_drew ?_ | refine blk_alloc ?_ _)); refine blk_far ?_ NB439_473.out _; (with_reducible repeat (first | refine blk_drewN ?_ _ | refine blk_drew ?_ | refine blk_alloc ?_ _)); refine blk_far ?_ NB439_473.out _; (with_reducible repeat (first | refine blk_drewN ?_ _ | refine blk_drew ?_ | refine blk_alloc ?_ _)); exact BK439.out⟩, ⟨by (with_reducible repeat (first | refine blk_drewN ?_ _ | refine blk_drew ?_ | refine blk_alloc ?_ _)); refine blk_far ?_ NB440_473.out _; (with_reducible repeat (first | refine blk_drewN ?_ _ | refine blk_drew ?_ | refine blk_alloc ?_ _)); refine blk_far ?_ NB440_473.out _; (with_reducible repeat (first | refine blk_drewN ?_ _ | refine blk_drew ?_ | refine blk_alloc ?_ _)); refine blk_far ?_ NB440_473.out _; (with_reducible repeat (first | refine blk_drewN ?_ _ | refine blk_drew ?_ | refine blk_alloc ?_ _)); exact BK440.out⟩, ⟨by (with_reducible repeat (first | refine blk_drewN ?_ _ | refine blk_drew ?_ | refine blk_alloc ?_ _)); refine blk_far ?_ NB452_473.out _; (with_reducible repeat (first | refine blk_drewN ?_ _ | refine blk_drew ?_ | refine blk_alloc ?_ _)); refine blk_far ?_ NB452_473.out _; (with_reducible repeat (first | refine blk_drewN ?_ _ | refine blk_drew ?_ | refine blk_alloc ?_ _)); refine blk_far ?_ NB452_473.out _; (with_reducible repeat (first | refine blk_drewN ?_ _ | refine blk_drew ?_ | refine blk_alloc ?_ _)); exact BK452.out⟩, ⟨by (with_reducible repeat (first | refine blk_drewN ?_ _ | refine blk_drew ?_ | refine blk_alloc ?_ _)); refine blk_far ?_ NB463_473.out _; (with_reducible repeat (first | refine blk_drewN ?_ _ | refine blk_drew ?_ | refine blk_alloc ?_ _)); refine blk_far ?_ NB463_473.out _; (with_reducible repeat (first | refine blk_drewN ?_ _ | refine blk_drew ?_ | refine blk_alloc ?_ _)); refine blk_far ?_ NB463_473.out _; (with_reducible repeat (first | refine blk_drewN ?_ _ | refine blk_drew ?_ | refine blk_alloc ?_ _)); exact BK463.out⟩, ⟨by (with_reducible repeat (first | refine blk_drewN ?_ _ | refine blk_drew ?_ | refine blk_alloc ?_ _)); refine blk_far ?_ NB468_473.out _; (with_reducible repeat (first | refine blk_drewN ?_ _ | refine blk_drew ?_ | refine blk_alloc ?_ _)); refine blk_far ?_ NB468_473.out _; (with_reducible repeat (first | refine blk_drewN ?_ _ | refine blk_drew ?_ | refine blk_alloc ?_ _)); refine blk_far ?_ NB468_473.out _; (with_reducible repeat (first | refine blk_drewN ?_ _ | refine blk_drew ?_ | refine blk_alloc ?_ _)); exact BK468.out⟩, ⟨by (with_reducible repeat (first | refine blk_drewN ?_ _ | refine blk_drew ?_ | refine blk_alloc ?_ _)); refine blk_put (cs := #[.int .i64 t469, .int .i64 t470, .int .i64 0]) ?_ 2 _ rfl; (with_reducible repeat (first | refine blk_drewN ?_ _ | refine blk_drew ?_ | refine blk_alloc ?_ _)); refine blk_put (cs := #[.int .i64 t469, .int .i64 0, .int .i64 0]) ?_ 1 _ rfl; (with_reducible repeat (first | refine blk_drewN ?_ _ | refine blk_drew ?_ | refine blk_alloc ?_ _)); refine blk_put (cs := #[.int .i64 0, .int .i64 0, .int .i64 0]) ?_ 0 _ rfl; (with_reducible repeat (first | refine blk_drewN ?_ _ | refine blk_drew ?_ | refine blk_alloc ?_ _)); exact BK473.out⟩, ⟨by repeat (first | (with_reducible first | exact HB.out | apply below_alloc | apply pw_below_drewN | apply below_drew1 | refine below_set ?_ GE438.out | refine below_set ?_ GE439.out | refine below_set ?_ GE440.out | refine below_set ?_ GE452.out | refine below_set ?_ GE463.out | refine below_set ?_ GE468.out | refine below_set ?_ GE473.out) | exact HB.out)⟩⟩
         ·rw [if_neg c79] at H
          have c79b0 : (t467 == t472) = false := beq_eq_false_iff_ne.mpr c79
          have c79b1 : (t467 != t472) = true := bne_iff_ne.mpr c79
          have H' := Aside0.mk H
          clear H
          go_wp2
          go_meet
          case rel => exact ⟨_, (true), (by first | rfl | (simp; done) | (simp [*]; done)), H', ⟨by first | omega | exact Nat.le_refl _⟩, ⟨by (with_reducible repeat (first | refine blk_drewN ?_ _ | refine blk_drew ?_ | refine blk_alloc ?_ _)); refine blk_far ?_ NB438_473.out _; (with_reducible repeat (first | refine blk_drewN ?_ _ | refine blk_drew ?_ | refine blk_alloc ?_ _)); refine blk_far ?_ NB438_473.out _; (with_reducible repeat (first | refine blk_drewN ?_ _ | refine blk_drew ?_ | refine blk_alloc ?_ _)); refine blk_far ?_ NB438_473.out _; (with_reducible repeat (first | refine blk_drewN ?_ _ | refine blk_drew ?_ | refine blk_alloc ?_ _)); exact BK438.out⟩, ⟨by (with_reducible repeat (first | refine blk_drewN ?_ _ | refine blk_drew ?_ | refine blk_alloc ?_ _)); refine blk_far ?_ NB439_473.out _; (with_reducible repeat (first | refine blk_drewN ?_ _ | refine blk_drew ?_ | refine blk_alloc ?_ _)); refine blk_far ?_ NB439_473.out _; (with_reducible repeat (first | refine blk_drewN ?_ _ | refine blk_drew ?_ | refine blk_alloc ?_ _)); refine blk_far ?_ NB439_473.out _; (with_reducible repeat (first | refine blk_drewN ?_ _ | refine blk_drew ?_ | refine blk_alloc ?_ _)); exact BK439.out⟩, ⟨by (with_reducible repeat (first | refine blk_drewN ?_ _ | refine blk_drew ?_ | refine blk_alloc ?_ _)); refine blk_far ?_ NB440_473.out _; (with_reducible repeat (first | refine blk_drewN ?_ _ | refine blk_drew ?_ | refine blk_alloc ?_ _)); refine blk_far ?_ NB440_473.out _; (with_reducible repeat (first | refine blk_drewN ?_ _ | refine blk_drew ?_ | refine blk_alloc ?_ _)); refine blk_far ?_ NB440_473.out _; (with_reducible repeat (first | refine blk_drewN ?_ _ | refine blk_drew ?_ | refine blk_alloc ?_ _)); exact BK440.out⟩, ⟨by (with_reducible repeat (first | refine blk_drewN ?_ _ | refine blk_drew ?_ | refine blk_alloc ?_ _)); refine blk_far ?_ NB452_473.out _; (with_reducible repeat (first | refine blk_drewN ?_ _ | refine blk_drew ?_ | refine blk_alloc ?_ _)); refine blk_far ?_ NB452_473.out _; (with_reducible repeat (first | refine blk_drewN ?_ _ | refine blk_drew ?_ | refine blk_alloc ?_ _)); refine blk_far ?_ NB452_473.out _; (with_reducible repeat (first | refine blk_drewN ?_ _ | refine blk_drew ?_ | refine blk_alloc ?_ _)); exact BK452.out⟩, ⟨by (with_reducible repeat (first | refine blk_drewN ?_ _ | refine blk_drew ?_ | refine blk_alloc ?_ _)); refine blk_far ?_ NB463_473.out _; (with_reducible repeat (first | refine blk_drewN ?_ _ | refine blk_drew ?_ | refine blk_alloc ?_ _)); refine blk_far ?_ NB463_473.out _; (with_reducible repeat (first | refine blk_drewN ?_ _ | refine blk_drew ?_ | refine blk_alloc ?_ _)); refine blk_far ?_ NB463_473.out _; (with_reducible repeat (first | refine blk_drewN ?_ _ | refine blk_drew ?_ | refine blk_alloc ?_ _)); exact BK463.out⟩, ⟨by (with_reducible repeat (first | refine blk_drewN ?_ _ | refine blk_drew ?_ | refine blk_alloc ?_ _)); refine blk_far ?_ NB468_473.out _; (with_reducible repeat (first | refine blk_drewN ?_ _ | refine blk_drew ?_ | refine blk_alloc ?_ _)); refine blk_far ?_ NB468_473.out _; (with_reducible repeat (first | refine blk_drewN ?_ _ | refine blk_drew ?_ | refine blk_alloc ?_ _)); refine blk_far ?_ NB468_473.out _; (with_reducible repeat (first | refine blk_drewN ?_ _ | refine blk_drew ?_ | refine blk_alloc ?_ _)); exact BK468.out⟩, ⟨by (with_reducible repeat (first | refine blk_drewN ?_ _ | refine blk_drew ?_ | refine blk_alloc ?_ _)); refine blk_put (cs := #[.int .i64 t469, .int .i64 t470, .int .i64 0]) ?_ 2 _ rfl; (with_reducible repeat (first | refine blk_drewN ?_ _ | refine blk_drew ?_ | refine blk_alloc ?_ _)); refine blk_put (cs := #[.int .i64 t469, .int .i64 0, .int .i64 0]) ?_ 1 _ rfl; (with_reducible repeat (first | refine blk_drewN ?_ _ | refine blk_drew ?_ | refine blk_alloc ?_ _)); refine blk_put (cs := #[.int .i64 0, .int .i64 0, .int .i64 0]) ?_ 0 _ rfl; (with_reducible repeat (first | refine blk_drewN ?_ _ | refine blk_drew ?_ | refine blk_alloc ?_ _)); exact BK473.out⟩, ⟨by repeat (first | (with_reducible first | exact HB.out | apply below_alloc | apply pw_below_drewN | apply below_drew1 | refine below_set ?_ GE438.out | refine below_set ?_ GE439.out | refine below_set ?_ GE440.out | refine below_set ?_ GE452.out | refine below_set ?_ GE463.out | refine below_set ?_ GE468.out | refine below_set ?_ GE473.out) | exact HB.out)⟩⟩
        ·rw [if_neg c78] at H
         have c78b0 : (t453 == t455) = false := beq_eq_false_iff_ne.mpr c78
         have c78b1 : (t453 != t455) = true := bne_iff_ne.mpr c78
         have H' := Aside0.mk H
         clear H
         go_wp2
         go_meet
         case rel => exact ⟨_, (true), (by first | rfl | (simp; done) | (simp [*]; done)), H', ⟨by first | omega | exact Nat.le_refl _⟩, ⟨by (with_reducible repeat (first | refine blk_drewN ?_ _ | refine blk_drew ?_ | refine blk_alloc ?_ _)); refine blk_far ?_ NB438_473.out _; (with_reducible repeat (first | refine blk_drewN ?_ _ | refine blk_drew ?_ | refine blk_alloc ?_ _)); refine blk_far ?_ NB438_473.out _; (with_reducible repeat (first | refine blk_drewN ?_ _ | refine blk_drew ?_ | refine blk_alloc ?_ _)); refine blk_far ?_ NB438_473.out _; (with_reducible repeat (first | refine blk_drewN ?_ _ | refine blk_drew ?_ | refine blk_alloc ?_ _)); exact BK438.out⟩, ⟨by (with_reducible repeat (first | refine blk_drewN ?_ _ | refine blk_drew ?_ | refine blk_alloc ?_ _)); refine blk_far ?_ NB439_473.out _; (with_reducible repeat (first | refine blk_drewN ?_ _ | refine blk_drew ?_ | refine blk_alloc ?_ _)); refine blk_far ?_ NB439_473.out _; (with_reducible repeat (first | refine blk_drewN ?_ _ | refine blk_drew ?_ | refine blk_alloc ?_ _)); refine blk_far ?_ NB439_473.out _; (with_reducible repeat (first | refine blk_drewN ?_ _ | refine blk_drew ?_ | refine blk_alloc ?_ _)); exact BK439.out⟩, ⟨by (with_reducible repeat (first | refine blk_drewN ?_ _ | refine blk_drew ?_ | refine blk_alloc ?_ _)); refine blk_far ?_ NB440_473.out _; (with_reducible repeat (first | refine blk_drewN ?_ _ | refine blk_drew ?_ | refine blk_alloc ?_ _)); refine blk_far ?_ NB440_473.out _; (with_reducible repeat (first | refine blk_drewN ?_ _ | refine blk_drew ?_ | refine blk_alloc ?_ _)); refine blk_far ?_ NB440_473.out _; (with_reducible repeat (first | refine blk_drewN ?_ _ | refine blk_drew ?_ | refine blk_alloc ?_ _)); exact BK440.out⟩, ⟨by (with_reducible repeat (first | refine blk_drewN ?_ _ | refine blk_drew ?_ | refine blk_alloc ?_ _)); refine blk_far ?_ NB452_473.out _; (with_reducible repeat (first | refine blk_drewN ?_ _ | refine blk_drew ?_ | refine blk_alloc ?_ _)); refine blk_far ?_ NB452_473.out _; (with_reducible repeat (first | refine blk_drewN ?_ _ | refine blk_drew ?_ | refine blk_alloc ?_ _)); refine blk_far ?_ NB452_473.out _; (with_reducible repeat (first | refine blk_drewN ?_ _ | refine blk_drew ?_ | refine blk_alloc ?_ _)); exact BK452.out⟩, ⟨by (with_reducible repeat (first | refine blk_drewN ?_ _ | refine blk_drew ?_ | refine blk_alloc ?_ _)); refine blk_far ?_ NB463_473.out _; (with_reducible repeat (first | refine blk_drewN ?_ _ | refine blk_drew ?_ | refine blk_alloc ?_ _)); refine blk_far ?_ NB463_473.out _; (with_reducible repeat (first | refine blk_drewN ?_ _ | refine blk_drew ?_ | refine blk_alloc ?_ _)); refine blk_far ?_ NB463_473.out _; (with_reducible repeat (first | refine blk_drewN ?_ _ | refine blk_drew ?_ | refine blk_alloc ?_ _)); exact BK463.out⟩, ⟨by (with_reducible repeat (first | refine blk_drewN ?_ _ | refine blk_drew ?_ | refine blk_alloc ?_ _)); refine blk_far ?_ NB468_473.out _; (with_reducible repeat (first | refine blk_drewN ?_ _ | refine blk_drew ?_ | refine blk_alloc ?_ _)); refine blk_far ?_ NB468_473.out _; (with_reducible repeat (first | refine blk_drewN ?_ _ | refine blk_drew ?_ | refine blk_alloc ?_ _)); refine blk_far ?_ NB468_473.out _; (with_reducible repeat (first | refine blk_drewN ?_ _ | refine blk_drew ?_ | refine blk_alloc ?_ _)); exact BK468.out⟩, ⟨by (with_reducible repeat (first | refine blk_drewN ?_ _ | refine blk_drew ?_ | refine blk_alloc ?_ _)); refine blk_put (cs := #[.int .i64 t469, .int .i64 t470, .int .i64 0]) ?_ 2 _ rfl; (with_reducible repeat (first | refine blk_drewN ?_ _ | refine blk_drew ?_ | refine blk_alloc ?_ _)); refine blk_put (cs := #[.int .i64 t469, .int .i64 0, .int .i64 0]) ?_ 1 _ rfl; (with_reducible repeat (first | refine blk_drewN ?_ _ | refine blk_drew ?_ | refine blk_alloc ?_ _)); refine blk_put (cs := #[.int .i64 0, .int .i64 0, .int .i64 0]) ?_ 0 _ rfl; (with_reducible repeat (first | refine blk_drewN ?_ _ | refine blk_drew ?_ | refine blk_alloc ?_ _)); exact BK473.out⟩, ⟨by repeat (first | (with_reducible first | exact HB.out | apply below_alloc | apply pw_below_drewN | apply below_drew1 | refine below_set ?_ GE438.out | refine below_set ?_ GE439.out | refine below_set ?_ GE440.out | refine below_set ?_ GE452.out | refine below_set ?_ GE463.out | refine below_set ?_ GE468.out | refine below_set ?_ GE473.out) | exact HB.out)⟩⟩
       ·rw [if_neg c77] at H
        have c77b0 : (t454 == t456) = false := beq_eq_false_iff_ne.mpr c77
        have c77b1 : (t454 != t456) = true := bne_iff_ne.mpr c77
        have H' := Aside0.mk H
        clear H
        go_wp2
        go_meet
        case rel => exact ⟨_, (true), (by first | rfl | (simp; done) | (simp [*]; done)), H', ⟨by first | omega | exact Nat.le_refl _⟩, ⟨by (with_reducible repeat (first | refine blk_drewN ?_ _ | refine blk_drew ?_ | refine blk_alloc ?_ _)); refine blk_far ?_ NB438_473.out _; (with_reducible repeat (first | refine blk_drewN ?_ _ | refine blk_drew ?_ | refine blk_alloc ?_ _)); refine blk_far ?_ NB438_473.out _; (with_reducible repeat (first | refine blk_drewN ?_ _ | refine blk_drew ?_ | refine blk_alloc ?_ _)); refine blk_far ?_ NB438_473.out _; (with_reducible repeat (first | refine blk_drewN ?_ _ | refine blk_drew ?_ | refine blk_alloc ?_ _)); exact BK438.out⟩, ⟨by (with_reducible repeat (first | refine blk_drewN ?_ _ | refine blk_drew ?_ | refine blk_alloc ?_ _)); refine blk_far ?_ NB439_473.out _; (with_reducible repeat (first | refine blk_drewN ?_ _ | refine blk_drew ?_ | refine blk_alloc ?_ _)); refine blk_far ?_ NB439_473.out _; (with_reducible repeat (first | refine blk_drewN ?_ _ | refine blk_drew ?_ | refine blk_alloc ?_ _)); refine blk_far ?_ NB439_473.out _; (with_reducible repeat (first | refine blk_drewN ?_ _ | refine blk_drew ?_ | refine blk_alloc ?_ _)); exact BK439.out⟩, ⟨by (with_reducible repeat (first | refine blk_drewN ?_ _ | refine blk_drew ?_ | refine blk_alloc ?_ _)); refine blk_far ?_ NB440_473.out _; (with_reducible repeat (first | refine blk_drewN ?_ _ | refine blk_drew ?_ | refine blk_alloc ?_ _)); refine blk_far ?_ NB440_473.out _; (with_reducible repeat (first | refine blk_drewN ?_ _ | refine blk_drew ?_ | refine blk_alloc ?_ _)); refine blk_far ?_ NB440_473.out _; (with_reducible repeat (first | refine blk_drewN ?_ _ | refine blk_drew ?_ | refine blk_alloc ?_ _)); exact BK440.out⟩, ⟨by (with_reducible repeat (first | refine blk_drewN ?_ _ | refine blk_drew ?_ | refine blk_alloc ?_ _)); refine blk_far ?_ NB452_473.out _; (with_reducible repeat (first | refine blk_drewN ?_ _ | refine blk_drew ?_ | refine blk_alloc ?_ _)); refine blk_far ?_ NB452_473.out _; (with_reducible repeat (first | refine blk_drewN ?_ _ | refine blk_drew ?_ | refine blk_alloc ?_ _)); refine blk_far ?_ NB452_473.out _; (with_reducible repeat (first | refine blk_drewN ?_ _ | refine blk_drew ?_ | refine blk_alloc ?_ _)); exact BK452.out⟩, ⟨by (with_reducible repeat (first | refine blk_drewN ?_ _ | refine blk_drew ?_ | refine blk_alloc ?_ _)); refine blk_far ?_ NB463_473.out _; (with_reducible repeat (first | refine blk_drewN ?_ _ | refine blk_drew ?_ | refine blk_alloc ?_ _)); refine blk_far ?_ NB463_473.out _; (with_reducible repeat (first | refine blk_drewN ?_ _ | refine blk_drew ?_ | refine blk_alloc ?_ _)); refine blk_far ?_ NB463_473.out _; (with_reducible repeat (first | refine blk_drewN ?_ _ | refine blk_drew ?_ | refine blk_alloc ?_ _)); exact BK463.out⟩, ⟨by (with_reducible repeat (first | refine blk_drewN ?_ _ | refine blk_drew ?_ | refine blk_alloc ?_ _)); refine blk_far ?_ NB468_473.out _; (with_reducible repeat (first | refine blk_drewN ?_ _ | refine blk_drew ?_ | refine blk_alloc ?_ _)); refine blk_far ?_ NB468_473.out _; (with_reducible repeat (first | refine blk_drewN ?_ _ | refine blk_drew ?_ | refine blk_alloc ?_ _)); refine blk_far ?_ NB468_473.out _; (with_reducible repeat (first | refine blk_drewN ?_ _ | refine blk_drew ?_ | refine blk_alloc ?_ _)); exact BK468.out⟩, ⟨by (with_reducible repeat (first | refine blk_drewN ?_ _ | refine blk_drew ?_ | refine blk_alloc ?_ _)); refine blk_put (cs := #[.int .i64 t469, .int .i64 t470, .int .i64 0]) ?_ 2 _ rfl; (with_reducible repeat (first | refine blk_drewN ?_ _ | refine blk_drew ?_ | refine blk_alloc ?_ _)); refine blk_put (cs := #[.int .i64 t469, .int .i64 0, .int .i64 0]) ?_ 1 _ rfl; (with_reducible repeat (first | refine blk_drewN ?_ _ | refine blk_drew ?_ | refine blk_alloc ?_ _)); refine blk_put (cs := #[.int .i64 0, .int .i64 0, .int .i64 0]) ?_ 0 _ rfl; (with_reducible repeat (first | refine blk_drewN ?_ _ | refine blk_drew ?_ | refine blk_alloc ?_ _)); exact BK473.out⟩, ⟨by repeat (first | (with_reducible first | exact HB.out | apply below_alloc | apply pw_below_drewN | apply below_drew1 | refine below_set ?_ GE438.out | refine below_set ?_ GE439.out | refine below_set ?_ GE440.out | refine below_set ?_ GE452.out | refine below_set ?_ GE463.out | refine below_set ?_ GE468.out | refine below_set ?_ GE473.out) | exact HB.out)⟩⟩
      ·rw [if_neg c76] at H
       have c76b0 : (t445 == t447) = false := beq_eq_false_iff_ne.mpr c76
       have c76b1 : (t445 != t447) = true := bne_iff_ne.mpr c76
       have H' := Aside0.mk H
       clear H
       go_wp2
       go_meet
       case rel => exact ⟨_, (true), (by first | rfl | (simp; done) | (simp [*]; done)), H', ⟨by first | omega | exact Nat.le_refl _⟩, ⟨by (with_reducible repeat (first | refine blk_drewN ?_ _ | refine blk_drew ?_ | refine blk_alloc ?_ _)); refine blk_far ?_ NB438_473.out _; (with_reducible repeat (first | refine blk_drewN ?_ _ | refine blk_drew ?_ | refine blk_alloc ?_ _)); refine blk_far ?_ NB438_473.out _; (with_reducible repeat (first | refine blk_drewN ?_ _ | refine blk_drew ?_ | refine blk_alloc ?_ _)); refine blk_far ?_ NB438_473.out _; (with_reducible repeat (first | refine blk_drewN ?_ _ | refine blk_drew ?_ | refine blk_alloc ?_ _)); exact BK438.out⟩, ⟨by (with_reducible repeat (first | refine blk_drewN ?_ _ | refine blk_drew ?_ | refine blk_alloc ?_ _)); refine blk_far ?_ NB439_473.out _; (with_reducible repeat (first | refine blk_drewN ?_ _ | refine blk_drew ?_ | refine blk_alloc ?_ _)); refine blk_far ?_ NB439_473.out _; (with_reducible repeat (first | refine blk_drewN ?_ _ | refine blk_drew ?_ | refine blk_alloc ?_ _)); refine blk_far ?_ NB439_473.out _; (with_reducible repeat (first | refine blk_drewN ?_ _ | refine blk_drew ?_ | refine blk_alloc ?_ _)); exact BK439.out⟩, ⟨by (with_reducible repeat (first | refine blk_drewN ?_ _ | refine blk_drew ?_ | refine blk_alloc ?_ _)); refine blk_far ?_ NB440_473.out _; (with_reducible repeat (first | refine blk_drewN ?_ _ | refine blk_drew ?_ | refine blk_alloc ?_ _)); refine blk_far ?_ NB440_473.out _; (with_reducible repeat (first | refine blk_drewN ?_ _ | refine blk_drew ?_ | refine blk_alloc ?_ _)); refine blk_far ?_ NB440_473.out _; (with_reducible repeat (first | refine blk_drewN ?_ _ | refine blk_drew ?_ | refine blk_alloc ?_ _)); exact BK440.out⟩, ⟨by (with_reducible repeat (first | refine blk_drewN ?_ _ | refine blk_drew ?_ | refine blk_alloc ?_ _)); refine blk_far ?_ NB452_473.out _; (with_reducible repeat (first | refine blk_drewN ?_ _ | refine blk_drew ?_ | refine blk_alloc ?_ _)); refine blk_far ?_ NB452_473.out _; (with_reducible repeat (first | refine blk_drewN ?_ _ | refine blk_drew ?_ | refine blk_alloc ?_ _)); refine blk_far ?_ NB452_473.out _; (with_reducible repeat (first | refine blk_drewN ?_ _ | refine blk_drew ?_ | refine blk_alloc ?_ _)); exact BK452.out⟩, ⟨by (with_reducible repeat (first | refine blk_drewN ?_ _ | refine blk_drew ?_ | refine blk_alloc ?_ _)); refine blk_far ?_ NB463_473.out _; (with_reducible repeat (first | refine blk_drewN ?_ _ | refine blk_drew ?_ | refine blk_alloc ?_ _)); refine blk_far ?_ NB463_473.out _; (with_reducible repeat (first | refine blk_drewN ?_ _ | refine blk_drew ?_ | refine blk_alloc ?_ _)); refine blk_far ?_ NB463_473.out _; (with_reducible repeat (first | refine blk_drewN ?_ _ | refine blk_drew ?_ | refine blk_alloc ?_ _)); exact BK463.out⟩, ⟨by (with_reducible repeat (first | refine blk_drewN ?_ _ | refine blk_drew ?_ | refine blk_alloc ?_ _)); refine blk_far ?_ NB468_473.out _; (with_reducible repeat (first | refine blk_drewN ?_ _ | refine blk_drew ?_ | refine blk_alloc ?_ _)); refine blk_far ?_ NB468_473.out _; (with_reducible repeat (first | refine blk_drewN ?_ _ | refine blk_drew ?_ | refine blk_alloc ?_ _)); refine blk_far ?_ NB468_473.out _; (with_reducible repeat (first | refine blk_drewN ?_ _ | refine blk_drew ?_ | refine blk_alloc ?_ _)); exact BK468.out⟩, ⟨by (with_reducible repeat (first | refine blk_drewN ?_ _ | refine blk_drew ?_ | refine blk_alloc ?_ _)); refine blk_put (cs := #[.int .i64 t469, .int .i64 t470, .int .i64 0]) ?_ 2 _ rfl; (with_reducible repeat (first | refine blk_drewN ?_ _ | refine blk_drew ?_ | refine blk_alloc ?_ _)); refine blk_put (cs := #[.int .i64 t469, .int .i64 0, .int .i64 0]) ?_ 1 _ rfl; (with_reducible repeat (first | refine blk_drewN ?_ _ | refine blk_drew ?_ | refine blk_alloc ?_ _)); refine blk_put (cs := #[.int .i64 0, .int .i64 0, .int .i64 0]) ?_ 0 _ rfl; (with_reducible repeat (first | refine blk_drewN ?_ _ | refine blk_drew ?_ | refine blk_alloc ?_ _)); exact BK473.out⟩, ⟨by repeat (first | (with_reducible first | exact HB.out | apply below_alloc | apply pw_below_drewN | apply below_drew1 | refine below_set ?_ GE438.out | refine below_set ?_ GE439.out | refine below_set ?_ GE440.out | refine below_set ?_ GE452.out | refine below_set ?_ GE463.out | refine below_set ?_ GE468.out | refine below_set ?_ GE473.out) | exact HB.out)⟩⟩
     ·rw [if_neg c75] at H
      have c75b0 : (t446 == t448) = false := beq_eq_false_iff_ne.mpr c75
      have c75b1 : (t446 != t448) = true := bne_iff_ne.mpr c75
      have H' := Aside0.mk H
      clear H
      go_wp2
      go_meet
      case rel => exact ⟨_, (true), (by first | rfl | (simp; done) | (simp [*]; done)), H', ⟨by first | omega | exact Nat.le_refl _⟩, ⟨by (with_reducible repeat (first | refine blk_drewN ?_ _ | refine blk_drew ?_ | refine blk_alloc ?_ _)); refine blk_far ?_ NB438_473.out _; (with_reducible repeat (first | refine blk_drewN ?_ _ | refine blk_drew ?_ | refine blk_alloc ?_ _)); refine blk_far ?_ NB438_473.out _; (with_reducible repeat (first | refine blk_drewN ?_ _ | refine blk_drew ?_ | refine blk_alloc ?_ _)); refine blk_far ?_ NB438_473.out _; (with_reducible repeat (first | refine blk_drewN ?_ _ | refine blk_drew ?_ | refine blk_alloc ?_ _)); exact BK438.out⟩, ⟨by (with_reducible repeat (first | refine blk_drewN ?_ _ | refine blk_drew ?_ | refine blk_alloc ?_ _)); refine blk_far ?_ NB439_473.out _; (with_reducible repeat (first | refine blk_drewN ?_ _ | refine blk_drew ?_ | refine blk_alloc ?_ _)); refine blk_far ?_ NB439_473.out _; (with_reducible repeat (first | refine blk_drewN ?_ _ | refine blk_drew ?_ | refine blk_alloc ?_ _)); refine blk_far ?_ NB439_473.out _; (with_reducible repeat (first | refine blk_drewN ?_ _ | refine blk_drew ?_ | refine blk_alloc ?_ _)); exact BK439.out⟩, ⟨by (with_reducible repeat (first | refine blk_drewN ?_ _ | refine blk_drew ?_ | refine blk_alloc ?_ _)); refine blk_far ?_ NB440_473.out _; (with_reducible repeat (first | refine blk_drewN ?_ _ | refine blk_drew ?_ | refine blk_alloc ?_ _)); refine blk_far ?_ NB440_473.out _; (with_reducible repeat (first | refine blk_drewN ?_ _ | refine blk_drew ?_ | refine blk_alloc ?_ _)); refine blk_far ?_ NB440_473.out _; (with_reducible repeat (first | refine blk_drewN ?_ _ | refine blk_drew ?_ | refine blk_alloc ?_ _)); exact BK440.out⟩, ⟨by (with_reducible repeat (first | refine blk_drewN ?_ _ | refine blk_drew ?_ | refine blk_alloc ?_ _)); refine blk_far ?_ NB452_473.out _; (with_reducible repeat (first | refine blk_drewN ?_ _ | refine blk_drew ?_ | refine blk_alloc ?_ _)); refine blk_far ?_ NB452_473.out _; (with_reducible repeat (first | refine blk_drewN ?_ _ | refine blk_drew ?_ | refine blk_alloc ?_ _)); refine blk_far ?_ NB452_473.out _; (with_reducible repeat (first | refine blk_drewN ?_ _ | refine blk_drew ?_ | refine blk_alloc ?_ _)); exact BK452.out⟩, ⟨by (with_reducible repeat (first | refine blk_drewN ?_ _ | refine blk_drew ?_ | refine blk_alloc ?_ _)); refine blk_far ?_ NB463_473.out _; (with_reducible repeat (first | refine blk_drewN ?_ _ | refine blk_drew ?_ | refine blk_alloc ?_ _)); refine blk_far ?_ NB463_473.out _; (with_reducible repeat (first | refine blk_drewN ?_ _ | refine blk_drew ?_ | refine blk_alloc ?_ _)); refine blk_far ?_ NB463_473.out _; (with_reducible repeat (first | refine blk_drewN ?_ _ | refine blk_drew ?_ | refine blk_alloc ?_ _)); exact BK463.out⟩, ⟨by (with_reducible repeat (first | refine blk_drewN ?_ _ | refine blk_drew ?_ | refine blk_alloc ?_ _)); refine blk_far ?_ NB468_473.out _; (with_reducible repeat (first | refine blk_drewN ?_ _ | refine blk_drew ?_ | refine blk_alloc ?_ _)); refine blk_far ?_ NB468_473.out _; (with_reducible repeat (first | refine blk_drewN ?_ _ | refine blk_drew ?_ | refine blk_alloc ?_ _)); refine blk_far ?_ NB468_473.out _; (with_reducible repeat (first | refine blk_drewN ?_ _ | refine blk_drew ?_ | refine blk_alloc ?_ _)); exact BK468.out⟩, ⟨by (with_reducible repeat (first | refine blk_drewN ?_ _ | refine blk_drew ?_ | refine blk_alloc ?_ _)); refine blk_put (cs := #[.int .i64 t469, .int .i64 t470, .int .i64 0]) ?_ 2 _ rfl; (with_reducible repeat (first | refine blk_drewN ?_ _ | refine blk_drew ?_ | refine blk_alloc ?_ _)); refine blk_put (cs := #[.int .i64 t469, .int .i64 0, .int .i64 0]) ?_ 1 _ rfl; (with_reducible repeat (first | refine blk_drewN ?_ _ | refine blk_drew ?_ | refine blk_alloc ?_ _)); refine blk_put (cs := #[.int .i64 0, .int .i64 0, .int .i64 0]) ?_ 0 _ rfl; (with_reducible repeat (first | refine blk_drewN ?_ _ | refine blk_drew ?_ | refine blk_alloc ?_ _)); exact BK473.out⟩, ⟨by repeat (first | (with_reducible first | exact HB.out | apply below_alloc | apply pw_below_drewN | apply below_drew1 | refine below_set ?_ GE438.out | refine below_set ?_ GE439.out | refine below_set ?_ GE440.out | refine below_set ?_ GE452.out | refine below_set ?_ GE463.out | refine below_set ?_ GE468.out | refine below_set ?_ GE473.out) | exact HB.out)⟩⟩
    ·rw [if_neg c74] at H
     have c74b0 : (t441 == t443) = false := beq_eq_false_iff_ne.mpr c74
     have c74b1 : (t441 != t443) = true := bne_iff_ne.mpr c74
     have H' := Aside0.mk H
     clear H
     go_wp2
     go_meet
     case rel => exact ⟨_, (true), (by first | rfl | (simp; done) | (simp [*]; done)), H', ⟨by first | omega | exact Nat.le_refl _⟩, ⟨by (with_reducible repeat (first | refine blk_drewN ?_ _ | refine blk_drew ?_ | refine blk_alloc ?_ _)); refine blk_far ?_ NB438_473.out _; (with_reducible repeat (first | refine blk_drewN ?_ _ | refine blk_drew ?_ | refine blk_alloc ?_ _)); refine blk_far ?_ NB438_473.out _; (with_reducible repeat (first | refine blk_drewN ?_ _ | refine blk_drew ?_ | refine blk_alloc ?_ _)); refine blk_far ?_ NB438_473.out _; (with_reducible repeat (first | refine blk_drewN ?_ _ | refine blk_drew ?_ | refine blk_alloc ?_ _)); exact BK438.out⟩, ⟨by (with_reducible repeat (first | refine blk_drewN ?_ _ | refine blk_drew ?_ | refine blk_alloc ?_ _)); refine blk_far ?_ NB439_473.out _; (with_reducible repeat (first | refine blk_drewN ?_ _ | refine blk_drew ?_ | refine blk_alloc ?_ _)); refine blk_far ?_ NB439_473.out _; (with_reducible repeat (first | refine blk_drewN ?_ _ | refine blk_drew ?_ | refine blk_alloc ?_ _)); refine blk_far ?_ NB439_473.out _; (with_reducible repeat (first | refine blk_drewN ?_ _ | refine blk_drew ?_ | refine blk_alloc ?_ _)); exact BK439.out⟩, ⟨by (with_reducible repeat (first | refine blk_drewN ?_ _ | refine blk_drew ?_ | refine blk_alloc ?_ _)); refine blk_far ?_ NB440_473.out _; (with_reducible repeat (first | refine blk_drewN ?_ _ | refine blk_drew ?_ | refine blk_alloc ?_ _)); refine blk_far ?_ NB440_473.out _; (with_reducible repeat (first | refine blk_drewN ?_ _ | refine blk_drew ?_ | refine blk_alloc ?_ _)); refine blk_far ?_ NB440_473.out _; (with_reducible repeat (first | refine blk_drewN ?_ _ | refine blk_drew ?_ | refine blk_alloc ?_ _)); exact BK440.out⟩, ⟨by (with_reducible repeat (first | refine blk_drewN ?_ _ | refine blk_drew ?_ | refine blk_alloc ?_ _)); refine blk_far ?_ NB452_473.out _; (with_reducible repeat (first | refine blk_drewN ?_ _ | refine blk_drew ?_ | refine blk_alloc ?_ _)); refine blk_far ?_ NB452_473.out _; (with_reducible repeat (first | refine blk_drewN ?_ _ | refine blk_drew ?_ | refine blk_alloc ?_ _)); refine blk_far ?_ NB452_473.out _; (with_reducible repeat (first | refine blk_drewN ?_ _ | refine blk_drew ?_ | refine blk_alloc ?_ _)); exact BK452.out⟩, ⟨by (with_reducible repeat (first | refine blk_drewN ?_ _ | refine blk_drew ?_ | refine blk_alloc ?_ _)); refine blk_far ?_ NB463_473.out _; (with_reducible repeat (first | refine blk_drewN ?_ _ | refine blk_drew ?_ | refine blk_alloc ?_ _)); refine blk_far ?_ NB463_473.out _; (with_reducible repeat (first | refine blk_drewN ?_ _ | refine blk_drew ?_ | refine blk_alloc ?_ _)); refine blk_far ?_ NB463_473.out _; (with_reducible repeat (first | refine blk_drewN ?_ _ | refine blk_drew ?_ | refine blk_alloc ?_ _)); exact BK463.out⟩, ⟨by (with_reducible repeat (first | refine blk_drewN ?_ _ | refine blk_drew ?_ | refine blk_alloc ?_ _)); refine blk_far ?_ NB468_473.out _; (with_reducible repeat (first | refine blk_drewN ?_ _ | refine blk_drew ?_ | refine blk_alloc ?_ _)); refine blk_far ?_ NB468_473.out _; (with_reducible repeat (first | refine blk_drewN ?_ _ | refine blk_drew ?_ | refine blk_alloc ?_ _)); refine blk_far ?_ NB468_473.out _; (with_reducible repeat (first | refine blk_drewN ?_ _ | refine blk_drew ?_ | refine blk_alloc ?_ _)); exact BK468.out⟩, ⟨by (with_reducible repeat (first | refine blk_drewN ?_ _ | refine blk_drew ?_ | refine blk_alloc ?_ _)); refine blk_put (cs := #[.int .i64 t469, .int .i64 t470, .int .i64 0]) ?_ 2 _ rfl; (with_reducible repeat (first | refine blk_drewN ?_ _ | refine blk_drew ?_ | refine blk_alloc ?_ _)); refine blk_put (cs := #[.int .i64 t469, .int .i64 0, .int .i64 0]) ?_ 1 _ rfl; (with_reducible repeat (first | refine blk_drewN ?_ _ | refine blk_drew ?_ | refine blk_alloc ?_ _)); refine blk_put (cs := #[.int .i64 0, .int .i64 0, .int .i64 0]) ?_ 0 _ rfl; (with_reducible repeat (first | refine blk_drewN ?_ _ | refine blk_drew ?_ | refine blk_alloc ?_ _)); exact BK473.out⟩, ⟨by repeat (first | (with_reducible first | exact HB.out | apply below_alloc | apply pw_below_drewN | apply below_drew1 | refine below_set ?_ GE438.out | refine below_set ?_ GE439.out | refine below_set ?_ GE440.out | refine below_set ?_ GE452.out | refine below_set ?_ GE463.out | refine below_set ?_ GE468.out | refine below_set ?_ GE473.out) | exact HB.out)⟩⟩
   ·rw [if_neg c73] at H
    have c73b0 : (t442 == t444) = false := beq_eq_false_iff_ne.mpr c73
    have c73b1 : (t442 != t444) = true := bne_iff_ne.mpr c73
    (first | rw [c73b0] | (simp only [i64_w, i32_w]; rw [c73b0]) | skip)
    have H' := Aside0.mk H
    clear H
    go_wp2
    go_meet
    case rel => exact ⟨_, (true), (by first | rfl | (simp; done) | (simp [*]; done)), H', ⟨by first | omega | exact Nat.le_refl _⟩, ⟨by (with_reducible repeat (first | refine blk_drewN ?_ _ | refine blk_drew ?_ | refine blk_alloc ?_ _)); refine blk_far ?_ NB438_473.out _; (with_reducible repeat (first | refine blk_drewN ?_ _ | refine blk_drew ?_ | refine blk_alloc ?_ _)); refine blk_far ?_ NB438_473.out _; (with_reducible repeat (first | refine blk_drewN ?_ _ | refine blk_drew ?_ | refine blk_alloc ?_ _)); refine blk_far ?_ NB438_473.out _; (with_reducible repeat (first | refine blk_drewN ?_ _ | refine blk_drew ?_ | refine blk_alloc ?_ _)); exact BK438.out⟩, ⟨by (with_reducible repeat (first | refine blk_drewN ?_ _ | refine blk_drew ?_ | refine blk_alloc ?_ _)); refine blk_far ?_ NB439_473.out _; (with_reducible repeat (first | refine blk_drewN ?_ _ | refine blk_drew ?_ | refine blk_alloc ?_ _)); refine blk_far ?_ NB439_473.out _; (with_reducible repeat (first | refine blk_drewN ?_ _ | refine blk_drew ?_ | refine blk_alloc ?_ _)); refine blk_far ?_ NB439_473.out _; (with_reducible repeat (first | refine blk_drewN ?_ _ | refine blk_drew ?_ | refine blk_alloc ?_ _)); exact BK439.out⟩, ⟨by (with_reducible repeat (first | refine blk_drewN ?_ _ | refine blk_drew ?_ | refine blk_alloc ?_ _)); refine blk_far ?_ NB440_473.out _; (with_reducible repeat (first | refine blk_drewN ?_ _ | refine blk_drew ?_ | refine blk_alloc ?_ _)); refine blk_far ?_ NB440_473.out _; (with_reducible repeat (first | refine blk_drewN ?_ _ | refine blk_drew ?_ | refine blk_alloc ?_ _)); refine blk_far ?_ NB440_473.out _; (with_reducible repeat (first | refine blk_drewN ?_ _ | refine blk_drew ?_ | refine blk_alloc ?_ _)); exact BK440.out⟩, ⟨by (with_reducible repeat (first | refine blk_drewN ?_ _ | refine blk_drew ?_ | refine blk_alloc ?_ _)); refine blk_far ?_ NB452_473.out _; (with_reducible repeat (first | refine blk_drewN ?_ _ | refine blk_drew ?_ | refine blk_alloc ?_ _)); refine blk_far ?_ NB452_473.out _; (with_reducible repeat (first | refine blk_drewN ?_ _ | refine blk_drew ?_ | refine blk_alloc ?_ _)); refine blk_far ?_ NB452_473.out _; (with_reducible repeat (first | refine blk_drewN ?_ _ | refine blk_drew ?_ | refine blk_alloc ?_ _)); exact BK452.out⟩, ⟨by (with_reducible repeat (first | refine blk_drewN ?_ _ | refine blk_drew ?_ | refine blk_alloc ?_ _)); refine blk_far ?_ NB463_473.out _; (with_reducible repeat (first | refine blk_drewN ?_ _ | refine blk_drew ?_ | refine blk_alloc ?_ _)); refine blk_far ?_ NB463_473.out _; (with_reducible repeat (first | refine blk_drewN ?_ _ | refine blk_drew ?_ | refine blk_alloc ?_ _)); refine blk_far ?_ NB463_473.out _; (with_reducible repeat (first | refine blk_drewN ?_ _ | refine blk_drew ?_ | refine blk_alloc ?_ _)); exact BK463.out⟩, ⟨by (with_reducible repeat (first | refine blk_drewN ?_ _ | refine blk_drew ?_ | refine blk_alloc ?_ _)); refine blk_far ?_ NB468_473.out _; (with_reducible repeat (first | refine blk_drewN ?_ _ | refine blk_drew ?_ | refine blk_alloc ?_ _)); refine blk_far ?_ NB468_473.out _; (with_reducible repeat (first | refine blk_drewN ?_ _ | refine blk_drew ?_ | refine blk_alloc ?_ _)); refine blk_far ?_ NB468_473.out _; (with_reducible repeat (first | refine blk_drewN ?_ _ | refine blk_drew ?_ | refine blk_alloc ?_ _)); exact BK468.out⟩, ⟨by (with_reducible repeat (first | refine blk_drewN ?_ _ | refine blk_drew ?_ | refine blk_alloc ?_ _)); refine blk_put (cs := #[.int .i64 t469, .int .i64 t470, .int .i64 0]) ?_ 2 _ rfl; (with_reducible repeat (first | refine blk_drewN ?_ _ | refine blk_drew ?_ | refine blk_alloc ?_ _)); refine blk_put (cs := #[.int .i64 t469, .int .i64 0, .int .i64 0]) ?_ 1 _ rfl; (with_reducible repeat (first | refine blk_drewN ?_ _ | refine blk_drew ?_ | refine blk_alloc ?_ _)); refine blk_put (cs := #[.int .i64 0, .int .i64 0, .int .i64 0]) ?_ 0 _ rfl; (with_reducible repeat (first | refine blk_drewN ?_ _ | refine blk_drew ?_ | refine blk_alloc ?_ _)); exact BK473.out⟩, ⟨by repeat (first | (with_reducible first | exact HB.out | apply below_alloc | apply pw_below_drewN | apply below_drew1 | refine below_set ?_ GE438.out | refine below_set ?_ GE439.out | refine below_set ?_ GE440.out | refine below_set ?_ GE452.out | refine below_set ?_ GE463.out | refine below_set ?_ GE468.out | refine below_set ?_ GE473.out) | exact HB.out)⟩⟩
  case rest =>
   clear HC15
   try clear c1
   try clear c2
   try clear p2
   try clear c3
   try clear c4
   try clear c5
   try clear c6
   try clear c7
   try clear c8
   try clear c9
   try clear c10
   try clear c15
   try clear c17
   try clear c20
   try clear c21
   try clear c22
   try clear c23
   try clear c24
   try clear c25
   try clear c26
   try clear c27
   try clear c34
   try clear c35
   try clear c36
   try clear c37
   try clear c38
   try clear c41
   try clear c42
   try clear c43
   try clear c50
   try clear c51
   try clear c52
   try clear c53
   try clear c57
   try clear c58
   try clear c59
   try clear c60
   try clear c61
   try clear c66
   try clear c67
   try clear c68
   try clear c69
   try clear c70
   try clear c71
   try clear c73
   try clear c73b0
   try clear c73b1
   try clear c74
   try clear c74b0
   try clear c74b1
   try clear c75
   try clear c75b0
   try clear c75b1
   try clear c76
   try clear c76b0
   try clear c76b1
   try clear c77
   try clear c77b0
   try clear c77b1
   try clear c78
   try clear c78b0
   try clear c78b1
   try clear c79
   try clear c79b0
   try clear c79b1
   try clear c80
   try clear c80b0
   try clear c81
   try clear c82
   try clear c83
   try clear c84
   try clear c85
   try clear c86
   try clear c88
   try clear c89
   try clear c90
   try clear c91
   try clear c92
   try clear c94
   try clear c95
   try clear c96
   try clear c97
   try clear c98
   try clear c99
   try clear c101
   try clear c102
   try clear c103
   try clear c104
   try clear c105
   try clear hcz100_0
   try clear hcz100_1
   try clear hcz100_2
   try clear hcz106_0
   try clear hcz106_1
   try clear hcz106_2
   try clear hcz22_0
   try clear hcz22_1
   try clear hcz22_2
   try clear hcz24_0
   try clear hcz24_1
   try clear hcz24_2
   try clear hcz24_3
   try clear hcz25_0
   try clear hcz25_1
   try clear hcz27_0
   try clear hcz27_1
   try clear hcz27_2
   try clear hcz28_0
   try clear hcz28_1
   try clear hcz28_2
   try clear hcz28_3
   try clear hcz29_0
   try clear hcz29_1
   try clear hcz31_0
   try clear hcz31_1
   try clear hcz31_2
   try clear hcz32_0
   try clear hcz32_1
   try clear hcz32_2
   try clear hcz32_3
   try clear hcz33_0
   try clear hcz33_1
   try clear hcz35_0
   try clear hcz35_1
   try clear hcz35_2
   try clear hcz36_0
   try clear hcz36_1
   try clear hcz36_2
   try clear hcz36_3
   try clear hcz37_0
   try clear hcz37_1
   try clear hcz44_0
   try clear hcz44_1
   try clear hcz44_2
   try clear hcz46_0
   try clear hcz46_1
   try clear hcz46_2
   try clear hcz54_0
   try clear hcz54_1
   try clear hcz54_2
   try clear hcz54_3
   try clear hcz62_0
   try clear hcz62_1
   try clear hcz62_2
   try clear hcz63_0
   try clear hcz63_1
   try clear hcz63_2
   try clear hcz63_3
   try clear hcz72_0
   try clear hcz72_1
   try clear hcz72_2
   try clear hcz87_0
   try clear hcz87_1
   try clear hcz87_2
   try clear hcz93_0
   try clear hcz93_1
   try clear hcz93_2
   try clear hfz100_0
   try clear hfz100_1
   try clear hfz100_2
   try clear hfz106_0
   try clear hfz106_1
   try clear hfz106_2
   try clear hfz22_0
   try clear hfz22_1
   try clear hfz22_2
   try clear hfz24_0
   try clear hfz24_1
   try clear hfz24_2
   try clear hfz24_3
   try clear hfz25_0
   try clear hfz25_1
   try clear hfz27_0
   try clear hfz27_1
   try clear hfz27_2
   try clear hfz28_0
   try clear hfz28_1
   try clear hfz28_2
   try clear hfz28_3
   try clear hfz29_0
   try clear hfz29_1
   try clear hfz31_0
   try clear hfz31_1
   try clear hfz31_2
   try clear hfz32_0
   try clear hfz32_1
   try clear hfz32_2
   try clear hfz32_3
   try clear hfz33_0
   try clear hfz33_1
   try clear hfz35_0
   try clear hfz35_1
   try clear hfz35_2
   try clear hfz36_0
   try clear hfz36_1
   try clear hfz36_2
   try clear hfz36_3
   try clear hfz37_0
   try clear hfz37_1
   try clear hfz44_0
   try clear hfz44_1
   try clear hfz44_2
   try clear hfz46_0
   try clear hfz46_1
   try clear hfz46_2
   try clear hfz54_0
   try clear hfz54_1
   try clear hfz54_2
   try clear hfz54_3
   try clear hfz62_0
   try clear hfz62_1
   try clear hfz62_2
   try clear hfz63_0
   try clear hfz63_1
   try clear hfz63_2
   try clear hfz63_3
   try clear hfz72_0
   try clear hfz72_1
   try clear hfz72_2
   try clear hfz87_0
   try clear hfz87_1
   try clear hfz87_2
   try clear hfz93_0
   try clear hfz93_1
   try clear hfz93_2
   obtain ⟨kq, x140_14, rfl, HA, HJ14, BK438, BK439, BK440, BK452, BK463, BK468, BK473, HB⟩ := hcut
   cases kq with
   | zero => exact absurd HA.out (by simp [laws_FnBoards.j0])
   | succ kj14 =>
    have H := HA.out
    clear HA
    simp only [laws_FnBoards.j0] at H
    by_cases c107 : x140_14 = true
    ·subst c107
     have H1 : (some false) = some r := by rw [if_pos rfl] at H; exact H
     clear H
     have H := H1
     clear H1
     exact absurd ((Option.some.inj H).trans hr_.out) (by decide)
    ·replace c107 := Bool.eq_false_iff.mpr c107
     subst c107
     have H1 : (if t467 = 0 then ((impl_SpineWidth.f t461 t462 0).bind fun bt474 => (if bt474.2 = 0 then (if t466 = bt474.1 then (if t464 = t457 then (laws_FnBoards.j1 kj14 t441 t442 t445 (t465 != t458) t429 t430 t431 t432 t433 t434 t435 t436 t437) else (laws_FnBoards.j1 kj14 t441 t442 t445 true t429 t430 t431 t432 t433 t434 t435 t436 t437)) else (laws_FnBoards.j1 kj14 t441 t442 t445 true t429 t430 t431 t432 t433 t434 t435 t436 t437)) else (laws_FnBoards.j1 kj14 t441 t442 t445 true t429 t430 t431 t432 t433 t434 t435 t436 t437))) else (if t442 = 0 then ((impl_CaseOf.f t429 t430 t431 t432 t433 t434 t435).bind fun bt483 => (if bt483.2.2.2.2.2 = 0 then (if (wrap64 ((wrap64 (t441 * bt483.1)) * bt483.2.1)) ≤ (wrap64 (t436 * t437)) then (some (decide ((wrap64 ((wrap64 (t445 * bt483.2.2.2.1)) * bt483.2.2.2.2.1)) ≤ (wrap64 (t436 * t437))))) else (some false)) else (some false))) else (some true))) = some r := by rw [if_neg (show ¬ (false = true) by decide)] at H; exact H
     clear H
     have H := H1
     clear H1
     by_cases c108 : t467 = 0
     ·rw [if_pos c108] at H
      have c108b0 : (t467 == 0) = true := beq_iff_eq.mpr c108
      have c108b1 : (t467 != 0) = false := bne_eq_false_iff_eq.mpr c108
      clear c108
      replace H := Option.bind_eq_some_iff.mp H
      obtain ⟨⟨t474, t475⟩, A1090, H⟩ := H
      replace H : (if t475 = 0 then (if t466 = t474 then (if t464 = t457 then (laws_FnBoards.j1 kj14 t441 t442 t445 (t465 != t458) t429 t430 t431 t432 t433 t434 t435 t436 t437) else (laws_FnBoards.j1 kj14 t441 t442 t445 true t429 t430 t431 t432 t433 t434 t435 t436 t437)) else (laws_FnBoards.j1 kj14 t441 t442 t445 true t429 t430 t431 t432 t433 t434 t435 t436 t437)) else (laws_FnBoards.j1 kj14 t441 t442 t445 true t429 t430 t431 t432 t433 t434 t435 t436 t437)) = some r := H
      have A109 := Aside0.mk A1090
      clear A1090
      have HC110 := Aside0.mk H
      clear H
      go_upto_region 18 with (first | ((with_reducible refine gate_callee (f := 39) rfl ?_); refine goesL_ (some 146) rfl rfl Try.func39 (by kernel_rfl) rfl #[.int .i64 t461, .int .i64 t462, .int .i64 0] rfl (by (try simp only [List.map_toArray, List.map_cons, List.map_nil]); first | done | rfl | (simp only [List.length_drop, List.length_take]; rfl)) ?_; (with_reducible refine (impl_SpineWidth.calls t461 t462 0 t474 t475 _ A109.out).mono ?_); rintro e w' ⟨rfl, ⟨nd, rfl⟩⟩; refine ⟨_, rfl, ?_⟩))
      (try simp only [Act.put, List.setIfInBounds_toArray, List.set_cons_zero, List.set_cons_succ])
      go_cut [170] (fun v170 wc => ∃ (kq : Nat) (x170_109 : Bool), v170 = .bool x170_109 ∧ Aside0 (laws_FnBoards.j1 kq t441 t442 t445 x170_109 t429 t430 t431 t432 t433 t434 t435 t436 t437 = some r) ∧ Aside0 (kq ≤ kj14) ∧ Aside0 (wc.heap[gb438]? = some (.cells #[.int .i64 t429, .int .i64 t430, .int .i64 t431] 30 (0, 0))) ∧ Aside0 (wc.heap[gb439]? = some (.cells #[.int .i64 t432, .int .i64 t433, .int .i64 t434, .int .i64 t435] 32 (0, 0))) ∧ Aside0 (wc.heap[gb440]? = some (.cells #[.int .i64 t436, .int .i64 t437] 52 (0, 0))) ∧ Aside0 (wc.heap[gb452]? = some (.cells #[.int .i64 t449, .int .i64 t450, .int .i64 t451] 30 (0, 0))) ∧ Aside0 (wc.heap[gb463]? = some (.cells #[.int .i64 t457, .int .i64 t458, .int .i64 t459, .int .i64 t460] 40 (0, 0))) ∧ Aside0 (wc.heap[gb468]? = some (.cells #[.int .i64 t464, .int .i64 t465, .int .i64 t466] 30 (0, 0))) ∧ Aside0 (wc.heap[gb473]? = some (.cells #[.int .i64 t469, .int .i64 t470, .int .i64 t471] 30 (0, 0))) ∧ Aside0 (Below w.heap.size w wc))
      case first =>
       have H := HC110.out
       clear HC110
       by_cases c111 : t475 = 0
       ·rw [if_pos c111] at H
        have c111b0 : (t475 == 0) = true := beq_iff_eq.mpr c111
        have c111b1 : (t475 != 0) = false := bne_eq_false_iff_eq.mpr c111
        clear c111
        (first | rw [c111b0] | (simp only [i64_w, i32_w]; rw [c111b0]) | skip)
        by_cases c112 : t466 = t474
        ·rw [if_pos c112] at H
         have c112b0 : (t466 == t474) = true := beq_iff_eq.mpr c112
         have c112b1 : (t466 != t474) = false := bne_eq_false_iff_eq.mpr c112
         clear c112
         by_cases c113 : t464 = t457
         ·rw [if_pos c113] at H
          have c113b0 : (t464 == t457) = true := beq_iff_eq.mpr c113
          have c113b1 : (t464 != t457) = false := bne_eq_false_iff_eq.mpr c113
          clear c113
          have H' := Aside0.mk H
          clear H
          have hnb114 := NB468_438.out
          have hnc114 := NB438_468.out
          have hnb115 := NB468_439.out
          have hnc115 := NB439_468.out
          have hnb116 := NB468_440.out
          have hnc116 := NB440_468.out
          have hnb117 := NB468_452.out
          have hnc117 := NB452_468.out
          have hnb118 := NB468_463.out
          have hnc118 := NB463_468.out
          have hnb119 := NB468_473.out
          have hnc119 := NB473_468.out
          have hcz120_0 : wc.cell? ⟨gb468, 0, none⟩ = some (.int .i64 t464) := (blk_cell BK468.out 0).trans rfl
          have hcz120_1 : wc.cell? ⟨gb468, 1, none⟩ = some (.int .i64 t465) := (blk_cell BK468.out 1).trans rfl
          have hcz120_2 : wc.cell? ⟨gb468, 2, none⟩ = some (.int .i64 t466) := (blk_cell BK468.out 2).trans rfl
          have hfz120_0 := blk_frozen BK468.out 0
          have hfz120_1 := blk_frozen BK468.out 1
          have hfz120_2 := blk_frozen BK468.out 2
          have hnb121 := NB463_438.out
          have hnc121 := NB438_463.out
          have hnb122 := NB463_439.out
          have hnc122 := NB439_463.out
          have hnb123 := NB463_440.out
          have hnc123 := NB440_463.out
          have hnb124 := NB463_452.out
          have hnc124 := NB452_463.out
          have hnb125 := NB463_473.out
          have hnc125 := NB473_463.out
          have hcz126_0 : wc.cell? ⟨gb463, 0, none⟩ = some (.int .i64 t457) := (blk_cell BK463.out 0).trans rfl
          have hcz126_1 : wc.cell? ⟨gb463, 1, none⟩ = some (.int .i64 t458) := (blk_cell BK463.out 1).trans rfl
          have hcz126_2 : wc.cell? ⟨gb463, 2, none⟩ = some (.int .i64 t459) := (blk_cell BK463.out 2).trans rfl
          have hcz126_3 : wc.cell? ⟨gb463, 3, none⟩ = some (.int .i64 t460) := (blk_cell BK463.out 3).trans rfl
          have hfz126_0 := blk_frozen BK463.out 0
          have hfz126_1 := blk_frozen BK463.out 1
          have hfz126_2 := blk_frozen BK463.out 2
          have hfz126_3 := blk_frozen BK463.out 3
          go_wp2
          go_meet
          case rel => exact ⟨_, ((t465 != t458)), (by first | rfl | (simp; done) | (simp [*]; done)), H', ⟨by have := HJ14.out; first | omega | exact Nat.le_refl _⟩, ⟨by (with_reducible repeat (first | refine blk_drewN ?_ _ | refine blk_drew ?_ | refine blk_alloc ?_ _)); exact BK438.out⟩, ⟨by (with_reducible repeat (first | refine blk_drewN ?_ _ | refine blk_drew ?_ | refine blk_alloc ?_ _)); exact BK439.out⟩, ⟨by (with_reducible repeat (first | refine blk_drewN ?_ _ | refine blk_drew ?_ | refine blk_alloc ?_ _)); exact BK440.out⟩, ⟨by (with_reducible repeat (first | refine blk_drewN ?_ _ | refine blk_drew ?_ | refine blk_alloc ?_ _)); exact BK452.out⟩, ⟨by (with_reducible repeat (first | refine blk_drewN ?_ _ | refine blk_drew ?_ | refine blk_alloc ?_ _)); exact BK463.out⟩, ⟨by (with_reducible repeat (first | refine blk_drewN ?_ _ | refine blk_drew ?_ | refine blk_alloc ?_ _)); exact BK468.out⟩, ⟨by (with_reducible repeat (first | refine blk_drewN ?_ _ | refine blk_drew ?_ | refine blk_alloc ?_ _)); exact BK473.out⟩, ⟨by repeat (first | (with_reducible first | exact HB.out | apply below_alloc | apply pw_below_drewN | apply below_drew1 | refine below_set ?_ GE438.out | refine below_set ?_ GE439.out | refine below_set ?_ GE440.out | refine below_set ?_ GE452.out | refine below_set ?_ GE463.out | refine below_set ?_ GE468.out | refine below_set ?_ GE473.out) | exact HB.out)⟩⟩
         ·rw [if_neg c113] at H
          have c113b0 : (t464 == t457) = false := beq_eq_false_iff_ne.mpr c113
          have c113b1 : (t464 != t457) = true := bne_iff_ne.mpr c113
          have H' := Aside0.mk H
          clear H
          have hnb127 := NB468_438.out
          have hnc127 := NB438_468.out
          have hnb128 := NB468_439.out
          have hnc128 := NB439_468.out
          have hnb129 := NB468_440.out
          have hnc129 := NB440_468.out
          have hnb130 := NB468_452.out
          have hnc130 := NB452_468.out
          have hnb131 := NB468_463.out
          have hnc131 := NB463_468.out
          have hnb132 := NB468_473.out
          have hnc132 := NB473_468.out
          have hcz133_0 : wc.cell? ⟨gb468, 0, none⟩ = some (.int .i64 t464) := (blk_cell BK468.out 0).trans rfl
          have hcz133_1 : wc.cell? ⟨gb468, 1, none⟩ = some (.int .i64 t465) := (blk_cell BK468.out 1).trans rfl
          have hcz133_2 : wc.cell? ⟨gb468, 2, none⟩ = some (.int .i64 t466) := (blk_cell BK468.out 2).trans rfl
          have hfz133_0 := blk_frozen BK468.out 0
          have hfz133_1 := blk_frozen BK468.out 1
          have hfz133_2 := blk_frozen BK468.out 2
          have hnb134 := NB463_438.out
          have hnc134 := NB438_463.out
          have hnb135 := NB463_439.out
          have hnc135 := NB439_463.out
          have hnb136 := NB463_440.out
          have hnc136 := NB440_463.out
          have hnb137 := NB463_452.out
          have hnc137 := NB452_463.out
          have hnb138 := NB463_473.out
          have hnc138 := NB473_463.out
          have hcz139_0 : wc.cell? ⟨gb463, 0, none⟩ = some (.int .i64 t457) := (blk_cell BK463.out 0).trans rfl
          have hcz139_1 : wc.cell? ⟨gb463, 1, none⟩ = some (.int .i64 t458) := (blk_cell BK463.out 1).trans rfl
          have hcz139_2 : wc.cell? ⟨gb463, 2, none⟩ = some (.int .i64 t459) := (blk_cell BK463.out 2).trans rfl
          have hcz139_3 : wc.cell? ⟨gb463, 3, none⟩ = some (.int .i64 t460) := (blk_cell BK463.out 3).trans rfl
          have hfz139_0 := blk_frozen BK463.out 0
          have hfz139_1 := blk_frozen BK463.out 1
          have hfz139_2 := blk_frozen BK463.out 2
          have hfz139_3 := blk_frozen BK463.out 3
          go_wp2
          go_meet
          case rel => exact ⟨_, (true), (by first | rfl | (simp; done) | (simp [*]; done)), H', ⟨by have := HJ14.out; first | omega | exact Nat.le_refl _⟩, ⟨by (with_reducible repeat (first | refine blk_drewN ?_ _ | refine blk_drew ?_ | refine blk_alloc ?_ _)); exact BK438.out⟩, ⟨by (with_reducible repeat (first | refine blk_drewN ?_ _ | refine blk_drew ?_ | refine blk_alloc ?_ _)); exact BK439.out⟩, ⟨by (with_reducible repeat (first | refine blk_drewN ?_ _ | refine blk_drew ?_ | refine blk_alloc ?_ _)); exact BK440.out⟩, ⟨by (with_reducible repeat (first | refine blk_drewN ?_ _ | refine blk_drew ?_ | refine blk_alloc ?_ _)); exact BK452.out⟩, ⟨by (with_reducible repeat (first | refine blk_drewN ?_ _ | refine blk_drew ?_ | refine blk_alloc ?_ _)); exact BK463.out⟩, ⟨by (with_reducible repeat (first | refine blk_drewN ?_ _ | refine blk_drew ?_ | refine blk_alloc ?_ _)); exact BK468.out⟩, ⟨by (with_reducible repeat (first | refine blk_drewN ?_ _ | refine blk_drew ?_ | refine blk_alloc ?_ _)); exact BK473.out⟩, ⟨by repeat (first | (with_reducible first | exact HB.out | apply below_alloc | apply pw_below_drewN | apply below_drew1 | refine below_set ?_ GE438.out | refine below_set ?_ GE439.out | refine below_set ?_ GE440.out | refine below_set ?_ GE452.out | refine below_set ?_ GE463.out | refine below_set ?_ GE468.out | refine below_set ?_ GE473.out) | exact HB.out)⟩⟩
        ·rw [if_neg c112] at H
         have c112b0 : (t466 == t474) = false := beq_eq_false_iff_ne.mpr c112
         have c112b1 : (t466 != t474) = true := bne_iff_ne.mpr c112
         have H' := Aside0.mk H
         clear H
         have hnb140 := NB468_438.out
         have hnc140 := NB438_468.out
         have hnb141 := NB468_439.out
         have hnc141 := NB439_468.out
         have hnb142 := NB468_440.out
         have hnc142 := NB440_468.out
         have hnb143 := NB468_452.out
         have hnc143 := NB452_468.out
         have hnb144 := NB468_463.out
         have hnc144 := NB463_468.out
         have hnb145 := NB468_473.out
         have hnc145 := NB473_468.out
         have hcz146_0 : wc.cell? ⟨gb468, 0, none⟩ = some (.int .i64 t464) := (blk_cell BK468.out 0).trans rfl
         have hcz146_1 : wc.cell? ⟨gb468, 1, none⟩ = some (.int .i64 t465) := (blk_cell BK468.out 1).trans rfl
         have hcz146_2 : wc.cell? ⟨gb468, 2, none⟩ = some (.int .i64 t466) := (blk_cell BK468.out 2).trans rfl
         have hfz146_0 := blk_frozen BK468.out 0
         have hfz146_1 := blk_frozen BK468.out 1
         have hfz146_2 := blk_frozen BK468.out 2
         go_wp2
         go_meet
         case rel => exact ⟨_, (true), (by first | rfl | (simp; done) | (simp [*]; done)), H', ⟨by have := HJ14.out; first | omega | exact Nat.le_refl _⟩, ⟨by (with_reducible repeat (first | refine blk_drewN ?_ _ | refine blk_drew ?_ | refine blk_alloc ?_ _)); exact BK438.out⟩, ⟨by (with_reducible repeat (first | refine blk_drewN ?_ _ | refine blk_drew ?_ | refine blk_alloc ?_ _)); exact BK439.out⟩, ⟨by (with_reducible repeat (first | refine blk_drewN ?_ _ | refine blk_drew ?_ | refine blk_alloc ?_ _)); exact BK440.out⟩, ⟨by (with_reducible repeat (first | refine blk_drewN ?_ _ | refine blk_drew ?_ | refine blk_alloc ?_ _)); exact BK452.out⟩, ⟨by (with_reducible repeat (first | refine blk_drewN ?_ _ | refine blk_drew ?_ | refine blk_alloc ?_ _)); exact BK463.out⟩, ⟨by (with_reducible repeat (first | refine blk_drewN ?_ _ | refine blk_drew ?_ | refine blk_alloc ?_ _)); exact BK468.out⟩, ⟨by (with_reducible repeat (first | refine blk_drewN ?_ _ | refine blk_drew ?_ | refine blk_alloc ?_ _)); exact BK473.out⟩, ⟨by repeat (first | (with_reducible first | exact HB.out | apply below_alloc | apply pw_below_drewN | apply below_drew1 | refine below_set ?_ GE438.out | refine below_set ?_ GE439.out | refine below_set ?_ GE440.out | refine below_set ?_ GE452.out | refine below_set ?_ GE463.out | refine below_set ?_ GE468.out | refine below_set ?_ GE473.out) | exact HB.out)⟩⟩
       ·rw [if_neg c111] at H
        have c111b0 : (t475 == 0) = false := beq_eq_false_iff_ne.mpr c111
        have c111b1 : (t475 != 0) = true := bne_iff_ne.mpr c111
        (first | rw [c111b0] | (simp only [i64_w, i32_w]; rw [c111b0]) | skip)
        have H' := Aside0.mk H
        clear H
        go_wp2
        go_meet
        case rel => exact ⟨_, (true), (by first | rfl | (simp; done) | (simp [*]; done)), H', ⟨by have := HJ14.out; first | omega | exact Nat.le_refl _⟩, ⟨by (with_reducible repeat (first | refine blk_drewN ?_ _ | refine blk_drew ?_ | refine blk_alloc ?_ _)); exact BK438.out⟩, ⟨by (with_reducible repeat (first | refine blk_drewN ?_ _ | refine blk_drew ?_ | refine blk_alloc ?_ _)); exact BK439.out⟩, ⟨by (with_reducible repeat (first | refine blk_drewN ?_ _ | refine blk_drew ?_ | refine blk_alloc ?_ _)); exact BK440.out⟩, ⟨by (with_reducible repeat (first | refine blk_drewN ?_ _ | refine blk_drew ?_ | refine blk_alloc ?_ _)); exact BK452.out⟩, ⟨by (with_reducible repeat (first | refine blk_drewN ?_ _ | refine blk_drew ?_ | refine blk_alloc ?_ _)); exact BK463.out⟩, ⟨by (with_reducible repeat (first | refine blk_drewN ?_ _ | refine blk_drew ?_ | refine blk_alloc ?_ _)); exact BK468.out⟩, ⟨by (with_reducible repeat (first | refine blk_drewN ?_ _ | refine blk_drew ?_ | refine blk_alloc ?_ _)); exact BK473.out⟩, ⟨by repeat (first | (with_reducible first | exact HB.out | apply below_alloc | apply pw_below_drewN | apply below_drew1 | refine below_set ?_ GE438.out | refine below_set ?_ GE439.out | refine below_set ?_ GE440.out | refine below_set ?_ GE452.out | refine below_set ?_ GE463.out | refine below_set ?_ GE468.out | refine below_set ?_ GE473.out) | exact HB.out)⟩⟩
      case rest =>
       clear HC110
       try clear c1
       try clear c2
       try clear p2
       try clear c3
       try clear c4
       try clear c5
       try clear c6
       try clear p6
       try clear c7
       try clear c8
       try clear c9
       try clear c10
       try clear c11
       try clear c12
       try clear c13
       try clear c14
       try clear c15
       try clear c17
       try clear c20
       try clear c21
       try clear c22
       try clear c23
       try clear c24
       try clear c25
       try clear c26
       try clear c27
       try clear c34
       try clear c35
       try clear c36
       try clear c37
       try clear c38
       try clear c39
       try clear c41
       try clear c42
       try clear c43
       try clear c50
       try clear c51
       try clear c52
       try clear c53
       try clear c57
       try clear c58
       try clear c59
       try clear c60
       try clear c61
       try clear p64
       try clear c66
       try clear c67
       try clear c68
       try clear c69
       try clear c70
       try clear c71
       try clear c73
       try clear c73b0
       try clear c73b1
       try clear c74
       try clear c74b0
       try clear c74b1
       try clear c75
       try clear c75b0
       try clear c75b1
       try clear c76
       try clear c76b0
       try clear c76b1
       try clear c77
       try clear c77b0
       try clear c77b1
       try clear c78
       try clear c78b0
       try clear c78b1
       try clear c79
       try clear c79b0
       try clear c79b1
       try clear c80
       try clear c80b0
       try clear c81
       try clear c82
       try clear c83
       try clear c84
       try clear c85
       try clear c86
       try clear c88
       try clear c89
       try clear c90
       try clear c91
       try clear c92
       try clear c94
       try clear c95
       try clear c96
       try clear c97
       try clear c98
       try clear c99
       try clear c101
       try clear c102
       try clear c103
       try clear c104
       try clear c105
       try clear c107
       try clear c108
       try clear c108b0
       try clear c108b1
       try clear c111
       try clear c111b0
       try clear c111b1
       try clear c112
       try clear c112b0
       try clear c112b1
       try clear c113
       try clear c113b0
       try clear c113b1
       try clear c114
       try clear c115
       try clear c116
       try clear c117
       try clear c118
       try clear c119
       try clear c121
       try clear c122
       try clear c123
       try clear c124
       try clear c125
       try clear c127
       try clear c128
       try clear c129
       try clear c130
       try clear c131
       try clear c132
       try clear c134
       try clear c135
       try clear c136
       try clear c137
       try clear c138
       try clear c140
       try clear c141
       try clear c142
       try clear c143
       try clear c144
       try clear c145
       try clear hcz100_0
       try clear hcz100_1
       try clear hcz100_2
       try clear hcz106_0
       try clear hcz106_1
       try clear hcz106_2
       try clear hcz120_0
       try clear hcz120_1
       try clear hcz120_2
       try clear hcz126_0
       try clear hcz126_1
       try clear hcz126_2
       try clear hcz126_3
       try clear hcz133_0
       try clear hcz133_1
       try clear hcz133_2
       try clear hcz139_0
       try clear hcz139_1
       try clear hcz139_2
       try clear hcz139_3
       try clear hcz146_0
       try clear hcz146_1
       try clear hcz146_2
       try clear hcz22_0
       try clear hcz22_1
       try clear hcz22_2
       try clear hcz24_0
       try clear hcz24_1
       try clear hcz24_2
       try clear hcz24_3
       try clear hcz25_0
       try clear hcz25_1
       try clear hcz27_0
       try clear hcz27_1
       try clear hcz27_2
       try clear hcz28_0
       try clear hcz28_1
       try clear hcz28_2
       try clear hcz28_3
       try clear hcz29_0
       try clear hcz29_1
       try clear hcz31_0
       try clear hcz31_1
       try clear hcz31_2
       try clear hcz32_0
       try clear hcz32_1
       try clear hcz32_2
       try clear hcz32_3
       try clear hcz33_0
       try clear hcz33_1
       try clear hcz35_0
       try clear hcz35_1
       try clear hcz35_2
       try clear hcz36_0
       try clear hcz36_1
       try clear hcz36_2
       try clear hcz36_3
       try clear hcz37_0
       try clear hcz37_1
       try clear hcz44_0
       try clear hcz44_1
       try clear hcz44_2
       try clear hcz46_0
       try clear hcz46_1
       try clear hcz46_2
       try clear hcz54_0
       try clear hcz54_1
       try clear hcz54_2
       try clear hcz54_3
       try clear hcz62_0
       try clear hcz62_1
       try clear hcz62_2
       try clear hcz63_0
       try clear hcz63_1
       try clear hcz63_2
       try clear hcz63_3
       try clear hcz72_0
       try clear hcz72_1
       try clear hcz72_2
       try clear hcz87_0
       try clear hcz87_1
       try clear hcz87_2
       try clear hcz93_0
       try clear hcz93_1
       try clear hcz93_2
       try clear hfz100_0
       try clear hfz100_1
       try clear hfz100_2
       try clear hfz106_0
       try clear hfz106_1
       try clear hfz106_2
       try clear hfz120_0
       try clear hfz120_1
       try clear hfz120_2
       try clear hfz126_0
       try clear hfz126_1
       try clear hfz126_2
       try clear hfz126_3
       try clear hfz133_0
       try clear hfz133_1
       try clear hfz133_2
       try clear hfz139_0
       try clear hfz139_1
       try clear hfz139_2
       try clear hfz139_3
       try clear hfz146_0
       try clear hfz146_1
       try clear hfz146_2
       try clear hfz22_0
       try clear hfz22_1
       try clear hfz22_2
       try clear hfz24_0
       try clear hfz24_1
       try clear hfz24_2
       try clear hfz24_3
       try clear hfz25_0
       try clear hfz25_1
       try clear hfz27_0
       try clear hfz27_1
       try clear hfz27_2
       try clear hfz28_0
       try clear hfz28_1
       try clear hfz28_2
       try clear hfz28_3
       try clear hfz29_0
       try clear hfz29_1
       try clear hfz31_0
       try clear hfz31_1
       try clear hfz31_2
       try clear hfz32_0
       try clear hfz32_1
       try clear hfz32_2
       try clear hfz32_3
       try clear hfz33_0
       try clear hfz33_1
       try clear hfz35_0
       try clear hfz35_1
       try clear hfz35_2
       try clear hfz36_0
       try clear hfz36_1
       try clear hfz36_2
       try clear hfz36_3
       try clear hfz37_0
       try clear hfz37_1
       try clear hfz44_0
       try clear hfz44_1
       try clear hfz44_2
       try clear hfz46_0
       try clear hfz46_1
       try clear hfz46_2
       try clear hfz54_0
       try clear hfz54_1
       try clear hfz54_2
       try clear hfz54_3
       try clear hfz62_0
       try clear hfz62_1
       try clear hfz62_2
       try clear hfz63_0
       try clear hfz63_1
       try clear hfz63_2
       try clear hfz63_3
       try clear hfz72_0
       try clear hfz72_1
       try clear hfz72_2
       try clear hfz87_0
       try clear hfz87_1
       try clear hfz87_2
       try clear hfz93_0
       try clear hfz93_1
       try clear hfz93_2
       try clear p2
       obtain ⟨kq, x170_109, rfl, HA, HJ109, BK438, BK439, BK440, BK452, BK463, BK468, BK473, HB⟩ := hcut
       cases kq with
       | zero => exact absurd HA.out (by simp [laws_FnBoards.j1])
       | succ kj109 =>
        have H := HA.out
        clear HA
        simp only [laws_FnBoards.j1] at H
        by_cases c147 : x170_109 = true
        ·subst c147
         have H1 : (some false) = some r := by rw [if_pos rfl] at H; exact H
         clear H
         have H := H1
         clear H1
         exact absurd ((Option.some.inj H).trans hr_.out) (by decide)
        ·replace c147 := Bool.eq_false_iff.mpr c147
         subst c147
         have H1 : (if t442 = 0 then ((impl_CaseOf.f t429 t430 t431 t432 t433 t434 t435).bind fun bt476 => (if bt476.2.2.2.2.2 = 0 then (if (wrap64 ((wrap64 (t441 * bt476.1)) * bt476.2.1)) ≤ (wrap64 (t436 * t437)) then (some (decide ((wrap64 ((wrap64 (t445 * bt476.2.2.2.1)) * bt476.2.2.2.2.1)) ≤ (wrap64 (t436 * t437))))) else (some false)) else (some false))) else (some true)) = some r := by rw [if_neg (show ¬ (false = true) by decide)] at H; exact H
         clear H
         have H := H1
         clear H1
         by_cases c148 : t442 = 0
         ·rw [if_pos c148] at H
          have c148b0 : (t442 == 0) = true := beq_iff_eq.mpr c148
          have c148b1 : (t442 != 0) = false := bne_eq_false_iff_eq.mpr c148
          clear c148
          replace H := Option.bind_eq_some_iff.mp H
          obtain ⟨⟨t476, t477, t478, t479, t480, t481⟩, A1490, H⟩ := H
          replace H : (if t481 = 0 then (if (wrap64 ((wrap64 (t441 * t476)) * t477)) ≤ (wrap64 (t436 * t437)) then (some (decide ((wrap64 ((wrap64 (t445 * t479)) * t480)) ≤ (wrap64 (t436 * t437))))) else (some false)) else (some false)) = some r := H
          have A149 := Aside0.mk A1490
          clear A1490
          by_cases c150 : t481 = 0
          ·rw [if_pos c150] at H
           have c150b0 : (t481 == 0) = true := beq_iff_eq.mpr c150
           have c150b1 : (t481 != 0) = false := bne_eq_false_iff_eq.mpr c150
           clear c150
           by_cases c151 : (wrap64 ((wrap64 (t441 * t476)) * t477)) ≤ (wrap64 (t436 * t437))
           ·rw [if_pos c151] at H
            have c151b0 : decide ((wrap64 ((wrap64 (t441 * t476)) * t477)) ≤ (wrap64 (t436 * t437))) = true := decide_eq_true c151
            clear c151
            obtain rfl := Option.some.inj H
            have hnb152 := NB438_439.out
            have hnc152 := NB439_438.out
            have hnb153 := NB438_440.out
            have hnc153 := NB440_438.out
            have hnb154 := NB438_452.out
            have hnc154 := NB452_438.out
            have hnb155 := NB438_463.out
            have hnc155 := NB463_438.out
            have hnb156 := NB438_468.out
            have hnc156 := NB468_438.out
            have hnb157 := NB438_473.out
            have hnc157 := NB473_438.out
            have hcz158_0 : wc.cell? ⟨gb438, 0, none⟩ = some (.int .i64 t429) := (blk_cell BK438.out 0).trans rfl
            have hcz158_1 : wc.cell? ⟨gb438, 1, none⟩ = some (.int .i64 t430) := (blk_cell BK438.out 1).trans rfl
            have hcz158_2 : wc.cell? ⟨gb438, 2, none⟩ = some (.int .i64 t431) := (blk_cell BK438.out 2).trans rfl
            have hfz158_0 := blk_frozen BK438.out 0
            have hfz158_1 := blk_frozen BK438.out 1
            have hfz158_2 := blk_frozen BK438.out 2
            have hnb159 := NB439_440.out
            have hnc159 := NB440_439.out
            have hnb160 := NB439_452.out
            have hnc160 := NB452_439.out
            have hnb161 := NB439_463.out
            have hnc161 := NB463_439.out
            have hnb162 := NB439_468.out
            have hnc162 := NB468_439.out
            have hnb163 := NB439_473.out
            have hnc163 := NB473_439.out
            have hcz164_0 : wc.cell? ⟨gb439, 0, none⟩ = some (.int .i64 t432) := (blk_cell BK439.out 0).trans rfl
            have hcz164_1 : wc.cell? ⟨gb439, 1, none⟩ = some (.int .i64 t433) := (blk_cell BK439.out 1).trans rfl
            have hcz164_2 : wc.cell? ⟨gb439, 2, none⟩ = some (.int .i64 t434) := (blk_cell BK439.out 2).trans rfl
            have hcz164_3 : wc.cell? ⟨gb439, 3, none⟩ = some (.int .i64 t435) := (blk_cell BK439.out 3).trans rfl
            have hfz164_0 := blk_frozen BK439.out 0
            have hfz164_1 := blk_frozen BK439.out 1
            have hfz164_2 := blk_frozen BK439.out 2
            have hfz164_3 := blk_frozen BK439.out 3
            go_wp2_with (first | ((with_reducible refine gate_callee (f := 13) rfl ?_); refine goesL_ (some 176) rfl rfl Try.func13 (by kernel_rfl) rfl #[.agg #[.int .i64 t429, .int .i64 t430, .int .i64 t431], .agg #[.int .i64 t432, .int .i64 t433, .int .i64 t434, .int .i64 t435]] rfl (by (try simp only [List.map_toArray, List.map_cons, List.map_nil]); first | done | rfl | (simp only [List.length_drop, List.length_take]; rfl)) ?_; (with_reducible refine (impl_CaseOf.calls t429 t430 t431 t432 t433 t434 t435 t476 t477 t478 t479 t480 t481 _ A149.out).mono ?_); rintro e w165 ⟨rfl, hb⟩; refine ⟨_, rfl, ?_⟩; have n0_ := Aside0.mk (blk_below (g := gb438) (o := .cells #[.int .i64 t429, .int .i64 t430, .int .i64 t431] 30 (0, 0)) (by (with_reducible repeat (first | refine blk_drewN ?_ _ | refine blk_drew ?_ | refine blk_alloc ?_ _)); exact BK438.out) hb); have n1_ := Aside0.mk (blk_below (g := gb439) (o := .cells #[.int .i64 t432, .int .i64 t433, .int .i64 t434, .int .i64 t435] 32 (0, 0)) (by (with_reducible repeat (first | refine blk_drewN ?_ _ | refine blk_drew ?_ | refine blk_alloc ?_ _)); exact BK439.out) hb); have n2_ := Aside0.mk (blk_below (g := gb440) (o := .cells #[.int .i64 t436, .int .i64 t437] 52 (0, 0)) (by (with_reducible repeat (first | refine blk_drewN ?_ _ | refine blk_drew ?_ | refine blk_alloc ?_ _)); exact BK440.out) hb); have n3_ := Aside0.mk (blk_below (g := gb452) (o := .cells #[.int .i64 t449, .int .i64 t450, .int .i64 t451] 30 (0, 0)) (by (with_reducible repeat (first | refine blk_drewN ?_ _ | refine blk_drew ?_ | refine blk_alloc ?_ _)); exact BK452.out) hb); have n4_ := Aside0.mk (blk_below (g := gb463) (o := .cells #[.int .i64 t457, .int .i64 t458, .int .i64 t459, .int .i64 t460] 40 (0, 0)) (by (with_reducible repeat (first | refine blk_drewN ?_ _ | refine blk_drew ?_ | refine blk_alloc ?_ _)); exact BK463.out) hb); have n5_ := Aside0.mk (blk_below (g := gb468) (o := .cells #[.int .i64 t464, .int .i64 t465, .int .i64 t466] 30 (0, 0)) (by (with_reducible repeat (first | refine blk_drewN ?_ _ | refine blk_drew ?_ | refine blk_alloc ?_ _)); exact BK468.out) hb); have n6_ := Aside0.mk (blk_below (g := gb473) (o := .cells #[.int .i64 t469, .int .i64 t470, .int .i64 t471] 30 (0, 0)) (by (with_reducible repeat (first | refine blk_drewN ?_ _ | refine blk_drew ?_ | refine blk_alloc ?_ _)); exact BK473.out) hb); have n7_ := Aside0.mk (below_step (by repeat (first | (with_reducible first | exact HB.out | apply below_alloc | apply pw_below_drewN | apply below_drew1 | refine below_set ?_ GE438.out | refine below_set ?_ GE439.out | refine below_set ?_ GE440.out | refine below_set ?_ GE452.out | refine below_set ?_ GE463.out | refine below_set ?_ GE468.out | refine below_set ?_ GE473.out) | exact HB.out)) hb); clear BK438; clear BK439; clear BK440; clear BK452; clear BK463; clear BK468; clear BK473; clear HB; have BK438 := n0_; have BK439 := n1_; have BK440 := n2_; have BK452 := n3_; have BK463 := n4_; have BK468 := n5_; have BK473 := n6_; have HB := n7_; clear n0_ n1_ n2_ n3_ n4_ n5_ n6_ n7_; (try clear hb)) | ((with_reducible refine gate_dst (N := 28) rfl ?_); refine box_event ?hg (N := 28) ?hd (cs := #[.int .i64 0, .int .i64 0, .int .i64 0, .int .i64 0, .int .i64 0]) (t := 27) ?hr ?_; (case hd => rfl); (case hg => rfl); (case hr => first | (go_simp; done) | (go_simp; rfl)); intro gb482 hg w166 hbox hb; have n0_ := Aside0.mk (blk_below (g := gb438) (o := .cells #[.int .i64 t429, .int .i64 t430, .int .i64 t431] 30 (0, 0)) (by (with_reducible repeat (first | refine blk_drewN ?_ _ | refine blk_drew ?_ | refine blk_alloc ?_ _)); exact BK438.out) hb); have n1_ := Aside0.mk (blk_below (g := gb439) (o := .cells #[.int .i64 t432, .int .i64 t433, .int .i64 t434, .int .i64 t435] 32 (0, 0)) (by (with_reducible repeat (first | refine blk_drewN ?_ _ | refine blk_drew ?_ | refine blk_alloc ?_ _)); exact BK439.out) hb); have n2_ := Aside0.mk (blk_below (g := gb440) (o := .cells #[.int .i64 t436, .int .i64 t437] 52 (0, 0)) (by (with_reducible repeat (first | refine blk_drewN ?_ _ | refine blk_drew ?_ | refine blk_alloc ?_ _)); exact BK440.out) hb); have n3_ := Aside0.mk (blk_below (g := gb452) (o := .cells #[.int .i64 t449, .int .i64 t450, .int .i64 t451] 30 (0, 0)) (by (with_reducible repeat (first | refine blk_drewN ?_ _ | refine blk_drew ?_ | refine blk_alloc ?_ _)); exact BK452.out) hb); have n4_ := Aside0.mk (blk_below (g := gb463) (o := .cells #[.int .i64 t457, .int .i64 t458, .int .i64 t459, .int .i64 t460] 40 (0, 0)) (by (with_reducible repeat (first | refine blk_drewN ?_ _ | refine blk_drew ?_ | refine blk_alloc ?_ _)); exact BK463.out) hb); have n5_ := Aside0.mk (blk_below (g := gb468) (o := .cells #[.int .i64 t464, .int .i64 t465, .int .i64 t466] 30 (0, 0)) (by (with_reducible repeat (first | refine blk_drewN ?_ _ | refine blk_drew ?_ | refine blk_alloc ?_ _)); exact BK468.out) hb); have n6_ := Aside0.mk (blk_below (g := gb473) (o := .cells #[.int .i64 t469, .int .i64 t470, .int .i64 t471] 30 (0, 0)) (by (with_reducible repeat (first | refine blk_drewN ?_ _ | refine blk_drew ?_ | refine blk_alloc ?_ _)); exact BK473.out) hb); have n7_ := Aside0.mk (below_step (by repeat (first | (with_reducible first | exact HB.out | apply below_alloc | apply pw_below_drewN | apply below_drew1 | refine below_set ?_ GE438.out | refine below_set ?_ GE439.out | refine below_set ?_ GE440.out | refine below_set ?_ GE452.out | refine below_set ?_ GE463.out | refine below_set ?_ GE468.out | refine below_set ?_ GE473.out) | exact HB.out)) hb); have n8_ := Aside0.mk (hbox); have n9_ := Aside0.mk ((by rw [hg]; exact (below_size (by repeat (first | (with_reducible first | exact HB.out | apply below_alloc | apply pw_below_drewN | apply below_drew1 | refine below_set ?_ GE438.out | refine below_set ?_ GE439.out | refine below_set ?_ GE440.out | refine below_set ?_ GE452.out | refine below_set ?_ GE463.out | refine below_set ?_ GE468.out | refine below_set ?_ GE473.out) | exact HB.out))) : w.heap.size ≤ gb482)); have n10_ := n9_; have n11_ := Aside0.mk ((by rw [hg]; exact Nat.ne_of_lt (blk_lt (g := gb438) (o := .cells #[.int .i64 t429, .int .i64 t430, .int .i64 t431] 30 (0, 0)) (by (with_reducible repeat (first | refine blk_drewN ?_ _ | refine blk_drew ?_ | refine blk_alloc ?_ _)); exact BK438.out)) : gb438 ≠ gb482)); have n12_ := Aside0.mk n11_.out.symm; have n13_ := Aside0.mk ((by rw [hg]; exact Nat.ne_of_lt (blk_lt (g := gb439) (o := .cells #[.int .i64 t432, .int .i64 t433, .int .i64 t434, .int .i64 t435] 32 (0, 0)) (by (with_reducible repeat (first | refine blk_drewN ?_ _ | refine blk_drew ?_ | refine blk_alloc ?_ _)); exact BK439.out)) : gb439 ≠ gb482)); have n14_ := Aside0.mk n13_.out.symm; have n15_ := Aside0.mk ((by rw [hg]; exact Nat.ne_of_lt (blk_lt (g := gb440) (o := .cells #[.int .i64 t436, .int .i64 t437] 52 (0, 0)) (by (with_reducible repeat (first | refine blk_drewN ?_ _ | refine blk_drew ?_ | refine blk_alloc ?_ _)); exact BK440.out)) : gb440 ≠ gb482)); have n16_ := Aside0.mk n15_.out.symm; have n17_ := Aside0.mk ((by rw [hg]; exact Nat.ne_of_lt (blk_lt (g := gb452) (o := .cells #[.int .i64 t449, .int .i64 t450, .int .i64 t451] 30 (0, 0)) (by (with_reducible repeat (first | refine blk_drewN ?_ _ | refine blk_drew ?_ | refine blk_alloc ?_ _)); exact BK452.out)) : gb452 ≠ gb482)); have n18_ := Aside0.mk n17_.out.symm; have n19_ := Aside0.mk ((by rw [hg]; exact Nat.ne_of_lt (blk_lt (g := gb463) (o := .cells #[.int .i64 t457, .int .i64 t458, .int .i64 t459, .int .i64 t460] 40 (0, 0)) (by (with_reducible repeat (first | refine blk_drewN ?_ _ | refine blk_drew ?_ | refine blk_alloc ?_ _)); exact BK463.out)) : gb463 ≠ gb482)); have n20_ := Aside0.mk n19_.out.symm; have n21_ := Aside0.mk ((by rw [hg]; exact Nat.ne_of_lt (blk_lt (g := gb468) (o := .cells #[.int .i64 t464, .int .i64 t465, .int .i64 t466] 30 (0, 0)) (by (with_reducible repeat (first | refine blk_drewN ?_ _ | refine blk_drew ?_ | refine blk_alloc ?_ _)); exact BK468.out)) : gb468 ≠ gb482)); have n22_ := Aside0.mk n21_.out.symm; have n23_ := Aside0.mk ((by rw [hg]; exact Nat.ne_of_lt (blk_lt (g := gb473) (o := .cells #[.int .i64 t469, .int .i64 t470, .int .i64 t471] 30 (0, 0)) (by (with_reducible repeat (first | refine blk_drewN ?_ _ | refine blk_drew ?_ | refine blk_alloc ?_ _)); exact BK473.out)) : gb473 ≠ gb482)); have n24_ := Aside0.mk n23_.out.symm; clear BK438; clear BK439; clear BK440; clear BK452; clear BK463; clear BK468; clear BK473; clear HB; have BK438 := n0_; have BK439 := n1_; have BK440 := n2_; have BK452 := n3_; have BK463 := n4_; have BK468 := n5_; have BK473 := n6_; have HB := n7_; have BK482 := n8_; have GW482 := n9_; have GE482 := n10_; have NB438_482 := n11_; have NB482_438 := n12_; have NB439_482 := n13_; have NB482_439 := n14_; have NB440_482 := n15_; have NB482_440 := n16_; have NB452_482 := n17_; have NB482_452 := n18_; have NB463_482 := n19_; have NB482_463 := n20_; have NB468_482 := n21_; have NB482_468 := n22_; have NB473_482 := n23_; have NB482_473 := n24_; clear n0_ n1_ n2_ n3_ n4_ n5_ n6_ n7_ n8_ n9_ n10_ n11_ n12_ n13_ n14_ n15_ n16_ n17_ n18_ n19_ n20_ n21_ n22_ n23_ n24_; clear hb hbox hg; have hnb167 := NB482_438.out; have hnc167 := NB438_482.out; have hnb168 := NB482_439.out; have hnc168 := NB439_482.out; have hnb169 := NB482_440.out; have hnc169 := NB440_482.out; have hnb170 := NB482_452.out; have hnc170 := NB452_482.out; have hnb171 := NB482_463.out; have hnc171 := NB463_482.out; have hnb172 := NB482_468.out; have hnc172 := NB468_482.out; have hnb173 := NB482_473.out; have hnc173 := NB473_482.out; have hcz174_0 : w166.cell? ⟨gb482, 0, none⟩ = some (.int .i64 0) := (blk_cell BK482.out 0).trans rfl; have hcz174_1 : w166.cell? ⟨gb482, 1, none⟩ = some (.int .i64 0) := (blk_cell BK482.out 1).trans rfl; have hcz174_2 : w166.cell? ⟨gb482, 2, none⟩ = some (.int .i64 0) := (blk_cell BK482.out 2).trans rfl; have hcz174_3 : w166.cell? ⟨gb482, 3, none⟩ = some (.int .i64 0) := (blk_cell BK482.out 3).trans rfl; have hcz174_4 : w166.cell? ⟨gb482, 4, none⟩ = some (.int .i64 0) := (blk_cell BK482.out 4).trans rfl; have hfz174_0 := blk_frozen BK482.out 0; have hfz174_1 := blk_frozen BK482.out 1; have hfz174_2 := blk_frozen BK482.out 2; have hfz174_3 := blk_frozen BK482.out 3; have hfz174_4 := blk_frozen BK482.out 4; have hnb175 := NB440_452.out; have hnc175 := NB452_440.out; have hnb176 := NB440_463.out; have hnc176 := NB463_440.out; have hnb177 := NB440_468.out; have hnc177 := NB468_440.out; have hnb178 := NB440_473.out; have hnc178 := NB473_440.out; have hcz179_0 : w166.cell? ⟨gb440, 0, none⟩ = some (.int .i64 t436) := (blk_cell BK440.out 0).trans rfl; have hcz179_1 : w166.cell? ⟨gb440, 1, none⟩ = some (.int .i64 t437) := (blk_cell BK440.out 1).trans rfl; have hfz179_0 := blk_frozen BK440.out 0; have hfz179_1 := blk_frozen BK440.out 1))
            go_ret
            exact ⟨by first | rfl | (simp [errW_none, errW_some] <;> rfl) | (simp [*, errW_none, errW_some] <;> rfl), by repeat (first | (with_reducible first | exact HB.out | apply below_alloc | apply pw_below_drewN | apply below_drew1 | refine below_set ?_ GE438.out | refine below_set ?_ GE439.out | refine below_set ?_ GE440.out | refine below_set ?_ GE452.out | refine below_set ?_ GE463.out | refine below_set ?_ GE468.out | refine below_set ?_ GE473.out | refine below_set ?_ GE482.out) | exact HB.out)⟩
           ·rw [if_neg c151] at H
            have c151b0 : decide ((wrap64 ((wrap64 (t441 * t476)) * t477)) ≤ (wrap64 (t436 * t437))) = false := decide_eq_false c151
            clear c151
            exact absurd ((Option.some.inj H).trans hr_.out) (by decide)
          ·rw [if_neg c150] at H
           have c150b0 : (t481 == 0) = false := beq_eq_false_iff_ne.mpr c150
           have c150b1 : (t481 != 0) = true := bne_iff_ne.mpr c150
           exact absurd ((Option.some.inj H).trans hr_.out) (by decide)
         ·rw [if_neg c148] at H
          have c148b0 : (t442 == 0) = false := beq_eq_false_iff_ne.mpr c148
          have c148b1 : (t442 != 0) = true := bne_iff_ne.mpr c148
          obtain rfl := Option.some.inj H
          go_wp2
          go_ret
          exact ⟨by first | rfl | (simp [errW_none, errW_some] <;> rfl) | (simp [*, errW_none, errW_some] <;> rfl), by repeat (first | (with_reducible first | exact HB.out | apply below_alloc | apply pw_below_drewN | apply below_drew1 | refine below_set ?_ GE438.out | refine below_set ?_ GE439.out | refine below_set ?_ GE440.out | refine below_set ?_ GE452.out | refine below_set ?_ GE463.out | refine below_set ?_ GE468.out | refine below_set ?_ GE473.out) | exact HB.out)⟩
     ·rw [if_neg c108] at H
      have c108b0 : (t467 == 0) = false := beq_eq_false_iff_ne.mpr c108
      have c108b1 : (t467 != 0) = true := bne_iff_ne.mpr c108
      by_cases c180 : t442 = 0
      ·rw [if_pos c180] at H
       have c180b0 : (t442 == 0) = true := beq_iff_eq.mpr c180
       have c180b1 : (t442 != 0) = false := bne_eq_false_iff_eq.mpr c180
       clear c180
       replace H := Option.bind_eq_some_iff.mp H
       obtain ⟨⟨t483, t484, t485, t486, t487, t488⟩, A1810, H⟩ := H
       replace H : (if t488 = 0 then (if (wrap64 ((wrap64 (t441 * t483)) * t484)) ≤ (wrap64 (t436 * t437)) then (some (decide ((wrap64 ((wrap64 (t445 * t486)) * t487)) ≤ (wrap64 (t436 * t437))))) else (some false)) else (some false)) = some r := H
       have A181 := Aside0.mk A1810
       clear A1810
       by_cases c182 : t488 = 0
       ·rw [if_pos c182] at H
        have c182b0 : (t488 == 0) = true := beq_iff_eq.mpr c182
        have c182b1 : (t488 != 0) = false := bne_eq_false_iff_eq.mpr c182
        clear c182
        by_cases c183 : (wrap64 ((wrap64 (t441 * t483)) * t484)) ≤ (wrap64 (t436 * t437))
        ·rw [if_pos c183] at H
         have c183b0 : decide ((wrap64 ((wrap64 (t441 * t483)) * t484)) ≤ (wrap64 (t436 * t437))) = true := decide_eq_true c183
         clear c183
         obtain rfl := Option.some.inj H
         have hnb184 := NB438_439.out
         have hnc184 := NB439_438.out
         have hnb185 := NB438_440.out
         have hnc185 := NB440_438.out
         have hnb186 := NB438_452.out
         have hnc186 := NB452_438.out
         have hnb187 := NB438_463.out
         have hnc187 := NB463_438.out
         have hnb188 := NB438_468.out
         have hnc188 := NB468_438.out
         have hnb189 := NB438_473.out
         have hnc189 := NB473_438.out
         have hcz190_0 : wc.cell? ⟨gb438, 0, none⟩ = some (.int .i64 t429) := (blk_cell BK438.out 0).trans rfl
         have hcz190_1 : wc.cell? ⟨gb438, 1, none⟩ = some (.int .i64 t430) := (blk_cell BK438.out 1).trans rfl
         have hcz190_2 : wc.cell? ⟨gb438, 2, none⟩ = some (.int .i64 t431) := (blk_cell BK438.out 2).trans rfl
         have hfz190_0 := blk_frozen BK438.out 0
         have hfz190_1 := blk_frozen BK438.out 1
         have hfz190_2 := blk_frozen BK438.out 2
         have hnb191 := NB439_440.out
         have hnc191 := NB440_439.out
         have hnb192 := NB439_452.out
         have hnc192 := NB452_439.out
         have hnb193 := NB439_463.out
         have hnc193 := NB463_439.out
         have hnb194 := NB439_468.out
         have hnc194 := NB468_439.out
         have hnb195 := NB439_473.out
         have hnc195 := NB473_439.out
         have hcz196_0 : wc.cell? ⟨gb439, 0, none⟩ = some (.int .i64 t432) := (blk_cell BK439.out 0).trans rfl
         have hcz196_1 : wc.cell? ⟨gb439, 1, none⟩ = some (.int .i64 t433) := (blk_cell BK439.out 1).trans rfl
         have hcz196_2 : wc.cell? ⟨gb439, 2, none⟩ = some (.int .i64 t434) := (blk_cell BK439.out 2).trans rfl
         have hcz196_3 : wc.cell? ⟨gb439, 3, none⟩ = some (.int .i64 t435) := (blk_cell BK439.out 3).trans rfl
         have hfz196_0 := blk_frozen BK439.out 0
         have hfz196_1 := blk_frozen BK439.out 1
         have hfz196_2 := blk_frozen BK439.out 2
         have hfz196_3 := blk_frozen BK439.out 3
         go_wp2_with (first | ((with_reducible refine gate_callee (f := 13) rfl ?_); refine goesL_ (some 176) rfl rfl Try.func13 (by kernel_rfl) rfl #[.agg #[.int .i64 t429, .int .i64 t430, .int .i64 t431], .agg #[.int .i64 t432, .int .i64 t433, .int .i64 t434, .int .i64 t435]] rfl (by (try simp only [List.map_toArray, List.map_cons, List.map_nil]); first | done | rfl | (simp only [List.length_drop, List.length_take]; rfl)) ?_; (with_reducible refine (impl_CaseOf.calls t429 t430 t431 t432 t433 t434 t435 t483 t484 t485 t486 t487 t488 _ A181.out).mono ?_); rintro e w197 ⟨rfl, hb⟩; refine ⟨_, rfl, ?_⟩; have n0_ := Aside0.mk (blk_below (g := gb438) (o := .cells #[.int .i64 t429, .int .i64 t430, .int .i64 t431] 30 (0, 0)) (by (with_reducible repeat (first | refine blk_drewN ?_ _ | refine blk_drew ?_ | refine blk_alloc ?_ _)); exact BK438.out) hb); have n1_ := Aside0.mk (blk_below (g := gb439) (o := .cells #[.int .i64 t432, .int .i64 t433, .int .i64 t434, .int .i64 t435] 32 (0, 0)) (by (with_reducible repeat (first | refine blk_drewN ?_ _ | refine blk_drew ?_ | refine blk_alloc ?_ _)); exact BK439.out) hb); have n2_ := Aside0.mk (blk_below (g := gb440) (o := .cells #[.int .i64 t436, .int .i64 t437] 52 (0, 0)) (by (with_reducible repeat (first | refine blk_drewN ?_ _ | refine blk_drew ?_ | refine blk_alloc ?_ _)); exact BK440.out) hb); have n3_ := Aside0.mk (blk_below (g := gb452) (o := .cells #[.int .i64 t449, .int .i64 t450, .int .i64 t451] 30 (0, 0)) (by (with_reducible repeat (first | refine blk_drewN ?_ _ | refine blk_drew ?_ | refine blk_alloc ?_ _)); exact BK452.out) hb); have n4_ := Aside0.mk (blk_below (g := gb463) (o := .cells #[.int .i64 t457, .int .i64 t458, .int .i64 t459, .int .i64 t460] 40 (0, 0)) (by (with_reducible repeat (first | refine blk_drewN ?_ _ | refine blk_drew ?_ | refine blk_alloc ?_ _)); exact BK463.out) hb); have n5_ := Aside0.mk (blk_below (g := gb468) (o := .cells #[.int .i64 t464, .int .i64 t465, .int .i64 t466] 30 (0, 0)) (by (with_reducible repeat (first | refine blk_drewN ?_ _ | refine blk_drew ?_ | refine blk_alloc ?_ _)); exact BK468.out) hb); have n6_ := Aside0.mk (blk_below (g := gb473) (o := .cells #[.int .i64 t469, .int .i64 t470, .int .i64 t471] 30 (0, 0)) (by (with_reducible repeat (first | refine blk_drewN ?_ _ | refine blk_drew ?_ | refine blk_alloc ?_ _)); exact BK473.out) hb); have n7_ := Aside0.mk (below_step (by repeat (first | (with_reducible first | exact HB.out | apply below_alloc | apply pw_below_drewN | apply below_drew1 | refine below_set ?_ GE438.out | refine below_set ?_ GE439.out | refine below_set ?_ GE440.out | refine below_set ?_ GE452.out | refine below_set ?_ GE463.out | refine below_set ?_ GE468.out | refine below_set ?_ GE473.out) | exact HB.out)) hb); clear BK438; clear BK439; clear BK440; clear BK452; clear BK463; clear BK468; clear BK473; clear HB; have BK438 := n0_; have BK439 := n1_; have BK440 := n2_; have BK452 := n3_; have BK463 := n4_; have BK468 := n5_; have BK473 := n6_; have HB := n7_; clear n0_ n1_ n2_ n3_ n4_ n5_ n6_ n7_; (try clear hb)) | ((with_reducible refine gate_dst (N := 28) rfl ?_); refine box_event ?hg (N := 28) ?hd (cs := #[.int .i64 0, .int .i64 0, .int .i64 0, .int .i64 0, .int .i64 0]) (t := 27) ?hr ?_; (case hd => rfl); (case hg => rfl); (case hr => first | (go_simp; done) | (go_simp; rfl)); intro gb489 hg w198 hbox hb; have n0_ := Aside0.mk (blk_below (g := gb438) (o := .cells #[.int .i64 t429, .int .i64 t430, .int .i64 t431] 30 (0, 0)) (by (with_reducible repeat (first | refine blk_drewN ?_ _ | refine blk_drew ?_ | refine blk_alloc ?_ _)); exact BK438.out) hb); have n1_ := Aside0.mk (blk_below (g := gb439) (o := .cells #[.int .i64 t432, .int .i64 t433, .int .i64 t434, .int .i64 t435] 32 (0, 0)) (by (with_reducible repeat (first | refine blk_drewN ?_ _ | refine blk_drew ?_ | refine blk_alloc ?_ _)); exact BK439.out) hb); have n2_ := Aside0.mk (blk_below (g := gb440) (o := .cells #[.int .i64 t436, .int .i64 t437] 52 (0, 0)) (by (with_reducible repeat (first | refine blk_drewN ?_ _ | refine blk_drew ?_ | refine blk_alloc ?_ _)); exact BK440.out) hb); have n3_ := Aside0.mk (blk_below (g := gb452) (o := .cells #[.int .i64 t449, .int .i64 t450, .int .i64 t451] 30 (0, 0)) (by (with_reducible repeat (first | refine blk_drewN ?_ _ | refine blk_drew ?_ | refine blk_alloc ?_ _)); exact BK452.out) hb); have n4_ := Aside0.mk (blk_below (g := gb463) (o := .cells #[.int .i64 t457, .int .i64 t458, .int .i64 t459, .int .i64 t460] 40 (0, 0)) (by (with_reducible repeat (first | refine blk_drewN ?_ _ | refine blk_drew ?_ | refine blk_alloc ?_ _)); exact BK463.out) hb); have n5_ := Aside0.mk (blk_below (g := gb468) (o := .cells #[.int .i64 t464, .int .i64 t465, .int .i64 t466] 30 (0, 0)) (by (with_reducible repeat (first | refine blk_drewN ?_ _ | refine blk_drew ?_ | refine blk_alloc ?_ _)); exact BK468.out) hb); have n6_ := Aside0.mk (blk_below (g := gb473) (o := .cells #[.int .i64 t469, .int .i64 t470, .int .i64 t471] 30 (0, 0)) (by (with_reducible repeat (first | refine blk_drewN ?_ _ | refine blk_drew ?_ | refine blk_alloc ?_ _)); exact BK473.out) hb); have n7_ := Aside0.mk (below_step (by repeat (first | (with_reducible first | exact HB.out | apply below_alloc | apply pw_below_drewN | apply below_drew1 | refine below_set ?_ GE438.out | refine below_set ?_ GE439.out | refine below_set ?_ GE440.out | refine below_set ?_ GE452.out | refine below_set ?_ GE463.out | refine below_set ?_ GE468.out | refine below_set ?_ GE473.out) | exact HB.out)) hb); have n8_ := Aside0.mk (hbox); have n9_ := Aside0.mk ((by rw [hg]; exact (below_size (by repeat (first | (with_reducible first | exact HB.out | apply below_alloc | apply pw_below_drewN | apply below_drew1 | refine below_set ?_ GE438.out | refine below_set ?_ GE439.out | refine below_set ?_ GE440.out | refine below_set ?_ GE452.out | refine below_set ?_ GE463.out | refine below_set ?_ GE468.out | refine below_set ?_ GE473.out) | exact HB.out))) : w.heap.size ≤ gb489)); have n10_ := n9_; have n11_ := Aside0.mk ((by rw [hg]; exact Nat.ne_of_lt (blk_lt (g := gb438) (o := .cells #[.int .i64 t429, .int .i64 t430, .int .i64 t431] 30 (0, 0)) (by (with_reducible repeat (first | refine blk_drewN ?_ _ | refine blk_drew ?_ | refine blk_alloc ?_ _)); exact BK438.out)) : gb438 ≠ gb489)); have n12_ := Aside0.mk n11_.out.symm; have n13_ := Aside0.mk ((by rw [hg]; exact Nat.ne_of_lt (blk_lt (g := gb439) (o := .cells #[.int .i64 t432, .int .i64 t433, .int .i64 t434, .int .i64 t435] 32 (0, 0)) (by (with_reducible repeat (first | refine blk_drewN ?_ _ | refine blk_drew ?_ | refine blk_alloc ?_ _)); exact BK439.out)) : gb439 ≠ gb489)); have n14_ := Aside0.mk n13_.out.symm; have n15_ := Aside0.mk ((by rw [hg]; exact Nat.ne_of_lt (blk_lt (g := gb440) (o := .cells #[.int .i64 t436, .int .i64 t437] 52 (0, 0)) (by (with_reducible repeat (first | refine blk_drewN ?_ _ | refine blk_drew ?_ | refine blk_alloc ?_ _)); exact BK440.out)) : gb440 ≠ gb489)); have n16_ := Aside0.mk n15_.out.symm; have n17_ := Aside0.mk ((by rw [hg]; exact Nat.ne_of_lt (blk_lt (g := gb452) (o := .cells #[.int .i64 t449, .int .i64 t450, .int .i64 t451] 30 (0, 0)) (by (with_reducible repeat (first | refine blk_drewN ?_ _ | refine blk_drew ?_ | refine blk_alloc ?_ _)); exact BK452.out)) : gb452 ≠ gb489)); have n18_ := Aside0.mk n17_.out.symm; have n19_ := Aside0.mk ((by rw [hg]; exact Nat.ne_of_lt (blk_lt (g := gb463) (o := .cells #[.int .i64 t457, .int .i64 t458, .int .i64 t459, .int .i64 t460] 40 (0, 0)) (by (with_reducible repeat (first | refine blk_drewN ?_ _ | refine blk_drew ?_ | refine blk_alloc ?_ _)); exact BK463.out)) : gb463 ≠ gb489)); have n20_ := Aside0.mk n19_.out.symm; have n21_ := Aside0.mk ((by rw [hg]; exact Nat.ne_of_lt (blk_lt (g := gb468) (o := .cells #[.int .i64 t464, .int .i64 t465, .int .i64 t466] 30 (0, 0)) (by (with_reducible repeat (first | refine blk_drewN ?_ _ | refine blk_drew ?_ | refine blk_alloc ?_ _)); exact BK468.out)) : gb468 ≠ gb489)); have n22_ := Aside0.mk n21_.out.symm; have n23_ := Aside0.mk ((by rw [hg]; exact Nat.ne_of_lt (blk_lt (g := gb473) (o := .cells #[.int .i64 t469, .int .i64 t470, .int .i64 t471] 30 (0, 0)) (by (with_reducible repeat (first | refine blk_drewN ?_ _ | refine blk_drew ?_ | refine blk_alloc ?_ _)); exact BK473.out)) : gb473 ≠ gb489)); have n24_ := Aside0.mk n23_.out.symm; clear BK438; clear BK439; clear BK440; clear BK452; clear BK463; clear BK468; clear BK473; clear HB; have BK438 := n0_; have BK439 := n1_; have BK440 := n2_; have BK452 := n3_; have BK463 := n4_; have BK468 := n5_; have BK473 := n6_; have HB := n7_; have BK489 := n8_; have GW489 := n9_; have GE489 := n10_; have NB438_489 := n11_; have NB489_438 := n12_; have NB439_489 := n13_; have NB489_439 := n14_; have NB440_489 := n15_; have NB489_440 := n16_; have NB452_489 := n17_; have NB489_452 := n18_; have NB463_489 := n19_; have NB489_463 := n20_; have NB468_489 := n21_; have NB489_468 := n22_; have NB473_489 := n23_; have NB489_473 := n24_; clear n0_ n1_ n2_ n3_ n4_ n5_ n6_ n7_ n8_ n9_ n10_ n11_ n12_ n13_ n14_ n15_ n16_ n17_ n18_ n19_ n20_ n21_ n22_ n23_ n24_; clear hb hbox hg; have hnb199 := NB489_438.out; have hnc199 := NB438_489.out; have hnb200 := NB489_439.out; have hnc200 := NB439_489.out; have hnb201 := NB489_440.out; have hnc201 := NB440_489.out; have hnb202 := NB489_452.out; have hnc202 := NB452_489.out; have hnb203 := NB489_463.out; have hnc203 := NB463_489.out; have hnb204 := NB489_468.out; have hnc204 := NB468_489.out; have hnb205 := NB489_473.out; have hnc205 := NB473_489.out; have hcz206_0 : w198.cell? ⟨gb489, 0, none⟩ = some (.int .i64 0) := (blk_cell BK489.out 0).trans rfl; have hcz206_1 : w198.cell? ⟨gb489, 1, none⟩ = some (.int .i64 0) := (blk_cell BK489.out 1).trans rfl; have hcz206_2 : w198.cell? ⟨gb489, 2, none⟩ = some (.int .i64 0) := (blk_cell BK489.out 2).trans rfl; have hcz206_3 : w198.cell? ⟨gb489, 3, none⟩ = some (.int .i64 0) := (blk_cell BK489.out 3).trans rfl; have hcz206_4 : w198.cell? ⟨gb489, 4, none⟩ = some (.int .i64 0) := (blk_cell BK489.out 4).trans rfl; have hfz206_0 := blk_frozen BK489.out 0; have hfz206_1 := blk_frozen BK489.out 1; have hfz206_2 := blk_frozen BK489.out 2; have hfz206_3 := blk_frozen BK489.out 3; have hfz206_4 := blk_frozen BK489.out 4; have hnb207 := NB440_452.out; have hnc207 := NB452_440.out; have hnb208 := NB440_463.out; have hnc208 := NB463_440.out; have hnb209 := NB440_468.out; have hnc209 := NB468_440.out; have hnb210 := NB440_473.out; have hnc210 := NB473_440.out; have hcz211_0 : w198.cell? ⟨gb440, 0, none⟩ = some (.int .i64 t436) := (blk_cell BK440.out 0).trans rfl; have hcz211_1 : w198.cell? ⟨gb440, 1, none⟩ = some (.int .i64 t437) := (blk_cell BK440.out 1).trans rfl; have hfz211_0 := blk_frozen BK440.out 0; have hfz211_1 := blk_frozen BK440.out 1))
         go_ret
         exact ⟨by first | rfl | (simp [errW_none, errW_some] <;> rfl) | (simp [*, errW_none, errW_some] <;> rfl), by repeat (first | (with_reducible first | exact HB.out | apply below_alloc | apply pw_below_drewN | apply below_drew1 | refine below_set ?_ GE438.out | refine below_set ?_ GE439.out | refine below_set ?_ GE440.out | refine below_set ?_ GE452.out | refine below_set ?_ GE463.out | refine below_set ?_ GE468.out | refine below_set ?_ GE473.out | refine below_set ?_ GE489.out) | exact HB.out)⟩
        ·rw [if_neg c183] at H
         have c183b0 : decide ((wrap64 ((wrap64 (t441 * t483)) * t484)) ≤ (wrap64 (t436 * t437))) = false := decide_eq_false c183
         clear c183
         exact absurd ((Option.some.inj H).trans hr_.out) (by decide)
       ·rw [if_neg c182] at H
        have c182b0 : (t488 == 0) = false := beq_eq_false_iff_ne.mpr c182
        have c182b1 : (t488 != 0) = true := bne_iff_ne.mpr c182
        exact absurd ((Option.some.inj H).trans hr_.out) (by decide)
      ·rw [if_neg c180] at H
       have c180b0 : (t442 == 0) = false := beq_eq_false_iff_ne.mpr c180
       have c180b1 : (t442 != 0) = true := bne_iff_ne.mpr c180
       obtain rfl := Option.some.inj H
       go_wp2
       go_ret
       exact ⟨by first | rfl | (simp [errW_none, errW_some] <;> rfl) | (simp [*, errW_none, errW_some] <;> rfl), by repeat (first | (with_reducible first | exact HB.out | apply below_alloc | apply pw_below_drewN | apply below_drew1 | refine below_set ?_ GE438.out | refine below_set ?_ GE439.out | refine below_set ?_ GE440.out | refine below_set ?_ GE452.out | refine below_set ?_ GE463.out | refine below_set ?_ GE468.out | refine below_set ?_ GE473.out) | exact HB.out)⟩

end Go.Proofs.Ytleeadjdepikeaa.PFnBoards
