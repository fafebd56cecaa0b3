import Derived.Test.YtleeadjdepikeaaPFnCasesx0
import Derived.Test.YtleeadjdepikeaaPFnCasesx1
import Derived.Test.YtleeadjdepikeaaPFnCasesx2
import Derived.Test.YtleeadjdepikeaaPFnCasesx3
import Derived.Test.YtleeadjdepikeaaPFnCasesx4
import Derived.Test.YtleeadjdepikeaaPFnCasesx5
import Derived.Test.YtleeadjdepikeaaPFnCasesx6
namespace Go.Proofs.Ytleeadjdepikeaa.PFnCases
open Go.RowKit Go.Proofs.YtleeadjdepikeaaW.PrintWords Go.Proofs.YtleeadjdepikeaaW.PrintLast Go.Proofs.YtleeadjdepikeaaW.PrintMore
attribute [local go_sem] max2_int min2_int max_two min_two max_three min_three max_four min_four   -- for this text's walks alone
open Go.Proofs.YtleeadjdepikeaaW.PrintWords renaming blk_drewN→bN, blk_drew→b1, blk_alloc→bA, blk_far→bF, blk_put→bP, blk_below→bB, blk_cell→bC, pw_below_drewN→pN, below_alloc→pA, below_drew1→p1, below_set→pS, below_step→pT
open List renaming setIfInBounds_toArray→sa_, set_cons_zero→sb_, set_cons_succ→sc_
abbrev ab0_ : Array Bool := #[false,false,false,false,false,false,false,false,false,false,false,false,false,false,false,false,false,false,false,false,false,false,false,false,false,false,false,false,false,false,false,false]
abbrev ab1_ : Array Bool := #[true,false,false,false,false,false,false,false,false,false,false,false,false,false,false,false,false,false,false,false,false,false,false,false,false,false,false,false,false,false,false,false]
abbrev ab2_ : Array Bool := #[true,true,false,false,false,false,false,false,false,false,false,false,false,false,false,false,false,false,false,false,false,false,false,false,false,false,false,false,false,false,false,false]
abbrev ab3_ : Array Bool := #[true,true,true,false,false,false,false,false,false,false,false,false,false,false,false,false,false,false,false,false,false,false,false,false,false,false,false,false,false,false,false,false]
abbrev ab4_ : Array Bool := #[true,true,true,true,false,false,false,false,false,false,false,false,false,false,false,false,false,false,false,false,false,false,false,false,false,false,false,false,false,false,false,false]
abbrev ab5_ : Array Bool := #[true,true,true,true,true,false,false,false,false,false,false,false,false,false,false,false,false,false,false,false,false,false,false,false,false,false,false,false,false,false,false,false]
abbrev ab6_ : Array Bool := #[true,true,true,true,true,true,false,false,false,false,false,false,false,false,false,false,false,false,false,false,false,false,false,false,false,false,false,false,false,false,false,false]
abbrev ab7_ : Array Bool := #[true,true,true,true,true,true,true,false,false,false,false,false,false,false,false,false,false,false,false,false,false,false,false,false,false,false,false,false,false,false,false,false]
abbrev ab8_ : Array Bool := #[true,true,true,true,true,true,true,true,false,false,false,false,false,false,false,false,false,false,false,false,false,false,false,false,false,false,false,false,false,false,false,false]
abbrev ab9_ : Array Bool := #[true,true,true,true,true,true,true,true,true,false,false,false,false,false,false,false,false,false,false,false,false,false,false,false,false,false,false,false,false,false,false,false]
abbrev ab10_ : Array Bool := #[true,true,true,true,true,true,true,true,true,true,false,false,false,false,false,false,false,false,false,false,false,false,false,false,false,false,false,false,false,false,false,false]
abbrev ab11_ : Array Bool := #[true,true,true,true,true,true,true,true,true,true,true,false,false,false,false,false,false,false,false,false,false,false,false,false,false,false,false,false,false,false,false,false]
abbrev ab12_ : Array Bool := #[true,true,true,true,true,true,true,true,true,true,true,true,false,false,false,false,false,false,false,false,false,false,false,false,false,false,false,false,false,false,false,false]
abbrev ab13_ : Array Bool := #[true,true,true,true,true,true,true,true,true,true,true,true,true,false,false,false,false,false,false,false,false,false,false,false,false,false,false,false,false,false,false,false]
abbrev ab14_ : Array Bool := #[true,true,true,true,true,true,true,true,true,true,true,true,true,true,false,false,false,false,false,false,false,false,false,false,false,false,false,false,false,false,false,false]
abbrev ab15_ : Array Bool := #[true,true,true,true,true,true,true,true,true,true,true,true,true,true,true,false,false,false,false,false,false,false,false,false,false,false,false,false,false,false,false,false]
abbrev ab16_ : Array Bool := #[true,true,true,true,true,true,true,true,true,true,true,true,true,true,true,true,false,false,false,false,false,false,false,false,false,false,false,false,false,false,false,false]
abbrev ab17_ : Array Bool := #[true,true,true,true,true,true,true,true,true,true,true,true,true,true,true,true,true,false,false,false,false,false,false,false,false,false,false,false,false,false,false,false]
abbrev ab18_ : Array Bool := #[true,true,true,true,true,true,true,true,true,true,true,true,true,true,true,true,true,true,false,false,false,false,false,false,false,false,false,false,false,false,false,false]
abbrev ab19_ : Array Bool := #[true,true,true,true,true,true,true,true,true,true,true,true,true,true,true,true,true,true,true,false,false,false,false,false,false,false,false,false,false,false,false,false]
abbrev ab20_ : Array Bool := #[true,true,true,true,true,true,true,true,true,true,true,true,true,true,true,true,true,true,true,true,false,false,false,false,false,false,false,false,false,false,false,false]
abbrev ab21_ : Array Bool := #[true,true,true,true,true,true,true,true,true,true,true,true,true,true,true,true,true,true,true,true,false,true,false,false,false,false,false,false,false,false,false,false]
abbrev ab22_ : Array Bool := #[true,true,true,true,true,true,true,true,true,true,true,true,true,true,true,true,true,true,true,true,true,false,false,false,false,false,false,false,false,false,false,false]
abbrev ab23_ : Array Bool := #[true,true,true,true,true,true,true,true,true,true,true,true,true,true,true,true,true,true,true,true,true,true,false,false,false,false,false,false,false,false,false,false]
abbrev ab24_ : Array Bool := #[true,true,true,true,true,true,true,true,true,true,true,true,true,true,true,true,true,true,true,true,true,true,true,false,false,false,false,false,false,false,false,false]
abbrev ab25_ : Array Bool := #[true,true,true,true,true,true,true,true,true,true,true,true,true,true,true,true,true,true,true,true,true,true,true,true,false,false,false,false,false,false,false,false]
abbrev ab26_ : Array Bool := #[true,true,true,true,true,true,true,true,true,true,true,true,true,true,true,true,true,true,true,true,true,true,true,true,true,false,false,false,false,false,false,false]
abbrev ab27_ : Array Bool := #[true,true,true,true,true,true,true,true,true,true,true,true,true,true,true,true,true,true,true,true,true,true,true,true,true,true,false,false,false,false,false,false]
abbrev ab28_ : Array Bool := #[true,true,true,true,true,true,true,true,true,true,true,true,true,true,true,true,true,true,true,true,true,true,true,true,true,true,true,false,false,false,false,false]
abbrev ab29_ : Array Bool := #[true,true,true,true,true,true,true,true,true,true,true,true,true,true,true,true,true,true,true,true,true,true,true,true,true,true,true,false,true,false,false,false]
abbrev ab30_ : Array Bool := #[true,true,true,true,true,true,true,true,true,true,true,true,true,true,true,true,true,true,true,true,true,true,true,true,true,true,true,true,false,false,false,false]
abbrev ab31_ : Array Bool := #[true,true,true,true,true,true,true,true,true,true,true,true,true,true,true,true,true,true,true,true,true,true,true,true,true,true,true,true,true,false,false,false]
abbrev ab32_ : Array Bool := #[true,true,true,true,true,true,true,true,true,true,true,true,true,true,true,true,true,true,true,true,true,true,true,true,true,true,true,true,true,true,false,false]
abbrev ab33_ : Array Bool := #[true,true,true,true,true,true,true,true,true,true,true,true,true,true,true,true,true,true,true,true,true,true,true,true,true,true,true,true,true,true,true,false]
abbrev ab34_ : Array Bool := #[true,true,true,true,true,true,true,true,true,true,true,true,true,true,true,true,true,true,true,true,true,true,true,true,true,true,true,true,true,true,true,true]
theorem ak_ {p : Prop} (h : p) : Aside0 p := ⟨h⟩
set_option linter.unusedVariables false
set_option linter.unusedSimpArgs false

attribute [local go_sem high] eqA27 eqA30
mutual
def laws_FnCases.j0 : Nat → Int → Int → Bool → Int → Int → Int → Int → Int → Int → Int → Int → Int → Int → Int → Int → Int → Int → Int → Int → Int → Int → Int → Int → Int → Int → Int → Int → Option (Bool)
 | 0, _, _, _, _, _, _, _, _, _, _, _, _, _, _, _, _, _, _, _, _, _, _, _, _, _, _, _ => none
 | k + 1, x6, x12, x86, x278000, x278001, x278002, x279000, x279001, x279002, x279003, x286000, x286001, x286002, x286003, x286004, x303000, x303001, x303002, x303003, x303004, x304000, x304001, x304002, x304003, x309000, x309001, x309002 => if x86 = true then (some false) else (if x12 = 0 then ((impl_CaseOf.f x309000 x309001 x309002 x304000 x304001 x304002 x304003).bind fun bt318 => (if bt318.2.2.2.2.2 = 0 then (laws_FnCases.j1 k x6 (!(bt318.1 == x303000) || (!(bt318.2.1 == x303001) || (!(bt318.2.2.1 == x303002) || (!(bt318.2.2.2.1 == x303003) || (!(bt318.2.2.2.2.1 == x303004)))))) x278000 x278001 x278002 x279000 x279001 x279002 x279003 x286000 x286001 x286002 x286003 x286004) else (laws_FnCases.j1 k x6 true x278000 x278001 x278002 x279000 x279001 x279002 x279003 x286000 x286001 x286002 x286003 x286004))) else (if x6 = 0 then ((impl_BlockFor.f x286000 x286001 x286002 x286003 x286004 x279000 x279001 x279002 x279003).bind fun bt330 => (if bt330.2.2.2 = 0 then (some (bt330.1 == x278000 && (bt330.2.1 == x278001 && (bt330.2.2.1 == x278002)))) else (some false))) else (some true)))
def laws_FnCases.j1 : Nat → Int → Bool → Int → Int → Int → Int → Int → Int → Int → Int → Int → Int → Int → Int → Option (Bool)
 | 0, _, _, _, _, _, _, _, _, _, _, _, _, _, _ => none
 | k + 1, x6, x101, x278000, x278001, x278002, x279000, x279001, x279002, x279003, x286000, x286001, x286002, x286003, x286004 => if x101 = true then (some false) else (if x6 = 0 then ((impl_BlockFor.f x286000 x286001 x286002 x286003 x286004 x279000 x279001 x279002 x279003).bind fun bt325 => (if bt325.2.2.2 = 0 then (some (bt325.1 == x278000 && (bt325.2.1 == x278001 && (bt325.2.2.1 == x278002)))) else (some false))) else (some true))
end
def laws_FnCases.f (k : Nat) (l0 : List Int) : Option (Bool) := (laws_big.f l0).bind fun t269 => (if t269 = true then (some true) else ((spec_DrawCaseOf.f k l0).bind fun bt270 => ((impl_CaseOf.f bt270.1 bt270.2.1 bt270.2.2.1 bt270.2.2.2.1 bt270.2.2.2.2.1 bt270.2.2.2.2.2.1 bt270.2.2.2.2.2.2).bind fun bt279 => ((spec_CaseOf.f k bt270.1 bt270.2.1 bt270.2.2.1 bt270.2.2.2.1 bt270.2.2.2.2.1 bt270.2.2.2.2.2.1 bt270.2.2.2.2.2.2).bind fun bt286 => ((spec_DrawBlockFor.f k l0).bind fun bt293 => ((impl_BlockFor.f bt293.1 bt293.2.1 bt293.2.2.1 bt293.2.2.2.1 bt293.2.2.2.2.1 bt293.2.2.2.2.2.1 bt293.2.2.2.2.2.2.1 bt293.2.2.2.2.2.2.2.1 bt293.2.2.2.2.2.2.2.2).bind fun bt304 => ((spec_BlockFor.f k bt293.1 bt293.2.1 bt293.2.2.1 bt293.2.2.2.1 bt293.2.2.2.2.1 bt293.2.2.2.2.2.1 bt293.2.2.2.2.2.2.1 bt293.2.2.2.2.2.2.2.1 bt293.2.2.2.2.2.2.2.2).bind fun bt309 => (if bt279.2.2.2.2.2 = bt286.2.2.2.2.2 then (if (!(bt279.1 == bt286.1) || (!(bt279.2.1 == bt286.2.1) || (!(bt279.2.2.1 == bt286.2.2.1) || (!(bt279.2.2.2.1 == bt286.2.2.2.1) || (!(bt279.2.2.2.2.1 == bt286.2.2.2.2.1)))))) = true then (laws_FnCases.j0 k bt279.2.2.2.2.2 bt304.2.2.2 true bt270.1 bt270.2.1 bt270.2.2.1 bt270.2.2.2.1 bt270.2.2.2.2.1 bt270.2.2.2.2.2.1 bt270.2.2.2.2.2.2 bt279.1 bt279.2.1 bt279.2.2.1 bt279.2.2.2.1 bt279.2.2.2.2.1 bt293.1 bt293.2.1 bt293.2.2.1 bt293.2.2.2.1 bt293.2.2.2.2.1 bt293.2.2.2.2.2.1 bt293.2.2.2.2.2.2.1 bt293.2.2.2.2.2.2.2.1 bt293.2.2.2.2.2.2.2.2 bt304.1 bt304.2.1 bt304.2.2.1) else (if bt304.2.2.2 = bt309.2.2.2 then (if (!(bt304.1 == bt309.1) || (!(bt304.2.1 == bt309.2.1) || (!(bt304.2.2.1 == bt309.2.2.1)))) = true then (laws_FnCases.j0 k bt279.2.2.2.2.2 bt304.2.2.2 true bt270.1 bt270.2.1 bt270.2.2.1 bt270.2.2.2.1 bt270.2.2.2.2.1 bt270.2.2.2.2.2.1 bt270.2.2.2.2.2.2 bt279.1 bt279.2.1 bt279.2.2.1 bt279.2.2.2.1 bt279.2.2.2.2.1 bt293.1 bt293.2.1 bt293.2.2.1 bt293.2.2.2.1 bt293.2.2.2.2.1 bt293.2.2.2.2.2.1 bt293.2.2.2.2.2.2.1 bt293.2.2.2.2.2.2.2.1 bt293.2.2.2.2.2.2.2.2 bt304.1 bt304.2.1 bt304.2.2.1) else ((impl_IsBlock.f bt270.1 bt270.2.1 bt270.2.2.1).bind fun t314 => ((spec_IsBlock.f bt270.1 bt270.2.1 bt270.2.2.1).bind fun t315 => (if (t314 != t315) = true then (laws_FnCases.j0 k bt279.2.2.2.2.2 bt304.2.2.2 true bt270.1 bt270.2.1 bt270.2.2.1 bt270.2.2.2.1 bt270.2.2.2.2.1 bt270.2.2.2.2.2.1 bt270.2.2.2.2.2.2 bt279.1 bt279.2.1 bt279.2.2.1 bt279.2.2.2.1 bt279.2.2.2.2.1 bt293.1 bt293.2.1 bt293.2.2.1 bt293.2.2.2.1 bt293.2.2.2.2.1 bt293.2.2.2.2.2.1 bt293.2.2.2.2.2.2.1 bt293.2.2.2.2.2.2.2.1 bt293.2.2.2.2.2.2.2.2 bt304.1 bt304.2.1 bt304.2.2.1) else ((impl_IsCaseRule.f bt270.2.2.2.1 bt270.2.2.2.2.1 bt270.2.2.2.2.2.1 bt270.2.2.2.2.2.2).bind fun t316 => ((spec_IsCaseRule.f bt270.2.2.2.1 bt270.2.2.2.2.1 bt270.2.2.2.2.2.1 bt270.2.2.2.2.2.2).bind fun t317 => (laws_FnCases.j0 k bt279.2.2.2.2.2 bt304.2.2.2 (t316 != t317) bt270.1 bt270.2.1 bt270.2.2.1 bt270.2.2.2.1 bt270.2.2.2.2.1 bt270.2.2.2.2.2.1 bt270.2.2.2.2.2.2 bt279.1 bt279.2.1 bt279.2.2.1 bt279.2.2.2.1 bt279.2.2.2.2.1 bt293.1 bt293.2.1 bt293.2.2.1 bt293.2.2.2.1 bt293.2.2.2.2.1 bt293.2.2.2.2.2.1 bt293.2.2.2.2.2.2.1 bt293.2.2.2.2.2.2.2.1 bt293.2.2.2.2.2.2.2.2 bt304.1 bt304.2.1 bt304.2.2.1))))))) else (laws_FnCases.j0 k bt279.2.2.2.2.2 bt304.2.2.2 true bt270.1 bt270.2.1 bt270.2.2.1 bt270.2.2.2.1 bt270.2.2.2.2.1 bt270.2.2.2.2.2.1 bt270.2.2.2.2.2.2 bt279.1 bt279.2.1 bt279.2.2.1 bt279.2.2.2.1 bt279.2.2.2.2.1 bt293.1 bt293.2.1 bt293.2.2.1 bt293.2.2.2.1 bt293.2.2.2.2.1 bt293.2.2.2.2.2.1 bt293.2.2.2.2.2.2.1 bt293.2.2.2.2.2.2.2.1 bt293.2.2.2.2.2.2.2.2 bt304.1 bt304.2.1 bt304.2.2.1))) else (laws_FnCases.j0 k bt279.2.2.2.2.2 bt304.2.2.2 true bt270.1 bt270.2.1 bt270.2.2.1 bt270.2.2.2.1 bt270.2.2.2.2.1 bt270.2.2.2.2.2.1 bt270.2.2.2.2.2.2 bt279.1 bt279.2.1 bt279.2.2.1 bt279.2.2.2.1 bt279.2.2.2.2.1 bt293.1 bt293.2.1 bt293.2.2.1 bt293.2.2.2.1 bt293.2.2.2.2.1 bt293.2.2.2.2.2.1 bt293.2.2.2.2.2.2.1 bt293.2.2.2.2.2.2.2.1 bt293.2.2.2.2.2.2.2.2 bt304.1 bt304.2.1 bt304.2.2.1)))))))))
theorem laws_FnCases.mono_l : ∀ k, (∀ y0 y1 y2 y3 y4 y5 y6 y7 y8 y9 y10 y11 y12 y13 y14 y15 y16 y17 y18 y19 y20 y21 y22 y23 y24 y25 y26, LeO (laws_FnCases.j0 k y0 y1 y2 y3 y4 y5 y6 y7 y8 y9 y10 y11 y12 y13 y14 y15 y16 y17 y18 y19 y20 y21 y22 y23 y24 y25 y26) (laws_FnCases.j0 (k + 1) y0 y1 y2 y3 y4 y5 y6 y7 y8 y9 y10 y11 y12 y13 y14 y15 y16 y17 y18 y19 y20 y21 y22 y23 y24 y25 y26)) ∧ (∀ y0 y1 y2 y3 y4 y5 y6 y7 y8 y9 y10 y11 y12 y13, LeO (laws_FnCases.j1 k y0 y1 y2 y3 y4 y5 y6 y7 y8 y9 y10 y11 y12 y13) (laws_FnCases.j1 (k + 1) y0 y1 y2 y3 y4 y5 y6 y7 y8 y9 y10 y11 y12 y13))
 | 0 => ⟨fun _ _ _ _ _ _ _ _ _ _ _ _ _ _ _ _ _ _ _ _ _ _ _ _ _ _ _ r h => by simp [laws_FnCases.j0] at h, fun _ _ _ _ _ _ _ _ _ _ _ _ _ _ r h => by simp [laws_FnCases.j1] at h⟩
 | k + 1 => by
  obtain ⟨ih0, ih1⟩ := laws_FnCases.mono_l k
  refine ⟨?_, ?_⟩
  ·intro y0 y1 y2 y3 y4 y5 y6 y7 y8 y9 y10 y11 y12 y13 y14 y15 y16 y17 y18 y19 y20 y21 y22 y23 y24 y25 y26
   unfold laws_FnCases.j0
   repeat' first
   | (with_reducible exact ih0 _ _ _ _ _ _ _ _ _ _ _ _ _ _ _ _ _ _ _ _ _ _ _ _ _ _ _)
   | (with_reducible exact ih1 _ _ _ _ _ _ _ _ _ _ _ _ _ _)
   | (with_reducible exact spec_BlockFor.mono _ _ _ _ _ _ _ _ _ _)
   | (with_reducible exact spec_CaseOf.mono _ _ _ _ _ _ _ _)
   | (with_reducible exact spec_DrawBlockFor.mono _ _)
   | (with_reducible exact spec_DrawCaseOf.mono _ _)
   | (with_reducible exact LeO.refl _)
   | (with_reducible exact LeO.none _)
   | (with_reducible refine LeO.ite ?_ ?_)
   | (with_reducible refine LeO.bind ?_ (fun _ => ?_))
   | exact ih0 _ _ _ _ _ _ _ _ _ _ _ _ _ _ _ _ _ _ _ _ _ _ _ _ _ _ _
   | exact ih1 _ _ _ _ _ _ _ _ _ _ _ _ _ _
   | exact spec_BlockFor.mono _ _ _ _ _ _ _ _ _ _
   | exact spec_CaseOf.mono _ _ _ _ _ _ _ _
   | exact spec_DrawBlockFor.mono _ _
   | exact spec_DrawCaseOf.mono _ _
   | exact LeO.none _
   | refine LeO.ite ?_ ?_
   | refine LeO.bind ?_ (fun _ => ?_)
  ·intro y0 y1 y2 y3 y4 y5 y6 y7 y8 y9 y10 y11 y12 y13
   unfold laws_FnCases.j1
   repeat' first
   | (with_reducible exact ih0 _ _ _ _ _ _ _ _ _ _ _ _ _ _ _ _ _ _ _ _ _ _ _ _ _ _ _)
   | (with_reducible exact ih1 _ _ _ _ _ _ _ _ _ _ _ _ _ _)
   | (with_reducible exact spec_BlockFor.mono _ _ _ _ _ _ _ _ _ _)
   | (with_reducible exact spec_CaseOf.mono _ _ _ _ _ _ _ _)
   | (with_reducible exact spec_DrawBlockFor.mono _ _)
   | (with_reducible exact spec_DrawCaseOf.mono _ _)
   | (with_reducible exact LeO.refl _)
   | (with_reducible exact LeO.none _)
   | (with_reducible refine LeO.ite ?_ ?_)
   | (with_reducible refine LeO.bind ?_ (fun _ => ?_))
   | exact ih0 _ _ _ _ _ _ _ _ _ _ _ _ _ _ _ _ _ _ _ _ _ _ _ _ _ _ _
   | exact ih1 _ _ _ _ _ _ _ _ _ _ _ _ _ _
   | exact spec_BlockFor.mono _ _ _ _ _ _ _ _ _ _
   | exact spec_CaseOf.mono _ _ _ _ _ _ _ _
   | exact spec_DrawBlockFor.mono _ _
   | exact spec_DrawCaseOf.mono _ _
   | exact LeO.none _
   | refine LeO.ite ?_ ?_
   | refine LeO.bind ?_ (fun _ => ?_)
theorem laws_FnCases.mono : ∀ a0 k, LeO (laws_FnCases.f k a0) (laws_FnCases.f (k + 1) a0) := by
 intro a0 k
 obtain ⟨ih0, ih1⟩ := laws_FnCases.mono_l k
 unfold laws_FnCases.f
 repeat' first
   | (with_reducible exact ih0 _ _ _ _ _ _ _ _ _ _ _ _ _ _ _ _ _ _ _ _ _ _ _ _ _ _ _)
   | (with_reducible exact ih1 _ _ _ _ _ _ _ _ _ _ _ _ _ _)
   | (with_reducible exact spec_BlockFor.mono _ _ _ _ _ _ _ _ _ _)
   | (with_reducible exact spec_CaseOf.mono _ _ _ _ _ _ _ _)
   | (with_reducible exact spec_DrawBlockFor.mono _ _)
   | (with_reducible exact spec_DrawCaseOf.mono _ _)
   | (with_reducible exact LeO.refl _)
   | (with_reducible exact LeO.none _)
   | (with_reducible refine LeO.ite ?_ ?_)
   | (with_reducible refine LeO.bind ?_ (fun _ => ?_))
   | exact ih0 _ _ _ _ _ _ _ _ _ _ _ _ _ _ _ _ _ _ _ _ _ _ _ _ _ _ _
   | exact ih1 _ _ _ _ _ _ _ _ _ _ _ _ _ _
   | exact spec_BlockFor.mono _ _ _ _ _ _ _ _ _ _
   | exact spec_CaseOf.mono _ _ _ _ _ _ _ _
   | exact spec_DrawBlockFor.mono _ _
   | exact spec_DrawCaseOf.mono _ _
   | exact LeO.none _
   | refine LeO.ite ?_ ?_
   | refine LeO.bind ?_ (fun _ => ?_)
def laws_FnCases.T9 : Bool × List (List Nat × List Nat) := (true, [([], []), ([], []), ([0, 1], [0, 1]), ([2], [2]), ([3], [3]), ([3], [3]), ([4, 5, 3], [3, 4, 5]), ([3, 6], [3, 6]), ([7, 3], [7]), ([8], [8]), ([8], [8]), ([9, 10, 8], [8, 9, 10]), ([8, 11], [8, 11]), ([12, 8], [12]), ([13], [13]), ([13], [13]), ([14, 15, 13], [13, 14, 15]), ([13, 16], [13, 16]), ([17, 13], [17]), ([18], [18]), ([19, 18, 18], [18, 19]), ([18], [18]), ([21, 20, 18], [18, 21]), ([20, 22, 18], [18, 20, 22]), ([18, 23], [18, 23]), ([24, 22], [24]), ([25], [25]), ([26, 25, 25], [25, 26]), ([25], [25]), ([28, 27, 25], [25, 28]), ([27, 29, 25], [25, 27, 29]), ([25, 30], [25, 30])])
def laws_FnCases.B9 : List Nat := [0, 0, 3, 7, 15, 15, 63, 127, 255, 511, 511, 2047, 4095, 8191, 16383, 16383, 65535, 131071, 262143, 524287, 1048575, 524287, 4194303, 8388607, 16777215, 33554431, 67108863, 134217727, 67108863, 536870911, 1073741823, 2147483647]
theorem laws_FnCases.tab9 : rtab .any (opsOf Try.f8 9) = laws_FnCases.T9 := by kernel_rfl
theorem laws_FnCases.bits9 : waitsOk laws_FnCases.T9.2 laws_FnCases.B9 = true := by kernel_rfl
set_option maxHeartbeats 8000000 in
set_option maxRecDepth 100000 in
theorem laws_FnCases.calls (k : Nat) (A0 : Option Addr) (c0 : Nat) (l0 : List Int) (r : Bool) (w : World) (hr0 : Kd.C (Kd.int .u8) w A0 l0.length l0) (hc0 : l0.length ≤ c0) (hr_ : Aside0 (r = true)) (h : laws_FnCases.f k l0 = some r) :
  Calls Try.prog 8 #[.slice A0 l0.length c0] w fun e w' => e = .returned (.bool r) ∧ Below w.heap.size w w' := by
 have hu30:=Try.underlying30
 have hu32:=Try.underlying32
 have hu27:=Try.underlying27
 have HR0:=ak_ hr0
 have HC0:=ak_ hc0
 clear hr0 hc0
 have HB:=ak_ (Below.refl w.heap.size w)
 have H:((laws_big.f l0).bind fun t269=>(if t269=true then (some true) else ((spec_DrawCaseOf.f k l0).bind fun bt270=>((impl_CaseOf.f bt270.1 bt270.2.1 bt270.2.2.1 bt270.2.2.2.1 bt270.2.2.2.2.1 bt270.2.2.2.2.2.1 bt270.2.2.2.2.2.2).bind fun bt279=>((spec_CaseOf.f k bt270.1 bt270.2.1 bt270.2.2.1 bt270.2.2.2.1 bt270.2.2.2.2.1 bt270.2.2.2.2.2.1 bt270.2.2.2.2.2.2).bind fun bt286=>((spec_DrawBlockFor.f k l0).bind fun bt293=>((impl_BlockFor.f bt293.1 bt293.2.1 bt293.2.2.1 bt293.2.2.2.1 bt293.2.2.2.2.1 bt293.2.2.2.2.2.1 bt293.2.2.2.2.2.2.1 bt293.2.2.2.2.2.2.2.1 bt293.2.2.2.2.2.2.2.2).bind fun bt304=>((spec_BlockFor.f k bt293.1 bt293.2.1 bt293.2.2.1 bt293.2.2.2.1 bt293.2.2.2.2.1 bt293.2.2.2.2.2.1 bt293.2.2.2.2.2.2.1 bt293.2.2.2.2.2.2.2.1 bt293.2.2.2.2.2.2.2.2).bind fun bt309=>(if bt279.2.2.2.2.2=bt286.2.2.2.2.2 then (if (!(bt279.1 == bt286.1) || (!(bt279.2.1 == bt286.2.1) || (!(bt279.2.2.1 == bt286.2.2.1) || (!(bt279.2.2.2.1 == bt286.2.2.2.1) || (!(bt279.2.2.2.2.1 == bt286.2.2.2.2.1))))))=true then (laws_FnCases.j0 k bt279.2.2.2.2.2 bt304.2.2.2 true bt270.1 bt270.2.1 bt270.2.2.1 bt270.2.2.2.1 bt270.2.2.2.2.1 bt270.2.2.2.2.2.1 bt270.2.2.2.2.2.2 bt279.1 bt279.2.1 bt279.2.2.1 bt279.2.2.2.1 bt279.2.2.2.2.1 bt293.1 bt293.2.1 bt293.2.2.1 bt293.2.2.2.1 bt293.2.2.2.2.1 bt293.2.2.2.2.2.1 bt293.2.2.2.2.2.2.1 bt293.2.2.2.2.2.2.2.1 bt293.2.2.2.2.2.2.2.2 bt304.1 bt304.2.1 bt304.2.2.1) else (if bt304.2.2.2=bt309.2.2.2 then (if (!(bt304.1 == bt309.1) || (!(bt304.2.1 == bt309.2.1) || (!(bt304.2.2.1 == bt309.2.2.1))))=true then (laws_FnCases.j0 k bt279.2.2.2.2.2 bt304.2.2.2 true bt270.1 bt270.2.1 bt270.2.2.1 bt270.2.2.2.1 bt270.2.2.2.2.1 bt270.2.2.2.2.2.1 bt270.2.2.2.2.2.2 bt279.1 bt279.2.1 bt279.2.2.1 bt279.2.2.2.1 bt279.2.2.2.2.1 bt293.1 bt293.2.1 bt293.2.2.1 bt293.2.2.2.1 bt293.2.2.2.2.1 bt293.2.2.2.2.2.1 bt293.2.2.2.2.2.2.1 bt293.2.2.2.2.2.2.2.1 bt293.2.2.2.2.2.2.2.2 bt304.1 bt304.2.1 bt304.2.2.1) else ((impl_IsBlock.f bt270.1 bt270.2.1 bt270.2.2.1).bind fun t314=>((spec_IsBlock.f bt270.1 bt270.2.1 bt270.2.2.1).bind fun t315=>(if (t314 != t315)=true then (laws_FnCases.j0 k bt279.2.2.2.2.2 bt304.2.2.2 true bt270.1 bt270.2.1 bt270.2.2.1 bt270.2.2.2.1 bt270.2.2.2.2.1 bt270.2.2.2.2.2.1 bt270.2.2.2.2.2.2 bt279.1 bt279.2.1 bt279.2.2.1 bt279.2.2.2.1 bt279.2.2.2.2.1 bt293.1 bt293.2.1 bt293.2.2.1 bt293.2.2.2.1 bt293.2.2.2.2.1 bt293.2.2.2.2.2.1 bt293.2.2.2.2.2.2.1 bt293.2.2.2.2.2.2.2.1 bt293.2.2.2.2.2.2.2.2 bt304.1 bt304.2.1 bt304.2.2.1) else ((impl_IsCaseRule.f bt270.2.2.2.1 bt270.2.2.2.2.1 bt270.2.2.2.2.2.1 bt270.2.2.2.2.2.2).bind fun t316=>((spec_IsCaseRule.f bt270.2.2.2.1 bt270.2.2.2.2.1 bt270.2.2.2.2.2.1 bt270.2.2.2.2.2.2).bind fun t317=>(laws_FnCases.j0 k bt279.2.2.2.2.2 bt304.2.2.2 (t316 != t317) bt270.1 bt270.2.1 bt270.2.2.1 bt270.2.2.2.1 bt270.2.2.2.2.1 bt270.2.2.2.2.2.1 bt270.2.2.2.2.2.2 bt279.1 bt279.2.1 bt279.2.2.1 bt279.2.2.2.1 bt279.2.2.2.2.1 bt293.1 bt293.2.1 bt293.2.2.1 bt293.2.2.2.1 bt293.2.2.2.2.1 bt293.2.2.2.2.2.1 bt293.2.2.2.2.2.2.1 bt293.2.2.2.2.2.2.2.1 bt293.2.2.2.2.2.2.2.2 bt304.1 bt304.2.1 bt304.2.2.1))))))) else (laws_FnCases.j0 k bt279.2.2.2.2.2 bt304.2.2.2 true bt270.1 bt270.2.1 bt270.2.2.1 bt270.2.2.2.1 bt270.2.2.2.2.1 bt270.2.2.2.2.2.1 bt270.2.2.2.2.2.2 bt279.1 bt279.2.1 bt279.2.2.1 bt279.2.2.2.1 bt279.2.2.2.2.1 bt293.1 bt293.2.1 bt293.2.2.1 bt293.2.2.2.1 bt293.2.2.2.2.1 bt293.2.2.2.2.2.1 bt293.2.2.2.2.2.2.1 bt293.2.2.2.2.2.2.2.1 bt293.2.2.2.2.2.2.2.2 bt304.1 bt304.2.1 bt304.2.2.1))) else (laws_FnCases.j0 k bt279.2.2.2.2.2 bt304.2.2.2 true bt270.1 bt270.2.1 bt270.2.2.1 bt270.2.2.2.1 bt270.2.2.2.2.1 bt270.2.2.2.2.2.1 bt270.2.2.2.2.2.2 bt279.1 bt279.2.1 bt279.2.2.1 bt279.2.2.2.1 bt279.2.2.2.2.1 bt293.1 bt293.2.1 bt293.2.2.1 bt293.2.2.2.1 bt293.2.2.2.2.1 bt293.2.2.2.2.2.1 bt293.2.2.2.2.2.2.1 bt293.2.2.2.2.2.2.2.1 bt293.2.2.2.2.2.2.2.2 bt304.1 bt304.2.1 bt304.2.2.1))))))))))=some r:=h
 clear h
 replace H:=Option.bind_eq_some_iff.mp H
 obtain⟨t269,A20,H⟩:=H
 replace H:(if t269=true then (some true) else ((spec_DrawCaseOf.f k l0).bind fun bt270=>((impl_CaseOf.f bt270.1 bt270.2.1 bt270.2.2.1 bt270.2.2.2.1 bt270.2.2.2.2.1 bt270.2.2.2.2.2.1 bt270.2.2.2.2.2.2).bind fun bt279=>((spec_CaseOf.f k bt270.1 bt270.2.1 bt270.2.2.1 bt270.2.2.2.1 bt270.2.2.2.2.1 bt270.2.2.2.2.2.1 bt270.2.2.2.2.2.2).bind fun bt286=>((spec_DrawBlockFor.f k l0).bind fun bt293=>((impl_BlockFor.f bt293.1 bt293.2.1 bt293.2.2.1 bt293.2.2.2.1 bt293.2.2.2.2.1 bt293.2.2.2.2.2.1 bt293.2.2.2.2.2.2.1 bt293.2.2.2.2.2.2.2.1 bt293.2.2.2.2.2.2.2.2).bind fun bt304=>((spec_BlockFor.f k bt293.1 bt293.2.1 bt293.2.2.1 bt293.2.2.2.1 bt293.2.2.2.2.1 bt293.2.2.2.2.2.1 bt293.2.2.2.2.2.2.1 bt293.2.2.2.2.2.2.2.1 bt293.2.2.2.2.2.2.2.2).bind fun bt309=>(if bt279.2.2.2.2.2=bt286.2.2.2.2.2 then (if (!(bt279.1 == bt286.1) || (!(bt279.2.1 == bt286.2.1) || (!(bt279.2.2.1 == bt286.2.2.1) || (!(bt279.2.2.2.1 == bt286.2.2.2.1) || (!(bt279.2.2.2.2.1 == bt286.2.2.2.2.1))))))=true then (laws_FnCases.j0 k bt279.2.2.2.2.2 bt304.2.2.2 true bt270.1 bt270.2.1 bt270.2.2.1 bt270.2.2.2.1 bt270.2.2.2.2.1 bt270.2.2.2.2.2.1 bt270.2.2.2.2.2.2 bt279.1 bt279.2.1 bt279.2.2.1 bt279.2.2.2.1 bt279.2.2.2.2.1 bt293.1 bt293.2.1 bt293.2.2.1 bt293.2.2.2.1 bt293.2.2.2.2.1 bt293.2.2.2.2.2.1 bt293.2.2.2.2.2.2.1 bt293.2.2.2.2.2.2.2.1 bt293.2.2.2.2.2.2.2.2 bt304.1 bt304.2.1 bt304.2.2.1) else (if bt304.2.2.2=bt309.2.2.2 then (if (!(bt304.1 == bt309.1) || (!(bt304.2.1 == bt309.2.1) || (!(bt304.2.2.1 == bt309.2.2.1))))=true then (laws_FnCases.j0 k bt279.2.2.2.2.2 bt304.2.2.2 true bt270.1 bt270.2.1 bt270.2.2.1 bt270.2.2.2.1 bt270.2.2.2.2.1 bt270.2.2.2.2.2.1 bt270.2.2.2.2.2.2 bt279.1 bt279.2.1 bt279.2.2.1 bt279.2.2.2.1 bt279.2.2.2.2.1 bt293.1 bt293.2.1 bt293.2.2.1 bt293.2.2.2.1 bt293.2.2.2.2.1 bt293.2.2.2.2.2.1 bt293.2.2.2.2.2.2.1 bt293.2.2.2.2.2.2.2.1 bt293.2.2.2.2.2.2.2.2 bt304.1 bt304.2.1 bt304.2.2.1) else ((impl_IsBlock.f bt270.1 bt270.2.1 bt270.2.2.1).bind fun t314=>((spec_IsBlock.f bt270.1 bt270.2.1 bt270.2.2.1).bind fun t315=>(if (t314 != t315)=true then (laws_FnCases.j0 k bt279.2.2.2.2.2 bt304.2.2.2 true bt270.1 bt270.2.1 bt270.2.2.1 bt270.2.2.2.1 bt270.2.2.2.2.1 bt270.2.2.2.2.2.1 bt270.2.2.2.2.2.2 bt279.1 bt279.2.1 bt279.2.2.1 bt279.2.2.2.1 bt279.2.2.2.2.1 bt293.1 bt293.2.1 bt293.2.2.1 bt293.2.2.2.1 bt293.2.2.2.2.1 bt293.2.2.2.2.2.1 bt293.2.2.2.2.2.2.1 bt293.2.2.2.2.2.2.2.1 bt293.2.2.2.2.2.2.2.2 bt304.1 bt304.2.1 bt304.2.2.1) else ((impl_IsCaseRule.f bt270.2.2.2.1 bt270.2.2.2.2.1 bt270.2.2.2.2.2.1 bt270.2.2.2.2.2.2).bind fun t316=>((spec_IsCaseRule.f bt270.2.2.2.1 bt270.2.2.2.2.1 bt270.2.2.2.2.2.1 bt270.2.2.2.2.2.2).bind fun t317=>(laws_FnCases.j0 k bt279.2.2.2.2.2 bt304.2.2.2 (t316 != t317) bt270.1 bt270.2.1 bt270.2.2.1 bt270.2.2.2.1 bt270.2.2.2.2.1 bt270.2.2.2.2.2.1 bt270.2.2.2.2.2.2 bt279.1 bt279.2.1 bt279.2.2.1 bt279.2.2.2.1 bt279.2.2.2.2.1 bt293.1 bt293.2.1 bt293.2.2.1 bt293.2.2.2.1 bt293.2.2.2.2.1 bt293.2.2.2.2.2.1 bt293.2.2.2.2.2.2.1 bt293.2.2.2.2.2.2.2.1 bt293.2.2.2.2.2.2.2.2 bt304.1 bt304.2.1 bt304.2.2.1))))))) else (laws_FnCases.j0 k bt279.2.2.2.2.2 bt304.2.2.2 true bt270.1 bt270.2.1 bt270.2.2.1 bt270.2.2.2.1 bt270.2.2.2.2.1 bt270.2.2.2.2.2.1 bt270.2.2.2.2.2.2 bt279.1 bt279.2.1 bt279.2.2.1 bt279.2.2.2.1 bt279.2.2.2.2.1 bt293.1 bt293.2.1 bt293.2.2.1 bt293.2.2.2.1 bt293.2.2.2.2.1 bt293.2.2.2.2.2.1 bt293.2.2.2.2.2.2.1 bt293.2.2.2.2.2.2.2.1 bt293.2.2.2.2.2.2.2.2 bt304.1 bt304.2.1 bt304.2.2.1))) else (laws_FnCases.j0 k bt279.2.2.2.2.2 bt304.2.2.2 true bt270.1 bt270.2.1 bt270.2.2.1 bt270.2.2.2.1 bt270.2.2.2.2.1 bt270.2.2.2.2.2.1 bt270.2.2.2.2.2.2 bt279.1 bt279.2.1 bt279.2.2.1 bt279.2.2.2.1 bt279.2.2.2.2.1 bt293.1 bt293.2.1 bt293.2.2.1 bt293.2.2.2.1 bt293.2.2.2.2.1 bt293.2.2.2.2.2.1 bt293.2.2.2.2.2.2.1 bt293.2.2.2.2.2.2.2.1 bt293.2.2.2.2.2.2.2.2 bt304.1 bt304.2.1 bt304.2.2.1)))))))))=some r:=H
 have A2:=ak_ A20
 clear A20
 by_cases c3:t269=true
 ·subst c3
  have H1:(some true)=some r:=by rw [if_pos rfl] at H;exact H
  clear H
  have H:=H1
  clear H1
  obtain rfl:=Option.some.inj H
  go_enter Try.func8,Try.ntmps8
  go_wp2_with (first|((with_reducible refine gate_callee (f:=27) rfl ?_);refine goesL_ (some 20) rfl rfl Try.func27 (by kernel_rfl) rfl #[.slice A0 l0.length c0] rfl (by(try simp only [List.map_toArray,List.map_cons,List.map_nil]);first|done|rfl|(simp only [List.length_drop,List.length_take];rfl)) ?_;(with_reducible refine(laws_big.calls _ _ l0 true _ ?side1 ?side2 A2.out).mono ?_);(case side1=>repeat(first|exact HR0.out|(with_reducible refine Kd.C_alloc ?_ _)|(with_reducible refine Kd.C_drewN ?_ _)|(with_reducible refine Kd.C_drew ?_)));(case side2=>exact HC0.out);rintro e w' ⟨rfl,⟨nd,rfl⟩⟩;refine⟨_,rfl,?_⟩))
  go_ret
  exact⟨by first|rfl|(simp [errW_none,errW_some] <;> rfl)|(simp [*,errW_none,errW_some] <;> rfl),by repeat(first|(with_reducible first|exact HB.out|apply pA|apply pN|apply p1)|exact HB.out)⟩
 ·replace c3:=Bool.eq_false_iff.mpr c3
  subst c3
  have H1:((spec_DrawCaseOf.f k l0).bind fun bt270=>((impl_CaseOf.f bt270.1 bt270.2.1 bt270.2.2.1 bt270.2.2.2.1 bt270.2.2.2.2.1 bt270.2.2.2.2.2.1 bt270.2.2.2.2.2.2).bind fun bt279=>((spec_CaseOf.f k bt270.1 bt270.2.1 bt270.2.2.1 bt270.2.2.2.1 bt270.2.2.2.2.1 bt270.2.2.2.2.2.1 bt270.2.2.2.2.2.2).bind fun bt286=>((spec_DrawBlockFor.f k l0).bind fun bt293=>((impl_BlockFor.f bt293.1 bt293.2.1 bt293.2.2.1 bt293.2.2.2.1 bt293.2.2.2.2.1 bt293.2.2.2.2.2.1 bt293.2.2.2.2.2.2.1 bt293.2.2.2.2.2.2.2.1 bt293.2.2.2.2.2.2.2.2).bind fun bt304=>((spec_BlockFor.f k bt293.1 bt293.2.1 bt293.2.2.1 bt293.2.2.2.1 bt293.2.2.2.2.1 bt293.2.2.2.2.2.1 bt293.2.2.2.2.2.2.1 bt293.2.2.2.2.2.2.2.1 bt293.2.2.2.2.2.2.2.2).bind fun bt309=>(if bt279.2.2.2.2.2=bt286.2.2.2.2.2 then (if (!(bt279.1 == bt286.1) || (!(bt279.2.1 == bt286.2.1) || (!(bt279.2.2.1 == bt286.2.2.1) || (!(bt279.2.2.2.1 == bt286.2.2.2.1) || (!(bt279.2.2.2.2.1 == bt286.2.2.2.2.1))))))=true then (laws_FnCases.j0 k bt279.2.2.2.2.2 bt304.2.2.2 true bt270.1 bt270.2.1 bt270.2.2.1 bt270.2.2.2.1 bt270.2.2.2.2.1 bt270.2.2.2.2.2.1 bt270.2.2.2.2.2.2 bt279.1 bt279.2.1 bt279.2.2.1 bt279.2.2.2.1 bt279.2.2.2.2.1 bt293.1 bt293.2.1 bt293.2.2.1 bt293.2.2.2.1 bt293.2.2.2.2.1 bt293.2.2.2.2.2.1 bt293.2.2.2.2.2.2.1 bt293.2.2.2.2.2.2.2.1 bt293.2.2.2.2.2.2.2.2 bt304.1 bt304.2.1 bt304.2.2.1) else (if bt304.2.2.2=bt309.2.2.2 then (if (!(bt304.1 == bt309.1) || (!(bt304.2.1 == bt309.2.1) || (!(bt304.2.2.1 == bt309.2.2.1))))=true then (laws_FnCases.j0 k bt279.2.2.2.2.2 bt304.2.2.2 true bt270.1 bt270.2.1 bt270.2.2.1 bt270.2.2.2.1 bt270.2.2.2.2.1 bt270.2.2.2.2.2.1 bt270.2.2.2.2.2.2 bt279.1 bt279.2.1 bt279.2.2.1 bt279.2.2.2.1 bt279.2.2.2.2.1 bt293.1 bt293.2.1 bt293.2.2.1 bt293.2.2.2.1 bt293.2.2.2.2.1 bt293.2.2.2.2.2.1 bt293.2.2.2.2.2.2.1 bt293.2.2.2.2.2.2.2.1 bt293.2.2.2.2.2.2.2.2 bt304.1 bt304.2.1 bt304.2.2.1) else ((impl_IsBlock.f bt270.1 bt270.2.1 bt270.2.2.1).bind fun t314=>((spec_IsBlock.f bt270.1 bt270.2.1 bt270.2.2.1).bind fun t315=>(if (t314 != t315)=true then (laws_FnCases.j0 k bt279.2.2.2.2.2 bt304.2.2.2 true bt270.1 bt270.2.1 bt270.2.2.1 bt270.2.2.2.1 bt270.2.2.2.2.1 bt270.2.2.2.2.2.1 bt270.2.2.2.2.2.2 bt279.1 bt279.2.1 bt279.2.2.1 bt279.2.2.2.1 bt279.2.2.2.2.1 bt293.1 bt293.2.1 bt293.2.2.1 bt293.2.2.2.1 bt293.2.2.2.2.1 bt293.2.2.2.2.2.1 bt293.2.2.2.2.2.2.1 bt293.2.2.2.2.2.2.2.1 bt293.2.2.2.2.2.2.2.2 bt304.1 bt304.2.1 bt304.2.2.1) else ((impl_IsCaseRule.f bt270.2.2.2.1 bt270.2.2.2.2.1 bt270.2.2.2.2.2.1 bt270.2.2.2.2.2.2).bind fun t316=>((spec_IsCaseRule.f bt270.2.2.2.1 bt270.2.2.2.2.1 bt270.2.2.2.2.2.1 bt270.2.2.2.2.2.2).bind fun t317=>(laws_FnCases.j0 k bt279.2.2.2.2.2 bt304.2.2.2 (t316 != t317) bt270.1 bt270.2.1 bt270.2.2.1 bt270.2.2.2.1 bt270.2.2.2.2.1 bt270.2.2.2.2.2.1 bt270.2.2.2.2.2.2 bt279.1 bt279.2.1 bt279.2.2.1 bt279.2.2.2.1 bt279.2.2.2.2.1 bt293.1 bt293.2.1 bt293.2.2.1 bt293.2.2.2.1 bt293.2.2.2.2.1 bt293.2.2.2.2.2.1 bt293.2.2.2.2.2.2.1 bt293.2.2.2.2.2.2.2.1 bt293.2.2.2.2.2.2.2.2 bt304.1 bt304.2.1 bt304.2.2.1))))))) else (laws_FnCases.j0 k bt279.2.2.2.2.2 bt304.2.2.2 true bt270.1 bt270.2.1 bt270.2.2.1 bt270.2.2.2.1 bt270.2.2.2.2.1 bt270.2.2.2.2.2.1 bt270.2.2.2.2.2.2 bt279.1 bt279.2.1 bt279.2.2.1 bt279.2.2.2.1 bt279.2.2.2.2.1 bt293.1 bt293.2.1 bt293.2.2.1 bt293.2.2.2.1 bt293.2.2.2.2.1 bt293.2.2.2.2.2.1 bt293.2.2.2.2.2.2.1 bt293.2.2.2.2.2.2.2.1 bt293.2.2.2.2.2.2.2.2 bt304.1 bt304.2.1 bt304.2.2.1))) else (laws_FnCases.j0 k bt279.2.2.2.2.2 bt304.2.2.2 true bt270.1 bt270.2.1 bt270.2.2.1 bt270.2.2.2.1 bt270.2.2.2.2.1 bt270.2.2.2.2.2.1 bt270.2.2.2.2.2.2 bt279.1 bt279.2.1 bt279.2.2.1 bt279.2.2.2.1 bt279.2.2.2.2.1 bt293.1 bt293.2.1 bt293.2.2.1 bt293.2.2.2.1 bt293.2.2.2.2.1 bt293.2.2.2.2.2.1 bt293.2.2.2.2.2.2.1 bt293.2.2.2.2.2.2.2.1 bt293.2.2.2.2.2.2.2.2 bt304.1 bt304.2.1 bt304.2.2.1))))))))=some r:=by rw [if_neg (show ¬ (false=true) by decide)] at H;exact H
  clear H
  have H:=H1
  clear H1
  replace H:=Option.bind_eq_some_iff.mp H
  obtain⟨⟨t270,t271,t272,t273,t274,t275,t276⟩,A40,H⟩:=H
  replace H:((impl_CaseOf.f t270 t271 t272 t273 t274 t275 t276).bind fun bt279=>((spec_CaseOf.f k t270 t271 t272 t273 t274 t275 t276).bind fun bt286=>((spec_DrawBlockFor.f k l0).bind fun bt293=>((impl_BlockFor.f bt293.1 bt293.2.1 bt293.2.2.1 bt293.2.2.2.1 bt293.2.2.2.2.1 bt293.2.2.2.2.2.1 bt293.2.2.2.2.2.2.1 bt293.2.2.2.2.2.2.2.1 bt293.2.2.2.2.2.2.2.2).bind fun bt304=>((spec_BlockFor.f k bt293.1 bt293.2.1 bt293.2.2.1 bt293.2.2.2.1 bt293.2.2.2.2.1 bt293.2.2.2.2.2.1 bt293.2.2.2.2.2.2.1 bt293.2.2.2.2.2.2.2.1 bt293.2.2.2.2.2.2.2.2).bind fun bt309=>(if bt279.2.2.2.2.2=bt286.2.2.2.2.2 then (if (!(bt279.1 == bt286.1) || (!(bt279.2.1 == bt286.2.1) || (!(bt279.2.2.1 == bt286.2.2.1) || (!(bt279.2.2.2.1 == bt286.2.2.2.1) || (!(bt279.2.2.2.2.1 == bt286.2.2.2.2.1))))))=true then (laws_FnCases.j0 k bt279.2.2.2.2.2 bt304.2.2.2 true t270 t271 t272 t273 t274 t275 t276 bt279.1 bt279.2.1 bt279.2.2.1 bt279.2.2.2.1 bt279.2.2.2.2.1 bt293.1 bt293.2.1 bt293.2.2.1 bt293.2.2.2.1 bt293.2.2.2.2.1 bt293.2.2.2.2.2.1 bt293.2.2.2.2.2.2.1 bt293.2.2.2.2.2.2.2.1 bt293.2.2.2.2.2.2.2.2 bt304.1 bt304.2.1 bt304.2.2.1) else (if bt304.2.2.2=bt309.2.2.2 then (if (!(bt304.1 == bt309.1) || (!(bt304.2.1 == bt309.2.1) || (!(bt304.2.2.1 == bt309.2.2.1))))=true then (laws_FnCases.j0 k bt279.2.2.2.2.2 bt304.2.2.2 true t270 t271 t272 t273 t274 t275 t276 bt279.1 bt279.2.1 bt279.2.2.1 bt279.2.2.2.1 bt279.2.2.2.2.1 bt293.1 bt293.2.1 bt293.2.2.1 bt293.2.2.2.1 bt293.2.2.2.2.1 bt293.2.2.2.2.2.1 bt293.2.2.2.2.2.2.1 bt293.2.2.2.2.2.2.2.1 bt293.2.2.2.2.2.2.2.2 bt304.1 bt304.2.1 bt304.2.2.1) else ((impl_IsBlock.f t270 t271 t272).bind fun t314=>((spec_IsBlock.f t270 t271 t272).bind fun t315=>(if (t314 != t315)=true then (laws_FnCases.j0 k bt279.2.2.2.2.2 bt304.2.2.2 true t270 t271 t272 t273 t274 t275 t276 bt279.1 bt279.2.1 bt279.2.2.1 bt279.2.2.2.1 bt279.2.2.2.2.1 bt293.1 bt293.2.1 bt293.2.2.1 bt293.2.2.2.1 bt293.2.2.2.2.1 bt293.2.2.2.2.2.1 bt293.2.2.2.2.2.2.1 bt293.2.2.2.2.2.2.2.1 bt293.2.2.2.2.2.2.2.2 bt304.1 bt304.2.1 bt304.2.2.1) else ((impl_IsCaseRule.f t273 t274 t275 t276).bind fun t316=>((spec_IsCaseRule.f t273 t274 t275 t276).bind fun t317=>(laws_FnCases.j0 k bt279.2.2.2.2.2 bt304.2.2.2 (t316 != t317) t270 t271 t272 t273 t274 t275 t276 bt279.1 bt279.2.1 bt279.2.2.1 bt279.2.2.2.1 bt279.2.2.2.2.1 bt293.1 bt293.2.1 bt293.2.2.1 bt293.2.2.2.1 bt293.2.2.2.2.1 bt293.2.2.2.2.2.1 bt293.2.2.2.2.2.2.1 bt293.2.2.2.2.2.2.2.1 bt293.2.2.2.2.2.2.2.2 bt304.1 bt304.2.1 bt304.2.2.1))))))) else (laws_FnCases.j0 k bt279.2.2.2.2.2 bt304.2.2.2 true t270 t271 t272 t273 t274 t275 t276 bt279.1 bt279.2.1 bt279.2.2.1 bt279.2.2.2.1 bt279.2.2.2.2.1 bt293.1 bt293.2.1 bt293.2.2.1 bt293.2.2.2.1 bt293.2.2.2.2.1 bt293.2.2.2.2.2.1 bt293.2.2.2.2.2.2.1 bt293.2.2.2.2.2.2.2.1 bt293.2.2.2.2.2.2.2.2 bt304.1 bt304.2.1 bt304.2.2.1))) else (laws_FnCases.j0 k bt279.2.2.2.2.2 bt304.2.2.2 true t270 t271 t272 t273 t274 t275 t276 bt279.1 bt279.2.1 bt279.2.2.1 bt279.2.2.2.1 bt279.2.2.2.2.1 bt293.1 bt293.2.1 bt293.2.2.1 bt293.2.2.2.1 bt293.2.2.2.2.1 bt293.2.2.2.2.2.1 bt293.2.2.2.2.2.2.1 bt293.2.2.2.2.2.2.2.1 bt293.2.2.2.2.2.2.2.2 bt304.1 bt304.2.1 bt304.2.2.1)))))))=some r:=H
  have A4:=ak_ A40
  clear A40
  replace H:=Option.bind_eq_some_iff.mp H
  obtain⟨⟨t279,t280,t281,t282,t283,t284⟩,A50,H⟩:=H
  replace H:((spec_CaseOf.f k t270 t271 t272 t273 t274 t275 t276).bind fun bt286=>((spec_DrawBlockFor.f k l0).bind fun bt293=>((impl_BlockFor.f bt293.1 bt293.2.1 bt293.2.2.1 bt293.2.2.2.1 bt293.2.2.2.2.1 bt293.2.2.2.2.2.1 bt293.2.2.2.2.2.2.1 bt293.2.2.2.2.2.2.2.1 bt293.2.2.2.2.2.2.2.2).bind fun bt304=>((spec_BlockFor.f k bt293.1 bt293.2.1 bt293.2.2.1 bt293.2.2.2.1 bt293.2.2.2.2.1 bt293.2.2.2.2.2.1 bt293.2.2.2.2.2.2.1 bt293.2.2.2.2.2.2.2.1 bt293.2.2.2.2.2.2.2.2).bind fun bt309=>(if t284=bt286.2.2.2.2.2 then (if (!(t279 == bt286.1) || (!(t280 == bt286.2.1) || (!(t281 == bt286.2.2.1) || (!(t282 == bt286.2.2.2.1) || (!(t283 == bt286.2.2.2.2.1))))))=true then (laws_FnCases.j0 k t284 bt304.2.2.2 true t270 t271 t272 t273 t274 t275 t276 t279 t280 t281 t282 t283 bt293.1 bt293.2.1 bt293.2.2.1 bt293.2.2.2.1 bt293.2.2.2.2.1 bt293.2.2.2.2.2.1 bt293.2.2.2.2.2.2.1 bt293.2.2.2.2.2.2.2.1 bt293.2.2.2.2.2.2.2.2 bt304.1 bt304.2.1 bt304.2.2.1) else (if bt304.2.2.2=bt309.2.2.2 then (if (!(bt304.1 == bt309.1) || (!(bt304.2.1 == bt309.2.1) || (!(bt304.2.2.1 == bt309.2.2.1))))=true then (laws_FnCases.j0 k t284 bt304.2.2.2 true t270 t271 t272 t273 t274 t275 t276 t279 t280 t281 t282 t283 bt293.1 bt293.2.1 bt293.2.2.1 bt293.2.2.2.1 bt293.2.2.2.2.1 bt293.2.2.2.2.2.1 bt293.2.2.2.2.2.2.1 bt293.2.2.2.2.2.2.2.1 bt293.2.2.2.2.2.2.2.2 bt304.1 bt304.2.1 bt304.2.2.1) else ((impl_IsBlock.f t270 t271 t272).bind fun t314=>((spec_IsBlock.f t270 t271 t272).bind fun t315=>(if (t314 != t315)=true then (laws_FnCases.j0 k t284 bt304.2.2.2 true t270 t271 t272 t273 t274 t275 t276 t279 t280 t281 t282 t283 bt293.1 bt293.2.1 bt293.2.2.1 bt293.2.2.2.1 bt293.2.2.2.2.1 bt293.2.2.2.2.2.1 bt293.2.2.2.2.2.2.1 bt293.2.2.2.2.2.2.2.1 bt293.2.2.2.2.2.2.2.2 bt304.1 bt304.2.1 bt304.2.2.1) else ((impl_IsCaseRule.f t273 t274 t275 t276).bind fun t316=>((spec_IsCaseRule.f t273 t274 t275 t276).bind fun t317=>(laws_FnCases.j0 k t284 bt304.2.2.2 (t316 != t317) t270 t271 t272 t273 t274 t275 t276 t279 t280 t281 t282 t283 bt293.1 bt293.2.1 bt293.2.2.1 bt293.2.2.2.1 bt293.2.2.2.2.1 bt293.2.2.2.2.2.1 bt293.2.2.2.2.2.2.1 bt293.2.2.2.2.2.2.2.1 bt293.2.2.2.2.2.2.2.2 bt304.1 bt304.2.1 bt304.2.2.1))))))) else (laws_FnCases.j0 k t284 bt304.2.2.2 true t270 t271 t272 t273 t274 t275 t276 t279 t280 t281 t282 t283 bt293.1 bt293.2.1 bt293.2.2.1 bt293.2.2.2.1 bt293.2.2.2.2.1 bt293.2.2.2.2.2.1 bt293.2.2.2.2.2.2.1 bt293.2.2.2.2.2.2.2.1 bt293.2.2.2.2.2.2.2.2 bt304.1 bt304.2.1 bt304.2.2.1))) else (laws_FnCases.j0 k t284 bt304.2.2.2 true t270 t271 t272 t273 t274 t275 t276 t279 t280 t281 t282 t283 bt293.1 bt293.2.1 bt293.2.2.1 bt293.2.2.2.1 bt293.2.2.2.2.1 bt293.2.2.2.2.2.1 bt293.2.2.2.2.2.2.1 bt293.2.2.2.2.2.2.2.1 bt293.2.2.2.2.2.2.2.2 bt304.1 bt304.2.1 bt304.2.2.1))))))=some r:=H
  have A5:=ak_ A50
  clear A50
  replace H:=Option.bind_eq_some_iff.mp H
  obtain⟨⟨t286,t287,t288,t289,t290,t291⟩,A60,H⟩:=H
  replace H:((spec_DrawBlockFor.f k l0).bind fun bt293=>((impl_BlockFor.f bt293.1 bt293.2.1 bt293.2.2.1 bt293.2.2.2.1 bt293.2.2.2.2.1 bt293.2.2.2.2.2.1 bt293.2.2.2.2.2.2.1 bt293.2.2.2.2.2.2.2.1 bt293.2.2.2.2.2.2.2.2).bind fun bt304=>((spec_BlockFor.f k bt293.1 bt293.2.1 bt293.2.2.1 bt293.2.2.2.1 bt293.2.2.2.2.1 bt293.2.2.2.2.2.1 bt293.2.2.2.2.2.2.1 bt293.2.2.2.2.2.2.2.1 bt293.2.2.2.2.2.2.2.2).bind fun bt309=>(if t284=t291 then (if (!(t279 == t286) || (!(t280 == t287) || (!(t281 == t288) || (!(t282 == t289) || (!(t283 == t290))))))=true then (laws_FnCases.j0 k t284 bt304.2.2.2 true t270 t271 t272 t273 t274 t275 t276 t279 t280 t281 t282 t283 bt293.1 bt293.2.1 bt293.2.2.1 bt293.2.2.2.1 bt293.2.2.2.2.1 bt293.2.2.2.2.2.1 bt293.2.2.2.2.2.2.1 bt293.2.2.2.2.2.2.2.1 bt293.2.2.2.2.2.2.2.2 bt304.1 bt304.2.1 bt304.2.2.1) else (if bt304.2.2.2=bt309.2.2.2 then (if (!(bt304.1 == bt309.1) || (!(bt304.2.1 == bt309.2.1) || (!(bt304.2.2.1 == bt309.2.2.1))))=true then (laws_FnCases.j0 k t284 bt304.2.2.2 true t270 t271 t272 t273 t274 t275 t276 t279 t280 t281 t282 t283 bt293.1 bt293.2.1 bt293.2.2.1 bt293.2.2.2.1 bt293.2.2.2.2.1 bt293.2.2.2.2.2.1 bt293.2.2.2.2.2.2.1 bt293.2.2.2.2.2.2.2.1 bt293.2.2.2.2.2.2.2.2 bt304.1 bt304.2.1 bt304.2.2.1) else ((impl_IsBlock.f t270 t271 t272).bind fun t314=>((spec_IsBlock.f t270 t271 t272).bind fun t315=>(if (t314 != t315)=true then (laws_FnCases.j0 k t284 bt304.2.2.2 true t270 t271 t272 t273 t274 t275 t276 t279 t280 t281 t282 t283 bt293.1 bt293.2.1 bt293.2.2.1 bt293.2.2.2.1 bt293.2.2.2.2.1 bt293.2.2.2.2.2.1 bt293.2.2.2.2.2.2.1 bt293.2.2.2.2.2.2.2.1 bt293.2.2.2.2.2.2.2.2 bt304.1 bt304.2.1 bt304.2.2.1) else ((impl_IsCaseRule.f t273 t274 t275 t276).bind fun t316=>((spec_IsCaseRule.f t273 t274 t275 t276).bind fun t317=>(laws_FnCases.j0 k t284 bt304.2.2.2 (t316 != t317) t270 t271 t272 t273 t274 t275 t276 t279 t280 t281 t282 t283 bt293.1 bt293.2.1 bt293.2.2.1 bt293.2.2.2.1 bt293.2.2.2.2.1 bt293.2.2.2.2.2.1 bt293.2.2.2.2.2.2.1 bt293.2.2.2.2.2.2.2.1 bt293.2.2.2.2.2.2.2.2 bt304.1 bt304.2.1 bt304.2.2.1))))))) else (laws_FnCases.j0 k t284 bt304.2.2.2 true t270 t271 t272 t273 t274 t275 t276 t279 t280 t281 t282 t283 bt293.1 bt293.2.1 bt293.2.2.1 bt293.2.2.2.1 bt293.2.2.2.2.1 bt293.2.2.2.2.2.1 bt293.2.2.2.2.2.2.1 bt293.2.2.2.2.2.2.2.1 bt293.2.2.2.2.2.2.2.2 bt304.1 bt304.2.1 bt304.2.2.1))) else (laws_FnCases.j0 k t284 bt304.2.2.2 true t270 t271 t272 t273 t274 t275 t276 t279 t280 t281 t282 t283 bt293.1 bt293.2.1 bt293.2.2.1 bt293.2.2.2.1 bt293.2.2.2.2.1 bt293.2.2.2.2.2.1 bt293.2.2.2.2.2.2.1 bt293.2.2.2.2.2.2.2.1 bt293.2.2.2.2.2.2.2.2 bt304.1 bt304.2.1 bt304.2.2.1)))))=some r:=H
  have A6:=ak_ A60
  clear A60
  replace H:=Option.bind_eq_some_iff.mp H
  obtain⟨⟨t293,t294,t295,t296,t297,t298,t299,t300,t301⟩,A70,H⟩:=H
  replace H:((impl_BlockFor.f t293 t294 t295 t296 t297 t298 t299 t300 t301).bind fun bt304=>((spec_BlockFor.f k t293 t294 t295 t296 t297 t298 t299 t300 t301).bind fun bt309=>(if t284=t291 then (if (!(t279 == t286) || (!(t280 == t287) || (!(t281 == t288) || (!(t282 == t289) || (!(t283 == t290))))))=true then (laws_FnCases.j0 k t284 bt304.2.2.2 true t270 t271 t272 t273 t274 t275 t276 t279 t280 t281 t282 t283 t293 t294 t295 t296 t297 t298 t299 t300 t301 bt304.1 bt304.2.1 bt304.2.2.1) else (if bt304.2.2.2=bt309.2.2.2 then (if (!(bt304.1 == bt309.1) || (!(bt304.2.1 == bt309.2.1) || (!(bt304.2.2.1 == bt309.2.2.1))))=true then (laws_FnCases.j0 k t284 bt304.2.2.2 true t270 t271 t272 t273 t274 t275 t276 t279 t280 t281 t282 t283 t293 t294 t295 t296 t297 t298 t299 t300 t301 bt304.1 bt304.2.1 bt304.2.2.1) else ((impl_IsBlock.f t270 t271 t272).bind fun t314=>((spec_IsBlock.f t270 t271 t272).bind fun t315=>(if (t314 != t315)=true then (laws_FnCases.j0 k t284 bt304.2.2.2 true t270 t271 t272 t273 t274 t275 t276 t279 t280 t281 t282 t283 t293 t294 t295 t296 t297 t298 t299 t300 t301 bt304.1 bt304.2.1 bt304.2.2.1) else ((impl_IsCaseRule.f t273 t274 t275 t276).bind fun t316=>((spec_IsCaseRule.f t273 t274 t275 t276).bind fun t317=>(laws_FnCases.j0 k t284 bt304.2.2.2 (t316 != t317) t270 t271 t272 t273 t274 t275 t276 t279 t280 t281 t282 t283 t293 t294 t295 t296 t297 t298 t299 t300 t301 bt304.1 bt304.2.1 bt304.2.2.1))))))) else (laws_FnCases.j0 k t284 bt304.2.2.2 true t270 t271 t272 t273 t274 t275 t276 t279 t280 t281 t282 t283 t293 t294 t295 t296 t297 t298 t299 t300 t301 bt304.1 bt304.2.1 bt304.2.2.1))) else (laws_FnCases.j0 k t284 bt304.2.2.2 true t270 t271 t272 t273 t274 t275 t276 t279 t280 t281 t282 t283 t293 t294 t295 t296 t297 t298 t299 t300 t301 bt304.1 bt304.2.1 bt304.2.2.1))))=some r:=H
  have A7:=ak_ A70
  clear A70
  replace H:=Option.bind_eq_some_iff.mp H
  obtain⟨⟨t304,t305,t306,t307⟩,A80,H⟩:=H
  replace H:((spec_BlockFor.f k t293 t294 t295 t296 t297 t298 t299 t300 t301).bind fun bt309=>(if t284=t291 then (if (!(t279 == t286) || (!(t280 == t287) || (!(t281 == t288) || (!(t282 == t289) || (!(t283 == t290))))))=true then (laws_FnCases.j0 k t284 t307 true t270 t271 t272 t273 t274 t275 t276 t279 t280 t281 t282 t283 t293 t294 t295 t296 t297 t298 t299 t300 t301 t304 t305 t306) else (if t307=bt309.2.2.2 then (if (!(t304 == bt309.1) || (!(t305 == bt309.2.1) || (!(t306 == bt309.2.2.1))))=true then (laws_FnCases.j0 k t284 t307 true t270 t271 t272 t273 t274 t275 t276 t279 t280 t281 t282 t283 t293 t294 t295 t296 t297 t298 t299 t300 t301 t304 t305 t306) else ((impl_IsBlock.f t270 t271 t272).bind fun t314=>((spec_IsBlock.f t270 t271 t272).bind fun t315=>(if (t314 != t315)=true then (laws_FnCases.j0 k t284 t307 true t270 t271 t272 t273 t274 t275 t276 t279 t280 t281 t282 t283 t293 t294 t295 t296 t297 t298 t299 t300 t301 t304 t305 t306) else ((impl_IsCaseRule.f t273 t274 t275 t276).bind fun t316=>((spec_IsCaseRule.f t273 t274 t275 t276).bind fun t317=>(laws_FnCases.j0 k t284 t307 (t316 != t317) t270 t271 t272 t273 t274 t275 t276 t279 t280 t281 t282 t283 t293 t294 t295 t296 t297 t298 t299 t300 t301 t304 t305 t306))))))) else (laws_FnCases.j0 k t284 t307 true t270 t271 t272 t273 t274 t275 t276 t279 t280 t281 t282 t283 t293 t294 t295 t296 t297 t298 t299 t300 t301 t304 t305 t306))) else (laws_FnCases.j0 k t284 t307 true t270 t271 t272 t273 t274 t275 t276 t279 t280 t281 t282 t283 t293 t294 t295 t296 t297 t298 t299 t300 t301 t304 t305 t306)))=some r:=H
  have A8:=ak_ A80
  clear A80
  replace H:=Option.bind_eq_some_iff.mp H
  obtain⟨⟨t309,t310,t311,t312⟩,A90,H⟩:=H
  replace H:(if t284=t291 then (if (!(t279 == t286) || (!(t280 == t287) || (!(t281 == t288) || (!(t282 == t289) || (!(t283 == t290))))))=true then (laws_FnCases.j0 k t284 t307 true t270 t271 t272 t273 t274 t275 t276 t279 t280 t281 t282 t283 t293 t294 t295 t296 t297 t298 t299 t300 t301 t304 t305 t306) else (if t307=t312 then (if (!(t304 == t309) || (!(t305 == t310) || (!(t306 == t311))))=true then (laws_FnCases.j0 k t284 t307 true t270 t271 t272 t273 t274 t275 t276 t279 t280 t281 t282 t283 t293 t294 t295 t296 t297 t298 t299 t300 t301 t304 t305 t306) else ((impl_IsBlock.f t270 t271 t272).bind fun t314=>((spec_IsBlock.f t270 t271 t272).bind fun t315=>(if (t314 != t315)=true then (laws_FnCases.j0 k t284 t307 true t270 t271 t272 t273 t274 t275 t276 t279 t280 t281 t282 t283 t293 t294 t295 t296 t297 t298 t299 t300 t301 t304 t305 t306) else ((impl_IsCaseRule.f t273 t274 t275 t276).bind fun t316=>((spec_IsCaseRule.f t273 t274 t275 t276).bind fun t317=>(laws_FnCases.j0 k t284 t307 (t316 != t317) t270 t271 t272 t273 t274 t275 t276 t279 t280 t281 t282 t283 t293 t294 t295 t296 t297 t298 t299 t300 t301 t304 t305 t306))))))) else (laws_FnCases.j0 k t284 t307 true t270 t271 t272 t273 t274 t275 t276 t279 t280 t281 t282 t283 t293 t294 t295 t296 t297 t298 t299 t300 t301 t304 t305 t306))) else (laws_FnCases.j0 k t284 t307 true t270 t271 t272 t273 t274 t275 t276 t279 t280 t281 t282 t283 t293 t294 t295 t296 t297 t298 t299 t300 t301 t304 t305 t306))=some r:=H
  have A9:=ak_ A90
  clear A90
  have HC10:=ak_ H
  clear H
  go_enter Try.func8,Try.ntmps8
  go_upto_region 9 with (first|((with_reducible refine gate_callee (f:=27) rfl ?_);refine goesL_ (some 20) rfl rfl Try.func27 (by kernel_rfl) rfl #[.slice A0 l0.length c0] rfl (by(try simp only [List.map_toArray,List.map_cons,List.map_nil]);first|done|rfl|(simp only [List.length_drop,List.length_take];rfl)) ?_;(with_reducible refine(laws_big.calls _ _ l0 false _ ?side1 ?side2 A2.out).mono ?_);(case side1=>repeat(first|exact HR0.out|(with_reducible refine Kd.C_alloc ?_ _)|(with_reducible refine Kd.C_drewN ?_ _)|(with_reducible refine Kd.C_drew ?_)));(case side2=>exact HC0.out);rintro e w' ⟨rfl,⟨nd,rfl⟩⟩;refine⟨_,rfl,?_⟩)|((with_reducible refine gate_callee (f:=28) rfl ?_);refine goesL_ (some 23) rfl rfl Try.func28 (by kernel_rfl) rfl #[.slice A0 l0.length c0] rfl (by(try simp only [List.map_toArray,List.map_cons,List.map_nil]);first|done|rfl|(simp only [List.length_drop,List.length_take];rfl)) ?_;(with_reducible refine(spec_DrawCaseOf.calls k _ _ l0 t270 t271 t272 t273 t274 t275 t276 _ ?side1 ?side2 A4.out).mono ?_);(case side1=>repeat(first|exact HR0.out|(with_reducible refine Kd.C_alloc ?_ _)|(with_reducible refine Kd.C_drewN ?_ _)|(with_reducible refine Kd.C_drew ?_)));(case side2=>exact HC0.out);rintro e w11 ⟨rfl,hb⟩;refine⟨_,rfl,?_⟩;have n0_:=ak_ (pT (by repeat(first|(with_reducible first|exact HB.out|apply pA|apply pN|apply p1)|exact HB.out)) hb);clear HB;have HB:=n0_;clear n0_;(try clear hb))|((with_reducible refine gate_dst (N:=3) rfl ?_);refine box_event ?hg (N:=3) ?hd (cs:=#[.int .i64 0,.int .i64 0,.int .i64 0]) (t:=30) ?hr ?_;(case hd=>rfl);(case hg=>rfl);(case hr=>first|(go_simp;done)|(go_simp;rfl));intro q11 hg w12 hbox hb;have n0_:=ak_ (pT (by repeat(first|(with_reducible first|exact HB.out|apply pA|apply pN|apply p1)|exact HB.out)) hb);have n1_:=ak_ (hbox);have n2_:=ak_ ((by rw [hg];exact(below_size (by repeat(first|(with_reducible first|exact HB.out|apply pA|apply pN|apply p1)|exact HB.out))):w.heap.size≤q11));have n3_:=n2_;clear HB;have HB:=n0_;have q0:=n1_;have GW277:=n2_;have GE277:=n3_;clear n0_ n1_ n2_ n3_;clear hb hbox hg)|((with_reducible refine gate_dst (N:=4) rfl ?_);refine box_event ?hg (N:=4) ?hd (cs:=#[.int .i64 0,.int .i64 0,.int .i64 0,.int .i64 0]) (t:=32) ?hr ?_;(case hd=>rfl);(case hg=>rfl);(case hr=>first|(go_simp;done)|(go_simp;rfl));intro q12 hg w13 hbox hb;have n0_:=ak_ (bB (g:=q11) (o:=.cells #[.int .i64 0,.int .i64 0,.int .i64 0] 30 (0,0)) (by(with_reducible repeat first|apply bN|apply b1|apply bA);exact q0.out) hb);have n1_:=ak_ (pT (by repeat(first|(with_reducible first|exact HB.out|apply pA|apply pN|apply p1|refine pS ?_ GE277.out)|exact HB.out)) hb);have n2_:=ak_ (hbox);have n3_:=ak_ ((by rw [hg];exact(below_size (by repeat(first|(with_reducible first|exact HB.out|apply pA|apply pN|apply p1|refine pS ?_ GE277.out)|exact HB.out))):w.heap.size≤q12));have n4_:=n3_;have n5_:=ak_ ((by rw [hg];exact Nat.ne_of_lt (blk_lt (g:=q11) (o:=.cells #[.int .i64 0,.int .i64 0,.int .i64 0] 30 (0,0)) (by(with_reducible repeat first|apply bN|apply b1|apply bA);exact q0.out)):q11≠q12));have n6_:=ak_ n5_.out.symm;clear q0;clear HB;have q0:=n0_;have HB:=n1_;have q1:=n2_;have GW278:=n3_;have GE278:=n4_;have NB277_278:=n5_;have NB278_277:=n6_;clear n0_ n1_ n2_ n3_ n4_ n5_ n6_;clear hb hbox hg;have hnb14:=NB277_278.out;have hnc14:=NB278_277.out;have hcz15_0:w13.cell? ⟨q11,0,none⟩=some (.int .i64 0):=(bC q0.out 0).trans rfl;have hcz15_1:w13.cell? ⟨q11,1,none⟩=some (.int .i64 0):=(bC q0.out 1).trans rfl;have hcz15_2:w13.cell? ⟨q11,2,none⟩=some (.int .i64 0):=(bC q0.out 2).trans rfl;have hfz15_0:=blk_frozen q0.out 0;have hfz15_1:=blk_frozen q0.out 1;have hfz15_2:=blk_frozen q0.out 2;have hcz16_0:w13.cell? ⟨q12,0,none⟩=some (.int .i64 0):=(bC q1.out 0).trans rfl;have hcz16_1:w13.cell? ⟨q12,1,none⟩=some (.int .i64 0):=(bC q1.out 1).trans rfl;have hcz16_2:w13.cell? ⟨q12,2,none⟩=some (.int .i64 0):=(bC q1.out 2).trans rfl;have hcz16_3:w13.cell? ⟨q12,3,none⟩=some (.int .i64 0):=(bC q1.out 3).trans rfl;have hfz16_0:=blk_frozen q1.out 0;have hfz16_1:=blk_frozen q1.out 1;have hfz16_2:=blk_frozen q1.out 2;have hfz16_3:=blk_frozen q1.out 3)|((with_reducible refine gate_callee (f:=13) rfl ?_);refine goesL_ (some 29) rfl rfl Try.func13 (by kernel_rfl) rfl #[.agg #[.int .i64 t270,.int .i64 t271,.int .i64 t272],.agg #[.int .i64 t273,.int .i64 t274,.int .i64 t275,.int .i64 t276]] rfl (by(try simp only [List.map_toArray,List.map_cons,List.map_nil]);first|done|rfl|(simp only [List.length_drop,List.length_take];rfl)) ?_;(with_reducible refine(impl_CaseOf.calls t270 t271 t272 t273 t274 t275 t276 t279 t280 t281 t282 t283 t284 _ A5.out).mono ?_);rintro e w17 ⟨rfl,hb⟩;refine⟨_,rfl,?_⟩;have n0_:=ak_ (bB (g:=q11) (o:=.cells #[.int .i64 t270,.int .i64 t271,.int .i64 t272] 30 (0,0)) (by(with_reducible repeat first|apply bN|apply b1|apply bA);refine bF ?_ NB277_278.out _;(with_reducible repeat first|apply bN|apply b1|apply bA);refine bF ?_ NB277_278.out _;(with_reducible repeat first|apply bN|apply b1|apply bA);refine bF ?_ NB277_278.out _;(with_reducible repeat first|apply bN|apply b1|apply bA);refine bF ?_ NB277_278.out _;(with_reducible repeat first|apply bN|apply b1|apply bA);refine bP (cs:=#[.int .i64 t270,.int .i64 t271,.int .i64 0]) ?_ 2 _ rfl;(with_reducible repeat first|apply bN|apply b1|apply bA);refine bP (cs:=#[.int .i64 t270,.int .i64 0,.int .i64 0]) ?_ 1 _ rfl;(with_reducible repeat first|apply bN|apply b1|apply bA);refine bP (cs:=#[.int .i64 0,.int .i64 0,.int .i64 0]) ?_ 0 _ rfl;(with_reducible repeat first|apply bN|apply b1|apply bA);exact q0.out) hb);have n1_:=ak_ (bB (g:=q12) (o:=.cells #[.int .i64 t273,.int .i64 t274,.int .i64 t275,.int .i64 t276] 32 (0,0)) (by(with_reducible repeat first|apply bN|apply b1|apply bA);refine bP (cs:=#[.int .i64 t273,.int .i64 t274,.int .i64 t275,.int .i64 0]) ?_ 3 _ rfl;(with_reducible repeat first|apply bN|apply b1|apply bA);refine bP (cs:=#[.int .i64 t273,.int .i64 t274,.int .i64 0,.int .i64 0]) ?_ 2 _ rfl;(with_reducible repeat first|apply bN|apply b1|apply bA);refine bP (cs:=#[.int .i64 t273,.int .i64 0,.int .i64 0,.int .i64 0]) ?_ 1 _ rfl;(with_reducible repeat first|apply bN|apply b1|apply bA);refine bP (cs:=#[.int .i64 0,.int .i64 0,.int .i64 0,.int .i64 0]) ?_ 0 _ rfl;(with_reducible repeat first|apply bN|apply b1|apply bA);refine bF ?_ NB278_277.out _;(with_reducible repeat first|apply bN|apply b1|apply bA);refine bF ?_ NB278_277.out _;(with_reducible repeat first|apply bN|apply b1|apply bA);refine bF ?_ NB278_277.out _;(with_reducible repeat first|apply bN|apply b1|apply bA);exact q1.out) hb);have n2_:=ak_ (pT (by repeat(first|(with_reducible first|exact HB.out|apply pA|apply pN|apply p1|refine pS ?_ GE277.out|refine pS ?_ GE278.out)|exact HB.out)) hb);clear q0;clear q1;clear HB;have q0:=n0_;have q1:=n1_;have HB:=n2_;clear n0_ n1_ n2_;(try clear hb))|((with_reducible refine gate_dst (N:=5) rfl ?_);refine box_event ?hg (N:=5) ?hd (cs:=#[.int .i64 0,.int .i64 0,.int .i64 0,.int .i64 0,.int .i64 0]) (t:=27) ?hr ?_;(case hd=>rfl);(case hg=>rfl);(case hr=>first|(go_simp;done)|(go_simp;rfl));intro q13 hg w18 hbox hb;have n0_:=ak_ (bB (g:=q11) (o:=.cells #[.int .i64 t270,.int .i64 t271,.int .i64 t272] 30 (0,0)) (by(with_reducible repeat first|apply bN|apply b1|apply bA);exact q0.out) hb);have n1_:=ak_ (bB (g:=q12) (o:=.cells #[.int .i64 t273,.int .i64 t274,.int .i64 t275,.int .i64 t276] 32 (0,0)) (by(with_reducible repeat first|apply bN|apply b1|apply bA);exact q1.out) hb);have n2_:=ak_ (pT (by repeat(first|(with_reducible first|exact HB.out|apply pA|apply pN|apply p1|refine pS ?_ GE277.out|refine pS ?_ GE278.out)|exact HB.out)) hb);have n3_:=ak_ (hbox);have n4_:=ak_ ((by rw [hg];exact(below_size (by repeat(first|(with_reducible first|exact HB.out|apply pA|apply pN|apply p1|refine pS ?_ GE277.out|refine pS ?_ GE278.out)|exact HB.out))):w.heap.size≤q13));have n5_:=n4_;have n6_:=ak_ ((by rw [hg];exact Nat.ne_of_lt (blk_lt (g:=q11) (o:=.cells #[.int .i64 t270,.int .i64 t271,.int .i64 t272] 30 (0,0)) (by(with_reducible repeat first|apply bN|apply b1|apply bA);exact q0.out)):q11≠q13));have n7_:=ak_ n6_.out.symm;have n8_:=ak_ ((by rw [hg];exact Nat.ne_of_lt (blk_lt (g:=q12) (o:=.cells #[.int .i64 t273,.int .i64 t274,.int .i64 t275,.int .i64 t276] 32 (0,0)) (by(with_reducible repeat first|apply bN|apply b1|apply bA);exact q1.out)):q12≠q13));have n9_:=ak_ n8_.out.symm;clear q0;clear q1;clear HB;have q0:=n0_;have q1:=n1_;have HB:=n2_;have q2:=n3_;have GW285:=n4_;have GE285:=n5_;have NB277_285:=n6_;have NB285_277:=n7_;have NB278_285:=n8_;have NB285_278:=n9_;clear n0_ n1_ n2_ n3_ n4_ n5_ n6_ n7_ n8_ n9_;clear hb hbox hg;have hnb19:=NB285_277.out;have hnc19:=NB277_285.out;have hnb20:=NB285_278.out;have hnc20:=NB278_285.out;have hcz21_0:w18.cell? ⟨q13,0,none⟩=some (.int .i64 0):=(bC q2.out 0).trans rfl;have hcz21_1:w18.cell? ⟨q13,1,none⟩=some (.int .i64 0):=(bC q2.out 1).trans rfl;have hcz21_2:w18.cell? ⟨q13,2,none⟩=some (.int .i64 0):=(bC q2.out 2).trans rfl;have hcz21_3:w18.cell? ⟨q13,3,none⟩=some (.int .i64 0):=(bC q2.out 3).trans rfl;have hcz21_4:w18.cell? ⟨q13,4,none⟩=some (.int .i64 0):=(bC q2.out 4).trans rfl;have hfz21_0:=blk_frozen q2.out 0;have hfz21_1:=blk_frozen q2.out 1;have hfz21_2:=blk_frozen q2.out 2;have hfz21_3:=blk_frozen q2.out 3;have hfz21_4:=blk_frozen q2.out 4;have hcz22_0:w18.cell? ⟨q11,0,none⟩=some (.int .i64 t270):=(bC q0.out 0).trans rfl;have hcz22_1:w18.cell? ⟨q11,1,none⟩=some (.int .i64 t271):=(bC q0.out 1).trans rfl;have hcz22_2:w18.cell? ⟨q11,2,none⟩=some (.int .i64 t272):=(bC q0.out 2).trans rfl;have hfz22_0:=blk_frozen q0.out 0;have hfz22_1:=blk_frozen q0.out 1;have hfz22_2:=blk_frozen q0.out 2;have hcz23_0:w18.cell? ⟨q12,0,none⟩=some (.int .i64 t273):=(bC q1.out 0).trans rfl;have hcz23_1:w18.cell? ⟨q12,1,none⟩=some (.int .i64 t274):=(bC q1.out 1).trans rfl;have hcz23_2:w18.cell? ⟨q12,2,none⟩=some (.int .i64 t275):=(bC q1.out 2).trans rfl;have hcz23_3:w18.cell? ⟨q12,3,none⟩=some (.int .i64 t276):=(bC q1.out 3).trans rfl;have hfz23_0:=blk_frozen q1.out 0;have hfz23_1:=blk_frozen q1.out 1;have hfz23_2:=blk_frozen q1.out 2;have hfz23_3:=blk_frozen q1.out 3)|((with_reducible refine gate_callee (f:=10) rfl ?_);refine goesL_ (some 35) rfl rfl Try.func10 (by kernel_rfl) rfl #[.agg #[.int .i64 t270,.int .i64 t271,.int .i64 t272],.agg #[.int .i64 t273,.int .i64 t274,.int .i64 t275,.int .i64 t276]] rfl (by(try simp only [List.map_toArray,List.map_cons,List.map_nil]);first|done|rfl|(simp only [List.length_drop,List.length_take];rfl)) ?_;(with_reducible refine(spec_CaseOf.calls k t270 t271 t272 t273 t274 t275 t276 t286 t287 t288 t289 t290 t291 _ A6.out).mono ?_);rintro e w24 ⟨rfl,hb⟩;refine⟨_,rfl,?_⟩;have n0_:=ak_ (bB (g:=q11) (o:=.cells #[.int .i64 t270,.int .i64 t271,.int .i64 t272] 30 (0,0)) (by(with_reducible repeat first|apply bN|apply b1|apply bA);refine bF ?_ NB277_285.out _;(with_reducible repeat first|apply bN|apply b1|apply bA);refine bF ?_ NB277_285.out _;(with_reducible repeat first|apply bN|apply b1|apply bA);refine bF ?_ NB277_285.out _;(with_reducible repeat first|apply bN|apply b1|apply bA);refine bF ?_ NB277_285.out _;(with_reducible repeat first|apply bN|apply b1|apply bA);refine bF ?_ NB277_285.out _;(with_reducible repeat first|apply bN|apply b1|apply bA);exact q0.out) hb);have n1_:=ak_ (bB (g:=q12) (o:=.cells #[.int .i64 t273,.int .i64 t274,.int .i64 t275,.int .i64 t276] 32 (0,0)) (by(with_reducible repeat first|apply bN|apply b1|apply bA);refine bF ?_ NB278_285.out _;(with_reducible repeat first|apply bN|apply b1|apply bA);refine bF ?_ NB278_285.out _;(with_reducible repeat first|apply bN|apply b1|apply bA);refine bF ?_ NB278_285.out _;(with_reducible repeat first|apply bN|apply b1|apply bA);refine bF ?_ NB278_285.out _;(with_reducible repeat first|apply bN|apply b1|apply bA);refine bF ?_ NB278_285.out _;(with_reducible repeat first|apply bN|apply b1|apply bA);exact q1.out) hb);have n2_:=ak_ (bB (g:=q13) (o:=.cells #[.int .i64 t279,.int .i64 t280,.int .i64 t281,.int .i64 t282,.int .i64 t283] 27 (0,0)) (by(with_reducible repeat first|apply bN|apply b1|apply bA);refine bP (cs:=#[.int .i64 t279,.int .i64 t280,.int .i64 t281,.int .i64 t282,.int .i64 0]) ?_ 4 _ rfl;(with_reducible repeat first|apply bN|apply b1|apply bA);refine bP (cs:=#[.int .i64 t279,.int .i64 t280,.int .i64 t281,.int .i64 0,.int .i64 0]) ?_ 3 _ rfl;(with_reducible repeat first|apply bN|apply b1|apply bA);refine bP (cs:=#[.int .i64 t279,.int .i64 t280,.int .i64 0,.int .i64 0,.int .i64 0]) ?_ 2 _ rfl;(with_reducible repeat first|apply bN|apply b1|apply bA);refine bP (cs:=#[.int .i64 t279,.int .i64 0,.int .i64 0,.int .i64 0,.int .i64 0]) ?_ 1 _ rfl;(with_reducible repeat first|apply bN|apply b1|apply bA);refine bP (cs:=#[.int .i64 0,.int .i64 0,.int .i64 0,.int .i64 0,.int .i64 0]) ?_ 0 _ rfl;(with_reducible repeat first|apply bN|apply b1|apply bA);exact q2.out) hb);have n3_:=ak_ (pT (by repeat(first|(with_reducible first|exact HB.out|apply pA|apply pN|apply p1|refine pS ?_ GE277.out|refine pS ?_ GE278.out|refine pS ?_ GE285.out)|exact HB.out)) hb);clear q0;clear q1;clear q2;clear HB;have q0:=n0_;have q1:=n1_;have q2:=n2_;have HB:=n3_;clear n0_ n1_ n2_ n3_;(try clear hb))|((with_reducible refine gate_dst (N:=7) rfl ?_);refine box_event ?hg (N:=7) ?hd (cs:=#[.int .i64 0,.int .i64 0,.int .i64 0,.int .i64 0,.int .i64 0]) (t:=27) ?hr ?_;(case hd=>rfl);(case hg=>rfl);(case hr=>first|(go_simp;done)|(go_simp;rfl));intro q14 hg w25 hbox hb;have n0_:=ak_ (bB (g:=q11) (o:=.cells #[.int .i64 t270,.int .i64 t271,.int .i64 t272] 30 (0,0)) (by(with_reducible repeat first|apply bN|apply b1|apply bA);exact q0.out) hb);have n1_:=ak_ (bB (g:=q12) (o:=.cells #[.int .i64 t273,.int .i64 t274,.int .i64 t275,.int .i64 t276] 32 (0,0)) (by(with_reducible repeat first|apply bN|apply b1|apply bA);exact q1.out) hb);have n2_:=ak_ (bB (g:=q13) (o:=.cells #[.int .i64 t279,.int .i64 t280,.int .i64 t281,.int .i64 t282,.int .i64 t283] 27 (0,0)) (by(with_reducible repeat first|apply bN|apply b1|apply bA);exact q2.out) hb);have n3_:=ak_ (pT (by repeat(first|(with_reducible first|exact HB.out|apply pA|apply pN|apply p1|refine pS ?_ GE277.out|refine pS ?_ GE278.out|refine pS ?_ GE285.out)|exact HB.out)) hb);have n4_:=ak_ (hbox);have n5_:=ak_ ((by rw [hg];exact(below_size (by repeat(first|(with_reducible first|exact HB.out|apply pA|apply pN|apply p1|refine pS ?_ GE277.out|refine pS ?_ GE278.out|refine pS ?_ GE285.out)|exact HB.out))):w.heap.size≤q14));have n6_:=n5_;have n7_:=ak_ ((by rw [hg];exact Nat.ne_of_lt (blk_lt (g:=q11) (o:=.cells #[.int .i64 t270,.int .i64 t271,.int .i64 t272] 30 (0,0)) (by(with_reducible repeat first|apply bN|apply b1|apply bA);exact q0.out)):q11≠q14));have n8_:=ak_ n7_.out.symm;have n9_:=ak_ ((by rw [hg];exact Nat.ne_of_lt (blk_lt (g:=q12) (o:=.cells #[.int .i64 t273,.int .i64 t274,.int .i64 t275,.int .i64 t276] 32 (0,0)) (by(with_reducible repeat first|apply bN|apply b1|apply bA);exact q1.out)):q12≠q14));have n10_:=ak_ n9_.out.symm;have n11_:=ak_ ((by rw [hg];exact Nat.ne_of_lt (blk_lt (g:=q13) (o:=.cells #[.int .i64 t279,.int .i64 t280,.int .i64 t281,.int .i64 t282,.int .i64 t283] 27 (0,0)) (by(with_reducible repeat first|apply bN|apply b1|apply bA);exact q2.out)):q13≠q14));have n12_:=ak_ n11_.out.symm;clear q0;clear q1;clear q2;clear HB;have q0:=n0_;have q1:=n1_;have q2:=n2_;have HB:=n3_;have q3:=n4_;have GW292:=n5_;have GE292:=n6_;have NB277_292:=n7_;have NB292_277:=n8_;have NB278_292:=n9_;have NB292_278:=n10_;have NB285_292:=n11_;have NB292_285:=n12_;clear n0_ n1_ n2_ n3_ n4_ n5_ n6_ n7_ n8_ n9_ n10_ n11_ n12_;clear hb hbox hg;have hnb26:=NB292_277.out;have hnc26:=NB277_292.out;have hnb27:=NB292_278.out;have hnc27:=NB278_292.out;have hnb28:=NB292_285.out;have hnc28:=NB285_292.out;have hcz29_0:w25.cell? ⟨q14,0,none⟩=some (.int .i64 0):=(bC q3.out 0).trans rfl;have hcz29_1:w25.cell? ⟨q14,1,none⟩=some (.int .i64 0):=(bC q3.out 1).trans rfl;have hcz29_2:w25.cell? ⟨q14,2,none⟩=some (.int .i64 0):=(bC q3.out 2).trans rfl;have hcz29_3:w25.cell? ⟨q14,3,none⟩=some (.int .i64 0):=(bC q3.out 3).trans rfl;have hcz29_4:w25.cell? ⟨q14,4,none⟩=some (.int .i64 0):=(bC q3.out 4).trans rfl;have hfz29_0:=blk_frozen q3.out 0;have hfz29_1:=blk_frozen q3.out 1;have hfz29_2:=blk_frozen q3.out 2;have hfz29_3:=blk_frozen q3.out 3;have hfz29_4:=blk_frozen q3.out 4)|((with_reducible refine gate_callee (f:=29) rfl ?_);refine goesL_ (some 40) rfl rfl Try.func29 (by kernel_rfl) rfl #[.slice A0 l0.length c0] rfl (by(try simp only [List.map_toArray,List.map_cons,List.map_nil]);first|done|rfl|(simp only [List.length_drop,List.length_take];rfl)) ?_;(with_reducible refine(spec_DrawBlockFor.calls k _ _ l0 t293 t294 t295 t296 t297 t298 t299 t300 t301 _ ?side1 ?side2 A7.out).mono ?_);(case side1=>exact Kd.C_below HR0.out (by repeat(first|(with_reducible first|exact HB.out|apply pA|apply pN|apply p1|refine pS ?_ GE277.out|refine pS ?_ GE278.out|refine pS ?_ GE285.out|refine pS ?_ GE292.out)|exact HB.out)));(case side2=>exact HC0.out);rintro e w30 ⟨rfl,hb⟩;refine⟨_,rfl,?_⟩;have n0_:=ak_ (bB (g:=q11) (o:=.cells #[.int .i64 t270,.int .i64 t271,.int .i64 t272] 30 (0,0)) (by(with_reducible repeat first|apply bN|apply b1|apply bA);refine bF ?_ NB277_292.out _;(with_reducible repeat first|apply bN|apply b1|apply bA);refine bF ?_ NB277_292.out _;(with_reducible repeat first|apply bN|apply b1|apply bA);refine bF ?_ NB277_292.out _;(with_reducible repeat first|apply bN|apply b1|apply bA);refine bF ?_ NB277_292.out _;(with_reducible repeat first|apply bN|apply b1|apply bA);refine bF ?_ NB277_292.out _;(with_reducible repeat first|apply bN|apply b1|apply bA);exact q0.out) hb);have n1_:=ak_ (bB (g:=q12) (o:=.cells #[.int .i64 t273,.int .i64 t274,.int .i64 t275,.int .i64 t276] 32 (0,0)) (by(with_reducible repeat first|apply bN|apply b1|apply bA);refine bF ?_ NB278_292.out _;(with_reducible repeat first|apply bN|apply b1|apply bA);refine bF ?_ NB278_292.out _;(with_reducible repeat first|apply bN|apply b1|apply bA);refine bF ?_ NB278_292.out _;(with_reducible repeat first|apply bN|apply b1|apply bA);refine bF ?_ NB278_292.out _;(with_reducible repeat first|apply bN|apply b1|apply bA);refine bF ?_ NB278_292.out _;(with_reducible repeat first|apply bN|apply b1|apply bA);exact q1.out) hb);have n2_:=ak_ (bB (g:=q13) (o:=.cells #[.int .i64 t279,.int .i64 t280,.int .i64 t281,.int .i64 t282,.int .i64 t283] 27 (0,0)) (by(with_reducible repeat first|apply bN|apply b1|apply bA);refine bF ?_ NB285_292.out _;(with_reducible repeat first|apply bN|apply b1|apply bA);refine bF ?_ NB285_292.out _;(with_reducible repeat first|apply bN|apply b1|apply bA);refine bF ?_ NB285_292.out _;(with_reducible repeat first|apply bN|apply b1|apply bA);refine bF ?_ NB285_292.out _;(with_reducible repeat first|apply bN|apply b1|apply bA);refine bF ?_ NB285_292.out _;(with_reducible repeat first|apply bN|apply b1|apply bA);exact q2.out) hb);have n3_:=ak_ (bB (g:=q14) (o:=.cells #[.int .i64 t286,.int .i64 t287,.int .i64 t288,.int .i64 t289,.int .i64 t290] 27 (0,0)) (by(with_reducible repeat first|apply bN|apply b1|apply bA);refine bP (cs:=#[.int .i64 t286,.int .i64 t287,.int .i64 t288,.int .i64 t289,.int .i64 0]) ?_ 4 _ rfl;(with_reducible repeat first|apply bN|apply b1|apply bA);refine bP (cs:=#[.int .i64 t286,.int .i64 t287,.int .i64 t288,.int .i64 0,.int .i64 0]) ?_ 3 _ rfl;(with_reducible repeat first|apply bN|apply b1|apply bA);refine bP (cs:=#[.int .i64 t286,.int .i64 t287,.int .i64 0,.int .i64 0,.int .i64 0]) ?_ 2 _ rfl;(with_reducible repeat first|apply bN|apply b1|apply bA);refine bP (cs:=#[.int .i64 t286,.int .i64 0,.int .i64 0,.int .i64 0,.int .i64 0]) ?_ 1 _ rfl;(with_reducible repeat first|apply bN|apply b1|apply bA);refine bP (cs:=#[.int .i64 0,.int .i64 0,.int .i64 0,.int .i64 0,.int .i64 0]) ?_ 0 _ rfl;(with_reducible repeat first|apply bN|apply b1|apply bA);exact q3.out) hb);have n4_:=ak_ (pT (by repeat(first|(with_reducible first|exact HB.out|apply pA|apply pN|apply p1|refine pS ?_ GE277.out|refine pS ?_ GE278.out|refine pS ?_ GE285.out|refine pS ?_ GE292.out)|exact HB.out)) hb);clear q0;clear q1;clear q2;clear q3;clear HB;have q0:=n0_;have q1:=n1_;have q2:=n2_;have q3:=n3_;have HB:=n4_;clear n0_ n1_ n2_ n3_ n4_;(try clear hb))|((with_reducible refine gate_dst (N:=9) rfl ?_);refine box_event ?hg (N:=9) ?hd (cs:=#[.int .i64 0,.int .i64 0,.int .i64 0,.int .i64 0,.int .i64 0]) (t:=27) ?hr ?_;(case hd=>rfl);(case hg=>rfl);(case hr=>first|(go_simp;done)|(go_simp;rfl));intro q15 hg w31 hbox hb;have n0_:=ak_ (bB (g:=q11) (o:=.cells #[.int .i64 t270,.int .i64 t271,.int .i64 t272] 30 (0,0)) (by(with_reducible repeat first|apply bN|apply b1|apply bA);exact q0.out) hb);have n1_:=ak_ (bB (g:=q12) (o:=.cells #[.int .i64 t273,.int .i64 t274,.int .i64 t275,.int .i64 t276] 32 (0,0)) (by(with_reducible repeat first|apply bN|apply b1|apply bA);exact q1.out) hb);have n2_:=ak_ (bB (g:=q13) (o:=.cells #[.int .i64 t279,.int .i64 t280,.int .i64 t281,.int .i64 t282,.int .i64 t283] 27 (0,0)) (by(with_reducible repeat first|apply bN|apply b1|apply bA);exact q2.out) hb);have n3_:=ak_ (bB (g:=q14) (o:=.cells #[.int .i64 t286,.int .i64 t287,.int .i64 t288,.int .i64 t289,.int .i64 t290] 27 (0,0)) (by(with_reducible repeat first|apply bN|apply b1|apply bA);exact q3.out) hb);have n4_:=ak_ (pT (by repeat(first|(with_reducible first|exact HB.out|apply pA|apply pN|apply p1|refine pS ?_ GE277.out|refine pS ?_ GE278.out|refine pS ?_ GE285.out|refine pS ?_ GE292.out)|exact HB.out)) hb);have n5_:=ak_ (hbox);have n6_:=ak_ ((by rw [hg];exact(below_size (by repeat(first|(with_reducible first|exact HB.out|apply pA|apply pN|apply p1|refine pS ?_ GE277.out|refine pS ?_ GE278.out|refine pS ?_ GE285.out|refine pS ?_ GE292.out)|exact HB.out))):w.heap.size≤q15));have n7_:=n6_;have n8_:=ak_ ((by rw [hg];exact Nat.ne_of_lt (blk_lt (g:=q11) (o:=.cells #[.int .i64 t270,.int .i64 t271,.int .i64 t272] 30 (0,0)) (by(with_reducible repeat first|apply bN|apply b1|apply bA);exact q0.out)):q11≠q15));have n9_:=ak_ n8_.out.symm;have n10_:=ak_ ((by rw [hg];exact Nat.ne_of_lt (blk_lt (g:=q12) (o:=.cells #[.int .i64 t273,.int .i64 t274,.int .i64 t275,.int .i64 t276] 32 (0,0)) (by(with_reducible repeat first|apply bN|apply b1|apply bA);exact q1.out)):q12≠q15));have n11_:=ak_ n10_.out.symm;have n12_:=ak_ ((by rw [hg];exact Nat.ne_of_lt (blk_lt (g:=q13) (o:=.cells #[.int .i64 t279,.int .i64 t280,.int .i64 t281,.int .i64 t282,.int .i64 t283] 27 (0,0)) (by(with_reducible repeat first|apply bN|apply b1|apply bA);exact q2.out)):q13≠q15));have n13_:=ak_ n12_.out.symm;have n14_:=ak_ ((by rw [hg];exact Nat.ne_of_lt (blk_lt (g:=q14) (o:=.cells #[.int .i64 t286,.int .i64 t287,.int .i64 t288,.int .i64 t289,.int .i64 t290] 27 (0,0)) (by(with_reducible repeat first|apply bN|apply b1|apply bA);exact q3.out)):q14≠q15));have n15_:=ak_ n14_.out.symm;clear q0;clear q1;clear q2;clear q3;clear HB;have q0:=n0_;have q1:=n1_;have q2:=n2_;have q3:=n3_;have HB:=n4_;have q4:=n5_;have GW302:=n6_;have GE302:=n7_;have NB277_302:=n8_;have NB302_277:=n9_;have NB278_302:=n10_;have NB302_278:=n11_;have NB285_302:=n12_;have NB302_285:=n13_;have NB292_302:=n14_;have NB302_292:=n15_;clear n0_ n1_ n2_ n3_ n4_ n5_ n6_ n7_ n8_ n9_ n10_ n11_ n12_ n13_ n14_ n15_;clear hb hbox hg)|((with_reducible refine gate_dst (N:=10) rfl ?_);refine box_event ?hg (N:=10) ?hd (cs:=#[.int .i64 0,.int .i64 0,.int .i64 0,.int .i64 0]) (t:=32) ?hr ?_;(case hd=>rfl);(case hg=>rfl);(case hr=>first|(go_simp;done)|(go_simp;rfl));intro q16 hg w32 hbox hb;have n0_:=ak_ (bB (g:=q11) (o:=.cells #[.int .i64 t270,.int .i64 t271,.int .i64 t272] 30 (0,0)) (by(with_reducible repeat first|apply bN|apply b1|apply bA);exact q0.out) hb);have n1_:=ak_ (bB (g:=q12) (o:=.cells #[.int .i64 t273,.int .i64 t274,.int .i64 t275,.int .i64 t276] 32 (0,0)) (by(with_reducible repeat first|apply bN|apply b1|apply bA);exact q1.out) hb);have n2_:=ak_ (bB (g:=q13) (o:=.cells #[.int .i64 t279,.int .i64 t280,.int .i64 t281,.int .i64 t282,.int .i64 t283] 27 (0,0)) (by(with_reducible repeat first|apply bN|apply b1|apply bA);exact q2.out) hb);have n3_:=ak_ (bB (g:=q14) (o:=.cells #[.int .i64 t286,.int .i64 t287,.int .i64 t288,.int .i64 t289,.int .i64 t290] 27 (0,0)) (by(with_reducible repeat first|apply bN|apply b1|apply bA);exact q3.out) hb);have n4_:=ak_ (bB (g:=q15) (o:=.cells #[.int .i64 0,.int .i64 0,.int .i64 0,.int .i64 0,.int .i64 0] 27 (0,0)) (by(with_reducible repeat first|apply bN|apply b1|apply bA);exact q4.out) hb);have n5_:=ak_ (pT (by repeat(first|(with_reducible first|exact HB.out|apply pA|apply pN|apply p1|refine pS ?_ GE277.out|refine pS ?_ GE278.out|refine pS ?_ GE285.out|refine pS ?_ GE292.out|refine pS ?_ GE302.out)|exact HB.out)) hb);have n6_:=ak_ (hbox);have n7_:=ak_ ((by rw [hg];exact(below_size (by repeat(first|(with_reducible first|exact HB.out|apply pA|apply pN|apply p1|refine pS ?_ GE277.out|refine pS ?_ GE278.out|refine pS ?_ GE285.out|refine pS ?_ GE292.out|refine pS ?_ GE302.out)|exact HB.out))):w.heap.size≤q16));have n8_:=n7_;have n9_:=ak_ ((by rw [hg];exact Nat.ne_of_lt (blk_lt (g:=q11) (o:=.cells #[.int .i64 t270,.int .i64 t271,.int .i64 t272] 30 (0,0)) (by(with_reducible repeat first|apply bN|apply b1|apply bA);exact q0.out)):q11≠q16));have n10_:=ak_ n9_.out.symm;have n11_:=ak_ ((by rw [hg];exact Nat.ne_of_lt (blk_lt (g:=q12) (o:=.cells #[.int .i64 t273,.int .i64 t274,.int .i64 t275,.int .i64 t276] 32 (0,0)) (by(with_reducible repeat first|apply bN|apply b1|apply bA);exact q1.out)):q12≠q16));have n12_:=ak_ n11_.out.symm;have n13_:=ak_ ((by rw [hg];exact Nat.ne_of_lt (blk_lt (g:=q13) (o:=.cells #[.int .i64 t279,.int .i64 t280,.int .i64 t281,.int .i64 t282,.int .i64 t283] 27 (0,0)) (by(with_reducible repeat first|apply bN|apply b1|apply bA);exact q2.out)):q13≠q16));have n14_:=ak_ n13_.out.symm;have n15_:=ak_ ((by rw [hg];exact Nat.ne_of_lt (blk_lt (g:=q14) (o:=.cells #[.int .i64 t286,.int .i64 t287,.int .i64 t288,.int .i64 t289,.int .i64 t290] 27 (0,0)) (by(with_reducible repeat first|apply bN|apply b1|apply bA);exact q3.out)):q14≠q16));have n16_:=ak_ n15_.out.symm;have n17_:=ak_ ((by rw [hg];exact Nat.ne_of_lt (blk_lt (g:=q15) (o:=.cells #[.int .i64 0,.int .i64 0,.int .i64 0,.int .i64 0,.int .i64 0] 27 (0,0)) (by(with_reducible repeat first|apply bN|apply b1|apply bA);exact q4.out)):q15≠q16));have n18_:=ak_ n17_.out.symm;clear q0;clear q1;clear q2;clear q3;clear q4;clear HB;have q0:=n0_;have q1:=n1_;have q2:=n2_;have q3:=n3_;have q4:=n4_;have HB:=n5_;have q5:=n6_;have GW303:=n7_;have GE303:=n8_;have NB277_303:=n9_;have NB303_277:=n10_;have NB278_303:=n11_;have NB303_278:=n12_;have NB285_303:=n13_;have NB303_285:=n14_;have NB292_303:=n15_;have NB303_292:=n16_;have NB302_303:=n17_;have NB303_302:=n18_;clear n0_ n1_ n2_ n3_ n4_ n5_ n6_ n7_ n8_ n9_ n10_ n11_ n12_ n13_ n14_ n15_ n16_ n17_ n18_;clear hb hbox hg;have hnb33:=NB302_277.out;have hnc33:=NB277_302.out;have hnb34:=NB302_278.out;have hnc34:=NB278_302.out;have hnb35:=NB302_285.out;have hnc35:=NB285_302.out;have hnb36:=NB302_292.out;have hnc36:=NB292_302.out;have hnb37:=NB302_303.out;have hnc37:=NB303_302.out;have hcz38_0:w32.cell? ⟨q15,0,none⟩=some (.int .i64 0):=(bC q4.out 0).trans rfl;have hcz38_1:w32.cell? ⟨q15,1,none⟩=some (.int .i64 0):=(bC q4.out 1).trans rfl;have hcz38_2:w32.cell? ⟨q15,2,none⟩=some (.int .i64 0):=(bC q4.out 2).trans rfl;have hcz38_3:w32.cell? ⟨q15,3,none⟩=some (.int .i64 0):=(bC q4.out 3).trans rfl;have hcz38_4:w32.cell? ⟨q15,4,none⟩=some (.int .i64 0):=(bC q4.out 4).trans rfl;have hfz38_0:=blk_frozen q4.out 0;have hfz38_1:=blk_frozen q4.out 1;have hfz38_2:=blk_frozen q4.out 2;have hfz38_3:=blk_frozen q4.out 3;have hfz38_4:=blk_frozen q4.out 4;have hnb39:=NB303_277.out;have hnc39:=NB277_303.out;have hnb40:=NB303_278.out;have hnc40:=NB278_303.out;have hnb41:=NB303_285.out;have hnc41:=NB285_303.out;have hnb42:=NB303_292.out;have hnc42:=NB292_303.out;have hcz43_0:w32.cell? ⟨q16,0,none⟩=some (.int .i64 0):=(bC q5.out 0).trans rfl;have hcz43_1:w32.cell? ⟨q16,1,none⟩=some (.int .i64 0):=(bC q5.out 1).trans rfl;have hcz43_2:w32.cell? ⟨q16,2,none⟩=some (.int .i64 0):=(bC q5.out 2).trans rfl;have hcz43_3:w32.cell? ⟨q16,3,none⟩=some (.int .i64 0):=(bC q5.out 3).trans rfl;have hfz43_0:=blk_frozen q5.out 0;have hfz43_1:=blk_frozen q5.out 1;have hfz43_2:=blk_frozen q5.out 2;have hfz43_3:=blk_frozen q5.out 3)|((with_reducible refine gate_callee (f:=21) rfl ?_);refine goesL_ (some 46) rfl rfl Try.func21 (by kernel_rfl) rfl #[.agg #[.int .i64 t293,.int .i64 t294,.int .i64 t295,.int .i64 t296,.int .i64 t297],.agg #[.int .i64 t298,.int .i64 t299,.int .i64 t300,.int .i64 t301]] rfl (by(try simp only [List.map_toArray,List.map_cons,List.map_nil]);first|done|rfl|(simp only [List.length_drop,List.length_take];rfl)) ?_;(with_reducible refine(impl_BlockFor.calls t293 t294 t295 t296 t297 t298 t299 t300 t301 t304 t305 t306 t307 _ A8.out).mono ?_);rintro e w44 ⟨rfl,hb⟩;refine⟨_,rfl,?_⟩;have n0_:=ak_ (bB (g:=q11) (o:=.cells #[.int .i64 t270,.int .i64 t271,.int .i64 t272] 30 (0,0)) (by(with_reducible repeat first|apply bN|apply b1|apply bA);refine bF ?_ NB277_303.out _;(with_reducible repeat first|apply bN|apply b1|apply bA);refine bF ?_ NB277_303.out _;(with_reducible repeat first|apply bN|apply b1|apply bA);refine bF ?_ NB277_303.out _;(with_reducible repeat first|apply bN|apply b1|apply bA);refine bF ?_ NB277_303.out _;(with_reducible repeat first|apply bN|apply b1|apply bA);refine bF ?_ NB277_302.out _;(with_reducible repeat first|apply bN|apply b1|apply bA);refine bF ?_ NB277_302.out _;(with_reducible repeat first|apply bN|apply b1|apply bA);refine bF ?_ NB277_302.out _;(with_reducible repeat first|apply bN|apply b1|apply bA);refine bF ?_ NB277_302.out _;(with_reducible repeat first|apply bN|apply b1|apply bA);refine bF ?_ NB277_302.out _;(with_reducible repeat first|apply bN|apply b1|apply bA);exact q0.out) hb);have n1_:=ak_ (bB (g:=q12) (o:=.cells #[.int .i64 t273,.int .i64 t274,.int .i64 t275,.int .i64 t276] 32 (0,0)) (by(with_reducible repeat first|apply bN|apply b1|apply bA);refine bF ?_ NB278_303.out _;(with_reducible repeat first|apply bN|apply b1|apply bA);refine bF ?_ NB278_303.out _;(with_reducible repeat first|apply bN|apply b1|apply bA);refine bF ?_ NB278_303.out _;(with_reducible repeat first|apply bN|apply b1|apply bA);refine bF ?_ NB278_303.out _;(with_reducible repeat first|apply bN|apply b1|apply bA);refine bF ?_ NB278_302.out _;(with_reducible repeat first|apply bN|apply b1|apply bA);refine bF ?_ NB278_302.out _;(with_reducible repeat first|apply bN|apply b1|apply bA);refine bF ?_ NB278_302.out _;(with_reducible repeat first|apply bN|apply b1|apply bA);refine bF ?_ NB278_302.out _;(with_reducible repeat first|apply bN|apply b1|apply bA);refine bF ?_ NB278_302.out _;(with_reducible repeat first|apply bN|apply b1|apply bA);exact q1.out) hb);have n2_:=ak_ (bB (g:=q13) (o:=.cells #[.int .i64 t279,.int .i64 t280,.int .i64 t281,.int .i64 t282,.int .i64 t283] 27 (0,0)) (by(with_reducible repeat first|apply bN|apply b1|apply bA);refine bF ?_ NB285_303.out _;(with_reducible repeat first|apply bN|apply b1|apply bA);refine bF ?_ NB285_303.out _;(with_reducible repeat first|apply bN|apply b1|apply bA);refine bF ?_ NB285_303.out _;(with_reducible repeat first|apply bN|apply b1|apply bA);refine bF ?_ NB285_303.out _;(with_reducible repeat first|apply bN|apply b1|apply bA);refine bF ?_ NB285_302.out _;(with_reducible repeat first|apply bN|apply b1|apply bA);refine bF ?_ NB285_302.out _;(with_reducible repeat first|apply bN|apply b1|apply bA);refine bF ?_ NB285_302.out _;(with_reducible repeat first|apply bN|apply b1|apply bA);refine bF ?_ NB285_302.out _;(with_reducible repeat first|apply bN|apply b1|apply bA);refine bF ?_ NB285_302.out _;(with_reducible repeat first|apply bN|apply b1|apply bA);exact q2.out) hb);have n3_:=ak_ (bB (g:=q14) (o:=.cells #[.int .i64 t286,.int .i64 t287,.int .i64 t288,.int .i64 t289,.int .i64 t290] 27 (0,0)) (by(with_reducible repeat first|apply bN|apply b1|apply bA);refine bF ?_ NB292_303.out _;(with_reducible repeat first|apply bN|apply b1|apply bA);refine bF ?_ NB292_303.out _;(with_reducible repeat first|apply bN|apply b1|apply bA);refine bF ?_ NB292_303.out _;(with_reducible repeat first|apply bN|apply b1|apply bA);refine bF ?_ NB292_303.out _;(with_reducible repeat first|apply bN|apply b1|apply bA);refine bF ?_ NB292_302.out _;(with_reducible repeat first|apply bN|apply b1|apply bA);refine bF ?_ NB292_302.out _;(with_reducible repeat first|apply bN|apply b1|apply bA);refine bF ?_ NB292_302.out _;(with_reducible repeat first|apply bN|apply b1|apply bA);refine bF ?_ NB292_302.out _;(with_reducible repeat first|apply bN|apply b1|apply bA);refine bF ?_ NB292_302.out _;(with_reducible repeat first|apply bN|apply b1|apply bA);exact q3.out) hb);have n4_:=ak_ (bB (g:=q15) (o:=.cells #[.int .i64 t293,.int .i64 t294,.int .i64 t295,.int .i64 t296,.int .i64 t297] 27 (0,0)) (by(with_reducible repeat first|apply bN|apply b1|apply bA);refine bF ?_ NB302_303.out _;(with_reducible repeat first|apply bN|apply b1|apply bA);refine bF ?_ NB302_303.out _;(with_reducible repeat first|apply bN|apply b1|apply bA);refine bF ?_ NB302_303.out _;(with_reducible repeat first|apply bN|apply b1|apply bA);refine bF ?_ NB302_303.out _;(with_reducible repeat first|apply bN|apply b1|apply bA);refine bP (cs:=#[.int .i64 t293,.int .i64 t294,.int .i64 t295,.int .i64 t296,.int .i64 0]) ?_ 4 _ rfl;(with_reducible repeat first|apply bN|apply b1|apply bA);refine bP (cs:=#[.int .i64 t293,.int .i64 t294,.int .i64 t295,.int .i64 0,.int .i64 0]) ?_ 3 _ rfl;(with_reducible repeat first|apply bN|apply b1|apply bA);refine bP (cs:=#[.int .i64 t293,.int .i64 t294,.int .i64 0,.int .i64 0,.int .i64 0]) ?_ 2 _ rfl;(with_reducible repeat first|apply bN|apply b1|apply bA);refine bP (cs:=#[.int .i64 t293,.int .i64 0,.int .i64 0,.int .i64 0,.int .i64 0]) ?_ 1 _ rfl;(with_reducible repeat first|apply bN|apply b1|apply bA);refine bP (cs:=#[.int .i64 0,.int .i64 0,.int .i64 0,.int .i64 0,.int .i64 0]) ?_ 0 _ rfl;(with_reducible repeat first|apply bN|apply b1|apply bA);exact q4.out) hb);have n5_:=ak_ (bB (g:=q16) (o:=.cells #[.int .i64 t298,.int .i64 t299,.int .i64 t300,.int .i64 t301] 32 (0,0)) (by(with_reducible repeat first|apply bN|apply b1|apply bA);refine bP (cs:=#[.int .i64 t298,.int .i64 t299,.int .i64 t300,.int .i64 0]) ?_ 3 _ rfl;(with_reducible repeat first|apply bN|apply b1|apply bA);refine bP (cs:=#[.int .i64 t298,.int .i64 t299,.int .i64 0,.int .i64 0]) ?_ 2 _ rfl;(with_reducible repeat first|apply bN|apply b1|apply bA);refine bP (cs:=#[.int .i64 t298,.int .i64 0,.int .i64 0,.int .i64 0]) ?_ 1 _ rfl;(with_reducible repeat first|apply bN|apply b1|apply bA);refine bP (cs:=#[.int .i64 0,.int .i64 0,.int .i64 0,.int .i64 0]) ?_ 0 _ rfl;(with_reducible repeat first|apply bN|apply b1|apply bA);refine bF ?_ NB303_302.out _;(with_reducible repeat first|apply bN|apply b1|apply bA);refine bF ?_ NB303_302.out _;(with_reducible repeat first|apply bN|apply b1|apply bA);refine bF ?_ NB303_302.out _;(with_reducible repeat first|apply bN|apply b1|apply bA);refine bF ?_ NB303_302.out _;(with_reducible repeat first|apply bN|apply b1|apply bA);refine bF ?_ NB303_302.out _;(with_reducible repeat first|apply bN|apply b1|apply bA);exact q5.out) hb);have n6_:=ak_ (pT (by repeat(first|(with_reducible first|exact HB.out|apply pA|apply pN|apply p1|refine pS ?_ GE277.out|refine pS ?_ GE278.out|refine pS ?_ GE285.out|refine pS ?_ GE292.out|refine pS ?_ GE302.out|refine pS ?_ GE303.out)|exact HB.out)) hb);clear q0;clear q1;clear q2;clear q3;clear q4;clear q5;clear HB;have q0:=n0_;have q1:=n1_;have q2:=n2_;have q3:=n3_;have q4:=n4_;have q5:=n5_;have HB:=n6_;clear n0_ n1_ n2_ n3_ n4_ n5_ n6_;(try clear hb))|((with_reducible refine gate_dst (N:=11) rfl ?_);refine box_event ?hg (N:=11) ?hd (cs:=#[.int .i64 0,.int .i64 0,.int .i64 0]) (t:=30) ?hr ?_;(case hd=>rfl);(case hg=>rfl);(case hr=>first|(go_simp;done)|(go_simp;rfl));intro q17 hg w45 hbox hb;have n0_:=ak_ (bB (g:=q11) (o:=.cells #[.int .i64 t270,.int .i64 t271,.int .i64 t272] 30 (0,0)) (by(with_reducible repeat first|apply bN|apply b1|apply bA);exact q0.out) hb);have n1_:=ak_ (bB (g:=q12) (o:=.cells #[.int .i64 t273,.int .i64 t274,.int .i64 t275,.int .i64 t276] 32 (0,0)) (by(with_reducible repeat first|apply bN|apply b1|apply bA);exact q1.out) hb);have n2_:=ak_ (bB (g:=q13) (o:=.cells #[.int .i64 t279,.int .i64 t280,.int .i64 t281,.int .i64 t282,.int .i64 t283] 27 (0,0)) (by(with_reducible repeat first|apply bN|apply b1|apply bA);exact q2.out) hb);have n3_:=ak_ (bB (g:=q14) (o:=.cells #[.int .i64 t286,.int .i64 t287,.int .i64 t288,.int .i64 t289,.int .i64 t290] 27 (0,0)) (by(with_reducible repeat first|apply bN|apply b1|apply bA);exact q3.out) hb);have n4_:=ak_ (bB (g:=q15) (o:=.cells #[.int .i64 t293,.int .i64 t294,.int .i64 t295,.int .i64 t296,.int .i64 t297] 27 (0,0)) (by(with_reducible repeat first|apply bN|apply b1|apply bA);exact q4.out) hb);have n5_:=ak_ (bB (g:=q16) (o:=.cells #[.int .i64 t298,.int .i64 t299,.int .i64 t300,.int .i64 t301] 32 (0,0)) (by(with_reducible repeat first|apply bN|apply b1|apply bA);exact q5.out) hb);have n6_:=ak_ (pT (by repeat(first|(with_reducible first|exact HB.out|apply pA|apply pN|apply p1|refine pS ?_ GE277.out|refine pS ?_ GE278.out|refine pS ?_ GE285.out|refine pS ?_ GE292.out|refine pS ?_ GE302.out|refine pS ?_ GE303.out)|exact HB.out)) hb);have n7_:=ak_ (hbox);have n8_:=ak_ ((by rw [hg];exact(below_size (by repeat(first|(with_reducible first|exact HB.out|apply pA|apply pN|apply p1|refine pS ?_ GE277.out|refine pS ?_ GE278.out|refine pS ?_ GE285.out|refine pS ?_ GE292.out|refine pS ?_ GE302.out|refine pS ?_ GE303.out)|exact HB.out))):w.heap.size≤q17));have n9_:=n8_;have n10_:=ak_ ((by rw [hg];exact Nat.ne_of_lt (blk_lt (g:=q11) (o:=.cells #[.int .i64 t270,.int .i64 t271,.int .i64 t272] 30 (0,0)) (by(with_reducible repeat first|apply bN|apply b1|apply bA);exact q0.out)):q11≠q17));have n11_:=ak_ n10_.out.symm;have n12_:=ak_ ((by rw [hg];exact Nat.ne_of_lt (blk_lt (g:=q12) (o:=.cells #[.int .i64 t273,.int .i64 t274,.int .i64 t275,.int .i64 t276] 32 (0,0)) (by(with_reducible repeat first|apply bN|apply b1|apply bA);exact q1.out)):q12≠q17));have n13_:=ak_ n12_.out.symm;have n14_:=ak_ ((by rw [hg];exact Nat.ne_of_lt (blk_lt (g:=q13) (o:=.cells #[.int .i64 t279,.int .i64 t280,.int .i64 t281,.int .i64 t282,.int .i64 t283] 27 (0,0)) (by(with_reducible repeat first|apply bN|apply b1|apply bA);exact q2.out)):q13≠q17));have n15_:=ak_ n14_.out.symm;have n16_:=ak_ ((by rw [hg];exact Nat.ne_of_lt (blk_lt (g:=q14) (o:=.cells #[.int .i64 t286,.int .i64 t287,.int .i64 t288,.int .i64 t289,.int .i64 t290] 27 (0,0)) (by(with_reducible repeat first|apply bN|apply b1|apply bA);exact q3.out)):q14≠q17));have n17_:=ak_ n16_.out.symm;have n18_:=ak_ ((by rw [hg];exact Nat.ne_of_lt (blk_lt (g:=q15) (o:=.cells #[.int .i64 t293,.int .i64 t294,.int .i64 t295,.int .i64 t296,.int .i64 t297] 27 (0,0)) (by(with_reducible repeat first|apply bN|apply b1|apply bA);exact q4.out)):q15≠q17));have n19_:=ak_ n18_.out.symm;have n20_:=ak_ ((by rw [hg];exact Nat.ne_of_lt (blk_lt (g:=q16) (o:=.cells #[.int .i64 t298,.int .i64 t299,.int .i64 t300,.int .i64 t301] 32 (0,0)) (by(with_reducible repeat first|apply bN|apply b1|apply bA);exact q5.out)):q16≠q17));have n21_:=ak_ n20_.out.symm;clear q0;clear q1;clear q2;clear q3;clear q4;clear q5;clear HB;have q0:=n0_;have q1:=n1_;have q2:=n2_;have q3:=n3_;have q4:=n4_;have q5:=n5_;have HB:=n6_;have q6:=n7_;have GW308:=n8_;have GE308:=n9_;have NB277_308:=n10_;have NB308_277:=n11_;have NB278_308:=n12_;have NB308_278:=n13_;have NB285_308:=n14_;have NB308_285:=n15_;have NB292_308:=n16_;have NB308_292:=n17_;have NB302_308:=n18_;have NB308_302:=n19_;have NB303_308:=n20_;have NB308_303:=n21_;clear n0_ n1_ n2_ n3_ n4_ n5_ n6_ n7_ n8_ n9_ n10_ n11_ n12_ n13_ n14_ n15_ n16_ n17_ n18_ n19_ n20_ n21_;clear hb hbox hg;have hnb46:=NB308_277.out;have hnc46:=NB277_308.out;have hnb47:=NB308_278.out;have hnc47:=NB278_308.out;have hnb48:=NB308_285.out;have hnc48:=NB285_308.out;have hnb49:=NB308_292.out;have hnc49:=NB292_308.out;have hnb50:=NB308_302.out;have hnc50:=NB302_308.out;have hnb51:=NB308_303.out;have hnc51:=NB303_308.out;have hcz52_0:w45.cell? ⟨q17,0,none⟩=some (.int .i64 0):=(bC q6.out 0).trans rfl;have hcz52_1:w45.cell? ⟨q17,1,none⟩=some (.int .i64 0):=(bC q6.out 1).trans rfl;have hcz52_2:w45.cell? ⟨q17,2,none⟩=some (.int .i64 0):=(bC q6.out 2).trans rfl;have hfz52_0:=blk_frozen q6.out 0;have hfz52_1:=blk_frozen q6.out 1;have hfz52_2:=blk_frozen q6.out 2;have hcz53_0:w45.cell? ⟨q15,0,none⟩=some (.int .i64 t293):=(bC q4.out 0).trans rfl;have hcz53_1:w45.cell? ⟨q15,1,none⟩=some (.int .i64 t294):=(bC q4.out 1).trans rfl;have hcz53_2:w45.cell? ⟨q15,2,none⟩=some (.int .i64 t295):=(bC q4.out 2).trans rfl;have hcz53_3:w45.cell? ⟨q15,3,none⟩=some (.int .i64 t296):=(bC q4.out 3).trans rfl;have hcz53_4:w45.cell? ⟨q15,4,none⟩=some (.int .i64 t297):=(bC q4.out 4).trans rfl;have hfz53_0:=blk_frozen q4.out 0;have hfz53_1:=blk_frozen q4.out 1;have hfz53_2:=blk_frozen q4.out 2;have hfz53_3:=blk_frozen q4.out 3;have hfz53_4:=blk_frozen q4.out 4;have hcz54_0:w45.cell? ⟨q16,0,none⟩=some (.int .i64 t298):=(bC q5.out 0).trans rfl;have hcz54_1:w45.cell? ⟨q16,1,none⟩=some (.int .i64 t299):=(bC q5.out 1).trans rfl;have hcz54_2:w45.cell? ⟨q16,2,none⟩=some (.int .i64 t300):=(bC q5.out 2).trans rfl;have hcz54_3:w45.cell? ⟨q16,3,none⟩=some (.int .i64 t301):=(bC q5.out 3).trans rfl;have hfz54_0:=blk_frozen q5.out 0;have hfz54_1:=blk_frozen q5.out 1;have hfz54_2:=blk_frozen q5.out 2;have hfz54_3:=blk_frozen q5.out 3)|((with_reducible refine gate_callee (f:=19) rfl ?_);refine goesL_ (some 52) rfl rfl Try.func19 (by kernel_rfl) rfl #[.agg #[.int .i64 t293,.int .i64 t294,.int .i64 t295,.int .i64 t296,.int .i64 t297],.agg #[.int .i64 t298,.int .i64 t299,.int .i64 t300,.int .i64 t301]] rfl (by(try simp only [List.map_toArray,List.map_cons,List.map_nil]);first|done|rfl|(simp only [List.length_drop,List.length_take];rfl)) ?_;(with_reducible refine(spec_BlockFor.calls k t293 t294 t295 t296 t297 t298 t299 t300 t301 t309 t310 t311 t312 _ A9.out).mono ?_);rintro e w55 ⟨rfl,hb⟩;refine⟨_,rfl,?_⟩;have n0_:=ak_ (bB (g:=q11) (o:=.cells #[.int .i64 t270,.int .i64 t271,.int .i64 t272] 30 (0,0)) (by(with_reducible repeat first|apply bN|apply b1|apply bA);refine bF ?_ NB277_308.out _;(with_reducible repeat first|apply bN|apply b1|apply bA);refine bF ?_ NB277_308.out _;(with_reducible repeat first|apply bN|apply b1|apply bA);refine bF ?_ NB277_308.out _;(with_reducible repeat first|apply bN|apply b1|apply bA);exact q0.out) hb);have n1_:=ak_ (bB (g:=q12) (o:=.cells #[.int .i64 t273,.int .i64 t274,.int .i64 t275,.int .i64 t276] 32 (0,0)) (by(with_reducible repeat first|apply bN|apply b1|apply bA);refine bF ?_ NB278_308.out _;(with_reducible repeat first|apply bN|apply b1|apply bA);refine bF ?_ NB278_308.out _;(with_reducible repeat first|apply bN|apply b1|apply bA);refine bF ?_ NB278_308.out _;(with_reducible repeat first|apply bN|apply b1|apply bA);exact q1.out) hb);have n2_:=ak_ (bB (g:=q13) (o:=.cells #[.int .i64 t279,.int .i64 t280,.int .i64 t281,.int .i64 t282,.int .i64 t283] 27 (0,0)) (by(with_reducible repeat first|apply bN|apply b1|apply bA);refine bF ?_ NB285_308.out _;(with_reducible repeat first|apply bN|apply b1|apply bA);refine bF ?_ NB285_308.out _;(with_reducible repeat first|apply bN|apply b1|apply bA);refine bF ?_ NB285_308.out _;(with_reducible repeat first|apply bN|apply b1|apply bA);exact q2.out) hb);have n3_:=ak_ (bB (g:=q14) (o:=.cells #[.int .i64 t286,.int .i64 t287,.int .i64 t288,.int .i64 t289,.int .i64 t290] 27 (0,0)) (by(with_reducible repeat first|apply bN|apply b1|apply bA);refine bF ?_ NB292_308.out _;(with_reducible repeat first|apply bN|apply b1|apply bA);refine bF ?_ NB292_308.out _;(with_reducible repeat first|apply bN|apply b1|apply bA);refine bF ?_ NB292_308.out _;(with_reducible repeat first|apply bN|apply b1|apply bA);exact q3.out) hb);have n4_:=ak_ (bB (g:=q15) (o:=.cells #[.int .i64 t293,.int .i64 t294,.int .i64 t295,.int .i64 t296,.int .i64 t297] 27 (0,0)) (by(with_reducible repeat first|apply bN|apply b1|apply bA);refine bF ?_ NB302_308.out _;(with_reducible repeat first|apply bN|apply b1|apply bA);refine bF ?_ NB302_308.out _;(with_reducible repeat first|apply bN|apply b1|apply bA);refine bF ?_ NB302_308.out _;(with_reducible repeat first|apply bN|apply b1|apply bA);exact q4.out) hb);have n5_:=ak_ (bB (g:=q16) (o:=.cells #[.int .i64 t298,.int .i64 t299,.int .i64 t300,.int .i64 t301] 32 (0,0)) (by(with_reducible repeat first|apply bN|apply b1|apply bA);refine bF ?_ NB303_308.out _;(with_reducible repeat first|apply bN|apply b1|apply bA);refine bF ?_ NB303_308.out _;(with_reducible repeat first|apply bN|apply b1|apply bA);refine bF ?_ NB303_308.out _;(with_reducible repeat first|apply bN|apply b1|apply bA);exact q5.out) hb);have n6_:=ak_ (bB (g:=q17) (o:=.cells #[.int .i64 t304,.int .i64 t305,.int .i64 t306] 30 (0,0)) (by(with_reducible repeat first|apply bN|apply b1|apply bA);refine bP (cs:=#[.int .i64 t304,.int .i64 t305,.int .i64 0]) ?_ 2 _ rfl;(with_reducible repeat first|apply bN|apply b1|apply bA);refine bP (cs:=#[.int .i64 t304,.int .i64 0,.int .i64 0]) ?_ 1 _ rfl;(with_reducible repeat first|apply bN|apply b1|apply bA);refine bP (cs:=#[.int .i64 0,.int .i64 0,.int .i64 0]) ?_ 0 _ rfl;(with_reducible repeat first|apply bN|apply b1|apply bA);exact q6.out) hb);have n7_:=ak_ (pT (by repeat(first|(with_reducible first|exact HB.out|apply pA|apply pN|apply p1|refine pS ?_ GE277.out|refine pS ?_ GE278.out|refine pS ?_ GE285.out|refine pS ?_ GE292.out|refine pS ?_ GE302.out|refine pS ?_ GE303.out|refine pS ?_ GE308.out)|exact HB.out)) hb);clear q0;clear q1;clear q2;clear q3;clear q4;clear q5;clear q6;clear HB;have q0:=n0_;have q1:=n1_;have q2:=n2_;have q3:=n3_;have q4:=n4_;have q5:=n5_;have q6:=n6_;have HB:=n7_;clear n0_ n1_ n2_ n3_ n4_ n5_ n6_ n7_;(try clear hb))|((with_reducible refine gate_dst (N:=13) rfl ?_);refine box_event ?hg (N:=13) ?hd (cs:=#[.int .i64 0,.int .i64 0,.int .i64 0]) (t:=30) ?hr ?_;(case hd=>rfl);(case hg=>rfl);(case hr=>first|(go_simp;done)|(go_simp;rfl));intro q18 hg w56 hbox hb;have n0_:=ak_ (bB (g:=q11) (o:=.cells #[.int .i64 t270,.int .i64 t271,.int .i64 t272] 30 (0,0)) (by(with_reducible repeat first|apply bN|apply b1|apply bA);exact q0.out) hb);have n1_:=ak_ (bB (g:=q12) (o:=.cells #[.int .i64 t273,.int .i64 t274,.int .i64 t275,.int .i64 t276] 32 (0,0)) (by(with_reducible repeat first|apply bN|apply b1|apply bA);exact q1.out) hb);have n2_:=ak_ (bB (g:=q13) (o:=.cells #[.int .i64 t279,.int .i64 t280,.int .i64 t281,.int .i64 t282,.int .i64 t283] 27 (0,0)) (by(with_reducible repeat first|apply bN|apply b1|apply bA);exact q2.out) hb);have n3_:=ak_ (bB (g:=q14) (o:=.cells #[.int .i64 t286,.int .i64 t287,.int .i64 t288,.int .i64 t289,.int .i64 t290] 27 (0,0)) (by(with_reducible repeat first|apply bN|apply b1|apply bA);exact q3.out) hb);have n4_:=ak_ (bB (g:=q15) (o:=.cells #[.int .i64 t293,.int .i64 t294,.int .i64 t295,.int .i64 t296,.int .i64 t297] 27 (0,0)) (by(with_reducible repeat first|apply bN|apply b1|apply bA);exact q4.out) hb);have n5_:=ak_ (bB (g:=q16) (o:=.cells #[.int .i64 t298,.int .i64 t299,.int .i64 t300,.int .i64 t301] 32 (0,0)) (by(with_reducible repeat first|apply bN|apply b1|apply bA);exact q5.out) hb);have n6_:=ak_ (bB (g:=q17) (o:=.cells #[.int .i64 t304,.int .i64 t305,.int .i64 t306] 30 (0,0)) (by(with_reducible repeat first|apply bN|apply b1|apply bA);exact q6.out) hb);have n7_:=ak_ (pT (by repeat(first|(with_reducible first|exact HB.out|apply pA|apply pN|apply p1|refine pS ?_ GE277.out|refine pS ?_ GE278.out|refine pS ?_ GE285.out|refine pS ?_ GE292.out|refine pS ?_ GE302.out|refine pS ?_ GE303.out|refine pS ?_ GE308.out)|exact HB.out)) hb);have n8_:=ak_ (hbox);have n9_:=ak_ ((by rw [hg];exact(below_size (by repeat(first|(with_reducible first|exact HB.out|apply pA|apply pN|apply p1|refine pS ?_ GE277.out|refine pS ?_ GE278.out|refine pS ?_ GE285.out|refine pS ?_ GE292.out|refine pS ?_ GE302.out|refine pS ?_ GE303.out|refine pS ?_ GE308.out)|exact HB.out))):w.heap.size≤q18));have n10_:=n9_;have n11_:=ak_ ((by rw [hg];exact Nat.ne_of_lt (blk_lt (g:=q11) (o:=.cells #[.int .i64 t270,.int .i64 t271,.int .i64 t272] 30 (0,0)) (by(with_reducible repeat first|apply bN|apply b1|apply bA);exact q0.out)):q11≠q18));have n12_:=ak_ n11_.out.symm;have n13_:=ak_ ((by rw [hg];exact Nat.ne_of_lt (blk_lt (g:=q12) (o:=.cells #[.int .i64 t273,.int .i64 t274,.int .i64 t275,.int .i64 t276] 32 (0,0)) (by(with_reducible repeat first|apply bN|apply b1|apply bA);exact q1.out)):q12≠q18));have n14_:=ak_ n13_.out.symm;have n15_:=ak_ ((by rw [hg];exact Nat.ne_of_lt (blk_lt (g:=q13) (o:=.cells #[.int .i64 t279,.int .i64 t280,.int .i64 t281,.int .i64 t282,.int .i64 t283] 27 (0,0)) (by(with_reducible repeat first|apply bN|apply b1|apply bA);exact q2.out)):q13≠q18));have n16_:=ak_ n15_.out.symm;have n17_:=ak_ ((by rw [hg];exact Nat.ne_of_lt (blk_lt (g:=q14) (o:=.cells #[.int .i64 t286,.int .i64 t287,.int .i64 t288,.int .i64 t289,.int .i64 t290] 27 (0,0)) (by(with_reducible repeat first|apply bN|apply b1|apply bA);exact q3.out)):q14≠q18));have n18_:=ak_ n17_.out.symm;have n19_:=ak_ ((by rw [hg];exact Nat.ne_of_lt (blk_lt (g:=q15) (o:=.cells #[.int .i64 t293,.int .i64 t294,.int .i64 t295,.int .i64 t296,.int .i64 t297] 27 (0,0)) (by(with_reducible repeat first|apply bN|apply b1|apply bA);exact q4.out)):q15≠q18));have n20_:=ak_ n19_.out.symm;have n21_:=ak_ ((by rw [hg];exact Nat.ne_of_lt (blk_lt (g:=q16) (o:=.cells #[.int .i64 t298,.int .i64 t299,.int .i64 t300,.int .i64 t301] 32 (0,0)) (by(with_reducible repeat first|apply bN|apply b1|apply bA);exact q5.out)):q16≠q18));have n22_:=ak_ n21_.out.symm;have n23_:=ak_ ((by rw [hg];exact Nat.ne_of_lt (blk_lt (g:=q17) (o:=.cells #[.int .i64 t304,.int .i64 t305,.int .i64 t306] 30 (0,0)) (by(with_reducible repeat first|apply bN|apply b1|apply bA);exact q6.out)):q17≠q18));have n24_:=ak_ n23_.out.symm;clear q0;clear q1;clear q2;clear q3;clear q4;clear q5;clear q6;clear HB;have q0:=n0_;have q1:=n1_;have q2:=n2_;have q3:=n3_;have q4:=n4_;have q5:=n5_;have q6:=n6_;have HB:=n7_;have q7:=n8_;have GW313:=n9_;have GE313:=n10_;have NB277_313:=n11_;have NB313_277:=n12_;have NB278_313:=n13_;have NB313_278:=n14_;have NB285_313:=n15_;have NB313_285:=n16_;have NB292_313:=n17_;have NB313_292:=n18_;have NB302_313:=n19_;have NB313_302:=n20_;have NB303_313:=n21_;have NB313_303:=n22_;have NB308_313:=n23_;have NB313_308:=n24_;clear n0_ n1_ n2_ n3_ n4_ n5_ n6_ n7_ n8_ n9_ n10_ n11_ n12_ n13_ n14_ n15_ n16_ n17_ n18_ n19_ n20_ n21_ n22_ n23_ n24_;clear hb hbox hg;have hnb57:=NB313_277.out;have hnc57:=NB277_313.out;have hnb58:=NB313_278.out;have hnc58:=NB278_313.out;have hnb59:=NB313_285.out;have hnc59:=NB285_313.out;have hnb60:=NB313_292.out;have hnc60:=NB292_313.out;have hnb61:=NB313_302.out;have hnc61:=NB302_313.out;have hnb62:=NB313_303.out;have hnc62:=NB303_313.out;have hnb63:=NB313_308.out;have hnc63:=NB308_313.out;have hcz64_0:w56.cell? ⟨q18,0,none⟩=some (.int .i64 0):=(bC q7.out 0).trans rfl;have hcz64_1:w56.cell? ⟨q18,1,none⟩=some (.int .i64 0):=(bC q7.out 1).trans rfl;have hcz64_2:w56.cell? ⟨q18,2,none⟩=some (.int .i64 0):=(bC q7.out 2).trans rfl;have hfz64_0:=blk_frozen q7.out 0;have hfz64_1:=blk_frozen q7.out 1;have hfz64_2:=blk_frozen q7.out 2))
  (try simp only [Act.put,sa_,sb_,sc_])
  go_cut [86] (fun v86 wc=>∃ (kq:Nat) (x86_9:Bool),v86=.bool x86_9∧Aside0 (laws_FnCases.j0 kq t284 t307 x86_9 t270 t271 t272 t273 t274 t275 t276 t279 t280 t281 t282 t283 t293 t294 t295 t296 t297 t298 t299 t300 t301 t304 t305 t306=some r)∧Aside0 (kq≤k)∧Aside0 (wc.heap[q11]?=some (.cells #[.int .i64 t270,.int .i64 t271,.int .i64 t272] 30 (0,0)))∧Aside0 (wc.heap[q12]?=some (.cells #[.int .i64 t273,.int .i64 t274,.int .i64 t275,.int .i64 t276] 32 (0,0)))∧Aside0 (wc.heap[q13]?=some (.cells #[.int .i64 t279,.int .i64 t280,.int .i64 t281,.int .i64 t282,.int .i64 t283] 27 (0,0)))∧Aside0 (wc.heap[q14]?=some (.cells #[.int .i64 t286,.int .i64 t287,.int .i64 t288,.int .i64 t289,.int .i64 t290] 27 (0,0)))∧Aside0 (wc.heap[q15]?=some (.cells #[.int .i64 t293,.int .i64 t294,.int .i64 t295,.int .i64 t296,.int .i64 t297] 27 (0,0)))∧Aside0 (wc.heap[q16]?=some (.cells #[.int .i64 t298,.int .i64 t299,.int .i64 t300,.int .i64 t301] 32 (0,0)))∧Aside0 (wc.heap[q17]?=some (.cells #[.int .i64 t304,.int .i64 t305,.int .i64 t306] 30 (0,0)))∧Aside0 (wc.heap[q18]?=some (.cells #[.int .i64 t309,.int .i64 t310,.int .i64 t311] 30 (0,0)))∧Aside0 (Below w.heap.size w wc))
  case first =>
   have H:=HC10.out
   clear HC10
   by_cases c65:t284=t291
   ·rw [if_pos c65] at H
    have c65b0:(t284 == t291)=true:=beq_iff_eq.mpr c65
    have c65b1:(t284 != t291)=false:=bne_eq_false_iff_eq.mpr c65
    clear c65
    (first|rw [c65b0]|(simp only [i64_w,i32_w];rw [c65b0])|skip)
    by_cases c66:(!(t279 == t286) || (!(t280 == t287) || (!(t281 == t288) || (!(t282 == t289) || (!(t283 == t290))))))=true
    ·rw [if_pos c66] at H
     have c66b0:(!(t279 == t286) || (!(t280 == t287) || (!(t281 == t288) || (!(t282 == t289) || (!(t283 == t290))))))=true:=c66
     clear c66
     have H':=ak_ H
     clear H
     try go_wp2
     have n0_:Aside0 ((((w56.setCell ⟨q18,0,none⟩ (.int .i64 t309)).setCell ⟨q18,1,none⟩ (.int .i64 t310)).setCell ⟨q18,2,none⟩ (.int .i64 t311)).heap[q11]?=some (.cells #[.int .i64 t270,.int .i64 t271,.int .i64 t272] 30 (0,0))):=⟨by(with_reducible repeat first|apply bN|apply b1|apply bA);refine bF ?_ NB277_313.out _;(with_reducible repeat first|apply bN|apply b1|apply bA);refine bF ?_ NB277_313.out _;(with_reducible repeat first|apply bN|apply b1|apply bA);refine bF ?_ NB277_313.out _;(with_reducible repeat first|apply bN|apply b1|apply bA);exact q0.out⟩
     have n1_:Aside0 ((((w56.setCell ⟨q18,0,none⟩ (.int .i64 t309)).setCell ⟨q18,1,none⟩ (.int .i64 t310)).setCell ⟨q18,2,none⟩ (.int .i64 t311)).heap[q12]?=some (.cells #[.int .i64 t273,.int .i64 t274,.int .i64 t275,.int .i64 t276] 32 (0,0))):=⟨by(with_reducible repeat first|apply bN|apply b1|apply bA);refine bF ?_ NB278_313.out _;(with_reducible repeat first|apply bN|apply b1|apply bA);refine bF ?_ NB278_313.out _;(with_reducible repeat first|apply bN|apply b1|apply bA);refine bF ?_ NB278_313.out _;(with_reducible repeat first|apply bN|apply b1|apply bA);exact q1.out⟩
     have n2_:Aside0 ((((w56.setCell ⟨q18,0,none⟩ (.int .i64 t309)).setCell ⟨q18,1,none⟩ (.int .i64 t310)).setCell ⟨q18,2,none⟩ (.int .i64 t311)).heap[q13]?=some (.cells #[.int .i64 t279,.int .i64 t280,.int .i64 t281,.int .i64 t282,.int .i64 t283] 27 (0,0))):=⟨by(with_reducible repeat first|apply bN|apply b1|apply bA);refine bF ?_ NB285_313.out _;(with_reducible repeat first|apply bN|apply b1|apply bA);refine bF ?_ NB285_313.out _;(with_reducible repeat first|apply bN|apply b1|apply bA);refine bF ?_ NB285_313.out _;(with_reducible repeat first|apply bN|apply b1|apply bA);exact q2.out⟩
     have n3_:Aside0 ((((w56.setCell ⟨q18,0,none⟩ (.int .i64 t309)).setCell ⟨q18,1,none⟩ (.int .i64 t310)).setCell ⟨q18,2,none⟩ (.int .i64 t311)).heap[q14]?=some (.cells #[.int .i64 t286,.int .i64 t287,.int .i64 t288,.int .i64 t289,.int .i64 t290] 27 (0,0))):=⟨by(with_reducible repeat first|apply bN|apply b1|apply bA);refine bF ?_ NB292_313.out _;(with_reducible repeat first|apply bN|apply b1|apply bA);refine bF ?_ NB292_313.out _;(with_reducible repeat first|apply bN|apply b1|apply bA);refine bF ?_ NB292_313.out _;(with_reducible repeat first|apply bN|apply b1|apply bA);exact q3.out⟩
     have n4_:Aside0 ((((w56.setCell ⟨q18,0,none⟩ (.int .i64 t309)).setCell ⟨q18,1,none⟩ (.int .i64 t310)).setCell ⟨q18,2,none⟩ (.int .i64 t311)).heap[q15]?=some (.cells #[.int .i64 t293,.int .i64 t294,.int .i64 t295,.int .i64 t296,.int .i64 t297] 27 (0,0))):=⟨by(with_reducible repeat first|apply bN|apply b1|apply bA);refine bF ?_ NB302_313.out _;(with_reducible repeat first|apply bN|apply b1|apply bA);refine bF ?_ NB302_313.out _;(with_reducible repeat first|apply bN|apply b1|apply bA);refine bF ?_ NB302_313.out _;(with_reducible repeat first|apply bN|apply b1|apply bA);exact q4.out⟩
     have n5_:Aside0 ((((w56.setCell ⟨q18,0,none⟩ (.int .i64 t309)).setCell ⟨q18,1,none⟩ (.int .i64 t310)).setCell ⟨q18,2,none⟩ (.int .i64 t311)).heap[q16]?=some (.cells #[.int .i64 t298,.int .i64 t299,.int .i64 t300,.int .i64 t301] 32 (0,0))):=⟨by(with_reducible repeat first|apply bN|apply b1|apply bA);refine bF ?_ NB303_313.out _;(with_reducible repeat first|apply bN|apply b1|apply bA);refine bF ?_ NB303_313.out _;(with_reducible repeat first|apply bN|apply b1|apply bA);refine bF ?_ NB303_313.out _;(with_reducible repeat first|apply bN|apply b1|apply bA);exact q5.out⟩
     have n6_:Aside0 ((((w56.setCell ⟨q18,0,none⟩ (.int .i64 t309)).setCell ⟨q18,1,none⟩ (.int .i64 t310)).setCell ⟨q18,2,none⟩ (.int .i64 t311)).heap[q17]?=some (.cells #[.int .i64 t304,.int .i64 t305,.int .i64 t306] 30 (0,0))):=⟨by(with_reducible repeat first|apply bN|apply b1|apply bA);refine bF ?_ NB308_313.out _;(with_reducible repeat first|apply bN|apply b1|apply bA);refine bF ?_ NB308_313.out _;(with_reducible repeat first|apply bN|apply b1|apply bA);refine bF ?_ NB308_313.out _;(with_reducible repeat first|apply bN|apply b1|apply bA);exact q6.out⟩
     have n7_:Aside0 ((((w56.setCell ⟨q18,0,none⟩ (.int .i64 t309)).setCell ⟨q18,1,none⟩ (.int .i64 t310)).setCell ⟨q18,2,none⟩ (.int .i64 t311)).heap[q18]?=some (.cells #[.int .i64 t309,.int .i64 t310,.int .i64 t311] 30 (0,0))):=⟨by(with_reducible repeat first|apply bN|apply b1|apply bA);refine bP (cs:=#[.int .i64 t309,.int .i64 t310,.int .i64 0]) ?_ 2 _ rfl;(with_reducible repeat first|apply bN|apply b1|apply bA);refine bP (cs:=#[.int .i64 t309,.int .i64 0,.int .i64 0]) ?_ 1 _ rfl;(with_reducible repeat first|apply bN|apply b1|apply bA);refine bP (cs:=#[.int .i64 0,.int .i64 0,.int .i64 0]) ?_ 0 _ rfl;(with_reducible repeat first|apply bN|apply b1|apply bA);exact q7.out⟩
     have n8_:Aside0 (Below w.heap.size w (((w56.setCell ⟨q18,0,none⟩ (.int .i64 t309)).setCell ⟨q18,1,none⟩ (.int .i64 t310)).setCell ⟨q18,2,none⟩ (.int .i64 t311))):=⟨by repeat(first|(with_reducible first|exact HB.out|apply pA|apply pN|apply p1|refine pS ?_ GE277.out|refine pS ?_ GE278.out|refine pS ?_ GE285.out|refine pS ?_ GE292.out|refine pS ?_ GE302.out|refine pS ?_ GE303.out|refine pS ?_ GE308.out|refine pS ?_ GE313.out)|exact HB.out)⟩
     (try clear q0)
     (try clear q1)
     (try clear q2)
     (try clear q3)
     (try clear q4)
     (try clear q5)
     (try clear q6)
     (try clear q7)
     (try clear HB)
     generalize (((w56.setCell ⟨q18,0,none⟩ (.int .i64 t309)).setCell ⟨q18,1,none⟩ (.int .i64 t310)).setCell ⟨q18,2,none⟩ (.int .i64 t311))=w67 at n0_ n1_ n2_ n3_ n4_ n5_ n6_ n7_ n8_ ⊢
     have q0:=n0_
     have q1:=n1_
     have q2:=n2_
     have q3:=n3_
     have q4:=n4_
     have q5:=n5_
     have q6:=n6_
     have q7:=n7_
     have HB:=n8_
     clear n0_ n1_ n2_ n3_ n4_ n5_ n6_ n7_ n8_
     have n0_:=ak_ (b1 q0.out)
     have n1_:=ak_ (b1 q1.out)
     have n2_:=ak_ (b1 q2.out)
     have n3_:=ak_ (b1 q3.out)
     have n4_:=ak_ (b1 q4.out)
     have n5_:=ak_ (b1 q5.out)
     have n6_:=ak_ (b1 q6.out)
     have n7_:=ak_ (b1 q7.out)
     have n8_:=ak_ (p1 HB.out)
     clear q0
     clear q1
     clear q2
     clear q3
     clear q4
     clear q5
     clear q6
     clear q7
     clear HB
     have q0:=n0_
     have q1:=n1_
     have q2:=n2_
     have q3:=n3_
     have q4:=n4_
     have q5:=n5_
     have q6:=n6_
     have q7:=n7_
     have HB:=n8_
     clear n0_ n1_ n2_ n3_ n4_ n5_ n6_ n7_ n8_
     refine start_ (n:=32) (S:=fun w'=>w'.cell? ⟨q13,0,none⟩=some (.int .i64 t279)∧w'.cell? ⟨q13,1,none⟩=some (.int .i64 t280)∧w'.cell? ⟨q13,2,none⟩=some (.int .i64 t281)∧w'.cell? ⟨q13,3,none⟩=some (.int .i64 t282)∧w'.cell? ⟨q13,4,none⟩=some (.int .i64 t283)∧w'.cell? ⟨q14,0,none⟩=some (.int .i64 t286)∧w'.cell? ⟨q14,1,none⟩=some (.int .i64 t287)∧w'.cell? ⟨q14,2,none⟩=some (.int .i64 t288)∧w'.cell? ⟨q14,3,none⟩=some (.int .i64 t289)∧w'.cell? ⟨q14,4,none⟩=some (.int .i64 t290)) (ds:=[]) ab0_ (by kernel_rfl) rfl rfl ⟨(bC q2.out 0).trans rfl,(bC q2.out 1).trans rfl,(bC q2.out 2).trans rfl,(bC q2.out 3).trans rfl,(bC q2.out 4).trans rfl,(bC q3.out 0).trans rfl,(bC q3.out 1).trans rfl,(bC q3.out 2).trans rfl,(bC q3.out 3).trans rfl,(bC q3.out 4).trans rfl⟩ (fun hHeld=>?_);refine with_tabW laws_FnCases.tab9 laws_FnCases.bits9 (fun HT_ HW_=>?_)
     generalize w67.drew=w68 at q0 q1 q2 q3 q4 q5 q6 q7 HB hHeld ⊢
     refine pure_ (i:=0) (N:=some 55) (v:=?_) (a':=?_) ab1_ rfl rfl (any_of HT_.out (by kernel_rfl)) (fun _ _ _ h=>h) (Or.inl ⟨by rfl,?_⟩) ?_ ?_
     rotate_left
     ·intro w'
      go_simp
      with_reducible rfl
     rotate_left
     ·simp only [Act.put,sa_,sb_,sc_,i64_w,i32_w]
      rfl
     refine pure_ (i:=1) (N:=some 56) (v:=?_) (a':=?_) ab2_ rfl rfl (any_of HT_.out (by kernel_rfl)) (fun _ _ _ h=>h) (Or.inl ⟨by rfl,?_⟩) ?_ ?_
     rotate_left
     ·intro w'
      go_simp
      with_reducible rfl
     rotate_left
     ·simp only [Act.put,sa_,sb_,sc_,i64_w,i32_w]
      rfl
     refine pure_ (i:=2) (N:=some 57) (v:=?_) (a':=?_) ab3_ rfl rfl (any_of HT_.out (by kernel_rfl)) (fun _ _ _ h=>h) (Or.inl ⟨by rfl,?_⟩) ?_ ?_
     rotate_left
     ·intro w'
      go_simp
      with_reducible rfl
     rotate_left
     ·simp only [Act.put,sa_,sb_,sc_,i64_w,i32_w]
      rfl
     refine pure_ (i:=3) (N:=some 58) (v:=?_) (a':=?_) ab4_ rfl rfl (any_of HT_.out (by kernel_rfl)) (fun _ _ _ h=>h) (Or.inl ⟨by rfl,?_⟩) ?_ ?_
     rotate_left
     ·intro w'
      go_simp
      with_reducible rfl
     rotate_left
     ·simp only [Act.put,sa_,sb_,sc_,i64_w,i32_w]
      rfl
     refine take_ (i:=4) (N:=some 59) (v:=?_) (a':=?_) ab5_ rfl rfl (take_ofW HT_.out HW_.out (by kernel_rfl)) (fun _ _ _ h=>h) (Or.inl ⟨by rfl,?_⟩) hHeld ?_ ?_
     rotate_left
     ·rintro w' ⟨s0,s1,s2,s3,s4,s5,s6,s7,s8,s9⟩
      go_simp
      with_reducible rfl
     rotate_left
     ·simp only [Act.put,sa_,sb_,sc_,i64_w,i32_w]
      rfl
     refine take_ (i:=5) (N:=some 60) (v:=?_) (a':=?_) ab6_ rfl rfl (take_ofW HT_.out HW_.out (by kernel_rfl)) (fun _ _ _ h=>h) (Or.inl ⟨by rfl,?_⟩) hHeld ?_ ?_
     rotate_left
     ·rintro w' ⟨s0,s1,s2,s3,s4,s5,s6,s7,s8,s9⟩
      go_simp
      with_reducible rfl
     rotate_left
     ·simp only [Act.put,sa_,sb_,sc_,i64_w,i32_w]
      rfl
     refine pure_ (i:=6) (N:=some 61) (v:=?_) (a':=?_) ab7_ rfl rfl (any_of HT_.out (by kernel_rfl)) (fun _ _ _ h=>h) (Or.inl ⟨by rfl,?_⟩) ?_ ?_
     rotate_left
     ·intro w'
      go_simp
      with_reducible rfl
     rotate_left
     ·simp only [Act.put,sa_,sb_,sc_,i64_w,i32_w]
      rfl
     refine pure_ (i:=7) (N:=some 62) (v:=?_) (a':=?_) ab8_ rfl rfl (any_of HT_.out (by kernel_rfl)) (fun _ _ _ h=>h) (Or.inl ⟨by rfl,?_⟩) ?_ ?_
     rotate_left
     ·intro w'
      go_simp
      with_reducible rfl
     rotate_left
     ·simp only [Act.put,sa_,sb_,sc_,i64_w,i32_w]
      rfl
     refine pure_ (i:=8) (N:=some 63) (v:=?_) (a':=?_) ab9_ rfl rfl (any_of HT_.out (by kernel_rfl)) (fun _ _ _ h=>h) (Or.inl ⟨by rfl,?_⟩) ?_ ?_
     rotate_left
     ·intro w'
      go_simp
      with_reducible rfl
     rotate_left
     ·simp only [Act.put,sa_,sb_,sc_,i64_w,i32_w]
      rfl
     refine pure_ (i:=9) (N:=some 64) (v:=undef) (a':=?_) ab10_ rfl rfl (any_of HT_.out (by kernel_rfl)) (fun _ _ _ h=>h) (Or.inr ⟨by rfl,rfl⟩) ?_ ?_
     rotate_left
     ·simp only [Act.put,sa_,sb_,sc_,i64_w,i32_w]
      rfl
     refine pure_ (i:=10) (N:=some 65) (v:=undef) (a':=?_) ab11_ rfl rfl (any_of HT_.out (by kernel_rfl)) (fun _ _ _ h=>h) (Or.inr ⟨by rfl,rfl⟩) ?_ ?_
     rotate_left
     ·simp only [Act.put,sa_,sb_,sc_,i64_w,i32_w]
      rfl
     refine pure_ (i:=11) (N:=some 66) (v:=undef) (a':=?_) ab12_ rfl rfl (any_of HT_.out (by kernel_rfl)) (fun _ _ _ h=>h) (Or.inr ⟨by rfl,rfl⟩) ?_ ?_
     rotate_left
     ·simp only [Act.put,sa_,sb_,sc_,i64_w,i32_w]
      rfl
     refine pure_ (i:=12) (N:=some 67) (v:=?_) (a':=?_) ab13_ rfl rfl (any_of HT_.out (by kernel_rfl)) (fun _ _ _ h=>h) (Or.inl ⟨by rfl,?_⟩) ?_ ?_
     rotate_left
     ·intro w'
      go_simp
      with_reducible rfl
     rotate_left
     ·simp only [Act.put,sa_,sb_,sc_,i64_w,i32_w]
      rfl
     refine pure_ (i:=13) (N:=some 68) (v:=?_) (a':=?_) ab14_ rfl rfl (any_of HT_.out (by kernel_rfl)) (fun _ _ _ h=>h) (Or.inl ⟨by rfl,?_⟩) ?_ ?_
     rotate_left
     ·intro w'
      go_simp
      with_reducible rfl
     rotate_left
     ·simp only [Act.put,sa_,sb_,sc_,i64_w,i32_w]
      rfl
     refine pure_ (i:=14) (N:=some 69) (v:=undef) (a':=?_) ab15_ rfl rfl (any_of HT_.out (by kernel_rfl)) (fun _ _ _ h=>h) (Or.inr ⟨by rfl,rfl⟩) ?_ ?_
     rotate_left
     ·simp only [Act.put,sa_,sb_,sc_,i64_w,i32_w]
      rfl
     refine pure_ (i:=15) (N:=some 70) (v:=undef) (a':=?_) ab16_ rfl rfl (any_of HT_.out (by kernel_rfl)) (fun _ _ _ h=>h) (Or.inr ⟨by rfl,rfl⟩) ?_ ?_
     rotate_left
     ·simp only [Act.put,sa_,sb_,sc_,i64_w,i32_w]
      rfl
     refine pure_ (i:=16) (N:=some 71) (v:=undef) (a':=?_) ab17_ rfl rfl (any_of HT_.out (by kernel_rfl)) (fun _ _ _ h=>h) (Or.inr ⟨by rfl,rfl⟩) ?_ ?_
     rotate_left
     ·simp only [Act.put,sa_,sb_,sc_,i64_w,i32_w]
      rfl
     refine pure_ (i:=17) (N:=some 72) (v:=?_) (a':=?_) ab18_ rfl rfl (any_of HT_.out (by kernel_rfl)) (fun _ _ _ h=>h) (Or.inl ⟨by rfl,?_⟩) ?_ ?_
     rotate_left
     ·intro w'
      go_simp
      with_reducible rfl
     rotate_left
     ·simp only [Act.put,sa_,sb_,sc_,i64_w,i32_w]
      rfl
     refine pure_ (i:=18) (N:=some 73) (v:=?_) (a':=?_) ab19_ rfl rfl (any_of HT_.out (by kernel_rfl)) (fun _ _ _ h=>h) (Or.inl ⟨by rfl,?_⟩) ?_ ?_
     rotate_left
     ·intro w'
      go_simp
      with_reducible rfl
     rotate_left
     ·simp only [Act.put,sa_,sb_,sc_,i64_w,i32_w]
      rfl
     refine pure_ (i:=19) (N:=some 74) (v:=undef) (a':=?_) ab20_ rfl rfl (any_of HT_.out (by kernel_rfl)) (fun _ _ _ h=>h) (Or.inr ⟨by rfl,rfl⟩) ?_ ?_
     rotate_left
     ·simp only [Act.put,sa_,sb_,sc_,i64_w,i32_w]
      rfl
     refine pure_ (i:=20) (N:=some 75) (v:=undef) (a':=?_) ab22_ rfl rfl (any_of HT_.out (by kernel_rfl)) (fun _ _ _ h=>h) (Or.inr ⟨by rfl,rfl⟩) ?_ ?_
     rotate_left
     ·simp only [Act.put,sa_,sb_,sc_,i64_w,i32_w]
      rfl
     refine pure_ (i:=21) (N:=some 76) (v:=undef) (a':=?_) ab23_ rfl rfl (any_of HT_.out (by kernel_rfl)) (fun _ _ _ h=>h) (Or.inr ⟨by rfl,rfl⟩) ?_ ?_
     rotate_left
     ·simp only [Act.put,sa_,sb_,sc_,i64_w,i32_w]
      rfl
     refine pure_ (i:=22) (N:=some 77) (v:=undef) (a':=?_) ab24_ rfl rfl (any_of HT_.out (by kernel_rfl)) (fun _ _ _ h=>h) (Or.inr ⟨by rfl,rfl⟩) ?_ ?_
     rotate_left
     ·simp only [Act.put,sa_,sb_,sc_,i64_w,i32_w]
      rfl
     refine pure_ (i:=23) (N:=some 78) (v:=undef) (a':=?_) ab25_ rfl rfl (any_of HT_.out (by kernel_rfl)) (fun _ _ _ h=>h) (Or.inr ⟨by rfl,rfl⟩) ?_ ?_
     rotate_left
     ·simp only [Act.put,sa_,sb_,sc_,i64_w,i32_w]
      rfl
     refine pure_ (i:=24) (N:=some 79) (v:=?_) (a':=?_) ab26_ rfl rfl (any_of HT_.out (by kernel_rfl)) (fun _ _ _ h=>h) (Or.inl ⟨by rfl,?_⟩) ?_ ?_
     rotate_left
     ·intro w'
      go_simp
      with_reducible rfl
     rotate_left
     ·simp only [Act.put,sa_,sb_,sc_,i64_w,i32_w]
      rfl
     refine pure_ (i:=25) (N:=some 80) (v:=?_) (a':=?_) ab27_ rfl rfl (any_of HT_.out (by kernel_rfl)) (fun _ _ _ h=>h) (Or.inl ⟨by rfl,?_⟩) ?_ ?_
     rotate_left
     ·intro w'
      go_simp
      with_reducible rfl
     rotate_left
     ·simp only [Act.put,sa_,sb_,sc_,i64_w,i32_w]
      rfl
     refine pure_ (i:=26) (N:=some 81) (v:=undef) (a':=?_) ab28_ rfl rfl (any_of HT_.out (by kernel_rfl)) (fun _ _ _ h=>h) (Or.inr ⟨by rfl,rfl⟩) ?_ ?_
     rotate_left
     ·simp only [Act.put,sa_,sb_,sc_,i64_w,i32_w]
      rfl
     refine pure_ (i:=27) (N:=some 82) (v:=undef) (a':=?_) ab30_ rfl rfl (any_of HT_.out (by kernel_rfl)) (fun _ _ _ h=>h) (Or.inr ⟨by rfl,rfl⟩) ?_ ?_
     rotate_left
     ·simp only [Act.put,sa_,sb_,sc_,i64_w,i32_w]
      rfl
     refine pure_ (i:=28) (N:=some 83) (v:=undef) (a':=?_) ab31_ rfl rfl (any_of HT_.out (by kernel_rfl)) (fun _ _ _ h=>h) (Or.inr ⟨by rfl,rfl⟩) ?_ ?_
     rotate_left
     ·simp only [Act.put,sa_,sb_,sc_,i64_w,i32_w]
      rfl
     refine pure_ (i:=29) (N:=some 84) (v:=undef) (a':=?_) ab32_ rfl rfl (any_of HT_.out (by kernel_rfl)) (fun _ _ _ h=>h) (Or.inr ⟨by rfl,rfl⟩) ?_ ?_
     rotate_left
     ·simp only [Act.put,sa_,sb_,sc_,i64_w,i32_w]
      rfl
     refine pure_ (i:=30) (N:=some 85) (v:=undef) (a':=?_) ab33_ rfl rfl (any_of HT_.out (by kernel_rfl)) (fun _ _ _ h=>h) (Or.inr ⟨by rfl,rfl⟩) ?_ ?_
     rotate_left
     ·simp only [Act.put,sa_,sb_,sc_,i64_w,i32_w]
      rfl
     refine pure_ (i:=31) (N:=some 86) (v:=?_) (a':=?_) ab34_ rfl rfl (any_of HT_.out (by kernel_rfl)) (fun _ _ _ h=>h) (Or.inl ⟨by rfl,?_⟩) ?_ ?_
     rotate_left
     ·intro w'
      go_simp
      with_reducible rfl
     rotate_left
     ·simp only [Act.put,sa_,sb_,sc_,i64_w,i32_w]
      rfl
     refine done_ (done_of HT_.out (by kernel_rfl)) ?_
     try go_wp2
     go_meet
     case rel=>exact⟨_,(true),(by first|rfl|(simp;done)|(simp [*];done)),H',⟨by first|omega|exact Nat.le_refl _⟩,⟨by(with_reducible repeat first|apply bN|apply b1|apply bA);exact q0.out⟩,⟨by(with_reducible repeat first|apply bN|apply b1|apply bA);exact q1.out⟩,⟨by(with_reducible repeat first|apply bN|apply b1|apply bA);exact q2.out⟩,⟨by(with_reducible repeat first|apply bN|apply b1|apply bA);exact q3.out⟩,⟨by(with_reducible repeat first|apply bN|apply b1|apply bA);exact q4.out⟩,⟨by(with_reducible repeat first|apply bN|apply b1|apply bA);exact q5.out⟩,⟨by(with_reducible repeat first|apply bN|apply b1|apply bA);exact q6.out⟩,⟨by(with_reducible repeat first|apply bN|apply b1|apply bA);exact q7.out⟩,⟨by repeat(first|(with_reducible first|exact HB.out|apply pA|apply pN|apply p1|refine pS ?_ GE277.out|refine pS ?_ GE278.out|refine pS ?_ GE285.out|refine pS ?_ GE292.out|refine pS ?_ GE302.out|refine pS ?_ GE303.out|refine pS ?_ GE308.out|refine pS ?_ GE313.out)|exact HB.out)⟩⟩
    ·rw [if_neg c66] at H
     have c66b0:(!(t279 == t286) || (!(t280 == t287) || (!(t281 == t288) || (!(t282 == t289) || (!(t283 == t290))))))=false:=by simpa using c66
     clear c66
     by_cases c69:t307=t312
     ·rw [if_pos c69] at H
      have c69b0:(t307 == t312)=true:=beq_iff_eq.mpr c69
      have c69b1:(t307 != t312)=false:=bne_eq_false_iff_eq.mpr c69
      clear c69
      by_cases c70:(!(t304 == t309) || (!(t305 == t310) || (!(t306 == t311))))=true
      ·rw [if_pos c70] at H
       have c70b0:(!(t304 == t309) || (!(t305 == t310) || (!(t306 == t311))))=true:=c70
       clear c70
       have H':=ak_ H
       clear H
       try go_wp2
       have n0_:Aside0 ((((w56.setCell ⟨q18,0,none⟩ (.int .i64 t309)).setCell ⟨q18,1,none⟩ (.int .i64 t310)).setCell ⟨q18,2,none⟩ (.int .i64 t311)).heap[q11]?=some (.cells #[.int .i64 t270,.int .i64 t271,.int .i64 t272] 30 (0,0))):=⟨by(with_reducible repeat first|apply bN|apply b1|apply bA);refine bF ?_ NB277_313.out _;(with_reducible repeat first|apply bN|apply b1|apply bA);refine bF ?_ NB277_313.out _;(with_reducible repeat first|apply bN|apply b1|apply bA);refine bF ?_ NB277_313.out _;(with_reducible repeat first|apply bN|apply b1|apply bA);exact q0.out⟩
       have n1_:Aside0 ((((w56.setCell ⟨q18,0,none⟩ (.int .i64 t309)).setCell ⟨q18,1,none⟩ (.int .i64 t310)).setCell ⟨q18,2,none⟩ (.int .i64 t311)).heap[q12]?=some (.cells #[.int .i64 t273,.int .i64 t274,.int .i64 t275,.int .i64 t276] 32 (0,0))):=⟨by(with_reducible repeat first|apply bN|apply b1|apply bA);refine bF ?_ NB278_313.out _;(with_reducible repeat first|apply bN|apply b1|apply bA);refine bF ?_ NB278_313.out _;(with_reducible repeat first|apply bN|apply b1|apply bA);refine bF ?_ NB278_313.out _;(with_reducible repeat first|apply bN|apply b1|apply bA);exact q1.out⟩
       have n2_:Aside0 ((((w56.setCell ⟨q18,0,none⟩ (.int .i64 t309)).setCell ⟨q18,1,none⟩ (.int .i64 t310)).setCell ⟨q18,2,none⟩ (.int .i64 t311)).heap[q13]?=some (.cells #[.int .i64 t279,.int .i64 t280,.int .i64 t281,.int .i64 t282,.int .i64 t283] 27 (0,0))):=⟨by(with_reducible repeat first|apply bN|apply b1|apply bA);refine bF ?_ NB285_313.out _;(with_reducible repeat first|apply bN|apply b1|apply bA);refine bF ?_ NB285_313.out _;(with_reducible repeat first|apply bN|apply b1|apply bA);refine bF ?_ NB285_313.out _;(with_reducible repeat first|apply bN|apply b1|apply bA);exact q2.out⟩
       have n3_:Aside0 ((((w56.setCell ⟨q18,0,none⟩ (.int .i64 t309)).setCell ⟨q18,1,none⟩ (.int .i64 t310)).setCell ⟨q18,2,none⟩ (.int .i64 t311)).heap[q14]?=some (.cells #[.int .i64 t286,.int .i64 t287,.int .i64 t288,.int .i64 t289,.int .i64 t290] 27 (0,0))):=⟨by(with_reducible repeat first|apply bN|apply b1|apply bA);refine bF ?_ NB292_313.out _;(with_reducible repeat first|apply bN|apply b1|apply bA);refine bF ?_ NB292_313.out _;(with_reducible repeat first|apply bN|apply b1|apply bA);refine bF ?_ NB292_313.out _;(with_reducible repeat first|apply bN|apply b1|apply bA);exact q3.out⟩
       have n4_:Aside0 ((((w56.setCell ⟨q18,0,none⟩ (.int .i64 t309)).setCell ⟨q18,1,none⟩ (.int .i64 t310)).setCell ⟨q18,2,none⟩ (.int .i64 t311)).heap[q15]?=some (.cells #[.int .i64 t293,.int .i64 t294,.int .i64 t295,.int .i64 t296,.int .i64 t297] 27 (0,0))):=⟨by(with_reducible repeat first|apply bN|apply b1|apply bA);refine bF ?_ NB302_313.out _;(with_reducible repeat first|apply bN|apply b1|apply bA);refine bF ?_ NB302_313.out _;(with_reducible repeat first|apply bN|apply b1|apply bA);refine bF ?_ NB302_313.out _;(with_reducible repeat first|apply bN|apply b1|apply bA);exact q4.out⟩
       have n5_:Aside0 ((((w56.setCell ⟨q18,0,none⟩ (.int .i64 t309)).setCell ⟨q18,1,none⟩ (.int .i64 t310)).setCell ⟨q18,2,none⟩ (.int .i64 t311)).heap[q16]?=some (.cells #[.int .i64 t298,.int .i64 t299,.int .i64 t300,.int .i64 t301] 32 (0,0))):=⟨by(with_reducible repeat first|apply bN|apply b1|apply bA);refine bF ?_ NB303_313.out _;(with_reducible repeat first|apply bN|apply b1|apply bA);refine bF ?_ NB303_313.out _;(with_reducible repeat first|apply bN|apply b1|apply bA);refine bF ?_ NB303_313.out _;(with_reducible repeat first|apply bN|apply b1|apply bA);exact q5.out⟩
       have n6_:Aside0 ((((w56.setCell ⟨q18,0,none⟩ (.int .i64 t309)).setCell ⟨q18,1,none⟩ (.int .i64 t310)).setCell ⟨q18,2,none⟩ (.int .i64 t311)).heap[q17]?=some (.cells #[.int .i64 t304,.int .i64 t305,.int .i64 t306] 30 (0,0))):=⟨by(with_reducible repeat first|apply bN|apply b1|apply bA);refine bF ?_ NB308_313.out _;(with_reducible repeat first|apply bN|apply b1|apply bA);refine bF ?_ NB308_313.out _;(with_reducible repeat first|apply bN|apply b1|apply bA);refine bF ?_ NB308_313.out _;(with_reducible repeat first|apply bN|apply b1|apply bA);exact q6.out⟩
       have n7_:Aside0 ((((w56.setCell ⟨q18,0,none⟩ (.int .i64 t309)).setCell ⟨q18,1,none⟩ (.int .i64 t310)).setCell ⟨q18,2,none⟩ (.int .i64 t311)).heap[q18]?=some (.cells #[.int .i64 t309,.int .i64 t310,.int .i64 t311] 30 (0,0))):=⟨by(with_reducible repeat first|apply bN|apply b1|apply bA);refine bP (cs:=#[.int .i64 t309,.int .i64 t310,.int .i64 0]) ?_ 2 _ rfl;(with_reducible repeat first|apply bN|apply b1|apply bA);refine bP (cs:=#[.int .i64 t309,.int .i64 0,.int .i64 0]) ?_ 1 _ rfl;(with_reducible repeat first|apply bN|apply b1|apply bA);refine bP (cs:=#[.int .i64 0,.int .i64 0,.int .i64 0]) ?_ 0 _ rfl;(with_reducible repeat first|apply bN|apply b1|apply bA);exact q7.out⟩
       have n8_:Aside0 (Below w.heap.size w (((w56.setCell ⟨q18,0,none⟩ (.int .i64 t309)).setCell ⟨q18,1,none⟩ (.int .i64 t310)).setCell ⟨q18,2,none⟩ (.int .i64 t311))):=⟨by repeat(first|(with_reducible first|exact HB.out|apply pA|apply pN|apply p1|refine pS ?_ GE277.out|refine pS ?_ GE278.out|refine pS ?_ GE285.out|refine pS ?_ GE292.out|refine pS ?_ GE302.out|refine pS ?_ GE303.out|refine pS ?_ GE308.out|refine pS ?_ GE313.out)|exact HB.out)⟩
       (try clear q0)
       (try clear q1)
       (try clear q2)
       (try clear q3)
       (try clear q4)
       (try clear q5)
       (try clear q6)
       (try clear q7)
       (try clear HB)
       generalize (((w56.setCell ⟨q18,0,none⟩ (.int .i64 t309)).setCell ⟨q18,1,none⟩ (.int .i64 t310)).setCell ⟨q18,2,none⟩ (.int .i64 t311))=w71 at n0_ n1_ n2_ n3_ n4_ n5_ n6_ n7_ n8_ ⊢
       have q0:=n0_
       have q1:=n1_
       have q2:=n2_
       have q3:=n3_
       have q4:=n4_
       have q5:=n5_
       have q6:=n6_
       have q7:=n7_
       have HB:=n8_
       clear n0_ n1_ n2_ n3_ n4_ n5_ n6_ n7_ n8_
       have n0_:=ak_ (b1 q0.out)
       have n1_:=ak_ (b1 q1.out)
       have n2_:=ak_ (b1 q2.out)
       have n3_:=ak_ (b1 q3.out)
       have n4_:=ak_ (b1 q4.out)
       have n5_:=ak_ (b1 q5.out)
       have n6_:=ak_ (b1 q6.out)
       have n7_:=ak_ (b1 q7.out)
       have n8_:=ak_ (p1 HB.out)
       clear q0
       clear q1
       clear q2
       clear q3
       clear q4
       clear q5
       clear q6
       clear q7
       clear HB
       have q0:=n0_
       have q1:=n1_
       have q2:=n2_
       have q3:=n3_
       have q4:=n4_
       have q5:=n5_
       have q6:=n6_
       have q7:=n7_
       have HB:=n8_
       clear n0_ n1_ n2_ n3_ n4_ n5_ n6_ n7_ n8_
       refine start_ (n:=32) (S:=fun w'=>w'.cell? ⟨q13,0,none⟩=some (.int .i64 t279)∧w'.cell? ⟨q13,1,none⟩=some (.int .i64 t280)∧w'.cell? ⟨q13,2,none⟩=some (.int .i64 t281)∧w'.cell? ⟨q13,3,none⟩=some (.int .i64 t282)∧w'.cell? ⟨q13,4,none⟩=some (.int .i64 t283)∧w'.cell? ⟨q14,0,none⟩=some (.int .i64 t286)∧w'.cell? ⟨q14,1,none⟩=some (.int .i64 t287)∧w'.cell? ⟨q14,2,none⟩=some (.int .i64 t288)∧w'.cell? ⟨q14,3,none⟩=some (.int .i64 t289)∧w'.cell? ⟨q14,4,none⟩=some (.int .i64 t290)∧w'.cell? ⟨q17,0,none⟩=some (.int .i64 t304)∧w'.cell? ⟨q17,1,none⟩=some (.int .i64 t305)∧w'.cell? ⟨q17,2,none⟩=some (.int .i64 t306)∧w'.cell? ⟨q18,0,none⟩=some (.int .i64 t309)∧w'.cell? ⟨q18,1,none⟩=some (.int .i64 t310)∧w'.cell? ⟨q18,2,none⟩=some (.int .i64 t311)) (ds:=[]) ab0_ (by kernel_rfl) rfl rfl ⟨(bC q2.out 0).trans rfl,(bC q2.out 1).trans rfl,(bC q2.out 2).trans rfl,(bC q2.out 3).trans rfl,(bC q2.out 4).trans rfl,(bC q3.out 0).trans rfl,(bC q3.out 1).trans rfl,(bC q3.out 2).trans rfl,(bC q3.out 3).trans rfl,(bC q3.out 4).trans rfl,(bC q6.out 0).trans rfl,(bC q6.out 1).trans rfl,(bC q6.out 2).trans rfl,(bC q7.out 0).trans rfl,(bC q7.out 1).trans rfl,(bC q7.out 2).trans rfl⟩ (fun hHeld=>?_);refine with_tabW laws_FnCases.tab9 laws_FnCases.bits9 (fun HT_ HW_=>?_)
       generalize w71.drew=w72 at q0 q1 q2 q3 q4 q5 q6 q7 HB hHeld ⊢
       refine pure_ (i:=0) (N:=some 55) (v:=?_) (a':=?_) ab1_ rfl rfl (any_of HT_.out (by kernel_rfl)) (fun _ _ _ h=>h) (Or.inl ⟨by rfl,?_⟩) ?_ ?_
       rotate_left
       ·intro w'
        go_simp
        with_reducible rfl
       rotate_left
       ·simp only [Act.put,sa_,sb_,sc_,i64_w,i32_w]
        rfl
       refine pure_ (i:=1) (N:=some 56) (v:=?_) (a':=?_) ab2_ rfl rfl (any_of HT_.out (by kernel_rfl)) (fun _ _ _ h=>h) (Or.inl ⟨by rfl,?_⟩) ?_ ?_
       rotate_left
       ·intro w'
        go_simp
        with_reducible rfl
       rotate_left
       ·simp only [Act.put,sa_,sb_,sc_,i64_w,i32_w]
        rfl
       refine pure_ (i:=2) (N:=some 57) (v:=?_) (a':=?_) ab3_ rfl rfl (any_of HT_.out (by kernel_rfl)) (fun _ _ _ h=>h) (Or.inl ⟨by rfl,?_⟩) ?_ ?_
       rotate_left
       ·intro w'
        go_simp
        with_reducible rfl
       rotate_left
       ·simp only [Act.put,sa_,sb_,sc_,i64_w,i32_w]
        rfl
       refine pure_ (i:=3) (N:=some 58) (v:=?_) (a':=?_) ab4_ rfl rfl (any_of HT_.out (by kernel_rfl)) (fun _ _ _ h=>h) (Or.inl ⟨by rfl,?_⟩) ?_ ?_
       rotate_left
       ·intro w'
        go_simp
        with_reducible rfl
       rotate_left
       ·simp only [Act.put,sa_,sb_,sc_,i64_w,i32_w]
        rfl
       refine take_ (i:=4) (N:=some 59) (v:=?_) (a':=?_) ab5_ rfl rfl (take_ofW HT_.out HW_.out (by kernel_rfl)) (fun _ _ _ h=>h) (Or.inl ⟨by rfl,?_⟩) hHeld ?_ ?_
       rotate_left
       ·rintro w' ⟨s0,s1,s2,s3,s4,s5,s6,s7,s8,s9,s10,s11,s12,s13,s14,s15⟩
        go_simp
        with_reducible rfl
       rotate_left
       ·simp only [Act.put,sa_,sb_,sc_,i64_w,i32_w]
        rfl
       refine take_ (i:=5) (N:=some 60) (v:=?_) (a':=?_) ab6_ rfl rfl (take_ofW HT_.out HW_.out (by kernel_rfl)) (fun _ _ _ h=>h) (Or.inl ⟨by rfl,?_⟩) hHeld ?_ ?_
       rotate_left
       ·rintro w' ⟨s0,s1,s2,s3,s4,s5,s6,s7,s8,s9,s10,s11,s12,s13,s14,s15⟩
        go_simp
        with_reducible rfl
       rotate_left
       ·simp only [Act.put,sa_,sb_,sc_,i64_w,i32_w]
        rfl
       refine pure_ (i:=6) (N:=some 61) (v:=?_) (a':=?_) ab7_ rfl rfl (any_of HT_.out (by kernel_rfl)) (fun _ _ _ h=>h) (Or.inl ⟨by rfl,?_⟩) ?_ ?_
       rotate_left
       ·intro w'
        go_simp
        with_reducible rfl
       rotate_left
       ·simp only [Act.put,sa_,sb_,sc_,i64_w,i32_w]
        rfl
       refine pure_ (i:=7) (N:=some 62) (v:=?_) (a':=?_) ab8_ rfl rfl (any_of HT_.out (by kernel_rfl)) (fun _ _ _ h=>h) (Or.inl ⟨by rfl,?_⟩) ?_ ?_
       rotate_left
       ·intro w'
        go_simp
        with_reducible rfl
       rotate_left
       ·simp only [Act.put,sa_,sb_,sc_,i64_w,i32_w]
        rfl
       refine pure_ (i:=8) (N:=some 63) (v:=?_) (a':=?_) ab9_ rfl rfl (any_of HT_.out (by kernel_rfl)) (fun _ _ _ h=>h) (Or.inl ⟨by rfl,?_⟩) ?_ ?_
       rotate_left
       ·intro w'
        go_simp
        with_reducible rfl
       rotate_left
       ·simp only [Act.put,sa_,sb_,sc_,i64_w,i32_w]
        rfl
       refine pure_ (i:=9) (N:=some 64) (v:=?_) (a':=?_) ab10_ rfl rfl (any_of HT_.out (by kernel_rfl)) (fun _ _ _ h=>h) (Or.inl ⟨by rfl,?_⟩) ?_ ?_
       rotate_left
       ·intro w'
        go_simp
        with_reducible rfl
       rotate_left
       ·simp only [Act.put,sa_,sb_,sc_,i64_w,i32_w]
        rfl
       refine pure_ (i:=10) (N:=some 65) (v:=?_) (a':=?_) ab11_ rfl rfl (any_of HT_.out (by kernel_rfl)) (fun _ _ _ h=>h) (Or.inl ⟨by rfl,?_⟩) ?_ ?_
       rotate_left
       ·intro w'
        go_simp
        with_reducible rfl
       rotate_left
       ·simp only [Act.put,sa_,sb_,sc_,i64_w,i32_w]
        rfl
       refine pure_ (i:=11) (N:=some 66) (v:=?_) (a':=?_) ab12_ rfl rfl (any_of HT_.out (by kernel_rfl)) (fun _ _ _ h=>h) (Or.inl ⟨by rfl,?_⟩) ?_ ?_
       rotate_left
       ·intro w'
        go_simp
        with_reducible rfl
       rotate_left
       ·simp only [Act.put,sa_,sb_,sc_,i64_w,i32_w]
        rfl
       refine pure_ (i:=12) (N:=some 67) (v:=?_) (a':=?_) ab13_ rfl rfl (any_of HT_.out (by kernel_rfl)) (fun _ _ _ h=>h) (Or.inl ⟨by rfl,?_⟩) ?_ ?_
       rotate_left
       ·intro w'
        go_simp
        with_reducible rfl
       rotate_left
       ·simp only [Act.put,sa_,sb_,sc_,i64_w,i32_w]
        rfl
       refine pure_ (i:=13) (N:=some 68) (v:=?_) (a':=?_) ab14_ rfl rfl (any_of HT_.out (by kernel_rfl)) (fun _ _ _ h=>h) (Or.inl ⟨by rfl,?_⟩) ?_ ?_
       rotate_left
       ·intro w'
        go_simp
        with_reducible rfl
       rotate_left
       ·simp only [Act.put,sa_,sb_,sc_,i64_w,i32_w]
        rfl
       refine take_ (i:=14) (N:=some 69) (v:=?_) (a':=?_) ab15_ rfl rfl (take_ofW HT_.out HW_.out (by kernel_rfl)) (fun _ _ _ h=>h) (Or.inl ⟨by rfl,?_⟩) hHeld ?_ ?_
       rotate_left
       ·rintro w' ⟨s0,s1,s2,s3,s4,s5,s6,s7,s8,s9,s10,s11,s12,s13,s14,s15⟩
        go_simp
        with_reducible rfl
       rotate_left
       ·simp only [Act.put,sa_,sb_,sc_,i64_w,i32_w]
        rfl
       refine take_ (i:=15) (N:=some 70) (v:=?_) (a':=?_) ab16_ rfl rfl (take_ofW HT_.out HW_.out (by kernel_rfl)) (fun _ _ _ h=>h) (Or.inl ⟨by rfl,?_⟩) hHeld ?_ ?_
       rotate_left
       ·rintro w' ⟨s0,s1,s2,s3,s4,s5,s6,s7,s8,s9,s10,s11,s12,s13,s14,s15⟩
        go_simp
        with_reducible rfl
       rotate_left
       ·simp only [Act.put,sa_,sb_,sc_,i64_w,i32_w]
        rfl
       refine pure_ (i:=16) (N:=some 71) (v:=?_) (a':=?_) ab17_ rfl rfl (any_of HT_.out (by kernel_rfl)) (fun _ _ _ h=>h) (Or.inl ⟨by rfl,?_⟩) ?_ ?_
       rotate_left
       ·intro w'
        go_simp
        with_reducible rfl
       rotate_left
       ·simp only [Act.put,sa_,sb_,sc_,i64_w,i32_w]
        rfl
       refine pure_ (i:=17) (N:=some 72) (v:=?_) (a':=?_) ab18_ rfl rfl (any_of HT_.out (by kernel_rfl)) (fun _ _ _ h=>h) (Or.inl ⟨by rfl,?_⟩) ?_ ?_
       rotate_left
       ·intro w'
        go_simp
        with_reducible rfl
       rotate_left
       ·simp only [Act.put,sa_,sb_,sc_,i64_w,i32_w]
        rfl
       refine pure_ (i:=18) (N:=some 73) (v:=?_) (a':=?_) ab19_ rfl rfl (any_of HT_.out (by kernel_rfl)) (fun _ _ _ h=>h) (Or.inl ⟨by rfl,?_⟩) ?_ ?_
       rotate_left
       ·intro w'
        go_simp
        with_reducible rfl
       rotate_left
       ·simp only [Act.put,sa_,sb_,sc_,i64_w,i32_w]
        rfl
       refine pure_ (i:=19) (N:=some 74) (v:=undef) (a':=?_) ab20_ rfl rfl (any_of HT_.out (by kernel_rfl)) (fun _ _ _ h=>h) (Or.inr ⟨by rfl,rfl⟩) ?_ ?_
       rotate_left
       ·simp only [Act.put,sa_,sb_,sc_,i64_w,i32_w]
        rfl
       refine pure_ (i:=20) (N:=some 75) (v:=undef) (a':=?_) ab22_ rfl rfl (any_of HT_.out (by kernel_rfl)) (fun _ _ _ h=>h) (Or.inr ⟨by rfl,rfl⟩) ?_ ?_
       rotate_left
       ·simp only [Act.put,sa_,sb_,sc_,i64_w,i32_w]
        rfl
       refine pure_ (i:=21) (N:=some 76) (v:=undef) (a':=?_) ab23_ rfl rfl (any_of HT_.out (by kernel_rfl)) (fun _ _ _ h=>h) (Or.inr ⟨by rfl,rfl⟩) ?_ ?_
       rotate_left
       ·simp only [Act.put,sa_,sb_,sc_,i64_w,i32_w]
        rfl
       refine pure_ (i:=22) (N:=some 77) (v:=undef) (a':=?_) ab24_ rfl rfl (any_of HT_.out (by kernel_rfl)) (fun _ _ _ h=>h) (Or.inr ⟨by rfl,rfl⟩) ?_ ?_
       rotate_left
       ·simp only [Act.put,sa_,sb_,sc_,i64_w,i32_w]
        rfl
       refine pure_ (i:=23) (N:=some 78) (v:=undef) (a':=?_) ab25_ rfl rfl (any_of HT_.out (by kernel_rfl)) (fun _ _ _ h=>h) (Or.inr ⟨by rfl,rfl⟩) ?_ ?_
       rotate_left
       ·simp only [Act.put,sa_,sb_,sc_,i64_w,i32_w]
        rfl
       refine pure_ (i:=24) (N:=some 79) (v:=?_) (a':=?_) ab26_ rfl rfl (any_of HT_.out (by kernel_rfl)) (fun _ _ _ h=>h) (Or.inl ⟨by rfl,?_⟩) ?_ ?_
       rotate_left
       ·intro w'
        go_simp
        with_reducible rfl
       rotate_left
       ·simp only [Act.put,sa_,sb_,sc_,i64_w,i32_w]
        rfl
       refine pure_ (i:=25) (N:=some 80) (v:=?_) (a':=?_) ab27_ rfl rfl (any_of HT_.out (by kernel_rfl)) (fun _ _ _ h=>h) (Or.inl ⟨by rfl,?_⟩) ?_ ?_
       rotate_left
       ·intro w'
        go_simp
        with_reducible rfl
       rotate_left
       ·simp only [Act.put,sa_,sb_,sc_,i64_w,i32_w]
        rfl
       refine pure_ (i:=26) (N:=some 81) (v:=undef) (a':=?_) ab28_ rfl rfl (any_of HT_.out (by kernel_rfl)) (fun _ _ _ h=>h) (Or.inr ⟨by rfl,rfl⟩) ?_ ?_
       rotate_left
       ·simp only [Act.put,sa_,sb_,sc_,i64_w,i32_w]
        rfl
       refine pure_ (i:=27) (N:=some 82) (v:=undef) (a':=?_) ab30_ rfl rfl (any_of HT_.out (by kernel_rfl)) (fun _ _ _ h=>h) (Or.inr ⟨by rfl,rfl⟩) ?_ ?_
       rotate_left
       ·simp only [Act.put,sa_,sb_,sc_,i64_w,i32_w]
        rfl
       refine pure_ (i:=28) (N:=some 83) (v:=undef) (a':=?_) ab31_ rfl rfl (any_of HT_.out (by kernel_rfl)) (fun _ _ _ h=>h) (Or.inr ⟨by rfl,rfl⟩) ?_ ?_
       rotate_left
       ·simp only [Act.put,sa_,sb_,sc_,i64_w,i32_w]
        rfl
       refine pure_ (i:=29) (N:=some 84) (v:=undef) (a':=?_) ab32_ rfl rfl (any_of HT_.out (by kernel_rfl)) (fun _ _ _ h=>h) (Or.inr ⟨by rfl,rfl⟩) ?_ ?_
       rotate_left
       ·simp only [Act.put,sa_,sb_,sc_,i64_w,i32_w]
        rfl
       refine pure_ (i:=30) (N:=some 85) (v:=undef) (a':=?_) ab33_ rfl rfl (any_of HT_.out (by kernel_rfl)) (fun _ _ _ h=>h) (Or.inr ⟨by rfl,rfl⟩) ?_ ?_
       rotate_left
       ·simp only [Act.put,sa_,sb_,sc_,i64_w,i32_w]
        rfl
       refine pure_ (i:=31) (N:=some 86) (v:=?_) (a':=?_) ab34_ rfl rfl (any_of HT_.out (by kernel_rfl)) (fun _ _ _ h=>h) (Or.inl ⟨by rfl,?_⟩) ?_ ?_
       rotate_left
       ·intro w'
        go_simp
        with_reducible rfl
       rotate_left
       ·simp only [Act.put,sa_,sb_,sc_,i64_w,i32_w]
        rfl
       refine done_ (done_of HT_.out (by kernel_rfl)) ?_
       try go_wp2
       go_meet
       case rel=>exact⟨_,(true),(by first|rfl|(simp;done)|(simp [*];done)),H',⟨by first|omega|exact Nat.le_refl _⟩,⟨by(with_reducible repeat first|apply bN|apply b1|apply bA);exact q0.out⟩,⟨by(with_reducible repeat first|apply bN|apply b1|apply bA);exact q1.out⟩,⟨by(with_reducible repeat first|apply bN|apply b1|apply bA);exact q2.out⟩,⟨by(with_reducible repeat first|apply bN|apply b1|apply bA);exact q3.out⟩,⟨by(with_reducible repeat first|apply bN|apply b1|apply bA);exact q4.out⟩,⟨by(with_reducible repeat first|apply bN|apply b1|apply bA);exact q5.out⟩,⟨by(with_reducible repeat first|apply bN|apply b1|apply bA);exact q6.out⟩,⟨by(with_reducible repeat first|apply bN|apply b1|apply bA);exact q7.out⟩,⟨by repeat(first|(with_reducible first|exact HB.out|apply pA|apply pN|apply p1|refine pS ?_ GE277.out|refine pS ?_ GE278.out|refine pS ?_ GE285.out|refine pS ?_ GE292.out|refine pS ?_ GE302.out|refine pS ?_ GE303.out|refine pS ?_ GE308.out|refine pS ?_ GE313.out)|exact HB.out)⟩⟩
      ·rw [if_neg c70] at H
       have c70b0:(!(t304 == t309) || (!(t305 == t310) || (!(t306 == t311))))=false:=by simpa using c70
       clear c70
       replace H:=Option.bind_eq_some_iff.mp H
       obtain⟨t314,A730,H⟩:=H
       replace H:((spec_IsBlock.f t270 t271 t272).bind fun t315=>(if (t314 != t315)=true then (laws_FnCases.j0 k t284 t307 true t270 t271 t272 t273 t274 t275 t276 t279 t280 t281 t282 t283 t293 t294 t295 t296 t297 t298 t299 t300 t301 t304 t305 t306) else ((impl_IsCaseRule.f t273 t274 t275 t276).bind fun t316=>((spec_IsCaseRule.f t273 t274 t275 t276).bind fun t317=>(laws_FnCases.j0 k t284 t307 (t316 != t317) t270 t271 t272 t273 t274 t275 t276 t279 t280 t281 t282 t283 t293 t294 t295 t296 t297 t298 t299 t300 t301 t304 t305 t306)))))=some r:=H
       have A73:=ak_ A730
       clear A730
       replace H:=Option.bind_eq_some_iff.mp H
       obtain⟨t315,A740,H⟩:=H
       replace H:(if (t314 != t315)=true then (laws_FnCases.j0 k t284 t307 true t270 t271 t272 t273 t274 t275 t276 t279 t280 t281 t282 t283 t293 t294 t295 t296 t297 t298 t299 t300 t301 t304 t305 t306) else ((impl_IsCaseRule.f t273 t274 t275 t276).bind fun t316=>((spec_IsCaseRule.f t273 t274 t275 t276).bind fun t317=>(laws_FnCases.j0 k t284 t307 (t316 != t317) t270 t271 t272 t273 t274 t275 t276 t279 t280 t281 t282 t283 t293 t294 t295 t296 t297 t298 t299 t300 t301 t304 t305 t306))))=some r:=H
       have A74:=ak_ A740
       clear A740
       by_cases c75:(t314 != t315)=true
       ·rw [if_pos c75] at H
        have c75b0:(t314 != t315)=true:=c75
        (try (have c75b1:decide (t314=t315)=false:=by simpa using c75))
        (try (have c75b2:(t314 == t315)=false:=by simpa using c75))
        (try (have c75b3:¬ (t314=t315):=by simpa using c75))
        clear c75
        have H':=ak_ H
        clear H
        try go_wp2
        have n0_:Aside0 ((((w56.setCell ⟨q18,0,none⟩ (.int .i64 t309)).setCell ⟨q18,1,none⟩ (.int .i64 t310)).setCell ⟨q18,2,none⟩ (.int .i64 t311)).heap[q11]?=some (.cells #[.int .i64 t270,.int .i64 t271,.int .i64 t272] 30 (0,0))):=⟨by(with_reducible repeat first|apply bN|apply b1|apply bA);refine bF ?_ NB277_313.out _;(with_reducible repeat first|apply bN|apply b1|apply bA);refine bF ?_ NB277_313.out _;(with_reducible repeat first|apply bN|apply b1|apply bA);refine bF ?_ NB277_313.out _;(with_reducible repeat first|apply bN|apply b1|apply bA);exact q0.out⟩
        have n1_:Aside0 ((((w56.setCell ⟨q18,0,none⟩ (.int .i64 t309)).setCell ⟨q18,1,none⟩ (.int .i64 t310)).setCell ⟨q18,2,none⟩ (.int .i64 t311)).heap[q12]?=some (.cells #[.int .i64 t273,.int .i64 t274,.int .i64 t275,.int .i64 t276] 32 (0,0))):=⟨by(with_reducible repeat first|apply bN|apply b1|apply bA);refine bF ?_ NB278_313.out _;(with_reducible repeat first|apply bN|apply b1|apply bA);refine bF ?_ NB278_313.out _;(with_reducible repeat first|apply bN|apply b1|apply bA);refine bF ?_ NB278_313.out _;(with_reducible repeat first|apply bN|apply b1|apply bA);exact q1.out⟩
        have n2_:Aside0 ((((w56.setCell ⟨q18,0,none⟩ (.int .i64 t309)).setCell ⟨q18,1,none⟩ (.int .i64 t310)).setCell ⟨q18,2,none⟩ (.int .i64 t311)).heap[q13]?=some (.cells #[.int .i64 t279,.int .i64 t280,.int .i64 t281,.int .i64 t282,.int .i64 t283] 27 (0,0))):=⟨by(with_reducible repeat first|apply bN|apply b1|apply bA);refine bF ?_ NB285_313.out _;(with_reducible repeat first|apply bN|apply b1|apply bA);refine bF ?_ NB285_313.out _;(with_reducible repeat first|apply bN|apply b1|apply bA);refine bF ?_ NB285_313.out _;(with_reducible repeat first|apply bN|apply b1|apply bA);exact q2.out⟩
        have n3_:Aside0 ((((w56.setCell ⟨q18,0,none⟩ (.int .i64 t309)).setCell ⟨q18,1,none⟩ (.int .i64 t310)).setCell ⟨q18,2,none⟩ (.int .i64 t311)).heap[q14]?=some (.cells #[.int .i64 t286,.int .i64 t287,.int .i64 t288,.int .i64 t289,.int .i64 t290] 27 (0,0))):=⟨by(with_reducible repeat first|apply bN|apply b1|apply bA);refine bF ?_ NB292_313.out _;(with_reducible repeat first|apply bN|apply b1|apply bA);refine bF ?_ NB292_313.out _;(with_reducible repeat first|apply bN|apply b1|apply bA);refine bF ?_ NB292_313.out _;(with_reducible repeat first|apply bN|apply b1|apply bA);exact q3.out⟩
        have n4_:Aside0 ((((w56.setCell ⟨q18,0,none⟩ (.int .i64 t309)).setCell ⟨q18,1,none⟩ (.int .i64 t310)).setCell ⟨q18,2,none⟩ (.int .i64 t311)).heap[q15]?=some (.cells #[.int .i64 t293,.int .i64 t294,.int .i64 t295,.int .i64 t296,.int .i64 t297] 27 (0,0))):=⟨by(with_reducible repeat first|apply bN|apply b1|apply bA);refine bF ?_ NB302_313.out _;(with_reducible repeat first|apply bN|apply b1|apply bA);refine bF ?_ NB302_313.out _;(with_reducible repeat first|apply bN|apply b1|apply bA);refine bF ?_ NB302_313.out _;(with_reducible repeat first|apply bN|apply b1|apply bA);exact q4.out⟩
        have n5_:Aside0 ((((w56.setCell ⟨q18,0,none⟩ (.int .i64 t309)).setCell ⟨q18,1,none⟩ (.int .i64 t310)).setCell ⟨q18,2,none⟩ (.int .i64 t311)).heap[q16]?=some (.cells #[.int .i64 t298,.int .i64 t299,.int .i64 t300,.int .i64 t301] 32 (0,0))):=⟨by(with_reducible repeat first|apply bN|apply b1|apply bA);refine bF ?_ NB303_313.out _;(with_reducible repeat first|apply bN|apply b1|apply bA);refine bF ?_ NB303_313.out _;(with_reducible repeat first|apply bN|apply b1|apply bA);refine bF ?_ NB303_313.out _;(with_reducible repeat first|apply bN|apply b1|apply bA);exact q5.out⟩
        have n6_:Aside0 ((((w56.setCell ⟨q18,0,none⟩ (.int .i64 t309)).setCell ⟨q18,1,none⟩ (.int .i64 t310)).setCell ⟨q18,2,none⟩ (.int .i64 t311)).heap[q17]?=some (.cells #[.int .i64 t304,.int .i64 t305,.int .i64 t306] 30 (0,0))):=⟨by(with_reducible repeat first|apply bN|apply b1|apply bA);refine bF ?_ NB308_313.out _;(with_reducible repeat first|apply bN|apply b1|apply bA);refine bF ?_ NB308_313.out _;(with_reducible repeat first|apply bN|apply b1|apply bA);refine bF ?_ NB308_313.out _;(with_reducible repeat first|apply bN|apply b1|apply bA);exact q6.out⟩
        have n7_:Aside0 ((((w56.setCell ⟨q18,0,none⟩ (.int .i64 t309)).setCell ⟨q18,1,none⟩ (.int .i64 t310)).setCell ⟨q18,2,none⟩ (.int .i64 t311)).heap[q18]?=some (.cells #[.int .i64 t309,.int .i64 t310,.int .i64 t311] 30 (0,0))):=⟨by(with_reducible repeat first|apply bN|apply b1|apply bA);refine bP (cs:=#[.int .i64 t309,.int .i64 t310,.int .i64 0]) ?_ 2 _ rfl;(with_reducible repeat first|apply bN|apply b1|apply bA);refine bP (cs:=#[.int .i64 t309,.int .i64 0,.int .i64 0]) ?_ 1 _ rfl;(with_reducible repeat first|apply bN|apply b1|apply bA);refine bP (cs:=#[.int .i64 0,.int .i64 0,.int .i64 0]) ?_ 0 _ rfl;(with_reducible repeat first|apply bN|apply b1|apply bA);exact q7.out⟩
        have n8_:Aside0 (Below w.heap.size w (((w56.setCell ⟨q18,0,none⟩ (.int .i64 t309)).setCell ⟨q18,1,none⟩ (.int .i64 t310)).setCell ⟨q18,2,none⟩ (.int .i64 t311))):=⟨by repeat(first|(with_reducible first|exact HB.out|apply pA|apply pN|apply p1|refine pS ?_ GE277.out|refine pS ?_ GE278.out|refine pS ?_ GE285.out|refine pS ?_ GE292.out|refine pS ?_ GE302.out|refine pS ?_ GE303.out|refine pS ?_ GE308.out|refine pS ?_ GE313.out)|exact HB.out)⟩
        (try clear q0)
        (try clear q1)
        (try clear q2)
        (try clear q3)
        (try clear q4)
        (try clear q5)
        (try clear q6)
        (try clear q7)
        (try clear HB)
        generalize (((w56.setCell ⟨q18,0,none⟩ (.int .i64 t309)).setCell ⟨q18,1,none⟩ (.int .i64 t310)).setCell ⟨q18,2,none⟩ (.int .i64 t311))=w76 at n0_ n1_ n2_ n3_ n4_ n5_ n6_ n7_ n8_ ⊢
        have q0:=n0_
        have q1:=n1_
        have q2:=n2_
        have q3:=n3_
        have q4:=n4_
        have q5:=n5_
        have q6:=n6_
        have q7:=n7_
        have HB:=n8_
        clear n0_ n1_ n2_ n3_ n4_ n5_ n6_ n7_ n8_
        have n0_:=ak_ (b1 q0.out)
        have n1_:=ak_ (b1 q1.out)
        have n2_:=ak_ (b1 q2.out)
        have n3_:=ak_ (b1 q3.out)
        have n4_:=ak_ (b1 q4.out)
        have n5_:=ak_ (b1 q5.out)
        have n6_:=ak_ (b1 q6.out)
        have n7_:=ak_ (b1 q7.out)
        have n8_:=ak_ (p1 HB.out)
        clear q0
        clear q1
        clear q2
        clear q3
        clear q4
        clear q5
        clear q6
        clear q7
        clear HB
        have q0:=n0_
        have q1:=n1_
        have q2:=n2_
        have q3:=n3_
        have q4:=n4_
        have q5:=n5_
        have q6:=n6_
        have q7:=n7_
        have HB:=n8_
        clear n0_ n1_ n2_ n3_ n4_ n5_ n6_ n7_ n8_
        refine start_ (n:=32) (S:=fun w'=>w'.cell? ⟨q13,0,none⟩=some (.int .i64 t279)∧w'.cell? ⟨q13,1,none⟩=some (.int .i64 t280)∧w'.cell? ⟨q13,2,none⟩=some (.int .i64 t281)∧w'.cell? ⟨q13,3,none⟩=some (.int .i64 t282)∧w'.cell? ⟨q13,4,none⟩=some (.int .i64 t283)∧w'.cell? ⟨q14,0,none⟩=some (.int .i64 t286)∧w'.cell? ⟨q14,1,none⟩=some (.int .i64 t287)∧w'.cell? ⟨q14,2,none⟩=some (.int .i64 t288)∧w'.cell? ⟨q14,3,none⟩=some (.int .i64 t289)∧w'.cell? ⟨q14,4,none⟩=some (.int .i64 t290)∧w'.cell? ⟨q17,0,none⟩=some (.int .i64 t304)∧w'.cell? ⟨q17,1,none⟩=some (.int .i64 t305)∧w'.cell? ⟨q17,2,none⟩=some (.int .i64 t306)∧w'.cell? ⟨q18,0,none⟩=some (.int .i64 t309)∧w'.cell? ⟨q18,1,none⟩=some (.int .i64 t310)∧w'.cell? ⟨q18,2,none⟩=some (.int .i64 t311)∧w'.cell? ⟨q11,0,none⟩=some (.int .i64 t270)∧w'.cell? ⟨q11,1,none⟩=some (.int .i64 t271)∧w'.cell? ⟨q11,2,none⟩=some (.int .i64 t272)) (ds:=[]) ab0_ (by kernel_rfl) rfl rfl ⟨(bC q2.out 0).trans rfl,(bC q2.out 1).trans rfl,(bC q2.out 2).trans rfl,(bC q2.out 3).trans rfl,(bC q2.out 4).trans rfl,(bC q3.out 0).trans rfl,(bC q3.out 1).trans rfl,(bC q3.out 2).trans rfl,(bC q3.out 3).trans rfl,(bC q3.out 4).trans rfl,(bC q6.out 0).trans rfl,(bC q6.out 1).trans rfl,(bC q6.out 2).trans rfl,(bC q7.out 0).trans rfl,(bC q7.out 1).trans rfl,(bC q7.out 2).trans rfl,(bC q0.out 0).trans rfl,(bC q0.out 1).trans rfl,(bC q0.out 2).trans rfl⟩ (fun hHeld=>?_);refine with_tabW laws_FnCases.tab9 laws_FnCases.bits9 (fun HT_ HW_=>?_)
        generalize w76.drew=w77 at q0 q1 q2 q3 q4 q5 q6 q7 HB hHeld ⊢
        refine pure_ (i:=0) (N:=some 55) (v:=?_) (a':=?_) ab1_ rfl rfl (any_of HT_.out (by kernel_rfl)) (fun _ _ _ h=>h) (Or.inl ⟨by rfl,?_⟩) ?_ ?_
        rotate_left
        ·intro w'
         go_simp
         with_reducible rfl
        rotate_left
        ·simp only [Act.put,sa_,sb_,sc_,i64_w,i32_w]
         rfl
        refine pure_ (i:=1) (N:=some 56) (v:=?_) (a':=?_) ab2_ rfl rfl (any_of HT_.out (by kernel_rfl)) (fun _ _ _ h=>h) (Or.inl ⟨by rfl,?_⟩) ?_ ?_
        rotate_left
        ·intro w'
         go_simp
         with_reducible rfl
        rotate_left
        ·simp only [Act.put,sa_,sb_,sc_,i64_w,i32_w]
         rfl
        refine pure_ (i:=2) (N:=some 57) (v:=?_) (a':=?_) ab3_ rfl rfl (any_of HT_.out (by kernel_rfl)) (fun _ _ _ h=>h) (Or.inl ⟨by rfl,?_⟩) ?_ ?_
        rotate_left
        ·intro w'
         go_simp
         with_reducible rfl
        rotate_left
        ·simp only [Act.put,sa_,sb_,sc_,i64_w,i32_w]
         rfl
        refine pure_ (i:=3) (N:=some 58) (v:=?_) (a':=?_) ab4_ rfl rfl (any_of HT_.out (by kernel_rfl)) (fun _ _ _ h=>h) (Or.inl ⟨by rfl,?_⟩) ?_ ?_
        rotate_left
        ·intro w'
         go_simp
         with_reducible rfl
        rotate_left
        ·simp only [Act.put,sa_,sb_,sc_,i64_w,i32_w]
         rfl
        refine take_ (i:=4) (N:=some 59) (v:=?_) (a':=?_) ab5_ rfl rfl (take_ofW HT_.out HW_.out (by kernel_rfl)) (fun _ _ _ h=>h) (Or.inl ⟨by rfl,?_⟩) hHeld ?_ ?_
        rotate_left
        ·rintro w' ⟨s0,s1,s2,s3,s4,s5,s6,s7,s8,s9,s10,s11,s12,s13,s14,s15,s16,s17,s18⟩
         go_simp
         with_reducible rfl
        rotate_left
        ·simp only [Act.put,sa_,sb_,sc_,i64_w,i32_w]
         rfl
        refine take_ (i:=5) (N:=some 60) (v:=?_) (a':=?_) ab6_ rfl rfl (take_ofW HT_.out HW_.out (by kernel_rfl)) (fun _ _ _ h=>h) (Or.inl ⟨by rfl,?_⟩) hHeld ?_ ?_
        rotate_left
        ·rintro w' ⟨s0,s1,s2,s3,s4,s5,s6,s7,s8,s9,s10,s11,s12,s13,s14,s15,s16,s17,s18⟩
         go_simp
         with_reducible rfl
        rotate_left
        ·simp only [Act.put,sa_,sb_,sc_,i64_w,i32_w]
         rfl
        refine pure_ (i:=6) (N:=some 61) (v:=?_) (a':=?_) ab7_ rfl rfl (any_of HT_.out (by kernel_rfl)) (fun _ _ _ h=>h) (Or.inl ⟨by rfl,?_⟩) ?_ ?_
        rotate_left
        ·intro w'
         go_simp
         with_reducible rfl
        rotate_left
        ·simp only [Act.put,sa_,sb_,sc_,i64_w,i32_w]
         rfl
        refine pure_ (i:=7) (N:=some 62) (v:=?_) (a':=?_) ab8_ rfl rfl (any_of HT_.out (by kernel_rfl)) (fun _ _ _ h=>h) (Or.inl ⟨by rfl,?_⟩) ?_ ?_
        rotate_left
        ·intro w'
         go_simp
         with_reducible rfl
        rotate_left
        ·simp only [Act.put,sa_,sb_,sc_,i64_w,i32_w]
         rfl
        refine pure_ (i:=8) (N:=some 63) (v:=?_) (a':=?_) ab9_ rfl rfl (any_of HT_.out (by kernel_rfl)) (fun _ _ _ h=>h) (Or.inl ⟨by rfl,?_⟩) ?_ ?_
        rotate_left
        ·intro w'
         go_simp
         with_reducible rfl
        rotate_left
        ·simp only [Act.put,sa_,sb_,sc_,i64_w,i32_w]
         rfl
        refine pure_ (i:=9) (N:=some 64) (v:=?_) (a':=?_) ab10_ rfl rfl (any_of HT_.out (by kernel_rfl)) (fun _ _ _ h=>h) (Or.inl ⟨by rfl,?_⟩) ?_ ?_
        rotate_left
        ·intro w'
         go_simp
         with_reducible rfl
        rotate_left
        ·simp only [Act.put,sa_,sb_,sc_,i64_w,i32_w]
         rfl
        refine pure_ (i:=10) (N:=some 65) (v:=?_) (a':=?_) ab11_ rfl rfl (any_of HT_.out (by kernel_rfl)) (fun _ _ _ h=>h) (Or.inl ⟨by rfl,?_⟩) ?_ ?_
        rotate_left
        ·intro w'
         go_simp
         with_reducible rfl
        rotate_left
        ·simp only [Act.put,sa_,sb_,sc_,i64_w,i32_w]
         rfl
        refine pure_ (i:=11) (N:=some 66) (v:=?_) (a':=?_) ab12_ rfl rfl (any_of HT_.out (by kernel_rfl)) (fun _ _ _ h=>h) (Or.inl ⟨by rfl,?_⟩) ?_ ?_
        rotate_left
        ·intro w'
         go_simp
         with_reducible rfl
        rotate_left
        ·simp only [Act.put,sa_,sb_,sc_,i64_w,i32_w]
         rfl
        refine pure_ (i:=12) (N:=some 67) (v:=?_) (a':=?_) ab13_ rfl rfl (any_of HT_.out (by kernel_rfl)) (fun _ _ _ h=>h) (Or.inl ⟨by rfl,?_⟩) ?_ ?_
        rotate_left
        ·intro w'
         go_simp
         with_reducible rfl
        rotate_left
        ·simp only [Act.put,sa_,sb_,sc_,i64_w,i32_w]
         rfl
        refine pure_ (i:=13) (N:=some 68) (v:=?_) (a':=?_) ab14_ rfl rfl (any_of HT_.out (by kernel_rfl)) (fun _ _ _ h=>h) (Or.inl ⟨by rfl,?_⟩) ?_ ?_
        rotate_left
        ·intro w'
         go_simp
         with_reducible rfl
        rotate_left
        ·simp only [Act.put,sa_,sb_,sc_,i64_w,i32_w]
         rfl
        refine take_ (i:=14) (N:=some 69) (v:=?_) (a':=?_) ab15_ rfl rfl (take_ofW HT_.out HW_.out (by kernel_rfl)) (fun _ _ _ h=>h) (Or.inl ⟨by rfl,?_⟩) hHeld ?_ ?_
        rotate_left
        ·rintro w' ⟨s0,s1,s2,s3,s4,s5,s6,s7,s8,s9,s10,s11,s12,s13,s14,s15,s16,s17,s18⟩
         go_simp
         with_reducible rfl
        rotate_left
        ·simp only [Act.put,sa_,sb_,sc_,i64_w,i32_w]
         rfl
        refine take_ (i:=15) (N:=some 70) (v:=?_) (a':=?_) ab16_ rfl rfl (take_ofW HT_.out HW_.out (by kernel_rfl)) (fun _ _ _ h=>h) (Or.inl ⟨by rfl,?_⟩) hHeld ?_ ?_
        rotate_left
        ·rintro w' ⟨s0,s1,s2,s3,s4,s5,s6,s7,s8,s9,s10,s11,s12,s13,s14,s15,s16,s17,s18⟩
         go_simp
         with_reducible rfl
        rotate_left
        ·simp only [Act.put,sa_,sb_,sc_,i64_w,i32_w]
         rfl
        refine pure_ (i:=16) (N:=some 71) (v:=?_) (a':=?_) ab17_ rfl rfl (any_of HT_.out (by kernel_rfl)) (fun _ _ _ h=>h) (Or.inl ⟨by rfl,?_⟩) ?_ ?_
        rotate_left
        ·intro w'
         go_simp
         with_reducible rfl
        rotate_left
        ·simp only [Act.put,sa_,sb_,sc_,i64_w,i32_w]
         rfl
        refine pure_ (i:=17) (N:=some 72) (v:=?_) (a':=?_) ab18_ rfl rfl (any_of HT_.out (by kernel_rfl)) (fun _ _ _ h=>h) (Or.inl ⟨by rfl,?_⟩) ?_ ?_
        rotate_left
        ·intro w'
         go_simp
         with_reducible rfl
        rotate_left
        ·simp only [Act.put,sa_,sb_,sc_,i64_w,i32_w]
         rfl
        refine pure_ (i:=18) (N:=some 73) (v:=?_) (a':=?_) ab19_ rfl rfl (any_of HT_.out (by kernel_rfl)) (fun _ _ _ h=>h) (Or.inl ⟨by rfl,?_⟩) ?_ ?_
        rotate_left
        ·intro w'
         go_simp
         with_reducible rfl
        rotate_left
        ·simp only [Act.put,sa_,sb_,sc_,i64_w,i32_w]
         rfl
        refine take_ (i:=19) (N:=some 74) (v:=?_) (a':=?_) ab20_ rfl rfl (take_ofW HT_.out HW_.out (by kernel_rfl)) (fun _ _ _ h=>h) (Or.inl ⟨by rfl,?_⟩) hHeld ?_ ?_
        rotate_left
        ·rintro w' ⟨s0,s1,s2,s3,s4,s5,s6,s7,s8,s9,s10,s11,s12,s13,s14,s15,s16,s17,s18⟩
         go_simp
         with_reducible rfl
        rotate_left
        ·simp only [Act.put,sa_,sb_,sc_,i64_w,i32_w]
         rfl
        refine take_ (i:=21) (N:=some 76) (v:=?_) (a':=?_) ab21_ rfl rfl (take_ofW HT_.out HW_.out (by kernel_rfl)) (fun _ _ _ h=>h) (Or.inl ⟨by rfl,?_⟩) hHeld ?_ ?_
        rotate_left
        ·rintro w' ⟨s0,s1,s2,s3,s4,s5,s6,s7,s8,s9,s10,s11,s12,s13,s14,s15,s16,s17,s18⟩
         go_simp
         with_reducible rfl
        rotate_left
        ·simp only [Act.put,sa_,sb_,sc_,i64_w,i32_w]
         rfl
        refine one_ (i:=20) (N:=some 75) ab23_ rfl rfl (one_of HT_.out (by kernel_rfl)) (by decide) (fun K hK=>?_)
        refine goes_ Try.func30 (by kernel_rfl) rfl #[.agg #[.int .i64 t270,.int .i64 t271,.int .i64 t272]] (by rfl) rfl rfl (by(try simp only [List.map_toArray,List.map_cons,List.map_nil]);first|done|rfl|(simp only [List.length_drop,List.length_take];rfl)) ?_
        with_reducible refine(impl_IsBlock.calls t270 t271 t272 t314 _ A73.out).mono ?_
        rintro e w78 ⟨rfl,hb⟩
        refine⟨_,rfl,?_⟩
        have n0_:=ak_ (bB (g:=q11) (o:=.cells #[.int .i64 t270,.int .i64 t271,.int .i64 t272] 30 (0,0)) (by(with_reducible repeat first|apply bN|apply b1|apply bA);exact q0.out) hb)
        have n1_:=ak_ (bB (g:=q12) (o:=.cells #[.int .i64 t273,.int .i64 t274,.int .i64 t275,.int .i64 t276] 32 (0,0)) (by(with_reducible repeat first|apply bN|apply b1|apply bA);exact q1.out) hb)
        have n2_:=ak_ (bB (g:=q13) (o:=.cells #[.int .i64 t279,.int .i64 t280,.int .i64 t281,.int .i64 t282,.int .i64 t283] 27 (0,0)) (by(with_reducible repeat first|apply bN|apply b1|apply bA);exact q2.out) hb)
        have n3_:=ak_ (bB (g:=q14) (o:=.cells #[.int .i64 t286,.int .i64 t287,.int .i64 t288,.int .i64 t289,.int .i64 t290] 27 (0,0)) (by(with_reducible repeat first|apply bN|apply b1|apply bA);exact q3.out) hb)
        have n4_:=ak_ (bB (g:=q15) (o:=.cells #[.int .i64 t293,.int .i64 t294,.int .i64 t295,.int .i64 t296,.int .i64 t297] 27 (0,0)) (by(with_reducible repeat first|apply bN|apply b1|apply bA);exact q4.out) hb)
        have n5_:=ak_ (bB (g:=q16) (o:=.cells #[.int .i64 t298,.int .i64 t299,.int .i64 t300,.int .i64 t301] 32 (0,0)) (by(with_reducible repeat first|apply bN|apply b1|apply bA);exact q5.out) hb)
        have n6_:=ak_ (bB (g:=q17) (o:=.cells #[.int .i64 t304,.int .i64 t305,.int .i64 t306] 30 (0,0)) (by(with_reducible repeat first|apply bN|apply b1|apply bA);exact q6.out) hb)
        have n7_:=ak_ (bB (g:=q18) (o:=.cells #[.int .i64 t309,.int .i64 t310,.int .i64 t311] 30 (0,0)) (by(with_reducible repeat first|apply bN|apply b1|apply bA);exact q7.out) hb)
        have n8_:=ak_ (pT (by repeat(first|(with_reducible first|exact HB.out|apply pA|apply pN|apply p1|refine pS ?_ GE277.out|refine pS ?_ GE278.out|refine pS ?_ GE285.out|refine pS ?_ GE292.out|refine pS ?_ GE302.out|refine pS ?_ GE303.out|refine pS ?_ GE308.out|refine pS ?_ GE313.out)|exact HB.out)) hb)
        clear q0
        clear q1
        clear q2
        clear q3
        clear q4
        clear q5
        clear q6
        clear q7
        clear HB
        have q0:=n0_
        have q1:=n1_
        have q2:=n2_
        have q3:=n3_
        have q4:=n4_
        have q5:=n5_
        have q6:=n6_
        have q7:=n7_
        have HB:=n8_
        clear n0_ n1_ n2_ n3_ n4_ n5_ n6_ n7_ n8_
        (try clear hb)
        (try clear hb2)
        (try clear hk)
        (try clear hi)
        refine hK.out _ _ ⟨(bC q2.out 0).trans rfl,(bC q2.out 1).trans rfl,(bC q2.out 2).trans rfl,(bC q2.out 3).trans rfl,(bC q2.out 4).trans rfl,(bC q3.out 0).trans rfl,(bC q3.out 1).trans rfl,(bC q3.out 2).trans rfl,(bC q3.out 3).trans rfl,(bC q3.out 4).trans rfl,(bC q6.out 0).trans rfl,(bC q6.out 1).trans rfl,(bC q6.out 2).trans rfl,(bC q7.out 0).trans rfl,(bC q7.out 1).trans rfl,(bC q7.out 2).trans rfl,(bC q0.out 0).trans rfl,(bC q0.out 1).trans rfl,(bC q0.out 2).trans rfl⟩ (fun hHeld=>?_)
        clear hK K
        refine norm_ (a':=?_) ?_ ?_
        rotate_left
        ·show Act.put _ (some 75) _=_
         simp only [Act.put,sa_,sb_,sc_,i64_w,i32_w]
         rfl
        refine one_ (i:=22) (N:=some 77) ab24_ rfl rfl (one_of HT_.out (by kernel_rfl)) (by decide) (fun K hK=>?_)
        refine goes_ Try.func31 (by kernel_rfl) rfl #[.agg #[.int .i64 t270,.int .i64 t271,.int .i64 t272]] (by rfl) rfl rfl (by(try simp only [List.map_toArray,List.map_cons,List.map_nil]);first|done|rfl|(simp only [List.length_drop,List.length_take];rfl)) ?_
        with_reducible refine(spec_IsBlock.calls t270 t271 t272 t315 _ A74.out).mono ?_
        rintro e w79 ⟨rfl,hb⟩
        refine⟨_,rfl,?_⟩
        have n0_:=ak_ (bB (g:=q11) (o:=.cells #[.int .i64 t270,.int .i64 t271,.int .i64 t272] 30 (0,0)) (by(with_reducible repeat first|apply bN|apply b1|apply bA);exact q0.out) hb)
        have n1_:=ak_ (bB (g:=q12) (o:=.cells #[.int .i64 t273,.int .i64 t274,.int .i64 t275,.int .i64 t276] 32 (0,0)) (by(with_reducible repeat first|apply bN|apply b1|apply bA);exact q1.out) hb)
        have n2_:=ak_ (bB (g:=q13) (o:=.cells #[.int .i64 t279,.int .i64 t280,.int .i64 t281,.int .i64 t282,.int .i64 t283] 27 (0,0)) (by(with_reducible repeat first|apply bN|apply b1|apply bA);exact q2.out) hb)
        have n3_:=ak_ (bB (g:=q14) (o:=.cells #[.int .i64 t286,.int .i64 t287,.int .i64 t288,.int .i64 t289,.int .i64 t290] 27 (0,0)) (by(with_reducible repeat first|apply bN|apply b1|apply bA);exact q3.out) hb)
        have n4_:=ak_ (bB (g:=q15) (o:=.cells #[.int .i64 t293,.int .i64 t294,.int .i64 t295,.int .i64 t296,.int .i64 t297] 27 (0,0)) (by(with_reducible repeat first|apply bN|apply b1|apply bA);exact q4.out) hb)
        have n5_:=ak_ (bB (g:=q16) (o:=.cells #[.int .i64 t298,.int .i64 t299,.int .i64 t300,.int .i64 t301] 32 (0,0)) (by(with_reducible repeat first|apply bN|apply b1|apply bA);exact q5.out) hb)
        have n6_:=ak_ (bB (g:=q17) (o:=.cells #[.int .i64 t304,.int .i64 t305,.int .i64 t306] 30 (0,0)) (by(with_reducible repeat first|apply bN|apply b1|apply bA);exact q6.out) hb)
        have n7_:=ak_ (bB (g:=q18) (o:=.cells #[.int .i64 t309,.int .i64 t310,.int .i64 t311] 30 (0,0)) (by(with_reducible repeat first|apply bN|apply b1|apply bA);exact q7.out) hb)
        have n8_:=ak_ (pT (by repeat(first|(with_reducible first|exact HB.out|apply pA|apply pN|apply p1|refine pS ?_ GE277.out|refine pS ?_ GE278.out|refine pS ?_ GE285.out|refine pS ?_ GE292.out|refine pS ?_ GE302.out|refine pS ?_ GE303.out|refine pS ?_ GE308.out|refine pS ?_ GE313.out)|exact HB.out)) hb)
        clear q0
        clear q1
        clear q2
        clear q3
        clear q4
        clear q5
        clear q6
        clear q7
        clear HB
        have q0:=n0_
        have q1:=n1_
        have q2:=n2_
        have q3:=n3_
        have q4:=n4_
        have q5:=n5_
        have q6:=n6_
        have q7:=n7_
        have HB:=n8_
        clear n0_ n1_ n2_ n3_ n4_ n5_ n6_ n7_ n8_
        (try clear hb)
        (try clear hb2)
        (try clear hk)
        (try clear hi)
        refine hK.out _ _ ⟨(bC q2.out 0).trans rfl,(bC q2.out 1).trans rfl,(bC q2.out 2).trans rfl,(bC q2.out 3).trans rfl,(bC q2.out 4).trans rfl,(bC q3.out 0).trans rfl,(bC q3.out 1).trans rfl,(bC q3.out 2).trans rfl,(bC q3.out 3).trans rfl,(bC q3.out 4).trans rfl,(bC q6.out 0).trans rfl,(bC q6.out 1).trans rfl,(bC q6.out 2).trans rfl,(bC q7.out 0).trans rfl,(bC q7.out 1).trans rfl,(bC q7.out 2).trans rfl,(bC q0.out 0).trans rfl,(bC q0.out 1).trans rfl,(bC q0.out 2).trans rfl⟩ (fun hHeld=>?_)
        clear hK K
        refine norm_ (a':=?_) ?_ ?_
        rotate_left
        ·show Act.put _ (some 77) _=_
         simp only [Act.put,sa_,sb_,sc_,i64_w,i32_w]
         rfl
        refine pure_ (i:=23) (N:=some 78) (v:=?_) (a':=?_) ab25_ rfl rfl (any_of HT_.out (by kernel_rfl)) (fun _ _ _ h=>h) (Or.inl ⟨by rfl,?_⟩) ?_ ?_
        rotate_left
        ·intro w'
         go_simp
         with_reducible rfl
        rotate_left
        ·simp only [Act.put,sa_,sb_,sc_,i64_w,i32_w]
         rfl
        refine pure_ (i:=24) (N:=some 79) (v:=?_) (a':=?_) ab26_ rfl rfl (any_of HT_.out (by kernel_rfl)) (fun _ _ _ h=>h) (Or.inl ⟨by rfl,?_⟩) ?_ ?_
        rotate_left
        ·intro w'
         go_simp
         with_reducible rfl
        rotate_left
        ·simp only [Act.put,sa_,sb_,sc_,i64_w,i32_w]
         rfl
        refine pure_ (i:=25) (N:=some 80) (v:=?_) (a':=?_) ab27_ rfl rfl (any_of HT_.out (by kernel_rfl)) (fun _ _ _ h=>h) (Or.inl ⟨by rfl,?_⟩) ?_ ?_
        rotate_left
        ·intro w'
         go_simp
         with_reducible rfl
        rotate_left
        ·simp only [Act.put,sa_,sb_,sc_,i64_w,i32_w]
         rfl
        refine pure_ (i:=26) (N:=some 81) (v:=undef) (a':=?_) ab28_ rfl rfl (any_of HT_.out (by kernel_rfl)) (fun _ _ _ h=>h) (Or.inr ⟨by rfl,rfl⟩) ?_ ?_
        rotate_left
        ·simp only [Act.put,sa_,sb_,sc_,i64_w,i32_w]
         rfl
        refine pure_ (i:=27) (N:=some 82) (v:=undef) (a':=?_) ab30_ rfl rfl (any_of HT_.out (by kernel_rfl)) (fun _ _ _ h=>h) (Or.inr ⟨by rfl,rfl⟩) ?_ ?_
        rotate_left
        ·simp only [Act.put,sa_,sb_,sc_,i64_w,i32_w]
         rfl
        refine pure_ (i:=28) (N:=some 83) (v:=undef) (a':=?_) ab31_ rfl rfl (any_of HT_.out (by kernel_rfl)) (fun _ _ _ h=>h) (Or.inr ⟨by rfl,rfl⟩) ?_ ?_
        rotate_left
        ·simp only [Act.put,sa_,sb_,sc_,i64_w,i32_w]
         rfl
        refine pure_ (i:=29) (N:=some 84) (v:=undef) (a':=?_) ab32_ rfl rfl (any_of HT_.out (by kernel_rfl)) (fun _ _ _ h=>h) (Or.inr ⟨by rfl,rfl⟩) ?_ ?_
        rotate_left
        ·simp only [Act.put,sa_,sb_,sc_,i64_w,i32_w]
         rfl
        refine pure_ (i:=30) (N:=some 85) (v:=undef) (a':=?_) ab33_ rfl rfl (any_of HT_.out (by kernel_rfl)) (fun _ _ _ h=>h) (Or.inr ⟨by rfl,rfl⟩) ?_ ?_
        rotate_left
        ·simp only [Act.put,sa_,sb_,sc_,i64_w,i32_w]
         rfl
        refine pure_ (i:=31) (N:=some 86) (v:=?_) (a':=?_) ab34_ rfl rfl (any_of HT_.out (by kernel_rfl)) (fun _ _ _ h=>h) (Or.inl ⟨by rfl,?_⟩) ?_ ?_
        rotate_left
        ·intro w'
         go_simp
         with_reducible rfl
        rotate_left
        ·simp only [Act.put,sa_,sb_,sc_,i64_w,i32_w]
         rfl
        refine done_ (done_of HT_.out (by kernel_rfl)) ?_
        try go_wp2
        go_meet
        case rel=>exact⟨_,(true),(by first|rfl|(simp;done)|(simp [*];done)),H',⟨by first|omega|exact Nat.le_refl _⟩,⟨by(with_reducible repeat first|apply bN|apply b1|apply bA);exact q0.out⟩,⟨by(with_reducible repeat first|apply bN|apply b1|apply bA);exact q1.out⟩,⟨by(with_reducible repeat first|apply bN|apply b1|apply bA);exact q2.out⟩,⟨by(with_reducible repeat first|apply bN|apply b1|apply bA);exact q3.out⟩,⟨by(with_reducible repeat first|apply bN|apply b1|apply bA);exact q4.out⟩,⟨by(with_reducible repeat first|apply bN|apply b1|apply bA);exact q5.out⟩,⟨by(with_reducible repeat first|apply bN|apply b1|apply bA);exact q6.out⟩,⟨by(with_reducible repeat first|apply bN|apply b1|apply bA);exact q7.out⟩,⟨by repeat(first|(with_reducible first|exact HB.out|apply pA|apply pN|apply p1|refine pS ?_ GE277.out|refine pS ?_ GE278.out|refine pS ?_ GE285.out|refine pS ?_ GE292.out|refine pS ?_ GE302.out|refine pS ?_ GE303.out|refine pS ?_ GE308.out|refine pS ?_ GE313.out)|exact HB.out)⟩⟩
       ·rw [if_neg c75] at H
        have c75b0:(t314 != t315)=false:=by simpa using c75
        (try (have c75b1:decide (t314=t315)=true:=by simpa using c75))
        (try (have c75b2:(t314 == t315)=true:=by simpa using c75))
        clear c75
        replace H:=Option.bind_eq_some_iff.mp H
        obtain⟨t316,A800,H⟩:=H
        replace H:((spec_IsCaseRule.f t273 t274 t275 t276).bind fun t317=>(laws_FnCases.j0 k t284 t307 (t316 != t317) t270 t271 t272 t273 t274 t275 t276 t279 t280 t281 t282 t283 t293 t294 t295 t296 t297 t298 t299 t300 t301 t304 t305 t306))=some r:=H
        have A80:=ak_ A800
        clear A800
        replace H:=Option.bind_eq_some_iff.mp H
        obtain⟨t317,A810,H⟩:=H
        replace H:(laws_FnCases.j0 k t284 t307 (t316 != t317) t270 t271 t272 t273 t274 t275 t276 t279 t280 t281 t282 t283 t293 t294 t295 t296 t297 t298 t299 t300 t301 t304 t305 t306)=some r:=H
        have A81:=ak_ A810
        clear A810
        have H':=ak_ H
        clear H
        try go_wp2
        have n0_:Aside0 ((((w56.setCell ⟨q18,0,none⟩ (.int .i64 t309)).setCell ⟨q18,1,none⟩ (.int .i64 t310)).setCell ⟨q18,2,none⟩ (.int .i64 t311)).heap[q11]?=some (.cells #[.int .i64 t270,.int .i64 t271,.int .i64 t272] 30 (0,0))):=⟨by(with_reducible repeat first|apply bN|apply b1|apply bA);refine bF ?_ NB277_313.out _;(with_reducible repeat first|apply bN|apply b1|apply bA);refine bF ?_ NB277_313.out _;(with_reducible repeat first|apply bN|apply b1|apply bA);refine bF ?_ NB277_313.out _;(with_reducible repeat first|apply bN|apply b1|apply bA);exact q0.out⟩
        have n1_:Aside0 ((((w56.setCell ⟨q18,0,none⟩ (.int .i64 t309)).setCell ⟨q18,1,none⟩ (.int .i64 t310)).setCell ⟨q18,2,none⟩ (.int .i64 t311)).heap[q12]?=some (.cells #[.int .i64 t273,.int .i64 t274,.int .i64 t275,.int .i64 t276] 32 (0,0))):=⟨by(with_reducible repeat first|apply bN|apply b1|apply bA);refine bF ?_ NB278_313.out _;(with_reducible repeat first|apply bN|apply b1|apply bA);refine bF ?_ NB278_313.out _;(with_reducible repeat first|apply bN|apply b1|apply bA);refine bF ?_ NB278_313.out _;(with_reducible repeat first|apply bN|apply b1|apply bA);exact q1.out⟩
        have n2_:Aside0 ((((w56.setCell ⟨q18,0,none⟩ (.int .i64 t309)).setCell ⟨q18,1,none⟩ (.int .i64 t310)).setCell ⟨q18,2,none⟩ (.int .i64 t311)).heap[q13]?=some (.cells #[.int .i64 t279,.int .i64 t280,.int .i64 t281,.int .i64 t282,.int .i64 t283] 27 (0,0))):=⟨by(with_reducible repeat first|apply bN|apply b1|apply bA);refine bF ?_ NB285_313.out _;(with_reducible repeat first|apply bN|apply b1|apply bA);refine bF ?_ NB285_313.out _;(with_reducible repeat first|apply bN|apply b1|apply bA);refine bF ?_ NB285_313.out _;(with_reducible repeat first|apply bN|apply b1|apply bA);exact q2.out⟩
        have n3_:Aside0 ((((w56.setCell ⟨q18,0,none⟩ (.int .i64 t309)).setCell ⟨q18,1,none⟩ (.int .i64 t310)).setCell ⟨q18,2,none⟩ (.int .i64 t311)).heap[q14]?=some (.cells #[.int .i64 t286,.int .i64 t287,.int .i64 t288,.int .i64 t289,.int .i64 t290] 27 (0,0))):=⟨by(with_reducible repeat first|apply bN|apply b1|apply bA);refine bF ?_ NB292_313.out _;(with_reducible repeat first|apply bN|apply b1|apply bA);refine bF ?_ NB292_313.out _;(with_reducible repeat first|apply bN|apply b1|apply bA);refine bF ?_ NB292_313.out _;(with_reducible repeat first|apply bN|apply b1|apply bA);exact q3.out⟩
        have n4_:Aside0 ((((w56.setCell ⟨q18,0,none⟩ (.int .i64 t309)).setCell ⟨q18,1,none⟩ (.int .i64 t310)).setCell ⟨q18,2,none⟩ (.int .i64 t311)).heap[q15]?=some (.cells #[.int .i64 t293,.int .i64 t294,.int .i64 t295,.int .i64 t296,.int .i64 t297] 27 (0,0))):=⟨by(with_reducible repeat first|apply bN|apply b1|apply bA);refine bF ?_ NB302_313.out _;(with_reducible repeat first|apply bN|apply b1|apply bA);refine bF ?_ NB302_313.out _;(with_reducible repeat first|apply bN|apply b1|apply bA);refine bF ?_ NB302_313.out _;(with_reducible repeat first|apply bN|apply b1|apply bA);exact q4.out⟩
        have n5_:Aside0 ((((w56.setCell ⟨q18,0,none⟩ (.int .i64 t309)).setCell ⟨q18,1,none⟩ (.int .i64 t310)).setCell ⟨q18,2,none⟩ (.int .i64 t311)).heap[q16]?=some (.cells #[.int .i64 t298,.int .i64 t299,.int .i64 t300,.int .i64 t301] 32 (0,0))):=⟨by(with_reducible repeat first|apply bN|apply b1|apply bA);refine bF ?_ NB303_313.out _;(with_reducible repeat first|apply bN|apply b1|apply bA);refine bF ?_ NB303_313.out _;(with_reducible repeat first|apply bN|apply b1|apply bA);refine bF ?_ NB303_313.out _;(with_reducible repeat first|apply bN|apply b1|apply bA);exact q5.out⟩
        have n6_:Aside0 ((((w56.setCell ⟨q18,0,none⟩ (.int .i64 t309)).setCell ⟨q18,1,none⟩ (.int .i64 t310)).setCell ⟨q18,2,none⟩ (.int .i64 t311)).heap[q17]?=some (.cells #[.int .i64 t304,.int .i64 t305,.int .i64 t306] 30 (0,0))):=⟨by(with_reducible repeat first|apply bN|apply b1|apply bA);refine bF ?_ NB308_313.out _;(with_reducible repeat first|apply bN|apply b1|apply bA);refine bF ?_ NB308_313.out _;(with_reducible repeat first|apply bN|apply b1|apply bA);refine bF ?_ NB308_313.out _;(with_reducible repeat first|apply bN|apply b1|apply bA);exact q6.out⟩
        have n7_:Aside0 ((((w56.setCell ⟨q18,0,none⟩ (.int .i64 t309)).setCell ⟨q18,1,none⟩ (.int .i64 t310)).setCell ⟨q18,2,none⟩ (.int .i64 t311)).heap[q18]?=some (.cells #[.int .i64 t309,.int .i64 t310,.int .i64 t311] 30 (0,0))):=⟨by(with_reducible repeat first|apply bN|apply b1|apply bA);refine bP (cs:=#[.int .i64 t309,.int .i64 t310,.int .i64 0]) ?_ 2 _ rfl;(with_reducible repeat first|apply bN|apply b1|apply bA);refine bP (cs:=#[.int .i64 t309,.int .i64 0,.int .i64 0]) ?_ 1 _ rfl;(with_reducible repeat first|apply bN|apply b1|apply bA);refine bP (cs:=#[.int .i64 0,.int .i64 0,.int .i64 0]) ?_ 0 _ rfl;(with_reducible repeat first|apply bN|apply b1|apply bA);exact q7.out⟩
        have n8_:Aside0 (Below w.heap.size w (((w56.setCell ⟨q18,0,none⟩ (.int .i64 t309)).setCell ⟨q18,1,none⟩ (.int .i64 t310)).setCell ⟨q18,2,none⟩ (.int .i64 t311))):=⟨by repeat(first|(with_reducible first|exact HB.out|apply pA|apply pN|apply p1|refine pS ?_ GE277.out|refine pS ?_ GE278.out|refine pS ?_ GE285.out|refine pS ?_ GE292.out|refine pS ?_ GE302.out|refine pS ?_ GE303.out|refine pS ?_ GE308.out|refine pS ?_ GE313.out)|exact HB.out)⟩
        (try clear q0)
        (try clear q1)
        (try clear q2)
        (try clear q3)
        (try clear q4)
        (try clear q5)
        (try clear q6)
        (try clear q7)
        (try clear HB)
        generalize (((w56.setCell ⟨q18,0,none⟩ (.int .i64 t309)).setCell ⟨q18,1,none⟩ (.int .i64 t310)).setCell ⟨q18,2,none⟩ (.int .i64 t311))=w82 at n0_ n1_ n2_ n3_ n4_ n5_ n6_ n7_ n8_ ⊢
        have q0:=n0_
        have q1:=n1_
        have q2:=n2_
        have q3:=n3_
        have q4:=n4_
        have q5:=n5_
        have q6:=n6_
        have q7:=n7_
        have HB:=n8_
        clear n0_ n1_ n2_ n3_ n4_ n5_ n6_ n7_ n8_
        have n0_:=ak_ (b1 q0.out)
        have n1_:=ak_ (b1 q1.out)
        have n2_:=ak_ (b1 q2.out)
        have n3_:=ak_ (b1 q3.out)
        have n4_:=ak_ (b1 q4.out)
        have n5_:=ak_ (b1 q5.out)
        have n6_:=ak_ (b1 q6.out)
        have n7_:=ak_ (b1 q7.out)
        have n8_:=ak_ (p1 HB.out)
        clear q0
        clear q1
        clear q2
        clear q3
        clear q4
        clear q5
        clear q6
        clear q7
        clear HB
        have q0:=n0_
        have q1:=n1_
        have q2:=n2_
        have q3:=n3_
        have q4:=n4_
        have q5:=n5_
        have q6:=n6_
        have q7:=n7_
        have HB:=n8_
        clear n0_ n1_ n2_ n3_ n4_ n5_ n6_ n7_ n8_
        refine start_ (n:=32) (S:=fun w'=>w'.cell? ⟨q13,0,none⟩=some (.int .i64 t279)∧w'.cell? ⟨q13,1,none⟩=some (.int .i64 t280)∧w'.cell? ⟨q13,2,none⟩=some (.int .i64 t281)∧w'.cell? ⟨q13,3,none⟩=some (.int .i64 t282)∧w'.cell? ⟨q13,4,none⟩=some (.int .i64 t283)∧w'.cell? ⟨q14,0,none⟩=some (.int .i64 t286)∧w'.cell? ⟨q14,1,none⟩=some (.int .i64 t287)∧w'.cell? ⟨q14,2,none⟩=some (.int .i64 t288)∧w'.cell? ⟨q14,3,none⟩=some (.int .i64 t289)∧w'.cell? ⟨q14,4,none⟩=some (.int .i64 t290)∧w'.cell? ⟨q17,0,none⟩=some (.int .i64 t304)∧w'.cell? ⟨q17,1,none⟩=some (.int .i64 t305)∧w'.cell? ⟨q17,2,none⟩=some (.int .i64 t306)∧w'.cell? ⟨q18,0,none⟩=some (.int .i64 t309)∧w'.cell? ⟨q18,1,none⟩=some (.int .i64 t310)∧w'.cell? ⟨q18,2,none⟩=some (.int .i64 t311)∧w'.cell? ⟨q11,0,none⟩=some (.int .i64 t270)∧w'.cell? ⟨q11,1,none⟩=some (.int .i64 t271)∧w'.cell? ⟨q11,2,none⟩=some (.int .i64 t272)∧w'.cell? ⟨q12,0,none⟩=some (.int .i64 t273)∧w'.cell? ⟨q12,1,none⟩=some (.int .i64 t274)∧w'.cell? ⟨q12,2,none⟩=some (.int .i64 t275)∧w'.cell? ⟨q12,3,none⟩=some (.int .i64 t276)) (ds:=[]) ab0_ (by kernel_rfl) rfl rfl ⟨(bC q2.out 0).trans rfl,(bC q2.out 1).trans rfl,(bC q2.out 2).trans rfl,(bC q2.out 3).trans rfl,(bC q2.out 4).trans rfl,(bC q3.out 0).trans rfl,(bC q3.out 1).trans rfl,(bC q3.out 2).trans rfl,(bC q3.out 3).trans rfl,(bC q3.out 4).trans rfl,(bC q6.out 0).trans rfl,(bC q6.out 1).trans rfl,(bC q6.out 2).trans rfl,(bC q7.out 0).trans rfl,(bC q7.out 1).trans rfl,(bC q7.out 2).trans rfl,(bC q0.out 0).trans rfl,(bC q0.out 1).trans rfl,(bC q0.out 2).trans rfl,(bC q1.out 0).trans rfl,(bC q1.out 1).trans rfl,(bC q1.out 2).trans rfl,(bC q1.out 3).trans rfl⟩ (fun hHeld=>?_);refine with_tabW laws_FnCases.tab9 laws_FnCases.bits9 (fun HT_ HW_=>?_)
        generalize w82.drew=w83 at q0 q1 q2 q3 q4 q5 q6 q7 HB hHeld ⊢
        refine pure_ (i:=0) (N:=some 55) (v:=?_) (a':=?_) ab1_ rfl rfl (any_of HT_.out (by kernel_rfl)) (fun _ _ _ h=>h) (Or.inl ⟨by rfl,?_⟩) ?_ ?_
        rotate_left
        ·intro w'
         go_simp
         with_reducible rfl
        rotate_left
        ·simp only [Act.put,sa_,sb_,sc_,i64_w,i32_w]
         rfl
        refine pure_ (i:=1) (N:=some 56) (v:=?_) (a':=?_) ab2_ rfl rfl (any_of HT_.out (by kernel_rfl)) (fun _ _ _ h=>h) (Or.inl ⟨by rfl,?_⟩) ?_ ?_
        rotate_left
        ·intro w'
         go_simp
         with_reducible rfl
        rotate_left
        ·simp only [Act.put,sa_,sb_,sc_,i64_w,i32_w]
         rfl
        refine pure_ (i:=2) (N:=some 57) (v:=?_) (a':=?_) ab3_ rfl rfl (any_of HT_.out (by kernel_rfl)) (fun _ _ _ h=>h) (Or.inl ⟨by rfl,?_⟩) ?_ ?_
        rotate_left
        ·intro w'
         go_simp
         with_reducible rfl
        rotate_left
        ·simp only [Act.put,sa_,sb_,sc_,i64_w,i32_w]
         rfl
        refine pure_ (i:=3) (N:=some 58) (v:=?_) (a':=?_) ab4_ rfl rfl (any_of HT_.out (by kernel_rfl)) (fun _ _ _ h=>h) (Or.inl ⟨by rfl,?_⟩) ?_ ?_
        rotate_left
        ·intro w'
         go_simp
         with_reducible rfl
        rotate_left
        ·simp only [Act.put,sa_,sb_,sc_,i64_w,i32_w]
         rfl
        refine take_ (i:=4) (N:=some 59) (v:=?_) (a':=?_) ab5_ rfl rfl (take_ofW HT_.out HW_.out (by kernel_rfl)) (fun _ _ _ h=>h) (Or.inl ⟨by rfl,?_⟩) hHeld ?_ ?_
        rotate_left
        ·rintro w' ⟨s0,s1,s2,s3,s4,s5,s6,s7,s8,s9,s10,s11,s12,s13,s14,s15,s16,s17,s18,s19,s20,s21,s22⟩
         go_simp
         with_reducible rfl
        rotate_left
        ·simp only [Act.put,sa_,sb_,sc_,i64_w,i32_w]
         rfl
        refine take_ (i:=5) (N:=some 60) (v:=?_) (a':=?_) ab6_ rfl rfl (take_ofW HT_.out HW_.out (by kernel_rfl)) (fun _ _ _ h=>h) (Or.inl ⟨by rfl,?_⟩) hHeld ?_ ?_
        rotate_left
        ·rintro w' ⟨s0,s1,s2,s3,s4,s5,s6,s7,s8,s9,s10,s11,s12,s13,s14,s15,s16,s17,s18,s19,s20,s21,s22⟩
         go_simp
         with_reducible rfl
        rotate_left
        ·simp only [Act.put,sa_,sb_,sc_,i64_w,i32_w]
         rfl
        refine pure_ (i:=6) (N:=some 61) (v:=?_) (a':=?_) ab7_ rfl rfl (any_of HT_.out (by kernel_rfl)) (fun _ _ _ h=>h) (Or.inl ⟨by rfl,?_⟩) ?_ ?_
        rotate_left
        ·intro w'
         go_simp
         with_reducible rfl
        rotate_left
        ·simp only [Act.put,sa_,sb_,sc_,i64_w,i32_w]
         rfl
        refine pure_ (i:=7) (N:=some 62) (v:=?_) (a':=?_) ab8_ rfl rfl (any_of HT_.out (by kernel_rfl)) (fun _ _ _ h=>h) (Or.inl ⟨by rfl,?_⟩) ?_ ?_
        rotate_left
        ·intro w'
         go_simp
         with_reducible rfl
        rotate_left
        ·simp only [Act.put,sa_,sb_,sc_,i64_w,i32_w]
         rfl
        refine pure_ (i:=8) (N:=some 63) (v:=?_) (a':=?_) ab9_ rfl rfl (any_of HT_.out (by kernel_rfl)) (fun _ _ _ h=>h) (Or.inl ⟨by rfl,?_⟩) ?_ ?_
        rotate_left
        ·intro w'
         go_simp
         with_reducible rfl
        rotate_left
        ·simp only [Act.put,sa_,sb_,sc_,i64_w,i32_w]
         rfl
        refine pure_ (i:=9) (N:=some 64) (v:=?_) (a':=?_) ab10_ rfl rfl (any_of HT_.out (by kernel_rfl)) (fun _ _ _ h=>h) (Or.inl ⟨by rfl,?_⟩) ?_ ?_
        rotate_left
        ·intro w'
         go_simp
         with_reducible rfl
        rotate_left
        ·simp only [Act.put,sa_,sb_,sc_,i64_w,i32_w]
         rfl
        refine pure_ (i:=10) (N:=some 65) (v:=?_) (a':=?_) ab11_ rfl rfl (any_of HT_.out (by kernel_rfl)) (fun _ _ _ h=>h) (Or.inl ⟨by rfl,?_⟩) ?_ ?_
        rotate_left
        ·intro w'
         go_simp
         with_reducible rfl
        rotate_left
        ·simp only [Act.put,sa_,sb_,sc_,i64_w,i32_w]
         rfl
        refine pure_ (i:=11) (N:=some 66) (v:=?_) (a':=?_) ab12_ rfl rfl (any_of HT_.out (by kernel_rfl)) (fun _ _ _ h=>h) (Or.inl ⟨by rfl,?_⟩) ?_ ?_
        rotate_left
        ·intro w'
         go_simp
         with_reducible rfl
        rotate_left
        ·simp only [Act.put,sa_,sb_,sc_,i64_w,i32_w]
         rfl
        refine pure_ (i:=12) (N:=some 67) (v:=?_) (a':=?_) ab13_ rfl rfl (any_of HT_.out (by kernel_rfl)) (fun _ _ _ h=>h) (Or.inl ⟨by rfl,?_⟩) ?_ ?_
        rotate_left
        ·intro w'
         go_simp
         with_reducible rfl
        rotate_left
        ·simp only [Act.put,sa_,sb_,sc_,i64_w,i32_w]
         rfl
        refine pure_ (i:=13) (N:=some 68) (v:=?_) (a':=?_) ab14_ rfl rfl (any_of HT_.out (by kernel_rfl)) (fun _ _ _ h=>h) (Or.inl ⟨by rfl,?_⟩) ?_ ?_
        rotate_left
        ·intro w'
         go_simp
         with_reducible rfl
        rotate_left
        ·simp only [Act.put,sa_,sb_,sc_,i64_w,i32_w]
         rfl
        refine take_ (i:=14) (N:=some 69) (v:=?_) (a':=?_) ab15_ rfl rfl (take_ofW HT_.out HW_.out (by kernel_rfl)) (fun _ _ _ h=>h) (Or.inl ⟨by rfl,?_⟩) hHeld ?_ ?_
        rotate_left
        ·rintro w' ⟨s0,s1,s2,s3,s4,s5,s6,s7,s8,s9,s10,s11,s12,s13,s14,s15,s16,s17,s18,s19,s20,s21,s22⟩
         go_simp
         with_reducible rfl
        rotate_left
        ·simp only [Act.put,sa_,sb_,sc_,i64_w,i32_w]
         rfl
        refine take_ (i:=15) (N:=some 70) (v:=?_) (a':=?_) ab16_ rfl rfl (take_ofW HT_.out HW_.out (by kernel_rfl)) (fun _ _ _ h=>h) (Or.inl ⟨by rfl,?_⟩) hHeld ?_ ?_
        rotate_left
        ·rintro w' ⟨s0,s1,s2,s3,s4,s5,s6,s7,s8,s9,s10,s11,s12,s13,s14,s15,s16,s17,s18,s19,s20,s21,s22⟩
         go_simp
         with_reducible rfl
        rotate_left
        ·simp only [Act.put,sa_,sb_,sc_,i64_w,i32_w]
         rfl
        refine pure_ (i:=16) (N:=some 71) (v:=?_) (a':=?_) ab17_ rfl rfl (any_of HT_.out (by kernel_rfl)) (fun _ _ _ h=>h) (Or.inl ⟨by rfl,?_⟩) ?_ ?_
        rotate_left
        ·intro w'
         go_simp
         with_reducible rfl
        rotate_left
        ·simp only [Act.put,sa_,sb_,sc_,i64_w,i32_w]
         rfl
        refine pure_ (i:=17) (N:=some 72) (v:=?_) (a':=?_) ab18_ rfl rfl (any_of HT_.out (by kernel_rfl)) (fun _ _ _ h=>h) (Or.inl ⟨by rfl,?_⟩) ?_ ?_
        rotate_left
        ·intro w'
         go_simp
         with_reducible rfl
        rotate_left
        ·simp only [Act.put,sa_,sb_,sc_,i64_w,i32_w]
         rfl
        refine pure_ (i:=18) (N:=some 73) (v:=?_) (a':=?_) ab19_ rfl rfl (any_of HT_.out (by kernel_rfl)) (fun _ _ _ h=>h) (Or.inl ⟨by rfl,?_⟩) ?_ ?_
        rotate_left
        ·intro w'
         go_simp
         with_reducible rfl
        rotate_left
        ·simp only [Act.put,sa_,sb_,sc_,i64_w,i32_w]
         rfl
        refine take_ (i:=19) (N:=some 74) (v:=?_) (a':=?_) ab20_ rfl rfl (take_ofW HT_.out HW_.out (by kernel_rfl)) (fun _ _ _ h=>h) (Or.inl ⟨by rfl,?_⟩) hHeld ?_ ?_
        rotate_left
        ·rintro w' ⟨s0,s1,s2,s3,s4,s5,s6,s7,s8,s9,s10,s11,s12,s13,s14,s15,s16,s17,s18,s19,s20,s21,s22⟩
         go_simp
         with_reducible rfl
        rotate_left
        ·simp only [Act.put,sa_,sb_,sc_,i64_w,i32_w]
         rfl
        refine take_ (i:=21) (N:=some 76) (v:=?_) (a':=?_) ab21_ rfl rfl (take_ofW HT_.out HW_.out (by kernel_rfl)) (fun _ _ _ h=>h) (Or.inl ⟨by rfl,?_⟩) hHeld ?_ ?_
        rotate_left
        ·rintro w' ⟨s0,s1,s2,s3,s4,s5,s6,s7,s8,s9,s10,s11,s12,s13,s14,s15,s16,s17,s18,s19,s20,s21,s22⟩
         go_simp
         with_reducible rfl
        rotate_left
        ·simp only [Act.put,sa_,sb_,sc_,i64_w,i32_w]
         rfl
        refine one_ (i:=20) (N:=some 75) ab23_ rfl rfl (one_of HT_.out (by kernel_rfl)) (by decide) (fun K hK=>?_)
        refine goes_ Try.func30 (by kernel_rfl) rfl #[.agg #[.int .i64 t270,.int .i64 t271,.int .i64 t272]] (by rfl) rfl rfl (by(try simp only [List.map_toArray,List.map_cons,List.map_nil]);first|done|rfl|(simp only [List.length_drop,List.length_take];rfl)) ?_
        with_reducible refine(impl_IsBlock.calls t270 t271 t272 t314 _ A73.out).mono ?_
        rintro e w84 ⟨rfl,hb⟩
        refine⟨_,rfl,?_⟩
        have n0_:=ak_ (bB (g:=q11) (o:=.cells #[.int .i64 t270,.int .i64 t271,.int .i64 t272] 30 (0,0)) (by(with_reducible repeat first|apply bN|apply b1|apply bA);exact q0.out) hb)
        have n1_:=ak_ (bB (g:=q12) (o:=.cells #[.int .i64 t273,.int .i64 t274,.int .i64 t275,.int .i64 t276] 32 (0,0)) (by(with_reducible repeat first|apply bN|apply b1|apply bA);exact q1.out) hb)
        have n2_:=ak_ (bB (g:=q13) (o:=.cells #[.int .i64 t279,.int .i64 t280,.int .i64 t281,.int .i64 t282,.int .i64 t283] 27 (0,0)) (by(with_reducible repeat first|apply bN|apply b1|apply bA);exact q2.out) hb)
        have n3_:=ak_ (bB (g:=q14) (o:=.cells #[.int .i64 t286,.int .i64 t287,.int .i64 t288,.int .i64 t289,.int .i64 t290] 27 (0,0)) (by(with_reducible repeat first|apply bN|apply b1|apply bA);exact q3.out) hb)
        have n4_:=ak_ (bB (g:=q15) (o:=.cells #[.int .i64 t293,.int .i64 t294,.int .i64 t295,.int .i64 t296,.int .i64 t297] 27 (0,0)) (by(with_reducible repeat first|apply bN|apply b1|apply bA);exact q4.out) hb)
        have n5_:=ak_ (bB (g:=q16) (o:=.cells #[.int .i64 t298,.int .i64 t299,.int .i64 t300,.int .i64 t301] 32 (0,0)) (by(with_reducible repeat first|apply bN|apply b1|apply bA);exact q5.out) hb)
        have n6_:=ak_ (bB (g:=q17) (o:=.cells #[.int .i64 t304,.int .i64 t305,.int .i64 t306] 30 (0,0)) (by(with_reducible repeat first|apply bN|apply b1|apply bA);exact q6.out) hb)
        have n7_:=ak_ (bB (g:=q18) (o:=.cells #[.int .i64 t309,.int .i64 t310,.int .i64 t311] 30 (0,0)) (by(with_reducible repeat first|apply bN|apply b1|apply bA);exact q7.out) hb)
        have n8_:=ak_ (pT (by repeat(first|(with_reducible first|exact HB.out|apply pA|apply pN|apply p1|refine pS ?_ GE277.out|refine pS ?_ GE278.out|refine pS ?_ GE285.out|refine pS ?_ GE292.out|refine pS ?_ GE302.out|refine pS ?_ GE303.out|refine pS ?_ GE308.out|refine pS ?_ GE313.out)|exact HB.out)) hb)
        clear q0
        clear q1
        clear q2
        clear q3
        clear q4
        clear q5
        clear q6
        clear q7
        clear HB
        have q0:=n0_
        have q1:=n1_
        have q2:=n2_
        have q3:=n3_
        have q4:=n4_
        have q5:=n5_
        have q6:=n6_
        have q7:=n7_
        have HB:=n8_
        clear n0_ n1_ n2_ n3_ n4_ n5_ n6_ n7_ n8_
        (try clear hb)
        (try clear hb2)
        (try clear hk)
        (try clear hi)
        refine hK.out _ _ ⟨(bC q2.out 0).trans rfl,(bC q2.out 1).trans rfl,(bC q2.out 2).trans rfl,(bC q2.out 3).trans rfl,(bC q2.out 4).trans rfl,(bC q3.out 0).trans rfl,(bC q3.out 1).trans rfl,(bC q3.out 2).trans rfl,(bC q3.out 3).trans rfl,(bC q3.out 4).trans rfl,(bC q6.out 0).trans rfl,(bC q6.out 1).trans rfl,(bC q6.out 2).trans rfl,(bC q7.out 0).trans rfl,(bC q7.out 1).trans rfl,(bC q7.out 2).trans rfl,(bC q0.out 0).trans rfl,(bC q0.out 1).trans rfl,(bC q0.out 2).trans rfl,(bC q1.out 0).trans rfl,(bC q1.out 1).trans rfl,(bC q1.out 2).trans rfl,(bC q1.out 3).trans rfl⟩ (fun hHeld=>?_)
        clear hK K
        refine norm_ (a':=?_) ?_ ?_
        rotate_left
        ·show Act.put _ (some 75) _=_
         simp only [Act.put,sa_,sb_,sc_,i64_w,i32_w]
         rfl
        refine one_ (i:=22) (N:=some 77) ab24_ rfl rfl (one_of HT_.out (by kernel_rfl)) (by decide) (fun K hK=>?_)
        refine goes_ Try.func31 (by kernel_rfl) rfl #[.agg #[.int .i64 t270,.int .i64 t271,.int .i64 t272]] (by rfl) rfl rfl (by(try simp only [List.map_toArray,List.map_cons,List.map_nil]);first|done|rfl|(simp only [List.length_drop,List.length_take];rfl)) ?_
        with_reducible refine(spec_IsBlock.calls t270 t271 t272 t315 _ A74.out).mono ?_
        rintro e w85 ⟨rfl,hb⟩
        refine⟨_,rfl,?_⟩
        have n0_:=ak_ (bB (g:=q11) (o:=.cells #[.int .i64 t270,.int .i64 t271,.int .i64 t272] 30 (0,0)) (by(with_reducible repeat first|apply bN|apply b1|apply bA);exact q0.out) hb)
        have n1_:=ak_ (bB (g:=q12) (o:=.cells #[.int .i64 t273,.int .i64 t274,.int .i64 t275,.int .i64 t276] 32 (0,0)) (by(with_reducible repeat first|apply bN|apply b1|apply bA);exact q1.out) hb)
        have n2_:=ak_ (bB (g:=q13) (o:=.cells #[.int .i64 t279,.int .i64 t280,.int .i64 t281,.int .i64 t282,.int .i64 t283] 27 (0,0)) (by(with_reducible repeat first|apply bN|apply b1|apply bA);exact q2.out) hb)
        have n3_:=ak_ (bB (g:=q14) (o:=.cells #[.int .i64 t286,.int .i64 t287,.int .i64 t288,.int .i64 t289,.int .i64 t290] 27 (0,0)) (by(with_reducible repeat first|apply bN|apply b1|apply bA);exact q3.out) hb)
        have n4_:=ak_ (bB (g:=q15) (o:=.cells #[.int .i64 t293,.int .i64 t294,.int .i64 t295,.int .i64 t296,.int .i64 t297] 27 (0,0)) (by(with_reducible repeat first|apply bN|apply b1|apply bA);exact q4.out) hb)
        have n5_:=ak_ (bB (g:=q16) (o:=.cells #[.int .i64 t298,.int .i64 t299,.int .i64 t300,.int .i64 t301] 32 (0,0)) (by(with_reducible repeat first|apply bN|apply b1|apply bA);exact q5.out) hb)
        have n6_:=ak_ (bB (g:=q17) (o:=.cells #[.int .i64 t304,.int .i64 t305,.int .i64 t306] 30 (0,0)) (by(with_reducible repeat first|apply bN|apply b1|apply bA);exact q6.out) hb)
        have n7_:=ak_ (bB (g:=q18) (o:=.cells #[.int .i64 t309,.int .i64 t310,.int .i64 t311] 30 (0,0)) (by(with_reducible repeat first|apply bN|apply b1|apply bA);exact q7.out) hb)
        have n8_:=ak_ (pT (by repeat(first|(with_reducible first|exact HB.out|apply pA|apply pN|apply p1|refine pS ?_ GE277.out|refine pS ?_ GE278.out|refine pS ?_ GE285.out|refine pS ?_ GE292.out|refine pS ?_ GE302.out|refine pS ?_ GE303.out|refine pS ?_ GE308.out|refine pS ?_ GE313.out)|exact HB.out)) hb)
        clear q0
        clear q1
        clear q2
        clear q3
        clear q4
        clear q5
        clear q6
        clear q7
        clear HB
        have q0:=n0_
        have q1:=n1_
        have q2:=n2_
        have q3:=n3_
        have q4:=n4_
        have q5:=n5_
        have q6:=n6_
        have q7:=n7_
        have HB:=n8_
        clear n0_ n1_ n2_ n3_ n4_ n5_ n6_ n7_ n8_
        (try clear hb)
        (try clear hb2)
        (try clear hk)
        (try clear hi)
        refine hK.out _ _ ⟨(bC q2.out 0).trans rfl,(bC q2.out 1).trans rfl,(bC q2.out 2).trans rfl,(bC q2.out 3).trans rfl,(bC q2.out 4).trans rfl,(bC q3.out 0).trans rfl,(bC q3.out 1).trans rfl,(bC q3.out 2).trans rfl,(bC q3.out 3).trans rfl,(bC q3.out 4).trans rfl,(bC q6.out 0).trans rfl,(bC q6.out 1).trans rfl,(bC q6.out 2).trans rfl,(bC q7.out 0).trans rfl,(bC q7.out 1).trans rfl,(bC q7.out 2).trans rfl,(bC q0.out 0).trans rfl,(bC q0.out 1).trans rfl,(bC q0.out 2).trans rfl,(bC q1.out 0).trans rfl,(bC q1.out 1).trans rfl,(bC q1.out 2).trans rfl,(bC q1.out 3).trans rfl⟩ (fun hHeld=>?_)
        clear hK K
        refine norm_ (a':=?_) ?_ ?_
        rotate_left
        ·show Act.put _ (some 77) _=_
         simp only [Act.put,sa_,sb_,sc_,i64_w,i32_w]
         rfl
        refine pure_ (i:=23) (N:=some 78) (v:=?_) (a':=?_) ab25_ rfl rfl (any_of HT_.out (by kernel_rfl)) (fun _ _ _ h=>h) (Or.inl ⟨by rfl,?_⟩) ?_ ?_
        rotate_left
        ·intro w'
         go_simp
         with_reducible rfl
        rotate_left
        ·simp only [Act.put,sa_,sb_,sc_,i64_w,i32_w]
         rfl
        refine pure_ (i:=24) (N:=some 79) (v:=?_) (a':=?_) ab26_ rfl rfl (any_of HT_.out (by kernel_rfl)) (fun _ _ _ h=>h) (Or.inl ⟨by rfl,?_⟩) ?_ ?_
        rotate_left
        ·intro w'
         go_simp
         with_reducible rfl
        rotate_left
        ·simp only [Act.put,sa_,sb_,sc_,i64_w,i32_w]
         rfl
        refine pure_ (i:=25) (N:=some 80) (v:=?_) (a':=?_) ab27_ rfl rfl (any_of HT_.out (by kernel_rfl)) (fun _ _ _ h=>h) (Or.inl ⟨by rfl,?_⟩) ?_ ?_
        rotate_left
        ·intro w'
         go_simp
         with_reducible rfl
        rotate_left
        ·simp only [Act.put,sa_,sb_,sc_,i64_w,i32_w]
         rfl
        refine take_ (i:=26) (N:=some 81) (v:=?_) (a':=?_) ab28_ rfl rfl (take_ofW HT_.out HW_.out (by kernel_rfl)) (fun _ _ _ h=>h) (Or.inl ⟨by rfl,?_⟩) hHeld ?_ ?_
        rotate_left
        ·rintro w' ⟨s0,s1,s2,s3,s4,s5,s6,s7,s8,s9,s10,s11,s12,s13,s14,s15,s16,s17,s18,s19,s20,s21,s22⟩
         go_simp
         with_reducible rfl
        rotate_left
        ·simp only [Act.put,sa_,sb_,sc_,i64_w,i32_w]
         rfl
        refine take_ (i:=28) (N:=some 83) (v:=?_) (a':=?_) ab29_ rfl rfl (take_ofW HT_.out HW_.out (by kernel_rfl)) (fun _ _ _ h=>h) (Or.inl ⟨by rfl,?_⟩) hHeld ?_ ?_
        rotate_left
        ·rintro w' ⟨s0,s1,s2,s3,s4,s5,s6,s7,s8,s9,s10,s11,s12,s13,s14,s15,s16,s17,s18,s19,s20,s21,s22⟩
         go_simp
         with_reducible rfl
        rotate_left
        ·simp only [Act.put,sa_,sb_,sc_,i64_w,i32_w]
         rfl
        refine one_ (i:=27) (N:=some 82) ab31_ rfl rfl (one_of HT_.out (by kernel_rfl)) (by decide) (fun K hK=>?_)
        refine goes_ Try.func32 (by kernel_rfl) rfl #[.agg #[.int .i64 t273,.int .i64 t274,.int .i64 t275,.int .i64 t276]] (by rfl) rfl rfl (by(try simp only [List.map_toArray,List.map_cons,List.map_nil]);first|done|rfl|(simp only [List.length_drop,List.length_take];rfl)) ?_
        with_reducible refine(impl_IsCaseRule.calls t273 t274 t275 t276 t316 _ A80.out).mono ?_
        rintro e w86 ⟨rfl,hb⟩
        refine⟨_,rfl,?_⟩
        have n0_:=ak_ (bB (g:=q11) (o:=.cells #[.int .i64 t270,.int .i64 t271,.int .i64 t272] 30 (0,0)) (by(with_reducible repeat first|apply bN|apply b1|apply bA);exact q0.out) hb)
        have n1_:=ak_ (bB (g:=q12) (o:=.cells #[.int .i64 t273,.int .i64 t274,.int .i64 t275,.int .i64 t276] 32 (0,0)) (by(with_reducible repeat first|apply bN|apply b1|apply bA);exact q1.out) hb)
        have n2_:=ak_ (bB (g:=q13) (o:=.cells #[.int .i64 t279,.int .i64 t280,.int .i64 t281,.int .i64 t282,.int .i64 t283] 27 (0,0)) (by(with_reducible repeat first|apply bN|apply b1|apply bA);exact q2.out) hb)
        have n3_:=ak_ (bB (g:=q14) (o:=.cells #[.int .i64 t286,.int .i64 t287,.int .i64 t288,.int .i64 t289,.int .i64 t290] 27 (0,0)) (by(with_reducible repeat first|apply bN|apply b1|apply bA);exact q3.out) hb)
        have n4_:=ak_ (bB (g:=q15) (o:=.cells #[.int .i64 t293,.int .i64 t294,.int .i64 t295,.int .i64 t296,.int .i64 t297] 27 (0,0)) (by(with_reducible repeat first|apply bN|apply b1|apply bA);exact q4.out) hb)
        have n5_:=ak_ (bB (g:=q16) (o:=.cells #[.int .i64 t298,.int .i64 t299,.int .i64 t300,.int .i64 t301] 32 (0,0)) (by(with_reducible repeat first|apply bN|apply b1|apply bA);exact q5.out) hb)
        have n6_:=ak_ (bB (g:=q17) (o:=.cells #[.int .i64 t304,.int .i64 t305,.int .i64 t306] 30 (0,0)) (by(with_reducible repeat first|apply bN|apply b1|apply bA);exact q6.out) hb)
        have n7_:=ak_ (bB (g:=q18) (o:=.cells #[.int .i64 t309,.int .i64 t310,.int .i64 t311] 30 (0,0)) (by(with_reducible repeat first|apply bN|apply b1|apply bA);exact q7.out) hb)
        have n8_:=ak_ (pT (by repeat(first|(with_reducible first|exact HB.out|apply pA|apply pN|apply p1|refine pS ?_ GE277.out|refine pS ?_ GE278.out|refine pS ?_ GE285.out|refine pS ?_ GE292.out|refine pS ?_ GE302.out|refine pS ?_ GE303.out|refine pS ?_ GE308.out|refine pS ?_ GE313.out)|exact HB.out)) hb)
        clear q0
        clear q1
        clear q2
        clear q3
        clear q4
        clear q5
        clear q6
        clear q7
        clear HB
        have q0:=n0_
        have q1:=n1_
        have q2:=n2_
        have q3:=n3_
        have q4:=n4_
        have q5:=n5_
        have q6:=n6_
        have q7:=n7_
        have HB:=n8_
        clear n0_ n1_ n2_ n3_ n4_ n5_ n6_ n7_ n8_
        (try clear hb)
        (try clear hb2)
        (try clear hk)
        (try clear hi)
        refine hK.out _ _ ⟨(bC q2.out 0).trans rfl,(bC q2.out 1).trans rfl,(bC q2.out 2).trans rfl,(bC q2.out 3).trans rfl,(bC q2.out 4).trans rfl,(bC q3.out 0).trans rfl,(bC q3.out 1).trans rfl,(bC q3.out 2).trans rfl,(bC q3.out 3).trans rfl,(bC q3.out 4).trans rfl,(bC q6.out 0).trans rfl,(bC q6.out 1).trans rfl,(bC q6.out 2).trans rfl,(bC q7.out 0).trans rfl,(bC q7.out 1).trans rfl,(bC q7.out 2).trans rfl,(bC q0.out 0).trans rfl,(bC q0.out 1).trans rfl,(bC q0.out 2).trans rfl,(bC q1.out 0).trans rfl,(bC q1.out 1).trans rfl,(bC q1.out 2).trans rfl,(bC q1.out 3).trans rfl⟩ (fun hHeld=>?_)
        clear hK K
        refine norm_ (a':=?_) ?_ ?_
        rotate_left
        ·show Act.put _ (some 82) _=_
         simp only [Act.put,sa_,sb_,sc_,i64_w,i32_w]
         rfl
        refine one_ (i:=29) (N:=some 84) ab32_ rfl rfl (one_of HT_.out (by kernel_rfl)) (by decide) (fun K hK=>?_)
        refine goes_ Try.func33 (by kernel_rfl) rfl #[.agg #[.int .i64 t273,.int .i64 t274,.int .i64 t275,.int .i64 t276]] (by rfl) rfl rfl (by(try simp only [List.map_toArray,List.map_cons,List.map_nil]);first|done|rfl|(simp only [List.length_drop,List.length_take];rfl)) ?_
        with_reducible refine(spec_IsCaseRule.calls t273 t274 t275 t276 t317 _ A81.out).mono ?_
        rintro e w87 ⟨rfl,hb⟩
        refine⟨_,rfl,?_⟩
        have n0_:=ak_ (bB (g:=q11) (o:=.cells #[.int .i64 t270,.int .i64 t271,.int .i64 t272] 30 (0,0)) (by(with_reducible repeat first|apply bN|apply b1|apply bA);exact q0.out) hb)
        have n1_:=ak_ (bB (g:=q12) (o:=.cells #[.int .i64 t273,.int .i64 t274,.int .i64 t275,.int .i64 t276] 32 (0,0)) (by(with_reducible repeat first|apply bN|apply b1|apply bA);exact q1.out) hb)
        have n2_:=ak_ (bB (g:=q13) (o:=.cells #[.int .i64 t279,.int .i64 t280,.int .i64 t281,.int .i64 t282,.int .i64 t283] 27 (0,0)) (by(with_reducible repeat first|apply bN|apply b1|apply bA);exact q2.out) hb)
        have n3_:=ak_ (bB (g:=q14) (o:=.cells #[.int .i64 t286,.int .i64 t287,.int .i64 t288,.int .i64 t289,.int .i64 t290] 27 (0,0)) (by(with_reducible repeat first|apply bN|apply b1|apply bA);exact q3.out) hb)
        have n4_:=ak_ (bB (g:=q15) (o:=.cells #[.int .i64 t293,.int .i64 t294,.int .i64 t295,.int .i64 t296,.int .i64 t297] 27 (0,0)) (by(with_reducible repeat first|apply bN|apply b1|apply bA);exact q4.out) hb)
        have n5_:=ak_ (bB (g:=q16) (o:=.cells #[.int .i64 t298,.int .i64 t299,.int .i64 t300,.int .i64 t301] 32 (0,0)) (by(with_reducible repeat first|apply bN|apply b1|apply bA);exact q5.out) hb)
        have n6_:=ak_ (bB (g:=q17) (o:=.cells #[.int .i64 t304,.int .i64 t305,.int .i64 t306] 30 (0,0)) (by(with_reducible repeat first|apply bN|apply b1|apply bA);exact q6.out) hb)
        have n7_:=ak_ (bB (g:=q18) (o:=.cells #[.int .i64 t309,.int .i64 t310,.int .i64 t311] 30 (0,0)) (by(with_reducible repeat first|apply bN|apply b1|apply bA);exact q7.out) hb)
        have n8_:=ak_ (pT (by repeat(first|(with_reducible first|exact HB.out|apply pA|apply pN|apply p1|refine pS ?_ GE277.out|refine pS ?_ GE278.out|refine pS ?_ GE285.out|refine pS ?_ GE292.out|refine pS ?_ GE302.out|refine pS ?_ GE303.out|refine pS ?_ GE308.out|refine pS ?_ GE313.out)|exact HB.out)) hb)
        clear q0
        clear q1
        clear q2
        clear q3
        clear q4
        clear q5
        clear q6
        clear q7
        clear HB
        have q0:=n0_
        have q1:=n1_
        have q2:=n2_
        have q3:=n3_
        have q4:=n4_
        have q5:=n5_
        have q6:=n6_
        have q7:=n7_
        have HB:=n8_
        clear n0_ n1_ n2_ n3_ n4_ n5_ n6_ n7_ n8_
        (try clear hb)
        (try clear hb2)
        (try clear hk)
        (try clear hi)
        refine hK.out _ _ ⟨(bC q2.out 0).trans rfl,(bC q2.out 1).trans rfl,(bC q2.out 2).trans rfl,(bC q2.out 3).trans rfl,(bC q2.out 4).trans rfl,(bC q3.out 0).trans rfl,(bC q3.out 1).trans rfl,(bC q3.out 2).trans rfl,(bC q3.out 3).trans rfl,(bC q3.out 4).trans rfl,(bC q6.out 0).trans rfl,(bC q6.out 1).trans rfl,(bC q6.out 2).trans rfl,(bC q7.out 0).trans rfl,(bC q7.out 1).trans rfl,(bC q7.out 2).trans rfl,(bC q0.out 0).trans rfl,(bC q0.out 1).trans rfl,(bC q0.out 2).trans rfl,(bC q1.out 0).trans rfl,(bC q1.out 1).trans rfl,(bC q1.out 2).trans rfl,(bC q1.out 3).trans rfl⟩ (fun hHeld=>?_)
        clear hK K
        refine norm_ (a':=?_) ?_ ?_
        rotate_left
        ·show Act.put _ (some 84) _=_
         simp only [Act.put,sa_,sb_,sc_,i64_w,i32_w]
         rfl
        refine pure_ (i:=30) (N:=some 85) (v:=?_) (a':=?_) ab33_ rfl rfl (any_of HT_.out (by kernel_rfl)) (fun _ _ _ h=>h) (Or.inl ⟨by rfl,?_⟩) ?_ ?_
        rotate_left
        ·intro w'
         go_simp
         with_reducible rfl
        rotate_left
        ·simp only [Act.put,sa_,sb_,sc_,i64_w,i32_w]
         rfl
        refine pure_ (i:=31) (N:=some 86) (v:=?_) (a':=?_) ab34_ rfl rfl (any_of HT_.out (by kernel_rfl)) (fun _ _ _ h=>h) (Or.inl ⟨by rfl,?_⟩) ?_ ?_
        rotate_left
        ·intro w'
         go_simp
         with_reducible rfl
        rotate_left
        ·simp only [Act.put,sa_,sb_,sc_,i64_w,i32_w]
         rfl
        refine done_ (done_of HT_.out (by kernel_rfl)) ?_
        try go_wp2
        go_meet
        case rel=>exact⟨_,((t316 != t317)),(by first|rfl|(simp;done)|(simp [*];done)),H',⟨by first|omega|exact Nat.le_refl _⟩,⟨by(with_reducible repeat first|apply bN|apply b1|apply bA);exact q0.out⟩,⟨by(with_reducible repeat first|apply bN|apply b1|apply bA);exact q1.out⟩,⟨by(with_reducible repeat first|apply bN|apply b1|apply bA);exact q2.out⟩,⟨by(with_reducible repeat first|apply bN|apply b1|apply bA);exact q3.out⟩,⟨by(with_reducible repeat first|apply bN|apply b1|apply bA);exact q4.out⟩,⟨by(with_reducible repeat first|apply bN|apply b1|apply bA);exact q5.out⟩,⟨by(with_reducible repeat first|apply bN|apply b1|apply bA);exact q6.out⟩,⟨by(with_reducible repeat first|apply bN|apply b1|apply bA);exact q7.out⟩,⟨by repeat(first|(with_reducible first|exact HB.out|apply pA|apply pN|apply p1|refine pS ?_ GE277.out|refine pS ?_ GE278.out|refine pS ?_ GE285.out|refine pS ?_ GE292.out|refine pS ?_ GE302.out|refine pS ?_ GE303.out|refine pS ?_ GE308.out|refine pS ?_ GE313.out)|exact HB.out)⟩⟩
     ·rw [if_neg c69] at H
      have c69b0:(t307 == t312)=false:=beq_eq_false_iff_ne.mpr c69
      have c69b1:(t307 != t312)=true:=bne_iff_ne.mpr c69
      have H':=ak_ H
      clear H
      try go_wp2
      have n0_:Aside0 ((((w56.setCell ⟨q18,0,none⟩ (.int .i64 t309)).setCell ⟨q18,1,none⟩ (.int .i64 t310)).setCell ⟨q18,2,none⟩ (.int .i64 t311)).heap[q11]?=some (.cells #[.int .i64 t270,.int .i64 t271,.int .i64 t272] 30 (0,0))):=⟨by(with_reducible repeat first|apply bN|apply b1|apply bA);refine bF ?_ NB277_313.out _;(with_reducible repeat first|apply bN|apply b1|apply bA);refine bF ?_ NB277_313.out _;(with_reducible repeat first|apply bN|apply b1|apply bA);refine bF ?_ NB277_313.out _;(with_reducible repeat first|apply bN|apply b1|apply bA);exact q0.out⟩
      have n1_:Aside0 ((((w56.setCell ⟨q18,0,none⟩ (.int .i64 t309)).setCell ⟨q18,1,none⟩ (.int .i64 t310)).setCell ⟨q18,2,none⟩ (.int .i64 t311)).heap[q12]?=some (.cells #[.int .i64 t273,.int .i64 t274,.int .i64 t275,.int .i64 t276] 32 (0,0))):=⟨by(with_reducible repeat first|apply bN|apply b1|apply bA);refine bF ?_ NB278_313.out _;(with_reducible repeat first|apply bN|apply b1|apply bA);refine bF ?_ NB278_313.out _;(with_reducible repeat first|apply bN|apply b1|apply bA);refine bF ?_ NB278_313.out _;(with_reducible repeat first|apply bN|apply b1|apply bA);exact q1.out⟩
      have n2_:Aside0 ((((w56.setCell ⟨q18,0,none⟩ (.int .i64 t309)).setCell ⟨q18,1,none⟩ (.int .i64 t310)).setCell ⟨q18,2,none⟩ (.int .i64 t311)).heap[q13]?=some (.cells #[.int .i64 t279,.int .i64 t280,.int .i64 t281,.int .i64 t282,.int .i64 t283] 27 (0,0))):=⟨by(with_reducible repeat first|apply bN|apply b1|apply bA);refine bF ?_ NB285_313.out _;(with_reducible repeat first|apply bN|apply b1|apply bA);refine bF ?_ NB285_313.out _;(with_reducible repeat first|apply bN|apply b1|apply bA);refine bF ?_ NB285_313.out _;(with_reducible repeat first|apply bN|apply b1|apply bA);exact q2.out⟩
      have n3_:Aside0 ((((w56.setCell ⟨q18,0,none⟩ (.int .i64 t309)).setCell ⟨q18,1,none⟩ (.int .i64 t310)).setCell ⟨q18,2,none⟩ (.int .i64 t311)).heap[q14]?=some (.cells #[.int .i64 t286,.int .i64 t287,.int .i64 t288,.int .i64 t289,.int .i64 t290] 27 (0,0))):=⟨by(with_reducible repeat first|apply bN|apply b1|apply bA);refine bF ?_ NB292_313.out _;(with_reducible repeat first|apply bN|apply b1|apply bA);refine bF ?_ NB292_313.out _;(with_reducible repeat first|apply bN|apply b1|apply bA);refine bF ?_ NB292_313.out _;(with_reducible repeat first|apply bN|apply b1|apply bA);exact q3.out⟩
      have n4_:Aside0 ((((w56.setCell ⟨q18,0,none⟩ (.int .i64 t309)).setCell ⟨q18,1,none⟩ (.int .i64 t310)).setCell ⟨q18,2,none⟩ (.int .i64 t311)).heap[q15]?=some (.cells #[.int .i64 t293,.int .i64 t294,.int .i64 t295,.int .i64 t296,.int .i64 t297] 27 (0,0))):=⟨by(with_reducible repeat first|apply bN|apply b1|apply bA);refine bF ?_ NB302_313.out _;(with_reducible repeat first|apply bN|apply b1|apply bA);refine bF ?_ NB302_313.out _;(with_reducible repeat first|apply bN|apply b1|apply bA);refine bF ?_ NB302_313.out _;(with_reducible repeat first|apply bN|apply b1|apply bA);exact q4.out⟩
      have n5_:Aside0 ((((w56.setCell ⟨q18,0,none⟩ (.int .i64 t309)).setCell ⟨q18,1,none⟩ (.int .i64 t310)).setCell ⟨q18,2,none⟩ (.int .i64 t311)).heap[q16]?=some (.cells #[.int .i64 t298,.int .i64 t299,.int .i64 t300,.int .i64 t301] 32 (0,0))):=⟨by(with_reducible repeat first|apply bN|apply b1|apply bA);refine bF ?_ NB303_313.out _;(with_reducible repeat first|apply bN|apply b1|apply bA);refine bF ?_ NB303_313.out _;(with_reducible repeat first|apply bN|apply b1|apply bA);refine bF ?_ NB303_313.out _;(with_reducible repeat first|apply bN|apply b1|apply bA);exact q5.out⟩
      have n6_:Aside0 ((((w56.setCell ⟨q18,0,none⟩ (.int .i64 t309)).setCell ⟨q18,1,none⟩ (.int .i64 t310)).setCell ⟨q18,2,none⟩ (.int .i64 t311)).heap[q17]?=some (.cells #[.int .i64 t304,.int .i64 t305,.int .i64 t306] 30 (0,0))):=⟨by(with_reducible repeat first|apply bN|apply b1|apply bA);refine bF ?_ NB308_313.out _;(with_reducible repeat first|apply bN|apply b1|apply bA);refine bF ?_ NB308_313.out _;(with_reducible repeat first|apply bN|apply b1|apply bA);refine bF ?_ NB308_313.out _;(with_reducible repeat first|apply bN|apply b1|apply bA);exact q6.out⟩
      have n7_:Aside0 ((((w56.setCell ⟨q18,0,none⟩ (.int .i64 t309)).setCell ⟨q18,1,none⟩ (.int .i64 t310)).setCell ⟨q18,2,none⟩ (.int .i64 t311)).heap[q18]?=some (.cells #[.int .i64 t309,.int .i64 t310,.int .i64 t311] 30 (0,0))):=⟨by(with_reducible repeat first|apply bN|apply b1|apply bA);refine bP (cs:=#[.int .i64 t309,.int .i64 t310,.int .i64 0]) ?_ 2 _ rfl;(with_reducible repeat first|apply bN|apply b1|apply bA);refine bP (cs:=#[.int .i64 t309,.int .i64 0,.int .i64 0]) ?_ 1 _ rfl;(with_reducible repeat first|apply bN|apply b1|apply bA);refine bP (cs:=#[.int .i64 0,.int .i64 0,.int .i64 0]) ?_ 0 _ rfl;(with_reducible repeat first|apply bN|apply b1|apply bA);exact q7.out⟩
      have n8_:Aside0 (Below w.heap.size w (((w56.setCell ⟨q18,0,none⟩ (.int .i64 t309)).setCell ⟨q18,1,none⟩ (.int .i64 t310)).setCell ⟨q18,2,none⟩ (.int .i64 t311))):=⟨by repeat(first|(with_reducible first|exact HB.out|apply pA|apply pN|apply p1|refine pS ?_ GE277.out|refine pS ?_ GE278.out|refine pS ?_ GE285.out|refine pS ?_ GE292.out|refine pS ?_ GE302.out|refine pS ?_ GE303.out|refine pS ?_ GE308.out|refine pS ?_ GE313.out)|exact HB.out)⟩
      (try clear q0)
      (try clear q1)
      (try clear q2)
      (try clear q3)
      (try clear q4)
      (try clear q5)
      (try clear q6)
      (try clear q7)
      (try clear HB)
      generalize (((w56.setCell ⟨q18,0,none⟩ (.int .i64 t309)).setCell ⟨q18,1,none⟩ (.int .i64 t310)).setCell ⟨q18,2,none⟩ (.int .i64 t311))=w88 at n0_ n1_ n2_ n3_ n4_ n5_ n6_ n7_ n8_ ⊢
      have q0:=n0_
      have q1:=n1_
      have q2:=n2_
      have q3:=n3_
      have q4:=n4_
      have q5:=n5_
      have q6:=n6_
      have q7:=n7_
      have HB:=n8_
      clear n0_ n1_ n2_ n3_ n4_ n5_ n6_ n7_ n8_
      have n0_:=ak_ (b1 q0.out)
      have n1_:=ak_ (b1 q1.out)
      have n2_:=ak_ (b1 q2.out)
      have n3_:=ak_ (b1 q3.out)
      have n4_:=ak_ (b1 q4.out)
      have n5_:=ak_ (b1 q5.out)
      have n6_:=ak_ (b1 q6.out)
      have n7_:=ak_ (b1 q7.out)
      have n8_:=ak_ (p1 HB.out)
      clear q0
      clear q1
      clear q2
      clear q3
      clear q4
      clear q5
      clear q6
      clear q7
      clear HB
      have q0:=n0_
      have q1:=n1_
      have q2:=n2_
      have q3:=n3_
      have q4:=n4_
      have q5:=n5_
      have q6:=n6_
      have q7:=n7_
      have HB:=n8_
      clear n0_ n1_ n2_ n3_ n4_ n5_ n6_ n7_ n8_
      refine start_ (n:=32) (S:=fun w'=>w'.cell? ⟨q13,0,none⟩=some (.int .i64 t279)∧w'.cell? ⟨q13,1,none⟩=some (.int .i64 t280)∧w'.cell? ⟨q13,2,none⟩=some (.int .i64 t281)∧w'.cell? ⟨q13,3,none⟩=some (.int .i64 t282)∧w'.cell? ⟨q13,4,none⟩=some (.int .i64 t283)∧w'.cell? ⟨q14,0,none⟩=some (.int .i64 t286)∧w'.cell? ⟨q14,1,none⟩=some (.int .i64 t287)∧w'.cell? ⟨q14,2,none⟩=some (.int .i64 t288)∧w'.cell? ⟨q14,3,none⟩=some (.int .i64 t289)∧w'.cell? ⟨q14,4,none⟩=some (.int .i64 t290)) (ds:=[]) ab0_ (by kernel_rfl) rfl rfl ⟨(bC q2.out 0).trans rfl,(bC q2.out 1).trans rfl,(bC q2.out 2).trans rfl,(bC q2.out 3).trans rfl,(bC q2.out 4).trans rfl,(bC q3.out 0).trans rfl,(bC q3.out 1).trans rfl,(bC q3.out 2).trans rfl,(bC q3.out 3).trans rfl,(bC q3.out 4).trans rfl⟩ (fun hHeld=>?_);refine with_tabW laws_FnCases.tab9 laws_FnCases.bits9 (fun HT_ HW_=>?_)
      generalize w88.drew=w89 at q0 q1 q2 q3 q4 q5 q6 q7 HB hHeld ⊢
      refine pure_ (i:=0) (N:=some 55) (v:=?_) (a':=?_) ab1_ rfl rfl (any_of HT_.out (by kernel_rfl)) (fun _ _ _ h=>h) (Or.inl ⟨by rfl,?_⟩) ?_ ?_
      rotate_left
      ·intro w'
       go_simp
       with_reducible rfl
      rotate_left
      ·simp only [Act.put,sa_,sb_,sc_,i64_w,i32_w]
       rfl
      refine pure_ (i:=1) (N:=some 56) (v:=?_) (a':=?_) ab2_ rfl rfl (any_of HT_.out (by kernel_rfl)) (fun _ _ _ h=>h) (Or.inl ⟨by rfl,?_⟩) ?_ ?_
      rotate_left
      ·intro w'
       go_simp
       with_reducible rfl
      rotate_left
      ·simp only [Act.put,sa_,sb_,sc_,i64_w,i32_w]
       rfl
      refine pure_ (i:=2) (N:=some 57) (v:=?_) (a':=?_) ab3_ rfl rfl (any_of HT_.out (by kernel_rfl)) (fun _ _ _ h=>h) (Or.inl ⟨by rfl,?_⟩) ?_ ?_
      rotate_left
      ·intro w'
       go_simp
       with_reducible rfl
      rotate_left
      ·simp only [Act.put,sa_,sb_,sc_,i64_w,i32_w]
       rfl
      refine pure_ (i:=3) (N:=some 58) (v:=?_) (a':=?_) ab4_ rfl rfl (any_of HT_.out (by kernel_rfl)) (fun _ _ _ h=>h) (Or.inl ⟨by rfl,?_⟩) ?_ ?_
      rotate_left
      ·intro w'
       go_simp
       with_reducible rfl
      rotate_left
      ·simp only [Act.put,sa_,sb_,sc_,i64_w,i32_w]
       rfl
      refine take_ (i:=4) (N:=some 59) (v:=?_) (a':=?_) ab5_ rfl rfl (take_ofW HT_.out HW_.out (by kernel_rfl)) (fun _ _ _ h=>h) (Or.inl ⟨by rfl,?_⟩) hHeld ?_ ?_
      rotate_left
      ·rintro w' ⟨s0,s1,s2,s3,s4,s5,s6,s7,s8,s9⟩
       go_simp
       with_reducible rfl
      rotate_left
      ·simp only [Act.put,sa_,sb_,sc_,i64_w,i32_w]
       rfl
      refine take_ (i:=5) (N:=some 60) (v:=?_) (a':=?_) ab6_ rfl rfl (take_ofW HT_.out HW_.out (by kernel_rfl)) (fun _ _ _ h=>h) (Or.inl ⟨by rfl,?_⟩) hHeld ?_ ?_
      rotate_left
      ·rintro w' ⟨s0,s1,s2,s3,s4,s5,s6,s7,s8,s9⟩
       go_simp
       with_reducible rfl
      rotate_left
      ·simp only [Act.put,sa_,sb_,sc_,i64_w,i32_w]
       rfl
      refine pure_ (i:=6) (N:=some 61) (v:=?_) (a':=?_) ab7_ rfl rfl (any_of HT_.out (by kernel_rfl)) (fun _ _ _ h=>h) (Or.inl ⟨by rfl,?_⟩) ?_ ?_
      rotate_left
      ·intro w'
       go_simp
       with_reducible rfl
      rotate_left
      ·simp only [Act.put,sa_,sb_,sc_,i64_w,i32_w]
       rfl
      refine pure_ (i:=7) (N:=some 62) (v:=?_) (a':=?_) ab8_ rfl rfl (any_of HT_.out (by kernel_rfl)) (fun _ _ _ h=>h) (Or.inl ⟨by rfl,?_⟩) ?_ ?_
      rotate_left
      ·intro w'
       go_simp
       with_reducible rfl
      rotate_left
      ·simp only [Act.put,sa_,sb_,sc_,i64_w,i32_w]
       rfl
      refine pure_ (i:=8) (N:=some 63) (v:=?_) (a':=?_) ab9_ rfl rfl (any_of HT_.out (by kernel_rfl)) (fun _ _ _ h=>h) (Or.inl ⟨by rfl,?_⟩) ?_ ?_
      rotate_left
      ·intro w'
       go_simp
       with_reducible rfl
      rotate_left
      ·simp only [Act.put,sa_,sb_,sc_,i64_w,i32_w]
       rfl
      refine pure_ (i:=9) (N:=some 64) (v:=?_) (a':=?_) ab10_ rfl rfl (any_of HT_.out (by kernel_rfl)) (fun _ _ _ h=>h) (Or.inl ⟨by rfl,?_⟩) ?_ ?_
      rotate_left
      ·intro w'
       go_simp
       with_reducible rfl
      rotate_left
      ·simp only [Act.put,sa_,sb_,sc_,i64_w,i32_w]
       rfl
      refine pure_ (i:=10) (N:=some 65) (v:=?_) (a':=?_) ab11_ rfl rfl (any_of HT_.out (by kernel_rfl)) (fun _ _ _ h=>h) (Or.inl ⟨by rfl,?_⟩) ?_ ?_
      rotate_left
      ·intro w'
       go_simp
       with_reducible rfl
      rotate_left
      ·simp only [Act.put,sa_,sb_,sc_,i64_w,i32_w]
       rfl
      refine pure_ (i:=11) (N:=some 66) (v:=?_) (a':=?_) ab12_ rfl rfl (any_of HT_.out (by kernel_rfl)) (fun _ _ _ h=>h) (Or.inl ⟨by rfl,?_⟩) ?_ ?_
      rotate_left
      ·intro w'
       go_simp
       with_reducible rfl
      rotate_left
      ·simp only [Act.put,sa_,sb_,sc_,i64_w,i32_w]
       rfl
      refine pure_ (i:=12) (N:=some 67) (v:=?_) (a':=?_) ab13_ rfl rfl (any_of HT_.out (by kernel_rfl)) (fun _ _ _ h=>h) (Or.inl ⟨by rfl,?_⟩) ?_ ?_
      rotate_left
      ·intro w'
       go_simp
       with_reducible rfl
      rotate_left
      ·simp only [Act.put,sa_,sb_,sc_,i64_w,i32_w]
       rfl
      refine pure_ (i:=13) (N:=some 68) (v:=?_) (a':=?_) ab14_ rfl rfl (any_of HT_.out (by kernel_rfl)) (fun _ _ _ h=>h) (Or.inl ⟨by rfl,?_⟩) ?_ ?_
      rotate_left
      ·intro w'
       go_simp
       with_reducible rfl
      rotate_left
      ·simp only [Act.put,sa_,sb_,sc_,i64_w,i32_w]
       rfl
      refine pure_ (i:=14) (N:=some 69) (v:=undef) (a':=?_) ab15_ rfl rfl (any_of HT_.out (by kernel_rfl)) (fun _ _ _ h=>h) (Or.inr ⟨by rfl,rfl⟩) ?_ ?_
      rotate_left
      ·simp only [Act.put,sa_,sb_,sc_,i64_w,i32_w]
       rfl
      refine pure_ (i:=15) (N:=some 70) (v:=undef) (a':=?_) ab16_ rfl rfl (any_of HT_.out (by kernel_rfl)) (fun _ _ _ h=>h) (Or.inr ⟨by rfl,rfl⟩) ?_ ?_
      rotate_left
      ·simp only [Act.put,sa_,sb_,sc_,i64_w,i32_w]
       rfl
      refine pure_ (i:=16) (N:=some 71) (v:=undef) (a':=?_) ab17_ rfl rfl (any_of HT_.out (by kernel_rfl)) (fun _ _ _ h=>h) (Or.inr ⟨by rfl,rfl⟩) ?_ ?_
      rotate_left
      ·simp only [Act.put,sa_,sb_,sc_,i64_w,i32_w]
       rfl
      refine pure_ (i:=17) (N:=some 72) (v:=?_) (a':=?_) ab18_ rfl rfl (any_of HT_.out (by kernel_rfl)) (fun _ _ _ h=>h) (Or.inl ⟨by rfl,?_⟩) ?_ ?_
      rotate_left
      ·intro w'
       go_simp
       with_reducible rfl
      rotate_left
      ·simp only [Act.put,sa_,sb_,sc_,i64_w,i32_w]
       rfl
      refine pure_ (i:=18) (N:=some 73) (v:=?_) (a':=?_) ab19_ rfl rfl (any_of HT_.out (by kernel_rfl)) (fun _ _ _ h=>h) (Or.inl ⟨by rfl,?_⟩) ?_ ?_
      rotate_left
      ·intro w'
       go_simp
       with_reducible rfl
      rotate_left
      ·simp only [Act.put,sa_,sb_,sc_,i64_w,i32_w]
       rfl
      refine pure_ (i:=19) (N:=some 74) (v:=undef) (a':=?_) ab20_ rfl rfl (any_of HT_.out (by kernel_rfl)) (fun _ _ _ h=>h) (Or.inr ⟨by rfl,rfl⟩) ?_ ?_
      rotate_left
      ·simp only [Act.put,sa_,sb_,sc_,i64_w,i32_w]
       rfl
      refine pure_ (i:=20) (N:=some 75) (v:=undef) (a':=?_) ab22_ rfl rfl (any_of HT_.out (by kernel_rfl)) (fun _ _ _ h=>h) (Or.inr ⟨by rfl,rfl⟩) ?_ ?_
      rotate_left
      ·simp only [Act.put,sa_,sb_,sc_,i64_w,i32_w]
       rfl
      refine pure_ (i:=21) (N:=some 76) (v:=undef) (a':=?_) ab23_ rfl rfl (any_of HT_.out (by kernel_rfl)) (fun _ _ _ h=>h) (Or.inr ⟨by rfl,rfl⟩) ?_ ?_
      rotate_left
      ·simp only [Act.put,sa_,sb_,sc_,i64_w,i32_w]
       rfl
      refine pure_ (i:=22) (N:=some 77) (v:=undef) (a':=?_) ab24_ rfl rfl (any_of HT_.out (by kernel_rfl)) (fun _ _ _ h=>h) (Or.inr ⟨by rfl,rfl⟩) ?_ ?_
      rotate_left
      ·simp only [Act.put,sa_,sb_,sc_,i64_w,i32_w]
       rfl
      refine pure_ (i:=23) (N:=some 78) (v:=undef) (a':=?_) ab25_ rfl rfl (any_of HT_.out (by kernel_rfl)) (fun _ _ _ h=>h) (Or.inr ⟨by rfl,rfl⟩) ?_ ?_
      rotate_left
      ·simp only [Act.put,sa_,sb_,sc_,i64_w,i32_w]
       rfl
      refine pure_ (i:=24) (N:=some 79) (v:=?_) (a':=?_) ab26_ rfl rfl (any_of HT_.out (by kernel_rfl)) (fun _ _ _ h=>h) (Or.inl ⟨by rfl,?_⟩) ?_ ?_
      rotate_left
      ·intro w'
       go_simp
       with_reducible rfl
      rotate_left
      ·simp only [Act.put,sa_,sb_,sc_,i64_w,i32_w]
       rfl
      refine pure_ (i:=25) (N:=some 80) (v:=?_) (a':=?_) ab27_ rfl rfl (any_of HT_.out (by kernel_rfl)) (fun _ _ _ h=>h) (Or.inl ⟨by rfl,?_⟩) ?_ ?_
      rotate_left
      ·intro w'
       go_simp
       with_reducible rfl
      rotate_left
      ·simp only [Act.put,sa_,sb_,sc_,i64_w,i32_w]
       rfl
      refine pure_ (i:=26) (N:=some 81) (v:=undef) (a':=?_) ab28_ rfl rfl (any_of HT_.out (by kernel_rfl)) (fun _ _ _ h=>h) (Or.inr ⟨by rfl,rfl⟩) ?_ ?_
      rotate_left
      ·simp only [Act.put,sa_,sb_,sc_,i64_w,i32_w]
       rfl
      refine pure_ (i:=27) (N:=some 82) (v:=undef) (a':=?_) ab30_ rfl rfl (any_of HT_.out (by kernel_rfl)) (fun _ _ _ h=>h) (Or.inr ⟨by rfl,rfl⟩) ?_ ?_
      rotate_left
      ·simp only [Act.put,sa_,sb_,sc_,i64_w,i32_w]
       rfl
      refine pure_ (i:=28) (N:=some 83) (v:=undef) (a':=?_) ab31_ rfl rfl (any_of HT_.out (by kernel_rfl)) (fun _ _ _ h=>h) (Or.inr ⟨by rfl,rfl⟩) ?_ ?_
      rotate_left
      ·simp only [Act.put,sa_,sb_,sc_,i64_w,i32_w]
       rfl
      refine pure_ (i:=29) (N:=some 84) (v:=undef) (a':=?_) ab32_ rfl rfl (any_of HT_.out (by kernel_rfl)) (fun _ _ _ h=>h) (Or.inr ⟨by rfl,rfl⟩) ?_ ?_
      rotate_left
      ·simp only [Act.put,sa_,sb_,sc_,i64_w,i32_w]
       rfl
      refine pure_ (i:=30) (N:=some 85) (v:=undef) (a':=?_) ab33_ rfl rfl (any_of HT_.out (by kernel_rfl)) (fun _ _ _ h=>h) (Or.inr ⟨by rfl,rfl⟩) ?_ ?_
      rotate_left
      ·simp only [Act.put,sa_,sb_,sc_,i64_w,i32_w]
       rfl
      refine pure_ (i:=31) (N:=some 86) (v:=?_) (a':=?_) ab34_ rfl rfl (any_of HT_.out (by kernel_rfl)) (fun _ _ _ h=>h) (Or.inl ⟨by rfl,?_⟩) ?_ ?_
      rotate_left
      ·intro w'
       go_simp
       with_reducible rfl
      rotate_left
      ·simp only [Act.put,sa_,sb_,sc_,i64_w,i32_w]
       rfl
      refine done_ (done_of HT_.out (by kernel_rfl)) ?_
      try go_wp2
      go_meet
      case rel=>exact⟨_,(true),(by first|rfl|(simp;done)|(simp [*];done)),H',⟨by first|omega|exact Nat.le_refl _⟩,⟨by(with_reducible repeat first|apply bN|apply b1|apply bA);exact q0.out⟩,⟨by(with_reducible repeat first|apply bN|apply b1|apply bA);exact q1.out⟩,⟨by(with_reducible repeat first|apply bN|apply b1|apply bA);exact q2.out⟩,⟨by(with_reducible repeat first|apply bN|apply b1|apply bA);exact q3.out⟩,⟨by(with_reducible repeat first|apply bN|apply b1|apply bA);exact q4.out⟩,⟨by(with_reducible repeat first|apply bN|apply b1|apply bA);exact q5.out⟩,⟨by(with_reducible repeat first|apply bN|apply b1|apply bA);exact q6.out⟩,⟨by(with_reducible repeat first|apply bN|apply b1|apply bA);exact q7.out⟩,⟨by repeat(first|(with_reducible first|exact HB.out|apply pA|apply pN|apply p1|refine pS ?_ GE277.out|refine pS ?_ GE278.out|refine pS ?_ GE285.out|refine pS ?_ GE292.out|refine pS ?_ GE302.out|refine pS ?_ GE303.out|refine pS ?_ GE308.out|refine pS ?_ GE313.out)|exact HB.out)⟩⟩
   ·rw [if_neg c65] at H
    have c65b0:(t284 == t291)=false:=beq_eq_false_iff_ne.mpr c65
    have c65b1:(t284 != t291)=true:=bne_iff_ne.mpr c65
    (first|rw [c65b0]|(simp only [i64_w,i32_w];rw [c65b0])|skip)
    have H':=ak_ H
    clear H
    try go_wp2
    have n0_:Aside0 ((((w56.setCell ⟨q18,0,none⟩ (.int .i64 t309)).setCell ⟨q18,1,none⟩ (.int .i64 t310)).setCell ⟨q18,2,none⟩ (.int .i64 t311)).heap[q11]?=some (.cells #[.int .i64 t270,.int .i64 t271,.int .i64 t272] 30 (0,0))):=⟨by(with_reducible repeat first|apply bN|apply b1|apply bA);refine bF ?_ NB277_313.out _;(with_reducible repeat first|apply bN|apply b1|apply bA);refine bF ?_ NB277_313.out _;(with_reducible repeat first|apply bN|apply b1|apply bA);refine bF ?_ NB277_313.out _;(with_reducible repeat first|apply bN|apply b1|apply bA);exact q0.out⟩
    have n1_:Aside0 ((((w56.setCell ⟨q18,0,none⟩ (.int .i64 t309)).setCell ⟨q18,1,none⟩ (.int .i64 t310)).setCell ⟨q18,2,none⟩ (.int .i64 t311)).heap[q12]?=some (.cells #[.int .i64 t273,.int .i64 t274,.int .i64 t275,.int .i64 t276] 32 (0,0))):=⟨by(with_reducible repeat first|apply bN|apply b1|apply bA);refine bF ?_ NB278_313.out _;(with_reducible repeat first|apply bN|apply b1|apply bA);refine bF ?_ NB278_313.out _;(with_reducible repeat first|apply bN|apply b1|apply bA);refine bF ?_ NB278_313.out _;(with_reducible repeat first|apply bN|apply b1|apply bA);exact q1.out⟩
    have n2_:Aside0 ((((w56.setCell ⟨q18,0,none⟩ (.int .i64 t309)).setCell ⟨q18,1,none⟩ (.int .i64 t310)).setCell ⟨q18,2,none⟩ (.int .i64 t311)).heap[q13]?=some (.cells #[.int .i64 t279,.int .i64 t280,.int .i64 t281,.int .i64 t282,.int .i64 t283] 27 (0,0))):=⟨by(with_reducible repeat first|apply bN|apply b1|apply bA);refine bF ?_ NB285_313.out _;(with_reducible repeat first|apply bN|apply b1|apply bA);refine bF ?_ NB285_313.out _;(with_reducible repeat first|apply bN|apply b1|apply bA);refine bF ?_ NB285_313.out _;(with_reducible repeat first|apply bN|apply b1|apply bA);exact q2.out⟩
    have n3_:Aside0 ((((w56.setCell ⟨q18,0,none⟩ (.int .i64 t309)).setCell ⟨q18,1,none⟩ (.int .i64 t310)).setCell ⟨q18,2,none⟩ (.int .i64 t311)).heap[q14]?=some (.cells #[.int .i64 t286,.int .i64 t287,.int .i64 t288,.int .i64 t289,.int .i64 t290] 27 (0,0))):=⟨by(with_reducible repeat first|apply bN|apply b1|apply bA);refine bF ?_ NB292_313.out _;(with_reducible repeat first|apply bN|apply b1|apply bA);refine bF ?_ NB292_313.out _;(with_reducible repeat first|apply bN|apply b1|apply bA);refine bF ?_ NB292_313.out _;(with_reducible repeat first|apply bN|apply b1|apply bA);exact q3.out⟩
    have n4_:Aside0 ((((w56.setCell ⟨q18,0,none⟩ (.int .i64 t309)).setCell ⟨q18,1,none⟩ (.int .i64 t310)).setCell ⟨q18,2,none⟩ (.int .i64 t311)).heap[q15]?=some (.cells #[.int .i64 t293,.int .i64 t294,.int .i64 t295,.int .i64 t296,.int .i64 t297] 27 (0,0))):=⟨by(with_reducible repeat first|apply bN|apply b1|apply bA);refine bF ?_ NB302_313.out _;(with_reducible repeat first|apply bN|apply b1|apply bA);refine bF ?_ NB302_313.out _;(with_reducible repeat first|apply bN|apply b1|apply bA);refine bF ?_ NB302_313.out _;(with_reducible repeat first|apply bN|apply b1|apply bA);exact q4.out⟩
    have n5_:Aside0 ((((w56.setCell ⟨q18,0,none⟩ (.int .i64 t309)).setCell ⟨q18,1,none⟩ (.int .i64 t310)).setCell ⟨q18,2,none⟩ (.int .i64 t311)).heap[q16]?=some (.cells #[.int .i64 t298,.int .i64 t299,.int .i64 t300,.int .i64 t301] 32 (0,0))):=⟨by(with_reducible repeat first|apply bN|apply b1|apply bA);refine bF ?_ NB303_313.out _;(with_reducible repeat first|apply bN|apply b1|apply bA);refine bF ?_ NB303_313.out _;(with_reducible repeat first|apply bN|apply b1|apply bA);refine bF ?_ NB303_313.out _;(with_reducible repeat first|apply bN|apply b1|apply bA);exact q5.out⟩
    have n6_:Aside0 ((((w56.setCell ⟨q18,0,none⟩ (.int .i64 t309)).setCell ⟨q18,1,none⟩ (.int .i64 t310)).setCell ⟨q18,2,none⟩ (.int .i64 t311)).heap[q17]?=some (.cells #[.int .i64 t304,.int .i64 t305,.int .i64 t306] 30 (0,0))):=⟨by(with_reducible repeat first|apply bN|apply b1|apply bA);refine bF ?_ NB308_313.out _;(with_reducible repeat first|apply bN|apply b1|apply bA);refine bF ?_ NB308_313.out _;(with_reducible repeat first|apply bN|apply b1|apply bA);refine bF ?_ NB308_313.out _;(with_reducible repeat first|apply bN|apply b1|apply bA);exact q6.out⟩
    have n7_:Aside0 ((((w56.setCell ⟨q18,0,none⟩ (.int .i64 t309)).setCell ⟨q18,1,none⟩ (.int .i64 t310)).setCell ⟨q18,2,none⟩ (.int .i64 t311)).heap[q18]?=some (.cells #[.int .i64 t309,.int .i64 t310,.int .i64 t311] 30 (0,0))):=⟨by(with_reducible repeat first|apply bN|apply b1|apply bA);refine bP (cs:=#[.int .i64 t309,.int .i64 t310,.int .i64 0]) ?_ 2 _ rfl;(with_reducible repeat first|apply bN|apply b1|apply bA);refine bP (cs:=#[.int .i64 t309,.int .i64 0,.int .i64 0]) ?_ 1 _ rfl;(with_reducible repeat first|apply bN|apply b1|apply bA);refine bP (cs:=#[.int .i64 0,.int .i64 0,.int .i64 0]) ?_ 0 _ rfl;(with_reducible repeat first|apply bN|apply b1|apply bA);exact q7.out⟩
    have n8_:Aside0 (Below w.heap.size w (((w56.setCell ⟨q18,0,none⟩ (.int .i64 t309)).setCell ⟨q18,1,none⟩ (.int .i64 t310)).setCell ⟨q18,2,none⟩ (.int .i64 t311))):=⟨by repeat(first|(with_reducible first|exact HB.out|apply pA|apply pN|apply p1|refine pS ?_ GE277.out|refine pS ?_ GE278.out|refine pS ?_ GE285.out|refine pS ?_ GE292.out|refine pS ?_ GE302.out|refine pS ?_ GE303.out|refine pS ?_ GE308.out|refine pS ?_ GE313.out)|exact HB.out)⟩
    (try clear q0)
    (try clear q1)
    (try clear q2)
    (try clear q3)
    (try clear q4)
    (try clear q5)
    (try clear q6)
    (try clear q7)
    (try clear HB)
    generalize (((w56.setCell ⟨q18,0,none⟩ (.int .i64 t309)).setCell ⟨q18,1,none⟩ (.int .i64 t310)).setCell ⟨q18,2,none⟩ (.int .i64 t311))=w90 at n0_ n1_ n2_ n3_ n4_ n5_ n6_ n7_ n8_ ⊢
    have q0:=n0_
    have q1:=n1_
    have q2:=n2_
    have q3:=n3_
    have q4:=n4_
    have q5:=n5_
    have q6:=n6_
    have q7:=n7_
    have HB:=n8_
    clear n0_ n1_ n2_ n3_ n4_ n5_ n6_ n7_ n8_
    have n0_:=ak_ (b1 q0.out)
    have n1_:=ak_ (b1 q1.out)
    have n2_:=ak_ (b1 q2.out)
    have n3_:=ak_ (b1 q3.out)
    have n4_:=ak_ (b1 q4.out)
    have n5_:=ak_ (b1 q5.out)
    have n6_:=ak_ (b1 q6.out)
    have n7_:=ak_ (b1 q7.out)
    have n8_:=ak_ (p1 HB.out)
    clear q0
    clear q1
    clear q2
    clear q3
    clear q4
    clear q5
    clear q6
    clear q7
    clear HB
    have q0:=n0_
    have q1:=n1_
    have q2:=n2_
    have q3:=n3_
    have q4:=n4_
    have q5:=n5_
    have q6:=n6_
    have q7:=n7_
    have HB:=n8_
    clear n0_ n1_ n2_ n3_ n4_ n5_ n6_ n7_ n8_
    refine start_ (n:=32) (S:=fun w'=>True) (ds:=[]) ab0_ (by kernel_rfl) rfl rfl trivial (fun hHeld=>?_);refine with_tabW laws_FnCases.tab9 laws_FnCases.bits9 (fun HT_ HW_=>?_)
    generalize w90.drew=w91 at q0 q1 q2 q3 q4 q5 q6 q7 HB hHeld ⊢
    refine pure_ (i:=0) (N:=some 55) (v:=?_) (a':=?_) ab1_ rfl rfl (any_of HT_.out (by kernel_rfl)) (fun _ _ _ h=>h) (Or.inl ⟨by rfl,?_⟩) ?_ ?_
    rotate_left
    ·intro w'
     go_simp
     with_reducible rfl
    rotate_left
    ·simp only [Act.put,sa_,sb_,sc_,i64_w,i32_w]
     rfl
    refine pure_ (i:=1) (N:=some 56) (v:=?_) (a':=?_) ab2_ rfl rfl (any_of HT_.out (by kernel_rfl)) (fun _ _ _ h=>h) (Or.inl ⟨by rfl,?_⟩) ?_ ?_
    rotate_left
    ·intro w'
     go_simp
     with_reducible rfl
    rotate_left
    ·simp only [Act.put,sa_,sb_,sc_,i64_w,i32_w]
     rfl
    refine pure_ (i:=2) (N:=some 57) (v:=?_) (a':=?_) ab3_ rfl rfl (any_of HT_.out (by kernel_rfl)) (fun _ _ _ h=>h) (Or.inl ⟨by rfl,?_⟩) ?_ ?_
    rotate_left
    ·intro w'
     go_simp
     with_reducible rfl
    rotate_left
    ·simp only [Act.put,sa_,sb_,sc_,i64_w,i32_w]
     rfl
    refine pure_ (i:=3) (N:=some 58) (v:=?_) (a':=?_) ab4_ rfl rfl (any_of HT_.out (by kernel_rfl)) (fun _ _ _ h=>h) (Or.inl ⟨by rfl,?_⟩) ?_ ?_
    rotate_left
    ·intro w'
     go_simp
     with_reducible rfl
    rotate_left
    ·simp only [Act.put,sa_,sb_,sc_,i64_w,i32_w]
     rfl
    refine pure_ (i:=4) (N:=some 59) (v:=undef) (a':=?_) ab5_ rfl rfl (any_of HT_.out (by kernel_rfl)) (fun _ _ _ h=>h) (Or.inr ⟨by rfl,rfl⟩) ?_ ?_
    rotate_left
    ·simp only [Act.put,sa_,sb_,sc_,i64_w,i32_w]
     rfl
    refine pure_ (i:=5) (N:=some 60) (v:=undef) (a':=?_) ab6_ rfl rfl (any_of HT_.out (by kernel_rfl)) (fun _ _ _ h=>h) (Or.inr ⟨by rfl,rfl⟩) ?_ ?_
    rotate_left
    ·simp only [Act.put,sa_,sb_,sc_,i64_w,i32_w]
     rfl
    refine pure_ (i:=6) (N:=some 61) (v:=undef) (a':=?_) ab7_ rfl rfl (any_of HT_.out (by kernel_rfl)) (fun _ _ _ h=>h) (Or.inr ⟨by rfl,rfl⟩) ?_ ?_
    rotate_left
    ·simp only [Act.put,sa_,sb_,sc_,i64_w,i32_w]
     rfl
    refine pure_ (i:=7) (N:=some 62) (v:=?_) (a':=?_) ab8_ rfl rfl (any_of HT_.out (by kernel_rfl)) (fun _ _ _ h=>h) (Or.inl ⟨by rfl,?_⟩) ?_ ?_
    rotate_left
    ·intro w'
     go_simp
     with_reducible rfl
    rotate_left
    ·simp only [Act.put,sa_,sb_,sc_,i64_w,i32_w]
     rfl
    refine pure_ (i:=8) (N:=some 63) (v:=?_) (a':=?_) ab9_ rfl rfl (any_of HT_.out (by kernel_rfl)) (fun _ _ _ h=>h) (Or.inl ⟨by rfl,?_⟩) ?_ ?_
    rotate_left
    ·intro w'
     go_simp
     with_reducible rfl
    rotate_left
    ·simp only [Act.put,sa_,sb_,sc_,i64_w,i32_w]
     rfl
    refine pure_ (i:=9) (N:=some 64) (v:=undef) (a':=?_) ab10_ rfl rfl (any_of HT_.out (by kernel_rfl)) (fun _ _ _ h=>h) (Or.inr ⟨by rfl,rfl⟩) ?_ ?_
    rotate_left
    ·simp only [Act.put,sa_,sb_,sc_,i64_w,i32_w]
     rfl
    refine pure_ (i:=10) (N:=some 65) (v:=undef) (a':=?_) ab11_ rfl rfl (any_of HT_.out (by kernel_rfl)) (fun _ _ _ h=>h) (Or.inr ⟨by rfl,rfl⟩) ?_ ?_
    rotate_left
    ·simp only [Act.put,sa_,sb_,sc_,i64_w,i32_w]
     rfl
    refine pure_ (i:=11) (N:=some 66) (v:=undef) (a':=?_) ab12_ rfl rfl (any_of HT_.out (by kernel_rfl)) (fun _ _ _ h=>h) (Or.inr ⟨by rfl,rfl⟩) ?_ ?_
    rotate_left
    ·simp only [Act.put,sa_,sb_,sc_,i64_w,i32_w]
     rfl
    refine pure_ (i:=12) (N:=some 67) (v:=?_) (a':=?_) ab13_ rfl rfl (any_of HT_.out (by kernel_rfl)) (fun _ _ _ h=>h) (Or.inl ⟨by rfl,?_⟩) ?_ ?_
    rotate_left
    ·intro w'
     go_simp
     with_reducible rfl
    rotate_left
    ·simp only [Act.put,sa_,sb_,sc_,i64_w,i32_w]
     rfl
    refine pure_ (i:=13) (N:=some 68) (v:=?_) (a':=?_) ab14_ rfl rfl (any_of HT_.out (by kernel_rfl)) (fun _ _ _ h=>h) (Or.inl ⟨by rfl,?_⟩) ?_ ?_
    rotate_left
    ·intro w'
     go_simp
     with_reducible rfl
    rotate_left
    ·simp only [Act.put,sa_,sb_,sc_,i64_w,i32_w]
     rfl
    refine pure_ (i:=14) (N:=some 69) (v:=undef) (a':=?_) ab15_ rfl rfl (any_of HT_.out (by kernel_rfl)) (fun _ _ _ h=>h) (Or.inr ⟨by rfl,rfl⟩) ?_ ?_
    rotate_left
    ·simp only [Act.put,sa_,sb_,sc_,i64_w,i32_w]
     rfl
    refine pure_ (i:=15) (N:=some 70) (v:=undef) (a':=?_) ab16_ rfl rfl (any_of HT_.out (by kernel_rfl)) (fun _ _ _ h=>h) (Or.inr ⟨by rfl,rfl⟩) ?_ ?_
    rotate_left
    ·simp only [Act.put,sa_,sb_,sc_,i64_w,i32_w]
     rfl
    refine pure_ (i:=16) (N:=some 71) (v:=undef) (a':=?_) ab17_ rfl rfl (any_of HT_.out (by kernel_rfl)) (fun _ _ _ h=>h) (Or.inr ⟨by rfl,rfl⟩) ?_ ?_
    rotate_left
    ·simp only [Act.put,sa_,sb_,sc_,i64_w,i32_w]
     rfl
    refine pure_ (i:=17) (N:=some 72) (v:=?_) (a':=?_) ab18_ rfl rfl (any_of HT_.out (by kernel_rfl)) (fun _ _ _ h=>h) (Or.inl ⟨by rfl,?_⟩) ?_ ?_
    rotate_left
    ·intro w'
     go_simp
     with_reducible rfl
    rotate_left
    ·simp only [Act.put,sa_,sb_,sc_,i64_w,i32_w]
     rfl
    refine pure_ (i:=18) (N:=some 73) (v:=?_) (a':=?_) ab19_ rfl rfl (any_of HT_.out (by kernel_rfl)) (fun _ _ _ h=>h) (Or.inl ⟨by rfl,?_⟩) ?_ ?_
    rotate_left
    ·intro w'
     go_simp
     with_reducible rfl
    rotate_left
    ·simp only [Act.put,sa_,sb_,sc_,i64_w,i32_w]
     rfl
    refine pure_ (i:=19) (N:=some 74) (v:=undef) (a':=?_) ab20_ rfl rfl (any_of HT_.out (by kernel_rfl)) (fun _ _ _ h=>h) (Or.inr ⟨by rfl,rfl⟩) ?_ ?_
    rotate_left
    ·simp only [Act.put,sa_,sb_,sc_,i64_w,i32_w]
     rfl
    refine pure_ (i:=20) (N:=some 75) (v:=undef) (a':=?_) ab22_ rfl rfl (any_of HT_.out (by kernel_rfl)) (fun _ _ _ h=>h) (Or.inr ⟨by rfl,rfl⟩) ?_ ?_
    rotate_left
    ·simp only [Act.put,sa_,sb_,sc_,i64_w,i32_w]
     rfl
    refine pure_ (i:=21) (N:=some 76) (v:=undef) (a':=?_) ab23_ rfl rfl (any_of HT_.out (by kernel_rfl)) (fun _ _ _ h=>h) (Or.inr ⟨by rfl,rfl⟩) ?_ ?_
    rotate_left
    ·simp only [Act.put,sa_,sb_,sc_,i64_w,i32_w]
     rfl
    refine pure_ (i:=22) (N:=some 77) (v:=undef) (a':=?_) ab24_ rfl rfl (any_of HT_.out (by kernel_rfl)) (fun _ _ _ h=>h) (Or.inr ⟨by rfl,rfl⟩) ?_ ?_
    rotate_left
    ·simp only [Act.put,sa_,sb_,sc_,i64_w,i32_w]
     rfl
    refine pure_ (i:=23) (N:=some 78) (v:=undef) (a':=?_) ab25_ rfl rfl (any_of HT_.out (by kernel_rfl)) (fun _ _ _ h=>h) (Or.inr ⟨by rfl,rfl⟩) ?_ ?_
    rotate_left
    ·simp only [Act.put,sa_,sb_,sc_,i64_w,i32_w]
     rfl
    refine pure_ (i:=24) (N:=some 79) (v:=?_) (a':=?_) ab26_ rfl rfl (any_of HT_.out (by kernel_rfl)) (fun _ _ _ h=>h) (Or.inl ⟨by rfl,?_⟩) ?_ ?_
    rotate_left
    ·intro w'
     go_simp
     with_reducible rfl
    rotate_left
    ·simp only [Act.put,sa_,sb_,sc_,i64_w,i32_w]
     rfl
    refine pure_ (i:=25) (N:=some 80) (v:=?_) (a':=?_) ab27_ rfl rfl (any_of HT_.out (by kernel_rfl)) (fun _ _ _ h=>h) (Or.inl ⟨by rfl,?_⟩) ?_ ?_
    rotate_left
    ·intro w'
     go_simp
     with_reducible rfl
    rotate_left
    ·simp only [Act.put,sa_,sb_,sc_,i64_w,i32_w]
     rfl
    refine pure_ (i:=26) (N:=some 81) (v:=undef) (a':=?_) ab28_ rfl rfl (any_of HT_.out (by kernel_rfl)) (fun _ _ _ h=>h) (Or.inr ⟨by rfl,rfl⟩) ?_ ?_
    rotate_left
    ·simp only [Act.put,sa_,sb_,sc_,i64_w,i32_w]
     rfl
    refine pure_ (i:=27) (N:=some 82) (v:=undef) (a':=?_) ab30_ rfl rfl (any_of HT_.out (by kernel_rfl)) (fun _ _ _ h=>h) (Or.inr ⟨by rfl,rfl⟩) ?_ ?_
    rotate_left
    ·simp only [Act.put,sa_,sb_,sc_,i64_w,i32_w]
     rfl
    refine pure_ (i:=28) (N:=some 83) (v:=undef) (a':=?_) ab31_ rfl rfl (any_of HT_.out (by kernel_rfl)) (fun _ _ _ h=>h) (Or.inr ⟨by rfl,rfl⟩) ?_ ?_
    rotate_left
    ·simp only [Act.put,sa_,sb_,sc_,i64_w,i32_w]
     rfl
    refine pure_ (i:=29) (N:=some 84) (v:=undef) (a':=?_) ab32_ rfl rfl (any_of HT_.out (by kernel_rfl)) (fun _ _ _ h=>h) (Or.inr ⟨by rfl,rfl⟩) ?_ ?_
    rotate_left
    ·simp only [Act.put,sa_,sb_,sc_,i64_w,i32_w]
     rfl
    refine pure_ (i:=30) (N:=some 85) (v:=undef) (a':=?_) ab33_ rfl rfl (any_of HT_.out (by kernel_rfl)) (fun _ _ _ h=>h) (Or.inr ⟨by rfl,rfl⟩) ?_ ?_
    rotate_left
    ·simp only [Act.put,sa_,sb_,sc_,i64_w,i32_w]
     rfl
    refine pure_ (i:=31) (N:=some 86) (v:=?_) (a':=?_) ab34_ rfl rfl (any_of HT_.out (by kernel_rfl)) (fun _ _ _ h=>h) (Or.inl ⟨by rfl,?_⟩) ?_ ?_
    rotate_left
    ·intro w'
     go_simp
     with_reducible rfl
    rotate_left
    ·simp only [Act.put,sa_,sb_,sc_,i64_w,i32_w]
     rfl
    refine done_ (done_of HT_.out (by kernel_rfl)) ?_
    try go_wp2
    go_meet
    case rel=>exact⟨_,(true),(by first|rfl|(simp;done)|(simp [*];done)),H',⟨by first|omega|exact Nat.le_refl _⟩,⟨by(with_reducible repeat first|apply bN|apply b1|apply bA);exact q0.out⟩,⟨by(with_reducible repeat first|apply bN|apply b1|apply bA);exact q1.out⟩,⟨by(with_reducible repeat first|apply bN|apply b1|apply bA);exact q2.out⟩,⟨by(with_reducible repeat first|apply bN|apply b1|apply bA);exact q3.out⟩,⟨by(with_reducible repeat first|apply bN|apply b1|apply bA);exact q4.out⟩,⟨by(with_reducible repeat first|apply bN|apply b1|apply bA);exact q5.out⟩,⟨by(with_reducible repeat first|apply bN|apply b1|apply bA);exact q6.out⟩,⟨by(with_reducible repeat first|apply bN|apply b1|apply bA);exact q7.out⟩,⟨by repeat(first|(with_reducible first|exact HB.out|apply pA|apply pN|apply p1|refine pS ?_ GE277.out|refine pS ?_ GE278.out|refine pS ?_ GE285.out|refine pS ?_ GE292.out|refine pS ?_ GE302.out|refine pS ?_ GE303.out|refine pS ?_ GE308.out|refine pS ?_ GE313.out)|exact HB.out)⟩⟩
  case rest =>
   clear HC10
   try clear p2
   try clear c3
   try clear c6
   try clear c33
   try clear c65
   try clear c65b0
   try clear c65b1
   try clear c69
   try clear c69b0
   try clear c69b1
   obtain⟨kq,x86_9,rfl,HA,HJ9,q0,q1,q2,q3,q4,q5,q6,q7,HB⟩:=hcut
   cases kq with
  |zero=>exact absurd HA.out (by simp [laws_FnCases.j0])
  |succ kj9 =>
    have H:=HA.out
    clear HA
    simp only [laws_FnCases.j0] at H
    by_cases c92:x86_9=true
    ·subst c92
     have H1:(some false)=some r:=by rw [if_pos rfl] at H;exact H
     clear H
     have H:=H1
     clear H1
     exact absurd ((Option.some.inj H).trans hr_.out) (by decide)
    ·replace c92:=Bool.eq_false_iff.mpr c92
     subst c92
     have H1:(if t307=0 then ((impl_CaseOf.f t304 t305 t306 t298 t299 t300 t301).bind fun bt318=>(if bt318.2.2.2.2.2=0 then (laws_FnCases.j1 kj9 t284 (!(bt318.1 == t293) || (!(bt318.2.1 == t294) || (!(bt318.2.2.1 == t295) || (!(bt318.2.2.2.1 == t296) || (!(bt318.2.2.2.2.1 == t297)))))) t270 t271 t272 t273 t274 t275 t276 t279 t280 t281 t282 t283) else (laws_FnCases.j1 kj9 t284 true t270 t271 t272 t273 t274 t275 t276 t279 t280 t281 t282 t283))) else (if t284=0 then ((impl_BlockFor.f t279 t280 t281 t282 t283 t273 t274 t275 t276).bind fun bt330=>(if bt330.2.2.2=0 then (some (bt330.1 == t270 && (bt330.2.1 == t271 && (bt330.2.2.1 == t272)))) else (some false))) else (some true)))=some r:=by rw [if_neg (show ¬ (false=true) by decide)] at H;exact H
     clear H
     have H:=H1
     clear H1
     by_cases c93:t307=0
     ·rw [if_pos c93] at H
      have c93b0:(t307 == 0)=true:=beq_iff_eq.mpr c93
      have c93b1:(t307 != 0)=false:=bne_eq_false_iff_eq.mpr c93
      clear c93
      replace H:=Option.bind_eq_some_iff.mp H
      obtain⟨⟨t318,t319,t320,t321,t322,t323⟩,A940,H⟩:=H
      replace H:(if t323=0 then (laws_FnCases.j1 kj9 t284 (!(t318 == t293) || (!(t319 == t294) || (!(t320 == t295) || (!(t321 == t296) || (!(t322 == t297)))))) t270 t271 t272 t273 t274 t275 t276 t279 t280 t281 t282 t283) else (laws_FnCases.j1 kj9 t284 true t270 t271 t272 t273 t274 t275 t276 t279 t280 t281 t282 t283))=some r:=H
      have A94:=ak_ A940
      clear A940
      have HC95:=ak_ H
      clear H
      have hnb96:=NB308_277.out
      have hnc96:=NB277_308.out
      have hnb97:=NB308_278.out
      have hnc97:=NB278_308.out
      have hnb98:=NB308_285.out
      have hnc98:=NB285_308.out
      have hnb99:=NB308_292.out
      have hnc99:=NB292_308.out
      have hnb100:=NB308_302.out
      have hnc100:=NB302_308.out
      have hnb101:=NB308_303.out
      have hnc101:=NB303_308.out
      have hnb102:=NB308_313.out
      have hnc102:=NB313_308.out
      have hcz103_0:wc.cell? ⟨q17,0,none⟩=some (.int .i64 t304):=(bC q6.out 0).trans rfl
      have hcz103_1:wc.cell? ⟨q17,1,none⟩=some (.int .i64 t305):=(bC q6.out 1).trans rfl
      have hcz103_2:wc.cell? ⟨q17,2,none⟩=some (.int .i64 t306):=(bC q6.out 2).trans rfl
      have hfz103_0:=blk_frozen q6.out 0
      have hfz103_1:=blk_frozen q6.out 1
      have hfz103_2:=blk_frozen q6.out 2
      have hnb104:=NB303_277.out
      have hnc104:=NB277_303.out
      have hnb105:=NB303_278.out
      have hnc105:=NB278_303.out
      have hnb106:=NB303_285.out
      have hnc106:=NB285_303.out
      have hnb107:=NB303_292.out
      have hnc107:=NB292_303.out
      have hnb108:=NB303_302.out
      have hnc108:=NB302_303.out
      have hnb109:=NB303_313.out
      have hnc109:=NB313_303.out
      have hcz110_0:wc.cell? ⟨q16,0,none⟩=some (.int .i64 t298):=(bC q5.out 0).trans rfl
      have hcz110_1:wc.cell? ⟨q16,1,none⟩=some (.int .i64 t299):=(bC q5.out 1).trans rfl
      have hcz110_2:wc.cell? ⟨q16,2,none⟩=some (.int .i64 t300):=(bC q5.out 2).trans rfl
      have hcz110_3:wc.cell? ⟨q16,3,none⟩=some (.int .i64 t301):=(bC q5.out 3).trans rfl
      have hfz110_0:=blk_frozen q5.out 0
      have hfz110_1:=blk_frozen q5.out 1
      have hfz110_2:=blk_frozen q5.out 2
      have hfz110_3:=blk_frozen q5.out 3
      go_upto_region 13 with (first|((with_reducible refine gate_callee (f:=13) rfl ?_);refine goesL_ (some 92) rfl rfl Try.func13 (by kernel_rfl) rfl #[.agg #[.int .i64 t304,.int .i64 t305,.int .i64 t306],.agg #[.int .i64 t298,.int .i64 t299,.int .i64 t300,.int .i64 t301]] rfl (by(try simp only [List.map_toArray,List.map_cons,List.map_nil]);first|done|rfl|(simp only [List.length_drop,List.length_take];rfl)) ?_;(with_reducible refine(impl_CaseOf.calls t304 t305 t306 t298 t299 t300 t301 t318 t319 t320 t321 t322 t323 _ A94.out).mono ?_);rintro e w111 ⟨rfl,hb⟩;refine⟨_,rfl,?_⟩;have n0_:=ak_ (bB (g:=q11) (o:=.cells #[.int .i64 t270,.int .i64 t271,.int .i64 t272] 30 (0,0)) (by(with_reducible repeat first|apply bN|apply b1|apply bA);exact q0.out) hb);have n1_:=ak_ (bB (g:=q12) (o:=.cells #[.int .i64 t273,.int .i64 t274,.int .i64 t275,.int .i64 t276] 32 (0,0)) (by(with_reducible repeat first|apply bN|apply b1|apply bA);exact q1.out) hb);have n2_:=ak_ (bB (g:=q13) (o:=.cells #[.int .i64 t279,.int .i64 t280,.int .i64 t281,.int .i64 t282,.int .i64 t283] 27 (0,0)) (by(with_reducible repeat first|apply bN|apply b1|apply bA);exact q2.out) hb);have n3_:=ak_ (bB (g:=q14) (o:=.cells #[.int .i64 t286,.int .i64 t287,.int .i64 t288,.int .i64 t289,.int .i64 t290] 27 (0,0)) (by(with_reducible repeat first|apply bN|apply b1|apply bA);exact q3.out) hb);have n4_:=ak_ (bB (g:=q15) (o:=.cells #[.int .i64 t293,.int .i64 t294,.int .i64 t295,.int .i64 t296,.int .i64 t297] 27 (0,0)) (by(with_reducible repeat first|apply bN|apply b1|apply bA);exact q4.out) hb);have n5_:=ak_ (bB (g:=q16) (o:=.cells #[.int .i64 t298,.int .i64 t299,.int .i64 t300,.int .i64 t301] 32 (0,0)) (by(with_reducible repeat first|apply bN|apply b1|apply bA);exact q5.out) hb);have n6_:=ak_ (bB (g:=q17) (o:=.cells #[.int .i64 t304,.int .i64 t305,.int .i64 t306] 30 (0,0)) (by(with_reducible repeat first|apply bN|apply b1|apply bA);exact q6.out) hb);have n7_:=ak_ (bB (g:=q18) (o:=.cells #[.int .i64 t309,.int .i64 t310,.int .i64 t311] 30 (0,0)) (by(with_reducible repeat first|apply bN|apply b1|apply bA);exact q7.out) hb);have n8_:=ak_ (pT (by repeat(first|(with_reducible first|exact HB.out|apply pA|apply pN|apply p1|refine pS ?_ GE277.out|refine pS ?_ GE278.out|refine pS ?_ GE285.out|refine pS ?_ GE292.out|refine pS ?_ GE302.out|refine pS ?_ GE303.out|refine pS ?_ GE308.out|refine pS ?_ GE313.out)|exact HB.out)) hb);clear q0;clear q1;clear q2;clear q3;clear q4;clear q5;clear q6;clear q7;clear HB;have q0:=n0_;have q1:=n1_;have q2:=n2_;have q3:=n3_;have q4:=n4_;have q5:=n5_;have q6:=n6_;have q7:=n7_;have HB:=n8_;clear n0_ n1_ n2_ n3_ n4_ n5_ n6_ n7_ n8_;(try clear hb))|((with_reducible refine gate_dst (N:=15) rfl ?_);refine box_event ?hg (N:=15) ?hd (cs:=#[.int .i64 0,.int .i64 0,.int .i64 0,.int .i64 0,.int .i64 0]) (t:=27) ?hr ?_;(case hd=>rfl);(case hg=>rfl);(case hr=>first|(go_simp;done)|(go_simp;rfl));intro q19 hg w112 hbox hb;have n0_:=ak_ (bB (g:=q11) (o:=.cells #[.int .i64 t270,.int .i64 t271,.int .i64 t272] 30 (0,0)) (by(with_reducible repeat first|apply bN|apply b1|apply bA);exact q0.out) hb);have n1_:=ak_ (bB (g:=q12) (o:=.cells #[.int .i64 t273,.int .i64 t274,.int .i64 t275,.int .i64 t276] 32 (0,0)) (by(with_reducible repeat first|apply bN|apply b1|apply bA);exact q1.out) hb);have n2_:=ak_ (bB (g:=q13) (o:=.cells #[.int .i64 t279,.int .i64 t280,.int .i64 t281,.int .i64 t282,.int .i64 t283] 27 (0,0)) (by(with_reducible repeat first|apply bN|apply b1|apply bA);exact q2.out) hb);have n3_:=ak_ (bB (g:=q14) (o:=.cells #[.int .i64 t286,.int .i64 t287,.int .i64 t288,.int .i64 t289,.int .i64 t290] 27 (0,0)) (by(with_reducible repeat first|apply bN|apply b1|apply bA);exact q3.out) hb);have n4_:=ak_ (bB (g:=q15) (o:=.cells #[.int .i64 t293,.int .i64 t294,.int .i64 t295,.int .i64 t296,.int .i64 t297] 27 (0,0)) (by(with_reducible repeat first|apply bN|apply b1|apply bA);exact q4.out) hb);have n5_:=ak_ (bB (g:=q16) (o:=.cells #[.int .i64 t298,.int .i64 t299,.int .i64 t300,.int .i64 t301] 32 (0,0)) (by(with_reducible repeat first|apply bN|apply b1|apply bA);exact q5.out) hb);have n6_:=ak_ (bB (g:=q17) (o:=.cells #[.int .i64 t304,.int .i64 t305,.int .i64 t306] 30 (0,0)) (by(with_reducible repeat first|apply bN|apply b1|apply bA);exact q6.out) hb);have n7_:=ak_ (bB (g:=q18) (o:=.cells #[.int .i64 t309,.int .i64 t310,.int .i64 t311] 30 (0,0)) (by(with_reducible repeat first|apply bN|apply b1|apply bA);exact q7.out) hb);have n8_:=ak_ (pT (by repeat(first|(with_reducible first|exact HB.out|apply pA|apply pN|apply p1|refine pS ?_ GE277.out|refine pS ?_ GE278.out|refine pS ?_ GE285.out|refine pS ?_ GE292.out|refine pS ?_ GE302.out|refine pS ?_ GE303.out|refine pS ?_ GE308.out|refine pS ?_ GE313.out)|exact HB.out)) hb);have n9_:=ak_ (hbox);have n10_:=ak_ ((by rw [hg];exact(below_size (by repeat(first|(with_reducible first|exact HB.out|apply pA|apply pN|apply p1|refine pS ?_ GE277.out|refine pS ?_ GE278.out|refine pS ?_ GE285.out|refine pS ?_ GE292.out|refine pS ?_ GE302.out|refine pS ?_ GE303.out|refine pS ?_ GE308.out|refine pS ?_ GE313.out)|exact HB.out))):w.heap.size≤q19));have n11_:=n10_;have n12_:=ak_ ((by rw [hg];exact Nat.ne_of_lt (blk_lt (g:=q11) (o:=.cells #[.int .i64 t270,.int .i64 t271,.int .i64 t272] 30 (0,0)) (by(with_reducible repeat first|apply bN|apply b1|apply bA);exact q0.out)):q11≠q19));have n13_:=ak_ n12_.out.symm;have n14_:=ak_ ((by rw [hg];exact Nat.ne_of_lt (blk_lt (g:=q12) (o:=.cells #[.int .i64 t273,.int .i64 t274,.int .i64 t275,.int .i64 t276] 32 (0,0)) (by(with_reducible repeat first|apply bN|apply b1|apply bA);exact q1.out)):q12≠q19));have n15_:=ak_ n14_.out.symm;have n16_:=ak_ ((by rw [hg];exact Nat.ne_of_lt (blk_lt (g:=q13) (o:=.cells #[.int .i64 t279,.int .i64 t280,.int .i64 t281,.int .i64 t282,.int .i64 t283] 27 (0,0)) (by(with_reducible repeat first|apply bN|apply b1|apply bA);exact q2.out)):q13≠q19));have n17_:=ak_ n16_.out.symm;have n18_:=ak_ ((by rw [hg];exact Nat.ne_of_lt (blk_lt (g:=q14) (o:=.cells #[.int .i64 t286,.int .i64 t287,.int .i64 t288,.int .i64 t289,.int .i64 t290] 27 (0,0)) (by(with_reducible repeat first|apply bN|apply b1|apply bA);exact q3.out)):q14≠q19));have n19_:=ak_ n18_.out.symm;have n20_:=ak_ ((by rw [hg];exact Nat.ne_of_lt (blk_lt (g:=q15) (o:=.cells #[.int .i64 t293,.int .i64 t294,.int .i64 t295,.int .i64 t296,.int .i64 t297] 27 (0,0)) (by(with_reducible repeat first|apply bN|apply b1|apply bA);exact q4.out)):q15≠q19));have n21_:=ak_ n20_.out.symm;have n22_:=ak_ ((by rw [hg];exact Nat.ne_of_lt (blk_lt (g:=q16) (o:=.cells #[.int .i64 t298,.int .i64 t299,.int .i64 t300,.int .i64 t301] 32 (0,0)) (by(with_reducible repeat first|apply bN|apply b1|apply bA);exact q5.out)):q16≠q19));have n23_:=ak_ n22_.out.symm;have n24_:=ak_ ((by rw [hg];exact Nat.ne_of_lt (blk_lt (g:=q17) (o:=.cells #[.int .i64 t304,.int .i64 t305,.int .i64 t306] 30 (0,0)) (by(with_reducible repeat first|apply bN|apply b1|apply bA);exact q6.out)):q17≠q19));have n25_:=ak_ n24_.out.symm;have n26_:=ak_ ((by rw [hg];exact Nat.ne_of_lt (blk_lt (g:=q18) (o:=.cells #[.int .i64 t309,.int .i64 t310,.int .i64 t311] 30 (0,0)) (by(with_reducible repeat first|apply bN|apply b1|apply bA);exact q7.out)):q18≠q19));have n27_:=ak_ n26_.out.symm;clear q0;clear q1;clear q2;clear q3;clear q4;clear q5;clear q6;clear q7;clear HB;have q0:=n0_;have q1:=n1_;have q2:=n2_;have q3:=n3_;have q4:=n4_;have q5:=n5_;have q6:=n6_;have q7:=n7_;have HB:=n8_;have q8:=n9_;have GW324:=n10_;have GE324:=n11_;have NB277_324:=n12_;have NB324_277:=n13_;have NB278_324:=n14_;have NB324_278:=n15_;have NB285_324:=n16_;have NB324_285:=n17_;have NB292_324:=n18_;have NB324_292:=n19_;have NB302_324:=n20_;have NB324_302:=n21_;have NB303_324:=n22_;have NB324_303:=n23_;have NB308_324:=n24_;have NB324_308:=n25_;have NB313_324:=n26_;have NB324_313:=n27_;clear n0_ n1_ n2_ n3_ n4_ n5_ n6_ n7_ n8_ n9_ n10_ n11_ n12_ n13_ n14_ n15_ n16_ n17_ n18_ n19_ n20_ n21_ n22_ n23_ n24_ n25_ n26_ n27_;clear hb hbox hg;have hnb113:=NB324_277.out;have hnc113:=NB277_324.out;have hnb114:=NB324_278.out;have hnc114:=NB278_324.out;have hnb115:=NB324_285.out;have hnc115:=NB285_324.out;have hnb116:=NB324_292.out;have hnc116:=NB292_324.out;have hnb117:=NB324_302.out;have hnc117:=NB302_324.out;have hnb118:=NB324_303.out;have hnc118:=NB303_324.out;have hnb119:=NB324_308.out;have hnc119:=NB308_324.out;have hnb120:=NB324_313.out;have hnc120:=NB313_324.out;have hcz121_0:w112.cell? ⟨q19,0,none⟩=some (.int .i64 0):=(bC q8.out 0).trans rfl;have hcz121_1:w112.cell? ⟨q19,1,none⟩=some (.int .i64 0):=(bC q8.out 1).trans rfl;have hcz121_2:w112.cell? ⟨q19,2,none⟩=some (.int .i64 0):=(bC q8.out 2).trans rfl;have hcz121_3:w112.cell? ⟨q19,3,none⟩=some (.int .i64 0):=(bC q8.out 3).trans rfl;have hcz121_4:w112.cell? ⟨q19,4,none⟩=some (.int .i64 0):=(bC q8.out 4).trans rfl;have hfz121_0:=blk_frozen q8.out 0;have hfz121_1:=blk_frozen q8.out 1;have hfz121_2:=blk_frozen q8.out 2;have hfz121_3:=blk_frozen q8.out 3;have hfz121_4:=blk_frozen q8.out 4))
      (try simp only [Act.put,sa_,sb_,sc_])
      go_cut [101] (fun v101 wc=>∃ (kq:Nat) (x101_94:Bool),v101=.bool x101_94∧Aside0 (laws_FnCases.j1 kq t284 x101_94 t270 t271 t272 t273 t274 t275 t276 t279 t280 t281 t282 t283=some r)∧Aside0 (kq≤kj9)∧Aside0 (wc.heap[q11]?=some (.cells #[.int .i64 t270,.int .i64 t271,.int .i64 t272] 30 (0,0)))∧Aside0 (wc.heap[q12]?=some (.cells #[.int .i64 t273,.int .i64 t274,.int .i64 t275,.int .i64 t276] 32 (0,0)))∧Aside0 (wc.heap[q13]?=some (.cells #[.int .i64 t279,.int .i64 t280,.int .i64 t281,.int .i64 t282,.int .i64 t283] 27 (0,0)))∧Aside0 (wc.heap[q14]?=some (.cells #[.int .i64 t286,.int .i64 t287,.int .i64 t288,.int .i64 t289,.int .i64 t290] 27 (0,0)))∧Aside0 (wc.heap[q15]?=some (.cells #[.int .i64 t293,.int .i64 t294,.int .i64 t295,.int .i64 t296,.int .i64 t297] 27 (0,0)))∧Aside0 (wc.heap[q16]?=some (.cells #[.int .i64 t298,.int .i64 t299,.int .i64 t300,.int .i64 t301] 32 (0,0)))∧Aside0 (wc.heap[q17]?=some (.cells #[.int .i64 t304,.int .i64 t305,.int .i64 t306] 30 (0,0)))∧Aside0 (wc.heap[q18]?=some (.cells #[.int .i64 t309,.int .i64 t310,.int .i64 t311] 30 (0,0)))∧Aside0 (wc.heap[q19]?=some (.cells #[.int .i64 t318,.int .i64 t319,.int .i64 t320,.int .i64 t321,.int .i64 t322] 27 (0,0)))∧Aside0 (Below w.heap.size w wc))
      case first =>
       have H:=HC95.out
       clear HC95
       by_cases c122:t323=0
       ·rw [if_pos c122] at H
        have c122b0:(t323 == 0)=true:=beq_iff_eq.mpr c122
        have c122b1:(t323 != 0)=false:=bne_eq_false_iff_eq.mpr c122
        clear c122
        (first|rw [c122b0]|(simp only [i64_w,i32_w];rw [c122b0])|skip)
        have H':=ak_ H
        clear H
        have hnb123:=NB324_277.out
        have hnc123:=NB277_324.out
        have hnb124:=NB324_278.out
        have hnc124:=NB278_324.out
        have hnb125:=NB324_285.out
        have hnc125:=NB285_324.out
        have hnb126:=NB324_292.out
        have hnc126:=NB292_324.out
        have hnb127:=NB324_302.out
        have hnc127:=NB302_324.out
        have hnb128:=NB324_303.out
        have hnc128:=NB303_324.out
        have hnb129:=NB324_308.out
        have hnc129:=NB308_324.out
        have hnb130:=NB324_313.out
        have hnc130:=NB313_324.out
        have hcz131_0:w112.cell? ⟨q19,0,none⟩=some (.int .i64 0):=(bC q8.out 0).trans rfl
        have hcz131_1:w112.cell? ⟨q19,1,none⟩=some (.int .i64 0):=(bC q8.out 1).trans rfl
        have hcz131_2:w112.cell? ⟨q19,2,none⟩=some (.int .i64 0):=(bC q8.out 2).trans rfl
        have hcz131_3:w112.cell? ⟨q19,3,none⟩=some (.int .i64 0):=(bC q8.out 3).trans rfl
        have hcz131_4:w112.cell? ⟨q19,4,none⟩=some (.int .i64 0):=(bC q8.out 4).trans rfl
        have hfz131_0:=blk_frozen q8.out 0
        have hfz131_1:=blk_frozen q8.out 1
        have hfz131_2:=blk_frozen q8.out 2
        have hfz131_3:=blk_frozen q8.out 3
        have hfz131_4:=blk_frozen q8.out 4
        have hnb132:=NB302_277.out
        have hnc132:=NB277_302.out
        have hnb133:=NB302_278.out
        have hnc133:=NB278_302.out
        have hnb134:=NB302_285.out
        have hnc134:=NB285_302.out
        have hnb135:=NB302_292.out
        have hnc135:=NB292_302.out
        have hnb136:=NB302_303.out
        have hnc136:=NB303_302.out
        have hnb137:=NB302_308.out
        have hnc137:=NB308_302.out
        have hnb138:=NB302_313.out
        have hnc138:=NB313_302.out
        have hcz139_0:w112.cell? ⟨q15,0,none⟩=some (.int .i64 t293):=(bC q4.out 0).trans rfl
        have hcz139_1:w112.cell? ⟨q15,1,none⟩=some (.int .i64 t294):=(bC q4.out 1).trans rfl
        have hcz139_2:w112.cell? ⟨q15,2,none⟩=some (.int .i64 t295):=(bC q4.out 2).trans rfl
        have hcz139_3:w112.cell? ⟨q15,3,none⟩=some (.int .i64 t296):=(bC q4.out 3).trans rfl
        have hcz139_4:w112.cell? ⟨q15,4,none⟩=some (.int .i64 t297):=(bC q4.out 4).trans rfl
        have hfz139_0:=blk_frozen q4.out 0
        have hfz139_1:=blk_frozen q4.out 1
        have hfz139_2:=blk_frozen q4.out 2
        have hfz139_3:=blk_frozen q4.out 3
        have hfz139_4:=blk_frozen q4.out 4
        go_wp2
        go_meet
        case rel=>exact⟨_,((!(t318 == t293) || (!(t319 == t294) || (!(t320 == t295) || (!(t321 == t296) || (!(t322 == t297))))))),(by first|rfl|(simp;done)|(simp [*];done)),H',⟨by have:=HJ9.out;first|omega|exact Nat.le_refl _⟩,⟨by(with_reducible repeat first|apply bN|apply b1|apply bA);refine bF ?_ NB277_324.out _;(with_reducible repeat first|apply bN|apply b1|apply bA);refine bF ?_ NB277_324.out _;(with_reducible repeat first|apply bN|apply b1|apply bA);refine bF ?_ NB277_324.out _;(with_reducible repeat first|apply bN|apply b1|apply bA);refine bF ?_ NB277_324.out _;(with_reducible repeat first|apply bN|apply b1|apply bA);refine bF ?_ NB277_324.out _;(with_reducible repeat first|apply bN|apply b1|apply bA);exact q0.out⟩,⟨by(with_reducible repeat first|apply bN|apply b1|apply bA);refine bF ?_ NB278_324.out _;(with_reducible repeat first|apply bN|apply b1|apply bA);refine bF ?_ NB278_324.out _;(with_reducible repeat first|apply bN|apply b1|apply bA);refine bF ?_ NB278_324.out _;(with_reducible repeat first|apply bN|apply b1|apply bA);refine bF ?_ NB278_324.out _;(with_reducible repeat first|apply bN|apply b1|apply bA);refine bF ?_ NB278_324.out _;(with_reducible repeat first|apply bN|apply b1|apply bA);exact q1.out⟩,⟨by(with_reducible repeat first|apply bN|apply b1|apply bA);refine bF ?_ NB285_324.out _;(with_reducible repeat first|apply bN|apply b1|apply bA);refine bF ?_ NB285_324.out _;(with_reducible repeat first|apply bN|apply b1|apply bA);refine bF ?_ NB285_324.out _;(with_reducible repeat first|apply bN|apply b1|apply bA);refine bF ?_ NB285_324.out _;(with_reducible repeat first|apply bN|apply b1|apply bA);refine bF ?_ NB285_324.out _;(with_reducible repeat first|apply bN|apply b1|apply bA);exact q2.out⟩,⟨by(with_reducible repeat first|apply bN|apply b1|apply bA);refine bF ?_ NB292_324.out _;(with_reducible repeat first|apply bN|apply b1|apply bA);refine bF ?_ NB292_324.out _;(with_reducible repeat first|apply bN|apply b1|apply bA);refine bF ?_ NB292_324.out _;(with_reducible repeat first|apply bN|apply b1|apply bA);refine bF ?_ NB292_324.out _;(with_reducible repeat first|apply bN|apply b1|apply bA);refine bF ?_ NB292_324.out _;(with_reducible repeat first|apply bN|apply b1|apply bA);exact q3.out⟩,⟨by(with_reducible repeat first|apply bN|apply b1|apply bA);refine bF ?_ NB302_324.out _;(with_reducible repeat first|apply bN|apply b1|apply bA);refine bF ?_ NB302_324.out _;(with_reducible repeat first|apply bN|apply b1|apply bA);refine bF ?_ NB302_324.out _;(with_reducible repeat first|apply bN|apply b1|apply bA);refine bF ?_ NB302_324.out _;(with_reducible repeat first|apply bN|apply b1|apply bA);refine bF ?_ NB302_324.out _;(with_reducible repeat first|apply bN|apply b1|apply bA);exact q4.out⟩,⟨by(with_reducible repeat first|apply bN|apply b1|apply bA);refine bF ?_ NB303_324.out _;(with_reducible repeat first|apply bN|apply b1|apply bA);refine bF ?_ NB303_324.out _;(with_reducible repeat first|apply bN|apply b1|apply bA);refine bF ?_ NB303_324.out _;(with_reducible repeat first|apply bN|apply b1|apply bA);refine bF ?_ NB303_324.out _;(with_reducible repeat first|apply bN|apply b1|apply bA);refine bF ?_ NB303_324.out _;(with_reducible repeat first|apply bN|apply b1|apply bA);exact q5.out⟩,⟨by(with_reducible repeat first|apply bN|apply b1|apply bA);refine bF ?_ NB308_324.out _;(with_reducible repeat first|apply bN|apply b1|apply bA);refine bF ?_ NB308_324.out _;(with_reducible repeat first|apply bN|apply b1|apply bA);refine bF ?_ NB308_324.out _;(with_reducible repeat first|apply bN|apply b1|apply bA);refine bF ?_ NB308_324.out _;(with_reducible repeat first|apply bN|apply b1|apply bA);refine bF ?_ NB308_324.out _;(with_reducible repeat first|apply bN|apply b1|apply bA);exact q6.out⟩,⟨by(with_reducible repeat first|apply bN|apply b1|apply bA);refine bF ?_ NB313_324.out _;(with_reducible repeat first|apply bN|apply b1|apply bA);refine bF ?_ NB313_324.out _;(with_reducible repeat first|apply bN|apply b1|apply bA);refine bF ?_ NB313_324.out _;(with_reducible repeat first|apply bN|apply b1|apply bA);refine bF ?_ NB313_324.out _;(with_reducible repeat first|apply bN|apply b1|apply bA);refine bF ?_ NB313_324.out _;(with_reducible repeat first|apply bN|apply b1|apply bA);exact q7.out⟩,⟨by(with_reducible repeat first|apply bN|apply b1|apply bA);refine bP (cs:=#[.int .i64 t318,.int .i64 t319,.int .i64 t320,.int .i64 t321,.int .i64 0]) ?_ 4 _ rfl;(with_reducible repeat first|apply bN|apply b1|apply bA);refine bP (cs:=#[.int .i64 t318,.int .i64 t319,.int .i64 t320,.int .i64 0,.int .i64 0]) ?_ 3 _ rfl;(with_reducible repeat first|apply bN|apply b1|apply bA);refine bP (cs:=#[.int .i64 t318,.int .i64 t319,.int .i64 0,.int .i64 0,.int .i64 0]) ?_ 2 _ rfl;(with_reducible repeat first|apply bN|apply b1|apply bA);refine bP (cs:=#[.int .i64 t318,.int .i64 0,.int .i64 0,.int .i64 0,.int .i64 0]) ?_ 1 _ rfl;(with_reducible repeat first|apply bN|apply b1|apply bA);refine bP (cs:=#[.int .i64 0,.int .i64 0,.int .i64 0,.int .i64 0,.int .i64 0]) ?_ 0 _ rfl;(with_reducible repeat first|apply bN|apply b1|apply bA);exact q8.out⟩,⟨by repeat(first|(with_reducible first|exact HB.out|apply pA|apply pN|apply p1|refine pS ?_ GE277.out|refine pS ?_ GE278.out|refine pS ?_ GE285.out|refine pS ?_ GE292.out|refine pS ?_ GE302.out|refine pS ?_ GE303.out|refine pS ?_ GE308.out|refine pS ?_ GE313.out|refine pS ?_ GE324.out)|exact HB.out)⟩⟩
       ·rw [if_neg c122] at H
        have c122b0:(t323 == 0)=false:=beq_eq_false_iff_ne.mpr c122
        have c122b1:(t323 != 0)=true:=bne_iff_ne.mpr c122
        (first|rw [c122b0]|(simp only [i64_w,i32_w];rw [c122b0])|skip)
        have H':=ak_ H
        clear H
        go_wp2
        go_meet
        case rel=>exact⟨_,(true),(by first|rfl|(simp;done)|(simp [*];done)),H',⟨by have:=HJ9.out;first|omega|exact Nat.le_refl _⟩,⟨by(with_reducible repeat first|apply bN|apply b1|apply bA);refine bF ?_ NB277_324.out _;(with_reducible repeat first|apply bN|apply b1|apply bA);refine bF ?_ NB277_324.out _;(with_reducible repeat first|apply bN|apply b1|apply bA);refine bF ?_ NB277_324.out _;(with_reducible repeat first|apply bN|apply b1|apply bA);refine bF ?_ NB277_324.out _;(with_reducible repeat first|apply bN|apply b1|apply bA);refine bF ?_ NB277_324.out _;(with_reducible repeat first|apply bN|apply b1|apply bA);exact q0.out⟩,⟨by(with_reducible repeat first|apply bN|apply b1|apply bA);refine bF ?_ NB278_324.out _;(with_reducible repeat first|apply bN|apply b1|apply bA);refine bF ?_ NB278_324.out _;(with_reducible repeat first|apply bN|apply b1|apply bA);refine bF ?_ NB278_324.out _;(with_reducible repeat first|apply bN|apply b1|apply bA);refine bF ?_ NB278_324.out _;(with_reducible repeat first|apply bN|apply b1|apply bA);refine bF ?_ NB278_324.out _;(with_reducible repeat first|apply bN|apply b1|apply bA);exact q1.out⟩,⟨by(with_reducible repeat first|apply bN|apply b1|apply bA);refine bF ?_ NB285_324.out _;(with_reducible repeat first|apply bN|apply b1|apply bA);refine bF ?_ NB285_324.out _;(with_reducible repeat first|apply bN|apply b1|apply bA);refine bF ?_ NB285_324.out _;(with_reducible repeat first|apply bN|apply b1|apply bA);refine bF ?_ NB285_324.out _;(with_reducible repeat first|apply bN|apply b1|apply bA);refine bF ?_ NB285_324.out _;(with_reducible repeat first|apply bN|apply b1|apply bA);exact q2.out⟩,⟨by(with_reducible repeat first|apply bN|apply b1|apply bA);refine bF ?_ NB292_324.out _;(with_reducible repeat first|apply bN|apply b1|apply bA);refine bF ?_ NB292_324.out _;(with_reducible repeat first|apply bN|apply b1|apply bA);refine bF ?_ NB292_324.out _;(with_reducible repeat first|apply bN|apply b1|apply bA);refine bF ?_ NB292_324.out _;(with_reducible repeat first|apply bN|apply b1|apply bA);refine bF ?_ NB292_324.out _;(with_reducible repeat first|apply bN|apply b1|apply bA);exact q3.out⟩,⟨by(with_reducible repeat first|apply bN|apply b1|apply bA);refine bF ?_ NB302_324.out _;(with_reducible repeat first|apply bN|apply b1|apply bA);refine bF ?_ NB302_324.out _;(with_reducible repeat first|apply bN|apply b1|apply bA);refine bF ?_ NB302_324.out _;(with_reducible repeat first|apply bN|apply b1|apply bA);refine bF ?_ NB302_324.out _;(with_reducible repeat first|apply bN|apply b1|apply bA);refine bF ?_ NB302_324.out _;(with_reducible repeat first|apply bN|apply b1|apply bA);exact q4.out⟩,⟨by(with_reducible repeat first|apply bN|apply b1|apply bA);refine bF ?_ NB303_324.out _;(with_reducible repeat first|apply bN|apply b1|apply bA);refine bF ?_ NB303_324.out _;(with_reducible repeat first|apply bN|apply b1|apply bA);refine bF ?_ NB303_324.out _;(with_reducible repeat first|apply bN|apply b1|apply bA);refine bF ?_ NB303_324.out _;(with_reducible repeat first|apply bN|apply b1|apply bA);refine bF ?_ NB303_324.out _;(with_reducible repeat first|apply bN|apply b1|apply bA);exact q5.out⟩,⟨by(with_reducible repeat first|apply bN|apply b1|apply bA);refine bF ?_ NB308_324.out _;(with_reducible repeat first|apply bN|apply b1|apply bA);refine bF ?_ NB308_324.out _;(with_reducible repeat first|apply bN|apply b1|apply bA);refine bF ?_ NB308_324.out _;(with_reducible repeat first|apply bN|apply b1|apply bA);refine bF ?_ NB308_324.out _;(with_reducible repeat first|apply bN|apply b1|apply bA);refine bF ?_ NB308_324.out _;(with_reducible repeat first|apply bN|apply b1|apply bA);exact q6.out⟩,⟨by(with_reducible repeat first|apply bN|apply b1|apply bA);refine bF ?_ NB313_324.out _;(with_reducible repeat first|apply bN|apply b1|apply bA);refine bF ?_ NB313_324.out _;(with_reducible repeat first|apply bN|apply b1|apply bA);refine bF ?_ NB313_324.out _;(with_reducible repeat first|apply bN|apply b1|apply bA);refine bF ?_ NB313_324.out _;(with_reducible repeat first|apply bN|apply b1|apply bA);refine bF ?_ NB313_324.out _;(with_reducible repeat first|apply bN|apply b1|apply bA);exact q7.out⟩,⟨by(with_reducible repeat first|apply bN|apply b1|apply bA);refine bP (cs:=#[.int .i64 t318,.int .i64 t319,.int .i64 t320,.int .i64 t321,.int .i64 0]) ?_ 4 _ rfl;(with_reducible repeat first|apply bN|apply b1|apply bA);refine bP (cs:=#[.int .i64 t318,.int .i64 t319,.int .i64 t320,.int .i64 0,.int .i64 0]) ?_ 3 _ rfl;(with_reducible repeat first|apply bN|apply b1|apply bA);refine bP (cs:=#[.int .i64 t318,.int .i64 t319,.int .i64 0,.int .i64 0,.int .i64 0]) ?_ 2 _ rfl;(with_reducible repeat first|apply bN|apply b1|apply bA);refine bP (cs:=#[.int .i64 t318,.int .i64 0,.int .i64 0,.int .i64 0,.int .i64 0]) ?_ 1 _ rfl;(with_reducible repeat first|apply bN|apply b1|apply bA);refine bP (cs:=#[.int .i64 0,.int .i64 0,.int .i64 0,.int .i64 0,.int .i64 0]) ?_ 0 _ rfl;(with_reducible repeat first|apply bN|apply b1|apply bA);exact q8.out⟩,⟨by repeat(first|(with_reducible first|exact HB.out|apply pA|apply pN|apply p1|refine pS ?_ GE277.out|refine pS ?_ GE278.out|refine pS ?_ GE285.out|refine pS ?_ GE292.out|refine pS ?_ GE302.out|refine pS ?_ GE303.out|refine pS ?_ GE308.out|refine pS ?_ GE313.out|refine pS ?_ GE324.out)|exact HB.out)⟩⟩
      case rest =>
       clear HC95
       try clear c1
       try clear p2
       try clear c3
       try clear c6
       try clear c9
       try clear c10
       try clear c11
       try clear c12
       try clear c13
       try clear c33
       try clear c65
       try clear c65b0
       try clear c65b1
       try clear c69
       try clear c69b0
       try clear c69b1
       try clear c92
       try clear c93
       try clear c93b0
       try clear c93b1
       try clear c96
       try clear c97
       try clear c98
       try clear c99
       try clear c100
       try clear c101
       try clear c102
       try clear c104
       try clear c105
       try clear c106
       try clear c107
       try clear c108
       try clear c109
       try clear c113
       try clear c114
       try clear c115
       try clear c116
       try clear c117
       try clear c118
       try clear c119
       try clear c120
       try clear c122
       try clear c122b0
       try clear c122b1
       try clear c123
       try clear c124
       try clear c125
       try clear c126
       try clear c127
       try clear c128
       try clear c129
       try clear c130
       try clear c132
       try clear c133
       try clear c134
       try clear c135
       try clear c136
       try clear c137
       try clear c138
       try clear hcz103_0
       try clear hcz103_1
       try clear hcz103_2
       try clear hcz110_0
       try clear hcz110_1
       try clear hcz110_2
       try clear hcz110_3
       try clear hcz121_0
       try clear hcz121_1
       try clear hcz121_2
       try clear hcz121_3
       try clear hcz121_4
       try clear hcz131_0
       try clear hcz131_1
       try clear hcz131_2
       try clear hcz131_3
       try clear hcz131_4
       try clear hcz139_0
       try clear hcz139_1
       try clear hcz139_2
       try clear hcz139_3
       try clear hcz139_4
       try clear hfz103_0
       try clear hfz103_1
       try clear hfz103_2
       try clear hfz110_0
       try clear hfz110_1
       try clear hfz110_2
       try clear hfz110_3
       try clear hfz121_0
       try clear hfz121_1
       try clear hfz121_2
       try clear hfz121_3
       try clear hfz121_4
       try clear hfz131_0
       try clear hfz131_1
       try clear hfz131_2
       try clear hfz131_3
       try clear hfz131_4
       try clear hfz139_0
       try clear hfz139_1
       try clear hfz139_2
       try clear hfz139_3
       try clear hfz139_4
       try clear p2
       obtain⟨kq,x101_94,rfl,HA,HJ94,q0,q1,q2,q3,q4,q5,q6,q7,q8,HB⟩:=hcut
       cases kq with
      |zero=>exact absurd HA.out (by simp [laws_FnCases.j1])
      |succ kj94 =>
        have H:=HA.out
        clear HA
        simp only [laws_FnCases.j1] at H
        by_cases c140:x101_94=true
        ·subst c140
         have H1:(some false)=some r:=by rw [if_pos rfl] at H;exact H
         clear H
         have H:=H1
         clear H1
         exact absurd ((Option.some.inj H).trans hr_.out) (by decide)
        ·replace c140:=Bool.eq_false_iff.mpr c140
         subst c140
         have H1:(if t284=0 then ((impl_BlockFor.f t279 t280 t281 t282 t283 t273 t274 t275 t276).bind fun bt325=>(if bt325.2.2.2=0 then (some (bt325.1 == t270 && (bt325.2.1 == t271 && (bt325.2.2.1 == t272)))) else (some false))) else (some true))=some r:=by rw [if_neg (show ¬ (false=true) by decide)] at H;exact H
         clear H
         have H:=H1
         clear H1
         by_cases c141:t284=0
         ·rw [if_pos c141] at H
          have c141b0:(t284 == 0)=true:=beq_iff_eq.mpr c141
          have c141b1:(t284 != 0)=false:=bne_eq_false_iff_eq.mpr c141
          clear c141
          replace H:=Option.bind_eq_some_iff.mp H
          obtain⟨⟨t325,t326,t327,t328⟩,A1420,H⟩:=H
          replace H:(if t328=0 then (some (t325 == t270 && (t326 == t271 && (t327 == t272)))) else (some false))=some r:=H
          have A142:=ak_ A1420
          clear A1420
          by_cases c143:t328=0
          ·rw [if_pos c143] at H
           have c143b0:(t328 == 0)=true:=beq_iff_eq.mpr c143
           have c143b1:(t328 != 0)=false:=bne_eq_false_iff_eq.mpr c143
           clear c143
           obtain rfl:=Option.some.inj H
           have hnb144:=NB285_277.out
           have hnc144:=NB277_285.out
           have hnb145:=NB285_278.out
           have hnc145:=NB278_285.out
           have hnb146:=NB285_292.out
           have hnc146:=NB292_285.out
           have hnb147:=NB285_302.out
           have hnc147:=NB302_285.out
           have hnb148:=NB285_303.out
           have hnc148:=NB303_285.out
           have hnb149:=NB285_308.out
           have hnc149:=NB308_285.out
           have hnb150:=NB285_313.out
           have hnc150:=NB313_285.out
           have hnb151:=NB285_324.out
           have hnc151:=NB324_285.out
           have hcz152_0:wc.cell? ⟨q13,0,none⟩=some (.int .i64 t279):=(bC q2.out 0).trans rfl
           have hcz152_1:wc.cell? ⟨q13,1,none⟩=some (.int .i64 t280):=(bC q2.out 1).trans rfl
           have hcz152_2:wc.cell? ⟨q13,2,none⟩=some (.int .i64 t281):=(bC q2.out 2).trans rfl
           have hcz152_3:wc.cell? ⟨q13,3,none⟩=some (.int .i64 t282):=(bC q2.out 3).trans rfl
           have hcz152_4:wc.cell? ⟨q13,4,none⟩=some (.int .i64 t283):=(bC q2.out 4).trans rfl
           have hfz152_0:=blk_frozen q2.out 0
           have hfz152_1:=blk_frozen q2.out 1
           have hfz152_2:=blk_frozen q2.out 2
           have hfz152_3:=blk_frozen q2.out 3
           have hfz152_4:=blk_frozen q2.out 4
           have hnb153:=NB278_277.out
           have hnc153:=NB277_278.out
           have hnb154:=NB278_292.out
           have hnc154:=NB292_278.out
           have hnb155:=NB278_302.out
           have hnc155:=NB302_278.out
           have hnb156:=NB278_303.out
           have hnc156:=NB303_278.out
           have hnb157:=NB278_308.out
           have hnc157:=NB308_278.out
           have hnb158:=NB278_313.out
           have hnc158:=NB313_278.out
           have hnb159:=NB278_324.out
           have hnc159:=NB324_278.out
           have hcz160_0:wc.cell? ⟨q12,0,none⟩=some (.int .i64 t273):=(bC q1.out 0).trans rfl
           have hcz160_1:wc.cell? ⟨q12,1,none⟩=some (.int .i64 t274):=(bC q1.out 1).trans rfl
           have hcz160_2:wc.cell? ⟨q12,2,none⟩=some (.int .i64 t275):=(bC q1.out 2).trans rfl
           have hcz160_3:wc.cell? ⟨q12,3,none⟩=some (.int .i64 t276):=(bC q1.out 3).trans rfl
           have hfz160_0:=blk_frozen q1.out 0
           have hfz160_1:=blk_frozen q1.out 1
           have hfz160_2:=blk_frozen q1.out 2
           have hfz160_3:=blk_frozen q1.out 3
           go_wp2_with (first|((with_reducible refine gate_callee (f:=21) rfl ?_);refine goesL_ (some 107) rfl rfl Try.func21 (by kernel_rfl) rfl #[.agg #[.int .i64 t279,.int .i64 t280,.int .i64 t281,.int .i64 t282,.int .i64 t283],.agg #[.int .i64 t273,.int .i64 t274,.int .i64 t275,.int .i64 t276]] rfl (by(try simp only [List.map_toArray,List.map_cons,List.map_nil]);first|done|rfl|(simp only [List.length_drop,List.length_take];rfl)) ?_;(with_reducible refine(impl_BlockFor.calls t279 t280 t281 t282 t283 t273 t274 t275 t276 t325 t326 t327 t328 _ A142.out).mono ?_);rintro e w161 ⟨rfl,hb⟩;refine⟨_,rfl,?_⟩;have n0_:=ak_ (bB (g:=q11) (o:=.cells #[.int .i64 t270,.int .i64 t271,.int .i64 t272] 30 (0,0)) (by(with_reducible repeat first|apply bN|apply b1|apply bA);exact q0.out) hb);have n1_:=ak_ (bB (g:=q12) (o:=.cells #[.int .i64 t273,.int .i64 t274,.int .i64 t275,.int .i64 t276] 32 (0,0)) (by(with_reducible repeat first|apply bN|apply b1|apply bA);exact q1.out) hb);have n2_:=ak_ (bB (g:=q13) (o:=.cells #[.int .i64 t279,.int .i64 t280,.int .i64 t281,.int .i64 t282,.int .i64 t283] 27 (0,0)) (by(with_reducible repeat first|apply bN|apply b1|apply bA);exact q2.out) hb);have n3_:=ak_ (bB (g:=q14) (o:=.cells #[.int .i64 t286,.int .i64 t287,.int .i64 t288,.int .i64 t289,.int .i64 t290] 27 (0,0)) (by(with_reducible repeat first|apply bN|apply b1|apply bA);exact q3.out) hb);have n4_:=ak_ (bB (g:=q15) (o:=.cells #[.int .i64 t293,.int .i64 t294,.int .i64 t295,.int .i64 t296,.int .i64 t297] 27 (0,0)) (by(with_reducible repeat first|apply bN|apply b1|apply bA);exact q4.out) hb);have n5_:=ak_ (bB (g:=q16) (o:=.cells #[.int .i64 t298,.int .i64 t299,.int .i64 t300,.int .i64 t301] 32 (0,0)) (by(with_reducible repeat first|apply bN|apply b1|apply bA);exact q5.out) hb);have n6_:=ak_ (bB (g:=q17) (o:=.cells #[.int .i64 t304,.int .i64 t305,.int .i64 t306] 30 (0,0)) (by(with_reducible repeat first|apply bN|apply b1|apply bA);exact q6.out) hb);have n7_:=ak_ (bB (g:=q18) (o:=.cells #[.int .i64 t309,.int .i64 t310,.int .i64 t311] 30 (0,0)) (by(with_reducible repeat first|apply bN|apply b1|apply bA);exact q7.out) hb);have n8_:=ak_ (bB (g:=q19) (o:=.cells #[.int .i64 t318,.int .i64 t319,.int .i64 t320,.int .i64 t321,.int .i64 t322] 27 (0,0)) (by(with_reducible repeat first|apply bN|apply b1|apply bA);exact q8.out) hb);have n9_:=ak_ (pT (by repeat(first|(with_reducible first|exact HB.out|apply pA|apply pN|apply p1|refine pS ?_ GE277.out|refine pS ?_ GE278.out|refine pS ?_ GE285.out|refine pS ?_ GE292.out|refine pS ?_ GE302.out|refine pS ?_ GE303.out|refine pS ?_ GE308.out|refine pS ?_ GE313.out|refine pS ?_ GE324.out)|exact HB.out)) hb);clear q0;clear q1;clear q2;clear q3;clear q4;clear q5;clear q6;clear q7;clear q8;clear HB;have q0:=n0_;have q1:=n1_;have q2:=n2_;have q3:=n3_;have q4:=n4_;have q5:=n5_;have q6:=n6_;have q7:=n7_;have q8:=n8_;have HB:=n9_;clear n0_ n1_ n2_ n3_ n4_ n5_ n6_ n7_ n8_ n9_;(try clear hb))|((with_reducible refine gate_dst (N:=17) rfl ?_);refine box_event ?hg (N:=17) ?hd (cs:=#[.int .i64 0,.int .i64 0,.int .i64 0]) (t:=30) ?hr ?_;(case hd=>rfl);(case hg=>rfl);(case hr=>first|(go_simp;done)|(go_simp;rfl));intro q20 hg w162 hbox hb;have n0_:=ak_ (bB (g:=q11) (o:=.cells #[.int .i64 t270,.int .i64 t271,.int .i64 t272] 30 (0,0)) (by(with_reducible repeat first|apply bN|apply b1|apply bA);exact q0.out) hb);have n1_:=ak_ (bB (g:=q12) (o:=.cells #[.int .i64 t273,.int .i64 t274,.int .i64 t275,.int .i64 t276] 32 (0,0)) (by(with_reducible repeat first|apply bN|apply b1|apply bA);exact q1.out) hb);have n2_:=ak_ (bB (g:=q13) (o:=.cells #[.int .i64 t279,.int .i64 t280,.int .i64 t281,.int .i64 t282,.int .i64 t283] 27 (0,0)) (by(with_reducible repeat first|apply bN|apply b1|apply bA);exact q2.out) hb);have n3_:=ak_ (bB (g:=q14) (o:=.cells #[.int .i64 t286,.int .i64 t287,.int .i64 t288,.int .i64 t289,.int .i64 t290] 27 (0,0)) (by(with_reducible repeat first|apply bN|apply b1|apply bA);exact q3.out) hb);have n4_:=ak_ (bB (g:=q15) (o:=.cells #[.int .i64 t293,.int .i64 t294,.int .i64 t295,.int .i64 t296,.int .i64 t297] 27 (0,0)) (by(with_reducible repeat first|apply bN|apply b1|apply bA);exact q4.out) hb);have n5_:=ak_ (bB (g:=q16) (o:=.cells #[.int .i64 t298,.int .i64 t299,.int .i64 t300,.int .i64 t301] 32 (0,0)) (by(with_reducible repeat first|apply bN|apply b1|apply bA);exact q5.out) hb);have n6_:=ak_ (bB (g:=q17) (o:=.cells #[.int .i64 t304,.int .i64 t305,.int .i64 t306] 30 (0,0)) (by(with_reducible repeat first|apply bN|apply b1|apply bA);exact q6.out) hb);have n7_:=ak_ (bB (g:=q18) (o:=.cells #[.int .i64 t309,.int .i64 t310,.int .i64 t311] 30 (0,0)) (by(with_reducible repeat first|apply bN|apply b1|apply bA);exact q7.out) hb);have n8_:=ak_ (bB (g:=q19) (o:=.cells #[.int .i64 t318,.int .i64 t319,.int .i64 t320,.int .i64 t321,.int .i64 t322] 27 (0,0)) (by(with_reducible repeat first|apply bN|apply b1|apply bA);exact q8.out) hb);have n9_:=ak_ (pT (by repeat(first|(with_reducible first|exact HB.out|apply pA|apply pN|apply p1|refine pS ?_ GE277.out|refine pS ?_ GE278.out|refine pS ?_ GE285.out|refine pS ?_ GE292.out|refine pS ?_ GE302.out|refine pS ?_ GE303.out|refine pS ?_ GE308.out|refine pS ?_ GE313.out|refine pS ?_ GE324.out)|exact HB.out)) hb);have n10_:=ak_ (hbox);have n11_:=ak_ ((by rw [hg];exact(below_size (by repeat(first|(with_reducible first|exact HB.out|apply pA|apply pN|apply p1|refine pS ?_ GE277.out|refine pS ?_ GE278.out|refine pS ?_ GE285.out|refine pS ?_ GE292.out|refine pS ?_ GE302.out|refine pS ?_ GE303.out|refine pS ?_ GE308.out|refine pS ?_ GE313.out|refine pS ?_ GE324.out)|exact HB.out))):w.heap.size≤q20));have n12_:=n11_;have n13_:=ak_ ((by rw [hg];exact Nat.ne_of_lt (blk_lt (g:=q11) (o:=.cells #[.int .i64 t270,.int .i64 t271,.int .i64 t272] 30 (0,0)) (by(with_reducible repeat first|apply bN|apply b1|apply bA);exact q0.out)):q11≠q20));have n14_:=ak_ n13_.out.symm;have n15_:=ak_ ((by rw [hg];exact Nat.ne_of_lt (blk_lt (g:=q12) (o:=.cells #[.int .i64 t273,.int .i64 t274,.int .i64 t275,.int .i64 t276] 32 (0,0)) (by(with_reducible repeat first|apply bN|apply b1|apply bA);exact q1.out)):q12≠q20));have n16_:=ak_ n15_.out.symm;have n17_:=ak_ ((by rw [hg];exact Nat.ne_of_lt (blk_lt (g:=q13) (o:=.cells #[.int .i64 t279,.int .i64 t280,.int .i64 t281,.int .i64 t282,.int .i64 t283] 27 (0,0)) (by(with_reducible repeat first|apply bN|apply b1|apply bA);exact q2.out)):q13≠q20));have n18_:=ak_ n17_.out.symm;have n19_:=ak_ ((by rw [hg];exact Nat.ne_of_lt (blk_lt (g:=q14) (o:=.cells #[.int .i64 t286,.int .i64 t287,.int .i64 t288,.int .i64 t289,.int .i64 t290] 27 (0,0)) (by(with_reducible repeat first|apply bN|apply b1|apply bA);exact q3.out)):q14≠q20));have n20_:=ak_ n19_.out.symm;have n21_:=ak_ ((by rw [hg];exact Nat.ne_of_lt (blk_lt (g:=q15) (o:=.cells #[.int .i64 t293,.int .i64 t294,.int .i64 t295,.int .i64 t296,.int .i64 t297] 27 (0,0)) (by(with_reducible repeat first|apply bN|apply b1|apply bA);exact q4.out)):q15≠q20));have n22_:=ak_ n21_.out.symm;have n23_:=ak_ ((by rw [hg];exact Nat.ne_of_lt (blk_lt (g:=q16) (o:=.cells #[.int .i64 t298,.int .i64 t299,.int .i64 t300,.int .i64 t301] 32 (0,0)) (by(with_reducible repeat first|apply bN|apply b1|apply bA);exact q5.out)):q16≠q20));have n24_:=ak_ n23_.out.symm;have n25_:=ak_ ((by rw [hg];exact Nat.ne_of_lt (blk_lt (g:=q17) (o:=.cells #[.int .i64 t304,.int .i64 t305,.int .i64 t306] 30 (0,0)) (by(with_reducible repeat first|apply bN|apply b1|apply bA);exact q6.out)):q17≠q20));have n26_:=ak_ n25_.out.symm;have n27_:=ak_ ((by rw [hg];exact Nat.ne_of_lt (blk_lt (g:=q18) (o:=.cells #[.int .i64 t309,.int .i64 t310,.int .i64 t311] 30 (0,0)) (by(with_reducible repeat first|apply bN|apply b1|apply bA);exact q7.out)):q18≠q20));have n28_:=ak_ n27_.out.symm;have n29_:=ak_ ((by rw [hg];exact Nat.ne_of_lt (blk_lt (g:=q19) (o:=.cells #[.int .i64 t318,.int .i64 t319,.int .i64 t320,.int .i64 t321,.int .i64 t322] 27 (0,0)) (by(with_reducible repeat first|apply bN|apply b1|apply bA);exact q8.out)):q19≠q20));have n30_:=ak_ n29_.out.symm;clear q0;clear q1;clear q2;clear q3;clear q4;clear q5;clear q6;clear q7;clear q8;clear HB;have q0:=n0_;have q1:=n1_;have q2:=n2_;have q3:=n3_;have q4:=n4_;have q5:=n5_;have q6:=n6_;have q7:=n7_;have q8:=n8_;have HB:=n9_;have q9:=n10_;have GW329:=n11_;have GE329:=n12_;have NB277_329:=n13_;have NB329_277:=n14_;have NB278_329:=n15_;have NB329_278:=n16_;have NB285_329:=n17_;have NB329_285:=n18_;have NB292_329:=n19_;have NB329_292:=n20_;have NB302_329:=n21_;have NB329_302:=n22_;have NB303_329:=n23_;have NB329_303:=n24_;have NB308_329:=n25_;have NB329_308:=n26_;have NB313_329:=n27_;have NB329_313:=n28_;have NB324_329:=n29_;have NB329_324:=n30_;clear n0_ n1_ n2_ n3_ n4_ n5_ n6_ n7_ n8_ n9_ n10_ n11_ n12_ n13_ n14_ n15_ n16_ n17_ n18_ n19_ n20_ n21_ n22_ n23_ n24_ n25_ n26_ n27_ n28_ n29_ n30_;clear hb hbox hg;have hnb163:=NB329_277.out;have hnc163:=NB277_329.out;have hnb164:=NB329_278.out;have hnc164:=NB278_329.out;have hnb165:=NB329_285.out;have hnc165:=NB285_329.out;have hnb166:=NB329_292.out;have hnc166:=NB292_329.out;have hnb167:=NB329_302.out;have hnc167:=NB302_329.out;have hnb168:=NB329_303.out;have hnc168:=NB303_329.out;have hnb169:=NB329_308.out;have hnc169:=NB308_329.out;have hnb170:=NB329_313.out;have hnc170:=NB313_329.out;have hnb171:=NB329_324.out;have hnc171:=NB324_329.out;have hcz172_0:w162.cell? ⟨q20,0,none⟩=some (.int .i64 0):=(bC q9.out 0).trans rfl;have hcz172_1:w162.cell? ⟨q20,1,none⟩=some (.int .i64 0):=(bC q9.out 1).trans rfl;have hcz172_2:w162.cell? ⟨q20,2,none⟩=some (.int .i64 0):=(bC q9.out 2).trans rfl;have hfz172_0:=blk_frozen q9.out 0;have hfz172_1:=blk_frozen q9.out 1;have hfz172_2:=blk_frozen q9.out 2;have hnb173:=NB277_292.out;have hnc173:=NB292_277.out;have hnb174:=NB277_302.out;have hnc174:=NB302_277.out;have hnb175:=NB277_303.out;have hnc175:=NB303_277.out;have hnb176:=NB277_308.out;have hnc176:=NB308_277.out;have hnb177:=NB277_313.out;have hnc177:=NB313_277.out;have hnb178:=NB277_324.out;have hnc178:=NB324_277.out;have hcz179_0:w162.cell? ⟨q11,0,none⟩=some (.int .i64 t270):=(bC q0.out 0).trans rfl;have hcz179_1:w162.cell? ⟨q11,1,none⟩=some (.int .i64 t271):=(bC q0.out 1).trans rfl;have hcz179_2:w162.cell? ⟨q11,2,none⟩=some (.int .i64 t272):=(bC q0.out 2).trans rfl;have hfz179_0:=blk_frozen q0.out 0;have hfz179_1:=blk_frozen q0.out 1;have hfz179_2:=blk_frozen q0.out 2))
           go_ret
           exact⟨by first|rfl|(simp [errW_none,errW_some] <;> rfl)|(simp [*,errW_none,errW_some] <;> rfl),by repeat(first|(with_reducible first|exact HB.out|apply pA|apply pN|apply p1|refine pS ?_ GE277.out|refine pS ?_ GE278.out|refine pS ?_ GE285.out|refine pS ?_ GE292.out|refine pS ?_ GE302.out|refine pS ?_ GE303.out|refine pS ?_ GE308.out|refine pS ?_ GE313.out|refine pS ?_ GE324.out|refine pS ?_ GE329.out)|exact HB.out)⟩
          ·rw [if_neg c143] at H
           have c143b0:(t328 == 0)=false:=beq_eq_false_iff_ne.mpr c143
           have c143b1:(t328 != 0)=true:=bne_iff_ne.mpr c143
           exact absurd ((Option.some.inj H).trans hr_.out) (by decide)
         ·rw [if_neg c141] at H
          have c141b0:(t284 == 0)=false:=beq_eq_false_iff_ne.mpr c141
          have c141b1:(t284 != 0)=true:=bne_iff_ne.mpr c141
          obtain rfl:=Option.some.inj H
          go_wp2
          go_ret
          exact⟨by first|rfl|(simp [errW_none,errW_some] <;> rfl)|(simp [*,errW_none,errW_some] <;> rfl),by repeat(first|(with_reducible first|exact HB.out|apply pA|apply pN|apply p1|refine pS ?_ GE277.out|refine pS ?_ GE278.out|refine pS ?_ GE285.out|refine pS ?_ GE292.out|refine pS ?_ GE302.out|refine pS ?_ GE303.out|refine pS ?_ GE308.out|refine pS ?_ GE313.out|refine pS ?_ GE324.out)|exact HB.out)⟩
     ·rw [if_neg c93] at H
      have c93b0:(t307 == 0)=false:=beq_eq_false_iff_ne.mpr c93
      have c93b1:(t307 != 0)=true:=bne_iff_ne.mpr c93
      by_cases c180:t284=0
      ·rw [if_pos c180] at H
       have c180b0:(t284 == 0)=true:=beq_iff_eq.mpr c180
       have c180b1:(t284 != 0)=false:=bne_eq_false_iff_eq.mpr c180
       clear c180
       replace H:=Option.bind_eq_some_iff.mp H
       obtain⟨⟨t330,t331,t332,t333⟩,A1810,H⟩:=H
       replace H:(if t333=0 then (some (t330 == t270 && (t331 == t271 && (t332 == t272)))) else (some false))=some r:=H
       have A181:=ak_ A1810
       clear A1810
       by_cases c182:t333=0
       ·rw [if_pos c182] at H
        have c182b0:(t333 == 0)=true:=beq_iff_eq.mpr c182
        have c182b1:(t333 != 0)=false:=bne_eq_false_iff_eq.mpr c182
        clear c182
        obtain rfl:=Option.some.inj H
        have hnb183:=NB285_277.out
        have hnc183:=NB277_285.out
        have hnb184:=NB285_278.out
        have hnc184:=NB278_285.out
        have hnb185:=NB285_292.out
        have hnc185:=NB292_285.out
        have hnb186:=NB285_302.out
        have hnc186:=NB302_285.out
        have hnb187:=NB285_303.out
        have hnc187:=NB303_285.out
        have hnb188:=NB285_308.out
        have hnc188:=NB308_285.out
        have hnb189:=NB285_313.out
        have hnc189:=NB313_285.out
        have hcz190_0:wc.cell? ⟨q13,0,none⟩=some (.int .i64 t279):=(bC q2.out 0).trans rfl
        have hcz190_1:wc.cell? ⟨q13,1,none⟩=some (.int .i64 t280):=(bC q2.out 1).trans rfl
        have hcz190_2:wc.cell? ⟨q13,2,none⟩=some (.int .i64 t281):=(bC q2.out 2).trans rfl
        have hcz190_3:wc.cell? ⟨q13,3,none⟩=some (.int .i64 t282):=(bC q2.out 3).trans rfl
        have hcz190_4:wc.cell? ⟨q13,4,none⟩=some (.int .i64 t283):=(bC q2.out 4).trans rfl
        have hfz190_0:=blk_frozen q2.out 0
        have hfz190_1:=blk_frozen q2.out 1
        have hfz190_2:=blk_frozen q2.out 2
        have hfz190_3:=blk_frozen q2.out 3
        have hfz190_4:=blk_frozen q2.out 4
        have hnb191:=NB278_277.out
        have hnc191:=NB277_278.out
        have hnb192:=NB278_292.out
        have hnc192:=NB292_278.out
        have hnb193:=NB278_302.out
        have hnc193:=NB302_278.out
        have hnb194:=NB278_303.out
        have hnc194:=NB303_278.out
        have hnb195:=NB278_308.out
        have hnc195:=NB308_278.out
        have hnb196:=NB278_313.out
        have hnc196:=NB313_278.out
        have hcz197_0:wc.cell? ⟨q12,0,none⟩=some (.int .i64 t273):=(bC q1.out 0).trans rfl
        have hcz197_1:wc.cell? ⟨q12,1,none⟩=some (.int .i64 t274):=(bC q1.out 1).trans rfl
        have hcz197_2:wc.cell? ⟨q12,2,none⟩=some (.int .i64 t275):=(bC q1.out 2).trans rfl
        have hcz197_3:wc.cell? ⟨q12,3,none⟩=some (.int .i64 t276):=(bC q1.out 3).trans rfl
        have hfz197_0:=blk_frozen q1.out 0
        have hfz197_1:=blk_frozen q1.out 1
        have hfz197_2:=blk_frozen q1.out 2
        have hfz197_3:=blk_frozen q1.out 3
        go_wp2_with (first|((with_reducible refine gate_callee (f:=21) rfl ?_);refine goesL_ (some 107) rfl rfl Try.func21 (by kernel_rfl) rfl #[.agg #[.int .i64 t279,.int .i64 t280,.int .i64 t281,.int .i64 t282,.int .i64 t283],.agg #[.int .i64 t273,.int .i64 t274,.int .i64 t275,.int .i64 t276]] rfl (by(try simp only [List.map_toArray,List.map_cons,List.map_nil]);first|done|rfl|(simp only [List.length_drop,List.length_take];rfl)) ?_;(with_reducible refine(impl_BlockFor.calls t279 t280 t281 t282 t283 t273 t274 t275 t276 t330 t331 t332 t333 _ A181.out).mono ?_);rintro e w198 ⟨rfl,hb⟩;refine⟨_,rfl,?_⟩;have n0_:=ak_ (bB (g:=q11) (o:=.cells #[.int .i64 t270,.int .i64 t271,.int .i64 t272] 30 (0,0)) (by(with_reducible repeat first|apply bN|apply b1|apply bA);exact q0.out) hb);have n1_:=ak_ (bB (g:=q12) (o:=.cells #[.int .i64 t273,.int .i64 t274,.int .i64 t275,.int .i64 t276] 32 (0,0)) (by(with_reducible repeat first|apply bN|apply b1|apply bA);exact q1.out) hb);have n2_:=ak_ (bB (g:=q13) (o:=.cells #[.int .i64 t279,.int .i64 t280,.int .i64 t281,.int .i64 t282,.int .i64 t283] 27 (0,0)) (by(with_reducible repeat first|apply bN|apply b1|apply bA);exact q2.out) hb);have n3_:=ak_ (bB (g:=q14) (o:=.cells #[.int .i64 t286,.int .i64 t287,.int .i64 t288,.int .i64 t289,.int .i64 t290] 27 (0,0)) (by(with_reducible repeat first|apply bN|apply b1|apply bA);exact q3.out) hb);have n4_:=ak_ (bB (g:=q15) (o:=.cells #[.int .i64 t293,.int .i64 t294,.int .i64 t295,.int .i64 t296,.int .i64 t297] 27 (0,0)) (by(with_reducible repeat first|apply bN|apply b1|apply bA);exact q4.out) hb);have n5_:=ak_ (bB (g:=q16) (o:=.cells #[.int .i64 t298,.int .i64 t299,.int .i64 t300,.int .i64 t301] 32 (0,0)) (by(with_reducible repeat first|apply bN|apply b1|apply bA);exact q5.out) hb);have n6_:=ak_ (bB (g:=q17) (o:=.cells #[.int .i64 t304,.int .i64 t305,.int .i64 t306] 30 (0,0)) (by(with_reducible repeat first|apply bN|apply b1|apply bA);exact q6.out) hb);have n7_:=ak_ (bB (g:=q18) (o:=.cells #[.int .i64 t309,.int .i64 t310,.int .i64 t311] 30 (0,0)) (by(with_reducible repeat first|apply bN|apply b1|apply bA);exact q7.out) hb);have n8_:=ak_ (pT (by repeat(first|(with_reducible first|exact HB.out|apply pA|apply pN|apply p1|refine pS ?_ GE277.out|refine pS ?_ GE278.out|refine pS ?_ GE285.out|refine pS ?_ GE292.out|refine pS ?_ GE302.out|refine pS ?_ GE303.out|refine pS ?_ GE308.out|refine pS ?_ GE313.out)|exact HB.out)) hb);clear q0;clear q1;clear q2;clear q3;clear q4;clear q5;clear q6;clear q7;clear HB;have q0:=n0_;have q1:=n1_;have q2:=n2_;have q3:=n3_;have q4:=n4_;have q5:=n5_;have q6:=n6_;have q7:=n7_;have HB:=n8_;clear n0_ n1_ n2_ n3_ n4_ n5_ n6_ n7_ n8_;(try clear hb))|((with_reducible refine gate_dst (N:=17) rfl ?_);refine box_event ?hg (N:=17) ?hd (cs:=#[.int .i64 0,.int .i64 0,.int .i64 0]) (t:=30) ?hr ?_;(case hd=>rfl);(case hg=>rfl);(case hr=>first|(go_simp;done)|(go_simp;rfl));intro q21 hg w199 hbox hb;have n0_:=ak_ (bB (g:=q11) (o:=.cells #[.int .i64 t270,.int .i64 t271,.int .i64 t272] 30 (0,0)) (by(with_reducible repeat first|apply bN|apply b1|apply bA);exact q0.out) hb);have n1_:=ak_ (bB (g:=q12) (o:=.cells #[.int .i64 t273,.int .i64 t274,.int .i64 t275,.int .i64 t276] 32 (0,0)) (by(with_reducible repeat first|apply bN|apply b1|apply bA);exact q1.out) hb);have n2_:=ak_ (bB (g:=q13) (o:=.cells #[.int .i64 t279,.int .i64 t280,.int .i64 t281,.int .i64 t282,.int .i64 t283] 27 (0,0)) (by(with_reducible repeat first|apply bN|apply b1|apply bA);exact q2.out) hb);have n3_:=ak_ (bB (g:=q14) (o:=.cells #[.int .i64 t286,.int .i64 t287,.int .i64 t288,.int .i64 t289,.int .i64 t290] 27 (0,0)) (by(with_reducible repeat first|apply bN|apply b1|apply bA);exact q3.out) hb);have n4_:=ak_ (bB (g:=q15) (o:=.cells #[.int .i64 t293,.int .i64 t294,.int .i64 t295,.int .i64 t296,.int .i64 t297] 27 (0,0)) (by(with_reducible repeat first|apply bN|apply b1|apply bA);exact q4.out) hb);have n5_:=ak_ (bB (g:=q16) (o:=.cells #[.int .i64 t298,.int .i64 t299,.int .i64 t300,.int .i64 t301] 32 (0,0)) (by(with_reducible repeat first|apply bN|apply b1|apply bA);exact q5.out) hb);have n6_:=ak_ (bB (g:=q17) (o:=.cells #[.int .i64 t304,.int .i64 t305,.int .i64 t306] 30 (0,0)) (by(with_reducible repeat first|apply bN|apply b1|apply bA);exact q6.out) hb);have n7_:=ak_ (bB (g:=q18) (o:=.cells #[.int .i64 t309,.int .i64 t310,.int .i64 t311] 30 (0,0)) (by(with_reducible repeat first|apply bN|apply b1|apply bA);exact q7.out) hb);have n8_:=ak_ (pT (by repeat(first|(with_reducible first|exact HB.out|apply pA|apply pN|apply p1|refine pS ?_ GE277.out|refine pS ?_ GE278.out|refine pS ?_ GE285.out|refine pS ?_ GE292.out|refine pS ?_ GE302.out|refine pS ?_ GE303.out|refine pS ?_ GE308.out|refine pS ?_ GE313.out)|exact HB.out)) hb);have n9_:=ak_ (hbox);have n10_:=ak_ ((by rw [hg];exact(below_size (by repeat(first|(with_reducible first|exact HB.out|apply pA|apply pN|apply p1|refine pS ?_ GE277.out|refine pS ?_ GE278.out|refine pS ?_ GE285.out|refine pS ?_ GE292.out|refine pS ?_ GE302.out|refine pS ?_ GE303.out|refine pS ?_ GE308.out|refine pS ?_ GE313.out)|exact HB.out))):w.heap.size≤q21));have n11_:=n10_;have n12_:=ak_ ((by rw [hg];exact Nat.ne_of_lt (blk_lt (g:=q11) (o:=.cells #[.int .i64 t270,.int .i64 t271,.int .i64 t272] 30 (0,0)) (by(with_reducible repeat first|apply bN|apply b1|apply bA);exact q0.out)):q11≠q21));have n13_:=ak_ n12_.out.symm;have n14_:=ak_ ((by rw [hg];exact Nat.ne_of_lt (blk_lt (g:=q12) (o:=.cells #[.int .i64 t273,.int .i64 t274,.int .i64 t275,.int .i64 t276] 32 (0,0)) (by(with_reducible repeat first|apply bN|apply b1|apply bA);exact q1.out)):q12≠q21));have n15_:=ak_ n14_.out.symm;have n16_:=ak_ ((by rw [hg];exact Nat.ne_of_lt (blk_lt (g:=q13) (o:=.cells #[.int .i64 t279,.int .i64 t280,.int .i64 t281,.int .i64 t282,.int .i64 t283] 27 (0,0)) (by(with_reducible repeat first|apply bN|apply b1|apply bA);exact q2.out)):q13≠q21));have n17_:=ak_ n16_.out.symm;have n18_:=ak_ ((by rw [hg];exact Nat.ne_of_lt (blk_lt (g:=q14) (o:=.cells #[.int .i64 t286,.int .i64 t287,.int .i64 t288,.int .i64 t289,.int .i64 t290] 27 (0,0)) (by(with_reducible repeat first|apply bN|apply b1|apply bA);exact q3.out)):q14≠q21));have n19_:=ak_ n18_.out.symm;have n20_:=ak_ ((by rw [hg];exact Nat.ne_of_lt (blk_lt (g:=q15) (o:=.cells #[.int .i64 t293,.int .i64 t294,.int .i64 t295,.int .i64 t296,.int .i64 t297] 27 (0,0)) (by(with_reducible repeat first|apply bN|apply b1|apply bA);exact q4.out)):q15≠q21));have n21_:=ak_ n20_.out.symm;have n22_:=ak_ ((by rw [hg];exact Nat.ne_of_lt (blk_lt (g:=q16) (o:=.cells #[.int .i64 t298,.int .i64 t299,.int .i64 t300,.int .i64 t301] 32 (0,0)) (by(with_reducible repeat first|apply bN|apply b1|apply bA);exact q5.out)):q16≠q21));have n23_:=ak_ n22_.out.symm;have n24_:=ak_ ((by rw [hg];exact Nat.ne_of_lt (blk_lt (g:=q17) (o:=.cells #[.int .i64 t304,.int .i64 t305,.int .i64 t306] 30 (0,0)) (by(with_reducible repeat first|apply bN|apply b1|apply bA);exact q6.out)):q17≠q21));have n25_:=ak_ n24_.out.symm;have n26_:=ak_ ((by rw [hg];exact Nat.ne_of_lt (blk_lt (g:=q18) (o:=.cells #[.int .i64 t309,.int .i64 t310,.int .i64 t311] 30 (0,0)) (by(with_reducible repeat first|apply bN|apply b1|apply bA);exact q7.out)):q18≠q21));have n27_:=ak_ n26_.out.symm;clear q0;clear q1;clear q2;clear q3;clear q4;clear q5;clear q6;clear q7;clear HB;have q0:=n0_;have q1:=n1_;have q2:=n2_;have q3:=n3_;have q4:=n4_;have q5:=n5_;have q6:=n6_;have q7:=n7_;have HB:=n8_;have q10:=n9_;have GW334:=n10_;have GE334:=n11_;have NB277_334:=n12_;have NB334_277:=n13_;have NB278_334:=n14_;have NB334_278:=n15_;have NB285_334:=n16_;have NB334_285:=n17_;have NB292_334:=n18_;have NB334_292:=n19_;have NB302_334:=n20_;have NB334_302:=n21_;have NB303_334:=n22_;have NB334_303:=n23_;have NB308_334:=n24_;have NB334_308:=n25_;have NB313_334:=n26_;have NB334_313:=n27_;clear n0_ n1_ n2_ n3_ n4_ n5_ n6_ n7_ n8_ n9_ n10_ n11_ n12_ n13_ n14_ n15_ n16_ n17_ n18_ n19_ n20_ n21_ n22_ n23_ n24_ n25_ n26_ n27_;clear hb hbox hg;have hnb200:=NB334_277.out;have hnc200:=NB277_334.out;have hnb201:=NB334_278.out;have hnc201:=NB278_334.out;have hnb202:=NB334_285.out;have hnc202:=NB285_334.out;have hnb203:=NB334_292.out;have hnc203:=NB292_334.out;have hnb204:=NB334_302.out;have hnc204:=NB302_334.out;have hnb205:=NB334_303.out;have hnc205:=NB303_334.out;have hnb206:=NB334_308.out;have hnc206:=NB308_334.out;have hnb207:=NB334_313.out;have hnc207:=NB313_334.out;have hcz208_0:w199.cell? ⟨q21,0,none⟩=some (.int .i64 0):=(bC q10.out 0).trans rfl;have hcz208_1:w199.cell? ⟨q21,1,none⟩=some (.int .i64 0):=(bC q10.out 1).trans rfl;have hcz208_2:w199.cell? ⟨q21,2,none⟩=some (.int .i64 0):=(bC q10.out 2).trans rfl;have hfz208_0:=blk_frozen q10.out 0;have hfz208_1:=blk_frozen q10.out 1;have hfz208_2:=blk_frozen q10.out 2;have hnb209:=NB277_292.out;have hnc209:=NB292_277.out;have hnb210:=NB277_302.out;have hnc210:=NB302_277.out;have hnb211:=NB277_303.out;have hnc211:=NB303_277.out;have hnb212:=NB277_308.out;have hnc212:=NB308_277.out;have hnb213:=NB277_313.out;have hnc213:=NB313_277.out;have hcz214_0:w199.cell? ⟨q11,0,none⟩=some (.int .i64 t270):=(bC q0.out 0).trans rfl;have hcz214_1:w199.cell? ⟨q11,1,none⟩=some (.int .i64 t271):=(bC q0.out 1).trans rfl;have hcz214_2:w199.cell? ⟨q11,2,none⟩=some (.int .i64 t272):=(bC q0.out 2).trans rfl;have hfz214_0:=blk_frozen q0.out 0;have hfz214_1:=blk_frozen q0.out 1;have hfz214_2:=blk_frozen q0.out 2))
        go_ret
        exact⟨by first|rfl|(simp [errW_none,errW_some] <;> rfl)|(simp [*,errW_none,errW_some] <;> rfl),by repeat(first|(with_reducible first|exact HB.out|apply pA|apply pN|apply p1|refine pS ?_ GE277.out|refine pS ?_ GE278.out|refine pS ?_ GE285.out|refine pS ?_ GE292.out|refine pS ?_ GE302.out|refine pS ?_ GE303.out|refine pS ?_ GE308.out|refine pS ?_ GE313.out|refine pS ?_ GE334.out)|exact HB.out)⟩
       ·rw [if_neg c182] at H
        have c182b0:(t333 == 0)=false:=beq_eq_false_iff_ne.mpr c182
        have c182b1:(t333 != 0)=true:=bne_iff_ne.mpr c182
        exact absurd ((Option.some.inj H).trans hr_.out) (by decide)
      ·rw [if_neg c180] at H
       have c180b0:(t284 == 0)=false:=beq_eq_false_iff_ne.mpr c180
       have c180b1:(t284 != 0)=true:=bne_iff_ne.mpr c180
       obtain rfl:=Option.some.inj H
       go_wp2
       go_ret
       exact⟨by first|rfl|(simp [errW_none,errW_some] <;> rfl)|(simp [*,errW_none,errW_some] <;> rfl),by repeat(first|(with_reducible first|exact HB.out|apply pA|apply pN|apply p1|refine pS ?_ GE277.out|refine pS ?_ GE278.out|refine pS ?_ GE285.out|refine pS ?_ GE292.out|refine pS ?_ GE302.out|refine pS ?_ GE303.out|refine pS ?_ GE308.out|refine pS ?_ GE313.out)|exact HB.out)⟩

end Go.Proofs.Ytleeadjdepikeaa.PFnCases
