/- The law FnExactBestJobOrder: for every input the call returns true, and each argument reads behind it as it read before. Written by a program of this session. -/
import Derived.Test.YtpndkekgoadjkaaRows
import Derived.Test.YtpndkekgoadjkaaSayFnExactBestJobOrder
import Derived.Test.YtpndkekgoadjkaaPureFnExactBestJobOrder
import Derived.Test.YtpndkekgoadjkaaOpen
import Derived.WalkKit
import Derived.ProofKit
import Derived.OpenShut
import Derived.ShutString
import Derived.ChangeOld
import Derived.Below
import Derived.SizedLaws
import Derived.Carry
namespace Go.Proofs.Ytpndkekgoadjkaa.fnExactBestJobOrder
open Go.ChangeShapes Go.WideShapes Go.ChangeAt Go.RowKit
open Go.ChangeMaps (open_string shut_string)
open Go.Proofs.YtpndkekgoadjkaaW.PrintWords Go.Proofs.Ytpndkekgoadjkaa.PFnExactBestJobOrder
set_option linter.unusedVariables false
theorem own : ownKnob Try.prog.godebug = none := by kernel_rfl
theorem laidOut : laidOutB Try.prog = true := by kernel_rfl
theorem flat62 {H : Type} {enc : TypeId × Value → H} {w : World} {base : Nat} {spare : Nat → Bool} {held : Bool} {fuel : Nat} {cs : List Value} {x : DataW H × List MemPlace} (h : DataW.trod enc Try.prog w base spare held fuel 62 cs = some x) :
    ∃ (n0 : Bool) (n1 : Int) (n2 : Bool), cs = [.bool n0, .int .i64 n1, .bool n2] ∧ (Lit.int .i64 n1).wf = true := by
  obtain ⟨xs, n, _, _, hl, hlen, hf⟩ := DataW.trod_struct Try.underlying62 h
  have hC : Try.prog.cellsOf 62 = 3 := by kernel_rfl
  rw [hC] at hl
  have hc2 : Try.prog.cellsOf 2 = 1 := by kernel_rfl
  have hc4 : Try.prog.cellsOf 4 = 1 := by kernel_rfl
  match cs, hl with
  | [c0, c1, c2], _ =>
  have g0 := hf 0 _ rfl
  rw [List.getElem?_eq_getElem (show 0 < xs.length by rw [hlen]; decide)] at g0
  obtain ⟨n0, e0, _⟩ := DataW.trod_bool Try.underlying4 g0
  simp [hc4] at e0
  have g1 := hf 1 _ rfl
  rw [List.getElem?_eq_getElem (show 1 < xs.length by rw [hlen]; decide)] at g1
  obtain ⟨n1, e1, _, w1⟩ := DataW.trod_int Try.underlying2 g1
  simp [hc2] at e1
  have g2 := hf 2 _ rfl
  rw [List.getElem?_eq_getElem (show 2 < xs.length by rw [hlen]; decide)] at g2
  obtain ⟨n2, e2, _⟩ := DataW.trod_bool Try.underlying4 g2
  simp [hc4] at e2
  subst e0 e1 e2
  exact ⟨n0, n1, n2, rfl, w1⟩
theorem opens62 {H : Type} {enc : TypeId × Value → H} {w : World} {base : Nat} {spare : Nat → Bool} {held : Bool} : Opn.Opens enc Try.prog w base spare held k62 Q62 62 := by
  intro fuel cs x hx
  obtain ⟨n0, n1, n2, rfl, w1⟩ := flat62 hx
  exact ⟨⟨n0, n1, n2⟩, ⟨[.bool n0], [.int .i64 n1, .bool n2], rfl, rfl, ⟨[.int .i64 n1], [.bool n2], rfl, rfl, rfl⟩⟩, ⟨trivial, w1, trivial⟩⟩
set_option maxRecDepth 100000 in
theorem lifted (os : Os) (started : os.Started) (H : Type) (enc : TypeId × Value → H) :
    ReturnsInHanded {} Try.checked os 7 .any (Rows.fnExactBestJobOrderSpec.pre6 enc Try.prog Try.f7 Rows.fnExactBestJobOrderRow.domain false) (Rows.fnExactBestJobOrderSpec.post enc Try.prog Try.f7 false true false false) := by
  refine returnsInHanded_of_change_sized (C := Try.checked) own started (by kernel_rfl) Try.func7
    (ChangeSpec.witness6 (enc := enc) (C := Try.checked) false ⟨#[], #[.slice none 0 0], []⟩ 8 (by kernel_rfl) (by kernel_rfl) (by kernel_rfl) (by kernel_rfl)) ?_
  intro W base args ds gs before hval0 hW hcnd hsz0 _
  have hsz : (DataW.weightsEach Try.prog (Try.f7.params.toList ++ Rows.fnExactBestJobOrderSpec.plain.varTypes Try.prog) (ds ++ gs)).all (· ≤ reachBytes) = true := hsz0
  have hval : ∀ (j : Nat) t v, Try.f7.params[j]? = some t → args[j]? = some v → Value.okWide Try.prog W .any base t v := hval0
  have hW' := hW
  obtain ⟨p, q, hA0, hV, rfl, hfz, hnd⟩ := hW
  have hA : DataW.TrodAll enc Try.prog W 0 (fun _ => true) true Try.f7.params.toList args.toList ds p := hA0
  rw [Try.params7] at hA hval hsz
  obtain ⟨v0, vs0, d0, ds0, p0, q0, hargs, rfl, rfl, h0, r0⟩ := trodAll_cons hA
  obtain ⟨rfl, rfl, rfl⟩ := trodAll_nil r0
  obtain rfl : args = #[v0] := by cases args; simp_all
  obtain ⟨rfl, rfl⟩ := trodVars_none hV
  obtain ⟨A0, n0, c0, rfl⟩ := okWide_slice Try.underlying35 (hval 0 35 v0 rfl rfl)
  have k0 := h0
  have lt0 : ∀ x ∈ p0, x.block < W.heap.size := by obtain ⟨m, hm⟩ := k0; exact DataW.trod_lt m _ _ _ hm
  have hs0 : n0 * 24 ≤ 140737488351232 := Opn.sized_row hsz (j := 0) (t := 35) rfl rfl Try.underlying35 (by kernel_rfl) h0
  obtain ⟨fu0, hf0⟩ := h0
  obtain ⟨A0_, c0_, l0, he0, hc0, hm0, hr0, hq0⟩ := Opn.open_row Try.underlying35 (by kernel_rfl) (Opn.opens_row Try.underlying22 (by kernel_rfl) opens62) hf0
  simp [Value.cells] at he0
  obtain ⟨rfl, rfl, rfl⟩ := he0
  clear hA0 hval0 hsz0 hsz
  refine (PFnExactBestJobOrder.laws_FnExactBestJobOrder.walk Pure.FnExactBestJobOrder A0 c0 l0 W hr0 hc0 hm0 hs0 hq0).mono fun e W' ⟨he, bel⟩ => ?_
  subst he
  exact ⟨_, rfl, _, _, _, [], _, [], hW', trodAll_mk1 (shut_bool Try.underlying4 _), (trodAll_cons_mk (Below.trod laidOut (by kernel_rfl) (of_decide_eq_true (by kernel_rfl)) k0 bel lt0) trodAll_mk0), rfl, bel.frame _, fun h => by cases h⟩
theorem over : Rows.fnExactBestJobOrderRow.holds Try.pinned (OpenSpec.ofChange Rows.fnExactBestJobOrderSpec) :=
  OpenClaim.holds_of_wide 7 Try.f7 rfl rfl rfl rfl rfl rfl rfl ⟨rfl, rfl, rfl, rfl, rfl⟩ rfl rfl rfl rfl rfl (by kernel_rfl) Try.func7 (by kernel_rfl)
    (of_decide_eq_true (by kernel_rfl)) (by unfold Func.isWrapper; first | (rw [if_pos (by decide +kernel)]; kernel_rfl) | (rw [if_neg (by decide +kernel)]; exact ⟨rfl, rfl⟩))
    (fun os started H enc _ => lifted os started H enc)
theorem proved : Rows.FnExactBestJobOrderSaid := over
end Go.Proofs.Ytpndkekgoadjkaa.fnExactBestJobOrder
namespace Go.Proofs.Ytpndkekgoadjkaa
/-- The row, under a short name, for the claim. -/
theorem fnExactBestJobOrder_holds : Rows.FnExactBestJobOrderSaid := fnExactBestJobOrder.proved
#print axioms fnExactBestJobOrder_holds
end Go.Proofs.Ytpndkekgoadjkaa
