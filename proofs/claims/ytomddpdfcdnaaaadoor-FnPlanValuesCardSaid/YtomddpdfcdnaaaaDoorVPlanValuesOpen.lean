/- How arguments that came in read, by the print's kinds: rows of whatever kind, and how long they are. Plain lemmas over any program. -/
import Derived.ChangeArms
import Derived.ChangeSlices
import Derived.SizedLaws
import Derived.DataReads
import Derived.Test.YtomddpdfcdnaaaaDoorVPlanValues
namespace Go.Proofs.YtomddpdfcdnaaaaDoor.Opn
open Go.Proofs.YtomddpdfcdnaaaaDoorW.PrintWords Go.ChangeShapes Go.WideShapes
variable {H : Type} {enc : TypeId × Value → H} {P : Program} {w : World} {base : Nat} {spare : Nat → Bool} {held : Bool}

theorem add_add (a : Addr) (i j : Nat) : (a.add i).add j = a.add (i + j) := by
  unfold Addr.add
  by_cases h1 : i = 0 <;> by_cases h2 : j = 0 <;> simp [h1, h2, Nat.add_assoc]

/-- A type whose values read as those of a kind. -/
def Opens (enc : TypeId × Value → H) (P : Program) (w : World) (base : Nat) (spare : Nat → Bool) (held : Bool) {α : Type} (d : Kd α) (Q : α → Prop) (t : TypeId) : Prop :=
  ∀ fuel cs x, DataW.trod enc P w base spare held fuel t cs = some x → ∃ y, d.K w y cs ∧ Q y

theorem opens_int {t : TypeId} {k : IntKind} (h : P.underlying t = some (.int k)) : Opens enc P w base spare held (Kd.int k) (fun n => (Lit.int k n).wf = true) t := by
  intro fuel cs x hx
  obtain ⟨n, rfl, _, hw⟩ := DataW.trod_int h hx
  exact ⟨n, rfl, hw⟩
theorem opens_bool {t : TypeId} (h : P.underlying t = some .bool) : Opens enc P w base spare held Kd.bool (fun _ => True) t := by
  intro fuel cs x hx
  obtain ⟨n, rfl, _⟩ := DataW.trod_bool h hx
  exact ⟨n, rfl, trivial⟩

theorem open_row {α : Type} {d : Kd α} {Q : α → Prop} {t e : TypeId} {fuel : Nat} {cs : List Value} {x : DataW H × List MemPlace} (ht : P.underlying t = some (.slice e)) (hc : P.cellsOf e = d.sz) (hd : Opens enc P w base spare held d Q e)
    (hx : DataW.trod enc P w base spare held fuel t cs = some x) :
    ∃ (A : Option Addr) (c : Nat) (xs : List α), cs = [.slice A xs.length c] ∧ xs.length ≤ c ∧ xs.length ≤ maxLen ∧ d.C w A xs.length xs ∧ ∀ y ∈ xs, Q y := by
  rcases DataW.trod_slice ht hx with ⟨rfl, _⟩ | ⟨a, len, cap, elems, rest, n, _, rfl, rfl, hb, hl, hm, hlen, hel, hsp, hns⟩
  · exact ⟨none, 0, [], rfl, Nat.le_refl _, Nat.zero_le _, ⟨rfl, by simp, fun h => absurd h (by simp)⟩, fun y hy => by cases hy⟩
  have each : ∀ i : Fin len, ∃ (y : α) (c : List Value), c.length = d.sz ∧ d.K w y c ∧ Q y ∧ ∀ j u, c[j]? = some u → w.cell? (a.add (i.val * d.sz + j)) = some u := by
    intro i
    have h1 := hel i.val i.isLt
    rw [List.getElem?_eq_getElem (show i.val < elems.length by rw [hlen]; exact i.isLt), Option.bind_eq_some_iff] at h1
    obtain ⟨c, h2, h3⟩ := h1
    obtain ⟨y, hk, hq⟩ := hd _ _ _ h3
    obtain ⟨_, hcl, hcc⟩ := World.cells?_some h2
    refine ⟨y, c, d.K_len hk, hk, hq, fun j u hu => ?_⟩
    have hj : j < P.cellsOf e := by rw [← hcl]; exact (List.getElem?_eq_some_iff.1 hu).1
    have h4 := hcc j hj
    rw [hu, add_add, hc] at h4
    exact h4
  have ch := fun i => (each i).choose_spec
  refine ⟨some a, cap, List.ofFn (fun i => (each i).choose), by simp, by simpa using hl, by simp; omega, ⟨rfl, by simp only [List.length_ofFn]; unfold maxLen at hm; omega, fun _ => ⟨a, rfl, fun j p hp => ?_⟩⟩, fun y hy => ?_⟩
  · obtain ⟨hj, hp⟩ := List.getElem?_eq_some_iff.1 hp
    simp only [List.length_ofFn] at hj
    simp only [List.getElem_ofFn] at hp
    obtain ⟨c, h1, h2, _, h4⟩ := ch ⟨j, hj⟩
    subst hp
    exact ⟨c, h1, h2, fun i u hu => h4 i u hu⟩
  · obtain ⟨i, hi⟩ := List.mem_ofFn.1 hy
    obtain ⟨c, _, _, h3, _⟩ := ch i
    subst hi
    exact h3
theorem opens_row {α : Type} {d : Kd α} {Q : α → Prop} {t e : TypeId} (ht : P.underlying t = some (.slice e)) (hc : P.cellsOf e = d.sz) (hd : Opens enc P w base spare held d Q e) :
    Opens enc P w base spare held (Kd.slice e d) (fun xs => xs.length ≤ maxLen ∧ ∀ y ∈ xs, Q y) t := by
  intro fuel cs x hx
  obtain ⟨A, c, xs, rfl, h1, h2, h3, h4⟩ := open_row ht hc hd hx
  exact ⟨xs, ⟨A, c, rfl, h1, h3⟩, h2, h4⟩

/-- A slice that came in is no longer than its weight allows. -/
theorem sized_row {ts : List TypeId} {ds : List (DataW H)} {j : Nat} {t e : TypeId} {a : Option Addr} {len cap : Nat} {d : DataW H} {ps : List MemPlace}
    (hsz : (DataW.weightsEach P ts ds).all (· ≤ reachBytes) = true) (ht : ts[j]? = some t) (hd : ds[j]? = some d) (hu : P.underlying t = some (.slice e)) {B : Nat} (hB : P.bytesOf e = B)
    (h : DataW.Trod enc P w base spare held t (.slice a len cap) d ps) : len * B ≤ 140737488351232 := by
  obtain ⟨fuel, hf⟩ := h
  rcases DataW.trod_slice hu hf with ⟨hcs, _⟩ | ⟨x, l, c, elems, rest, n, _, hcs, hx, _, _, _, hlen, _⟩
  · simp [Value.cells] at hcs
    obtain ⟨rfl, rfl, rfl⟩ := hcs
    simp
  · simp [Value.cells] at hcs
    obtain ⟨rfl, rfl, rfl⟩ := hcs
    obtain ⟨hx, _⟩ := Prod.mk.inj hx
    subst hx
    have z := sized_slice hsz ht hd hu
    rw [hB] at z
    simp only [List.length_map] at z
    rw [hlen] at z
    exact Nat.le_trans (Nat.mul_le_mul_right _ (Nat.le_add_right _ _)) z
end Go.Proofs.YtomddpdfcdnaaaaDoor.Opn
