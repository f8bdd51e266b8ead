/- An argument that is a slice of arrays of numbers: its cells as one list. -/
import Derived.Test.YthlpimojojofbaaOpenN
import Derived.Test.YthlpimojojofbaaRd
import Derived.Test.YthlpimojojofbaaStampLaw
namespace Go.Proofs.Ythlpimojojofbaa.O
open Go.RowKit Go.Proofs.YthlpimojojofbaaW.PrintWords Go.Proofs.YthlpimojojofbaaW.PrintLast Go.Proofs.YthlpimojojofbaaW.PrintMore Go.Proofs.Ythlpimojojofbaa.F Go.Proofs.Ythlpimojojofbaa.F.Nums Go.Proofs.Ythlpimojojofbaa.Plain Go.ChangeShapes Go.WideShapes Go.Joins Go.Deep
set_option linter.unusedVariables false
section
variable {H : Type} {enc : TypeId × Value → H} {P : Program} {W : World} {held : Bool}
def flatOf (f : Nat → List Int) : Nat → List Int
  | 0 => []
  | i + 1 => flatOf f i ++ f i
theorem open_R {t e q : TypeId} {k : IntKind} {m : Nat} (ht : P.underlying t = some (.slice e)) (he : P.underlying e = some (.array m q)) (hq : P.underlying q = some (.int k)) (hc : P.cellsOf q = 1) (hce : P.cellsOf e = m)
    {fuel : Nat} {cs : List Value} {y : DataW H × List MemPlace} (h : DataW.trod enc P W 0 (fun _ => true) held fuel t cs = some y) (hw : Fit P t y.1) :
    ∃ (A : Option Addr) (n c : Nat) (fl : List Int), cs = [.slice A n c] ∧ n ≤ c ∧ n ≤ 9223372036854775807 ∧ Rd W A (nums k fl) ∧ fl.length = m * n ∧ (∀ x ∈ fl, (Lit.int k x).wf = true) ∧ n * P.bytesOf e ≤ reachBytes := by
  rcases Deep.open_slice ht h with ⟨rfl, rfl⟩ | ⟨a, len, cap, cc, n, D, Pl, rfl, hb, hl, hm, hmm, rfl, hx⟩
  · exact ⟨none, 0, 0, [], rfl, Nat.le_refl _, by omega, fun h => absurd h (by simp [nums]), by simp, by simp, by simp⟩
  · simp only [if_true] at hmm
    subst hmm
    have each : ∀ i, i < len → ∃ x : List Int, W.cells? 0 (a.add (i * m)) m = some (nums k x) ∧ x.length = m ∧ ∀ z ∈ x, (Lit.int k z).wf = true := by
      intro i hi
      obtain ⟨cs', h1, h2⟩ := hx i (by omega)
      obtain ⟨x, e1, e2, e3⟩ := open_array_cells he hq hc hce h2
      rw [hce, e1] at h1
      exact ⟨x, h1, e2, e3⟩
    obtain ⟨f, hf⟩ := pick (γ := Unit) each
    have hfl : ∀ i, i ≤ len → (flatOf f i).length = m * i ∧ (∀ j v, (nums k (flatOf f i))[j]? = some v → W.cell? (a.add j) = some v) ∧ ∀ z ∈ flatOf f i, (Lit.int k z).wf = true := by
      intro i
      induction i with
      | zero => exact fun _ => ⟨rfl, fun j v hj => by simp [flatOf, nums] at hj, fun z hz => by cases hz⟩
      | succ i ih =>
        intro hi
        obtain ⟨i1, i2, i3⟩ := ih (by omega)
        obtain ⟨f1, f2, f3⟩ := hf i (by omega)
        unfold flatOf
        refine ⟨by rw [List.length_append, i1, f2, Nat.mul_succ], fun j v hj => ?_, fun z hz => ?_⟩
        · rw [← nums_app] at hj
          by_cases hlt : j < m * i
          · rw [List.getElem?_append_left (by rw [nums_length, i1]; exact hlt)] at hj
            exact i2 j v hj
          · rw [List.getElem?_append_right (by rw [nums_length, i1]; omega), nums_length, i1] at hj
            obtain ⟨-, l1, h2⟩ := World.cells?_some f1
            have hlt2 : j - m * i < m := by have := (List.getElem?_eq_some_iff.1 hj).1; rw [nums_length, f2] at this; exact this
            have := h2 (j - m * i) hlt2
            rw [Deep.add_add, show i * m + (j - m * i) = j by rw [Nat.mul_comm i m]; omega] at this
            rw [this, hj]
        · rcases List.mem_append.1 hz with hz | hz
          · exact i3 z hz
          · exact f3 z hz
    obtain ⟨g1, g2, g3⟩ := hfl len (Nat.le_refl _)
    refine ⟨some a, len, _, flatOf f len, rfl, hl, ?_, fun _ => ⟨a, rfl, g2⟩, g1, g3, ?_⟩
    · have : maxLen = 9223372036854775807 := by decide
      omega
    · have := fit_len ht hw
      rw [List.length_map, List.length_range] at this
      exact Nat.le_trans (Nat.mul_le_mul_right _ (by omega)) this
end
end Go.Proofs.Ythlpimojojofbaa.O
