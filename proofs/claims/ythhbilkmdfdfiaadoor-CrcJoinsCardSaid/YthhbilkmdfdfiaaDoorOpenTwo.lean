/- An argument [2][]uint8 by value. -/
import Derived.Test.YthhbilkmdfdfiaaDoorOpenN
namespace Go.Proofs.YthhbilkmdfdfiaaDoor.F
open Go.ChangeShapes Go.WideShapes Go.ChangeAt Go.RowKit Go.Joins Go.Deep Go.Proofs.YthhbilkmdfdfiaaDoorW.PrintWords
set_option linter.unusedVariables false
section
variable {H : Type} {enc : TypeId × Value → H} {W : World} {held : Bool}
set_option maxRecDepth 100000 in
theorem open_two {r : Reach} {b0 : Nat} {v : Value} {d : DataW H} {p : List MemPlace} (hv : Value.okWide Tryd.prog W r b0 32 v) (h : DataW.Trod enc Tryd.prog W 0 (fun _ => true) held 32 v d p) (hw : Fit Tryd.prog 32 d) :
    ∃ (A B : Option Addr) (xs ys : List Int) (c e : Nat), v = .agg #[.slice A xs.length c, .slice B ys.length e] ∧ xs.length ≤ c ∧ ys.length ≤ e ∧ (Kd.int .u8).C W A xs.length xs ∧ (Kd.int .u8).C W B ys.length ys ∧ (∀ x ∈ xs, (Lit.int .u8 x).wf = true) ∧ (∀ x ∈ ys, (Lit.int .u8 x).wf = true) ∧ xs.length ≤ reachBytes ∧ ys.length ≤ reachBytes := by
  simp only [Value.okWide, Tryd.underlying32] at hv
  obtain ⟨cs, rfl, -, -⟩ := hv
  obtain ⟨fuel, hf⟩ := h
  obtain ⟨zs, m1, rfl, hx1, hlen, hn, hel⟩ := DataW.trod_array Tryd.underlying32 hf
  have hl2 : (Value.agg cs).cells.toList.length = 2 := hlen.trans (by kernel_rfl)
  obtain ⟨c0, c1, hcs⟩ : ∃ a b, (Value.agg cs).cells.toList = [a, b] := by
    match h9 : (Value.agg cs).cells.toList, hl2 with
    | [a, b], _ => exact ⟨a, b, rfl⟩
  obtain ⟨y0, y1, rfl⟩ : ∃ a b, zs = [a, b] := by
    match zs, hn with
    | [a, b], _ => exact ⟨a, b, rfl⟩
  have h0 := hel 0 (by decide)
  have h1 := hel 1 (by decide)
  rw [hcs, show Tryd.prog.cellsOf 23 = 1 by kernel_rfl] at h0 h1
  injection hx1 with hx1 hx2
  subst hx1
  have fit : ∀ y ∈ [y0.1, y1.1], Fit Tryd.prog 23 y := by
    intro y hy q hq
    refine hw q ?_
    simp only [DataW.weights, Tryd.underlying32]
    exact weightsAll_mem hy q hq
  obtain ⟨A, xs, c, e0, l0, g0, b0, n0⟩ := open_C_ints Tryd.underlying23 Tryd.underlying5 (by kernel_rfl) h0 (fit _ (by simp))
  obtain ⟨B, ys, e, e1, l1, g1, b1, n1⟩ := open_C_ints Tryd.underlying23 Tryd.underlying5 (by kernel_rfl) h1 (fit _ (by simp))
  rw [show Tryd.prog.bytesOf 5 = 1 by kernel_rfl, Nat.mul_one] at n0 n1
  simp at e0 e1
  subst e0 e1
  refine ⟨A, B, xs, ys, c, e, ?_, l0, l1, g0, g1, b0, b1, n0, n1⟩
  have : cs.toList = [.slice A xs.length c, .slice B ys.length e] := hcs
  have e9 : cs = [Value.slice A xs.length c, .slice B ys.length e].toArray := by rw [← this]
  rw [e9]
end
end Go.Proofs.YthhbilkmdfdfiaaDoor.F
