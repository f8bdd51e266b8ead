/- An argument api.Crash by value. -/
import Derived.Test.YthlpimojojofbaaOpenN
namespace Go.Proofs.Ythlpimojojofbaa.F
open Go.ChangeShapes Go.WideShapes Go.ChangeAt Go.RowKit Go.Joins Go.Deep Go.Proofs.YthlpimojojofbaaW.PrintWords
set_option linter.unusedVariables false
section
variable {H : Type} {enc : TypeId × Value → H} {W : World} {held : Bool}
set_option maxRecDepth 100000 in
theorem open_crash {r : Reach} {b0 : Nat} {v : Value} {d : DataW H} {p : List MemPlace} (hv : Value.okWide Try.prog W r b0 37 v) (h : DataW.Trod enc Try.prog W 0 (fun _ => true) held 37 v d p) (hw : Fit Try.prog 37 d) :
    ∃ (A : Option Addr) (xs : List Int) (c : Nat) (t u : Int), v = .agg #[.slice A xs.length c, .int .i64 t, .int .i64 u] ∧ xs.length ≤ c ∧ (Kd.int .u8).C W A xs.length xs ∧ (∀ x ∈ xs, (Lit.int .u8 x).wf = true) := by
  simp only [Value.okWide, Try.underlying37] at hv
  obtain ⟨cs, rfl, -, -⟩ := hv
  obtain ⟨fuel, hf⟩ := h
  obtain ⟨y0, y1, y2, m, hx, hl, h0, h1, h2⟩ := trod_struct3 Try.underlying37 hf
  have hl3 : (Value.agg cs).cells.toList.length = 3 := hl.trans (by kernel_rfl)
  obtain ⟨c0, c1, c2, hcs⟩ : ∃ a b c, (Value.agg cs).cells.toList = [a, b, c] := by
    match h9 : (Value.agg cs).cells.toList, hl3 with
    | [a, b, c], _ => exact ⟨a, b, c, rfl⟩
  rw [hcs] at h0 h1 h2
  rw [show Try.prog.cellsOf 3 = 1 by kernel_rfl] at h1 h2
  rw [show Try.prog.cellsOf 35 = 1 by kernel_rfl] at h0
  obtain ⟨z1, e1, -, -⟩ := DataW.trod_int Try.underlying3 h1
  obtain ⟨z2, e2, -, -⟩ := DataW.trod_int Try.underlying3 h2
  injection hx with hx1 hx2
  subst hx1
  have hf0 : Fit Try.prog 35 y0.1 := by
    intro q hq
    refine hw q ?_
    simp only [DataW.weights, Try.underlying37]
    simp only [DataW.weightsEach, List.map_cons, List.map_nil, List.mem_append]
    exact Or.inl hq
  obtain ⟨A, xs, c, e0, l0, g0, b0, -⟩ := open_C_ints Try.underlying35 Try.underlying5 (by kernel_rfl) h0 hf0
  simp at e0 e1 e2
  subst e0 e1 e2
  refine ⟨A, xs, c, z1, z2, ?_, l0, g0, b0⟩
  have : cs.toList = [.slice A xs.length c, .int .i64 z1, .int .i64 z2] := hcs
  have e9 : cs = [.slice A xs.length c, .int .i64 z1, .int .i64 z2].toArray := by rw [← this]
  rw [e9]
end
end Go.Proofs.Ythlpimojojofbaa.F
