/- An argument api.Header by value. -/
import Derived.Test.YthhbilkmdfdfiaaDoorOpenN
namespace Go.Proofs.YthhbilkmdfdfiaaDoor.F
open Go.ChangeShapes Go.WideShapes Go.ChangeAt Go.RowKit Go.Joins Go.Deep Go.Proofs.YthhbilkmdfdfiaaDoorW.PrintWords
set_option linter.unusedVariables false
section
variable {H : Type} {enc : TypeId × Value → H} {W : World} {held : Bool}
set_option maxRecDepth 100000 in
theorem open_header {r : Reach} {b0 : Nat} {v : Value} {d : DataW H} {p : List MemPlace} (hv : Value.okWide Tryd.prog W r b0 54 v) (h : DataW.Trod enc Tryd.prog W 0 (fun _ => true) held 54 v d p) :
    ∃ ep seq fi h0 h1 h2 h3 : Int, v = .agg #[.int .u64 ep, .int .i64 seq, .int .i64 fi, .int .i64 h0, .int .i64 h1, .int .i64 h2, .int .i64 h3] ∧ 0 ≤ ep ∧ ep ≤ 18446744073709551615 := by
  simp only [Value.okWide, Tryd.underlying54] at hv
  obtain ⟨cs, rfl, -, -⟩ := hv
  obtain ⟨fuel, hf⟩ := h
  obtain ⟨y0, y1, y2, y3, m, hx, hl, h0, h1, h2, h3⟩ := trod_struct4 Tryd.underlying54 hf
  have hl7 : (Value.agg cs).cells.toList.length = 7 := hl.trans (by kernel_rfl)
  obtain ⟨c0, c1, c2, c3, c4, c5, c6, hcs⟩ : ∃ a b c d e f g, (Value.agg cs).cells.toList = [a, b, c, d, e, f, g] := by
    match h9 : (Value.agg cs).cells.toList, hl7 with
    | [a, b, c, d, e, f, g], _ => exact ⟨a, b, c, d, e, f, g, rfl⟩
  rw [hcs] at h0 h1 h2 h3
  rw [show Tryd.prog.cellsOf 51 = 1 by kernel_rfl] at h0
  rw [show Tryd.prog.cellsOf 3 = 1 by kernel_rfl] at h1 h2
  rw [show Tryd.prog.cellsOf 52 = 4 by kernel_rfl] at h3
  obtain ⟨z0, e0, -, u0⟩ := DataW.trod_int Tryd.underlying51 h0
  obtain ⟨z1, e1, -, -⟩ := DataW.trod_int Tryd.underlying3 h1
  obtain ⟨z2, e2, -, -⟩ := DataW.trod_int Tryd.underlying3 h2
  obtain ⟨xs, e3, l3, -⟩ := open_array_cells Tryd.underlying52 Tryd.underlying3 (by kernel_rfl) (by kernel_rfl) h3
  obtain ⟨a, b, c, d, rfl⟩ := list4 l3
  simp at e0 e1 e2 e3
  obtain ⟨e3, e4, e5, e6⟩ := e3
  subst e0 e1 e2 e3 e4 e5 e6
  have u := wf_u64 u0
  refine ⟨z0, z1, z2, a, b, c, d, ?_, u.1, u.2⟩
  have : cs.toList = [.int .u64 z0, .int .i64 z1, .int .i64 z2, .int .i64 a, .int .i64 b, .int .i64 c, .int .i64 d] := hcs
  have e9 : cs = [Value.int .u64 z0, .int .i64 z1, .int .i64 z2, .int .i64 a, .int .i64 b, .int .i64 c, .int .i64 d].toArray := by rw [← this]
  rw [e9]
end
end Go.Proofs.YthhbilkmdfdfiaaDoor.F
