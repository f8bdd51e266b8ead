/- An argument api.Frag by value. -/
import Derived.Test.YthhbilkmdfdfiaaDoorOpenN
namespace Go.Proofs.YthhbilkmdfdfiaaDoor.F
open Go.ChangeShapes Go.WideShapes Go.ChangeAt Go.RowKit Go.Joins Go.Deep Go.Proofs.YthhbilkmdfdfiaaDoorW.PrintWords
set_option linter.unusedVariables false
section
variable {H : Type} {enc : TypeId × Value → H} {W : World} {held : Bool}
set_option maxRecDepth 100000 in
theorem open_frag {r : Reach} {b0 : Nat} {v : Value} {d : DataW H} {p : List MemPlace} (hv : Value.okWide Tryd.prog W r b0 37 v) (h : DataW.Trod enc Tryd.prog W 0 (fun _ => true) held 37 v d p) (hw : Fit Tryd.prog 37 d) :
    ∃ (A : Option Addr) (xs : List Int) (c : Nat) (k u : Int), v = .agg #[.int .i64 k, .int .u32 u, .slice A xs.length c] ∧ xs.length ≤ c ∧ (Kd.int .u8).C W A xs.length xs ∧ (∀ x ∈ xs, (Lit.int .u8 x).wf = true) ∧ (Lit.int .u32 u).wf = true ∧ xs.length ≤ reachBytes := by
  simp only [Value.okWide, Tryd.underlying37] at hv
  obtain ⟨cs, rfl, -, -⟩ := hv
  obtain ⟨fuel, hf⟩ := h
  obtain ⟨y0, y1, y2, m, hx, hl, h0, h1, h2⟩ := trod_struct3 Tryd.underlying37 hf
  have hl3 : (Value.agg cs).cells.toList.length = 3 := hl.trans (by kernel_rfl)
  obtain ⟨c0, c1, c2, hcs⟩ : ∃ a b c, (Value.agg cs).cells.toList = [a, b, c] := by
    match h9 : (Value.agg cs).cells.toList, hl3 with
    | [a, b, c], _ => exact ⟨a, b, c, rfl⟩
  rw [hcs] at h0 h1 h2
  rw [show Tryd.prog.cellsOf 3 = 1 by kernel_rfl] at h0
  rw [show Tryd.prog.cellsOf 22 = 1 by kernel_rfl] at h1
  rw [show Tryd.prog.cellsOf 23 = 1 by kernel_rfl] at h2
  obtain ⟨z0, e0, -, -⟩ := DataW.trod_int Tryd.underlying3 h0
  obtain ⟨z1, e1, -, u1⟩ := DataW.trod_int Tryd.underlying22 h1
  injection hx with hx1 hx2
  subst hx1
  have hf2 : Fit Tryd.prog 23 y2.1 := by
    intro q hq
    refine hw q ?_
    simp only [DataW.weights, Tryd.underlying37]
    simp only [DataW.weightsEach, List.map_cons, List.map_nil, List.mem_append]
    exact Or.inr (Or.inr (Or.inl hq))
  obtain ⟨A, xs, c, e2, l2, g2, b2, n2⟩ := open_C_ints Tryd.underlying23 Tryd.underlying5 (by kernel_rfl) h2 hf2
  rw [show Tryd.prog.bytesOf 5 = 1 by kernel_rfl, Nat.mul_one] at n2
  simp at e0 e1 e2
  subst e0 e1 e2
  refine ⟨A, xs, c, z0, z1, ?_, l2, g2, b2, u1, n2⟩
  have : cs.toList = [.int .i64 z0, .int .u32 z1, .slice A xs.length c] := hcs
  have e9 : cs = [.int .i64 z0, .int .u32 z1, .slice A xs.length c].toArray := by rw [← this]
  rw [e9]
end
end Go.Proofs.YthhbilkmdfdfiaaDoor.F
