/- The listed variable 'strandline/crc.half': from the row's condition to the table's cells; a world that meets it. -/
import Derived.Test.YthhbilkmdfdfiaaDoorRows
import Derived.Test.YthhbilkmdfdfiaaDoorHcrc
import Derived.WalkKit
import Derived.ProofKit
import Derived.LaidMore
import Derived.OpenShut
import Derived.ShutString
import Derived.ChangeOld
import Derived.Below
import Derived.SizedLaws
import Derived.Lib.SmallJoins
import Derived.Stop.Joined
namespace Go.Proofs.YthhbilkmdfdfiaaDoor.Door
open Go.ChangeShapes Go.WideShapes Go.ChangeAt Go.RowKit
set_option linter.unusedVariables false
theorem own : ownKnob Tryd.prog.godebug = none := by kernel_rfl
theorem laidOut : laidOutB Tryd.prog = true := by kernel_rfl
theorem gHalf : Tryd.prog.globalNamed "strandline/crc.half" = some 0 := by kernel_rfl
theorem tHalf : (Tryd.prog.globals[0]?).map (·.type) = some 107 := by kernel_rfl
abbrev laid1 : List (String × DataW Unit) := [("strandline/crc.half", Rows.laid_strandline_crc_half)]
theorem door_met (os : Os) (args : Array Value) : laidMetH Tryd.prog laid1 ((World.doorLaid Tryd.prog 400 os).forCall (fun _ _ => 0) ⟨#[], args, []⟩).memory :=
  laidMetH_of_parts3 (fuel := 8) (laidMet_of_run' 8 (by kernel_rfl) (by kernel_rfl)) (by kernel_rfl) (by kernel_rfl)
theorem laid_list : (Rows.laid_strandline_crc_half : DataW Unit) = .agg (F.halfL.map fun z => .lit (.int .u32 z)) := rfl
theorem half_of {W : World} (h : laidMetH Tryd.prog laid1 W) : F.Half W := by
  rw [MakeChecks.laidMetH_plain _ _ _ (by kernel_rfl)] at h
  obtain ⟨ps, ⟨g0, t0, cs0, f0, p0, q0, hg0, ht0, hv0, hd0, _, _⟩, _⟩ := h
  obtain rfl := Option.some.inj (gHalf.symm.trans hg0)
  obtain rfl := Option.some.inj (tHalf.symm.trans ht0)
  obtain ⟨xs, m1, rfl, hx1, hlen, hn, hel⟩ := DataW.trod_array Tryd.underlying107 hd0
  have c1 : Tryd.prog.cellsOf 22 = 1 := by kernel_rfl
  simp only [Prod.mk.injEq] at hx1
  have hx := hx1.1
  rw [laid_list] at hx
  have hx' : F.halfL.map (fun z => (DataW.lit (.int .u32 z) : DataW Unit)) = xs.map (·.1) := by injection hx
  intro i hi
  rw [World.var?_cell hg0 hv0 i]
  have he := hel i hi
  rw [c1, Nat.mul_one, List.getElem?_eq_getElem (by omega)] at he
  obtain ⟨n, e1, e2, -⟩ := DataW.trod_int Tryd.underlying22 he
  have h3 := congrArg (fun l => l[i]?) hx'
  simp only [List.getElem?_map] at h3
  rw [List.getElem?_eq_getElem (show i < xs.length by omega), e2] at h3
  have hl : i < F.halfL.length := hi
  rw [List.getElem?_eq_getElem hl] at h3
  simp at h3
  have h4 : cs0.toList[i]? = some (.int .u32 n) := by
    have := congrArg (fun l => l[0]?) e1
    simpa using this
  rw [List.getD_eq_getElem?_getD, List.getElem?_eq_getElem hl]
  rw [← Array.getElem?_toList, h4]
  simp [h3]
end Go.Proofs.YthhbilkmdfdfiaaDoor.Door
