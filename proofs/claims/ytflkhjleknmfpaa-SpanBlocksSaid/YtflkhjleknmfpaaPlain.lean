/- Small laws of whole numbers that the seat's pure statements use: no program, no memory. -/
import Derived.Test.YtflkhjleknmfpaaWMore
import Derived.Laws.BitsAllLaws
import Derived.Laws.Bits64
import Derived.OpenShut
namespace Go.Proofs.Ytflkhjleknmfpaa.Plain
open Go.RowKit Go.Proofs.YtflkhjleknmfpaaW.PrintWords Go.Proofs.YtflkhjleknmfpaaW.PrintLast Go.Proofs.YtflkhjleknmfpaaW.PrintMore

theorem w64 {n : Int} (h0 : -9223372036854775808 ≤ n) (h1 : n ≤ 9223372036854775807) : wrap64 n = n := by
  unfold wrap64
  omega
theorem wu64 {n : Int} (h0 : 0 ≤ n) (h1 : n ≤ 18446744073709551615) : IntKind.u64.wrap n = n := by
  rw [IntKind.wrap_u64]
  omega
theorem wu32 {n : Int} (h0 : 0 ≤ n) (h1 : n ≤ 4294967295) : IntKind.u32.wrap n = n := by
  rw [IntKind.wrap_u32]
  omega
theorem td {a b : Int} (h : 0 ≤ a) : Int.tdiv a b = a / b := Int.tdiv_eq_ediv_of_nonneg h
theorem tm {a b : Int} (h : 0 ≤ a) : Int.tmod a b = a % b := Int.tmod_eq_emod_of_nonneg h

/-- A place as the nearer one of 0 and 832. -/
def cl (a : Int) : Int := if a < 0 then 0 else if 832 < a then 832 else a
theorem cl_lo (a : Int) : 0 ≤ cl a := by unfold cl; split <;> (try split) <;> omega
theorem cl_hi (a : Int) : cl a ≤ 832 := by unfold cl; split <;> (try split) <;> omega
theorem cl_in {a : Int} (h0 : 0 ≤ a) (h1 : a ≤ 832) : cl a = a := by unfold cl; rw [if_neg (by omega), if_neg (by omega)]
theorem cl_cl (a : Int) : cl (cl a) = cl a := cl_in (cl_lo a) (cl_hi a)
theorem near_cl (a : Int) : mx 0 (mn a 832) = cl a := by
  unfold mx mn cl
  by_cases h1 : a < 0 <;> by_cases h2 : 832 < a <;> simp [h1, h2] <;> omega
/-- Where what comes next begins; what is left of a block. -/
def bg (n : Int) : Int := if 41 < n % 52 then n + (52 - n % 52) else n
def lf (n : Int) : Int := if n = 832 then 0 else 208 - n % 208
/-- The sectors that are touched. -/
def tch (a b : Int) : Int × Int := if a ≥ b then (0, 0) else (a / 52, (b - 1) / 52 + 1)
theorem bg_lo {n : Int} (h : 0 ≤ n) : 0 ≤ bg n := by unfold bg; split <;> omega
theorem bg_hi {n : Int} (h : n ≤ 832) : bg n ≤ 832 := by unfold bg; split <;> omega
theorem bg_ge (n : Int) : n ≤ bg n := by unfold bg; split <;> omega
theorem bg_mod (n : Int) : bg n % 52 ≤ 41 := by unfold bg; split <;> omega
theorem bg_bg (n : Int) : bg (bg n) = bg n := by
  have := bg_mod n
  generalize bg n = m at *
  unfold bg
  rw [if_neg (by omega)]

end Go.Proofs.Ytflkhjleknmfpaa.Plain
