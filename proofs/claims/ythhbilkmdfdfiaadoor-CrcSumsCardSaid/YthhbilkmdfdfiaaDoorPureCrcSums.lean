/- For every sum and every bytes (at most 20000): crc's sums are the reference's; the mask and back. No condition beyond the statement's own. -/
import Derived.Test.YthhbilkmdfdfiaaDoorFlCrcSums
import Derived.Test.YthhbilkmdfdfiaaDoorCrcMath
set_option linter.unusedVariables false
set_option linter.unusedSimpArgs false
namespace Go.Proofs.YthhbilkmdfdfiaaDoor.Pure
open Go.RowKit Go.Proofs.YthhbilkmdfdfiaaDoor.F Go.Proofs.YthhbilkmdfdfiaaDoorW.PrintWords Go.Proofs.YthhbilkmdfdfiaaDoorW.PrintLast Go.Proofs.YthhbilkmdfdfiaaDoorW.PrintMore Go.Proofs.YthhbilkmdfdfiaaDoor.Plain Go.Proofs.YthhbilkmdfdfiaaDoor.CrcMath
theorem okB_of {l : List Int} (h : ∀ c ∈ l, 0 ≤ c ∧ c ≤ 255) : okB l = true := List.all_eq_true.2 fun c hc => decide_eq_true (h c hc)
theorem CrcSums (a0 : Int) (l1 : List Int) (h0 : 0 ≤ a0) (h1 : a0 ≤ 4294967295) (hb : ∀ c ∈ l1, 0 ≤ c ∧ c ≤ 255) : ∃ k, strandlinelaw03_CrcSums.f k a0 l1 = some true := by
  obtain ⟨n, rfl⟩ := Int.eq_ofNat_of_zero_le h0
  have hn : n < 4294967296 := by omega
  by_cases c : (l1.length : Int) > 20000
  · refine ⟨0, ?_⟩
    unfold strandlinelaw03_CrcSums.f
    rw [if_pos c]
    rfl
  · refine ⟨0 + 10 * l1.length + 1, ?_⟩
    unfold strandlinelaw03_CrcSums.f
    have ho : crc_Of.f l1 = some (moreI 0 l1) := by unfold crc_Of.f; rw [if_pos (okB_of hb)]
    have hm : crc_More.f n l1 = some (moreI n l1) := by unfold crc_More.f; rw [if_pos ⟨h0, h1, okB_of hb⟩]
    have hM : (n / 32768 + n % 32768 * 131072 + 2726488792) % 4294967296 < 4294967296 := Nat.mod_lt _ (by decide)
    have hU : ((n + 1568478504) % 4294967296 % 131072 * 32768 + (n + 1568478504) % 4294967296 / 131072) < 4294967296 := by omega
    rw [if_neg c, ho, Option.bind_some, rof_eq l1 hb (by omega), Option.bind_some, if_pos rfl, hm, Option.bind_some, rmore_eq hn l1 hb (by omega), Option.bind_some, if_pos rfl,
      mask_eq hn, Option.bind_some, rmask_eq hn, Option.bind_some, if_pos rfl, Option.bind_some, unmask_eq hM, Option.bind_some, if_pos (back1 hn), unmask_eq hn, Option.bind_some, mask_eq hU, Option.bind_some, if_pos (back2 hn)]
    rfl
end Go.Proofs.YthhbilkmdfdfiaaDoor.Pure
