/- The reference's byte of a sealed sector is stamp.Seal's. Plain. -/
import Derived.Test.YthlpimojojofbaaStamp
import Derived.Test.YthlpimojojofbaaFkStrandlineref01
set_option linter.unusedVariables false
set_option linter.unusedSimpArgs false
namespace Go.Proofs.Ythlpimojojofbaa.F
namespace Nums
open Go.RowKit Go.Proofs.YthlpimojojofbaaW.PrintWords Go.Proofs.YthlpimojojofbaaW.PrintLast Go.Proofs.YthlpimojojofbaaW.PrintMore Go.Proofs.Ythlpimojojofbaa.Plain
theorem rput_l (n : Nat) (hn : n < 18446744073709551616) (w : Int) (hw : w ≤ 9223372036854775807) (d : Nat) : ∀ (k i : Nat), i ≤ (cl8 w).toNat → (cl8 w).toNat - i = d → d < k →
    strandlineref01_Put.l0 k ((n / 256 ^ i : Nat) : Int) w (putl n i) i = some (putl n (cl8 w).toNat) := by
  have h : 0 ≤ cl8 w ∧ cl8 w ≤ 8 := by unfold cl8; split <;> (try split) <;> omega
  induction d with
  | zero =>
    intro k i h1 hd hk
    obtain ⟨k, rfl⟩ : ∃ m, k = m + 1 := ⟨k - 1, by omega⟩
    simp only [strandlineref01_Put.l0]
    have hi : i = (cl8 w).toNat := by omega
    rw [← hi]
    by_cases h2 : (i : Int) < w
    · rw [if_pos h2, if_neg (by unfold cl8 at hi; split at hi <;> (try split at hi) <;> omega)]
    · rw [if_neg h2]
  | succ d ih =>
    intro k i h1 hd hk
    obtain ⟨k, rfl⟩ : ∃ m, k = m + 1 := ⟨k - 1, by omega⟩
    simp only [strandlineref01_Put.l0]
    have hr := ih k (i + 1) (by omega) (by omega) (by omega)
    have hw2 : (i : Int) < w ∧ (i : Int) < 8 := by
      have : (i : Int) < cl8 w := by omega
      unfold cl8 at this
      split at this
      · omega
      · split at this <;> omega
    have hle : n / 256 ^ i ≤ n := Nat.div_le_self _ _
    have hnext : n / 256 ^ (i + 1) = n / 256 ^ i / 256 := by rw [Nat.pow_succ, Nat.div_div_eq_div_mul]
    rw [if_pos hw2.1, if_pos hw2.2, putl_len, if_pos (by omega), w64 (n := (i : Int) + 1) (by omega) (by omega)]
    rw [hnext] at hr
    rw [show putl n (i + 1) = putl n i ++ [((n / 256 ^ i % 256 : Nat) : Int)] from rfl] at hr
    generalize n / 256 ^ i = q at *
    rw [td (a := (q : Int)) (by omega), tm (a := (q : Int)) (by omega), wu64 (n := (q : Int) / 256) (by omega) (by omega), show (q : Int) % 256 % 256 = ((q % 256 : Nat) : Int) by omega, show (q : Int) / 256 = ((q / 256 : Nat) : Int) by omega]
    exact hr
theorem rput_eq (k : Nat) (hk : 8 < k) (n : Nat) (hn : n < 18446744073709551616) (w : Int) (hw : w ≤ 9223372036854775807) : strandlineref01_Put.f k n w = some (putl n (cl8 w).toNat) := by
  unfold strandlineref01_Put.f
  have h : 0 ≤ cl8 w ∧ cl8 w ≤ 8 := by unfold cl8; split <;> (try split) <;> omega
  have := rput_l n hn w hw (cl8 w).toNat k 0 (by omega) rfl (by omega)
  simpa [putl] using this
theorem splice_get {l cs : List Int} {o : Nat} (h : o + cs.length ≤ l.length) (j : Nat) : (splice l o cs)[j]? = if j < o then l[j]? else if j < o + cs.length then cs[j - o]? else l[j]? := by
  have hl : (l.take o).length = o := by rw [List.length_take]; omega
  unfold splice
  by_cases h1 : j < o
  · rw [if_pos h1, List.getElem?_append_left (by omega), List.getElem?_take_of_lt h1]
  · rw [if_neg h1, List.getElem?_append_right (by omega), hl]
    by_cases h2 : j < o + cs.length
    · rw [if_pos h2, List.getElem?_append_left (by omega)]
    · rw [if_neg h2, List.getElem?_append_right (by omega), List.getElem?_drop]
      congr 1
      omega
theorem getD_of {l : List Int} {j : Nat} {z : Int} (h : l[j]? = some z) : l.getD j 0 = z := by rw [List.getD_eq_getElem?_getD, h]; rfl
theorem rd_getD (l : List Int) (j : Nat) : rd l (j : Int) = l.getD j 0 := by unfold rd; rw [Int.toNat_natCast]
theorem byte_eq (k : Nat) (hk : 8 < k) (n : Nat) (hn : n < 18446744073709551616) (i : Int) (room : List Int) (hr : room.length ≤ 140737488355328) (j : Nat) (hj : j < 64) :
    strandlineref06_Byte.f k n i room (j : Int) = some ((sealF n i room).getD j 0) := by
  obtain ⟨m, hm⟩ : ∃ m : Nat, IntKind.u64.wrap i = m := ⟨(IntKind.u64.wrap i).toNat, by rw [IntKind.wrap_u64]; omega⟩
  have hm2 : m < 18446744073709551616 := by rw [IntKind.wrap_u64] at hm; omega
  have L1 := putl_len n 8
  have L2 := putl_len m 4
  have P1 := rput_eq k hk n hn 8 (by decide)
  have P2 := rput_eq k hk m hm2 4 (by decide)
  rw [show (cl8 8).toNat = 8 from rfl] at P1
  rw [show (cl8 4).toNat = 4 from rfl] at P2
  have hl1 : (splice z64b 0 (putl n 8)).length = 64 := by rw [length_splice _ _ _ (by rw [L1]; decide)]; rfl
  have hl2 : (splice (splice z64b 0 (putl n 8)) 8 (putl m 4)).length = 64 := by rw [length_splice _ _ _ (by rw [L2, hl1]; decide), hl1]
  have hz : ∀ j : Nat, j < 64 → z64b[j]? = some 0 := fun j hj => by unfold z64b; rw [List.getElem?_replicate, if_pos hj]
  have e : (sealF n i room)[j]? = if j < 12 then (if j < 8 then (putl n 8)[j]? else (putl m 4)[j - 8]?) else if j < 12 + (room.take 52).length then (room.take 52)[j - 12]? else some 0 := by
    unfold sealF
    rw [Int.toNat_natCast, hm, Int.toNat_natCast, splice_get (by rw [hl2, List.length_take]; omega), splice_get (by rw [hl1, L2]; decide), splice_get (by rw [L1]; decide), L1, L2]
    by_cases h1 : j < 8
    · rw [if_pos (by omega), if_pos h1, if_neg (by omega), if_pos (by omega), if_pos (by omega), if_pos h1]; rfl
    · by_cases h2 : j < 12
      · rw [if_pos h2, if_neg h1, if_pos (by omega), if_pos h2, if_neg h1]
      · simp [h1, h2, show ¬ j < 0 + 8 by omega, show ¬ j < 8 + 4 by omega, hz j hj]
  unfold strandlineref06_Byte.f
  by_cases h1 : j < 8
  · rw [if_pos h1, if_pos (by omega)] at e
    rw [List.getElem?_eq_getElem (show j < (putl n 8).length by rw [L1]; exact h1)] at e
    rw [if_pos (by omega), P1, Option.bind_some, L1, if_pos (by omega), if_pos (by omega), rd_getD, getD_of e, List.getD_eq_getElem?_getD, List.getElem?_eq_getElem (show j < (putl n 8).length by rw [L1]; exact h1)]
    rfl
  · by_cases h2 : j < 12
    · rw [if_pos h2, if_neg h1] at e
      rw [if_neg (by omega), if_pos (by omega), hm, P2, Option.bind_some, L2, show wrap64 ((j : Int) - 8) = ((j - 8 : Nat) : Int) by rw [w64 (by omega) (by omega)]; omega, if_pos (by omega), if_pos (by omega), rd_getD]
      rw [List.getElem?_eq_getElem (show j - 8 < (putl m 4).length by rw [L2]; omega)] at e
      rw [getD_of e, List.getD_eq_getElem?_getD, List.getElem?_eq_getElem (show j - 8 < (putl m 4).length by rw [L2]; omega)]
      rfl
    · rw [if_neg h2] at e
      rw [if_neg (by omega), if_neg (by omega), show wrap64 ((j : Int) - 12) = ((j - 12 : Nat) : Int) by rw [w64 (by omega) (by omega)]; omega]
      by_cases h3 : j - 12 < room.length
      · rw [if_pos (by rw [List.length_take]; omega), List.getElem?_take_of_lt (by omega), List.getElem?_eq_getElem h3] at e
        rw [if_pos (by omega), if_pos (by omega), rd_getD, getD_of e, List.getD_eq_getElem?_getD, List.getElem?_eq_getElem h3]
        rfl
      · rw [if_neg (by rw [List.length_take]; omega)] at e
        rw [if_neg (by omega), getD_of e]
end Nums
end Go.Proofs.Ythlpimojojofbaa.F
