/- What Kept counts: plain. -/
import Derived.Test.YthlpimojojofbaaFkCrash
import Derived.Test.YthlpimojojofbaaFkWord
import Derived.Test.YthlpimojojofbaaFkStrandlineref01
import Derived.Test.YthlpimojojofbaaPlain
set_option linter.unusedVariables false
set_option linter.unusedSimpArgs false
namespace Go.Proofs.Ythlpimojojofbaa.O
open Go.RowKit Go.Proofs.Ythlpimojojofbaa.F Go.Proofs.YthlpimojojofbaaW.PrintWords Go.Proofs.YthlpimojojofbaaW.PrintLast Go.Proofs.YthlpimojojofbaaW.PrintMore Go.Proofs.Ythlpimojojofbaa.Plain
namespace KB
theorem two_l (a : Int) (ha : a ≤ 9223372036854775807) (d : Nat) : ∀ (k i : Nat), (i : Int) ≤ a → (a - i : Int) = d → d < k →
    strandlineref01_Two.l0 k a (((2 ^ i % 18446744073709551616 : Nat)) : Int) i = some (((2 ^ a.toNat % 18446744073709551616 : Nat)) : Int) := by
  induction d with
  | zero =>
    intro k i h1 hd hk
    obtain ⟨k, rfl⟩ : ∃ m, k = m + 1 := ⟨k - 1, by omega⟩
    simp only [strandlineref01_Two.l0]
    rw [if_neg (by omega), show a.toNat = i by omega]
  | succ d ih =>
    intro k i h1 hd hk
    obtain ⟨k, rfl⟩ : ∃ m, k = m + 1 := ⟨k - 1, by omega⟩
    simp only [strandlineref01_Two.l0]
    rw [if_pos (by omega), w64 (n := (i : Int) + 1) (by omega) (by omega), IntKind.wrap_u64]
    have hr := ih k (i + 1) (by omega) (by omega) (by omega)
    rw [show (((2 ^ i % 18446744073709551616 : Nat) : Int) * 2 % 18446744073709551616) = ((2 ^ (i + 1) % 18446744073709551616 : Nat) : Int) by rw [Nat.pow_succ]; omega]
    exact hr
theorem two_eq (k : Nat) (a : Int) (h0 : 0 ≤ a) (h1 : a ≤ 63) (hk : 63 < k) : strandlineref01_Two.f k a = some ((2 : Int) ^ a.toNat) := by
  unfold strandlineref01_Two.f
  have := two_l a (by omega) a.toNat k 0 (by omega) (by omega) (by omega)
  rw [Nat.mod_eq_of_lt (show (2 : Nat) ^ a.toNat < 18446744073709551616 from Nat.pow_lt_pow_right (by decide) (by omega : a.toNat < 64)), pow_cast] at this
  exact this
/-- Bit i of bytes. -/
def bitb (l : List Int) (i : Int) : Bool := decide (0 ≤ i) && decide (i / 8 < (l.length : Int)) && (rd l (i / 8) / 2 ^ (i % 8).toNat % 2 == 1)
theorem bit_eq {l : List Int} (hl : ∀ x ∈ l, (Lit.int .u8 x).wf = true) (i : Int) : word_Bit.f l i = some (bitb l i) := by
  unfold word_Bit.f bitb
  by_cases h : i ≥ 0
  · rw [if_pos h, show decide (0 ≤ i) = true from decide_eq_true h]
    by_cases h2 : i / 8 < (l.length : Int)
    · rw [if_pos h2, if_pos (by omega), i64_and7, if_pos (by omega), show decide (i / 8 < (l.length : Int)) = true from decide_eq_true h2]
      obtain ⟨r0, r1⟩ := rd_u8 hl (i / 8)
      unfold shr
      rw [show min (i % 8).toNat IntKind.u8.bits = (i % 8).toNat from Nat.min_eq_left (by simp [IntKind.bits]; omega)]
      have hp : (0 : Int) < 2 ^ (i % 8).toNat := Int.pow_pos (by decide)
      have h3 : 0 ≤ rd l (i / 8) / 2 ^ (i % 8).toNat := Int.ediv_nonneg r0 (by omega)
      have h4 : rd l (i / 8) / 2 ^ (i % 8).toNat ≤ rd l (i / 8) := Int.ediv_le_self _ r0
      rw [u8_and1 h3 (by omega)]
      simp
    · rw [if_neg h2, show decide (i / 8 < (l.length : Int)) = false from decide_eq_false h2]
      simp
  · rw [if_neg h, show decide (0 ≤ i) = false from decide_eq_false (by omega)]
    simp
theorem rbit_eq {l : List Int} (hl : ∀ x ∈ l, (Lit.int .u8 x).wf = true) (i : Int) (hi : i ≤ 9223372036854775807) (n : Nat) (hn : 63 < n) : strandlineref01_Bit.f n l i = some (bitb l i) := by
  unfold strandlineref01_Bit.f bitb
  by_cases h : i ≥ 0
  · rw [if_pos h, show decide (0 ≤ i) = true from decide_eq_true h, td h, w64 (n := i / 8) (by omega) (by omega), tm h]
    by_cases h2 : i / 8 < (l.length : Int)
    · have hp : (0 : Int) < 2 ^ (i % 8).toNat := Int.pow_pos (by decide)
      rw [if_pos h2, if_pos (by omega), two_eq n (i % 8) (by omega) (by omega) hn, show decide (i / 8 < (l.length : Int)) = true from decide_eq_true h2]
      simp only [Option.bind_some]
      obtain ⟨r0, r1⟩ := rd_u8 hl (i / 8)
      have h3 : 0 ≤ rd l (i / 8) / 2 ^ (i % 8).toNat := Int.ediv_nonneg r0 (by omega)
      have h4 : rd l (i / 8) / 2 ^ (i % 8).toNat ≤ rd l (i / 8) := Int.ediv_le_self _ r0
      rw [if_neg (by omega), wu64 (n := rd l (i / 8)) (by omega) (by omega), td r0, wu64 (n := rd l (i / 8) / 2 ^ (i % 8).toNat) h3 (by omega), tm h3]
      simp
    · rw [if_neg h2, show decide (i / 8 < (l.length : Int)) = false from decide_eq_false h2]
      simp
  · rw [if_neg h, show decide (0 ≤ i) = false from decide_eq_false (by omega)]
    simp
/-- how many of the first n are kept -/
def cnt (l : List Int) (torn : Int) : Nat → Nat
  | 0 => 0
  | i + 1 => cnt l torn i + (if ((i : Int) != torn && bitb l i) = true then 1 else 0)
theorem cnt_le (l : List Int) (torn : Int) (n : Nat) : cnt l torn n ≤ n := by
  induction n with
  | zero => exact Nat.le_refl _
  | succ n ih => unfold cnt; split <;> omega
theorem cnt_most (l : List Int) (hl : l.length ≤ 64) (torn : Int) (n : Nat) : cnt l torn n ≤ 512 := by
  induction n with
  | zero => exact Nat.zero_le _
  | succ n ih =>
    unfold cnt
    by_cases h : n < 512
    · have := cnt_le l torn n
      split <;> omega
    · have : bitb l (n : Int) = false := by
        unfold bitb
        rw [show decide ((n : Int) / 8 < (l.length : Int)) = false from decide_eq_false (by omega)]
        simp
      rw [this]
      simpa using ih
theorem kept_l {l : List Int} (hl : ∀ x ∈ l, (Lit.int .u8 x).wf = true) (torn cut : Int) (n : Nat) (hn : n ≤ 4096) (d : Nat) : ∀ (k i : Nat), i + d = n → d < k → crash_Kept.l0 k (cnt l torn i : Int) (n : Int) (i : Int) l torn cut = some (cnt l torn n : Int) := by
  induction d with
  | zero =>
    intro k i hi hk
    obtain ⟨k, rfl⟩ : ∃ m, k = m + 1 := ⟨k - 1, by omega⟩
    obtain rfl : i = n := by omega
    simp only [crash_Kept.l0]
    rw [if_neg (by omega)]
  | succ d ih =>
    intro k i hi hk
    obtain ⟨k, rfl⟩ : ∃ m, k = m + 1 := ⟨k - 1, by omega⟩
    have hr := ih k (i + 1) (by omega) (by omega)
    have hc := cnt_le l torn i
    simp only [crash_Kept.l0]
    rw [if_pos (by omega), w64 (n := (i : Int) + 1) (by omega) (by omega), bit_eq hl, Option.bind_some]
    by_cases h : (i : Int) = torn
    · rw [if_pos h]
      have e : cnt l torn (i + 1) = cnt l torn i := by
        conv => lhs; unfold cnt
        rw [if_neg (by simp [h]), Nat.add_zero]
      rw [e] at hr
      exact hr
    · rw [if_neg h]
      by_cases hb : bitb l (i : Int) = true
      · rw [if_pos hb]
        have e : cnt l torn (i + 1) = cnt l torn i + 1 := by
          conv => lhs; unfold cnt
          rw [if_pos (by rw [hb]; simpa using h)]
        rw [e] at hr
        rw [w64 (n := (cnt l torn i : Int) + 1) (by omega) (by omega)]
        exact hr
      · rw [if_neg hb]
        have e : cnt l torn (i + 1) = cnt l torn i := by
          conv => lhs; unfold cnt
          rw [if_neg (by simp [hb]), Nat.add_zero]
        rw [e] at hr
        exact hr
theorem kept_eq {l : List Int} (hl : ∀ x ∈ l, (Lit.int .u8 x).wf = true) (torn cut a : Int) (n : Nat) (ha : mx 0 (mn a 4096) = (n : Int)) (hn : n ≤ 4096) : crash_Kept.f 5000 l torn cut a = some (cnt l torn n : Int) := by
  unfold crash_Kept.f crash_near.f
  rw [ha, Option.bind_some]
  exact kept_l hl torn cut n hn n 5000 0 (by omega) (by omega)
end KB
end Go.Proofs.Ythlpimojojofbaa.O
