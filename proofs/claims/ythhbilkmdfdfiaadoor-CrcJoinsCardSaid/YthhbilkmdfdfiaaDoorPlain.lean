/- Small laws of whole numbers that the seat's pure statements use: no program, no memory. -/
import Derived.Test.YthhbilkmdfdfiaaDoorWMore
import Derived.Laws.BitsAllLaws
import Derived.Laws.Bits64
import Derived.OpenShut
namespace Go.Proofs.YthhbilkmdfdfiaaDoor.Plain
open Go.RowKit Go.Proofs.YthhbilkmdfdfiaaDoorW.PrintWords Go.Proofs.YthhbilkmdfdfiaaDoorW.PrintLast Go.Proofs.YthhbilkmdfdfiaaDoorW.PrintMore

theorem w64 {n : Int} (h0 : -9223372036854775808 ≤ n) (h1 : n ≤ 9223372036854775807) : wrap64 n = n := by
  unfold wrap64
  omega
theorem wu64 {n : Int} (h0 : 0 ≤ n) (h1 : n ≤ 18446744073709551615) : IntKind.u64.wrap n = n := by
  rw [IntKind.wrap_u64]
  omega
theorem wu32 {n : Int} (h0 : 0 ≤ n) (h1 : n ≤ 4294967295) : IntKind.u32.wrap n = n := by
  rw [IntKind.wrap_u32]
  omega
theorem td {a b : Int} (h : 0 ≤ a) : Int.tdiv a b = a / b := Int.tdiv_eq_ediv_of_nonneg h
theorem tm {a b : Int} (h : 0 ≤ a) : Int.tmod a b = a % b := Int.tmod_eq_emod_of_nonneg h

/-- A place as the nearer one of 0 and 832. -/
def cl (a : Int) : Int := if a < 0 then 0 else if 832 < a then 832 else a
theorem cl_lo (a : Int) : 0 ≤ cl a := by unfold cl; split <;> (try split) <;> omega
theorem cl_hi (a : Int) : cl a ≤ 832 := by unfold cl; split <;> (try split) <;> omega
theorem cl_in {a : Int} (h0 : 0 ≤ a) (h1 : a ≤ 832) : cl a = a := by unfold cl; rw [if_neg (by omega), if_neg (by omega)]
theorem cl_cl (a : Int) : cl (cl a) = cl a := cl_in (cl_lo a) (cl_hi a)
theorem near_cl (a : Int) : mx 0 (mn a 832) = cl a := by
  unfold mx mn cl
  by_cases h1 : a < 0 <;> by_cases h2 : 832 < a <;> simp [h1, h2] <;> omega
/-- Where what comes next begins; what is left of a block. -/
def bg (n : Int) : Int := if 41 < n % 52 then n + (52 - n % 52) else n
def lf (n : Int) : Int := if n = 832 then 0 else 208 - n % 208
/-- The sectors that are touched. -/
def tch (a b : Int) : Int × Int := if a ≥ b then (0, 0) else (a / 52, (b - 1) / 52 + 1)
theorem bg_lo {n : Int} (h : 0 ≤ n) : 0 ≤ bg n := by unfold bg; split <;> omega
theorem bg_hi {n : Int} (h : n ≤ 832) : bg n ≤ 832 := by unfold bg; split <;> omega
theorem bg_ge (n : Int) : n ≤ bg n := by unfold bg; split <;> omega
theorem bg_mod (n : Int) : bg n % 52 ≤ 41 := by unfold bg; split <;> omega
theorem bg_bg (n : Int) : bg (bg n) = bg n := by
  have := bg_mod n
  generalize bg n = m at *
  unfold bg
  rw [if_neg (by omega)]

/-! ### bits -/
theorem ofInt_nat (n : Nat) (x : Int) : ((BitVec.ofInt n x).toNat : Int) = x % 2 ^ n := by
  rw [BitVec.toNat_ofInt]
  have : (0 : Int) < 2 ^ n := Int.pow_pos (by decide)
  have h := Int.emod_nonneg x (Int.ne_of_gt this)
  rw [show ((2 ^ n : Nat) : Int) = 2 ^ n by simp]
  omega
theorem i64_mask (a : Int) (i : Nat) (hi : i < 63) : bits .and .i64 a (2 ^ i - 1) = a % 2 ^ i := by
  have hp : 0 < 2 ^ i := Nat.two_pow_pos i
  have hl : 2 ^ i < 2 ^ 63 := Nat.pow_lt_pow_right (by decide) hi
  have hc : ((2 : Int) ^ i - 1) = ((2 ^ i - 1 : Nat) : Int) := by rw [Int.natCast_sub hp]; simp
  have hb : (BitVec.ofInt 64 ((2 : Int) ^ i - 1)).toNat = 2 ^ i - 1 := by
    rw [hc, BitVec.ofInt_natCast, BitVec.toNat_ofNat]
    exact Nat.mod_eq_of_lt (by omega)
  have ha := ofInt_nat 64 a
  show IntKind.i64.wrap (((BitVec.ofInt 64 a &&& BitVec.ofInt 64 ((2 : Int) ^ i - 1)).toNat : Nat) : Int) = _
  rw [BitVec.toNat_and, hb, Nat.and_two_pow_sub_one_eq_mod]
  have hm : (BitVec.ofInt 64 a).toNat % 2 ^ i < 2 ^ i := Nat.mod_lt _ hp
  rw [IntKind.wrap_i64]
  have e : (((BitVec.ofInt 64 a).toNat % 2 ^ i : Nat) : Int) = a % 2 ^ i := by
    rw [Int.natCast_emod, ha]
    rw [show ((2 ^ i : Nat) : Int) = 2 ^ i by simp]
    exact Int.emod_emod_of_dvd a ⟨2 ^ (64 - i), by rw [← Int.pow_add, show i + (64 - i) = 64 by omega]⟩
  rw [← e]
  omega
theorem i64_and31 (a : Int) : bits .and .i64 a 31 = a % 32 := i64_mask a 5 (by decide)
theorem i64_and7 (a : Int) : bits .and .i64 a 7 = a % 8 := i64_mask a 3 (by decide)
theorem pow_cast (n : Nat) : ((2 ^ n : Nat) : Int) = (2 : Int) ^ n := by simp

/-- A turn of 32 bits: what is below the place goes up, what is above it comes down. -/
def rot (x j : Nat) : Nat := x % 2 ^ (32 - j) * 2 ^ j + x / 2 ^ (32 - j)
theorem pow_split {j : Nat} (hj : j ≤ 32) : 2 ^ (32 - j) * 2 ^ j = 4294967296 := by
  rw [← Nat.pow_add, show 32 - j + j = 32 by omega]
theorem rot_lt {x j : Nat} (hx : x < 4294967296) (hj : j ≤ 32) : x / 2 ^ (32 - j) < 2 ^ j := by
  rw [Nat.div_lt_iff_lt_mul (Nat.two_pow_pos _), Nat.mul_comm, pow_split hj]
  exact hx
theorem mul_mod_pow (x : Nat) {j : Nat} (hj : j ≤ 32) : x * 2 ^ j % 4294967296 = x % 2 ^ (32 - j) * 2 ^ j := by
  rw [← pow_split hj, Nat.mul_mod_mul_right]
theorem rot_lt32 {x j : Nat} (hx : x < 4294967296) (hj : j ≤ 32) : rot x j < 4294967296 := by
  unfold rot
  have h1 := rot_lt hx hj
  have h2 : x % 2 ^ (32 - j) ≤ 2 ^ (32 - j) - 1 := by have := Nat.mod_lt x (Nat.two_pow_pos (32 - j)); omega
  have h3 := Nat.mul_le_mul_right (2 ^ j) h2
  have h4 := pow_split hj
  have h5 := Nat.two_pow_pos (32 - j)
  rw [Nat.sub_mul] at h3
  have h6 : 2 ^ j ≤ 2 ^ (32 - j) * 2 ^ j := Nat.le_mul_of_pos_left _ h5
  omega
theorem rot_rot {x j : Nat} (hx : x < 4294967296) (hj : j < 32) : rot (rot x j) ((32 - j) % 32) = x := by
  by_cases h0 : j = 0
  · subst h0
    unfold rot
    simp
    omega
  · rw [Nat.mod_eq_of_lt (by omega)]
    have h1 := rot_lt hx (Nat.le_of_lt hj)
    unfold rot
    rw [show 32 - (32 - j) = j by omega, Nat.mul_add_mod_self_right, Nat.mod_eq_of_lt h1, Nat.add_comm (x % 2 ^ (32 - j) * 2 ^ j), Nat.add_mul_div_right _ _ (Nat.two_pow_pos j), Nat.div_eq_of_lt h1, Nat.zero_add]
    exact Nat.div_add_mod' x (2 ^ (32 - j))
/-- What the turned bits of the lowest i come to. -/
def bpart (x j i : Nat) : Nat := if i ≤ 32 - j then x % 2 ^ i * 2 ^ j else x % 2 ^ (32 - j) * 2 ^ j + x / 2 ^ (32 - j) % 2 ^ (i - (32 - j))
theorem mod_succ (x i : Nat) : x % 2 ^ (i + 1) = x % 2 ^ i + x / 2 ^ i % 2 * 2 ^ i := by
  rw [Nat.pow_succ, Nat.mod_mul]
  rw [Nat.mul_comm (2 ^ i)]
theorem bpart_succ {x j i : Nat} (hj : j < 32) (hi : i < 32) : bpart x j (i + 1) = bpart x j i + x / 2 ^ i % 2 * 2 ^ ((i + j) % 32) := by
  unfold bpart
  by_cases h : i + 1 ≤ 32 - j
  · rw [if_pos h, if_pos (by omega), mod_succ, Nat.add_mul, Nat.mul_assoc, ← Nat.pow_add, Nat.mod_eq_of_lt (show i + j < 32 by omega)]
  · by_cases h' : i ≤ 32 - j
    · obtain rfl : i = 32 - j := by omega
      rw [if_neg h, if_pos (Nat.le_refl _), show 32 - j + 1 - (32 - j) = 1 by omega, show (32 - j + j) % 32 = 0 by omega]
      simp
    · rw [if_neg h, if_neg h', show i + 1 - (32 - j) = (i - (32 - j)) + 1 by omega, mod_succ, Nat.div_div_eq_div_mul, ← Nat.pow_add, show 32 - j + (i - (32 - j)) = i by omega, show (i + j) % 32 = i - (32 - j) by omega]
      omega
theorem bpart_all {x j : Nat} (hx : x < 4294967296) (hj : j < 32) : bpart x j 32 = rot x j := by
  unfold bpart rot
  by_cases h : j = 0
  · subst h
    simp
    omega
  · rw [if_neg (by omega), show 32 - (32 - j) = j by omega, Nat.mod_eq_of_lt (rot_lt hx (by omega))]
theorem bpart_le {x j i : Nat} (hx : x < 4294967296) (hj : j < 32) (hi : i ≤ 32) : bpart x j i < 4294967296 := by
  have mono : ∀ d, i + d ≤ 32 → bpart x j i ≤ bpart x j (i + d) := by
    intro d
    induction d with
    | zero => intro _; exact Nat.le_refl _
    | succ d ih =>
      intro h
      refine Nat.le_trans (ih (by omega)) ?_
      rw [show i + (d + 1) = i + d + 1 by omega, bpart_succ hj (by omega)]
      exact Nat.le_add_right _ _
  have := mono (32 - i) (by omega)
  rw [show i + (32 - i) = 32 by omega, bpart_all hx hj] at this
  exact Nat.lt_of_le_of_lt this (rot_lt32 hx (by omega))

theorem i64_xor0 {a : Int} (h0 : -9223372036854775808 ≤ a) (h1 : a ≤ 9223372036854775807) : bits .xor .i64 a 0 = a := by
  show IntKind.i64.wrap ((BitVec.ofInt 64 a ^^^ BitVec.ofInt 64 0).toNat : Int) = _
  rw [show BitVec.ofInt 64 0 = 0#64 by decide, BitVec.xor_zero, ofInt_nat, IntKind.wrap_i64]
  omega
theorem i64_xor1 {a : Int} (h0 : -9223372036854775808 ≤ a) (h1 : a ≤ 9223372036854775807) : bits .xor .i64 a (-1) = -a - 1 := by
  show IntKind.i64.wrap ((BitVec.ofInt 64 a ^^^ BitVec.ofInt 64 (-1)).toNat : Int) = _
  have h2 := ofInt_nat 64 a
  have h3 := (BitVec.ofInt 64 a).isLt
  rw [show BitVec.ofInt 64 (-1) = BitVec.allOnes 64 by decide, BitVec.xor_allOnes, BitVec.toNat_not, IntKind.wrap_i64]
  omega
theorem u64_xor0 {a : Int} (h0 : 0 ≤ a) (h1 : a ≤ 18446744073709551615) : bits .xor .u64 a 0 = a := by
  show IntKind.u64.wrap ((BitVec.ofInt 64 a ^^^ BitVec.ofInt 64 0).toNat : Int) = _
  rw [show BitVec.ofInt 64 0 = 0#64 by decide, BitVec.xor_zero, ofInt_nat, IntKind.wrap_u64]
  omega
theorem u64_xor1 {a : Int} (h0 : 0 ≤ a) (h1 : a ≤ 18446744073709551615) : bits .xor .u64 a 18446744073709551615 = 18446744073709551615 - a := by
  show IntKind.u64.wrap ((BitVec.ofInt 64 a ^^^ BitVec.ofInt 64 18446744073709551615).toNat : Int) = _
  have h2 := ofInt_nat 64 a
  have h3 := (BitVec.ofInt 64 a).isLt
  rw [show BitVec.ofInt 64 18446744073709551615 = BitVec.allOnes 64 by decide, BitVec.xor_allOnes, BitVec.toNat_not, IntKind.wrap_u64]
  omega
theorem u64_and1 {a : Int} (h0 : 0 ≤ a) (h1 : a ≤ 18446744073709551615) : bits .and .u64 a 1 = a % 2 := by
  obtain ⟨n, rfl⟩ := Int.eq_ofNat_of_zero_le h0
  rw [show (1 : Int) = ((1 : Nat) : Int) from rfl, u64_and_nat _ _ (by omega) (by decide), nat_mask1]
  omega
theorem u8_and1 {a : Int} (h0 : 0 ≤ a) (h1 : a ≤ 255) : bits .and .u8 a 1 = a % 2 := by
  obtain ⟨n, rfl⟩ := Int.eq_ofNat_of_zero_le h0
  rw [show (1 : Int) = ((1 : Nat) : Int) from rfl, u8_and_nat _ _ (by omega) (by decide), nat_mask1]
  omega
theorem rd_u8 {l : List Int} (h : ∀ x ∈ l, (Lit.int .u8 x).wf = true) (i : Int) : 0 ≤ rd l i ∧ rd l i ≤ 255 := by
  unfold rd
  rw [List.getD_eq_getElem?_getD]
  exact range_u8 h i.toNat

end Go.Proofs.YthhbilkmdfdfiaaDoor.Plain
