/- crc.Shift and Join in plain numbers: maps as rows of what they make of each bit; the sum of two texts. -/
import Derived.Test.YthhbilkmdfdfiaaDoorBurst
import Derived.Test.YthhbilkmdfdfiaaDoorOwn
set_option linter.unusedVariables false
set_option linter.unusedSimpArgs false
namespace Go.Proofs.YthhbilkmdfdfiaaDoor.CrcMath
open Go.RowKit Go.Proofs.YthhbilkmdfdfiaaDoor.O Go.Proofs.YthhbilkmdfdfiaaDoor.F Go.Proofs.YthhbilkmdfdfiaaDoorW.PrintWords Go.Proofs.YthhbilkmdfdfiaaDoorW.PrintLast Go.Proofs.YthhbilkmdfdfiaaDoorW.PrintMore Go.Proofs.YthhbilkmdfdfiaaDoor.Plain
/-- r steps as a map: what they make of each bit -/
def mat (r : Nat) : List Int := (List.range 32).map fun i => ((itr r (2 ^ i) : Nat) : Int)
theorem mat_len (r : Nat) : (mat r).length = 32 := by simp [mat]
theorem mat_at (r : Nat) {i : Nat} (h : i < 32) : (mat r)[i]? = some ((itr r (2 ^ i) : Nat) : Int) := by
  unfold mat
  rw [List.getElem?_map, List.getElem?_range h]
  rfl
theorem mat_getD (r : Nat) {i : Nat} (h : i < 32) : (mat r).getD i 0 = ((itr r (2 ^ i) : Nat) : Int) := by
  rw [List.getD_eq_getElem?_getD, mat_at r h]
  rfl
theorem pow_lt32 {i : Nat} (h : i < 32) : 2 ^ i < 4294967296 := by
  rw [show (4294967296 : Nat) = 2 ^ 32 by decide]
  exact Nat.pow_lt_pow_right (by decide) h
theorem itr0 (r : Nat) : itr r 0 = 0 := by
  have := itr_xor r 0 0
  rw [Nat.xor_self] at this
  rw [this, Nat.xor_self]
theorem mod_step (x i : Nat) : x % 2 ^ (i + 1) = if x / 2 ^ i % 2 = 1 then x % 2 ^ i ^^^ 2 ^ i else x % 2 ^ i := by
  have h := split_xor (x % 2 ^ (i + 1)) i
  have e1 : x % 2 ^ (i + 1) / 2 ^ i = x / 2 ^ i % 2 := by
    rw [Nat.pow_succ, Nat.mod_mul_right_div_self]
  have e2 : x % 2 ^ (i + 1) % 2 ^ i = x % 2 ^ i := Nat.mod_mod_of_dvd _ (Nat.pow_dvd_pow 2 (by omega))
  rw [e1, e2] at h
  split
  · rename_i hb
    rw [hb, Nat.mul_one] at h
    rw [← h, Nat.xor_comm]
  · rename_i hb
    have hb0 : x / 2 ^ i % 2 = 0 := by omega
    rw [hb0, Nat.mul_zero, Nat.zero_xor] at h
    exact h.symm
/-- what a map makes of the lowest bits -/
def mpart (r x i : Nat) : Nat := itr r (x % 2 ^ i)
theorem mpart0 (r x : Nat) : mpart r x 0 = 0 := by
  unfold mpart
  rw [Nat.pow_zero, Nat.mod_one, itr0]
theorem mpart_step (r x i : Nat) : mpart r x (i + 1) = if x / 2 ^ i % 2 = 1 then mpart r x i ^^^ itr r (2 ^ i) else mpart r x i := by
  unfold mpart
  rw [mod_step]
  split
  · rw [itr_xor]
  · rfl
theorem mpart_all {x : Nat} (r : Nat) (h : x < 4294967296) : mpart r x 32 = itr r x := by
  unfold mpart
  rw [Nat.mod_eq_of_lt (by rw [show (2 : Nat) ^ 32 = 4294967296 by decide]; exact h)]
theorem mpart_lt (r : Nat) {x : Nat} (h : x < 4294967296) (i : Nat) : mpart r x i < 4294967296 := itr_lt r (Nat.lt_of_le_of_lt (Nat.mod_le _ _) h)
/-- a map's rows, the first i of them made anew -/
def rows (r i : Nat) : List Int := (mat r).take i ++ zs (32 - i)
theorem rows_len (r : Nat) {i : Nat} (h : i ≤ 32) : (rows r i).length = 32 := by
  unfold rows zs
  rw [List.length_append, List.length_take, mat_len, List.length_replicate]
  omega
theorem rows0 (r : Nat) : rows r 0 = zs 32 := by simp [rows]
theorem rows_all (r : Nat) : rows r 32 = mat r := by
  unfold rows
  rw [List.take_of_length_le (by rw [mat_len]; exact Nat.le_refl 32)]
  simp [zs]
theorem rows_step (r : Nat) {i : Nat} (h : i < 32) : (rows r i).set i ((itr r (2 ^ i) : Nat) : Int) = rows r (i + 1) := by
  unfold rows
  have hl : ((mat r).take i).length = i := by rw [List.length_take, mat_len]; omega
  rw [List.set_append_right _ _ (by omega), hl, Nat.sub_self, show 32 - i = (32 - (i + 1)) + 1 by omega]
  rw [List.take_add_one, mat_at r h]
  simp [zs, List.replicate_succ]
theorem itr_two (r n : Nat) : itr (r + r) n = itr r (itr r n) := itr_add r r n
/-- a round of Shift -/
theorem shift_odd (R n x : Nat) (h : n % 2 = 1) : itr ((R + R) * (n / 2)) (itr R x) = itr (R * n) x := by
  rw [← itr_add]
  congr 1
  rw [← Nat.two_mul, Nat.mul_comm 2 R, Nat.mul_assoc]
  have e : n = 2 * (n / 2) + 1 := by omega
  conv => rhs; rw [e]
  rw [Nat.mul_add, Nat.mul_one, Nat.add_comm]
theorem shift_even (R n x : Nat) (h : n % 2 = 0) : itr ((R + R) * (n / 2)) x = itr (R * n) x := by
  congr 1
  rw [← Nat.two_mul, Nat.mul_comm 2 R, Nat.mul_assoc]
  have e : n = 2 * (n / 2) := by omega
  conv => rhs; rw [e]
theorem sums_xor (b : List Int) : ∀ n t : Nat, sums b (n ^^^ t) = sums b n ^^^ itr (8 * b.length) t := by
  induction b with
  | nil => intro n t; rfl
  | cons c b ih =>
    intro n t
    show sums b (itr 8 ((n ^^^ t) ^^^ c.toNat)) = sums b (itr 8 (n ^^^ c.toNat)) ^^^ itr (8 * (b.length + 1)) t
    rw [show (n ^^^ t) ^^^ c.toNat = (n ^^^ c.toNat) ^^^ t by rw [Nat.xor_assoc, Nat.xor_comm t, ← Nat.xor_assoc], itr_xor, ih, show 8 * (b.length + 1) = 8 + 8 * b.length by omega, itr_add]
theorem not_nat {a : Nat} (h : a < 4294967296) : 4294967295 - a = 4294967295 ^^^ a := by
  have h1 := xor32_nat 4294967295 a (by decide) h
  have h2 := not_u32 (a := (a : Int)) (by omega) (by omega)
  rw [show IntKind.u32.max = 4294967295 by rfl] at h2
  have h3 : bits .xor .u32 ((4294967295 : Nat) : Int) (a : Int) = 4294967295 - (a : Int) := h2
  rw [h1] at h3
  omega
def crcOf (b : List Int) : Nat := 4294967295 ^^^ sums b 4294967295
theorem crcOf_lt {b : List Int} (hb : ∀ c ∈ b, 0 ≤ c ∧ c ≤ 255) : crcOf b < 4294967296 := xor_lt32 (by decide) (sums_lt b hb (by decide))
theorem moreI_crc {b : List Int} (hb : ∀ c ∈ b, 0 ≤ c ∧ c ≤ 255) : moreI 0 b = ((crcOf b : Nat) : Int) := by
  have h := moreI_nat (s := 0) (by decide) b hb
  have hl := sums_lt b hb (n := 4294967295) (by decide)
  rw [show ((0 : Nat) : Int) = 0 by rfl] at h
  rw [h]
  unfold crcOf
  rw [← not_nat hl, Nat.sub_zero]
  omega
theorem crc_join (a b : List Int) (ha : ∀ c ∈ a, 0 ≤ c ∧ c ≤ 255) : crcOf (a ++ b) = itr (8 * b.length) (crcOf a) ^^^ crcOf b := by
  unfold crcOf
  have hs := sums_lt a ha (n := 4294967295) (by decide)
  have e1 : sums a 4294967295 = 4294967295 ^^^ (4294967295 ^^^ sums a 4294967295) := by rw [← Nat.xor_assoc, Nat.xor_self, Nat.zero_xor]
  rw [sums_append]
  conv => lhs; rw [e1]
  rw [sums_xor, ← Nat.xor_assoc, Nat.xor_comm]
end Go.Proofs.YthhbilkmdfdfiaaDoor.CrcMath
