/- For every int, every number of 64 bits and any bytes: word.Zig, Zag and Bit answer what the reference answers, Zag of Zig and Zig of Zag give the number again. No condition. -/
import Derived.Test.YtflkhjleknmfpaaFlWordZigs
import Derived.Test.YtflkhjleknmfpaaPlain
set_option linter.unusedVariables false
set_option linter.unusedSimpArgs false
namespace Go.Proofs.Ytflkhjleknmfpaa.Pure
open Go.RowKit Go.Proofs.Ytflkhjleknmfpaa.F Go.Proofs.YtflkhjleknmfpaaW.PrintWords Go.Proofs.YtflkhjleknmfpaaW.PrintLast Go.Proofs.YtflkhjleknmfpaaW.PrintMore Go.Proofs.Ytflkhjleknmfpaa.Plain
namespace PureWZ
theorem two_l (a : Int) (ha : a ≤ 9223372036854775807) (d : Nat) : ∀ (k i : Nat), (i : Int) ≤ a → (a - i : Int) = d → d < k →
    strandlineref01_Two.l0 k a (((2 ^ i % 18446744073709551616 : Nat)) : Int) i = some (((2 ^ a.toNat % 18446744073709551616 : Nat)) : Int) := by
  induction d with
  | zero =>
    intro k i h1 hd hk
    obtain ⟨k, rfl⟩ : ∃ m, k = m + 1 := ⟨k - 1, by omega⟩
    simp only [strandlineref01_Two.l0]
    rw [if_neg (by omega), show a.toNat = i by omega]
  | succ d ih =>
    intro k i h1 hd hk
    obtain ⟨k, rfl⟩ : ∃ m, k = m + 1 := ⟨k - 1, by omega⟩
    simp only [strandlineref01_Two.l0]
    rw [if_pos (by omega), w64 (n := (i : Int) + 1) (by omega) (by omega), IntKind.wrap_u64]
    have hr := ih k (i + 1) (by omega) (by omega) (by omega)
    rw [show (((2 ^ i % 18446744073709551616 : Nat) : Int) * 2 % 18446744073709551616) = ((2 ^ (i + 1) % 18446744073709551616 : Nat) : Int) by rw [Nat.pow_succ]; omega]
    exact hr
theorem two_eq (k : Nat) (a : Int) (h0 : 0 ≤ a) (h1 : a ≤ 63) (hk : 63 < k) : strandlineref01_Two.f k a = some ((2 : Int) ^ a.toNat) := by
  unfold strandlineref01_Two.f
  have := two_l a (by omega) a.toNat k 0 (by omega) (by omega) (by omega)
  rw [Nat.mod_eq_of_lt (show (2 : Nat) ^ a.toNat < 18446744073709551616 from Nat.pow_lt_pow_right (by decide) (by omega : a.toNat < 64)), pow_cast] at this
  exact this
theorem turn_eq (x : Nat) (k : Int) (hx : x < 4294967296) : word_Turn.f x k = some ((rot x (k % 32).toNat : Nat) : Int) := by
  unfold word_Turn.f
  rw [i64_and31, if_pos (by omega), w64 (n := 32 - k % 32) (by omega) (by omega), if_pos (by omega)]
  obtain ⟨j, hj⟩ : ∃ j : Nat, k % 32 = j := ⟨(k % 32).toNat, by omega⟩
  have hj2 : j < 32 := by omega
  rw [hj]
  unfold shl shr
  rw [show (j : Int).toNat = j by omega, show (32 - (j : Int)).toNat = 32 - j by omega, show min j IntKind.u32.bits = j from Nat.min_eq_left (by simp [IntKind.bits]; omega), show min (32 - j) IntKind.u32.bits = 32 - j from Nat.min_eq_left (by simp [IntKind.bits])]
  rw [IntKind.wrap_u32, show ((x : Int) * 2 ^ j % 4294967296) = ((x % 2 ^ (32 - j) * 2 ^ j : Nat) : Int) by rw [← mul_mod_pow x (by omega)]; simp [Int.natCast_emod]]
  rw [show ((x : Int) / 2 ^ (32 - j)) = ((x / 2 ^ (32 - j) : Nat) : Int) by simp]
  have h1 := rot_lt hx (Nat.le_of_lt hj2)
  have h2 := rot_lt32 hx (Nat.le_of_lt hj2)
  unfold rot at h2
  have h3 : x % 2 ^ (32 - j) * 2 ^ j < 4294967296 := Nat.lt_of_le_of_lt (Nat.le_add_right _ _) h2
  have h4 : x / 2 ^ (32 - j) < 4294967296 := Nat.lt_of_le_of_lt (Nat.le_add_left _ _) h2
  rw [u32_or_nat _ _ h3 h4, nat_join j _ _ (Nat.mul_mod_left _ _) h1]
  rfl
theorem wnear_eq (n lo hi : Int) (h : lo ≤ hi) : word_near.f n lo hi = some (if n < lo then lo else if hi < n then hi else n) := by
  unfold word_near.f mx mn
  congr 1
  by_cases h1 : n < lo <;> by_cases h2 : hi < n <;> simp [h1, h2] <;> omega
def zg (n : Int) : Int := if 0 ≤ n then 2 * n else -2 * n - 1
def zag (u : Int) : Int := if u % 2 = 0 then u / 2 else -(u / 2) - 1
theorem zig_eq {n : Int} (h0 : -9223372036854775808 ≤ n) (h1 : n ≤ 9223372036854775807) : word_Zig.f n = some (zg n) := by
  unfold word_Zig.f zg
  by_cases h : 0 ≤ n
  · rw [if_pos h, wu64 (n := n) (by omega) (by omega), wu64 (n := n * 2) (by omega) (by omega), show n / 9223372036854775808 = 0 by omega, wu64 (n := 0) (by decide) (by decide), u64_xor0 (by omega) (by omega)]
    congr 1
    omega
  · rw [if_neg h, IntKind.wrap_u64, IntKind.wrap_u64, show n % 18446744073709551616 * 2 % 18446744073709551616 = 2 * n + 18446744073709551616 by omega, show n / 9223372036854775808 = -1 by omega, show IntKind.u64.wrap (-1) = 18446744073709551615 by decide, u64_xor1 (by omega) (by omega)]
    congr 1
    omega
theorem rzig_eq {n : Int} (h0 : -9223372036854775808 ≤ n) (h1 : n ≤ 9223372036854775807) : strandlineref01_Zig.f n = some (zg n) := by
  unfold strandlineref01_Zig.f zg
  by_cases h : 0 ≤ n
  · rw [if_pos h, if_pos h, wu64 (n := n) (by omega) (by omega), wu64 (by omega) (by omega)]
  · rw [if_neg h, if_neg h, w64 (n := n + 1) (by omega) (by omega), w64 (n := -(n + 1)) (by omega) (by omega), wu64 (n := -(n + 1)) (by omega) (by omega), wu64 (n := 2 * -(n + 1)) (by omega) (by omega), wu64 (by omega) (by omega)]
    congr 1
    omega
theorem zag_eq {u : Int} (h0 : 0 ≤ u) (h1 : u ≤ 18446744073709551615) : word_Zag.f u = some (zag u) := by
  unfold word_Zag.f zag
  rw [u64_and1 h0 h1, w64 (n := u / 2) (by omega) (by omega), w64 (n := u % 2) (by omega) (by omega)]
  by_cases h : u % 2 = 0
  · rw [if_pos h, h, w64 (n := -0) (by omega) (by omega), Int.neg_zero, i64_xor0 (by omega) (by omega)]
  · rw [if_neg h, show u % 2 = 1 by omega, w64 (n := -1) (by decide) (by decide), i64_xor1 (by omega) (by omega)]
theorem rzag_eq {u : Int} (h0 : 0 ≤ u) (h1 : u ≤ 18446744073709551615) : strandlineref01_Zag.f u = some (zag u) := by
  unfold strandlineref01_Zag.f zag
  rw [tm h0, td h0, wu64 (n := u / 2) (by omega) (by omega), w64 (n := u / 2) (by omega) (by omega)]
  by_cases h : u % 2 = 0
  · rw [if_pos h, if_pos h]
  · rw [if_neg h, if_neg h, w64 (n := -(u / 2)) (by omega) (by omega), w64 (by omega) (by omega)]
theorem zag_zg (n : Int) : zag (zg n) = n := by
  unfold zag zg
  by_cases h : 0 ≤ n
  · rw [if_pos h, if_pos (by omega)]
    omega
  · rw [if_neg h, if_neg (by omega)]
    omega
theorem zg_zag {u : Int} (h : 0 ≤ u) : zg (zag u) = u := by
  unfold zag zg
  by_cases h2 : u % 2 = 0
  · rw [if_pos h2, if_pos (by omega)]
    omega
  · rw [if_neg h2, if_neg (by omega)]
    omega
theorem zg_bd {n : Int} (h0 : -9223372036854775808 ≤ n) (h1 : n ≤ 9223372036854775807) : 0 ≤ zg n ∧ zg n ≤ 18446744073709551615 := by
  unfold zg
  split <;> omega
theorem zag_bd {u : Int} (h0 : 0 ≤ u) (h1 : u ≤ 18446744073709551615) : -9223372036854775808 ≤ zag u ∧ zag u ≤ 9223372036854775807 := by
  unfold zag
  split <;> omega
/-- Bit i of bytes. -/
def bitb (l : List Int) (i : Int) : Bool := decide (0 ≤ i) && decide (i / 8 < (l.length : Int)) && (rd l (i / 8) / 2 ^ (i % 8).toNat % 2 == 1)
theorem bit_eq {l : List Int} (hl : ∀ x ∈ l, (Lit.int .u8 x).wf = true) (i : Int) : word_Bit.f l i = some (bitb l i) := by
  unfold word_Bit.f bitb
  by_cases h : i ≥ 0
  · rw [if_pos h, show decide (0 ≤ i) = true from decide_eq_true h]
    by_cases h2 : i / 8 < (l.length : Int)
    · rw [if_pos h2, if_pos (by omega), i64_and7, if_pos (by omega), show decide (i / 8 < (l.length : Int)) = true from decide_eq_true h2]
      obtain ⟨r0, r1⟩ := rd_u8 hl (i / 8)
      unfold shr
      rw [show min (i % 8).toNat IntKind.u8.bits = (i % 8).toNat from Nat.min_eq_left (by simp [IntKind.bits]; omega)]
      have hp : (0 : Int) < 2 ^ (i % 8).toNat := Int.pow_pos (by decide)
      have h3 : 0 ≤ rd l (i / 8) / 2 ^ (i % 8).toNat := Int.ediv_nonneg r0 (by omega)
      have h4 : rd l (i / 8) / 2 ^ (i % 8).toNat ≤ rd l (i / 8) := Int.ediv_le_self _ r0
      rw [u8_and1 h3 (by omega)]
      simp
    · rw [if_neg h2, show decide (i / 8 < (l.length : Int)) = false from decide_eq_false h2]
      simp
  · rw [if_neg h, show decide (0 ≤ i) = false from decide_eq_false (by omega)]
    simp
theorem rbit_eq {l : List Int} (hl : ∀ x ∈ l, (Lit.int .u8 x).wf = true) (i : Int) (hi : i ≤ 9223372036854775807) (n : Nat) (hn : 63 < n) : strandlineref01_Bit.f n l i = some (bitb l i) := by
  unfold strandlineref01_Bit.f bitb
  by_cases h : i ≥ 0
  · rw [if_pos h, show decide (0 ≤ i) = true from decide_eq_true h, td h, w64 (n := i / 8) (by omega) (by omega), tm h]
    by_cases h2 : i / 8 < (l.length : Int)
    · have hp : (0 : Int) < 2 ^ (i % 8).toNat := Int.pow_pos (by decide)
      rw [if_pos h2, if_pos (by omega), two_eq n (i % 8) (by omega) (by omega) hn, show decide (i / 8 < (l.length : Int)) = true from decide_eq_true h2]
      simp only [Option.bind_some]
      obtain ⟨r0, r1⟩ := rd_u8 hl (i / 8)
      have h3 : 0 ≤ rd l (i / 8) / 2 ^ (i % 8).toNat := Int.ediv_nonneg r0 (by omega)
      have h4 : rd l (i / 8) / 2 ^ (i % 8).toNat ≤ rd l (i / 8) := Int.ediv_le_self _ r0
      rw [if_neg (by omega), wu64 (n := rd l (i / 8)) (by omega) (by omega), td r0, wu64 (n := rd l (i / 8) / 2 ^ (i % 8).toNat) h3 (by omega), tm h3]
      simp
    · rw [if_neg h2, show decide (i / 8 < (l.length : Int)) = false from decide_eq_false h2]
      simp
  · rw [if_neg h, show decide (0 ≤ i) = false from decide_eq_false (by omega)]
    simp
/-- The bytes of a number, from the lowest on. -/
def putl (n : Nat) : Nat → List Int
  | 0 => []
  | i + 1 => putl n i ++ [((n / 256 ^ i % 256 : Nat) : Int)]
theorem putl_len (n i : Nat) : (putl n i).length = i := by
  induction i with
  | zero => rfl
  | succ i ih => simp [putl, ih]
theorem put_l (n : Nat) (hn : n < 18446744073709551616) (hi : Nat) (hhi : hi ≤ 8) (d : Nat) : ∀ (k i : Nat), i ≤ hi → hi - i = d → d < k →
    word_Put.l0 k n (putl n i) hi i = some (putl n hi) := by
  induction d with
  | zero =>
    intro k i h1 hd hk
    obtain ⟨k, rfl⟩ : ∃ m, k = m + 1 := ⟨k - 1, by omega⟩
    simp only [word_Put.l0]
    obtain rfl : i = hi := by omega
    rw [if_neg (by omega)]
  | succ d ih =>
    intro k i h1 hd hk
    obtain ⟨k, rfl⟩ : ∃ m, k = m + 1 := ⟨k - 1, by omega⟩
    simp only [word_Put.l0]
    have hr := ih k (i + 1) (by omega) (by omega) (by omega)
    rw [if_pos (by omega), w64 (n := 8 * (i : Int)) (by omega) (by omega), if_pos (by omega), putl_len, if_pos (by omega), w64 (n := (i : Int) + 1) (by omega) (by omega)]
    have e : (shr .u64 n (8 * (i : Int))) % 256 = ((n / 256 ^ i % 256 : Nat) : Int) := by
      unfold shr
      have e2 : ((n : Int) / 2 ^ (8 * i)) = ((n / 2 ^ (8 * i) : Nat) : Int) := by simp
      rw [show (8 * (i : Int)).toNat = 8 * i by omega, show min (8 * i) IntKind.u64.bits = 8 * i from Nat.min_eq_left (by simp [IntKind.bits]; omega), e2, show (256 : Nat) ^ i = 2 ^ (8 * i) by rw [Nat.pow_mul], Int.natCast_emod]
      rfl
    rw [e]
    exact hr
def cl8 (a : Int) : Int := if a < 0 then 0 else if 8 < a then 8 else a
theorem put_eq (k : Nat) (hk : 8 < k) (n : Nat) (hn : n < 18446744073709551616) (w : Int) : word_Put.f k n w = some (putl n (cl8 w).toNat) := by
  unfold word_Put.f
  rw [wnear_eq _ _ _ (by decide)]
  simp only [Option.bind_some]
  have h : 0 ≤ cl8 w ∧ cl8 w ≤ 8 := by unfold cl8; split <;> (try split) <;> omega
  rw [show (if w < 0 then 0 else if 8 < w then 8 else w) = (((cl8 w).toNat : Nat) : Int) by unfold cl8 at h ⊢; omega]
  exact put_l n hn (cl8 w).toNat (by omega) (cl8 w).toNat k 0 (by omega) rfl (by omega)
theorem awake01 (k : Nat) (hk : 8 < k) : strandlinelaw01_awake.f k = some true := by
  have h1 : word_Put.f k 258 2 = some (putl 258 2) := put_eq k hk 258 (by decide) 2
  have h2 : word_Turn.f 1 (-1) = some 2147483648 := turn_eq 1 (-1) (by decide)
  unfold strandlinelaw01_awake.f
  rw [h1, h2]
  decide
end PureWZ
open PureWZ
theorem WordZigs : strandlinelaw01_WordZigs.Pure := by
  intro a u l ha hu hl1 hl2 hl
  obtain ⟨a0, a1⟩ := bounds_i64 ha
  obtain ⟨u0, u1⟩ := bounds_u64 hu
  obtain ⟨z0, z1⟩ := zg_bd a0 a1
  obtain ⟨y0, y1⟩ := zag_bd u0 u1
  refine ⟨201, ?_⟩
  unfold strandlinelaw01_WordZigs.f
  rw [zig_eq a0 a1, rzig_eq a0 a1, zag_eq u0 u1, rzag_eq u0 u1]
  simp only [Option.bind_some, if_true]
  rw [zag_eq z0 z1, zag_zg, zig_eq y0 y1, zg_zag u0]
  simp only [Option.bind_some, if_true, strandlinelaw01_WordZigs.j0]
  rw [bit_eq hl, rbit_eq hl a a1 200 (by omega), awake01 200 (by omega)]
  simp
end Go.Proofs.Ytflkhjleknmfpaa.Pure
