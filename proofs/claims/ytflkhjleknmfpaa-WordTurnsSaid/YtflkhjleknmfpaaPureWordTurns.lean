/- For every number of 32 bits, every count of places and every number of 64 bits: word.Turn turns as the reference does, and a turn back gives the number again; word.Low gives the lowest bits as the reference does. No condition. -/
import Derived.Test.YtflkhjleknmfpaaFlWordTurns
import Derived.Test.YtflkhjleknmfpaaPlain
set_option linter.unusedVariables false
set_option linter.unusedSimpArgs false
namespace Go.Proofs.Ytflkhjleknmfpaa.Pure
open Go.RowKit Go.Proofs.Ytflkhjleknmfpaa.F Go.Proofs.YtflkhjleknmfpaaW.PrintWords Go.Proofs.YtflkhjleknmfpaaW.PrintLast Go.Proofs.YtflkhjleknmfpaaW.PrintMore Go.Proofs.Ytflkhjleknmfpaa.Plain
namespace PureWT
theorem two_l (a : Int) (ha : a ≤ 9223372036854775807) (d : Nat) : ∀ (k i : Nat), (i : Int) ≤ a → (a - i : Int) = d → d < k →
    strandlineref01_Two.l0 k a (((2 ^ i % 18446744073709551616 : Nat)) : Int) i = some (((2 ^ a.toNat % 18446744073709551616 : Nat)) : Int) := by
  induction d with
  | zero =>
    intro k i h1 hd hk
    obtain ⟨k, rfl⟩ : ∃ m, k = m + 1 := ⟨k - 1, by omega⟩
    simp only [strandlineref01_Two.l0]
    rw [if_neg (by omega), show a.toNat = i by omega]
  | succ d ih =>
    intro k i h1 hd hk
    obtain ⟨k, rfl⟩ : ∃ m, k = m + 1 := ⟨k - 1, by omega⟩
    simp only [strandlineref01_Two.l0]
    rw [if_pos (by omega), w64 (n := (i : Int) + 1) (by omega) (by omega), IntKind.wrap_u64]
    have hr := ih k (i + 1) (by omega) (by omega) (by omega)
    rw [show (((2 ^ i % 18446744073709551616 : Nat) : Int) * 2 % 18446744073709551616) = ((2 ^ (i + 1) % 18446744073709551616 : Nat) : Int) by rw [Nat.pow_succ]; omega]
    exact hr
theorem two_eq (k : Nat) (a : Int) (h0 : 0 ≤ a) (h1 : a ≤ 63) (hk : 63 < k) : strandlineref01_Two.f k a = some ((2 : Int) ^ a.toNat) := by
  unfold strandlineref01_Two.f
  have := two_l a (by omega) a.toNat k 0 (by omega) (by omega) (by omega)
  rw [Nat.mod_eq_of_lt (show (2 : Nat) ^ a.toNat < 18446744073709551616 from Nat.pow_lt_pow_right (by decide) (by omega : a.toNat < 64)), pow_cast] at this
  exact this
theorem turn_eq (x : Nat) (k : Int) (hx : x < 4294967296) : word_Turn.f x k = some ((rot x (k % 32).toNat : Nat) : Int) := by
  unfold word_Turn.f
  rw [i64_and31, if_pos (by omega), w64 (n := 32 - k % 32) (by omega) (by omega), if_pos (by omega)]
  obtain ⟨j, hj⟩ : ∃ j : Nat, k % 32 = j := ⟨(k % 32).toNat, by omega⟩
  have hj2 : j < 32 := by omega
  rw [hj]
  unfold shl shr
  rw [show (j : Int).toNat = j by omega, show (32 - (j : Int)).toNat = 32 - j by omega, show min j IntKind.u32.bits = j from Nat.min_eq_left (by simp [IntKind.bits]; omega), show min (32 - j) IntKind.u32.bits = 32 - j from Nat.min_eq_left (by simp [IntKind.bits])]
  rw [IntKind.wrap_u32, show ((x : Int) * 2 ^ j % 4294967296) = ((x % 2 ^ (32 - j) * 2 ^ j : Nat) : Int) by rw [← mul_mod_pow x (by omega)]; simp [Int.natCast_emod]]
  rw [show ((x : Int) / 2 ^ (32 - j)) = ((x / 2 ^ (32 - j) : Nat) : Int) by simp]
  have h1 := rot_lt hx (Nat.le_of_lt hj2)
  have h2 := rot_lt32 hx (Nat.le_of_lt hj2)
  unfold rot at h2
  have h3 : x % 2 ^ (32 - j) * 2 ^ j < 4294967296 := Nat.lt_of_le_of_lt (Nat.le_add_right _ _) h2
  have h4 : x / 2 ^ (32 - j) < 4294967296 := Nat.lt_of_le_of_lt (Nat.le_add_left _ _) h2
  rw [u32_or_nat _ _ h3 h4, nat_join j _ _ (Nat.mul_mod_left _ _) h1]
  rfl
theorem rturn_l (x : Nat) (k : Int) (hx : x < 4294967296) (hk1 : -9223372036854775808 ≤ k) (hk2 : k ≤ 9223372036854775807) (d : Nat) : ∀ (n i : Nat), i ≤ 32 → 32 - i = d → d + 64 < n →
    strandlineref01_Turn.l0 n x k ((bpart x (k % 32).toNat i : Nat) : Int) i = some ((rot x (k % 32).toNat : Nat) : Int) := by
  obtain ⟨j, hj⟩ : ∃ j : Nat, k % 32 = j := ⟨(k % 32).toNat, by omega⟩
  have hj2 : j < 32 := by omega
  rw [hj, show (j : Int).toNat = j by omega]
  have ht : k.tmod 32 % 32 = k % 32 ∧ -32 < k.tmod 32 ∧ k.tmod 32 < 32 := by
    have h1 := Int.mul_tdiv_add_tmod k 32
    have h2 := Int.tmod_lt_of_pos k (show (0 : Int) < 32 by decide)
    have h3 := Int.lt_tmod_of_pos k (show (0 : Int) < 32 by decide)
    exact ⟨by omega, h3, h2⟩
  obtain ⟨ht1, ht2, ht3⟩ := ht
  induction d with
  | zero =>
    intro n i h1 hd hn
    obtain ⟨n, rfl⟩ : ∃ m, n = m + 1 := ⟨n - 1, by omega⟩
    simp only [strandlineref01_Turn.l0]
    obtain rfl : i = 32 := by omega
    rw [if_neg (by omega), bpart_all hx hj2]
  | succ d ih =>
    intro n i h1 hd hn
    obtain ⟨n, rfl⟩ : ∃ m, n = m + 1 := ⟨n - 1, by omega⟩
    simp only [strandlineref01_Turn.l0]
    have hr := ih n (i + 1) (by omega) (by omega) (by omega)
    have hx64 : IntKind.u64.wrap (x : Int) = x := wu64 (by omega) (by omega)
    have hpp : (0 : Int) < 2 ^ i := Int.pow_pos (by decide)
    rw [if_pos (by omega), two_eq n (i : Int) (by omega) (by omega) (by omega)]
    simp only [Option.bind_some, Int.toNat_natCast]
    rw [if_neg (by omega), hx64, td (a := (x : Int)) (b := 2 ^ i) (by omega), show ((x : Int) / 2 ^ i) = ((x / 2 ^ i : Nat) : Int) by simp]
    have hdiv : x / 2 ^ i ≤ x := Nat.div_le_self _ _
    have hs0 := bpart_succ (x := x) hj2 (show i < 32 by omega)
    generalize x / 2 ^ i = q at *
    rw [wu64 (n := (q : Int)) (by omega) (by omega), tm (a := (q : Int)) (b := 2) (by omega)]
    have hidx : Int.tmod (wrap64 (Int.tmod (wrap64 ((i : Int) + Int.tmod k 32)) 32 + 32)) 32 = (((i + j) % 32 : Nat) : Int) := by
      rw [w64 (n := (i : Int) + Int.tmod k 32) (by omega) (by omega)]
      have h4 := Int.mul_tdiv_add_tmod ((i : Int) + Int.tmod k 32) 32
      have h5 := Int.tmod_lt_of_pos ((i : Int) + Int.tmod k 32) (show (0 : Int) < 32 by decide)
      have h6 := Int.lt_tmod_of_pos ((i : Int) + Int.tmod k 32) (show (0 : Int) < 32 by decide)
      rw [w64 (by omega) (by omega), tm (by omega)]
      omega
    rw [w64 (n := (i : Int) + 1) (by omega) (by omega)]
    by_cases hb : (q : Int) % 2 = 1
    · have hb' : q % 2 = 1 := by omega
      rw [hb', Nat.one_mul] at hs0
      rw [if_pos hb, hidx, two_eq n _ (by omega) (by omega) (by omega)]
      simp only [Option.bind_some, Int.toNat_natCast]
      have hle := bpart_le (i := i + 1) hx hj2 (by omega)
      rw [← pow_cast]
      generalize 2 ^ ((i + j) % 32) = p at *
      rw [show (((bpart x j i : Nat) : Int) + (p : Int) % 4294967296) % 4294967296 = ((bpart x j (i + 1) : Nat) : Int) by omega]
      exact hr
    · have hb' : q % 2 = 0 := by omega
      have hs1 : bpart x j (i + 1) = bpart x j i := by rw [hs0, hb', Nat.zero_mul]; rfl
      rw [hs1] at hr
      rw [if_neg hb]
      exact hr
theorem rturn_eq (x : Nat) (k : Int) (hx : x < 4294967296) (hk1 : -9223372036854775808 ≤ k) (hk2 : k ≤ 9223372036854775807) (n : Nat) (hn : 96 < n) :
    strandlineref01_Turn.f n x k = some ((rot x (k % 32).toNat : Nat) : Int) := by
  unfold strandlineref01_Turn.f
  have := rturn_l x k hx hk1 hk2 32 n 0 (by omega) rfl (by omega)
  unfold bpart at this
  simpa [Nat.mod_one] using this
theorem wnear_eq (n lo hi : Int) (h : lo ≤ hi) : word_near.f n lo hi = some (if n < lo then lo else if hi < n then hi else n) := by
  unfold word_near.f mx mn
  congr 1
  by_cases h1 : n < lo <;> by_cases h2 : hi < n <;> simp [h1, h2] <;> omega
theorem low_eq (x : Nat) (b : Int) (hx : x < 18446744073709551616) : word_Low.f x b = some ((x % 2 ^ (if b < 0 then 0 else if 64 < b then 64 else b).toNat : Nat) : Int) := by
  unfold word_Low.f
  rw [wnear_eq _ _ _ (by decide)]
  simp only [Option.bind_some]
  obtain ⟨t, ht, ht2⟩ : ∃ t : Nat, (if b < 0 then 0 else if 64 < b then 64 else b) = (t : Int) ∧ t ≤ 64 := by
    refine ⟨(if b < 0 then 0 else if 64 < b then 64 else b).toNat, ?_, ?_⟩ <;> split <;> (try split) <;> omega
  rw [ht, if_pos (by omega)]
  unfold shl
  rw [Int.toNat_natCast, show min t IntKind.u64.bits = t from Nat.min_eq_left (by simpa [IntKind.bits] using ht2), IntKind.wrap_u64]
  have hp : 2 ^ (64 - t) * 2 ^ t = 18446744073709551616 := by rw [← Nat.pow_add, show 64 - t + t = 64 by omega]
  have hp0 : 0 < 2 ^ t := Nat.two_pow_pos t
  have hp1 : 2 ^ t ≤ 18446744073709551616 := by
    have := Nat.pow_le_pow_right (show 0 < 2 by decide) ht2
    simpa using this
  have e : (18446744073709551615 : Int) * 2 ^ t % 18446744073709551616 = ((18446744073709551616 - 2 ^ t : Nat) : Int) := by
    rw [← pow_cast, show (18446744073709551615 : Int) * ((2 ^ t : Nat) : Int) = ((18446744073709551616 - 2 ^ t : Nat) : Int) + 18446744073709551616 * (((2 ^ t : Nat) : Int) - 1) by omega, Int.add_mul_emod_self_left]
    omega
  rw [e, u64_andNot_nat _ _ hx (by omega), show 18446744073709551615 - (18446744073709551616 - 2 ^ t) = 2 ^ t - 1 by omega, Nat.and_two_pow_sub_one_eq_mod]
theorem rlow_eq (x : Nat) (b : Int) (hx : x < 18446744073709551616) (n : Nat) (hn : 63 < n) : strandlineref01_Low.f n x b = some ((x % 2 ^ (if b < 0 then 0 else if 64 < b then 64 else b).toNat : Nat) : Int) := by
  unfold strandlineref01_Low.f
  by_cases h : b ≥ 64
  · rw [if_pos h]
    congr 1
    rw [show (if b < 0 then 0 else if 64 < b then 64 else b).toNat = 64 by split <;> (try split) <;> omega, Nat.mod_eq_of_lt (by simpa using hx)]
  · rw [if_neg h]
    have hpp : ∀ i : Nat, (0 : Int) < 2 ^ i := fun i => Int.pow_pos (by decide)
    by_cases h0 : b < 0
    · rw [if_pos h0, two_eq n 0 (by decide) (by decide) hn, if_pos h0]
      simp only [Option.bind_some]
      rw [if_neg (by decide)]
      simp [Nat.mod_one, Int.tmod_one]
    · have := hpp b.toNat
      rw [if_neg h0, two_eq n b (by omega) (by omega) hn, if_neg h0, if_neg (by omega)]
      simp only [Option.bind_some]
      rw [if_neg (by omega), tm (by omega), ← pow_cast]
      congr 1
/-- The bytes of a number, from the lowest on. -/
def putl (n : Nat) : Nat → List Int
  | 0 => []
  | i + 1 => putl n i ++ [((n / 256 ^ i % 256 : Nat) : Int)]
theorem putl_len (n i : Nat) : (putl n i).length = i := by
  induction i with
  | zero => rfl
  | succ i ih => simp [putl, ih]
theorem put_l (n : Nat) (hn : n < 18446744073709551616) (hi : Nat) (hhi : hi ≤ 8) (d : Nat) : ∀ (k i : Nat), i ≤ hi → hi - i = d → d < k →
    word_Put.l0 k n (putl n i) hi i = some (putl n hi) := by
  induction d with
  | zero =>
    intro k i h1 hd hk
    obtain ⟨k, rfl⟩ : ∃ m, k = m + 1 := ⟨k - 1, by omega⟩
    simp only [word_Put.l0]
    obtain rfl : i = hi := by omega
    rw [if_neg (by omega)]
  | succ d ih =>
    intro k i h1 hd hk
    obtain ⟨k, rfl⟩ : ∃ m, k = m + 1 := ⟨k - 1, by omega⟩
    simp only [word_Put.l0]
    have hr := ih k (i + 1) (by omega) (by omega) (by omega)
    rw [if_pos (by omega), w64 (n := 8 * (i : Int)) (by omega) (by omega), if_pos (by omega), putl_len, if_pos (by omega), w64 (n := (i : Int) + 1) (by omega) (by omega)]
    have e : (shr .u64 n (8 * (i : Int))) % 256 = ((n / 256 ^ i % 256 : Nat) : Int) := by
      unfold shr
      have e2 : ((n : Int) / 2 ^ (8 * i)) = ((n / 2 ^ (8 * i) : Nat) : Int) := by simp
      rw [show (8 * (i : Int)).toNat = 8 * i by omega, show min (8 * i) IntKind.u64.bits = 8 * i from Nat.min_eq_left (by simp [IntKind.bits]; omega), e2, show (256 : Nat) ^ i = 2 ^ (8 * i) by rw [Nat.pow_mul], Int.natCast_emod]
      rfl
    rw [e]
    exact hr
def cl8 (a : Int) : Int := if a < 0 then 0 else if 8 < a then 8 else a
theorem put_eq (k : Nat) (hk : 8 < k) (n : Nat) (hn : n < 18446744073709551616) (w : Int) : word_Put.f k n w = some (putl n (cl8 w).toNat) := by
  unfold word_Put.f
  rw [wnear_eq _ _ _ (by decide)]
  simp only [Option.bind_some]
  have h : 0 ≤ cl8 w ∧ cl8 w ≤ 8 := by unfold cl8; split <;> (try split) <;> omega
  rw [show (if w < 0 then 0 else if 8 < w then 8 else w) = (((cl8 w).toNat : Nat) : Int) by unfold cl8 at h ⊢; omega]
  exact put_l n hn (cl8 w).toNat (by omega) (cl8 w).toNat k 0 (by omega) rfl (by omega)
theorem awake01 (k : Nat) (hk : 8 < k) : strandlinelaw01_awake.f k = some true := by
  have h1 : word_Put.f k 258 2 = some (putl 258 2) := put_eq k hk 258 (by decide) 2
  have h2 : word_Turn.f 1 (-1) = some 2147483648 := turn_eq 1 (-1) (by decide)
  unfold strandlinelaw01_awake.f
  rw [h1, h2]
  decide
end PureWT
open PureWT
theorem WordTurns : strandlinelaw01_WordTurns.Pure := by
  intro a k b ha hk hb
  obtain ⟨a0, a1⟩ := bounds_u32 ha
  obtain ⟨k0, k1⟩ := bounds_i64 hk
  obtain ⟨b0, b1⟩ := bounds_u64 hb
  obtain ⟨x, rfl⟩ := Int.eq_ofNat_of_zero_le a0
  obtain ⟨y, rfl⟩ := Int.eq_ofNat_of_zero_le b0
  refine ⟨200, ?_⟩
  have hx : x < 4294967296 := by omega
  unfold strandlinelaw01_WordTurns.f
  rw [turn_eq x k hx, rturn_eq x k hx k0 k1 200 (by omega)]
  simp only [Option.bind_some, if_true]
  have hr := rot_lt32 hx (show (k % 32).toNat ≤ 32 by omega)
  rw [turn_eq _ _ hr]
  have hj : (wrap64 (-(Int.tmod k 32)) % 32).toNat = (32 - (k % 32).toNat) % 32 := by
    have h1 := Int.mul_tdiv_add_tmod k 32
    have h2 := Int.tmod_lt_of_pos k (show (0 : Int) < 32 by decide)
    have h3 := Int.lt_tmod_of_pos k (show (0 : Int) < 32 by decide)
    rw [w64 (by omega) (by omega)]
    omega
  rw [hj, rot_rot hx (by omega)]
  simp only [Option.bind_some, if_true]
  rw [low_eq y k (by omega), rlow_eq y k (by omega) 200 (by omega)]
  simp only [Option.bind_some, if_true]
  rw [awake01 200 (by omega)]
  rfl
end Go.Proofs.Ytflkhjleknmfpaa.Pure
