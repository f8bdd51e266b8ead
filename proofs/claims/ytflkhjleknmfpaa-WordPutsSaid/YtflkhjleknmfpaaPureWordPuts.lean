/- For every number, every width and any bytes: word.Put and word.Get answer what the reference answers, and Get of what Put made is the number's lowest bits. No condition. -/
import Derived.Test.YtflkhjleknmfpaaFlWordPuts
import Derived.Test.YtflkhjleknmfpaaPlain
set_option linter.unusedVariables false
set_option linter.unusedSimpArgs false
namespace Go.Proofs.Ytflkhjleknmfpaa.Pure
open Go.RowKit Go.Proofs.Ytflkhjleknmfpaa.F Go.Proofs.YtflkhjleknmfpaaW.PrintWords Go.Proofs.YtflkhjleknmfpaaW.PrintLast Go.Proofs.YtflkhjleknmfpaaW.PrintMore Go.Proofs.Ytflkhjleknmfpaa.Plain
namespace PureWP
theorem two_l (a : Int) (ha : a ≤ 9223372036854775807) (d : Nat) : ∀ (k i : Nat), (i : Int) ≤ a → (a - i : Int) = d → d < k →
    strandlineref01_Two.l0 k a (((2 ^ i % 18446744073709551616 : Nat)) : Int) i = some (((2 ^ a.toNat % 18446744073709551616 : Nat)) : Int) := by
  induction d with
  | zero =>
    intro k i h1 hd hk
    obtain ⟨k, rfl⟩ : ∃ m, k = m + 1 := ⟨k - 1, by omega⟩
    simp only [strandlineref01_Two.l0]
    rw [if_neg (by omega), show a.toNat = i by omega]
  | succ d ih =>
    intro k i h1 hd hk
    obtain ⟨k, rfl⟩ : ∃ m, k = m + 1 := ⟨k - 1, by omega⟩
    simp only [strandlineref01_Two.l0]
    rw [if_pos (by omega), w64 (n := (i : Int) + 1) (by omega) (by omega), IntKind.wrap_u64]
    have hr := ih k (i + 1) (by omega) (by omega) (by omega)
    rw [show (((2 ^ i % 18446744073709551616 : Nat) : Int) * 2 % 18446744073709551616) = ((2 ^ (i + 1) % 18446744073709551616 : Nat) : Int) by rw [Nat.pow_succ]; omega]
    exact hr
theorem two_eq (k : Nat) (a : Int) (h0 : 0 ≤ a) (h1 : a ≤ 63) (hk : 63 < k) : strandlineref01_Two.f k a = some ((2 : Int) ^ a.toNat) := by
  unfold strandlineref01_Two.f
  have := two_l a (by omega) a.toNat k 0 (by omega) (by omega) (by omega)
  rw [Nat.mod_eq_of_lt (show (2 : Nat) ^ a.toNat < 18446744073709551616 from Nat.pow_lt_pow_right (by decide) (by omega : a.toNat < 64)), pow_cast] at this
  exact this
theorem turn_eq (x : Nat) (k : Int) (hx : x < 4294967296) : word_Turn.f x k = some ((rot x (k % 32).toNat : Nat) : Int) := by
  unfold word_Turn.f
  rw [i64_and31, if_pos (by omega), w64 (n := 32 - k % 32) (by omega) (by omega), if_pos (by omega)]
  obtain ⟨j, hj⟩ : ∃ j : Nat, k % 32 = j := ⟨(k % 32).toNat, by omega⟩
  have hj2 : j < 32 := by omega
  rw [hj]
  unfold shl shr
  rw [show (j : Int).toNat = j by omega, show (32 - (j : Int)).toNat = 32 - j by omega, show min j IntKind.u32.bits = j from Nat.min_eq_left (by simp [IntKind.bits]; omega), show min (32 - j) IntKind.u32.bits = 32 - j from Nat.min_eq_left (by simp [IntKind.bits])]
  rw [IntKind.wrap_u32, show ((x : Int) * 2 ^ j % 4294967296) = ((x % 2 ^ (32 - j) * 2 ^ j : Nat) : Int) by rw [← mul_mod_pow x (by omega)]; simp [Int.natCast_emod]]
  rw [show ((x : Int) / 2 ^ (32 - j)) = ((x / 2 ^ (32 - j) : Nat) : Int) by simp]
  have h1 := rot_lt hx (Nat.le_of_lt hj2)
  have h2 := rot_lt32 hx (Nat.le_of_lt hj2)
  unfold rot at h2
  have h3 : x % 2 ^ (32 - j) * 2 ^ j < 4294967296 := Nat.lt_of_le_of_lt (Nat.le_add_right _ _) h2
  have h4 : x / 2 ^ (32 - j) < 4294967296 := Nat.lt_of_le_of_lt (Nat.le_add_left _ _) h2
  rw [u32_or_nat _ _ h3 h4, nat_join j _ _ (Nat.mul_mod_left _ _) h1]
  rfl
theorem wnear_eq (n lo hi : Int) (h : lo ≤ hi) : word_near.f n lo hi = some (if n < lo then lo else if hi < n then hi else n) := by
  unfold word_near.f mx mn
  congr 1
  by_cases h1 : n < lo <;> by_cases h2 : hi < n <;> simp [h1, h2] <;> omega
theorem low_eq (x : Nat) (b : Int) (hx : x < 18446744073709551616) : word_Low.f x b = some ((x % 2 ^ (if b < 0 then 0 else if 64 < b then 64 else b).toNat : Nat) : Int) := by
  unfold word_Low.f
  rw [wnear_eq _ _ _ (by decide)]
  simp only [Option.bind_some]
  obtain ⟨t, ht, ht2⟩ : ∃ t : Nat, (if b < 0 then 0 else if 64 < b then 64 else b) = (t : Int) ∧ t ≤ 64 := by
    refine ⟨(if b < 0 then 0 else if 64 < b then 64 else b).toNat, ?_, ?_⟩ <;> split <;> (try split) <;> omega
  rw [ht, if_pos (by omega)]
  unfold shl
  rw [Int.toNat_natCast, show min t IntKind.u64.bits = t from Nat.min_eq_left (by simpa [IntKind.bits] using ht2), IntKind.wrap_u64]
  have hp : 2 ^ (64 - t) * 2 ^ t = 18446744073709551616 := by rw [← Nat.pow_add, show 64 - t + t = 64 by omega]
  have hp0 : 0 < 2 ^ t := Nat.two_pow_pos t
  have hp1 : 2 ^ t ≤ 18446744073709551616 := by
    have := Nat.pow_le_pow_right (show 0 < 2 by decide) ht2
    simpa using this
  have e : (18446744073709551615 : Int) * 2 ^ t % 18446744073709551616 = ((18446744073709551616 - 2 ^ t : Nat) : Int) := by
    rw [← pow_cast, show (18446744073709551615 : Int) * ((2 ^ t : Nat) : Int) = ((18446744073709551616 - 2 ^ t : Nat) : Int) + 18446744073709551616 * (((2 ^ t : Nat) : Int) - 1) by omega, Int.add_mul_emod_self_left]
    omega
  rw [e, u64_andNot_nat _ _ hx (by omega), show 18446744073709551615 - (18446744073709551616 - 2 ^ t) = 2 ^ t - 1 by omega, Nat.and_two_pow_sub_one_eq_mod]
theorem rlow_eq (x : Nat) (b : Int) (hx : x < 18446744073709551616) (n : Nat) (hn : 63 < n) : strandlineref01_Low.f n x b = some ((x % 2 ^ (if b < 0 then 0 else if 64 < b then 64 else b).toNat : Nat) : Int) := by
  unfold strandlineref01_Low.f
  by_cases h : b ≥ 64
  · rw [if_pos h]
    congr 1
    rw [show (if b < 0 then 0 else if 64 < b then 64 else b).toNat = 64 by split <;> (try split) <;> omega, Nat.mod_eq_of_lt (by simpa using hx)]
  · rw [if_neg h]
    have hpp : ∀ i : Nat, (0 : Int) < 2 ^ i := fun i => Int.pow_pos (by decide)
    by_cases h0 : b < 0
    · rw [if_pos h0, two_eq n 0 (by decide) (by decide) hn, if_pos h0]
      simp only [Option.bind_some]
      rw [if_neg (by decide)]
      simp [Nat.mod_one, Int.tmod_one]
    · have := hpp b.toNat
      rw [if_neg h0, two_eq n b (by omega) (by omega) hn, if_neg h0, if_neg (by omega)]
      simp only [Option.bind_some]
      rw [if_neg (by omega), tm (by omega), ← pow_cast]
      congr 1
/-- The bytes of a number, from the lowest on. -/
def putl (n : Nat) : Nat → List Int
  | 0 => []
  | i + 1 => putl n i ++ [((n / 256 ^ i % 256 : Nat) : Int)]
theorem putl_len (n i : Nat) : (putl n i).length = i := by
  induction i with
  | zero => rfl
  | succ i ih => simp [putl, ih]
theorem put_l (n : Nat) (hn : n < 18446744073709551616) (hi : Nat) (hhi : hi ≤ 8) (d : Nat) : ∀ (k i : Nat), i ≤ hi → hi - i = d → d < k →
    word_Put.l0 k n (putl n i) hi i = some (putl n hi) := by
  induction d with
  | zero =>
    intro k i h1 hd hk
    obtain ⟨k, rfl⟩ : ∃ m, k = m + 1 := ⟨k - 1, by omega⟩
    simp only [word_Put.l0]
    obtain rfl : i = hi := by omega
    rw [if_neg (by omega)]
  | succ d ih =>
    intro k i h1 hd hk
    obtain ⟨k, rfl⟩ : ∃ m, k = m + 1 := ⟨k - 1, by omega⟩
    simp only [word_Put.l0]
    have hr := ih k (i + 1) (by omega) (by omega) (by omega)
    rw [if_pos (by omega), w64 (n := 8 * (i : Int)) (by omega) (by omega), if_pos (by omega), putl_len, if_pos (by omega), w64 (n := (i : Int) + 1) (by omega) (by omega)]
    have e : (shr .u64 n (8 * (i : Int))) % 256 = ((n / 256 ^ i % 256 : Nat) : Int) := by
      unfold shr
      have e2 : ((n : Int) / 2 ^ (8 * i)) = ((n / 2 ^ (8 * i) : Nat) : Int) := by simp
      rw [show (8 * (i : Int)).toNat = 8 * i by omega, show min (8 * i) IntKind.u64.bits = 8 * i from Nat.min_eq_left (by simp [IntKind.bits]; omega), e2, show (256 : Nat) ^ i = 2 ^ (8 * i) by rw [Nat.pow_mul], Int.natCast_emod]
      rfl
    rw [e]
    exact hr
def cl8 (a : Int) : Int := if a < 0 then 0 else if 8 < a then 8 else a
theorem put_eq (k : Nat) (hk : 8 < k) (n : Nat) (hn : n < 18446744073709551616) (w : Int) : word_Put.f k n w = some (putl n (cl8 w).toNat) := by
  unfold word_Put.f
  rw [wnear_eq _ _ _ (by decide)]
  simp only [Option.bind_some]
  have h : 0 ≤ cl8 w ∧ cl8 w ≤ 8 := by unfold cl8; split <;> (try split) <;> omega
  rw [show (if w < 0 then 0 else if 8 < w then 8 else w) = (((cl8 w).toNat : Nat) : Int) by unfold cl8 at h ⊢; omega]
  exact put_l n hn (cl8 w).toNat (by omega) (cl8 w).toNat k 0 (by omega) rfl (by omega)
theorem rput_l (n : Nat) (hn : n < 18446744073709551616) (w : Int) (hw : w ≤ 9223372036854775807) (d : Nat) : ∀ (k i : Nat), i ≤ (cl8 w).toNat → (cl8 w).toNat - i = d → d < k →
    strandlineref01_Put.l0 k ((n / 256 ^ i : Nat) : Int) w (putl n i) i = some (putl n (cl8 w).toNat) := by
  have h : 0 ≤ cl8 w ∧ cl8 w ≤ 8 := by unfold cl8; split <;> (try split) <;> omega
  induction d with
  | zero =>
    intro k i h1 hd hk
    obtain ⟨k, rfl⟩ : ∃ m, k = m + 1 := ⟨k - 1, by omega⟩
    simp only [strandlineref01_Put.l0]
    have hi : i = (cl8 w).toNat := by omega
    rw [← hi]
    by_cases h2 : (i : Int) < w
    · rw [if_pos h2, if_neg (by unfold cl8 at hi; split at hi <;> (try split at hi) <;> omega)]
    · rw [if_neg h2]
  | succ d ih =>
    intro k i h1 hd hk
    obtain ⟨k, rfl⟩ : ∃ m, k = m + 1 := ⟨k - 1, by omega⟩
    simp only [strandlineref01_Put.l0]
    have hr := ih k (i + 1) (by omega) (by omega) (by omega)
    have hw2 : (i : Int) < w ∧ (i : Int) < 8 := by
      have : (i : Int) < cl8 w := by omega
      unfold cl8 at this
      split at this
      · omega
      · split at this <;> omega
    have hle : n / 256 ^ i ≤ n := Nat.div_le_self _ _
    have hnext : n / 256 ^ (i + 1) = n / 256 ^ i / 256 := by rw [Nat.pow_succ, Nat.div_div_eq_div_mul]
    rw [if_pos hw2.1, if_pos hw2.2, putl_len, if_pos (by omega), w64 (n := (i : Int) + 1) (by omega) (by omega)]
    rw [hnext] at hr
    rw [show putl n (i + 1) = putl n i ++ [((n / 256 ^ i % 256 : Nat) : Int)] from rfl] at hr
    generalize n / 256 ^ i = q at *
    rw [td (a := (q : Int)) (by omega), tm (a := (q : Int)) (by omega), wu64 (n := (q : Int) / 256) (by omega) (by omega), show (q : Int) % 256 % 256 = ((q % 256 : Nat) : Int) by omega, show (q : Int) / 256 = ((q / 256 : Nat) : Int) by omega]
    exact hr
theorem rput_eq (k : Nat) (hk : 8 < k) (n : Nat) (hn : n < 18446744073709551616) (w : Int) (hw : w ≤ 9223372036854775807) : strandlineref01_Put.f k n w = some (putl n (cl8 w).toNat) := by
  unfold strandlineref01_Put.f
  have h : 0 ≤ cl8 w ∧ cl8 w ≤ 8 := by unfold cl8; split <;> (try split) <;> omega
  have := rput_l n hn w hw (cl8 w).toNat k 0 (by omega) rfl (by omega)
  simpa [putl] using this
/-- The number of the first i bytes. -/
def getn (l : List Int) : Nat → Nat
  | 0 => 0
  | i + 1 => getn l i + (rd l i).toNat * 256 ^ i
theorem getn_lt {l : List Int} (hl : ∀ x ∈ l, (Lit.int .u8 x).wf = true) (i : Nat) : getn l i < 256 ^ i := by
  induction i with
  | zero => exact Nat.one_pos
  | succ i ih =>
    unfold getn
    obtain ⟨r0, r1⟩ := rd_u8 hl i
    have h1 : (rd l i).toNat * 256 ^ i ≤ 255 * 256 ^ i := Nat.mul_le_mul_right _ (by omega)
    rw [Nat.pow_succ]
    omega
theorem p256 (i : Nat) : (256 : Nat) ^ i = 2 ^ (8 * i) := by rw [Nat.pow_mul]
theorem get_l {l : List Int} (hl : ∀ x ∈ l, (Lit.int .u8 x).wf = true) (m : Nat) (hm : m ≤ 8) (hm2 : m ≤ l.length) (d : Nat) : ∀ (k i : Nat), i ≤ m → m - i = d → d < k →
    word_Get.l0 k l (getn l i) m i = some ((getn l m : Nat) : Int) := by
  induction d with
  | zero =>
    intro k i h1 hd hk
    obtain ⟨k, rfl⟩ : ∃ m, k = m + 1 := ⟨k - 1, by omega⟩
    simp only [word_Get.l0]
    obtain rfl : i = m := by omega
    rw [if_neg (by omega)]
  | succ d ih =>
    intro k i h1 hd hk
    obtain ⟨k, rfl⟩ : ∃ m, k = m + 1 := ⟨k - 1, by omega⟩
    simp only [word_Get.l0]
    have hr := ih k (i + 1) (by omega) (by omega) (by omega)
    obtain ⟨r0, r1⟩ := rd_u8 hl i
    rw [if_pos (by omega), if_pos (by omega), if_pos (by omega), w64 (n := 8 * (i : Int)) (by omega) (by omega), if_pos (by omega), wu64 (n := rd l i) (by omega) (by omega), w64 (n := (i : Int) + 1) (by omega) (by omega)]
    have h2 := getn_lt hl i
    have h3 := getn_lt hl (i + 1)
    have h4 : (256 : Nat) ^ (i + 1) ≤ 18446744073709551616 := by
      have := Nat.pow_le_pow_right (show 0 < 256 by decide) (show i + 1 ≤ 8 by omega)
      simpa using this
    have e0 : getn l (i + 1) = getn l i + (rd l i).toNat * 256 ^ i := rfl
    obtain ⟨b, hb⟩ : ∃ b : Nat, rd l i = (b : Int) := ⟨(rd l i).toNat, by omega⟩
    rw [hb, Int.toNat_natCast] at e0
    have e : shl .u64 (rd l i) (8 * (i : Int)) = ((b * 256 ^ i : Nat) : Int) := by
      unfold shl
      rw [hb, show (8 * (i : Int)).toNat = 8 * i by omega, show min (8 * i) IntKind.u64.bits = 8 * i from Nat.min_eq_left (by simp [IntKind.bits]; omega), ← pow_cast, ← Int.natCast_mul, ← p256]
      exact wu64 (by omega) (by omega)
    rw [e, u64_or_nat _ _ (by omega) (by omega), Nat.or_comm, nat_join (8 * i) _ _ (by rw [p256]; exact Nat.mul_mod_left _ _) (by rw [← p256]; exact h2), Nat.add_comm, ← e0]
    exact hr
theorem get_eq {l : List Int} (hl : ∀ x ∈ l, (Lit.int .u8 x).wf = true) (k : Nat) (hk : 8 < k) : word_Get.f k l = some ((getn l (min l.length 8) : Nat) : Int) := by
  unfold word_Get.f
  have e : mn (l.length : Int) 8 = ((min l.length 8 : Nat) : Int) := by
    unfold mn
    split <;> omega
  rw [e]
  exact get_l hl (min l.length 8) (by omega) (by omega) (min l.length 8) k 0 (by omega) rfl (by omega)
theorem rget_l {l : List Int} (hl : ∀ x ∈ l, (Lit.int .u8 x).wf = true) (d : Nat) : ∀ (k i : Nat), i ≤ min l.length 8 → min l.length 8 - i = d → d + 64 < k →
    strandlineref01_Get.l0 k l (getn l i) i = some ((getn l (min l.length 8) : Nat) : Int) := by
  induction d with
  | zero =>
    intro k i h1 hd hk
    obtain ⟨k, rfl⟩ : ∃ m, k = m + 1 := ⟨k - 1, by omega⟩
    simp only [strandlineref01_Get.l0]
    obtain rfl : i = min l.length 8 := by omega
    by_cases h2 : ((min l.length 8 : Nat) : Int) < (l.length : Int)
    · rw [if_pos h2, if_neg (by omega)]
    · rw [if_neg h2]
  | succ d ih =>
    intro k i h1 hd hk
    obtain ⟨k, rfl⟩ : ∃ m, k = m + 1 := ⟨k - 1, by omega⟩
    simp only [strandlineref01_Get.l0]
    have hr := ih k (i + 1) (by omega) (by omega) (by omega)
    obtain ⟨r0, r1⟩ := rd_u8 hl i
    rw [if_pos (by omega), if_pos (by omega), if_pos (by omega), w64 (n := 8 * (i : Int)) (by omega) (by omega), two_eq k _ (by omega) (by omega) (by omega), wu64 (n := rd l i) (by omega) (by omega), w64 (n := (i : Int) + 1) (by omega) (by omega)]
    simp only [Option.bind_some]
    have h3 := getn_lt hl (i + 1)
    have h4 : (256 : Nat) ^ (i + 1) ≤ 18446744073709551616 := by
      have := Nat.pow_le_pow_right (show 0 < 256 by decide) (show i + 1 ≤ 8 by omega)
      simpa using this
    have e0 : getn l (i + 1) = getn l i + (rd l i).toNat * 256 ^ i := rfl
    obtain ⟨b, hb⟩ : ∃ b : Nat, rd l i = (b : Int) := ⟨(rd l i).toNat, by omega⟩
    rw [hb, Int.toNat_natCast] at e0
    rw [hb, show (8 * (i : Int)).toNat = 8 * i by omega, ← pow_cast, ← Int.natCast_mul, ← p256, wu64 (n := ((b * 256 ^ i : Nat) : Int)) (by omega) (by omega), wu64 (by omega) (by omega), show ((getn l i : Nat) : Int) + ((b * 256 ^ i : Nat) : Int) = ((getn l (i + 1) : Nat) : Int) by omega]
    exact hr
theorem rget_eq {l : List Int} (hl : ∀ x ∈ l, (Lit.int .u8 x).wf = true) (k : Nat) (hk : 80 < k) : strandlineref01_Get.f k l = some ((getn l (min l.length 8) : Nat) : Int) := by
  unfold strandlineref01_Get.f
  exact rget_l hl (min l.length 8) k 0 (by omega) rfl (by omega)
theorem putl_wf (n i : Nat) : ∀ x ∈ putl n i, (Lit.int .u8 x).wf = true := by
  induction i with
  | zero => intro x hx; cases hx
  | succ i ih =>
    intro x hx
    unfold putl at hx
    rcases List.mem_append.1 hx with h | h
    · exact ih x h
    · simp at h
      subst h
      simp [Lit.wf, IntKind.min, IntKind.max, IntKind.signed, IntKind.bits]
      omega
theorem putl_rd (n i j : Nat) (h : j < i) : rd (putl n i) j = ((n / 256 ^ j % 256 : Nat) : Int) := by
  induction i with
  | zero => omega
  | succ i ih =>
    unfold rd putl
    rw [Int.toNat_natCast, List.getD_eq_getElem?_getD]
    by_cases hj : j < i
    · rw [List.getElem?_append_left (by rw [putl_len]; exact hj)]
      have := ih hj
      unfold rd at this
      rw [Int.toNat_natCast, List.getD_eq_getElem?_getD] at this
      exact this
    · obtain rfl : j = i := by omega
      rw [List.getElem?_append_right (by rw [putl_len]; exact Nat.le_refl _), putl_len]
      simp
theorem getn_putl (n m : Nat) : ∀ i, i ≤ m → getn (putl n m) i = n % 256 ^ i := by
  intro i
  induction i with
  | zero => intro _; simp [getn, Nat.mod_one]
  | succ i ih =>
    intro hi
    unfold getn
    rw [ih (by omega), putl_rd n m i (by omega), Int.toNat_natCast, Nat.pow_succ, Nat.mod_mul]
    rw [Nat.mul_comm (256 ^ i)]
theorem awake01 (k : Nat) (hk : 8 < k) : strandlinelaw01_awake.f k = some true := by
  have h1 : word_Put.f k 258 2 = some (putl 258 2) := put_eq k hk 258 (by decide) 2
  have h2 : word_Turn.f 1 (-1) = some 2147483648 := turn_eq 1 (-1) (by decide)
  unfold strandlinelaw01_awake.f
  rw [h1, h2]
  decide
end PureWP
open PureWP
theorem WordPuts : strandlinelaw01_WordPuts.Pure := by
  intro a w l ha hw hl1 hl2 hl
  obtain ⟨a0, a1⟩ := bounds_u64 ha
  obtain ⟨w0, w1⟩ := bounds_i64 hw
  obtain ⟨n, rfl⟩ := Int.eq_ofNat_of_zero_le a0
  refine ⟨200, ?_⟩
  have hc : 0 ≤ cl8 w ∧ cl8 w ≤ 8 := by unfold cl8; split <;> (try split) <;> omega
  unfold strandlinelaw01_WordPuts.f
  rw [put_eq 200 (by omega) n (by omega), rput_eq 200 (by omega) n (by omega) w w1, get_eq hl 200 (by omega), rget_eq hl 200 (by omega)]
  simp only [Option.bind_some, if_true]
  rw [get_eq (putl_wf n _) 200 (by omega), putl_len, w64 (by omega) (by omega), low_eq n _ (by omega), awake01 200 (by omega)]
  simp only [Option.bind_some]
  rw [show min (cl8 w).toNat 8 = (cl8 w).toNat by omega, getn_putl n _ _ (Nat.le_refl _), p256, if_pos]
  congr 2
  congr 1
  split
  · omega
  · split <;> omega
end Go.Proofs.Ytflkhjleknmfpaa.Pure
