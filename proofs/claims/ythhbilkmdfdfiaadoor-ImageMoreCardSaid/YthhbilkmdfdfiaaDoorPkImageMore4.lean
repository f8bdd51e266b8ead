/- Texts of mine put together: Nums, FkCrc, FkStrandlineref03, CrcMath, FragM, FkCut. -/
import Derived.Test.YthhbilkmdfdfiaaDoorPkImageMore3
import Derived.Test.YthhbilkmdfdfiaaDoorPkImageMore1
section
/- Numbers as bytes, and back: word.Put, Get and the reference's. -/
set_option linter.unusedVariables false
set_option linter.unusedSimpArgs false
namespace Go.Proofs.YthhbilkmdfdfiaaDoor.F
namespace Nums
open Go.RowKit Go.Proofs.YthhbilkmdfdfiaaDoorW.PrintWords Go.Proofs.YthhbilkmdfdfiaaDoorW.PrintLast Go.Proofs.YthhbilkmdfdfiaaDoorW.PrintMore Go.Proofs.YthhbilkmdfdfiaaDoor.Plain
theorem wnear_eq (n lo hi : Int) (h : lo ≤ hi) : word_near.f n lo hi = some (if n < lo then lo else if hi < n then hi else n) := by
  unfold word_near.f mx mn
  congr 1
  by_cases h1 : n < lo <;> by_cases h2 : hi < n <;> simp [h1, h2] <;> omega
/-- The bytes of a number, from the lowest on. -/
def putl (n : Nat) : Nat → List Int
  | 0 => []
  | i + 1 => putl n i ++ [((n / 256 ^ i % 256 : Nat) : Int)]
theorem putl_len (n i : Nat) : (putl n i).length = i := by
  induction i with
  | zero => rfl
  | succ i ih => simp [putl, ih]
theorem put_l (n : Nat) (hn : n < 18446744073709551616) (hi : Nat) (hhi : hi ≤ 8) (d : Nat) : ∀ (k i : Nat), i ≤ hi → hi - i = d → d < k →
    word_Put.l0 k n (putl n i) hi i = some (putl n hi) := by
  induction d with
  | zero =>
    intro k i h1 hd hk
    obtain ⟨k, rfl⟩ : ∃ m, k = m + 1 := ⟨k - 1, by omega⟩
    simp only [word_Put.l0]
    obtain rfl : i = hi := by omega
    rw [if_neg (by omega)]
  | succ d ih =>
    intro k i h1 hd hk
    obtain ⟨k, rfl⟩ : ∃ m, k = m + 1 := ⟨k - 1, by omega⟩
    simp only [word_Put.l0]
    have hr := ih k (i + 1) (by omega) (by omega) (by omega)
    rw [if_pos (by omega), w64 (n := 8 * (i : Int)) (by omega) (by omega), if_pos (by omega), putl_len, if_pos (by omega), w64 (n := (i : Int) + 1) (by omega) (by omega)]
    have e : (shr .u64 n (8 * (i : Int))) % 256 = ((n / 256 ^ i % 256 : Nat) : Int) := by
      unfold shr
      have e2 : ((n : Int) / 2 ^ (8 * i)) = ((n / 2 ^ (8 * i) : Nat) : Int) := by simp
      rw [show (8 * (i : Int)).toNat = 8 * i by omega, show min (8 * i) IntKind.u64.bits = 8 * i from Nat.min_eq_left (by simp [IntKind.bits]; omega), e2, show (256 : Nat) ^ i = 2 ^ (8 * i) by rw [Nat.pow_mul], Int.natCast_emod]
      rfl
    rw [e]
    exact hr
def cl8 (a : Int) : Int := if a < 0 then 0 else if 8 < a then 8 else a
theorem put_eq (k : Nat) (hk : 8 < k) (n : Nat) (hn : n < 18446744073709551616) (w : Int) : word_Put.f k n w = some (putl n (cl8 w).toNat) := by
  unfold word_Put.f
  rw [wnear_eq _ _ _ (by decide)]
  simp only [Option.bind_some]
  have h : 0 ≤ cl8 w ∧ cl8 w ≤ 8 := by unfold cl8; split <;> (try split) <;> omega
  rw [show (if w < 0 then 0 else if 8 < w then 8 else w) = (((cl8 w).toNat : Nat) : Int) by unfold cl8 at h ⊢; omega]
  exact put_l n hn (cl8 w).toNat (by omega) (cl8 w).toNat k 0 (by omega) rfl (by omega)
/-- The number of the first i bytes. -/
def getn (l : List Int) : Nat → Nat
  | 0 => 0
  | i + 1 => getn l i + (rd l i).toNat * 256 ^ i
theorem getn_lt {l : List Int} (hl : ∀ x ∈ l, (Lit.int .u8 x).wf = true) (i : Nat) : getn l i < 256 ^ i := by
  induction i with
  | zero => exact Nat.one_pos
  | succ i ih =>
    unfold getn
    obtain ⟨r0, r1⟩ := rd_u8 hl i
    have h1 : (rd l i).toNat * 256 ^ i ≤ 255 * 256 ^ i := Nat.mul_le_mul_right _ (by omega)
    rw [Nat.pow_succ]
    omega
theorem p256 (i : Nat) : (256 : Nat) ^ i = 2 ^ (8 * i) := by rw [Nat.pow_mul]
theorem get_l {l : List Int} (hl : ∀ x ∈ l, (Lit.int .u8 x).wf = true) (m : Nat) (hm : m ≤ 8) (hm2 : m ≤ l.length) (d : Nat) : ∀ (k i : Nat), i ≤ m → m - i = d → d < k →
    word_Get.l0 k l (getn l i) m i = some ((getn l m : Nat) : Int) := by
  induction d with
  | zero =>
    intro k i h1 hd hk
    obtain ⟨k, rfl⟩ : ∃ m, k = m + 1 := ⟨k - 1, by omega⟩
    simp only [word_Get.l0]
    obtain rfl : i = m := by omega
    rw [if_neg (by omega)]
  | succ d ih =>
    intro k i h1 hd hk
    obtain ⟨k, rfl⟩ : ∃ m, k = m + 1 := ⟨k - 1, by omega⟩
    simp only [word_Get.l0]
    have hr := ih k (i + 1) (by omega) (by omega) (by omega)
    obtain ⟨r0, r1⟩ := rd_u8 hl i
    rw [if_pos (by omega), if_pos (by omega), if_pos (by omega), w64 (n := 8 * (i : Int)) (by omega) (by omega), if_pos (by omega), wu64 (n := rd l i) (by omega) (by omega), w64 (n := (i : Int) + 1) (by omega) (by omega)]
    have h2 := getn_lt hl i
    have h3 := getn_lt hl (i + 1)
    have h4 : (256 : Nat) ^ (i + 1) ≤ 18446744073709551616 := by
      have := Nat.pow_le_pow_right (show 0 < 256 by decide) (show i + 1 ≤ 8 by omega)
      simpa using this
    have e0 : getn l (i + 1) = getn l i + (rd l i).toNat * 256 ^ i := rfl
    obtain ⟨b, hb⟩ : ∃ b : Nat, rd l i = (b : Int) := ⟨(rd l i).toNat, by omega⟩
    rw [hb, Int.toNat_natCast] at e0
    have e : shl .u64 (rd l i) (8 * (i : Int)) = ((b * 256 ^ i : Nat) : Int) := by
      unfold shl
      rw [hb, show (8 * (i : Int)).toNat = 8 * i by omega, show min (8 * i) IntKind.u64.bits = 8 * i from Nat.min_eq_left (by simp [IntKind.bits]; omega), ← pow_cast, ← Int.natCast_mul, ← p256]
      exact wu64 (by omega) (by omega)
    rw [e, u64_or_nat _ _ (by omega) (by omega), Nat.or_comm, nat_join (8 * i) _ _ (by rw [p256]; exact Nat.mul_mod_left _ _) (by rw [← p256]; exact h2), Nat.add_comm, ← e0]
    exact hr
theorem get_eq {l : List Int} (hl : ∀ x ∈ l, (Lit.int .u8 x).wf = true) (k : Nat) (hk : 8 < k) : word_Get.f k l = some ((getn l (min l.length 8) : Nat) : Int) := by
  unfold word_Get.f
  have e : mn (l.length : Int) 8 = ((min l.length 8 : Nat) : Int) := by
    unfold mn
    split <;> omega
  rw [e]
  exact get_l hl (min l.length 8) (by omega) (by omega) (min l.length 8) k 0 (by omega) rfl (by omega)
theorem two_l (a : Int) (ha : a ≤ 9223372036854775807) (d : Nat) : ∀ (k i : Nat), (i : Int) ≤ a → (a - i : Int) = d → d < k →
    strandlineref01_Two.l0 k a (((2 ^ i % 18446744073709551616 : Nat)) : Int) i = some (((2 ^ a.toNat % 18446744073709551616 : Nat)) : Int) := by
  induction d with
  | zero =>
    intro k i h1 hd hk
    obtain ⟨k, rfl⟩ : ∃ m, k = m + 1 := ⟨k - 1, by omega⟩
    simp only [strandlineref01_Two.l0]
    rw [if_neg (by omega), show a.toNat = i by omega]
  | succ d ih =>
    intro k i h1 hd hk
    obtain ⟨k, rfl⟩ : ∃ m, k = m + 1 := ⟨k - 1, by omega⟩
    simp only [strandlineref01_Two.l0]
    rw [if_pos (by omega), w64 (n := (i : Int) + 1) (by omega) (by omega), IntKind.wrap_u64]
    have hr := ih k (i + 1) (by omega) (by omega) (by omega)
    rw [show (((2 ^ i % 18446744073709551616 : Nat) : Int) * 2 % 18446744073709551616) = ((2 ^ (i + 1) % 18446744073709551616 : Nat) : Int) by rw [Nat.pow_succ]; omega]
    exact hr
theorem two_eq (k : Nat) (a : Int) (h0 : 0 ≤ a) (h1 : a ≤ 63) (hk : 63 < k) : strandlineref01_Two.f k a = some ((2 : Int) ^ a.toNat) := by
  unfold strandlineref01_Two.f
  have := two_l a (by omega) a.toNat k 0 (by omega) (by omega) (by omega)
  rw [Nat.mod_eq_of_lt (show (2 : Nat) ^ a.toNat < 18446744073709551616 from Nat.pow_lt_pow_right (by decide) (by omega : a.toNat < 64)), pow_cast] at this
  exact this
theorem rput_l (n : Nat) (hn : n < 18446744073709551616) (w : Int) (hw : w ≤ 9223372036854775807) (d : Nat) : ∀ (k i : Nat), i ≤ (cl8 w).toNat → (cl8 w).toNat - i = d → d < k →
    strandlineref01_Put.l0 k ((n / 256 ^ i : Nat) : Int) w (putl n i) i = some (putl n (cl8 w).toNat) := by
  have h : 0 ≤ cl8 w ∧ cl8 w ≤ 8 := by unfold cl8; split <;> (try split) <;> omega
  induction d with
  | zero =>
    intro k i h1 hd hk
    obtain ⟨k, rfl⟩ : ∃ m, k = m + 1 := ⟨k - 1, by omega⟩
    simp only [strandlineref01_Put.l0]
    have hi : i = (cl8 w).toNat := by omega
    rw [← hi]
    by_cases h2 : (i : Int) < w
    · rw [if_pos h2, if_neg (by unfold cl8 at hi; split at hi <;> (try split at hi) <;> omega)]
    · rw [if_neg h2]
  | succ d ih =>
    intro k i h1 hd hk
    obtain ⟨k, rfl⟩ : ∃ m, k = m + 1 := ⟨k - 1, by omega⟩
    simp only [strandlineref01_Put.l0]
    have hr := ih k (i + 1) (by omega) (by omega) (by omega)
    have hw2 : (i : Int) < w ∧ (i : Int) < 8 := by
      have : (i : Int) < cl8 w := by omega
      unfold cl8 at this
      split at this
      · omega
      · split at this <;> omega
    have hle : n / 256 ^ i ≤ n := Nat.div_le_self _ _
    have hnext : n / 256 ^ (i + 1) = n / 256 ^ i / 256 := by rw [Nat.pow_succ, Nat.div_div_eq_div_mul]
    rw [if_pos hw2.1, if_pos hw2.2, putl_len, if_pos (by omega), w64 (n := (i : Int) + 1) (by omega) (by omega)]
    rw [hnext] at hr
    rw [show putl n (i + 1) = putl n i ++ [((n / 256 ^ i % 256 : Nat) : Int)] from rfl] at hr
    generalize n / 256 ^ i = q at *
    rw [td (a := (q : Int)) (by omega), tm (a := (q : Int)) (by omega), wu64 (n := (q : Int) / 256) (by omega) (by omega), show (q : Int) % 256 % 256 = ((q % 256 : Nat) : Int) by omega, show (q : Int) / 256 = ((q / 256 : Nat) : Int) by omega]
    exact hr
theorem rput_eq (k : Nat) (hk : 8 < k) (n : Nat) (hn : n < 18446744073709551616) (w : Int) (hw : w ≤ 9223372036854775807) : strandlineref01_Put.f k n w = some (putl n (cl8 w).toNat) := by
  unfold strandlineref01_Put.f
  have h : 0 ≤ cl8 w ∧ cl8 w ≤ 8 := by unfold cl8; split <;> (try split) <;> omega
  have := rput_l n hn w hw (cl8 w).toNat k 0 (by omega) rfl (by omega)
  simpa [putl] using this
theorem rget_l {l : List Int} (hl : ∀ x ∈ l, (Lit.int .u8 x).wf = true) (d : Nat) : ∀ (k i : Nat), i ≤ min l.length 8 → min l.length 8 - i = d → d + 64 < k →
    strandlineref01_Get.l0 k l (getn l i) i = some ((getn l (min l.length 8) : Nat) : Int) := by
  induction d with
  | zero =>
    intro k i h1 hd hk
    obtain ⟨k, rfl⟩ : ∃ m, k = m + 1 := ⟨k - 1, by omega⟩
    simp only [strandlineref01_Get.l0]
    obtain rfl : i = min l.length 8 := by omega
    by_cases h2 : ((min l.length 8 : Nat) : Int) < (l.length : Int)
    · rw [if_pos h2, if_neg (by omega)]
    · rw [if_neg h2]
  | succ d ih =>
    intro k i h1 hd hk
    obtain ⟨k, rfl⟩ : ∃ m, k = m + 1 := ⟨k - 1, by omega⟩
    simp only [strandlineref01_Get.l0]
    have hr := ih k (i + 1) (by omega) (by omega) (by omega)
    obtain ⟨r0, r1⟩ := rd_u8 hl i
    rw [if_pos (by omega), if_pos (by omega), if_pos (by omega), w64 (n := 8 * (i : Int)) (by omega) (by omega), two_eq k _ (by omega) (by omega) (by omega), wu64 (n := rd l i) (by omega) (by omega), w64 (n := (i : Int) + 1) (by omega) (by omega)]
    simp only [Option.bind_some]
    have h3 := getn_lt hl (i + 1)
    have h4 : (256 : Nat) ^ (i + 1) ≤ 18446744073709551616 := by
      have := Nat.pow_le_pow_right (show 0 < 256 by decide) (show i + 1 ≤ 8 by omega)
      simpa using this
    have e0 : getn l (i + 1) = getn l i + (rd l i).toNat * 256 ^ i := rfl
    obtain ⟨b, hb⟩ : ∃ b : Nat, rd l i = (b : Int) := ⟨(rd l i).toNat, by omega⟩
    rw [hb, Int.toNat_natCast] at e0
    rw [hb, show (8 * (i : Int)).toNat = 8 * i by omega, ← pow_cast, ← Int.natCast_mul, ← p256, wu64 (n := ((b * 256 ^ i : Nat) : Int)) (by omega) (by omega), wu64 (by omega) (by omega), show ((getn l i : Nat) : Int) + ((b * 256 ^ i : Nat) : Int) = ((getn l (i + 1) : Nat) : Int) by omega]
    exact hr
theorem rget_eq {l : List Int} (hl : ∀ x ∈ l, (Lit.int .u8 x).wf = true) (k : Nat) (hk : 80 < k) : strandlineref01_Get.f k l = some ((getn l (min l.length 8) : Nat) : Int) := by
  unfold strandlineref01_Get.f
  exact rget_l hl (min l.length 8) k 0 (by omega) rfl (by omega)
end Nums
end Go.Proofs.YthhbilkmdfdfiaaDoor.F
namespace Go.Proofs.YthhbilkmdfdfiaaDoor.O
open Go.RowKit Go.Proofs.YthhbilkmdfdfiaaDoorW.PrintWords Go.Proofs.YthhbilkmdfdfiaaDoorW.PrintLast Go.Proofs.YthhbilkmdfdfiaaDoorW.PrintMore Go.Proofs.YthhbilkmdfdfiaaDoor.F Go.Proofs.YthhbilkmdfdfiaaDoor.F.Nums Go.Proofs.YthhbilkmdfdfiaaDoor.Plain
theorem bytes_of_wf {xs : List Int} (h : ∀ x ∈ xs, (Lit.int .u8 x).wf = true) : Bytes xs := fun c hc => by
  have := h c hc
  simp [Lit.wf, IntKind.min, IntKind.max, IntKind.signed, IntKind.bits] at this
  omega
theorem wf_of_bytes {xs : List Int} (h : Bytes xs) : ∀ x ∈ xs, (Lit.int .u8 x).wf = true := fun x hx => by
  have := h x hx
  simp [Lit.wf, IntKind.min, IntKind.max, IntKind.signed, IntKind.bits]
  omega
theorem putl_bytes (n i : Nat) : Bytes (putl n i) := by
  induction i with
  | zero => intro c hc; cases hc
  | succ i ih =>
    intro c hc
    rcases List.mem_append.1 hc with hc | hc
    · exact ih c hc
    · rw [List.mem_singleton.1 hc]
      omega
theorem bytes_append {xs ys : List Int} (h : Bytes xs) (k : Bytes ys) : Bytes (xs ++ ys) := fun c hc => (List.mem_append.1 hc).elim (h c) (k c)
theorem bytes_take {xs : List Int} (h : Bytes xs) (n : Nat) : Bytes (xs.take n) := fun c hc => h c (List.mem_of_mem_take hc)
theorem bytes_drop {xs : List Int} (h : Bytes xs) (n : Nat) : Bytes (xs.drop n) := fun c hc => h c (List.mem_of_mem_drop hc)
theorem bytes_zs (n : Nat) : Bytes (zs n) := fun c hc => by have := List.eq_of_mem_replicate hc; omega
theorem splice_at {α : Type} (a b : List α) (c : List α) (o : Nat) (ho : a.length = o) : splice (a ++ b) o c = a ++ (c ++ b.drop c.length) := by
  subst ho
  unfold splice
  rw [List.take_left, List.drop_append]
  rw [List.drop_of_length_le (by omega), List.nil_append, show a.length + c.length - a.length = c.length by omega]
theorem getn_append (a b : List Int) (i : Nat) (h : i ≤ a.length) : getn (a ++ b) i = getn a i := by
  induction i with
  | zero => rfl
  | succ i ih =>
    unfold getn
    rw [ih (by omega)]
    congr 3
    unfold rd
    rw [List.getD_eq_getElem?_getD, List.getD_eq_getElem?_getD, List.getElem?_append_left (by omega)]
theorem getn_putl (n i : Nat) : getn (putl n i) i = n % 256 ^ i := by
  induction i with
  | zero => simp [getn, Nat.mod_one]
  | succ i ih =>
    unfold getn
    show getn (putl n i ++ [((n / 256 ^ i % 256 : Nat) : Int)]) i + _ = _
    rw [getn_append _ _ _ (by rw [putl_len]; exact Nat.le_refl i), ih]
    have e : rd (putl n i ++ [((n / 256 ^ i % 256 : Nat) : Int)]) (i : Int) = ((n / 256 ^ i % 256 : Nat) : Int) := by
      unfold rd
      rw [List.getD_eq_getElem?_getD, List.getElem?_append_right (by rw [putl_len]; simp), putl_len]
      simp
    show n % 256 ^ i + (rd (putl n i ++ [((n / 256 ^ i % 256 : Nat) : Int)]) (i : Int)).toNat * 256 ^ i = _
    rw [e, Int.toNat_natCast, Nat.pow_succ, Nat.mod_mul]
    rw [Nat.mul_comm (256 ^ i)]
/-- what is put back out of what was got -/
theorem putl_getn {l : List Int} (hl : Bytes l) : ∀ i, i ≤ l.length → putl (getn l i) i = l.take i := by
  have key : ∀ (i m : Nat), i ≤ l.length → m % 256 ^ i = getn l i → putl m i = l.take i := by
    intro i
    induction i with
    | zero => intro m _ _; rfl
    | succ i ih =>
      intro m hi hm
      have hc := hl _ (List.getElem_mem (show i < l.length by omega))
      have hrd : rd l (i : Int) = l[i] := by
        unfold rd
        rw [Int.toNat_natCast, List.getD_eq_getElem?_getD, List.getElem?_eq_getElem (by omega)]
        rfl
      have hlt := getn_lt (l := l) (wf_of_bytes hl) i
      rw [Nat.pow_succ, Nat.mod_mul] at hm
      have hm' : m % 256 ^ i + 256 ^ i * (m / 256 ^ i % 256) = getn l i + (rd l (i : Int)).toNat * 256 ^ i := hm
      rw [hrd] at hm'
      have hp : 0 < 256 ^ i := Nat.pow_pos (by decide)
      have hmod : m % 256 ^ i = getn l i := by
        have h1 : (m % 256 ^ i + 256 ^ i * (m / 256 ^ i % 256)) % 256 ^ i = m % 256 ^ i := by rw [Nat.add_mul_mod_self_left, Nat.mod_mod]
        have h2 : (getn l i + (l[i]).toNat * 256 ^ i) % 256 ^ i = getn l i := by rw [Nat.add_mul_mod_self_right, Nat.mod_eq_of_lt hlt]
        rw [← h1, hm', h2]
      have hd : m / 256 ^ i % 256 = (l[i]).toNat := by
        rw [hmod, Nat.mul_comm (256 ^ i)] at hm'
        exact Nat.eq_of_mul_eq_mul_right hp (Nat.add_left_cancel hm')
      show putl m i ++ [((m / 256 ^ i % 256 : Nat) : Int)] = _
      rw [ih m (by omega) hmod, hd, List.take_add_one, List.getElem?_eq_getElem (by omega), Int.toNat_of_nonneg hc.1]
      rfl
  intro i hi
  exact key i _ hi (Nat.mod_eq_of_lt (getn_lt (l := l) (wf_of_bytes hl) i))
theorem putl_mod (m k : Nat) : ∀ i, i ≤ k → putl (m % 256 ^ k) i = putl m i := by
  intro i
  induction i with
  | zero => intro _; rfl
  | succ i ih =>
    intro hi
    show putl (m % 256 ^ k) i ++ [((m % 256 ^ k / 256 ^ i % 256 : Nat) : Int)] = putl m i ++ [((m / 256 ^ i % 256 : Nat) : Int)]
    rw [ih (by omega)]
    have e : (256 : Nat) ^ k = 256 ^ i * 256 ^ (k - i) := by rw [← Nat.pow_add]; congr 1; omega
    have d : (256 : Nat) ∣ 256 ^ (k - i) := by
      obtain ⟨q, hq⟩ : ∃ q, k - i = q + 1 := ⟨k - i - 1, by omega⟩
      rw [hq, Nat.pow_succ]
      exact Nat.dvd_mul_left _ _
    rw [e, Nat.mod_mul_right_div_self, Nat.mod_mod_of_dvd _ d]
end Go.Proofs.YthhbilkmdfdfiaaDoor.O
end

section
/- Functions of crc: what each answers, as a Lean function, and that the call answers just this. Turned out of what the kit's print told for this seat. -/
namespace Go.Proofs.YthhbilkmdfdfiaaDoor.F
open Go.RowKit Go.Proofs.YthhbilkmdfdfiaaDoorW.PrintWords Go.Proofs.YthhbilkmdfdfiaaDoorW.PrintLast Go.Proofs.YthhbilkmdfdfiaaDoorW.PrintMore
attribute [local go_sem high] eqA120
attribute [local go_sem] field120_0
attribute [local go_sem] field120_1
attribute [local go_sem] max2_int min2_int max_two min_two max_three min_three max_four min_four
set_option linter.unusedVariables false
set_option linter.unusedSimpArgs false

/-! ### crc_Mask: function 20 -/
def crc_Mask.f (a0 : Int) : Option (Int) := some (((Go.bits .or .u32 (a0 / 32768) ((a0 * 131072) % 4294967296)) + 2726488792) % 4294967296)
set_option maxHeartbeats 8000000 in
set_option maxRecDepth 100000 in
theorem crc_Mask.calls (a0 : Int) (r : Int) (w : World) (h : crc_Mask.f a0 = some r) :
    Calls Tryd.prog 20 #[.int .u32 a0] w fun e w' => e = .returned (.int .u32 r) ∧ Drawn0 w w' := by
  have hu37 := Tryd.underlying37
  have hu99 := Tryd.underlying99
  have hu120 := Tryd.underlying120
  have H : (some (((Go.bits .or .u32 (a0 / 32768) ((a0 * 131072) % 4294967296)) + 2726488792) % 4294967296)) = some r := h
  clear h
  obtain rfl := Option.some.inj H
  go_enter Tryd.func20, Tryd.ntmps20
  go_wp2
  go_ret
  exact ⟨by first | rfl | (simp; done) | (simp [*]; done), by repeat (first | exact Drawn0.refl _ | apply Drawn0.step)⟩

/-! ### crc_Unmask: function 22 -/
def crc_Unmask.f (a0 : Int) : Option (Int) := some (Go.bits .or .u32 ((((a0 - 2726488792) % 4294967296) * 32768) % 4294967296) (((a0 - 2726488792) % 4294967296) / 131072))
set_option maxHeartbeats 8000000 in
set_option maxRecDepth 100000 in
theorem crc_Unmask.calls (a0 : Int) (r : Int) (w : World) (h : crc_Unmask.f a0 = some r) :
    Calls Tryd.prog 22 #[.int .u32 a0] w fun e w' => e = .returned (.int .u32 r) ∧ Drawn0 w w' := by
  have hu37 := Tryd.underlying37
  have hu99 := Tryd.underlying99
  have hu120 := Tryd.underlying120
  have H : (some (Go.bits .or .u32 ((((a0 - 2726488792) % 4294967296) * 32768) % 4294967296) (((a0 - 2726488792) % 4294967296) / 131072))) = some r := h
  clear h
  obtain rfl := Option.some.inj H
  go_enter Tryd.func22, Tryd.ntmps22
  go_wp2
  go_ret
  exact ⟨by first | rfl | (simp; done) | (simp [*]; done), by repeat (first | exact Drawn0.refl _ | apply Drawn0.step)⟩


end Go.Proofs.YthhbilkmdfdfiaaDoor.F
end

section
/- Functions of strandlineref03: what each answers, as a Lean function, and that the call answers just this. Turned out of what the kit's print told for this seat. -/
namespace Go.Proofs.YthhbilkmdfdfiaaDoor.F
open Go.RowKit Go.Proofs.YthhbilkmdfdfiaaDoorW.PrintWords Go.Proofs.YthhbilkmdfdfiaaDoorW.PrintLast Go.Proofs.YthhbilkmdfdfiaaDoorW.PrintMore
attribute [local go_sem high] eqA120
attribute [local go_sem] field120_0
attribute [local go_sem] field120_1
attribute [local go_sem] max2_int min2_int max_two min_two max_three min_three max_four min_four
set_option linter.unusedVariables false
set_option linter.unusedSimpArgs false

/-! ### strandlineref03_Step: function 53 -/
def strandlineref03_Step.f (a0 : Int) : Option (Int) := if (Int.tmod a0 2) = 1 then (some (Go.bits .xor .u32 ((Int.tdiv a0 2) % 4294967296) 2197175160)) else (some ((Int.tdiv a0 2) % 4294967296))
set_option maxHeartbeats 8000000 in
set_option maxRecDepth 100000 in
theorem strandlineref03_Step.calls (a0 : Int) (r : Int) (w : World) (h : strandlineref03_Step.f a0 = some r) :
    Calls Tryd.prog 53 #[.int .u32 a0] w fun e w' => e = .returned (.int .u32 r) ∧ Drawn0 w w' := by
  have hu37 := Tryd.underlying37
  have hu99 := Tryd.underlying99
  have hu120 := Tryd.underlying120
  have H : (if (Int.tmod a0 2) = 1 then (some (Go.bits .xor .u32 ((Int.tdiv a0 2) % 4294967296) 2197175160)) else (some ((Int.tdiv a0 2) % 4294967296))) = some r := h
  clear h
  by_cases c2 : (Int.tmod a0 2) = 1
  · rw [if_pos c2] at H
    have c2b0 : ((Int.tmod a0 2) == 1) = true := beq_iff_eq.mpr c2
    have c2b1 : ((Int.tmod a0 2) != 1) = false := bne_eq_false_iff_eq.mpr c2
    clear c2
    obtain rfl := Option.some.inj H
    go_enter Tryd.func53, Tryd.ntmps53
    go_wp2
    go_ret
    exact ⟨by first | rfl | (simp; done) | (simp [*]; done), by repeat (first | exact Drawn0.refl _ | apply Drawn0.step)⟩
  · rw [if_neg c2] at H
    have c2b0 : ((Int.tmod a0 2) == 1) = false := beq_eq_false_iff_ne.mpr c2
    have c2b1 : ((Int.tmod a0 2) != 1) = true := bne_iff_ne.mpr c2
    obtain rfl := Option.some.inj H
    go_enter Tryd.func53, Tryd.ntmps53
    go_wp2
    go_ret
    exact ⟨by first | rfl | (simp; done) | (simp [*]; done), by repeat (first | exact Drawn0.refl _ | apply Drawn0.step)⟩

/-! ### strandlineref03_More: function 19 -/
mutual
def strandlineref03_More.l0 : Nat → List Int → Int → Int → Option (Int)
  | 0, _, _, _ => none
  | k + 1, x1, x5, x6 => if x6 < (x1.length : Int) then (if 0 ≤ x6 then (strandlineref03_More.l1 k x1 (Go.bits .xor .u32 x5 ((rd x1 x6) % 4294967296)) x6 0) else (none)) else (some ((4294967295 - x5) % 4294967296))
def strandlineref03_More.l1 : Nat → List Int → Int → Int → Int → Option (Int)
  | 0, _, _, _, _ => none
  | k + 1, x1, x5, x6, x7 => if x7 < 8 then ((strandlineref03_Step.f x5).bind fun t102 => (strandlineref03_More.l1 k x1 t102 x6 (wrap64 (x7 + 1)))) else (strandlineref03_More.l0 k x1 x5 (wrap64 (x6 + 1)))
end
def strandlineref03_More.f (k : Nat) (a0 : Int) (l1 : List Int) : Option (Int) := strandlineref03_More.l0 k l1 ((4294967295 - a0) % 4294967296) 0
theorem strandlineref03_More.mono_l : ∀ k, (∀ y0 y1 y2, LeO (strandlineref03_More.l0 k y0 y1 y2) (strandlineref03_More.l0 (k + 1) y0 y1 y2)) ∧ (∀ y0 y1 y2 y3, LeO (strandlineref03_More.l1 k y0 y1 y2 y3) (strandlineref03_More.l1 (k + 1) y0 y1 y2 y3))
  | 0 => ⟨fun _ _ _ r h => by simp [strandlineref03_More.l0] at h, fun _ _ _ _ r h => by simp [strandlineref03_More.l1] at h⟩
  | k + 1 => by
    obtain ⟨ih0, ih1⟩ := strandlineref03_More.mono_l k
    refine ⟨?_, ?_⟩
    · intro y0 y1 y2
      unfold strandlineref03_More.l0
      repeat' first
      | (with_reducible exact ih0 _ _ _)
      | (with_reducible exact ih1 _ _ _ _)
      | (with_reducible exact LeO.refl _)
      | (with_reducible exact LeO.none _)
      | (with_reducible refine LeO.ite ?_ ?_)
      | (with_reducible refine LeO.bind ?_ (fun _ => ?_))
      | exact ih0 _ _ _
      | exact ih1 _ _ _ _
      | exact LeO.none _
      | refine LeO.ite ?_ ?_
      | refine LeO.bind ?_ (fun _ => ?_)
    · intro y0 y1 y2 y3
      unfold strandlineref03_More.l1
      repeat' first
      | (with_reducible exact ih0 _ _ _)
      | (with_reducible exact ih1 _ _ _ _)
      | (with_reducible exact LeO.refl _)
      | (with_reducible exact LeO.none _)
      | (with_reducible refine LeO.ite ?_ ?_)
      | (with_reducible refine LeO.bind ?_ (fun _ => ?_))
      | exact ih0 _ _ _
      | exact ih1 _ _ _ _
      | exact LeO.none _
      | refine LeO.ite ?_ ?_
      | refine LeO.bind ?_ (fun _ => ?_)
theorem strandlineref03_More.mono : ∀ a0 a1 k, LeO (strandlineref03_More.f k a0 a1) (strandlineref03_More.f (k + 1) a0 a1) := by
  intro a0 a1 k
  obtain ⟨ih0, ih1⟩ := strandlineref03_More.mono_l k
  unfold strandlineref03_More.f
  repeat' first
      | (with_reducible exact ih0 _ _ _)
      | (with_reducible exact ih1 _ _ _ _)
      | (with_reducible exact LeO.refl _)
      | (with_reducible exact LeO.none _)
      | (with_reducible refine LeO.ite ?_ ?_)
      | (with_reducible refine LeO.bind ?_ (fun _ => ?_))
      | exact ih0 _ _ _
      | exact ih1 _ _ _ _
      | exact LeO.none _
      | refine LeO.ite ?_ ?_
      | refine LeO.bind ?_ (fun _ => ?_)
set_option maxHeartbeats 8000000 in
set_option maxRecDepth 100000 in
theorem strandlineref03_More.calls (k : Nat) (a0 : Int) (A1 : Option Addr) (c1 : Nat) (l1 : List Int) (r : Int) (w : World) (hr1 : Kd.C (Kd.int .u8) w A1 l1.length l1) (hc1 : l1.length ≤ c1) (h : strandlineref03_More.f k a0 l1 = some r) :
    Calls Tryd.prog 19 #[.int .u32 a0, .slice A1 l1.length c1] w fun e w' => e = .returned (.int .u32 r) ∧ Drawn0 w w' := by
  have hu37 := Tryd.underlying37
  have hu99 := Tryd.underlying99
  have hu120 := Tryd.underlying120
  have HR1 := Aside0.mk hr1
  have HC1 := Aside0.mk hc1
  clear hr1 hc1
  have H : (strandlineref03_More.l0 k l1 ((4294967295 - a0) % 4294967296) 0) = some r := h
  clear h
  have H' := Aside0.mk H
  clear H
  go_enter Tryd.func19, Tryd.ntmps19
  go_wp2
  go_loopg [5, 6] k (fun kq v5 v6 w' => ∃ (x5_1 : Int) (x6_1 : Int), v5 = .int .u32 x5_1 ∧ v6 = .int .i64 x6_1 ∧ Aside0 (strandlineref03_More.l0 kq l1 x5_1 x6_1 = some r) ∧ Aside0 (kq ≤ k) ∧ Drawn0 w w')
  case atStart => exact ⟨((4294967295 - a0) % 4294967296), (0), (by first | rfl | (simp; done) | (simp [*]; done)), (by first | rfl | (simp; done) | (simp [*]; done)), H', ⟨Nat.le_refl _⟩, by repeat (first | exact Drawn0.refl _ | apply Drawn0.step)⟩
  case round =>
    clear H'
    try clear c1
    try clear p2
    obtain ⟨x5_1, x6_1, rfl, rfl, HA, HK1, ⟨m1, rfl⟩⟩ := hrel
    cases gk with
    | zero => exact absurd HA.out (by simp [strandlineref03_More.l0])
    | succ k1 =>
      have H := HA.out
      clear HA
      simp only [strandlineref03_More.l0] at H
      by_cases c3 : x6_1 < (l1.length : Int)
      · rw [if_pos c3] at H
        have c3b0 : decide (x6_1 < (l1.length : Int)) = true := decide_eq_true c3
        clear c3
        by_cases c4 : 0 ≤ x6_1
        · rw [if_pos c4] at H
          have c4b0 : decide (0 ≤ x6_1) = true := decide_eq_true c4
          clear c4
          have H' := Aside0.mk H
          clear H
          have p101 : 0 ≤ (x6_1 : Int) := of_decide_eq_true (by first | (with_reducible assumption) | assumption)
          have q101 : x6_1 < (l1.length : Int) := of_decide_eq_true (by first | (with_reducible assumption) | assumption)
          obtain ⟨ad101, e101, hx101_0⟩ := Kd.at_int HR1.out x6_1 p101 q101
          cases e101
          replace p101 := eq_true p101
          replace q101 := eq_true q101
          go_wp2
          go_loopg [5, 7] k1 (fun kq v5 v7 w' => ∃ (x5_2 : Int) (x7_2 : Int), v5 = .int .u32 x5_2 ∧ v7 = .int .i64 x7_2 ∧ Aside0 (strandlineref03_More.l1 kq l1 x5_2 x6_1 x7_2 = some r) ∧ Aside0 (kq ≤ k1) ∧ Drawn0 w w')
          case atStart => exact ⟨(Go.bits .xor .u32 x5_1 ((rd l1 x6_1) % 4294967296)), (0), (by first | rfl | (simp; done) | (simp [*]; done)), (by first | rfl | (simp; done) | (simp [*]; done)), H', ⟨Nat.le_refl _⟩, by repeat (first | exact Drawn0.refl _ | apply Drawn0.step)⟩
          case round =>
            clear H'
            try clear c1
            try clear p1
            try clear q1
            try clear hx1
            try clear p2
            try clear c3
            try clear c3b0
            try clear c4
            try clear c4b0
            try clear hx101_0
            try clear p101
            try clear p2
            try clear q101
            obtain ⟨x5_2, x7_2, rfl, rfl, HA, HK2, ⟨m2, rfl⟩⟩ := hrel
            cases gk with
            | zero => exact absurd HA.out (by simp [strandlineref03_More.l1])
            | succ k2 =>
              have H := HA.out
              clear HA
              simp only [strandlineref03_More.l1] at H
              by_cases c5 : x7_2 < 8
              · rw [if_pos c5] at H
                have c5b0 : decide (x7_2 < 8) = true := decide_eq_true c5
                clear c5
                replace H := Option.bind_eq_some_iff.mp H
                obtain ⟨t102, A60, H⟩ := H
                replace H : (strandlineref03_More.l1 k2 l1 t102 x6_1 (wrap64 (x7_2 + 1))) = some r := H
                have A6 := Aside0.mk A60
                clear A60
                have H' := Aside0.mk H
                clear H
                go_wp2_with (first | ((with_reducible refine gate_callee (f := 53) rfl ?_); refine goesL_ (some 28) rfl rfl Tryd.func53 (by kernel_rfl) rfl #[.int .u32 x5_2] rfl (by (try simp only [List.map_toArray, List.map_cons, List.map_nil]); first | done | rfl | (simp only [List.length_drop, List.length_take]; rfl)) ?_; (with_reducible refine (strandlineref03_Step.calls x5_2 t102 _ A6.out).mono ?_); rintro e w' ⟨rfl, ⟨nd, rfl⟩⟩; refine ⟨_, rfl, ?_⟩))
                go_roundg k2
                case measure => have := HK1.out; have := HK2.out; omega
                case rel => exact ⟨(t102), (wrap64 (x7_2 + 1)), (by first | rfl | (simp; done) | (simp [*]; done)), (by first | rfl | (simp; done) | (simp [*]; done)), H', ⟨by have := HK1.out; have := HK2.out; omega⟩, by repeat (first | exact Drawn0.refl _ | apply Drawn0.step)⟩
              · rw [if_neg c5] at H
                have c5b0 : decide (x7_2 < 8) = false := decide_eq_false c5
                clear c5
                have H' := Aside0.mk H
                clear H
                go_wp2
                go_roundg k2
                case measure => have := HK1.out; have := HK2.out; omega
                case rel => exact ⟨(x5_2), (wrap64 (x6_1 + 1)), (by first | rfl | (simp; done) | (simp [*]; done)), (by first | rfl | (simp; done) | (simp [*]; done)), H', ⟨by have := HK1.out; have := HK2.out; omega⟩, by repeat (first | exact Drawn0.refl _ | apply Drawn0.step)⟩
        · rw [if_neg c4] at H
          exact absurd H (by simp)
      · rw [if_neg c3] at H
        have c3b0 : decide (x6_1 < (l1.length : Int)) = false := decide_eq_false c3
        clear c3
        obtain rfl := Option.some.inj H
        go_wp2
        go_ret
        exact ⟨by first | rfl | (simp; done) | (simp [*]; done), by repeat (first | exact Drawn0.refl _ | apply Drawn0.step)⟩

/-! ### strandlineref03_Of: function 17 -/
def strandlineref03_Of.f (k : Nat) (l0 : List Int) : Option (Int) := (strandlineref03_More.f k 0 l0).bind fun t103 => (some t103)
theorem strandlineref03_Of.mono : ∀ a0 k, LeO (strandlineref03_Of.f k a0) (strandlineref03_Of.f (k + 1) a0) := by
  intro a0 k
  unfold strandlineref03_Of.f
  repeat' first
      | (with_reducible exact strandlineref03_More.mono _ _ _)
      | (with_reducible exact LeO.refl _)
      | (with_reducible exact LeO.none _)
      | (with_reducible refine LeO.ite ?_ ?_)
      | (with_reducible refine LeO.bind ?_ (fun _ => ?_))
      | exact strandlineref03_More.mono _ _ _
      | exact LeO.none _
      | refine LeO.ite ?_ ?_
      | refine LeO.bind ?_ (fun _ => ?_)
set_option maxHeartbeats 8000000 in
set_option maxRecDepth 100000 in
theorem strandlineref03_Of.calls (k : Nat) (A0 : Option Addr) (c0 : Nat) (l0 : List Int) (r : Int) (w : World) (hr0 : Kd.C (Kd.int .u8) w A0 l0.length l0) (hc0 : l0.length ≤ c0) (h : strandlineref03_Of.f k l0 = some r) :
    Calls Tryd.prog 17 #[.slice A0 l0.length c0] w fun e w' => e = .returned (.int .u32 r) ∧ Drawn0 w w' := by
  have hu37 := Tryd.underlying37
  have hu99 := Tryd.underlying99
  have hu120 := Tryd.underlying120
  have HR0 := Aside0.mk hr0
  have HC0 := Aside0.mk hc0
  clear hr0 hc0
  have H : ((strandlineref03_More.f k 0 l0).bind fun t103 => (some t103)) = some r := h
  clear h
  replace H := Option.bind_eq_some_iff.mp H
  obtain ⟨t103, A20, H⟩ := H
  replace H : (some t103) = some r := H
  have A2 := Aside0.mk A20
  clear A20
  obtain rfl := Option.some.inj H
  go_enter Tryd.func17, Tryd.ntmps17
  go_wp2_with (first | ((with_reducible refine gate_callee (f := 19) rfl ?_); refine goesL_ (some 4) rfl rfl Tryd.func19 (by kernel_rfl) rfl #[.int .u32 0, .slice A0 l0.length c0] rfl (by (try simp only [List.map_toArray, List.map_cons, List.map_nil]); first | done | rfl | (simp only [List.length_drop, List.length_take]; rfl)) ?_; (with_reducible refine (strandlineref03_More.calls k 0 _ _ l0 t103 _ ?side1 ?side2 A2.out).mono ?_); (case side1 => repeat (first | exact HR0.out | (with_reducible refine Kd.C_alloc ?_ _) | (with_reducible refine Kd.C_drewN ?_ _) | (with_reducible refine Kd.C_drew ?_))); (case side2 => exact HC0.out); rintro e w' ⟨rfl, ⟨nd, rfl⟩⟩; refine ⟨_, rfl, ?_⟩))
  go_ret
  exact ⟨by first | rfl | (simp; done) | (simp [*]; done), by repeat (first | exact Drawn0.refl _ | apply Drawn0.step)⟩

/-! ### strandlineref03_Mask: function 21 -/
def strandlineref03_Mask.f (a0 : Int) : Option (Int) := some ((((((Int.tdiv a0 32768) % 4294967296) + (((Int.tmod a0 32768) * 131072) % 4294967296)) % 4294967296) + 2726488792) % 4294967296)
set_option maxHeartbeats 8000000 in
set_option maxRecDepth 100000 in
theorem strandlineref03_Mask.calls (a0 : Int) (r : Int) (w : World) (h : strandlineref03_Mask.f a0 = some r) :
    Calls Tryd.prog 21 #[.int .u32 a0] w fun e w' => e = .returned (.int .u32 r) ∧ Drawn0 w w' := by
  have hu37 := Tryd.underlying37
  have hu99 := Tryd.underlying99
  have hu120 := Tryd.underlying120
  have H : (some ((((((Int.tdiv a0 32768) % 4294967296) + (((Int.tmod a0 32768) * 131072) % 4294967296)) % 4294967296) + 2726488792) % 4294967296)) = some r := h
  clear h
  obtain rfl := Option.some.inj H
  go_enter Tryd.func21, Tryd.ntmps21
  go_wp2
  go_ret
  exact ⟨by first | rfl | (simp; done) | (simp [*]; done), by repeat (first | exact Drawn0.refl _ | apply Drawn0.step)⟩

/-! ### strandlineref03_Shift: function 24 -/
def strandlineref03_Shift.l0 : Nat → Int → Int → Int → Option (Int)
  | 0, _, _, _ => none
  | k + 1, x0, x1, x5 => if x5 < (wrap64 (8 * x1)) then ((strandlineref03_Step.f x0).bind fun t107 => (strandlineref03_Shift.l0 k t107 x1 (wrap64 (x5 + 1)))) else (some x0)
def strandlineref03_Shift.f (k : Nat) (a0 : Int) (a1 : Int) : Option (Int) := strandlineref03_Shift.l0 k a0 a1 0
theorem strandlineref03_Shift.mono_l : ∀ k, (∀ y0 y1 y2, LeO (strandlineref03_Shift.l0 k y0 y1 y2) (strandlineref03_Shift.l0 (k + 1) y0 y1 y2))
  | 0 => fun _ _ _ r h => by simp [strandlineref03_Shift.l0] at h
  | k + 1 => by
    have ih0 := strandlineref03_Shift.mono_l k
    · intro y0 y1 y2
      unfold strandlineref03_Shift.l0
      repeat' first
      | (with_reducible exact ih0 _ _ _)
      | (with_reducible exact LeO.refl _)
      | (with_reducible exact LeO.none _)
      | (with_reducible refine LeO.ite ?_ ?_)
      | (with_reducible refine LeO.bind ?_ (fun _ => ?_))
      | exact ih0 _ _ _
      | exact LeO.none _
      | refine LeO.ite ?_ ?_
      | refine LeO.bind ?_ (fun _ => ?_)
theorem strandlineref03_Shift.mono : ∀ a0 a1 k, LeO (strandlineref03_Shift.f k a0 a1) (strandlineref03_Shift.f (k + 1) a0 a1) := by
  intro a0 a1 k
  have ih0 := strandlineref03_Shift.mono_l k
  unfold strandlineref03_Shift.f
  repeat' first
      | (with_reducible exact ih0 _ _ _)
      | (with_reducible exact LeO.refl _)
      | (with_reducible exact LeO.none _)
      | (with_reducible refine LeO.ite ?_ ?_)
      | (with_reducible refine LeO.bind ?_ (fun _ => ?_))
      | exact ih0 _ _ _
      | exact LeO.none _
      | refine LeO.ite ?_ ?_
      | refine LeO.bind ?_ (fun _ => ?_)
set_option maxHeartbeats 8000000 in
set_option maxRecDepth 100000 in
theorem strandlineref03_Shift.calls (k : Nat) (a0 : Int) (a1 : Int) (r : Int) (w : World) (h : strandlineref03_Shift.f k a0 a1 = some r) :
    Calls Tryd.prog 24 #[.int .u32 a0, .int .i64 a1] w fun e w' => e = .returned (.int .u32 r) ∧ Drawn0 w w' := by
  have hu37 := Tryd.underlying37
  have hu99 := Tryd.underlying99
  have hu120 := Tryd.underlying120
  have H : (strandlineref03_Shift.l0 k a0 a1 0) = some r := h
  clear h
  have H' := Aside0.mk H
  clear H
  go_enter Tryd.func24, Tryd.ntmps24
  go_wp2
  go_loopg [0, 5] k (fun kq v0 v5 w' => ∃ (x0_1 : Int) (x5_1 : Int), v0 = .int .u32 x0_1 ∧ v5 = .int .i64 x5_1 ∧ Aside0 (strandlineref03_Shift.l0 kq x0_1 a1 x5_1 = some r) ∧ Aside0 (kq ≤ k) ∧ Drawn0 w w')
  case atStart => exact ⟨(a0), (0), (by first | rfl | (simp; done) | (simp [*]; done)), (by first | rfl | (simp; done) | (simp [*]; done)), H', ⟨Nat.le_refl _⟩, by repeat (first | exact Drawn0.refl _ | apply Drawn0.step)⟩
  case round =>
    clear H'
    try clear c2
    try clear p2
    obtain ⟨x0_1, x5_1, rfl, rfl, HA, HK1, ⟨m1, rfl⟩⟩ := hrel
    cases gk with
    | zero => exact absurd HA.out (by simp [strandlineref03_Shift.l0])
    | succ k1 =>
      have H := HA.out
      clear HA
      simp only [strandlineref03_Shift.l0] at H
      by_cases c3 : x5_1 < (wrap64 (8 * a1))
      · rw [if_pos c3] at H
        have c3b0 : decide (x5_1 < (wrap64 (8 * a1))) = true := decide_eq_true c3
        clear c3
        replace H := Option.bind_eq_some_iff.mp H
        obtain ⟨t107, A40, H⟩ := H
        replace H : (strandlineref03_Shift.l0 k1 t107 a1 (wrap64 (x5_1 + 1))) = some r := H
        have A4 := Aside0.mk A40
        clear A40
        have H' := Aside0.mk H
        clear H
        go_wp2_with (first | ((with_reducible refine gate_callee (f := 53) rfl ?_); refine goesL_ (some 13) rfl rfl Tryd.func53 (by kernel_rfl) rfl #[.int .u32 x0_1] rfl (by (try simp only [List.map_toArray, List.map_cons, List.map_nil]); first | done | rfl | (simp only [List.length_drop, List.length_take]; rfl)) ?_; (with_reducible refine (strandlineref03_Step.calls x0_1 t107 _ A4.out).mono ?_); rintro e w' ⟨rfl, ⟨nd, rfl⟩⟩; refine ⟨_, rfl, ?_⟩))
        go_roundg k1
        case measure => have := HK1.out; omega
        case rel => exact ⟨(t107), (wrap64 (x5_1 + 1)), (by first | rfl | (simp; done) | (simp [*]; done)), (by first | rfl | (simp; done) | (simp [*]; done)), H', ⟨by have := HK1.out; omega⟩, by repeat (first | exact Drawn0.refl _ | apply Drawn0.step)⟩
      · rw [if_neg c3] at H
        have c3b0 : decide (x5_1 < (wrap64 (8 * a1))) = false := decide_eq_false c3
        clear c3
        obtain rfl := Option.some.inj H
        go_wp2
        go_ret
        exact ⟨by first | rfl | (simp; done) | (simp [*]; done), by repeat (first | exact Drawn0.refl _ | apply Drawn0.step)⟩

-- NOT PRINTED: function 25 (crc_Join)

-- NOT PRINTED: function 5 (strandlinelaw03_CrcJoins)


end Go.Proofs.YthhbilkmdfdfiaaDoor.F
end

section
/- crc in plain numbers: a step, eight steps a byte; that four steps by the table are four steps; the reference's sum; the mask. -/
set_option linter.unusedVariables false
set_option linter.unusedSimpArgs false
namespace Go.Proofs.YthhbilkmdfdfiaaDoor.CrcMath
open Go.RowKit Go.Proofs.YthhbilkmdfdfiaaDoor.F Go.Proofs.YthhbilkmdfdfiaaDoorW.PrintWords Go.Proofs.YthhbilkmdfdfiaaDoorW.PrintLast Go.Proofs.YthhbilkmdfdfiaaDoorW.PrintMore Go.Proofs.YthhbilkmdfdfiaaDoor.Plain
theorem xor32_nat (a b : Nat) (ha : a < 4294967296) (hb : b < 4294967296) : bits .xor .u32 a b = ((a ^^^ b : Nat) : Int) := by
  rw [xor32, BitVec.ofInt_natCast, BitVec.ofInt_natCast, BitVec.toNat_xor, BitVec.toNat_ofNat, BitVec.toNat_ofNat, Nat.mod_eq_of_lt (by omega), Nat.mod_eq_of_lt (by omega)]
theorem xor_lt32 {a b : Nat} (ha : a < 4294967296) (hb : b < 4294967296) : a ^^^ b < 4294967296 := Nat.xor_lt_two_pow (n := 32) ha hb
abbrev P : Nat := 2197175160
/-- one step -/
def stp (n : Nat) : Nat := if n % 2 = 1 then (n / 2) ^^^ P else n / 2
theorem stp_lt {n : Nat} (h : n < 4294967296) : stp n < 4294967296 := by
  unfold stp
  split
  · exact xor_lt32 (by omega) (by decide)
  · omega
theorem xor_mod2 (a b : Nat) : (a ^^^ b) % 2 = (a % 2 + b % 2) % 2 := by
  have h := Nat.xor_mod_two_pow (a := a) (b := b) (n := 1)
  rw [show (2 : Nat) ^ 1 = 2 by decide] at h
  rw [h]
  rcases Nat.mod_two_eq_zero_or_one a with h1 | h1 <;> rcases Nat.mod_two_eq_zero_or_one b with h2 | h2 <;> rw [h1, h2] <;> decide
theorem stp_xor (a b : Nat) : stp (a ^^^ b) = stp a ^^^ stp b := by
  have hp : P ^^^ P = 0 := Nat.xor_self P
  unfold stp
  rw [xor_mod2, Nat.xor_div_two]
  rcases Nat.mod_two_eq_zero_or_one a with h1 | h1 <;> rcases Nat.mod_two_eq_zero_or_one b with h2 | h2 <;> rw [h1, h2]
  · rfl
  · show (a / 2 ^^^ b / 2) ^^^ P = a / 2 ^^^ (b / 2 ^^^ P)
    rw [Nat.xor_assoc]
  · show (a / 2 ^^^ b / 2) ^^^ P = (a / 2 ^^^ P) ^^^ b / 2
    rw [Nat.xor_assoc, Nat.xor_assoc, Nat.xor_comm P]
  · show a / 2 ^^^ b / 2 = (a / 2 ^^^ P) ^^^ (b / 2 ^^^ P)
    rw [Nat.xor_assoc, Nat.xor_comm (b / 2) P, ← Nat.xor_assoc P, hp, Nat.zero_xor]
theorem stp_even (q : Nat) : stp (2 * q) = q := by unfold stp; rw [if_neg (by omega)]; omega
def itr : Nat → Nat → Nat
  | 0, n => n
  | r + 1, n => itr r (stp n)
theorem itr_xor (r : Nat) : ∀ a b : Nat, itr r (a ^^^ b) = itr r a ^^^ itr r b := by
  induction r with
  | zero => intro a b; rfl
  | succ r ih => intro a b; show itr r (stp (a ^^^ b)) = itr r (stp a) ^^^ itr r (stp b); rw [stp_xor, ih]
theorem itr_lt (r : Nat) : ∀ {n : Nat}, n < 4294967296 → itr r n < 4294967296 := by
  induction r with
  | zero => intro n h; exact h
  | succ r ih => intro n h; exact ih (stp_lt h)
theorem itr_add (r s : Nat) : ∀ n : Nat, itr (r + s) n = itr s (itr r n) := by
  induction r with
  | zero => intro n; rw [Nat.zero_add]; rfl
  | succ r ih => intro n; rw [show r + 1 + s = (r + s) + 1 by omega]; exact ih (stp n)
theorem itr_shift (r : Nat) : ∀ q : Nat, itr r (2 ^ r * q) = q := by
  induction r with
  | zero => intro q; show 2 ^ 0 * q = q; omega
  | succ r ih =>
    intro q
    show itr r (stp (2 ^ (r + 1) * q)) = q
    rw [show 2 ^ (r + 1) * q = 2 * (2 ^ r * q) by rw [Nat.pow_succ, Nat.mul_comm (2 ^ r) 2, Nat.mul_assoc], stp_even, ih]
theorem split_xor (n r : Nat) : 2 ^ r * (n / 2 ^ r) ^^^ n % 2 ^ r = n := by
  have h1 : n % 2 ^ r < 2 ^ r := Nat.mod_lt _ (Nat.two_pow_pos r)
  apply Nat.eq_of_testBit_eq
  intro i
  rw [Nat.testBit_xor, Nat.testBit_two_pow_mul, Nat.testBit_mod_two_pow, Nat.testBit_div_two_pow]
  by_cases h : i < r
  · have : ¬ i ≥ r := by omega
    simp [h, this]
  · have h2 : i ≥ r := by omega
    simp [h, h2, show i - r + r = i by omega]
def halfN (i : Nat) : Nat := (halfL.getD i 0).toNat
theorem half_itr : ∀ i : Nat, i < 16 → halfL.getD i 0 = ((itr 4 i : Nat) : Int) := by decide +kernel
theorem four_nat {n : Nat} (h : n < 4294967296) : fourI (n : Int) = ((itr 4 n : Nat) : Int) := by
  unfold fourI
  have e1 : ((n : Int) % 16).toNat = n % 16 := by omega
  have e2 : (n : Int) / 16 = ((n / 16 : Nat) : Int) := by omega
  have hl : n % 16 < 16 := Nat.mod_lt _ (by decide)
  rw [e1, e2, half_itr _ hl, xor32_nat _ _ (itr_lt 4 (by omega)) (by omega)]
  congr 1
  have h3 := split_xor n 4
  have h4 : itr 4 n = itr 4 (2 ^ 4 * (n / 2 ^ 4)) ^^^ itr 4 (n % 2 ^ 4) := by rw [← itr_xor, h3]
  rw [h4, itr_shift, Nat.xor_comm]
theorem stepC_nat {n c : Nat} (h : n < 4294967296) (hc : c < 256) : stepC (n : Int) (c : Int) = ((itr 8 (n ^^^ c) : Nat) : Int) := by
  unfold stepC
  have hx := xor_lt32 h (show c < 4294967296 by omega)
  rw [xor32_nat _ _ h (by omega), four_nat hx, four_nat (itr_lt 4 hx), ← itr_add]
/-- the sum's state behind bytes -/
def sums (b : List Int) (n : Nat) : Nat := b.foldl (fun n c => itr 8 (n ^^^ c.toNat)) n
theorem sums_lt (b : List Int) (hb : ∀ c ∈ b, 0 ≤ c ∧ c ≤ 255) : ∀ {n : Nat}, n < 4294967296 → sums b n < 4294967296 := by
  induction b with
  | nil => intro n h; exact h
  | cons c b ih => intro n h; exact ih (fun x hx => hb x (List.mem_cons_of_mem _ hx)) (itr_lt 8 (xor_lt32 h (by have := hb c (List.mem_cons_self ..); omega)))
theorem fold_nat (b : List Int) (hb : ∀ c ∈ b, 0 ≤ c ∧ c ≤ 255) : ∀ {n : Nat}, n < 4294967296 → b.foldl stepC (n : Int) = ((sums b n : Nat) : Int) := by
  induction b with
  | nil => intro n h; rfl
  | cons c b ih =>
    intro n h
    have hc := hb c (List.mem_cons_self ..)
    have hlt := itr_lt 8 (xor_lt32 h (show c.toNat < 4294967296 by omega))
    show b.foldl stepC (stepC n c) = ((sums b (itr 8 (n ^^^ c.toNat)) : Nat) : Int)
    have e : stepC (n : Int) c = ((itr 8 (n ^^^ c.toNat) : Nat) : Int) := by
      have := stepC_nat (n := n) (c := c.toNat) h (by omega)
      rwa [Int.toNat_of_nonneg hc.1] at this
    rw [e]
    exact ih (fun x hx => hb x (List.mem_cons_of_mem _ hx)) hlt
theorem moreI_nat {s : Nat} (hs : s < 4294967296) (b : List Int) (hb : ∀ c ∈ b, 0 ≤ c ∧ c ≤ 255) : moreI s b = 4294967295 - ((sums b (4294967295 - s) : Nat) : Int) := by
  unfold moreI
  rw [show (4294967295 : Int) - (s : Int) = ((4294967295 - s : Nat) : Int) by omega, fold_nat b hb (by omega)]
/-! the reference -/
theorem rstep {n : Nat} (h : n < 4294967296) : strandlineref03_Step.f (n : Int) = some ((stp n : Nat) : Int) := by
  unfold strandlineref03_Step.f stp
  rw [tm (by omega), td (by omega)]
  have e2 : (n : Int) / 2 % 4294967296 = ((n / 2 : Nat) : Int) := by omega
  by_cases c : n % 2 = 1
  · rw [if_pos (by omega), if_pos c, e2, show (2197175160 : Int) = ((P : Nat) : Int) by decide, xor32_nat _ _ (by omega) (by decide)]
  · rw [if_neg (by omega), if_neg c, e2]
theorem rmore_l1 (b : List Int) (i : Int) (r : Nat) : ∀ (k : Nat) (n : Nat), r ≤ 8 → n < 4294967296 → strandlineref03_More.l1 (k + r + 1) b n i (8 - (r : Int)) = strandlineref03_More.l0 k b ((itr r n : Nat) : Int) (wrap64 (i + 1)) := by
  induction r with
  | zero =>
    intro k n hr h
    simp only [strandlineref03_More.l1]
    rw [if_neg (by omega)]
    rfl
  | succ r ih =>
    intro k n hr h
    rw [show k + (r + 1) + 1 = (k + r + 1) + 1 by omega]
    simp only [strandlineref03_More.l1]
    rw [if_pos (by omega), rstep h, Option.bind_some, show wrap64 (8 - ((r + 1 : Nat) : Int) + 1) = 8 - (r : Int) by rw [w64 (by omega) (by omega)]; omega]
    exact ih k (stp n) (by omega) (stp_lt h)
theorem rmore_l0 (b : List Int) (hb : ∀ c ∈ b, 0 ≤ c ∧ c ≤ 255) (hl : b.length ≤ 1000000) (d : Nat) : ∀ (k i n : Nat), i + d = b.length → n < 4294967296 → strandlineref03_More.l0 (k + 10 * d + 1) b n i = some (4294967295 - ((sums (b.drop i) n : Nat) : Int)) := by
  induction d with
  | zero =>
    intro k i n hi h
    simp only [strandlineref03_More.l0]
    rw [if_neg (by omega), show i = b.length by omega, List.drop_length]
    show some ((4294967295 - (n : Int)) % 4294967296) = some (4294967295 - ((n : Nat) : Int))
    rw [Int.emod_eq_of_lt (by omega) (by omega)]
  | succ d ih =>
    intro k i n hi h
    have hi2 : i < b.length := by omega
    have hc := hb _ (List.getElem_mem hi2)
    have hrd : rd b i = b[i] := by unfold rd; rw [List.getD_eq_getElem?_getD, Int.toNat_natCast, List.getElem?_eq_getElem hi2]; rfl
    rw [show k + 10 * (d + 1) + 1 = (k + 1 + 10 * d + 8 + 1) + 1 by omega]
    simp only [strandlineref03_More.l0]
    have hlt := xor_lt32 h (show (b[i]).toNat < 4294967296 by omega)
    have e : bits .xor .u32 (n : Int) (rd b i % 4294967296) = ((n ^^^ (b[i]).toNat : Nat) : Int) := by
      rw [hrd, Int.emod_eq_of_lt (by omega) (by omega), show b[i] = (((b[i]).toNat : Nat) : Int) by omega, xor32_nat _ _ h (by omega)]
      rfl
    rw [if_pos (by omega), if_pos (by omega), e]
    have h1 := rmore_l1 b i 8 (k + 1 + 10 * d) (n ^^^ (b[i]).toNat) (by omega) hlt
    rw [show (8 : Int) - ((8 : Nat) : Int) = 0 by decide] at h1
    rw [h1, w64 (n := (i : Int) + 1) (by omega) (by omega), List.drop_eq_getElem_cons hi2]
    have h2 := ih k (i + 1) (itr 8 (n ^^^ (b[i]).toNat)) (by omega) (itr_lt 8 hlt)
    rw [show k + 1 + 10 * d = k + 10 * d + 1 by omega]
    exact h2
theorem rmore_eq {s : Nat} (hs : s < 4294967296) (b : List Int) (hb : ∀ c ∈ b, 0 ≤ c ∧ c ≤ 255) (hl : b.length ≤ 1000000) (k : Nat) : strandlineref03_More.f (k + 10 * b.length + 1) s b = some (moreI s b) := by
  unfold strandlineref03_More.f
  rw [show ((4294967295 - (s : Int)) % 4294967296) = ((4294967295 - s : Nat) : Int) by omega, moreI_nat hs b hb]
  exact rmore_l0 b hb hl b.length k 0 _ (by omega) (by omega)
theorem rof_eq (b : List Int) (hb : ∀ c ∈ b, 0 ≤ c ∧ c ≤ 255) (hl : b.length ≤ 1000000) (k : Nat) : strandlineref03_Of.f (k + 10 * b.length + 1) b = some (moreI 0 b) := by
  unfold strandlineref03_Of.f
  have := rmore_eq (s := 0) (by decide) b hb hl k
  rw [show ((0 : Nat) : Int) = 0 from rfl] at this
  rw [this]
  rfl
/-! the mask -/
theorem or32_nat (a b : Nat) (ha : a < 4294967296) (hb : b < 4294967296) : bits .or .u32 a b = ((a ||| b : Nat) : Int) := by
  show IntKind.u32.wrap ((BitVec.ofInt 32 a ||| BitVec.ofInt 32 b).toNat : Int) = _
  have hlt := Nat.or_lt_two_pow (n := 32) ha hb
  rw [BitVec.ofInt_natCast, BitVec.ofInt_natCast, BitVec.toNat_or, BitVec.toNat_ofNat, BitVec.toNat_ofNat, Nat.mod_eq_of_lt (by omega), Nat.mod_eq_of_lt (by omega), IntKind.wrap_u32]
  omega
theorem mask_eq {n : Nat} (h : n < 4294967296) : crc_Mask.f n = some ((((n / 32768 + n % 32768 * 131072 + 2726488792) % 4294967296 : Nat)) : Int) := by
  unfold crc_Mask.f
  rw [show (n : Int) / 32768 = ((n / 32768 : Nat) : Int) by omega, show ((n : Int) * 131072) % 4294967296 = ((2 ^ 17 * (n % 32768) : Nat) : Int) by omega, or32_nat _ _ (by omega) (by omega), Nat.or_comm,
    ← Nat.two_pow_add_eq_or_of_lt (show n / 32768 < 2 ^ 17 by omega)]
  refine congrArg some ?_
  omega
theorem unmask_eq {n : Nat} (h : n < 4294967296) : crc_Unmask.f n = some (((n + 1568478504) % 4294967296 % 131072 * 32768 + (n + 1568478504) % 4294967296 / 131072 : Nat) : Int) := by
  unfold crc_Unmask.f
  have e : ((n : Int) - 2726488792) % 4294967296 = (((n + 1568478504) % 4294967296 : Nat) : Int) := by omega
  rw [e]
  have hm : (n + 1568478504) % 4294967296 < 4294967296 := Nat.mod_lt _ (by decide)
  generalize (n + 1568478504) % 4294967296 = m at hm
  rw [show (m : Int) / 131072 = ((m / 131072 : Nat) : Int) by omega, show ((m : Int) * 32768) % 4294967296 = ((2 ^ 15 * (m % 131072) : Nat) : Int) by omega, or32_nat _ _ (by omega) (by omega),
    ← Nat.two_pow_add_eq_or_of_lt (show m / 131072 < 2 ^ 15 by omega)]
  refine congrArg some ?_
  omega
theorem rl_rr {n : Nat} (h : n < 4294967296) : (n / 32768 + n % 32768 * 131072) % 131072 * 32768 + (n / 32768 + n % 32768 * 131072) / 131072 = n := by
  have ha : n / 32768 < 131072 := by omega
  have e := Nat.div_add_mod n 32768
  generalize n / 32768 = a at ha e ⊢
  generalize n % 32768 = b at e ⊢
  rw [Nat.add_mul_mod_self_right, Nat.mod_eq_of_lt ha, Nat.add_mul_div_right _ _ (by decide), Nat.div_eq_of_lt ha]
  omega
theorem rr_rl {n : Nat} (h : n < 4294967296) : (n % 131072 * 32768 + n / 131072) / 32768 + (n % 131072 * 32768 + n / 131072) % 32768 * 131072 = n := by
  have ha : n / 131072 < 32768 := by omega
  have e := Nat.div_add_mod n 131072
  generalize n / 131072 = a at ha e ⊢
  generalize n % 131072 = b at e ⊢
  rw [Nat.add_comm (b * 32768), Nat.add_mul_mod_self_right, Nat.mod_eq_of_lt ha, Nat.add_mul_div_right _ _ (by decide), Nat.div_eq_of_lt ha]
  omega
theorem back1 {n : Nat} (h : n < 4294967296) : ((((n / 32768 + n % 32768 * 131072 + 2726488792) % 4294967296 + 1568478504) % 4294967296 % 131072 * 32768 + ((n / 32768 + n % 32768 * 131072 + 2726488792) % 4294967296 + 1568478504) % 4294967296 / 131072 : Nat) : Int) = n := by
  have h2 : n / 32768 + n % 32768 * 131072 < 4294967296 := by omega
  have h3 := rl_rr h
  generalize n / 32768 + n % 32768 * 131072 = m at h2 h3 ⊢
  rw [show ((m + 2726488792) % 4294967296 + 1568478504) % 4294967296 = m by omega, h3]
theorem back2 {n : Nat} (h : n < 4294967296) : ((((n + 1568478504) % 4294967296 % 131072 * 32768 + (n + 1568478504) % 4294967296 / 131072) / 32768 + ((n + 1568478504) % 4294967296 % 131072 * 32768 + (n + 1568478504) % 4294967296 / 131072) % 32768 * 131072 + 2726488792) % 4294967296 : Nat) = (n : Int) := by
  have hm : (n + 1568478504) % 4294967296 < 4294967296 := Nat.mod_lt _ (by decide)
  have hn : ((n + 1568478504) % 4294967296 + 2726488792) % 4294967296 = n := by omega
  generalize (n + 1568478504) % 4294967296 = m at hm hn ⊢
  rw [rr_rl hm, hn]
theorem rmask_eq {n : Nat} (h : n < 4294967296) : strandlineref03_Mask.f n = some ((((n / 32768 + n % 32768 * 131072 + 2726488792) % 4294967296 : Nat)) : Int) := by
  unfold strandlineref03_Mask.f
  rw [td (by omega), tm (by omega)]
  refine congrArg some ?_
  omega
end Go.Proofs.YthhbilkmdfdfiaaDoor.CrcMath
end

section
/- A fragment's bytes, and back: plain. -/
set_option linter.unusedVariables false
set_option linter.unusedSimpArgs false
namespace Go.Proofs.YthhbilkmdfdfiaaDoor.O
open Go.RowKit Go.Proofs.YthhbilkmdfdfiaaDoorW.PrintWords Go.Proofs.YthhbilkmdfdfiaaDoorW.PrintLast Go.Proofs.YthhbilkmdfdfiaaDoorW.PrintMore Go.Proofs.YthhbilkmdfdfiaaDoor.F Go.Proofs.YthhbilkmdfdfiaaDoor.F.Nums Go.Proofs.YthhbilkmdfdfiaaDoor.Plain Go.Proofs.YthhbilkmdfdfiaaDoor.CrcMath
/-- the masked sum -/
def maskN (n : Nat) : Nat := (n / 32768 + n % 32768 * 131072 + 2726488792) % 4294967296
theorem maskN_lt (n : Nat) : maskN n < 4294967296 := Nat.mod_lt _ (by decide)
def unmaskN (m : Nat) : Nat := (m + 1568478504) % 4294967296 % 131072 * 32768 + (m + 1568478504) % 4294967296 / 131072
theorem unmask_mask {n : Nat} (hn : n < 4294967296) : unmaskN (maskN n) = n := Int.ofNat_inj.mp (back1 hn)
theorem maskN_inj {n m : Nat} (hn : n < 4294967296) (hm : m < 4294967296) (h : maskN n = maskN m) : n = m := by
  rw [← unmask_mask hn, h, unmask_mask hm]
theorem drop_app {α : Type} (a b : List α) (n m : Nat) (h : a.length = n) : (a ++ b).drop (n + m) = b.drop m := by
  rw [List.drop_append, List.drop_of_length_le (by omega), List.nil_append]
  congr 1
  omega
def crcN (l : List Int) : Nat := (moreI 0 l).toNat
theorem moreI_lo (l : List Int) : 0 ≤ moreI 0 l ∧ moreI 0 l ≤ 4294967295 := by
  have := fold_in l (4294967295 - 0) (by decide) (by decide)
  unfold moreI
  omega
theorem crcN_eq (l : List Int) : moreI 0 l = (crcN l : Int) := by
  have := moreI_lo l
  unfold crcN
  omega
theorem crcN_lt (l : List Int) : crcN l < 4294967296 := by
  have := moreI_lo l
  unfold crcN
  omega
def sumN (l : List Int) : Nat := maskN (crcN l)
theorem sumN_lt (l : List Int) : sumN l < 4294967296 := maskN_lt _
theorem sumN_inj {l m : List Int} (h : sumN l = sumN m) : moreI 0 l = moreI 0 m := by
  rw [crcN_eq, crcN_eq, maskN_inj (crcN_lt l) (crcN_lt m) h]
theorem crc_sum (l : List Int) : crc_Mask.f (moreI 0 l) = some (sumN l : Int) := by rw [crcN_eq]; exact mask_eq (crcN_lt l)
theorem rcrc_sum (l : List Int) : strandlineref03_Mask.f (moreI 0 l) = some (sumN l : Int) := by rw [crcN_eq]; exact rmask_eq (crcN_lt l)
def bodyL (kind ep : Int) (data : List Int) : List Int := putl data.length 2 ++ (kind :: (putl ep.toNat 4 ++ data))
def encL (kind ep : Int) (data : List Int) : List Int := putl (sumN (bodyL kind ep data)) 4 ++ bodyL kind ep data
theorem bodyL_len (kind ep : Int) (data : List Int) : (bodyL kind ep data).length = 7 + data.length := by simp [bodyL, putl_len]; omega
theorem encL_len (kind ep : Int) (data : List Int) : (encL kind ep data).length = 11 + data.length := by unfold encL; rw [List.length_append, bodyL_len, putl_len]; omega
def rightF (kind : Int) (n : Nat) : Bool := decide (1 ≤ kind) && decide (kind ≤ 4) && decide (n ≤ 197)
theorem bodyL_bytes {kind ep : Int} {data : List Int} (hk : 0 ≤ kind ∧ kind ≤ 255) (hd : Bytes data) : Bytes (bodyL kind ep data) := by
  refine bytes_append (putl_bytes _ _) (fun c hc => ?_)
  rcases List.mem_cons.1 hc with rfl | hc
  · exact hk
  · exact bytes_append (putl_bytes _ _) hd c hc
theorem encL_bytes {kind ep : Int} {data : List Int} (hk : 0 ≤ kind ∧ kind ≤ 255) (hd : Bytes data) : Bytes (encL kind ep data) := bytes_append (putl_bytes _ _) (bodyL_bytes hk hd)
/-- what is decoded: kind, epoch, data, how many, the error -/
def nOf (b : List Int) : Nat := getn (b.drop 4) 2
def kOf (b : List Int) : Int := b.getD 6 0
def eOf (b : List Int) : Int := (getn (b.drop 7) 4 : Nat)
def sOf (b : List Int) : Nat := getn b 4
def decE (b : List Int) (ep : Int) : Int :=
  if b.length < 11 then 1 else if b.take 11 = zs 11 then 7 else if rightF (kOf b) 0 = false ∨ 197 < nOf b ∨ eOf b ≠ ep then 2 else if b.length < 11 + nOf b then 1 else if sOf b ≠ sumN ((b.take (11 + nOf b)).drop 4) then 3 else 0
def decD (b : List Int) : List Int := (b.take (11 + nOf b)).drop 11
theorem nOf_lt {b : List Int} (hb : Bytes b) : nOf b < 65536 := getn_lt (wf_of_bytes (bytes_drop hb 4)) 2
theorem eOf_lt {b : List Int} (hb : Bytes b) : 0 ≤ eOf b ∧ eOf b ≤ 4294967295 := by
  have := getn_lt (wf_of_bytes (bytes_drop hb 7)) 4
  unfold eOf
  omega
theorem sOf_lt {b : List Int} (hb : Bytes b) : sOf b < 4294967296 := getn_lt (wf_of_bytes hb) 4
theorem cut_at {α : Type} (l : List α) (a b : Nat) (h : a ≤ b) : (l.take b).drop a = (l.drop a).take (b - a) := by rw [List.drop_take]
/-- the bytes behind the sum are those of what is decoded -/
theorem body_dec {b : List Int} (hb : Bytes b) (h : 11 + nOf b ≤ b.length) : bodyL (kOf b) (eOf b) (decD b) = (b.take (11 + nOf b)).drop 4 := by
  have hd : (decD b).length = nOf b := by unfold decD; rw [List.length_drop, List.length_take, Nat.min_eq_left h]; omega
  have e1 : putl (nOf b) 2 = (b.drop 4).take 2 := putl_getn (bytes_drop hb 4) 2 (by rw [List.length_drop]; omega)
  have e2 : putl (eOf b).toNat 4 = (b.drop 7).take 4 := by unfold eOf; rw [Int.toNat_natCast]; exact putl_getn (bytes_drop hb 7) 4 (by rw [List.length_drop]; omega)
  have e3 : b[6]? = some (kOf b) := by unfold kOf; rw [List.getD_eq_getElem?_getD, List.getElem?_eq_getElem (by omega)]; rfl
  unfold bodyL
  rw [hd, e1, e2]
  generalize hm : 11 + nOf b = m at h ⊢
  have hD : decD b = (b.take m).drop 11 := by unfold decD; rw [hm]
  rw [hD]
  apply List.ext_getElem?
  intro i
  by_cases h1 : i < 2
  · rw [List.getElem?_append_left (by rw [List.length_take, List.length_drop]; omega), List.getElem?_take_of_lt h1, List.getElem?_drop, List.getElem?_drop, List.getElem?_take_of_lt (by omega)]
  · have l2 : ((b.drop 4).take 2).length = 2 := by rw [List.length_take, List.length_drop]; omega
    rw [List.getElem?_append_right (by omega), l2]
    by_cases h2 : i = 2
    · subst h2
      rw [List.getElem?_drop, List.getElem?_take_of_lt (by omega), e3]
      rfl
    · obtain ⟨j, rfl⟩ : ∃ j, i = j + 3 := ⟨i - 3, by omega⟩
      rw [show j + 3 - 2 = j + 1 by omega, List.getElem?_cons_succ]
      have l4 : ((b.drop 7).take 4).length = 4 := by rw [List.length_take, List.length_drop]; omega
      by_cases h3 : j < 4
      · rw [List.getElem?_append_left (by omega), List.getElem?_take_of_lt h3, List.getElem?_drop, List.getElem?_drop, List.getElem?_take_of_lt (by omega)]
        congr 1
        omega
      · rw [List.getElem?_append_right (by omega), l4, List.getElem?_drop, List.getElem?_drop]
        congr 1
        omega
theorem putl_inj {n m : Nat} (hn : n < 4294967296) (hm : m < 4294967296) (h : putl n 4 = putl m 4) : n = m := by
  have h1 := getn_putl n 4
  have h2 := getn_putl m 4
  rw [h] at h1
  rw [h1] at h2
  rw [Nat.mod_eq_of_lt (by omega), Nat.mod_eq_of_lt (by omega)] at h2
  exact h2
/-- by the sum alone -/
theorem enc_dec {b : List Int} (hb : Bytes b) (h : 11 + nOf b ≤ b.length) : encL (kOf b) (eOf b) (decD b) = b.take (11 + nOf b) ↔ sOf b = sumN ((b.take (11 + nOf b)).drop 4) := by
  unfold encL
  rw [body_dec hb h]
  have e4 : putl (sOf b) 4 = b.take 4 := putl_getn hb 4 (by omega)
  have e5 : b.take (11 + nOf b) = b.take 4 ++ (b.take (11 + nOf b)).drop 4 := by
    conv => lhs; rw [← List.take_append_drop 4 (b.take (11 + nOf b))]
    rw [List.take_take, Nat.min_eq_left (by omega)]
  constructor
  · intro e
    have e' := congrArg (List.take 4) e
    rw [List.take_append_of_le_length (by rw [putl_len]; exact Nat.le_refl 4), List.take_of_length_le (by rw [putl_len]; exact Nat.le_refl 4), List.take_take, Nat.min_eq_left (by omega), ← e4] at e'
    exact (putl_inj (sumN_lt _) (sOf_lt hb) e').symm
  · intro e
    rw [← e, e4]
    exact e5.symm
theorem dec_ok {b : List Int} {ep : Int} (h : decE b ep = 0) : 11 + nOf b ≤ b.length ∧ rightF (kOf b) 0 = true ∧ nOf b ≤ 197 ∧ eOf b = ep ∧ sOf b = sumN ((b.take (11 + nOf b)).drop 4) := by
  unfold decE at h
  split at h
  · cases h
  · split at h
    · cases h
    · split at h
      · cases h
      · rename_i h3
        split at h
        · cases h
        · split at h
          · cases h
          · rename_i h5
            have h6 : sOf b = sumN ((b.take (11 + nOf b)).drop 4) := by
              by_cases e : sOf b = sumN ((b.take (11 + nOf b)).drop 4)
              · exact e
              · exact absurd e h5
            refine ⟨by omega, ?_, by omega, ?_, h6⟩
            · cases hr : rightF (kOf b) 0 with
              | true => rfl
              | false => exact absurd (.inl hr) h3
            · by_cases e : eOf b = ep
              · exact e
              · exact absurd (.inr (.inr e)) h3
/-- what was encoded -/
theorem parts_enc (kind ep : Int) (data rest : List Int) (he : 0 ≤ ep ∧ ep ≤ 4294967295) (hn : data.length ≤ 197) : nOf (encL kind ep data ++ rest) = data.length ∧ kOf (encL kind ep data ++ rest) = kind ∧ eOf (encL kind ep data ++ rest) = ep ∧ sOf (encL kind ep data ++ rest) = sumN (bodyL kind ep data) ∧ decD (encL kind ep data ++ rest) = data ∧ ((encL kind ep data ++ rest).take (11 + data.length)).drop 4 = bodyL kind ep data := by
  have ex : encL kind ep data ++ rest = putl (sumN (bodyL kind ep data)) 4 ++ (putl data.length 2 ++ (kind :: (putl ep.toNat 4 ++ (data ++ rest)))) := by simp [encL, bodyL]
  have d4 : (encL kind ep data ++ rest).drop 4 = putl data.length 2 ++ (kind :: (putl ep.toNat 4 ++ (data ++ rest))) := by rw [ex, List.drop_append_of_le_length (by rw [putl_len]; exact Nat.le_refl 4), List.drop_of_length_le (by rw [putl_len]; exact Nat.le_refl 4), List.nil_append]
  have d7 : (encL kind ep data ++ rest).drop 7 = putl ep.toNat 4 ++ (data ++ rest) := by
    rw [ex, drop_app _ _ 4 3 (putl_len _ _), drop_app _ _ 2 1 (putl_len _ _)]
    rfl
  have n1 : nOf (encL kind ep data ++ rest) = data.length := by
    unfold nOf
    rw [d4, getn_append _ _ _ (by rw [putl_len]; exact Nat.le_refl 2), getn_putl]
    exact Nat.mod_eq_of_lt (by omega)
  refine ⟨n1, ?_, ?_, ?_, ?_, ?_⟩
  · unfold kOf
    have : (encL kind ep data ++ rest)[6]? = ((encL kind ep data ++ rest).drop 4)[2]? := by rw [List.getElem?_drop]
    rw [List.getD_eq_getElem?_getD, this, d4, List.getElem?_append_right (by rw [putl_len]; exact Nat.le_refl 2), putl_len]
    rfl
  · unfold eOf
    rw [d7, getn_append _ _ _ (by rw [putl_len]; exact Nat.le_refl 4), getn_putl, Nat.mod_eq_of_lt (by omega)]
    omega
  · unfold sOf
    rw [ex, getn_append _ _ _ (by rw [putl_len]; exact Nat.le_refl 4), getn_putl]
    exact Nat.mod_eq_of_lt (by have := sumN_lt (bodyL kind ep data); omega)
  · unfold decD
    rw [n1, List.take_append_of_le_length (by rw [encL_len]; exact Nat.le_refl _), List.take_of_length_le (by rw [encL_len]; exact Nat.le_refl _)]
    have e11 : (encL kind ep data).drop 11 = data := by
      have ex' : encL kind ep data = putl (sumN (bodyL kind ep data)) 4 ++ (putl data.length 2 ++ (kind :: (putl ep.toNat 4 ++ data))) := by simp [encL, bodyL]
      rw [ex', drop_app _ _ 4 7 (putl_len _ _), drop_app _ _ 2 5 (putl_len _ _), show (5 : Nat) = 4 + 1 from rfl, List.drop_succ_cons, List.drop_append_of_le_length (by rw [putl_len]; exact Nat.le_refl 4), List.drop_of_length_le (by rw [putl_len]; exact Nat.le_refl 4), List.nil_append]
    exact e11
  · rw [List.take_append_of_le_length (by rw [encL_len]; exact Nat.le_refl _), List.take_of_length_le (by rw [encL_len]; exact Nat.le_refl _)]
    unfold encL
    rw [List.drop_append_of_le_length (by rw [putl_len]; exact Nat.le_refl 4), List.drop_of_length_le (by rw [putl_len]; exact Nat.le_refl 4), List.nil_append]
theorem enc_not0 {kind ep : Int} {data rest : List Int} (h : 1 ≤ kind) : ¬ (encL kind ep data ++ rest).take 11 = zs 11 := by
  intro e
  have h6 : (encL kind ep data ++ rest)[6]? = some kind := by
    have ex : encL kind ep data ++ rest = putl (sumN (bodyL kind ep data)) 4 ++ (putl data.length 2 ++ (kind :: (putl ep.toNat 4 ++ (data ++ rest)))) := by simp [encL, bodyL]
    rw [ex, List.getElem?_append_right (by rw [putl_len]; decide), putl_len, List.getElem?_append_right (by rw [putl_len]; decide), putl_len]
    rfl
  have : ((encL kind ep data ++ rest).take 11)[6]? = some kind := by rw [List.getElem?_take_of_lt (by decide)]; exact h6
  rw [e] at this
  simp [zs] at this
  omega
theorem dec_enc (kind ep ep' : Int) (data rest : List Int) (hk : rightF kind data.length = true) (he : 0 ≤ ep ∧ ep ≤ 4294967295) : decE (encL kind ep data ++ rest) ep' = if ep' = ep then 0 else 2 := by
  have hr : 1 ≤ kind ∧ kind ≤ 4 ∧ data.length ≤ 197 := by
    unfold rightF at hk
    simp at hk
    omega
  obtain ⟨p1, p2, p3, p4, p5, p6⟩ := parts_enc kind ep data rest he hr.2.2
  have hl := encL_len kind ep data
  unfold decE
  rw [p1, p2, p3, p4, p6, if_neg (by rw [List.length_append]; omega), if_neg (enc_not0 hr.1)]
  have hr0 : rightF kind 0 = true := by unfold rightF; simp; omega
  by_cases e : ep' = ep
  · rw [if_pos e, if_neg (by rw [hr0]; simp; exact ⟨by omega, e.symm⟩), if_neg (by rw [List.length_append]; omega), if_neg (by simp)]
  · rw [if_neg e, if_pos (.inr (.inr (fun h => e h.symm)))]
end Go.Proofs.YthhbilkmdfdfiaaDoor.O
end

section
/- Functions of cut: what each answers, as a Lean function, and that the call answers just this. Turned out of what the kit's print told for this seat. -/
namespace Go.Proofs.YthhbilkmdfdfiaaDoor.F
open Go.RowKit Go.Proofs.YthhbilkmdfdfiaaDoorW.PrintWords Go.Proofs.YthhbilkmdfdfiaaDoorW.PrintLast Go.Proofs.YthhbilkmdfdfiaaDoorW.PrintMore
attribute [local go_sem high] eqA120
attribute [local go_sem] field120_0
attribute [local go_sem] field120_1
attribute [local go_sem] max2_int min2_int max_two min_two max_three min_three max_four min_four
set_option linter.unusedVariables false
set_option linter.unusedSimpArgs false

/-! ### cut_kind: function 77 -/
def cut_kind.j0 : Nat → Bool → Bool → Bool → Option (Int)
  | 0, _, _, _ => none
  | k + 1, x0, x1, x5 => if x5 = true then (some 1) else (if x0 = true then (some 2) else (if x1 = true then (some 4) else (some 3)))
def cut_kind.f (k : Nat) (a0 : Bool) (a1 : Bool) : Option (Int) := if a0 = true then (cut_kind.j0 k a0 a1 a1) else (cut_kind.j0 k a0 a1 false)
theorem cut_kind.mono_l : ∀ k, (∀ y0 y1 y2, LeO (cut_kind.j0 k y0 y1 y2) (cut_kind.j0 (k + 1) y0 y1 y2))
  | 0 => fun _ _ _ r h => by simp [cut_kind.j0] at h
  | k + 1 => by
    have ih0 := cut_kind.mono_l k
    · intro y0 y1 y2
      unfold cut_kind.j0
      repeat' first
      | (with_reducible exact ih0 _ _ _)
      | (with_reducible exact LeO.refl _)
      | (with_reducible exact LeO.none _)
      | (with_reducible refine LeO.ite ?_ ?_)
      | (with_reducible refine LeO.bind ?_ (fun _ => ?_))
      | exact ih0 _ _ _
      | exact LeO.none _
      | refine LeO.ite ?_ ?_
      | refine LeO.bind ?_ (fun _ => ?_)
theorem cut_kind.mono : ∀ a0 a1 k, LeO (cut_kind.f k a0 a1) (cut_kind.f (k + 1) a0 a1) := by
  intro a0 a1 k
  have ih0 := cut_kind.mono_l k
  unfold cut_kind.f
  repeat' first
      | (with_reducible exact ih0 _ _ _)
      | (with_reducible exact LeO.refl _)
      | (with_reducible exact LeO.none _)
      | (with_reducible refine LeO.ite ?_ ?_)
      | (with_reducible refine LeO.bind ?_ (fun _ => ?_))
      | exact ih0 _ _ _
      | exact LeO.none _
      | refine LeO.ite ?_ ?_
      | refine LeO.bind ?_ (fun _ => ?_)
set_option maxHeartbeats 8000000 in
set_option maxRecDepth 100000 in
theorem cut_kind.calls (k : Nat) (a0 : Bool) (a1 : Bool) (r : Int) (w : World) (h : cut_kind.f k a0 a1 = some r) :
    Calls Tryd.prog 77 #[.bool a0, .bool a1] w fun e w' => e = .returned (.int .i64 r) ∧ Drawn0 w w' := by
  have hu37 := Tryd.underlying37
  have hu99 := Tryd.underlying99
  have hu120 := Tryd.underlying120
  have H : (if a0 = true then (cut_kind.j0 k a0 a1 a1) else (cut_kind.j0 k a0 a1 false)) = some r := h
  clear h
  have HC3 := Aside0.mk H
  clear H
  go_enter Tryd.func77, Tryd.ntmps77
  go_upto_region 1 with (fail)
  go_cut [5] (fun v5 wc => ∃ (kq : Nat) (x5_2 : Bool), v5 = .bool x5_2 ∧ Aside0 (cut_kind.j0 kq a0 a1 x5_2 = some r) ∧ Aside0 (kq ≤ k) ∧ Drawn0 w wc)
  case first =>
    have H := HC3.out
    clear HC3
    by_cases c4 : a0 = true
    · subst c4
      have H1 : (cut_kind.j0 k true a1 a1) = some r := by rw [if_pos rfl] at H; exact H
      clear H
      have H := H1
      clear H1
      have H' := Aside0.mk H
      clear H
      go_wp2
      go_meet
      case rel => exact ⟨_, (a1), (by first | rfl | (simp; done) | (simp [*]; done)), H', ⟨by first | omega | exact Nat.le_refl _⟩, by repeat (first | exact Drawn0.refl _ | apply Drawn0.step)⟩
    · replace c4 := Bool.eq_false_iff.mpr c4
      subst c4
      have H1 : (cut_kind.j0 k false a1 false) = some r := by rw [if_neg (show ¬ (false = true) by decide)] at H; exact H
      clear H
      have H := H1
      clear H1
      have H' := Aside0.mk H
      clear H
      go_wp2
      go_meet
      case rel => exact ⟨_, (false), (by first | rfl | (simp; done) | (simp [*]; done)), H', ⟨by first | omega | exact Nat.le_refl _⟩, by repeat (first | exact Drawn0.refl _ | apply Drawn0.step)⟩
  case rest =>
    clear HC3
    try clear p2
    try clear c4
    obtain ⟨kq, x5_2, rfl, HA, HJ2, ⟨mc2, rfl⟩⟩ := hcut
    cases kq with
    | zero => exact absurd HA.out (by simp [cut_kind.j0])
    | succ kj2 =>
      have H := HA.out
      clear HA
      simp only [cut_kind.j0] at H
      by_cases c5 : x5_2 = true
      · subst c5
        have H1 : (some 1) = some r := by rw [if_pos rfl] at H; exact H
        clear H
        have H := H1
        clear H1
        obtain rfl := Option.some.inj H
        go_wp2
        go_ret
        exact ⟨by first | rfl | (simp; done) | (simp [*]; done), by repeat (first | exact Drawn0.refl _ | apply Drawn0.step)⟩
      · replace c5 := Bool.eq_false_iff.mpr c5
        subst c5
        have H1 : (if a0 = true then (some 2) else (if a1 = true then (some 4) else (some 3))) = some r := by rw [if_neg (show ¬ (false = true) by decide)] at H; exact H
        clear H
        have H := H1
        clear H1
        by_cases c6 : a0 = true
        · subst c6
          have H1 : (some 2) = some r := by rw [if_pos rfl] at H; exact H
          clear H
          have H := H1
          clear H1
          obtain rfl := Option.some.inj H
          go_wp2
          go_ret
          exact ⟨by first | rfl | (simp; done) | (simp [*]; done), by repeat (first | exact Drawn0.refl _ | apply Drawn0.step)⟩
        · replace c6 := Bool.eq_false_iff.mpr c6
          subst c6
          have H1 : (if a1 = true then (some 4) else (some 3)) = some r := by rw [if_neg (show ¬ (false = true) by decide)] at H; exact H
          clear H
          have H := H1
          clear H1
          by_cases c7 : a1 = true
          · subst c7
            have H1 : (some 4) = some r := by rw [if_pos rfl] at H; exact H
            clear H
            have H := H1
            clear H1
            obtain rfl := Option.some.inj H
            go_wp2
            go_ret
            exact ⟨by first | rfl | (simp; done) | (simp [*]; done), by repeat (first | exact Drawn0.refl _ | apply Drawn0.step)⟩
          · replace c7 := Bool.eq_false_iff.mpr c7
            subst c7
            have H1 : (some 3) = some r := by rw [if_neg (show ¬ (false = true) by decide)] at H; exact H
            clear H
            have H := H1
            clear H1
            obtain rfl := Option.some.inj H
            go_wp2
            go_ret
            exact ⟨by first | rfl | (simp; done) | (simp [*]; done), by repeat (first | exact Drawn0.refl _ | apply Drawn0.step)⟩


end Go.Proofs.YthhbilkmdfdfiaaDoor.F
end
