/- Numbers as bytes, and back: word.Put, Get and the reference's. -/
import Derived.Test.YthhbilkmdfdfiaaDoorRd
import Derived.Test.YthhbilkmdfdfiaaDoorArrEq
import Derived.Test.YthhbilkmdfdfiaaDoorFkWord
import Derived.Test.YthhbilkmdfdfiaaDoorFkStrandlineref01
import Derived.Test.YthhbilkmdfdfiaaDoorPlain
set_option linter.unusedVariables false
set_option linter.unusedSimpArgs false
namespace Go.Proofs.YthhbilkmdfdfiaaDoor.F
namespace Nums
open Go.RowKit Go.Proofs.YthhbilkmdfdfiaaDoorW.PrintWords Go.Proofs.YthhbilkmdfdfiaaDoorW.PrintLast Go.Proofs.YthhbilkmdfdfiaaDoorW.PrintMore Go.Proofs.YthhbilkmdfdfiaaDoor.Plain
theorem wnear_eq (n lo hi : Int) (h : lo ≤ hi) : word_near.f n lo hi = some (if n < lo then lo else if hi < n then hi else n) := by
  unfold word_near.f mx mn
  congr 1
  by_cases h1 : n < lo <;> by_cases h2 : hi < n <;> simp [h1, h2] <;> omega
/-- The bytes of a number, from the lowest on. -/
def putl (n : Nat) : Nat → List Int
  | 0 => []
  | i + 1 => putl n i ++ [((n / 256 ^ i % 256 : Nat) : Int)]
theorem putl_len (n i : Nat) : (putl n i).length = i := by
  induction i with
  | zero => rfl
  | succ i ih => simp [putl, ih]
theorem put_l (n : Nat) (hn : n < 18446744073709551616) (hi : Nat) (hhi : hi ≤ 8) (d : Nat) : ∀ (k i : Nat), i ≤ hi → hi - i = d → d < k →
    word_Put.l0 k n (putl n i) hi i = some (putl n hi) := by
  induction d with
  | zero =>
    intro k i h1 hd hk
    obtain ⟨k, rfl⟩ : ∃ m, k = m + 1 := ⟨k - 1, by omega⟩
    simp only [word_Put.l0]
    obtain rfl : i = hi := by omega
    rw [if_neg (by omega)]
  | succ d ih =>
    intro k i h1 hd hk
    obtain ⟨k, rfl⟩ : ∃ m, k = m + 1 := ⟨k - 1, by omega⟩
    simp only [word_Put.l0]
    have hr := ih k (i + 1) (by omega) (by omega) (by omega)
    rw [if_pos (by omega), w64 (n := 8 * (i : Int)) (by omega) (by omega), if_pos (by omega), putl_len, if_pos (by omega), w64 (n := (i : Int) + 1) (by omega) (by omega)]
    have e : (shr .u64 n (8 * (i : Int))) % 256 = ((n / 256 ^ i % 256 : Nat) : Int) := by
      unfold shr
      have e2 : ((n : Int) / 2 ^ (8 * i)) = ((n / 2 ^ (8 * i) : Nat) : Int) := by simp
      rw [show (8 * (i : Int)).toNat = 8 * i by omega, show min (8 * i) IntKind.u64.bits = 8 * i from Nat.min_eq_left (by simp [IntKind.bits]; omega), e2, show (256 : Nat) ^ i = 2 ^ (8 * i) by rw [Nat.pow_mul], Int.natCast_emod]
      rfl
    rw [e]
    exact hr
def cl8 (a : Int) : Int := if a < 0 then 0 else if 8 < a then 8 else a
theorem put_eq (k : Nat) (hk : 8 < k) (n : Nat) (hn : n < 18446744073709551616) (w : Int) : word_Put.f k n w = some (putl n (cl8 w).toNat) := by
  unfold word_Put.f
  rw [wnear_eq _ _ _ (by decide)]
  simp only [Option.bind_some]
  have h : 0 ≤ cl8 w ∧ cl8 w ≤ 8 := by unfold cl8; split <;> (try split) <;> omega
  rw [show (if w < 0 then 0 else if 8 < w then 8 else w) = (((cl8 w).toNat : Nat) : Int) by unfold cl8 at h ⊢; omega]
  exact put_l n hn (cl8 w).toNat (by omega) (cl8 w).toNat k 0 (by omega) rfl (by omega)
/-- The number of the first i bytes. -/
def getn (l : List Int) : Nat → Nat
  | 0 => 0
  | i + 1 => getn l i + (rd l i).toNat * 256 ^ i
theorem getn_lt {l : List Int} (hl : ∀ x ∈ l, (Lit.int .u8 x).wf = true) (i : Nat) : getn l i < 256 ^ i := by
  induction i with
  | zero => exact Nat.one_pos
  | succ i ih =>
    unfold getn
    obtain ⟨r0, r1⟩ := rd_u8 hl i
    have h1 : (rd l i).toNat * 256 ^ i ≤ 255 * 256 ^ i := Nat.mul_le_mul_right _ (by omega)
    rw [Nat.pow_succ]
    omega
theorem p256 (i : Nat) : (256 : Nat) ^ i = 2 ^ (8 * i) := by rw [Nat.pow_mul]
theorem get_l {l : List Int} (hl : ∀ x ∈ l, (Lit.int .u8 x).wf = true) (m : Nat) (hm : m ≤ 8) (hm2 : m ≤ l.length) (d : Nat) : ∀ (k i : Nat), i ≤ m → m - i = d → d < k →
    word_Get.l0 k l (getn l i) m i = some ((getn l m : Nat) : Int) := by
  induction d with
  | zero =>
    intro k i h1 hd hk
    obtain ⟨k, rfl⟩ : ∃ m, k = m + 1 := ⟨k - 1, by omega⟩
    simp only [word_Get.l0]
    obtain rfl : i = m := by omega
    rw [if_neg (by omega)]
  | succ d ih =>
    intro k i h1 hd hk
    obtain ⟨k, rfl⟩ : ∃ m, k = m + 1 := ⟨k - 1, by omega⟩
    simp only [word_Get.l0]
    have hr := ih k (i + 1) (by omega) (by omega) (by omega)
    obtain ⟨r0, r1⟩ := rd_u8 hl i
    rw [if_pos (by omega), if_pos (by omega), if_pos (by omega), w64 (n := 8 * (i : Int)) (by omega) (by omega), if_pos (by omega), wu64 (n := rd l i) (by omega) (by omega), w64 (n := (i : Int) + 1) (by omega) (by omega)]
    have h2 := getn_lt hl i
    have h3 := getn_lt hl (i + 1)
    have h4 : (256 : Nat) ^ (i + 1) ≤ 18446744073709551616 := by
      have := Nat.pow_le_pow_right (show 0 < 256 by decide) (show i + 1 ≤ 8 by omega)
      simpa using this
    have e0 : getn l (i + 1) = getn l i + (rd l i).toNat * 256 ^ i := rfl
    obtain ⟨b, hb⟩ : ∃ b : Nat, rd l i = (b : Int) := ⟨(rd l i).toNat, by omega⟩
    rw [hb, Int.toNat_natCast] at e0
    have e : shl .u64 (rd l i) (8 * (i : Int)) = ((b * 256 ^ i : Nat) : Int) := by
      unfold shl
      rw [hb, show (8 * (i : Int)).toNat = 8 * i by omega, show min (8 * i) IntKind.u64.bits = 8 * i from Nat.min_eq_left (by simp [IntKind.bits]; omega), ← pow_cast, ← Int.natCast_mul, ← p256]
      exact wu64 (by omega) (by omega)
    rw [e, u64_or_nat _ _ (by omega) (by omega), Nat.or_comm, nat_join (8 * i) _ _ (by rw [p256]; exact Nat.mul_mod_left _ _) (by rw [← p256]; exact h2), Nat.add_comm, ← e0]
    exact hr
theorem get_eq {l : List Int} (hl : ∀ x ∈ l, (Lit.int .u8 x).wf = true) (k : Nat) (hk : 8 < k) : word_Get.f k l = some ((getn l (min l.length 8) : Nat) : Int) := by
  unfold word_Get.f
  have e : mn (l.length : Int) 8 = ((min l.length 8 : Nat) : Int) := by
    unfold mn
    split <;> omega
  rw [e]
  exact get_l hl (min l.length 8) (by omega) (by omega) (min l.length 8) k 0 (by omega) rfl (by omega)
theorem two_l (a : Int) (ha : a ≤ 9223372036854775807) (d : Nat) : ∀ (k i : Nat), (i : Int) ≤ a → (a - i : Int) = d → d < k →
    strandlineref01_Two.l0 k a (((2 ^ i % 18446744073709551616 : Nat)) : Int) i = some (((2 ^ a.toNat % 18446744073709551616 : Nat)) : Int) := by
  induction d with
  | zero =>
    intro k i h1 hd hk
    obtain ⟨k, rfl⟩ : ∃ m, k = m + 1 := ⟨k - 1, by omega⟩
    simp only [strandlineref01_Two.l0]
    rw [if_neg (by omega), show a.toNat = i by omega]
  | succ d ih =>
    intro k i h1 hd hk
    obtain ⟨k, rfl⟩ : ∃ m, k = m + 1 := ⟨k - 1, by omega⟩
    simp only [strandlineref01_Two.l0]
    rw [if_pos (by omega), w64 (n := (i : Int) + 1) (by omega) (by omega), IntKind.wrap_u64]
    have hr := ih k (i + 1) (by omega) (by omega) (by omega)
    rw [show (((2 ^ i % 18446744073709551616 : Nat) : Int) * 2 % 18446744073709551616) = ((2 ^ (i + 1) % 18446744073709551616 : Nat) : Int) by rw [Nat.pow_succ]; omega]
    exact hr
theorem two_eq (k : Nat) (a : Int) (h0 : 0 ≤ a) (h1 : a ≤ 63) (hk : 63 < k) : strandlineref01_Two.f k a = some ((2 : Int) ^ a.toNat) := by
  unfold strandlineref01_Two.f
  have := two_l a (by omega) a.toNat k 0 (by omega) (by omega) (by omega)
  rw [Nat.mod_eq_of_lt (show (2 : Nat) ^ a.toNat < 18446744073709551616 from Nat.pow_lt_pow_right (by decide) (by omega : a.toNat < 64)), pow_cast] at this
  exact this
theorem rput_l (n : Nat) (hn : n < 18446744073709551616) (w : Int) (hw : w ≤ 9223372036854775807) (d : Nat) : ∀ (k i : Nat), i ≤ (cl8 w).toNat → (cl8 w).toNat - i = d → d < k →
    strandlineref01_Put.l0 k ((n / 256 ^ i : Nat) : Int) w (putl n i) i = some (putl n (cl8 w).toNat) := by
  have h : 0 ≤ cl8 w ∧ cl8 w ≤ 8 := by unfold cl8; split <;> (try split) <;> omega
  induction d with
  | zero =>
    intro k i h1 hd hk
    obtain ⟨k, rfl⟩ : ∃ m, k = m + 1 := ⟨k - 1, by omega⟩
    simp only [strandlineref01_Put.l0]
    have hi : i = (cl8 w).toNat := by omega
    rw [← hi]
    by_cases h2 : (i : Int) < w
    · rw [if_pos h2, if_neg (by unfold cl8 at hi; split at hi <;> (try split at hi) <;> omega)]
    · rw [if_neg h2]
  | succ d ih =>
    intro k i h1 hd hk
    obtain ⟨k, rfl⟩ : ∃ m, k = m + 1 := ⟨k - 1, by omega⟩
    simp only [strandlineref01_Put.l0]
    have hr := ih k (i + 1) (by omega) (by omega) (by omega)
    have hw2 : (i : Int) < w ∧ (i : Int) < 8 := by
      have : (i : Int) < cl8 w := by omega
      unfold cl8 at this
      split at this
      · omega
      · split at this <;> omega
    have hle : n / 256 ^ i ≤ n := Nat.div_le_self _ _
    have hnext : n / 256 ^ (i + 1) = n / 256 ^ i / 256 := by rw [Nat.pow_succ, Nat.div_div_eq_div_mul]
    rw [if_pos hw2.1, if_pos hw2.2, putl_len, if_pos (by omega), w64 (n := (i : Int) + 1) (by omega) (by omega)]
    rw [hnext] at hr
    rw [show putl n (i + 1) = putl n i ++ [((n / 256 ^ i % 256 : Nat) : Int)] from rfl] at hr
    generalize n / 256 ^ i = q at *
    rw [td (a := (q : Int)) (by omega), tm (a := (q : Int)) (by omega), wu64 (n := (q : Int) / 256) (by omega) (by omega), show (q : Int) % 256 % 256 = ((q % 256 : Nat) : Int) by omega, show (q : Int) / 256 = ((q / 256 : Nat) : Int) by omega]
    exact hr
theorem rput_eq (k : Nat) (hk : 8 < k) (n : Nat) (hn : n < 18446744073709551616) (w : Int) (hw : w ≤ 9223372036854775807) : strandlineref01_Put.f k n w = some (putl n (cl8 w).toNat) := by
  unfold strandlineref01_Put.f
  have h : 0 ≤ cl8 w ∧ cl8 w ≤ 8 := by unfold cl8; split <;> (try split) <;> omega
  have := rput_l n hn w hw (cl8 w).toNat k 0 (by omega) rfl (by omega)
  simpa [putl] using this
theorem rget_l {l : List Int} (hl : ∀ x ∈ l, (Lit.int .u8 x).wf = true) (d : Nat) : ∀ (k i : Nat), i ≤ min l.length 8 → min l.length 8 - i = d → d + 64 < k →
    strandlineref01_Get.l0 k l (getn l i) i = some ((getn l (min l.length 8) : Nat) : Int) := by
  induction d with
  | zero =>
    intro k i h1 hd hk
    obtain ⟨k, rfl⟩ : ∃ m, k = m + 1 := ⟨k - 1, by omega⟩
    simp only [strandlineref01_Get.l0]
    obtain rfl : i = min l.length 8 := by omega
    by_cases h2 : ((min l.length 8 : Nat) : Int) < (l.length : Int)
    · rw [if_pos h2, if_neg (by omega)]
    · rw [if_neg h2]
  | succ d ih =>
    intro k i h1 hd hk
    obtain ⟨k, rfl⟩ : ∃ m, k = m + 1 := ⟨k - 1, by omega⟩
    simp only [strandlineref01_Get.l0]
    have hr := ih k (i + 1) (by omega) (by omega) (by omega)
    obtain ⟨r0, r1⟩ := rd_u8 hl i
    rw [if_pos (by omega), if_pos (by omega), if_pos (by omega), w64 (n := 8 * (i : Int)) (by omega) (by omega), two_eq k _ (by omega) (by omega) (by omega), wu64 (n := rd l i) (by omega) (by omega), w64 (n := (i : Int) + 1) (by omega) (by omega)]
    simp only [Option.bind_some]
    have h3 := getn_lt hl (i + 1)
    have h4 : (256 : Nat) ^ (i + 1) ≤ 18446744073709551616 := by
      have := Nat.pow_le_pow_right (show 0 < 256 by decide) (show i + 1 ≤ 8 by omega)
      simpa using this
    have e0 : getn l (i + 1) = getn l i + (rd l i).toNat * 256 ^ i := rfl
    obtain ⟨b, hb⟩ : ∃ b : Nat, rd l i = (b : Int) := ⟨(rd l i).toNat, by omega⟩
    rw [hb, Int.toNat_natCast] at e0
    rw [hb, show (8 * (i : Int)).toNat = 8 * i by omega, ← pow_cast, ← Int.natCast_mul, ← p256, wu64 (n := ((b * 256 ^ i : Nat) : Int)) (by omega) (by omega), wu64 (by omega) (by omega), show ((getn l i : Nat) : Int) + ((b * 256 ^ i : Nat) : Int) = ((getn l (i + 1) : Nat) : Int) by omega]
    exact hr
theorem rget_eq {l : List Int} (hl : ∀ x ∈ l, (Lit.int .u8 x).wf = true) (k : Nat) (hk : 80 < k) : strandlineref01_Get.f k l = some ((getn l (min l.length 8) : Nat) : Int) := by
  unfold strandlineref01_Get.f
  exact rget_l hl (min l.length 8) k 0 (by omega) rfl (by omega)
end Nums
end Go.Proofs.YthhbilkmdfdfiaaDoor.F
namespace Go.Proofs.YthhbilkmdfdfiaaDoor.O
open Go.RowKit Go.Proofs.YthhbilkmdfdfiaaDoorW.PrintWords Go.Proofs.YthhbilkmdfdfiaaDoorW.PrintLast Go.Proofs.YthhbilkmdfdfiaaDoorW.PrintMore Go.Proofs.YthhbilkmdfdfiaaDoor.F Go.Proofs.YthhbilkmdfdfiaaDoor.F.Nums Go.Proofs.YthhbilkmdfdfiaaDoor.Plain
theorem bytes_of_wf {xs : List Int} (h : ∀ x ∈ xs, (Lit.int .u8 x).wf = true) : Bytes xs := fun c hc => by
  have := h c hc
  simp [Lit.wf, IntKind.min, IntKind.max, IntKind.signed, IntKind.bits] at this
  omega
theorem wf_of_bytes {xs : List Int} (h : Bytes xs) : ∀ x ∈ xs, (Lit.int .u8 x).wf = true := fun x hx => by
  have := h x hx
  simp [Lit.wf, IntKind.min, IntKind.max, IntKind.signed, IntKind.bits]
  omega
theorem putl_bytes (n i : Nat) : Bytes (putl n i) := by
  induction i with
  | zero => intro c hc; cases hc
  | succ i ih =>
    intro c hc
    rcases List.mem_append.1 hc with hc | hc
    · exact ih c hc
    · rw [List.mem_singleton.1 hc]
      omega
theorem bytes_append {xs ys : List Int} (h : Bytes xs) (k : Bytes ys) : Bytes (xs ++ ys) := fun c hc => (List.mem_append.1 hc).elim (h c) (k c)
theorem bytes_take {xs : List Int} (h : Bytes xs) (n : Nat) : Bytes (xs.take n) := fun c hc => h c (List.mem_of_mem_take hc)
theorem bytes_drop {xs : List Int} (h : Bytes xs) (n : Nat) : Bytes (xs.drop n) := fun c hc => h c (List.mem_of_mem_drop hc)
theorem bytes_zs (n : Nat) : Bytes (zs n) := fun c hc => by have := List.eq_of_mem_replicate hc; omega
theorem splice_at {α : Type} (a b : List α) (c : List α) (o : Nat) (ho : a.length = o) : splice (a ++ b) o c = a ++ (c ++ b.drop c.length) := by
  subst ho
  unfold splice
  rw [List.take_left, List.drop_append]
  rw [List.drop_of_length_le (by omega), List.nil_append, show a.length + c.length - a.length = c.length by omega]
theorem getn_append (a b : List Int) (i : Nat) (h : i ≤ a.length) : getn (a ++ b) i = getn a i := by
  induction i with
  | zero => rfl
  | succ i ih =>
    unfold getn
    rw [ih (by omega)]
    congr 3
    unfold rd
    rw [List.getD_eq_getElem?_getD, List.getD_eq_getElem?_getD, List.getElem?_append_left (by omega)]
theorem getn_putl (n i : Nat) : getn (putl n i) i = n % 256 ^ i := by
  induction i with
  | zero => simp [getn, Nat.mod_one]
  | succ i ih =>
    unfold getn
    show getn (putl n i ++ [((n / 256 ^ i % 256 : Nat) : Int)]) i + _ = _
    rw [getn_append _ _ _ (by rw [putl_len]; exact Nat.le_refl i), ih]
    have e : rd (putl n i ++ [((n / 256 ^ i % 256 : Nat) : Int)]) (i : Int) = ((n / 256 ^ i % 256 : Nat) : Int) := by
      unfold rd
      rw [List.getD_eq_getElem?_getD, List.getElem?_append_right (by rw [putl_len]; simp), putl_len]
      simp
    show n % 256 ^ i + (rd (putl n i ++ [((n / 256 ^ i % 256 : Nat) : Int)]) (i : Int)).toNat * 256 ^ i = _
    rw [e, Int.toNat_natCast, Nat.pow_succ, Nat.mod_mul]
    rw [Nat.mul_comm (256 ^ i)]
/-- what is put back out of what was got -/
theorem putl_getn {l : List Int} (hl : Bytes l) : ∀ i, i ≤ l.length → putl (getn l i) i = l.take i := by
  have key : ∀ (i m : Nat), i ≤ l.length → m % 256 ^ i = getn l i → putl m i = l.take i := by
    intro i
    induction i with
    | zero => intro m _ _; rfl
    | succ i ih =>
      intro m hi hm
      have hc := hl _ (List.getElem_mem (show i < l.length by omega))
      have hrd : rd l (i : Int) = l[i] := by
        unfold rd
        rw [Int.toNat_natCast, List.getD_eq_getElem?_getD, List.getElem?_eq_getElem (by omega)]
        rfl
      have hlt := getn_lt (l := l) (wf_of_bytes hl) i
      rw [Nat.pow_succ, Nat.mod_mul] at hm
      have hm' : m % 256 ^ i + 256 ^ i * (m / 256 ^ i % 256) = getn l i + (rd l (i : Int)).toNat * 256 ^ i := hm
      rw [hrd] at hm'
      have hp : 0 < 256 ^ i := Nat.pow_pos (by decide)
      have hmod : m % 256 ^ i = getn l i := by
        have h1 : (m % 256 ^ i + 256 ^ i * (m / 256 ^ i % 256)) % 256 ^ i = m % 256 ^ i := by rw [Nat.add_mul_mod_self_left, Nat.mod_mod]
        have h2 : (getn l i + (l[i]).toNat * 256 ^ i) % 256 ^ i = getn l i := by rw [Nat.add_mul_mod_self_right, Nat.mod_eq_of_lt hlt]
        rw [← h1, hm', h2]
      have hd : m / 256 ^ i % 256 = (l[i]).toNat := by
        rw [hmod, Nat.mul_comm (256 ^ i)] at hm'
        exact Nat.eq_of_mul_eq_mul_right hp (Nat.add_left_cancel hm')
      show putl m i ++ [((m / 256 ^ i % 256 : Nat) : Int)] = _
      rw [ih m (by omega) hmod, hd, List.take_add_one, List.getElem?_eq_getElem (by omega), Int.toNat_of_nonneg hc.1]
      rfl
  intro i hi
  exact key i _ hi (Nat.mod_eq_of_lt (getn_lt (l := l) (wf_of_bytes hl) i))
theorem putl_mod (m k : Nat) : ∀ i, i ≤ k → putl (m % 256 ^ k) i = putl m i := by
  intro i
  induction i with
  | zero => intro _; rfl
  | succ i ih =>
    intro hi
    show putl (m % 256 ^ k) i ++ [((m % 256 ^ k / 256 ^ i % 256 : Nat) : Int)] = putl m i ++ [((m / 256 ^ i % 256 : Nat) : Int)]
    rw [ih (by omega)]
    have e : (256 : Nat) ^ k = 256 ^ i * 256 ^ (k - i) := by rw [← Nat.pow_add]; congr 1; omega
    have d : (256 : Nat) ∣ 256 ^ (k - i) := by
      obtain ⟨q, hq⟩ : ∃ q, k - i = q + 1 := ⟨k - i - 1, by omega⟩
      rw [hq, Nat.pow_succ]
      exact Nat.dvd_mul_left _ _
    rw [e, Nat.mod_mul_right_div_self, Nat.mod_mod_of_dvd _ d]
end Go.Proofs.YthhbilkmdfdfiaaDoor.O
