/- crc in plain numbers: a step, eight steps a byte; that four steps by the table are four steps; the reference's sum; the mask. -/
import Derived.Test.YthhbilkmdfdfiaaDoorHcrc
import Derived.Test.YthhbilkmdfdfiaaDoorFkCrc
import Derived.Test.YthhbilkmdfdfiaaDoorFkStrandlineref03
import Derived.Test.YthhbilkmdfdfiaaDoorPlain
set_option linter.unusedVariables false
set_option linter.unusedSimpArgs false
namespace Go.Proofs.YthhbilkmdfdfiaaDoor.CrcMath
open Go.RowKit Go.Proofs.YthhbilkmdfdfiaaDoor.F Go.Proofs.YthhbilkmdfdfiaaDoorW.PrintWords Go.Proofs.YthhbilkmdfdfiaaDoorW.PrintLast Go.Proofs.YthhbilkmdfdfiaaDoorW.PrintMore Go.Proofs.YthhbilkmdfdfiaaDoor.Plain
theorem xor32_nat (a b : Nat) (ha : a < 4294967296) (hb : b < 4294967296) : bits .xor .u32 a b = ((a ^^^ b : Nat) : Int) := by
  rw [xor32, BitVec.ofInt_natCast, BitVec.ofInt_natCast, BitVec.toNat_xor, BitVec.toNat_ofNat, BitVec.toNat_ofNat, Nat.mod_eq_of_lt (by omega), Nat.mod_eq_of_lt (by omega)]
theorem xor_lt32 {a b : Nat} (ha : a < 4294967296) (hb : b < 4294967296) : a ^^^ b < 4294967296 := Nat.xor_lt_two_pow (n := 32) ha hb
abbrev P : Nat := 2197175160
/-- one step -/
def stp (n : Nat) : Nat := if n % 2 = 1 then (n / 2) ^^^ P else n / 2
theorem stp_lt {n : Nat} (h : n < 4294967296) : stp n < 4294967296 := by
  unfold stp
  split
  · exact xor_lt32 (by omega) (by decide)
  · omega
theorem xor_mod2 (a b : Nat) : (a ^^^ b) % 2 = (a % 2 + b % 2) % 2 := by
  have h := Nat.xor_mod_two_pow (a := a) (b := b) (n := 1)
  rw [show (2 : Nat) ^ 1 = 2 by decide] at h
  rw [h]
  rcases Nat.mod_two_eq_zero_or_one a with h1 | h1 <;> rcases Nat.mod_two_eq_zero_or_one b with h2 | h2 <;> rw [h1, h2] <;> decide
theorem stp_xor (a b : Nat) : stp (a ^^^ b) = stp a ^^^ stp b := by
  have hp : P ^^^ P = 0 := Nat.xor_self P
  unfold stp
  rw [xor_mod2, Nat.xor_div_two]
  rcases Nat.mod_two_eq_zero_or_one a with h1 | h1 <;> rcases Nat.mod_two_eq_zero_or_one b with h2 | h2 <;> rw [h1, h2]
  · rfl
  · show (a / 2 ^^^ b / 2) ^^^ P = a / 2 ^^^ (b / 2 ^^^ P)
    rw [Nat.xor_assoc]
  · show (a / 2 ^^^ b / 2) ^^^ P = (a / 2 ^^^ P) ^^^ b / 2
    rw [Nat.xor_assoc, Nat.xor_assoc, Nat.xor_comm P]
  · show a / 2 ^^^ b / 2 = (a / 2 ^^^ P) ^^^ (b / 2 ^^^ P)
    rw [Nat.xor_assoc, Nat.xor_comm (b / 2) P, ← Nat.xor_assoc P, hp, Nat.zero_xor]
theorem stp_even (q : Nat) : stp (2 * q) = q := by unfold stp; rw [if_neg (by omega)]; omega
def itr : Nat → Nat → Nat
  | 0, n => n
  | r + 1, n => itr r (stp n)
theorem itr_xor (r : Nat) : ∀ a b : Nat, itr r (a ^^^ b) = itr r a ^^^ itr r b := by
  induction r with
  | zero => intro a b; rfl
  | succ r ih => intro a b; show itr r (stp (a ^^^ b)) = itr r (stp a) ^^^ itr r (stp b); rw [stp_xor, ih]
theorem itr_lt (r : Nat) : ∀ {n : Nat}, n < 4294967296 → itr r n < 4294967296 := by
  induction r with
  | zero => intro n h; exact h
  | succ r ih => intro n h; exact ih (stp_lt h)
theorem itr_add (r s : Nat) : ∀ n : Nat, itr (r + s) n = itr s (itr r n) := by
  induction r with
  | zero => intro n; rw [Nat.zero_add]; rfl
  | succ r ih => intro n; rw [show r + 1 + s = (r + s) + 1 by omega]; exact ih (stp n)
theorem itr_shift (r : Nat) : ∀ q : Nat, itr r (2 ^ r * q) = q := by
  induction r with
  | zero => intro q; show 2 ^ 0 * q = q; omega
  | succ r ih =>
    intro q
    show itr r (stp (2 ^ (r + 1) * q)) = q
    rw [show 2 ^ (r + 1) * q = 2 * (2 ^ r * q) by rw [Nat.pow_succ, Nat.mul_comm (2 ^ r) 2, Nat.mul_assoc], stp_even, ih]
theorem split_xor (n r : Nat) : 2 ^ r * (n / 2 ^ r) ^^^ n % 2 ^ r = n := by
  have h1 : n % 2 ^ r < 2 ^ r := Nat.mod_lt _ (Nat.two_pow_pos r)
  apply Nat.eq_of_testBit_eq
  intro i
  rw [Nat.testBit_xor, Nat.testBit_two_pow_mul, Nat.testBit_mod_two_pow, Nat.testBit_div_two_pow]
  by_cases h : i < r
  · have : ¬ i ≥ r := by omega
    simp [h, this]
  · have h2 : i ≥ r := by omega
    simp [h, h2, show i - r + r = i by omega]
def halfN (i : Nat) : Nat := (halfL.getD i 0).toNat
theorem half_itr : ∀ i : Nat, i < 16 → halfL.getD i 0 = ((itr 4 i : Nat) : Int) := by decide +kernel
theorem four_nat {n : Nat} (h : n < 4294967296) : fourI (n : Int) = ((itr 4 n : Nat) : Int) := by
  unfold fourI
  have e1 : ((n : Int) % 16).toNat = n % 16 := by omega
  have e2 : (n : Int) / 16 = ((n / 16 : Nat) : Int) := by omega
  have hl : n % 16 < 16 := Nat.mod_lt _ (by decide)
  rw [e1, e2, half_itr _ hl, xor32_nat _ _ (itr_lt 4 (by omega)) (by omega)]
  congr 1
  have h3 := split_xor n 4
  have h4 : itr 4 n = itr 4 (2 ^ 4 * (n / 2 ^ 4)) ^^^ itr 4 (n % 2 ^ 4) := by rw [← itr_xor, h3]
  rw [h4, itr_shift, Nat.xor_comm]
theorem stepC_nat {n c : Nat} (h : n < 4294967296) (hc : c < 256) : stepC (n : Int) (c : Int) = ((itr 8 (n ^^^ c) : Nat) : Int) := by
  unfold stepC
  have hx := xor_lt32 h (show c < 4294967296 by omega)
  rw [xor32_nat _ _ h (by omega), four_nat hx, four_nat (itr_lt 4 hx), ← itr_add]
/-- the sum's state behind bytes -/
def sums (b : List Int) (n : Nat) : Nat := b.foldl (fun n c => itr 8 (n ^^^ c.toNat)) n
theorem sums_lt (b : List Int) (hb : ∀ c ∈ b, 0 ≤ c ∧ c ≤ 255) : ∀ {n : Nat}, n < 4294967296 → sums b n < 4294967296 := by
  induction b with
  | nil => intro n h; exact h
  | cons c b ih => intro n h; exact ih (fun x hx => hb x (List.mem_cons_of_mem _ hx)) (itr_lt 8 (xor_lt32 h (by have := hb c (List.mem_cons_self ..); omega)))
theorem fold_nat (b : List Int) (hb : ∀ c ∈ b, 0 ≤ c ∧ c ≤ 255) : ∀ {n : Nat}, n < 4294967296 → b.foldl stepC (n : Int) = ((sums b n : Nat) : Int) := by
  induction b with
  | nil => intro n h; rfl
  | cons c b ih =>
    intro n h
    have hc := hb c (List.mem_cons_self ..)
    have hlt := itr_lt 8 (xor_lt32 h (show c.toNat < 4294967296 by omega))
    show b.foldl stepC (stepC n c) = ((sums b (itr 8 (n ^^^ c.toNat)) : Nat) : Int)
    have e : stepC (n : Int) c = ((itr 8 (n ^^^ c.toNat) : Nat) : Int) := by
      have := stepC_nat (n := n) (c := c.toNat) h (by omega)
      rwa [Int.toNat_of_nonneg hc.1] at this
    rw [e]
    exact ih (fun x hx => hb x (List.mem_cons_of_mem _ hx)) hlt
theorem moreI_nat {s : Nat} (hs : s < 4294967296) (b : List Int) (hb : ∀ c ∈ b, 0 ≤ c ∧ c ≤ 255) : moreI s b = 4294967295 - ((sums b (4294967295 - s) : Nat) : Int) := by
  unfold moreI
  rw [show (4294967295 : Int) - (s : Int) = ((4294967295 - s : Nat) : Int) by omega, fold_nat b hb (by omega)]
/-! the reference -/
theorem rstep {n : Nat} (h : n < 4294967296) : strandlineref03_Step.f (n : Int) = some ((stp n : Nat) : Int) := by
  unfold strandlineref03_Step.f stp
  rw [tm (by omega), td (by omega)]
  have e2 : (n : Int) / 2 % 4294967296 = ((n / 2 : Nat) : Int) := by omega
  by_cases c : n % 2 = 1
  · rw [if_pos (by omega), if_pos c, e2, show (2197175160 : Int) = ((P : Nat) : Int) by decide, xor32_nat _ _ (by omega) (by decide)]
  · rw [if_neg (by omega), if_neg c, e2]
theorem rmore_l1 (b : List Int) (i : Int) (r : Nat) : ∀ (k : Nat) (n : Nat), r ≤ 8 → n < 4294967296 → strandlineref03_More.l1 (k + r + 1) b n i (8 - (r : Int)) = strandlineref03_More.l0 k b ((itr r n : Nat) : Int) (wrap64 (i + 1)) := by
  induction r with
  | zero =>
    intro k n hr h
    simp only [strandlineref03_More.l1]
    rw [if_neg (by omega)]
    rfl
  | succ r ih =>
    intro k n hr h
    rw [show k + (r + 1) + 1 = (k + r + 1) + 1 by omega]
    simp only [strandlineref03_More.l1]
    rw [if_pos (by omega), rstep h, Option.bind_some, show wrap64 (8 - ((r + 1 : Nat) : Int) + 1) = 8 - (r : Int) by rw [w64 (by omega) (by omega)]; omega]
    exact ih k (stp n) (by omega) (stp_lt h)
theorem rmore_l0 (b : List Int) (hb : ∀ c ∈ b, 0 ≤ c ∧ c ≤ 255) (hl : b.length ≤ 1000000) (d : Nat) : ∀ (k i n : Nat), i + d = b.length → n < 4294967296 → strandlineref03_More.l0 (k + 10 * d + 1) b n i = some (4294967295 - ((sums (b.drop i) n : Nat) : Int)) := by
  induction d with
  | zero =>
    intro k i n hi h
    simp only [strandlineref03_More.l0]
    rw [if_neg (by omega), show i = b.length by omega, List.drop_length]
    show some ((4294967295 - (n : Int)) % 4294967296) = some (4294967295 - ((n : Nat) : Int))
    rw [Int.emod_eq_of_lt (by omega) (by omega)]
  | succ d ih =>
    intro k i n hi h
    have hi2 : i < b.length := by omega
    have hc := hb _ (List.getElem_mem hi2)
    have hrd : rd b i = b[i] := by unfold rd; rw [List.getD_eq_getElem?_getD, Int.toNat_natCast, List.getElem?_eq_getElem hi2]; rfl
    rw [show k + 10 * (d + 1) + 1 = (k + 1 + 10 * d + 8 + 1) + 1 by omega]
    simp only [strandlineref03_More.l0]
    have hlt := xor_lt32 h (show (b[i]).toNat < 4294967296 by omega)
    have e : bits .xor .u32 (n : Int) (rd b i % 4294967296) = ((n ^^^ (b[i]).toNat : Nat) : Int) := by
      rw [hrd, Int.emod_eq_of_lt (by omega) (by omega), show b[i] = (((b[i]).toNat : Nat) : Int) by omega, xor32_nat _ _ h (by omega)]
      rfl
    rw [if_pos (by omega), if_pos (by omega), e]
    have h1 := rmore_l1 b i 8 (k + 1 + 10 * d) (n ^^^ (b[i]).toNat) (by omega) hlt
    rw [show (8 : Int) - ((8 : Nat) : Int) = 0 by decide] at h1
    rw [h1, w64 (n := (i : Int) + 1) (by omega) (by omega), List.drop_eq_getElem_cons hi2]
    have h2 := ih k (i + 1) (itr 8 (n ^^^ (b[i]).toNat)) (by omega) (itr_lt 8 hlt)
    rw [show k + 1 + 10 * d = k + 10 * d + 1 by omega]
    exact h2
theorem rmore_eq {s : Nat} (hs : s < 4294967296) (b : List Int) (hb : ∀ c ∈ b, 0 ≤ c ∧ c ≤ 255) (hl : b.length ≤ 1000000) (k : Nat) : strandlineref03_More.f (k + 10 * b.length + 1) s b = some (moreI s b) := by
  unfold strandlineref03_More.f
  rw [show ((4294967295 - (s : Int)) % 4294967296) = ((4294967295 - s : Nat) : Int) by omega, moreI_nat hs b hb]
  exact rmore_l0 b hb hl b.length k 0 _ (by omega) (by omega)
theorem rof_eq (b : List Int) (hb : ∀ c ∈ b, 0 ≤ c ∧ c ≤ 255) (hl : b.length ≤ 1000000) (k : Nat) : strandlineref03_Of.f (k + 10 * b.length + 1) b = some (moreI 0 b) := by
  unfold strandlineref03_Of.f
  have := rmore_eq (s := 0) (by decide) b hb hl k
  rw [show ((0 : Nat) : Int) = 0 from rfl] at this
  rw [this]
  rfl
/-! the mask -/
theorem or32_nat (a b : Nat) (ha : a < 4294967296) (hb : b < 4294967296) : bits .or .u32 a b = ((a ||| b : Nat) : Int) := by
  show IntKind.u32.wrap ((BitVec.ofInt 32 a ||| BitVec.ofInt 32 b).toNat : Int) = _
  have hlt := Nat.or_lt_two_pow (n := 32) ha hb
  rw [BitVec.ofInt_natCast, BitVec.ofInt_natCast, BitVec.toNat_or, BitVec.toNat_ofNat, BitVec.toNat_ofNat, Nat.mod_eq_of_lt (by omega), Nat.mod_eq_of_lt (by omega), IntKind.wrap_u32]
  omega
theorem mask_eq {n : Nat} (h : n < 4294967296) : crc_Mask.f n = some ((((n / 32768 + n % 32768 * 131072 + 2726488792) % 4294967296 : Nat)) : Int) := by
  unfold crc_Mask.f
  rw [show (n : Int) / 32768 = ((n / 32768 : Nat) : Int) by omega, show ((n : Int) * 131072) % 4294967296 = ((2 ^ 17 * (n % 32768) : Nat) : Int) by omega, or32_nat _ _ (by omega) (by omega), Nat.or_comm,
    ← Nat.two_pow_add_eq_or_of_lt (show n / 32768 < 2 ^ 17 by omega)]
  refine congrArg some ?_
  omega
theorem unmask_eq {n : Nat} (h : n < 4294967296) : crc_Unmask.f n = some (((n + 1568478504) % 4294967296 % 131072 * 32768 + (n + 1568478504) % 4294967296 / 131072 : Nat) : Int) := by
  unfold crc_Unmask.f
  have e : ((n : Int) - 2726488792) % 4294967296 = (((n + 1568478504) % 4294967296 : Nat) : Int) := by omega
  rw [e]
  have hm : (n + 1568478504) % 4294967296 < 4294967296 := Nat.mod_lt _ (by decide)
  generalize (n + 1568478504) % 4294967296 = m at hm
  rw [show (m : Int) / 131072 = ((m / 131072 : Nat) : Int) by omega, show ((m : Int) * 32768) % 4294967296 = ((2 ^ 15 * (m % 131072) : Nat) : Int) by omega, or32_nat _ _ (by omega) (by omega),
    ← Nat.two_pow_add_eq_or_of_lt (show m / 131072 < 2 ^ 15 by omega)]
  refine congrArg some ?_
  omega
theorem rl_rr {n : Nat} (h : n < 4294967296) : (n / 32768 + n % 32768 * 131072) % 131072 * 32768 + (n / 32768 + n % 32768 * 131072) / 131072 = n := by
  have ha : n / 32768 < 131072 := by omega
  have e := Nat.div_add_mod n 32768
  generalize n / 32768 = a at ha e ⊢
  generalize n % 32768 = b at e ⊢
  rw [Nat.add_mul_mod_self_right, Nat.mod_eq_of_lt ha, Nat.add_mul_div_right _ _ (by decide), Nat.div_eq_of_lt ha]
  omega
theorem rr_rl {n : Nat} (h : n < 4294967296) : (n % 131072 * 32768 + n / 131072) / 32768 + (n % 131072 * 32768 + n / 131072) % 32768 * 131072 = n := by
  have ha : n / 131072 < 32768 := by omega
  have e := Nat.div_add_mod n 131072
  generalize n / 131072 = a at ha e ⊢
  generalize n % 131072 = b at e ⊢
  rw [Nat.add_comm (b * 32768), Nat.add_mul_mod_self_right, Nat.mod_eq_of_lt ha, Nat.add_mul_div_right _ _ (by decide), Nat.div_eq_of_lt ha]
  omega
theorem back1 {n : Nat} (h : n < 4294967296) : ((((n / 32768 + n % 32768 * 131072 + 2726488792) % 4294967296 + 1568478504) % 4294967296 % 131072 * 32768 + ((n / 32768 + n % 32768 * 131072 + 2726488792) % 4294967296 + 1568478504) % 4294967296 / 131072 : Nat) : Int) = n := by
  have h2 : n / 32768 + n % 32768 * 131072 < 4294967296 := by omega
  have h3 := rl_rr h
  generalize n / 32768 + n % 32768 * 131072 = m at h2 h3 ⊢
  rw [show ((m + 2726488792) % 4294967296 + 1568478504) % 4294967296 = m by omega, h3]
theorem back2 {n : Nat} (h : n < 4294967296) : ((((n + 1568478504) % 4294967296 % 131072 * 32768 + (n + 1568478504) % 4294967296 / 131072) / 32768 + ((n + 1568478504) % 4294967296 % 131072 * 32768 + (n + 1568478504) % 4294967296 / 131072) % 32768 * 131072 + 2726488792) % 4294967296 : Nat) = (n : Int) := by
  have hm : (n + 1568478504) % 4294967296 < 4294967296 := Nat.mod_lt _ (by decide)
  have hn : ((n + 1568478504) % 4294967296 + 2726488792) % 4294967296 = n := by omega
  generalize (n + 1568478504) % 4294967296 = m at hm hn ⊢
  rw [rr_rl hm, hn]
theorem rmask_eq {n : Nat} (h : n < 4294967296) : strandlineref03_Mask.f n = some ((((n / 32768 + n % 32768 * 131072 + 2726488792) % 4294967296 : Nat)) : Int) := by
  unfold strandlineref03_Mask.f
  rw [td (by omega), tm (by omega)]
  refine congrArg some ?_
  omega
end Go.Proofs.YthhbilkmdfdfiaaDoor.CrcMath
