/- PlanBack: what Flat makes of what Whole made. -/
import Derived.Test.YthlpimojojofbaaFlat
namespace Go.Proofs.Ythlpimojojofbaa.O
open Go.RowKit Go.Proofs.YthlpimojojofbaaW.PrintWords Go.Proofs.YthlpimojojofbaaW.PrintLast Go.Proofs.YthlpimojojofbaaW.PrintMore Go.Proofs.Ythlpimojojofbaa.F Go.Proofs.Ythlpimojojofbaa.F.Nums Go.Proofs.Ythlpimojojofbaa.Plain
set_option linter.unusedVariables false
set_option linter.unusedSimpArgs false
theorem secAt_app (xs ys : List Int) (k m : Nat) (hx : xs.length = 64 * m) (hk : k < m) : secAt (xs ++ ys) k = secAt xs k := by
  unfold secAt
  rw [List.drop_append_of_le_length (by omega), List.take_append_of_le_length (by rw [List.length_drop]; omega)]
theorem secAt_end (xs s : List Int) (k : Nat) (hx : xs.length = 64 * k) (hs : s.length = 64) (ys : List Int) : secAt (xs ++ (s ++ ys)) k = s := by
  unfold secAt
  rw [← hx, List.drop_left, List.take_left' hs]
theorem secAt_P (e : Int) (body : List Int) : ∀ (n k : Nat), k < n → secAt (flatP e body 0 n) k = sealF e (k : Int) (bodySec body k) := by
  intro n
  induction n with
  | zero => intro k hk; omega
  | succ n ih =>
    intro k hk
    unfold flatP
    by_cases h : k < n
    · rw [secAt_app _ _ k n (flatP_len _ _ _ _) h, ih k h]
    · obtain rfl : k = n := by omega
      rw [Nat.zero_add, ← List.append_nil (sealF e (k : Int) (bodySec body k)), secAt_end _ _ k (flatP_len _ _ _ _) (sealF_len _ _ _) []]
      simp
theorem secAt_zs (n k : Nat) (hk : k < n) : secAt (zs (64 * n)) k = zs 64 := by
  unfold secAt zs
  rw [List.drop_replicate, List.take_replicate]
  congr 1
  omega
theorem secAt_W (e : Int) (body : List Int) (b k : Nat) (hb : b ≤ 16) (hk : k < 16) : secAt (flatW e body b 16) k = if k < b then sealF e (k : Int) (bodySec body k) else zs 64 := by
  unfold flatW
  rw [Nat.min_eq_right hb]
  by_cases h : k < b
  · rw [if_pos h, secAt_app _ _ k b (flatP_len _ _ _ _) h, secAt_P _ _ _ _ h]
  · rw [if_neg h]
    have : secAt (flatP e body 0 b ++ zs (64 * (16 - b))) k = secAt (zs (64 * (16 - b))) (k - b) := by
      unfold secAt
      rw [List.drop_append, flatP_len, List.drop_of_length_le (by rw [flatP_len]; omega), List.nil_append, show 64 * k - 64 * b = 64 * (k - b) by omega]
    rw [this, secAt_zs _ _ (by omega)]
theorem openF_z (e i : Int) (he : e ≠ 0) : openF (zs 64) e i = false := by
  unfold openF
  rw [show getn (zs 64) 8 = 0 by decide +kernel]
  simp [Ne.symm he]
theorem okAt_W (e : Int) (h0 : 0 ≤ e) (h1 : e ≤ 18446744073709551615) (he : e ≠ 0) (body : List Int) (b k : Nat) (hb : b ≤ 16) (hk : k < 16) : okAt e (flatW e body b 16) 16 k = decide (k < b) := by
  unfold okAt
  rw [decide_eq_true hk, Bool.true_and, secAt_W e body b k hb hk]
  by_cases h : k < b
  · rw [if_pos h, open_seal _ _ _ h0 h1, decide_eq_true h]
    simp
  · rw [if_neg h, openF_z _ _ he, decide_eq_false h]
theorem roomAt_W (e : Int) (h0 : 0 ≤ e) (h1 : e ≤ 18446744073709551615) (he : e ≠ 0) (body : List Int) (b k : Nat) (hb : b ≤ 16) (hk : k < 16) : roomAt e (flatW e body b 16) 16 k = if k < b then bodySec body k ++ zs (52 - (bodySec body k).length) else zs 52 := by
  unfold roomAt
  rw [okAt_W e h0 h1 he body b k hb hk, secAt_W e body b k hb hk]
  by_cases h : k < b
  · simp only [h, decide_true, if_true]
    rw [seal_drop, List.take_of_length_le]
    rw [bodySec_len]
    omega
  · simp [h]
theorem zs_getD (n i : Nat) : (zs n).getD i 0 = 0 := by
  unfold zs
  rw [List.getD_eq_getElem?_getD, List.getElem?_replicate]
  split <;> rfl
theorem bodyF_W (e : Int) (h0 : 0 ≤ e) (h1 : e ≤ 18446744073709551615) (he : e ≠ 0) (body : List Int) (b : Nat) (hb : b ≤ 16) : ∀ k, k ≤ 16 → ∀ i, i < 52 * k → (bodyF e (flatW e body b 16) 16 k).getD i 0 = if i < 52 * b ∧ i < body.length then body.getD i 0 else 0 := by
  intro k
  induction k with
  | zero => intro _ i hi; omega
  | succ k ih =>
    intro hk i hi
    have hl : (bodyF e (flatW e body b 16) 16 k).length = 52 * k := bodyF_len (flatW_len _ _ _ _) k
    unfold bodyF
    by_cases h : i < 52 * k
    · rw [← ih (by omega) i h]
      simp only [List.getD_eq_getElem?_getD]
      rw [List.getElem?_append_left (by omega)]
    · simp only [List.getD_eq_getElem?_getD]
      rw [List.getElem?_append_right (by omega), hl, roomAt_W e h0 h1 he body b k hb (by omega)]
      by_cases hkb : k < b
      · rw [if_pos hkb]
        have hbl := bodySec_len body k
        by_cases hj : i - 52 * k < (bodySec body k).length
        · rw [List.getElem?_append_left hj, if_pos (by omega)]
          unfold bodySec
          rw [List.getElem?_take_of_lt (by omega), List.getElem?_drop, show 52 * k + (i - 52 * k) = i by omega]
        · rw [List.getElem?_append_right (by omega), if_neg (by omega)]
          have := zs_getD (52 - (bodySec body k).length) (i - 52 * k - (bodySec body k).length)
          rwa [List.getD_eq_getElem?_getD] at this
      · rw [if_neg hkb, if_neg (by omega)]
        have := zs_getD 52 (i - 52 * k)
        rwa [List.getD_eq_getElem?_getD] at this
theorem oksF_W (e : Int) (h0 : 0 ≤ e) (h1 : e ≤ 18446744073709551615) (he : e ≠ 0) (body : List Int) (b : Nat) (hb : b ≤ 16) : ∀ k, k ≤ 16 → ∀ i, i < k → (oksF e (flatW e body b 16) 16 k).getD i false = decide (i < b) := by
  intro k
  induction k with
  | zero => intro _ i hi; omega
  | succ k ih =>
    intro hk i hi
    have hl : (oksF e (flatW e body b 16) 16 k).length = k := oksF_len k
    unfold oksF
    simp only [List.getD_eq_getElem?_getD]
    by_cases h : i < k
    · rw [List.getElem?_append_left (by omega), ← List.getD_eq_getElem?_getD, ih (by omega) i h]
    · obtain rfl : i = k := by omega
      rw [List.getElem?_append_right (by omega), hl, Nat.sub_self, okAt_W e h0 h1 he body b i hb (by omega)]
      rfl
end Go.Proofs.Ythlpimojojofbaa.O
