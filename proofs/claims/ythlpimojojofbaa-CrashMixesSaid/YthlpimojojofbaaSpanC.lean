/- span's functions and the reference's, as contracts over the plain words. -/
import Derived.Test.YthlpimojojofbaaOwn
import Derived.Test.YthlpimojojofbaaFkSpan
import Derived.Test.YthlpimojojofbaaFkStrandlineref07
import Derived.Test.YthlpimojojofbaaPlain
namespace Go.Proofs.Ythlpimojojofbaa.O
open Go.RowKit Go.Proofs.YthlpimojojofbaaW.PrintWords Go.Proofs.YthlpimojojofbaaW.PrintLast Go.Proofs.YthlpimojojofbaaW.PrintMore Go.Proofs.Ythlpimojojofbaa.F Go.Proofs.Ythlpimojojofbaa.Plain
set_option linter.unusedVariables false
set_option linter.unusedSimpArgs false
namespace SpanP
theorem near_eq (a : Int) : span_near.f a 832 = some (cl a) := by unfold span_near.f; rw [near_cl]
theorem where_eq (a : Int) : span_Where.f a = some (cl a / 52, cl a % 52) := by
  have h0 := cl_lo a
  have h1 := cl_hi a
  unfold span_Where.f
  rw [near_eq]
  simp only [Option.bind_some]
  rw [td h0, tm h0, w64 (by omega) (by omega)]
theorem begin_eq (a : Int) : span_Begin.f a = some (bg (cl a)) := by
  have h0 := cl_lo a
  have h1 := cl_hi a
  unfold span_Begin.f
  rw [near_eq]
  simp only [Option.bind_some]
  rw [where_eq, cl_cl]
  simp only [Option.bind_some]
  rw [w64 (n := 52 - cl a % 52) (by omega) (by omega)]
  unfold bg
  by_cases h : 41 < cl a % 52
  · rw [if_pos (by omega), if_pos h, w64 (by omega) (by omega)]
  · rw [if_neg (by omega), if_neg h]
theorem left_eq (a : Int) : span_Left.f a = some (lf (cl a)) := by
  have h0 := cl_lo a
  have h1 := cl_hi a
  unfold span_Left.f
  rw [near_eq]
  simp only [Option.bind_some]
  rw [where_eq, cl_cl]
  simp only [Option.bind_some]
  unfold lf
  by_cases h : cl a = 832
  · rw [if_pos h, h, if_pos (by decide)]
  · rw [if_neg (by simp only [Bool.and_eq_true, beq_iff_eq]; omega), if_neg h, tm h0, w64 (by omega) (by omega)]
theorem rnear_eq (a : Int) : strandlineref07_Near.f a = some (cl a) := by
  unfold strandlineref07_Near.f cl
  by_cases h1 : a < 0
  · rw [if_pos h1, if_pos h1]
  · by_cases h2 : 832 < a
    · rw [if_neg h1, if_neg h1, if_pos h2, if_pos h2]
    · rw [if_neg h1, if_neg h1, if_neg (by omega), if_neg h2]
theorem touch_eq (a b : Int) : span_Touch.f a b = some (tch (cl a) (cl b)) := by
  have a0 := cl_lo a
  have a1 := cl_hi a
  have b0 := cl_lo b
  have b1 := cl_hi b
  unfold span_Touch.f
  rw [near_eq, near_eq]
  simp only [Option.bind_some]
  unfold tch
  by_cases h : cl a ≥ cl b
  · rw [if_pos h, if_pos h]
  · rw [if_neg h, if_neg h, where_eq, w64 (n := cl b - 1) (by omega) (by omega), where_eq, cl_cl, cl_in (a := cl b - 1) (by omega) (by omega)]
    simp only [Option.bind_some]
    rw [w64 (by omega) (by omega)]
theorem rtouch_l (b : Int) (d : Nat) : ∀ (k : Nat) (f l i : Int), 0 ≤ i → i ≤ cl b → 0 ≤ f → l = (i - 1) / 52 → 0 < i → (cl b - i : Int) = d → d < k →
    strandlineref07_Touch.l0 k b f l i = some (f, (cl b - 1) / 52 + 1) := by
  have h9 := cl_hi b
  induction d with
  | zero =>
    intro k f l i h0 h1 h2 h3 h4 hd hk
    obtain ⟨k, rfl⟩ : ∃ m, k = m + 1 := ⟨k - 1, by omega⟩
    simp only [strandlineref07_Touch.l0]
    rw [rnear_eq]
    simp only [Option.bind_some]
    obtain rfl : i = cl b := by omega
    rw [if_neg (by omega), if_neg (by omega), h3, w64 (by omega) (by omega)]
  | succ d ih =>
    intro k f l i h0 h1 h2 h3 h4 hd hk
    obtain ⟨k, rfl⟩ : ∃ m, k = m + 1 := ⟨k - 1, by omega⟩
    simp only [strandlineref07_Touch.l0]
    rw [rnear_eq]
    simp only [Option.bind_some]
    rw [if_pos (by omega), if_neg (by omega), td h0, w64 (n := i / 52) (by omega) (by omega), w64 (n := i + 1) (by omega) (by omega)]
    exact ih k f (i / 52) (i + 1) (by omega) (by omega) h2 (by omega) (by omega) (by omega) (by omega)
theorem rtouch_eq (k : Nat) (hk : 833 < k) (a b : Int) : strandlineref07_Touch.f k a b = some (tch (cl a) (cl b)) := by
  have a0 := cl_lo a
  have a1 := cl_hi a
  have b0 := cl_lo b
  have b1 := cl_hi b
  unfold strandlineref07_Touch.f
  rw [rnear_eq]
  simp only [Option.bind_some]
  obtain ⟨k, rfl⟩ : ∃ m, k = m + 1 := ⟨k - 1, by omega⟩
  simp only [strandlineref07_Touch.l0]
  rw [rnear_eq]
  simp only [Option.bind_some]
  unfold tch
  by_cases h : cl a < cl b
  · rw [if_pos h, if_pos (by omega), if_neg (show ¬ cl a ≥ cl b by omega), td a0, w64 (n := cl a / 52) (by omega) (by omega), w64 (n := cl a + 1) (by omega) (by omega)]
    exact rtouch_l b (cl b - (cl a + 1)).toNat k (cl a / 52) (cl a / 52) (cl a + 1) (by omega) (by omega) (by omega) (by omega) (by omega) (by omega) (by omega)
  · rw [if_neg h, if_pos (by omega), if_pos (show cl a ≥ cl b by omega)]
theorem rwhere_l (a : Int) (d : Nat) : ∀ (k : Nat) (i : Int), 0 ≤ i → i ≤ cl a → (cl a - i : Int) = d → d < k →
    strandlineref07_Where.l0 k a (i / 52) (i % 52) i = some (cl a / 52, cl a % 52) := by
  have h9 := cl_hi a
  induction d with
  | zero =>
    intro k i h0 h1 hd hk
    obtain ⟨k, rfl⟩ : ∃ m, k = m + 1 := ⟨k - 1, by omega⟩
    simp only [strandlineref07_Where.l0]
    rw [rnear_eq]
    simp only [Option.bind_some]
    rw [if_neg (by omega)]
    obtain rfl : i = cl a := by omega
    rfl
  | succ d ih =>
    intro k i h0 h1 hd hk
    obtain ⟨k, rfl⟩ : ∃ m, k = m + 1 := ⟨k - 1, by omega⟩
    simp only [strandlineref07_Where.l0]
    rw [rnear_eq]
    simp only [Option.bind_some]
    rw [if_pos (by omega), w64 (n := i % 52 + 1) (by omega) (by omega), w64 (n := i / 52 + 1) (by omega) (by omega), w64 (n := i + 1) (by omega) (by omega)]
    have hr := ih k (i + 1) (by omega) (by omega) (by omega) (by omega)
    by_cases hm : i % 52 + 1 = 52
    · rw [if_pos hm, show i / 52 + 1 = (i + 1) / 52 by omega, show (0 : Int) = (i + 1) % 52 by omega]
      exact hr
    · rw [if_neg hm, show i % 52 + 1 = (i + 1) % 52 by omega, show i / 52 = (i + 1) / 52 by omega]
      exact hr
theorem rwhere_eq (k : Nat) (hk : 832 < k) (a : Int) : strandlineref07_Where.f k a = some (cl a / 52, cl a % 52) := by
  have h0 := cl_lo a
  have h1 := cl_hi a
  unfold strandlineref07_Where.f
  exact rwhere_l a (cl a).toNat k 0 (by omega) (by omega) (by omega) (by omega)
theorem rleft_l (d : Nat) : ∀ (k : Nat) (at_ n : Int), 0 ≤ at_ → at_ ≤ 832 → 0 ≤ n → n ≤ at_ → (832 - at_ : Int) = d → d < k →
    strandlineref07_Left.l0 k at_ n = some (n + if at_ = 832 then 0 else if n = 0 then 208 - at_ % 208 else (208 - at_ % 208) % 208) := by
  induction d with
  | zero =>
    intro k at_ n h0 h1 h2 h3 hd hk
    obtain ⟨k, rfl⟩ : ∃ m, k = m + 1 := ⟨k - 1, by omega⟩
    simp only [strandlineref07_Left.l0]
    rw [if_neg (by omega), if_pos (show at_ = 832 by omega)]
    simp
  | succ d ih =>
    intro k at_ n h0 h1 h2 h3 hd hk
    obtain ⟨k, rfl⟩ : ∃ m, k = m + 1 := ⟨k - 1, by omega⟩
    simp only [strandlineref07_Left.l0]
    rw [if_pos (by omega), tm h0, w64 (n := at_ + 1) (by omega) (by omega), w64 (n := n + 1) (by omega) (by omega)]
    have hr := ih k (at_ + 1) (n + 1) (by omega) (by omega) (by omega) (by omega) (by omega) (by omega)
    rw [if_neg (show ¬ n + 1 = 0 by omega)] at hr
    rw [if_neg (show ¬ at_ = 832 by omega), hr]
    by_cases hn : n = 0
    · rw [if_pos hn, if_pos hn]
      congr 1
      by_cases h8 : at_ + 1 = 832
      · rw [if_pos h8]; omega
      · rw [if_neg h8]; omega
    · rw [if_neg hn, if_neg hn]
      by_cases hm : at_ % 208 = 0
      · rw [if_pos hm]
        congr 1
        omega
      · rw [if_neg hm]
        congr 1
        by_cases h8 : at_ + 1 = 832
        · rw [if_pos h8]; omega
        · rw [if_neg h8]; omega
theorem rleft_eq (k : Nat) (hk : 832 < k) (a : Int) : strandlineref07_Left.f k a = some (lf (cl a)) := by
  have h0 := cl_lo a
  have h1 := cl_hi a
  unfold strandlineref07_Left.f
  rw [rnear_eq]
  simp only [Option.bind_some]
  rw [rleft_l (832 - cl a).toNat k (cl a) 0 h0 h1 (by omega) h0 (by omega) (by omega)]
  unfold lf
  by_cases h : cl a = 832
  · rw [if_pos h, if_pos h]; rfl
  · rw [if_neg h, if_neg h, if_pos rfl]; simp
theorem rbegin_l (d : Nat) : ∀ (k : Nat) (at_ off : Int), 0 ≤ at_ → at_ ≤ 832 → 41 < off → off ≤ 52 → (at_ + (52 - off)) ≤ 832 → (52 - off : Int) = d → d < k →
    strandlineref07_Begin.l0 k at_ off = some (at_ + (52 - off)) := by
  induction d with
  | zero =>
    intro k at_ off h0 h1 h2 h3 h4 hd hk
    obtain ⟨k, rfl⟩ : ∃ m, k = m + 1 := ⟨k - 1, by omega⟩
    simp only [strandlineref07_Begin.l0]
    rw [show at_ + (52 - off) = at_ by omega, if_neg (show ¬ off < 52 by omega)]
    simp
  | succ d ih =>
    intro k at_ off h0 h1 h2 h3 h4 hd hk
    obtain ⟨k, rfl⟩ : ∃ m, k = m + 1 := ⟨k - 1, by omega⟩
    simp only [strandlineref07_Begin.l0]
    rw [if_pos (by omega), if_pos (by omega), if_pos (by omega), w64 (n := at_ + 1) (by omega) (by omega), w64 (n := off + 1) (by omega) (by omega)]
    rw [ih k (at_ + 1) (off + 1) (by omega) (by omega) (by omega) (by omega) (by omega) (by omega) (by omega)]
    congr 1
    omega
theorem rbegin_eq (k : Nat) (hk : 832 < k) (a : Int) : strandlineref07_Begin.f k a = some (bg (cl a)) := by
  have h0 := cl_lo a
  have h1 := cl_hi a
  unfold strandlineref07_Begin.f
  rw [rnear_eq]
  simp only [Option.bind_some]
  rw [rwhere_eq k hk, cl_cl]
  simp only [Option.bind_some]
  unfold bg
  by_cases h : 41 < cl a % 52
  · rw [if_pos h, rbegin_l (52 - cl a % 52).toNat k (cl a) (cl a % 52) h0 h1 h (by omega) (by omega) (by omega) (by omega)]
  · rw [if_neg h]
    obtain ⟨k, rfl⟩ : ∃ m, k = m + 1 := ⟨k - 1, by omega⟩
    simp only [strandlineref07_Begin.l0]
    rw [if_neg (show ¬ cl a % 52 > 41 by omega)]
    simp
end SpanP
open SpanP
theorem touch_nat (a b : Int) : ∃ x y : Nat, tch (cl a) (cl b) = ((x : Int), (y : Int)) ∧ x ≤ y ∧ y ≤ 16 := by
  have h1 := cl_lo a; have h2 := cl_hi a; have h3 := cl_lo b; have h4 := cl_hi b
  unfold tch
  by_cases h : cl a ≥ cl b
  · rw [if_pos h]
    exact ⟨0, 0, rfl, Nat.le_refl _, by decide⟩
  · rw [if_neg h]
    exact ⟨(cl a / 52).toNat, ((cl b - 1) / 52 + 1).toNat, by congr 1 <;> omega, by omega, by omega⟩
theorem touch_c (a b : Int) (x y : Nat) (h : tch (cl a) (cl b) = ((x : Int), (y : Int))) (w : World) :
    Calls Try.prog 90 #[.int .i64 a, .int .i64 b] w fun e w' => e = .returned (.tuple #[.int .i64 x, .int .i64 y]) ∧ Below w.heap.size w w' := span_Touch.calls a b x y w (by rw [touch_eq, h])
theorem rtouch_c (a b : Int) (x y : Nat) (h : tch (cl a) (cl b) = ((x : Int), (y : Int))) (w : World) :
    Calls Try.prog 70 #[.int .i64 a, .int .i64 b] w fun e w' => e = .returned (.tuple #[.int .i64 x, .int .i64 y]) ∧ Below w.heap.size w w' :=
  (strandlineref07_Touch.calls 834 a b x y w (by rw [rtouch_eq 834 (by decide), h])).mono fun e w' ⟨h1, h2⟩ => ⟨h1, by first | exact h2 | (obtain ⟨m, rfl⟩ := h2; exact pw_below_drewN (Below.refl _ _) m)⟩
end Go.Proofs.Ythlpimojojofbaa.O
