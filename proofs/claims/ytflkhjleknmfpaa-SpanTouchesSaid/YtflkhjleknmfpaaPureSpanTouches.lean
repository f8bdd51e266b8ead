/- For every two places: span.Touch answers the sectors that the reference answers by counting. No condition. -/
import Derived.Test.YtflkhjleknmfpaaFlSpanTouches
import Derived.Test.YtflkhjleknmfpaaPlain
set_option linter.unusedVariables false
set_option linter.unusedSimpArgs false
namespace Go.Proofs.Ytflkhjleknmfpaa.Pure
open Go.RowKit Go.Proofs.Ytflkhjleknmfpaa.F Go.Proofs.YtflkhjleknmfpaaW.PrintWords Go.Proofs.YtflkhjleknmfpaaW.PrintLast Go.Proofs.YtflkhjleknmfpaaW.PrintMore Go.Proofs.Ytflkhjleknmfpaa.Plain
namespace PureST
theorem near_eq (a : Int) : span_near.f a 832 = some (cl a) := by unfold span_near.f; rw [near_cl]
theorem where_eq (a : Int) : span_Where.f a = some (cl a / 52, cl a % 52) := by
  have h0 := cl_lo a
  have h1 := cl_hi a
  unfold span_Where.f
  rw [near_eq]
  simp only [Option.bind_some]
  rw [td h0, tm h0, w64 (by omega) (by omega)]
theorem begin_eq (a : Int) : span_Begin.f a = some (bg (cl a)) := by
  have h0 := cl_lo a
  have h1 := cl_hi a
  unfold span_Begin.f
  rw [near_eq]
  simp only [Option.bind_some]
  rw [where_eq, cl_cl]
  simp only [Option.bind_some]
  rw [w64 (n := 52 - cl a % 52) (by omega) (by omega)]
  unfold bg
  by_cases h : 41 < cl a % 52
  · rw [if_pos (by omega), if_pos h, w64 (by omega) (by omega)]
  · rw [if_neg (by omega), if_neg h]
theorem left_eq (a : Int) : span_Left.f a = some (lf (cl a)) := by
  have h0 := cl_lo a
  have h1 := cl_hi a
  unfold span_Left.f
  rw [near_eq]
  simp only [Option.bind_some]
  rw [where_eq, cl_cl]
  simp only [Option.bind_some]
  unfold lf
  by_cases h : cl a = 832
  · rw [if_pos h, h, if_pos (by decide)]
  · rw [if_neg (by simp only [Bool.and_eq_true, beq_iff_eq]; omega), if_neg h, tm h0, w64 (by omega) (by omega)]
theorem rnear_eq (a : Int) : strandlineref07_Near.f a = some (cl a) := by
  unfold strandlineref07_Near.f cl
  by_cases h1 : a < 0
  · rw [if_pos h1, if_pos h1]
  · by_cases h2 : 832 < a
    · rw [if_neg h1, if_neg h1, if_pos h2, if_pos h2]
    · rw [if_neg h1, if_neg h1, if_neg (by omega), if_neg h2]
theorem touch_eq (a b : Int) : span_Touch.f a b = some (tch (cl a) (cl b)) := by
  have a0 := cl_lo a
  have a1 := cl_hi a
  have b0 := cl_lo b
  have b1 := cl_hi b
  unfold span_Touch.f
  rw [near_eq, near_eq]
  simp only [Option.bind_some]
  unfold tch
  by_cases h : cl a ≥ cl b
  · rw [if_pos h, if_pos h]
  · rw [if_neg h, if_neg h, where_eq, w64 (n := cl b - 1) (by omega) (by omega), where_eq, cl_cl, cl_in (a := cl b - 1) (by omega) (by omega)]
    simp only [Option.bind_some]
    rw [w64 (by omega) (by omega)]
theorem rtouch_l (b : Int) (d : Nat) : ∀ (k : Nat) (f l i : Int), 0 ≤ i → i ≤ cl b → 0 ≤ f → l = (i - 1) / 52 → 0 < i → (cl b - i : Int) = d → d < k →
    strandlineref07_Touch.l0 k b f l i = some (f, (cl b - 1) / 52 + 1) := by
  have h9 := cl_hi b
  induction d with
  | zero =>
    intro k f l i h0 h1 h2 h3 h4 hd hk
    obtain ⟨k, rfl⟩ : ∃ m, k = m + 1 := ⟨k - 1, by omega⟩
    simp only [strandlineref07_Touch.l0]
    rw [rnear_eq]
    simp only [Option.bind_some]
    obtain rfl : i = cl b := by omega
    rw [if_neg (by omega), if_neg (by omega), h3, w64 (by omega) (by omega)]
  | succ d ih =>
    intro k f l i h0 h1 h2 h3 h4 hd hk
    obtain ⟨k, rfl⟩ : ∃ m, k = m + 1 := ⟨k - 1, by omega⟩
    simp only [strandlineref07_Touch.l0]
    rw [rnear_eq]
    simp only [Option.bind_some]
    rw [if_pos (by omega), if_neg (by omega), td h0, w64 (n := i / 52) (by omega) (by omega), w64 (n := i + 1) (by omega) (by omega)]
    exact ih k f (i / 52) (i + 1) (by omega) (by omega) h2 (by omega) (by omega) (by omega) (by omega)
theorem rtouch_eq (k : Nat) (hk : 833 < k) (a b : Int) : strandlineref07_Touch.f k a b = some (tch (cl a) (cl b)) := by
  have a0 := cl_lo a
  have a1 := cl_hi a
  have b0 := cl_lo b
  have b1 := cl_hi b
  unfold strandlineref07_Touch.f
  rw [rnear_eq]
  simp only [Option.bind_some]
  obtain ⟨k, rfl⟩ : ∃ m, k = m + 1 := ⟨k - 1, by omega⟩
  simp only [strandlineref07_Touch.l0]
  rw [rnear_eq]
  simp only [Option.bind_some]
  unfold tch
  by_cases h : cl a < cl b
  · rw [if_pos h, if_pos (by omega), if_neg (show ¬ cl a ≥ cl b by omega), td a0, w64 (n := cl a / 52) (by omega) (by omega), w64 (n := cl a + 1) (by omega) (by omega)]
    exact rtouch_l b (cl b - (cl a + 1)).toNat k (cl a / 52) (cl a / 52) (cl a + 1) (by omega) (by omega) (by omega) (by omega) (by omega) (by omega) (by omega)
  · rw [if_neg h, if_pos (by omega), if_pos (show cl a ≥ cl b by omega)]
theorem awake07 : strandlinelaw07_awake.f = some true := by
  unfold strandlinelaw07_awake.f
  rw [where_eq, begin_eq, left_eq]
  decide
end PureST
open PureST
theorem SpanTouches : strandlinelaw07_SpanTouches.Pure := by
  intro a b _ _
  refine ⟨834, ?_⟩
  unfold strandlinelaw07_SpanTouches.f
  rw [touch_eq, rtouch_eq 834 (by omega), awake07]
  simp only [Option.bind_some, if_true]
end Go.Proofs.Ytflkhjleknmfpaa.Pure
