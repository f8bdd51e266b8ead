/- For every place and every spot: span.Where and span.At answer what the reference answers by counting. No condition. -/
import Derived.Test.YtflkhjleknmfpaaFlSpanPlaces
import Derived.Test.YtflkhjleknmfpaaPlain
set_option linter.unusedVariables false
set_option linter.unusedSimpArgs false
namespace Go.Proofs.Ytflkhjleknmfpaa.Pure
open Go.RowKit Go.Proofs.Ytflkhjleknmfpaa.F Go.Proofs.YtflkhjleknmfpaaW.PrintWords Go.Proofs.YtflkhjleknmfpaaW.PrintLast Go.Proofs.YtflkhjleknmfpaaW.PrintMore Go.Proofs.Ytflkhjleknmfpaa.Plain
namespace PureSP
theorem near_eq (a : Int) : span_near.f a 832 = some (cl a) := by unfold span_near.f; rw [near_cl]
theorem where_eq (a : Int) : span_Where.f a = some (cl a / 52, cl a % 52) := by
  have h0 := cl_lo a
  have h1 := cl_hi a
  unfold span_Where.f
  rw [near_eq]
  simp only [Option.bind_some]
  rw [td h0, tm h0, w64 (by omega) (by omega)]
theorem begin_eq (a : Int) : span_Begin.f a = some (bg (cl a)) := by
  have h0 := cl_lo a
  have h1 := cl_hi a
  unfold span_Begin.f
  rw [near_eq]
  simp only [Option.bind_some]
  rw [where_eq, cl_cl]
  simp only [Option.bind_some]
  rw [w64 (n := 52 - cl a % 52) (by omega) (by omega)]
  unfold bg
  by_cases h : 41 < cl a % 52
  · rw [if_pos (by omega), if_pos h, w64 (by omega) (by omega)]
  · rw [if_neg (by omega), if_neg h]
theorem left_eq (a : Int) : span_Left.f a = some (lf (cl a)) := by
  have h0 := cl_lo a
  have h1 := cl_hi a
  unfold span_Left.f
  rw [near_eq]
  simp only [Option.bind_some]
  rw [where_eq, cl_cl]
  simp only [Option.bind_some]
  unfold lf
  by_cases h : cl a = 832
  · rw [if_pos h, h, if_pos (by decide)]
  · rw [if_neg (by simp only [Bool.and_eq_true, beq_iff_eq]; omega), if_neg h, tm h0, w64 (by omega) (by omega)]
theorem rnear_eq (a : Int) : strandlineref07_Near.f a = some (cl a) := by
  unfold strandlineref07_Near.f cl
  by_cases h1 : a < 0
  · rw [if_pos h1, if_pos h1]
  · by_cases h2 : 832 < a
    · rw [if_neg h1, if_neg h1, if_pos h2, if_pos h2]
    · rw [if_neg h1, if_neg h1, if_neg (by omega), if_neg h2]
theorem rwhere_l (a : Int) (d : Nat) : ∀ (k : Nat) (i : Int), 0 ≤ i → i ≤ cl a → (cl a - i : Int) = d → d < k →
    strandlineref07_Where.l0 k a (i / 52) (i % 52) i = some (cl a / 52, cl a % 52) := by
  have h9 := cl_hi a
  induction d with
  | zero =>
    intro k i h0 h1 hd hk
    obtain ⟨k, rfl⟩ : ∃ m, k = m + 1 := ⟨k - 1, by omega⟩
    simp only [strandlineref07_Where.l0]
    rw [rnear_eq]
    simp only [Option.bind_some]
    rw [if_neg (by omega)]
    obtain rfl : i = cl a := by omega
    rfl
  | succ d ih =>
    intro k i h0 h1 hd hk
    obtain ⟨k, rfl⟩ : ∃ m, k = m + 1 := ⟨k - 1, by omega⟩
    simp only [strandlineref07_Where.l0]
    rw [rnear_eq]
    simp only [Option.bind_some]
    rw [if_pos (by omega), w64 (n := i % 52 + 1) (by omega) (by omega), w64 (n := i / 52 + 1) (by omega) (by omega), w64 (n := i + 1) (by omega) (by omega)]
    have hr := ih k (i + 1) (by omega) (by omega) (by omega) (by omega)
    by_cases hm : i % 52 + 1 = 52
    · rw [if_pos hm, show i / 52 + 1 = (i + 1) / 52 by omega, show (0 : Int) = (i + 1) % 52 by omega]
      exact hr
    · rw [if_neg hm, show i % 52 + 1 = (i + 1) % 52 by omega, show i / 52 = (i + 1) / 52 by omega]
      exact hr
theorem rwhere_eq (k : Nat) (hk : 832 < k) (a : Int) : strandlineref07_Where.f k a = some (cl a / 52, cl a % 52) := by
  have h0 := cl_lo a
  have h1 := cl_hi a
  unfold strandlineref07_Where.f
  exact rwhere_l a (cl a).toNat k 0 (by omega) (by omega) (by omega) (by omega)
theorem awake07 : strandlinelaw07_awake.f = some true := by
  unfold strandlinelaw07_awake.f
  rw [where_eq, begin_eq, left_eq]
  decide
def cb (a b : Int) : Int := if a < 0 then 0 else if b < a then b else a
theorem near_cb (a b : Int) (hb : 0 ≤ b) : span_near.f a b = some (cb a b) := by
  unfold span_near.f mx mn cb
  congr 1
  by_cases h1 : a < 0 <;> by_cases h2 : b < a <;> simp [h1, h2] <;> omega
theorem cb_bd (a b : Int) (hb : 0 ≤ b) : 0 ≤ cb a b ∧ cb a b ≤ b := by
  unfold cb
  split
  · omega
  · split <;> omega
theorem at_eq (x y : Int) : span_At.f x y = some (cl (cb x 16 * 52 + cb y 52)) := by
  have h1 := cb_bd x 16 (by decide)
  have h2 := cb_bd y 52 (by decide)
  unfold span_At.f
  rw [near_cb _ _ (by decide), near_cb _ _ (by decide)]
  simp only [Option.bind_some]
  rw [w64 (n := cb x 16 * 52) (by omega) (by omega), w64 (by omega) (by omega)]
  unfold mn cl
  congr 1
  by_cases h : 832 < cb x 16 * 52 + cb y 52
  · rw [if_pos h, if_neg (by omega)]
  · rw [if_neg h, if_neg (by omega)]
theorem fin_eq (x y v : Int) (hv : cl v = cl (cb x 16 * 52 + cb y 52)) : ((span_At.f x y).bind fun t125 => ((strandlineref07_Near.f v).bind fun t126 => (if t125 = t126 then ((strandlinelaw07_awake.f).bind fun t127 => (some t127)) else (some false)))) = some true := by
  rw [at_eq, rnear_eq, awake07, hv]
  simp only [Option.bind_some, if_true]
theorem l1_eq (x y : Int) (d : Nat) : ∀ (k : Nat) (v i : Int), 0 ≤ i → i ≤ cb y 52 → (cb y 52 - i : Int) = d → d < k → 0 ≤ v → v ≤ 832 + i → v + (cb y 52 - i) = cb x 16 * 52 + cb y 52 →
    strandlinelaw07_SpanPlaces.l1 k v i x y = some true := by
  have hb := cb_bd y 52 (by decide)
  induction d with
  | zero =>
    intro k v i h0 h1 hd hk hv hv2 hs
    obtain ⟨k, rfl⟩ : ∃ m, k = m + 1 := ⟨k - 1, by omega⟩
    simp only [strandlinelaw07_SpanPlaces.l1]
    have hi : i = cb y 52 := by omega
    by_cases h : i < y
    · rw [if_pos h, if_neg (by unfold cb at hi; split at hi <;> (try split at hi) <;> omega)]
      exact fin_eq x y v (by rw [show v = cb x 16 * 52 + cb y 52 by omega])
    · rw [if_neg h]
      exact fin_eq x y v (by rw [show v = cb x 16 * 52 + cb y 52 by omega])
  | succ d ih =>
    intro k v i h0 h1 hd hk hv hv2 hs
    obtain ⟨k, rfl⟩ : ∃ m, k = m + 1 := ⟨k - 1, by omega⟩
    simp only [strandlinelaw07_SpanPlaces.l1]
    have hi : i < y ∧ i < 52 := by
      have : i < cb y 52 := by omega
      unfold cb at this
      split at this
      · omega
      · split at this <;> omega
    rw [if_pos hi.1, if_pos hi.2, w64 (n := v + 1) (by omega) (by omega), w64 (n := i + 1) (by omega) (by omega)]
    exact ih k (v + 1) (i + 1) (by omega) (by omega) (by omega) (by omega) (by omega) (by omega) (by omega)
theorem j2_eq (x y : Int) (k : Nat) (hk : 60 < k) : strandlinelaw07_SpanPlaces.j2 k (cb x 16 * 52) x y = some true := by
  have hb := cb_bd y 52 (by decide)
  have hb2 := cb_bd x 16 (by decide)
  obtain ⟨k, rfl⟩ : ∃ m, k = m + 1 := ⟨k - 1, by omega⟩
  simp only [strandlinelaw07_SpanPlaces.j2]
  exact l1_eq x y (cb y 52).toNat k _ 0 (by omega) (by omega) (by omega) (by omega) (by omega) (by omega) (by omega)
theorem l0_eq (x y : Int) (d : Nat) : ∀ (k : Nat) (i : Int), 0 ≤ i → i ≤ cb x 16 → (cb x 16 - i : Int) = d → d + 100 < k →
    strandlinelaw07_SpanPlaces.l0 k (i * 52) i x y = some true := by
  have hb := cb_bd x 16 (by decide)
  induction d with
  | zero =>
    intro k i h0 h1 hd hk
    obtain ⟨k, rfl⟩ : ∃ m, k = m + 1 := ⟨k - 1, by omega⟩
    simp only [strandlinelaw07_SpanPlaces.l0]
    have hi : i = cb x 16 := by omega
    by_cases h : i < x
    · rw [if_pos h, if_neg (by unfold cb at hi; split at hi <;> (try split at hi) <;> omega), hi]
      exact j2_eq x y k (by omega)
    · rw [if_neg h, hi]
      exact j2_eq x y k (by omega)
  | succ d ih =>
    intro k i h0 h1 hd hk
    obtain ⟨k, rfl⟩ : ∃ m, k = m + 1 := ⟨k - 1, by omega⟩
    simp only [strandlinelaw07_SpanPlaces.l0]
    have hi : i < x ∧ i < 16 := by
      have : i < cb x 16 := by omega
      unfold cb at this
      split at this
      · omega
      · split at this <;> omega
    rw [if_pos hi.1, if_pos hi.2, w64 (n := i * 52 + 52) (by omega) (by omega), w64 (n := i + 1) (by omega) (by omega), show i * 52 + 52 = (i + 1) * 52 by omega]
    exact ih k (i + 1) (by omega) (by omega) (by omega) (by omega)
end PureSP
open PureSP
theorem SpanPlaces (a x y : Int) : ∃ k, strandlinelaw07_SpanPlaces.f k a x y = some true := by
  refine ⟨901, ?_⟩
  have h0 := cl_lo a
  have h1 := cl_hi a
  have hb := cb_bd x 16 (by decide)
  unfold strandlinelaw07_SpanPlaces.f
  rw [where_eq, rwhere_eq 901 (by omega), rnear_eq]
  simp only [Option.bind_some, if_true]
  rw [at_eq]
  have e : cl (cb (cl a / 52) 16 * 52 + cb (cl a % 52) 52) = cl a := by
    have e1 : cb (cl a / 52) 16 = cl a / 52 := by unfold cb; rw [if_neg (by omega), if_neg (by omega)]
    have e2 : cb (cl a % 52) 52 = cl a % 52 := by unfold cb; rw [if_neg (by omega), if_neg (by omega)]
    rw [e1, e2, show cl a / 52 * 52 + cl a % 52 = cl a by omega, cl_cl]
  rw [e]
  simp only [Option.bind_some, strandlinelaw07_SpanPlaces.j0, bne_self_eq_false, Bool.false_eq_true, if_false]
  have := l0_eq x y (cb x 16).toNat 900 0 (by omega) (by omega) (by omega) (by omega)
  simpa using this
end Go.Proofs.Ytflkhjleknmfpaa.Pure
