/- JoinBack: the fragments of records, cut anywhere, come to these records: plain, no program. -/
import Derived.Test.YthlpimojojofbaaPureCutFrags
import Derived.Test.YthlpimojojofbaaHjoin2
namespace Go.Proofs.Ythlpimojojofbaa.Pure
open Go.RowKit Go.Proofs.YthlpimojojofbaaW.PrintWords Go.Proofs.YthlpimojojofbaaW.PrintLast Go.Proofs.YthlpimojojofbaaW.PrintMore Go.Proofs.Ythlpimojojofbaa.F Go.Proofs.Ythlpimojojofbaa.Plain
set_option linter.unusedVariables false
set_option linter.unusedSimpArgs false
namespace PureJB
open PureCF
theorem feed_last (f : Bool) (b d : List Int) (hl : b.length + d.length ≤ 512) : feedF (!f) b (pc f true) d = ((b ++ d, true, 0), (false, [])) := by
  unfold feedF
  cases f
  · rw [if_neg (by simp [pc]), if_neg (by omega), if_pos (by simp [pc])]
  · rw [if_neg (by simp [pc]), if_neg (by omega), if_pos (by simp [pc])]
theorem feed_more (f : Bool) (b d : List Int) (hl : b.length + d.length ≤ 512) : feedF (!f) b (pc f false) d = (([], false, 0), (true, b ++ d)) := by
  unfold feedF
  cases f
  · rw [if_neg (by simp [pc]), if_neg (by omega), if_neg (by simp [pc])]
  · rw [if_neg (by simp [pc]), if_neg (by omega), if_neg (by simp [pc])]
theorem join_pieces (data : List Int) (h5 : data.length ≤ 512) (rest : List S66) (out : List (List Int)) : ∀ (ps : List (Int × Int × Int)) (f : Bool) (from_ : Int), 0 ≤ from_ → from_ ≤ data.length → Chain ps from_ data.length → ps ≠ [] →
    joinG ((mkP f ps).map (fragP 0 data) ++ rest) (!f) (data.take from_.toNat) out = joinG rest false [] (out ++ [data]) := by
  intro ps
  induction ps with
  | nil => intro _ _ _ _ _ h; exact absurd rfl h
  | cons t ts ih =>
    intro f from_ h0 h1 hc _
    obtain ⟨e1, c2, c3, c4, c5, c6, c7⟩ := hc
    have key : data.take from_.toNat ++ (data.take t.2.2.toNat).drop t.2.1.toNat = data.take t.2.2.toNat := by
      have h := List.take_append_drop from_.toNat (data.take t.2.2.toNat)
      rw [List.take_take, Nat.min_eq_left (by omega)] at h
      rw [e1]
      exact h
    have kl : (data.take from_.toNat).length + ((data.take t.2.2.toNat).drop t.2.1.toNat).length ≤ 512 := by
      rw [← List.length_append, key]
      simp
      omega
    cases ts with
    | nil =>
      have e2 : t.2.2 = data.length := c7
      simp only [mkP, List.map_cons, List.map_nil, List.cons_append, List.nil_append, fragP, joinG]
      rw [feed_last f _ _ kl, key, e2]
      simp
    | cons u us =>
      have := ih false t.2.2 (by omega) c3 c7 (by simp)
      simp only [mkP, List.map_cons, List.cons_append, fragP, joinG] at this ⊢
      rw [feed_more f _ _ kl, key]
      simp only [Bool.not_false] at this
      simpa using this
theorem join_cut (at_ : Int) (data : List Int) (h5 : data.length ≤ 512) (hok : (cutP at_ data.length).2.2 = true) (rest : List S66) (out : List (List Int)) :
    joinG ((cutP at_ data.length).1.map (fragP 0 data) ++ rest) false [] out = joinG rest false [] (out ++ [data]) := by
  revert hok
  unfold cutP
  split
  · intro h; cases h
  · cases hs : cutS 4 at_ data.length 0 with
    | none => intro h; cases h
    | some p =>
      intro _
      exact join_pieces data h5 rest out p.1 true 0 (by omega) (by omega) (cutS_chain (by omega) hs) (cutS_ne hs)
/-- what stands in all, and what is wanted -/
def good (at_ : Int) (data : List Int) : Bool := (cutP at_ data.length).2.2 && decide (data.length ≤ 512)
def allF (a : Nat → Int) (l : Nat → List Int) : Nat → List S66
  | 0 => []
  | i + 1 => if good (a i) (l i) = true then allF a l i ++ (cutP (a i) (l i).length).1.map (fragP 0 (l i)) else allF a l i
def wantF (a : Nat → Int) (l : Nat → List Int) : Nat → List (List Int)
  | 0 => []
  | i + 1 => if good (a i) (l i) = true then wantF a l i ++ [l i] else wantF a l i
theorem join_all (a : Nat → Int) (l : Nat → List Int) (n : Nat) : ∀ rest : List S66, joinG (allF a l n ++ rest) false [] [] = joinG rest false [] (wantF a l n) := by
  induction n with
  | zero => intro rest; rfl
  | succ n ih =>
    intro rest
    unfold allF wantF
    by_cases h : good (a n) (l n) = true
    · rw [if_pos h, if_pos h, List.append_assoc, ih]
      unfold good at h
      rw [Bool.and_eq_true] at h
      exact join_cut (a n) (l n) (of_decide_eq_true h.2) h.1 rest _
    · rw [if_neg h, if_neg h]
      exact ih rest
theorem join_back (a : Nat → Int) (l : Nat → List Int) (n : Nat) : joinG (allF a l n) false [] [] = (wantF a l n, 0) := by
  have := join_all a l n []
  rw [List.append_nil] at this
  rw [this]
  rfl
theorem wantF_len (a : Nat → Int) (l : Nat → List Int) (n : Nat) : (wantF a l n).length ≤ n := by
  induction n with
  | zero => simp [wantF]
  | succ n ih =>
    unfold wantF
    split
    · rw [List.length_append, List.length_singleton]; omega
    · omega
theorem allF_len (a : Nat → Int) (l : Nat → List Int) (n : Nat) : (allF a l n).length ≤ 4 * n := by
  induction n with
  | zero => simp [allF]
  | succ n ih =>
    unfold allF
    have := cutP_len (a n) (l n).length
    split
    · rw [List.length_append, List.length_map]; omega
    · omega
end PureJB
end Go.Proofs.Ythlpimojojofbaa.Pure
