/- For every epoch, every place and any data of at most 1000 bytes: cut.Frags gives the fragments of the reference's pieces, or says as it does that they don't fit. No condition beyond the statement's own. -/
import Derived.Test.YthlpimojojofbaaFlCutFrags
import Derived.Test.YthlpimojojofbaaPlain
set_option linter.unusedVariables false
set_option linter.unusedSimpArgs false
namespace Go.Proofs.Ythlpimojojofbaa.Pure
open Go.RowKit Go.Proofs.Ythlpimojojofbaa.F Go.Proofs.YthlpimojojofbaaW.PrintWords Go.Proofs.YthlpimojojofbaaW.PrintLast Go.Proofs.YthlpimojojofbaaW.PrintMore Go.Proofs.Ythlpimojojofbaa.Plain
namespace PureCF
theorem near_eq (a : Int) : span_near.f a 832 = some (cl a) := by unfold span_near.f; rw [near_cl]
theorem where_eq (a : Int) : span_Where.f a = some (cl a / 52, cl a % 52) := by
  have h0 := cl_lo a
  have h1 := cl_hi a
  unfold span_Where.f
  rw [near_eq]
  simp only [Option.bind_some]
  rw [td h0, tm h0, w64 (by omega) (by omega)]
theorem begin_eq (a : Int) : span_Begin.f a = some (bg (cl a)) := by
  have h0 := cl_lo a
  have h1 := cl_hi a
  unfold span_Begin.f
  rw [near_eq]
  simp only [Option.bind_some]
  rw [where_eq, cl_cl]
  simp only [Option.bind_some]
  rw [w64 (n := 52 - cl a % 52) (by omega) (by omega)]
  unfold bg
  by_cases h : 41 < cl a % 52
  · rw [if_pos (by omega), if_pos h, w64 (by omega) (by omega)]
  · rw [if_neg (by omega), if_neg h]
theorem left_eq (a : Int) : span_Left.f a = some (lf (cl a)) := by
  have h0 := cl_lo a
  have h1 := cl_hi a
  unfold span_Left.f
  rw [near_eq]
  simp only [Option.bind_some]
  rw [where_eq, cl_cl]
  simp only [Option.bind_some]
  unfold lf
  by_cases h : cl a = 832
  · rw [if_pos h, h, if_pos (by decide)]
  · rw [if_neg (by simp only [Bool.and_eq_true, beq_iff_eq]; omega), if_neg h, tm h0, w64 (by omega) (by omega)]
theorem rnear_eq (a : Int) : strandlineref07_Near.f a = some (cl a) := by
  unfold strandlineref07_Near.f cl
  by_cases h1 : a < 0
  · rw [if_pos h1, if_pos h1]
  · by_cases h2 : 832 < a
    · rw [if_neg h1, if_neg h1, if_pos h2, if_pos h2]
    · rw [if_neg h1, if_neg h1, if_neg (by omega), if_neg h2]
theorem rleft_l (d : Nat) : ∀ (k : Nat) (at_ n : Int), 0 ≤ at_ → at_ ≤ 832 → 0 ≤ n → n ≤ at_ → (832 - at_ : Int) = d → d < k →
    strandlineref07_Left.l0 k at_ n = some (n + if at_ = 832 then 0 else if n = 0 then 208 - at_ % 208 else (208 - at_ % 208) % 208) := by
  induction d with
  | zero =>
    intro k at_ n h0 h1 h2 h3 hd hk
    obtain ⟨k, rfl⟩ : ∃ m, k = m + 1 := ⟨k - 1, by omega⟩
    simp only [strandlineref07_Left.l0]
    rw [if_neg (by omega), if_pos (show at_ = 832 by omega)]
    simp
  | succ d ih =>
    intro k at_ n h0 h1 h2 h3 hd hk
    obtain ⟨k, rfl⟩ : ∃ m, k = m + 1 := ⟨k - 1, by omega⟩
    simp only [strandlineref07_Left.l0]
    rw [if_pos (by omega), tm h0, w64 (n := at_ + 1) (by omega) (by omega), w64 (n := n + 1) (by omega) (by omega)]
    have hr := ih k (at_ + 1) (n + 1) (by omega) (by omega) (by omega) (by omega) (by omega) (by omega)
    rw [if_neg (show ¬ n + 1 = 0 by omega)] at hr
    rw [if_neg (show ¬ at_ = 832 by omega), hr]
    by_cases hn : n = 0
    · rw [if_pos hn, if_pos hn]
      congr 1
      by_cases h8 : at_ + 1 = 832
      · rw [if_pos h8]; omega
      · rw [if_neg h8]; omega
    · rw [if_neg hn, if_neg hn]
      by_cases hm : at_ % 208 = 0
      · rw [if_pos hm]
        congr 1
        omega
      · rw [if_neg hm]
        congr 1
        by_cases h8 : at_ + 1 = 832
        · rw [if_pos h8]; omega
        · rw [if_neg h8]; omega
theorem rleft_eq (k : Nat) (hk : 832 < k) (a : Int) : strandlineref07_Left.f k a = some (lf (cl a)) := by
  have h0 := cl_lo a
  have h1 := cl_hi a
  unfold strandlineref07_Left.f
  rw [rnear_eq]
  simp only [Option.bind_some]
  rw [rleft_l (832 - cl a).toNat k (cl a) 0 h0 h1 (by omega) h0 (by omega) (by omega)]
  unfold lf
  by_cases h : cl a = 832
  · rw [if_pos h, if_pos h]; rfl
  · rw [if_neg h, if_neg h, if_pos rfl]; simp
theorem rwhere_l (a : Int) (d : Nat) : ∀ (k : Nat) (i : Int), 0 ≤ i → i ≤ cl a → (cl a - i : Int) = d → d < k →
    strandlineref07_Where.l0 k a (i / 52) (i % 52) i = some (cl a / 52, cl a % 52) := by
  have h9 := cl_hi a
  induction d with
  | zero =>
    intro k i h0 h1 hd hk
    obtain ⟨k, rfl⟩ : ∃ m, k = m + 1 := ⟨k - 1, by omega⟩
    simp only [strandlineref07_Where.l0]
    rw [rnear_eq]
    simp only [Option.bind_some]
    rw [if_neg (by omega)]
    obtain rfl : i = cl a := by omega
    rfl
  | succ d ih =>
    intro k i h0 h1 hd hk
    obtain ⟨k, rfl⟩ : ∃ m, k = m + 1 := ⟨k - 1, by omega⟩
    simp only [strandlineref07_Where.l0]
    rw [rnear_eq]
    simp only [Option.bind_some]
    rw [if_pos (by omega), w64 (n := i % 52 + 1) (by omega) (by omega), w64 (n := i / 52 + 1) (by omega) (by omega), w64 (n := i + 1) (by omega) (by omega)]
    have hr := ih k (i + 1) (by omega) (by omega) (by omega) (by omega)
    by_cases hm : i % 52 + 1 = 52
    · rw [if_pos hm, show i / 52 + 1 = (i + 1) / 52 by omega, show (0 : Int) = (i + 1) % 52 by omega]
      exact hr
    · rw [if_neg hm, show i % 52 + 1 = (i + 1) % 52 by omega, show i / 52 = (i + 1) / 52 by omega]
      exact hr
theorem rwhere_eq (k : Nat) (hk : 832 < k) (a : Int) : strandlineref07_Where.f k a = some (cl a / 52, cl a % 52) := by
  have h0 := cl_lo a
  have h1 := cl_hi a
  unfold strandlineref07_Where.f
  exact rwhere_l a (cl a).toNat k 0 (by omega) (by omega) (by omega) (by omega)
theorem rbegin_l (d : Nat) : ∀ (k : Nat) (at_ off : Int), 0 ≤ at_ → at_ ≤ 832 → 41 < off → off ≤ 52 → (at_ + (52 - off)) ≤ 832 → (52 - off : Int) = d → d < k →
    strandlineref07_Begin.l0 k at_ off = some (at_ + (52 - off)) := by
  induction d with
  | zero =>
    intro k at_ off h0 h1 h2 h3 h4 hd hk
    obtain ⟨k, rfl⟩ : ∃ m, k = m + 1 := ⟨k - 1, by omega⟩
    simp only [strandlineref07_Begin.l0]
    rw [show at_ + (52 - off) = at_ by omega, if_neg (show ¬ off < 52 by omega)]
    simp
  | succ d ih =>
    intro k at_ off h0 h1 h2 h3 h4 hd hk
    obtain ⟨k, rfl⟩ : ∃ m, k = m + 1 := ⟨k - 1, by omega⟩
    simp only [strandlineref07_Begin.l0]
    rw [if_pos (by omega), if_pos (by omega), if_pos (by omega), w64 (n := at_ + 1) (by omega) (by omega), w64 (n := off + 1) (by omega) (by omega)]
    rw [ih k (at_ + 1) (off + 1) (by omega) (by omega) (by omega) (by omega) (by omega) (by omega) (by omega)]
    congr 1
    omega
theorem rbegin_eq (k : Nat) (hk : 832 < k) (a : Int) : strandlineref07_Begin.f k a = some (bg (cl a)) := by
  have h0 := cl_lo a
  have h1 := cl_hi a
  unfold strandlineref07_Begin.f
  rw [rnear_eq]
  simp only [Option.bind_some]
  rw [rwhere_eq k hk, cl_cl]
  simp only [Option.bind_some]
  unfold bg
  by_cases h : 41 < cl a % 52
  · rw [if_pos h, rbegin_l (52 - cl a % 52).toNat k (cl a) (cl a % 52) h0 h1 h (by omega) (by omega) (by omega) (by omega)]
  · rw [if_neg h]
    obtain ⟨k, rfl⟩ : ∃ m, k = m + 1 := ⟨k - 1, by omega⟩
    simp only [strandlineref07_Begin.l0]
    rw [if_neg (show ¬ cl a % 52 > 41 by omega)]
    simp
/-! ### the pieces, in plain words -/
def cutS : Nat → Int → Int → Int → Option (List (Int × Int × Int) × Int)
  | 0, _, _, _ => none
  | m + 1, at_, n, from_ => if bg (cl at_) = 832 then none else
      if n ≤ from_ + (lf (bg (cl at_)) - 11) then some ([(bg (cl at_), from_, n)], bg (cl at_) + 11 + (n - from_)) else
        (cutS m (bg (cl at_) + lf (bg (cl at_))) n (from_ + (lf (bg (cl at_)) - 11))).map fun p => ((bg (cl at_), from_, from_ + (lf (bg (cl at_)) - 11)) :: p.1, p.2)
theorem lf_ge {b : Int} (h0 : 0 ≤ b) (h1 : b ≤ 832) (hm : b % 52 ≤ 41) (h : b ≠ 832) : 11 ≤ lf b ∧ lf b ≤ 208 ∧ b + lf b ≤ 832 ∧ (b + lf b) % 208 = 0 := by
  unfold lf
  rw [if_neg h]
  omega
theorem bg_block {b : Int} (h : b % 208 = 0) : bg b = b := by
  unfold bg
  rw [if_neg (by omega)]
def pc (f l : Bool) : Int := if f then (if l then 1 else 2) else (if l then 4 else 3)
def mkP : Bool → List (Int × Int × Int) → List S79
  | _, [] => []
  | f, [t] => [⟨t.1, pc f true, t.2.1, t.2.2⟩]
  | f, t :: u :: rest => ⟨t.1, pc f false, t.2.1, t.2.2⟩ :: mkP false (u :: rest)
def Chain : List (Int × Int × Int) → Int → Int → Prop
  | [], from_, n => from_ = n
  | t :: rest, from_, n => t.2.1 = from_ ∧ from_ ≤ t.2.2 ∧ t.2.2 ≤ n ∧ 0 ≤ t.1 ∧ t.1 < 832 ∧ 11 + (t.2.2 - from_) ≤ lf t.1 ∧ Chain rest t.2.2 n
theorem cutS_ne {m : Nat} {at_ n from_ : Int} {p : List (Int × Int × Int) × Int} (h : cutS m at_ n from_ = some p) : p.1 ≠ [] := by
  cases m with
  | zero => cases h
  | succ m =>
    unfold cutS at h
    split at h
    · cases h
    · split at h
      · obtain rfl := Option.some.inj h
        simp
      · obtain ⟨q, _, rfl⟩ := Option.map_eq_some_iff.mp h
        simp
theorem cutS_len {m : Nat} : ∀ {at_ n from_ : Int} {p : List (Int × Int × Int) × Int}, cutS m at_ n from_ = some p → p.1.length ≤ m := by
  induction m with
  | zero => intro _ _ _ _ h; cases h
  | succ m ih =>
    intro at_ n from_ p h
    unfold cutS at h
    split at h
    · cases h
    · split at h
      · obtain rfl := Option.some.inj h
        simp
      · obtain ⟨q, hq, rfl⟩ := Option.map_eq_some_iff.mp h
        have := ih hq
        simp
        omega
theorem cutS_chain {m : Nat} : ∀ {at_ n from_ : Int} {p : List (Int × Int × Int) × Int}, from_ ≤ n → cutS m at_ n from_ = some p → Chain p.1 from_ n := by
  induction m with
  | zero => intro _ _ _ _ _ h; cases h
  | succ m ih =>
    intro at_ n from_ p hn h
    have h0 := cl_lo at_
    have h1 := cl_hi at_
    have hb0 := bg_lo h0
    have hb1 := bg_hi h1
    have hbm := bg_mod (cl at_)
    unfold cutS at h
    split at h
    · cases h
    · rename_i h8
      obtain ⟨l1, l2, l3, l4⟩ := lf_ge hb0 hb1 hbm h8
      split at h
      · obtain rfl := Option.some.inj h
        simp only [Chain]
        refine ⟨trivial, hn, Int.le_refl _, hb0, by omega, by omega, trivial⟩
      · obtain ⟨q, hq, rfl⟩ := Option.map_eq_some_iff.mp h
        simp only [Chain]
        exact ⟨trivial, by omega, by omega, hb0, by omega, by omega, ih (by omega) hq⟩
theorem cutS_bound {m : Nat} : ∀ {at_ n from_ : Int} {p : List (Int × Int × Int) × Int}, from_ ≤ cl at_ → from_ ≤ n → cutS m at_ n from_ = some p → n ≤ 821 ∧ 0 ≤ p.2 ∧ p.2 ≤ 832 := by
  induction m with
  | zero => intro _ _ _ _ _ _ h; cases h
  | succ m ih =>
    intro at_ n from_ p hf hn h
    have h0 := cl_lo at_
    have h1 := cl_hi at_
    have hb0 := bg_lo h0
    have hb1 := bg_hi h1
    have hbm := bg_mod (cl at_)
    have hbg := bg_ge (cl at_)
    unfold cutS at h
    split at h
    · cases h
    · rename_i h8
      obtain ⟨l1, l2, l3, l4⟩ := lf_ge hb0 hb1 hbm h8
      split at h
      · obtain rfl := Option.some.inj h
        simp only
        omega
      · obtain ⟨q, hq, rfl⟩ := Option.map_eq_some_iff.mp h
        exact ih (at_ := bg (cl at_) + lf (bg (cl at_))) (from_ := from_ + (lf (bg (cl at_)) - 11)) (p := q) (by rw [cl_in (by omega) l3]; omega) (by omega) hq
def rm : Nat → Int → Int
  | 0, _ => 0
  | m + 1, b => if b = 832 then 0 else lf b - 11 + rm m (b + lf b)
theorem rm_lo (m : Nat) : ∀ b : Int, 0 ≤ b → b ≤ 832 → b % 52 ≤ 41 → 0 ≤ rm m b ∧ rm m b ≤ 832 - b := by
  induction m with
  | zero => intro b h0 h1 h2; unfold rm; omega
  | succ m ih =>
    intro b h0 h1 h2
    unfold rm
    split
    · omega
    · rename_i h8
      obtain ⟨l1, l2, l3, l4⟩ := lf_ge h0 h1 h2 h8
      have := ih (b + lf b) (by omega) l3 (by omega)
      omega
theorem cutS_some (m : Nat) : ∀ (at_ n from_ : Int), from_ ≤ n → (cutS m at_ n from_).isSome = decide (0 < m ∧ bg (cl at_) ≠ 832 ∧ n - from_ ≤ rm m (bg (cl at_))) := by
  induction m with
  | zero => intro at_ n from_ _; simp [cutS]
  | succ m ih =>
    intro at_ n from_ hn
    have h0 := cl_lo at_
    have h1 := cl_hi at_
    have hb0 := bg_lo h0
    have hb1 := bg_hi h1
    have hbm := bg_mod (cl at_)
    unfold cutS rm
    by_cases h8 : bg (cl at_) = 832
    · rw [if_pos h8]
      simp [h8]
    · obtain ⟨l1, l2, l3, l4⟩ := lf_ge hb0 hb1 hbm h8
      have hr := rm_lo m (bg (cl at_) + lf (bg (cl at_))) (by omega) l3 (by omega)
      rw [if_neg h8, if_neg h8]
      by_cases hc : n ≤ from_ + (lf (bg (cl at_)) - 11)
      · rw [if_pos hc]
        simp only [Option.isSome_some]
        symm
        apply decide_eq_true
        exact ⟨by omega, h8, by omega⟩
      · rw [if_neg hc, Option.isSome_map, ih _ _ _ (by omega)]
        rw [cl_in (a := bg (cl at_) + lf (bg (cl at_))) (by omega) l3, bg_block l4]
        rw [decide_eq_decide]
        constructor
        · rintro ⟨h2, h3, h4⟩
          exact ⟨by omega, h8, by omega⟩
        · rintro ⟨h2, h3, h4⟩
          cases m with
          | zero => unfold rm at h4; omega
          | succ m =>
            by_cases h9 : bg (cl at_) + lf (bg (cl at_)) = 832
            · unfold rm at h4
              rw [if_pos h9] at h4
              omega
            · exact ⟨by omega, h9, by omega⟩
theorem kind_eq (k : Nat) (hk : 1 < k) (f l : Bool) : cut_kind.f k f l = some (pc f l) := by
  obtain ⟨k, rfl⟩ : ∃ m, k = m + 2 := ⟨k - 2, by omega⟩
  unfold cut_kind.f pc
  cases f <;> cases l <;> simp [cut_kind.j0]
theorem next_eq (k : Nat) (hk : 1 < k) (at_ n from_ : Int) (out : List S79) (hn0 : 0 ≤ from_) (hn : from_ ≤ n) (hn2 : n ≤ 832) (ho : out.length < 1000) :
    cut_next.f k at_ n from_ out = some (if bg (cl at_) = 832 then none else
      if n ≤ from_ + (lf (bg (cl at_)) - 11) then some (bg (cl at_) + 11 + (n - from_), n, out ++ [⟨bg (cl at_), pc ((out.length : Int) == 0) true, from_, n⟩])
      else some (bg (cl at_) + lf (bg (cl at_)), from_ + (lf (bg (cl at_)) - 11), out ++ [⟨bg (cl at_), pc ((out.length : Int) == 0) false, from_, from_ + (lf (bg (cl at_)) - 11)⟩])) := by
  have h0 := cl_lo at_
  have h1 := cl_hi at_
  have hb0 := bg_lo h0
  have hb1 := bg_hi h1
  have hbm := bg_mod (cl at_)
  unfold cut_next.f
  rw [begin_eq]
  simp only [Option.bind_some]
  rw [left_eq, cl_in hb0 hb1]
  simp only [Option.bind_some]
  by_cases h8 : bg (cl at_) = 832
  · rw [if_pos h8, h8, show lf 832 = 0 from rfl, if_pos (by rw [w64 (by decide) (by decide)]; decide)]
  · obtain ⟨l1, l2, l3, l4⟩ := lf_ge hb0 hb1 hbm h8
    rw [if_neg h8, w64 (n := lf (bg (cl at_)) - 11) (by omega) (by omega), if_neg (by omega), w64 (n := from_ + (lf (bg (cl at_)) - 11)) (by omega) (by omega), kind_eq k hk]
    simp only [Option.bind_some]
    rw [if_pos (by omega)]
    by_cases hc : n ≤ from_ + (lf (bg (cl at_)) - 11)
    · have e : mn n (from_ + (lf (bg (cl at_)) - 11)) = n := by unfold mn; rw [if_neg (by omega)]
      rw [if_pos hc, e, show (n == n) = true by simp, w64 (n := bg (cl at_) + 11) (by omega) (by omega), w64 (n := bg (cl at_) + 11 + n) (by omega) (by omega), w64 (by omega) (by omega), show bg (cl at_) + 11 + n - from_ = bg (cl at_) + 11 + (n - from_) by omega]
    · have e : mn n (from_ + (lf (bg (cl at_)) - 11)) = from_ + (lf (bg (cl at_)) - 11) := by unfold mn; rw [if_pos (by omega)]
      rw [if_neg hc, e, show (from_ + (lf (bg (cl at_)) - 11) == n) = false by rw [beq_eq_false_iff_ne]; omega, w64 (n := bg (cl at_) + 11) (by omega) (by omega), w64 (n := bg (cl at_) + 11 + (from_ + (lf (bg (cl at_)) - 11))) (by omega) (by omega), w64 (by omega) (by omega), show bg (cl at_) + 11 + (from_ + (lf (bg (cl at_)) - 11)) - from_ = bg (cl at_) + lf (bg (cl at_)) by omega]
def cutR (out : List S79) : Option (List (Int × Int × Int) × Int) → List S79 × Int × Bool
  | none => ([], 0, false)
  | some p => (out ++ mkP ((out.length : Int) == 0) p.1, p.2, true)
theorem cut_l (m : Nat) : ∀ (k : Nat) (at_ n from_ : Int) (out : List S79), m + 2 < k → 0 ≤ from_ → from_ ≤ n → n ≤ 832 → out.length + m < 1000 → 832 - bg (cl at_) ≤ 208 * m → (out = [] ∨ from_ < n) →
    cut_Cut.l0 k at_ n from_ out = some (cutR out (cutS m at_ n from_)) := by
  induction m with
  | zero =>
    intro k at_ n from_ out hk h0 hn hn2 ho hm hor
    have h1 := cl_hi at_
    have hb1 := bg_hi h1
    obtain ⟨k, rfl⟩ : ∃ j, k = j + 1 := ⟨k - 1, by omega⟩
    simp only [cut_Cut.l0]
    rw [if_pos (by rcases hor with rfl | h <;> simp [*]), next_eq k (by omega) at_ n from_ out h0 hn hn2 (by omega), if_pos (by omega)]
    simp only [Option.bind_some, Option.elim_none]
    rfl
  | succ m ih =>
    intro k at_ n from_ out hk h0 hn hn2 ho hm hor
    have c0 := cl_lo at_
    have c1 := cl_hi at_
    have hb0 := bg_lo c0
    have hb1 := bg_hi c1
    have hbm := bg_mod (cl at_)
    obtain ⟨k, rfl⟩ : ∃ j, k = j + 1 := ⟨k - 1, by omega⟩
    simp only [cut_Cut.l0]
    rw [if_pos (by rcases hor with rfl | h <;> simp [*]), next_eq k (by omega) at_ n from_ out h0 hn hn2 (by omega)]
    unfold cutS
    by_cases h8 : bg (cl at_) = 832
    · rw [if_pos h8, if_pos h8]
      rfl
    · obtain ⟨l1, l2, l3, l4⟩ := lf_ge hb0 hb1 hbm h8
      rw [if_neg h8, if_neg h8]
      by_cases hc : n ≤ from_ + (lf (bg (cl at_)) - 11)
      · rw [if_pos hc, if_pos hc]
        simp only [Option.bind_some, Option.elim_some]
        obtain ⟨k, rfl⟩ : ∃ j, k = j + 1 := ⟨k - 1, by omega⟩
        simp only [cut_Cut.l0]
        rw [if_neg (by simp; omega)]
        rfl
      · rw [if_neg hc, if_neg hc]
        simp only [Option.bind_some, Option.elim_some]
        rw [ih k _ n _ _ (by omega) (by omega) (by omega) hn2 (by simp; omega) (by rw [cl_in (by omega) l3, bg_block l4]; omega) (.inr (by omega))]
        cases hs : cutS m (bg (cl at_) + lf (bg (cl at_))) n (from_ + (lf (bg (cl at_)) - 11)) with
        | none => rfl
        | some p =>
          simp only [Option.map_some, cutR]
          obtain ⟨t, rest, ht⟩ : ∃ t rest, p.1 = t :: rest := by
            cases hp : p.1 with
            | nil => exact absurd hp (cutS_ne hs)
            | cons t rest => exact ⟨t, rest, rfl⟩
          rw [ht, show (((out ++ [(⟨bg (cl at_), pc ((out.length : Int) == 0) false, from_, from_ + (lf (bg (cl at_)) - 11)⟩ : S79)]).length : Int) == 0) = false by rw [beq_eq_false_iff_ne]; simp; omega]
          simp [mkP]
/-- What cut.Cut answers. -/
def cutP (at_ n : Int) : List S79 × Int × Bool := if n < 0 ∨ 832 < n then ([], 0, false) else cutR [] (cutS 4 at_ n 0)
theorem cut_eq (k : Nat) (hk : 6 < k) (at_ n : Int) : cut_Cut.f k at_ n = some (cutP at_ n) := by
  have c0 := cl_lo at_
  have hb0 := bg_lo c0
  unfold cut_Cut.f cutP
  by_cases h1 : n < 0
  · rw [if_pos h1, if_pos (.inl h1)]
  · by_cases h2 : 832 < n
    · rw [if_neg h1, if_pos h2, if_pos (.inr h2)]
    · rw [if_neg h1, if_neg (by omega), if_neg (by omega)]
      exact cut_l 4 k at_ n 0 [] (by omega) (by omega) (by omega) (by omega) (by simp) (by omega) (.inl rfl)
def raw (ps : List (Int × Int × Int)) : List S79 := ps.map fun t => ⟨t.1, 3, t.2.1, t.2.2⟩
theorem rcut_l (m : Nat) : ∀ (k : Nat) (at_ n from_ : Int) (out : List S79), 2 * m + 1000 < k → 0 ≤ from_ → from_ ≤ n → from_ ≤ cl at_ → n ≤ 9223372036854775807 → out.length + m < 1000 → 832 - bg (cl at_) ≤ 208 * m → (out = [] ∨ from_ < n) →
    strandlineref14_Cut.l0 k at_ n out from_ = (match cutS m at_ n from_ with | none => some ([], 0, false) | some p => strandlineref14_Cut.j1 1 p.2 n (out ++ raw p.1) n false) := by
  induction m with
  | zero =>
    intro k at_ n from_ out hk h0 hn hf hn2 ho hm hor
    have h1 := cl_hi at_
    have hb1 := bg_hi h1
    obtain ⟨k, rfl⟩ : ∃ j, k = j + 2 := ⟨k - 2, by omega⟩
    have e : strandlineref14_Cut.l0 (k + 2) at_ n out from_ = strandlineref14_Cut.j1 (k + 1) at_ n out from_ true := by
      simp only [strandlineref14_Cut.l0]
      by_cases hl : (out.length : Int) = 0
      · rw [if_pos hl]
      · rw [if_neg hl, show decide (from_ < n) = true by rcases hor with rfl | h <;> simp_all]
    rw [e]
    simp only [strandlineref14_Cut.j1, if_true]
    rw [rbegin_eq k (by omega)]
    simp only [Option.bind_some]
    rw [if_pos (by omega)]
    rfl
  | succ m ih =>
    intro k at_ n from_ out hk h0 hn hf hn2 ho hm hor
    have c0 := cl_lo at_
    have c1 := cl_hi at_
    have hb0 := bg_lo c0
    have hb1 := bg_hi c1
    have hbm := bg_mod (cl at_)
    have hbg := bg_ge (cl at_)
    obtain ⟨k, rfl⟩ : ∃ j, k = j + 2 := ⟨k - 2, by omega⟩
    have e : strandlineref14_Cut.l0 (k + 2) at_ n out from_ = strandlineref14_Cut.j1 (k + 1) at_ n out from_ true := by
      simp only [strandlineref14_Cut.l0]
      by_cases hl : (out.length : Int) = 0
      · rw [if_pos hl]
      · rw [if_neg hl, show decide (from_ < n) = true by rcases hor with rfl | h <;> simp_all]
    rw [e]
    simp only [strandlineref14_Cut.j1, if_true]
    rw [rbegin_eq k (by omega)]
    simp only [Option.bind_some]
    unfold cutS
    by_cases h8 : bg (cl at_) = 832
    · rw [if_pos (by omega), if_pos h8]
    · obtain ⟨l1, l2, l3, l4⟩ := lf_ge hb0 hb1 hbm h8
      rw [if_neg (by omega), if_neg h8, rleft_eq k (by omega), cl_in hb0 hb1]
      simp only [Option.bind_some]
      rw [w64 (n := lf (bg (cl at_)) - 11) (by omega) (by omega), w64 (n := n - from_) (by omega) (by omega), w64 (n := bg (cl at_) + 11) (by omega) (by omega)]
      by_cases hc : n ≤ from_ + (lf (bg (cl at_)) - 11)
      · rw [if_neg (by omega), if_pos (by omega), if_pos hc, w64 (n := from_ + (n - from_)) (by omega) (by omega), w64 (n := bg (cl at_) + 11 + (n - from_)) (by omega) (by omega), show from_ + (n - from_) = n by omega]
        obtain ⟨k, rfl⟩ : ∃ j, k = j + 2 := ⟨k - 2, by omega⟩
        simp only [strandlineref14_Cut.l0]
        rw [if_neg (by simp; omega), show decide (n < n) = false by simp]
        simp only [strandlineref14_Cut.j1]
        rfl
      · rw [if_pos (by omega), if_pos (by omega), if_neg hc, w64 (n := from_ + (lf (bg (cl at_)) - 11)) (by omega) (by omega), w64 (n := bg (cl at_) + 11 + (lf (bg (cl at_)) - 11)) (by omega) (by omega), show bg (cl at_) + 11 + (lf (bg (cl at_)) - 11) = bg (cl at_) + lf (bg (cl at_)) by omega]
        rw [ih k _ n _ _ (by omega) (by omega) (by omega) (by rw [cl_in (by omega) l3]; omega) hn2 (by simp; omega) (by rw [cl_in (by omega) l3, bg_block l4]; omega) (.inr (by omega))]
        cases hs : cutS m (bg (cl at_) + lf (bg (cl at_))) n (from_ + (lf (bg (cl at_)) - 11)) with
        | none => rfl
        | some p =>
          simp only [Option.map_some, raw, List.map_cons]
          rw [List.append_assoc]
          rfl
theorem rfix (ps : List (Int × Int × Int)) (e n : Int) (h0 : ps ≠ []) (h4 : ps.length ≤ 4) : strandlineref14_Cut.j1 1 e n (raw ps) n false = some (mkP true ps, e, true) := by
  match ps, h0, h4 with
  | [t], _, _ => simp [strandlineref14_Cut.j1, raw, rd_T79, mkP, pc, wrap64]
  | [t, u], _, _ => simp [strandlineref14_Cut.j1, raw, rd_T79, mkP, pc, wrap64]
  | [t, u, v], _, _ => simp [strandlineref14_Cut.j1, raw, rd_T79, mkP, pc, wrap64]
  | [t, u, v, x], _, _ => simp [strandlineref14_Cut.j1, raw, rd_T79, mkP, pc, wrap64]
theorem rcut_eq (k : Nat) (hk : 1100 < k) (at_ n : Int) (hn2 : n ≤ 9223372036854775807) : strandlineref14_Cut.f k at_ n = some (cutP at_ n) := by
  have c0 := cl_lo at_
  have hb0 := bg_lo c0
  unfold strandlineref14_Cut.f cutP
  by_cases h1 : n < 0
  · rw [if_pos h1, if_pos (.inl h1)]
  · rw [if_neg h1, rcut_l 4 k at_ n 0 [] (by omega) (by omega) (by omega) c0 hn2 (by simp) (by omega) (.inl rfl)]
    cases hs : cutS 4 at_ n 0 with
    | none =>
      simp only [cutR]
      split <;> rfl
    | some p =>
      have hb := cutS_bound c0 (by omega) hs
      rw [if_neg (by omega)]
      simp only [cutR, List.nil_append]
      exact rfix p.1 p.2 n (cutS_ne hs) (cutS_len hs)
theorem fits_eq (k : Nat) (hk : 6 < k) (at_ n : Int) : cut_Fits.f k at_ n = some (cutP at_ n).2.2 := by
  unfold cut_Fits.f
  rw [cut_eq k hk]
  rfl
theorem cutP_ok (at_ n : Int) : (cutP at_ n).2.2 = decide (0 ≤ n ∧ bg (cl at_) ≠ 832 ∧ n ≤ rm 4 (bg (cl at_))) := by
  have c0 := cl_lo at_
  have c1 := cl_hi at_
  have hb0 := bg_lo c0
  have hb1 := bg_hi c1
  have hr := rm_lo 4 (bg (cl at_)) hb0 hb1 (bg_mod _)
  unfold cutP
  by_cases h1 : n < 0 ∨ 832 < n
  · rw [if_pos h1]
    symm
    apply decide_eq_false
    rintro ⟨h2, h3, h4⟩
    omega
  · rw [if_neg h1]
    have hs := cutS_some 4 at_ n 0 (by omega)
    have e : (cutR [] (cutS 4 at_ n 0)).2.2 = (cutS 4 at_ n 0).isSome := by cases cutS 4 at_ n 0 <;> rfl
    rw [e, hs, decide_eq_decide]
    constructor
    · rintro ⟨h2, h3, h4⟩
      exact ⟨by omega, h3, by omega⟩
    · rintro ⟨h2, h3, h4⟩
      exact ⟨by omega, h3, by omega⟩
theorem room_l (m : Nat) : ∀ (k : Nat) (b n : Int), m < k → 0 ≤ b → b ≤ 832 → b % 52 ≤ 41 → 832 - b ≤ 208 * m → 0 ≤ n → n ≤ b → cut_Room.l0 k b n = some (n + rm m b) := by
  induction m with
  | zero =>
    intro k b n hk h0 h1 h2 h3 h4 h5
    obtain ⟨k, rfl⟩ : ∃ j, k = j + 1 := ⟨k - 1, by omega⟩
    simp only [cut_Room.l0]
    obtain rfl : b = 832 := by omega
    rw [left_eq, cl_in (by decide) (by decide)]
    simp only [Option.bind_some]
    rw [if_neg (by decide)]
    simp [rm]
  | succ m ih =>
    intro k b n hk h0 h1 h2 h3 h4 h5
    obtain ⟨k, rfl⟩ : ∃ j, k = j + 1 := ⟨k - 1, by omega⟩
    simp only [cut_Room.l0]
    rw [left_eq, cl_in h0 h1]
    simp only [Option.bind_some]
    unfold rm
    by_cases h8 : b = 832
    · subst h8
      rw [if_neg (by decide), if_pos rfl]
      simp
    · obtain ⟨l1, l2, l3, l4⟩ := lf_ge h0 h1 h2 h8
      rw [if_pos (by omega), if_neg h8, w64 (n := b + lf b) (by omega) (by omega), w64 (n := lf b - 11) (by omega) (by omega), w64 (n := n + (lf b - 11)) (by omega) (by omega)]
      rw [ih k (b + lf b) (n + (lf b - 11)) (by omega) (by omega) l3 (by omega) (by omega) (by omega) (by omega)]
      congr 1
      omega
/-- How many bytes fit. -/
def roomP (at_ : Int) : Int := if bg (cl at_) = 832 then -1 else rm 4 (bg (cl at_))
theorem room_eq (k : Nat) (hk : 8 < k) (at_ : Int) : cut_Room.f k at_ = some (roomP at_) := by
  have c0 := cl_lo at_
  have c1 := cl_hi at_
  have hb0 := bg_lo c0
  have hb1 := bg_hi c1
  have hbm := bg_mod (cl at_)
  have hr := rm_lo 4 (bg (cl at_)) hb0 hb1 hbm
  unfold cut_Room.f roomP
  rw [fits_eq k (by omega), cutP_ok]
  simp only [Option.bind_some]
  by_cases h8 : bg (cl at_) = 832
  · rw [if_pos h8, if_neg (by simp [h8])]
  · rw [if_neg h8, if_pos (decide_eq_true ⟨by omega, h8, hr.1⟩), begin_eq]
    simp only [Option.bind_some]
    rw [room_l 4 k _ 0 (by omega) hb0 hb1 hbm (by omega) (by omega) hb0]
    simp
theorem awake14 (k : Nat) (hk : 10 < k) : strandlinelaw14_awake.f k = some true := by
  unfold strandlinelaw14_awake.f
  rw [cut_eq k (by omega), room_eq k (by omega)]
  decide +kernel
theorem mkP_len (f : Bool) (ps : List (Int × Int × Int)) : (mkP f ps).length = ps.length := by
  induction ps generalizing f with
  | nil => cases f <;> rfl
  | cons t rest ih =>
    cases rest with
    | nil => rfl
    | cons u rest => simp only [mkP, List.length_cons]; rw [ih]; rfl
theorem mkP_drop (ps : List (Int × Int × Int)) : ∀ (f : Bool) (i : Nat) (h : i < ps.length), ∃ kd : Int, (mkP f ps)[i]? = some ⟨(ps[i]).1, kd, (ps[i]).2.1, (ps[i]).2.2⟩ := by
  induction ps with
  | nil => intro f i h; simp at h
  | cons t rest ih =>
    intro f i h
    cases rest with
    | nil =>
      have : i = 0 := by simp at h; omega
      subst this
      exact ⟨_, rfl⟩
    | cons u rest =>
      cases i with
      | zero => exact ⟨_, rfl⟩
      | succ i =>
        obtain ⟨kd, hk⟩ := ih false i (by simpa using h)
        exact ⟨kd, by simpa [mkP] using hk⟩
def fragP (e : Int) (data : List Int) (p : S79) : S66 := ⟨p.f1, e, (data.take p.f3.toNat).drop p.f2.toNat⟩
def Fit (data : List Int) (l : List S79) : Prop := ∀ i : Nat, i < l.length → 0 ≤ (rd_T79 l i).f2 ∧ (rd_T79 l i).f2 ≤ (rd_T79 l i).f3 ∧ (rd_T79 l i).f3 ≤ (data.length : Int)
theorem rd_at (l : List S79) (i : Nat) (h : i < l.length) : l[i] = rd_T79 l i := by
  unfold rd_T79
  rw [List.getD_eq_getElem?_getD, Int.toNat_natCast, List.getElem?_eq_getElem h]
  rfl
theorem frags_l (e : Int) (data : List Int) (l : List S79) (hd : data.length < 140737488355328) (hl : l.length < 1000) (hf : Fit data l) (d : Nat) : ∀ (k i : Nat) (acc : List S66), i ≤ l.length → acc.length = i → l.length - i = d → d < k →
    cut_Frags.l0 k e data acc l (l.length : Int) i = some (acc ++ (l.drop i).map (fragP e data), true) := by
  induction d with
  | zero =>
    intro k i acc h1 ha hd hk
    obtain ⟨k, rfl⟩ : ∃ j, k = j + 1 := ⟨k - 1, by omega⟩
    simp only [cut_Frags.l0]
    rw [if_neg (by omega), List.drop_eq_nil_of_le (by omega)]
    simp
  | succ d ih =>
    intro k i acc h1 ha hd2 hk
    obtain ⟨k, rfl⟩ : ∃ j, k = j + 1 := ⟨k - 1, by omega⟩
    simp only [cut_Frags.l0]
    have hlt : i < l.length := by omega
    obtain ⟨f1, f2, f3⟩ := hf i hlt
    rw [if_pos (by omega), if_pos (by omega), if_pos (by omega)]
    simp only [Option.bind_some, List.nil_append, List.length_nil, Nat.zero_add]
    rw [if_pos f1, if_pos f2, if_pos f3, if_pos (by simp; omega), if_pos (by omega), w64 (n := (i : Int) + 1) (by omega) (by omega)]
    have hr := ih k (i + 1) (acc ++ [fragP e data (rd_T79 l i)]) (by omega) (by simp [ha]) (by omega) (by omega)
    rw [List.drop_eq_getElem_cons hlt, List.map_cons, rd_at l i hlt]
    rw [List.append_assoc] at hr
    exact hr
theorem chain_all (n : Int) : ∀ (ps : List (Int × Int × Int)) (from_ : Int), 0 ≤ from_ → Chain ps from_ n → ∀ t ∈ ps, 0 ≤ t.2.1 ∧ t.2.1 ≤ t.2.2 ∧ t.2.2 ≤ n := by
  intro ps
  induction ps with
  | nil => intro _ _ _ t ht; cases ht
  | cons u rest ih =>
    intro from_ h0 hc t ht
    obtain ⟨h1, h2, h3, h4, h5, h6, h7⟩ := hc
    rcases List.mem_cons.1 ht with rfl | ht
    · exact ⟨by omega, by omega, h3⟩
    · exact ih u.2.2 (by omega) h7 t ht
theorem cutP_fit (at_ : Int) (data : List Int) : Fit data (cutP at_ (data.length : Int)).1 := by
  intro i hi
  revert hi
  unfold cutP
  split
  · intro hi; simp at hi
  · cases hs : cutS 4 at_ (data.length : Int) 0 with
    | none => intro hi; simp [cutR] at hi
    | some p =>
      simp only [cutR, List.nil_append]
      intro hi
      rw [mkP_len] at hi
      have hc := chain_all _ p.1 0 (Int.le_refl _) (cutS_chain (by omega) hs) _ (List.getElem_mem hi)
      obtain ⟨kd, hk⟩ := mkP_drop p.1 ((([] : List S79).length : Int) == 0) i hi
      have e : rd_T79 (mkP ((([] : List S79).length : Int) == 0) p.1) (i : Int) = ⟨(p.1[i]).1, kd, (p.1[i]).2.1, (p.1[i]).2.2⟩ := by
        unfold rd_T79
        rw [List.getD_eq_getElem?_getD, Int.toNat_natCast, hk]
        rfl
      rw [e]
      exact hc
theorem cutP_len (at_ n : Int) : (cutP at_ n).1.length ≤ 4 := by
  unfold cutP
  split
  · simp
  · cases hs : cutS 4 at_ n 0 with
    | none => simp [cutR]
    | some p =>
      have := cutS_len hs
      simp only [cutR, List.nil_append, mkP_len]
      exact this
/-- What cut.Frags answers. -/
def fragsP (e at_ : Int) (data : List Int) : List S66 × Bool := ((cutP at_ (data.length : Int)).1.map (fragP e data), (cutP at_ (data.length : Int)).2.2)
theorem cutP_no (at_ n : Int) (h : (cutP at_ n).2.2 = false) : (cutP at_ n).1 = [] := by
  revert h
  unfold cutP
  split
  · intro _; rfl
  · cases hs : cutS 4 at_ n 0 with
    | none => intro _; rfl
    | some p => intro h; cases h
theorem frags_eq (k : Nat) (hk : 10 < k) (e at_ : Int) (data : List Int) (hd : data.length < 140737488355328) : cut_Frags.f k e at_ data = some (fragsP e at_ data) := by
  unfold cut_Frags.f fragsP
  rw [cut_eq k (by omega)]
  simp only [Option.bind_some]
  have hl := cutP_len at_ (data.length : Int)
  by_cases h : (cutP at_ (data.length : Int)).2.2 = true
  · rw [if_pos h, h]
    have := frags_l e data (cutP at_ (data.length : Int)).1 hd (by omega) (cutP_fit at_ data) (cutP at_ (data.length : Int)).1.length k 0 [] (by omega) rfl (by omega) (by omega)
    simpa using this
  · have h2 : (cutP at_ (data.length : Int)).2.2 = false := by simpa using h
    rw [if_neg h, h2, cutP_no at_ _ h2]
    rfl
theorem law_l (e : Int) (data : List Int) (l : List S79) (hl : l.length < 1000) (hf : Fit data l) (d : Nat) : ∀ (k i : Nat), i ≤ l.length → l.length - i = d → d + 20 < k →
    strandlinelaw14_CutFrags.l0 k e data (l.map (fragP e data)) l i = some true := by
  induction d with
  | zero =>
    intro k i h1 hd hk
    obtain ⟨k, rfl⟩ : ∃ j, k = j + 1 := ⟨k - 1, by omega⟩
    simp only [strandlinelaw14_CutFrags.l0]
    rw [List.length_map, if_neg (by omega), awake14 k (by omega)]
    rfl
  | succ d ih =>
    intro k i h1 hd hk
    obtain ⟨k, rfl⟩ : ∃ j, k = j + 1 := ⟨k - 1, by omega⟩
    simp only [strandlinelaw14_CutFrags.l0]
    have hlt : i < l.length := by omega
    obtain ⟨f1, f2, f3⟩ := hf i hlt
    have hrd : rd_T66 (l.map (fragP e data)) (i : Int) = fragP e data (rd_T79 l i) := by
      unfold rd_T66
      rw [List.getD_eq_getElem?_getD, Int.toNat_natCast, List.getElem?_map, List.getElem?_eq_getElem hlt, rd_at l i hlt]
      rfl
    rw [List.length_map, if_pos (by omega), if_pos (by omega), if_pos (by omega), if_pos f1, if_pos f2, if_pos f3, hrd]
    unfold strandlineref13_Same.f fragP
    simp only [if_true, Option.bind_some, beq_self_eq_true]
    rw [w64 (n := (i : Int) + 1) (by omega) (by omega)]
    exact ih k (i + 1) (by omega) (by omega) (by omega)
end PureCF
open PureCF
theorem CutFrags : strandlinelaw14_CutFrags.Pure := by
  intro e a data he ha h1 h2 h3
  obtain ⟨k, hk⟩ : ∃ k : Nat, k = 3000 := ⟨_, rfl⟩
  refine ⟨k + 1, ?_⟩
  unfold strandlinelaw14_CutFrags.f
  by_cases hc : (data.length : Int) > 1000
  · rw [if_pos hc, awake14 (k + 1) (by omega)]
    rfl
  · rw [if_neg hc, frags_eq (k + 1) (by omega) e a data (by omega), rcut_eq (k + 1) (by omega) a _ (by omega)]
    have hl := cutP_len a (data.length : Int)
    simp only [Option.bind_some, fragsP, List.length_map, bne_self_eq_false, Bool.false_eq_true, if_false, strandlinelaw14_CutFrags.j0]
    exact law_l e data _ (by omega) (cutP_fit a data) (cutP a (data.length : Int)).1.length k 0 (by omega) (by omega) (by omega)
end Go.Proofs.Ythlpimojojofbaa.Pure
