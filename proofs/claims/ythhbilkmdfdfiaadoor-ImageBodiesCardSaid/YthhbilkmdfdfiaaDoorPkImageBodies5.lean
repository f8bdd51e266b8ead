/- Texts of mine put together: ImgM, Own2, CrcOwn, FkFrag. -/
import Derived.Test.YthhbilkmdfdfiaaDoorPkImageBodies3
import Derived.Test.YthhbilkmdfdfiaaDoorPkImageBodies4
import Derived.Test.YthhbilkmdfdfiaaDoorPkImageBodies1
import Derived.Test.YthhbilkmdfdfiaaDoorPkImageBodies2
import Derived.Great.BuildSlice
import Derived.Lib.LazyBuf
import Derived.ArgAppend
section
/- What image.Add lays: plain. -/
set_option linter.unusedVariables false
set_option linter.unusedSimpArgs false
namespace Go.Proofs.YthhbilkmdfdfiaaDoor.Img
open Go.RowKit Go.Proofs.YthhbilkmdfdfiaaDoor.F Go.Proofs.YthhbilkmdfdfiaaDoor.F.Nums Go.Proofs.YthhbilkmdfdfiaaDoor.O Go.Proofs.YthhbilkmdfdfiaaDoorW.PrintWords Go.Proofs.YthhbilkmdfdfiaaDoorW.PrintLast Go.Proofs.YthhbilkmdfdfiaaDoorW.PrintMore Go.Proofs.YthhbilkmdfdfiaaDoor.Plain
theorem near_eq (a : Int) : span_near.f a 832 = some (cl a) := by unfold span_near.f; rw [near_cl]
theorem where_eq (a : Int) : span_Where.f a = some (cl a / 52, cl a % 52) := by
  have h0 := cl_lo a
  have h1 := cl_hi a
  unfold span_Where.f
  rw [near_eq]
  simp only [Option.bind_some]
  rw [td h0, tm h0, w64 (by omega) (by omega)]
theorem begin_eq (a : Int) : span_Begin.f a = some (bg (cl a)) := by
  have h0 := cl_lo a
  have h1 := cl_hi a
  unfold span_Begin.f
  rw [near_eq]
  simp only [Option.bind_some]
  rw [where_eq, cl_cl]
  simp only [Option.bind_some]
  rw [w64 (n := 52 - cl a % 52) (by omega) (by omega)]
  unfold bg
  by_cases h : 41 < cl a % 52
  · rw [if_pos (by omega), if_pos h, w64 (by omega) (by omega)]
  · rw [if_neg (by omega), if_neg h]
theorem left_eq (a : Int) : span_Left.f a = some (lf (cl a)) := by
  have h0 := cl_lo a
  have h1 := cl_hi a
  unfold span_Left.f
  rw [near_eq]
  simp only [Option.bind_some]
  rw [where_eq, cl_cl]
  simp only [Option.bind_some]
  unfold lf
  by_cases h : cl a = 832
  · rw [if_pos h, h, if_pos (by decide)]
  · rw [if_neg (by simp only [Bool.and_eq_true, beq_iff_eq]; omega), if_neg h, tm h0, w64 (by omega) (by omega)]
/-! ### the pieces, in plain words -/
def cutS : Nat → Int → Int → Int → Option (List (Int × Int × Int) × Int)
  | 0, _, _, _ => none
  | m + 1, at_, n, from_ => if bg (cl at_) = 832 then none else
      if n ≤ from_ + (lf (bg (cl at_)) - 11) then some ([(bg (cl at_), from_, n)], bg (cl at_) + 11 + (n - from_)) else
        (cutS m (bg (cl at_) + lf (bg (cl at_))) n (from_ + (lf (bg (cl at_)) - 11))).map fun p => ((bg (cl at_), from_, from_ + (lf (bg (cl at_)) - 11)) :: p.1, p.2)
theorem lf_ge {b : Int} (h0 : 0 ≤ b) (h1 : b ≤ 832) (hm : b % 52 ≤ 41) (h : b ≠ 832) : 11 ≤ lf b ∧ lf b ≤ 208 ∧ b + lf b ≤ 832 ∧ (b + lf b) % 208 = 0 := by
  unfold lf
  rw [if_neg h]
  omega
theorem bg_block {b : Int} (h : b % 208 = 0) : bg b = b := by
  unfold bg
  rw [if_neg (by omega)]
def pc (f l : Bool) : Int := if f then (if l then 1 else 2) else (if l then 4 else 3)
def mkP : Bool → List (Int × Int × Int) → List S99
  | _, [] => []
  | f, [t] => [⟨t.1, pc f true, t.2.1, t.2.2⟩]
  | f, t :: u :: rest => ⟨t.1, pc f false, t.2.1, t.2.2⟩ :: mkP false (u :: rest)
def Chain : List (Int × Int × Int) → Int → Int → Prop
  | [], from_, n => from_ = n
  | t :: rest, from_, n => t.2.1 = from_ ∧ from_ ≤ t.2.2 ∧ t.2.2 ≤ n ∧ 0 ≤ t.1 ∧ t.1 < 832 ∧ 11 + (t.2.2 - from_) ≤ lf t.1 ∧ Chain rest t.2.2 n
theorem cutS_ne {m : Nat} {at_ n from_ : Int} {p : List (Int × Int × Int) × Int} (h : cutS m at_ n from_ = some p) : p.1 ≠ [] := by
  cases m with
  | zero => cases h
  | succ m =>
    unfold cutS at h
    split at h
    · cases h
    · split at h
      · obtain rfl := Option.some.inj h
        simp
      · obtain ⟨q, _, rfl⟩ := Option.map_eq_some_iff.mp h
        simp
theorem cutS_len {m : Nat} : ∀ {at_ n from_ : Int} {p : List (Int × Int × Int) × Int}, cutS m at_ n from_ = some p → p.1.length ≤ m := by
  induction m with
  | zero => intro _ _ _ _ h; cases h
  | succ m ih =>
    intro at_ n from_ p h
    unfold cutS at h
    split at h
    · cases h
    · split at h
      · obtain rfl := Option.some.inj h
        simp
      · obtain ⟨q, hq, rfl⟩ := Option.map_eq_some_iff.mp h
        have := ih hq
        simp
        omega
theorem cutS_chain {m : Nat} : ∀ {at_ n from_ : Int} {p : List (Int × Int × Int) × Int}, from_ ≤ n → cutS m at_ n from_ = some p → Chain p.1 from_ n := by
  induction m with
  | zero => intro _ _ _ _ _ h; cases h
  | succ m ih =>
    intro at_ n from_ p hn h
    have h0 := cl_lo at_
    have h1 := cl_hi at_
    have hb0 := bg_lo h0
    have hb1 := bg_hi h1
    have hbm := bg_mod (cl at_)
    unfold cutS at h
    split at h
    · cases h
    · rename_i h8
      obtain ⟨l1, l2, l3, l4⟩ := lf_ge hb0 hb1 hbm h8
      split at h
      · obtain rfl := Option.some.inj h
        simp only [Chain]
        refine ⟨trivial, hn, Int.le_refl _, hb0, by omega, by omega, trivial⟩
      · obtain ⟨q, hq, rfl⟩ := Option.map_eq_some_iff.mp h
        simp only [Chain]
        exact ⟨trivial, by omega, by omega, hb0, by omega, by omega, ih (by omega) hq⟩
theorem cutS_bound {m : Nat} : ∀ {at_ n from_ : Int} {p : List (Int × Int × Int) × Int}, from_ ≤ cl at_ → from_ ≤ n → cutS m at_ n from_ = some p → n ≤ 821 ∧ 0 ≤ p.2 ∧ p.2 ≤ 832 := by
  induction m with
  | zero => intro _ _ _ _ _ _ h; cases h
  | succ m ih =>
    intro at_ n from_ p hf hn h
    have h0 := cl_lo at_
    have h1 := cl_hi at_
    have hb0 := bg_lo h0
    have hb1 := bg_hi h1
    have hbm := bg_mod (cl at_)
    have hbg := bg_ge (cl at_)
    unfold cutS at h
    split at h
    · cases h
    · rename_i h8
      obtain ⟨l1, l2, l3, l4⟩ := lf_ge hb0 hb1 hbm h8
      split at h
      · obtain rfl := Option.some.inj h
        simp only
        omega
      · obtain ⟨q, hq, rfl⟩ := Option.map_eq_some_iff.mp h
        exact ih (at_ := bg (cl at_) + lf (bg (cl at_))) (from_ := from_ + (lf (bg (cl at_)) - 11)) (p := q) (by rw [cl_in (by omega) l3]; omega) (by omega) hq
theorem kind_eq (k : Nat) (hk : 1 < k) (f l : Bool) : cut_kind.f k f l = some (pc f l) := by
  obtain ⟨k, rfl⟩ : ∃ m, k = m + 2 := ⟨k - 2, by omega⟩
  unfold cut_kind.f pc
  cases f <;> cases l <;> simp [cut_kind.j0]
theorem next_eq (k : Nat) (hk : 1 < k) (at_ n from_ : Int) (out : List S99) (hn0 : 0 ≤ from_) (hn : from_ ≤ n) (hn2 : n ≤ 832) (ho : out.length < 1000) :
    cut_next.f k at_ n from_ out = some (if bg (cl at_) = 832 then none else
      if n ≤ from_ + (lf (bg (cl at_)) - 11) then some (bg (cl at_) + 11 + (n - from_), n, out ++ [⟨bg (cl at_), pc ((out.length : Int) == 0) true, from_, n⟩])
      else some (bg (cl at_) + lf (bg (cl at_)), from_ + (lf (bg (cl at_)) - 11), out ++ [⟨bg (cl at_), pc ((out.length : Int) == 0) false, from_, from_ + (lf (bg (cl at_)) - 11)⟩])) := by
  have h0 := cl_lo at_
  have h1 := cl_hi at_
  have hb0 := bg_lo h0
  have hb1 := bg_hi h1
  have hbm := bg_mod (cl at_)
  unfold cut_next.f
  rw [begin_eq]
  simp only [Option.bind_some]
  rw [left_eq, cl_in hb0 hb1]
  simp only [Option.bind_some]
  by_cases h8 : bg (cl at_) = 832
  · rw [if_pos h8, h8, show lf 832 = 0 from rfl, if_pos (by rw [w64 (by decide) (by decide)]; decide)]
  · obtain ⟨l1, l2, l3, l4⟩ := lf_ge hb0 hb1 hbm h8
    rw [if_neg h8, w64 (n := lf (bg (cl at_)) - 11) (by omega) (by omega), if_neg (by omega), w64 (n := from_ + (lf (bg (cl at_)) - 11)) (by omega) (by omega), kind_eq k hk]
    simp only [Option.bind_some]
    rw [if_pos (by omega)]
    by_cases hc : n ≤ from_ + (lf (bg (cl at_)) - 11)
    · have e : mn n (from_ + (lf (bg (cl at_)) - 11)) = n := by unfold mn; rw [if_neg (by omega)]
      rw [if_pos hc, e, show (n == n) = true by simp, w64 (n := bg (cl at_) + 11) (by omega) (by omega), w64 (n := bg (cl at_) + 11 + n) (by omega) (by omega), w64 (by omega) (by omega), show bg (cl at_) + 11 + n - from_ = bg (cl at_) + 11 + (n - from_) by omega]
    · have e : mn n (from_ + (lf (bg (cl at_)) - 11)) = from_ + (lf (bg (cl at_)) - 11) := by unfold mn; rw [if_pos (by omega)]
      rw [if_neg hc, e, show (from_ + (lf (bg (cl at_)) - 11) == n) = false by rw [beq_eq_false_iff_ne]; omega, w64 (n := bg (cl at_) + 11) (by omega) (by omega), w64 (n := bg (cl at_) + 11 + (from_ + (lf (bg (cl at_)) - 11))) (by omega) (by omega), w64 (by omega) (by omega), show bg (cl at_) + 11 + (from_ + (lf (bg (cl at_)) - 11)) - from_ = bg (cl at_) + lf (bg (cl at_)) by omega]
def cutR (out : List S99) : Option (List (Int × Int × Int) × Int) → List S99 × Int × Bool
  | none => ([], 0, false)
  | some p => (out ++ mkP ((out.length : Int) == 0) p.1, p.2, true)
theorem cut_l (m : Nat) : ∀ (k : Nat) (at_ n from_ : Int) (out : List S99), m + 2 < k → 0 ≤ from_ → from_ ≤ n → n ≤ 832 → out.length + m < 1000 → 832 - bg (cl at_) ≤ 208 * m → (out = [] ∨ from_ < n) →
    cut_Cut.l0 k at_ n from_ out = some (cutR out (cutS m at_ n from_)) := by
  induction m with
  | zero =>
    intro k at_ n from_ out hk h0 hn hn2 ho hm hor
    have h1 := cl_hi at_
    have hb1 := bg_hi h1
    obtain ⟨k, rfl⟩ : ∃ j, k = j + 1 := ⟨k - 1, by omega⟩
    simp only [cut_Cut.l0]
    rw [if_pos (by rcases hor with rfl | h <;> simp [*]), next_eq k (by omega) at_ n from_ out h0 hn hn2 (by omega), if_pos (by omega)]
    simp only [Option.bind_some, Option.elim_none]
    rfl
  | succ m ih =>
    intro k at_ n from_ out hk h0 hn hn2 ho hm hor
    have c0 := cl_lo at_
    have c1 := cl_hi at_
    have hb0 := bg_lo c0
    have hb1 := bg_hi c1
    have hbm := bg_mod (cl at_)
    obtain ⟨k, rfl⟩ : ∃ j, k = j + 1 := ⟨k - 1, by omega⟩
    simp only [cut_Cut.l0]
    rw [if_pos (by rcases hor with rfl | h <;> simp [*]), next_eq k (by omega) at_ n from_ out h0 hn hn2 (by omega)]
    unfold cutS
    by_cases h8 : bg (cl at_) = 832
    · rw [if_pos h8, if_pos h8]
      rfl
    · obtain ⟨l1, l2, l3, l4⟩ := lf_ge hb0 hb1 hbm h8
      rw [if_neg h8, if_neg h8]
      by_cases hc : n ≤ from_ + (lf (bg (cl at_)) - 11)
      · rw [if_pos hc, if_pos hc]
        simp only [Option.bind_some, Option.elim_some]
        obtain ⟨k, rfl⟩ : ∃ j, k = j + 1 := ⟨k - 1, by omega⟩
        simp only [cut_Cut.l0]
        rw [if_neg (by simp; omega)]
        rfl
      · rw [if_neg hc, if_neg hc]
        simp only [Option.bind_some, Option.elim_some]
        rw [ih k _ n _ _ (by omega) (by omega) (by omega) hn2 (by simp; omega) (by rw [cl_in (by omega) l3, bg_block l4]; omega) (.inr (by omega))]
        cases hs : cutS m (bg (cl at_) + lf (bg (cl at_))) n (from_ + (lf (bg (cl at_)) - 11)) with
        | none => rfl
        | some p =>
          simp only [Option.map_some, cutR]
          obtain ⟨t, rest, ht⟩ : ∃ t rest, p.1 = t :: rest := by
            cases hp : p.1 with
            | nil => exact absurd hp (cutS_ne hs)
            | cons t rest => exact ⟨t, rest, rfl⟩
          rw [ht, show (((out ++ [(⟨bg (cl at_), pc ((out.length : Int) == 0) false, from_, from_ + (lf (bg (cl at_)) - 11)⟩ : S99)]).length : Int) == 0) = false by rw [beq_eq_false_iff_ne]; simp; omega]
          simp [mkP]
/-- What cut.Cut answers. -/
def cutP (at_ n : Int) : List S99 × Int × Bool := if n < 0 ∨ 832 < n then ([], 0, false) else cutR [] (cutS 4 at_ n 0)
theorem cut_eq (k : Nat) (hk : 6 < k) (at_ n : Int) : cut_Cut.f k at_ n = some (cutP at_ n) := by
  have c0 := cl_lo at_
  have hb0 := bg_lo c0
  unfold cut_Cut.f cutP
  by_cases h1 : n < 0
  · rw [if_pos h1, if_pos (.inl h1)]
  · by_cases h2 : 832 < n
    · rw [if_neg h1, if_pos h2, if_pos (.inr h2)]
    · rw [if_neg h1, if_neg (by omega), if_neg (by omega)]
      exact cut_l 4 k at_ n 0 [] (by omega) (by omega) (by omega) (by omega) (by simp) (by omega) (.inl rfl)
theorem mkP_len (f : Bool) (ps : List (Int × Int × Int)) : (mkP f ps).length = ps.length := by
  induction ps generalizing f with
  | nil => cases f <;> rfl
  | cons t rest ih =>
    cases rest with
    | nil => rfl
    | cons u rest => simp only [mkP, List.length_cons]; rw [ih]; rfl
theorem mkP_drop (ps : List (Int × Int × Int)) : ∀ (f : Bool) (i : Nat) (h : i < ps.length), ∃ kd : Int, (mkP f ps)[i]? = some ⟨(ps[i]).1, kd, (ps[i]).2.1, (ps[i]).2.2⟩ := by
  induction ps with
  | nil => intro f i h; simp at h
  | cons t rest ih =>
    intro f i h
    cases rest with
    | nil =>
      have : i = 0 := by simp at h; omega
      subst this
      exact ⟨_, rfl⟩
    | cons u rest =>
      cases i with
      | zero => exact ⟨_, rfl⟩
      | succ i =>
        obtain ⟨kd, hk⟩ := ih false i (by simpa using h)
        exact ⟨kd, by simpa [mkP] using hk⟩
def fragP (e : Int) (data : List Int) (p : S99) : S37 := ⟨p.f1, e, (data.take p.f3.toNat).drop p.f2.toNat⟩
def Fit (data : List Int) (l : List S99) : Prop := ∀ i : Nat, i < l.length → 0 ≤ (rd_T99 l i).f2 ∧ (rd_T99 l i).f2 ≤ (rd_T99 l i).f3 ∧ (rd_T99 l i).f3 ≤ (data.length : Int)
theorem rd_at (l : List S99) (i : Nat) (h : i < l.length) : l[i] = rd_T99 l i := by
  unfold rd_T99
  rw [List.getD_eq_getElem?_getD, Int.toNat_natCast, List.getElem?_eq_getElem h]
  rfl
theorem frags_l (e : Int) (data : List Int) (l : List S99) (hd : data.length < 140737488355328) (hl : l.length < 1000) (hf : Fit data l) (d : Nat) : ∀ (k i : Nat) (acc : List S37), i ≤ l.length → acc.length = i → l.length - i = d → d < k →
    cut_Frags.l0 k e data acc l (l.length : Int) i = some (acc ++ (l.drop i).map (fragP e data), true) := by
  induction d with
  | zero =>
    intro k i acc h1 ha hd hk
    obtain ⟨k, rfl⟩ : ∃ j, k = j + 1 := ⟨k - 1, by omega⟩
    simp only [cut_Frags.l0]
    rw [if_neg (by omega), List.drop_eq_nil_of_le (by omega)]
    simp
  | succ d ih =>
    intro k i acc h1 ha hd2 hk
    obtain ⟨k, rfl⟩ : ∃ j, k = j + 1 := ⟨k - 1, by omega⟩
    simp only [cut_Frags.l0]
    have hlt : i < l.length := by omega
    obtain ⟨f1, f2, f3⟩ := hf i hlt
    rw [if_pos (by omega), if_pos (by omega), if_pos (by omega)]
    simp only [Option.bind_some, List.nil_append, List.length_nil, Nat.zero_add]
    rw [if_pos f1, if_pos f2, if_pos f3, if_pos (by simp; omega), if_pos (by omega), w64 (n := (i : Int) + 1) (by omega) (by omega)]
    have hr := ih k (i + 1) (acc ++ [fragP e data (rd_T99 l i)]) (by omega) (by simp [ha]) (by omega) (by omega)
    rw [List.drop_eq_getElem_cons hlt, List.map_cons, rd_at l i hlt]
    rw [List.append_assoc] at hr
    exact hr
theorem chain_all (n : Int) : ∀ (ps : List (Int × Int × Int)) (from_ : Int), 0 ≤ from_ → Chain ps from_ n → ∀ t ∈ ps, 0 ≤ t.2.1 ∧ t.2.1 ≤ t.2.2 ∧ t.2.2 ≤ n := by
  intro ps
  induction ps with
  | nil => intro _ _ _ t ht; cases ht
  | cons u rest ih =>
    intro from_ h0 hc t ht
    obtain ⟨h1, h2, h3, h4, h5, h6, h7⟩ := hc
    rcases List.mem_cons.1 ht with rfl | ht
    · exact ⟨by omega, by omega, h3⟩
    · exact ih u.2.2 (by omega) h7 t ht
theorem cutP_fit (at_ : Int) (data : List Int) : Fit data (cutP at_ (data.length : Int)).1 := by
  intro i hi
  revert hi
  unfold cutP
  split
  · intro hi; simp at hi
  · cases hs : cutS 4 at_ (data.length : Int) 0 with
    | none => intro hi; simp [cutR] at hi
    | some p =>
      simp only [cutR, List.nil_append]
      intro hi
      rw [mkP_len] at hi
      have hc := chain_all _ p.1 0 (Int.le_refl _) (cutS_chain (by omega) hs) _ (List.getElem_mem hi)
      obtain ⟨kd, hk⟩ := mkP_drop p.1 ((([] : List S99).length : Int) == 0) i hi
      have e : rd_T99 (mkP ((([] : List S99).length : Int) == 0) p.1) (i : Int) = ⟨(p.1[i]).1, kd, (p.1[i]).2.1, (p.1[i]).2.2⟩ := by
        unfold rd_T99
        rw [List.getD_eq_getElem?_getD, Int.toNat_natCast, hk]
        rfl
      rw [e]
      exact hc
theorem cutP_len (at_ n : Int) : (cutP at_ n).1.length ≤ 4 := by
  unfold cutP
  split
  · simp
  · cases hs : cutS 4 at_ n 0 with
    | none => simp [cutR]
    | some p =>
      have := cutS_len hs
      simp only [cutR, List.nil_append, mkP_len]
      exact this
/-- What cut.Frags answers. -/
def fragsP (e at_ : Int) (data : List Int) : List S37 × Bool := ((cutP at_ (data.length : Int)).1.map (fragP e data), (cutP at_ (data.length : Int)).2.2)
theorem cutP_no (at_ n : Int) (h : (cutP at_ n).2.2 = false) : (cutP at_ n).1 = [] := by
  revert h
  unfold cutP
  split
  · intro _; rfl
  · cases hs : cutS 4 at_ n 0 with
    | none => intro _; rfl
    | some p => intro h; cases h
theorem frags_eq (k : Nat) (hk : 10 < k) (e at_ : Int) (data : List Int) (hd : data.length < 140737488355328) : cut_Frags.f k e at_ data = some (fragsP e at_ data) := by
  unfold cut_Frags.f fragsP
  rw [cut_eq k (by omega)]
  simp only [Option.bind_some]
  have hl := cutP_len at_ (data.length : Int)
  by_cases h : (cutP at_ (data.length : Int)).2.2 = true
  · rw [if_pos h, h]
    have := frags_l e data (cutP at_ (data.length : Int)).1 hd (by omega) (cutP_fit at_ data) (cutP at_ (data.length : Int)).1.length k 0 [] (by omega) rfl (by omega) (by omega)
    simpa using this
  · have h2 : (cutP at_ (data.length : Int)).2.2 = false := by simpa using h
    rw [if_neg h, h2, cutP_no at_ _ h2]
    rfl
abbrev Pc := S99
/-- one piece is right: it lies in the body, its fragment is one -/
def PcOk (data : List Int) (p : Pc) : Prop := 0 ≤ p.f0 ∧ p.f0 < 832 ∧ (1 ≤ p.f1 ∧ p.f1 ≤ 4) ∧ 0 ≤ p.f2 ∧ p.f2 ≤ p.f3 ∧ p.f3 ≤ data.length ∧ p.f3 - p.f2 ≤ 197 ∧ p.f0 + 11 + (p.f3 - p.f2) ≤ 832
theorem pc_kind (f l : Bool) : 1 ≤ pc f l ∧ pc f l ≤ 4 := by cases f <;> cases l <;> decide
theorem lf_fit {b : Int} (h0 : 0 ≤ b) (h1 : b < 832) : lf b ≤ 208 ∧ b + lf b ≤ 832 := by
  unfold lf
  rw [if_neg (by omega)]
  omega
theorem chain_ok (n : Int) (data : List Int) (hn : n ≤ data.length) : ∀ (ps : List (Int × Int × Int)) (from_ : Int) (f : Bool), 0 ≤ from_ → Chain ps from_ n → ∀ p ∈ mkP f ps, PcOk data p := by
  intro ps
  induction ps with
  | nil => intro _ _ _ _ p hp; cases hp
  | cons t rest ih =>
    intro from_ f h0 hc p hp
    obtain ⟨h1, h2, h3, h4, h5, h6, h7⟩ := hc
    obtain ⟨l1, l2⟩ := lf_fit h4 h5
    cases rest with
    | nil =>
      simp only [mkP, List.mem_singleton] at hp
      subst hp
      exact ⟨h4, h5, pc_kind _ _, by simp only; omega, by simp only; omega, by simp only; omega, by simp only; omega, by simp only; omega⟩
    | cons u rest =>
      simp only [mkP, List.mem_cons] at hp
      rcases hp with rfl | hp
      · exact ⟨h4, h5, pc_kind _ _, by simp only; omega, by simp only; omega, by simp only; omega, by simp only; omega, by simp only; omega⟩
      · exact ih t.2.2 false (by omega) h7 p hp
theorem cutP_pcs (at_ : Int) (data : List Int) : ∀ p ∈ (cutP at_ (data.length : Int)).1, PcOk data p := by
  unfold cutP
  split
  · intro p hp; simp at hp
  · cases hs : cutS 4 at_ (data.length : Int) 0 with
    | none => intro p hp; simp [cutR] at hp
    | some q =>
      simp only [cutR, List.nil_append]
      exact chain_ok _ data (Int.le_refl _) q.1 0 _ (Int.le_refl _) (cutS_chain (by omega) hs)
/-- the bytes of a piece's fragment -/
def pcE (ep : Int) (data : List Int) (p : Pc) : List Int := encL p.f1 ep ((data.take p.f3.toNat).drop p.f2.toNat)
theorem pcE_len {ep : Int} {data : List Int} {p : Pc} (h : PcOk data p) : (pcE ep data p).length = 11 + (p.f3 - p.f2).toNat := by
  obtain ⟨h1, h2, h3, h4, h5, h6, h7, h8⟩ := h
  unfold pcE
  rw [encL_len, List.length_drop, List.length_take]
  omega
/-- a piece laid into the body -/
def layP (ep : Int) (data : List Int) (cur : List Int) (p : Pc) : List Int := splice cur p.f0.toNat (pcE ep data p)
def layA (ep : Int) (data : List Int) (ps : List Pc) (cur : List Int) : List Int := ps.foldl (layP ep data) cur
theorem layP_len {ep : Int} {data cur : List Int} {p : Pc} (h : PcOk data p) (hc : cur.length = 832) : (layP ep data cur p).length = 832 := by
  have hl := pcE_len (ep := ep) h
  obtain ⟨h1, h2, h3, h4, h5, h6, h7, h8⟩ := h
  unfold layP splice
  simp [hl]
  omega
theorem layA_len {ep : Int} {data : List Int} : ∀ (ps : List Pc) (cur : List Int), (∀ p ∈ ps, PcOk data p) → cur.length = 832 → (layA ep data ps cur).length = 832 := by
  intro ps
  induction ps with
  | nil => intro cur _ hc; exact hc
  | cons p ps ih => intro cur hp hc; exact ih _ (fun q hq => hp q (List.mem_cons_of_mem _ hq)) (layP_len (hp p (List.mem_cons_self ..)) hc)
theorem layA_take {ep : Int} {data : List Int} (ps : List Pc) (cur : List Int) (i : Nat) (h : i < ps.length) : layA ep data (ps.take (i + 1)) cur = layP ep data (layA ep data (ps.take i) cur) ps[i] := by
  unfold layA
  rw [List.take_add_one, List.foldl_append, List.getElem?_eq_getElem h]
  rfl
theorem bytes_splice {cur ys : List Int} (o : Nat) (hc : Bytes cur) (hy : Bytes ys) : Bytes (splice cur o ys) := bytes_append (bytes_take hc _) (bytes_append hy (bytes_drop hc _))
theorem layA_bytes {ep : Int} {data : List Int} (hd : Bytes data) : ∀ (ps : List Pc) (cur : List Int), (∀ p ∈ ps, PcOk data p) → Bytes cur → Bytes (layA ep data ps cur) := by
  intro ps
  induction ps with
  | nil => intro cur _ hc; exact hc
  | cons p ps ih =>
    intro cur hp hc
    have h := hp p (List.mem_cons_self ..)
    exact ih _ (fun q hq => hp q (List.mem_cons_of_mem _ hq)) (bytes_splice _ hc (encL_bytes (by have := h.2.2.1; omega) (bytes_drop (bytes_take hd _) _)))
/-- a body of 832 bytes out of any bytes -/
def base (b : List Int) : List Int := b.take 832 ++ zs (832 - b.length)
theorem base_len (b : List Int) : (base b).length = 832 := by
  unfold base zs
  rw [List.length_append, List.length_take, List.length_replicate]
  omega
theorem base_bytes {b : List Int} (h : Bytes b) : Bytes (base b) := bytes_append (bytes_take h _) (bytes_zs _)
/-- What image.Add answers: body, end, whether it fits. -/
def addB (e64 : Int) (body : List Int) (at_ : Int) (data : List Int) : List Int := layA (e64 % 4294967296) data (cutP at_ (data.length : Int)).1 (base body)
theorem addB_len (e64 : Int) (body : List Int) (at_ : Int) (data : List Int) : (addB e64 body at_ data).length = 832 := layA_len _ _ (cutP_pcs at_ data) (base_len body)
theorem addB_bytes (e64 : Int) {body : List Int} (at_ : Int) {data : List Int} (hb : Bytes body) (hd : Bytes data) : Bytes (addB e64 body at_ data) := layA_bytes hd _ _ (cutP_pcs at_ data) (base_bytes hb)
theorem base_copy (b : List Int) : splice (zs 832) 0 (b.take (min b.length 832)) = base b := by
  unfold splice base zs
  have hl : (b.take (min b.length 832)).length = min b.length 832 := by rw [List.length_take]; omega
  rw [List.take_zero, List.nil_append, Nat.zero_add, hl, List.drop_replicate]
  congr 1
  · by_cases h : b.length ≤ 832
    · rw [Nat.min_eq_left h, List.take_of_length_le (Nat.le_refl _), List.take_of_length_le h]
    · rw [Nat.min_eq_right (by omega)]
  · congr 1
    omega
end Go.Proofs.YthhbilkmdfdfiaaDoor.Img
end

section
/- append onto a full slice that is no row of one's own; nothing appended; what is restarted. -/
namespace Go.Proofs.YthhbilkmdfdfiaaDoor.O
open Go.RowKit Go.Proofs.YthhbilkmdfdfiaaDoorW.PrintWords Go.Proofs.YthhbilkmdfdfiaaDoorW.PrintLast Go.Proofs.YthhbilkmdfdfiaaDoorW.PrintMore Go.Proofs.YthhbilkmdfdfiaaDoor.F
set_option linter.unusedVariables false
set_option linter.unusedSimpArgs false
section
variable {P : Program} {o : Oper} {a : Act} {K : Act → World → Prop} {Q : Exit → Act → World → Prop} {w0 W : World} {F : Nat → Option Obj} {L : List Res} {c : Res → List Res} {ops : Array Oper} {rest : List Oper}
/-- onto a full slice: a new row -/
theorem w_appendFull (H : Own w0 F L W) (s x : Operand) (t e : TypeId) (ho : o.op = .call { callee := .builtin .append, args := #[s, x], argTypes := #[t, t] }) (ht : P.underlying t = some (.slice e)) (z : Value) (size bytes : Nat)
    (hinfo : (P.info? e).map (fun i => (i.zero, i.size, i.bytes)) = some (some z, size, bytes)) (hz : z.cells.size = size) (hs0 : 0 < size) (hb0 : 0 < bytes) (b : Addr) (n : Nat) (olds : List Value) (hs : a.eval s = .slice (some b) n n) (hlo : olds.length = n * size) (holds : ∀ j u, olds[j]? = some u → W.cell? (b.add j) = some u)
    (A : Option Addr) (m cc : Nat) (news : List Value) (hx : a.eval x = .slice A m cc) (hm : 0 < m) (hl : news.length = m * size) (hR : Rd W A news) (hbytes : (n + m) * bytes ≤ 140737488355328)
    (h : ∀ v' W', Own w0 F (.row v' e size (n + m) (olds ++ news) :: L) W' → K (a.put o.dst v') W') : o.wp P a W K Q := by
  obtain ⟨i, hi, hzz⟩ := Option.map_eq_some_iff.1 hinfo
  simp only [Prod.mk.injEq] at hzz
  obtain ⟨hz0, hz1, hz2⟩ := hzz
  have hlen : n + m ≤ 140737488355328 := Nat.le_trans (Nat.le_mul_of_pos_right _ hb0) hbytes
  obtain ⟨ad, rfl, hc⟩ := hR (by rw [hl]; exact Nat.mul_pos hm hs0)
  obtain ⟨v1, w1, hrun, h2, hg⟩ := run_append_arg_grows (P := P) W t o.type e i z size bytes ht hi hz0 hz1 hz2 hz hs0 b n n olds hlo holds ad m cc news hl (fun j u hj => hc j u hj) (by omega) (by simp only [maxLen]; omega) hbytes
  unfold Oper.wp execOp
  simp only [ho, resolve, invoke, builtin, Sem.run_bind, Sem.run_pure, Result.andThen_ok, List.map_toArray, List.map_cons, List.map_nil, hs, hx, hrun]
  exact h _ _ (H.cons ⟨hg.os, hg.tape, hg.output, hg.size, fun k hk => hg.block k hk (by simp)⟩ (own_weaken h2 H.size) (fun k hk => own_base h2 k hk))
/-- nothing is appended: the slice as it was -/
theorem w_append0 (s x : Operand) (t e : TypeId) (ho : o.op = .call { callee := .builtin .append, args := #[s, x], argTypes := #[t, t] }) (ht : P.underlying t = some (.slice e)) (hinfo : ((P.info? e).map (·.size)).isSome = true) (b : Addr) (n cap : Nat) (hnc : n ≤ cap) (hs : a.eval s = .slice (some b) n cap) (A : Option Addr) (cc : Nat) (hx : a.eval x = .slice A 0 cc)
    (h : K (a.put o.dst (.slice (some b) n cap)) W) : o.wp P a W K Q := by
  obtain ⟨q, hq⟩ := Option.isSome_iff_exists.1 hinfo
  obtain ⟨i, hi, hq2⟩ := Option.map_eq_some_iff.1 hq
  have hrun : (Builtin.append_ #[t, t] o.type #[.slice (some b) n cap, .slice A 0 cc]).run P W = .ok (.slice (some b) n cap) W := by
    cases A <;> simp [Builtin.append_, run_underlying ht, sizeOf, typeInfo, hi, Builtin.lenOf, Builtin.firstCells, hnc, storeCells, loadCells, loadCellsFrom]
  unfold Oper.wp execOp
  simp only [ho, resolve, invoke, builtin, Sem.run_bind, Sem.run_pure, Result.andThen_ok, List.map_toArray, List.map_cons, List.map_nil, hs, hx, hrun]
  exact h
theorem In.to {L : List Res} {r : Res} {c : Res → List Res} (h : In L r c) (r' : Res) : In (c r') r' c := by
  induction h with
  | head => exact .head
  | tail h ih => exact .tail ih
theorem splice_take {α : Type} (cur ys : List α) (n : Nat) (h : ys.length ≤ n) (hn : n ≤ cur.length) : (splice cur 0 ys).take n = splice (cur.take n) 0 ys := by
  unfold splice
  simp only [List.take_zero, List.nil_append, Nat.zero_add]
  rw [List.take_append, List.drop_take, List.take_of_length_le h]
/-- copy into the beginning of a row of one's own -/
theorem w_copyRow (H : Own w0 F L W) (d s : Operand) (dT sT : TypeId) (ho : o.op = .call { callee := .builtin .copy, args := #[d, s], argTypes := #[dT, sT] }) (elem : TypeId) (hu : P.underlying dT = some (.slice elem)) (hsz : (P.info? elem).map (·.size) = some 1)
    (A0 : Option Addr) (dLen dCap n cap e : Nat) (hd : a.eval d = .slice A0 dLen dCap) {xs : List Int} (hI : In L (.row (.slice A0 n cap) e 1 n (nums .u8 xs)) c) (h0 : 0 < n) (A : Option Addr) (sLen sCap : Nat) (hs : a.eval s = .slice A sLen sCap) (ys : List Int) (hy : (Kd.int .u8).C W A sLen ys) (hfit : min sLen dLen ≤ n)
    (h : ∀ W', Own w0 F (c (.row (.slice A0 n cap) e 1 n (nums .u8 (splice xs 0 (ys.take (min sLen dLen)))))) W' → K (a.put o.dst (goInt (min sLen dLen : Nat))) W') : o.wp P a W K Q := by
  obtain ⟨g, cap', cur, e1, hnc, hm, hl, ht, H1⟩ := H.row_blk hI h0
  injection e1 with e1 e2 e3
  subst e1 e3
  have hyl : ys.length = sLen := hy.1
  refine w_copy H1 d s dT sT ho elem hu hsz g 0 dLen dCap hd (hI.to _) A sLen sCap hs (nums .u8 (ys.take (min sLen dLen))) (by rw [nums_length, List.length_take]; omega) ?_ ?_ (by omega) ?_
  · intro hp
    obtain ⟨ad, e, hc⟩ := (Rd.of_C hy) (by rw [nums_length]; omega)
    refine ⟨ad, e, fun j u hj => hc j u ?_⟩
    rw [← nums_take] at hj
    have := (List.getElem?_eq_some_iff.1 hj).1
    rw [List.length_take] at this
    rwa [List.getElem?_take_of_lt (by omega)] at hj
  · exact nums_one
  · intro W' H'
    refine h W' ?_
    refine H'.blk_row (hI.to _) hnc hm ?_ ?_
    · rw [← hl]
      have : ∀ (l : List Value) (ys : List Value), ys.length ≤ l.length → (splice l 0 ys).length = l.length := fun l ys h => by unfold splice; simp; omega
      exact this _ _ (by rw [nums_length, List.length_take]; omega)
    · rw [splice_take _ _ _ (by rw [nums_length, List.length_take]; omega) (by omega), ht]
      simp [splice, nums, List.map_take, List.map_drop]
end
section
variable {P : Program} {o : Oper} {a : Act}
end
section
variable {P : Program} {o : Oper} {a : Act} {K : Act → World → Prop} {Q : Exit → Act → World → Prop} {w0 W : World} {F : Nat → Option Obj} {L : List Res} {c : Res → List Res} {ops : Array Oper} {rest : List Oper}
/-- a slice literal -/
theorem w_buildN (H : Own w0 F L W) (t e : TypeId) (n : Nat) (parts : Array (Nat × Operand)) (ho : o.op = .buildSlice t n parts) (ht : P.underlying t = some (.slice e)) (z : Value) (size : Nat)
    (hinfo : (P.info? e).map (fun i => (i.zero, i.size)) = some (some z, size)) (hs0 : 0 < size) (hn0 : 0 < n) (hsm : n * size ≤ 16777216) (vs : List Value) (hp : parts.toList.map (fun p => (p.1, a.eval p.2)) = (vs.zipIdx 0).map fun x => (x.2, x.1)) (hl : vs.length = n) (hv : ∀ v ∈ vs, v.cells.size = size)
    (cs : List Value) (hc : (vs.flatMap fun v => v.cells.toList) = cs)
    (h : ∀ g W', Own w0 F (.blk g e cs :: L) W' → K (a.put o.dst (.slice (some ⟨g, 0, none⟩) n n)) W') : o.wp P a W K Q := by
  obtain ⟨i, hi, hzz⟩ := Option.map_eq_some_iff.1 hinfo
  simp only [Prod.mk.injEq] at hzz
  obtain ⟨hz0, hsz⟩ := hzz
  subst hsz hc
  have hpos : 0 < n * i.size := Nat.mul_pos hn0 hs0
  refine wp_buildSlice t e n parts ho (vs.flatMap fun v => v.cells.toList).toArray i z ht hi hz0 (by omega) (by omega) ?_ (h _ _ (H.alloc e _))
  have hp' : (parts.map fun (i, x) => (i, a.eval x)).toList = (vs.zipIdx 0).map fun x => (x.2, x.1) := by
    rw [Array.toList_map]
    exact hp
  rw [hp']
  exact Great.fill_whole hs0 vs _ hv (by rw [hl]; simp)
end
end Go.Proofs.YthhbilkmdfdfiaaDoor.O
end

section
/- word and crc by what is owned; reading of slices. -/
set_option linter.unusedVariables false
set_option linter.unusedSimpArgs false
namespace Go.Proofs.YthhbilkmdfdfiaaDoor.O
open Go.RowKit Go.Proofs.YthhbilkmdfdfiaaDoorW.PrintWords Go.Proofs.YthhbilkmdfdfiaaDoorW.PrintLast Go.Proofs.YthhbilkmdfdfiaaDoorW.PrintMore Go.Proofs.YthhbilkmdfdfiaaDoor.F Go.Proofs.YthhbilkmdfdfiaaDoor.F.Nums Go.Proofs.YthhbilkmdfdfiaaDoor.Plain
theorem put_own {w0 W : World} {F : Nat → Option Obj} {L : List Res} (H : Own w0 F L W) (n : Nat) (hn : n < 18446744073709551616) (wi : Int) (i : Nat) (hw : wi = (i : Int)) (hi : i ≤ 8) :
    Calls Tryd.prog 60 #[.int .u64 (n : Int), .int .i64 wi] W fun e W' => ∃ A c, e = .returned (.slice A i c) ∧ i ≤ c ∧ (Kd.int .u8).C W' A i (putl n i) ∧ Own w0 F L W' := by
  subst hw
  have hc : (cl8 (i : Int)).toNat = i := by unfold cl8; split <;> (try split) <;> omega
  have he := put_eq 9 (by decide) n hn (i : Int)
  rw [hc] at he
  refine (word_Put.calls 9 n (i : Int) _ W he).mono ?_
  rintro e W' ⟨v, rfl, hR, hb⟩
  obtain ⟨A, c, rfl, hl, hC⟩ := Kd.R_reads hR
  rw [putl_len] at hl hC ⊢
  exact ⟨A, c, rfl, hl, hC, H.to hb⟩
theorem of_own {w0 W : World} {F : Nat → Option Obj} {L : List Res} (H : Own w0 F L W) (hH : Half w0) (A : Option Addr) (n c : Nat) (xs : List Int) (hC : (Kd.int .u8).C W A n xs) (hc : n ≤ c) (hb : Bytes xs) :
    Calls Tryd.prog 16 #[.slice A n c] W fun e W' => e = .returned (.int .u32 (moreI 0 xs)) ∧ Own w0 F L W' := by
  have hn : xs.length = n := hC.1
  subst hn
  refine (of_calls A c xs W hC hc hb (hH.below H.below)).mono ?_
  rintro e W' ⟨rfl, hd⟩
  exact ⟨rfl, H.to hd.below⟩
theorem mask_own {w0 W : World} {F : Nat → Option Obj} {L : List Res} (H : Own w0 F L W) (xs : List Int) :
    Calls Tryd.prog 20 #[.int .u32 (moreI 0 xs)] W fun e W' => e = .returned (.int .u32 (sumN xs : Int)) ∧ Own w0 F L W' := by
  refine (crc_Mask.calls (moreI 0 xs) _ W (crc_sum xs)).mono ?_
  rintro e W' ⟨rfl, hd⟩
  exact ⟨rfl, H.to hd.below⟩
theorem drop_C {w : World} {A : Option Addr} {n : Nat} {xs : List Int} (h : (Kd.int .u8).C w A n xs) (lo c : Nat) (h1 : lo ≤ n) (hc : n ≤ c) : (Kd.int .u8).C w (dropA A lo c 1) (n - lo) (xs.drop lo) := by
  have hl := h.1
  have hm := h.2.1
  have hR := (Rd.of_C h).dropA lo c 1 (fun e => by rw [nums_length]; omega)
  rw [Nat.mul_one, nums_drop] at hR
  exact hR.C (by rw [List.length_drop]; omega) (by omega)
theorem r_loadRd0 {P : Program} {o : Oper} {a : Act} {W : World} {p : Addr} {cs : List Value} (ty : TypeId) (x : Operand) (ho : o.op = .load ty x) (hx : a.eval x = .pointer (some p)) (hR : Rd W (some p) cs)
    (n : Nat) (d : TypeDesc) (hu : P.underlying ty = some d) (hd : d.isRow = true) (hi : (P.info? ty).map (·.size) = some n) (hn : 0 < n) (hl : cs.length = n) :
    (execOp a.eval o).run P W = .ok (.value (.agg cs.toArray)) W := by
  have h := r_loadRd (P := P) (o := o) (a := a) ty x ho 0 (ad := p) (cs := cs) (by rw [hx]; congr 2) hR n d hu hd hi hn (by omega)
  rwa [List.drop_zero, List.take_of_length_le (by omega)] at h
end Go.Proofs.YthhbilkmdfdfiaaDoor.O
end

section
/- Functions of frag: what each answers, as a Lean function, and that the call answers just this. Turned out of what the kit's print told for this seat. -/
namespace Go.Proofs.YthhbilkmdfdfiaaDoor.F
open Go.RowKit Go.Proofs.YthhbilkmdfdfiaaDoorW.PrintWords Go.Proofs.YthhbilkmdfdfiaaDoorW.PrintLast Go.Proofs.YthhbilkmdfdfiaaDoorW.PrintMore
attribute [local go_sem high] eqA120
attribute [local go_sem] field120_0
attribute [local go_sem] field120_1
attribute [local go_sem] max2_int min2_int max_two min_two max_three min_three max_four min_four
set_option linter.unusedVariables false
set_option linter.unusedSimpArgs false

/-! ### frag_right: function 58 -/
def frag_right.f (a0_0 : Int) (a0_1 : Int) (l0_2 : List Int) : Option (Bool) := if a0_0 ≥ 1 then (if a0_0 ≤ 4 then (some (decide ((l0_2.length : Int) ≤ 197))) else (some false)) else (some false)
set_option maxHeartbeats 8000000 in
set_option maxRecDepth 100000 in
theorem frag_right.calls (a0_0 : Int) (a0_1 : Int) (A0_2 : Option Addr) (c0_2 : Nat) (l0_2 : List Int) (r : Bool) (w : World) (hr0_2 : Kd.C (Kd.int .u8) w A0_2 l0_2.length l0_2) (hc0_2 : l0_2.length ≤ c0_2) (h : frag_right.f a0_0 a0_1 l0_2 = some r) :
    Calls Tryd.prog 58 #[.agg #[.int .i64 a0_0, .int .u32 a0_1, .slice A0_2 l0_2.length c0_2]] w fun e w' => e = .returned (.bool r) ∧ Below w.heap.size w w' := by
  have hu99 := Tryd.underlying99
  have hu120 := Tryd.underlying120
  have hu37 := Tryd.underlying37
  have HR0_2 := Aside0.mk hr0_2
  have HC0_2 := Aside0.mk hc0_2
  clear hr0_2 hc0_2
  have HB := Aside0.mk (Below.refl w.heap.size w)
  have H : (if a0_0 ≥ 1 then (if a0_0 ≤ 4 then (some (decide ((l0_2.length : Int) ≤ 197))) else (some false)) else (some false)) = some r := h
  clear h
  by_cases c2 : a0_0 ≥ 1
  · rw [if_pos c2] at H
    have c2b0 : decide (1 ≤ a0_0) = true := decide_eq_true c2
    clear c2
    by_cases c3 : a0_0 ≤ 4
    · rw [if_pos c3] at H
      have c3b0 : decide (a0_0 ≤ 4) = true := decide_eq_true c3
      clear c3
      obtain rfl := Option.some.inj H
      go_enter Tryd.func58, Tryd.ntmps58
      go_wp2_with (first | ((with_reducible refine gate_dst (N := 1) rfl ?_); (try (refine gate_guard (by rfl) ?_; dsimp only)); refine box_event ?hg (N := 1) ?hd (cs := #[.int .i64 a0_0, .int .u32 a0_1, .slice A0_2 l0_2.length c0_2]) (t := 37) ?hr ?_; (case hd => rfl); (case hg => rfl); (case hr => first | (go_simp; done) | (go_simp; rfl)); intro gb102 hg w4 hbox hb; have n0_ := Aside0.mk (below_step (by repeat (first | (with_reducible first | exact HB.out | apply below_alloc | apply pw_below_drewN | apply below_drew1) | exact HB.out)) hb); have n1_ := Aside0.mk (hbox); have n2_ := Aside0.mk ((by rw [hg]; exact (below_size (by repeat (first | (with_reducible first | exact HB.out | apply below_alloc | apply pw_below_drewN | apply below_drew1) | exact HB.out))) : w.heap.size ≤ gb102)); have n3_ := Aside0.mk ((by rw [hg]; exact (below_size (by repeat (first | (with_reducible first | exact HB.out | apply below_alloc | apply pw_below_drewN | apply below_drew1) | exact HB.out))) : w.heap.size ≤ gb102)); clear HB; have HB := n0_; have BK102 := n1_; have GW102 := n2_; have GE102 := n3_; clear n0_ n1_ n2_ n3_; clear hb hbox hg; have hcz5_0 : w4.cell? ⟨gb102, 0, none⟩ = some (.int .i64 a0_0) := (blk_cell BK102.out 0).trans rfl; have hcz5_1 : w4.cell? ⟨gb102, 1, none⟩ = some (.int .u32 a0_1) := (blk_cell BK102.out 1).trans rfl; have hcz5_2 : w4.cell? ⟨gb102, 2, none⟩ = some (.slice A0_2 l0_2.length c0_2) := (blk_cell BK102.out 2).trans rfl; have hfz5_0 := blk_frozen BK102.out 0; have hfz5_1 := blk_frozen BK102.out 1; have hfz5_2 := blk_frozen BK102.out 2))
      go_ret
      exact ⟨by first | rfl | (simp [errW_none, errW_some] <;> rfl) | (simp [*, errW_none, errW_some] <;> rfl), by repeat (first | (with_reducible first | exact HB.out | apply below_alloc | apply pw_below_drewN | apply below_drew1 | refine below_set ?_ GE102.out) | exact HB.out)⟩
    · rw [if_neg c3] at H
      have c3b0 : decide (a0_0 ≤ 4) = false := decide_eq_false c3
      clear c3
      obtain rfl := Option.some.inj H
      go_enter Tryd.func58, Tryd.ntmps58
      go_wp2_with (first | ((with_reducible refine gate_dst (N := 1) rfl ?_); (try (refine gate_guard (by rfl) ?_; dsimp only)); refine box_event ?hg (N := 1) ?hd (cs := #[.int .i64 a0_0, .int .u32 a0_1, .slice A0_2 l0_2.length c0_2]) (t := 37) ?hr ?_; (case hd => rfl); (case hg => rfl); (case hr => first | (go_simp; done) | (go_simp; rfl)); intro gb102 hg w6 hbox hb; have n0_ := Aside0.mk (below_step (by repeat (first | (with_reducible first | exact HB.out | apply below_alloc | apply pw_below_drewN | apply below_drew1) | exact HB.out)) hb); have n1_ := Aside0.mk (hbox); have n2_ := Aside0.mk ((by rw [hg]; exact (below_size (by repeat (first | (with_reducible first | exact HB.out | apply below_alloc | apply pw_below_drewN | apply below_drew1) | exact HB.out))) : w.heap.size ≤ gb102)); have n3_ := Aside0.mk ((by rw [hg]; exact (below_size (by repeat (first | (with_reducible first | exact HB.out | apply below_alloc | apply pw_below_drewN | apply below_drew1) | exact HB.out))) : w.heap.size ≤ gb102)); clear HB; have HB := n0_; have BK102 := n1_; have GW102 := n2_; have GE102 := n3_; clear n0_ n1_ n2_ n3_; clear hb hbox hg; have hcz7_0 : w6.cell? ⟨gb102, 0, none⟩ = some (.int .i64 a0_0) := (blk_cell BK102.out 0).trans rfl; have hcz7_1 : w6.cell? ⟨gb102, 1, none⟩ = some (.int .u32 a0_1) := (blk_cell BK102.out 1).trans rfl; have hcz7_2 : w6.cell? ⟨gb102, 2, none⟩ = some (.slice A0_2 l0_2.length c0_2) := (blk_cell BK102.out 2).trans rfl; have hfz7_0 := blk_frozen BK102.out 0; have hfz7_1 := blk_frozen BK102.out 1; have hfz7_2 := blk_frozen BK102.out 2))
      go_ret
      exact ⟨by first | rfl | (simp [errW_none, errW_some] <;> rfl) | (simp [*, errW_none, errW_some] <;> rfl), by repeat (first | (with_reducible first | exact HB.out | apply below_alloc | apply pw_below_drewN | apply below_drew1 | refine below_set ?_ GE102.out) | exact HB.out)⟩
  · rw [if_neg c2] at H
    have c2b0 : decide (1 ≤ a0_0) = false := decide_eq_false c2
    clear c2
    obtain rfl := Option.some.inj H
    go_enter Tryd.func58, Tryd.ntmps58
    go_wp2_with (first | ((with_reducible refine gate_dst (N := 1) rfl ?_); (try (refine gate_guard (by rfl) ?_; dsimp only)); refine box_event ?hg (N := 1) ?hd (cs := #[.int .i64 a0_0, .int .u32 a0_1, .slice A0_2 l0_2.length c0_2]) (t := 37) ?hr ?_; (case hd => rfl); (case hg => rfl); (case hr => first | (go_simp; done) | (go_simp; rfl)); intro gb102 hg w8 hbox hb; have n0_ := Aside0.mk (below_step (by repeat (first | (with_reducible first | exact HB.out | apply below_alloc | apply pw_below_drewN | apply below_drew1) | exact HB.out)) hb); have n1_ := Aside0.mk (hbox); have n2_ := Aside0.mk ((by rw [hg]; exact (below_size (by repeat (first | (with_reducible first | exact HB.out | apply below_alloc | apply pw_below_drewN | apply below_drew1) | exact HB.out))) : w.heap.size ≤ gb102)); have n3_ := Aside0.mk ((by rw [hg]; exact (below_size (by repeat (first | (with_reducible first | exact HB.out | apply below_alloc | apply pw_below_drewN | apply below_drew1) | exact HB.out))) : w.heap.size ≤ gb102)); clear HB; have HB := n0_; have BK102 := n1_; have GW102 := n2_; have GE102 := n3_; clear n0_ n1_ n2_ n3_; clear hb hbox hg; have hcz9_0 : w8.cell? ⟨gb102, 0, none⟩ = some (.int .i64 a0_0) := (blk_cell BK102.out 0).trans rfl; have hcz9_1 : w8.cell? ⟨gb102, 1, none⟩ = some (.int .u32 a0_1) := (blk_cell BK102.out 1).trans rfl; have hcz9_2 : w8.cell? ⟨gb102, 2, none⟩ = some (.slice A0_2 l0_2.length c0_2) := (blk_cell BK102.out 2).trans rfl; have hfz9_0 := blk_frozen BK102.out 0; have hfz9_1 := blk_frozen BK102.out 1; have hfz9_2 := blk_frozen BK102.out 2))
    go_ret
    exact ⟨by first | rfl | (simp [errW_none, errW_some] <;> rfl) | (simp [*, errW_none, errW_some] <;> rfl), by repeat (first | (with_reducible first | exact HB.out | apply below_alloc | apply pw_below_drewN | apply below_drew1 | refine below_set ?_ GE102.out) | exact HB.out)⟩

-- NOT PRINTED: function 26 (frag_Decode)

/-! ### frag_Same: function 33 -/
def frag_Same.f (a0_0 : Int) (a0_1 : Int) (l0_2 : List Int) (a1_0 : Int) (a1_1 : Int) (l1_2 : List Int) : Option (Bool) := if a0_0 = a1_0 then (if a0_1 = a1_1 then (some ((strOfNums l0_2).toList == (strOfNums l1_2).toList)) else (some false)) else (some false)
set_option maxHeartbeats 8000000 in
set_option maxRecDepth 100000 in
theorem frag_Same.calls (a0_0 : Int) (a0_1 : Int) (A0_2 : Option Addr) (c0_2 : Nat) (l0_2 : List Int) (a1_0 : Int) (a1_1 : Int) (A1_2 : Option Addr) (c1_2 : Nat) (l1_2 : List Int) (r : Bool) (w : World) (hr0_2 : Kd.C (Kd.int .u8) w A0_2 l0_2.length l0_2) (hc0_2 : l0_2.length ≤ c0_2) (hr1_2 : Kd.C (Kd.int .u8) w A1_2 l1_2.length l1_2) (hc1_2 : l1_2.length ≤ c1_2) (h : frag_Same.f a0_0 a0_1 l0_2 a1_0 a1_1 l1_2 = some r) :
    Calls Tryd.prog 33 #[.agg #[.int .i64 a0_0, .int .u32 a0_1, .slice A0_2 l0_2.length c0_2], .agg #[.int .i64 a1_0, .int .u32 a1_1, .slice A1_2 l1_2.length c1_2]] w fun e w' => e = .returned (.bool r) ∧ Below w.heap.size w w' := by
  have hu99 := Tryd.underlying99
  have hu120 := Tryd.underlying120
  have hu37 := Tryd.underlying37
  have HR0_2 := Aside0.mk hr0_2
  have HC0_2 := Aside0.mk hc0_2
  clear hr0_2 hc0_2
  have HR1_2 := Aside0.mk hr1_2
  have HC1_2 := Aside0.mk hc1_2
  clear hr1_2 hc1_2
  have HB := Aside0.mk (Below.refl w.heap.size w)
  have H : (if a0_0 = a1_0 then (if a0_1 = a1_1 then (some ((strOfNums l0_2).toList == (strOfNums l1_2).toList)) else (some false)) else (some false)) = some r := h
  clear h
  by_cases c3 : a0_0 = a1_0
  · rw [if_pos c3] at H
    have c3b0 : (a0_0 == a1_0) = true := beq_iff_eq.mpr c3
    have c3b1 : (a0_0 != a1_0) = false := bne_eq_false_iff_eq.mpr c3
    clear c3
    by_cases c4 : a0_1 = a1_1
    · rw [if_pos c4] at H
      have c4b0 : (a0_1 == a1_1) = true := beq_iff_eq.mpr c4
      have c4b1 : (a0_1 != a1_1) = false := bne_eq_false_iff_eq.mpr c4
      clear c4
      obtain rfl := Option.some.inj H
      go_enter Tryd.func33, Tryd.ntmps33
      go_wp2_with (first | ((with_reducible refine gate_dst (N := 2) rfl ?_); refine box_event ?hg (N := 2) ?hd (cs := #[.int .i64 a0_0, .int .u32 a0_1, .slice A0_2 l0_2.length c0_2]) (t := 37) ?hr ?_; (case hd => rfl); (case hg => rfl); (case hr => first | (go_simp; done) | (go_simp; rfl)); intro gb147 hg w5 hbox hb; have n0_ := Aside0.mk (below_step (by repeat (first | (with_reducible first | exact HB.out | apply below_alloc | apply pw_below_drewN | apply below_drew1) | exact HB.out)) hb); have n1_ := Aside0.mk (hbox); have n2_ := Aside0.mk ((by rw [hg]; exact (below_size (by repeat (first | (with_reducible first | exact HB.out | apply below_alloc | apply pw_below_drewN | apply below_drew1) | exact HB.out))) : w.heap.size ≤ gb147)); have n3_ := Aside0.mk ((by rw [hg]; exact (below_size (by repeat (first | (with_reducible first | exact HB.out | apply below_alloc | apply pw_below_drewN | apply below_drew1) | exact HB.out))) : w.heap.size ≤ gb147)); clear HB; have HB := n0_; have BK147 := n1_; have GW147 := n2_; have GE147 := n3_; clear n0_ n1_ n2_ n3_; clear hb hbox hg) | ((with_reducible refine gate_dst (N := 3) rfl ?_); refine box_event ?hg (N := 3) ?hd (cs := #[.int .i64 a1_0, .int .u32 a1_1, .slice A1_2 l1_2.length c1_2]) (t := 37) ?hr ?_; (case hd => rfl); (case hg => rfl); (case hr => first | (go_simp; done) | (go_simp; rfl)); intro gb148 hg w6 hbox hb; have n0_ := Aside0.mk (blk_below (g := gb147) (o := .cells #[.int .i64 a0_0, .int .u32 a0_1, .slice A0_2 l0_2.length c0_2] 37 (0, 0)) (by (with_reducible repeat (first | refine blk_drewN ?_ _ | refine blk_drew ?_ | refine blk_alloc ?_ _)); exact BK147.out) hb); have n1_ := Aside0.mk (below_step (by repeat (first | (with_reducible first | exact HB.out | apply below_alloc | apply pw_below_drewN | apply below_drew1 | refine below_set ?_ GE147.out) | exact HB.out)) hb); have n2_ := Aside0.mk (hbox); have n3_ := Aside0.mk ((by rw [hg]; exact (below_size (by repeat (first | (with_reducible first | exact HB.out | apply below_alloc | apply pw_below_drewN | apply below_drew1 | refine below_set ?_ GE147.out) | exact HB.out))) : w.heap.size ≤ gb148)); have n4_ := Aside0.mk ((by rw [hg]; exact (below_size (by repeat (first | (with_reducible first | exact HB.out | apply below_alloc | apply pw_below_drewN | apply below_drew1 | refine below_set ?_ GE147.out) | exact HB.out))) : w.heap.size ≤ gb148)); have n5_ := Aside0.mk ((by rw [hg]; exact Nat.ne_of_lt (blk_lt (g := gb147) (o := .cells #[.int .i64 a0_0, .int .u32 a0_1, .slice A0_2 l0_2.length c0_2] 37 (0, 0)) (by (with_reducible repeat (first | refine blk_drewN ?_ _ | refine blk_drew ?_ | refine blk_alloc ?_ _)); exact BK147.out)) : gb147 ≠ gb148)); have n6_ := Aside0.mk ((by rw [hg]; exact Nat.ne_of_gt (blk_lt (g := gb147) (o := .cells #[.int .i64 a0_0, .int .u32 a0_1, .slice A0_2 l0_2.length c0_2] 37 (0, 0)) (by (with_reducible repeat (first | refine blk_drewN ?_ _ | refine blk_drew ?_ | refine blk_alloc ?_ _)); exact BK147.out)) : gb148 ≠ gb147)); clear BK147; clear HB; have BK147 := n0_; have HB := n1_; have BK148 := n2_; have GW148 := n3_; have GE148 := n4_; have NB147_148 := n5_; have NB148_147 := n6_; clear n0_ n1_ n2_ n3_ n4_ n5_ n6_; clear hb hbox hg; have hnb7 := NB147_148.out; have hnc7 := NB148_147.out; have hcz8_0 : w6.cell? ⟨gb147, 0, none⟩ = some (.int .i64 a0_0) := (blk_cell BK147.out 0).trans rfl; have hcz8_1 : w6.cell? ⟨gb147, 1, none⟩ = some (.int .u32 a0_1) := (blk_cell BK147.out 1).trans rfl; have hcz8_2 : w6.cell? ⟨gb147, 2, none⟩ = some (.slice A0_2 l0_2.length c0_2) := (blk_cell BK147.out 2).trans rfl; have hfz8_0 := blk_frozen BK147.out 0; have hfz8_1 := blk_frozen BK147.out 1; have hfz8_2 := blk_frozen BK147.out 2; have hcz9_0 : w6.cell? ⟨gb148, 0, none⟩ = some (.int .i64 a1_0) := (blk_cell BK148.out 0).trans rfl; have hcz9_1 : w6.cell? ⟨gb148, 1, none⟩ = some (.int .u32 a1_1) := (blk_cell BK148.out 1).trans rfl; have hcz9_2 : w6.cell? ⟨gb148, 2, none⟩ = some (.slice A1_2 l1_2.length c1_2) := (blk_cell BK148.out 2).trans rfl; have hfz9_0 := blk_frozen BK148.out 0; have hfz9_1 := blk_frozen BK148.out 1; have hfz9_2 := blk_frozen BK148.out 2; have hcv10 := Kd.C_string (P := Tryd.prog) (A := A0_2) (c := c0_2) Tryd.underlying23 Tryd.underlying5 Tryd.underlying9 (Kd.C_below HR0_2.out HB.out); have hcv11 := Kd.C_string (P := Tryd.prog) (A := A1_2) (c := c1_2) Tryd.underlying23 Tryd.underlying5 Tryd.underlying9 (Kd.C_below HR1_2.out HB.out)))
      go_ret
      exact ⟨by first | rfl | (simp [errW_none, errW_some] <;> rfl) | (simp [*, errW_none, errW_some] <;> rfl), by repeat (first | (with_reducible first | exact HB.out | apply below_alloc | apply pw_below_drewN | apply below_drew1 | refine below_set ?_ GE147.out | refine below_set ?_ GE148.out) | exact HB.out)⟩
    · rw [if_neg c4] at H
      have c4b0 : (a0_1 == a1_1) = false := beq_eq_false_iff_ne.mpr c4
      have c4b1 : (a0_1 != a1_1) = true := bne_iff_ne.mpr c4
      obtain rfl := Option.some.inj H
      go_enter Tryd.func33, Tryd.ntmps33
      go_wp2_with (first | ((with_reducible refine gate_dst (N := 2) rfl ?_); refine box_event ?hg (N := 2) ?hd (cs := #[.int .i64 a0_0, .int .u32 a0_1, .slice A0_2 l0_2.length c0_2]) (t := 37) ?hr ?_; (case hd => rfl); (case hg => rfl); (case hr => first | (go_simp; done) | (go_simp; rfl)); intro gb147 hg w12 hbox hb; have n0_ := Aside0.mk (below_step (by repeat (first | (with_reducible first | exact HB.out | apply below_alloc | apply pw_below_drewN | apply below_drew1) | exact HB.out)) hb); have n1_ := Aside0.mk (hbox); have n2_ := Aside0.mk ((by rw [hg]; exact (below_size (by repeat (first | (with_reducible first | exact HB.out | apply below_alloc | apply pw_below_drewN | apply below_drew1) | exact HB.out))) : w.heap.size ≤ gb147)); have n3_ := Aside0.mk ((by rw [hg]; exact (below_size (by repeat (first | (with_reducible first | exact HB.out | apply below_alloc | apply pw_below_drewN | apply below_drew1) | exact HB.out))) : w.heap.size ≤ gb147)); clear HB; have HB := n0_; have BK147 := n1_; have GW147 := n2_; have GE147 := n3_; clear n0_ n1_ n2_ n3_; clear hb hbox hg) | ((with_reducible refine gate_dst (N := 3) rfl ?_); refine box_event ?hg (N := 3) ?hd (cs := #[.int .i64 a1_0, .int .u32 a1_1, .slice A1_2 l1_2.length c1_2]) (t := 37) ?hr ?_; (case hd => rfl); (case hg => rfl); (case hr => first | (go_simp; done) | (go_simp; rfl)); intro gb148 hg w13 hbox hb; have n0_ := Aside0.mk (blk_below (g := gb147) (o := .cells #[.int .i64 a0_0, .int .u32 a0_1, .slice A0_2 l0_2.length c0_2] 37 (0, 0)) (by (with_reducible repeat (first | refine blk_drewN ?_ _ | refine blk_drew ?_ | refine blk_alloc ?_ _)); exact BK147.out) hb); have n1_ := Aside0.mk (below_step (by repeat (first | (with_reducible first | exact HB.out | apply below_alloc | apply pw_below_drewN | apply below_drew1 | refine below_set ?_ GE147.out) | exact HB.out)) hb); have n2_ := Aside0.mk (hbox); have n3_ := Aside0.mk ((by rw [hg]; exact (below_size (by repeat (first | (with_reducible first | exact HB.out | apply below_alloc | apply pw_below_drewN | apply below_drew1 | refine below_set ?_ GE147.out) | exact HB.out))) : w.heap.size ≤ gb148)); have n4_ := Aside0.mk ((by rw [hg]; exact (below_size (by repeat (first | (with_reducible first | exact HB.out | apply below_alloc | apply pw_below_drewN | apply below_drew1 | refine below_set ?_ GE147.out) | exact HB.out))) : w.heap.size ≤ gb148)); have n5_ := Aside0.mk ((by rw [hg]; exact Nat.ne_of_lt (blk_lt (g := gb147) (o := .cells #[.int .i64 a0_0, .int .u32 a0_1, .slice A0_2 l0_2.length c0_2] 37 (0, 0)) (by (with_reducible repeat (first | refine blk_drewN ?_ _ | refine blk_drew ?_ | refine blk_alloc ?_ _)); exact BK147.out)) : gb147 ≠ gb148)); have n6_ := Aside0.mk ((by rw [hg]; exact Nat.ne_of_gt (blk_lt (g := gb147) (o := .cells #[.int .i64 a0_0, .int .u32 a0_1, .slice A0_2 l0_2.length c0_2] 37 (0, 0)) (by (with_reducible repeat (first | refine blk_drewN ?_ _ | refine blk_drew ?_ | refine blk_alloc ?_ _)); exact BK147.out)) : gb148 ≠ gb147)); clear BK147; clear HB; have BK147 := n0_; have HB := n1_; have BK148 := n2_; have GW148 := n3_; have GE148 := n4_; have NB147_148 := n5_; have NB148_147 := n6_; clear n0_ n1_ n2_ n3_ n4_ n5_ n6_; clear hb hbox hg; have hnb14 := NB147_148.out; have hnc14 := NB148_147.out; have hcz15_0 : w13.cell? ⟨gb147, 0, none⟩ = some (.int .i64 a0_0) := (blk_cell BK147.out 0).trans rfl; have hcz15_1 : w13.cell? ⟨gb147, 1, none⟩ = some (.int .u32 a0_1) := (blk_cell BK147.out 1).trans rfl; have hcz15_2 : w13.cell? ⟨gb147, 2, none⟩ = some (.slice A0_2 l0_2.length c0_2) := (blk_cell BK147.out 2).trans rfl; have hfz15_0 := blk_frozen BK147.out 0; have hfz15_1 := blk_frozen BK147.out 1; have hfz15_2 := blk_frozen BK147.out 2; have hcz16_0 : w13.cell? ⟨gb148, 0, none⟩ = some (.int .i64 a1_0) := (blk_cell BK148.out 0).trans rfl; have hcz16_1 : w13.cell? ⟨gb148, 1, none⟩ = some (.int .u32 a1_1) := (blk_cell BK148.out 1).trans rfl; have hcz16_2 : w13.cell? ⟨gb148, 2, none⟩ = some (.slice A1_2 l1_2.length c1_2) := (blk_cell BK148.out 2).trans rfl; have hfz16_0 := blk_frozen BK148.out 0; have hfz16_1 := blk_frozen BK148.out 1; have hfz16_2 := blk_frozen BK148.out 2))
      go_ret
      exact ⟨by first | rfl | (simp [errW_none, errW_some] <;> rfl) | (simp [*, errW_none, errW_some] <;> rfl), by repeat (first | (with_reducible first | exact HB.out | apply below_alloc | apply pw_below_drewN | apply below_drew1 | refine below_set ?_ GE147.out | refine below_set ?_ GE148.out) | exact HB.out)⟩
  · rw [if_neg c3] at H
    have c3b0 : (a0_0 == a1_0) = false := beq_eq_false_iff_ne.mpr c3
    have c3b1 : (a0_0 != a1_0) = true := bne_iff_ne.mpr c3
    obtain rfl := Option.some.inj H
    go_enter Tryd.func33, Tryd.ntmps33
    go_wp2_with (first | ((with_reducible refine gate_dst (N := 2) rfl ?_); refine box_event ?hg (N := 2) ?hd (cs := #[.int .i64 a0_0, .int .u32 a0_1, .slice A0_2 l0_2.length c0_2]) (t := 37) ?hr ?_; (case hd => rfl); (case hg => rfl); (case hr => first | (go_simp; done) | (go_simp; rfl)); intro gb147 hg w17 hbox hb; have n0_ := Aside0.mk (below_step (by repeat (first | (with_reducible first | exact HB.out | apply below_alloc | apply pw_below_drewN | apply below_drew1) | exact HB.out)) hb); have n1_ := Aside0.mk (hbox); have n2_ := Aside0.mk ((by rw [hg]; exact (below_size (by repeat (first | (with_reducible first | exact HB.out | apply below_alloc | apply pw_below_drewN | apply below_drew1) | exact HB.out))) : w.heap.size ≤ gb147)); have n3_ := Aside0.mk ((by rw [hg]; exact (below_size (by repeat (first | (with_reducible first | exact HB.out | apply below_alloc | apply pw_below_drewN | apply below_drew1) | exact HB.out))) : w.heap.size ≤ gb147)); clear HB; have HB := n0_; have BK147 := n1_; have GW147 := n2_; have GE147 := n3_; clear n0_ n1_ n2_ n3_; clear hb hbox hg) | ((with_reducible refine gate_dst (N := 3) rfl ?_); refine box_event ?hg (N := 3) ?hd (cs := #[.int .i64 a1_0, .int .u32 a1_1, .slice A1_2 l1_2.length c1_2]) (t := 37) ?hr ?_; (case hd => rfl); (case hg => rfl); (case hr => first | (go_simp; done) | (go_simp; rfl)); intro gb148 hg w18 hbox hb; have n0_ := Aside0.mk (blk_below (g := gb147) (o := .cells #[.int .i64 a0_0, .int .u32 a0_1, .slice A0_2 l0_2.length c0_2] 37 (0, 0)) (by (with_reducible repeat (first | refine blk_drewN ?_ _ | refine blk_drew ?_ | refine blk_alloc ?_ _)); exact BK147.out) hb); have n1_ := Aside0.mk (below_step (by repeat (first | (with_reducible first | exact HB.out | apply below_alloc | apply pw_below_drewN | apply below_drew1 | refine below_set ?_ GE147.out) | exact HB.out)) hb); have n2_ := Aside0.mk (hbox); have n3_ := Aside0.mk ((by rw [hg]; exact (below_size (by repeat (first | (with_reducible first | exact HB.out | apply below_alloc | apply pw_below_drewN | apply below_drew1 | refine below_set ?_ GE147.out) | exact HB.out))) : w.heap.size ≤ gb148)); have n4_ := Aside0.mk ((by rw [hg]; exact (below_size (by repeat (first | (with_reducible first | exact HB.out | apply below_alloc | apply pw_below_drewN | apply below_drew1 | refine below_set ?_ GE147.out) | exact HB.out))) : w.heap.size ≤ gb148)); have n5_ := Aside0.mk ((by rw [hg]; exact Nat.ne_of_lt (blk_lt (g := gb147) (o := .cells #[.int .i64 a0_0, .int .u32 a0_1, .slice A0_2 l0_2.length c0_2] 37 (0, 0)) (by (with_reducible repeat (first | refine blk_drewN ?_ _ | refine blk_drew ?_ | refine blk_alloc ?_ _)); exact BK147.out)) : gb147 ≠ gb148)); have n6_ := Aside0.mk ((by rw [hg]; exact Nat.ne_of_gt (blk_lt (g := gb147) (o := .cells #[.int .i64 a0_0, .int .u32 a0_1, .slice A0_2 l0_2.length c0_2] 37 (0, 0)) (by (with_reducible repeat (first | refine blk_drewN ?_ _ | refine blk_drew ?_ | refine blk_alloc ?_ _)); exact BK147.out)) : gb148 ≠ gb147)); clear BK147; clear HB; have BK147 := n0_; have HB := n1_; have BK148 := n2_; have GW148 := n3_; have GE148 := n4_; have NB147_148 := n5_; have NB148_147 := n6_; clear n0_ n1_ n2_ n3_ n4_ n5_ n6_; clear hb hbox hg; have hnb19 := NB147_148.out; have hnc19 := NB148_147.out; have hcz20_0 : w18.cell? ⟨gb147, 0, none⟩ = some (.int .i64 a0_0) := (blk_cell BK147.out 0).trans rfl; have hcz20_1 : w18.cell? ⟨gb147, 1, none⟩ = some (.int .u32 a0_1) := (blk_cell BK147.out 1).trans rfl; have hcz20_2 : w18.cell? ⟨gb147, 2, none⟩ = some (.slice A0_2 l0_2.length c0_2) := (blk_cell BK147.out 2).trans rfl; have hfz20_0 := blk_frozen BK147.out 0; have hfz20_1 := blk_frozen BK147.out 1; have hfz20_2 := blk_frozen BK147.out 2; have hcz21_0 : w18.cell? ⟨gb148, 0, none⟩ = some (.int .i64 a1_0) := (blk_cell BK148.out 0).trans rfl; have hcz21_1 : w18.cell? ⟨gb148, 1, none⟩ = some (.int .u32 a1_1) := (blk_cell BK148.out 1).trans rfl; have hcz21_2 : w18.cell? ⟨gb148, 2, none⟩ = some (.slice A1_2 l1_2.length c1_2) := (blk_cell BK148.out 2).trans rfl; have hfz21_0 := blk_frozen BK148.out 0; have hfz21_1 := blk_frozen BK148.out 1; have hfz21_2 := blk_frozen BK148.out 2))
    go_ret
    exact ⟨by first | rfl | (simp [errW_none, errW_some] <;> rfl) | (simp [*, errW_none, errW_some] <;> rfl), by repeat (first | (with_reducible first | exact HB.out | apply below_alloc | apply pw_below_drewN | apply below_drew1 | refine below_set ?_ GE147.out | refine below_set ?_ GE148.out) | exact HB.out)⟩

-- NOT PRINTED: function 8 (strandlinelaw13_FragEncodes)


end Go.Proofs.YthhbilkmdfdfiaaDoor.F
end
