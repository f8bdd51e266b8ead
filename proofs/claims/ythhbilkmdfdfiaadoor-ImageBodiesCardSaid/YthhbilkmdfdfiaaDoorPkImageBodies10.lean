/- Texts of mine put together: RBytes, ImgR, ImgL, Each, Body, Places. -/
import Derived.Test.YthhbilkmdfdfiaaDoorPkImageBodies6
import Derived.Test.YthhbilkmdfdfiaaDoorPkImageBodies7
import Derived.Test.YthhbilkmdfdfiaaDoorPkImageBodies5
import Derived.Test.YthhbilkmdfdfiaaDoorPkImageBodies9
import Derived.Test.YthhbilkmdfdfiaaDoorPkImageBodies2
import Derived.Shelf.Abstract
section
/- The reference's Bytes of a fragment: what it answers. -/
set_option linter.unusedVariables false
set_option linter.unusedSimpArgs false
namespace Go.Proofs.YthhbilkmdfdfiaaDoor.O
open Go.RowKit Go.Proofs.YthhbilkmdfdfiaaDoorW.PrintWords Go.Proofs.YthhbilkmdfdfiaaDoorW.PrintLast Go.Proofs.YthhbilkmdfdfiaaDoorW.PrintMore Go.Proofs.YthhbilkmdfdfiaaDoor.F Go.Proofs.YthhbilkmdfdfiaaDoor.F.Nums Go.Proofs.YthhbilkmdfdfiaaDoor.Plain
theorem rbytes_eq (kind ep : Int) (data : List Int) (hr : rightF kind data.length = true) (he : 0 ≤ ep ∧ ep ≤ 4294967295) (hd : Bytes data) : strandlineref13_Bytes.f (100 + 10 * (bodyL kind ep data).length + 1) kind ep data = some (encL kind ep data) := by
  obtain ⟨k1, k2, k3⟩ := right_parts hr
  obtain ⟨e, rfl⟩ := Int.eq_ofNat_of_zero_le he.1
  have hbb : Bytes (bodyL kind (e : Int) data) := bodyL_bytes (by omega) hd
  have hbl := bodyL_len kind (e : Int) data
  have e1 : (cl8 2).toNat = 2 := by decide
  have e2 : (cl8 4).toNat = 4 := by decide
  have hbd : putl data.length 2 ++ [kind] ++ putl e 4 ++ data = bodyL kind (e : Int) data := by simp [bodyL]
  have hsl := sumN_lt (bodyL kind (e : Int) data)
  unfold strandlineref13_Bytes.f
  have hk : 8 < 100 + 10 * (bodyL kind (e : Int) data).length + 1 := by omega
  rw [wu64 (by omega) (by omega), rput_eq _ hk _ (by omega) 2 (by decide), e1, Option.bind_some, if_pos (by rw [putl_len]; decide), Option.bind_some, wu64 (by omega) (by omega), rput_eq _ hk _ (by omega) 4 (by decide), e2, Option.bind_some]
  rw [if_pos (by simp [putl_len]), Option.bind_some, show kind % 256 = kind by omega, hbd, if_pos (by simp [putl_len]; omega), Option.bind_some]
  rw [CrcMath.rof_eq _ hbb (by omega), Option.bind_some, rcrc_sum, Option.bind_some, wu64 (by omega) (by omega), rput_eq _ hk _ (by omega) 4 (by decide), e2, Option.bind_some, if_pos (by rw [putl_len, hbl]; omega)]
  rfl
end Go.Proofs.YthhbilkmdfdfiaaDoor.O
end

section
/- The reference's Add and Lay: plain. -/
set_option linter.unusedVariables false
set_option linter.unusedSimpArgs false
namespace Go.Proofs.YthhbilkmdfdfiaaDoor.Img
open Go.RowKit Go.Proofs.YthhbilkmdfdfiaaDoor.F Go.Proofs.YthhbilkmdfdfiaaDoor.F.Nums Go.Proofs.YthhbilkmdfdfiaaDoor.O Go.Proofs.YthhbilkmdfdfiaaDoorW.PrintWords Go.Proofs.YthhbilkmdfdfiaaDoorW.PrintLast Go.Proofs.YthhbilkmdfdfiaaDoorW.PrintMore Go.Proofs.YthhbilkmdfdfiaaDoor.Plain
theorem rnear_eq (a : Int) : strandlineref07_Near.f a = some (cl a) := by
  unfold strandlineref07_Near.f cl
  by_cases h1 : a < 0
  · rw [if_pos h1, if_pos h1]
  · by_cases h2 : 832 < a
    · rw [if_neg h1, if_neg h1, if_pos h2, if_pos h2]
    · rw [if_neg h1, if_neg h1, if_neg (by omega), if_neg h2]
theorem rleft_l (d : Nat) : ∀ (k : Nat) (at_ n : Int), 0 ≤ at_ → at_ ≤ 832 → 0 ≤ n → n ≤ at_ → (832 - at_ : Int) = d → d < k →
    strandlineref07_Left.l0 k at_ n = some (n + if at_ = 832 then 0 else if n = 0 then 208 - at_ % 208 else (208 - at_ % 208) % 208) := by
  induction d with
  | zero =>
    intro k at_ n h0 h1 h2 h3 hd hk
    obtain ⟨k, rfl⟩ : ∃ m, k = m + 1 := ⟨k - 1, by omega⟩
    simp only [strandlineref07_Left.l0]
    rw [if_neg (by omega), if_pos (show at_ = 832 by omega)]
    simp
  | succ d ih =>
    intro k at_ n h0 h1 h2 h3 hd hk
    obtain ⟨k, rfl⟩ : ∃ m, k = m + 1 := ⟨k - 1, by omega⟩
    simp only [strandlineref07_Left.l0]
    rw [if_pos (by omega), tm h0, w64 (n := at_ + 1) (by omega) (by omega), w64 (n := n + 1) (by omega) (by omega)]
    have hr := ih k (at_ + 1) (n + 1) (by omega) (by omega) (by omega) (by omega) (by omega) (by omega)
    rw [if_neg (show ¬ n + 1 = 0 by omega)] at hr
    rw [if_neg (show ¬ at_ = 832 by omega), hr]
    by_cases hn : n = 0
    · rw [if_pos hn, if_pos hn]
      congr 1
      by_cases h8 : at_ + 1 = 832
      · rw [if_pos h8]; omega
      · rw [if_neg h8]; omega
    · rw [if_neg hn, if_neg hn]
      by_cases hm : at_ % 208 = 0
      · rw [if_pos hm]
        congr 1
        omega
      · rw [if_neg hm]
        congr 1
        by_cases h8 : at_ + 1 = 832
        · rw [if_pos h8]; omega
        · rw [if_neg h8]; omega
theorem rleft_eq (k : Nat) (hk : 832 < k) (a : Int) : strandlineref07_Left.f k a = some (lf (cl a)) := by
  have h0 := cl_lo a
  have h1 := cl_hi a
  unfold strandlineref07_Left.f
  rw [rnear_eq]
  simp only [Option.bind_some]
  rw [rleft_l (832 - cl a).toNat k (cl a) 0 h0 h1 (by omega) h0 (by omega) (by omega)]
  unfold lf
  by_cases h : cl a = 832
  · rw [if_pos h, if_pos h]; rfl
  · rw [if_neg h, if_neg h, if_pos rfl]; simp
theorem rwhere_l (a : Int) (d : Nat) : ∀ (k : Nat) (i : Int), 0 ≤ i → i ≤ cl a → (cl a - i : Int) = d → d < k →
    strandlineref07_Where.l0 k a (i / 52) (i % 52) i = some (cl a / 52, cl a % 52) := by
  have h9 := cl_hi a
  induction d with
  | zero =>
    intro k i h0 h1 hd hk
    obtain ⟨k, rfl⟩ : ∃ m, k = m + 1 := ⟨k - 1, by omega⟩
    simp only [strandlineref07_Where.l0]
    rw [rnear_eq]
    simp only [Option.bind_some]
    rw [if_neg (by omega)]
    obtain rfl : i = cl a := by omega
    rfl
  | succ d ih =>
    intro k i h0 h1 hd hk
    obtain ⟨k, rfl⟩ : ∃ m, k = m + 1 := ⟨k - 1, by omega⟩
    simp only [strandlineref07_Where.l0]
    rw [rnear_eq]
    simp only [Option.bind_some]
    rw [if_pos (by omega), w64 (n := i % 52 + 1) (by omega) (by omega), w64 (n := i / 52 + 1) (by omega) (by omega), w64 (n := i + 1) (by omega) (by omega)]
    have hr := ih k (i + 1) (by omega) (by omega) (by omega) (by omega)
    by_cases hm : i % 52 + 1 = 52
    · rw [if_pos hm, show i / 52 + 1 = (i + 1) / 52 by omega, show (0 : Int) = (i + 1) % 52 by omega]
      exact hr
    · rw [if_neg hm, show i % 52 + 1 = (i + 1) % 52 by omega, show i / 52 = (i + 1) / 52 by omega]
      exact hr
theorem rwhere_eq (k : Nat) (hk : 832 < k) (a : Int) : strandlineref07_Where.f k a = some (cl a / 52, cl a % 52) := by
  have h0 := cl_lo a
  have h1 := cl_hi a
  unfold strandlineref07_Where.f
  exact rwhere_l a (cl a).toNat k 0 (by omega) (by omega) (by omega) (by omega)
theorem rbegin_l (d : Nat) : ∀ (k : Nat) (at_ off : Int), 0 ≤ at_ → at_ ≤ 832 → 41 < off → off ≤ 52 → (at_ + (52 - off)) ≤ 832 → (52 - off : Int) = d → d < k →
    strandlineref07_Begin.l0 k at_ off = some (at_ + (52 - off)) := by
  induction d with
  | zero =>
    intro k at_ off h0 h1 h2 h3 h4 hd hk
    obtain ⟨k, rfl⟩ : ∃ m, k = m + 1 := ⟨k - 1, by omega⟩
    simp only [strandlineref07_Begin.l0]
    rw [show at_ + (52 - off) = at_ by omega, if_neg (show ¬ off < 52 by omega)]
    simp
  | succ d ih =>
    intro k at_ off h0 h1 h2 h3 h4 hd hk
    obtain ⟨k, rfl⟩ : ∃ m, k = m + 1 := ⟨k - 1, by omega⟩
    simp only [strandlineref07_Begin.l0]
    rw [if_pos (by omega), if_pos (by omega), if_pos (by omega), w64 (n := at_ + 1) (by omega) (by omega), w64 (n := off + 1) (by omega) (by omega)]
    rw [ih k (at_ + 1) (off + 1) (by omega) (by omega) (by omega) (by omega) (by omega) (by omega) (by omega)]
    congr 1
    omega
theorem rbegin_eq (k : Nat) (hk : 832 < k) (a : Int) : strandlineref07_Begin.f k a = some (bg (cl a)) := by
  have h0 := cl_lo a
  have h1 := cl_hi a
  unfold strandlineref07_Begin.f
  rw [rnear_eq]
  simp only [Option.bind_some]
  rw [rwhere_eq k hk, cl_cl]
  simp only [Option.bind_some]
  unfold bg
  by_cases h : 41 < cl a % 52
  · rw [if_pos h, rbegin_l (52 - cl a % 52).toNat k (cl a) (cl a % 52) h0 h1 h (by omega) (by omega) (by omega) (by omega)]
  · rw [if_neg h]
    obtain ⟨k, rfl⟩ : ∃ m, k = m + 1 := ⟨k - 1, by omega⟩
    simp only [strandlineref07_Begin.l0]
    rw [if_neg (show ¬ cl a % 52 > 41 by omega)]
    simp
def raw (ps : List (Int × Int × Int)) : List S99 := ps.map fun t => ⟨t.1, 3, t.2.1, t.2.2⟩
theorem rcut_l (m : Nat) : ∀ (k : Nat) (at_ n from_ : Int) (out : List S99), 2 * m + 1000 < k → 0 ≤ from_ → from_ ≤ n → from_ ≤ cl at_ → n ≤ 9223372036854775807 → out.length + m < 1000 → 832 - bg (cl at_) ≤ 208 * m → (out = [] ∨ from_ < n) →
    strandlineref14_Cut.l0 k at_ n out from_ = (match cutS m at_ n from_ with | none => some ([], 0, false) | some p => strandlineref14_Cut.j1 1 p.2 n (out ++ raw p.1) n false) := by
  induction m with
  | zero =>
    intro k at_ n from_ out hk h0 hn hf hn2 ho hm hor
    have h1 := cl_hi at_
    have hb1 := bg_hi h1
    obtain ⟨k, rfl⟩ : ∃ j, k = j + 2 := ⟨k - 2, by omega⟩
    have e : strandlineref14_Cut.l0 (k + 2) at_ n out from_ = strandlineref14_Cut.j1 (k + 1) at_ n out from_ true := by
      simp only [strandlineref14_Cut.l0]
      by_cases hl : (out.length : Int) = 0
      · rw [if_pos hl]
      · rw [if_neg hl, show decide (from_ < n) = true by rcases hor with rfl | h <;> simp_all]
    rw [e]
    simp only [strandlineref14_Cut.j1, if_true]
    rw [rbegin_eq k (by omega)]
    simp only [Option.bind_some]
    rw [if_pos (by omega)]
    rfl
  | succ m ih =>
    intro k at_ n from_ out hk h0 hn hf hn2 ho hm hor
    have c0 := cl_lo at_
    have c1 := cl_hi at_
    have hb0 := bg_lo c0
    have hb1 := bg_hi c1
    have hbm := bg_mod (cl at_)
    have hbg := bg_ge (cl at_)
    obtain ⟨k, rfl⟩ : ∃ j, k = j + 2 := ⟨k - 2, by omega⟩
    have e : strandlineref14_Cut.l0 (k + 2) at_ n out from_ = strandlineref14_Cut.j1 (k + 1) at_ n out from_ true := by
      simp only [strandlineref14_Cut.l0]
      by_cases hl : (out.length : Int) = 0
      · rw [if_pos hl]
      · rw [if_neg hl, show decide (from_ < n) = true by rcases hor with rfl | h <;> simp_all]
    rw [e]
    simp only [strandlineref14_Cut.j1, if_true]
    rw [rbegin_eq k (by omega)]
    simp only [Option.bind_some]
    unfold cutS
    by_cases h8 : bg (cl at_) = 832
    · rw [if_pos (by omega), if_pos h8]
    · obtain ⟨l1, l2, l3, l4⟩ := lf_ge hb0 hb1 hbm h8
      rw [if_neg (by omega), if_neg h8, rleft_eq k (by omega), cl_in hb0 hb1]
      simp only [Option.bind_some]
      rw [w64 (n := lf (bg (cl at_)) - 11) (by omega) (by omega), w64 (n := n - from_) (by omega) (by omega), w64 (n := bg (cl at_) + 11) (by omega) (by omega)]
      by_cases hc : n ≤ from_ + (lf (bg (cl at_)) - 11)
      · rw [if_neg (by omega), if_pos (by omega), if_pos hc, w64 (n := from_ + (n - from_)) (by omega) (by omega), w64 (n := bg (cl at_) + 11 + (n - from_)) (by omega) (by omega), show from_ + (n - from_) = n by omega]
        obtain ⟨k, rfl⟩ : ∃ j, k = j + 2 := ⟨k - 2, by omega⟩
        simp only [strandlineref14_Cut.l0]
        rw [if_neg (by simp; omega), show decide (n < n) = false by simp]
        simp only [strandlineref14_Cut.j1]
        rfl
      · rw [if_pos (by omega), if_pos (by omega), if_neg hc, w64 (n := from_ + (lf (bg (cl at_)) - 11)) (by omega) (by omega), w64 (n := bg (cl at_) + 11 + (lf (bg (cl at_)) - 11)) (by omega) (by omega), show bg (cl at_) + 11 + (lf (bg (cl at_)) - 11) = bg (cl at_) + lf (bg (cl at_)) by omega]
        rw [ih k _ n _ _ (by omega) (by omega) (by omega) (by rw [cl_in (by omega) l3]; omega) hn2 (by simp; omega) (by rw [cl_in (by omega) l3, bg_block l4]; omega) (.inr (by omega))]
        cases hs : cutS m (bg (cl at_) + lf (bg (cl at_))) n (from_ + (lf (bg (cl at_)) - 11)) with
        | none => rfl
        | some p =>
          simp only [Option.map_some, raw, List.map_cons]
          rw [List.append_assoc]
          rfl
theorem rfix (ps : List (Int × Int × Int)) (e n : Int) (h0 : ps ≠ []) (h4 : ps.length ≤ 4) : strandlineref14_Cut.j1 1 e n (raw ps) n false = some (mkP true ps, e, true) := by
  match ps, h0, h4 with
  | [t], _, _ => simp [strandlineref14_Cut.j1, raw, rd_T99, mkP, pc, wrap64]
  | [t, u], _, _ => simp [strandlineref14_Cut.j1, raw, rd_T99, mkP, pc, wrap64]
  | [t, u, v], _, _ => simp [strandlineref14_Cut.j1, raw, rd_T99, mkP, pc, wrap64]
  | [t, u, v, x], _, _ => simp [strandlineref14_Cut.j1, raw, rd_T99, mkP, pc, wrap64]
theorem rcut_eq (k : Nat) (hk : 1100 < k) (at_ n : Int) (hn2 : n ≤ 9223372036854775807) : strandlineref14_Cut.f k at_ n = some (cutP at_ n) := by
  have c0 := cl_lo at_
  have hb0 := bg_lo c0
  unfold strandlineref14_Cut.f cutP
  by_cases h1 : n < 0
  · rw [if_pos h1, if_pos (.inl h1)]
  · rw [if_neg h1, rcut_l 4 k at_ n 0 [] (by omega) (by omega) (by omega) c0 hn2 (by simp) (by omega) (.inl rfl)]
    cases hs : cutS 4 at_ n 0 with
    | none =>
      simp only [cutR]
      split <;> rfl
    | some p =>
      have hb := cutS_bound c0 (by omega) hs
      rw [if_neg (by omega)]
      simp only [cutR, List.nil_append]
      exact rfix p.1 p.2 n (cutS_ne hs) (cutS_len hs)
theorem rbytes_up (kind ep : Int) (data r : List Int) (k0 : Nat) (h : strandlineref13_Bytes.f k0 kind ep data = some r) : ∀ d, strandlineref13_Bytes.f (k0 + d) kind ep data = some r := by
  intro d
  induction d with
  | zero => exact h
  | succ d ih => exact strandlineref13_Bytes.mono kind ep data (k0 + d) r ih
theorem rbytes_any {ep : Int} {data : List Int} {p : Pc} (hp : PcOk data p) (hd : Bytes data) (he : 0 ≤ ep ∧ ep ≤ 4294967295) (k : Nat) (hk : 2200 ≤ k) :
    strandlineref13_Bytes.f k p.f1 ep ((data.take p.f3.toNat).drop p.f2.toNat) = some (pcE ep data p) := by
  obtain ⟨h1, h2, h3, h4, h5, h6, h7, h8⟩ := hp
  have hl : ((data.take p.f3.toNat).drop p.f2.toNat).length = (p.f3 - p.f2).toNat := by rw [List.length_drop, List.length_take]; omega
  have hr : rightF p.f1 ((data.take p.f3.toNat).drop p.f2.toNat).length = true := by
    unfold rightF
    rw [hl, decide_eq_true h3.1, decide_eq_true h3.2, decide_eq_true (show (p.f3 - p.f2).toNat ≤ 197 by omega)]
    rfl
  have h := rbytes_eq p.f1 ep _ hr he (bytes_drop (bytes_take hd _) _)
  have hb := bodyL_len p.f1 ep ((data.take p.f3.toNat).drop p.f2.toNat)
  obtain ⟨d, hd2⟩ : ∃ d, k = 100 + 10 * (bodyL p.f1 ep ((data.take p.f3.toNat).drop p.f2.toNat)).length + 1 + d := ⟨k - (100 + 10 * (bodyL p.f1 ep ((data.take p.f3.toNat).drop p.f2.toNat)).length + 1), by omega⟩
  rw [hd2]
  exact rbytes_up _ _ _ _ _ h d
theorem splice_step {cur E : List Int} {o q : Nat} (hq : q < E.length) (hf : o + E.length ≤ cur.length) : (splice cur o (E.take q)).set (o + q) (E.getD q 0) = splice cur o (E.take (q + 1)) := by
  have e1 : E.take (q + 1) = E.take q ++ [E.getD q 0] := by rw [List.take_add_one, List.getElem?_eq_getElem hq, List.getD_eq_getElem?_getD, List.getElem?_eq_getElem hq]; rfl
  have l1 : (E.take q).length = q := by rw [List.length_take]; omega
  unfold splice
  rw [e1, l1, List.length_append, l1, List.length_singleton]
  have l0 : (cur.take o).length = o := by rw [List.length_take]; omega
  rw [List.set_append_right _ _ (by omega), l0, Nat.add_sub_cancel_left, List.set_append_right _ _ (by omega), l1, Nat.sub_self]
  have e2 : cur.drop (o + q) = cur.getD (o + q) 0 :: cur.drop (o + (q + 1)) := by
    rw [List.drop_eq_getElem_cons (by omega), List.getD_eq_getElem?_getD, List.getElem?_eq_getElem (by omega)]
    rfl
  rw [e2, List.set_cons_zero]
  simp
theorem radd_l2 (x0 : Int) (data : List Int) (ps : List Pc) (en : Int) (E cur : List Int) (i o : Nat) (hi : i < ps.length) (hn : ps.length < 1000) (ho : (rd_T99 ps i).f0 = (o : Int)) (hf : o + E.length ≤ cur.length) (hc : cur.length = 832) (d : Nat) :
    ∀ (k q : Nat), q + d = E.length → strandlineref17_Add.l2 (k + d + 1) x0 data ps en (splice cur o (E.take q)) i E q = strandlineref17_Add.l1 k x0 data ps en (splice cur o E) ((i + 1 : Nat) : Int) := by
  induction d with
  | zero =>
    intro k q hq
    simp only [Nat.add_zero, strandlineref17_Add.l2]
    rw [if_neg (by omega), List.take_of_length_le (by omega), w64 (by omega) (by omega)]
    rfl
  | succ d ih =>
    intro k q hq
    have hs := splice_step (cur := cur) (E := E) (o := o) (q := q) (by omega) hf
    have hlen : (splice cur o (E.take q)).length = 832 := by
      unfold splice
      simp
      omega
    rw [show k + (d + 1) + 1 = (k + d + 1) + 1 by omega]
    have ihq := ih k (q + 1) (by omega)
    generalize k + d + 1 = m at ihq ⊢
    simp only [strandlineref17_Add.l2]
    rw [ho, w64 (n := (o : Int) + (q : Int)) (by omega) (by omega), w64 (n := (q : Int) + 1) (by omega) (by omega)]
    rw [if_pos (by omega), if_pos (by omega), if_pos (by omega), if_pos (by omega), if_pos (by omega), if_pos (by rw [hlen]; omega)]
    have e1 : ((o : Int) + (q : Int)).toNat = o + q := by omega
    have e2 : rd E (q : Int) = E.getD q 0 := by unfold rd; rw [Int.toNat_natCast]
    rw [e1, e2, hs]
    exact ihq
set_option maxRecDepth 100000 in
theorem radd_l1 (x0 : Int) (data : List Int) (ps : List Pc) (en : Int) (hx : 0 ≤ x0) (hd : Bytes data) (hps : ∀ p ∈ ps, PcOk data p) (hn : ps.length < 1000) (d : Nat) :
    ∀ (k i : Nat) (cur : List Int), i + d = ps.length → cur.length = 832 → 2300 + 300 * d ≤ k → strandlineref17_Add.l1 k x0 data ps en cur i = some (layA (x0 % 4294967296) data (ps.drop i) cur, en, true) := by
  have hep : (Int.tmod x0 4294967296) % 4294967296 = x0 % 4294967296 := by rw [tm hx]; omega
  induction d with
  | zero =>
    intro k i cur hi hc hk
    obtain ⟨k, rfl⟩ : ∃ j, k = j + 1 := ⟨k - 1, by omega⟩
    simp only [strandlineref17_Add.l1]
    rw [if_neg (by omega), List.drop_of_length_le (by omega)]
    rfl
  | succ d ih =>
    intro k i cur hi hc hk
    have hlt : i < ps.length := by omega
    have hp := hps _ (List.getElem_mem hlt)
    rw [rd_at ps i hlt] at hp
    have hE := pcE_len (ep := x0 % 4294967296) hp
    have hb := rbytes_any (ep := x0 % 4294967296) hp hd (by omega)
    have hdr : ps.drop i = rd_T99 ps i :: ps.drop (i + 1) := by rw [List.drop_eq_getElem_cons hlt, rd_at ps i hlt]
    have hll := layP_len (ep := x0 % 4294967296) (cur := cur) hp hc
    rw [hdr]
    obtain ⟨h1, h2, h3, h4, h5, h6, h7, h8⟩ := hp
    obtain ⟨o, ho⟩ := Int.eq_ofNat_of_zero_le h1
    obtain ⟨k, rfl⟩ : ∃ j, k = j + (pcE (x0 % 4294967296) data (rd_T99 ps i)).length + 2 := ⟨k - (pcE (x0 % 4294967296) data (rd_T99 ps i)).length - 2, by omega⟩
    have hl2 := radd_l2 x0 data ps en (pcE (x0 % 4294967296) data (rd_T99 ps i)) cur i o hlt hn ho (by omega) hc _ k 0 (Nat.zero_add _)
    rw [show splice cur o ((pcE (x0 % 4294967296) data (rd_T99 ps i)).take 0) = cur by simp [splice]] at hl2
    have hlp : splice cur o (pcE (x0 % 4294967296) data (rd_T99 ps i)) = layP (x0 % 4294967296) data cur (rd_T99 ps i) := by unfold layP; rw [ho, Int.toNat_natCast]
    rw [hlp] at hl2
    rw [show k + (pcE (x0 % 4294967296) data (rd_T99 ps i)).length + 2 = (k + (pcE (x0 % 4294967296) data (rd_T99 ps i)).length + 1) + 1 by omega]
    have hkk : 2200 ≤ k + (pcE (x0 % 4294967296) data (rd_T99 ps i)).length + 1 := by omega
    generalize k + (pcE (x0 % 4294967296) data (rd_T99 ps i)).length + 1 = m at hl2 hkk ⊢
    simp only [strandlineref17_Add.l1]
    rw [if_pos (by omega), if_pos (by omega), if_pos h4, if_pos h5, if_pos h6, hep, hb _ hkk, Option.bind_some]
    rw [show ((0 : Nat) : Int) = 0 from rfl] at hl2
    rw [hl2]
    exact ih k (i + 1) _ (by omega) hll (by omega)
theorem radd_l0 (x0 : Int) (body data : List Int) (ps : List Pc) (en : Int) (hb : body.length ≤ 9000000000000) (d : Nat) :
    ∀ (k q : Nat), q + d = min 832 body.length → strandlineref17_Add.l0 (k + d + 1) x0 body data ps en (body.take q ++ zs (832 - q)) q = strandlineref17_Add.j1 k x0 data ps en (base body) := by
  induction d with
  | zero =>
    intro k q hq
    have hbase : body.take q ++ zs (832 - q) = base body := by
      unfold base
      by_cases h : body.length ≤ 832
      · rw [show q = body.length by omega, List.take_of_length_le (l := body) (i := 832) h, List.take_of_length_le (Nat.le_refl _)]
      · rw [show q = 832 by omega, show 832 - body.length = 0 by omega, Nat.sub_self]
    simp only [Nat.add_zero, strandlineref17_Add.l0]
    rw [hbase]
    by_cases h : q < 832
    · rw [if_pos (by omega), if_neg (by omega)]
    · rw [if_neg (by omega)]
  | succ d ih =>
    intro k q hq
    have hlt : q < body.length := by omega
    have hlen : (body.take q ++ zs (832 - q)).length = 832 := by rw [List.length_append, List.length_take]; simp [zs]; omega
    have hset : (body.take q ++ zs (832 - q)).set q (body.getD q 0) = body.take (q + 1) ++ zs (832 - (q + 1)) := by
      have h1 : (body.take q).length = q := by rw [List.length_take]; omega
      have h2 : body.take (q + 1) = body.take q ++ [body.getD q 0] := by rw [List.take_add_one, List.getElem?_eq_getElem hlt, List.getD_eq_getElem?_getD, List.getElem?_eq_getElem hlt]; rfl
      rw [h2, List.set_append_right _ _ (by omega), h1, Nat.sub_self, show 832 - q = (832 - (q + 1)) + 1 by omega]
      simp [zs, List.replicate_succ]
    rw [show k + (d + 1) + 1 = (k + d + 1) + 1 by omega]
    have ihq := ih k (q + 1) (by omega)
    generalize k + d + 1 = m at ihq ⊢
    simp only [strandlineref17_Add.l0]
    rw [if_pos (by omega), if_pos (by omega), if_pos (by omega), if_pos (by rw [hlen]; omega), w64 (by omega) (by omega), Int.toNat_natCast, show rd body (q : Int) = body.getD q 0 by unfold rd; rw [Int.toNat_natCast], hset]
    exact ihq
/-- what the reference's Add answers -/
def addR (e64 : Int) (body : List Int) (at_ : Int) (data : List Int) : List Int × Int × Bool := if (cutP at_ (data.length : Int)).2.2 = true then (addB e64 body at_ data, (cutP at_ (data.length : Int)).2.1, true) else ([], 0, false)
theorem radd_eq (k : Nat) (hk : 6000 ≤ k) (e64 : Int) (body : List Int) (at_ : Int) (data : List Int) (he : 0 ≤ e64) (hd : Bytes data) (hb : body.length ≤ 9000000000000) (hdl : data.length ≤ 140737488355328) : strandlineref17_Add.f k e64 body at_ data = some (addR e64 body at_ data) := by
  unfold strandlineref17_Add.f addR
  rw [rcut_eq k (by omega) at_ _ (by omega), Option.bind_some]
  by_cases h : (cutP at_ (data.length : Int)).2.2 = true
  · rw [if_pos h, if_pos h, if_pos (by decide)]
    obtain ⟨k, rfl⟩ : ∃ j, k = j + 1 + min 832 body.length + 1 := ⟨k - min 832 body.length - 2, by omega⟩
    have h0 := radd_l0 e64 body data (cutP at_ (data.length : Int)).1 (cutP at_ (data.length : Int)).2.1 hb (min 832 body.length) (k + 1) 0 (by omega)
    rw [List.take_zero, List.nil_append, show zs (832 - 0) = List.replicate 832 (0 : Int) from rfl] at h0
    rw [show ((0 : Nat) : Int) = 0 from rfl] at h0
    rw [h0]
    simp only [strandlineref17_Add.j1]
    have hl := cutP_len at_ (data.length : Int)
    have h1 := radd_l1 e64 data (cutP at_ (data.length : Int)).1 (cutP at_ (data.length : Int)).2.1 he hd (cutP_pcs at_ data) (by omega) (cutP at_ (data.length : Int)).1.length k 0 (base body) (Nat.zero_add _) (base_len body) (by omega)
    rw [show ((0 : Nat) : Int) = 0 from rfl] at h1
    rw [h1]
    rfl
  · rw [if_neg h, if_neg h]
end Go.Proofs.YthhbilkmdfdfiaaDoor.Img
end

section
/- Records laid one behind another: plain; the reference's Lay. -/
set_option linter.unusedVariables false
set_option linter.unusedSimpArgs false
namespace Go.Proofs.YthhbilkmdfdfiaaDoor.Img
open Go.RowKit Go.Proofs.YthhbilkmdfdfiaaDoor.F Go.Proofs.YthhbilkmdfdfiaaDoor.F.Nums Go.Proofs.YthhbilkmdfdfiaaDoor.O Go.Proofs.YthhbilkmdfdfiaaDoorW.PrintWords Go.Proofs.YthhbilkmdfdfiaaDoorW.PrintLast Go.Proofs.YthhbilkmdfdfiaaDoorW.PrintMore Go.Proofs.YthhbilkmdfdfiaaDoor.Plain
theorem cutS_begin (m : Nat) (e n f : Int) : cutS m (bg (cl e)) n f = cutS m e n f := by
  have h0 := bg_lo (cl_lo e)
  have h1 := bg_hi (cl_hi e)
  cases m with
  | zero => rfl
  | succ m => unfold cutS; rw [cl_in h0 h1, bg_bg]
theorem cutP_begin (e n : Int) : cutP (bg (cl e)) n = cutP e n := by unfold cutP; rw [cutS_begin]
theorem addB_begin (e64 : Int) (body : List Int) (e : Int) (data : List Int) : addB e64 body (bg (cl e)) data = addB e64 body e data := by unfold addB; rw [cutP_begin]
/-- body and end behind the first k records -/
def laySt (e64 : Int) (l : List (List Int)) : Nat → List Int × Int
  | 0 => (zs 832, 0)
  | k + 1 => (addB e64 (laySt e64 l k).1 (laySt e64 l k).2 (l.getD k []), (cutP (laySt e64 l k).2 ((l.getD k []).length : Int)).2.1)
/-- does record k fit? -/
def layOk (e64 : Int) (l : List (List Int)) (k : Nat) : Bool := (cutP (laySt e64 l k).2 ((l.getD k []).length : Int)).2.2
/-- where record k begins -/
def layAt (e64 : Int) (l : List (List Int)) (k : Nat) : Int := bg (cl (laySt e64 l k).2)
def layPl (e64 : Int) (l : List (List Int)) (k : Nat) : List Int := (List.range k).map (layAt e64 l)
theorem layPl_len (e64 : Int) (l : List (List Int)) (k : Nat) : (layPl e64 l k).length = k := by simp [layPl]
theorem layPl_succ (e64 : Int) (l : List (List Int)) (k : Nat) : layPl e64 l (k + 1) = layPl e64 l k ++ [layAt e64 l k] := by simp [layPl, List.range_succ]
theorem laySt_len (e64 : Int) (l : List (List Int)) (k : Nat) : (laySt e64 l k).1.length = 832 := by
  cases k with
  | zero => exact List.length_replicate
  | succ k => exact addB_len _ _ _ _
theorem laySt_bytes (e64 : Int) (l : List (List Int)) (hl : ∀ x ∈ l, Bytes x) (k : Nat) : Bytes (laySt e64 l k).1 := by
  induction k with
  | zero => exact bytes_zs 832
  | succ k ih =>
    refine addB_bytes e64 _ ih ?_
    rw [List.getD_eq_getElem?_getD]
    cases h : l[k]? with
    | none => intro c hc; cases hc
    | some x => exact hl x (List.mem_of_getElem? h)
theorem laySt_end (e64 : Int) (l : List (List Int)) (k : Nat) : 0 ≤ (laySt e64 l k).2 ∧ (laySt e64 l k).2 ≤ 832 := by
  cases k with
  | zero => exact ⟨Int.le_refl _, show (0 : Int) ≤ 832 by decide⟩
  | succ k =>
    show 0 ≤ (cutP (laySt e64 l k).2 ((l.getD k []).length : Int)).2.1 ∧ (cutP (laySt e64 l k).2 ((l.getD k []).length : Int)).2.1 ≤ 832
    unfold cutP
    split
    · exact ⟨Int.le_refl _, by decide⟩
    · cases hs : cutS 4 (laySt e64 l k).2 ((l.getD k []).length : Int) 0 with
      | none => exact ⟨Int.le_refl _, by decide⟩
      | some p =>
        have := cutS_bound (cl_lo _) (by omega) hs
        exact ⟨this.2.1, this.2.2⟩
/-- do all records fit? -/
def layAll (e64 : Int) (l : List (List Int)) : Bool := (List.range l.length).all (layOk e64 l)
theorem layAll_iff (e64 : Int) (l : List (List Int)) : layAll e64 l = true ↔ ∀ k, k < l.length → layOk e64 l k = true := by
  unfold layAll
  rw [List.all_eq_true]
  simp
/-- what Lay answers -/
def layR (e64 : Int) (l : List (List Int)) : List Int × List Int × Int × Bool := if layAll e64 l = true then ((laySt e64 l l.length).1, layPl e64 l l.length, (laySt e64 l l.length).2, true) else ([], [], 0, false)
set_option maxRecDepth 100000 in
theorem rlay_l0 (e64 : Int) (l : List (List Int)) (he : 0 ≤ e64) (hl : ∀ x ∈ l, Bytes x) (hll : ∀ x ∈ l, x.length ≤ 140737488355328) (hn : l.length ≤ 1000000) (d : Nat) :
    ∀ (k i : Nat), i + d = l.length → (∀ j, j < i → layOk e64 l j = true) → 7000 + d ≤ k →
    strandlineref17_Lay.l0 k e64 l (laySt e64 l i).1 (layPl e64 l i) (laySt e64 l i).2 i = some (layR e64 l) := by
  induction d with
  | zero =>
    intro k i hi hok hk
    obtain ⟨k, rfl⟩ : ∃ j, k = j + 1 := ⟨k - 1, by omega⟩
    have hii : i = l.length := by omega
    subst hii
    simp only [strandlineref17_Lay.l0]
    rw [if_neg (by omega)]
    unfold layR
    rw [if_pos ((layAll_iff e64 l).2 hok)]
  | succ d ih =>
    intro k i hi hok hk
    obtain ⟨k, rfl⟩ : ∃ j, k = j + 1 := ⟨k - 1, by omega⟩
    have hlt : i < l.length := by omega
    have hend := laySt_end e64 l i
    have hx : rd_L1 l (i : Int) = l.getD i [] := by unfold rd_L1; rw [Int.toNat_natCast]
    have hmem : l.getD i [] ∈ l := by rw [List.getD_eq_getElem?_getD, List.getElem?_eq_getElem hlt]; exact List.getElem_mem hlt
    have hadd := radd_eq k (by omega) e64 (laySt e64 l i).1 (laySt e64 l i).2 (l.getD i []) he (hl _ hmem) (by rw [laySt_len]; decide) (hll _ hmem)
    simp only [strandlineref17_Lay.l0]
    rw [if_pos (by omega), rbegin_eq k (by omega), Option.bind_some, if_pos (by rw [layPl_len]; omega), if_pos (by omega), hx, hadd, Option.bind_some]
    unfold addR
    by_cases h : (cutP (laySt e64 l i).2 ((l.getD i []).length : Int)).2.2 = true
    · rw [if_pos h, if_pos rfl, w64 (by omega) (by omega)]
      have := ih k (i + 1) (by omega) (fun j hj => by
        by_cases e : j = i
        · subst e; exact h
        · exact hok j (by omega)) (by omega)
      rw [layPl_succ] at this
      exact this
    · rw [if_neg h, if_neg (by decide)]
      unfold layR
      rw [if_neg (fun ha => h ((layAll_iff e64 l).1 ha i hlt))]
theorem rlay_eq (k : Nat) (e64 : Int) (l : List (List Int)) (he : 0 ≤ e64) (hl : ∀ x ∈ l, Bytes x) (hll : ∀ x ∈ l, x.length ≤ 140737488355328) (hn : l.length ≤ 1000000) (hk : 7000 + l.length ≤ k) : strandlineref17_Lay.f k e64 l = some (layR e64 l) := by
  unfold strandlineref17_Lay.f
  rw [if_pos (by decide)]
  exact rlay_l0 e64 l he hl hll hn l.length k 0 (Nat.zero_add _) (fun j hj => absurd hj (Nat.not_lt_zero j)) hk
end Go.Proofs.YthhbilkmdfdfiaaDoor.Img
end

section
/- image.each: the iterator. -/
set_option linter.unusedVariables false
set_option linter.unusedSimpArgs false
namespace Go.Proofs.YthhbilkmdfdfiaaDoor.O
open Go.RowKit Go.Proofs.YthhbilkmdfdfiaaDoorW.PrintWords Go.Proofs.YthhbilkmdfdfiaaDoorW.PrintLast Go.Proofs.YthhbilkmdfdfiaaDoorW.PrintMore Go.Proofs.YthhbilkmdfdfiaaDoor.F Go.Proofs.YthhbilkmdfdfiaaDoor.F.Nums Go.Proofs.YthhbilkmdfdfiaaDoor.Plain Go.Proofs.YthhbilkmdfdfiaaDoor.Img
attribute [local go_sem] Oper.semAt_some
section
variable {P : Program} {n : Nat} {ops : Array Oper} {Q : Exit → Act → World → Prop}
end
theorem image_each_own {w0 W : World} {F : Nat → Option Obj} {L : List Res} (H : Own w0 F L W) (e64 : Int) (A : Option Addr) (m c : Nat) :
    Calls Tryd.prog 68 #[.int .u64 e64, .slice A m c] W fun e W' => ∃ ge gl, e = .returned (.func (.func 79) #[] #[.pointer (some ⟨gl, 0, none⟩), .pointer (some ⟨ge, 0, none⟩)]) ∧ Own w0 F (.blk gl 67 [.slice A m c] :: .blk ge 51 [.int .u64 e64] :: L) W' := by
  go_enter Tryd.func68, Tryd.ntmps68
  go_wp2_with (first
    | ((with_reducible refine gate_dst (N := 2) rfl ?_); refine l_box1 rfl H 51 _ rfl _ rfl rfl ?_; clear H; intro g2 W H)
    | ((with_reducible refine gate_dst (N := 3) rfl ?_); refine l_box1 rfl H 67 _ rfl _ rfl rfl ?_; clear H; intro g3 W H))
  go_ret
  exact ⟨_, _, rfl, H⟩
/-- what a call has made is added to what is owned -/
theorem Own.join1 {w0 W W' : World} {F : Nat → Option Obj} {L : List Res} {r : Res} (H : Own w0 F L W) (h : Own W F0 [r] W') : Own w0 F (r :: L) W' := by
  have ha := h.ats r (by simp)
  refine H.cons h.below ?_ (fun k hk => ha.base hk)
  cases r with
  | blk g t c => exact ⟨Nat.le_trans H.size ha.1, ha.2⟩
  | row v e sz n xs => exact own_weaken ha H.size
/-- record k -/
theorem rec_at {w : World} {A : Option Addr} {n : Nat} {l : List (List Int)} (h : Kd.C (Kd.slice 5 (Kd.int .u8)) w A n l) (k : Nat) (hk : k < n) :
    ∃ ad A2 c2, A = some ad ∧ w.cell? (ad.add k) = some (.slice A2 (l.getD k []).length c2) ∧ (l.getD k []).length ≤ c2 ∧ (Kd.int .u8).C w A2 (l.getD k []).length (l.getD k []) := by
  obtain ⟨ad, c, e, _, hK, hc0⟩ := Kd.C_get h [] (k : Int) (by omega) (by omega)
  obtain ⟨A2, c2, rfl, l2, g2⟩ := hK
  have := hc0 0 _ rfl
  rw [Int.toNat_natCast] at this l2 g2
  exact ⟨ad, A2, c2, e, by rw [show (Kd.slice 5 (Kd.int .u8)).sz = 1 from rfl, Nat.mul_one, Nat.add_zero] at this; exact this, l2, g2⟩
abbrev sl832 (g : Nat) : Value := .slice (some ⟨g, 0, none⟩) 832 832
/-- what the iterator owns between rounds, ahead of what it runs for -/
def EIt (e64 : Int) (l : List (List Int)) (A : Option Addr) (c gl ge gx gb : Nat) (a b : Int) (body : List Int) (L : List Res) : List Res :=
  .blk gx 101 [.int .i64 a, .int .i64 b, sl832 gb] :: .blk gb 5 (nums .u8 body) :: .blk gl 67 [.slice A l.length c] :: .blk ge 51 [.int .u64 e64] :: L
set_option maxRecDepth 100000 in
set_option maxHeartbeats 8000000 in
theorem each1_in (e64 : Int) (l : List (List Int)) (A : Option Addr) (c n lp gl ge N : Nat) {w0 W : World} {F1 : Nat → Option Obj} {L0 : List Res} (he : 0 ≤ e64 ∧ e64 ≤ 18446744073709551615) (hl : ∀ x ∈ l, Bytes x) (hll : ∀ x ∈ l, x.length < 140737488355328) (hn : l.length ≤ 1000000)
    (hC : (Kd.slice 5 (Kd.int .u8)).C w0 A l.length l) (hH : Half w0) (hN : ∀ k, k < N → layOk e64 l k = true) (hNl : N ≤ l.length) (hstop : N = l.length ∨ layOk e64 l N = false)
    (RC : Nat → Nat → List Res → Prop) (KF : World → Prop) (h0 : ∀ gb, RC 0 gb L0)
    (hY : ∀ k gx gb gb' L W, k < N → RC k gb L → Own w0 F1 (EIt e64 l A c gl ge gx gb' (layAt e64 l k) (laySt e64 l (k + 1)).2 (laySt e64 l (k + 1)).1 L) W →
      YieldAt Fence.wide n Tryd.prog lp #[.agg #[.int .i64 (layAt e64 l k), .int .i64 (laySt e64 l (k + 1)).2, sl832 gb']] W fun e W' => e = .returned (.bool true) ∧ ∃ L', RC (k + 1) gb' L' ∧ Own w0 F1 (EIt e64 l A c gl ge gx gb' (layAt e64 l k) (laySt e64 l (k + 1)).2 (laySt e64 l (k + 1)).1 L') W')
    (hYF : N < l.length → ∀ gx gb L W, RC N gb L → Own w0 F1 (.blk gx 101 [.int .i64 (layAt e64 l N), .int .i64 0, .slice none 0 0] :: .blk gl 67 [.slice A l.length c] :: .blk ge 51 [.int .u64 e64] :: L) W →
      YieldAt Fence.wide n Tryd.prog lp #[.agg #[.int .i64 (layAt e64 l N), .int .i64 0, .slice none 0 0]] W fun e W' => (∃ b, e = .returned (.bool b)) ∧ KF W')
    (H : Own w0 F1 (.blk gl 67 [.slice A l.length c] :: .blk ge 51 [.int .u64 e64] :: L0) W) :
    CallsIn Fence.wide n Tryd.prog 79 #[.func (.yield lp) #[] #[], .pointer (some ⟨gl, 0, none⟩), .pointer (some ⟨ge, 0, none⟩)] W fun e W' => (∃ v, e = .returned v) ∧
      ((N = l.length ∧ ∃ gx gb a L, RC N gb L ∧ Own w0 F1 (EIt e64 l A c gl ge gx gb a (laySt e64 l N).2 (laySt e64 l N).1 L) W') ∨ (N < l.length ∧ KF W')) := by
  refine callsIn_of_wp Tryd.func79 rfl trivial ?_ rfl
  simp only [Tryd.ntmps79, List.size_toArray, List.length_cons, List.length_nil, Nat.reduceAdd, Nat.reduceSub, Array.replicate_succ, Array.replicate_zero, List.push_toArray, List.append_toArray, List.nil_append, List.cons_append]
  refine wpIn_seq_k (fun K hK => ?_)
  refine wpIn_wide.2 ?_
  go_wp2_with (first
    | ((with_reducible refine gate_dst (N := 4) rfl ?_); refine l_allocA rfl H 101 rfl _ zero101 ?_; clear H; intro g4 W H)
    | ((with_reducible refine gate_store (t := 101) (p := 4) rfl ?_); refine l_storeW rfl H 101 _ _ rfl _ rfl _ rfl (by (repeat (first | exact In.head | apply In.tail))) _ size101 (by (first | rfl | assumption | omega | (simp only [nums_length]; omega) | (simp [nums_length, zs]; done) | (simp [nums_length, zs]; omega))) (by (first | rfl | assumption | omega | (simp only [nums_length]; omega) | (simp [nums_length, zs]; done) | (simp [nums_length, zs]; omega))) (by (first | exact nums_one | assumption | (intro u hu; simp at hu; subst hu; rfl) | (intro u hu; simp at hu; rcases hu with rfl | rfl | rfl | rfl | rfl | rfl | rfl <;> rfl) | (intro u hu; simp at hu; rcases hu with rfl | rfl | rfl | rfl <;> rfl) | (intro u hu; simp at hu; rcases hu with rfl | rfl | rfl <;> rfl) | (intro u hu; simp at hu; rcases hu with rfl | rfl <;> rfl))) ?_; clear H; intro W H)
    | ((with_reducible refine gate_dst (N := 11) rfl ?_); refine l_make1 rfl H 23 5 _ _ rfl 832 rfl rfl Tryd.underlying23 _ rfl _ inf5 (by decide) (by decide) ?_; clear H; intro gb W H; rw [show List.replicate 832 (Value.int .u8 0) = nums .u8 (zs 832) by simp [nums, zs]] at H))
  simp only [Act.put, List.setIfInBounds_toArray, List.set_cons_zero, List.set_cons_succ]
  refine wpIn_seq_k (fun K2 hK2 => ?_)
  refine wpIn_wide.2 ?_
  go_wp2_with (first
    | ((with_reducible refine gate_dst (N := 13) rfl ?_); refine l_load1 rfl H 67 _ rfl _ _ rfl (by (repeat (first | exact In.head | apply In.tail))) _ Tryd.underlying67 rfl _ (by first | rfl | assumption | exact nums_at _ (by omega)) ?_))
  generalize g4 = gx at H ⊢
  have HE : Own w0 F1 (EIt e64 l A c gl ge gx gb 0 (laySt e64 l 0).2 (laySt e64 l 0).1 L0) W := H
  clear H
  refine wpIn_block ?_
  gi_loopw [15] (fun p wr => ∃ (k gb : Nat) (a : Int) (L : List Res), p = .int .i64 (k : Int) ∧ k ≤ N ∧ RC k gb L ∧ Own w0 F1 (EIt e64 l A c gl ge gx gb a (laySt e64 l k).2 (laySt e64 l k).1 L) wr) (fun p _ => l.length - (intOf p).toNat)
  case atStart => exact ⟨0, gb, 0, L0, rfl, Nat.zero_le _, h0 gb, HE⟩
  case round =>
    clear HE
    obtain ⟨k, gb, a, L, rfl, hk, hRC, H⟩ := hrel
    unfold EIt at H
    by_cases ck : k < l.length
    · have q1 : decide (k < l.length) = true := decide_eq_true (by omega)
      have p1 : ((0 : Int) ≤ (k : Int)) = True := eq_true (by omega)
      have p2 : ((k : Int) < (l.length : Int)) = True := eq_true (by omega)
      obtain ⟨ad, A2, c2, rfl, hcell, l2, C2⟩ := rec_at hC k ck
      have hmem : l.getD k [] ∈ l := by rw [List.getD_eq_getElem?_getD, List.getElem?_eq_getElem ck]; exact List.getElem_mem ck
      obtain ⟨rk, hrk⟩ : ∃ r, l.getD k [] = r := ⟨_, rfl⟩
      rw [hrk] at hcell l2 C2 hmem
      have hcl : ∀ X : World, Below w0.heap.size w0 X → X.cell? (ad.add k) = some (.slice A2 rk.length c2) := fun X hb => (hb.cell (World.block_lt_of_cell? w0 _ hcell)).trans hcell
      have hbg := begin_eq (laySt e64 l k).2
      have hbl := laySt_len e64 l k
      have hbb := laySt_bytes e64 l hl k
      refine wpIn_seq_k (fun K3 hK3 => ?_)
      refine wpIn_wide.2 ?_
      go_wp2
      refine wpIn_seq_k (fun K4 hK4 => ?_)
      refine wpIn_cond_true rfl ?_
      refine wpIn_skip (hK4 _ _ ?_)
      refine wpIn_seq_k (fun K5 hK5 => ?_)
      refine wpIn_block ?_
      refine wpIn_seq_k (fun K6 hK6 => ?_)
      refine wpIn_wide.2 ?_
      go_wp2_with (first
        | ((with_reducible refine gate_dst (N := 18) rfl ?_); refine l_run rfl (.slice A2 rk.length c2) (r_loadC 23 _ rfl rfl (hcl _ H.below) _ Tryd.underlying23 rfl) ?_))
      refine wpIn_seq_k (fun K7 hK7 => ?_)
      refine wpIn_wide.2 ?_
      go_wp2_with (first
    | ((with_reducible refine gate_dst (N := 20) rfl ?_); refine l_load1 rfl H 3 _ rfl _ _ rfl (by (repeat (first | exact In.head | apply In.tail))) _ Tryd.underlying3 rfl _ (by first | rfl | assumption | exact nums_at _ (by omega)) ?_)
        | (go_at_call 75; (with_reducible refine (span_Begin.calls _ _ _ hbg).mono ?_); rintro e W ⟨rfl, hb⟩; replace H := H.to hb; clear hb))
      refine wpIn_seq_k (fun K8 hK8 => ?_)
      refine wpIn_wide.2 ?_
      by_cases cN : k < N
      · have hok := hN k cN
        unfold layOk at hok
        rw [← cutP_begin, hrk] at hok
        have hst1 : (laySt e64 l (k + 1)).1 = addB e64 (laySt e64 l k).1 (bg (cl (laySt e64 l k).2)) rk := by rw [← hrk]; exact (addB_begin _ _ _ _).symm
        have hst2 : (laySt e64 l (k + 1)).2 = (cutP (bg (cl (laySt e64 l k).2)) (rk.length : Int)).2.1 := by rw [cutP_begin, ← hrk]; rfl
        have AD := fun (X : World) (hCb : (Kd.int .u8).C X (some ⟨gb, 0, none⟩) (laySt e64 l k).1.length (laySt e64 l k).1) (hb : Below w0.heap.size w0 X) => add_ok e64 (laySt e64 l k).1 rk (some ⟨gb, 0, none⟩) A2 832 c2 (bg (cl (laySt e64 l k).2)) X hok hCb (by rw [hbl]; decide) hbb (Kd.C_below C2 hb) l2 (hl _ hmem) (hll _ hmem) (hH.below hb)
        rw [← hst1, ← hst2, hbl] at AD
        have hCb : ∀ {X : World} {L' : List Res} {cc : Res → List Res}, Own w0 F1 L' X → In L' (.blk gb 5 (nums .u8 (laySt e64 l k).1)) cc → (Kd.int .u8).C X (some ⟨gb, 0, none⟩) 832 (laySt e64 l k).1 := fun HX hI => by
          have := HX.C hI 0 832 (by rw [hbl]; decide) (by decide)
          rwa [List.drop_zero, List.take_of_length_le (by rw [hbl]; decide)] at this
        have hYk := hY k gx gb
        rw [show layAt e64 l k = bg (cl (laySt e64 l k).2) from rfl] at hYk
        have HREL : ∀ (X : World) (gb1 : Nat) (a : Int) (L' : List Res), RC (k + 1) gb1 L' → Own w0 F1 (EIt e64 l (some ad) c gl ge gx gb1 a (laySt e64 l (k + 1)).2 (laySt e64 l (k + 1)).1 L') X → ∃ (k' gb : Nat) (a : Int) (L : List Res), Value.int .i64 ((k + 1 : Nat) : Int) = .int .i64 (k' : Int) ∧ k' ≤ N ∧ RC k' gb L ∧ Own w0 F1 (EIt e64 l (some ad) c gl ge gx gb a (laySt e64 l k').2 (laySt e64 l k').1 L) X := fun X gb1 a L' hR HX => ⟨k + 1, gb1, a, L', rfl, cN, hR, HX⟩
        clear hstop hcl hok hbg hN
        generalize bg (cl (laySt e64 l k).2) = atk at *
        generalize hen1 : (laySt e64 l (k + 1)).2 = en1 at *
        generalize hB1 : (laySt e64 l (k + 1)).1 = bd1 at *
        generalize (laySt e64 l k).2 = en0 at *
        generalize (laySt e64 l k).1 = bd0 at *
        generalize hln : rk.length = nk at *
        clear hrk hst1 hst2 hen1 hB1 hln
        go_wp2_with (first
    | ((with_reducible refine gate_dst (N := 23) rfl ?_); refine l_load1 rfl H 51 _ rfl _ _ rfl (by (repeat (first | exact In.head | apply In.tail))) _ Tryd.underlying51 rfl _ (by first | rfl | assumption | exact nums_at _ (by omega)) ?_)
    | ((with_reducible refine gate_dst (N := 25) rfl ?_); refine l_load1 rfl H 23 _ rfl _ _ rfl (by (repeat (first | exact In.head | apply In.tail))) _ Tryd.underlying23 rfl _ (by first | rfl | assumption | exact nums_at _ (by omega)) ?_)
        | (go_at_call 43; (with_reducible refine (AD _ (hCb H (.tail .head)) H.below).mono ?_); rintro e W ⟨gb1, rfl, hO⟩; replace H := H.join1 hO; clear hO))
        refine wpIn_seq_k (fun K9 hK9 => ?_)
        refine wpIn_wide.2 ?_
        go_wp2_with (first
    | ((with_reducible refine gate_store (t := 101) (p := 4) rfl ?_); refine l_storeW rfl H 101 _ _ rfl _ rfl _ rfl (by (repeat (first | exact In.head | apply In.tail))) _ size101 (by (first | rfl | assumption | omega | (simp only [nums_length]; omega) | (simp [nums_length, zs]; done) | (simp [nums_length, zs]; omega))) (by (first | rfl | assumption | omega | (simp only [nums_length]; omega) | (simp [nums_length, zs]; done) | (simp [nums_length, zs]; omega))) (by (first | exact nums_one | assumption | (intro u hu; simp at hu; subst hu; rfl) | (intro u hu; simp at hu; rcases hu with rfl | rfl | rfl | rfl | rfl | rfl | rfl <;> rfl) | (intro u hu; simp at hu; rcases hu with rfl | rfl | rfl | rfl <;> rfl) | (intro u hu; simp at hu; rcases hu with rfl | rfl | rfl <;> rfl) | (intro u hu; simp at hu; rcases hu with rfl | rfl <;> rfl))) ?_; clear H; intro W H))
        simp only [Act.put, List.setIfInBounds_toArray, List.set_cons_zero, List.set_cons_succ]
        have H1 := (H.del (.tail (.tail .head))).perm (List.Perm.swap _ _ _)
        have H2 : Own w0 F1 (EIt e64 l (some ad) c gl ge gx gb1 atk en1 bd1 L) W := H1
        clear H H1 AD hCb
        have hyl := hYk gb1 L W cN hRC H2
        have c0 := H2.cell .head 0
        have c1 := H2.cell .head 1
        have c2 := H2.cell .head 2
        obtain ⟨fn, tmps, assign, body, hy, hR⟩ := hyl
        refine wpIn_seq_k (fun K10 hK10 => ?_)
        gi_wp2
        refine ⟨fun h => by simp [Fence.wide] at h, (RoundIn.mono (⟨hR.1, fun c cs _ => hR.2 c cs (room_wide _)⟩ : RoundIn Fence.wide (n - 1) Tryd.prog lp fn tmps assign body _ _) ?_)⟩
        rintro e W3 ⟨rfl, L', hRC', H3⟩
        gi_wp2
        refine ⟨HREL _ _ _ _ hRC' H3, ?_⟩
        have := ck
        simp [intOf]
        omega
      · obtain rfl : k = N := by omega
        have hno : layOk e64 l k = false := hstop.resolve_left (by omega)
        unfold layOk at hno
        rw [← cutP_begin, hrk] at hno
        have AD := fun (X : World) => add_no e64 (laySt e64 l k).1 rk (some ⟨gb, 0, none⟩) A2 832 c2 (bg (cl (laySt e64 l k).2)) X hno
        rw [hbl] at AD
        have hYk := hYF ck gx gb
        rw [show layAt e64 l k = bg (cl (laySt e64 l k).2) from rfl] at hYk
        clear hstop hcl hno hbg hN hrk hY
        generalize bg (cl (laySt e64 l k).2) = atk at *
        generalize (laySt e64 l k).2 = en0 at *
        generalize (laySt e64 l k).1 = bd0 at *
        generalize hln : rk.length = nk at *
        clear hln
        go_wp2_with (first
    | ((with_reducible refine gate_dst (N := 23) rfl ?_); refine l_load1 rfl H 51 _ rfl _ _ rfl (by (repeat (first | exact In.head | apply In.tail))) _ Tryd.underlying51 rfl _ (by first | rfl | assumption | exact nums_at _ (by omega)) ?_)
    | ((with_reducible refine gate_dst (N := 25) rfl ?_); refine l_load1 rfl H 23 _ rfl _ _ rfl (by (repeat (first | exact In.head | apply In.tail))) _ Tryd.underlying23 rfl _ (by first | rfl | assumption | exact nums_at _ (by omega)) ?_)
        | (go_at_call 43; (with_reducible refine (AD _).mono ?_); rintro e W ⟨rfl, hb⟩; replace H := H.to hb; clear hb))
        refine wpIn_seq_k (fun K9 hK9 => ?_)
        refine wpIn_wide.2 ?_
        go_wp2_with (first
    | ((with_reducible refine gate_store (t := 101) (p := 4) rfl ?_); refine l_storeW rfl H 101 _ _ rfl _ rfl _ rfl (by (repeat (first | exact In.head | apply In.tail))) _ size101 (by (first | rfl | assumption | omega | (simp only [nums_length]; omega) | (simp [nums_length, zs]; done) | (simp [nums_length, zs]; omega))) (by (first | rfl | assumption | omega | (simp only [nums_length]; omega) | (simp [nums_length, zs]; done) | (simp [nums_length, zs]; omega))) (by (first | exact nums_one | assumption | (intro u hu; simp at hu; subst hu; rfl) | (intro u hu; simp at hu; rcases hu with rfl | rfl | rfl | rfl | rfl | rfl | rfl <;> rfl) | (intro u hu; simp at hu; rcases hu with rfl | rfl | rfl | rfl <;> rfl) | (intro u hu; simp at hu; rcases hu with rfl | rfl | rfl <;> rfl) | (intro u hu; simp at hu; rcases hu with rfl | rfl <;> rfl))) ?_; clear H; intro W H))
        simp only [Act.put, List.setIfInBounds_toArray, List.set_cons_zero, List.set_cons_succ]
        have H1 := H.del (.tail .head)
        have hyl := hYk L W hRC H1
        have c0 := H1.cell .head 0
        have c1 := H1.cell .head 1
        have c2 := H1.cell .head 2
        obtain ⟨fn, tmps, assign, body, hy, hR⟩ := hyl
        refine wpIn_seq_k (fun K10 hK10 => ?_)
        gi_wp2
        refine ⟨fun h => by simp [Fence.wide] at h, (RoundIn.mono (⟨hR.1, fun c cs _ => hR.2 c cs (room_wide _)⟩ : RoundIn Fence.wide (n - 1) Tryd.prog lp fn tmps assign body _ _) ?_)⟩
        rintro e W3 ⟨⟨b, rfl⟩, hKF⟩
        cases b
        all_goals
          gi_wp2
          refine bodyPost_ret (results_none rfl _ _ _) rfl ?_
          exact ⟨⟨_, rfl⟩, .inr ⟨ck, hKF⟩⟩
    · have ek : k = l.length := by omega
      subst ek
      have eN : N = l.length := by omega
      have q1 : decide ((l.length : Int) < (l.length : Int)) = false := decide_eq_false (by omega)
      gi_wp2
      go_end0
      exact ⟨⟨_, rfl⟩, .inl ⟨eN, gx, gb, a, L, by rw [eN]; exact hRC, by rw [eN]; exact H⟩⟩
end Go.Proofs.YthhbilkmdfdfiaaDoor.O
end

section
/- image.Body, by what is owned. -/
set_option linter.unusedVariables false
set_option linter.unusedSimpArgs false
namespace Go.Proofs.YthhbilkmdfdfiaaDoor.O
open Go.RowKit Go.Proofs.YthhbilkmdfdfiaaDoorW.PrintWords Go.Proofs.YthhbilkmdfdfiaaDoorW.PrintLast Go.Proofs.YthhbilkmdfdfiaaDoorW.PrintMore Go.Proofs.YthhbilkmdfdfiaaDoor.F Go.Proofs.YthhbilkmdfdfiaaDoor.F.Nums Go.Proofs.YthhbilkmdfdfiaaDoor.Plain Go.Proofs.YthhbilkmdfdfiaaDoor.Img
attribute [local go_sem] Oper.semAt_some
/-- how many of the first records fit -/
theorem first_bad (e64 : Int) (l : List (List Int)) : ∃ N, N ≤ l.length ∧ (∀ k, k < N → layOk e64 l k = true) ∧ (N = l.length ∨ layOk e64 l N = false) := by
  have key : ∀ m, m ≤ l.length → (∀ k, k < m → layOk e64 l k = true) ∨ ∃ N, N < m ∧ (∀ k, k < N → layOk e64 l k = true) ∧ layOk e64 l N = false := by
    intro m
    induction m with
    | zero => exact fun _ => .inl fun k hk => absurd hk (Nat.not_lt_zero k)
    | succ m ih =>
      intro hm
      rcases ih (by omega) with h | ⟨N, h1, h2, h3⟩
      · cases hc : layOk e64 l m with
        | true =>
          left
          intro k hk
          by_cases e : k = m
          · subst e; exact hc
          · exact h k (by omega)
        | false => exact .inr ⟨m, by omega, h, hc⟩
      · exact .inr ⟨N, by omega, h2, h3⟩
  rcases key l.length (Nat.le_refl _) with h | ⟨N, h1, h2, h3⟩
  · exact ⟨l.length, Nat.le_refl _, h, .inl rfl⟩
  · exact ⟨N, by omega, h2, .inr h3⟩
theorem bad_all {e64 : Int} {l : List (List Int)} {N : Nat} (h1 : N ≤ l.length) (h2 : ∀ k, k < N → layOk e64 l k = true) (h3 : N = l.length ∨ layOk e64 l N = false) : layAll e64 l = decide (N = l.length) := by
  by_cases h : N = l.length
  · rw [decide_eq_true h]
    exact (layAll_iff e64 l).2 (fun k hk => h2 k (by omega))
  · rw [decide_eq_false h]
    cases ha : layAll e64 l with
    | false => rfl
    | true =>
      have := (layAll_iff e64 l).1 ha N (by omega)
      rw [h3.resolve_left h] at this
      cases this
set_option maxRecDepth 100000 in
set_option maxHeartbeats 8000000 in
theorem body_calls (e64 : Int) (l : List (List Int)) (A : Option Addr) (c : Nat) (w : World) (he : 0 ≤ e64 ∧ e64 ≤ 18446744073709551615) (hl : ∀ x ∈ l, Bytes x) (hll : ∀ x ∈ l, x.length < 140737488355328) (hn : l.length ≤ 1000000)
    (hC : (Kd.slice 5 (Kd.int .u8)).C w A l.length l) (hH : Half w) :
    Calls Tryd.prog 46 #[.int .u64 e64, .slice A l.length c] w fun e W => (layAll e64 l = true ∧ ∃ g, e = .returned (.tuple #[sl832 g, .int .i64 (laySt e64 l l.length).2, .bool true]) ∧ Own w F0 [.blk g 5 (nums .u8 (laySt e64 l l.length).1)] W) ∨
      (layAll e64 l = false ∧ e = .returned (.tuple #[.slice none 0 0, .int .i64 0, .bool false]) ∧ Below w.heap.size w W) := by
  obtain ⟨N, hN1, hN2, hN3⟩ := first_bad e64 l
  rw [bad_all hN1 hN2 hN3]
  have H := Own.start w
  refine (callsIn_wide (n := 9)).1 (callsIn_of_wp_marks Tryd.func46 rfl trivial ?_ rfl)
  simp only [Tryd.ntmps46, List.size_toArray, List.length_cons, List.length_nil, Nat.reduceAdd, Nat.reduceSub, Array.replicate_succ, Array.replicate_zero, List.push_toArray, List.append_toArray, List.nil_append, List.cons_append]
  refine wpIn_seq_k (fun K hK => ?_)
  refine wpIn_wide.2 ?_
  go_wp2
  refine wpIn_seq_k (fun K1 hK1 => ?_)
  refine wpIn_wide.2 ?_
  go_wp2_with (first
    | ((with_reducible refine gate_dst (N := 7) rfl ?_); refine l_allocA rfl H 101 rfl _ zero101 ?_; clear H; intro g7 W H)
    | ((with_reducible refine gate_store (t := 101) (p := 7) rfl ?_); refine l_storeW rfl H 101 _ _ rfl _ rfl _ rfl (by (repeat (first | exact In.head | apply In.tail))) _ size101 (by (first | rfl | assumption | omega | (simp only [nums_length]; omega) | (simp [nums_length, zs]; done) | (simp [nums_length, zs]; omega))) (by (first | rfl | assumption | omega | (simp only [nums_length]; omega) | (simp [nums_length, zs]; done) | (simp [nums_length, zs]; omega))) (by (first | exact nums_one | assumption | (intro u hu; simp at hu; subst hu; rfl) | (intro u hu; simp at hu; rcases hu with rfl | rfl | rfl | rfl | rfl | rfl | rfl <;> rfl) | (intro u hu; simp at hu; rcases hu with rfl | rfl | rfl | rfl <;> rfl) | (intro u hu; simp at hu; rcases hu with rfl | rfl | rfl <;> rfl) | (intro u hu; simp at hu; rcases hu with rfl | rfl <;> rfl))) ?_; clear H; intro W H)
    | ((with_reducible refine gate_dst (N := 9) rfl ?_); refine l_make1 rfl H 23 5 _ _ rfl 832 rfl rfl Tryd.underlying23 _ rfl _ inf5 (by decide) (by decide) ?_; clear H; intro gm W H; rw [show List.replicate 832 (Value.int .u8 0) = nums .u8 (zs 832) by simp [nums, zs]] at H))
  simp only [Act.put, List.setIfInBounds_toArray, List.set_cons_zero, List.set_cons_succ]
  refine wpIn_seq_k (fun K2 hK2 => ?_)
  refine wpIn_seq_k (fun K3 hK3 => ?_)
  refine wpIn_wide.2 ?_
  go_wp2_with (first
    | (go_at_call 68; (refine (image_each_own H e64 A l.length c).mono ?_); clear H; rintro e W ⟨ge, gl, rfl, H⟩))
  refine wpIn_block ?_
  obtain ⟨LST, hLST⟩ : ∃ LST : Int → Int → Value → List Res, LST = fun a b s => [.blk g7 101 [.int .i64 a, .int .i64 b, s], .blk gm 5 (nums .u8 (zs 832))] := ⟨_, rfl⟩
  have H0 : Own w F0 (.blk gl 67 [.slice A l.length c] :: .blk ge 51 [.int .u64 e64] :: LST 0 0 (sl832 gm)) W := by rw [hLST]; exact H
  clear H
  refine rf_gen (ι := List Res) (n := 8) rfl (Go.Proofs.enters_of Tryd.func79 (by kernel_rfl) rfl) rfl H0
    (fun P v L => (∃ va vb vs, v = .agg #[.int .i64 va, .int .i64 vb, vs] ∧ vs.cells = #[vs] ∧ vs.oneCell' = true) ∧ ∃ a b s, L = P ++ LST a b s) (fun P v L => ∃ va vb vs, v = .agg #[.int .i64 va, .int .i64 vb, vs] ∧ L = P ++ LST va vb vs)
    (fun P v a1 L => ∃ va vb vs a b s g8, v = .agg #[.int .i64 va, .int .i64 vb, vs] ∧ vs.cells = #[vs] ∧ vs.oneCell' = true ∧ a1 = { tmps := #[.int .u64 e64, .slice A l.length c, undef, undef, .slice none 0 0, .int .i64 0, .bool false, .pointer (some ⟨g7, 0, none⟩), .pointer (some ⟨g8, 0, none⟩), sl832 gm, .agg #[.int .i64 0, .int .i64 0, sl832 gm], .int .u64 e64, .slice A l.length c, .func (.func 79) #[] #[.pointer (some ⟨gl, 0, none⟩), .pointer (some ⟨ge, 0, none⟩)], .agg #[.int .i64 va, .int .i64 vb, vs], undef, undef, undef, undef, undef, undef, undef, undef], defers := [] } ∧ L = .blk g8 101 [.int .i64 va, .int .i64 vb, vs] :: (LST a b s ++ P))
    (fun _ _ _ => False)
    (fun L => (N = l.length ∧ ∃ gx gb a a', L = EIt e64 l A c gl ge gx gb a (laySt e64 l N).2 (laySt e64 l N).1 (LST a' (laySt e64 l N).2 (sl832 (if N = 0 then gm else gb)))) ∨ (N < l.length ∧ ∃ P at', L = P ++ LST at' 0 (.slice none 0 0))) (fun _ => False) ?hseq ?assign ?body ?done ?left
  case hseq =>
    intro F1 F2 lp W1 H1 hY
    have CN := Kd.C_below hC (Below.refl w.heap.size w)
    refine (each1_in e64 l A c 8 lp gl ge N (w0 := w) (F1 := F1) he hl hll hn hC hH hN2 hN1 hN3 (fun k gb L => ∃ a, L = LST a (laySt e64 l k).2 (sl832 (if k = 0 then gm else gb))) (fun W' => ∃ P at', Own w F1 (P ++ LST at' 0 (.slice none 0 0)) W') (fun gb => ⟨0, rfl⟩) ?_ ?_ H1).mono ?_
    · rintro k gx gb gb1 L W2 hk ⟨a, rfl⟩ HX
      obtain ⟨fn, tmps, assign, body, hy, hR⟩ := hY (EIt e64 l A c gl ge gx gb1 (layAt e64 l k) (laySt e64 l (k + 1)).2 (laySt e64 l (k + 1)).1 []) (.agg #[.int .i64 (layAt e64 l k), .int .i64 (laySt e64 l (k + 1)).2, sl832 gb1]) _ W2 ⟨⟨_, _, _, rfl, rfl, rfl⟩, a, (laySt e64 l k).2, sl832 (if k = 0 then gm else gb), rfl⟩ HX
      refine ⟨fn, tmps, assign, body, hy, RoundIn.mono hR ?_⟩
      rintro e W3 (⟨rfl, L', ⟨va, vb, vs, hv, rfl⟩, HO⟩ | ⟨-, L', hF, -⟩)
      · injection hv with hv
        simp only [Array.mk.injEq, List.cons.injEq, Value.int.injEq, true_and, and_true] at hv
        obtain ⟨rfl, rfl, rfl⟩ := hv
        exact ⟨rfl, LST (layAt e64 l k) (laySt e64 l (k + 1)).2 (sl832 gb1), ⟨layAt e64 l k, by rw [if_neg (Nat.succ_ne_zero k)]⟩, HO⟩
      · exact hF.elim
    · rintro hlt gx gb L W2 ⟨a, rfl⟩ HX
      obtain ⟨fn, tmps, assign, body, hy, hR⟩ := hY [.blk gx 101 [.int .i64 (layAt e64 l N), .int .i64 0, .slice none 0 0], .blk gl 67 [.slice A l.length c], .blk ge 51 [.int .u64 e64]] (.agg #[.int .i64 (layAt e64 l N), .int .i64 0, .slice none 0 0]) _ W2 ⟨⟨_, _, _, rfl, rfl, rfl⟩, a, (laySt e64 l N).2, sl832 (if N = 0 then gm else gb), rfl⟩ HX
      refine ⟨fn, tmps, assign, body, hy, RoundIn.mono hR ?_⟩
      rintro e W3 (⟨rfl, L', ⟨va, vb, vs, hv, rfl⟩, HO⟩ | ⟨-, L', hF, -⟩)
      · injection hv with hv
        simp only [Array.mk.injEq, List.cons.injEq, Value.int.injEq, true_and, and_true] at hv
        obtain ⟨rfl, rfl, rfl⟩ := hv
        exact ⟨⟨true, rfl⟩, _, _, HO⟩
      · exact hF.elim
    · rintro e W3 ⟨hv, h⟩
      refine ⟨hv, .inl ?_⟩
      rcases h with ⟨hN, gx, gb, a, L, ⟨a', rfl⟩, HO⟩ | ⟨hN, P, at', HO⟩
      · exact ⟨_, .inl ⟨hN, gx, gb, a, a', rfl⟩, HO⟩
      · exact ⟨_, .inr ⟨hN, P, at', rfl⟩, HO⟩
  case assign =>
    rintro F1 lp P v L W ⟨⟨va, vb, vs, rfl, hc, h1⟩, a, b, s, rfl⟩ H1
    refine regIn_lit rfl (fun ⟨_, _, h⟩ => h) ?_
    simp only [List.zip_toArray, List.zip_cons_cons, List.zip_nil_right, List.zip_nil_left, List.foldl_toArray, List.foldl_cons, List.foldl_nil, List.setIfInBounds_toArray, List.set_cons_zero, List.set_cons_succ]
    have H := H1.perm List.perm_append_comm
    clear H1
    have hO : ∀ u ∈ [Value.int .i64 va, Value.int .i64 vb, vs], u.oneCell' = true := by intro u hu; simp at hu; rcases hu with rfl | rfl | rfl <;> first | rfl | exact h1
    go_wp2_with (first
    | ((with_reducible refine gate_dst (N := 8) rfl ?_); refine l_allocA rfl H 101 rfl _ zero101 ?_; clear H; intro g8 W H)
    | ((with_reducible refine gate_store (t := 101) (p := 8) rfl ?_); refine l_storeW rfl H 101 _ _ rfl _ rfl _ rfl (by (repeat (first | exact In.head | apply In.tail))) _ size101 (by (first | rfl | assumption | omega | (simp only [nums_length]; omega) | (simp [nums_length, zs]; done) | (simp [nums_length, zs]; omega))) (by (first | rfl | assumption | omega | (simp only [nums_length]; omega) | (simp [nums_length, zs]; done) | (simp [nums_length, zs]; omega))) (by (first | exact nums_one | assumption | (intro u hu; simp at hu; subst hu; rfl) | (intro u hu; simp at hu; rcases hu with rfl | rfl | rfl | rfl | rfl | rfl | rfl <;> rfl) | (intro u hu; simp at hu; rcases hu with rfl | rfl | rfl | rfl <;> rfl) | (intro u hu; simp at hu; rcases hu with rfl | rfl | rfl <;> rfl) | (intro u hu; simp at hu; rcases hu with rfl | rfl <;> rfl))) ?_; clear H; intro W H))
    exact ⟨_, ⟨va, vb, vs, a, b, s, g8, rfl, hc, h1, rfl, rfl⟩, H⟩
  case body =>
    rintro F1 lp P v a1 L W ⟨va, vb, vs, a, b, s, g8, rfl, hc, h1, rfl, rfl⟩ H
    refine wpIn_block ?_
    refine regIn_lit rfl (fun ⟨_, _, h⟩ => h) ?_
    rw [hLST] at H ⊢
    simp only [List.cons_append, List.nil_append] at H
    have hO : ∀ u ∈ [Value.int .i64 va, Value.int .i64 vb, vs], u.oneCell' = true := by intro u hu; simp at hu; rcases hu with rfl | rfl | rfl <;> first | rfl | exact h1
    go_wp2_with (first
    | ((with_reducible refine gate_dst (N := 15) rfl ?_); refine l_loadA rfl H 101 _ rfl _ rfl (by (repeat (first | exact In.head | apply In.tail))) _ _ Tryd.underlying101 rfl size101 (by (first | rfl | assumption | omega | (simp only [nums_length]; omega) | (simp [nums_length, zs]; done) | (simp [nums_length, zs]; omega))) ?_)
    | ((with_reducible refine gate_store (t := 101) (p := 7) rfl ?_); refine l_storeW rfl H 101 _ _ rfl _ rfl _ rfl (by (repeat (first | exact In.head | apply In.tail))) _ size101 (by (first | rfl | assumption | omega | (simp only [nums_length]; omega) | (simp [nums_length, zs]; done) | (simp [nums_length, zs]; omega))) (by (first | rfl | assumption | omega | (simp only [nums_length]; omega) | (simp [nums_length, zs]; done) | (simp [nums_length, zs]; omega))) (by (first | exact nums_one | assumption | (intro u hu; simp at hu; subst hu; rfl) | (intro u hu; simp at hu; rcases hu with rfl | rfl | rfl | rfl | rfl | rfl | rfl <;> rfl) | (intro u hu; simp at hu; rcases hu with rfl | rfl | rfl | rfl <;> rfl) | (intro u hu; simp at hu; rcases hu with rfl | rfl | rfl <;> rfl) | (intro u hu; simp at hu; rcases hu with rfl | rfl <;> rfl))) ?_; clear H; intro W H))
    have H2 := (H.del .head).perm (List.perm_append_comm (l₁ := [_, _]) (l₂ := P))
    exact ⟨_, ⟨va, vb, vs, rfl, rfl⟩, H2⟩
  case left => exact fun _ _ _ _ h => h.elim
  case done =>
    rintro F1 D L W hRN H hF hD
    rcases hRN with ⟨hN, gx, gb, a, a', rfl⟩ | ⟨hN, P, at', rfl⟩
    · refine hK2 _ _ ?_
      rw [hLST] at H
      unfold EIt at H
      obtain ⟨gq, hgq⟩ : ∃ g, (if N = 0 then gm else gb) = g := ⟨_, rfl⟩
      rw [hgq] at H
      refine wpIn_seq_k (fun K5 hK5 => ?_)
      refine wpIn_mono (Q := Exit.then K5 (fun _ _ _ => False)) ?_ (fun e a w h => by cases e <;> first | exact h | exact h.elim)
      refine wpIn_wide.2 ?_
      refine start_ (n := 10) (S := Own _ _ _) (ds := []) #[false, false, false, false, false, false, false, false, false, false] (by kernel_rfl) rfl rfl H.drew (fun hHeld => ?_)
      replace H := H.drew
      generalize World.drew _ = W at H hHeld ⊢
      refine pure_ (i := 0) (N := some 16) (v := ?_) (a' := ?_) #[true, false, false, false, false, false, false, false, false, false] rfl rfl (by kernel_rfl) (fun _ _ _ h => h) (Or.inl ⟨by rfl, ?_⟩) ?_ ?_
      rotate_left
      · intro w'
        go_simp
        with_reducible rfl
      rotate_left
      · simp only [Act.put, List.setIfInBounds_toArray, List.set_cons_zero, List.set_cons_succ, i64_w, i32_w]
        rfl
      refine pure_ (i := 2) (N := some 18) (v := ?_) (a' := ?_) #[true, false, true, false, false, false, false, false, false, false] rfl rfl (by kernel_rfl) (fun _ _ _ h => h) (Or.inl ⟨by rfl, ?_⟩) ?_ ?_
      rotate_left
      · intro w'
        go_simp
        with_reducible rfl
      rotate_left
      · simp only [Act.put, List.setIfInBounds_toArray, List.set_cons_zero, List.set_cons_succ, i64_w, i32_w]
        rfl
      refine pure_ (i := 4) (N := some 20) (v := ?_) (a' := ?_) #[true, false, true, false, true, false, false, false, false, false] rfl rfl (by kernel_rfl) (fun _ _ _ h => h) (Or.inl ⟨by rfl, ?_⟩) ?_ ?_
      rotate_left
      · intro w'
        go_simp
        with_reducible rfl
      rotate_left
      · simp only [Act.put, List.setIfInBounds_toArray, List.set_cons_zero, List.set_cons_succ, i64_w, i32_w]
        rfl
      refine take_load1 (i := 1) (N := some 17) (a' := ?_) #[true, true, true, false, true, false, false, false, false, false] rfl rfl (by kernel_rfl) (fun _ _ _ _ h => h) (by rfl) hHeld 23 _ rfl _ _ rfl (by (repeat (first | exact In.head | apply In.tail))) _ Tryd.underlying23 rfl _ (by first | rfl | assumption | exact nums_at _ (by omega)) ?_ ?_
      rotate_left
      · simp only [Act.put, List.setIfInBounds_toArray, List.set_cons_zero, List.set_cons_succ, i64_w, i32_w]
        rfl
      refine pure_ (i := 7) (N := some 4) (v := ?_) (a' := ?_) #[true, true, true, false, true, false, false, true, false, false] rfl rfl (by kernel_rfl) (fun _ _ _ h => h) (Or.inl ⟨by rfl, ?_⟩) ?_ ?_
      rotate_left
      · intro w'
        go_simp
        with_reducible rfl
      rotate_left
      · simp only [Act.put, List.setIfInBounds_toArray, List.set_cons_zero, List.set_cons_succ, i64_w, i32_w]
        rfl
      refine take_load1 (i := 3) (N := some 19) (a' := ?_) #[true, true, true, true, true, false, false, true, false, false] rfl rfl (by kernel_rfl) (fun _ _ _ _ h => h) (by rfl) hHeld 3 _ rfl _ _ rfl (by (repeat (first | exact In.head | apply In.tail))) _ Tryd.underlying3 rfl _ (by first | rfl | assumption | exact nums_at _ (by omega)) ?_ ?_
      rotate_left
      · simp only [Act.put, List.setIfInBounds_toArray, List.set_cons_zero, List.set_cons_succ, i64_w, i32_w]
        rfl
      refine pure_ (i := 8) (N := some 5) (v := ?_) (a' := ?_) #[true, true, true, true, true, false, false, true, true, false] rfl rfl (by kernel_rfl) (fun _ _ _ h => h) (Or.inl ⟨by rfl, ?_⟩) ?_ ?_
      rotate_left
      · intro w'
        go_simp
        with_reducible rfl
      rotate_left
      · simp only [Act.put, List.setIfInBounds_toArray, List.set_cons_zero, List.set_cons_succ, i64_w, i32_w]
        rfl
      refine one_ (i := 5) (N := some 21) #[true, true, true, true, true, true, false, true, true, false] rfl rfl (by kernel_rfl) (by decide) (fun K hK => ?_)
      refine wanted_ rfl ?_
      refine w_load1 H 23 _ rfl _ _ rfl (by (repeat (first | exact In.head | apply In.tail))) _ Tryd.underlying23 rfl _ (by first | rfl | assumption | exact nums_at _ (by omega)) ?_
      refine hK.out _ _ ?_ (fun hHeld => ?_)
      · first | trivial | exact H | exact H.del .head | exact (H.del .head).del .head
      clear hK K
      refine norm_ (a' := ?_) ?_ ?_
      rotate_left
      · show Act.put _ (some 21) _ = _
        simp only [Act.put, List.setIfInBounds_toArray, List.set_cons_zero, List.set_cons_succ, i64_w, i32_w]
        rfl
      refine pure_ (i := 6) (N := some 22) (v := ?_) (a' := ?_) #[true, true, true, true, true, true, true, true, true, false] rfl rfl (by kernel_rfl) (fun _ _ _ h => h) (Or.inl ⟨by rfl, ?_⟩) ?_ ?_
      rotate_left
      · intro w'
        (go_simp; rw [run_neq_slice_nil w' 23 5 _ _ _ Tryd.underlying23]; rfl)
      rotate_left
      · simp only [Act.put, List.setIfInBounds_toArray, List.set_cons_zero, List.set_cons_succ, i64_w, i32_w]
        rfl
      refine pure_ (i := 9) (N := some 6) (v := ?_) (a' := ?_) #[true, true, true, true, true, true, true, true, true, true] rfl rfl (by kernel_rfl) (fun _ _ _ h => h) (Or.inl ⟨by rfl, ?_⟩) ?_ ?_
      rotate_left
      · intro w'
        go_simp
        with_reducible rfl
      rotate_left
      · simp only [Act.put, List.setIfInBounds_toArray, List.set_cons_zero, List.set_cons_succ, i64_w, i32_w]
        rfl
      refine done_ (by kernel_rfl) ?_
      clear hHeld
      refine hK5 _ _ ?_
      gi_wp2
      refine ⟨by simp, .inl ⟨_, _, rfl, run_takeDeferred (H.holds D _ hF), ?_⟩⟩
      have H1 := H.putF D _ (.deferred none) hF hD
      refine ⟨_, results_tmp3 rfl _ _ _, gq, rfl, ?_⟩
      have H2 := (H1.del .head)
      rw [hN] at hgq
      try rw [hN] at H2
      by_cases h0 : l.length = 0
      · rw [if_pos h0] at hgq
        subst hgq
        have H3 := (((H2.del .head).del .head).del .head).del .head
        rw [h0]
        exact H3.slack (fun g o h => by cases h)
      · rw [if_neg h0] at hgq
        subst hgq
        have H3 := (((H2.del (.tail .head)).del (.tail .head)).del (.tail .head)).del (.tail .head)
        exact H3.slack (fun g o h => by cases h)
    · refine hK2 _ _ ?_
      replace H := H.perm List.perm_append_comm
      rw [hLST] at H
      simp only [List.cons_append, List.nil_append] at H
      have hNe : ¬ N = l.length := by omega
      refine wpIn_seq_k (fun K5 hK5 => ?_)
      refine wpIn_mono (Q := Exit.then K5 (fun _ _ _ => False)) ?_ (fun e a w h => by cases e <;> first | exact h | exact h.elim)
      refine wpIn_wide.2 ?_
      refine start_ (n := 10) (S := Own _ _ _) (ds := []) #[false, false, false, false, false, false, false, false, false, false] (by kernel_rfl) rfl rfl H.drew (fun hHeld => ?_)
      replace H := H.drew
      generalize World.drew _ = W at H hHeld ⊢
      refine pure_ (i := 0) (N := some 16) (v := ?_) (a' := ?_) #[true, false, false, false, false, false, false, false, false, false] rfl rfl (by kernel_rfl) (fun _ _ _ h => h) (Or.inl ⟨by rfl, ?_⟩) ?_ ?_
      rotate_left
      · intro w'
        go_simp
        with_reducible rfl
      rotate_left
      · simp only [Act.put, List.setIfInBounds_toArray, List.set_cons_zero, List.set_cons_succ, i64_w, i32_w]
        rfl
      refine pure_ (i := 2) (N := some 18) (v := ?_) (a' := ?_) #[true, false, true, false, false, false, false, false, false, false] rfl rfl (by kernel_rfl) (fun _ _ _ h => h) (Or.inl ⟨by rfl, ?_⟩) ?_ ?_
      rotate_left
      · intro w'
        go_simp
        with_reducible rfl
      rotate_left
      · simp only [Act.put, List.setIfInBounds_toArray, List.set_cons_zero, List.set_cons_succ, i64_w, i32_w]
        rfl
      refine pure_ (i := 4) (N := some 20) (v := ?_) (a' := ?_) #[true, false, true, false, true, false, false, false, false, false] rfl rfl (by kernel_rfl) (fun _ _ _ h => h) (Or.inl ⟨by rfl, ?_⟩) ?_ ?_
      rotate_left
      · intro w'
        go_simp
        with_reducible rfl
      rotate_left
      · simp only [Act.put, List.setIfInBounds_toArray, List.set_cons_zero, List.set_cons_succ, i64_w, i32_w]
        rfl
      refine take_load1 (i := 1) (N := some 17) (a' := ?_) #[true, true, true, false, true, false, false, false, false, false] rfl rfl (by kernel_rfl) (fun _ _ _ _ h => h) (by rfl) hHeld 23 _ rfl _ _ rfl (by (repeat (first | exact In.head | apply In.tail))) _ Tryd.underlying23 rfl _ (by first | rfl | assumption | exact nums_at _ (by omega)) ?_ ?_
      rotate_left
      · simp only [Act.put, List.setIfInBounds_toArray, List.set_cons_zero, List.set_cons_succ, i64_w, i32_w]
        rfl
      refine pure_ (i := 7) (N := some 4) (v := ?_) (a' := ?_) #[true, true, true, false, true, false, false, true, false, false] rfl rfl (by kernel_rfl) (fun _ _ _ h => h) (Or.inl ⟨by rfl, ?_⟩) ?_ ?_
      rotate_left
      · intro w'
        go_simp
        with_reducible rfl
      rotate_left
      · simp only [Act.put, List.setIfInBounds_toArray, List.set_cons_zero, List.set_cons_succ, i64_w, i32_w]
        rfl
      refine take_load1 (i := 3) (N := some 19) (a' := ?_) #[true, true, true, true, true, false, false, true, false, false] rfl rfl (by kernel_rfl) (fun _ _ _ _ h => h) (by rfl) hHeld 3 _ rfl _ _ rfl (by (repeat (first | exact In.head | apply In.tail))) _ Tryd.underlying3 rfl _ (by first | rfl | assumption | exact nums_at _ (by omega)) ?_ ?_
      rotate_left
      · simp only [Act.put, List.setIfInBounds_toArray, List.set_cons_zero, List.set_cons_succ, i64_w, i32_w]
        rfl
      refine pure_ (i := 8) (N := some 5) (v := ?_) (a' := ?_) #[true, true, true, true, true, false, false, true, true, false] rfl rfl (by kernel_rfl) (fun _ _ _ h => h) (Or.inl ⟨by rfl, ?_⟩) ?_ ?_
      rotate_left
      · intro w'
        go_simp
        with_reducible rfl
      rotate_left
      · simp only [Act.put, List.setIfInBounds_toArray, List.set_cons_zero, List.set_cons_succ, i64_w, i32_w]
        rfl
      refine one_ (i := 5) (N := some 21) #[true, true, true, true, true, true, false, true, true, false] rfl rfl (by kernel_rfl) (by decide) (fun K hK => ?_)
      refine wanted_ rfl ?_
      refine w_load1 H 23 _ rfl _ _ rfl (by (repeat (first | exact In.head | apply In.tail))) _ Tryd.underlying23 rfl _ (by first | rfl | assumption | exact nums_at _ (by omega)) ?_
      refine hK.out _ _ ?_ (fun hHeld => ?_)
      · first | trivial | exact H | exact H.del .head | exact (H.del .head).del .head
      clear hK K
      refine norm_ (a' := ?_) ?_ ?_
      rotate_left
      · show Act.put _ (some 21) _ = _
        simp only [Act.put, List.setIfInBounds_toArray, List.set_cons_zero, List.set_cons_succ, i64_w, i32_w]
        rfl
      refine pure_ (i := 6) (N := some 22) (v := ?_) (a' := ?_) #[true, true, true, true, true, true, true, true, true, false] rfl rfl (by kernel_rfl) (fun _ _ _ h => h) (Or.inl ⟨by rfl, ?_⟩) ?_ ?_
      rotate_left
      · intro w'
        (go_simp; rw [run_neq_slice_nil w' 23 5 _ _ _ Tryd.underlying23]; rfl)
      rotate_left
      · simp only [Act.put, List.setIfInBounds_toArray, List.set_cons_zero, List.set_cons_succ, i64_w, i32_w]
        rfl
      refine pure_ (i := 9) (N := some 6) (v := ?_) (a' := ?_) #[true, true, true, true, true, true, true, true, true, true] rfl rfl (by kernel_rfl) (fun _ _ _ h => h) (Or.inl ⟨by rfl, ?_⟩) ?_ ?_
      rotate_left
      · intro w'
        go_simp
        with_reducible rfl
      rotate_left
      · simp only [Act.put, List.setIfInBounds_toArray, List.set_cons_zero, List.set_cons_succ, i64_w, i32_w]
        rfl
      refine done_ (by kernel_rfl) ?_
      clear hHeld
      refine hK5 _ _ ?_
      gi_wp2
      refine ⟨by simp, .inl ⟨_, _, rfl, run_takeDeferred (H.holds D _ hF), ?_⟩⟩
      have H1 := H.putF D _ (.deferred none) hF hD
      refine ⟨_, results_tmp3 rfl _ _ _, ?_⟩
      first
        | exact .inr ⟨decide_eq_false hNe, rfl, H1.below⟩
        | exact ⟨decide_eq_false hNe, rfl, H1.below⟩
        | exact ⟨hNe, rfl, H1.below⟩
        | exact ⟨rfl, H1.below⟩
        | trace_state
end Go.Proofs.YthhbilkmdfdfiaaDoor.O
end

section
/- image.Places, by what is owned. -/
set_option linter.unusedVariables false
set_option linter.unusedSimpArgs false
namespace Go.Proofs.YthhbilkmdfdfiaaDoor.O
open Go.RowKit Go.Proofs.YthhbilkmdfdfiaaDoorW.PrintWords Go.Proofs.YthhbilkmdfdfiaaDoorW.PrintLast Go.Proofs.YthhbilkmdfdfiaaDoorW.PrintMore Go.Proofs.YthhbilkmdfdfiaaDoor.F Go.Proofs.YthhbilkmdfdfiaaDoor.F.Nums Go.Proofs.YthhbilkmdfdfiaaDoor.Plain Go.Proofs.YthhbilkmdfdfiaaDoor.Img
attribute [local go_sem] Oper.semAt_some
theorem loadVar_cell {P : Program} {W : World} {ty : TypeId} {p : Addr} {v : Value} {d : TypeDesc} (hu : P.underlying ty = some d) (hd : d.isRow = false) (hc : W.cell? p = some v) : (loadVar ty p).run P W = .ok v W := by
  have hag : (isAgg ty).run P W = .ok false W := by
    unfold isAgg
    rw [Sem.run_bind, run_underlying hu W]
    cases d <;> simp_all
  simp [loadVar, hag, hc]
theorem results_cell2 {fn : Func} {p q : Tmp} {tp tq : TypeId} (h : fn.results = #[.cell p tp, .cell q tq]) (tmps : Array Value) (P : Program) (W : World) {ap aq : Addr} {vp vq : Value} {dp dq : TypeDesc}
    (hp : tmps.getD p undef = .pointer (some ap)) (hq : tmps.getD q undef = .pointer (some aq)) (up : P.underlying tp = some dp) (ip : dp.isRow = false) (uq : P.underlying tq = some dq) (iq : dq.isRow = false) (cp : W.cell? ap = some vp) (cq : W.cell? aq = some vq) :
    (results fn tmps).run P W = .ok (.tuple #[vp, vq]) W := by
  have hp' : tmps[p]?.getD undef = .pointer (some ap) := by rw [← hp]; simp
  have hq' : tmps[q]?.getD undef = .pointer (some aq) := by rw [← hq]; simp
  simp only [results, h]
  simp [Sem.run_bind, asAddr, hp', hq', loadVar_cell up ip cp, loadVar_cell uq iq cq, -Option.getD_some]
theorem laySt_end_any (e f : Int) (l : List (List Int)) (k : Nat) : (laySt e l k).2 = (laySt f l k).2 := by
  induction k with
  | zero => rfl
  | succ k ih =>
    show (cutP (laySt e l k).2 ((l.getD k []).length : Int)).2.1 = (cutP (laySt f l k).2 ((l.getD k []).length : Int)).2.1
    rw [ih]
theorem layAt_any (e f : Int) (l : List (List Int)) (k : Nat) : layAt e l k = layAt f l k := by unfold layAt; rw [laySt_end_any e f]
theorem layOk_any (e f : Int) (l : List (List Int)) (k : Nat) : layOk e l k = layOk f l k := by unfold layOk; rw [laySt_end_any e f]
theorem layPl_any (e f : Int) (l : List (List Int)) (k : Nat) : layPl e l k = layPl f l k := by
  unfold layPl
  exact congrArg (fun g => (List.range k).map g) (funext (layAt_any e f l))
theorem layAll_any (e f : Int) (l : List (List Int)) : layAll e l = layAll f l := by
  unfold layAll
  exact congrArg (fun g => (List.range l.length).all g) (funext (layOk_any e f l))
set_option maxRecDepth 100000 in
set_option maxHeartbeats 8000000 in
theorem places_calls (l : List (List Int)) (A : Option Addr) (c : Nat) (w : World) (hl : ∀ x ∈ l, Bytes x) (hll : ∀ x ∈ l, x.length < 140737488355328) (hn : l.length ≤ 1000000)
    (hC : (Kd.slice 5 (Kd.int .u8)).C w A l.length l) (hH : Half w) :
    Calls Tryd.prog 48 #[.slice A l.length c] w fun e W => (layAll 0 l = true ∧ ∃ v, e = .returned (.tuple #[v, .bool true]) ∧ Own w F0 [.row v 3 1 l.length (nums .i64 (layPl 0 l l.length))] W) ∨
      (layAll 0 l = false ∧ e = .returned (.tuple #[.slice none 0 0, .bool false]) ∧ Below w.heap.size w W) := by
  obtain ⟨N, hN1, hN2, hN3⟩ := first_bad 0 l
  rw [bad_all hN1 hN2 hN3]
  have H := Own.start w
  refine (callsIn_wide (n := 9)).1 (callsIn_of_wp_marks Tryd.func48 rfl trivial ?_ rfl)
  simp only [Tryd.ntmps48, List.size_toArray, List.length_cons, List.length_nil, Nat.reduceAdd, Nat.reduceSub, Array.replicate_succ, Array.replicate_zero, List.push_toArray, List.append_toArray, List.nil_append, List.cons_append]
  refine wpIn_seq_k (fun K hK => ?_)
  refine wpIn_wide.2 ?_
  go_wp2_with (first
    | ((with_reducible refine gate_dst (N := 2) rfl ?_); refine l_alloc1 rfl H 71 rfl _ zero71 rfl ?_; clear H; intro g2 W H)
    | ((with_reducible refine gate_dst (N := 3) rfl ?_); refine l_alloc1 rfl H 4 rfl _ zero4 rfl ?_; clear H; intro g3 W H))
  refine wpIn_seq_k (fun K1 hK1 => ?_)
  refine wpIn_wide.2 ?_
  go_wp2_with (first
    | ((with_reducible refine gate_dst (N := 4) rfl ?_); refine l_alloc1 rfl H 71 rfl _ zero71 rfl ?_; clear H; intro g4 W H))
  refine wpIn_seq_k (fun K2 hK2 => ?_)
  refine wpIn_seq_k (fun K3 hK3 => ?_)
  refine wpIn_wide.2 ?_
  go_wp2_with (first
    | (go_at_call 68; (refine (image_each_own H 0 A l.length c).mono ?_); clear H; rintro e W ⟨ge, gl, rfl, H⟩))
  refine wpIn_block ?_
  obtain ⟨LST, hLST⟩ : ∃ LST : Nat → Value → List Res, LST = fun k v4 => [.blk g4 71 [v4], .row v4 3 1 k (nums .i64 (layPl 0 l k)), .blk g3 4 [.bool false], .blk g2 71 [.slice none 0 0]] := ⟨_, rfl⟩
  have H0 : Own w F0 (.blk gl 67 [.slice A l.length c] :: .blk ge 51 [.int .u64 0] :: LST 0 (.slice none 0 0)) W := by
    have H1 := (H.cons (r := .row (.slice none 0 0) 3 1 0 (nums .i64 (layPl 0 l 0))) (Below.refl _ _) (own_nil _ _ _ _) (fun k hk => by cases hk))
    rw [hLST]
    exact H1.perm ((List.Perm.swap _ _ _).trans (.cons _ ((List.Perm.swap _ _ _).trans (.cons _ (List.Perm.swap _ _ _)))))
  clear H
  obtain ⟨vsOf, hvs⟩ : ∃ vsOf : Bool → Nat → Value, vsOf = fun b g => if b = true then sl832 g else .slice none 0 0 := ⟨_, rfl⟩
  refine rf_gen (ι := List Res × Nat × Bool) (n := 8) rfl (Go.Proofs.enters_of Tryd.func79 (by kernel_rfl) rfl) rfl H0
    (fun i v L => i.2.1 < l.length ∧ ∃ vb gb v4, v = .agg #[.int .i64 (layAt 0 l i.2.1), .int .i64 vb, vsOf i.2.2 gb] ∧ L = i.1 ++ LST i.2.1 v4)
    (fun i v L => i.2.2 = true ∧ ∃ v4, L = i.1 ++ LST (i.2.1 + 1) v4)
    (fun i v a1 L => i.2.1 < l.length ∧ ∃ vb gb v4 g5, v = .agg #[.int .i64 (layAt 0 l i.2.1), .int .i64 vb, vsOf i.2.2 gb] ∧ a1 = { tmps := #[.slice A l.length c, undef, .pointer (some ⟨g2, 0, none⟩), .pointer (some ⟨g3, 0, none⟩), .pointer (some ⟨g4, 0, none⟩), .pointer (some ⟨g5, 0, none⟩), .slice A l.length c, .func (.func 79) #[] #[.pointer (some ⟨gl, 0, none⟩), .pointer (some ⟨ge, 0, none⟩)], .agg #[.int .i64 (layAt 0 l i.2.1), .int .i64 vb, vsOf i.2.2 gb], undef, undef, undef, undef, undef, undef, undef, undef, undef], defers := [] } ∧ L = .blk g5 101 [.int .i64 (layAt 0 l i.2.1), .int .i64 vb, vsOf i.2.2 gb] :: (LST i.2.1 v4 ++ i.1))
    (fun i v L => i.2.2 = false ∧ ∃ v4, L = LST i.2.1 v4 ++ i.1)
    (fun L => N = l.length ∧ ∃ gx gb a gq v4, L = EIt 0 l A c gl ge gx gb a (laySt 0 l N).2 (laySt 0 l N).1 (LST N v4) ∧ gq = gb) (fun L => N < l.length ∧ ∃ P v4, L = LST N v4 ++ P) ?hseq ?assign ?body ?done ?left
  case hseq =>
    intro F1 F2 lp W1 H1 hY
    have CN := Kd.C_below hC (Below.refl w.heap.size w)
    refine (each1_in 0 l A c 8 lp gl ge N (w0 := w) (F1 := F1) (by decide) hl hll hn hC hH hN2 hN1 hN3 (fun k gb L => ∃ v4, L = LST k v4) (fun W' => ∃ P v4, Own w F2 (LST N v4 ++ P) W') (fun gb => ⟨_, rfl⟩) ?_ ?_ H1).mono ?_
    · rintro k gx gb gb1 L W2 hk ⟨v4, rfl⟩ HX
      obtain ⟨fn, tmps, assign, body, hy, hR⟩ := hY (EIt 0 l A c gl ge gx gb1 (layAt 0 l k) (laySt 0 l (k + 1)).2 (laySt 0 l (k + 1)).1 [], k, true) (.agg #[.int .i64 (layAt 0 l k), .int .i64 (laySt 0 l (k + 1)).2, sl832 gb1]) _ W2 ⟨by show k < l.length; omega, (laySt 0 l (k + 1)).2, gb1, v4, by rw [hvs]; rfl, rfl⟩ HX
      refine ⟨fn, tmps, assign, body, hy, RoundIn.mono hR ?_⟩
      rintro e W3 (⟨rfl, L', ⟨-, v4', rfl⟩, HO⟩ | ⟨-, L', ⟨hF, -⟩, -⟩)
      · exact ⟨rfl, LST (k + 1) v4', ⟨v4', rfl⟩, HO⟩
      · cases hF
    · rintro hlt gx gb L W2 ⟨v4, rfl⟩ HX
      obtain ⟨fn, tmps, assign, body, hy, hR⟩ := hY ([.blk gx 101 [.int .i64 (layAt 0 l N), .int .i64 0, .slice none 0 0], .blk gl 67 [.slice A l.length c], .blk ge 51 [.int .u64 0]], N, false) (.agg #[.int .i64 (layAt 0 l N), .int .i64 0, .slice none 0 0]) _ W2 ⟨hlt, 0, 0, v4, by rw [hvs]; rfl, rfl⟩ HX
      refine ⟨fn, tmps, assign, body, hy, RoundIn.mono hR ?_⟩
      rintro e W3 (⟨rfl, L', ⟨hF, -⟩, -⟩ | ⟨rfl, L', ⟨-, v4', rfl⟩, HO⟩)
      · cases hF
      · exact ⟨⟨false, rfl⟩, _, v4', HO⟩
    · rintro e W3 ⟨hv, h⟩
      refine ⟨hv, ?_⟩
      rcases h with ⟨hN, gx, gb, a, L, ⟨v4, rfl⟩, HO⟩ | ⟨hN, P, v4, HO⟩
      · exact .inl ⟨_, ⟨hN, gx, gb, a, gb, v4, rfl, rfl⟩, HO⟩
      · exact .inr ⟨_, ⟨hN, P, v4, rfl⟩, HO⟩
  case assign =>
    rintro F1 lp ⟨P, k, b⟩ v L W ⟨hk, vb, gb, v4, rfl, rfl⟩ H1
    simp only at hk H1 ⊢
    refine regIn_lit rfl (fun ⟨_, _, h⟩ => h) ?_
    simp only [List.zip_toArray, List.zip_cons_cons, List.zip_nil_right, List.zip_nil_left, List.foldl_toArray, List.foldl_cons, List.foldl_nil, List.setIfInBounds_toArray, List.set_cons_zero, List.set_cons_succ]
    have H := H1.perm List.perm_append_comm
    clear H1
    obtain ⟨vs, hvv⟩ : ∃ vs, vsOf b gb = vs := ⟨_, rfl⟩
    have h1 : vs.oneCell' = true := by rw [← hvv, hvs]; cases b <;> rfl
    have hO : ∀ u ∈ [Value.int .i64 (layAt 0 l k), Value.int .i64 vb, vs], u.oneCell' = true := by intro u hu; simp at hu; rcases hu with rfl | rfl | rfl <;> first | rfl | exact h1
    rw [hvv]
    go_wp2_with (first
    | ((with_reducible refine gate_dst (N := 5) rfl ?_); refine l_allocA rfl H 101 rfl _ zero101 ?_; clear H; intro g5 W H)
    | ((with_reducible refine gate_store (t := 101) (p := 5) rfl ?_); refine l_storeW rfl H 101 _ _ rfl _ rfl _ rfl (by (repeat (first | exact In.head | apply In.tail))) _ size101 (by (first | rfl | assumption | omega | (simp only [nums_length]; omega) | (simp [nums_length, zs]; done) | (simp [nums_length, zs]; omega))) (by (first | rfl | assumption | omega | (simp only [nums_length]; omega) | (simp [nums_length, zs]; done) | (simp [nums_length, zs]; omega))) (by (first | exact nums_one | assumption | (intro u hu; simp at hu; subst hu; rfl) | (intro u hu; simp at hu; rcases hu with rfl | rfl | rfl | rfl | rfl | rfl | rfl <;> rfl) | (intro u hu; simp at hu; rcases hu with rfl | rfl | rfl | rfl <;> rfl) | (intro u hu; simp at hu; rcases hu with rfl | rfl | rfl <;> rfl) | (intro u hu; simp at hu; rcases hu with rfl | rfl <;> rfl))) ?_; clear H; intro W H))
    exact ⟨_, ⟨hk, vb, gb, v4, g5, by rw [hvv], by rw [hvv]; rfl, by rw [hvv]⟩, H⟩
  case body =>
    rintro F1 lp ⟨P, k, b⟩ v a1 L W ⟨hk, vb, gb, v4, g5, rfl, rfl, rfl⟩ H
    simp only at hk H ⊢
    refine wpIn_block ?_
    refine wpIn_seq_k (fun K5 hK5 => ?_)
    refine wpIn_seq_k (fun K6 hK6 => ?_)
    refine regIn_lit rfl (fun ⟨_, _, h⟩ => h) ?_
    have hl1 : vsOf true gb = sl832 gb := by rw [hvs]; rfl
    have hl0 : vsOf false gb = .slice none 0 0 := by rw [hvs]; rfl
    rw [hLST] at H ⊢
    simp only [List.cons_append, List.nil_append] at H
    cases b
    · rw [hl0] at H ⊢
      go_wp2_with (first
    | ((with_reducible refine gate_dst (N := 10) rfl ?_); refine l_load1 rfl H 23 _ rfl _ _ rfl (by (repeat (first | exact In.head | apply In.tail))) _ Tryd.underlying23 rfl _ (by first | rfl | assumption | exact nums_at _ (by omega)) ?_)
        | ((with_reducible refine gate_dst (N := 11) rfl ?_); refine l_run rfl (.bool true) (by go_simp; rw [run_eql_slice_nil _ 23 5 none 0 0 Tryd.underlying23]; rfl) ?_))
      refine wpIn_cond_true rfl ?_
      refine wpIn_seq_k (fun K7 hK7 => ?_)
      refine regIn_lit rfl (fun ⟨_, _, h⟩ => h) ?_
      go_wp2_with (first
    | ((with_reducible refine gate_store (t := 71) (p := 2) rfl ?_); refine l_store1 rfl H 71 _ _ rfl _ _ rfl _ (by first | (go_simp; done) | (go_simp; with_reducible rfl)) (by (repeat (first | exact In.head | apply In.tail))) rfl rfl size71 (by (first | rfl | assumption | omega | (simp only [nums_length]; omega) | (simp [nums_length, zs]; done) | (simp [nums_length, zs]; omega))) ?_; clear H; intro W H)
    | ((with_reducible refine gate_store (t := 4) (p := 3) rfl ?_); refine l_store1 rfl H 4 _ _ rfl _ _ rfl _ (by first | (go_simp; done) | (go_simp; with_reducible rfl)) (by (repeat (first | exact In.head | apply In.tail))) rfl rfl size4 (by (first | rfl | assumption | omega | (simp only [nums_length]; omega) | (simp [nums_length, zs]; done) | (simp [nums_length, zs]; omega))) ?_; clear H; intro W H))
      refine wpIn_ret ?_
      exact ⟨_, ⟨v4, rfl⟩, H.del .head⟩
    · rw [hl1] at H ⊢
      go_wp2_with (first
    | ((with_reducible refine gate_dst (N := 10) rfl ?_); refine l_load1 rfl H 23 _ rfl _ _ rfl (by (repeat (first | exact In.head | apply In.tail))) _ Tryd.underlying23 rfl _ (by first | rfl | assumption | exact nums_at _ (by omega)) ?_)
        | ((with_reducible refine gate_dst (N := 11) rfl ?_); refine l_run rfl (.bool false) (by go_simp; rw [run_eql_slice_nil _ 23 5 _ _ _ Tryd.underlying23]; rfl) ?_))
      refine wpIn_cond_false rfl ?_
      refine wpIn_skip (hK5 _ _ ?_)
      refine regIn_lit rfl (fun ⟨_, _, h⟩ => h) ?_
      have hbd : (k + 1) * 8 ≤ 140737488355328 := by omega
      have hpl : nums .i64 (layPl 0 l (k + 1)) = nums .i64 (layPl 0 l k) ++ [.int .i64 (layAt 0 l k)] := by rw [layPl_succ]; simp [nums]
      go_wp2_with (first
    | ((with_reducible refine gate_dst (N := 12) rfl ?_); refine l_load1 rfl H 71 _ rfl _ _ rfl (by (repeat (first | exact In.head | apply In.tail))) _ Tryd.underlying71 rfl _ (by first | rfl | assumption | exact nums_at _ (by omega)) ?_)
    | ((with_reducible refine gate_dst (N := 14) rfl ?_); refine l_load1 rfl H 3 _ rfl _ _ rfl (by (repeat (first | exact In.head | apply In.tail))) _ Tryd.underlying3 rfl _ (by first | rfl | assumption | exact nums_at _ (by omega)) ?_)
    | ((with_reducible refine gate_dst (N := 15) rfl ?_); refine l_build11 rfl H 71 3 _ rfl Tryd.underlying71 _ rfl _ zs3 rfl rfl ?_; clear H; intro g15 W H)
    | ((with_reducible refine gate_dst (N := 16) rfl ?_); refine l_append1 rfl H _ _ 71 3 rfl Tryd.underlying71 _ _ _ inf3 rfl (by decide) (by decide) _ _ _ rfl (by (repeat (first | exact In.head | apply In.tail))) _ _ rfl (by (repeat (first | exact In.head | apply In.tail))) (by (first | rfl | assumption | omega | (simp only [nums_length]; omega) | (simp [nums_length, zs]; done) | (simp [nums_length, zs]; omega))) (by (first | exact nums_one | assumption | (intro u hu; simp at hu; subst hu; rfl) | (intro u hu; simp at hu; rcases hu with rfl | rfl | rfl | rfl | rfl | rfl | rfl <;> rfl) | (intro u hu; simp at hu; rcases hu with rfl | rfl | rfl | rfl <;> rfl) | (intro u hu; simp at hu; rcases hu with rfl | rfl | rfl <;> rfl) | (intro u hu; simp at hu; rcases hu with rfl | rfl <;> rfl))) (by omega) ?_; clear H; intro v16 W H; obtain ⟨A16, c16, rfl⟩ := H.row_slice (.tail (.tail (.tail .head))))
    | ((with_reducible refine gate_store (t := 71) (p := 4) rfl ?_); refine l_store1 rfl H 71 _ _ rfl _ _ rfl _ (by first | (go_simp; done) | (go_simp; with_reducible rfl)) (by (repeat (first | exact In.head | apply In.tail))) rfl rfl size71 (by (first | rfl | assumption | omega | (simp only [nums_length]; omega) | (simp [nums_length, zs]; done) | (simp [nums_length, zs]; omega))) ?_; clear H; intro W H))
      exact ⟨_, ⟨_, rfl⟩, ((H.del .head).del .head).perm (List.perm_append_comm (l₁ := [_, _, _, _]) (l₂ := P))⟩
  case done =>
    rintro F1 D L W ⟨hN, gx, gb, a, gq, v4, rfl, -⟩ H hF hD
    refine hK2 _ _ ?_
    rw [hLST] at H
    unfold EIt at H
    obtain ⟨A4, c4, rfl⟩ := H.row_slice (.tail (.tail (.tail (.tail (.tail .head)))))
    refine wpIn_seq_k (fun K5 hK5 => ?_)
    refine wpIn_mono (Q := Exit.then K5 (fun _ _ _ => False)) ?_ (fun e a w h => by cases e <;> first | exact h | exact h.elim)
    refine wpIn_wide.2 ?_
    go_wp2_with (first
    | ((with_reducible refine gate_dst (N := 17) rfl ?_); refine l_load1 rfl H 71 _ rfl _ _ rfl (by (repeat (first | exact In.head | apply In.tail))) _ Tryd.underlying71 rfl _ (by first | rfl | assumption | exact nums_at _ (by omega)) ?_)
    | ((with_reducible refine gate_store (t := 71) (p := 2) rfl ?_); refine l_store1 rfl H 71 _ _ rfl _ _ rfl _ (by first | (go_simp; done) | (go_simp; with_reducible rfl)) (by (repeat (first | exact In.head | apply In.tail))) rfl rfl size71 (by (first | rfl | assumption | omega | (simp only [nums_length]; omega) | (simp [nums_length, zs]; done) | (simp [nums_length, zs]; omega))) ?_; clear H; intro W H)
    | ((with_reducible refine gate_store (t := 4) (p := 3) rfl ?_); refine l_store1 rfl H 4 _ _ rfl _ _ rfl _ (by first | (go_simp; done) | (go_simp; with_reducible rfl)) (by (repeat (first | exact In.head | apply In.tail))) rfl rfl size4 (by (first | rfl | assumption | omega | (simp only [nums_length]; omega) | (simp [nums_length, zs]; done) | (simp [nums_length, zs]; omega))) ?_; clear H; intro W H))
    gi_wp2
    refine ⟨by simp, .inl ⟨_, _, rfl, run_takeDeferred (H.holds D _ hF), ?_⟩⟩
    have H1 := H.putF D _ (.deferred none) hF hD
    have c1 := H1.cell (.tail (.tail (.tail (.tail (.tail (.tail (.tail .head))))))) 0
    have c2 := H1.cell (.tail (.tail (.tail (.tail (.tail (.tail .head)))))) 0
    refine ⟨_, results_cell2 rfl _ _ _ rfl rfl Tryd.underlying71 rfl Tryd.underlying4 rfl c1 c2, .inl ⟨decide_eq_true hN, _, rfl, ?_⟩⟩
    rw [← hN]
    have H2 := (((((((H1.del .head).del .head).del .head).del .head).del .head).del (.tail .head)).del (.tail .head))
    exact H2.slack (fun g o h => by cases h)
  case left =>
    rintro F1 D L W ⟨hN, P, v4, rfl⟩ H hF hD
    rw [hLST] at H
    gi_wp2
    refine ⟨by simp, .inl ⟨_, _, rfl, run_takeDeferred (H.holds D _ hF), ?_⟩⟩
    have H1 := H.putF D _ (.deferred none) hF hD
    have c1 := H1.cell (.tail (.tail (.tail .head))) 0
    have c2 := H1.cell (.tail (.tail .head)) 0
    refine ⟨_, results_cell2 rfl _ _ _ rfl rfl Tryd.underlying71 rfl Tryd.underlying4 rfl c1 c2, .inr ⟨by omega, rfl, H1.below⟩⟩
end Go.Proofs.YthhbilkmdfdfiaaDoor.O
end
