/- A fragment's bytes, and back: plain. -/
import Derived.Test.YthhbilkmdfdfiaaDoorNums
import Derived.Test.YthhbilkmdfdfiaaDoorCrcMath
set_option linter.unusedVariables false
set_option linter.unusedSimpArgs false
namespace Go.Proofs.YthhbilkmdfdfiaaDoor.O
open Go.RowKit Go.Proofs.YthhbilkmdfdfiaaDoorW.PrintWords Go.Proofs.YthhbilkmdfdfiaaDoorW.PrintLast Go.Proofs.YthhbilkmdfdfiaaDoorW.PrintMore Go.Proofs.YthhbilkmdfdfiaaDoor.F Go.Proofs.YthhbilkmdfdfiaaDoor.F.Nums Go.Proofs.YthhbilkmdfdfiaaDoor.Plain Go.Proofs.YthhbilkmdfdfiaaDoor.CrcMath
/-- the masked sum -/
def maskN (n : Nat) : Nat := (n / 32768 + n % 32768 * 131072 + 2726488792) % 4294967296
theorem maskN_lt (n : Nat) : maskN n < 4294967296 := Nat.mod_lt _ (by decide)
def unmaskN (m : Nat) : Nat := (m + 1568478504) % 4294967296 % 131072 * 32768 + (m + 1568478504) % 4294967296 / 131072
theorem unmask_mask {n : Nat} (hn : n < 4294967296) : unmaskN (maskN n) = n := Int.ofNat_inj.mp (back1 hn)
theorem maskN_inj {n m : Nat} (hn : n < 4294967296) (hm : m < 4294967296) (h : maskN n = maskN m) : n = m := by
  rw [← unmask_mask hn, h, unmask_mask hm]
theorem drop_app {α : Type} (a b : List α) (n m : Nat) (h : a.length = n) : (a ++ b).drop (n + m) = b.drop m := by
  rw [List.drop_append, List.drop_of_length_le (by omega), List.nil_append]
  congr 1
  omega
def crcN (l : List Int) : Nat := (moreI 0 l).toNat
theorem moreI_lo (l : List Int) : 0 ≤ moreI 0 l ∧ moreI 0 l ≤ 4294967295 := by
  have := fold_in l (4294967295 - 0) (by decide) (by decide)
  unfold moreI
  omega
theorem crcN_eq (l : List Int) : moreI 0 l = (crcN l : Int) := by
  have := moreI_lo l
  unfold crcN
  omega
theorem crcN_lt (l : List Int) : crcN l < 4294967296 := by
  have := moreI_lo l
  unfold crcN
  omega
def sumN (l : List Int) : Nat := maskN (crcN l)
theorem sumN_lt (l : List Int) : sumN l < 4294967296 := maskN_lt _
theorem sumN_inj {l m : List Int} (h : sumN l = sumN m) : moreI 0 l = moreI 0 m := by
  rw [crcN_eq, crcN_eq, maskN_inj (crcN_lt l) (crcN_lt m) h]
theorem crc_sum (l : List Int) : crc_Mask.f (moreI 0 l) = some (sumN l : Int) := by rw [crcN_eq]; exact mask_eq (crcN_lt l)
theorem rcrc_sum (l : List Int) : strandlineref03_Mask.f (moreI 0 l) = some (sumN l : Int) := by rw [crcN_eq]; exact rmask_eq (crcN_lt l)
def bodyL (kind ep : Int) (data : List Int) : List Int := putl data.length 2 ++ (kind :: (putl ep.toNat 4 ++ data))
def encL (kind ep : Int) (data : List Int) : List Int := putl (sumN (bodyL kind ep data)) 4 ++ bodyL kind ep data
theorem bodyL_len (kind ep : Int) (data : List Int) : (bodyL kind ep data).length = 7 + data.length := by simp [bodyL, putl_len]; omega
theorem encL_len (kind ep : Int) (data : List Int) : (encL kind ep data).length = 11 + data.length := by unfold encL; rw [List.length_append, bodyL_len, putl_len]; omega
def rightF (kind : Int) (n : Nat) : Bool := decide (1 ≤ kind) && decide (kind ≤ 4) && decide (n ≤ 197)
theorem bodyL_bytes {kind ep : Int} {data : List Int} (hk : 0 ≤ kind ∧ kind ≤ 255) (hd : Bytes data) : Bytes (bodyL kind ep data) := by
  refine bytes_append (putl_bytes _ _) (fun c hc => ?_)
  rcases List.mem_cons.1 hc with rfl | hc
  · exact hk
  · exact bytes_append (putl_bytes _ _) hd c hc
theorem encL_bytes {kind ep : Int} {data : List Int} (hk : 0 ≤ kind ∧ kind ≤ 255) (hd : Bytes data) : Bytes (encL kind ep data) := bytes_append (putl_bytes _ _) (bodyL_bytes hk hd)
/-- what is decoded: kind, epoch, data, how many, the error -/
def nOf (b : List Int) : Nat := getn (b.drop 4) 2
def kOf (b : List Int) : Int := b.getD 6 0
def eOf (b : List Int) : Int := (getn (b.drop 7) 4 : Nat)
def sOf (b : List Int) : Nat := getn b 4
def decE (b : List Int) (ep : Int) : Int :=
  if b.length < 11 then 1 else if b.take 11 = zs 11 then 7 else if rightF (kOf b) 0 = false ∨ 197 < nOf b ∨ eOf b ≠ ep then 2 else if b.length < 11 + nOf b then 1 else if sOf b ≠ sumN ((b.take (11 + nOf b)).drop 4) then 3 else 0
def decD (b : List Int) : List Int := (b.take (11 + nOf b)).drop 11
theorem nOf_lt {b : List Int} (hb : Bytes b) : nOf b < 65536 := getn_lt (wf_of_bytes (bytes_drop hb 4)) 2
theorem eOf_lt {b : List Int} (hb : Bytes b) : 0 ≤ eOf b ∧ eOf b ≤ 4294967295 := by
  have := getn_lt (wf_of_bytes (bytes_drop hb 7)) 4
  unfold eOf
  omega
theorem sOf_lt {b : List Int} (hb : Bytes b) : sOf b < 4294967296 := getn_lt (wf_of_bytes hb) 4
theorem cut_at {α : Type} (l : List α) (a b : Nat) (h : a ≤ b) : (l.take b).drop a = (l.drop a).take (b - a) := by rw [List.drop_take]
/-- the bytes behind the sum are those of what is decoded -/
theorem body_dec {b : List Int} (hb : Bytes b) (h : 11 + nOf b ≤ b.length) : bodyL (kOf b) (eOf b) (decD b) = (b.take (11 + nOf b)).drop 4 := by
  have hd : (decD b).length = nOf b := by unfold decD; rw [List.length_drop, List.length_take, Nat.min_eq_left h]; omega
  have e1 : putl (nOf b) 2 = (b.drop 4).take 2 := putl_getn (bytes_drop hb 4) 2 (by rw [List.length_drop]; omega)
  have e2 : putl (eOf b).toNat 4 = (b.drop 7).take 4 := by unfold eOf; rw [Int.toNat_natCast]; exact putl_getn (bytes_drop hb 7) 4 (by rw [List.length_drop]; omega)
  have e3 : b[6]? = some (kOf b) := by unfold kOf; rw [List.getD_eq_getElem?_getD, List.getElem?_eq_getElem (by omega)]; rfl
  unfold bodyL
  rw [hd, e1, e2]
  generalize hm : 11 + nOf b = m at h ⊢
  have hD : decD b = (b.take m).drop 11 := by unfold decD; rw [hm]
  rw [hD]
  apply List.ext_getElem?
  intro i
  by_cases h1 : i < 2
  · rw [List.getElem?_append_left (by rw [List.length_take, List.length_drop]; omega), List.getElem?_take_of_lt h1, List.getElem?_drop, List.getElem?_drop, List.getElem?_take_of_lt (by omega)]
  · have l2 : ((b.drop 4).take 2).length = 2 := by rw [List.length_take, List.length_drop]; omega
    rw [List.getElem?_append_right (by omega), l2]
    by_cases h2 : i = 2
    · subst h2
      rw [List.getElem?_drop, List.getElem?_take_of_lt (by omega), e3]
      rfl
    · obtain ⟨j, rfl⟩ : ∃ j, i = j + 3 := ⟨i - 3, by omega⟩
      rw [show j + 3 - 2 = j + 1 by omega, List.getElem?_cons_succ]
      have l4 : ((b.drop 7).take 4).length = 4 := by rw [List.length_take, List.length_drop]; omega
      by_cases h3 : j < 4
      · rw [List.getElem?_append_left (by omega), List.getElem?_take_of_lt h3, List.getElem?_drop, List.getElem?_drop, List.getElem?_take_of_lt (by omega)]
        congr 1
        omega
      · rw [List.getElem?_append_right (by omega), l4, List.getElem?_drop, List.getElem?_drop]
        congr 1
        omega
theorem putl_inj {n m : Nat} (hn : n < 4294967296) (hm : m < 4294967296) (h : putl n 4 = putl m 4) : n = m := by
  have h1 := getn_putl n 4
  have h2 := getn_putl m 4
  rw [h] at h1
  rw [h1] at h2
  rw [Nat.mod_eq_of_lt (by omega), Nat.mod_eq_of_lt (by omega)] at h2
  exact h2
/-- by the sum alone -/
theorem enc_dec {b : List Int} (hb : Bytes b) (h : 11 + nOf b ≤ b.length) : encL (kOf b) (eOf b) (decD b) = b.take (11 + nOf b) ↔ sOf b = sumN ((b.take (11 + nOf b)).drop 4) := by
  unfold encL
  rw [body_dec hb h]
  have e4 : putl (sOf b) 4 = b.take 4 := putl_getn hb 4 (by omega)
  have e5 : b.take (11 + nOf b) = b.take 4 ++ (b.take (11 + nOf b)).drop 4 := by
    conv => lhs; rw [← List.take_append_drop 4 (b.take (11 + nOf b))]
    rw [List.take_take, Nat.min_eq_left (by omega)]
  constructor
  · intro e
    have e' := congrArg (List.take 4) e
    rw [List.take_append_of_le_length (by rw [putl_len]; exact Nat.le_refl 4), List.take_of_length_le (by rw [putl_len]; exact Nat.le_refl 4), List.take_take, Nat.min_eq_left (by omega), ← e4] at e'
    exact (putl_inj (sumN_lt _) (sOf_lt hb) e').symm
  · intro e
    rw [← e, e4]
    exact e5.symm
theorem dec_ok {b : List Int} {ep : Int} (h : decE b ep = 0) : 11 + nOf b ≤ b.length ∧ rightF (kOf b) 0 = true ∧ nOf b ≤ 197 ∧ eOf b = ep ∧ sOf b = sumN ((b.take (11 + nOf b)).drop 4) := by
  unfold decE at h
  split at h
  · cases h
  · split at h
    · cases h
    · split at h
      · cases h
      · rename_i h3
        split at h
        · cases h
        · split at h
          · cases h
          · rename_i h5
            have h6 : sOf b = sumN ((b.take (11 + nOf b)).drop 4) := by
              by_cases e : sOf b = sumN ((b.take (11 + nOf b)).drop 4)
              · exact e
              · exact absurd e h5
            refine ⟨by omega, ?_, by omega, ?_, h6⟩
            · cases hr : rightF (kOf b) 0 with
              | true => rfl
              | false => exact absurd (.inl hr) h3
            · by_cases e : eOf b = ep
              · exact e
              · exact absurd (.inr (.inr e)) h3
/-- what was encoded -/
theorem parts_enc (kind ep : Int) (data rest : List Int) (he : 0 ≤ ep ∧ ep ≤ 4294967295) (hn : data.length ≤ 197) : nOf (encL kind ep data ++ rest) = data.length ∧ kOf (encL kind ep data ++ rest) = kind ∧ eOf (encL kind ep data ++ rest) = ep ∧ sOf (encL kind ep data ++ rest) = sumN (bodyL kind ep data) ∧ decD (encL kind ep data ++ rest) = data ∧ ((encL kind ep data ++ rest).take (11 + data.length)).drop 4 = bodyL kind ep data := by
  have ex : encL kind ep data ++ rest = putl (sumN (bodyL kind ep data)) 4 ++ (putl data.length 2 ++ (kind :: (putl ep.toNat 4 ++ (data ++ rest)))) := by simp [encL, bodyL]
  have d4 : (encL kind ep data ++ rest).drop 4 = putl data.length 2 ++ (kind :: (putl ep.toNat 4 ++ (data ++ rest))) := by rw [ex, List.drop_append_of_le_length (by rw [putl_len]; exact Nat.le_refl 4), List.drop_of_length_le (by rw [putl_len]; exact Nat.le_refl 4), List.nil_append]
  have d7 : (encL kind ep data ++ rest).drop 7 = putl ep.toNat 4 ++ (data ++ rest) := by
    rw [ex, drop_app _ _ 4 3 (putl_len _ _), drop_app _ _ 2 1 (putl_len _ _)]
    rfl
  have n1 : nOf (encL kind ep data ++ rest) = data.length := by
    unfold nOf
    rw [d4, getn_append _ _ _ (by rw [putl_len]; exact Nat.le_refl 2), getn_putl]
    exact Nat.mod_eq_of_lt (by omega)
  refine ⟨n1, ?_, ?_, ?_, ?_, ?_⟩
  · unfold kOf
    have : (encL kind ep data ++ rest)[6]? = ((encL kind ep data ++ rest).drop 4)[2]? := by rw [List.getElem?_drop]
    rw [List.getD_eq_getElem?_getD, this, d4, List.getElem?_append_right (by rw [putl_len]; exact Nat.le_refl 2), putl_len]
    rfl
  · unfold eOf
    rw [d7, getn_append _ _ _ (by rw [putl_len]; exact Nat.le_refl 4), getn_putl, Nat.mod_eq_of_lt (by omega)]
    omega
  · unfold sOf
    rw [ex, getn_append _ _ _ (by rw [putl_len]; exact Nat.le_refl 4), getn_putl]
    exact Nat.mod_eq_of_lt (by have := sumN_lt (bodyL kind ep data); omega)
  · unfold decD
    rw [n1, List.take_append_of_le_length (by rw [encL_len]; exact Nat.le_refl _), List.take_of_length_le (by rw [encL_len]; exact Nat.le_refl _)]
    have e11 : (encL kind ep data).drop 11 = data := by
      have ex' : encL kind ep data = putl (sumN (bodyL kind ep data)) 4 ++ (putl data.length 2 ++ (kind :: (putl ep.toNat 4 ++ data))) := by simp [encL, bodyL]
      rw [ex', drop_app _ _ 4 7 (putl_len _ _), drop_app _ _ 2 5 (putl_len _ _), show (5 : Nat) = 4 + 1 from rfl, List.drop_succ_cons, List.drop_append_of_le_length (by rw [putl_len]; exact Nat.le_refl 4), List.drop_of_length_le (by rw [putl_len]; exact Nat.le_refl 4), List.nil_append]
    exact e11
  · rw [List.take_append_of_le_length (by rw [encL_len]; exact Nat.le_refl _), List.take_of_length_le (by rw [encL_len]; exact Nat.le_refl _)]
    unfold encL
    rw [List.drop_append_of_le_length (by rw [putl_len]; exact Nat.le_refl 4), List.drop_of_length_le (by rw [putl_len]; exact Nat.le_refl 4), List.nil_append]
theorem enc_not0 {kind ep : Int} {data rest : List Int} (h : 1 ≤ kind) : ¬ (encL kind ep data ++ rest).take 11 = zs 11 := by
  intro e
  have h6 : (encL kind ep data ++ rest)[6]? = some kind := by
    have ex : encL kind ep data ++ rest = putl (sumN (bodyL kind ep data)) 4 ++ (putl data.length 2 ++ (kind :: (putl ep.toNat 4 ++ (data ++ rest)))) := by simp [encL, bodyL]
    rw [ex, List.getElem?_append_right (by rw [putl_len]; decide), putl_len, List.getElem?_append_right (by rw [putl_len]; decide), putl_len]
    rfl
  have : ((encL kind ep data ++ rest).take 11)[6]? = some kind := by rw [List.getElem?_take_of_lt (by decide)]; exact h6
  rw [e] at this
  simp [zs] at this
  omega
theorem dec_enc (kind ep ep' : Int) (data rest : List Int) (hk : rightF kind data.length = true) (he : 0 ≤ ep ∧ ep ≤ 4294967295) : decE (encL kind ep data ++ rest) ep' = if ep' = ep then 0 else 2 := by
  have hr : 1 ≤ kind ∧ kind ≤ 4 ∧ data.length ≤ 197 := by
    unfold rightF at hk
    simp at hk
    omega
  obtain ⟨p1, p2, p3, p4, p5, p6⟩ := parts_enc kind ep data rest he hr.2.2
  have hl := encL_len kind ep data
  unfold decE
  rw [p1, p2, p3, p4, p6, if_neg (by rw [List.length_append]; omega), if_neg (enc_not0 hr.1)]
  have hr0 : rightF kind 0 = true := by unfold rightF; simp; omega
  by_cases e : ep' = ep
  · rw [if_pos e, if_neg (by rw [hr0]; simp; exact ⟨by omega, e.symm⟩), if_neg (by rw [List.length_append]; omega), if_neg (by simp)]
  · rw [if_neg e, if_pos (.inr (.inr (fun h => e h.symm)))]
end Go.Proofs.YthhbilkmdfdfiaaDoor.O
