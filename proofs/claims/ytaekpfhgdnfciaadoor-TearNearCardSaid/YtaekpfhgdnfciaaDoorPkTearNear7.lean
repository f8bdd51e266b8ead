/- Texts of mine put together: FragM, ScanM, FkCut, Hcut, FkCutH. -/
import Derived.Test.YtaekpfhgdnfciaaDoorPkTearNear4
import Derived.Test.YtaekpfhgdnfciaaDoorPkTearNear6
import Derived.Test.YtaekpfhgdnfciaaDoorPkTearNear3
import Derived.Test.YtaekpfhgdnfciaaDoorPkTearNear5
set_option linter.unusedVariables false
set_option linter.unusedSimpArgs false
open Go.RowKit Go.Proofs.YtaekpfhgdnfciaaDoorW.PrintWords Go.Proofs.YtaekpfhgdnfciaaDoorW.PrintLast Go.Proofs.YtaekpfhgdnfciaaDoorW.PrintMore

section
namespace Go.Proofs.YtaekpfhgdnfciaaDoor.O
open Go.Proofs.YtaekpfhgdnfciaaDoor.F Go.Proofs.YtaekpfhgdnfciaaDoor.F.Nums Go.Proofs.YtaekpfhgdnfciaaDoor.Plain Go.Proofs.YtaekpfhgdnfciaaDoor.CrcMath
def maskN (n : Nat) : Nat := (n / 32768 + n % 32768 * 131072 + 2726488792) % 4294967296
theorem maskN_lt (n : Nat) : maskN n < 4294967296 := Nat.mod_lt _ (by decide)
def unmaskN (m : Nat) : Nat := (m + 1568478504) % 4294967296 % 131072 * 32768 + (m + 1568478504) % 4294967296 / 131072
theorem unmask_mask {n : Nat} (hn : n < 4294967296) : unmaskN (maskN n) = n := Int.ofNat_inj.mp (back1 hn)
theorem maskN_inj {n m : Nat} (hn : n < 4294967296) (hm : m < 4294967296) (h : maskN n = maskN m) : n = m := by
 rw [← unmask_mask hn,h,unmask_mask hm]
theorem drop_app {α : Type} (a b : List α) (n m : Nat) (h : a.length = n) : (a ++ b).drop (n + m) = b.drop m := by
 rw [List.drop_append,List.drop_of_length_le (by omega),List.nil_append]
 congr 1
 omega
def crcN (l : List Int) : Nat := (moreI 0 l).toNat
theorem moreI_lo (l : List Int) : 0 ≤ moreI 0 l ∧ moreI 0 l ≤ 4294967295 := by
 have := fold_in l (4294967295 - 0) (by decide) (by decide)
 unfold moreI
 omega
theorem crcN_eq (l : List Int) : moreI 0 l = (crcN l : Int) := by
 have := moreI_lo l
 unfold crcN
 omega
theorem crcN_lt (l : List Int) : crcN l < 4294967296 := by
 have := moreI_lo l
 unfold crcN
 omega
def sumN (l : List Int) : Nat := maskN (crcN l)
theorem sumN_lt (l : List Int) : sumN l < 4294967296 := maskN_lt _
theorem sumN_inj {l m : List Int} (h : sumN l = sumN m) : moreI 0 l = moreI 0 m := by
 rw [crcN_eq,crcN_eq,maskN_inj (crcN_lt l) (crcN_lt m) h]
theorem crc_sum (l : List Int) : crc_Mask.f (moreI 0 l) = some (sumN l : Int) := by rw [crcN_eq];exact mask_eq (crcN_lt l)
theorem rcrc_sum (l : List Int) : strandlineref03_Mask.f (moreI 0 l) = some (sumN l : Int) := by rw [crcN_eq];exact rmask_eq (crcN_lt l)
def bodyL (kind ep : Int) (data : List Int) : List Int := putl data.length 2 ++ (kind :: (putl ep.toNat 4 ++ data))
def encL (kind ep : Int) (data : List Int) : List Int := putl (sumN (bodyL kind ep data)) 4 ++ bodyL kind ep data
theorem bodyL_len (kind ep : Int) (data : List Int) : (bodyL kind ep data).length = 7 + data.length := by simp [bodyL,putl_len];omega
theorem encL_len (kind ep : Int) (data : List Int) : (encL kind ep data).length = 11 + data.length := by unfold encL;rw [List.length_append,bodyL_len,putl_len];omega
def rightF (kind : Int) (n : Nat) : Bool := decide (1 ≤ kind) && decide (kind ≤ 4) && decide (n ≤ 197)
theorem bodyL_bytes {kind ep : Int} {data : List Int} (hk : 0 ≤ kind ∧ kind ≤ 255) (hd : Bytes data) : Bytes (bodyL kind ep data) := by
 refine bytes_append (putl_bytes _ _) (fun c hc => ?_)
 rcases List.mem_cons.1 hc with rfl|hc
 ·exact hk
 ·exact bytes_append (putl_bytes _ _) hd c hc
theorem encL_bytes {kind ep : Int} {data : List Int} (hk : 0 ≤ kind ∧ kind ≤ 255) (hd : Bytes data) : Bytes (encL kind ep data) := bytes_append (putl_bytes _ _) (bodyL_bytes hk hd)
def nOf (b : List Int) : Nat := getn (b.drop 4) 2
def kOf (b : List Int) : Int := b.getD 6 0
def eOf (b : List Int) : Int := (getn (b.drop 7) 4 : Nat)
def sOf (b : List Int) : Nat := getn b 4
def decE (b : List Int) (ep : Int) : Int :=
 if b.length < 11 then 1 else if b.take 11 = zs 11 then 7 else if rightF (kOf b) 0 = false ∨ 197 < nOf b ∨ eOf b ≠ ep then 2 else if b.length < 11 + nOf b then 1 else if sOf b ≠ sumN ((b.take (11 + nOf b)).drop 4) then 3 else 0
def decD (b : List Int) : List Int := (b.take (11 + nOf b)).drop 11
theorem nOf_lt {b : List Int} (hb : Bytes b) : nOf b < 65536 := getn_lt (wf_of_bytes (bytes_drop hb 4)) 2
theorem eOf_lt {b : List Int} (hb : Bytes b) : 0 ≤ eOf b ∧ eOf b ≤ 4294967295 := by
 have := getn_lt (wf_of_bytes (bytes_drop hb 7)) 4
 unfold eOf
 omega
theorem sOf_lt {b : List Int} (hb : Bytes b) : sOf b < 4294967296 := getn_lt (wf_of_bytes hb) 4
theorem body_dec {b : List Int} (hb : Bytes b) (h : 11 + nOf b ≤ b.length) : bodyL (kOf b) (eOf b) (decD b) = (b.take (11 + nOf b)).drop 4 := by
 have hd : (decD b).length = nOf b := by unfold decD;rw [List.length_drop,List.length_take,Nat.min_eq_left h];omega
 have e1 : putl (nOf b) 2 = (b.drop 4).take 2 := putl_getn (bytes_drop hb 4) 2 (by rw [List.length_drop];omega)
 have e2 : putl (eOf b).toNat 4 = (b.drop 7).take 4 := by unfold eOf;rw [Int.toNat_natCast];exact putl_getn (bytes_drop hb 7) 4 (by rw [List.length_drop];omega)
 have e3 : b[6]? = some (kOf b) := by unfold kOf;rw [List.getD_eq_getElem?_getD,List.getElem?_eq_getElem (by omega)];rfl
 unfold bodyL
 rw [hd,e1,e2]
 generalize hm : 11 + nOf b = m at h ⊢
 have hD : decD b = (b.take m).drop 11 := by unfold decD;rw [hm]
 rw [hD]
 apply List.ext_getElem?
 intro i
 by_cases h1 : i < 2
 ·rw [List.getElem?_append_left (by rw [List.length_take,List.length_drop];omega),List.getElem?_take_of_lt h1,List.getElem?_drop,List.getElem?_drop,List.getElem?_take_of_lt (by omega)]
 ·have l2 : ((b.drop 4).take 2).length = 2 := by rw [List.length_take,List.length_drop];omega
  rw [List.getElem?_append_right (by omega),l2]
  by_cases h2 : i = 2
  ·subst h2
   rw [List.getElem?_drop,List.getElem?_take_of_lt (by omega),e3]
   rfl
  ·obtain ⟨j,rfl⟩ : ∃ j,i = j + 3 := ⟨i - 3,by omega⟩
   rw [show j + 3 - 2 = j + 1 by omega,List.getElem?_cons_succ]
   have l4 : ((b.drop 7).take 4).length = 4 := by rw [List.length_take,List.length_drop];omega
   by_cases h3 : j < 4
   ·rw [List.getElem?_append_left (by omega),List.getElem?_take_of_lt h3,List.getElem?_drop,List.getElem?_drop,List.getElem?_take_of_lt (by omega)]
    congr 1
    omega
   ·rw [List.getElem?_append_right (by omega),l4,List.getElem?_drop,List.getElem?_drop]
    congr 1
    omega
theorem putl_inj {n m : Nat} (hn : n < 4294967296) (hm : m < 4294967296) (h : putl n 4 = putl m 4) : n = m := by
 have h1 := getn_putl n 4
 have h2 := getn_putl m 4
 rw [h] at h1
 rw [h1] at h2
 rw [Nat.mod_eq_of_lt (by omega),Nat.mod_eq_of_lt (by omega)] at h2
 exact h2
theorem enc_dec {b : List Int} (hb : Bytes b) (h : 11 + nOf b ≤ b.length) : encL (kOf b) (eOf b) (decD b) = b.take (11 + nOf b) ↔ sOf b = sumN ((b.take (11 + nOf b)).drop 4) := by
 unfold encL
 rw [body_dec hb h]
 have e4 : putl (sOf b) 4 = b.take 4 := putl_getn hb 4 (by omega)
 have e5 : b.take (11 + nOf b) = b.take 4 ++ (b.take (11 + nOf b)).drop 4 := by
  conv => lhs;rw [← List.take_append_drop 4 (b.take (11 + nOf b))]
  rw [List.take_take,Nat.min_eq_left (by omega)]
 constructor
 ·intro e
  have e' := congrArg (List.take 4) e
  rw [List.take_append_of_le_length (by rw [putl_len];exact Nat.le_refl 4),List.take_of_length_le (by rw [putl_len];exact Nat.le_refl 4),List.take_take,Nat.min_eq_left (by omega),← e4] at e'
  exact (putl_inj (sumN_lt _) (sOf_lt hb) e').symm
 ·intro e
  rw [← e,e4]
  exact e5.symm
theorem dec_ok {b : List Int} {ep : Int} (h : decE b ep = 0) : 11 + nOf b ≤ b.length ∧ rightF (kOf b) 0 = true ∧ nOf b ≤ 197 ∧ eOf b = ep ∧ sOf b = sumN ((b.take (11 + nOf b)).drop 4) := by
 unfold decE at h
 split at h
 ·cases h
 ·split at h
  ·cases h
  ·split at h
   ·cases h
   ·rename_i h3
    split at h
    ·cases h
    ·split at h
     ·cases h
     ·rename_i h5
      have h6 : sOf b = sumN ((b.take (11 + nOf b)).drop 4) := by
       by_cases e : sOf b = sumN ((b.take (11 + nOf b)).drop 4)
       ·exact e
       ·exact absurd e h5
      refine ⟨by omega,?_,by omega,?_,h6⟩
      ·cases hr : rightF (kOf b) 0 with
       |true => rfl
       |false => exact absurd (.inl hr) h3
      ·by_cases e : eOf b = ep
       ·exact e
       ·exact absurd (.inr (.inr e)) h3
theorem parts_enc (kind ep : Int) (data rest : List Int) (he : 0 ≤ ep ∧ ep ≤ 4294967295) (hn : data.length ≤ 197) : nOf (encL kind ep data ++ rest) = data.length ∧ kOf (encL kind ep data ++ rest) = kind ∧ eOf (encL kind ep data ++ rest) = ep ∧ sOf (encL kind ep data ++ rest) = sumN (bodyL kind ep data) ∧ decD (encL kind ep data ++ rest) = data ∧ ((encL kind ep data ++ rest).take (11 + data.length)).drop 4 = bodyL kind ep data := by
 have ex : encL kind ep data ++ rest = putl (sumN (bodyL kind ep data)) 4 ++ (putl data.length 2 ++ (kind :: (putl ep.toNat 4 ++ (data ++ rest)))) := by simp [encL,bodyL]
 have d4 : (encL kind ep data ++ rest).drop 4 = putl data.length 2 ++ (kind :: (putl ep.toNat 4 ++ (data ++ rest))) := by rw [ex,List.drop_append_of_le_length (by rw [putl_len];exact Nat.le_refl 4),List.drop_of_length_le (by rw [putl_len];exact Nat.le_refl 4),List.nil_append]
 have d7 : (encL kind ep data ++ rest).drop 7 = putl ep.toNat 4 ++ (data ++ rest) := by
  rw [ex,drop_app _ _ 4 3 (putl_len _ _),drop_app _ _ 2 1 (putl_len _ _)]
  rfl
 have n1 : nOf (encL kind ep data ++ rest) = data.length := by
  unfold nOf
  rw [d4,getn_append _ _ _ (by rw [putl_len];exact Nat.le_refl 2),getn_putl]
  exact Nat.mod_eq_of_lt (by omega)
 refine ⟨n1,?_,?_,?_,?_,?_⟩
 ·unfold kOf
  have : (encL kind ep data ++ rest)[6]? = ((encL kind ep data ++ rest).drop 4)[2]? := by rw [List.getElem?_drop]
  rw [List.getD_eq_getElem?_getD,this,d4,List.getElem?_append_right (by rw [putl_len];exact Nat.le_refl 2),putl_len]
  rfl
 ·unfold eOf
  rw [d7,getn_append _ _ _ (by rw [putl_len];exact Nat.le_refl 4),getn_putl,Nat.mod_eq_of_lt (by omega)]
  omega
 ·unfold sOf
  rw [ex,getn_append _ _ _ (by rw [putl_len];exact Nat.le_refl 4),getn_putl]
  exact Nat.mod_eq_of_lt (by have := sumN_lt (bodyL kind ep data);omega)
 ·unfold decD
  rw [n1,List.take_append_of_le_length (by rw [encL_len];exact Nat.le_refl _),List.take_of_length_le (by rw [encL_len];exact Nat.le_refl _)]
  have e11 : (encL kind ep data).drop 11 = data := by
   have ex' : encL kind ep data = putl (sumN (bodyL kind ep data)) 4 ++ (putl data.length 2 ++ (kind :: (putl ep.toNat 4 ++ data))) := by simp [encL,bodyL]
   rw [ex',drop_app _ _ 4 7 (putl_len _ _),drop_app _ _ 2 5 (putl_len _ _),show (5 : Nat) = 4 + 1 from rfl,List.drop_succ_cons,List.drop_append_of_le_length (by rw [putl_len];exact Nat.le_refl 4),List.drop_of_length_le (by rw [putl_len];exact Nat.le_refl 4),List.nil_append]
  exact e11
 ·rw [List.take_append_of_le_length (by rw [encL_len];exact Nat.le_refl _),List.take_of_length_le (by rw [encL_len];exact Nat.le_refl _)]
  unfold encL
  rw [List.drop_append_of_le_length (by rw [putl_len];exact Nat.le_refl 4),List.drop_of_length_le (by rw [putl_len];exact Nat.le_refl 4),List.nil_append]
theorem enc_not0 {kind ep : Int} {data rest : List Int} (h : 1 ≤ kind) : ¬ (encL kind ep data ++ rest).take 11 = zs 11 := by
 intro e
 have h6 : (encL kind ep data ++ rest)[6]? = some kind := by
  have ex : encL kind ep data ++ rest = putl (sumN (bodyL kind ep data)) 4 ++ (putl data.length 2 ++ (kind :: (putl ep.toNat 4 ++ (data ++ rest)))) := by simp [encL,bodyL]
  rw [ex,List.getElem?_append_right (by rw [putl_len];decide),putl_len,List.getElem?_append_right (by rw [putl_len];decide),putl_len]
  rfl
 have : ((encL kind ep data ++ rest).take 11)[6]? = some kind := by rw [List.getElem?_take_of_lt (by decide)];exact h6
 rw [e] at this
 simp [zs] at this
 omega
theorem dec_enc (kind ep ep' : Int) (data rest : List Int) (hk : rightF kind data.length = true) (he : 0 ≤ ep ∧ ep ≤ 4294967295) : decE (encL kind ep data ++ rest) ep' = if ep' = ep then 0 else 2 := by
 have hr : 1 ≤ kind ∧ kind ≤ 4 ∧ data.length ≤ 197 := by
  unfold rightF at hk
  simp at hk
  omega
 obtain ⟨p1,p2,p3,p4,p5,p6⟩ := parts_enc kind ep data rest he hr.2.2
 have hl := encL_len kind ep data
 unfold decE
 rw [p1,p2,p3,p4,p6,if_neg (by rw [List.length_append];omega),if_neg (enc_not0 hr.1)]
 have hr0 : rightF kind 0 = true := by unfold rightF;simp;omega
 by_cases e : ep' = ep
 ·rw [if_pos e,if_neg (by rw [hr0];simp;exact ⟨by omega,e.symm⟩),if_neg (by rw [List.length_append];omega),if_neg (by simp)]
 ·rw [if_neg e,if_pos (.inr (.inr (fun h => e h.symm)))]
end Go.Proofs.YtaekpfhgdnfciaaDoor.O
end

section
namespace Go.Proofs.YtaekpfhgdnfciaaDoor.O
open Go.Proofs.YtaekpfhgdnfciaaDoor.F Go.Proofs.YtaekpfhgdnfciaaDoor.F.Nums Go.Proofs.YtaekpfhgdnfciaaDoor.Plain
def cov (ok : List Bool) (f t : Int) : Bool := covN ok (tch (cl f) (cl t)).1.toNat ((tch (cl f) (cl t)).2.toNat - (tch (cl f) (cl t)).1.toNat)
def frAt (body : List Int) (p : Nat) : List Int := (body.drop p).take (lf (p : Int)).toNat
def told (ep : Int) (body : List Int) (ok : List Bool) (p : Nat) : Option (Int × List Int × Nat) :=
 if p = 832 then none
 else if cov ok p (p + 11) = false then none
 else if decE (frAt body p) ep ≠ 0 then none
 else if cov ok p (p + (11 + (nOf (frAt body p) : Int))) = false then none
 else some (kOf (frAt body p),decD (frAt body p),11 + nOf (frAt body p))
structure ScSt where
 at_ : Nat
 op : Bool
 b : List Int
 first : Int
 recs : List (List Int)
 places : List Int
 en : Nat
def ScSt0 : ScSt := ⟨0,false,[],0,[],[],0⟩
def bgN (a : Nat) : Nat := (bg (cl (a : Int))).toNat
def scFed (s : ScSt) (k : Int) (d : List Int) (n : Nat) : Option ScSt :=
 if (feedF s.op s.b k d).1.2.2 ≠ 0 then none
 else if (feedF s.op s.b k d).1.2.1 = true then
  some ⟨bgN s.at_ + n,(feedF s.op s.b k d).2.1,(feedF s.op s.b k d).2.2,if s.op then s.first else (bgN s.at_ : Int),s.recs ++ [(feedF s.op s.b k d).1.1],s.places ++ [if s.op then s.first else (bgN s.at_ : Int)],bgN s.at_ + n⟩
 else some ⟨bgN s.at_ + n,(feedF s.op s.b k d).2.1,(feedF s.op s.b k d).2.2,if s.op then s.first else (bgN s.at_ : Int),s.recs,s.places,s.en⟩
def scStep (T : Nat → Option (Int × List Int × Nat)) (s : ScSt) : Option ScSt :=
 match T (bgN s.at_) with
 |none => none
 |some x => scFed s x.1 x.2.1 x.2.2
def scRun (T : Nat → Option (Int × List Int × Nat)) : Nat → ScSt → ScSt
 |0,s => s
 |m + 1,s => match scStep T s with|none => s|some s' => scRun T m s'
def scanM (ep : Int) (body : List Int) (ok : List Bool) : ScSt := scRun (told ep body ok) 76 ScSt0
theorem scRun_none {T : Nat → Option (Int × List Int × Nat)} {s : ScSt} (h : scStep T s = none) (M : Nat) : scRun T M s = s := by
 cases M with
 |zero => rfl
 |succ M => simp only [scRun,h]
theorem scRun_some {T : Nat → Option (Int × List Int × Nat)} {s s' : ScSt} (h : scStep T s = some s') (M : Nat) : scRun T (M + 1) s = scRun T M s' := by simp only [scRun,h]
theorem bgN_le (a : Nat) : bgN a ≤ 832 := by unfold bgN;have := bg_hi (cl_hi (a : Int));have := bg_lo (cl_lo (a : Int));omega
theorem bgN_cast (a : Nat) : ((bgN a : Nat) : Int) = bg (cl (a : Int)) := by unfold bgN;have := bg_lo (cl_lo (a : Int));omega
end Go.Proofs.YtaekpfhgdnfciaaDoor.O
end

section
namespace Go.Proofs.YtaekpfhgdnfciaaDoor.F

attribute [local go_sem high] eqA83
attribute [local go_sem] field83_0
attribute [local go_sem] field83_1
attribute [local go_sem] max2_int min2_int max_two min_two max_three min_three max_four min_four
/-! ### cut_kind: function 66 -/
def cut_kind.j0 : Nat → Bool → Bool → Bool → Option (Int)
 |0,_,_,_ => none
 |k + 1,x0,x1,x5 => if x5 = true then (some 1) else (if x0 = true then (some 2) else (if x1 = true then (some 4) else (some 3)))
def cut_kind.f (k : Nat) (a0 : Bool) (a1 : Bool) : Option (Int) := if a0 = true then (cut_kind.j0 k a0 a1 a1) else (cut_kind.j0 k a0 a1 false)
set_option maxHeartbeats 8000000 in
set_option maxRecDepth 100000 in
theorem cut_kind.calls (k : Nat) (a0 : Bool) (a1 : Bool) (r : Int) (w : World) (h : cut_kind.f k a0 a1 = some r) :
  Calls Tryd.prog 66 #[.bool a0,.bool a1] w fun e w' => e = .returned (.int .i64 r) ∧ Drawn0 w w' := by
 have hu73 := Tryd.underlying73
 have hu76 := Tryd.underlying76
 have hu83 := Tryd.underlying83
 have hu94 := Tryd.underlying94
 have hu106 := Tryd.underlying106
 have H : (if a0 = true then (cut_kind.j0 k a0 a1 a1) else (cut_kind.j0 k a0 a1 false)) = some r := h
 clear h
 have HC3 := Aside0.mk H
 clear H
 go_enter Tryd.func66,Tryd.ntmps66
 go_upto_region 1 with (fail)
 go_cut [5] (fun v5 wc => ∃ (kq : Nat) (x5_2 : Bool),v5 = .bool x5_2 ∧ Aside0 (cut_kind.j0 kq a0 a1 x5_2 = some r) ∧ Aside0 (kq ≤ k) ∧ Drawn0 w wc)
 case first =>
  have H := HC3.out
  clear HC3
  by_cases c4 : a0 = true
  ·subst c4
   have H1 : (cut_kind.j0 k true a1 a1) = some r := by rw [if_pos rfl] at H;exact H
   clear H
   have H := H1
   clear H1
   have H' := Aside0.mk H
   clear H
   go_wp2
   go_meet
   case rel => exact ⟨_,(a1),(by first|rfl|(simp;done)|(simp [*];done)),H',⟨by first|omega|exact Nat.le_refl _⟩,by repeat (first|exact Drawn0.refl _|apply Drawn0.step)⟩
  ·replace c4 := Bool.eq_false_iff.mpr c4
   subst c4
   have H1 : (cut_kind.j0 k false a1 false) = some r := by rw [if_neg (show ¬ (false = true) by decide)] at H;exact H
   clear H
   have H := H1
   clear H1
   have H' := Aside0.mk H
   clear H
   go_wp2
   go_meet
   case rel => exact ⟨_,(false),(by first|rfl|(simp;done)|(simp [*];done)),H',⟨by first|omega|exact Nat.le_refl _⟩,by repeat (first|exact Drawn0.refl _|apply Drawn0.step)⟩
 case rest =>
  clear HC3
  try clear p2
  try clear c4
  obtain ⟨kq,x5_2,rfl,HA,HJ2,⟨mc2,rfl⟩⟩ := hcut
  cases kq with
  |zero => exact absurd HA.out (by simp [cut_kind.j0])
  |succ kj2 =>
   have H := HA.out
   clear HA
   simp only [cut_kind.j0] at H
   by_cases c5 : x5_2 = true
   ·subst c5
    have H1 : (some 1) = some r := by rw [if_pos rfl] at H;exact H
    clear H
    have H := H1
    clear H1
    obtain rfl := Option.some.inj H
    go_wp2
    go_ret
    exact ⟨by first|rfl|(simp;done)|(simp [*];done),by repeat (first|exact Drawn0.refl _|apply Drawn0.step)⟩
   ·replace c5 := Bool.eq_false_iff.mpr c5
    subst c5
    have H1 : (if a0 = true then (some 2) else (if a1 = true then (some 4) else (some 3))) = some r := by rw [if_neg (show ¬ (false = true) by decide)] at H;exact H
    clear H
    have H := H1
    clear H1
    by_cases c6 : a0 = true
    ·subst c6
     have H1 : (some 2) = some r := by rw [if_pos rfl] at H;exact H
     clear H
     have H := H1
     clear H1
     obtain rfl := Option.some.inj H
     go_wp2
     go_ret
     exact ⟨by first|rfl|(simp;done)|(simp [*];done),by repeat (first|exact Drawn0.refl _|apply Drawn0.step)⟩
    ·replace c6 := Bool.eq_false_iff.mpr c6
     subst c6
     have H1 : (if a1 = true then (some 4) else (some 3)) = some r := by rw [if_neg (show ¬ (false = true) by decide)] at H;exact H
     clear H
     have H := H1
     clear H1
     by_cases c7 : a1 = true
     ·subst c7
      have H1 : (some 4) = some r := by rw [if_pos rfl] at H;exact H
      clear H
      have H := H1
      clear H1
      obtain rfl := Option.some.inj H
      go_wp2
      go_ret
      exact ⟨by first|rfl|(simp;done)|(simp [*];done),by repeat (first|exact Drawn0.refl _|apply Drawn0.step)⟩
     ·replace c7 := Bool.eq_false_iff.mpr c7
      subst c7
      have H1 : (some 3) = some r := by rw [if_neg (show ¬ (false = true) by decide)] at H;exact H
      clear H
      have H := H1
      clear H1
      obtain rfl := Option.some.inj H
      go_wp2
      go_ret
      exact ⟨by first|rfl|(simp;done)|(simp [*];done),by repeat (first|exact Drawn0.refl _|apply Drawn0.step)⟩
end Go.Proofs.YtaekpfhgdnfciaaDoor.F
end

section
namespace Go.Proofs.YtaekpfhgdnfciaaDoor.F

attribute [local go_sem] max2_int min2_int max_two min_two max_three min_three max_four min_four
def cut_next.f (k : Nat) (at_ n from_ : Int) (out : List S94) : Option (Option (Int × Int × List S94)) :=
 (span_Begin.f at_).bind fun b => (span_Left.f b).bind fun l => if wrap64 (l - 11) < 0 then some none else
  (cut_kind.f k ((out.length : Int) == 0) (mn n (wrap64 (from_ + wrap64 (l - 11))) == n)).bind fun kd =>
   if out.length < 4398046511104 then some (some (wrap64 (wrap64 (wrap64 (b + 11) + mn n (wrap64 (from_ + wrap64 (l - 11)))) - from_),mn n (wrap64 (from_ + wrap64 (l - 11))),out ++ [⟨b,kd,from_,mn n (wrap64 (from_ + wrap64 (l - 11)))⟩])) else none
set_option maxHeartbeats 1000000 in
set_option maxRecDepth 100000 in
theorem cut_next.calls (k : Nat) (at_ n from_ : Int) (out : List S94) (r : Option (Int × Int × List S94)) (h : cut_next.f k at_ n from_ out = some r) (w : World) (base gA gN gF gO : Nat) (v : Value)
  (hA : w.heap[gA]? = some (.cells #[.int .i64 at_] 3 (0,0))) (hN : w.heap[gN]? = some (.cells #[.int .i64 n] 3 (0,0))) (hF : w.heap[gF]? = some (.cells #[.int .i64 from_] 3 (0,0))) (hO : w.heap[gO]? = some (.cells #[v] 90 (0,0)))
  (nAN : gA ≠ gN) (nAF : gA ≠ gF) (nNF : gN ≠ gF) (bA : base ≤ gA) (bN : base ≤ gN) (bF : base ≤ gF) (bO : base ≤ gO)
  (hR : Kd.R k94 94 w base (fun _ => True) v out) :
  Calls Tryd.prog 65 #[.pointer (some ⟨gA,0,none⟩),.pointer (some ⟨gN,0,none⟩),.pointer (some ⟨gF,0,none⟩),.pointer (some ⟨gO,0,none⟩)] w fun e w' => e = .returned (.bool r.isSome) ∧ Below base w w' ∧
   ∀ s,r = some s → w'.heap[gA]? = some (.cells #[.int .i64 s.1] 3 (0,0)) ∧ w'.heap[gN]? = some (.cells #[.int .i64 n] 3 (0,0)) ∧ w'.heap[gF]? = some (.cells #[.int .i64 s.2.1] 3 (0,0)) ∧
    ∃ v',w'.heap[gO]? = some (.cells #[v'] 90 (0,0)) ∧ Kd.R k94 94 w' base (fun _ => True) v' s.2.2 := by
 unfold cut_next.f at h
 obtain ⟨b,hb,h⟩ := Option.bind_eq_some_iff.mp h
 obtain ⟨l,hl,h⟩ := Option.bind_eq_some_iff.mp h
 have HB := Aside0.mk hb
 have HL := Aside0.mk hl
 clear hb hl
 replace h := Aside0.mk h
 have cA : w.cell? ⟨gA,0,none⟩ = some (.int .i64 at_) := blk_cell hA 0
 have fA := blk_frozen hA 0
 go_enter Tryd.func65,Tryd.ntmps65
 go_wp2_with fail
 refine (span_Begin.calls at_ b _ HB.out).mono ?_
 rintro e w1 ⟨rfl,hb1⟩
 have hA1 := blk_below hA hb1
 have hN1 := blk_below hN hb1
 have hF1 := blk_below hF hb1
 have hO1 := blk_below hO hb1
 have hR1 := Kd.R_below hR hb1
 have B1 : Below base w w1 := hb1.mono (by have := blk_lt hA;omega)
 clear hA hN hF hO hR cA fA hb1
 have cA1 : w1.cell? ⟨gA,0,none⟩ = some (.int .i64 at_) := blk_cell hA1 0
 have fA1 := blk_frozen hA1 0
 have oA : gO ≠ gA := blk_ne hO1 hA1 (by decide)
 have oF : gO ≠ gF := blk_ne hO1 hF1 (by decide)
 have oN : gO ≠ gN := blk_ne hO1 hN1 (by decide)
 go_wp2_with fail
 obtain ⟨W2,hW2⟩ : ∃ W2,w1.setCell ⟨gA,0,none⟩ (.int .i64 b) = W2 := ⟨_,rfl⟩
 have hA2 : W2.heap[gA]? = some (.cells #[.int .i64 b] 3 (0,0)) := by rw [← hW2];exact blk_put hA1 0 _ rfl
 have hN2 : W2.heap[gN]? = some (.cells #[.int .i64 n] 3 (0,0)) := by rw [← hW2];exact blk_far hN1 (p := ⟨gA,0,none⟩) nAN.symm _
 have hF2 : W2.heap[gF]? = some (.cells #[.int .i64 from_] 3 (0,0)) := by rw [← hW2];exact blk_far hF1 (p := ⟨gA,0,none⟩) nAF.symm _
 have hO2 : W2.heap[gO]? = some (.cells #[v] 90 (0,0)) := by rw [← hW2];exact blk_far hO1 (p := ⟨gA,0,none⟩) oA _
 have hR2 : Kd.R k94 94 W2 base (fun _ => True) v out := by rw [← hW2];exact Kd.R_set hR1 hA1 (by decide) 0 _
 have B2 : Below base w W2 := by rw [← hW2];exact B1.setCell (p := ⟨gA,0,none⟩) bA _
 rw [hW2]
 clear hW2 hA1 hN1 hF1 hO1 hR1 B1 cA1 fA1
 refine (span_Left.calls b l _ HL.out).mono ?_
 rintro e w3 ⟨rfl,hb3⟩
 have hA3 := blk_below hA2 hb3
 have hN3 := blk_below hN2 hb3
 have hF3 := blk_below hF2 hb3
 have hO3 := blk_below hO2 hb3
 have hR3 := Kd.R_below hR2 hb3
 have B3 : Below base w w3 := B2.trans (hb3.mono (by have := blk_lt hA2;omega))
 clear hA2 hN2 hF2 hO2 hR2 B2 hb3
 have cA3 : w3.cell? ⟨gA,0,none⟩ = some (.int .i64 b) := blk_cell hA3 0
 have cN3 : w3.cell? ⟨gN,0,none⟩ = some (.int .i64 n) := blk_cell hN3 0
 have cF3 : w3.cell? ⟨gF,0,none⟩ = some (.int .i64 from_) := blk_cell hF3 0
 have cO3 : w3.cell? ⟨gO,0,none⟩ = some v := blk_cell hO3 0
 have hw : ∀ x : Int,IntKind.i64.wrap x = wrap64 x := i64_w
 by_cases c : wrap64 (l - 11) < 0
 ·have h2 := h.out
  rw [if_pos c] at h2
  obtain rfl := Option.some.inj h2
  clear h h2
  have c1 : decide (wrap64 (l - 11) < 0) = true := decide_eq_true c
  clear c
  go_wp2
  go_ret
  exact ⟨rfl,B3,fun s hs => by cases hs⟩
 ·have h2 := h.out
  rw [if_neg c] at h2
  obtain ⟨kd,hk,h2⟩ := Option.bind_eq_some_iff.mp h2
  obtain ⟨t,ht⟩ : ∃ t : Int,mn n (wrap64 (from_ + wrap64 (l - 11))) = t := ⟨_,rfl⟩
  rw [ht] at h2 hk
  have HK := Aside0.mk hk
  clear h hk
  have c1 : decide (wrap64 (l - 11) < 0) = false := decide_eq_false c
  clear c
  have ht' : (if wrap64 (from_ + wrap64 (l - 11)) < n then wrap64 (from_ + wrap64 (l - 11)) else n) = t := ht
  clear ht
  by_cases c : out.length < 4398046511104
  ·rw [if_pos c] at h2
   obtain rfl := Option.some.inj h2
   clear h2
   obtain ⟨Av,cv,ev⟩ := Kd.R_slice hR3
   subst ev
   go_wp2
   refine start_ (n := 15) (S := fun w' => w'.cell? ⟨gA,0,none⟩ = some (.int .i64 b) ∧ w'.cell? ⟨gN,0,none⟩ = some (.int .i64 n) ∧ w'.cell? ⟨gF,0,none⟩ = some (.int .i64 from_) ∧ w'.cell? ⟨gO,0,none⟩ = some (.slice Av out.length cv)) (ds := [14])
    #[f_,f_,f_,f_,f_,f_,f_,f_,f_,f_,f_,f_,f_,f_,f_] (by kernel_rfl) rfl rfl ⟨cA3,cN3,cF3,cO3⟩ (fun hHeld => ?_)
   refine take_ (i := 0) (N := some 19) (v := .slice Av out.length cv) (a' := ?_) #[t_,f_,f_,f_,f_,f_,f_,f_,f_,f_,f_,f_,f_,f_,f_] rfl rfl (by kernel_rfl) (fun _ _ _ h => h) (Or.inl ⟨by rfl,?_⟩) hHeld ?_ ?_
   ·intro w' hSw
    obtain ⟨s1,s2,s3,s4⟩ := hSw
    go_simp
   rotate_left
   ·simp only [ps_]
    rfl
   refine take_ (i := 1) (N := some 20) (v := .int .i64 b) (a' := ?_) #[t_,t_,f_,f_,f_,f_,f_,f_,f_,f_,f_,f_,f_,f_,f_] rfl rfl (by kernel_rfl) (fun _ _ _ h => h) (Or.inl ⟨by rfl,?_⟩) hHeld ?_ ?_
   ·intro w' hSw
    obtain ⟨s1,s2,s3,s4⟩ := hSw
    go_simp
   rotate_left
   ·simp only [ps_]
    rfl
   refine take_ (i := 2) (N := some 21) (v := .slice Av out.length cv) (a' := ?_) #[t_,t_,t_,f_,f_,f_,f_,f_,f_,f_,f_,f_,f_,f_,f_] rfl rfl (by kernel_rfl) (fun _ _ _ h => h) (Or.inl ⟨by rfl,?_⟩) hHeld ?_ ?_
   ·intro w' hSw
    obtain ⟨s1,s2,s3,s4⟩ := hSw
    go_simp
   rotate_left
   ·simp only [ps_]
    rfl
   refine pure_ (i := 3) (N := some 22) #[t_,t_,t_,t_,f_,f_,f_,f_,f_,f_,f_,f_,f_,f_,f_] rfl rfl (by kernel_rfl) (fun _ _ _ h => h) (Or.inl ⟨by rfl,by intro w';go_simp;with_reducible rfl⟩) (by simp only [ps_];rfl) ?_
   refine pure_ (i := 4) (N := some 23) #[t_,t_,t_,t_,t_,f_,f_,f_,f_,f_,f_,f_,f_,f_,f_] rfl rfl (by kernel_rfl) (fun _ _ _ h => h) (Or.inl ⟨by rfl,by intro w';go_simp;with_reducible rfl⟩) (by simp only [ps_];rfl) ?_
   refine pure_ (i := 5) (N := some 24) #[t_,t_,t_,t_,t_,t_,f_,f_,f_,f_,f_,f_,f_,f_,f_] rfl rfl (by kernel_rfl) (fun _ _ _ h => h) (Or.inl ⟨by rfl,by intro w';go_simp;with_reducible rfl⟩) (by simp only [ps_];rfl) ?_
   refine take_ (i := 6) (N := some 25) (v := .int .i64 n) (a' := ?_) #[t_,t_,t_,t_,t_,t_,t_,f_,f_,f_,f_,f_,f_,f_,f_] rfl rfl (by kernel_rfl) (fun _ _ _ h => h) (Or.inl ⟨by rfl,?_⟩) hHeld ?_ ?_
   ·intro w' hSw
    obtain ⟨s1,s2,s3,s4⟩ := hSw
    go_simp
   rotate_left
   ·simp only [ps_]
    rfl
   refine pure_ (i := 7) (N := some 26) #[t_,t_,t_,t_,t_,t_,t_,t_,f_,f_,f_,f_,f_,f_,f_] rfl rfl (by kernel_rfl) (fun _ _ _ h => h) (Or.inl ⟨by rfl,by intro w';go_simp;with_reducible rfl⟩) (by simp only [ps_];rfl) ?_
   refine take_ (i := 9) (N := some 28) (v := .int .i64 from_) (a' := ?_) #[t_,t_,t_,t_,t_,t_,t_,t_,f_,t_,f_,f_,f_,f_,f_] rfl rfl (by kernel_rfl) (fun _ _ _ h => h) (Or.inl ⟨by rfl,?_⟩) hHeld ?_ ?_
   ·intro w' hSw
    obtain ⟨s1,s2,s3,s4⟩ := hSw
    go_simp
   rotate_left
   ·simp only [ps_]
    rfl
   refine pure_ (i := 10) (N := some 29) #[t_,t_,t_,t_,t_,t_,t_,t_,f_,t_,t_,f_,f_,f_,f_] rfl rfl (by kernel_rfl) (fun _ _ _ h => h) (Or.inl ⟨by rfl,by intro w';go_simp;with_reducible rfl⟩) (by simp only [ps_];rfl) ?_
   refine one_ (i := 8) (N := some 27) #[t_,t_,t_,t_,t_,t_,t_,t_,t_,t_,t_,f_,f_,f_,f_] rfl rfl (by kernel_rfl) (by decide) (fun K hK => ?_)
   refine goes_ Tryd.func66 (by kernel_rfl) rfl #[.bool ((out.length : Int) == 0),.bool (t == n)] (by rfl) rfl rfl (by (try simp only [List.map_toArray,List.map_cons,List.map_nil]);first|done|rfl) ?_
   with_reducible refine (cut_kind.calls k _ _ kd _ HK.out).mono ?_
   rintro e w' ⟨rfl,⟨nd,rfl⟩⟩
   refine ⟨_,rfl,?_⟩
   refine hK.out _ _ hHeld (fun hHeld => ?_)
   clear hK K
   refine norm_ (by show Act.put _ (some 27) _ = _;simp only [ps_];rfl) ?_
   refine pure_ (i := 11) (N := some 30) #[t_,t_,t_,t_,t_,t_,t_,t_,t_,t_,t_,t_,f_,f_,f_] rfl rfl (by kernel_rfl) (fun _ _ _ h => h) (Or.inl ⟨by rfl,by intro w';go_simp;with_reducible rfl⟩) (by simp only [ps_];rfl) ?_
   refine one_ (i := 12) (N := some 31) #[t_,t_,t_,t_,t_,t_,t_,t_,t_,t_,t_,t_,t_,f_,f_] rfl rfl (by kernel_rfl) (by decide) (fun K hK => ?_)
   refine wanted_ (by rfl) ?_
   unfold Oper.wp
   go_simp
   refine hK.out _ _ ⟨blk_cell (blk_alloc (blk_drewN hA3 _) _) 0,blk_cell (blk_alloc (blk_drewN hN3 _) _) 0,blk_cell (blk_alloc (blk_drewN hF3 _) _) 0,blk_cell (blk_alloc (blk_drewN hO3 _) _) 0⟩ (fun hHeld => ?_)
   clear hK K
   refine one_ (i := 13) (N := some 32) #[t_,t_,t_,t_,t_,t_,t_,t_,t_,t_,t_,t_,t_,t_,f_] rfl rfl (by kernel_rfl) (by decide) (fun K hK => ?_)
   refine Kd.R_append_step k94 (w0 := w) base (by rfl) (.tmp 19) (.tmp 31) 90 94 (.agg #[(.int .i64 0),(.int .i64 0),(.int .i64 0),(.int .i64 0)]) 32 rfl Tryd.underlying90 info94 rfl (by decide) (by decide) (.slice Av out.length cv) out (⟨b,kd,from_,t⟩ : S94) [.int .i64 b,.int .i64 kd,.int .i64 from_,.int .i64 t] (fun _ => True) (fun _ => False) rfl rfl (k94_mkM _ _ _ ⟨b,kd,from_,t⟩) (fun _ hk => hk.elim) (fun _ _ => trivial) (Kd.R_drewN hR3 _) (pw_below_drewN B3 _) (by have := blk_lt hA3;exact Nat.le_of_lt (Nat.lt_of_le_of_lt bA this)) (by omega) ?_
   intro v1 w4 hR4 B4 hg4 hat4
   have nA : some gA ≠ (Value.slice Av out.length cv).ownBlock := Kd.R_ne hR3 hA3 (by decide)
   have nN : some gN ≠ (Value.slice Av out.length cv).ownBlock := Kd.R_ne hR3 hN3 (by decide)
   have nF : some gF ≠ (Value.slice Av out.length cv).ownBlock := Kd.R_ne hR3 hF3 (by decide)
   have nO : some gO ≠ (Value.slice Av out.length cv).ownBlock := Kd.R_ne hR3 hO3 (by decide)
   have hA4 := blk_grown (blk_drewN hA3 _) hg4 nA
   have hN4 := blk_grown (blk_drewN hN3 _) hg4 nN
   have hF4 := blk_grown (blk_drewN hF3 _) hg4 nF
   have hO4 := blk_grown (blk_drewN hO3 _) hg4 nO
   clear nA nN nF nO hg4 hat4
   have cA4 : w4.cell? ⟨gA,0,none⟩ = some (.int .i64 b) := blk_cell hA4 0
   have cN4 : w4.cell? ⟨gN,0,none⟩ = some (.int .i64 n) := blk_cell hN4 0
   have cF4 : w4.cell? ⟨gF,0,none⟩ = some (.int .i64 from_) := blk_cell hF4 0
   have cO4 : w4.cell? ⟨gO,0,none⟩ = some (.slice Av out.length cv) := blk_cell hO4 0
   have fO4 := blk_frozen hO4 0
   refine hK.out _ _ ⟨cA4,cN4,cF4,cO4⟩ (fun hHeld => ?_)
   clear hK K hHeld
   refine norm_ (by show Act.put _ (some 32) _ = _;simp only [ps_];rfl) ?_
   obtain ⟨A4,c4,e4⟩ := Kd.R_slice hR4
   subst e4
   refine last_ (i := 14) (N := none) #[t_,t_,t_,t_,t_,t_,t_,t_,t_,t_,t_,t_,t_,t_,t_] rfl rfl (by kernel_rfl) (by decide) (fun K hK => ?_)
   refine wanted_ (by rfl) ?_
   unfold Oper.wp
   go_simp
   refine hK.out _ _ ?_
   clear hK K
   refine done_ (by kernel_rfl) ?_
   have oA : gO ≠ gA := blk_ne hO4 hA4 (by decide)
   have oF : gO ≠ gF := blk_ne hO4 hF4 (by decide)
   have oN : gO ≠ gN := blk_ne hO4 hN4 (by decide)
   rw [show (out ++ [(⟨b,kd,from_,t⟩ : S94)]).length = out.length + 1 by simp] at hR4
   obtain ⟨W5,hW5⟩ : ∃ W5,w4.setCell ⟨gO,0,none⟩ (.slice A4 (out.length + 1) c4) = W5 := ⟨_,rfl⟩
   rw [hW5]
   have hA5 : W5.heap[gA]? = some (.cells #[.int .i64 b] 3 (0,0)) := by rw [← hW5];exact blk_far hA4 (p := ⟨gO,0,none⟩) oA.symm _
   have hN5 : W5.heap[gN]? = some (.cells #[.int .i64 n] 3 (0,0)) := by rw [← hW5];exact blk_far hN4 (p := ⟨gO,0,none⟩) oN.symm _
   have hF5 : W5.heap[gF]? = some (.cells #[.int .i64 from_] 3 (0,0)) := by rw [← hW5];exact blk_far hF4 (p := ⟨gO,0,none⟩) oF.symm _
   have hO5 : W5.heap[gO]? = some (.cells #[.slice A4 (out.length + 1) c4] 90 (0,0)) := by rw [← hW5];exact blk_put hO4 0 _ rfl
   have hR5 : Kd.R k94 94 W5 base (fun _ => True) (.slice A4 (out.length + 1) c4) (out ++ [⟨b,kd,from_,t⟩]) := by rw [← hW5];exact Kd.R_set hR4 hO4 (by decide) 0 _
   have B5 : Below base w W5 := by rw [← hW5];exact B4.setCell (p := ⟨gO,0,none⟩) bO _
   clear hW5 hA4 hN4 hF4 hO4 hR4 B4 cA4 cN4 cF4 cO4 fO4
   have cA5 : W5.cell? ⟨gA,0,none⟩ = some (.int .i64 b) := blk_cell hA5 0
   have fA5 := blk_frozen hA5 0
   have cF5 : W5.cell? ⟨gF,0,none⟩ = some (.int .i64 from_) := blk_cell hF5 0
   have fF5 := blk_frozen hF5 0
   go_wp2
   go_ret
   have hA6 := blk_put hA5 0 (.int .i64 (wrap64 (wrap64 (wrap64 (b + 11) + t) - from_))) rfl
   have hF6 := blk_far hF5 (p := ⟨gA,0,none⟩) nAF.symm (.int .i64 (wrap64 (wrap64 (wrap64 (b + 11) + t) - from_)))
   have hN6 := blk_far hN5 (p := ⟨gA,0,none⟩) nAN.symm (.int .i64 (wrap64 (wrap64 (wrap64 (b + 11) + t) - from_)))
   have hO6 := blk_far hO5 (p := ⟨gA,0,none⟩) oA (.int .i64 (wrap64 (wrap64 (wrap64 (b + 11) + t) - from_)))
   have hR6 := Kd.R_set hR5 hA5 (by decide) 0 (.int .i64 (wrap64 (wrap64 (wrap64 (b + 11) + t) - from_)))
   refine ⟨rfl,(B5.setCell (p := ⟨gA,0,none⟩) bA _).setCell (p := ⟨gF,0,none⟩) bF _,fun s hs => ?_⟩
   obtain rfl := Option.some.inj hs
   exact ⟨blk_far hA6 (p := ⟨gF,0,none⟩) nAF _,blk_far hN6 (p := ⟨gF,0,none⟩) nNF _,blk_put hF6 0 _ rfl,_,blk_far hO6 (p := ⟨gF,0,none⟩) oF _,Kd.R_set hR6 hF6 (by decide) 0 _⟩
  ·rw [if_neg c] at h2
   cases h2
def cut_Cut.l0 : Nat → Int → Int → Int → List S94 → Option (List S94 × Int × Bool)
 |0,_,_,_,_ => none
 |k + 1,at_,n,from_,out => if ((out.length : Int) == 0 ||decide (from_ < n)) = true then (cut_next.f k at_ n from_ out).bind (fun r => r.elim (some ([],0,false)) (fun s => cut_Cut.l0 k s.1 n s.2.1 s.2.2)) else some (out,at_,true)
def cut_Cut.f (k : Nat) (a0 : Int) (a1 : Int) : Option (List S94 × Int × Bool) := if a1 < 0 then some ([],0,false) else if a1 > 832 then some ([],0,false) else cut_Cut.l0 k a0 a1 0 []
set_option maxHeartbeats 1000000 in
set_option maxRecDepth 100000 in
theorem cut_Cut.calls (k : Nat) (a0 : Int) (a1 : Int) (r1 : List S94) (r2 : Int) (r3 : Bool) (w : World) (h : cut_Cut.f k a0 a1 = some (r1,r2,r3)) :
  Calls Tryd.prog 44 #[.int .i64 a0,.int .i64 a1] w fun e w' => ∃ v0_ : Value,e = .returned (.tuple #[v0_,.int .i64 r2,.bool r3]) ∧ Kd.R k94 94 w' w.heap.size (fun _ => True) v0_ r1 ∧ Below w.heap.size w w' := by
 unfold cut_Cut.f at h
 have B0 := Below.refl w.heap.size w
 by_cases c1 : a1 < 0
 ·rw [if_pos c1] at h
  simp only [Option.some.injEq,Prod.mk.injEq] at h
  obtain ⟨rfl,rfl,rfl⟩ := h
  have d1 : decide (a1 < 0) = true := decide_eq_true c1
  clear c1
  go_enter Tryd.func44,Tryd.ntmps44
  go_wp2
  go_ret3
  exact ⟨_,rfl,Kd.R_nil _ _ _ _ _,below_alloc (below_alloc B0 _) _⟩
 ·rw [if_neg c1] at h
  have d1 : decide (a1 < 0) = false := decide_eq_false c1
  clear c1
  by_cases c2 : a1 > 832
  ·rw [if_pos c2] at h
   simp only [Option.some.injEq,Prod.mk.injEq] at h
   obtain ⟨rfl,rfl,rfl⟩ := h
   have d2 : decide (832 < a1) = true := decide_eq_true c2
   clear c2
   go_enter Tryd.func44,Tryd.ntmps44
   go_wp2
   go_ret3
   exact ⟨_,rfl,Kd.R_nil _ _ _ _ _,below_alloc (below_alloc B0 _) _⟩
  ·rw [if_neg c2] at h
   have d2 : decide (832 < a1) = false := decide_eq_false c2
   clear c2
   replace h := Aside0.mk h
   go_enter Tryd.func44,Tryd.ntmps44
   go_wp2_with fail
   obtain ⟨W,hW⟩ : ∃ W,(((w.alloc (.cells #[.int .i64 a0] 3)).alloc (.cells #[.int .i64 a1] 3)).alloc (.cells #[.slice none 0 0] 90)).alloc (.cells #[.int .i64 0] 3) = W := ⟨_,rfl⟩
   have hA : W.heap[w.heap.size]? = some (.cells #[.int .i64 a0] 3 (0,0)) := by rw [← hW];exact blk_alloc (blk_alloc (blk_alloc (blk_new w _) _) _) _
   have hN : W.heap[w.heap.size + 1]? = some (.cells #[.int .i64 a1] 3 (0,0)) := by
    rw [← hW]
    have := blk_new (w.alloc (.cells #[.int .i64 a0] 3)) (.cells #[.int .i64 a1] 3)
    rw [World.size_alloc] at this
    exact blk_alloc (blk_alloc this _) _
   have hO : W.heap[w.heap.size + 1 + 1]? = some (.cells #[.slice none 0 0] 90 (0,0)) := by
    rw [← hW]
    have := blk_new ((w.alloc (.cells #[.int .i64 a0] 3)).alloc (.cells #[.int .i64 a1] 3)) (.cells #[.slice none 0 0] 90)
    rw [World.size_alloc,World.size_alloc] at this
    exact blk_alloc this _
   have hF : W.heap[w.heap.size + 1 + 1 + 1]? = some (.cells #[.int .i64 0] 3 (0,0)) := by
    rw [← hW]
    have := blk_new (((w.alloc (.cells #[.int .i64 a0] 3)).alloc (.cells #[.int .i64 a1] 3)).alloc (.cells #[.slice none 0 0] 90)) (.cells #[.int .i64 0] 3)
    rw [World.size_alloc,World.size_alloc,World.size_alloc] at this
    exact this
   have BW : Below w.heap.size w W := by rw [← hW];exact below_alloc (below_alloc (below_alloc (below_alloc B0 _) _) _) _
   rw [hW]
   clear hW B0
   replace hA := Aside0.mk hA
   replace hN := Aside0.mk hN
   replace hO := Aside0.mk hO
   replace hF := Aside0.mk hF
   replace BW := Aside0.mk BW
   go_loopg [] k (fun kq w' => ∃ (x_at x_from : Int) (x_out : List S94) (xv : Value),Aside0 (w'.heap[w.heap.size]? = some (.cells #[.int .i64 x_at] 3 (0,0))) ∧ Aside0 (w'.heap[w.heap.size + 1]? = some (.cells #[.int .i64 a1] 3 (0,0))) ∧ Aside0 (w'.heap[w.heap.size + 1 + 1]? = some (.cells #[xv] 90 (0,0))) ∧ Aside0 (w'.heap[w.heap.size + 1 + 1 + 1]? = some (.cells #[.int .i64 x_from] 3 (0,0))) ∧ Aside0 (cut_Cut.l0 kq x_at a1 x_from x_out = some (r1,r2,r3)) ∧ Aside0 (kq ≤ k) ∧ Aside0 (Kd.R k94 94 w' w.heap.size (fun _ => True) xv x_out) ∧ Aside0 (Below w.heap.size w w'))
   case atStart => exact ⟨a0,0,[],_,hA,hN,hO,hF,h,⟨Nat.le_refl _⟩,⟨Kd.R_nil _ _ _ _ _⟩,BW⟩
   case round =>
    clear hA hN hO hF BW h d1 d2
    obtain ⟨x_at,x_from,x_out,xv,hA,hN,hO,hF,HA,HK1,HO_,HB⟩ := hrel
    cases gk with
    |zero => exact absurd HA.out (by simp [cut_Cut.l0])
    |succ k1 =>
     have H := HA.out
     clear HA
     simp only [cut_Cut.l0] at H
     obtain ⟨Av,cv,ev⟩ := Kd.R_slice HO_.out
     subst ev
     have cN : wr.cell? ⟨w.heap.size + 1,0,none⟩ = some (.int .i64 a1) := blk_cell hN.out 0
     have cO : wr.cell? ⟨w.heap.size + 1 + 1,0,none⟩ = some (.slice Av x_out.length cv) := blk_cell hO.out 0
     have cF : wr.cell? ⟨w.heap.size + 1 + 1 + 1,0,none⟩ = some (.int .i64 x_from) := blk_cell hF.out 0
     by_cases c : ((x_out.length : Int) == 0 ||decide (x_from < a1)) = true
     ·rw [if_pos c] at H
      obtain ⟨s,hs,H⟩ := Option.bind_eq_some_iff.mp H
      have HS := Aside0.mk hs
      have H' := Aside0.mk H
      clear hs H
      by_cases e1 : ((x_out.length : Int) == 0) = true
      all_goals
       first
       |(have e2 : ((x_out.length : Int) == 0) = false := by simpa using e1)
       |skip
       first
       |(have e3 : decide (x_from < a1) = true := by rw [e2] at c;simpa using c)
       |skip
       clear c
       go_wp2_with fail
       refine (cut_next.calls k1 x_at a1 x_from x_out s HS.out wr w.heap.size w.heap.size (w.heap.size + 1) (w.heap.size + 1 + 1 + 1) (w.heap.size + 1 + 1) _ hA.out hN.out hF.out hO.out (by omega) (by omega) (by omega) (by omega) (by omega) (by omega) (by omega) HO_.out).mono ?_
       rintro e w5 ⟨rfl,b5,hs5⟩
       have HB5 := Aside0.mk (HB.out.trans b5)
       clear b5
       cases s with
       |none =>
        have H2 := H'.out
        simp only [Option.elim_none,Option.some.injEq,Prod.mk.injEq] at H2
        obtain ⟨rfl,rfl,rfl⟩ := H2
        clear hs5 H' HS
        simp only [Option.isSome_none]
        go_wp2
        go_ret3
        exact ⟨_,rfl,Kd.R_nil _ _ _ _ _,HB5.out⟩
       |some s =>
        obtain ⟨hA5,hN5,hF5,v5,hO5,hR5⟩ := hs5 s rfl
        have H2 := Aside0.mk H'.out
        simp only [Option.elim_some] at H2
        replace hA5 := Aside0.mk hA5
        replace hN5 := Aside0.mk hN5
        replace hF5 := Aside0.mk hF5
        replace hO5 := Aside0.mk hO5
        replace hR5 := Aside0.mk hR5
        clear hs5 H' HS hA hN hO hF HB HO_ cN cO cF
        simp only [Option.isSome_some]
        go_wp2
        go_roundg k1
        case measure => have := HK1.out;omega
        case rel => exact ⟨s.1,s.2.1,s.2.2,v5,hA5,hN5,hO5,hF5,H2,⟨by have := HK1.out;omega⟩,hR5,HB5⟩
     ·rw [if_neg c] at H
      simp only [Option.some.injEq,Prod.mk.injEq] at H
      obtain ⟨rfl,rfl,rfl⟩ := H
      have e1 : ((x_out.length : Int) == 0) = false := by cases e : ((x_out.length : Int) == 0) <;> simp_all
      have e2 : decide (x_from < a1) = false := by cases e : decide (x_from < a1) <;> simp_all
      have cA : wr.cell? ⟨w.heap.size,0,none⟩ = some (.int .i64 x_at) := blk_cell hA.out 0
      clear c
      go_wp2
      go_quiet (fail)
      go_wp2
      go_ret3
      exact ⟨_,rfl,by first|exact HO_.out|exact Kd.R_drewN HO_.out _|exact Kd.R_drew HO_.out,by first|exact HB.out|exact pw_below_drewN HB.out _⟩
end Go.Proofs.YtaekpfhgdnfciaaDoor.F
end

section
namespace Go.Proofs.YtaekpfhgdnfciaaDoor.F

attribute [local go_sem high] eqA83
attribute [local go_sem] field83_0
attribute [local go_sem] field83_1
attribute [local go_sem] max2_int min2_int max_two min_two max_three min_three max_four min_four
/-! ### cut_Frags: function 45 -/
def cut_Frags.l0 : Nat → Int → List Int → List (S76) → List (S94) → Int → Int → Option ((List (S76)) × Bool)
 |0,_,_,_,_,_,_ => none
 |k + 1,x0,x2,x11,x24,x25,x26 => if x26 < x25 then (if 0 ≤ x26 then (if x26 < (x24.length : Int) then ((some (([] : List Int) : List Int)).bind fun y201 => (if 0 ≤ ((rd_T94 x24 x26).f2) then (if ((rd_T94 x24 x26).f2) ≤ ((rd_T94 x24 x26).f3) then (if ((rd_T94 x24 x26).f3) ≤ (x2.length : Int) then (if y201.length + ((x2.take (((rd_T94 x24 x26).f3) : Int).toNat).drop (((rd_T94 x24 x26).f2) : Int).toNat).length < 140737488355328 then (if x11.length < 3518437208883 then (cut_Frags.l0 k x0 x2 (x11 ++ [(⟨(rd_T94 x24 x26).f1,x0,(y201 ++ ((x2.take (((rd_T94 x24 x26).f3) : Int).toNat).drop (((rd_T94 x24 x26).f2) : Int).toNat))⟩ : S76)]) x24 x25 (wrap64 (x26 + 1))) else (none)) else (none)) else (none)) else (none)) else (none))) else (none)) else (none)) else (some (x11,true))
def cut_Frags.f (k : Nat) (a0 : Int) (a1 : Int) (l2 : List Int) : Option ((List (S76)) × Bool) := (cut_Cut.f k a1 (l2.length : Int)).bind fun bt194 => (if bt194.2.2 = true then (cut_Frags.l0 k a0 l2 ([] : List (S76)) bt194.1 (bt194.1.length : Int) 0) else (some (([] : List (S76)),false)))
def cut_Frags.T8 : Bool × List (List Nat × List Nat) := (true,[([],[]),([],[]),([1],[1]),([],[]),([],[]),([],[]),([],[]),([6],[6]),([],[]),([8],[8]),([5,7,9],[5,7,9]),([4,10],[4,10]),([2,3,11],[2,3,11]),([12],[12]),([0,13,11],[0,13]),([14,14,0,1,2,3,4,5,6,7,8,9,10,11,12,13,14],[0,14])])
def cut_Frags.B8 : List Nat := [0,0,2,0,0,0,0,64,0,256,992,2032,4094,8190,16383,32767]
theorem cut_Frags.tab8 : rtab .any (opsOf Tryd.f45 8) = cut_Frags.T8 := by kernel_rfl
theorem cut_Frags.bits8 : waitsOk cut_Frags.T8.2 cut_Frags.B8 = true := by kernel_rfl
set_option maxHeartbeats 8000000 in
set_option maxRecDepth 100000 in
theorem cut_Frags.calls (k : Nat) (a0 : Int) (a1 : Int) (A2 : Option Addr) (c2 : Nat) (l2 : List Int) (r1 : List (S76)) (r2 : Bool) (w : World) (hr2 : Kd.C (Kd.int .u8) w A2 l2.length l2) (hc2 : l2.length ≤ c2) (h : cut_Frags.f k a0 a1 l2 = some (r1,r2)) :
  Calls Tryd.prog 45 #[.int .u32 a0,.int .i64 a1,.slice A2 l2.length c2] w fun e w' => ∃ v0_ : Value,e = .returned (.tuple #[v0_,.bool r2]) ∧ Kd.S k76 76 w' w.heap.size (fun _ => True) v0_ r1 ∧ Below w.heap.size w w' := by
 have hu73 := Tryd.underlying73
 have hu83 := Tryd.underlying83
 have hu106 := Tryd.underlying106
 have hu94 := Tryd.underlying94
 have hu76 := Tryd.underlying76
 have HR2 := Aside0.mk hr2
 have HC2 := Aside0.mk hc2
 clear hr2 hc2
 have HB := Aside0.mk (Below.refl w.heap.size w)
 have H : ((cut_Cut.f k a1 (l2.length : Int)).bind fun bt194 => (if bt194.2.2 = true then (cut_Frags.l0 k a0 l2 ([] : List (S76)) bt194.1 (bt194.1.length : Int) 0) else (some (([] : List (S76)),false)))) = some (r1,r2) := h
 clear h
 replace H := Option.bind_eq_some_iff.mp H
 obtain ⟨⟨t194,t195,t196⟩,A40,H⟩ := H
 replace H : (if t196 = true then (cut_Frags.l0 k a0 l2 ([] : List (S76)) t194 (t194.length : Int) 0) else (some (([] : List (S76)),false))) = some (r1,r2) := H
 have A4 := Aside0.mk A40
 clear A40
 by_cases c5 : t196 = true
 ·subst c5
  have H1 : (cut_Frags.l0 k a0 l2 ([] : List (S76)) t194 (t194.length : Int) 0) = some (r1,r2) := by rw [if_pos rfl] at H;exact H
  clear H
  have H := H1
  clear H1
  have H' := Aside0.mk H
  clear H
  go_enter Tryd.func45,Tryd.ntmps45
  go_wp2_with (first|((with_reducible refine gate_callee (f := 44) rfl ?_);refine goesL_ (some 18) rfl rfl Tryd.func44 (by kernel_rfl) rfl #[.int .i64 a1,.int .i64 (l2.length : Int)] rfl (by (try simp only [List.map_toArray,List.map_cons,List.map_nil]);first|done|rfl|(simp only [List.length_drop,List.length_take];rfl)) ?_;(with_reducible refine (cut_Cut.calls k a1 (l2.length : Int) t194 t195 true _ A4.out).mono ?_);rintro e w6 ⟨v197,rfl,ho0,hb⟩;refine ⟨_,rfl,?_⟩;have n0_ := Aside0.mk (Kd.R_lower ho0 (below_size (by repeat (first|(with_reducible first|exact HB.out|apply below_alloc|apply pw_below_drewN|apply below_drew1)|exact HB.out))));have n1_ := Aside0.mk (below_step (by repeat (first|(with_reducible first|exact HB.out|apply below_alloc|apply pw_below_drewN|apply below_drew1)|exact HB.out)) hb);clear HB;have HO198 := n0_;have HB := n1_;clear n0_ n1_;(try clear hb);(try clear hb2);(try clear hk);(try clear hi);(try clear ho0);obtain ⟨Ao7,co7,eo7⟩ := Kd.R_slice HO198.out;subst eo7))
  go_loopg [11,26] k (fun kq v11 v26 w' => ∃ (x11_1 : List (S76)) (x26_1 : Int),v26 = .int .i64 x26_1 ∧ Aside0 (cut_Frags.l0 kq a0 l2 x11_1 t194 (t194.length : Int) x26_1 = some (r1,r2)) ∧ Aside0 (kq ≤ k) ∧ Aside0 (Kd.S k76 76 w' w.heap.size (fun _ => True) v11 x11_1) ∧ Aside0 (Kd.R k94 94 w' w.heap.size (fun _ => True) (.slice Ao7 t194.length co7) t194) ∧ Aside0 (Below w.heap.size w w'))
  case atStart => exact ⟨(([] : List (S76))),(0),(by first|rfl|(simp;done)|(simp [*];done)),H',⟨Nat.le_refl _⟩,⟨by first|exact Kd.S_nil _ _ _ _ _|exact Kd.N_nil _ _ _ _ _|exact Kd.V_nil _ _ _ _ _|exact Kd.Q_nil _ _ _ _ _|exact Kd.R_nil _ _ _ _ _⟩,⟨by (with_reducible repeat (first|apply Kd.R_alloc|apply Kd.R_drewN|apply Kd.R_drew));exact HO198.out⟩,⟨by repeat (first|(with_reducible first|exact HB.out|apply below_alloc|apply pw_below_drewN|apply below_drew1)|exact HB.out)⟩⟩
  case round =>
   clear H'
   try clear c2
   try clear p2
   try clear c4
   try clear c5
   obtain ⟨x11_1,x26_1,rfl,HA,HK1,HO_11,HO_24,HB⟩ := hrel
   cases gk with
   |zero => exact absurd HA.out (by simp [cut_Frags.l0])
   |succ k1 =>
    have H := HA.out
    clear HA
    simp only [cut_Frags.l0] at H
    by_cases c8 : x26_1 < (t194.length : Int)
    ·rw [if_pos c8] at H
     have c8b0 : decide (x26_1 < (t194.length : Int)) = true := decide_eq_true c8
     clear c8
     by_cases c9 : 0 ≤ x26_1
     ·rw [if_pos c9] at H
      have c9b0 : decide (0 ≤ x26_1) = true := decide_eq_true c9
      clear c9
      by_cases c10 : x26_1 < (t194.length : Int)
      ·rw [if_pos c10] at H
       have c10b0 : decide (x26_1 < (t194.length : Int)) = true := decide_eq_true c10
       clear c10
       obtain ⟨y201,hy201⟩ : ∃ y_ : List Int,y_ = (([] : List Int)) := ⟨_,rfl⟩
       replace H : (if 0 ≤ ((rd_T94 t194 x26_1).f2) then (if ((rd_T94 t194 x26_1).f2) ≤ ((rd_T94 t194 x26_1).f3) then (if ((rd_T94 t194 x26_1).f3) ≤ (l2.length : Int) then (if y201.length + ((l2.take (((rd_T94 t194 x26_1).f3) : Int).toNat).drop (((rd_T94 t194 x26_1).f2) : Int).toNat).length < 140737488355328 then (if x11_1.length < 3518437208883 then (cut_Frags.l0 k1 a0 l2 (x11_1 ++ [(⟨(rd_T94 t194 x26_1).f1,a0,(y201 ++ ((l2.take (((rd_T94 t194 x26_1).f3) : Int).toNat).drop (((rd_T94 t194 x26_1).f2) : Int).toNat))⟩ : S76)]) t194 (t194.length : Int) (wrap64 (x26_1 + 1))) else (none)) else (none)) else (none)) else (none)) else (none)) = some (r1,r2) := by first|(rw [hy201];with_reducible exact H)|(have H2_ := (Option.bind_some _ _).symm.trans H;rw [hy201];with_reducible exact H2_)|(have H2_ := (Option.bind_some _ _).symm.trans H;with_reducible exact H2_)|with_reducible exact H|(rw [hy201];exact H)|exact H
       have Ny201 := Aside0.mk hy201
       clear hy201
       by_cases c11 : 0 ≤ ((rd_T94 t194 x26_1).f2)
       ·rw [if_pos c11] at H
        have c11b0 := eq_true c11
        have c11b1 : decide (0 ≤ ((rd_T94 t194 x26_1).f2)) = true := decide_eq_true c11
        clear c11
        by_cases c12 : ((rd_T94 t194 x26_1).f2) ≤ ((rd_T94 t194 x26_1).f3)
        ·rw [if_pos c12] at H
         have c12b0 := eq_true c12
         have c12b1 : decide (((rd_T94 t194 x26_1).f2) ≤ ((rd_T94 t194 x26_1).f3)) = true := decide_eq_true c12
         clear c12
         by_cases c13 : ((rd_T94 t194 x26_1).f3) ≤ (l2.length : Int)
         ·rw [if_pos c13] at H
          have c13b0 := eq_true c13
          have c13b1 : decide (((rd_T94 t194 x26_1).f3) ≤ (l2.length : Int)) = true := decide_eq_true c13
          clear c13
          by_cases c14 : y201.length + ((l2.take (((rd_T94 t194 x26_1).f3) : Int).toNat).drop (((rd_T94 t194 x26_1).f2) : Int).toNat).length < 140737488355328
          ·rw [if_pos c14] at H
           have LMc14 := Aside0.mk c14
           clear c14
           obtain ⟨y205,hy205⟩ : ∃ y_ : List Int,y_ = (y201 ++ ((l2.take (((rd_T94 t194 x26_1).f3) : Int).toNat).drop (((rd_T94 t194 x26_1).f2) : Int).toNat)) := ⟨_,rfl⟩
           replace H : (if x11_1.length < 3518437208883 then (cut_Frags.l0 k1 a0 l2 (x11_1 ++ [(⟨(rd_T94 t194 x26_1).f1,a0,y205⟩ : S76)]) t194 (t194.length : Int) (wrap64 (x26_1 + 1))) else (none)) = some (r1,r2) := by first|(rw [hy205];with_reducible exact H)|(have H2_ := (Option.bind_some _ _).symm.trans H;rw [hy205];with_reducible exact H2_)|(have H2_ := (Option.bind_some _ _).symm.trans H;with_reducible exact H2_)|with_reducible exact H|(rw [hy205];exact H)|exact H
           have Ny205 := Aside0.mk hy205
           clear hy205
           by_cases c15 : x11_1.length < 3518437208883
           ·rw [if_pos c15] at H
            have LMc15 := Aside0.mk c15
            clear c15
            obtain ⟨y208,hy208⟩ : ∃ y_ : List (S76),y_ = (x11_1 ++ [(⟨(rd_T94 t194 x26_1).f1,a0,y205⟩ : S76)]) := ⟨_,rfl⟩
            replace H : (cut_Frags.l0 k1 a0 l2 y208 t194 (t194.length : Int) (wrap64 (x26_1 + 1))) = some (r1,r2) := by first|(rw [hy208];with_reducible exact H)|(have H2_ := (Option.bind_some _ _).symm.trans H;rw [hy208];with_reducible exact H2_)|(have H2_ := (Option.bind_some _ _).symm.trans H;with_reducible exact H2_)|with_reducible exact H|(rw [hy208];exact H)|exact H
            have Ny208 := Aside0.mk hy208
            clear hy208
            have H' := Aside0.mk H
            clear H
            have p199 : 0 ≤ (x26_1 : Int) := of_decide_eq_true (by first|(with_reducible assumption)|assumption)
            have q199 : x26_1 < (t194.length : Int) := of_decide_eq_true (by first|(with_reducible assumption)|assumption)
            obtain ⟨ad199,e199,hx199_0,hx199_1,hx199_2,hx199_3⟩ := at_T94 (Kd.R_reads' HO_24.out).2.2 x26_1 p199 q199
            cases e199
            replace p199 := eq_true p199
            replace q199 := eq_true q199
            try go_wp2_with (first|((with_reducible refine gate_dst (N := 13) rfl ?_);refine box_event ?hg (N := 13) ?hd (cs := #[.int .i64 0,.int .i64 0,.int .i64 0,.int .i64 0]) (t := 94) ?hr ?_;(case hd => rfl);(case hg => rfl);(case hr => first|(go_simp;done)|(go_simp;rfl));intro gb200 hg w16 hbox hb;have n0_ := Aside0.mk (Kd.S_below (by (with_reducible repeat (first|apply Kd.S_alloc|apply Kd.S_drewN|apply Kd.S_drew));exact HO_11.out) hb);have n1_ := Aside0.mk (Kd.R_below (Kd.R_elderB (by (with_reducible repeat (first|apply Kd.R_alloc|apply Kd.R_drewN|apply Kd.R_drew));exact HO_24.out) gb200 (Nat.le_of_eq hg.symm)) hb);have n2_ := Aside0.mk (below_step (by repeat (first|(with_reducible first|exact HB.out|apply below_alloc|apply pw_below_drewN|apply below_drew1)|exact HB.out)) hb);have n3_ := Aside0.mk (hbox);have n4_ := Aside0.mk ((by rw [hg];exact (below_size (by repeat (first|(with_reducible first|exact HB.out|apply below_alloc|apply pw_below_drewN|apply below_drew1)|exact HB.out))) : w.heap.size ≤ gb200));have n5_ := Aside0.mk ((by rw [hg];exact (below_size (by repeat (first|(with_reducible first|exact HB.out|apply below_alloc|apply pw_below_drewN|apply below_drew1)|exact HB.out))) : w.heap.size ≤ gb200));clear HO_11;clear HO_24;clear HB;have HO_11 := n0_;have HO_24 := n1_;have HB := n2_;have BK200 := n3_;have GW200 := n4_;have GE200 := n5_;clear n0_ n1_ n2_ n3_ n4_ n5_;clear hb hbox hg;have hcz17_0 : w16.cell? ⟨gb200,0,none⟩ = some (.int .i64 0) := (blk_cell BK200.out 0).trans rfl;have hcz17_1 : w16.cell? ⟨gb200,1,none⟩ = some (.int .i64 0) := (blk_cell BK200.out 1).trans rfl;have hcz17_2 : w16.cell? ⟨gb200,2,none⟩ = some (.int .i64 0) := (blk_cell BK200.out 2).trans rfl;have hcz17_3 : w16.cell? ⟨gb200,3,none⟩ = some (.int .i64 0) := (blk_cell BK200.out 3).trans rfl;have hfz17_0 := blk_frozen BK200.out 0;have hfz17_1 := blk_frozen BK200.out 1;have hfz17_2 := blk_frozen BK200.out 2;have hfz17_3 := blk_frozen BK200.out 3))
            have n0_ : Aside0 (Kd.S k76 76 ((((w16.setCell ⟨gb200,0,none⟩ (.int .i64 ((rd_T94 t194 x26_1).f0))).setCell ⟨gb200,1,none⟩ (.int .i64 ((rd_T94 t194 x26_1).f1))).setCell ⟨gb200,2,none⟩ (.int .i64 ((rd_T94 t194 x26_1).f2))).setCell ⟨gb200,3,none⟩ (.int .i64 ((rd_T94 t194 x26_1).f3))) w.heap.size (fun _ => True) u11 x11_1) := ⟨by (with_reducible repeat (first|apply Kd.S_alloc|apply Kd.S_drewN|apply Kd.S_drew));exact Kd.S_mono (Kd.S_far (p := ⟨gb200,3,none⟩) (Kd.S_far (p := ⟨gb200,2,none⟩) (Kd.S_far (p := ⟨gb200,1,none⟩) (Kd.S_far (p := ⟨gb200,0,none⟩) (Kd.S_types HO_11.out BK200.out (by decide)) (fun _ hk => hk.2) (.int .i64 ((rd_T94 t194 x26_1).f0))) (fun _ hk => hk.2) (.int .i64 ((rd_T94 t194 x26_1).f1))) (fun _ hk => hk.2) (.int .i64 ((rd_T94 t194 x26_1).f2))) (fun _ hk => hk.2) (.int .i64 ((rd_T94 t194 x26_1).f3))) (fun _ hk => trivial)⟩
            have n1_ : Aside0 (Kd.R k94 94 ((((w16.setCell ⟨gb200,0,none⟩ (.int .i64 ((rd_T94 t194 x26_1).f0))).setCell ⟨gb200,1,none⟩ (.int .i64 ((rd_T94 t194 x26_1).f1))).setCell ⟨gb200,2,none⟩ (.int .i64 ((rd_T94 t194 x26_1).f2))).setCell ⟨gb200,3,none⟩ (.int .i64 ((rd_T94 t194 x26_1).f3))) w.heap.size (fun k_ => k_ ≠ gb200) (.slice (some ad199) t194.length co7) t194) := ⟨by (with_reducible repeat (first|apply Kd.R_alloc|apply Kd.R_drewN|apply Kd.R_drew));exact Kd.R_mono (Kd.R_far (p := ⟨gb200,3,none⟩) (Kd.R_far (p := ⟨gb200,2,none⟩) (Kd.R_far (p := ⟨gb200,1,none⟩) (Kd.R_far (p := ⟨gb200,0,none⟩) (Kd.R_mono HO_24.out (fun k_ hk => (⟨hk,hk.2⟩ : _ ∧ k_ ≠ gb200))) (fun _ hk => hk.2) (.int .i64 ((rd_T94 t194 x26_1).f0))) (fun _ hk => hk.2) (.int .i64 ((rd_T94 t194 x26_1).f1))) (fun _ hk => hk.2) (.int .i64 ((rd_T94 t194 x26_1).f2))) (fun _ hk => hk.2) (.int .i64 ((rd_T94 t194 x26_1).f3))) (fun _ hk => hk.1.2)⟩
            have n2_ : Aside0 (((((w16.setCell ⟨gb200,0,none⟩ (.int .i64 ((rd_T94 t194 x26_1).f0))).setCell ⟨gb200,1,none⟩ (.int .i64 ((rd_T94 t194 x26_1).f1))).setCell ⟨gb200,2,none⟩ (.int .i64 ((rd_T94 t194 x26_1).f2))).setCell ⟨gb200,3,none⟩ (.int .i64 ((rd_T94 t194 x26_1).f3))).heap[gb200]? = some (.cells #[.int .i64 ((rd_T94 t194 x26_1).f0),.int .i64 ((rd_T94 t194 x26_1).f1),.int .i64 ((rd_T94 t194 x26_1).f2),.int .i64 ((rd_T94 t194 x26_1).f3)] 94 (0,0))) := ⟨by (with_reducible repeat (first|refine blk_drewN ?_ _|refine blk_drew ?_|refine blk_alloc ?_ _));refine blk_put (cs := #[.int .i64 ((rd_T94 t194 x26_1).f0),.int .i64 ((rd_T94 t194 x26_1).f1),.int .i64 ((rd_T94 t194 x26_1).f2),.int .i64 0]) ?_ 3 _ rfl;(with_reducible repeat (first|refine blk_drewN ?_ _|refine blk_drew ?_|refine blk_alloc ?_ _));refine blk_put (cs := #[.int .i64 ((rd_T94 t194 x26_1).f0),.int .i64 ((rd_T94 t194 x26_1).f1),.int .i64 0,.int .i64 0]) ?_ 2 _ rfl;(with_reducible repeat (first|refine blk_drewN ?_ _|refine blk_drew ?_|refine blk_alloc ?_ _));refine blk_put (cs := #[.int .i64 ((rd_T94 t194 x26_1).f0),.int .i64 0,.int .i64 0,.int .i64 0]) ?_ 1 _ rfl;(with_reducible repeat (first|refine blk_drewN ?_ _|refine blk_drew ?_|refine blk_alloc ?_ _));refine blk_put (cs := #[.int .i64 0,.int .i64 0,.int .i64 0,.int .i64 0]) ?_ 0 _ rfl;(with_reducible repeat (first|refine blk_drewN ?_ _|refine blk_drew ?_|refine blk_alloc ?_ _));exact BK200.out⟩
            have n3_ : Aside0 (Below w.heap.size w ((((w16.setCell ⟨gb200,0,none⟩ (.int .i64 ((rd_T94 t194 x26_1).f0))).setCell ⟨gb200,1,none⟩ (.int .i64 ((rd_T94 t194 x26_1).f1))).setCell ⟨gb200,2,none⟩ (.int .i64 ((rd_T94 t194 x26_1).f2))).setCell ⟨gb200,3,none⟩ (.int .i64 ((rd_T94 t194 x26_1).f3)))) := ⟨by repeat (first|(with_reducible first|exact HB.out|apply below_alloc|apply pw_below_drewN|apply below_drew1|refine below_set ?_ GE200.out)|exact HB.out)⟩
            (try clear HO_11)
            (try clear HO_24)
            (try clear BK200)
            (try clear HB)
            generalize ((((w16.setCell ⟨gb200,0,none⟩ (.int .i64 ((rd_T94 t194 x26_1).f0))).setCell ⟨gb200,1,none⟩ (.int .i64 ((rd_T94 t194 x26_1).f1))).setCell ⟨gb200,2,none⟩ (.int .i64 ((rd_T94 t194 x26_1).f2))).setCell ⟨gb200,3,none⟩ (.int .i64 ((rd_T94 t194 x26_1).f3))) = w18 at n0_ n1_ n2_ n3_ ⊢
            have HO_11 := n0_
            have HO_24 := n1_
            have BK200 := n2_
            have HB := n3_
            clear n0_ n1_ n2_ n3_
            have n0_ := Aside0.mk (Kd.S_drew HO_11.out)
            have n1_ := Aside0.mk (Kd.R_drew HO_24.out)
            have n2_ := Aside0.mk (blk_drew BK200.out)
            have n3_ := Aside0.mk (below_drew1 HB.out)
            clear HO_11
            clear HO_24
            clear BK200
            clear HB
            have HO_11 := n0_
            have HO_24 := n1_
            have BK200 := n2_
            have HB := n3_
            clear n0_ n1_ n2_ n3_
            obtain ⟨i020,hi020,_,hsz20,_⟩ := info_parts info5
            obtain ⟨A20,hcut20,hA20,hC20⟩ := print_mid_of (P := Tryd.prog) (Value.int .u8) 0 38 5 .i64 .i64 Tryd.underlying38 hi020 hsz20 A2 c2 l2 ((rd_T94 t194 x26_1).f2) ((rd_T94 t194 x26_1).f3) (of_decide_eq_true (by first|(with_reducible assumption)|assumption)) (by first|omega|exact of_decide_eq_true (by first|(with_reducible assumption)|assumption)) (of_decide_eq_true (by first|(with_reducible assumption)|assumption)) HC2.out
            have HR204 := Aside0.mk (Kd.C_of_reads (h1 := fun _ => rfl) (hA20 _ (Kd.reads_of_C HR2.out)))
            have HC204 := Aside0.mk hC20
            clear hA20 hC20 hi020 hsz20
            refine start_ (n := 16) (S := fun w' => w'.cell? ⟨gb200,0,none⟩ = some (.int .i64 ((rd_T94 t194 x26_1).f0)) ∧ w'.cell? ⟨gb200,1,none⟩ = some (.int .i64 ((rd_T94 t194 x26_1).f1)) ∧ w'.cell? ⟨gb200,2,none⟩ = some (.int .i64 ((rd_T94 t194 x26_1).f2)) ∧ w'.cell? ⟨gb200,3,none⟩ = some (.int .i64 ((rd_T94 t194 x26_1).f3))) (ds := []) #[f_,f_,f_,f_,f_,f_,f_,f_,f_,f_,f_,f_,f_,f_,f_,f_] (by kernel_rfl) rfl rfl ⟨(blk_cell BK200.out 0).trans rfl,(blk_cell BK200.out 1).trans rfl,(blk_cell BK200.out 2).trans rfl,(blk_cell BK200.out 3).trans rfl⟩ (fun hHeld => ?_);refine with_tabW cut_Frags.tab8 cut_Frags.bits8 (fun HT_ HW_ => ?_)
            generalize w18.drew = w19 at HO_11 HO_24 BK200 HB HR204 hHeld ⊢
            refine pure_ (i := 0) (N := some 30) (v := ?_) (a' := ?_) #[t_,f_,f_,f_,f_,f_,f_,f_,f_,f_,f_,f_,f_,f_,f_,f_] rfl rfl (any_of HT_.out (by kernel_rfl)) (fun _ _ _ h => h) (Or.inl ⟨by rfl,?_⟩) ?_ ?_
            rotate_left
            ·intro w'
             go_simp
             with_reducible rfl
            rotate_left
            ·simp only [ps_]
             rfl
            refine pure_ (i := 1) (N := some 31) (v := ?_) (a' := ?_) #[t_,t_,f_,f_,f_,f_,f_,f_,f_,f_,f_,f_,f_,f_,f_,f_] rfl rfl (any_of HT_.out (by kernel_rfl)) (fun _ _ _ h => h) (Or.inl ⟨by rfl,?_⟩) ?_ ?_
            rotate_left
            ·intro w'
             go_simp
             with_reducible rfl
            rotate_left
            ·simp only [ps_]
             rfl
            refine pure_ (i := 3) (N := some 33) (v := ?_) (a' := ?_) #[t_,t_,f_,t_,f_,f_,f_,f_,f_,f_,f_,f_,f_,f_,f_,f_] rfl rfl (any_of HT_.out (by kernel_rfl)) (fun _ _ _ h => h) (Or.inl ⟨by rfl,?_⟩) ?_ ?_
            rotate_left
            ·intro w'
             go_simp
             with_reducible rfl
            rotate_left
            ·simp only [ps_]
             rfl
            refine pure_ (i := 5) (N := some 35) (v := ?_) (a' := ?_) #[t_,t_,f_,t_,f_,t_,f_,f_,f_,f_,f_,f_,f_,f_,f_,f_] rfl rfl (any_of HT_.out (by kernel_rfl)) (fun _ _ _ h => h) (Or.inl ⟨by rfl,?_⟩) ?_ ?_
            rotate_left
            ·intro w'
             go_simp
             with_reducible rfl
            rotate_left
            ·simp only [ps_]
             rfl
            refine pure_ (i := 6) (N := some 36) (v := ?_) (a' := ?_) #[t_,t_,f_,t_,f_,t_,t_,f_,f_,f_,f_,f_,f_,f_,f_,f_] rfl rfl (any_of HT_.out (by kernel_rfl)) (fun _ _ _ h => h) (Or.inl ⟨by rfl,?_⟩) ?_ ?_
            rotate_left
            ·intro w'
             go_simp
             with_reducible rfl
            rotate_left
            ·simp only [ps_]
             rfl
            refine pure_ (i := 8) (N := some 38) (v := ?_) (a' := ?_) #[t_,t_,f_,t_,f_,t_,t_,f_,t_,f_,f_,f_,f_,f_,f_,f_] rfl rfl (any_of HT_.out (by kernel_rfl)) (fun _ _ _ h => h) (Or.inl ⟨by rfl,?_⟩) ?_ ?_
            rotate_left
            ·intro w'
             go_simp
             with_reducible rfl
            rotate_left
            ·simp only [ps_]
             rfl
            refine take_ (i := 2) (N := some 32) (v := ?_) (a' := ?_) #[t_,t_,t_,t_,f_,t_,t_,f_,t_,f_,f_,f_,f_,f_,f_,f_] rfl rfl (take_ofW HT_.out HW_.out (by kernel_rfl)) (fun _ _ _ h => h) (Or.inl ⟨by rfl,?_⟩) hHeld ?_ ?_
            rotate_left
            ·rintro w' ⟨s0,s1,s2,s3⟩
             go_simp
             with_reducible rfl
            rotate_left
            ·simp only [ps_]
             rfl
            refine take_ (i := 7) (N := some 37) (v := ?_) (a' := ?_) #[t_,t_,t_,t_,f_,t_,t_,t_,t_,f_,f_,f_,f_,f_,f_,f_] rfl rfl (take_ofW HT_.out HW_.out (by kernel_rfl)) (fun _ _ _ h => h) (Or.inl ⟨by rfl,?_⟩) hHeld ?_ ?_
            rotate_left
            ·rintro w' ⟨s0,s1,s2,s3⟩
             go_simp
             with_reducible rfl
            rotate_left
            ·simp only [ps_]
             rfl
            refine take_ (i := 9) (N := some 39) (v := ?_) (a' := ?_) #[t_,t_,t_,t_,f_,t_,t_,t_,t_,t_,f_,f_,f_,f_,f_,f_] rfl rfl (take_ofW HT_.out HW_.out (by kernel_rfl)) (fun _ _ _ h => h) (Or.inl ⟨by rfl,?_⟩) hHeld ?_ ?_
            rotate_left
            ·rintro w' ⟨s0,s1,s2,s3⟩
             go_simp
             with_reducible rfl
            rotate_left
            ·simp only [ps_]
             rfl
            refine pure_ (i := 10) (N := some 40) (v := ?_) (a' := ?_) #[t_,t_,t_,t_,f_,t_,t_,t_,t_,t_,t_,f_,f_,f_,f_,f_] rfl rfl (any_of HT_.out (by kernel_rfl)) (fun _ _ _ h => h) (Or.inl ⟨by rfl,?_⟩) ?_ ?_
            rotate_left
            ·intro w'
             go_simp
             with_reducible rfl
            rotate_left
            ·simp only [ps_]
             rfl
            refine one_ (i := 4) (N := some 34) #[t_,t_,t_,t_,t_,t_,t_,t_,t_,t_,t_,f_,f_,f_,f_,f_] rfl rfl (one_of HT_.out (by kernel_rfl)) (by decide) (fun K hK => ?_)
            refine Kd.R_lit_step (Kd.int .u8) _ 5 ?hg (N := 34) ?hd (xs := ([] : List Int)) (inner := []) (ok := fun _ => True) (okp := fun _ => True) ?hr ?hp (fun _ hk => hk) trivial (Below.refl _ _) (Nat.le_refl _) (by simp) ?_;(case hd => rfl);(case hg => rfl);(case hr => first|(go_simp;done)|(go_simp;rfl));(case hp => exact (Reps.none _ _))
            intro v202 w21 ho22 hb hg_ hnew_
            clear hg_ hnew_
            (first|rw [← Ny201.out] at ho22|(simp only [Int.reduceToNat] at ho22;rw [← Ny201.out] at ho22))
            have n0_ := Aside0.mk (Kd.S_elder' (by (with_reducible repeat (first|apply Kd.S_alloc|apply Kd.S_drewN|apply Kd.S_drew));exact HO_11.out) (Kd.R_base ho22) hb)
            have n1_ := Aside0.mk (Kd.R_below (by (with_reducible repeat (first|apply Kd.R_alloc|apply Kd.R_drewN|apply Kd.R_drew));exact HO_24.out) hb)
            have n2_ := Aside0.mk (Kd.R_lower ho22 (below_size (by repeat (first|(with_reducible first|exact HB.out|apply below_alloc|apply pw_below_drewN|apply below_drew1|refine below_set ?_ GE200.out)|exact HB.out))))
            have n3_ := Aside0.mk (blk_below (g := gb200) (o := .cells #[.int .i64 ((rd_T94 t194 x26_1).f0),.int .i64 ((rd_T94 t194 x26_1).f1),.int .i64 ((rd_T94 t194 x26_1).f2),.int .i64 ((rd_T94 t194 x26_1).f3)] 94 (0,0)) (by (with_reducible repeat (first|refine blk_drewN ?_ _|refine blk_drew ?_|refine blk_alloc ?_ _));exact BK200.out) hb)
            have n4_ := Aside0.mk (below_step (by repeat (first|(with_reducible first|exact HB.out|apply below_alloc|apply pw_below_drewN|apply below_drew1|refine below_set ?_ GE200.out)|exact HB.out)) hb)
            clear HO_11
            clear HO_24
            clear BK200
            clear HB
            have HO_11 := n0_
            have HO_24 := n1_
            have HO203 := n2_
            have BK200 := n3_
            have HB := n4_
            clear n0_ n1_ n2_ n3_ n4_
            clear hb ho22
            refine hK.out _ _ ⟨(blk_cell BK200.out 0).trans rfl,(blk_cell BK200.out 1).trans rfl,(blk_cell BK200.out 2).trans rfl,(blk_cell BK200.out 3).trans rfl⟩ (fun hHeld => ?_)
            clear hK K
            refine norm_ (by show Act.put _ (some 34) _ = _;simp only [ps_];rfl) ?_
            refine one_ (i := 11) (N := some 41) #[t_,t_,t_,t_,t_,t_,t_,t_,t_,t_,t_,t_,f_,f_,f_,f_] rfl rfl (one_of HT_.out (by kernel_rfl)) (by decide) (fun K hK => ?_)
            refine Kd.R_append_rows_step (Kd.int .u8) (w0 := w) w.heap.size (by rfl) (.tmp 34) (.tmp 40) 38 5 (.int .u8 0) 1 rfl Tryd.underlying38 info5 rfl (by decide) (by omega) v202 y201 ((l2.take (((rd_T94 t194 x26_1).f3) : Int).toNat).drop (((rd_T94 t194 x26_1).f2) : Int).toNat) _ _ _ (fun _ => True) (fun _ => False) rfl rfl ?aO ?aR (fun _ _ h => h) (fun _ h => h.elim) ?aF ?aB ?aS ?aL ?_
            (case aR => first|(rw [← show ((l2.take (((rd_T94 t194 x26_1).f3) : Int).toNat).drop (((rd_T94 t194 x26_1).f2) : Int).toNat).length = (((rd_T94 t194 x26_1).f3).toNat - ((rd_T94 t194 x26_1).f2).toNat) from (by rw [List.length_drop,List.length_take];have h_ : (((rd_T94 t194 x26_1).f3) : Int) ≤ (l2.length : Int) := of_decide_eq_true (by first|(with_reducible assumption)|assumption);omega)];repeat (first|exact (Kd.C_below HR204.out HB.out)|(with_reducible refine Kd.C_alloc ?_ _)|(with_reducible refine Kd.C_drewN ?_ _)|(with_reducible refine Kd.C_drew ?_)))|(repeat (first|exact (Kd.C_below HR204.out HB.out)|(with_reducible refine Kd.C_alloc ?_ _)|(with_reducible refine Kd.C_drewN ?_ _)|(with_reducible refine Kd.C_drew ?_))))
            (case aB => exact (by repeat (first|(with_reducible first|exact HB.out|apply below_alloc|apply pw_below_drewN|apply below_drew1|refine below_set ?_ GE200.out)|exact HB.out)))
            (case aF => exact (fun _ _ => trivial))
            (case aO => exact (by (with_reducible repeat (first|apply Kd.R_alloc|apply Kd.R_drewN|apply Kd.R_drew));exact HO203.out))
            (case aS => exact (below_size (by repeat (first|(with_reducible first|exact HB.out|apply below_alloc|apply pw_below_drewN|apply below_drew1|refine below_set ?_ GE200.out)|exact HB.out))))
            (case aL => have := LMc14.out;have hlx_ := (show ((l2.take (((rd_T94 t194 x26_1).f3) : Int).toNat).drop (((rd_T94 t194 x26_1).f2) : Int).toNat).length = (((rd_T94 t194 x26_1).f3).toNat - ((rd_T94 t194 x26_1).f2).toNat) from (by rw [List.length_drop,List.length_take];have h_ : (((rd_T94 t194 x26_1).f3) : Int) ≤ (l2.length : Int) := of_decide_eq_true (by first|(with_reducible assumption)|assumption);omega));omega)
            intro v206 w23 ho hb hg hat
            rw [← Ny205.out] at ho
            have n0_ := Aside0.mk (Kd.S_after (ok := (fun _ => True)) (by (with_reducible repeat (first|apply Kd.S_alloc|apply Kd.S_drewN|apply Kd.S_drew));exact HO_11.out) hg hat)
            have n1_ := Aside0.mk (Kd.R_over' (by (with_reducible repeat (first|apply Kd.R_alloc|apply Kd.R_drewN|apply Kd.R_drew));exact HO_24.out) (Kd.R_typed (by (with_reducible repeat (first|apply Kd.R_alloc|apply Kd.R_drewN|apply Kd.R_drew));exact HO203.out)) (by decide) hg)
            have n2_ := Aside0.mk (blk_grown (g := gb200) (o := .cells #[.int .i64 ((rd_T94 t194 x26_1).f0),.int .i64 ((rd_T94 t194 x26_1).f1),.int .i64 ((rd_T94 t194 x26_1).f2),.int .i64 ((rd_T94 t194 x26_1).f3)] 94 (0,0)) (by (with_reducible repeat (first|refine blk_drewN ?_ _|refine blk_drew ?_|refine blk_alloc ?_ _));exact BK200.out) hg (Kd.R_ne HO203.out BK200.out (by decide)))
            have n3_ := Aside0.mk (hb)
            have n4_ := Aside0.mk (ho)
            clear HO_11
            clear HO_24
            clear BK200
            clear HB
            clear HO203
            have HO_11 := n0_
            have HO_24 := n1_
            have BK200 := n2_
            have HB := n3_
            have HO207 := n4_
            clear n0_ n1_ n2_ n3_ n4_
            clear ho hb hg hat
            obtain ⟨Ao24,co24,eo24⟩ := Kd.R_slice HO207.out
            (first|subst eo24|(injection eo24 with f1_ f2_ f3_;have f4_ := f1_.symm;have f5_ := f3_.symm;clear f1_ f2_ f3_;subst f4_;subst f5_))
            refine hK.out _ _ ⟨(blk_cell BK200.out 0).trans rfl,(blk_cell BK200.out 1).trans rfl,(blk_cell BK200.out 2).trans rfl,(blk_cell BK200.out 3).trans rfl⟩ (fun hHeld => ?_)
            clear hK K
            refine norm_ (by show Act.put _ (some 41) _ = _;simp only [ps_];rfl) ?_
            refine pure_ (i := 12) (N := some 42) (v := ?_) (a' := ?_) #[t_,t_,t_,t_,t_,t_,t_,t_,t_,t_,t_,t_,t_,f_,f_,f_] rfl rfl (any_of HT_.out (by kernel_rfl)) (fun _ _ _ h => h) (Or.inl ⟨by rfl,?_⟩) ?_ ?_
            rotate_left
            ·intro w'
             go_simp
             with_reducible rfl
            rotate_left
            ·simp only [ps_]
             rfl
            refine one_ (i := 13) (N := some 43) #[t_,t_,t_,t_,t_,t_,t_,t_,t_,t_,t_,t_,t_,t_,f_,f_] rfl rfl (one_of HT_.out (by kernel_rfl)) (by decide) (fun K hK => ?_)
            refine value_ (w1 := ?_) (v := ?_) (by rfl) rfl ?_ ?_
            rotate_left 2
            ·go_simp
             constructor
             ·rfl
             ·rfl
            refine hK.out _ _ ⟨(blk_cell (blk_alloc BK200.out _) 0).trans rfl,(blk_cell (blk_alloc BK200.out _) 1).trans rfl,(blk_cell (blk_alloc BK200.out _) 2).trans rfl,(blk_cell (blk_alloc BK200.out _) 3).trans rfl⟩ (fun hHeld => ?_)
            clear hK K
            refine norm_ (by show Act.put _ (some 43) _ = _;simp only [ps_];rfl) ?_
            refine one_ (i := 14) (N := some 44) #[t_,t_,t_,t_,t_,t_,t_,t_,t_,t_,t_,t_,t_,t_,t_,f_] rfl rfl (one_of HT_.out (by kernel_rfl)) (by decide) (fun K hK => ?_)
            refine Kd.S_append_step k76 (w0 := w) w.heap.size (by rfl) (.tmp 30) (.tmp 43) 100 76 (.agg #[(.int .i64 0),(.int .u32 0),(.slice none 0 0)]) 40 rfl Tryd.underlying100 info76 rfl (by decide) (by omega) u11 x11_1 (⟨(rd_T94 t194 x26_1).f1,a0,y205⟩ : S76) [.int .i64 ((rd_T94 t194 x26_1).f1),.int .u32 a0,.slice Ao24 y205.length co24] (fun _ => True) (fun k_ => some k_ = (.slice Ao24 y205.length co24 : Value).ownBlock) rfl rfl ?aP (fun k_ hk_ => ((Kd.R_mono (ok' := fun k_ => ((fun _ => True)) k_ ∧ some k_ ≠ (u11 : Value).ownBlock) (Kd.R_apart' (HO207.out) (Kd.S_typed HO_11.out) (by decide)) (fun k_ hk => ⟨trivial,hk.2⟩))).1 k_ hk_.symm) ?aF ?aO ?aB ?aS ?aL ?_
            (case aP => exact k76_mkM _ _ _ (⟨(rd_T94 t194 x26_1).f1,a0,y205⟩ : S76) (Kd.R_mono (Kd.R_tight rfl (Kd.R_mono (ok' := fun k_ => ((fun _ => True)) k_ ∧ some k_ ≠ (u11 : Value).ownBlock) (Kd.R_apart' (HO207.out) (Kd.S_typed HO_11.out) (by decide)) (fun k_ hk => ⟨trivial,hk.2⟩))) (fun _ h_ => h_)))
            (case aB => exact (by repeat (first|(with_reducible first|exact HB.out|apply below_alloc|apply pw_below_drewN|apply below_drew1|refine below_set ?_ GE200.out)|exact HB.out)))
            (case aF => exact (fun _ _ => trivial))
            (case aO => exact (by (with_reducible repeat (first|apply Kd.S_alloc|apply Kd.S_drewN|apply Kd.S_drew));exact Kd.S_mono HO_11.out (fun k_ hk => ⟨trivial,fun e_ => hk.2 e_⟩)))
            (case aS => exact (below_size (by repeat (first|(with_reducible first|exact HB.out|apply below_alloc|apply pw_below_drewN|apply below_drew1|refine below_set ?_ GE200.out)|exact HB.out))))
            (case aL => have := LMc15.out;omega)
            intro v209 w25 ho hb hg hat
            rw [← Ny208.out] at ho
            have n0_ := Aside0.mk (Kd.R_over' (by (with_reducible repeat (first|apply Kd.R_alloc|apply Kd.R_drewN|apply Kd.R_drew));exact HO_24.out) (Kd.S_typed (by (with_reducible repeat (first|apply Kd.S_alloc|apply Kd.S_drewN|apply Kd.S_drew));exact HO_11.out)) (by decide) hg)
            have n1_ := Aside0.mk (blk_grown (g := gb200) (o := .cells #[.int .i64 ((rd_T94 t194 x26_1).f0),.int .i64 ((rd_T94 t194 x26_1).f1),.int .i64 ((rd_T94 t194 x26_1).f2),.int .i64 ((rd_T94 t194 x26_1).f3)] 94 (0,0)) (by (with_reducible repeat (first|refine blk_drewN ?_ _|refine blk_drew ?_|refine blk_alloc ?_ _));exact BK200.out) hg (Kd.S_ne HO_11.out BK200.out (by decide)))
            have n2_ := Aside0.mk (hb)
            have n3_ := Aside0.mk (ho)
            clear HO_24
            clear BK200
            clear HB
            clear HO_11
            clear HO207
            have HO_24 := n0_
            have BK200 := n1_
            have HB := n2_
            have HO210 := n3_
            clear n0_ n1_ n2_ n3_
            clear ho hb hg hat
            refine hK.out _ _ ⟨(blk_cell BK200.out 0).trans rfl,(blk_cell BK200.out 1).trans rfl,(blk_cell BK200.out 2).trans rfl,(blk_cell BK200.out 3).trans rfl⟩ (fun hHeld => ?_)
            clear hK K
            refine norm_ (by show Act.put _ (some 44) _ = _;simp only [ps_];rfl) ?_
            refine pure_ (i := 15) (N := some 11) (v := ?_) (a' := ?_) #[t_,t_,t_,t_,t_,t_,t_,t_,t_,t_,t_,t_,t_,t_,t_,t_] rfl rfl (any_of HT_.out (by kernel_rfl)) (fun _ _ _ h => h) (Or.inl ⟨by rfl,?_⟩) ?_ ?_
            rotate_left
            ·intro w'
             go_simp
             with_reducible rfl
            rotate_left
            ·simp only [ps_]
             rfl
            refine done_ (done_of HT_.out (by kernel_rfl)) ?_
            try go_wp2
            go_roundg k1
            case measure => have := HK1.out;omega
            case rel => exact ⟨(y208),(wrap64 (x26_1 + 1)),(by first|rfl|(simp;done)|(simp [*];done)),H',⟨by have := HK1.out;omega⟩,⟨by (with_reducible repeat (first|apply Kd.S_alloc|apply Kd.S_drewN|apply Kd.S_drew));exact HO210.out⟩,⟨by (with_reducible repeat (first|apply Kd.R_alloc|apply Kd.R_drewN|apply Kd.R_drew));exact Kd.R_mono HO_24.out (fun _ hk => trivial)⟩,⟨by repeat (first|(with_reducible first|exact HB.out|apply below_alloc|apply pw_below_drewN|apply below_drew1|refine below_set ?_ GE200.out)|exact HB.out)⟩⟩
           ·rw [if_neg c15] at H
            exact absurd H (by simp)
          ·rw [if_neg c14] at H
           exact absurd H (by simp)
         ·rw [if_neg c13] at H
          exact absurd H (by simp)
        ·rw [if_neg c12] at H
         exact absurd H (by simp)
       ·rw [if_neg c11] at H
        exact absurd H (by simp)
      ·rw [if_neg c10] at H
       exact absurd H (by simp)
     ·rw [if_neg c9] at H
      exact absurd H (by simp)
    ·rw [if_neg c8] at H
     have c8b0 : decide (x26_1 < (t194.length : Int)) = false := decide_eq_false c8
     clear c8
     simp only [Option.some.injEq,Prod.mk.injEq] at H
     obtain ⟨rfl,rfl⟩ := H
     go_wp2
     go_ret2
     exact ⟨_,by first|rfl|(simp [errW_none,errW_some] <;> rfl)|(simp [*,errW_none,errW_some] <;> rfl),by (with_reducible repeat (first|apply Kd.S_alloc|apply Kd.S_drewN|apply Kd.S_drew));exact HO_11.out,by repeat (first|(with_reducible first|exact HB.out|apply below_alloc|apply pw_below_drewN|apply below_drew1)|exact HB.out)⟩
 ·replace c5 := Bool.eq_false_iff.mpr c5
  subst c5
  have H1 : (some (([] : List (S76)),false)) = some (r1,r2) := by rw [if_neg (show ¬ (false = true) by decide)] at H;exact H
  clear H
  have H := H1
  clear H1
  simp only [Option.some.injEq,Prod.mk.injEq] at H
  obtain ⟨rfl,rfl⟩ := H
  go_enter Tryd.func45,Tryd.ntmps45
  go_wp2_with (first|((with_reducible refine gate_callee (f := 44) rfl ?_);refine goesL_ (some 18) rfl rfl Tryd.func44 (by kernel_rfl) rfl #[.int .i64 a1,.int .i64 (l2.length : Int)] rfl (by (try simp only [List.map_toArray,List.map_cons,List.map_nil]);first|done|rfl|(simp only [List.length_drop,List.length_take];rfl)) ?_;(with_reducible refine (cut_Cut.calls k a1 (l2.length : Int) t194 t195 false _ A4.out).mono ?_);rintro e w26 ⟨v197,rfl,ho0,hb⟩;refine ⟨_,rfl,?_⟩;have n0_ := Aside0.mk (Kd.R_lower ho0 (below_size (by repeat (first|(with_reducible first|exact HB.out|apply below_alloc|apply pw_below_drewN|apply below_drew1)|exact HB.out))));have n1_ := Aside0.mk (below_step (by repeat (first|(with_reducible first|exact HB.out|apply below_alloc|apply pw_below_drewN|apply below_drew1)|exact HB.out)) hb);clear HB;have HO198 := n0_;have HB := n1_;clear n0_ n1_;(try clear hb);(try clear hb2);(try clear hk);(try clear hi);(try clear ho0)))
  go_ret2
  exact ⟨_,by first|rfl|(simp [errW_none,errW_some] <;> rfl)|(simp [*,errW_none,errW_some] <;> rfl),by first|exact Kd.S_nil _ _ _ _ _|exact Kd.N_nil _ _ _ _ _|exact Kd.V_nil _ _ _ _ _|exact Kd.Q_nil _ _ _ _ _|exact Kd.R_nil _ _ _ _ _,by repeat (first|(with_reducible first|exact HB.out|apply below_alloc|apply pw_below_drewN|apply below_drew1)|exact HB.out)⟩
end Go.Proofs.YtaekpfhgdnfciaaDoor.F
end
