/- Texts of mine put together: FragM, ScanM, Own2, CrcOwn, FkFrag, FragEnc. -/
import Derived.Test.YtaekpfhgdnfciaaDoorPkTearTells4
import Derived.Test.YtaekpfhgdnfciaaDoorPkTearTells6
import Derived.Great.BuildSlice
import Derived.Lib.LazyBuf
import Derived.ArgAppend
import Derived.Test.YtaekpfhgdnfciaaDoorPkTearTells3
section
/- A fragment's bytes, and back: plain. -/
set_option linter.unusedVariables false
set_option linter.unusedSimpArgs false
namespace Go.Proofs.YtaekpfhgdnfciaaDoor.O
open Go.RowKit Go.Proofs.YtaekpfhgdnfciaaDoorW.PrintWords Go.Proofs.YtaekpfhgdnfciaaDoorW.PrintLast Go.Proofs.YtaekpfhgdnfciaaDoorW.PrintMore Go.Proofs.YtaekpfhgdnfciaaDoor.F Go.Proofs.YtaekpfhgdnfciaaDoor.F.Nums Go.Proofs.YtaekpfhgdnfciaaDoor.Plain Go.Proofs.YtaekpfhgdnfciaaDoor.CrcMath
/-- the masked sum -/
def maskN (n : Nat) : Nat := (n / 32768 + n % 32768 * 131072 + 2726488792) % 4294967296
theorem maskN_lt (n : Nat) : maskN n < 4294967296 := Nat.mod_lt _ (by decide)
def crcN (l : List Int) : Nat := (moreI 0 l).toNat
theorem moreI_lo (l : List Int) : 0 ≤ moreI 0 l ∧ moreI 0 l ≤ 4294967295 := by
 have := fold_in l (4294967295 - 0) (by decide) (by decide)
 unfold moreI
 omega
theorem crcN_eq (l : List Int) : moreI 0 l = (crcN l : Int) := by
 have := moreI_lo l
 unfold crcN
 omega
theorem crcN_lt (l : List Int) : crcN l < 4294967296 := by
 have := moreI_lo l
 unfold crcN
 omega
def sumN (l : List Int) : Nat := maskN (crcN l)
theorem sumN_lt (l : List Int) : sumN l < 4294967296 := maskN_lt _
theorem crc_sum (l : List Int) : crc_Mask.f (moreI 0 l) = some (sumN l : Int) := by rw [crcN_eq];exact mask_eq (crcN_lt l)
theorem rcrc_sum (l : List Int) : strandlineref03_Mask.f (moreI 0 l) = some (sumN l : Int) := by rw [crcN_eq];exact rmask_eq (crcN_lt l)
def bodyL (kind ep : Int) (data : List Int) : List Int := putl data.length 2 ++ (kind :: (putl ep.toNat 4 ++ data))
def encL (kind ep : Int) (data : List Int) : List Int := putl (sumN (bodyL kind ep data)) 4 ++ bodyL kind ep data
theorem bodyL_len (kind ep : Int) (data : List Int) : (bodyL kind ep data).length = 7 + data.length := by simp [bodyL,putl_len];omega
theorem encL_len (kind ep : Int) (data : List Int) : (encL kind ep data).length = 11 + data.length := by unfold encL;rw [List.length_append,bodyL_len,putl_len];omega
def rightF (kind : Int) (n : Nat) : Bool := decide (1 ≤ kind) && decide (kind ≤ 4) && decide (n ≤ 197)
theorem bodyL_bytes {kind ep : Int} {data : List Int} (hk : 0 ≤ kind ∧ kind ≤ 255) (hd : Bytes data) : Bytes (bodyL kind ep data) := by
 refine bytes_append (putl_bytes _ _) (fun c hc => ?_)
 rcases List.mem_cons.1 hc with rfl|hc
 ·exact hk
 ·exact bytes_append (putl_bytes _ _) hd c hc
theorem encL_bytes {kind ep : Int} {data : List Int} (hk : 0 ≤ kind ∧ kind ≤ 255) (hd : Bytes data) : Bytes (encL kind ep data) := bytes_append (putl_bytes _ _) (bodyL_bytes hk hd)
/-- what is decoded: kind, epoch, data, how many, the error -/
def nOf (b : List Int) : Nat := getn (b.drop 4) 2
def kOf (b : List Int) : Int := b.getD 6 0
def eOf (b : List Int) : Int := (getn (b.drop 7) 4 : Nat)
def sOf (b : List Int) : Nat := getn b 4
def decE (b : List Int) (ep : Int) : Int :=
 if b.length < 11 then 1 else if b.take 11 = zs 11 then 7 else if rightF (kOf b) 0 = false ∨ 197 < nOf b ∨ eOf b ≠ ep then 2 else if b.length < 11 + nOf b then 1 else if sOf b ≠ sumN ((b.take (11 + nOf b)).drop 4) then 3 else 0
def decD (b : List Int) : List Int := (b.take (11 + nOf b)).drop 11
theorem nOf_lt {b : List Int} (hb : Bytes b) : nOf b < 65536 := getn_lt (wf_of_bytes (bytes_drop hb 4)) 2
theorem eOf_lt {b : List Int} (hb : Bytes b) : 0 ≤ eOf b ∧ eOf b ≤ 4294967295 := by
 have := getn_lt (wf_of_bytes (bytes_drop hb 7)) 4
 unfold eOf
 omega
theorem sOf_lt {b : List Int} (hb : Bytes b) : sOf b < 4294967296 := getn_lt (wf_of_bytes hb) 4
/-- the bytes behind the sum are those of what is decoded -/
theorem body_dec {b : List Int} (hb : Bytes b) (h : 11 + nOf b ≤ b.length) : bodyL (kOf b) (eOf b) (decD b) = (b.take (11 + nOf b)).drop 4 := by
 have hd : (decD b).length = nOf b := by unfold decD;rw [List.length_drop,List.length_take,Nat.min_eq_left h];omega
 have e1 : putl (nOf b) 2 = (b.drop 4).take 2 := putl_getn (bytes_drop hb 4) 2 (by rw [List.length_drop];omega)
 have e2 : putl (eOf b).toNat 4 = (b.drop 7).take 4 := by unfold eOf;rw [Int.toNat_natCast];exact putl_getn (bytes_drop hb 7) 4 (by rw [List.length_drop];omega)
 have e3 : b[6]? = some (kOf b) := by unfold kOf;rw [List.getD_eq_getElem?_getD,List.getElem?_eq_getElem (by omega)];rfl
 unfold bodyL
 rw [hd,e1,e2]
 generalize hm : 11 + nOf b = m at h ⊢
 have hD : decD b = (b.take m).drop 11 := by unfold decD;rw [hm]
 rw [hD]
 apply List.ext_getElem?
 intro i
 by_cases h1 : i < 2
 ·rw [List.getElem?_append_left (by rw [List.length_take,List.length_drop];omega),List.getElem?_take_of_lt h1,List.getElem?_drop,List.getElem?_drop,List.getElem?_take_of_lt (by omega)]
 ·have l2 : ((b.drop 4).take 2).length = 2 := by rw [List.length_take,List.length_drop];omega
  rw [List.getElem?_append_right (by omega),l2]
  by_cases h2 : i = 2
  ·subst h2
   rw [List.getElem?_drop,List.getElem?_take_of_lt (by omega),e3]
   rfl
  ·obtain ⟨j,rfl⟩ : ∃ j,i = j + 3 := ⟨i - 3,by omega⟩
   rw [show j + 3 - 2 = j + 1 by omega,List.getElem?_cons_succ]
   have l4 : ((b.drop 7).take 4).length = 4 := by rw [List.length_take,List.length_drop];omega
   by_cases h3 : j < 4
   ·rw [List.getElem?_append_left (by omega),List.getElem?_take_of_lt h3,List.getElem?_drop,List.getElem?_drop,List.getElem?_take_of_lt (by omega)]
    congr 1
    omega
   ·rw [List.getElem?_append_right (by omega),l4,List.getElem?_drop,List.getElem?_drop]
    congr 1
    omega
theorem putl_inj {n m : Nat} (hn : n < 4294967296) (hm : m < 4294967296) (h : putl n 4 = putl m 4) : n = m := by
 have h1 := getn_putl n 4
 have h2 := getn_putl m 4
 rw [h] at h1
 rw [h1] at h2
 rw [Nat.mod_eq_of_lt (by omega),Nat.mod_eq_of_lt (by omega)] at h2
 exact h2
/-- by the sum alone -/
theorem enc_dec {b : List Int} (hb : Bytes b) (h : 11 + nOf b ≤ b.length) : encL (kOf b) (eOf b) (decD b) = b.take (11 + nOf b) ↔ sOf b = sumN ((b.take (11 + nOf b)).drop 4) := by
 unfold encL
 rw [body_dec hb h]
 have e4 : putl (sOf b) 4 = b.take 4 := putl_getn hb 4 (by omega)
 have e5 : b.take (11 + nOf b) = b.take 4 ++ (b.take (11 + nOf b)).drop 4 := by
  conv => lhs;rw [← List.take_append_drop 4 (b.take (11 + nOf b))]
  rw [List.take_take,Nat.min_eq_left (by omega)]
 constructor
 ·intro e
  have e' := congrArg (List.take 4) e
  rw [List.take_append_of_le_length (by rw [putl_len];exact Nat.le_refl 4),List.take_of_length_le (by rw [putl_len];exact Nat.le_refl 4),List.take_take,Nat.min_eq_left (by omega),← e4] at e'
  exact (putl_inj (sumN_lt _) (sOf_lt hb) e').symm
 ·intro e
  rw [← e,e4]
  exact e5.symm
theorem dec_ok {b : List Int} {ep : Int} (h : decE b ep = 0) : 11 + nOf b ≤ b.length ∧ rightF (kOf b) 0 = true ∧ nOf b ≤ 197 ∧ eOf b = ep ∧ sOf b = sumN ((b.take (11 + nOf b)).drop 4) := by
 unfold decE at h
 split at h
 ·cases h
 ·split at h
  ·cases h
  ·split at h
   ·cases h
   ·rename_i h3
    split at h
    ·cases h
    ·split at h
     ·cases h
     ·rename_i h5
      have h6 : sOf b = sumN ((b.take (11 + nOf b)).drop 4) := by
       by_cases e : sOf b = sumN ((b.take (11 + nOf b)).drop 4)
       ·exact e
       ·exact absurd e h5
      refine ⟨by omega,?_,by omega,?_,h6⟩
      ·cases hr : rightF (kOf b) 0 with
       |true => rfl
       |false => exact absurd (.inl hr) h3
      ·by_cases e : eOf b = ep
       ·exact e
       ·exact absurd (.inr (.inr e)) h3
end Go.Proofs.YtaekpfhgdnfciaaDoor.O
end

section
/- What scanning a body tells: plain. -/
set_option linter.unusedVariables false
set_option linter.unusedSimpArgs false
namespace Go.Proofs.YtaekpfhgdnfciaaDoor.O
open Go.RowKit Go.Proofs.YtaekpfhgdnfciaaDoorW.PrintWords Go.Proofs.YtaekpfhgdnfciaaDoorW.PrintLast Go.Proofs.YtaekpfhgdnfciaaDoorW.PrintMore Go.Proofs.YtaekpfhgdnfciaaDoor.F Go.Proofs.YtaekpfhgdnfciaaDoor.F.Nums Go.Proofs.YtaekpfhgdnfciaaDoor.Plain
/-- are all sectors that the places f to t touch stamped? -/
def cov (ok : List Bool) (f t : Int) : Bool := covN ok (tch (cl f) (cl t)).1.toNat ((tch (cl f) (cl t)).2.toNat - (tch (cl f) (cl t)).1.toNat)
/-- the bytes of the block from place p on -/
def frAt (body : List Int) (p : Nat) : List Int := (body.drop p).take (lf (p : Int)).toNat
/-- the fragment told at place p: kind, data, how many bytes -/
def told (ep : Int) (body : List Int) (ok : List Bool) (p : Nat) : Option (Int × List Int × Nat) :=
 if p = 832 then none
 else if cov ok p (p + 11) = false then none
 else if decE (frAt body p) ep ≠ 0 then none
 else if cov ok p (p + (11 + (nOf (frAt body p) : Int))) = false then none
 else some (kOf (frAt body p),decD (frAt body p),11 + nOf (frAt body p))
structure ScSt where
 at_ : Nat
 op : Bool
 b : List Int
 first : Int
 recs : List (List Int)
 places : List Int
 en : Nat
end Go.Proofs.YtaekpfhgdnfciaaDoor.O
end

section
/- append onto a full slice that is no row of one's own; nothing appended; what is restarted. -/
namespace Go.Proofs.YtaekpfhgdnfciaaDoor.O
open Go.RowKit Go.Proofs.YtaekpfhgdnfciaaDoorW.PrintWords Go.Proofs.YtaekpfhgdnfciaaDoorW.PrintLast Go.Proofs.YtaekpfhgdnfciaaDoorW.PrintMore Go.Proofs.YtaekpfhgdnfciaaDoor.F
set_option linter.unusedVariables false
set_option linter.unusedSimpArgs false
section
variable {P : Program} {o : Oper} {a : Act} {K : Act → World → Prop} {Q : Exit → Act → World → Prop} {w0 W : World} {F : Nat → Option Obj} {L : List Res} {c : Res → List Res} {ops : Array Oper} {rest : List Oper}
/-- onto a full slice: a new row -/
theorem w_appendFull (H : Own w0 F L W) (s x : Operand) (t e : TypeId) (ho : o.op = .call { callee := .builtin .append,args := #[s,x],argTypes := #[t,t] }) (ht : P.underlying t = some (.slice e)) (z : Value) (size bytes : Nat)
  (hinfo : (P.info? e).map (fun i => (i.zero,i.size,i.bytes)) = some (some z,size,bytes)) (hz : z.cells.size = size) (hs0 : 0 < size) (hb0 : 0 < bytes) (b : Addr) (n : Nat) (olds : List Value) (hs : a.eval s = .slice (some b) n n) (hlo : olds.length = n * size) (holds : ∀ j u,olds[j]? = some u → W.cell? (b.add j) = some u)
  (A : Option Addr) (m cc : Nat) (news : List Value) (hx : a.eval x = .slice A m cc) (hm : 0 < m) (hl : news.length = m * size) (hR : Rd W A news) (hbytes : (n + m) * bytes ≤ 140737488355328)
  (h : ∀ v' W',Own w0 F (.row v' e size (n + m) (olds ++ news) :: L) W' → K (a.put o.dst v') W') : o.wp P a W K Q := by
 obtain ⟨i,hi,hzz⟩ := Option.map_eq_some_iff.1 hinfo
 simp only [Prod.mk.injEq] at hzz
 obtain ⟨hz0,hz1,hz2⟩ := hzz
 have hlen : n + m ≤ 140737488355328 := Nat.le_trans (Nat.le_mul_of_pos_right _ hb0) hbytes
 obtain ⟨ad,rfl,hc⟩ := hR (by rw [hl];exact Nat.mul_pos hm hs0)
 obtain ⟨v1,w1,hrun,h2,hg⟩ := run_append_arg_grows (P := P) W t o.type e i z size bytes ht hi hz0 hz1 hz2 hz hs0 b n n olds hlo holds ad m cc news hl (fun j u hj => hc j u hj) (by omega) (by simp only [maxLen];omega) hbytes
 unfold Oper.wp execOp
 simp only [ho,resolve,invoke,builtin,Sem.run_bind,Sem.run_pure,Result.andThen_ok,List.map_toArray,List.map_cons,List.map_nil,hs,hx,hrun]
 exact h _ _ (H.cons ⟨hg.os,hg.tape,hg.output,hg.size,fun k hk => hg.block k hk (by simp)⟩ (own_weaken h2 H.size) (fun k hk => own_base h2 k hk))
/-- nothing is appended: the slice as it was -/
theorem w_append0 (s x : Operand) (t e : TypeId) (ho : o.op = .call { callee := .builtin .append,args := #[s,x],argTypes := #[t,t] }) (ht : P.underlying t = some (.slice e)) (hinfo : ((P.info? e).map (·.size)).isSome = true) (b : Addr) (n cap : Nat) (hnc : n ≤ cap) (hs : a.eval s = .slice (some b) n cap) (A : Option Addr) (cc : Nat) (hx : a.eval x = .slice A 0 cc)
  (h : K (a.put o.dst (.slice (some b) n cap)) W) : o.wp P a W K Q := by
 obtain ⟨q,hq⟩ := Option.isSome_iff_exists.1 hinfo
 obtain ⟨i,hi,hq2⟩ := Option.map_eq_some_iff.1 hq
 have hrun : (Builtin.append_ #[t,t] o.type #[.slice (some b) n cap,.slice A 0 cc]).run P W = .ok (.slice (some b) n cap) W := by
  cases A <;> simp [Builtin.append_,run_underlying ht,sizeOf,typeInfo,hi,Builtin.lenOf,Builtin.firstCells,hnc,storeCells,loadCells,loadCellsFrom]
 unfold Oper.wp execOp
 simp only [ho,resolve,invoke,builtin,Sem.run_bind,Sem.run_pure,Result.andThen_ok,List.map_toArray,List.map_cons,List.map_nil,hs,hx,hrun]
 exact h
theorem In.to {L : List Res} {r : Res} {c : Res → List Res} (h : In L r c) (r' : Res) : In (c r') r' c := by
 induction h with
 |head => exact .head
 |tail h ih => exact .tail ih
theorem splice_take {α : Type} (cur ys : List α) (n : Nat) (h : ys.length ≤ n) (hn : n ≤ cur.length) : (splice cur 0 ys).take n = splice (cur.take n) 0 ys := by
 unfold splice
 simp only [List.take_zero,List.nil_append,Nat.zero_add]
 rw [List.take_append,List.drop_take,List.take_of_length_le h]
/-- copy into the beginning of a row of one's own -/
theorem w_copyRow (H : Own w0 F L W) (d s : Operand) (dT sT : TypeId) (ho : o.op = .call { callee := .builtin .copy,args := #[d,s],argTypes := #[dT,sT] }) (elem : TypeId) (hu : P.underlying dT = some (.slice elem)) (hsz : (P.info? elem).map (·.size) = some 1)
  (A0 : Option Addr) (dLen dCap n cap e : Nat) (hd : a.eval d = .slice A0 dLen dCap) {xs : List Int} (hI : In L (.row (.slice A0 n cap) e 1 n (nums .u8 xs)) c) (h0 : 0 < n) (A : Option Addr) (sLen sCap : Nat) (hs : a.eval s = .slice A sLen sCap) (ys : List Int) (hy : (Kd.int .u8).C W A sLen ys) (hfit : min sLen dLen ≤ n)
  (h : ∀ W',Own w0 F (c (.row (.slice A0 n cap) e 1 n (nums .u8 (splice xs 0 (ys.take (min sLen dLen)))))) W' → K (a.put o.dst (goInt (min sLen dLen : Nat))) W') : o.wp P a W K Q := by
 obtain ⟨g,cap',cur,e1,hnc,hm,hl,ht,H1⟩ := H.row_blk hI h0
 injection e1 with e1 e2 e3
 subst e1 e3
 have hyl : ys.length = sLen := hy.1
 refine w_copy H1 d s dT sT ho elem hu hsz g 0 dLen dCap hd (hI.to _) A sLen sCap hs (nums .u8 (ys.take (min sLen dLen))) (by rw [nums_length,List.length_take];omega) ?_ ?_ (by omega) ?_
 ·intro hp
  obtain ⟨ad,e,hc⟩ := (Rd.of_C hy) (by rw [nums_length];omega)
  refine ⟨ad,e,fun j u hj => hc j u ?_⟩
  rw [← nums_take] at hj
  have := (List.getElem?_eq_some_iff.1 hj).1
  rw [List.length_take] at this
  rwa [List.getElem?_take_of_lt (by omega)] at hj
 ·exact nums_one
 ·intro W' H'
  refine h W' ?_
  refine H'.blk_row (hI.to _) hnc hm ?_ ?_
  ·rw [← hl]
   have : ∀ (l : List Value) (ys : List Value),ys.length ≤ l.length → (splice l 0 ys).length = l.length := fun l ys h => by unfold splice;simp;omega
   exact this _ _ (by rw [nums_length,List.length_take];omega)
  ·rw [splice_take _ _ _ (by rw [nums_length,List.length_take];omega) (by omega),ht]
   simp [splice,nums,List.map_take,List.map_drop]
end
section
variable {P : Program} {o : Oper} {a : Act}
end
section
variable {P : Program} {o : Oper} {a : Act} {K : Act → World → Prop} {Q : Exit → Act → World → Prop} {w0 W : World} {F : Nat → Option Obj} {L : List Res} {c : Res → List Res} {ops : Array Oper} {rest : List Oper}
end
end Go.Proofs.YtaekpfhgdnfciaaDoor.O
end

section
/- word and crc by what is owned; reading of slices. -/
set_option linter.unusedVariables false
set_option linter.unusedSimpArgs false
namespace Go.Proofs.YtaekpfhgdnfciaaDoor.O
open Go.RowKit Go.Proofs.YtaekpfhgdnfciaaDoorW.PrintWords Go.Proofs.YtaekpfhgdnfciaaDoorW.PrintLast Go.Proofs.YtaekpfhgdnfciaaDoorW.PrintMore Go.Proofs.YtaekpfhgdnfciaaDoor.F Go.Proofs.YtaekpfhgdnfciaaDoor.F.Nums Go.Proofs.YtaekpfhgdnfciaaDoor.Plain
theorem put_own {w0 W : World} {F : Nat → Option Obj} {L : List Res} (H : Own w0 F L W) (n : Nat) (hn : n < 18446744073709551616) (wi : Int) (i : Nat) (hw : wi = (i : Int)) (hi : i ≤ 8) :
  Calls Tryd.prog 88 #[.int .u64 (n : Int),.int .i64 wi] W fun e W' => ∃ A c,e = .returned (.slice A i c) ∧ i ≤ c ∧ (Kd.int .u8).C W' A i (putl n i) ∧ Own w0 F L W' := by
 subst hw
 have hc : (cl8 (i : Int)).toNat = i := by unfold cl8;split <;> (try split) <;> omega
 have he := put_eq 9 (by decide) n hn (i : Int)
 rw [hc] at he
 refine (word_Put.calls 9 n (i : Int) _ W he).mono ?_
 rintro e W' ⟨v,rfl,hR,hb⟩
 obtain ⟨A,c,rfl,hl,hC⟩ := Kd.R_reads hR
 rw [putl_len] at hl hC ⊢
 exact ⟨A,c,rfl,hl,hC,H.to hb⟩
theorem of_own {w0 W : World} {F : Nat → Option Obj} {L : List Res} (H : Own w0 F L W) (hH : Half w0) (A : Option Addr) (n c : Nat) (xs : List Int) (hC : (Kd.int .u8).C W A n xs) (hc : n ≤ c) (hb : Bytes xs) :
  Calls Tryd.prog 72 #[.slice A n c] W fun e W' => e = .returned (.int .u32 (moreI 0 xs)) ∧ Own w0 F L W' := by
 have hn : xs.length = n := hC.1
 subst hn
 refine (of_calls A c xs W hC hc hb (hH.below H.below)).mono ?_
 rintro e W' ⟨rfl,hd⟩
 exact ⟨rfl,H.to hd.below⟩
theorem mask_own {w0 W : World} {F : Nat → Option Obj} {L : List Res} (H : Own w0 F L W) (xs : List Int) :
  Calls Tryd.prog 71 #[.int .u32 (moreI 0 xs)] W fun e W' => e = .returned (.int .u32 (sumN xs : Int)) ∧ Own w0 F L W' := by
 refine (crc_Mask.calls (moreI 0 xs) _ W (crc_sum xs)).mono ?_
 rintro e W' ⟨rfl,hd⟩
 exact ⟨rfl,H.to hd.below⟩
theorem drop_C {w : World} {A : Option Addr} {n : Nat} {xs : List Int} (h : (Kd.int .u8).C w A n xs) (lo c : Nat) (h1 : lo ≤ n) (hc : n ≤ c) : (Kd.int .u8).C w (dropA A lo c 1) (n - lo) (xs.drop lo) := by
 have hl := h.1
 have hm := h.2.1
 have hR := (Rd.of_C h).dropA lo c 1 (fun e => by rw [nums_length];omega)
 rw [Nat.mul_one,nums_drop] at hR
 exact hR.C (by rw [List.length_drop];omega) (by omega)
theorem getn_pre {l m : List Int} (i : Nat) (h : ∀ j,j < i → l[j]? = m[j]?) : getn l i = getn m i := by
 induction i with
 |zero => rfl
 |succ i ih =>
  unfold getn
  rw [ih (fun j hj => h j (by omega))]
  congr 3
  unfold rd
  rw [Int.toNat_natCast,List.getD_eq_getElem?_getD,List.getD_eq_getElem?_getD,h i (by omega)]
theorem get_own {w0 W : World} {F : Nat → Option Obj} {L : List Res} (H : Own w0 F L W) (A : Option Addr) (n c : Nat) (xs : List Int) (hC : (Kd.int .u8).C W A n xs) (hc : n ≤ c) (hb : Bytes xs) (h8 : n ≤ 8) :
  Calls Tryd.prog 69 #[.slice A n c] W fun e W' => e = .returned (.int .u64 (getn xs n : Nat)) ∧ Own w0 F L W' := by
 have hn : xs.length = n := hC.1
 subst hn
 have he := get_eq (l := xs) (wf_of_bytes hb) 9 (by decide)
 rw [Nat.min_eq_left h8] at he
 refine (word_Get.calls 9 A c xs _ W hC hc he).mono ?_
 rintro e W' ⟨rfl,hb⟩
 exact ⟨rfl,H.to hb⟩
theorem cut_C {w : World} {A : Option Addr} {n : Nat} {xs : List Int} (h : (Kd.int .u8).C w A n xs) (lo hi c : Nat) (h1 : lo ≤ hi) (h2 : hi ≤ n) (hc : n ≤ c) : (Kd.int .u8).C w (dropA A lo c 1) (hi - lo) ((xs.take hi).drop lo) := by
 have hm := h.2.1
 have hl : xs.length = n := h.1
 have hR := ((Rd.of_C h).take hi).dropA lo c 1 (fun e => by rw [List.length_take,nums_length];omega)
 rw [nums_take,Nat.mul_one,nums_drop] at hR
 exact hR.C (by rw [List.length_drop,List.length_take];omega) (by omega)
theorem r_loadRd0 {P : Program} {o : Oper} {a : Act} {W : World} {p : Addr} {cs : List Value} (ty : TypeId) (x : Operand) (ho : o.op = .load ty x) (hx : a.eval x = .pointer (some p)) (hR : Rd W (some p) cs)
  (n : Nat) (d : TypeDesc) (hu : P.underlying ty = some d) (hd : d.isRow = true) (hi : (P.info? ty).map (·.size) = some n) (hn : 0 < n) (hl : cs.length = n) :
  (execOp a.eval o).run P W = .ok (.value (.agg cs.toArray)) W := by
 have h := r_loadRd (P := P) (o := o) (a := a) ty x ho 0 (ad := p) (cs := cs) (by rw [hx];congr 2) hR n d hu hd hi hn (by omega)
 rwa [List.drop_zero,List.take_of_length_le (by omega)] at h
theorem rget_own {w0 W : World} {F : Nat → Option Obj} {L : List Res} (H : Own w0 F L W) (A : Option Addr) (n c : Nat) (xs : List Int) (hC : (Kd.int .u8).C W A n xs) (hc : n ≤ c) (hb : Bytes xs) (h8 : n ≤ 8) :
  Calls Tryd.prog 75 #[.slice A n c] W fun e W' => e = .returned (.int .u64 (getn xs n : Nat)) ∧ Own w0 F L W' := by
 have hn : xs.length = n := hC.1
 subst hn
 have he := rget_eq (l := xs) (wf_of_bytes hb) 81 (by decide)
 rw [Nat.min_eq_left h8] at he
 refine (strandlineref01_Get.calls 81 A c xs _ W hC hc he).mono ?_
 rintro e W' ⟨rfl,hb⟩
 exact ⟨rfl,H.to hb.below⟩
end Go.Proofs.YtaekpfhgdnfciaaDoor.O
end

section
/- Functions of frag: what each answers, as a Lean function, and that the call answers just this. Turned out of what the kit's print told for this seat. -/
namespace Go.Proofs.YtaekpfhgdnfciaaDoor.F
open Go.RowKit Go.Proofs.YtaekpfhgdnfciaaDoorW.PrintWords Go.Proofs.YtaekpfhgdnfciaaDoorW.PrintLast Go.Proofs.YtaekpfhgdnfciaaDoorW.PrintMore
attribute [local go_sem high] eqA83
attribute [local go_sem] field83_0
attribute [local go_sem] field83_1
attribute [local go_sem] max2_int min2_int max_two min_two max_three min_three max_four min_four
set_option linter.unusedVariables false
set_option linter.unusedSimpArgs false
/-! ### frag_right: function 70 -/
def frag_right.f (a0_0 : Int) (a0_1 : Int) (l0_2 : List Int) : Option (Bool) := if a0_0 ≥ 1 then (if a0_0 ≤ 4 then (some (decide ((l0_2.length : Int) ≤ 197))) else (some false)) else (some false)
set_option maxHeartbeats 8000000 in
set_option maxRecDepth 100000 in
theorem frag_right.calls (a0_0 : Int) (a0_1 : Int) (A0_2 : Option Addr) (c0_2 : Nat) (l0_2 : List Int) (r : Bool) (w : World) (hr0_2 : Kd.C (Kd.int .u8) w A0_2 l0_2.length l0_2) (hc0_2 : l0_2.length ≤ c0_2) (h : frag_right.f a0_0 a0_1 l0_2 = some r) :
  Calls Tryd.prog 70 #[.agg #[.int .i64 a0_0,.int .u32 a0_1,.slice A0_2 l0_2.length c0_2]] w fun e w' => e = .returned (.bool r) ∧ Below w.heap.size w w' := by
 have hu73 := Tryd.underlying73
 have hu83 := Tryd.underlying83
 have hu94 := Tryd.underlying94
 have hu106 := Tryd.underlying106
 have hu76 := Tryd.underlying76
 have HR0_2 := Aside0.mk hr0_2
 have HC0_2 := Aside0.mk hc0_2
 clear hr0_2 hc0_2
 have HB := Aside0.mk (Below.refl w.heap.size w)
 have H : (if a0_0 ≥ 1 then (if a0_0 ≤ 4 then (some (decide ((l0_2.length : Int) ≤ 197))) else (some false)) else (some false)) = some r := h
 clear h
 by_cases c2 : a0_0 ≥ 1
 ·rw [if_pos c2] at H
  have c2b0 : decide (1 ≤ a0_0) = true := decide_eq_true c2
  clear c2
  by_cases c3 : a0_0 ≤ 4
  ·rw [if_pos c3] at H
   have c3b0 : decide (a0_0 ≤ 4) = true := decide_eq_true c3
   clear c3
   obtain rfl := Option.some.inj H
   go_enter Tryd.func70,Tryd.ntmps70
   go_wp2_with (first|((with_reducible refine gate_dst (N := 1) rfl ?_);(try (refine gate_guard (by rfl) ?_;dsimp only));refine box_event ?hg (N := 1) ?hd (cs := #[.int .i64 a0_0,.int .u32 a0_1,.slice A0_2 l0_2.length c0_2]) (t := 76) ?hr ?_;(case hd => rfl);(case hg => rfl);(case hr => first|(go_simp;done)|(go_simp;rfl));intro gb101 hg w4 hbox hb;have n0_ := Aside0.mk (below_step (by repeat (first|(with_reducible first|exact HB.out|apply below_alloc|apply pw_below_drewN|apply below_drew1)|exact HB.out)) hb);have n1_ := Aside0.mk (hbox);have n2_ := Aside0.mk ((by rw [hg];exact (below_size (by repeat (first|(with_reducible first|exact HB.out|apply below_alloc|apply pw_below_drewN|apply below_drew1)|exact HB.out))) : w.heap.size ≤ gb101));have n3_ := Aside0.mk ((by rw [hg];exact (below_size (by repeat (first|(with_reducible first|exact HB.out|apply below_alloc|apply pw_below_drewN|apply below_drew1)|exact HB.out))) : w.heap.size ≤ gb101));clear HB;have HB := n0_;have BK101 := n1_;have GW101 := n2_;have GE101 := n3_;clear n0_ n1_ n2_ n3_;clear hb hbox hg;have hcz5_0 : w4.cell? ⟨gb101,0,none⟩ = some (.int .i64 a0_0) := (blk_cell BK101.out 0).trans rfl;have hcz5_1 : w4.cell? ⟨gb101,1,none⟩ = some (.int .u32 a0_1) := (blk_cell BK101.out 1).trans rfl;have hcz5_2 : w4.cell? ⟨gb101,2,none⟩ = some (.slice A0_2 l0_2.length c0_2) := (blk_cell BK101.out 2).trans rfl;have hfz5_0 := blk_frozen BK101.out 0;have hfz5_1 := blk_frozen BK101.out 1;have hfz5_2 := blk_frozen BK101.out 2))
   go_ret
   exact ⟨by first|rfl|(simp [errW_none,errW_some] <;> rfl)|(simp [*,errW_none,errW_some] <;> rfl),by repeat (first|(with_reducible first|exact HB.out|apply below_alloc|apply pw_below_drewN|apply below_drew1|refine below_set ?_ GE101.out)|exact HB.out)⟩
  ·rw [if_neg c3] at H
   have c3b0 : decide (a0_0 ≤ 4) = false := decide_eq_false c3
   clear c3
   obtain rfl := Option.some.inj H
   go_enter Tryd.func70,Tryd.ntmps70
   go_wp2_with (first|((with_reducible refine gate_dst (N := 1) rfl ?_);(try (refine gate_guard (by rfl) ?_;dsimp only));refine box_event ?hg (N := 1) ?hd (cs := #[.int .i64 a0_0,.int .u32 a0_1,.slice A0_2 l0_2.length c0_2]) (t := 76) ?hr ?_;(case hd => rfl);(case hg => rfl);(case hr => first|(go_simp;done)|(go_simp;rfl));intro gb101 hg w6 hbox hb;have n0_ := Aside0.mk (below_step (by repeat (first|(with_reducible first|exact HB.out|apply below_alloc|apply pw_below_drewN|apply below_drew1)|exact HB.out)) hb);have n1_ := Aside0.mk (hbox);have n2_ := Aside0.mk ((by rw [hg];exact (below_size (by repeat (first|(with_reducible first|exact HB.out|apply below_alloc|apply pw_below_drewN|apply below_drew1)|exact HB.out))) : w.heap.size ≤ gb101));have n3_ := Aside0.mk ((by rw [hg];exact (below_size (by repeat (first|(with_reducible first|exact HB.out|apply below_alloc|apply pw_below_drewN|apply below_drew1)|exact HB.out))) : w.heap.size ≤ gb101));clear HB;have HB := n0_;have BK101 := n1_;have GW101 := n2_;have GE101 := n3_;clear n0_ n1_ n2_ n3_;clear hb hbox hg;have hcz7_0 : w6.cell? ⟨gb101,0,none⟩ = some (.int .i64 a0_0) := (blk_cell BK101.out 0).trans rfl;have hcz7_1 : w6.cell? ⟨gb101,1,none⟩ = some (.int .u32 a0_1) := (blk_cell BK101.out 1).trans rfl;have hcz7_2 : w6.cell? ⟨gb101,2,none⟩ = some (.slice A0_2 l0_2.length c0_2) := (blk_cell BK101.out 2).trans rfl;have hfz7_0 := blk_frozen BK101.out 0;have hfz7_1 := blk_frozen BK101.out 1;have hfz7_2 := blk_frozen BK101.out 2))
   go_ret
   exact ⟨by first|rfl|(simp [errW_none,errW_some] <;> rfl)|(simp [*,errW_none,errW_some] <;> rfl),by repeat (first|(with_reducible first|exact HB.out|apply below_alloc|apply pw_below_drewN|apply below_drew1|refine below_set ?_ GE101.out)|exact HB.out)⟩
 ·rw [if_neg c2] at H
  have c2b0 : decide (1 ≤ a0_0) = false := decide_eq_false c2
  clear c2
  obtain rfl := Option.some.inj H
  go_enter Tryd.func70,Tryd.ntmps70
  go_wp2_with (first|((with_reducible refine gate_dst (N := 1) rfl ?_);(try (refine gate_guard (by rfl) ?_;dsimp only));refine box_event ?hg (N := 1) ?hd (cs := #[.int .i64 a0_0,.int .u32 a0_1,.slice A0_2 l0_2.length c0_2]) (t := 76) ?hr ?_;(case hd => rfl);(case hg => rfl);(case hr => first|(go_simp;done)|(go_simp;rfl));intro gb101 hg w8 hbox hb;have n0_ := Aside0.mk (below_step (by repeat (first|(with_reducible first|exact HB.out|apply below_alloc|apply pw_below_drewN|apply below_drew1)|exact HB.out)) hb);have n1_ := Aside0.mk (hbox);have n2_ := Aside0.mk ((by rw [hg];exact (below_size (by repeat (first|(with_reducible first|exact HB.out|apply below_alloc|apply pw_below_drewN|apply below_drew1)|exact HB.out))) : w.heap.size ≤ gb101));have n3_ := Aside0.mk ((by rw [hg];exact (below_size (by repeat (first|(with_reducible first|exact HB.out|apply below_alloc|apply pw_below_drewN|apply below_drew1)|exact HB.out))) : w.heap.size ≤ gb101));clear HB;have HB := n0_;have BK101 := n1_;have GW101 := n2_;have GE101 := n3_;clear n0_ n1_ n2_ n3_;clear hb hbox hg;have hcz9_0 : w8.cell? ⟨gb101,0,none⟩ = some (.int .i64 a0_0) := (blk_cell BK101.out 0).trans rfl;have hcz9_1 : w8.cell? ⟨gb101,1,none⟩ = some (.int .u32 a0_1) := (blk_cell BK101.out 1).trans rfl;have hcz9_2 : w8.cell? ⟨gb101,2,none⟩ = some (.slice A0_2 l0_2.length c0_2) := (blk_cell BK101.out 2).trans rfl;have hfz9_0 := blk_frozen BK101.out 0;have hfz9_1 := blk_frozen BK101.out 1;have hfz9_2 := blk_frozen BK101.out 2))
  go_ret
  exact ⟨by first|rfl|(simp [errW_none,errW_some] <;> rfl)|(simp [*,errW_none,errW_some] <;> rfl),by repeat (first|(with_reducible first|exact HB.out|apply below_alloc|apply pw_below_drewN|apply below_drew1|refine below_set ?_ GE101.out)|exact HB.out)⟩
end Go.Proofs.YtaekpfhgdnfciaaDoor.F
end

section
/- frag.Encode, by what is owned. -/
set_option linter.unusedVariables false
set_option linter.unusedSimpArgs false
namespace Go.Proofs.YtaekpfhgdnfciaaDoor.O
open Go.RowKit Go.Proofs.YtaekpfhgdnfciaaDoorW.PrintWords Go.Proofs.YtaekpfhgdnfciaaDoorW.PrintLast Go.Proofs.YtaekpfhgdnfciaaDoorW.PrintMore Go.Proofs.YtaekpfhgdnfciaaDoor.F Go.Proofs.YtaekpfhgdnfciaaDoor.F.Nums Go.Proofs.YtaekpfhgdnfciaaDoor.Plain
theorem right_eq (kind ep : Int) (data : List Int) : frag_right.f kind ep data = some (rightF kind data.length) := by
 unfold frag_right.f rightF
 by_cases h1 : kind ≥ 1
 ·by_cases h2 : kind ≤ 4
  ·rw [if_pos h1,if_pos h2,decide_eq_true (show 1 ≤ kind from h1),decide_eq_true h2]
   simp only [Bool.true_and,Option.some.injEq]
   rw [decide_eq_decide]
   omega
  ·rw [if_pos h1,if_neg h2,decide_eq_false h2];simp
 ·rw [if_neg h1,decide_eq_false (show ¬ 1 ≤ kind from h1)];simp
theorem right_parts {kind : Int} {n : Nat} (h : rightF kind n = true) : 1 ≤ kind ∧ kind ≤ 4 ∧ n ≤ 197 := by
 unfold rightF at h
 simp at h
 omega
/-- the head, its sum not yet laid -/
def headL (n : Nat) (kind ep : Int) : List Int := zs 4 ++ (putl n 2 ++ (kind :: putl ep.toNat 4))
theorem headL_len (n : Nat) (kind ep : Int) : (headL n kind ep).length = 11 := by simp [headL,putl_len,zs]
theorem head_of (n : Nat) (kind ep : Int) : splice ((splice (zs 11) 4 (putl n 2)).set 6 kind) 7 (putl ep.toNat 4) = headL n kind ep := by
 obtain ⟨a,b,hp⟩ : ∃ a b,putl n 2 = [a,b] := by
  match h : putl n 2,putl_len n 2 with
  |[a,b],_ => exact ⟨a,b,rfl⟩
 obtain ⟨c,d,e,f,hq⟩ : ∃ c d e f,putl ep.toNat 4 = [c,d,e,f] := by
  match h : putl ep.toNat 4,putl_len ep.toNat 4 with
  |[c,d,e,f],_ => exact ⟨c,d,e,f,rfl⟩
 unfold headL
 rw [hp,hq]
 rfl
theorem head_body (kind ep : Int) (data : List Int) : (headL data.length kind ep ++ data).drop 4 = bodyL kind ep data := by
 unfold headL bodyL
 rw [List.append_assoc,List.drop_append_of_le_length (by simp [zs]),List.drop_of_length_le (by simp [zs]),List.nil_append]
 simp
theorem head_enc (kind ep : Int) (data : List Int) : splice (headL data.length kind ep ++ data) 0 (putl (sumN (bodyL kind ep data)) 4) = encL kind ep data := by
 unfold splice encL
 rw [List.take_zero,List.nil_append,putl_len,Nat.zero_add,head_body]
set_option maxRecDepth 100000 in
set_option maxHeartbeats 4000000 in
theorem encode_ok (kind ep : Int) (data : List Int) (A : Option Addr) (c : Nat) (w : World) (hC : (Kd.int .u8).C w A data.length data) (hc : data.length ≤ c) (hd : Bytes data) (he : 0 ≤ ep ∧ ep ≤ 4294967295) (hH : Half w) (hr : rightF kind data.length = true) :
  Calls Tryd.prog 85 #[.agg #[.int .i64 kind,.int .u32 ep,.slice A data.length c]] w fun e W => ∃ A' c',e = .returned (.tuple #[.slice A' (11 + data.length) c',.int .i64 0]) ∧ 11 + data.length ≤ c' ∧ (Kd.int .u8).C W A' (11 + data.length) (encL kind ep data) ∧ Below w.heap.size w W := by
 have H := Own.start w
 have FR := fun W (hb : Below w.heap.size w W) => frag_right.calls kind ep A c data _ W (Kd.C_below hC hb) hc (right_eq kind ep data)
 rw [hr] at FR
 obtain ⟨k1,k2,k3⟩ := right_parts hr
 obtain ⟨e,rfl⟩ := Int.eq_ofNat_of_zero_le he.1
 have P1 := fun {W : World} {L : List Res} (H : Own w F0 L W) => put_own H data.length (by omega) 2 2 rfl (by decide)
 have P2 := fun {W : World} {L : List Res} (H : Own w F0 L W) => put_own H e (by omega) 4 4 rfl (by decide)
 have hu1 : IntKind.u64.wrap (data.length : Int) = (data.length : Int) := wu64 (by omega) (by omega)
 have hu2 : IntKind.u64.wrap (e : Int) = (e : Int) := wu64 (by omega) (by omega)
 have hu3 : IntKind.u8.wrap kind = kind := by rw [IntKind.wrap_u8];omega
 have hho := head_of data.length kind (e : Int)
 rw [Int.toNat_natCast] at hho
 generalize hN : data.length = n at *
 go_enter Tryd.func85,Tryd.ntmps85
 go_wp2_with (first
  |((with_reducible refine gate_dst (N := 1) rfl ?_);refine l_boxA rfl H 76 _ rfl _ rfl ?_;clear H;intro g1 W H)
  |((with_reducible refine gate_dst (N := 6) rfl ?_);refine l_loadA rfl H 76 _ rfl _ rfl (by (repeat (first|exact In.head|apply In.tail))) _ _ Tryd.underlying76 rfl size76 (by (first|rfl|assumption|omega|(simp only [nums_length];omega)|(simp [nums_length,zs];done)|(simp [nums_length,zs];omega))) ?_)
  |((with_reducible refine gate_dst (N := 4) rfl ?_);refine l_allocA rfl H 127 rfl _ zero127 ?_;clear H;intro g4 W H)
  |(go_at_call 70;(with_reducible refine (FR _ H.below).mono ?_);rintro e W ⟨rfl,hb⟩;replace H := H.to hb;clear hb))
 refine start_ (n := 7) (S := Own _ _ _) (ds := [6]) #[f_,f_,f_,f_,f_,f_,f_] (by kernel_rfl) rfl rfl H.drew (fun hHeld => ?_)
 replace H := H.drew
 generalize World.drew _ = W at H hHeld ⊢
 refine pure_ (i := 0) (N := some 9) (v := ?_) (a' := ?_) #[t_,f_,f_,f_,f_,f_,f_] rfl rfl (by kernel_rfl) (fun _ _ _ h => h) (Or.inl ⟨by rfl,?_⟩) ?_ ?_
 rotate_left
 ·intro w'
  go_simp
  with_reducible rfl
 rotate_left
 ·simp only [ps_]
  rfl
 refine pure_ (i := 1) (N := some 10) (v := ?_) (a' := ?_) #[t_,t_,f_,f_,f_,f_,f_] rfl rfl (by kernel_rfl) (fun _ _ _ h => h) (Or.inl ⟨by rfl,?_⟩) ?_ ?_
 rotate_left
 ·intro w'
  go_simp
  with_reducible rfl
 rotate_left
 ·simp only [ps_]
  rfl
 refine one_ (i := 2) (N := some 11) #[t_,t_,t_,f_,f_,f_,f_] rfl rfl (by kernel_rfl) (by decide) (fun K hK => ?_)
 refine wanted_ rfl ?_
 refine w_load1 H 38 _ rfl _ _ rfl (by (repeat (first|exact In.head|apply In.tail))) _ Tryd.underlying38 rfl _ (by first|rfl|assumption|exact nums_at _ (by omega)) ?_
 refine hK.out _ _ ?_ (fun hHeld => ?_)
 ·first|trivial|exact H|exact H.del .head|exact (H.del .head).del .head|exact H.heap (by (repeat (first|exact In.head|apply In.tail)))
 clear hK K
 refine norm_ (a' := ?_) ?_ ?_
 rotate_left
 ·show Act.put _ (some 11) _ = _
  simp only [ps_]
  rfl
 refine pure_ (i := 3) (N := some 12) (v := ?_) (a' := ?_) #[t_,t_,t_,t_,f_,f_,f_] rfl rfl (by kernel_rfl) (fun _ _ _ h => h) (Or.inl ⟨by rfl,?_⟩) ?_ ?_
 rotate_left
 ·intro w'
  go_simp
  with_reducible rfl
 rotate_left
 ·simp only [ps_]
  rfl
 refine pure_ (i := 4) (N := some 13) (v := ?_) (a' := ?_) #[t_,t_,t_,t_,t_,f_,f_] rfl rfl (by kernel_rfl) (fun _ _ _ h => h) (Or.inl ⟨by rfl,?_⟩) ?_ ?_
 rotate_left
 ·intro w'
  go_simp
  with_reducible rfl
 rotate_left
 ·simp only [ps_]
  rfl
 refine one_ (i := 5) (N := some 14) #[t_,t_,t_,t_,t_,t_,f_] rfl rfl (by kernel_rfl) (by decide) (fun K hK => ?_)
 refine callK_ (P1 H) Tryd.func88 (by kernel_rfl) rfl (by rfl) rfl rfl (by (try simp only [List.map_toArray,List.map_cons,List.map_nil]);first|done|rfl) ?_
 rintro e W ⟨A14,c14,rfl,h14,C14,H'⟩
 refine ⟨_,rfl,?_⟩
 replace H := H'
 clear H'
 refine hK.out _ _ ?_ (fun hHeld => ?_)
 ·first|trivial|exact H|exact H.del .head|exact (H.del .head).del .head|exact H.heap (by (repeat (first|exact In.head|apply In.tail)))
 clear hK K
 refine norm_ (a' := ?_) ?_ ?_
 rotate_left
 ·show Act.put _ (some 14) _ = _
  simp only [ps_]
  rfl
 refine last_ (i := 6) (N := some 15) #[t_,t_,t_,t_,t_,t_,t_] rfl rfl (by kernel_rfl) (by decide) (fun K hK => ?_)
 refine wanted_ rfl ?_
 refine w_copyC H _ _ _ _ rfl 5 Tryd.underlying38 size5 _ _ _ _ rfl (by (repeat (first|exact In.head|apply In.tail))) _ _ _ rfl ((putl n 2)) ?_ (by (first|rfl|assumption|omega|(simp only [nums_length];omega)|(simp [nums_length,zs];done)|(simp [nums_length,zs];omega))) ?_
 ·exact C14
 clear H;intro W H
 refine hK.out _ _ ?_
 clear hK K
 refine norm_ (a' := ?_) ?_ ?_
 rotate_left
 ·show Act.put _ (some 15) _ = _
  simp only [ps_]
  rfl
 refine done_ (by kernel_rfl) ?_
 clear hHeld
 rw [show (putl n 2).take (min 2 2) = putl n 2 from List.take_of_length_le (by rw [putl_len];decide)] at H
 have hsl : (splice (zs 11) 4 (putl n 2)).length = 11 := by
  unfold splice zs
  simp [putl_len]
 generalize splice (zs 11) 4 (putl n 2) = h1 at H hsl hho
 go_wp2_with (first
  |((with_reducible refine gate_dst (N := 17) rfl ?_);refine l_load1 rfl H 3 _ rfl _ _ rfl (by (repeat (first|exact In.head|apply In.tail))) _ Tryd.underlying3 rfl _ (by first|rfl|assumption|exact nums_at _ (by omega)) ?_)
  |((with_reducible refine gate_store (t := 5) (p := 19) rfl ?_);refine l_store1 rfl H 5 _ _ rfl _ _ rfl _ (by first|(go_simp;done)|(go_simp;with_reducible rfl)) (by (repeat (first|exact In.head|apply In.tail))) rfl rfl size5 (by (first|rfl|assumption|omega|(simp only [nums_length];omega)|(simp [nums_length,zs];done)|(simp [nums_length,zs];omega))) ?_;clear H;intro W H))
 rw [nums_set] at H
 have hsl2 : (h1.set 6 kind).length = 11 := by rw [List.length_set,hsl]
 generalize h1.set 6 kind = h2 at H hsl2 hho
 refine start_ (n := 6) (S := Own _ _ _) (ds := [5]) #[f_,f_,f_,f_,f_,f_] (by kernel_rfl) rfl rfl H.drew (fun hHeld => ?_)
 replace H := H.drew
 generalize World.drew _ = W at H hHeld ⊢
 refine pure_ (i := 0) (N := some 20) (v := ?_) (a' := ?_) #[t_,f_,f_,f_,f_,f_] rfl rfl (by kernel_rfl) (fun _ _ _ h => h) (Or.inl ⟨by rfl,?_⟩) ?_ ?_
 rotate_left
 ·intro w'
  go_simp
  with_reducible rfl
 rotate_left
 ·simp only [ps_]
  rfl
 refine pure_ (i := 1) (N := some 21) (v := ?_) (a' := ?_) #[t_,t_,f_,f_,f_,f_] rfl rfl (by kernel_rfl) (fun _ _ _ h => h) (Or.inl ⟨by rfl,?_⟩) ?_ ?_
 rotate_left
 ·intro w'
  go_simp
  with_reducible rfl
 rotate_left
 ·simp only [ps_]
  rfl
 refine one_ (i := 2) (N := some 22) #[t_,t_,t_,f_,f_,f_] rfl rfl (by kernel_rfl) (by decide) (fun K hK => ?_)
 refine wanted_ rfl ?_
 refine w_load1 H 67 _ rfl _ _ rfl (by (repeat (first|exact In.head|apply In.tail))) _ Tryd.underlying67 rfl _ (by first|rfl|assumption|exact nums_at _ (by omega)) ?_
 refine hK.out _ _ ?_ (fun hHeld => ?_)
 ·first|trivial|exact H|exact H.del .head|exact (H.del .head).del .head|exact H.heap (by (repeat (first|exact In.head|apply In.tail)))
 clear hK K
 refine norm_ (a' := ?_) ?_ ?_
 rotate_left
 ·show Act.put _ (some 22) _ = _
  simp only [ps_]
  rfl
 refine pure_ (i := 3) (N := some 23) (v := ?_) (a' := ?_) #[t_,t_,t_,t_,f_,f_] rfl rfl (by kernel_rfl) (fun _ _ _ h => h) (Or.inl ⟨by rfl,?_⟩) ?_ ?_
 rotate_left
 ·intro w'
  go_simp
  with_reducible rfl
 rotate_left
 ·simp only [ps_]
  rfl
 refine one_ (i := 4) (N := some 24) #[t_,t_,t_,t_,t_,f_] rfl rfl (by kernel_rfl) (by decide) (fun K hK => ?_)
 refine callK_ (P2 H) Tryd.func88 (by kernel_rfl) rfl (by rfl) rfl rfl (by (try simp only [List.map_toArray,List.map_cons,List.map_nil]);first|done|rfl) ?_
 rintro e W ⟨A24,c24,rfl,h24,C24,H'⟩
 refine ⟨_,rfl,?_⟩
 replace H := H'
 clear H'
 refine hK.out _ _ ?_ (fun hHeld => ?_)
 ·first|trivial|exact H|exact H.del .head|exact (H.del .head).del .head|exact H.heap (by (repeat (first|exact In.head|apply In.tail)))
 clear hK K
 refine norm_ (a' := ?_) ?_ ?_
 rotate_left
 ·show Act.put _ (some 24) _ = _
  simp only [ps_]
  rfl
 refine last_ (i := 5) (N := some 25) #[t_,t_,t_,t_,t_,t_] rfl rfl (by kernel_rfl) (by decide) (fun K hK => ?_)
 refine wanted_ rfl ?_
 refine w_copyC H _ _ _ _ rfl 5 Tryd.underlying38 size5 _ _ _ _ rfl (by (repeat (first|exact In.head|apply In.tail))) _ _ _ rfl ((putl e 4)) ?_ (by (first|rfl|assumption|omega|(simp only [nums_length];omega)|(simp [nums_length,zs];done)|(simp [nums_length,zs];omega))) ?_
 ·exact C24
 clear H;intro W H
 refine hK.out _ _ ?_
 clear hK K
 refine norm_ (a' := ?_) ?_ ?_
 rotate_left
 ·show Act.put _ (some 25) _ = _
  simp only [ps_]
  rfl
 refine done_ (by kernel_rfl) ?_
 clear hHeld
 rw [show (putl e 4).take (min 4 4) = putl e 4 from List.take_of_length_le (by rw [putl_len];decide),hho] at H
 have hbb : Bytes (bodyL kind (e : Int) data) := bodyL_bytes (by omega) hd
 have hhb := head_body kind (e : Int) data
 have hhe := head_enc kind (e : Int) data
 have hel := encL_len kind (e : Int) data
 have hhl := headL_len n kind (e : Int)
 have hs4 : sumN (bodyL kind (e : Int) data) < 18446744073709551616 := by have := sumN_lt (bodyL kind (e : Int) data);omega
 have OF := fun {W : World} {L : List Res} (H : Own w F0 L W) A n c hC hc => of_own H hH A n c (bodyL kind (e : Int) data) hC hc hbb
 have MF := fun {W : World} {L : List Res} (H : Own w F0 L W) => mask_own H (bodyL kind (e : Int) data)
 have PF := fun {W : World} {L : List Res} (H : Own w F0 L W) => put_own H (sumN (bodyL kind (e : Int) data)) hs4 4 4 rfl (by decide)
 have hu4 : IntKind.u64.wrap (sumN (bodyL kind (e : Int) data) : Int) = (sumN (bodyL kind (e : Int) data) : Int) := wu64 (by omega) (by omega)
 rw [hN] at hhb hhe hel
 generalize bodyL kind (e : Int) data = BL at *
 generalize hEL : encL kind (e : Int) data = EL at *
 generalize headL n kind (e : Int) = HL at *
 have hmo := moreI_lo BL
 generalize moreI 0 BL = mo at OF MF hmo
 generalize sumN BL = sm at *
 clear hho P1 P2 FR hbb
 rcases Nat.eq_zero_or_pos n with h0|h0
 ·subst h0
  obtain rfl : data = [] := List.eq_nil_of_length_eq_zero hN
  rw [List.append_nil] at hhb hhe
  go_wp2
  refine start_ (n := 5) (S := Own _ _ _) (ds := []) #[f_,f_,f_,f_,f_] (by kernel_rfl) rfl rfl H.drew (fun hHeld => ?_)
  replace H := H.drew
  generalize World.drew _ = W at H hHeld ⊢
  refine pure_ (i := 0) (N := some 26) (v := ?_) (a' := ?_) #[t_,f_,f_,f_,f_] rfl rfl (by kernel_rfl) (fun _ _ _ h => h) (Or.inl ⟨by rfl,?_⟩) ?_ ?_
  rotate_left
  ·intro w'
   go_simp
   with_reducible rfl
  rotate_left
  ·simp only [ps_]
   rfl
  refine pure_ (i := 1) (N := some 27) (v := ?_) (a' := ?_) #[t_,t_,f_,f_,f_] rfl rfl (by kernel_rfl) (fun _ _ _ h => h) (Or.inl ⟨by rfl,?_⟩) ?_ ?_
  rotate_left
  ·intro w'
   go_simp
   with_reducible rfl
  rotate_left
  ·simp only [ps_]
   rfl
  refine one_ (i := 2) (N := some 28) #[t_,t_,t_,f_,f_] rfl rfl (by kernel_rfl) (by decide) (fun K hK => ?_)
  refine wanted_ rfl ?_
  refine w_load1 H 38 _ rfl _ _ rfl (by (repeat (first|exact In.head|apply In.tail))) _ Tryd.underlying38 rfl _ (by first|rfl|assumption|exact nums_at _ (by omega)) ?_
  refine hK.out _ _ ?_ (fun hHeld => ?_)
  ·first|trivial|exact H|exact H.del .head|exact (H.del .head).del .head|exact H.heap (by (repeat (first|exact In.head|apply In.tail)))
  clear hK K
  refine norm_ (a' := ?_) ?_ ?_
  rotate_left
  ·show Act.put _ (some 28) _ = _
   simp only [ps_]
   rfl
  refine one_ (i := 3) (N := some 29) #[t_,t_,t_,t_,f_] rfl rfl (by kernel_rfl) (by decide) (fun K hK => ?_)
  refine wanted_ rfl ?_
  refine w_append0 _ _ 38 5 rfl Tryd.underlying38 (by kernel_rfl) ⟨g4,0,none⟩ 11 11 (Nat.le_refl _) rfl A c rfl ?_
  refine hK.out _ _ ?_ (fun hHeld => ?_)
  ·first|trivial|exact H|exact H.del .head|exact (H.del .head).del .head|exact H.heap (by (repeat (first|exact In.head|apply In.tail)))
  clear hK K
  refine norm_ (a' := ?_) ?_ ?_
  rotate_left
  ·show Act.put _ (some 29) _ = _
   simp only [ps_]
   rfl
  refine pure_ (i := 4) (N := some 5) (v := ?_) (a' := ?_) #[t_,t_,t_,t_,t_] rfl rfl (by kernel_rfl) (fun _ _ _ h => h) (Or.inl ⟨by rfl,?_⟩) ?_ ?_
  rotate_left
  ·intro w'
   go_simp
   with_reducible rfl
  rotate_left
  ·simp only [ps_]
   rfl
  refine done_ (by kernel_rfl) ?_
  clear hHeld
  go_wp2
  have C4 : ∀ {W : World},Own w F0 [.blk g4 127 (nums .u8 HL),.blk g1 76 [.int .i64 kind,.int .u32 (e : Int),.slice A 0 c]] W → (Kd.int .u8).C W (some ⟨g4,4,none⟩) 7 BL := fun H => by
   have := H.C .head 4 7 (by omega) (by decide)
   rw [hhb,List.take_of_length_le (by rw [← hhb,List.length_drop];omega)] at this
   exact this
  refine start_ (n := 9) (S := Own _ _ _) (ds := [8]) #[f_,f_,f_,f_,f_,f_,f_,f_,f_] (by kernel_rfl) rfl rfl H.drew (fun hHeld => ?_)
  replace H := H.drew
  generalize World.drew _ = W at H hHeld ⊢
  refine pure_ (i := 0) (N := some 30) (v := ?_) (a' := ?_) #[t_,f_,f_,f_,f_,f_,f_,f_,f_] rfl rfl (by kernel_rfl) (fun _ _ _ h => h) (Or.inl ⟨by rfl,?_⟩) ?_ ?_
  rotate_left
  ·intro w'
   go_simp
   with_reducible rfl
  rotate_left
  ·simp only [ps_]
   rfl
  refine pure_ (i := 1) (N := some 31) (v := ?_) (a' := ?_) #[t_,t_,f_,f_,f_,f_,f_,f_,f_] rfl rfl (by kernel_rfl) (fun _ _ _ h => h) (Or.inl ⟨by rfl,?_⟩) ?_ ?_
  rotate_left
  ·intro w'
   go_simp
   with_reducible rfl
  rotate_left
  ·simp only [ps_]
   rfl
  refine pure_ (i := 2) (N := some 32) (v := ?_) (a' := ?_) #[t_,t_,t_,f_,f_,f_,f_,f_,f_] rfl rfl (by kernel_rfl) (fun _ _ _ h => h) (Or.inl ⟨by rfl,?_⟩) ?_ ?_
  rotate_left
  ·intro w'
   go_simp
   with_reducible rfl
  rotate_left
  ·simp only [ps_]
   rfl
  refine pure_ (i := 3) (N := some 33) (v := ?_) (a' := ?_) #[t_,t_,t_,t_,f_,f_,f_,f_,f_] rfl rfl (by kernel_rfl) (fun _ _ _ h => h) (Or.inl ⟨by rfl,?_⟩) ?_ ?_
  rotate_left
  ·intro w'
   go_simp
   with_reducible rfl
  rotate_left
  ·simp only [ps_]
   rfl
  refine one_ (i := 4) (N := some 34) #[t_,t_,t_,t_,t_,f_,f_,f_,f_] rfl rfl (by kernel_rfl) (by decide) (fun K hK => ?_)
  refine callK_ (OF H (some ⟨g4,4,none⟩) 7 7 (C4 H) (by decide)) Tryd.func72 (by kernel_rfl) rfl (by rfl) rfl rfl (by (try simp only [List.map_toArray,List.map_cons,List.map_nil]);first|done|rfl) ?_
  rintro e W ⟨rfl,H'⟩
  refine ⟨_,rfl,?_⟩
  replace H := H'
  clear H'
  refine hK.out _ _ ?_ (fun hHeld => ?_)
  ·first|trivial|exact H|exact H.del .head|exact (H.del .head).del .head|exact H.heap (by (repeat (first|exact In.head|apply In.tail)))
  clear hK K
  refine norm_ (a' := ?_) ?_ ?_
  rotate_left
  ·show Act.put _ (some 34) _ = _
   simp only [ps_]
   rfl
  refine one_ (i := 5) (N := some 35) #[t_,t_,t_,t_,t_,t_,f_,f_,f_] rfl rfl (by kernel_rfl) (by decide) (fun K hK => ?_)
  refine callK_ (MF H) Tryd.func71 (by kernel_rfl) rfl (by rfl) rfl rfl (by (try simp only [List.map_toArray,List.map_cons,List.map_nil]);first|done|rfl) ?_
  rintro e W ⟨rfl,H'⟩
  refine ⟨_,rfl,?_⟩
  replace H := H'
  clear H'
  refine hK.out _ _ ?_ (fun hHeld => ?_)
  ·first|trivial|exact H|exact H.del .head|exact (H.del .head).del .head|exact H.heap (by (repeat (first|exact In.head|apply In.tail)))
  clear hK K
  refine norm_ (a' := ?_) ?_ ?_
  rotate_left
  ·show Act.put _ (some 35) _ = _
   simp only [ps_]
   rfl
  refine pure_ (i := 6) (N := some 36) (v := ?_) (a' := ?_) #[t_,t_,t_,t_,t_,t_,t_,f_,f_] rfl rfl (by kernel_rfl) (fun _ _ _ h => h) (Or.inl ⟨by rfl,?_⟩) ?_ ?_
  rotate_left
  ·intro w'
   go_simp
   with_reducible rfl
  rotate_left
  ·simp only [ps_]
   rfl
  refine one_ (i := 7) (N := some 37) #[t_,t_,t_,t_,t_,t_,t_,t_,f_] rfl rfl (by kernel_rfl) (by decide) (fun K hK => ?_)
  refine callK_ (PF H) Tryd.func88 (by kernel_rfl) rfl (by rfl) rfl rfl (by (try simp only [List.map_toArray,List.map_cons,List.map_nil]);first|done|rfl) ?_
  rintro e W ⟨A37,c37,rfl,h37,C37,H'⟩
  refine ⟨_,rfl,?_⟩
  replace H := H'
  clear H'
  refine hK.out _ _ ?_ (fun hHeld => ?_)
  ·first|trivial|exact H|exact H.del .head|exact (H.del .head).del .head|exact H.heap (by (repeat (first|exact In.head|apply In.tail)))
  clear hK K
  refine norm_ (a' := ?_) ?_ ?_
  rotate_left
  ·show Act.put _ (some 37) _ = _
   simp only [ps_]
   rfl
  refine last_ (i := 8) (N := some 38) #[t_,t_,t_,t_,t_,t_,t_,t_,t_] rfl rfl (by kernel_rfl) (by decide) (fun K hK => ?_)
  refine wanted_ rfl ?_
  refine w_copyC H _ _ _ _ rfl 5 Tryd.underlying38 size5 _ _ _ _ rfl (by (repeat (first|exact In.head|apply In.tail))) _ _ _ rfl ((putl sm 4)) ?_ (by (first|rfl|assumption|omega|(simp only [nums_length];omega)|(simp [nums_length,zs];done)|(simp [nums_length,zs];omega))) ?_
  ·exact C37
  clear H;intro W H
  refine hK.out _ _ ?_
  clear hK K
  refine norm_ (a' := ?_) ?_ ?_
  rotate_left
  ·show Act.put _ (some 38) _ = _
   simp only [ps_]
   rfl
  refine done_ (by kernel_rfl) ?_
  clear hHeld
  rw [show (putl sm 4).take (min 4 4) = putl sm 4 from List.take_of_length_le (by rw [putl_len];decide),hhe] at H
  go_wp2
  go_ret2
  refine ⟨_,_,rfl,by omega,?_,H.below⟩
  have := H.C .head 0 11 (by omega) (by decide)
  rw [List.drop_zero,List.take_of_length_le (by omega)] at this
  rw [hEL]
  exact this
 ·go_wp2
  refine start_ (n := 5) (S := Own _ _ _) (ds := []) #[f_,f_,f_,f_,f_] (by kernel_rfl) rfl rfl H.drew (fun hHeld => ?_)
  replace H := H.drew
  generalize World.drew _ = W at H hHeld ⊢
  refine pure_ (i := 0) (N := some 26) (v := ?_) (a' := ?_) #[t_,f_,f_,f_,f_] rfl rfl (by kernel_rfl) (fun _ _ _ h => h) (Or.inl ⟨by rfl,?_⟩) ?_ ?_
  rotate_left
  ·intro w'
   go_simp
   with_reducible rfl
  rotate_left
  ·simp only [ps_]
   rfl
  refine pure_ (i := 1) (N := some 27) (v := ?_) (a' := ?_) #[t_,t_,f_,f_,f_] rfl rfl (by kernel_rfl) (fun _ _ _ h => h) (Or.inl ⟨by rfl,?_⟩) ?_ ?_
  rotate_left
  ·intro w'
   go_simp
   with_reducible rfl
  rotate_left
  ·simp only [ps_]
   rfl
  refine one_ (i := 2) (N := some 28) #[t_,t_,t_,f_,f_] rfl rfl (by kernel_rfl) (by decide) (fun K hK => ?_)
  refine wanted_ rfl ?_
  refine w_load1 H 38 _ rfl _ _ rfl (by (repeat (first|exact In.head|apply In.tail))) _ Tryd.underlying38 rfl _ (by first|rfl|assumption|exact nums_at _ (by omega)) ?_
  refine hK.out _ _ ?_ (fun hHeld => ?_)
  ·first|trivial|exact H|exact H.del .head|exact (H.del .head).del .head|exact H.heap (by (repeat (first|exact In.head|apply In.tail)))
  clear hK K
  refine norm_ (a' := ?_) ?_ ?_
  rotate_left
  ·show Act.put _ (some 28) _ = _
   simp only [ps_]
   rfl
  refine one_ (i := 3) (N := some 29) #[t_,t_,t_,t_,f_] rfl rfl (by kernel_rfl) (by decide) (fun K hK => ?_)
  refine wanted_ rfl ?_
  refine w_appendFull H _ _ 38 5 rfl Tryd.underlying38 _ _ _ inf5 rfl (by decide) (by decide) ⟨g4,0,none⟩ 11 (nums .u8 HL) rfl (by rw [nums_length,hhl]) (fun j u hj => by rw [addr_add,H.cell .head,Nat.zero_add];exact hj) A n c (nums .u8 data) rfl h0 (by rw [nums_length,hN,Nat.mul_one]) (Rd.of_C (Kd.C_below hC H.below)) (by omega) ?_
  clear H
  intro v29 W H
  obtain ⟨A29,c29,rfl⟩ := H.row_slice .head
  rw [nums_app] at H
  refine hK.out _ _ ?_ (fun hHeld => ?_)
  ·first|trivial|exact H|exact H.del .head|exact (H.del .head).del .head|exact H.heap (by (repeat (first|exact In.head|apply In.tail)))
  clear hK K
  refine norm_ (a' := ?_) ?_ ?_
  rotate_left
  ·show Act.put _ (some 29) _ = _
   simp only [ps_]
   rfl
  refine pure_ (i := 4) (N := some 5) (v := ?_) (a' := ?_) #[t_,t_,t_,t_,t_] rfl rfl (by kernel_rfl) (fun _ _ _ h => h) (Or.inl ⟨by rfl,?_⟩) ?_ ?_
  rotate_left
  ·intro w'
   go_simp
   with_reducible rfl
  rotate_left
  ·simp only [ps_]
   rfl
  refine done_ (by kernel_rfl) ?_
  clear hHeld
  go_wp2
  have hnc := (H.rowC .head).1
  have C4 : ∀ {W : World},Own w F0 [.row (.slice A29 (11 + n) c29) 5 1 (11 + n) (nums .u8 (HL ++ data)),.blk g4 127 (nums .u8 HL),.blk g1 76 [.int .i64 kind,.int .u32 (e : Int),.slice A n c]] W → (Kd.int .u8).C W (dropA A29 4 c29 1) (11 + n - 4) BL := fun H => by
   have := drop_C (H.rowC .head).2.2 4 c29 (by omega) hnc
   rw [hhb] at this
   exact this
  refine start_ (n := 9) (S := Own _ _ _) (ds := [8]) #[f_,f_,f_,f_,f_,f_,f_,f_,f_] (by kernel_rfl) rfl rfl H.drew (fun hHeld => ?_)
  replace H := H.drew
  generalize World.drew _ = W at H hHeld ⊢
  refine pure_ (i := 0) (N := some 30) (v := ?_) (a' := ?_) #[t_,f_,f_,f_,f_,f_,f_,f_,f_] rfl rfl (by kernel_rfl) (fun _ _ _ h => h) (Or.inl ⟨by rfl,?_⟩) ?_ ?_
  rotate_left
  ·intro w'
   go_simp
   with_reducible rfl
  rotate_left
  ·simp only [ps_]
   rfl
  refine take_run (i := 1) (N := some 31) (a' := ?_) #[t_,t_,f_,f_,f_,f_,f_,f_,f_] rfl rfl (by kernel_rfl) (fun _ _ _ _ h => h) (by rfl) hHeld (.slice A29 4 c29) (fun X HX => x_slice_to _ _ rfl rfl Tryd.underlying38 size5 4 rfl (by omega) X) ?_ ?_
  rotate_left
  ·simp only [ps_]
   rfl
  refine pure_ (i := 2) (N := some 32) (v := ?_) (a' := ?_) #[t_,t_,t_,f_,f_,f_,f_,f_,f_] rfl rfl (by kernel_rfl) (fun _ _ _ h => h) (Or.inl ⟨by rfl,?_⟩) ?_ ?_
  rotate_left
  ·intro w'
   go_simp
   with_reducible rfl
  rotate_left
  ·simp only [ps_]
   rfl
  refine take_run (i := 3) (N := some 33) (a' := ?_) #[t_,t_,t_,t_,f_,f_,f_,f_,f_] rfl rfl (by kernel_rfl) (fun _ _ _ _ h => h) (by rfl) hHeld (.slice (dropA A29 4 c29 1) (11 + n - 4) (c29 - 4)) (fun X HX => x_slice_lo _ _ rfl rfl Tryd.underlying38 size5 4 rfl (by omega) X) ?_ ?_
  rotate_left
  ·simp only [ps_]
   rfl
  refine one_ (i := 4) (N := some 34) #[t_,t_,t_,t_,t_,f_,f_,f_,f_] rfl rfl (by kernel_rfl) (by decide) (fun K hK => ?_)
  refine callK_ (OF H (dropA A29 4 c29 1) (11 + n - 4) (c29 - 4) (C4 H) (by omega)) Tryd.func72 (by kernel_rfl) rfl (by rfl) rfl rfl (by (try simp only [List.map_toArray,List.map_cons,List.map_nil]);first|done|rfl) ?_
  rintro e W ⟨rfl,H'⟩
  refine ⟨_,rfl,?_⟩
  replace H := H'
  clear H'
  refine hK.out _ _ ?_ (fun hHeld => ?_)
  ·first|trivial|exact H|exact H.del .head|exact (H.del .head).del .head|exact H.heap (by (repeat (first|exact In.head|apply In.tail)))
  clear hK K
  refine norm_ (a' := ?_) ?_ ?_
  rotate_left
  ·show Act.put _ (some 34) _ = _
   simp only [ps_]
   rfl
  refine one_ (i := 5) (N := some 35) #[t_,t_,t_,t_,t_,t_,f_,f_,f_] rfl rfl (by kernel_rfl) (by decide) (fun K hK => ?_)
  refine callK_ (MF H) Tryd.func71 (by kernel_rfl) rfl (by rfl) rfl rfl (by (try simp only [List.map_toArray,List.map_cons,List.map_nil]);first|done|rfl) ?_
  rintro e W ⟨rfl,H'⟩
  refine ⟨_,rfl,?_⟩
  replace H := H'
  clear H'
  refine hK.out _ _ ?_ (fun hHeld => ?_)
  ·first|trivial|exact H|exact H.del .head|exact (H.del .head).del .head|exact H.heap (by (repeat (first|exact In.head|apply In.tail)))
  clear hK K
  refine norm_ (a' := ?_) ?_ ?_
  rotate_left
  ·show Act.put _ (some 35) _ = _
   simp only [ps_]
   rfl
  refine pure_ (i := 6) (N := some 36) (v := ?_) (a' := ?_) #[t_,t_,t_,t_,t_,t_,t_,f_,f_] rfl rfl (by kernel_rfl) (fun _ _ _ h => h) (Or.inl ⟨by rfl,?_⟩) ?_ ?_
  rotate_left
  ·intro w'
   go_simp
   with_reducible rfl
  rotate_left
  ·simp only [ps_]
   rfl
  refine one_ (i := 7) (N := some 37) #[t_,t_,t_,t_,t_,t_,t_,t_,f_] rfl rfl (by kernel_rfl) (by decide) (fun K hK => ?_)
  refine callK_ (PF H) Tryd.func88 (by kernel_rfl) rfl (by rfl) rfl rfl (by (try simp only [List.map_toArray,List.map_cons,List.map_nil]);first|done|rfl) ?_
  rintro e W ⟨A37,c37,rfl,h37,C37,H'⟩
  refine ⟨_,rfl,?_⟩
  replace H := H'
  clear H'
  refine hK.out _ _ ?_ (fun hHeld => ?_)
  ·first|trivial|exact H|exact H.del .head|exact (H.del .head).del .head|exact H.heap (by (repeat (first|exact In.head|apply In.tail)))
  clear hK K
  refine norm_ (a' := ?_) ?_ ?_
  rotate_left
  ·show Act.put _ (some 37) _ = _
   simp only [ps_]
   rfl
  refine last_ (i := 8) (N := some 38) #[t_,t_,t_,t_,t_,t_,t_,t_,t_] rfl rfl (by kernel_rfl) (by decide) (fun K hK => ?_)
  refine wanted_ rfl ?_
  refine w_copyRow H _ _ _ _ rfl 5 Tryd.underlying38 size5 A29 4 c29 (11 + n) c29 5 rfl .head (by omega) A37 4 c37 rfl (putl sm 4) C37 (by omega) ?_
  clear H
  intro W H
  refine hK.out _ _ ?_
  clear hK K
  refine norm_ (a' := ?_) ?_ ?_
  rotate_left
  ·show Act.put _ (some 38) _ = _
   simp only [ps_]
   rfl
  refine done_ (by kernel_rfl) ?_
  clear hHeld
  rw [show (putl sm 4).take (min 4 4) = putl sm 4 from List.take_of_length_le (by rw [putl_len];decide),hhe] at H
  go_wp2
  go_ret2
  refine ⟨A29,c29,rfl,hnc,?_,H.below⟩
  rw [hEL]
  exact (H.rowC .head).2.2
end Go.Proofs.YtaekpfhgdnfciaaDoor.O
end
