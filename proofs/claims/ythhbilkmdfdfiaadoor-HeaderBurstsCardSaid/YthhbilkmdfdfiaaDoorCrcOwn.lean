/- word and crc by what is owned; reading of slices. -/
import Derived.Test.YthhbilkmdfdfiaaDoorFragM
import Derived.Test.YthhbilkmdfdfiaaDoorOwn2
import Derived.Test.YthhbilkmdfdfiaaDoorFkCrc
import Derived.Test.YthhbilkmdfdfiaaDoorHand
set_option linter.unusedVariables false
set_option linter.unusedSimpArgs false
namespace Go.Proofs.YthhbilkmdfdfiaaDoor.O
open Go.RowKit Go.Proofs.YthhbilkmdfdfiaaDoorW.PrintWords Go.Proofs.YthhbilkmdfdfiaaDoorW.PrintLast Go.Proofs.YthhbilkmdfdfiaaDoorW.PrintMore Go.Proofs.YthhbilkmdfdfiaaDoor.F Go.Proofs.YthhbilkmdfdfiaaDoor.F.Nums Go.Proofs.YthhbilkmdfdfiaaDoor.Plain
theorem put_own {w0 W : World} {F : Nat → Option Obj} {L : List Res} (H : Own w0 F L W) (n : Nat) (hn : n < 18446744073709551616) (wi : Int) (i : Nat) (hw : wi = (i : Int)) (hi : i ≤ 8) :
    Calls Tryd.prog 60 #[.int .u64 (n : Int), .int .i64 wi] W fun e W' => ∃ A c, e = .returned (.slice A i c) ∧ i ≤ c ∧ (Kd.int .u8).C W' A i (putl n i) ∧ Own w0 F L W' := by
  subst hw
  have hc : (cl8 (i : Int)).toNat = i := by unfold cl8; split <;> (try split) <;> omega
  have he := put_eq 9 (by decide) n hn (i : Int)
  rw [hc] at he
  refine (word_Put.calls 9 n (i : Int) _ W he).mono ?_
  rintro e W' ⟨v, rfl, hR, hb⟩
  obtain ⟨A, c, rfl, hl, hC⟩ := Kd.R_reads hR
  rw [putl_len] at hl hC ⊢
  exact ⟨A, c, rfl, hl, hC, H.to hb⟩
theorem of_own {w0 W : World} {F : Nat → Option Obj} {L : List Res} (H : Own w0 F L W) (hH : Half w0) (A : Option Addr) (n c : Nat) (xs : List Int) (hC : (Kd.int .u8).C W A n xs) (hc : n ≤ c) (hb : Bytes xs) :
    Calls Tryd.prog 16 #[.slice A n c] W fun e W' => e = .returned (.int .u32 (moreI 0 xs)) ∧ Own w0 F L W' := by
  have hn : xs.length = n := hC.1
  subst hn
  refine (of_calls A c xs W hC hc hb (hH.below H.below)).mono ?_
  rintro e W' ⟨rfl, hd⟩
  exact ⟨rfl, H.to hd.below⟩
theorem mask_own {w0 W : World} {F : Nat → Option Obj} {L : List Res} (H : Own w0 F L W) (xs : List Int) :
    Calls Tryd.prog 20 #[.int .u32 (moreI 0 xs)] W fun e W' => e = .returned (.int .u32 (sumN xs : Int)) ∧ Own w0 F L W' := by
  refine (crc_Mask.calls (moreI 0 xs) _ W (crc_sum xs)).mono ?_
  rintro e W' ⟨rfl, hd⟩
  exact ⟨rfl, H.to hd.below⟩
theorem drop_C {w : World} {A : Option Addr} {n : Nat} {xs : List Int} (h : (Kd.int .u8).C w A n xs) (lo c : Nat) (h1 : lo ≤ n) (hc : n ≤ c) : (Kd.int .u8).C w (dropA A lo c 1) (n - lo) (xs.drop lo) := by
  have hl := h.1
  have hm := h.2.1
  have hR := (Rd.of_C h).dropA lo c 1 (fun e => by rw [nums_length]; omega)
  rw [Nat.mul_one, nums_drop] at hR
  exact hR.C (by rw [List.length_drop]; omega) (by omega)
theorem getn_pre {l m : List Int} (i : Nat) (h : ∀ j, j < i → l[j]? = m[j]?) : getn l i = getn m i := by
  induction i with
  | zero => rfl
  | succ i ih =>
    unfold getn
    rw [ih (fun j hj => h j (by omega))]
    congr 3
    unfold rd
    rw [Int.toNat_natCast, List.getD_eq_getElem?_getD, List.getD_eq_getElem?_getD, h i (by omega)]
theorem get_own {w0 W : World} {F : Nat → Option Obj} {L : List Res} (H : Own w0 F L W) (A : Option Addr) (n c : Nat) (xs : List Int) (hC : (Kd.int .u8).C W A n xs) (hc : n ≤ c) (hb : Bytes xs) (h8 : n ≤ 8) :
    Calls Tryd.prog 57 #[.slice A n c] W fun e W' => e = .returned (.int .u64 (getn xs n : Nat)) ∧ Own w0 F L W' := by
  have hn : xs.length = n := hC.1
  subst hn
  have he := get_eq (l := xs) (wf_of_bytes hb) 9 (by decide)
  rw [Nat.min_eq_left h8] at he
  refine (word_Get.calls 9 A c xs _ W hC hc he).mono ?_
  rintro e W' ⟨rfl, hb⟩
  exact ⟨rfl, H.to hb⟩
theorem cut_C {w : World} {A : Option Addr} {n : Nat} {xs : List Int} (h : (Kd.int .u8).C w A n xs) (lo hi c : Nat) (h1 : lo ≤ hi) (h2 : hi ≤ n) (hc : n ≤ c) : (Kd.int .u8).C w (dropA A lo c 1) (hi - lo) ((xs.take hi).drop lo) := by
  have hm := h.2.1
  have hl : xs.length = n := h.1
  have hR := ((Rd.of_C h).take hi).dropA lo c 1 (fun e => by rw [List.length_take, nums_length]; omega)
  rw [nums_take, Nat.mul_one, nums_drop] at hR
  exact hR.C (by rw [List.length_drop, List.length_take]; omega) (by omega)
theorem r_loadRd0 {P : Program} {o : Oper} {a : Act} {W : World} {p : Addr} {cs : List Value} (ty : TypeId) (x : Operand) (ho : o.op = .load ty x) (hx : a.eval x = .pointer (some p)) (hR : Rd W (some p) cs)
    (n : Nat) (d : TypeDesc) (hu : P.underlying ty = some d) (hd : d.isRow = true) (hi : (P.info? ty).map (·.size) = some n) (hn : 0 < n) (hl : cs.length = n) :
    (execOp a.eval o).run P W = .ok (.value (.agg cs.toArray)) W := by
  have h := r_loadRd (P := P) (o := o) (a := a) ty x ho 0 (ad := p) (cs := cs) (by rw [hx]; congr 2) hR n d hu hd hi hn (by omega)
  rwa [List.drop_zero, List.take_of_length_le (by omega)] at h
theorem rget_own {w0 W : World} {F : Nat → Option Obj} {L : List Res} (H : Own w0 F L W) (A : Option Addr) (n c : Nat) (xs : List Int) (hC : (Kd.int .u8).C W A n xs) (hc : n ≤ c) (hb : Bytes xs) (h8 : n ≤ 8) :
    Calls Tryd.prog 59 #[.slice A n c] W fun e W' => e = .returned (.int .u64 (getn xs n : Nat)) ∧ Own w0 F L W' := by
  have hn : xs.length = n := hC.1
  subst hn
  have he := rget_eq (l := xs) (wf_of_bytes hb) 81 (by decide)
  rw [Nat.min_eq_left h8] at he
  refine (strandlineref01_Get.calls 81 A c xs _ W hC hc he).mono ?_
  rintro e W' ⟨rfl, hb⟩
  exact ⟨rfl, H.to hb.below⟩
end Go.Proofs.YthhbilkmdfdfiaaDoor.O
