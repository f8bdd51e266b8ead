/- Texts of mine put together: ScanRest, Scan, RSectors, FlFew, ScanB, Awake19, RAccepts. -/
import Derived.Test.YtaekpfhgdnfciaaDoorPkScanTells16
import Derived.Test.YtaekpfhgdnfciaaDoorPkScanTells6
import Derived.Test.YtaekpfhgdnfciaaDoorPkScanTells12
import Derived.Test.YtaekpfhgdnfciaaDoorPkScanTells15
import Derived.Test.YtaekpfhgdnfciaaDoorPkScanTells5
import Derived.Test.YtaekpfhgdnfciaaDoorPkScanTells14
import Derived.Test.YtaekpfhgdnfciaaDoorPkScanTells2
import Derived.Lib.SlBytesConst
import Derived.Lib.SmallJoins
import Derived.Test.YtaekpfhgdnfciaaDoorPkScanTells9
section
/- scan.Rest, by what is owned. -/
set_option linter.unusedVariables false
set_option linter.unusedSimpArgs false
namespace Go.Proofs.YtaekpfhgdnfciaaDoor.O
open Go.RowKit Go.Proofs.YtaekpfhgdnfciaaDoorW.PrintWords Go.Proofs.YtaekpfhgdnfciaaDoorW.PrintLast Go.Proofs.YtaekpfhgdnfciaaDoorW.PrintMore Go.Proofs.YtaekpfhgdnfciaaDoor.F Go.Proofs.YtaekpfhgdnfciaaDoor.F.Nums Go.Proofs.YtaekpfhgdnfciaaDoor.Plain
attribute [local go_sem] max2_int min2_int max_two min_two max_three min_three max_four min_four
theorem all0_no {l : List Int} {j : Nat} (hj : j < l.length) (h : l.getD j 0 ≠ 0) : l.all (· == 0) = false := by
 rw [Bool.eq_false_iff]
 intro h2
 rw [List.all_eq_true] at h2
 have := h2 l[j] (List.getElem_mem hj)
 rw [beq_iff_eq] at this
 rw [List.getD_eq_getElem?_getD,List.getElem?_eq_getElem hj] at h
 exact h this
theorem all0_snoc {l : List Int} {j : Nat} (hj : j < l.length) (h : (l.take j).all (· == 0) = true) (h2 : l.getD j 0 = 0) : (l.take (j + 1)).all (· == 0) = true := by
 rw [List.take_add_one,List.getElem?_eq_getElem hj,List.all_append,h]
 rw [List.getD_eq_getElem?_getD,List.getElem?_eq_getElem hj] at h2
 have h3 : l[j] = 0 := h2
 simp [h3]
set_option maxRecDepth 100000 in
set_option maxHeartbeats 8000000 in
theorem rest_calls (fl : List Int) (n : Nat) (hf : fl.length = 64 * n) (hb : Bytes fl) (e : Int) (A : Option Addr) (c : Nat) (w : World) (hr : Rd w A (nums .u8 fl)) (hc : n ≤ c) (hn : 64 * n ≤ 140737488355328) :
  Calls Tryd.prog 13 #[.slice A n c,.int .i64 e] w fun en W => en = .returned (.bool (Img.restB fl n (cl e))) ∧ Below w.heap.size w W := by
 have H := Own.start w
 have h0 := cl_lo e
 have h8 := cl_hi e
 obtain ⟨sec,hsec⟩ : ∃ s : Nat,cl e / 52 = s := ⟨(cl e / 52).toNat,by omega⟩
 obtain ⟨off,hoff⟩ : ∃ s : Nat,cl e % 52 = s := ⟨(cl e % 52).toNat,by omega⟩
 have WC := fun W => span_Where.calls e _ _ W (SpanP.where_eq e)
 rw [hsec,hoff] at WC
 have ho51 : off ≤ 51 := by omega
 have hce : cl e = 52 * (sec : Int) + off := by omega
 rw [Img.restB_eq]
 generalize cl e = ce at *
 obtain ⟨m,hm⟩ : ∃ m,min n 16 = m := ⟨_,rfl⟩
 rw [hm]
 have m1 : (if (n : Int) < 16 then (n : Int) else 16) = (m : Int) := by split <;> omega
 have m2 : (if (16 : Int) < (n : Int) then (16 : Int) else (n : Int)) = (m : Int) := by split <;> omega
 have m3 : min (n : Int) 16 = (m : Int) := by omega
 have hmc : m ≤ c := by omega
 have hmn : m ≤ n := by omega
 clear hsec hoff h0 h8
 go_enter Tryd.func13,Tryd.ntmps13
 go_wp2_with (first
  |((with_reducible refine gate_dst (N := 5) rfl ?_);refine l_allocA rfl H 83 rfl _ zero83 ?_;clear H;intro g5 W H)
  |((with_reducible refine gate_store (t := 83) (p := 5) rfl ?_);refine l_storeW rfl H 83 _ _ rfl _ rfl _ rfl (by (repeat (first|exact In.head|apply In.tail))) _ size83 (by (first|rfl|assumption|omega|(simp only [nums_length];omega)|(simp [nums_length,zs];done)|(simp [nums_length,zs];omega))) (by (first|rfl|assumption|omega|(simp only [nums_length];omega)|(simp [nums_length,zs];done)|(simp [nums_length,zs];omega))) (by (first|exact nums_one|assumption|(intro u hu;simp at hu;subst hu;rfl)|(intro u hu;simp at hu;rcases hu with rfl|rfl|rfl|rfl|rfl|rfl|rfl <;> rfl)|(intro u hu;simp at hu;rcases hu with rfl|rfl|rfl|rfl <;> rfl)|(intro u hu;simp at hu;rcases hu with rfl|rfl|rfl <;> rfl)|(intro u hu;simp at hu;rcases hu with rfl|rfl <;> rfl))) ?_;clear H;intro W H)
  |((with_reducible refine gate_dst (N := 16) rfl ?_);refine l_run rfl (.slice A m c) (x_slice_to _ _ rfl rfl Tryd.underlying23 size51 m rfl hmc _) ?_)
  |(go_at_call 32;(with_reducible refine (WC _).mono ?_);rintro en W ⟨rfl,hb'⟩;replace H := H.to hb';clear hb'))
 have hfs := fun k (hk : k < n) => secAt_len hf hk
 go_loopg [18] m (fun gq v18 w' => ∃ k : Nat,v18 = .int .i64 (k : Int) ∧ k + gq = m ∧ Img.restU fl ce k = true ∧ Own w F0 [.blk g5 83 [.int .i64 (sec : Int),.int .i64 (off : Int)]] w')
 case atStart => exact ⟨0,rfl,by omega,rfl,H⟩
 case round =>
  clear H
  obtain ⟨k,rfl,hk,hU,H⟩ := hrel
  by_cases ck : k < m
  ·obtain ⟨gk',rfl⟩ : ∃ q,gk = q + 1 := ⟨gk - 1,by omega⟩
   have q1 : decide (k < m) = true := decide_eq_true ck
   have hsl := hfs k (by omega)
   have hsb : Bytes (secAt fl k) := bytes_take (bytes_drop hb _) _
   obtain ⟨ad,rfl⟩ := hr.some_ (by rw [nums_length];omega)
   have p0 : ((0 : Int) ≤ (k : Int)) = True := eq_true (by omega)
   have p1 : ((k : Int) < (m : Int)) = True := eq_true (by omega)
   have hfit : k * 64 + 64 ≤ (nums .u8 fl).length := by rw [nums_length];omega
   have hnu : ((nums .u8 fl).drop (k * 64)).take 64 = nums .u8 (secAt fl k) := by rw [nums_drop,nums_take,Nat.mul_comm];rfl
   have hsucc := Img.restU_succ fl ce k
   have hskip : k < sec → Img.secRest (secAt fl k) k ce = true := fun h => Img.secRest_skip _ _ _ (by omega)
   have hempty : (sec < k ∨ (sec = k ∧ off = 0)) → Img.secRest (secAt fl k) k ce = (secAt fl k == zs 64) := fun h => Img.secRest_empty _ hsl _ _ (by omega)
   have htail : sec = k → 0 < off → Img.secRest (secAt fl k) k ce = ((secAt fl k).drop (12 + off)).all (· == 0) := fun h h2 => Img.secRest_tail _ hsl _ off _ h2 (by omega) ho51
   have hfalse : Img.secRest (secAt fl k) k ce = false → Img.restU fl ce m = false := fun h => Img.restU_false fl ce k m ck h
   generalize secAt fl k = x at *
   rcases (show k < sec ∨ (sec < k) ∨ (sec = k ∧ off = 0) ∨ (sec = k ∧ 0 < off) by omega) with h1|h1|⟨rfl,rfl⟩|⟨rfl,h1⟩
   ·have q2 : decide (k < sec) = true := decide_eq_true h1
    rw [hU,hskip h1] at hsucc
    go_wp2_with (first
  |((with_reducible refine gate_dst (N := 7) rfl ?_);refine l_allocA rfl H 51 rfl _ zero51 ?_;clear H;intro g7 W H)
  |((with_reducible refine gate_store (t := 51) (p := 7) rfl ?_);refine l_storeW rfl H 51 _ _ rfl _ rfl _ rfl (by (repeat (first|exact In.head|apply In.tail))) _ size51 (by (first|rfl|assumption|omega|(simp only [nums_length];omega)|(simp [nums_length,zs];done)|(simp [nums_length,zs];omega))) (by (first|rfl|assumption|omega|(simp only [nums_length];omega)|(simp [nums_length,zs];done)|(simp [nums_length,zs];omega))) (by (first|exact nums_one|assumption|(intro u hu;simp at hu;subst hu;rfl)|(intro u hu;simp at hu;rcases hu with rfl|rfl|rfl|rfl|rfl|rfl|rfl <;> rfl)|(intro u hu;simp at hu;rcases hu with rfl|rfl|rfl|rfl <;> rfl)|(intro u hu;simp at hu;rcases hu with rfl|rfl|rfl <;> rfl)|(intro u hu;simp at hu;rcases hu with rfl|rfl <;> rfl))) ?_;clear H;intro W H)
  |((with_reducible refine gate_dst (N := 38) rfl ?_);refine l_load1 rfl H 3 _ rfl _ _ rfl (by (repeat (first|exact In.head|apply In.tail))) _ Tryd.underlying3 rfl _ (by first|rfl|assumption|exact nums_at _ (by omega)) ?_)
     |((with_reducible refine gate_dst (N := 22) rfl ?_);refine l_loadRd rfl 51 _ rfl (k * 64) rfl (hr.below H.below) 64 _ Tryd.underlying51 rfl size51 (by decide) hfit ?_;rw [hnu]))
    go_roundg gk'
    case measure => omega
    case rel => exact ⟨k + 1,by go_num,by omega,hsucc,H.del .head⟩
   ·have q2 : decide (k < sec) = false := decide_eq_false (by omega)
    have q3 : decide (sec < k) = true := decide_eq_true h1
    rw [hempty (.inl h1)] at hsucc hfalse
    have EC := fun W => empty_c x hsl hsb W
    cases he : (x == zs 64) with
    |true =>
     rw [he,hU] at hsucc
     rw [he] at EC
     go_wp2_with (first
  |((with_reducible refine gate_dst (N := 7) rfl ?_);refine l_allocA rfl H 51 rfl _ zero51 ?_;clear H;intro g7 W H)
  |((with_reducible refine gate_store (t := 51) (p := 7) rfl ?_);refine l_storeW rfl H 51 _ _ rfl _ rfl _ rfl (by (repeat (first|exact In.head|apply In.tail))) _ size51 (by (first|rfl|assumption|omega|(simp only [nums_length];omega)|(simp [nums_length,zs];done)|(simp [nums_length,zs];omega))) (by (first|rfl|assumption|omega|(simp only [nums_length];omega)|(simp [nums_length,zs];done)|(simp [nums_length,zs];omega))) (by (first|exact nums_one|assumption|(intro u hu;simp at hu;subst hu;rfl)|(intro u hu;simp at hu;rcases hu with rfl|rfl|rfl|rfl|rfl|rfl|rfl <;> rfl)|(intro u hu;simp at hu;rcases hu with rfl|rfl|rfl|rfl <;> rfl)|(intro u hu;simp at hu;rcases hu with rfl|rfl|rfl <;> rfl)|(intro u hu;simp at hu;rcases hu with rfl|rfl <;> rfl))) ?_;clear H;intro W H)
  |((with_reducible refine gate_dst (N := 38) rfl ?_);refine l_load1 rfl H 3 _ rfl _ _ rfl (by (repeat (first|exact In.head|apply In.tail))) _ Tryd.underlying3 rfl _ (by first|rfl|assumption|exact nums_at _ (by omega)) ?_)
  |((with_reducible refine gate_dst (N := 43) rfl ?_);refine l_load1 rfl H 3 _ rfl _ _ rfl (by (repeat (first|exact In.head|apply In.tail))) _ Tryd.underlying3 rfl _ (by first|rfl|assumption|exact nums_at _ (by omega)) ?_)
  |((with_reducible refine gate_dst (N := 47) rfl ?_);refine gate_guard (by rfl) ?_;refine l_load1 rfl H 3 _ rfl _ _ rfl (by (repeat (first|exact In.head|apply In.tail))) _ Tryd.underlying3 rfl _ (by first|rfl|assumption|exact nums_at _ (by omega)) ?_)
  |((with_reducible refine gate_dst (N := 50) rfl ?_);refine l_loadA rfl H 51 _ rfl _ rfl (by (repeat (first|exact In.head|apply In.tail))) _ _ Tryd.underlying51 rfl size51 (by (first|rfl|assumption|omega|(simp only [nums_length];omega)|(simp [nums_length,zs];done)|(simp [nums_length,zs];omega))) ?_)
      |((with_reducible refine gate_dst (N := 22) rfl ?_);refine l_loadRd rfl 51 _ rfl (k * 64) rfl (hr.below H.below) 64 _ Tryd.underlying51 rfl size51 (by decide) hfit ?_;rw [hnu])
      |(go_at_call 33;(with_reducible refine (EC _).mono ?_);rintro en W ⟨rfl,hb'⟩;replace H := H.to hb';clear hb'))
     go_roundg gk'
     case measure => omega
     case rel => exact ⟨k + 1,by go_num,by omega,hsucc,H.del .head⟩
    |false =>
     rw [he] at EC
     go_wp2_with (first
  |((with_reducible refine gate_dst (N := 7) rfl ?_);refine l_allocA rfl H 51 rfl _ zero51 ?_;clear H;intro g7 W H)
  |((with_reducible refine gate_store (t := 51) (p := 7) rfl ?_);refine l_storeW rfl H 51 _ _ rfl _ rfl _ rfl (by (repeat (first|exact In.head|apply In.tail))) _ size51 (by (first|rfl|assumption|omega|(simp only [nums_length];omega)|(simp [nums_length,zs];done)|(simp [nums_length,zs];omega))) (by (first|rfl|assumption|omega|(simp only [nums_length];omega)|(simp [nums_length,zs];done)|(simp [nums_length,zs];omega))) (by (first|exact nums_one|assumption|(intro u hu;simp at hu;subst hu;rfl)|(intro u hu;simp at hu;rcases hu with rfl|rfl|rfl|rfl|rfl|rfl|rfl <;> rfl)|(intro u hu;simp at hu;rcases hu with rfl|rfl|rfl|rfl <;> rfl)|(intro u hu;simp at hu;rcases hu with rfl|rfl|rfl <;> rfl)|(intro u hu;simp at hu;rcases hu with rfl|rfl <;> rfl))) ?_;clear H;intro W H)
  |((with_reducible refine gate_dst (N := 38) rfl ?_);refine l_load1 rfl H 3 _ rfl _ _ rfl (by (repeat (first|exact In.head|apply In.tail))) _ Tryd.underlying3 rfl _ (by first|rfl|assumption|exact nums_at _ (by omega)) ?_)
  |((with_reducible refine gate_dst (N := 43) rfl ?_);refine l_load1 rfl H 3 _ rfl _ _ rfl (by (repeat (first|exact In.head|apply In.tail))) _ Tryd.underlying3 rfl _ (by first|rfl|assumption|exact nums_at _ (by omega)) ?_)
  |((with_reducible refine gate_dst (N := 47) rfl ?_);refine gate_guard (by rfl) ?_;refine l_load1 rfl H 3 _ rfl _ _ rfl (by (repeat (first|exact In.head|apply In.tail))) _ Tryd.underlying3 rfl _ (by first|rfl|assumption|exact nums_at _ (by omega)) ?_)
  |((with_reducible refine gate_dst (N := 50) rfl ?_);refine l_loadA rfl H 51 _ rfl _ rfl (by (repeat (first|exact In.head|apply In.tail))) _ _ Tryd.underlying51 rfl size51 (by (first|rfl|assumption|omega|(simp only [nums_length];omega)|(simp [nums_length,zs];done)|(simp [nums_length,zs];omega))) ?_)
      |((with_reducible refine gate_dst (N := 22) rfl ?_);refine l_loadRd rfl 51 _ rfl (k * 64) rfl (hr.below H.below) 64 _ Tryd.underlying51 rfl size51 (by decide) hfit ?_;rw [hnu])
      |(go_at_call 33;(with_reducible refine (EC _).mono ?_);rintro en W ⟨rfl,hb'⟩;replace H := H.to hb';clear hb'))
     go_ret
     exact ⟨by rw [hfalse he];rfl,H.below⟩
   ·have q2 : decide (sec < sec) = false := decide_eq_false (by omega)
    rw [hempty (.inr ⟨rfl,rfl⟩)] at hsucc hfalse
    have EC := fun W => empty_c x hsl hsb W
    cases he : (x == zs 64) with
    |true =>
     rw [he,hU] at hsucc
     rw [he] at EC
     go_wp2_with (first
  |((with_reducible refine gate_dst (N := 7) rfl ?_);refine l_allocA rfl H 51 rfl _ zero51 ?_;clear H;intro g7 W H)
  |((with_reducible refine gate_store (t := 51) (p := 7) rfl ?_);refine l_storeW rfl H 51 _ _ rfl _ rfl _ rfl (by (repeat (first|exact In.head|apply In.tail))) _ size51 (by (first|rfl|assumption|omega|(simp only [nums_length];omega)|(simp [nums_length,zs];done)|(simp [nums_length,zs];omega))) (by (first|rfl|assumption|omega|(simp only [nums_length];omega)|(simp [nums_length,zs];done)|(simp [nums_length,zs];omega))) (by (first|exact nums_one|assumption|(intro u hu;simp at hu;subst hu;rfl)|(intro u hu;simp at hu;rcases hu with rfl|rfl|rfl|rfl|rfl|rfl|rfl <;> rfl)|(intro u hu;simp at hu;rcases hu with rfl|rfl|rfl|rfl <;> rfl)|(intro u hu;simp at hu;rcases hu with rfl|rfl|rfl <;> rfl)|(intro u hu;simp at hu;rcases hu with rfl|rfl <;> rfl))) ?_;clear H;intro W H)
  |((with_reducible refine gate_dst (N := 38) rfl ?_);refine l_load1 rfl H 3 _ rfl _ _ rfl (by (repeat (first|exact In.head|apply In.tail))) _ Tryd.underlying3 rfl _ (by first|rfl|assumption|exact nums_at _ (by omega)) ?_)
  |((with_reducible refine gate_dst (N := 43) rfl ?_);refine l_load1 rfl H 3 _ rfl _ _ rfl (by (repeat (first|exact In.head|apply In.tail))) _ Tryd.underlying3 rfl _ (by first|rfl|assumption|exact nums_at _ (by omega)) ?_)
  |((with_reducible refine gate_dst (N := 47) rfl ?_);refine gate_guard (by rfl) ?_;refine l_load1 rfl H 3 _ rfl _ _ rfl (by (repeat (first|exact In.head|apply In.tail))) _ Tryd.underlying3 rfl _ (by first|rfl|assumption|exact nums_at _ (by omega)) ?_)
  |((with_reducible refine gate_dst (N := 50) rfl ?_);refine l_loadA rfl H 51 _ rfl _ rfl (by (repeat (first|exact In.head|apply In.tail))) _ _ Tryd.underlying51 rfl size51 (by (first|rfl|assumption|omega|(simp only [nums_length];omega)|(simp [nums_length,zs];done)|(simp [nums_length,zs];omega))) ?_)
      |((with_reducible refine gate_dst (N := 22) rfl ?_);refine l_loadRd rfl 51 _ rfl (sec * 64) rfl (hr.below H.below) 64 _ Tryd.underlying51 rfl size51 (by decide) hfit ?_;rw [hnu])
      |(go_at_call 33;(with_reducible refine (EC _).mono ?_);rintro en W ⟨rfl,hb'⟩;replace H := H.to hb';clear hb'))
     go_roundg gk'
     case measure => omega
     case rel => exact ⟨sec + 1,by go_num,by omega,hsucc,H.del .head⟩
    |false =>
     rw [he] at EC
     go_wp2_with (first
  |((with_reducible refine gate_dst (N := 7) rfl ?_);refine l_allocA rfl H 51 rfl _ zero51 ?_;clear H;intro g7 W H)
  |((with_reducible refine gate_store (t := 51) (p := 7) rfl ?_);refine l_storeW rfl H 51 _ _ rfl _ rfl _ rfl (by (repeat (first|exact In.head|apply In.tail))) _ size51 (by (first|rfl|assumption|omega|(simp only [nums_length];omega)|(simp [nums_length,zs];done)|(simp [nums_length,zs];omega))) (by (first|rfl|assumption|omega|(simp only [nums_length];omega)|(simp [nums_length,zs];done)|(simp [nums_length,zs];omega))) (by (first|exact nums_one|assumption|(intro u hu;simp at hu;subst hu;rfl)|(intro u hu;simp at hu;rcases hu with rfl|rfl|rfl|rfl|rfl|rfl|rfl <;> rfl)|(intro u hu;simp at hu;rcases hu with rfl|rfl|rfl|rfl <;> rfl)|(intro u hu;simp at hu;rcases hu with rfl|rfl|rfl <;> rfl)|(intro u hu;simp at hu;rcases hu with rfl|rfl <;> rfl))) ?_;clear H;intro W H)
  |((with_reducible refine gate_dst (N := 38) rfl ?_);refine l_load1 rfl H 3 _ rfl _ _ rfl (by (repeat (first|exact In.head|apply In.tail))) _ Tryd.underlying3 rfl _ (by first|rfl|assumption|exact nums_at _ (by omega)) ?_)
  |((with_reducible refine gate_dst (N := 43) rfl ?_);refine l_load1 rfl H 3 _ rfl _ _ rfl (by (repeat (first|exact In.head|apply In.tail))) _ Tryd.underlying3 rfl _ (by first|rfl|assumption|exact nums_at _ (by omega)) ?_)
  |((with_reducible refine gate_dst (N := 47) rfl ?_);refine gate_guard (by rfl) ?_;refine l_load1 rfl H 3 _ rfl _ _ rfl (by (repeat (first|exact In.head|apply In.tail))) _ Tryd.underlying3 rfl _ (by first|rfl|assumption|exact nums_at _ (by omega)) ?_)
  |((with_reducible refine gate_dst (N := 50) rfl ?_);refine l_loadA rfl H 51 _ rfl _ rfl (by (repeat (first|exact In.head|apply In.tail))) _ _ Tryd.underlying51 rfl size51 (by (first|rfl|assumption|omega|(simp only [nums_length];omega)|(simp [nums_length,zs];done)|(simp [nums_length,zs];omega))) ?_)
      |((with_reducible refine gate_dst (N := 22) rfl ?_);refine l_loadRd rfl 51 _ rfl (sec * 64) rfl (hr.below H.below) 64 _ Tryd.underlying51 rfl size51 (by decide) hfit ?_;rw [hnu])
      |(go_at_call 33;(with_reducible refine (EC _).mono ?_);rintro en W ⟨rfl,hb'⟩;replace H := H.to hb';clear hb'))
     go_ret
     exact ⟨by rw [hfalse he];rfl,H.below⟩
   ·have q2 : decide (sec < sec) = false := decide_eq_false (by omega)
    have q3 : ((off : Int) == 0) = false := by simp;omega
    rw [htail rfl h1] at hsucc hfalse
    obtain ⟨lo,hlo⟩ : ∃ y,12 + off = y := ⟨_,rfl⟩
    obtain ⟨ln,hln⟩ : ∃ y,64 - lo = y := ⟨_,rfl⟩
    have w1 : IntKind.i64.wrap (12 + (off : Int)) = (lo : Int) := by rw [IntKind.wrap_i64];omega
    have hdl : (x.drop lo).length = ln := by rw [List.length_drop];omega
    have hdx : ∀ j,(x.drop lo).getD j 0 = x.getD (lo + j) 0 := fun j => by simp only [List.getD_eq_getElem?_getD,List.getElem?_drop]
    rw [hlo] at hsucc hfalse
    have hlo64 : lo < 64 := by omega
    go_wp2_with (first
  |((with_reducible refine gate_dst (N := 7) rfl ?_);refine l_allocA rfl H 51 rfl _ zero51 ?_;clear H;intro g7 W H)
  |((with_reducible refine gate_store (t := 51) (p := 7) rfl ?_);refine l_storeW rfl H 51 _ _ rfl _ rfl _ rfl (by (repeat (first|exact In.head|apply In.tail))) _ size51 (by (first|rfl|assumption|omega|(simp only [nums_length];omega)|(simp [nums_length,zs];done)|(simp [nums_length,zs];omega))) (by (first|rfl|assumption|omega|(simp only [nums_length];omega)|(simp [nums_length,zs];done)|(simp [nums_length,zs];omega))) (by (first|exact nums_one|assumption|(intro u hu;simp at hu;subst hu;rfl)|(intro u hu;simp at hu;rcases hu with rfl|rfl|rfl|rfl|rfl|rfl|rfl <;> rfl)|(intro u hu;simp at hu;rcases hu with rfl|rfl|rfl|rfl <;> rfl)|(intro u hu;simp at hu;rcases hu with rfl|rfl|rfl <;> rfl)|(intro u hu;simp at hu;rcases hu with rfl|rfl <;> rfl))) ?_;clear H;intro W H)
  |((with_reducible refine gate_dst (N := 38) rfl ?_);refine l_load1 rfl H 3 _ rfl _ _ rfl (by (repeat (first|exact In.head|apply In.tail))) _ Tryd.underlying3 rfl _ (by first|rfl|assumption|exact nums_at _ (by omega)) ?_)
  |((with_reducible refine gate_dst (N := 43) rfl ?_);refine l_load1 rfl H 3 _ rfl _ _ rfl (by (repeat (first|exact In.head|apply In.tail))) _ Tryd.underlying3 rfl _ (by first|rfl|assumption|exact nums_at _ (by omega)) ?_)
  |((with_reducible refine gate_dst (N := 47) rfl ?_);refine gate_guard (by rfl) ?_;refine l_load1 rfl H 3 _ rfl _ _ rfl (by (repeat (first|exact In.head|apply In.tail))) _ Tryd.underlying3 rfl _ (by first|rfl|assumption|exact nums_at _ (by omega)) ?_)
  |((with_reducible refine gate_dst (N := 24) rfl ?_);refine l_load1 rfl H 3 _ rfl _ _ rfl (by (repeat (first|exact In.head|apply In.tail))) _ Tryd.underlying3 rfl _ (by first|rfl|assumption|exact nums_at _ (by omega)) ?_)
     |((with_reducible refine gate_dst (N := 22) rfl ?_);refine l_loadRd rfl 51 _ rfl (sec * 64) rfl (hr.below H.below) 64 _ Tryd.underlying51 rfl size51 (by decide) hfit ?_;rw [hnu])
     |((with_reducible refine gate_dst (N := 26) rfl ?_);refine l_run rfl (.slice (some ⟨g7,lo,none⟩) ln ln) (x_arr_lo' _ _ rfl 0 rfl Tryd.underlying51 size5 lo rfl hlo64 _ lo ln (by omega) hln) ?_))
    go_loopg [28] ln (fun gq v28 w' => ∃ j : Nat,v28 = .int .i64 (j : Int) ∧ j + gq = ln ∧ ((x.drop lo).take j).all (· == 0) = true ∧ Own w F0 [.blk g7 51 (nums .u8 x),.blk g5 83 [.int .i64 (sec : Int),.int .i64 (off : Int)]] w')
    case atStart => exact ⟨0,rfl,by omega,rfl,H⟩
    case round =>
     clear H
     obtain ⟨j,rfl,hj,hz,H⟩ := hrel
     by_cases cj : j < ln
     ·obtain ⟨gk2,rfl⟩ : ∃ q,gk = q + 1 := ⟨gk - 1,by omega⟩
      have r1 : decide (j < ln) = true := decide_eq_true cj
      have s0 : ((0 : Int) ≤ (j : Int)) = True := eq_true (by omega)
      have s1 : ((j : Int) < (ln : Int)) = True := eq_true (by omega)
      have hzz : (nums .u8 x)[lo + j]? = some (.int .u8 ((x.drop lo).getD j 0)) := by rw [hdx];exact nums_at (lo + j) (by omega)
      have hno := fun (h : (x.drop lo).getD j 0 ≠ 0) => all0_no (l := x.drop lo) (by omega) h
      have hyes := fun (h : (x.drop lo).getD j 0 = 0) => all0_snoc (l := x.drop lo) (by omega) hz h
      generalize (x.drop lo).getD j 0 = z at hzz hno hyes
      by_cases ez : z = 0
      ·subst ez
       have hy := hyes rfl
       clear hyes hno
       go_wp2_with (first
        |((with_reducible refine gate_dst (N := 31) rfl ?_);refine l_load1 rfl H 5 _ rfl _ _ rfl .head _ Tryd.underlying5 rfl _ hzz ?_))
       go_roundg gk2
       case measure => omega
       case rel => exact ⟨j + 1,by go_num,by omega,hy,H⟩
      ·have r2 : (z != 0) = true := by simpa using ez
       have hff := hfalse (hno ez)
       go_wp2_with (first
        |((with_reducible refine gate_dst (N := 31) rfl ?_);refine l_load1 rfl H 5 _ rfl _ _ rfl .head _ Tryd.underlying5 rfl _ hzz ?_))
       go_ret
       exact ⟨by rw [hff];rfl,H.below⟩
     ·have r1 : decide (j < ln) = false := decide_eq_false cj
      obtain rfl : j = ln := by omega
      rw [List.take_of_length_le (by omega)] at hz
      rw [hU,hz] at hsucc
      go_wp2
      go_roundg gk'
      case measure => omega
      case rel => exact ⟨sec + 1,by go_num,by omega,hsucc,H.del .head⟩
  ·have q1 : decide (k < m) = false := decide_eq_false ck
   obtain rfl : k = m := by omega
   go_wp2
   go_ret
   exact ⟨by rw [hU];rfl,H.below⟩
end Go.Proofs.YtaekpfhgdnfciaaDoor.O
end

section
/- scan.Scan, by what is owned. -/
set_option linter.unusedVariables false
set_option linter.unusedSimpArgs false
namespace Go.Proofs.YtaekpfhgdnfciaaDoor.O
open Go.RowKit Go.Proofs.YtaekpfhgdnfciaaDoorW.PrintWords Go.Proofs.YtaekpfhgdnfciaaDoorW.PrintLast Go.Proofs.YtaekpfhgdnfciaaDoorW.PrintMore Go.Proofs.YtaekpfhgdnfciaaDoor.F Go.Proofs.YtaekpfhgdnfciaaDoor.F.Nums Go.Proofs.YtaekpfhgdnfciaaDoor.Plain
attribute [local go_sem] max2_int min2_int max_two min_two max_three min_three max_four min_four
theorem new_own {w W : World} {F : Nat → Option Obj} {L : List Res} (H : Own w F L W) : Calls Tryd.prog 26 #[] W fun e W' => ∃ g,e = .returned (.pointer (some ⟨g,0,none⟩)) ∧ Own w F (.blk g 106 [.bool false,.slice none 0 0] :: L) W' :=
 (joinNew_calls W).mono (by
  rintro e W' ⟨rfl,rfl⟩
  exact ⟨_,rfl,H.alloc _ _⟩)
theorem Drs.rd {w W : World} {F : Nat → Option Obj} {L D : List Res} {recs : List (List Int)} {cells : List Value} (h : Drs recs cells D) (H : Own w F L W) (hD : ∀ r ∈ D,r ∈ L) (j : Nat) (hlt : j < recs.length) :
  ∃ A2 c2,cells[j]? = some (.slice A2 (recs.getD j []).length c2) ∧ (recs.getD j []).length ≤ c2 ∧ (∀ W,Own w F L W → (Kd.int .u8).C W A2 (recs.getD j []).length (recs.getD j [])) := by
 obtain ⟨A2,c2,h1,h2,h3⟩ := h.2 j hlt
 refine ⟨A2,c2,h1,h2,fun W H => ?_⟩
 generalize recs.getD j [] = p at *
 by_cases h0 : 0 < p.length
 ·have hat := H.ats _ (hD _ (h3 h0))
  have hR : Kd.R (Kd.int .u8) 5 W w.heap.size (fun _ => True) (.slice A2 p.length c2) p := Kd.R_of_own hat (fun _ _ => trivial)
  obtain ⟨A6,c6,e6,l6,C6⟩ := Kd.R_reads hR
  injection e6 with e7
  rw [e7]
  exact C6
 ·obtain rfl : p = [] := List.eq_nil_of_length_eq_zero (by omega)
  exact ⟨rfl,by simp,fun h => absurd h (by simp)⟩
/-- what is read of the records -/
theorem Drs.C {w W : World} {F : Nat → Option Obj} {L D : List Res} {recs : List (List Int)} {cells : List Value} {A : Option Addr} {cr : Nat} {c : Res → List Res} (h : Drs recs cells D) (H : Own w F L W) (hI : In L (.row (.slice A recs.length cr) 38 1 recs.length cells) c) (hD : ∀ r ∈ D,r ∈ L) (hm : recs.length ≤ 1000) :
  (Kd.slice 5 (Kd.int .u8)).C W A recs.length recs := by
 refine ⟨rfl,by omega,fun hp => ?_⟩
 obtain ⟨ad,rfl,hc⟩ := (H.rd hI).1 (by rw [h.1];exact hp)
 refine ⟨ad,rfl,fun j p hj => ?_⟩
 have hlt := (List.getElem?_eq_some_iff.1 hj).1
 obtain ⟨A2,c2,h1,h2,h3⟩ := h.rd H hD j hlt
 have hpp : recs.getD j [] = p := by rw [List.getD_eq_getElem?_getD,hj];rfl
 rw [hpp] at h1 h2 h3
 refine ⟨[.slice A2 p.length c2],rfl,⟨A2,c2,rfl,h2,h3 W H⟩,fun i u hu => ?_⟩
 have hi : i = 0 := by have := (List.getElem?_eq_some_iff.1 hu).1;simpa using this
 subst hi
 simp at hu
 subst hu
 show W.cell? (ad.add (j * 1 + 0)) = _
 rw [Nat.mul_one,Nat.add_zero]
 exact hc j _ h1
theorem told_adv {ep : Int} {F : List Int} {ok : List Bool} {p : Nat} {k : Int} {d : List Int} {n : Nat} (hp : p ≤ 832) (hF : F.length = 832) (h : told ep F ok p = some (k,d,n)) : p < 832 ∧ 11 ≤ n ∧ p + n ≤ 832 := by
 unfold told at h
 split at h
 ·cases h
 ·rename_i h8
  split at h
  ·cases h
  ·split at h
   ·cases h
   ·rename_i hE
    split at h
    ·cases h
    ·have := Option.some.inj h
     simp only [Prod.mk.injEq] at this
     obtain ⟨-,-,rfl⟩ := this
     have hd := dec_ok (Decidable.of_not_not hE)
     have hl : (frAt F p).length ≤ 832 - p := by unfold frAt;rw [List.length_take,List.length_drop];omega
     omega
theorem step_adv {ep : Int} {F : List Int} {ok : List Bool} {s s' : ScSt} (hF : F.length = 832) (hs : s.at_ ≤ 832) (h : scStep (told ep F ok) s = some s') : s.at_ + 11 ≤ s'.at_ ∧ s'.at_ ≤ 832 ∧ s'.recs.length ≤ s.recs.length + 1 := by
 unfold scStep at h
 have hb : s.at_ ≤ bgN s.at_ := by
  have h2 := bg_ge (cl (s.at_ : Int))
  have h3 := bgN_cast s.at_
  rw [cl_in (a := (s.at_ : Int)) (by omega) (by omega)] at h2 h3
  omega
 cases ht : told ep F ok (bgN s.at_) with
 |none => rw [ht] at h;cases h
 |some x =>
  obtain ⟨k,d,n⟩ := x
  rw [ht] at h
  have ha := told_adv (bgN_le s.at_) hF ht
  simp only at h
  unfold scFed at h
  split at h
  ·cases h
  ·split at h
   ·obtain rfl := Option.some.inj h
    simp only [List.length_append,List.length_singleton]
    omega
   ·obtain rfl := Option.some.inj h
    simp only
    omega
theorem step_no {w W : World} {L : List Res} {gs gj : Nat} {ep : Int} {Ab Ao : Option Addr} {cb co : Nat} {F : List Int} {ok : List Bool} {E : List Res} {s : ScSt} (H : Own w F0 L W) (hS : Sc gs gj ep Ab Ao cb co F ok 0 E s L) (hat : s.at_ ≤ 832) (hrl : s.recs.length ≤ 1000)
  (hF : F.length = 832) (hFb : Bytes F) (hok : ok.length = 16) (hcb : 832 ≤ cb) (hco : 16 ≤ co) (hH : Half w) (hst : scStep (told ep F ok) s = none) :
  Calls Tryd.prog 27 #[.pointer (some ⟨gs,0,none⟩)] W fun e W' => e = .returned (.bool false) ∧ ∃ s' L',Sc gs gj ep Ab Ao cb co F ok 0 E s' L' ∧ s'.recs = s.recs ∧ s'.places = s.places ∧ s'.en = s.en ∧ Own w F0 L' W' :=
 (step_calls H hS hat hrl hF hFb hok hcb hco hH).mono (by
  rintro e W' (⟨-,rfl,h⟩|⟨s',h,-⟩)
  ·exact ⟨rfl,h⟩
  ·rw [hst] at h;cases h)
theorem step_go {w W : World} {L : List Res} {gs gj : Nat} {ep : Int} {Ab Ao : Option Addr} {cb co : Nat} {F : List Int} {ok : List Bool} {E : List Res} {s : ScSt} (H : Own w F0 L W) (hS : Sc gs gj ep Ab Ao cb co F ok 0 E s L) (hat : s.at_ ≤ 832) (hrl : s.recs.length ≤ 1000)
  (hF : F.length = 832) (hFb : Bytes F) (hok : ok.length = 16) (hcb : 832 ≤ cb) (hco : 16 ≤ co) (hH : Half w) {s' : ScSt} (hst : scStep (told ep F ok) s = some s') :
  Calls Tryd.prog 27 #[.pointer (some ⟨gs,0,none⟩)] W fun e W' => e = .returned (.bool true) ∧ ∃ L',Sc gs gj ep Ab Ao cb co F ok 0 E s' L' ∧ Own w F0 L' W' :=
 (step_calls H hS hat hrl hF hFb hok hcb hco hH).mono (by
  rintro e W' (⟨h,-⟩|⟨s2,h,rfl,L',h2⟩)
  ·rw [hst] at h;cases h
  ·rw [hst] at h
   obtain rfl := Option.some.inj h
   exact ⟨rfl,L',h2⟩)
set_option maxRecDepth 100000 in
set_option maxHeartbeats 8000000 in
theorem scan_callsN (e : Int) (he : 0 ≤ e ∧ e ≤ 18446744073709551615) (fl : List Int) (n n9 : Nat) (hn16 : n = min n9 16) (hn9 : n9 ≤ 100) (hf : fl.length = 64 * n) (hb : Bytes fl) (A : Option Addr) (c : Nat) (w : World) (hr : Rd w A (nums .u8 fl)) (hc9 : n9 ≤ c) (hH : Half w) :
  Calls Tryd.prog 10 #[.int .u64 e,.slice A n9 c] w fun en W => ∃ S Ar cr Ap cp cells D,S = scanM (e % 4294967296) (bodyF e fl n 16) (oksF e fl n 16) ∧
   en = .returned (.agg #[.slice Ar S.recs.length cr,.slice Ap S.recs.length cp,.int .i64 (S.en : Int),.int .i64 (if Img.restB fl n (cl (S.en : Int)) = true then 1 else 2)]) ∧
   Drs S.recs cells D ∧ S.places.length = S.recs.length ∧ S.recs.length ≤ 100 ∧ Own w F0 (.row (.slice Ar S.recs.length cr) 38 1 S.recs.length cells :: .row (.slice Ap S.recs.length cp) 3 1 S.recs.length (nums .i64 S.places) :: D) W := by
 have hc : n ≤ c := by omega
 have H := Own.start w
 have m1 : (if (n9 : Int) < 16 then (n9 : Int) else 16) = (n : Int) := by split <;> omega
 have m2 : (if (16 : Int) < (n9 : Int) then (16 : Int) else (n9 : Int)) = (n : Int) := by split <;> omega
 have m3 : min (n9 : Int) 16 = (n : Int) := by omega
 have hn16' : n ≤ 16 := by omega
 clear hn16
 have FC := fun W h => flat_calls e fl n hf hb A c W h hc (by omega)
 have hFl : (bodyF e fl n 16).length = 832 := bodyF_len hf 16
 have hFb : Bytes (bodyF e fl n 16) := bodyF_bytes hb 16
 have hkl : (oksF e fl n 16).length = 16 := oksF_len 16
 have RC := fun (z : Int) W h => rest_calls fl n hf hb z A c W h hc (by omega)
 have w1 : IntKind.u32.wrap e = e % 4294967296 := by rw [IntKind.wrap_u32]
 unfold scanM
 generalize e % 4294967296 = ep at *
 generalize bodyF e fl n 16 = F at *
 generalize oksF e fl n 16 = ok at *
 obtain ⟨SS,hSS⟩ : ∃ x,scRun (told ep F ok) 76 ScSt0 = x := ⟨_,rfl⟩
 rw [hSS]
 go_enter Tryd.func10,Tryd.ntmps10
 go_wp2_with (first
  |((with_reducible refine gate_dst (N := 4) rfl ?_);refine l_allocA rfl H 28 rfl _ zero28 ?_;clear H;intro g4 W H)
  |((with_reducible refine gate_dst (N := 26) rfl ?_);refine l_boxA rfl H 71 _ rfl _ rfl ?_;clear H;intro g26 W H)
  |((with_reducible refine gate_dst (N := 13) rfl ?_);refine l_run rfl (.slice A n c) (x_slice_to (n := n9) _ _ rfl rfl Tryd.underlying23 size51 n rfl hc _) ?_)
  |(go_at_call 25;(with_reducible refine (FC _ (hr.below H.below)).mono ?_);rintro en W ⟨v5,v6,rfl,HO⟩;replace H := H.addOwn HO;clear HO;dsimp only [List.cons_append,List.nil_append] at H;obtain ⟨A5,c5,rfl⟩ := H.row_slice .head;obtain ⟨A6,c6,rfl⟩ := H.row_slice (.tail .head))
  |(go_at_call 26;(with_reducible refine (new_own H).mono ?_);clear H;rintro en W ⟨gj,rfl,H⟩))
 have hc5 : 832 ≤ c5 := (H.rd (A := A5) (by repeat (first|exact In.head|apply In.tail))).2.1
 have hc6 : 16 ≤ c6 := (H.rd (A := A6) (by repeat (first|exact In.head|apply In.tail))).2.1
 replace H := H.cons (r := .row (.slice none 0 0) 5 1 0 []) (Below.refl _ _) (own_nil _ _ _ _) (fun k hk => by cases hk)
 replace H := H.cons (r := .row (.slice none 0 0) 38 1 0 []) (Below.refl _ _) (own_nil _ _ _ _) (fun k hk => by cases hk)
 replace H := H.cons (r := .row (.slice none 0 0) 3 1 0 []) (Below.refl _ _) (own_nil _ _ _ _) (fun k hk => by cases hk)
 replace H := Own.front (r := .row (.slice A6 16 c6) _ _ _ _) H (by repeat (first|exact Del.head|apply Del.tail))
 replace H := Own.front (r := .row (.slice A5 832 c5) _ _ _ _) H (by repeat (first|exact Del.head|apply Del.tail))
 replace H := Own.front (r := .row _ 3 _ _ _) H (by repeat (first|exact Del.head|apply Del.tail))
 replace H := Own.front (r := .row _ 38 _ _ _) H (by repeat (first|exact Del.head|apply Del.tail))
 replace H := Own.front (r := .row (.slice none 0 0) 5 _ _ _) H (by repeat (first|exact Del.head|apply Del.tail))
 replace H := Own.front (r := .blk gj _ _) H (by repeat (first|exact Del.head|apply Del.tail))
 replace H := Own.front (r := .blk g26 _ _) H (by repeat (first|exact Del.head|apply Del.tail))
 go_loopg [] 76 (fun gq w' => ∃ s L',Sc g26 gj ep A5 A6 c5 c6 F ok 0 [.blk g4 28 [.slice none 0 0,.slice none 0 0,.int .i64 0,.int .i64 0]] s L' ∧ Own w F0 L' w' ∧ s.at_ ≤ 832 ∧ 832 ≤ s.at_ + 11 * gq + 10 ∧ scRun (told ep F ok) gq s = SS ∧ s.recs.length + gq ≤ 76)
 case atStart => exact ⟨ScSt0,_,⟨none,0,.slice none 0 0,.slice none 0 0,.slice none 0 0,[],[],fun h => absurd rfl h,Nat.le_refl _,Nat.zero_le _,⟨rfl,fun j hj => by simp [ScSt0] at hj⟩,rfl,rfl⟩,H,by decide,by decide,hSS,by decide⟩
 case round =>
  clear H hSS
  obtain ⟨s,L',hS,H,hat,hm,hrun,hrl⟩ := hrel
  cases hst : scStep (told ep F ok) s with
  |some s2 =>
   have hadv := step_adv hFl hat hst
   have SC := step_go H hS hat (by omega) hFl hFb hkl hc5 hc6 hH hst
   obtain ⟨gk',rfl⟩ : ∃ q,gk = q + 1 := ⟨gk - 1,by
    rcases Nat.eq_zero_or_pos gk with h|h
    ·omega
    ·omega⟩
   rw [scRun_some hst] at hrun
   go_wp2_with (first
    |(go_at_call 27;(with_reducible refine SC.mono ?_);clear H;rintro e W ⟨rfl,L2,hS2,H⟩))
   go_roundg gk'
   case measure => omega
   case rel => exact ⟨s2,L2,hS2,H,hadv.2.1,by omega,hrun,by omega⟩
  |none =>
   have SC := step_no H hS hat (by omega) hFl hFb hkl hc5 hc6 hH hst
   rw [scRun_none hst] at hrun
   subst hrun
   clear hS
   cases hB : Img.restB fl n (cl (s.en : Int)) with
   |true =>
    have RC2 := RC (s.en : Int)
    rw [hB] at RC2
    go_wp2_with (first
  |((with_reducible refine gate_dst (N := 40) rfl ?_);refine l_load1 rfl H 3 _ rfl _ _ rfl (by (repeat (first|exact In.head|apply In.tail))) _ Tryd.underlying3 rfl _ (by first|rfl|assumption|exact nums_at _ (by omega)) ?_)
  |((with_reducible refine gate_store (t := 28) (p := 4) rfl ?_);refine l_storeW rfl H 28 _ _ rfl _ rfl _ rfl (by (repeat (first|exact In.head|apply In.tail))) _ size28 (by (first|rfl|assumption|omega|(simp only [nums_length];omega)|(simp [nums_length,zs];done)|(simp [nums_length,zs];omega))) (by (first|rfl|assumption|omega|(simp only [nums_length];omega)|(simp [nums_length,zs];done)|(simp [nums_length,zs];omega))) (by (first|exact nums_one|assumption|(intro u hu;simp at hu;subst hu;rfl)|(intro u hu;simp at hu;rcases hu with rfl|rfl|rfl|rfl|rfl|rfl|rfl <;> rfl)|(intro u hu;simp at hu;rcases hu with rfl|rfl|rfl|rfl <;> rfl)|(intro u hu;simp at hu;rcases hu with rfl|rfl|rfl <;> rfl)|(intro u hu;simp at hu;rcases hu with rfl|rfl <;> rfl))) ?_;clear H;intro W H)
     |(go_at_call 27;(with_reducible refine SC.mono ?_);clear H;rintro e W ⟨rfl,s2,L2,⟨Av,cv,x,vr,vp,cells,D,-,-,-,hD,hpl,rfl⟩,e1,e2,e3,H⟩;rw [e1,e2,e3] at H;rw [e1] at hD;rw [e1,e2] at hpl;obtain ⟨Ar,cr,rfl⟩ : ∃ A c,vr = .slice A s.recs.length c := H.row_slice (.tail (.tail (.tail .head)));obtain ⟨Ap,cp,rfl⟩ : ∃ A c,vp = .slice A s.recs.length c := H.row_slice (.tail (.tail (.tail (.tail .head))));replace H := H.perm (List.perm_append_singleton _ (_ :: _ :: _ :: _ :: _ :: _ :: _ :: D)))
     |((with_reducible refine gate_store (t := 3) (p := 34) rfl ?_);refine l_store1 rfl H 3 _ _ rfl g26 9 rfl (.int .i64 2) rfl (by repeat (first|exact In.head|apply In.tail)) rfl rfl size3 (by simp) ?_;clear H;intro W H)
     |((with_reducible refine gate_store (t := 3) (p := 45) rfl ?_);refine l_store1 rfl H 3 _ _ rfl g26 9 rfl (.int .i64 1) rfl (by repeat (first|exact In.head|apply In.tail)) rfl rfl size3 (by simp) ?_;clear H;intro W H)
     |((with_reducible refine gate_dst (N := 49) rfl ?_);refine l_load rfl H 28 _ rfl g26 6 rfl (by repeat (first|exact In.head|apply In.tail)) 4 _ Tryd.underlying28 rfl size28 (by simp) ?_)
     |(go_at_call 13;(with_reducible refine (RC2 _ (hr.below H.below)).mono ?_);rintro e W ⟨rfl,hb'⟩;replace H := H.to hb';clear hb'))
    replace H := Own.front (r := .blk g4 _ _) H (by repeat (first|exact Del.head|apply Del.tail))
    refine bodyPost_ret (results_cell_row (p := 4) (ty := 28) rfl _ _ g4 28 _ (0,0) _ rfl (H.heap .head) Tryd.underlying28 rfl size28) rfl ?_
    replace H := H.del (r := .blk g4 _ _) (by repeat (first|exact Del.head|apply Del.tail))
    replace H := H.del (r := .blk g26 _ _) (by repeat (first|exact Del.head|apply Del.tail))
    replace H := H.del (r := .blk gj _ _) (by repeat (first|exact Del.head|apply Del.tail))
    replace H := H.del (r := .row x _ _ _ _) (by repeat (first|exact Del.head|apply Del.tail))
    replace H := H.del (r := .row (.slice A5 832 c5) _ _ _ _) (by repeat (first|exact Del.head|apply Del.tail))
    replace H := H.del (r := .row (.slice A6 16 c6) _ _ _ _) (by repeat (first|exact Del.head|apply Del.tail))
    exact ⟨s,Ar,cr,Ap,cp,cells,D,rfl,by rw [hB];rfl,hD,hpl,by omega,H⟩
   |false =>
    have RC2 := RC (s.en : Int)
    rw [hB] at RC2
    go_wp2_with (first
  |((with_reducible refine gate_dst (N := 40) rfl ?_);refine l_load1 rfl H 3 _ rfl _ _ rfl (by (repeat (first|exact In.head|apply In.tail))) _ Tryd.underlying3 rfl _ (by first|rfl|assumption|exact nums_at _ (by omega)) ?_)
  |((with_reducible refine gate_store (t := 28) (p := 4) rfl ?_);refine l_storeW rfl H 28 _ _ rfl _ rfl _ rfl (by (repeat (first|exact In.head|apply In.tail))) _ size28 (by (first|rfl|assumption|omega|(simp only [nums_length];omega)|(simp [nums_length,zs];done)|(simp [nums_length,zs];omega))) (by (first|rfl|assumption|omega|(simp only [nums_length];omega)|(simp [nums_length,zs];done)|(simp [nums_length,zs];omega))) (by (first|exact nums_one|assumption|(intro u hu;simp at hu;subst hu;rfl)|(intro u hu;simp at hu;rcases hu with rfl|rfl|rfl|rfl|rfl|rfl|rfl <;> rfl)|(intro u hu;simp at hu;rcases hu with rfl|rfl|rfl|rfl <;> rfl)|(intro u hu;simp at hu;rcases hu with rfl|rfl|rfl <;> rfl)|(intro u hu;simp at hu;rcases hu with rfl|rfl <;> rfl))) ?_;clear H;intro W H)
     |(go_at_call 27;(with_reducible refine SC.mono ?_);clear H;rintro e W ⟨rfl,s2,L2,⟨Av,cv,x,vr,vp,cells,D,-,-,-,hD,hpl,rfl⟩,e1,e2,e3,H⟩;rw [e1,e2,e3] at H;rw [e1] at hD;rw [e1,e2] at hpl;obtain ⟨Ar,cr,rfl⟩ : ∃ A c,vr = .slice A s.recs.length c := H.row_slice (.tail (.tail (.tail .head)));obtain ⟨Ap,cp,rfl⟩ : ∃ A c,vp = .slice A s.recs.length c := H.row_slice (.tail (.tail (.tail (.tail .head))));replace H := H.perm (List.perm_append_singleton _ (_ :: _ :: _ :: _ :: _ :: _ :: _ :: D)))
     |((with_reducible refine gate_store (t := 3) (p := 34) rfl ?_);refine l_store1 rfl H 3 _ _ rfl g26 9 rfl (.int .i64 2) rfl (by repeat (first|exact In.head|apply In.tail)) rfl rfl size3 (by simp) ?_;clear H;intro W H)
     |((with_reducible refine gate_store (t := 3) (p := 45) rfl ?_);refine l_store1 rfl H 3 _ _ rfl g26 9 rfl (.int .i64 1) rfl (by repeat (first|exact In.head|apply In.tail)) rfl rfl size3 (by simp) ?_;clear H;intro W H)
     |((with_reducible refine gate_dst (N := 49) rfl ?_);refine l_load rfl H 28 _ rfl g26 6 rfl (by repeat (first|exact In.head|apply In.tail)) 4 _ Tryd.underlying28 rfl size28 (by simp) ?_)
     |(go_at_call 13;(with_reducible refine (RC2 _ (hr.below H.below)).mono ?_);rintro e W ⟨rfl,hb'⟩;replace H := H.to hb';clear hb'))
    replace H := Own.front (r := .blk g4 _ _) H (by repeat (first|exact Del.head|apply Del.tail))
    refine bodyPost_ret (results_cell_row (p := 4) (ty := 28) rfl _ _ g4 28 _ (0,0) _ rfl (H.heap .head) Tryd.underlying28 rfl size28) rfl ?_
    replace H := H.del (r := .blk g4 _ _) (by repeat (first|exact Del.head|apply Del.tail))
    replace H := H.del (r := .blk g26 _ _) (by repeat (first|exact Del.head|apply Del.tail))
    replace H := H.del (r := .blk gj _ _) (by repeat (first|exact Del.head|apply Del.tail))
    replace H := H.del (r := .row x _ _ _ _) (by repeat (first|exact Del.head|apply Del.tail))
    replace H := H.del (r := .row (.slice A5 832 c5) _ _ _ _) (by repeat (first|exact Del.head|apply Del.tail))
    replace H := H.del (r := .row (.slice A6 16 c6) _ _ _ _) (by repeat (first|exact Del.head|apply Del.tail))
    exact ⟨s,Ar,cr,Ap,cp,cells,D,rfl,by rw [hB];rfl,hD,hpl,by omega,H⟩
theorem scan_calls (e : Int) (he : 0 ≤ e ∧ e ≤ 18446744073709551615) (fl : List Int) (n : Nat) (hn16 : n ≤ 16) (hf : fl.length = 64 * n) (hb : Bytes fl) (A : Option Addr) (c : Nat) (w : World) (hr : Rd w A (nums .u8 fl)) (hc : n ≤ c) (hH : Half w) :
  Calls Tryd.prog 10 #[.int .u64 e,.slice A n c] w fun en W => ∃ S Ar cr Ap cp cells D,S = scanM (e % 4294967296) (bodyF e fl n 16) (oksF e fl n 16) ∧
   en = .returned (.agg #[.slice Ar S.recs.length cr,.slice Ap S.recs.length cp,.int .i64 (S.en : Int),.int .i64 (if Img.restB fl n (cl (S.en : Int)) = true then 1 else 2)]) ∧
   Drs S.recs cells D ∧ S.places.length = S.recs.length ∧ S.recs.length ≤ 100 ∧ Own w F0 (.row (.slice Ar S.recs.length cr) 38 1 S.recs.length cells :: .row (.slice Ap S.recs.length cp) 3 1 S.recs.length (nums .i64 S.places) :: D) W :=
 scan_callsN e he fl n n (by omega) (by omega) hf hb A c w hr hc hH
theorem secAt_take (fl : List Int) (m k : Nat) (hk : k < m) : secAt (fl.take (64 * m)) k = secAt fl k := by
 unfold secAt
 rw [List.drop_take,List.take_take,show min 64 (64 * m - 64 * k) = 64 by omega]
theorem okAt_min (e : Int) (fl : List Int) (n k : Nat) (hk : k < 16) : okAt e (fl.take (64 * min n 16)) (min n 16) k = okAt e fl n k := by
 unfold okAt
 by_cases h : k < n
 ·rw [secAt_take fl _ _ (by omega),decide_eq_true h,decide_eq_true (by omega)]
 ·rw [decide_eq_false h,decide_eq_false (by omega),Bool.false_and,Bool.false_and]
theorem roomAt_min (e : Int) (fl : List Int) (n k : Nat) (hk : k < 16) : roomAt e (fl.take (64 * min n 16)) (min n 16) k = roomAt e fl n k := by
 unfold roomAt
 rw [okAt_min e fl n k hk]
 split
 ·rename_i h
  unfold okAt at h
  simp only [Bool.and_eq_true,decide_eq_true_eq] at h
  rw [secAt_take fl _ _ (by omega)]
 ·rfl
theorem bodyF_min (e : Int) (fl : List Int) (n : Nat) : ∀ k,k ≤ 16 → bodyF e (fl.take (64 * min n 16)) (min n 16) k = bodyF e fl n k := by
 intro k
 induction k with
 |zero => intro _;rfl
 |succ k ih => intro hk;unfold bodyF;rw [ih (by omega),roomAt_min e fl n k (by omega)]
theorem oksF_min (e : Int) (fl : List Int) (n : Nat) : ∀ k,k ≤ 16 → oksF e (fl.take (64 * min n 16)) (min n 16) k = oksF e fl n k := by
 intro k
 induction k with
 |zero => intro _;rfl
 |succ k ih => intro hk;unfold oksF;rw [ih (by omega),okAt_min e fl n k (by omega)]
theorem restU_take (fl : List Int) (z : Int) (m : Nat) : ∀ k,k ≤ m → Img.restU (fl.take (64 * m)) z k = Img.restU fl z k := by
 intro k
 induction k with
 |zero => intro _;rfl
 |succ k ih => intro hk;rw [Img.restU_succ,Img.restU_succ,ih (by omega),secAt_take fl _ _ (by omega)]
theorem restB_min (fl : List Int) (n : Nat) (z : Int) : Img.restB (fl.take (64 * min n 16)) (min n 16) z = Img.restB fl n z := by
 rw [Img.restB_eq,Img.restB_eq,show min (min n 16) 16 = min n 16 by omega,restU_take fl z _ _ (Nat.le_refl _)]
/-- more sectors than sixteen: the first sixteen -/
theorem scan_callsG (e : Int) (he : 0 ≤ e ∧ e ≤ 18446744073709551615) (fl : List Int) (n : Nat) (hn : n ≤ 100) (hf : fl.length = 64 * n) (hb : Bytes fl) (A : Option Addr) (c : Nat) (w : World) (hr : Rd w A (nums .u8 fl)) (hc : n ≤ c) (hH : Half w) :
  Calls Tryd.prog 10 #[.int .u64 e,.slice A n c] w fun en W => ∃ S Ar cr Ap cp cells D,S = scanM (e % 4294967296) (bodyF e fl n 16) (oksF e fl n 16) ∧
   en = .returned (.agg #[.slice Ar S.recs.length cr,.slice Ap S.recs.length cp,.int .i64 (S.en : Int),.int .i64 (if Img.restB fl n (cl (S.en : Int)) = true then 1 else 2)]) ∧
   Drs S.recs cells D ∧ S.places.length = S.recs.length ∧ S.recs.length ≤ 100 ∧ Own w F0 (.row (.slice Ar S.recs.length cr) 38 1 S.recs.length cells :: .row (.slice Ap S.recs.length cp) 3 1 S.recs.length (nums .i64 S.places) :: D) W := by
 have h := scan_callsN e he (fl.take (64 * min n 16)) (min n 16) n rfl hn (by rw [List.length_take];omega) (bytes_take hb _) A c w (by have := hr.take (64 * min n 16);unfold nums at *;rwa [← List.map_take] at this) hc hH
 rw [bodyF_min e fl n 16 (by omega),oksF_min e fl n 16 (by omega)] at h
 refine h.mono ?_
 rintro en W ⟨S,Ar,cr,Ap,cp,cells,D,hS,he,hD,h1,h2,h3⟩
 rw [restB_min] at he
 exact ⟨S,Ar,cr,Ap,cp,cells,D,hS,he,hD,h1,h2,h3⟩
end Go.Proofs.YtaekpfhgdnfciaaDoor.O
end

section
/- The reference's Sectors, by what is owned. -/
set_option linter.unusedVariables false
set_option linter.unusedSimpArgs false
namespace Go.Proofs.YtaekpfhgdnfciaaDoor.O
open Go.RowKit Go.Proofs.YtaekpfhgdnfciaaDoorW.PrintWords Go.Proofs.YtaekpfhgdnfciaaDoorW.PrintLast Go.Proofs.YtaekpfhgdnfciaaDoorW.PrintMore Go.Proofs.YtaekpfhgdnfciaaDoor.F Go.Proofs.YtaekpfhgdnfciaaDoor.F.Nums Go.Proofs.YtaekpfhgdnfciaaDoor.Plain
set_option maxRecDepth 100000 in
set_option maxHeartbeats 4000000 in
theorem rsectors_yes (e64 : Int) (l : List (List Int)) (A : Option Addr) (c : Nat) (w : World) (b : Nat) (h : Img.layAll e64 l = true) (ht : tch (cl 0) (cl (Img.laySt e64 l l.length).2) = (((0 : Nat) : Int),(b : Int))) (hb : b ≤ 16) (he : 0 ≤ e64 ∧ e64 ≤ 18446744073709551615) (hl : ∀ x ∈ l,Bytes x)
  (hll : ∀ x ∈ l,x.length ≤ 140737488355328) (hn : l.length ≤ 9000000000000) (hC : (Kd.slice 5 (Kd.int .u8)).C w A l.length l) (hc : l.length ≤ c) :
  Calls Tryd.prog 15 #[.int .u64 e64,.slice A l.length c] w fun e W => ∃ v,e = .returned (.tuple #[v,.bool true]) ∧ W.ownsRow w.heap.size 51 64 v 16 (nums .u8 (flatW e64 (Img.laySt e64 l l.length).1 b 16)) ∧ Below w.heap.size w W := by
 have H := Own.start w
 have hR := Img.rlay_eq (7000 + l.length) e64 l he.1 hl hll hn (Nat.le_refl _)
 unfold Img.layR at hR
 rw [if_pos h] at hR
 have BC := fun W h1 => strandlineref17_Lay.calls (7000 + l.length) e64 A c l _ _ _ _ W h1 hc hR
 have hbl := Img.laySt_len e64 l l.length
 have WC := fun A1 c1 W h1 (h2 : 832 ≤ c1) => rwhole_calls e64 he.1 he.2 (Img.laySt e64 l l.length).1 (Img.laySt e64 l l.length).2 b ht hb A1 c1 W h1 (by omega) (by omega)
 rw [hbl] at WC
 generalize flatW e64 (Img.laySt e64 l l.length).1 b 16 = fl at *
 clear ht h hR
 generalize Img.layPl e64 l l.length = pl at *
 generalize (Img.laySt e64 l l.length).1 = body at *
 generalize (Img.laySt e64 l l.length).2 = en at *
 generalize l.length = n at *
 go_enter Tryd.func15,Tryd.ntmps15
 go_wp2_with (first
 |(go_at_call 17;(with_reducible refine (BC _ (Kd.C_below hC H.below)).mono ?_);rintro e W ⟨v6,v7,rfl,hR6,hR7,hb⟩;replace H := H.to hb;obtain ⟨A6,c6,rfl,hl6,C6⟩ := Kd.R_reads hR6;rw [hbl] at hl6 C6 ⊢;clear hb hR6 hR7)
 |(go_at_call 35;(with_reducible refine (WC _ _ _ C6 hl6).mono ?_);rintro e W ⟨v4,rfl,ho,hb'⟩;replace H := H.addRow hb' ho;clear ho hb'))
 go_ret2
 exact ⟨_,rfl,H.at_ .head,H.below⟩
end Go.Proofs.YtaekpfhgdnfciaaDoor.O
end

section
/- The statement's own function. Turned out of what the kit's print told for this seat. -/
namespace Go.Proofs.YtaekpfhgdnfciaaDoor.F
open Go.RowKit Go.Proofs.YtaekpfhgdnfciaaDoorW.PrintWords Go.Proofs.YtaekpfhgdnfciaaDoorW.PrintLast Go.Proofs.YtaekpfhgdnfciaaDoorW.PrintMore
attribute [local go_sem high] eqA83
attribute [local go_sem] field83_0
attribute [local go_sem] field83_1
attribute [local go_sem] max2_int min2_int max_two min_two max_three min_three max_four min_four
set_option linter.unusedVariables false
set_option linter.unusedSimpArgs false
/-! ### strandlinelaw19_Few: function 16 -/
end Go.Proofs.YtaekpfhgdnfciaaDoor.F
end

section
/- What ScanBack and ScanLost share: few, what is scanned of what was laid; awake19. -/
set_option linter.unusedVariables false
set_option linter.unusedSimpArgs false
namespace Go.Proofs.YtaekpfhgdnfciaaDoor.O
open Go.RowKit Go.Proofs.YtaekpfhgdnfciaaDoorW.PrintWords Go.Proofs.YtaekpfhgdnfciaaDoorW.PrintLast Go.Proofs.YtaekpfhgdnfciaaDoorW.PrintMore Go.Proofs.YtaekpfhgdnfciaaDoor.F Go.Proofs.YtaekpfhgdnfciaaDoor.F.Nums Go.Proofs.YtaekpfhgdnfciaaDoor.Plain
theorem C_rows_at {w : World} {A : Option Addr} {n : Nat} {l : List (List Int)} (h : Kd.C (Kd.slice 5 (Kd.int .u8)) w A n l) (k : Nat) (hk : k < n) :
  ∃ ad A2 c2,A = some ad ∧ w.cell? (ad.add k) = some (.slice A2 (l.getD k []).length c2) ∧ (l.getD k []).length ≤ c2 ∧ (Kd.int .u8).C w A2 (l.getD k []).length (l.getD k []) := by
 obtain ⟨ad,c,e,_,hK,hc0⟩ := Kd.C_get h [] (k : Int) (by omega) (by omega)
 obtain ⟨A2,c2,rfl,l2,g2⟩ := hK
 have := hc0 0 _ rfl
 rw [Int.toNat_natCast] at this l2 g2
 simp only [Kd.slice,Nat.mul_one,Nat.add_zero] at this
 exact ⟨ad,A2,c2,e,by simpa using this,l2,g2⟩
theorem r_loadCell4 {P : Program} {o : Oper} {a : Act} {W : World} {p : Addr} {v : Value} (ty : TypeId) (x : Operand) (ho : o.op = .load ty x) (hx : a.eval x = .pointer (some p)) (hc : W.cell? p = some v) (d : TypeDesc) (hu : P.underlying ty = some d) (hd : d.isRow = false) :
  (execOp a.eval o).run P W = .ok (.value v) W := by
 have hag : (isAgg ty).run P W = .ok false W := by
  unfold isAgg
  rw [Sem.run_bind,run_underlying hu W]
  cases d <;> simp_all
 unfold execOp
 simp [ho,hx,Instr.loadAt,Instr.sureAddr,loadVar,hag,hc]
set_option maxRecDepth 100000 in
set_option maxHeartbeats 4000000 in
theorem same04_calls (l : List (List Int)) (A B : Option Addr) (c d : Nat) (w : World) (hl : l.length < 5000000) (hC : (Kd.slice 5 (Kd.int .u8)).C w A l.length l) (hc : l.length ≤ c) (hD : (Kd.slice 5 (Kd.int .u8)).C w B l.length l) (hd : l.length ≤ d) :
  Calls Tryd.prog 12 #[.slice A l.length c,.slice B l.length d] w fun e W => e = .returned (.bool true) ∧ Below w.heap.size w W := by
 have H := Own.start w
 have HA := fun k (hk : k < l.length) => C_rows_at hC k hk
 have HB := fun k (hk : k < l.length) => C_rows_at hD k hk
 clear hC hD
 generalize l.length = n at *
 go_enter Tryd.func12,Tryd.ntmps12
 go_wp2
 go_loopg [5] n (fun gq v5 w' => ∃ k : Nat,v5 = .int .i64 (k : Int) ∧ k + gq = n ∧ Own w F0 [] w')
 case atStart => exact ⟨0,rfl,by omega,H⟩
 case round =>
  clear H
  obtain ⟨k,rfl,hk,H⟩ := hrel
  by_cases ck : k < n
  ·obtain ⟨gk',rfl⟩ : ∃ q,gk = q + 1 := ⟨gk - 1,by omega⟩
   have q2 : decide (k < n) = true := decide_eq_true ck
   have p0 : ((0 : Int) ≤ (k : Int)) = True := eq_true (by omega)
   have p1 : ((k : Int) < (n : Int)) = True := eq_true (by omega)
   obtain ⟨ad,A2,c2,rfl,x0,-,x2⟩ := HA k ck
   obtain ⟨bd,B2,d2,rfl,y0,-,y2⟩ := HB k ck
   generalize l.getD k [] = z at *
   clear HA HB
   go_wp2
   refine start_ (n := 11) (S := Own _ _ _) (ds := []) #[f_,f_,f_,f_,f_,f_,f_,f_,f_,f_,f_] (by kernel_rfl) rfl rfl H.drew (fun hHeld => ?_)
   replace H := H.drew
   generalize World.drew _ = W at H hHeld ⊢
   refine pure_ (i := 0) (N := some 17) (v := ?_) (a' := ?_) #[t_,f_,f_,f_,f_,f_,f_,f_,f_,f_,f_] rfl rfl (by kernel_rfl) (fun _ _ _ h => h) (Or.inl ⟨by rfl,?_⟩) ?_ ?_
   rotate_left
   ·intro w'
    go_simp
    with_reducible rfl
   rotate_left
   ·simp only [ps_]
    rfl
   refine pure_ (i := 1) (N := some 18) (v := ?_) (a' := ?_) #[t_,t_,f_,f_,f_,f_,f_,f_,f_,f_,f_] rfl rfl (by kernel_rfl) (fun _ _ _ h => h) (Or.inl ⟨by rfl,?_⟩) ?_ ?_
   rotate_left
   ·intro w'
    go_simp
    with_reducible rfl
   rotate_left
   ·simp only [ps_]
    rfl
   refine pure_ (i := 2) (N := some 19) (v := ?_) (a' := ?_) #[t_,t_,t_,f_,f_,f_,f_,f_,f_,f_,f_] rfl rfl (by kernel_rfl) (fun _ _ _ h => h) (Or.inl ⟨by rfl,?_⟩) ?_ ?_
   rotate_left
   ·intro w'
    go_simp
    with_reducible rfl
   rotate_left
   ·simp only [ps_]
    rfl
   refine pure_ (i := 5) (N := some 22) (v := ?_) (a' := ?_) #[t_,t_,t_,f_,f_,t_,f_,f_,f_,f_,f_] rfl rfl (by kernel_rfl) (fun _ _ _ h => h) (Or.inl ⟨by rfl,?_⟩) ?_ ?_
   rotate_left
   ·intro w'
    go_simp
    with_reducible rfl
   rotate_left
   ·simp only [ps_]
    rfl
   refine pure_ (i := 6) (N := some 23) (v := ?_) (a' := ?_) #[t_,t_,t_,f_,f_,t_,t_,f_,f_,f_,f_] rfl rfl (by kernel_rfl) (fun _ _ _ h => h) (Or.inl ⟨by rfl,?_⟩) ?_ ?_
   rotate_left
   ·intro w'
    go_simp
    with_reducible rfl
   rotate_left
   ·simp only [ps_]
    rfl
   refine pure_ (i := 7) (N := some 24) (v := ?_) (a' := ?_) #[t_,t_,t_,f_,f_,t_,t_,t_,f_,f_,f_] rfl rfl (by kernel_rfl) (fun _ _ _ h => h) (Or.inl ⟨by rfl,?_⟩) ?_ ?_
   rotate_left
   ·intro w'
    go_simp
    with_reducible rfl
   rotate_left
   ·simp only [ps_]
    rfl
   refine take_run (i := 3) (N := some 20) (a' := ?_) #[t_,t_,t_,t_,f_,t_,t_,t_,f_,f_,f_] rfl rfl (by kernel_rfl) (fun _ _ _ _ h => h) (by rfl) hHeld (.slice A2 z.length c2) (fun X HX => r_loadCell4 38 _ rfl rfl ((HX.below.cell (World.block_lt_of_cell? w _ x0)).trans x0) _ Tryd.underlying38 rfl) ?_ ?_
   rotate_left
   ·simp only [ps_]
    rfl
   refine take_run (i := 4) (N := some 21) (a' := ?_) #[t_,t_,t_,t_,t_,t_,t_,t_,f_,f_,f_] rfl rfl (by kernel_rfl) (fun _ _ _ _ h => h) (by rfl) hHeld (.string (strOfNums z)) (fun X HX => r_strC 38 9 5 _ rfl rfl (Kd.C_below x2 HX.below) Tryd.underlying38 Tryd.underlying5 Tryd.underlying9) ?_ ?_
   rotate_left
   ·simp only [ps_]
    rfl
   refine take_run (i := 8) (N := some 25) (a' := ?_) #[t_,t_,t_,t_,t_,t_,t_,t_,t_,f_,f_] rfl rfl (by kernel_rfl) (fun _ _ _ _ h => h) (by rfl) hHeld (.slice B2 z.length d2) (fun X HX => r_loadCell4 38 _ rfl rfl ((HX.below.cell (World.block_lt_of_cell? w _ y0)).trans y0) _ Tryd.underlying38 rfl) ?_ ?_
   rotate_left
   ·simp only [ps_]
    rfl
   refine take_run (i := 9) (N := some 26) (a' := ?_) #[t_,t_,t_,t_,t_,t_,t_,t_,t_,t_,f_] rfl rfl (by kernel_rfl) (fun _ _ _ _ h => h) (by rfl) hHeld (.string (strOfNums z)) (fun X HX => r_strC 38 9 5 _ rfl rfl (Kd.C_below y2 HX.below) Tryd.underlying38 Tryd.underlying5 Tryd.underlying9) ?_ ?_
   rotate_left
   ·simp only [ps_]
    rfl
   refine pure_ (i := 10) (N := some 27) (v := ?_) (a' := ?_) #[t_,t_,t_,t_,t_,t_,t_,t_,t_,t_,t_] rfl rfl (by kernel_rfl) (fun _ _ _ h => h) (Or.inl ⟨by rfl,?_⟩) ?_ ?_
   rotate_left
   ·intro w'
    go_simp
    with_reducible rfl
   rotate_left
   ·simp only [ps_]
    rfl
   refine done_ (by kernel_rfl) ?_
   clear hHeld
   go_wp2
   go_roundg gk'
   case measure => omega
   case rel => exact ⟨k + 1,by go_num,by omega,H⟩
  ·have q2 : decide (k < n) = false := decide_eq_false ck
   obtain rfl : k = n := by omega
   go_wp2
   go_ret
   exact ⟨rfl,H.below⟩
/-- what is scanned of all that was laid -/
theorem scan_all (e64 : Int) (h0 : 0 ≤ e64) (h1 : e64 ≤ 18446744073709551615) (he : e64 ≠ 0) (l : List (List Int)) (hall : Img.layAll e64 l = true) (h512 : ∀ x ∈ l,x.length ≤ 512) (b : Nat) (ht : tch (cl 0) (cl (Img.laySt e64 l l.length).2) = (((0 : Nat) : Int),(b : Int))) :
  (scanM (e64 % 4294967296) (bodyF e64 (flatW e64 (Img.laySt e64 l l.length).1 b 16) 16 16) (oksF e64 (flatW e64 (Img.laySt e64 l l.length).1 b 16) 16 16)).recs = l ∧
  (scanM (e64 % 4294967296) (bodyF e64 (flatW e64 (Img.laySt e64 l l.length).1 b 16) 16 16) (oksF e64 (flatW e64 (Img.laySt e64 l l.length).1 b 16) 16 16)).places = Img.layPl e64 l l.length ∧
  ((scanM (e64 % 4294967296) (bodyF e64 (flatW e64 (Img.laySt e64 l l.length).1 b 16) 16 16) (oksF e64 (flatW e64 (Img.laySt e64 l l.length).1 b 16) 16 16)).en : Int) = (Img.laySt e64 l l.length).2 ∧
  Img.restB (flatW e64 (Img.laySt e64 l l.length).1 b 16) 16 (cl (Img.laySt e64 l l.length).2) = true := by
 have hend := Img.laySt_end e64 l l.length
 have hb := Img.tch_secs hend.1 hend.2 ht
 subst hb
 obtain ⟨m,hm1,hm2,hr,hp,hen⟩ := Img.scan_mix e64 h0 h1 he l l.length (Nat.le_refl _) hall h512 _ (flatW_len _ _ _ _) (fun k _ => .inr rfl)
 obtain rfl : m = l.length := by omega
 rw [List.take_of_length_le (Nat.le_refl _)] at hr
 exact ⟨hr,hp,by rw [hen];omega,by rw [cl_in hend.1 hend.2];exact Img.rest_lay e64 l hall⟩
end Go.Proofs.YtaekpfhgdnfciaaDoor.O
end

section
/- strandlinelaw19's awake, by what is owned. -/
set_option linter.unusedVariables false
set_option linter.unusedSimpArgs false
namespace Go.Proofs.YtaekpfhgdnfciaaDoor.O
open Go.RowKit Go.Proofs.YtaekpfhgdnfciaaDoorW.PrintWords Go.Proofs.YtaekpfhgdnfciaaDoorW.PrintLast Go.Proofs.YtaekpfhgdnfciaaDoorW.PrintMore Go.Proofs.YtaekpfhgdnfciaaDoor.F Go.Proofs.YtaekpfhgdnfciaaDoor.F.Nums Go.Proofs.YtaekpfhgdnfciaaDoor.Plain
theorem C_rows {w : World} {ad : Addr} (xs : List (List Int)) (hm : xs.length ≤ 9223372036854775807) (h : ∀ j,j < xs.length → ∃ A c,w.cell? (ad.add j) = some (.slice A (xs.getD j []).length c) ∧ (xs.getD j []).length ≤ c ∧ (Kd.int .u8).C w A (xs.getD j []).length (xs.getD j [])) :
  (Kd.slice 5 (Kd.int .u8)).C w (some ad) xs.length xs := by
 refine ⟨rfl,hm,fun _ => ⟨ad,rfl,fun j p hj => ?_⟩⟩
 have hlt := (List.getElem?_eq_some_iff.1 hj).1
 obtain ⟨A,c,h1,h2,h3⟩ := h j hlt
 have hp : xs.getD j [] = p := by rw [List.getD_eq_getElem?_getD,hj];rfl
 rw [hp] at h1 h2 h3
 refine ⟨[.slice A p.length c],rfl,⟨A,c,rfl,h2,h3⟩,fun i u hu => ?_⟩
 have hi : i = 0 := by have := (List.getElem?_eq_some_iff.1 hu).1;simpa using this
 subst hi
 simp at hu
 subst hu
 show w.cell? (ad.add (j * 1 + 0)) = _
 rw [Nat.mul_one,Nat.add_zero]
 exact h1
theorem C_cells19 {w : World} {g : Nat} {k : IntKind} {l : List Int} {t : TypeId} {fr : Nat × Nat} (h : w.heap[g]? = some (.cells (l.map (Value.int k)).toArray t fr)) (hl : l.length ≤ 9223372036854775807) : (Kd.int k).C w (some ⟨g,0,none⟩) l.length l := by
 refine ⟨rfl,hl,fun _ => ⟨_,rfl,fun j p hj => ⟨[.int k p],rfl,rfl,fun i u hu => ?_⟩⟩⟩
 have hi0 : i = 0 := by have := (List.getElem?_eq_some_iff.1 hu).1;simpa using this
 subst hi0
 have e1 := cell_of_row w g j _ _ _ h
 simp at hu
 subst hu
 have e2 : (Addr.add ⟨g,0,none⟩ (j * (Kd.int k).sz + 0)) = ⟨g,j,none⟩ := by
  rw [show (Kd.int k).sz = 1 from rfl]
  unfold Addr.add
  by_cases hj0 : j = 0
  ·subst hj0;rfl
  ·simp [hj0]
 rw [e2,e1]
 simp [hj]
theorem lay19 : Img.layAll 3 [[97],[98,99]] = true ∧ (Img.laySt 3 [[97],[98,99]] 2).2 = 25 := by constructor <;> decide +kernel
theorem s9899 : strOfNums [98,99] = { data := #[98,99] } := by decide +kernel
set_option maxRecDepth 100000 in
set_option maxHeartbeats 4000000 in
theorem awake19_calls (w : World) (hH : Half w) : Calls Tryd.prog 9 #[] w fun e W => e = .returned (.bool true) ∧ Below w.heap.size w W := by
 have H := Own.start w
 have hB : ∀ x ∈ ([[97],[98,99]] : List (List Int)),Bytes x := fun x hx => by
  simp at hx
  rcases hx with rfl|rfl <;> intro c hc <;> simp at hc <;> omega
 have h512 : ∀ x ∈ ([[97],[98,99]] : List (List Int)),x.length ≤ 512 := fun x hx => by
  simp at hx
  rcases hx with rfl|rfl <;> decide
 obtain ⟨b,ht,hb⟩ := touch0 (Img.laySt 3 [[97],[98,99]] ([[97],[98,99]] : List (List Int)).length).2
 have SC := fun A c W h (hc : 2 ≤ c) => rsectors_yes 3 [[97],[98,99]] A c W b lay19.1 ht hb (by decide) hB (fun x hx => Nat.le_trans (h512 x hx) (by decide)) (by decide) h hc
 obtain ⟨h1,h2,h3,h4⟩ := scan_all 3 (by decide) (by decide) (by decide) [[97],[98,99]] lay19.1 h512 b ht
 have KC := fun A1 c1 W (hr : Rd W A1 (nums .u8 (flatW 3 (Img.laySt 3 [[97],[98,99]] ([[97],[98,99]] : List (List Int)).length).1 b 16))) h h2 => scan_calls 3 (by decide) _ 16 (Nat.le_refl _) (flatW_len _ _ _ _) (flatW_bytes (Img.laySt_bytes 3 _ hB _) _ _ _) A1 c1 W hr h h2
 simp only [List.length_cons,List.length_nil,Nat.zero_add,Nat.reduceAdd] at SC h1 h2 h3 h4 KC ht
 rw [lay19.2] at h3 h4
 clear ht
 generalize scanM ((3 : Int) % 4294967296) (bodyF 3 (flatW 3 (Img.laySt 3 [[97],[98,99]] 2).1 b 16) 16 16) (oksF 3 (flatW 3 (Img.laySt 3 [[97],[98,99]] 2).1 b 16) 16 16) = S at *
 generalize flatW 3 (Img.laySt 3 [[97],[98,99]] 2).1 b 16 = fl at *
 obtain ⟨s1,s2,s3,s4,s5,s6,s7⟩ := S
 try simp only at h1 h3
 subst h1
 have kc := fun (w : World) (C : Array Value) (n c : Nat) => Lib.run_convert_bytes_const (P := Tryd.prog) w 38 5 C n c Tryd.underlying38 Tryd.underlying5
 have kc2 := fun (C : Array Value) (n c : Nat) => Joins.run_convert_bytes_const_at (P := Tryd.prog) (w.alloc (.cells #[.int .u8 97] 5 (1,2))) 38 5 C n c (w.heap.size + 1) (by simp) Tryd.underlying38 Tryd.underlying5
 clear H
 go_enter Tryd.func9,Tryd.ntmps9
 go_wp2_with fail
 obtain ⟨W1,hW1⟩ : ∃ W1,(w.alloc (.cells #[.int .u8 97] 5 (1,2))) = W1 := ⟨_,rfl⟩
 have a1 := blk_new w (.cells #[.int .u8 97] 5 (1,2))
 have z1 : W1.heap.size = w.heap.size + 1 := by rw [← hW1];simp
 have B1 : Below w.heap.size w W1 := by rw [← hW1];exact below_alloc (Below.refl _ _) _
 rw [hW1] at a1 ⊢
 clear hW1 kc kc2
 obtain ⟨W2,hW2⟩ : ∃ W2,(W1.alloc (.cells #[.int .u8 98,.int .u8 99] 5 (2,3))) = W2 := ⟨_,rfl⟩
 have a2 := blk_new W1 (.cells #[.int .u8 98,.int .u8 99] 5 (2,3))
 replace a1 := blk_alloc a1 (.cells #[.int .u8 98,.int .u8 99] 5 (2,3))
 have z2 : W2.heap.size = w.heap.size + 1 + 1 := by rw [← hW2];simp;omega
 have B2 : Below w.heap.size w W2 := by rw [← hW2];exact below_alloc B1 _
 rw [hW2] at a1 a2 ⊢
 rw [z1] at a2
 clear hW2 B1
 obtain ⟨o3,ho3⟩ : ∃ o3,(Obj.cells #[.slice (some ⟨w.heap.size,0,none⟩) 1 1,.slice (some ⟨w.heap.size + 1,0,none⟩) 2 2] 38) = o3 := ⟨_,rfl⟩
 rw [ho3]
 have a3 := blk_new W2 o3
 replace a1 := blk_alloc a1 o3
 replace a2 := blk_alloc a2 o3
 have B3 : Below w.heap.size w (W2.alloc o3) := below_alloc B2 _
 rw [z2] at a3
 generalize W2.alloc o3 = W3 at a1 a2 a3 B3 ⊢
 rw [← ho3] at a3
 clear ho3 B2 z2 z1
 have CL : (Kd.slice 5 (Kd.int .u8)).C W3 (some ⟨w.heap.size + 1 + 1,0,none⟩) 2 [[97],[98,99]] := by
  refine C_rows [[97],[98,99]] (by decide) (fun j hj => ?_)
  have hj2 : j = 0 ∨ j = 1 := by simp at hj;omega
  rcases hj2 with rfl|rfl
  ·exact ⟨_,1,blk_cell a3 0,by decide,C_cells19 (l := [97]) a1 (by decide)⟩
  ·exact ⟨_,2,blk_cell a3 1,by decide,C_cells19 (l := [98,99]) a2 (by decide)⟩
 have H := (Own.start w).to B3
 clear a1 a2 a3 B3
 refine (SC _ _ _ CL (by decide)).mono ?_
 rintro e W ⟨v1,rfl,ho,hb'⟩
 replace H := H.addRow hb' ho
 clear ho hb' CL
 obtain ⟨A1,c1,rfl⟩ := H.row_slice .head
 go_wp2_with (first
  |((with_reducible refine gate_dst (N := 3) rfl ?_);refine l_allocA rfl H 28 rfl _ zero28 ?_;clear H;intro g3 W H)
  |((with_reducible refine gate_store (t := 28) (p := 3) rfl ?_);refine l_storeW rfl H 28 _ _ rfl _ rfl _ rfl (by (repeat (first|exact In.head|apply In.tail))) _ size28 (by (first|rfl|assumption|omega|(simp only [nums_length];omega)|(simp [nums_length,zs];done)|(simp [nums_length,zs];omega))) (by (first|rfl|assumption|omega|(simp only [nums_length];omega)|(simp [nums_length,zs];done)|(simp [nums_length,zs];omega))) (by (first|exact nums_one|assumption|(intro u hu;simp at hu;subst hu;rfl)|(intro u hu;simp at hu;rcases hu with rfl|rfl|rfl|rfl|rfl|rfl|rfl <;> rfl)|(intro u hu;simp at hu;rcases hu with rfl|rfl|rfl|rfl <;> rfl)|(intro u hu;simp at hu;rcases hu with rfl|rfl|rfl <;> rfl)|(intro u hu;simp at hu;rcases hu with rfl|rfl <;> rfl))) ?_;clear H;intro W H)
  |((with_reducible refine gate_dst (N := 16) rfl ?_);refine l_load1 rfl H 25 _ rfl _ _ rfl (by (repeat (first|exact In.head|apply In.tail))) _ Tryd.underlying25 rfl _ (by first|rfl|assumption|exact nums_at _ (by omega)) ?_)
  |((with_reducible refine gate_dst (N := 21) rfl ?_);refine gate_guard (by rfl) ?_;refine l_load1 rfl H 25 _ rfl _ _ rfl (by (repeat (first|exact In.head|apply In.tail))) _ Tryd.underlying25 rfl _ (by first|rfl|assumption|exact nums_at _ (by omega)) ?_)
  |((with_reducible refine gate_dst (N := 24) rfl ?_);refine gate_guard (by rfl) ?_;refine l_strR rfl H 38 9 5 _ rfl _ rfl (by (repeat (first|exact In.head|apply In.tail))) Tryd.underlying38 Tryd.underlying5 Tryd.underlying9 ?_)
  |((with_reducible refine gate_dst (N := 29) rfl ?_);refine gate_guard (by rfl) ?_;refine l_load1 rfl H 3 _ rfl _ _ rfl (by (repeat (first|exact In.head|apply In.tail))) _ Tryd.underlying3 rfl _ (by first|rfl|assumption|exact nums_at _ (by omega)) ?_)
  |((with_reducible refine gate_dst (N := 34) rfl ?_);refine gate_guard (by rfl) ?_;refine l_load1 rfl H 3 _ rfl _ _ rfl (by (repeat (first|exact In.head|apply In.tail))) _ Tryd.underlying3 rfl _ (by first|rfl|assumption|exact nums_at _ (by omega)) ?_)
  |(go_at_call 10;(with_reducible refine (KC _ _ _ (H.rd .head).1 (H.rd .head).2.1 (hH.below H.below)).mono ?_);rintro e W ⟨S,Ar,cr,Ap,cp,cells,D,rfl,rfl,hD,hpl,hr100,HO⟩;replace H := (H.addOwn HO).perm (List.Perm.cons _ (List.Perm.cons _ List.perm_append_comm));clear HO;dsimp only [List.cons_append,List.nil_append] at H;dsimp only at hD;simp only [h3,h4,if_true];obtain ⟨ad,rfl⟩ := (H.rd .head).1.some_ (by rw [hD.1];decide))
  |((with_reducible refine gate_dst (N := 23) rfl ?_);refine gate_guard (by rfl) ?_;obtain ⟨A2,c2,x1,-,x3⟩ := hD.rd H (fun r hr => by simp [hr]) 1 (by decide);refine l_run rfl (.slice A2 2 c2) (r_loadRd1 38 _ rfl 1 rfl (H.rd (n := 2) (cc := cr) (by repeat (first|exact In.head|apply In.tail))).1 _ Tryd.underlying38 rfl _ x1) ?_)
  |((with_reducible refine gate_dst (N := 24) rfl ?_);refine gate_guard (by rfl) ?_;refine l_run rfl (.string { data := #[98,99] }) (by rw [← s9899];exact r_strC 38 9 5 _ rfl rfl (x3 _ H) Tryd.underlying38 Tryd.underlying5 Tryd.underlying9) ?_))
 go_ret
 exact ⟨rfl,H.below⟩
end Go.Proofs.YtaekpfhgdnfciaaDoor.O
end

section
/- ref19.Accepts: the fragment told at a place. -/
set_option linter.unusedVariables false
set_option linter.unusedSimpArgs false
namespace Go.Proofs.YtaekpfhgdnfciaaDoor.O
open Go.RowKit Go.Proofs.YtaekpfhgdnfciaaDoorW.PrintWords Go.Proofs.YtaekpfhgdnfciaaDoorW.PrintLast Go.Proofs.YtaekpfhgdnfciaaDoorW.PrintMore Go.Proofs.YtaekpfhgdnfciaaDoor.F Go.Proofs.YtaekpfhgdnfciaaDoor.F.Nums Go.Proofs.YtaekpfhgdnfciaaDoor.Plain
attribute [local go_sem] Oper.semAt_some
theorem rleft_c (a : Int) (w : World) : Calls Tryd.prog 57 #[.int .i64 a] w fun e W => e = .returned (.int .i64 (lf (cl a))) ∧ Below w.heap.size w W := (strandlineref07_Left.calls 833 a _ w (SpanP.rleft_eq 833 (by decide) a)).mono fun e w' ⟨h1,h2⟩ => ⟨h1,by first|exact h2|exact h2.below⟩
theorem rbegin_c (a : Nat) (w : World) : Calls Tryd.prog 29 #[.int .i64 (a : Int)] w fun e W => e = .returned (.int .i64 ((bgN a : Nat) : Int)) ∧ Below w.heap.size w W := by
 rw [bgN_cast]
 exact (strandlineref07_Begin.calls 833 (a : Int) _ w (SpanP.rbegin_eq 833 (by decide) a)).mono fun e w' ⟨h1,h2⟩ => ⟨h1,by first|exact h2|exact h2.below⟩
theorem rcov_own (ok : List Bool) (hok : ok.length = 16) (f t : Int) (A : Option Addr) (c : Nat) (hc : 16 ≤ c) (w : World) (hr : Rd w A (bools ok)) :
  Calls Tryd.prog 55 #[.slice A 16 c,.int .i64 f,.int .i64 t] w fun e W => e = .returned (.bool (cov ok f t)) ∧ Below w.heap.size w W := by
 obtain ⟨a,b,h,hab,hb⟩ := touch_nat f t
 have := rcov_c ok f t a b h hab hb A c w hr (by omega) (by omega)
 unfold cov
 rw [h]
 simp only [Int.toNat_natCast]
 rwa [hok] at this
set_option maxRecDepth 100000 in
set_option maxHeartbeats 16000000 in
theorem raccepts_calls (e64 : Int) (he : 0 ≤ e64 ∧ e64 ≤ 18446744073709551615) (F : List Int) (ok : List Bool) (hF : F.length = 832) (hFb : Bytes F) (hok : ok.length = 16) (p : Nat) (hp : p + 11 ≤ 832 ∨ p = 832) (Ab Ao : Option Addr) (cb co : Nat) (hcb : 832 ≤ cb) (hco : 16 ≤ co) (w : World) (hRb : Rd w Ab (nums .u8 F)) (hRo : Rd w Ao (bools ok)) :
  Calls Tryd.prog 30 #[.int .u64 e64,.slice Ab 832 cb,.slice Ao 16 co,.int .i64 (p : Int)] w fun en W => Below w.heap.size w W ∧
   ((told (e64 % 4294967296) F ok p = none ∧ en = .returned (.tuple #[.agg #[.int .i64 0,.int .u32 0,.slice none 0 0],.int .i64 0])) ∨
    (∃ k d A' c',told (e64 % 4294967296) F ok p = some (k,d,11 + d.length) ∧ d.length ≤ 197 ∧ en = .returned (.tuple #[.agg #[.int .i64 k,.int .u32 (e64 % 4294967296),.slice A' d.length c'],.int .i64 ((11 + d.length : Nat) : Int)]) ∧ W.ownsRow w.heap.size 5 1 (.slice A' d.length c') d.length (nums .u8 d))) := by
 have H := Own.start w
 have C1 := fun W h => rcov_own ok hok (p : Int) ((p : Int) + 11) Ao co hco W h
 have w1 : IntKind.i64.wrap ((p : Int) + 11) = (p : Int) + 11 := by rw [IntKind.wrap_i64];omega
 have w2 : IntKind.u32.wrap (e64 % 4294967296) = e64 % 4294967296 := by rw [IntKind.wrap_u32];omega
 have hee : 0 ≤ e64 % 4294967296 ∧ e64 % 4294967296 ≤ 4294967295 := by omega
 have htm : e64.tmod 4294967296 = e64 % 4294967296 := Int.tmod_eq_emod_of_nonneg he.1
 obtain ⟨ep,hep⟩ : ∃ x,e64 % 4294967296 = x := ⟨_,rfl⟩
 rw [hep] at w2 hee htm ⊢
 by_cases h832 : p = 832
 ·have hn : told ep F ok p = none := by unfold told;rw [if_pos h832]
  subst h832
  clear w2 hee htm hep
  go_enter Tryd.func30,Tryd.ntmps30
  go_wp2_with (first
  |((with_reducible refine gate_dst (N := 8) rfl ?_);refine l_allocA rfl H 76 rfl _ zero76 ?_;clear H;intro g8 W H)
  |((with_reducible refine gate_store (t := 76) (p := 8) rfl ?_);refine l_storeW rfl H 76 _ _ rfl _ rfl _ rfl (by (repeat (first|exact In.head|apply In.tail))) _ size76 (by (first|rfl|assumption|omega|(simp only [nums_length];omega)|(simp [nums_length,zs];done)|(simp [nums_length,zs];omega))) (by (first|rfl|assumption|omega|(simp only [nums_length];omega)|(simp [nums_length,zs];done)|(simp [nums_length,zs];omega))) (by (first|exact nums_one|assumption|(intro u hu;simp at hu;subst hu;rfl)|(intro u hu;simp at hu;rcases hu with rfl|rfl|rfl|rfl|rfl|rfl|rfl <;> rfl)|(intro u hu;simp at hu;rcases hu with rfl|rfl|rfl|rfl <;> rfl)|(intro u hu;simp at hu;rcases hu with rfl|rfl|rfl <;> rfl)|(intro u hu;simp at hu;rcases hu with rfl|rfl <;> rfl))) ?_;clear H;intro W H))
  refine bodyPost_ret (results_ct (p := 8) (ty := 76) rfl _ _ g8 76 _ (0,0) _ rfl (H.heap .head) Tryd.underlying76 rfl size76) rfl ?_
  first|exact ⟨H.below,.inl ⟨hn,rfl⟩⟩|exact ⟨H.below,rfl⟩
 have hplt : p < 832 := by omega
 have q1 : decide ((p : Int) + 11 > 832) = false := decide_eq_false (by omega)
 have q1' : decide ((832 : Int) < (p : Int) + 11) = false := decide_eq_false (by omega)
 cases hc1 : cov ok (p : Int) ((p : Int) + 11) with
 |false =>
  have hn : told ep F ok p = none := by unfold told;rw [if_neg h832,if_pos hc1]
  rw [hc1] at C1
  clear w2 hee htm hep
  go_enter Tryd.func30,Tryd.ntmps30
  go_wp2_with (first
  |((with_reducible refine gate_dst (N := 8) rfl ?_);refine l_allocA rfl H 76 rfl _ zero76 ?_;clear H;intro g8 W H)
  |((with_reducible refine gate_store (t := 76) (p := 8) rfl ?_);refine l_storeW rfl H 76 _ _ rfl _ rfl _ rfl (by (repeat (first|exact In.head|apply In.tail))) _ size76 (by (first|rfl|assumption|omega|(simp only [nums_length];omega)|(simp [nums_length,zs];done)|(simp [nums_length,zs];omega))) (by (first|rfl|assumption|omega|(simp only [nums_length];omega)|(simp [nums_length,zs];done)|(simp [nums_length,zs];omega))) (by (first|exact nums_one|assumption|(intro u hu;simp at hu;subst hu;rfl)|(intro u hu;simp at hu;rcases hu with rfl|rfl|rfl|rfl|rfl|rfl|rfl <;> rfl)|(intro u hu;simp at hu;rcases hu with rfl|rfl|rfl|rfl <;> rfl)|(intro u hu;simp at hu;rcases hu with rfl|rfl|rfl <;> rfl)|(intro u hu;simp at hu;rcases hu with rfl|rfl <;> rfl))) ?_;clear H;intro W H)
  |(go_at_call 55;(with_reducible refine (C1 _ (hRo.below H.below)).mono ?_);rintro e W ⟨rfl,hb⟩;replace H := H.to hb;clear hb))
  refine bodyPost_ret (results_ct (p := 8) (ty := 76) rfl _ _ g8 76 _ (0,0) _ rfl (H.heap .head) Tryd.underlying76 rfl size76) rfl ?_
  first|exact ⟨H.below,.inl ⟨hn,rfl⟩⟩|exact ⟨H.below,rfl⟩
 |true =>
  rw [hc1] at C1
  have LC := fun W => rleft_c (p : Int) W
  have hlf : lf (p : Int) = 208 - (p : Int) % 208 := by unfold lf;rw [if_neg (by omega)]
  rw [cl_in (a := (p : Int)) (by omega) (by omega)] at LC
  obtain ⟨lfn,hlfn⟩ : ∃ m,(lf (p : Int)).toNat = m := ⟨_,rfl⟩
  obtain ⟨hi,hhi⟩ : ∃ m,p + lfn = m := ⟨_,rfl⟩
  have hlc : lf (p : Int) = (lfn : Int) := by omega
  rw [hlc] at LC
  have hhl : hi - p = lfn := by omega
  have hh8 : p + lfn ≤ 832 := by omega
  have hph : p ≤ hi := by omega
  have hhc : hi ≤ cb := by omega
  have w3 : IntKind.i64.wrap ((p : Int) + (lfn : Int)) = (hi : Int) := by rw [IntKind.wrap_i64];omega
  have hfl : (frAt F p).length = lfn := by unfold frAt;rw [hlfn,List.length_take,List.length_drop];omega
  have hfb : Bytes (frAt F p) := bytes_take (bytes_drop hFb _) _
  have DC0 := fun W (hr : Rd W Ab (nums .u8 F)) => rdecode_calls (frAt F p) ep (dropA Ab p cb 1) (cb - p) W (by rw [hfl];exact fr_C hr hF hcb hplt hlfn hh8) (by rw [hfl];omega) hfb
  rw [hfl] at DC0
  have htold : told ep F ok p = if decE (frAt F p) ep ≠ 0 then none else if cov ok p (p + (11 + (nOf (frAt F p) : Int))) = false then none else some (kOf (frAt F p),decD (frAt F p),11 + nOf (frAt F p)) := by unfold told;rw [if_neg h832,if_neg (by rw [hc1];decide)]
  by_cases hdE : decE (frAt F p) ep ≠ 0
  ·have DC : ∀ W,Rd W Ab (nums .u8 F) → Calls Tryd.prog 56 #[.slice (dropA Ab p cb 1) lfn (cb - p),.int .u32 ep] W fun e W' => e = .returned (.tuple #[.agg #[.int .i64 0,.int .u32 0,.slice none 0 0],.int .i64 0,.int .i64 (decE (frAt F p) ep)]) ∧ Below W.heap.size W W' := fun W hr => (DC0 W hr).mono (by
    rintro e W' ⟨hb,⟨-,rfl⟩|⟨h0,-⟩⟩
    ·exact ⟨rfl,hb⟩
    ·exact absurd h0 hdE)
   rw [if_pos hdE] at htold
   have q2 : (decE (frAt F p) ep == 0) = false := by simpa using hdE
   have q3 : (decE (frAt F p) ep != 0) = true := by simpa using hdE
   clear DC0 hfl hfb hdE hlf hlfn hhi hlc
   generalize decE (frAt F p) ep = dE at *
   go_enter Tryd.func30,Tryd.ntmps30
   go_wp2_with (first
  |((with_reducible refine gate_dst (N := 8) rfl ?_);refine l_allocA rfl H 76 rfl _ zero76 ?_;clear H;intro g8 W H)
  |((with_reducible refine gate_dst (N := 10) rfl ?_);refine l_allocA rfl H 76 rfl _ zero76 ?_;clear H;intro g10 W H)
  |((with_reducible refine gate_store (t := 76) (p := 10) rfl ?_);refine l_storeW rfl H 76 _ _ rfl _ rfl _ rfl (by (repeat (first|exact In.head|apply In.tail))) _ size76 (by (first|rfl|assumption|omega|(simp only [nums_length];omega)|(simp [nums_length,zs];done)|(simp [nums_length,zs];omega))) (by (first|rfl|assumption|omega|(simp only [nums_length];omega)|(simp [nums_length,zs];done)|(simp [nums_length,zs];omega))) (by (first|exact nums_one|assumption|(intro u hu;simp at hu;subst hu;rfl)|(intro u hu;simp at hu;rcases hu with rfl|rfl|rfl|rfl|rfl|rfl|rfl <;> rfl)|(intro u hu;simp at hu;rcases hu with rfl|rfl|rfl|rfl <;> rfl)|(intro u hu;simp at hu;rcases hu with rfl|rfl|rfl <;> rfl)|(intro u hu;simp at hu;rcases hu with rfl|rfl <;> rfl))) ?_;clear H;intro W H)
  |((with_reducible refine gate_store (t := 76) (p := 8) rfl ?_);refine l_storeW rfl H 76 _ _ rfl _ rfl _ rfl (by (repeat (first|exact In.head|apply In.tail))) _ size76 (by (first|rfl|assumption|omega|(simp only [nums_length];omega)|(simp [nums_length,zs];done)|(simp [nums_length,zs];omega))) (by (first|rfl|assumption|omega|(simp only [nums_length];omega)|(simp [nums_length,zs];done)|(simp [nums_length,zs];omega))) (by (first|exact nums_one|assumption|(intro u hu;simp at hu;subst hu;rfl)|(intro u hu;simp at hu;rcases hu with rfl|rfl|rfl|rfl|rfl|rfl|rfl <;> rfl)|(intro u hu;simp at hu;rcases hu with rfl|rfl|rfl|rfl <;> rfl)|(intro u hu;simp at hu;rcases hu with rfl|rfl|rfl <;> rfl)|(intro u hu;simp at hu;rcases hu with rfl|rfl <;> rfl))) ?_;clear H;intro W H)
   |(go_at_call 55;(with_reducible refine (C1 _ (hRo.below H.below)).mono ?_);rintro e W ⟨rfl,hb⟩;replace H := H.to hb;clear hb)
   |(go_at_call 57;(with_reducible refine (LC _).mono ?_);rintro e W ⟨rfl,hb⟩;replace H := H.to hb;clear hb)
   |((with_reducible refine gate_dst (N := 32) rfl ?_);refine l_run rfl (.slice (dropA Ab p cb 1) lfn (cb - p)) (by rw [← hhl];exact x_slice_lohi _ _ _ rfl rfl Tryd.underlying38 size5 p hi rfl rfl hph hhc _) ?_)
   |(go_at_call 56;(with_reducible refine (DC _ (hRb.below H.below)).mono ?_);rintro e W ⟨rfl,hb⟩;replace H := H.to hb;clear hb))
   replace H := Own.front (r := .blk g8 _ _) H (by repeat (first|exact Del.head|apply Del.tail))
   refine bodyPost_ret (results_ct (p := 8) (ty := 76) rfl _ _ g8 76 _ (0,0) _ rfl (H.heap .head) Tryd.underlying76 rfl size76) rfl ?_
   exact ⟨H.below,.inl ⟨htold,rfl⟩⟩
  ·have hdE0 : decE (frAt F p) ep = 0 := Decidable.of_not_not hdE
   have hdo := dec_ok hdE0
   rw [hfl] at hdo
   have hdl : (decD (frAt F p)).length = nOf (frAt F p) := by unfold decD;rw [List.length_drop,List.length_take];omega
   obtain ⟨m,hm⟩ : ∃ m,11 + nOf (frAt F p) = m := ⟨_,rfl⟩
   have hee2 : eOf (frAt F p) = ep := hdo.2.2.2.1
   have DC : ∀ W,Rd W Ab (nums .u8 F) → Calls Tryd.prog 56 #[.slice (dropA Ab p cb 1) lfn (cb - p),.int .u32 ep] W fun e W' => ∃ A9 c9,e = .returned (.tuple #[.agg #[.int .i64 (kOf (frAt F p)),.int .u32 ep,.slice A9 (nOf (frAt F p)) c9],.int .i64 (m : Int),.int .i64 0]) ∧ W'.ownsRow W.heap.size 5 1 (.slice A9 (nOf (frAt F p)) c9) (nOf (frAt F p)) (nums .u8 (decD (frAt F p))) ∧ Below W.heap.size W W' := fun W hr => (DC0 W hr).mono (by
    rintro e W' ⟨hb,⟨h0,-⟩|⟨-,A9,c9,rfl,-,-,ho⟩⟩
    ·exact absurd hdE0 h0
    ·exact ⟨A9,c9,by rw [← hm,hee2];rfl,ho,hb⟩)
   rw [if_neg hdE,show ((p : Int) + (11 + (nOf (frAt F p) : Int))) = (p : Int) + (m : Int) by omega,hm] at htold
   have hn197 := hdo.2.2.1
   have C2 := fun W h => rcov_own ok hok (p : Int) ((p : Int) + (m : Int)) Ao co hco W h
   have w4 : IntKind.i64.wrap ((p : Int) + (m : Int)) = ((p + m : Nat) : Int) := by rw [IntKind.wrap_i64];omega
   have hpm : p + m ≤ 832 := by omega
   rw [show (p : Int) + (m : Int) = ((p + m : Nat) : Int) by omega] at C2 htold
   have hm4 : m ≤ 1000 := by omega
   clear DC0 hfl hfb hdo hdE hdE0 hee2
   generalize kOf (frAt F p) = kk at *
   generalize decD (frAt F p) = d at *
   generalize nOf (frAt F p) = nn at *
   clear hlf hlfn hhi hlc
   obtain ⟨pm,hpmm⟩ : ∃ y,p + m = y := ⟨_,rfl⟩
   rw [hpmm] at w4 C2 htold hpm
   cases hc2 : cov ok (p : Int) (pm : Int) with
   |false =>
    rw [hc2] at C2
    rw [if_pos hc2] at htold
    go_enter Tryd.func30,Tryd.ntmps30
    go_wp2_with (first
  |((with_reducible refine gate_dst (N := 8) rfl ?_);refine l_allocA rfl H 76 rfl _ zero76 ?_;clear H;intro g8 W H)
  |((with_reducible refine gate_dst (N := 10) rfl ?_);refine l_allocA rfl H 76 rfl _ zero76 ?_;clear H;intro g10 W H)
  |((with_reducible refine gate_store (t := 76) (p := 10) rfl ?_);refine l_storeW rfl H 76 _ _ rfl _ rfl _ rfl (by (repeat (first|exact In.head|apply In.tail))) _ size76 (by (first|rfl|assumption|omega|(simp only [nums_length];omega)|(simp [nums_length,zs];done)|(simp [nums_length,zs];omega))) (by (first|rfl|assumption|omega|(simp only [nums_length];omega)|(simp [nums_length,zs];done)|(simp [nums_length,zs];omega))) (by (first|exact nums_one|assumption|(intro u hu;simp at hu;subst hu;rfl)|(intro u hu;simp at hu;rcases hu with rfl|rfl|rfl|rfl|rfl|rfl|rfl <;> rfl)|(intro u hu;simp at hu;rcases hu with rfl|rfl|rfl|rfl <;> rfl)|(intro u hu;simp at hu;rcases hu with rfl|rfl|rfl <;> rfl)|(intro u hu;simp at hu;rcases hu with rfl|rfl <;> rfl))) ?_;clear H;intro W H)
  |((with_reducible refine gate_store (t := 76) (p := 8) rfl ?_);refine l_storeW rfl H 76 _ _ rfl _ rfl _ rfl (by (repeat (first|exact In.head|apply In.tail))) _ size76 (by (first|rfl|assumption|omega|(simp only [nums_length];omega)|(simp [nums_length,zs];done)|(simp [nums_length,zs];omega))) (by (first|rfl|assumption|omega|(simp only [nums_length];omega)|(simp [nums_length,zs];done)|(simp [nums_length,zs];omega))) (by (first|exact nums_one|assumption|(intro u hu;simp at hu;subst hu;rfl)|(intro u hu;simp at hu;rcases hu with rfl|rfl|rfl|rfl|rfl|rfl|rfl <;> rfl)|(intro u hu;simp at hu;rcases hu with rfl|rfl|rfl|rfl <;> rfl)|(intro u hu;simp at hu;rcases hu with rfl|rfl|rfl <;> rfl)|(intro u hu;simp at hu;rcases hu with rfl|rfl <;> rfl))) ?_;clear H;intro W H)
    |(go_at_call 55;(with_reducible refine (C1 _ (hRo.below H.below)).mono ?_);rintro e W ⟨rfl,hb⟩;replace H := H.to hb;clear hb)
    |(go_at_call 55;(with_reducible refine (C2 _ (hRo.below H.below)).mono ?_);rintro e W ⟨rfl,hb⟩;replace H := H.to hb;clear hb)
    |(go_at_call 57;(with_reducible refine (LC _).mono ?_);rintro e W ⟨rfl,hb⟩;replace H := H.to hb;clear hb)
    |((with_reducible refine gate_dst (N := 32) rfl ?_);refine l_run rfl (.slice (dropA Ab p cb 1) lfn (cb - p)) (by rw [← hhl];exact x_slice_lohi _ _ _ rfl rfl Tryd.underlying38 size5 p hi rfl rfl hph hhc _) ?_)
    |(go_at_call 56;(with_reducible refine (DC _ (hRb.below H.below)).mono ?_);rintro e W ⟨A9,c9,rfl,ho,hb⟩;replace H := H.addRow hb ho;clear hb ho))
    replace H := Own.front (r := .blk g8 _ _) H (by repeat (first|exact Del.head|apply Del.tail))
    refine bodyPost_ret (results_ct (p := 8) (ty := 76) rfl _ _ g8 76 _ (0,0) _ rfl (H.heap .head) Tryd.underlying76 rfl size76) rfl ?_
    exact ⟨H.below,.inl ⟨htold,rfl⟩⟩
   |true =>
    rw [hc2] at C2
    rw [if_neg (by rw [hc2];decide)] at htold
    go_enter Tryd.func30,Tryd.ntmps30
    go_wp2_with (first
  |((with_reducible refine gate_dst (N := 8) rfl ?_);refine l_allocA rfl H 76 rfl _ zero76 ?_;clear H;intro g8 W H)
  |((with_reducible refine gate_dst (N := 10) rfl ?_);refine l_allocA rfl H 76 rfl _ zero76 ?_;clear H;intro g10 W H)
  |((with_reducible refine gate_store (t := 76) (p := 10) rfl ?_);refine l_storeW rfl H 76 _ _ rfl _ rfl _ rfl (by (repeat (first|exact In.head|apply In.tail))) _ size76 (by (first|rfl|assumption|omega|(simp only [nums_length];omega)|(simp [nums_length,zs];done)|(simp [nums_length,zs];omega))) (by (first|rfl|assumption|omega|(simp only [nums_length];omega)|(simp [nums_length,zs];done)|(simp [nums_length,zs];omega))) (by (first|exact nums_one|assumption|(intro u hu;simp at hu;subst hu;rfl)|(intro u hu;simp at hu;rcases hu with rfl|rfl|rfl|rfl|rfl|rfl|rfl <;> rfl)|(intro u hu;simp at hu;rcases hu with rfl|rfl|rfl|rfl <;> rfl)|(intro u hu;simp at hu;rcases hu with rfl|rfl|rfl <;> rfl)|(intro u hu;simp at hu;rcases hu with rfl|rfl <;> rfl))) ?_;clear H;intro W H)
  |((with_reducible refine gate_dst (N := 52) rfl ?_);refine l_loadA rfl H 76 _ rfl _ rfl (by (repeat (first|exact In.head|apply In.tail))) _ _ Tryd.underlying76 rfl size76 (by (first|rfl|assumption|omega|(simp only [nums_length];omega)|(simp [nums_length,zs];done)|(simp [nums_length,zs];omega))) ?_)
  |((with_reducible refine gate_store (t := 76) (p := 8) rfl ?_);refine l_storeW rfl H 76 _ _ rfl _ rfl _ rfl (by (repeat (first|exact In.head|apply In.tail))) _ size76 (by (first|rfl|assumption|omega|(simp only [nums_length];omega)|(simp [nums_length,zs];done)|(simp [nums_length,zs];omega))) (by (first|rfl|assumption|omega|(simp only [nums_length];omega)|(simp [nums_length,zs];done)|(simp [nums_length,zs];omega))) (by (first|exact nums_one|assumption|(intro u hu;simp at hu;subst hu;rfl)|(intro u hu;simp at hu;rcases hu with rfl|rfl|rfl|rfl|rfl|rfl|rfl <;> rfl)|(intro u hu;simp at hu;rcases hu with rfl|rfl|rfl|rfl <;> rfl)|(intro u hu;simp at hu;rcases hu with rfl|rfl|rfl <;> rfl)|(intro u hu;simp at hu;rcases hu with rfl|rfl <;> rfl))) ?_;clear H;intro W H)
    |(go_at_call 55;(with_reducible refine (C1 _ (hRo.below H.below)).mono ?_);rintro e W ⟨rfl,hb⟩;replace H := H.to hb;clear hb)
    |(go_at_call 55;(with_reducible refine (C2 _ (hRo.below H.below)).mono ?_);rintro e W ⟨rfl,hb⟩;replace H := H.to hb;clear hb)
    |(go_at_call 57;(with_reducible refine (LC _).mono ?_);rintro e W ⟨rfl,hb⟩;replace H := H.to hb;clear hb)
    |((with_reducible refine gate_dst (N := 32) rfl ?_);refine l_run rfl (.slice (dropA Ab p cb 1) lfn (cb - p)) (by rw [← hhl];exact x_slice_lohi _ _ _ rfl rfl Tryd.underlying38 size5 p hi rfl rfl hph hhc _) ?_)
    |(go_at_call 56;(with_reducible refine (DC _ (hRb.below H.below)).mono ?_);rintro e W ⟨A9,c9,rfl,ho,hb⟩;replace H := H.addRow hb ho;clear hb ho))
    replace H := Own.front (r := .blk g8 _ _) H (by repeat (first|exact Del.head|apply Del.tail))
    refine bodyPost_ret (results_ct (p := 8) (ty := 76) rfl _ _ g8 76 _ (0,0) _ rfl (H.heap .head) Tryd.underlying76 rfl size76) rfl ?_
    exact ⟨H.below,.inr ⟨kk,d,A9,c9,by rw [hdl,hm];exact htold,by omega,by rw [hdl,hm];rfl,by rw [hdl];exact H.at_ (r := .row (.slice A9 nn c9) _ _ _ _) (by repeat (first|exact In.head|apply In.tail))⟩⟩
end Go.Proofs.YtaekpfhgdnfciaaDoor.O
end
