/- Texts of mine put together: ScanRest, Scan, RSectors, FlFew, ScanB, Awake19, MixR, BitR, AppR, RApply. -/
import Derived.Test.YtaekpfhgdnfciaaDoorPkTearScans14
import Derived.Test.YtaekpfhgdnfciaaDoorPkTearScans6
import Derived.Test.YtaekpfhgdnfciaaDoorPkTearScans11
import Derived.Test.YtaekpfhgdnfciaaDoorPkTearScans5
import Derived.Test.YtaekpfhgdnfciaaDoorPkTearScans13
import Derived.Test.YtaekpfhgdnfciaaDoorPkTearScans3
import Derived.Test.YtaekpfhgdnfciaaDoorPkTearScans2
import Derived.Lib.SlBytesConst
import Derived.Lib.SmallJoins
import Derived.Test.YtaekpfhgdnfciaaDoorPkTearScans4
import Derived.Lib.Hide
section
/- scan.Rest, by what is owned. -/
set_option linter.unusedVariables false
set_option linter.unusedSimpArgs false
namespace Go.Proofs.YtaekpfhgdnfciaaDoor.O
open Go.RowKit Go.Proofs.YtaekpfhgdnfciaaDoorW.PrintWords Go.Proofs.YtaekpfhgdnfciaaDoorW.PrintLast Go.Proofs.YtaekpfhgdnfciaaDoorW.PrintMore Go.Proofs.YtaekpfhgdnfciaaDoor.F Go.Proofs.YtaekpfhgdnfciaaDoor.F.Nums Go.Proofs.YtaekpfhgdnfciaaDoor.Plain
attribute [local go_sem] max2_int min2_int max_two min_two max_three min_three max_four min_four
theorem all0_no {l : List Int} {j : Nat} (hj : j < l.length) (h : l.getD j 0 ≠ 0) : l.all (· == 0) = false := by
 rw [Bool.eq_false_iff]
 intro h2
 rw [List.all_eq_true] at h2
 have := h2 l[j] (List.getElem_mem hj)
 rw [beq_iff_eq] at this
 rw [List.getD_eq_getElem?_getD,List.getElem?_eq_getElem hj] at h
 exact h this
theorem all0_snoc {l : List Int} {j : Nat} (hj : j < l.length) (h : (l.take j).all (· == 0) = true) (h2 : l.getD j 0 = 0) : (l.take (j + 1)).all (· == 0) = true := by
 rw [List.take_add_one,List.getElem?_eq_getElem hj,List.all_append,h]
 rw [List.getD_eq_getElem?_getD,List.getElem?_eq_getElem hj] at h2
 have h3 : l[j] = 0 := h2
 simp [h3]
set_option maxRecDepth 100000 in
set_option maxHeartbeats 8000000 in
theorem rest_calls (fl : List Int) (n : Nat) (hf : fl.length = 64 * n) (hb : Bytes fl) (e : Int) (A : Option Addr) (c : Nat) (w : World) (hr : Rd w A (nums .u8 fl)) (hc : n ≤ c) (hn : 64 * n ≤ 140737488355328) :
  Calls Tryd.prog 13 #[.slice A n c,.int .i64 e] w fun en W => en = .returned (.bool (Img.restB fl n (cl e))) ∧ Below w.heap.size w W := by
 have H := Own.start w
 have h0 := cl_lo e
 have h8 := cl_hi e
 obtain ⟨sec,hsec⟩ : ∃ s : Nat,cl e / 52 = s := ⟨(cl e / 52).toNat,by omega⟩
 obtain ⟨off,hoff⟩ : ∃ s : Nat,cl e % 52 = s := ⟨(cl e % 52).toNat,by omega⟩
 have WC := fun W => span_Where.calls e _ _ W (SpanP.where_eq e)
 rw [hsec,hoff] at WC
 have ho51 : off ≤ 51 := by omega
 have hce : cl e = 52 * (sec : Int) + off := by omega
 rw [Img.restB_eq]
 generalize cl e = ce at *
 obtain ⟨m,hm⟩ : ∃ m,min n 16 = m := ⟨_,rfl⟩
 rw [hm]
 have m1 : (if (n : Int) < 16 then (n : Int) else 16) = (m : Int) := by split <;> omega
 have m2 : (if (16 : Int) < (n : Int) then (16 : Int) else (n : Int)) = (m : Int) := by split <;> omega
 have m3 : min (n : Int) 16 = (m : Int) := by omega
 have hmc : m ≤ c := by omega
 have hmn : m ≤ n := by omega
 clear hsec hoff h0 h8
 go_enter Tryd.func13,Tryd.ntmps13
 go_wp2_with (first
  |((with_reducible refine gate_dst (N := 5) rfl ?_);refine l_allocA rfl H 83 rfl _ zero83 ?_;clear H;intro g5 W H)
  |((with_reducible refine gate_store (t := 83) (p := 5) rfl ?_);refine l_storeW rfl H 83 _ _ rfl _ rfl _ rfl (by (repeat (first|exact In.head|apply In.tail))) _ size83 (by (first|rfl|assumption|omega|(simp only [nums_length];omega)|(simp [nums_length,zs];done)|(simp [nums_length,zs];omega))) (by (first|rfl|assumption|omega|(simp only [nums_length];omega)|(simp [nums_length,zs];done)|(simp [nums_length,zs];omega))) (by (first|exact nums_one|assumption|(intro u hu;simp at hu;subst hu;rfl)|(intro u hu;simp at hu;rcases hu with rfl|rfl|rfl|rfl|rfl|rfl|rfl <;> rfl)|(intro u hu;simp at hu;rcases hu with rfl|rfl|rfl|rfl <;> rfl)|(intro u hu;simp at hu;rcases hu with rfl|rfl|rfl <;> rfl)|(intro u hu;simp at hu;rcases hu with rfl|rfl <;> rfl))) ?_;clear H;intro W H)
  |((with_reducible refine gate_dst (N := 16) rfl ?_);refine l_run rfl (.slice A m c) (x_slice_to _ _ rfl rfl Tryd.underlying23 size51 m rfl hmc _) ?_)
  |(go_at_call 32;(with_reducible refine (WC _).mono ?_);rintro en W ⟨rfl,hb'⟩;replace H := H.to hb';clear hb'))
 have hfs := fun k (hk : k < n) => secAt_len hf hk
 go_loopg [18] m (fun gq v18 w' => ∃ k : Nat,v18 = .int .i64 (k : Int) ∧ k + gq = m ∧ Img.restU fl ce k = true ∧ Own w F0 [.blk g5 83 [.int .i64 (sec : Int),.int .i64 (off : Int)]] w')
 case atStart => exact ⟨0,rfl,by omega,rfl,H⟩
 case round =>
  clear H
  obtain ⟨k,rfl,hk,hU,H⟩ := hrel
  by_cases ck : k < m
  ·obtain ⟨gk',rfl⟩ : ∃ q,gk = q + 1 := ⟨gk - 1,by omega⟩
   have q1 : decide (k < m) = true := decide_eq_true ck
   have hsl := hfs k (by omega)
   have hsb : Bytes (secAt fl k) := bytes_take (bytes_drop hb _) _
   obtain ⟨ad,rfl⟩ := hr.some_ (by rw [nums_length];omega)
   have p0 : ((0 : Int) ≤ (k : Int)) = True := eq_true (by omega)
   have p1 : ((k : Int) < (m : Int)) = True := eq_true (by omega)
   have hfit : k * 64 + 64 ≤ (nums .u8 fl).length := by rw [nums_length];omega
   have hnu : ((nums .u8 fl).drop (k * 64)).take 64 = nums .u8 (secAt fl k) := by rw [nums_drop,nums_take,Nat.mul_comm];rfl
   have hsucc := Img.restU_succ fl ce k
   have hskip : k < sec → Img.secRest (secAt fl k) k ce = true := fun h => Img.secRest_skip _ _ _ (by omega)
   have hempty : (sec < k ∨ (sec = k ∧ off = 0)) → Img.secRest (secAt fl k) k ce = (secAt fl k == zs 64) := fun h => Img.secRest_empty _ hsl _ _ (by omega)
   have htail : sec = k → 0 < off → Img.secRest (secAt fl k) k ce = ((secAt fl k).drop (12 + off)).all (· == 0) := fun h h2 => Img.secRest_tail _ hsl _ off _ h2 (by omega) ho51
   have hfalse : Img.secRest (secAt fl k) k ce = false → Img.restU fl ce m = false := fun h => Img.restU_false fl ce k m ck h
   generalize secAt fl k = x at *
   rcases (show k < sec ∨ (sec < k) ∨ (sec = k ∧ off = 0) ∨ (sec = k ∧ 0 < off) by omega) with h1|h1|⟨rfl,rfl⟩|⟨rfl,h1⟩
   ·have q2 : decide (k < sec) = true := decide_eq_true h1
    rw [hU,hskip h1] at hsucc
    go_wp2_with (first
  |((with_reducible refine gate_dst (N := 7) rfl ?_);refine l_allocA rfl H 51 rfl _ zero51 ?_;clear H;intro g7 W H)
  |((with_reducible refine gate_store (t := 51) (p := 7) rfl ?_);refine l_storeW rfl H 51 _ _ rfl _ rfl _ rfl (by (repeat (first|exact In.head|apply In.tail))) _ size51 (by (first|rfl|assumption|omega|(simp only [nums_length];omega)|(simp [nums_length,zs];done)|(simp [nums_length,zs];omega))) (by (first|rfl|assumption|omega|(simp only [nums_length];omega)|(simp [nums_length,zs];done)|(simp [nums_length,zs];omega))) (by (first|exact nums_one|assumption|(intro u hu;simp at hu;subst hu;rfl)|(intro u hu;simp at hu;rcases hu with rfl|rfl|rfl|rfl|rfl|rfl|rfl <;> rfl)|(intro u hu;simp at hu;rcases hu with rfl|rfl|rfl|rfl <;> rfl)|(intro u hu;simp at hu;rcases hu with rfl|rfl|rfl <;> rfl)|(intro u hu;simp at hu;rcases hu with rfl|rfl <;> rfl))) ?_;clear H;intro W H)
  |((with_reducible refine gate_dst (N := 38) rfl ?_);refine l_load1 rfl H 3 _ rfl _ _ rfl (by (repeat (first|exact In.head|apply In.tail))) _ Tryd.underlying3 rfl _ (by first|rfl|assumption|exact nums_at _ (by omega)) ?_)
     |((with_reducible refine gate_dst (N := 22) rfl ?_);refine l_loadRd rfl 51 _ rfl (k * 64) rfl (hr.below H.below) 64 _ Tryd.underlying51 rfl size51 (by decide) hfit ?_;rw [hnu]))
    go_roundg gk'
    case measure => omega
    case rel => exact ⟨k + 1,by go_num,by omega,hsucc,H.del .head⟩
   ·have q2 : decide (k < sec) = false := decide_eq_false (by omega)
    have q3 : decide (sec < k) = true := decide_eq_true h1
    rw [hempty (.inl h1)] at hsucc hfalse
    have EC := fun W => empty_c x hsl hsb W
    cases he : (x == zs 64) with
    |true =>
     rw [he,hU] at hsucc
     rw [he] at EC
     go_wp2_with (first
  |((with_reducible refine gate_dst (N := 7) rfl ?_);refine l_allocA rfl H 51 rfl _ zero51 ?_;clear H;intro g7 W H)
  |((with_reducible refine gate_store (t := 51) (p := 7) rfl ?_);refine l_storeW rfl H 51 _ _ rfl _ rfl _ rfl (by (repeat (first|exact In.head|apply In.tail))) _ size51 (by (first|rfl|assumption|omega|(simp only [nums_length];omega)|(simp [nums_length,zs];done)|(simp [nums_length,zs];omega))) (by (first|rfl|assumption|omega|(simp only [nums_length];omega)|(simp [nums_length,zs];done)|(simp [nums_length,zs];omega))) (by (first|exact nums_one|assumption|(intro u hu;simp at hu;subst hu;rfl)|(intro u hu;simp at hu;rcases hu with rfl|rfl|rfl|rfl|rfl|rfl|rfl <;> rfl)|(intro u hu;simp at hu;rcases hu with rfl|rfl|rfl|rfl <;> rfl)|(intro u hu;simp at hu;rcases hu with rfl|rfl|rfl <;> rfl)|(intro u hu;simp at hu;rcases hu with rfl|rfl <;> rfl))) ?_;clear H;intro W H)
  |((with_reducible refine gate_dst (N := 38) rfl ?_);refine l_load1 rfl H 3 _ rfl _ _ rfl (by (repeat (first|exact In.head|apply In.tail))) _ Tryd.underlying3 rfl _ (by first|rfl|assumption|exact nums_at _ (by omega)) ?_)
  |((with_reducible refine gate_dst (N := 43) rfl ?_);refine l_load1 rfl H 3 _ rfl _ _ rfl (by (repeat (first|exact In.head|apply In.tail))) _ Tryd.underlying3 rfl _ (by first|rfl|assumption|exact nums_at _ (by omega)) ?_)
  |((with_reducible refine gate_dst (N := 47) rfl ?_);refine gate_guard (by rfl) ?_;refine l_load1 rfl H 3 _ rfl _ _ rfl (by (repeat (first|exact In.head|apply In.tail))) _ Tryd.underlying3 rfl _ (by first|rfl|assumption|exact nums_at _ (by omega)) ?_)
  |((with_reducible refine gate_dst (N := 50) rfl ?_);refine l_loadA rfl H 51 _ rfl _ rfl (by (repeat (first|exact In.head|apply In.tail))) _ _ Tryd.underlying51 rfl size51 (by (first|rfl|assumption|omega|(simp only [nums_length];omega)|(simp [nums_length,zs];done)|(simp [nums_length,zs];omega))) ?_)
      |((with_reducible refine gate_dst (N := 22) rfl ?_);refine l_loadRd rfl 51 _ rfl (k * 64) rfl (hr.below H.below) 64 _ Tryd.underlying51 rfl size51 (by decide) hfit ?_;rw [hnu])
      |(go_at_call 33;(with_reducible refine (EC _).mono ?_);rintro en W ⟨rfl,hb'⟩;replace H := H.to hb';clear hb'))
     go_roundg gk'
     case measure => omega
     case rel => exact ⟨k + 1,by go_num,by omega,hsucc,H.del .head⟩
    |false =>
     rw [he] at EC
     go_wp2_with (first
  |((with_reducible refine gate_dst (N := 7) rfl ?_);refine l_allocA rfl H 51 rfl _ zero51 ?_;clear H;intro g7 W H)
  |((with_reducible refine gate_store (t := 51) (p := 7) rfl ?_);refine l_storeW rfl H 51 _ _ rfl _ rfl _ rfl (by (repeat (first|exact In.head|apply In.tail))) _ size51 (by (first|rfl|assumption|omega|(simp only [nums_length];omega)|(simp [nums_length,zs];done)|(simp [nums_length,zs];omega))) (by (first|rfl|assumption|omega|(simp only [nums_length];omega)|(simp [nums_length,zs];done)|(simp [nums_length,zs];omega))) (by (first|exact nums_one|assumption|(intro u hu;simp at hu;subst hu;rfl)|(intro u hu;simp at hu;rcases hu with rfl|rfl|rfl|rfl|rfl|rfl|rfl <;> rfl)|(intro u hu;simp at hu;rcases hu with rfl|rfl|rfl|rfl <;> rfl)|(intro u hu;simp at hu;rcases hu with rfl|rfl|rfl <;> rfl)|(intro u hu;simp at hu;rcases hu with rfl|rfl <;> rfl))) ?_;clear H;intro W H)
  |((with_reducible refine gate_dst (N := 38) rfl ?_);refine l_load1 rfl H 3 _ rfl _ _ rfl (by (repeat (first|exact In.head|apply In.tail))) _ Tryd.underlying3 rfl _ (by first|rfl|assumption|exact nums_at _ (by omega)) ?_)
  |((with_reducible refine gate_dst (N := 43) rfl ?_);refine l_load1 rfl H 3 _ rfl _ _ rfl (by (repeat (first|exact In.head|apply In.tail))) _ Tryd.underlying3 rfl _ (by first|rfl|assumption|exact nums_at _ (by omega)) ?_)
  |((with_reducible refine gate_dst (N := 47) rfl ?_);refine gate_guard (by rfl) ?_;refine l_load1 rfl H 3 _ rfl _ _ rfl (by (repeat (first|exact In.head|apply In.tail))) _ Tryd.underlying3 rfl _ (by first|rfl|assumption|exact nums_at _ (by omega)) ?_)
  |((with_reducible refine gate_dst (N := 50) rfl ?_);refine l_loadA rfl H 51 _ rfl _ rfl (by (repeat (first|exact In.head|apply In.tail))) _ _ Tryd.underlying51 rfl size51 (by (first|rfl|assumption|omega|(simp only [nums_length];omega)|(simp [nums_length,zs];done)|(simp [nums_length,zs];omega))) ?_)
      |((with_reducible refine gate_dst (N := 22) rfl ?_);refine l_loadRd rfl 51 _ rfl (k * 64) rfl (hr.below H.below) 64 _ Tryd.underlying51 rfl size51 (by decide) hfit ?_;rw [hnu])
      |(go_at_call 33;(with_reducible refine (EC _).mono ?_);rintro en W ⟨rfl,hb'⟩;replace H := H.to hb';clear hb'))
     go_ret
     exact ⟨by rw [hfalse he];rfl,H.below⟩
   ·have q2 : decide (sec < sec) = false := decide_eq_false (by omega)
    rw [hempty (.inr ⟨rfl,rfl⟩)] at hsucc hfalse
    have EC := fun W => empty_c x hsl hsb W
    cases he : (x == zs 64) with
    |true =>
     rw [he,hU] at hsucc
     rw [he] at EC
     go_wp2_with (first
  |((with_reducible refine gate_dst (N := 7) rfl ?_);refine l_allocA rfl H 51 rfl _ zero51 ?_;clear H;intro g7 W H)
  |((with_reducible refine gate_store (t := 51) (p := 7) rfl ?_);refine l_storeW rfl H 51 _ _ rfl _ rfl _ rfl (by (repeat (first|exact In.head|apply In.tail))) _ size51 (by (first|rfl|assumption|omega|(simp only [nums_length];omega)|(simp [nums_length,zs];done)|(simp [nums_length,zs];omega))) (by (first|rfl|assumption|omega|(simp only [nums_length];omega)|(simp [nums_length,zs];done)|(simp [nums_length,zs];omega))) (by (first|exact nums_one|assumption|(intro u hu;simp at hu;subst hu;rfl)|(intro u hu;simp at hu;rcases hu with rfl|rfl|rfl|rfl|rfl|rfl|rfl <;> rfl)|(intro u hu;simp at hu;rcases hu with rfl|rfl|rfl|rfl <;> rfl)|(intro u hu;simp at hu;rcases hu with rfl|rfl|rfl <;> rfl)|(intro u hu;simp at hu;rcases hu with rfl|rfl <;> rfl))) ?_;clear H;intro W H)
  |((with_reducible refine gate_dst (N := 38) rfl ?_);refine l_load1 rfl H 3 _ rfl _ _ rfl (by (repeat (first|exact In.head|apply In.tail))) _ Tryd.underlying3 rfl _ (by first|rfl|assumption|exact nums_at _ (by omega)) ?_)
  |((with_reducible refine gate_dst (N := 43) rfl ?_);refine l_load1 rfl H 3 _ rfl _ _ rfl (by (repeat (first|exact In.head|apply In.tail))) _ Tryd.underlying3 rfl _ (by first|rfl|assumption|exact nums_at _ (by omega)) ?_)
  |((with_reducible refine gate_dst (N := 47) rfl ?_);refine gate_guard (by rfl) ?_;refine l_load1 rfl H 3 _ rfl _ _ rfl (by (repeat (first|exact In.head|apply In.tail))) _ Tryd.underlying3 rfl _ (by first|rfl|assumption|exact nums_at _ (by omega)) ?_)
  |((with_reducible refine gate_dst (N := 50) rfl ?_);refine l_loadA rfl H 51 _ rfl _ rfl (by (repeat (first|exact In.head|apply In.tail))) _ _ Tryd.underlying51 rfl size51 (by (first|rfl|assumption|omega|(simp only [nums_length];omega)|(simp [nums_length,zs];done)|(simp [nums_length,zs];omega))) ?_)
      |((with_reducible refine gate_dst (N := 22) rfl ?_);refine l_loadRd rfl 51 _ rfl (sec * 64) rfl (hr.below H.below) 64 _ Tryd.underlying51 rfl size51 (by decide) hfit ?_;rw [hnu])
      |(go_at_call 33;(with_reducible refine (EC _).mono ?_);rintro en W ⟨rfl,hb'⟩;replace H := H.to hb';clear hb'))
     go_roundg gk'
     case measure => omega
     case rel => exact ⟨sec + 1,by go_num,by omega,hsucc,H.del .head⟩
    |false =>
     rw [he] at EC
     go_wp2_with (first
  |((with_reducible refine gate_dst (N := 7) rfl ?_);refine l_allocA rfl H 51 rfl _ zero51 ?_;clear H;intro g7 W H)
  |((with_reducible refine gate_store (t := 51) (p := 7) rfl ?_);refine l_storeW rfl H 51 _ _ rfl _ rfl _ rfl (by (repeat (first|exact In.head|apply In.tail))) _ size51 (by (first|rfl|assumption|omega|(simp only [nums_length];omega)|(simp [nums_length,zs];done)|(simp [nums_length,zs];omega))) (by (first|rfl|assumption|omega|(simp only [nums_length];omega)|(simp [nums_length,zs];done)|(simp [nums_length,zs];omega))) (by (first|exact nums_one|assumption|(intro u hu;simp at hu;subst hu;rfl)|(intro u hu;simp at hu;rcases hu with rfl|rfl|rfl|rfl|rfl|rfl|rfl <;> rfl)|(intro u hu;simp at hu;rcases hu with rfl|rfl|rfl|rfl <;> rfl)|(intro u hu;simp at hu;rcases hu with rfl|rfl|rfl <;> rfl)|(intro u hu;simp at hu;rcases hu with rfl|rfl <;> rfl))) ?_;clear H;intro W H)
  |((with_reducible refine gate_dst (N := 38) rfl ?_);refine l_load1 rfl H 3 _ rfl _ _ rfl (by (repeat (first|exact In.head|apply In.tail))) _ Tryd.underlying3 rfl _ (by first|rfl|assumption|exact nums_at _ (by omega)) ?_)
  |((with_reducible refine gate_dst (N := 43) rfl ?_);refine l_load1 rfl H 3 _ rfl _ _ rfl (by (repeat (first|exact In.head|apply In.tail))) _ Tryd.underlying3 rfl _ (by first|rfl|assumption|exact nums_at _ (by omega)) ?_)
  |((with_reducible refine gate_dst (N := 47) rfl ?_);refine gate_guard (by rfl) ?_;refine l_load1 rfl H 3 _ rfl _ _ rfl (by (repeat (first|exact In.head|apply In.tail))) _ Tryd.underlying3 rfl _ (by first|rfl|assumption|exact nums_at _ (by omega)) ?_)
  |((with_reducible refine gate_dst (N := 50) rfl ?_);refine l_loadA rfl H 51 _ rfl _ rfl (by (repeat (first|exact In.head|apply In.tail))) _ _ Tryd.underlying51 rfl size51 (by (first|rfl|assumption|omega|(simp only [nums_length];omega)|(simp [nums_length,zs];done)|(simp [nums_length,zs];omega))) ?_)
      |((with_reducible refine gate_dst (N := 22) rfl ?_);refine l_loadRd rfl 51 _ rfl (sec * 64) rfl (hr.below H.below) 64 _ Tryd.underlying51 rfl size51 (by decide) hfit ?_;rw [hnu])
      |(go_at_call 33;(with_reducible refine (EC _).mono ?_);rintro en W ⟨rfl,hb'⟩;replace H := H.to hb';clear hb'))
     go_ret
     exact ⟨by rw [hfalse he];rfl,H.below⟩
   ·have q2 : decide (sec < sec) = false := decide_eq_false (by omega)
    have q3 : ((off : Int) == 0) = false := by simp;omega
    rw [htail rfl h1] at hsucc hfalse
    obtain ⟨lo,hlo⟩ : ∃ y,12 + off = y := ⟨_,rfl⟩
    obtain ⟨ln,hln⟩ : ∃ y,64 - lo = y := ⟨_,rfl⟩
    have w1 : IntKind.i64.wrap (12 + (off : Int)) = (lo : Int) := by rw [IntKind.wrap_i64];omega
    have hdl : (x.drop lo).length = ln := by rw [List.length_drop];omega
    have hdx : ∀ j,(x.drop lo).getD j 0 = x.getD (lo + j) 0 := fun j => by simp only [List.getD_eq_getElem?_getD,List.getElem?_drop]
    rw [hlo] at hsucc hfalse
    have hlo64 : lo < 64 := by omega
    go_wp2_with (first
  |((with_reducible refine gate_dst (N := 7) rfl ?_);refine l_allocA rfl H 51 rfl _ zero51 ?_;clear H;intro g7 W H)
  |((with_reducible refine gate_store (t := 51) (p := 7) rfl ?_);refine l_storeW rfl H 51 _ _ rfl _ rfl _ rfl (by (repeat (first|exact In.head|apply In.tail))) _ size51 (by (first|rfl|assumption|omega|(simp only [nums_length];omega)|(simp [nums_length,zs];done)|(simp [nums_length,zs];omega))) (by (first|rfl|assumption|omega|(simp only [nums_length];omega)|(simp [nums_length,zs];done)|(simp [nums_length,zs];omega))) (by (first|exact nums_one|assumption|(intro u hu;simp at hu;subst hu;rfl)|(intro u hu;simp at hu;rcases hu with rfl|rfl|rfl|rfl|rfl|rfl|rfl <;> rfl)|(intro u hu;simp at hu;rcases hu with rfl|rfl|rfl|rfl <;> rfl)|(intro u hu;simp at hu;rcases hu with rfl|rfl|rfl <;> rfl)|(intro u hu;simp at hu;rcases hu with rfl|rfl <;> rfl))) ?_;clear H;intro W H)
  |((with_reducible refine gate_dst (N := 38) rfl ?_);refine l_load1 rfl H 3 _ rfl _ _ rfl (by (repeat (first|exact In.head|apply In.tail))) _ Tryd.underlying3 rfl _ (by first|rfl|assumption|exact nums_at _ (by omega)) ?_)
  |((with_reducible refine gate_dst (N := 43) rfl ?_);refine l_load1 rfl H 3 _ rfl _ _ rfl (by (repeat (first|exact In.head|apply In.tail))) _ Tryd.underlying3 rfl _ (by first|rfl|assumption|exact nums_at _ (by omega)) ?_)
  |((with_reducible refine gate_dst (N := 47) rfl ?_);refine gate_guard (by rfl) ?_;refine l_load1 rfl H 3 _ rfl _ _ rfl (by (repeat (first|exact In.head|apply In.tail))) _ Tryd.underlying3 rfl _ (by first|rfl|assumption|exact nums_at _ (by omega)) ?_)
  |((with_reducible refine gate_dst (N := 24) rfl ?_);refine l_load1 rfl H 3 _ rfl _ _ rfl (by (repeat (first|exact In.head|apply In.tail))) _ Tryd.underlying3 rfl _ (by first|rfl|assumption|exact nums_at _ (by omega)) ?_)
     |((with_reducible refine gate_dst (N := 22) rfl ?_);refine l_loadRd rfl 51 _ rfl (sec * 64) rfl (hr.below H.below) 64 _ Tryd.underlying51 rfl size51 (by decide) hfit ?_;rw [hnu])
     |((with_reducible refine gate_dst (N := 26) rfl ?_);refine l_run rfl (.slice (some ⟨g7,lo,none⟩) ln ln) (x_arr_lo' _ _ rfl 0 rfl Tryd.underlying51 size5 lo rfl hlo64 _ lo ln (by omega) hln) ?_))
    go_loopg [28] ln (fun gq v28 w' => ∃ j : Nat,v28 = .int .i64 (j : Int) ∧ j + gq = ln ∧ ((x.drop lo).take j).all (· == 0) = true ∧ Own w F0 [.blk g7 51 (nums .u8 x),.blk g5 83 [.int .i64 (sec : Int),.int .i64 (off : Int)]] w')
    case atStart => exact ⟨0,rfl,by omega,rfl,H⟩
    case round =>
     clear H
     obtain ⟨j,rfl,hj,hz,H⟩ := hrel
     by_cases cj : j < ln
     ·obtain ⟨gk2,rfl⟩ : ∃ q,gk = q + 1 := ⟨gk - 1,by omega⟩
      have r1 : decide (j < ln) = true := decide_eq_true cj
      have s0 : ((0 : Int) ≤ (j : Int)) = True := eq_true (by omega)
      have s1 : ((j : Int) < (ln : Int)) = True := eq_true (by omega)
      have hzz : (nums .u8 x)[lo + j]? = some (.int .u8 ((x.drop lo).getD j 0)) := by rw [hdx];exact nums_at (lo + j) (by omega)
      have hno := fun (h : (x.drop lo).getD j 0 ≠ 0) => all0_no (l := x.drop lo) (by omega) h
      have hyes := fun (h : (x.drop lo).getD j 0 = 0) => all0_snoc (l := x.drop lo) (by omega) hz h
      generalize (x.drop lo).getD j 0 = z at hzz hno hyes
      by_cases ez : z = 0
      ·subst ez
       have hy := hyes rfl
       clear hyes hno
       go_wp2_with (first
        |((with_reducible refine gate_dst (N := 31) rfl ?_);refine l_load1 rfl H 5 _ rfl _ _ rfl .head _ Tryd.underlying5 rfl _ hzz ?_))
       go_roundg gk2
       case measure => omega
       case rel => exact ⟨j + 1,by go_num,by omega,hy,H⟩
      ·have r2 : (z != 0) = true := by simpa using ez
       have hff := hfalse (hno ez)
       go_wp2_with (first
        |((with_reducible refine gate_dst (N := 31) rfl ?_);refine l_load1 rfl H 5 _ rfl _ _ rfl .head _ Tryd.underlying5 rfl _ hzz ?_))
       go_ret
       exact ⟨by rw [hff];rfl,H.below⟩
     ·have r1 : decide (j < ln) = false := decide_eq_false cj
      obtain rfl : j = ln := by omega
      rw [List.take_of_length_le (by omega)] at hz
      rw [hU,hz] at hsucc
      go_wp2
      go_roundg gk'
      case measure => omega
      case rel => exact ⟨sec + 1,by go_num,by omega,hsucc,H.del .head⟩
  ·have q1 : decide (k < m) = false := decide_eq_false ck
   obtain rfl : k = m := by omega
   go_wp2
   go_ret
   exact ⟨by rw [hU];rfl,H.below⟩
end Go.Proofs.YtaekpfhgdnfciaaDoor.O
end

section
/- scan.Scan, by what is owned. -/
set_option linter.unusedVariables false
set_option linter.unusedSimpArgs false
namespace Go.Proofs.YtaekpfhgdnfciaaDoor.O
open Go.RowKit Go.Proofs.YtaekpfhgdnfciaaDoorW.PrintWords Go.Proofs.YtaekpfhgdnfciaaDoorW.PrintLast Go.Proofs.YtaekpfhgdnfciaaDoorW.PrintMore Go.Proofs.YtaekpfhgdnfciaaDoor.F Go.Proofs.YtaekpfhgdnfciaaDoor.F.Nums Go.Proofs.YtaekpfhgdnfciaaDoor.Plain
attribute [local go_sem] max2_int min2_int max_two min_two max_three min_three max_four min_four
theorem new_own {w W : World} {F : Nat → Option Obj} {L : List Res} (H : Own w F L W) : Calls Tryd.prog 26 #[] W fun e W' => ∃ g,e = .returned (.pointer (some ⟨g,0,none⟩)) ∧ Own w F (.blk g 106 [.bool false,.slice none 0 0] :: L) W' :=
 (joinNew_calls W).mono (by
  rintro e W' ⟨rfl,rfl⟩
  exact ⟨_,rfl,H.alloc _ _⟩)
theorem Drs.rd {w W : World} {F : Nat → Option Obj} {L D : List Res} {recs : List (List Int)} {cells : List Value} (h : Drs recs cells D) (H : Own w F L W) (hD : ∀ r ∈ D,r ∈ L) (j : Nat) (hlt : j < recs.length) :
  ∃ A2 c2,cells[j]? = some (.slice A2 (recs.getD j []).length c2) ∧ (recs.getD j []).length ≤ c2 ∧ (∀ W,Own w F L W → (Kd.int .u8).C W A2 (recs.getD j []).length (recs.getD j [])) := by
 obtain ⟨A2,c2,h1,h2,h3⟩ := h.2 j hlt
 refine ⟨A2,c2,h1,h2,fun W H => ?_⟩
 generalize recs.getD j [] = p at *
 by_cases h0 : 0 < p.length
 ·have hat := H.ats _ (hD _ (h3 h0))
  have hR : Kd.R (Kd.int .u8) 5 W w.heap.size (fun _ => True) (.slice A2 p.length c2) p := Kd.R_of_own hat (fun _ _ => trivial)
  obtain ⟨A6,c6,e6,l6,C6⟩ := Kd.R_reads hR
  injection e6 with e7
  rw [e7]
  exact C6
 ·obtain rfl : p = [] := List.eq_nil_of_length_eq_zero (by omega)
  exact ⟨rfl,by simp,fun h => absurd h (by simp)⟩
/-- what is read of the records -/
theorem Drs.C {w W : World} {F : Nat → Option Obj} {L D : List Res} {recs : List (List Int)} {cells : List Value} {A : Option Addr} {cr : Nat} {c : Res → List Res} (h : Drs recs cells D) (H : Own w F L W) (hI : In L (.row (.slice A recs.length cr) 38 1 recs.length cells) c) (hD : ∀ r ∈ D,r ∈ L) (hm : recs.length ≤ 1000) :
  (Kd.slice 5 (Kd.int .u8)).C W A recs.length recs := by
 refine ⟨rfl,by omega,fun hp => ?_⟩
 obtain ⟨ad,rfl,hc⟩ := (H.rd hI).1 (by rw [h.1];exact hp)
 refine ⟨ad,rfl,fun j p hj => ?_⟩
 have hlt := (List.getElem?_eq_some_iff.1 hj).1
 obtain ⟨A2,c2,h1,h2,h3⟩ := h.rd H hD j hlt
 have hpp : recs.getD j [] = p := by rw [List.getD_eq_getElem?_getD,hj];rfl
 rw [hpp] at h1 h2 h3
 refine ⟨[.slice A2 p.length c2],rfl,⟨A2,c2,rfl,h2,h3 W H⟩,fun i u hu => ?_⟩
 have hi : i = 0 := by have := (List.getElem?_eq_some_iff.1 hu).1;simpa using this
 subst hi
 simp at hu
 subst hu
 show W.cell? (ad.add (j * 1 + 0)) = _
 rw [Nat.mul_one,Nat.add_zero]
 exact hc j _ h1
theorem told_adv {ep : Int} {F : List Int} {ok : List Bool} {p : Nat} {k : Int} {d : List Int} {n : Nat} (hp : p ≤ 832) (hF : F.length = 832) (h : told ep F ok p = some (k,d,n)) : p < 832 ∧ 11 ≤ n ∧ p + n ≤ 832 := by
 unfold told at h
 split at h
 ·cases h
 ·rename_i h8
  split at h
  ·cases h
  ·split at h
   ·cases h
   ·rename_i hE
    split at h
    ·cases h
    ·have := Option.some.inj h
     simp only [Prod.mk.injEq] at this
     obtain ⟨-,-,rfl⟩ := this
     have hd := dec_ok (Decidable.of_not_not hE)
     have hl : (frAt F p).length ≤ 832 - p := by unfold frAt;rw [List.length_take,List.length_drop];omega
     omega
theorem step_adv {ep : Int} {F : List Int} {ok : List Bool} {s s' : ScSt} (hF : F.length = 832) (hs : s.at_ ≤ 832) (h : scStep (told ep F ok) s = some s') : s.at_ + 11 ≤ s'.at_ ∧ s'.at_ ≤ 832 ∧ s'.recs.length ≤ s.recs.length + 1 := by
 unfold scStep at h
 have hb : s.at_ ≤ bgN s.at_ := by
  have h2 := bg_ge (cl (s.at_ : Int))
  have h3 := bgN_cast s.at_
  rw [cl_in (a := (s.at_ : Int)) (by omega) (by omega)] at h2 h3
  omega
 cases ht : told ep F ok (bgN s.at_) with
 |none => rw [ht] at h;cases h
 |some x =>
  obtain ⟨k,d,n⟩ := x
  rw [ht] at h
  have ha := told_adv (bgN_le s.at_) hF ht
  simp only at h
  unfold scFed at h
  split at h
  ·cases h
  ·split at h
   ·obtain rfl := Option.some.inj h
    simp only [List.length_append,List.length_singleton]
    omega
   ·obtain rfl := Option.some.inj h
    simp only
    omega
theorem step_no {w W : World} {L : List Res} {gs gj : Nat} {ep : Int} {Ab Ao : Option Addr} {cb co : Nat} {F : List Int} {ok : List Bool} {E : List Res} {s : ScSt} (H : Own w F0 L W) (hS : Sc gs gj ep Ab Ao cb co F ok 0 E s L) (hat : s.at_ ≤ 832) (hrl : s.recs.length ≤ 1000)
  (hF : F.length = 832) (hFb : Bytes F) (hok : ok.length = 16) (hcb : 832 ≤ cb) (hco : 16 ≤ co) (hH : Half w) (hst : scStep (told ep F ok) s = none) :
  Calls Tryd.prog 27 #[.pointer (some ⟨gs,0,none⟩)] W fun e W' => e = .returned (.bool false) ∧ ∃ s' L',Sc gs gj ep Ab Ao cb co F ok 0 E s' L' ∧ s'.recs = s.recs ∧ s'.places = s.places ∧ s'.en = s.en ∧ Own w F0 L' W' :=
 (step_calls H hS hat hrl hF hFb hok hcb hco hH).mono (by
  rintro e W' (⟨-,rfl,h⟩|⟨s',h,-⟩)
  ·exact ⟨rfl,h⟩
  ·rw [hst] at h;cases h)
theorem step_go {w W : World} {L : List Res} {gs gj : Nat} {ep : Int} {Ab Ao : Option Addr} {cb co : Nat} {F : List Int} {ok : List Bool} {E : List Res} {s : ScSt} (H : Own w F0 L W) (hS : Sc gs gj ep Ab Ao cb co F ok 0 E s L) (hat : s.at_ ≤ 832) (hrl : s.recs.length ≤ 1000)
  (hF : F.length = 832) (hFb : Bytes F) (hok : ok.length = 16) (hcb : 832 ≤ cb) (hco : 16 ≤ co) (hH : Half w) {s' : ScSt} (hst : scStep (told ep F ok) s = some s') :
  Calls Tryd.prog 27 #[.pointer (some ⟨gs,0,none⟩)] W fun e W' => e = .returned (.bool true) ∧ ∃ L',Sc gs gj ep Ab Ao cb co F ok 0 E s' L' ∧ Own w F0 L' W' :=
 (step_calls H hS hat hrl hF hFb hok hcb hco hH).mono (by
  rintro e W' (⟨h,-⟩|⟨s2,h,rfl,L',h2⟩)
  ·rw [hst] at h;cases h
  ·rw [hst] at h
   obtain rfl := Option.some.inj h
   exact ⟨rfl,L',h2⟩)
set_option maxRecDepth 100000 in
set_option maxHeartbeats 8000000 in
theorem scan_callsN (e : Int) (he : 0 ≤ e ∧ e ≤ 18446744073709551615) (fl : List Int) (n n9 : Nat) (hn16 : n = min n9 16) (hn9 : n9 ≤ 100) (hf : fl.length = 64 * n) (hb : Bytes fl) (A : Option Addr) (c : Nat) (w : World) (hr : Rd w A (nums .u8 fl)) (hc9 : n9 ≤ c) (hH : Half w) :
  Calls Tryd.prog 10 #[.int .u64 e,.slice A n9 c] w fun en W => ∃ S Ar cr Ap cp cells D,S = scanM (e % 4294967296) (bodyF e fl n 16) (oksF e fl n 16) ∧
   en = .returned (.agg #[.slice Ar S.recs.length cr,.slice Ap S.recs.length cp,.int .i64 (S.en : Int),.int .i64 (if Img.restB fl n (cl (S.en : Int)) = true then 1 else 2)]) ∧
   Drs S.recs cells D ∧ S.places.length = S.recs.length ∧ S.recs.length ≤ 100 ∧ Own w F0 (.row (.slice Ar S.recs.length cr) 38 1 S.recs.length cells :: .row (.slice Ap S.recs.length cp) 3 1 S.recs.length (nums .i64 S.places) :: D) W := by
 have hc : n ≤ c := by omega
 have H := Own.start w
 have m1 : (if (n9 : Int) < 16 then (n9 : Int) else 16) = (n : Int) := by split <;> omega
 have m2 : (if (16 : Int) < (n9 : Int) then (16 : Int) else (n9 : Int)) = (n : Int) := by split <;> omega
 have m3 : min (n9 : Int) 16 = (n : Int) := by omega
 have hn16' : n ≤ 16 := by omega
 clear hn16
 have FC := fun W h => flat_calls e fl n hf hb A c W h hc (by omega)
 have hFl : (bodyF e fl n 16).length = 832 := bodyF_len hf 16
 have hFb : Bytes (bodyF e fl n 16) := bodyF_bytes hb 16
 have hkl : (oksF e fl n 16).length = 16 := oksF_len 16
 have RC := fun (z : Int) W h => rest_calls fl n hf hb z A c W h hc (by omega)
 have w1 : IntKind.u32.wrap e = e % 4294967296 := by rw [IntKind.wrap_u32]
 unfold scanM
 generalize e % 4294967296 = ep at *
 generalize bodyF e fl n 16 = F at *
 generalize oksF e fl n 16 = ok at *
 obtain ⟨SS,hSS⟩ : ∃ x,scRun (told ep F ok) 76 ScSt0 = x := ⟨_,rfl⟩
 rw [hSS]
 go_enter Tryd.func10,Tryd.ntmps10
 go_wp2_with (first
  |((with_reducible refine gate_dst (N := 4) rfl ?_);refine l_allocA rfl H 28 rfl _ zero28 ?_;clear H;intro g4 W H)
  |((with_reducible refine gate_dst (N := 26) rfl ?_);refine l_boxA rfl H 71 _ rfl _ rfl ?_;clear H;intro g26 W H)
  |((with_reducible refine gate_dst (N := 13) rfl ?_);refine l_run rfl (.slice A n c) (x_slice_to (n := n9) _ _ rfl rfl Tryd.underlying23 size51 n rfl hc _) ?_)
  |(go_at_call 25;(with_reducible refine (FC _ (hr.below H.below)).mono ?_);rintro en W ⟨v5,v6,rfl,HO⟩;replace H := H.addOwn HO;clear HO;dsimp only [List.cons_append,List.nil_append] at H;obtain ⟨A5,c5,rfl⟩ := H.row_slice .head;obtain ⟨A6,c6,rfl⟩ := H.row_slice (.tail .head))
  |(go_at_call 26;(with_reducible refine (new_own H).mono ?_);clear H;rintro en W ⟨gj,rfl,H⟩))
 have hc5 : 832 ≤ c5 := (H.rd (A := A5) (by repeat (first|exact In.head|apply In.tail))).2.1
 have hc6 : 16 ≤ c6 := (H.rd (A := A6) (by repeat (first|exact In.head|apply In.tail))).2.1
 replace H := H.cons (r := .row (.slice none 0 0) 5 1 0 []) (Below.refl _ _) (own_nil _ _ _ _) (fun k hk => by cases hk)
 replace H := H.cons (r := .row (.slice none 0 0) 38 1 0 []) (Below.refl _ _) (own_nil _ _ _ _) (fun k hk => by cases hk)
 replace H := H.cons (r := .row (.slice none 0 0) 3 1 0 []) (Below.refl _ _) (own_nil _ _ _ _) (fun k hk => by cases hk)
 replace H := Own.front (r := .row (.slice A6 16 c6) _ _ _ _) H (by repeat (first|exact Del.head|apply Del.tail))
 replace H := Own.front (r := .row (.slice A5 832 c5) _ _ _ _) H (by repeat (first|exact Del.head|apply Del.tail))
 replace H := Own.front (r := .row _ 3 _ _ _) H (by repeat (first|exact Del.head|apply Del.tail))
 replace H := Own.front (r := .row _ 38 _ _ _) H (by repeat (first|exact Del.head|apply Del.tail))
 replace H := Own.front (r := .row (.slice none 0 0) 5 _ _ _) H (by repeat (first|exact Del.head|apply Del.tail))
 replace H := Own.front (r := .blk gj _ _) H (by repeat (first|exact Del.head|apply Del.tail))
 replace H := Own.front (r := .blk g26 _ _) H (by repeat (first|exact Del.head|apply Del.tail))
 go_loopg [] 76 (fun gq w' => ∃ s L',Sc g26 gj ep A5 A6 c5 c6 F ok 0 [.blk g4 28 [.slice none 0 0,.slice none 0 0,.int .i64 0,.int .i64 0]] s L' ∧ Own w F0 L' w' ∧ s.at_ ≤ 832 ∧ 832 ≤ s.at_ + 11 * gq + 10 ∧ scRun (told ep F ok) gq s = SS ∧ s.recs.length + gq ≤ 76)
 case atStart => exact ⟨ScSt0,_,⟨none,0,.slice none 0 0,.slice none 0 0,.slice none 0 0,[],[],fun h => absurd rfl h,Nat.le_refl _,Nat.zero_le _,⟨rfl,fun j hj => by simp [ScSt0] at hj⟩,rfl,rfl⟩,H,by decide,by decide,hSS,by decide⟩
 case round =>
  clear H hSS
  obtain ⟨s,L',hS,H,hat,hm,hrun,hrl⟩ := hrel
  cases hst : scStep (told ep F ok) s with
  |some s2 =>
   have hadv := step_adv hFl hat hst
   have SC := step_go H hS hat (by omega) hFl hFb hkl hc5 hc6 hH hst
   obtain ⟨gk',rfl⟩ : ∃ q,gk = q + 1 := ⟨gk - 1,by
    rcases Nat.eq_zero_or_pos gk with h|h
    ·omega
    ·omega⟩
   rw [scRun_some hst] at hrun
   go_wp2_with (first
    |(go_at_call 27;(with_reducible refine SC.mono ?_);clear H;rintro e W ⟨rfl,L2,hS2,H⟩))
   go_roundg gk'
   case measure => omega
   case rel => exact ⟨s2,L2,hS2,H,hadv.2.1,by omega,hrun,by omega⟩
  |none =>
   have SC := step_no H hS hat (by omega) hFl hFb hkl hc5 hc6 hH hst
   rw [scRun_none hst] at hrun
   subst hrun
   clear hS
   cases hB : Img.restB fl n (cl (s.en : Int)) with
   |true =>
    have RC2 := RC (s.en : Int)
    rw [hB] at RC2
    go_wp2_with (first
  |((with_reducible refine gate_dst (N := 40) rfl ?_);refine l_load1 rfl H 3 _ rfl _ _ rfl (by (repeat (first|exact In.head|apply In.tail))) _ Tryd.underlying3 rfl _ (by first|rfl|assumption|exact nums_at _ (by omega)) ?_)
  |((with_reducible refine gate_store (t := 28) (p := 4) rfl ?_);refine l_storeW rfl H 28 _ _ rfl _ rfl _ rfl (by (repeat (first|exact In.head|apply In.tail))) _ size28 (by (first|rfl|assumption|omega|(simp only [nums_length];omega)|(simp [nums_length,zs];done)|(simp [nums_length,zs];omega))) (by (first|rfl|assumption|omega|(simp only [nums_length];omega)|(simp [nums_length,zs];done)|(simp [nums_length,zs];omega))) (by (first|exact nums_one|assumption|(intro u hu;simp at hu;subst hu;rfl)|(intro u hu;simp at hu;rcases hu with rfl|rfl|rfl|rfl|rfl|rfl|rfl <;> rfl)|(intro u hu;simp at hu;rcases hu with rfl|rfl|rfl|rfl <;> rfl)|(intro u hu;simp at hu;rcases hu with rfl|rfl|rfl <;> rfl)|(intro u hu;simp at hu;rcases hu with rfl|rfl <;> rfl))) ?_;clear H;intro W H)
     |(go_at_call 27;(with_reducible refine SC.mono ?_);clear H;rintro e W ⟨rfl,s2,L2,⟨Av,cv,x,vr,vp,cells,D,-,-,-,hD,hpl,rfl⟩,e1,e2,e3,H⟩;rw [e1,e2,e3] at H;rw [e1] at hD;rw [e1,e2] at hpl;obtain ⟨Ar,cr,rfl⟩ : ∃ A c,vr = .slice A s.recs.length c := H.row_slice (.tail (.tail (.tail .head)));obtain ⟨Ap,cp,rfl⟩ : ∃ A c,vp = .slice A s.recs.length c := H.row_slice (.tail (.tail (.tail (.tail .head))));replace H := H.perm (List.perm_append_singleton _ (_ :: _ :: _ :: _ :: _ :: _ :: _ :: D)))
     |((with_reducible refine gate_store (t := 3) (p := 34) rfl ?_);refine l_store1 rfl H 3 _ _ rfl g26 9 rfl (.int .i64 2) rfl (by repeat (first|exact In.head|apply In.tail)) rfl rfl size3 (by simp) ?_;clear H;intro W H)
     |((with_reducible refine gate_store (t := 3) (p := 45) rfl ?_);refine l_store1 rfl H 3 _ _ rfl g26 9 rfl (.int .i64 1) rfl (by repeat (first|exact In.head|apply In.tail)) rfl rfl size3 (by simp) ?_;clear H;intro W H)
     |((with_reducible refine gate_dst (N := 49) rfl ?_);refine l_load rfl H 28 _ rfl g26 6 rfl (by repeat (first|exact In.head|apply In.tail)) 4 _ Tryd.underlying28 rfl size28 (by simp) ?_)
     |(go_at_call 13;(with_reducible refine (RC2 _ (hr.below H.below)).mono ?_);rintro e W ⟨rfl,hb'⟩;replace H := H.to hb';clear hb'))
    replace H := Own.front (r := .blk g4 _ _) H (by repeat (first|exact Del.head|apply Del.tail))
    refine bodyPost_ret (results_cell_row (p := 4) (ty := 28) rfl _ _ g4 28 _ (0,0) _ rfl (H.heap .head) Tryd.underlying28 rfl size28) rfl ?_
    replace H := H.del (r := .blk g4 _ _) (by repeat (first|exact Del.head|apply Del.tail))
    replace H := H.del (r := .blk g26 _ _) (by repeat (first|exact Del.head|apply Del.tail))
    replace H := H.del (r := .blk gj _ _) (by repeat (first|exact Del.head|apply Del.tail))
    replace H := H.del (r := .row x _ _ _ _) (by repeat (first|exact Del.head|apply Del.tail))
    replace H := H.del (r := .row (.slice A5 832 c5) _ _ _ _) (by repeat (first|exact Del.head|apply Del.tail))
    replace H := H.del (r := .row (.slice A6 16 c6) _ _ _ _) (by repeat (first|exact Del.head|apply Del.tail))
    exact ⟨s,Ar,cr,Ap,cp,cells,D,rfl,by rw [hB];rfl,hD,hpl,by omega,H⟩
   |false =>
    have RC2 := RC (s.en : Int)
    rw [hB] at RC2
    go_wp2_with (first
  |((with_reducible refine gate_dst (N := 40) rfl ?_);refine l_load1 rfl H 3 _ rfl _ _ rfl (by (repeat (first|exact In.head|apply In.tail))) _ Tryd.underlying3 rfl _ (by first|rfl|assumption|exact nums_at _ (by omega)) ?_)
  |((with_reducible refine gate_store (t := 28) (p := 4) rfl ?_);refine l_storeW rfl H 28 _ _ rfl _ rfl _ rfl (by (repeat (first|exact In.head|apply In.tail))) _ size28 (by (first|rfl|assumption|omega|(simp only [nums_length];omega)|(simp [nums_length,zs];done)|(simp [nums_length,zs];omega))) (by (first|rfl|assumption|omega|(simp only [nums_length];omega)|(simp [nums_length,zs];done)|(simp [nums_length,zs];omega))) (by (first|exact nums_one|assumption|(intro u hu;simp at hu;subst hu;rfl)|(intro u hu;simp at hu;rcases hu with rfl|rfl|rfl|rfl|rfl|rfl|rfl <;> rfl)|(intro u hu;simp at hu;rcases hu with rfl|rfl|rfl|rfl <;> rfl)|(intro u hu;simp at hu;rcases hu with rfl|rfl|rfl <;> rfl)|(intro u hu;simp at hu;rcases hu with rfl|rfl <;> rfl))) ?_;clear H;intro W H)
     |(go_at_call 27;(with_reducible refine SC.mono ?_);clear H;rintro e W ⟨rfl,s2,L2,⟨Av,cv,x,vr,vp,cells,D,-,-,-,hD,hpl,rfl⟩,e1,e2,e3,H⟩;rw [e1,e2,e3] at H;rw [e1] at hD;rw [e1,e2] at hpl;obtain ⟨Ar,cr,rfl⟩ : ∃ A c,vr = .slice A s.recs.length c := H.row_slice (.tail (.tail (.tail .head)));obtain ⟨Ap,cp,rfl⟩ : ∃ A c,vp = .slice A s.recs.length c := H.row_slice (.tail (.tail (.tail (.tail .head))));replace H := H.perm (List.perm_append_singleton _ (_ :: _ :: _ :: _ :: _ :: _ :: _ :: D)))
     |((with_reducible refine gate_store (t := 3) (p := 34) rfl ?_);refine l_store1 rfl H 3 _ _ rfl g26 9 rfl (.int .i64 2) rfl (by repeat (first|exact In.head|apply In.tail)) rfl rfl size3 (by simp) ?_;clear H;intro W H)
     |((with_reducible refine gate_store (t := 3) (p := 45) rfl ?_);refine l_store1 rfl H 3 _ _ rfl g26 9 rfl (.int .i64 1) rfl (by repeat (first|exact In.head|apply In.tail)) rfl rfl size3 (by simp) ?_;clear H;intro W H)
     |((with_reducible refine gate_dst (N := 49) rfl ?_);refine l_load rfl H 28 _ rfl g26 6 rfl (by repeat (first|exact In.head|apply In.tail)) 4 _ Tryd.underlying28 rfl size28 (by simp) ?_)
     |(go_at_call 13;(with_reducible refine (RC2 _ (hr.below H.below)).mono ?_);rintro e W ⟨rfl,hb'⟩;replace H := H.to hb';clear hb'))
    replace H := Own.front (r := .blk g4 _ _) H (by repeat (first|exact Del.head|apply Del.tail))
    refine bodyPost_ret (results_cell_row (p := 4) (ty := 28) rfl _ _ g4 28 _ (0,0) _ rfl (H.heap .head) Tryd.underlying28 rfl size28) rfl ?_
    replace H := H.del (r := .blk g4 _ _) (by repeat (first|exact Del.head|apply Del.tail))
    replace H := H.del (r := .blk g26 _ _) (by repeat (first|exact Del.head|apply Del.tail))
    replace H := H.del (r := .blk gj _ _) (by repeat (first|exact Del.head|apply Del.tail))
    replace H := H.del (r := .row x _ _ _ _) (by repeat (first|exact Del.head|apply Del.tail))
    replace H := H.del (r := .row (.slice A5 832 c5) _ _ _ _) (by repeat (first|exact Del.head|apply Del.tail))
    replace H := H.del (r := .row (.slice A6 16 c6) _ _ _ _) (by repeat (first|exact Del.head|apply Del.tail))
    exact ⟨s,Ar,cr,Ap,cp,cells,D,rfl,by rw [hB];rfl,hD,hpl,by omega,H⟩
theorem scan_calls (e : Int) (he : 0 ≤ e ∧ e ≤ 18446744073709551615) (fl : List Int) (n : Nat) (hn16 : n ≤ 16) (hf : fl.length = 64 * n) (hb : Bytes fl) (A : Option Addr) (c : Nat) (w : World) (hr : Rd w A (nums .u8 fl)) (hc : n ≤ c) (hH : Half w) :
  Calls Tryd.prog 10 #[.int .u64 e,.slice A n c] w fun en W => ∃ S Ar cr Ap cp cells D,S = scanM (e % 4294967296) (bodyF e fl n 16) (oksF e fl n 16) ∧
   en = .returned (.agg #[.slice Ar S.recs.length cr,.slice Ap S.recs.length cp,.int .i64 (S.en : Int),.int .i64 (if Img.restB fl n (cl (S.en : Int)) = true then 1 else 2)]) ∧
   Drs S.recs cells D ∧ S.places.length = S.recs.length ∧ S.recs.length ≤ 100 ∧ Own w F0 (.row (.slice Ar S.recs.length cr) 38 1 S.recs.length cells :: .row (.slice Ap S.recs.length cp) 3 1 S.recs.length (nums .i64 S.places) :: D) W :=
 scan_callsN e he fl n n (by omega) (by omega) hf hb A c w hr hc hH
end Go.Proofs.YtaekpfhgdnfciaaDoor.O
end

section
/- The reference's Sectors, by what is owned. -/
set_option linter.unusedVariables false
set_option linter.unusedSimpArgs false
namespace Go.Proofs.YtaekpfhgdnfciaaDoor.O
open Go.RowKit Go.Proofs.YtaekpfhgdnfciaaDoorW.PrintWords Go.Proofs.YtaekpfhgdnfciaaDoorW.PrintLast Go.Proofs.YtaekpfhgdnfciaaDoorW.PrintMore Go.Proofs.YtaekpfhgdnfciaaDoor.F Go.Proofs.YtaekpfhgdnfciaaDoor.F.Nums Go.Proofs.YtaekpfhgdnfciaaDoor.Plain
set_option maxRecDepth 100000 in
set_option maxHeartbeats 4000000 in
theorem rsectors_yes (e64 : Int) (l : List (List Int)) (A : Option Addr) (c : Nat) (w : World) (b : Nat) (h : Img.layAll e64 l = true) (ht : tch (cl 0) (cl (Img.laySt e64 l l.length).2) = (((0 : Nat) : Int),(b : Int))) (hb : b ≤ 16) (he : 0 ≤ e64 ∧ e64 ≤ 18446744073709551615) (hl : ∀ x ∈ l,Bytes x)
  (hll : ∀ x ∈ l,x.length ≤ 140737488355328) (hn : l.length ≤ 9000000000000) (hC : (Kd.slice 5 (Kd.int .u8)).C w A l.length l) (hc : l.length ≤ c) :
  Calls Tryd.prog 15 #[.int .u64 e64,.slice A l.length c] w fun e W => ∃ v,e = .returned (.tuple #[v,.bool true]) ∧ W.ownsRow w.heap.size 51 64 v 16 (nums .u8 (flatW e64 (Img.laySt e64 l l.length).1 b 16)) ∧ Below w.heap.size w W := by
 have H := Own.start w
 have hR := Img.rlay_eq (7000 + l.length) e64 l he.1 hl hll hn (Nat.le_refl _)
 unfold Img.layR at hR
 rw [if_pos h] at hR
 have BC := fun W h1 => strandlineref17_Lay.calls (7000 + l.length) e64 A c l _ _ _ _ W h1 hc hR
 have hbl := Img.laySt_len e64 l l.length
 have WC := fun A1 c1 W h1 (h2 : 832 ≤ c1) => rwhole_calls e64 he.1 he.2 (Img.laySt e64 l l.length).1 (Img.laySt e64 l l.length).2 b ht hb A1 c1 W h1 (by omega) (by omega)
 rw [hbl] at WC
 generalize flatW e64 (Img.laySt e64 l l.length).1 b 16 = fl at *
 clear ht h hR
 generalize Img.layPl e64 l l.length = pl at *
 generalize (Img.laySt e64 l l.length).1 = body at *
 generalize (Img.laySt e64 l l.length).2 = en at *
 generalize l.length = n at *
 go_enter Tryd.func15,Tryd.ntmps15
 go_wp2_with (first
 |(go_at_call 17;(with_reducible refine (BC _ (Kd.C_below hC H.below)).mono ?_);rintro e W ⟨v6,v7,rfl,hR6,hR7,hb⟩;replace H := H.to hb;obtain ⟨A6,c6,rfl,hl6,C6⟩ := Kd.R_reads hR6;rw [hbl] at hl6 C6 ⊢;clear hb hR6 hR7)
 |(go_at_call 35;(with_reducible refine (WC _ _ _ C6 hl6).mono ?_);rintro e W ⟨v4,rfl,ho,hb'⟩;replace H := H.addRow hb' ho;clear ho hb'))
 go_ret2
 exact ⟨_,rfl,H.at_ .head,H.below⟩
set_option maxRecDepth 100000 in
set_option maxHeartbeats 4000000 in
theorem rsectors_nope (e64 : Int) (l : List (List Int)) (A : Option Addr) (c : Nat) (w : World) (h : Img.layAll e64 l = false) (he : 0 ≤ e64 ∧ e64 ≤ 18446744073709551615) (hl : ∀ x ∈ l,Bytes x)
  (hll : ∀ x ∈ l,x.length ≤ 140737488355328) (hn : l.length ≤ 9000000000000) (hC : (Kd.slice 5 (Kd.int .u8)).C w A l.length l) (hc : l.length ≤ c) :
  Calls Tryd.prog 15 #[.int .u64 e64,.slice A l.length c] w fun e W => e = .returned (.tuple #[.slice none 0 0,.bool false]) ∧ Below w.heap.size w W := by
 have H := Own.start w
 have hR := Img.rlay_eq (7000 + l.length) e64 l he.1 hl hll hn (Nat.le_refl _)
 unfold Img.layR at hR
 rw [if_neg (by rw [h];decide)] at hR
 have BC := fun W h1 => strandlineref17_Lay.calls (7000 + l.length) e64 A c l _ _ _ _ W h1 hc hR
 clear hR h
 generalize l.length = n at *
 go_enter Tryd.func15,Tryd.ntmps15
 go_wp2_with (first
 |(go_at_call 17;(with_reducible refine (BC _ (Kd.C_below hC H.below)).mono ?_);rintro e W ⟨v6,v7,rfl,hR6,hR7,hb⟩;replace H := H.to hb;obtain ⟨A6,c6,rfl,hl6,C6⟩ := Kd.R_reads hR6;clear hb hR6 hR7))
 go_ret2
 exact ⟨rfl,H.below⟩
end Go.Proofs.YtaekpfhgdnfciaaDoor.O
end

section
/- The statement's own function. Turned out of what the kit's print told for this seat. -/
namespace Go.Proofs.YtaekpfhgdnfciaaDoor.F
open Go.RowKit Go.Proofs.YtaekpfhgdnfciaaDoorW.PrintWords Go.Proofs.YtaekpfhgdnfciaaDoorW.PrintLast Go.Proofs.YtaekpfhgdnfciaaDoorW.PrintMore
attribute [local go_sem high] eqA83
attribute [local go_sem] field83_0
attribute [local go_sem] field83_1
attribute [local go_sem] max2_int min2_int max_two min_two max_three min_three max_four min_four
set_option linter.unusedVariables false
set_option linter.unusedSimpArgs false
/-! ### strandlinelaw19_Few: function 16 -/
def strandlinelaw19_Few.l0 : Nat → List (List Int) → Int → Option (Bool)
 |0,_,_ => none
 |k + 1,x0,x3 => if x3 < (x0.length : Int) then (if 0 ≤ x3 then (if ((rd_L3 x0 x3).length : Int) > 512 then (some false) else (strandlinelaw19_Few.l0 k x0 (wrap64 (x3 + 1)))) else (none)) else (some (decide ((x0.length : Int) ≤ 100)))
def strandlinelaw19_Few.f (k : Nat) (l0 : List (List Int)) : Option (Bool) := strandlinelaw19_Few.l0 k l0 0
set_option maxHeartbeats 8000000 in
set_option maxRecDepth 100000 in
theorem strandlinelaw19_Few.calls (k : Nat) (A0 : Option Addr) (c0 : Nat) (l0 : List (List Int)) (r : Bool) (w : World) (hr0 : Kd.C (Kd.slice 5 (Kd.int .u8)) w A0 l0.length l0) (hc0 : l0.length ≤ c0) (h : strandlinelaw19_Few.f k l0 = some r) :
  Calls Tryd.prog 16 #[.slice A0 l0.length c0] w fun e w' => e = .returned (.bool r) ∧ Drawn0 w w' := by
 have hu73 := Tryd.underlying73
 have hu76 := Tryd.underlying76
 have hu83 := Tryd.underlying83
 have hu94 := Tryd.underlying94
 have hu106 := Tryd.underlying106
 have HR0 := Aside0.mk hr0
 have HC0 := Aside0.mk hc0
 clear hr0 hc0
 have H : (strandlinelaw19_Few.l0 k l0 0) = some r := h
 clear h
 have H' := Aside0.mk H
 clear H
 go_enter Tryd.func16,Tryd.ntmps16
 go_wp2
 go_loopg [3] k (fun kq v3 w' => ∃ (x3_1 : Int),v3 = .int .i64 x3_1 ∧ Aside0 (strandlinelaw19_Few.l0 kq l0 x3_1 = some r) ∧ Aside0 (kq ≤ k) ∧ Drawn0 w w')
 case atStart => exact ⟨(0),(by first|rfl|(simp;done)|(simp [*];done)),H',⟨Nat.le_refl _⟩,by repeat (first|exact Drawn0.refl _|apply Drawn0.step)⟩
 case round =>
  clear H'
  try clear c1
  obtain ⟨x3_1,rfl,HA,HK1,⟨m1,rfl⟩⟩ := hrel
  cases gk with
  |zero => exact absurd HA.out (by simp [strandlinelaw19_Few.l0])
  |succ k1 =>
   have H := HA.out
   clear HA
   simp only [strandlinelaw19_Few.l0] at H
   by_cases c2 : x3_1 < (l0.length : Int)
   ·rw [if_pos c2] at H
    have c2b0 : decide (x3_1 < (l0.length : Int)) = true := decide_eq_true c2
    clear c2
    by_cases c3 : 0 ≤ x3_1
    ·rw [if_pos c3] at H
     have c3b0 : decide (0 ≤ x3_1) = true := decide_eq_true c3
     clear c3
     by_cases c4 : ((rd_L3 l0 x3_1).length : Int) > 512
     ·rw [if_pos c4] at H
      have c4b0 : decide (512 < ((rd_L3 l0 x3_1).length : Int)) = true := decide_eq_true c4
      have c4b1 : decide (512 < (rd_L3 l0 x3_1).length) = true := decide_eq_true (by omega)
      clear c4
      obtain rfl := Option.some.inj H
      have p207 : 0 ≤ (x3_1 : Int) := of_decide_eq_true (by first|(with_reducible assumption)|assumption)
      have q207 : x3_1 < (l0.length : Int) := of_decide_eq_true (by first|(with_reducible assumption)|assumption)
      obtain ⟨ad207,A207_0,c207_0,e207,hx207_0,hl207_0,hi207_0⟩ := at_L3 HR0.out x3_1 p207 q207
      cases e207
      have HR207_0 := Aside0.mk hi207_0
      have HC207_0 := Aside0.mk hl207_0
      clear hi207_0 hl207_0
      replace p207 := eq_true p207
      replace q207 := eq_true q207
      go_wp2
      go_ret
      exact ⟨by first|rfl|(simp;done)|(simp [*];done),by repeat (first|exact Drawn0.refl _|apply Drawn0.step)⟩
     ·rw [if_neg c4] at H
      have c4b0 : decide (512 < ((rd_L3 l0 x3_1).length : Int)) = false := decide_eq_false c4
      have c4b1 : decide (512 < (rd_L3 l0 x3_1).length) = false := decide_eq_false (by omega)
      clear c4
      have H' := Aside0.mk H
      clear H
      have p207 : 0 ≤ (x3_1 : Int) := of_decide_eq_true (by first|(with_reducible assumption)|assumption)
      have q207 : x3_1 < (l0.length : Int) := of_decide_eq_true (by first|(with_reducible assumption)|assumption)
      obtain ⟨ad207,A207_0,c207_0,e207,hx207_0,hl207_0,hi207_0⟩ := at_L3 HR0.out x3_1 p207 q207
      cases e207
      have HR207_0 := Aside0.mk hi207_0
      have HC207_0 := Aside0.mk hl207_0
      clear hi207_0 hl207_0
      replace p207 := eq_true p207
      replace q207 := eq_true q207
      go_wp2
      go_roundg k1
      case measure => have := HK1.out;omega
      case rel => exact ⟨(wrap64 (x3_1 + 1)),(by first|rfl|(simp;done)|(simp [*];done)),H',⟨by have := HK1.out;omega⟩,by repeat (first|exact Drawn0.refl _|apply Drawn0.step)⟩
    ·rw [if_neg c3] at H
     exact absurd H (by simp)
   ·rw [if_neg c2] at H
    have c2b0 : decide (x3_1 < (l0.length : Int)) = false := decide_eq_false c2
    clear c2
    obtain rfl := Option.some.inj H
    go_wp2
    go_ret
    exact ⟨by first|rfl|(simp;done)|(simp [*];done),by repeat (first|exact Drawn0.refl _|apply Drawn0.step)⟩
-- NOT PRINTED: function 4 (strandlinelaw19_ScanBack)
end Go.Proofs.YtaekpfhgdnfciaaDoor.F
end

section
/- What ScanBack and ScanLost share: few, what is scanned of what was laid; awake19. -/
set_option linter.unusedVariables false
set_option linter.unusedSimpArgs false
namespace Go.Proofs.YtaekpfhgdnfciaaDoor.O
open Go.RowKit Go.Proofs.YtaekpfhgdnfciaaDoorW.PrintWords Go.Proofs.YtaekpfhgdnfciaaDoorW.PrintLast Go.Proofs.YtaekpfhgdnfciaaDoorW.PrintMore Go.Proofs.YtaekpfhgdnfciaaDoor.F Go.Proofs.YtaekpfhgdnfciaaDoor.F.Nums Go.Proofs.YtaekpfhgdnfciaaDoor.Plain
theorem few_l (l : List (List Int)) (hl : l.length ≤ 9000000000000) (d : Nat) : ∀ (k i : Nat),i + d = l.length → d < k → strandlinelaw19_Few.l0 k l (i : Int) = some ((l.drop i).all (fun x => decide (x.length ≤ 512)) && decide (l.length ≤ 100)) := by
 induction d with
 |zero =>
  intro k i h hk
  obtain ⟨k,rfl⟩ : ∃ j,k = j + 1 := ⟨k - 1,by omega⟩
  simp only [strandlinelaw19_Few.l0]
  rw [if_neg (by omega),List.drop_of_length_le (by omega)]
  have : decide ((l.length : Int) ≤ 100) = decide (l.length ≤ 100) := by rw [decide_eq_decide];omega
  rw [this]
  rfl
 |succ d ih =>
  intro k i h hk
  obtain ⟨k,rfl⟩ : ∃ j,k = j + 1 := ⟨k - 1,by omega⟩
  have hlt : i < l.length := by omega
  have hx : rd_L3 l (i : Int) = l[i] := by unfold rd_L3;rw [Int.toNat_natCast,List.getD_eq_getElem?_getD,List.getElem?_eq_getElem hlt];rfl
  simp only [strandlinelaw19_Few.l0]
  rw [if_pos (by omega),if_pos (by omega),hx,List.drop_eq_getElem_cons hlt,List.all_cons]
  by_cases h5 : l[i].length ≤ 512
  ·rw [if_neg (by omega),w64 (by omega) (by omega),decide_eq_true h5,Bool.true_and]
   exact ih k (i + 1) (by omega) (by omega)
  ·rw [if_pos (by omega),decide_eq_false h5]
   rfl
theorem few19_calls (l : List (List Int)) (A : Option Addr) (c : Nat) (w : World) (hC : (Kd.slice 5 (Kd.int .u8)).C w A l.length l) (hc : l.length ≤ c) (hl : l.length ≤ 9000000000000) :
  Calls Tryd.prog 16 #[.slice A l.length c] w fun e W => e = .returned (.bool (l.all (fun x => decide (x.length ≤ 512)) && decide (l.length ≤ 100))) ∧ Below w.heap.size w W :=
 (strandlinelaw19_Few.calls (l.length + 1) A c l _ w hC hc (by have := few_l l hl l.length (l.length + 1) 0 (by omega) (by omega);rwa [List.drop_zero] at this)).mono (by rintro e W ⟨rfl,hd⟩;exact ⟨rfl,hd.below⟩)
theorem C_rows_at {w : World} {A : Option Addr} {n : Nat} {l : List (List Int)} (h : Kd.C (Kd.slice 5 (Kd.int .u8)) w A n l) (k : Nat) (hk : k < n) :
  ∃ ad A2 c2,A = some ad ∧ w.cell? (ad.add k) = some (.slice A2 (l.getD k []).length c2) ∧ (l.getD k []).length ≤ c2 ∧ (Kd.int .u8).C w A2 (l.getD k []).length (l.getD k []) := by
 obtain ⟨ad,c,e,_,hK,hc0⟩ := Kd.C_get h [] (k : Int) (by omega) (by omega)
 obtain ⟨A2,c2,rfl,l2,g2⟩ := hK
 have := hc0 0 _ rfl
 rw [Int.toNat_natCast] at this l2 g2
 simp only [Kd.slice,Nat.mul_one,Nat.add_zero] at this
 exact ⟨ad,A2,c2,e,by simpa using this,l2,g2⟩
theorem r_loadCell4 {P : Program} {o : Oper} {a : Act} {W : World} {p : Addr} {v : Value} (ty : TypeId) (x : Operand) (ho : o.op = .load ty x) (hx : a.eval x = .pointer (some p)) (hc : W.cell? p = some v) (d : TypeDesc) (hu : P.underlying ty = some d) (hd : d.isRow = false) :
  (execOp a.eval o).run P W = .ok (.value v) W := by
 have hag : (isAgg ty).run P W = .ok false W := by
  unfold isAgg
  rw [Sem.run_bind,run_underlying hu W]
  cases d <;> simp_all
 unfold execOp
 simp [ho,hx,Instr.loadAt,Instr.sureAddr,loadVar,hag,hc]
set_option maxRecDepth 100000 in
set_option maxHeartbeats 4000000 in
theorem same04_calls (l : List (List Int)) (A B : Option Addr) (c d : Nat) (w : World) (hl : l.length < 5000000) (hC : (Kd.slice 5 (Kd.int .u8)).C w A l.length l) (hc : l.length ≤ c) (hD : (Kd.slice 5 (Kd.int .u8)).C w B l.length l) (hd : l.length ≤ d) :
  Calls Tryd.prog 12 #[.slice A l.length c,.slice B l.length d] w fun e W => e = .returned (.bool true) ∧ Below w.heap.size w W := by
 have H := Own.start w
 have HA := fun k (hk : k < l.length) => C_rows_at hC k hk
 have HB := fun k (hk : k < l.length) => C_rows_at hD k hk
 clear hC hD
 generalize l.length = n at *
 go_enter Tryd.func12,Tryd.ntmps12
 go_wp2
 go_loopg [5] n (fun gq v5 w' => ∃ k : Nat,v5 = .int .i64 (k : Int) ∧ k + gq = n ∧ Own w F0 [] w')
 case atStart => exact ⟨0,rfl,by omega,H⟩
 case round =>
  clear H
  obtain ⟨k,rfl,hk,H⟩ := hrel
  by_cases ck : k < n
  ·obtain ⟨gk',rfl⟩ : ∃ q,gk = q + 1 := ⟨gk - 1,by omega⟩
   have q2 : decide (k < n) = true := decide_eq_true ck
   have p0 : ((0 : Int) ≤ (k : Int)) = True := eq_true (by omega)
   have p1 : ((k : Int) < (n : Int)) = True := eq_true (by omega)
   obtain ⟨ad,A2,c2,rfl,x0,-,x2⟩ := HA k ck
   obtain ⟨bd,B2,d2,rfl,y0,-,y2⟩ := HB k ck
   generalize l.getD k [] = z at *
   clear HA HB
   go_wp2
   refine start_ (n := 11) (S := Own _ _ _) (ds := []) #[f_,f_,f_,f_,f_,f_,f_,f_,f_,f_,f_] (by kernel_rfl) rfl rfl H.drew (fun hHeld => ?_)
   replace H := H.drew
   generalize World.drew _ = W at H hHeld ⊢
   refine pure_ (i := 0) (N := some 17) (v := ?_) (a' := ?_) #[t_,f_,f_,f_,f_,f_,f_,f_,f_,f_,f_] rfl rfl (by kernel_rfl) (fun _ _ _ h => h) (Or.inl ⟨by rfl,?_⟩) ?_ ?_
   rotate_left
   ·intro w'
    go_simp
    with_reducible rfl
   rotate_left
   ·simp only [ps_]
    rfl
   refine pure_ (i := 1) (N := some 18) (v := ?_) (a' := ?_) #[t_,t_,f_,f_,f_,f_,f_,f_,f_,f_,f_] rfl rfl (by kernel_rfl) (fun _ _ _ h => h) (Or.inl ⟨by rfl,?_⟩) ?_ ?_
   rotate_left
   ·intro w'
    go_simp
    with_reducible rfl
   rotate_left
   ·simp only [ps_]
    rfl
   refine pure_ (i := 2) (N := some 19) (v := ?_) (a' := ?_) #[t_,t_,t_,f_,f_,f_,f_,f_,f_,f_,f_] rfl rfl (by kernel_rfl) (fun _ _ _ h => h) (Or.inl ⟨by rfl,?_⟩) ?_ ?_
   rotate_left
   ·intro w'
    go_simp
    with_reducible rfl
   rotate_left
   ·simp only [ps_]
    rfl
   refine pure_ (i := 5) (N := some 22) (v := ?_) (a' := ?_) #[t_,t_,t_,f_,f_,t_,f_,f_,f_,f_,f_] rfl rfl (by kernel_rfl) (fun _ _ _ h => h) (Or.inl ⟨by rfl,?_⟩) ?_ ?_
   rotate_left
   ·intro w'
    go_simp
    with_reducible rfl
   rotate_left
   ·simp only [ps_]
    rfl
   refine pure_ (i := 6) (N := some 23) (v := ?_) (a' := ?_) #[t_,t_,t_,f_,f_,t_,t_,f_,f_,f_,f_] rfl rfl (by kernel_rfl) (fun _ _ _ h => h) (Or.inl ⟨by rfl,?_⟩) ?_ ?_
   rotate_left
   ·intro w'
    go_simp
    with_reducible rfl
   rotate_left
   ·simp only [ps_]
    rfl
   refine pure_ (i := 7) (N := some 24) (v := ?_) (a' := ?_) #[t_,t_,t_,f_,f_,t_,t_,t_,f_,f_,f_] rfl rfl (by kernel_rfl) (fun _ _ _ h => h) (Or.inl ⟨by rfl,?_⟩) ?_ ?_
   rotate_left
   ·intro w'
    go_simp
    with_reducible rfl
   rotate_left
   ·simp only [ps_]
    rfl
   refine take_run (i := 3) (N := some 20) (a' := ?_) #[t_,t_,t_,t_,f_,t_,t_,t_,f_,f_,f_] rfl rfl (by kernel_rfl) (fun _ _ _ _ h => h) (by rfl) hHeld (.slice A2 z.length c2) (fun X HX => r_loadCell4 38 _ rfl rfl ((HX.below.cell (World.block_lt_of_cell? w _ x0)).trans x0) _ Tryd.underlying38 rfl) ?_ ?_
   rotate_left
   ·simp only [ps_]
    rfl
   refine take_run (i := 4) (N := some 21) (a' := ?_) #[t_,t_,t_,t_,t_,t_,t_,t_,f_,f_,f_] rfl rfl (by kernel_rfl) (fun _ _ _ _ h => h) (by rfl) hHeld (.string (strOfNums z)) (fun X HX => r_strC 38 9 5 _ rfl rfl (Kd.C_below x2 HX.below) Tryd.underlying38 Tryd.underlying5 Tryd.underlying9) ?_ ?_
   rotate_left
   ·simp only [ps_]
    rfl
   refine take_run (i := 8) (N := some 25) (a' := ?_) #[t_,t_,t_,t_,t_,t_,t_,t_,t_,f_,f_] rfl rfl (by kernel_rfl) (fun _ _ _ _ h => h) (by rfl) hHeld (.slice B2 z.length d2) (fun X HX => r_loadCell4 38 _ rfl rfl ((HX.below.cell (World.block_lt_of_cell? w _ y0)).trans y0) _ Tryd.underlying38 rfl) ?_ ?_
   rotate_left
   ·simp only [ps_]
    rfl
   refine take_run (i := 9) (N := some 26) (a' := ?_) #[t_,t_,t_,t_,t_,t_,t_,t_,t_,t_,f_] rfl rfl (by kernel_rfl) (fun _ _ _ _ h => h) (by rfl) hHeld (.string (strOfNums z)) (fun X HX => r_strC 38 9 5 _ rfl rfl (Kd.C_below y2 HX.below) Tryd.underlying38 Tryd.underlying5 Tryd.underlying9) ?_ ?_
   rotate_left
   ·simp only [ps_]
    rfl
   refine pure_ (i := 10) (N := some 27) (v := ?_) (a' := ?_) #[t_,t_,t_,t_,t_,t_,t_,t_,t_,t_,t_] rfl rfl (by kernel_rfl) (fun _ _ _ h => h) (Or.inl ⟨by rfl,?_⟩) ?_ ?_
   rotate_left
   ·intro w'
    go_simp
    with_reducible rfl
   rotate_left
   ·simp only [ps_]
    rfl
   refine done_ (by kernel_rfl) ?_
   clear hHeld
   go_wp2
   go_roundg gk'
   case measure => omega
   case rel => exact ⟨k + 1,by go_num,by omega,H⟩
  ·have q2 : decide (k < n) = false := decide_eq_false ck
   obtain rfl : k = n := by omega
   go_wp2
   go_ret
   exact ⟨rfl,H.below⟩
end Go.Proofs.YtaekpfhgdnfciaaDoor.O
end

section
/- strandlinelaw19's awake, by what is owned. -/
set_option linter.unusedVariables false
set_option linter.unusedSimpArgs false
namespace Go.Proofs.YtaekpfhgdnfciaaDoor.O
open Go.RowKit Go.Proofs.YtaekpfhgdnfciaaDoorW.PrintWords Go.Proofs.YtaekpfhgdnfciaaDoorW.PrintLast Go.Proofs.YtaekpfhgdnfciaaDoorW.PrintMore Go.Proofs.YtaekpfhgdnfciaaDoor.F Go.Proofs.YtaekpfhgdnfciaaDoor.F.Nums Go.Proofs.YtaekpfhgdnfciaaDoor.Plain
theorem C_rows {w : World} {ad : Addr} (xs : List (List Int)) (hm : xs.length ≤ 9223372036854775807) (h : ∀ j,j < xs.length → ∃ A c,w.cell? (ad.add j) = some (.slice A (xs.getD j []).length c) ∧ (xs.getD j []).length ≤ c ∧ (Kd.int .u8).C w A (xs.getD j []).length (xs.getD j [])) :
  (Kd.slice 5 (Kd.int .u8)).C w (some ad) xs.length xs := by
 refine ⟨rfl,hm,fun _ => ⟨ad,rfl,fun j p hj => ?_⟩⟩
 have hlt := (List.getElem?_eq_some_iff.1 hj).1
 obtain ⟨A,c,h1,h2,h3⟩ := h j hlt
 have hp : xs.getD j [] = p := by rw [List.getD_eq_getElem?_getD,hj];rfl
 rw [hp] at h1 h2 h3
 refine ⟨[.slice A p.length c],rfl,⟨A,c,rfl,h2,h3⟩,fun i u hu => ?_⟩
 have hi : i = 0 := by have := (List.getElem?_eq_some_iff.1 hu).1;simpa using this
 subst hi
 simp at hu
 subst hu
 show w.cell? (ad.add (j * 1 + 0)) = _
 rw [Nat.mul_one,Nat.add_zero]
 exact h1
theorem C_cells19 {w : World} {g : Nat} {k : IntKind} {l : List Int} {t : TypeId} {fr : Nat × Nat} (h : w.heap[g]? = some (.cells (l.map (Value.int k)).toArray t fr)) (hl : l.length ≤ 9223372036854775807) : (Kd.int k).C w (some ⟨g,0,none⟩) l.length l := by
 refine ⟨rfl,hl,fun _ => ⟨_,rfl,fun j p hj => ⟨[.int k p],rfl,rfl,fun i u hu => ?_⟩⟩⟩
 have hi0 : i = 0 := by have := (List.getElem?_eq_some_iff.1 hu).1;simpa using this
 subst hi0
 have e1 := cell_of_row w g j _ _ _ h
 simp at hu
 subst hu
 have e2 : (Addr.add ⟨g,0,none⟩ (j * (Kd.int k).sz + 0)) = ⟨g,j,none⟩ := by
  rw [show (Kd.int k).sz = 1 from rfl]
  unfold Addr.add
  by_cases hj0 : j = 0
  ·subst hj0;rfl
  ·simp [hj0]
 rw [e2,e1]
 simp [hj]
end Go.Proofs.YtaekpfhgdnfciaaDoor.O
end

section
/- the reference's Mix. -/
namespace Go.Proofs.YtaekpfhgdnfciaaDoor.O
open Go.RowKit Go.Proofs.YtaekpfhgdnfciaaDoorW.PrintWords Go.Proofs.YtaekpfhgdnfciaaDoorW.PrintLast Go.Proofs.YtaekpfhgdnfciaaDoorW.PrintMore Go.Proofs.YtaekpfhgdnfciaaDoor.F Go.Proofs.YtaekpfhgdnfciaaDoor.F.Nums Go.Proofs.YtaekpfhgdnfciaaDoor.Plain
set_option linter.unusedVariables false
set_option linter.unusedSimpArgs false
theorem mix_step (xs ys : List Int) (hx : xs.length = 64) (hy : ys.length = 64) (i : Nat) (hi : i < 64) : (ys.take i ++ xs.drop i).set i (ys.getD i 0) = ys.take (i + 1) ++ xs.drop (i + 1) := by
 have hl : (ys.take i).length = i := by rw [List.length_take];omega
 rw [List.set_append_right _ _ (by omega),hl,Nat.sub_self,List.drop_eq_getElem_cons (by omega : i < xs.length),List.set_cons_zero,List.take_succ_eq_append_getElem (by omega : i < ys.length),List.append_assoc,List.getD_eq_getElem?_getD,List.getElem?_eq_getElem (by omega : i < ys.length)]
 rfl
set_option maxRecDepth 100000 in
set_option maxHeartbeats 4000000 in
theorem rmix_calls (xs ys : List Int) (hx : xs.length = 64) (hy : ys.length = 64) (cut : Int) (k : Nat) (hk : (k : Int) = max 0 (min cut 64)) (w : World) :
  Calls Tryd.prog 62 #[.agg (nums .u8 xs).toArray,.agg (nums .u8 ys).toArray,.int .i64 cut] w fun e w' => e = .returned (.agg (nums .u8 (ys.take k ++ xs.drop k)).toArray) ∧ Below w.heap.size w w' := by
 have H := Own.start w
 have hk64 : k ≤ 64 := by omega
 go_enter Tryd.func62,Tryd.ntmps62
 go_wp2_with (first
  |((with_reducible refine gate_dst (N := 3) rfl ?_);refine l_boxA rfl H 51 _ rfl _ rfl ?_;clear H;intro g3 W H)
  |((with_reducible refine gate_dst (N := 4) rfl ?_);refine l_boxA rfl H 51 _ rfl _ rfl ?_;clear H;intro g4 W H)
  |((with_reducible refine gate_dst (N := 6) rfl ?_);refine l_allocA rfl H 51 rfl _ zero51 ?_;clear H;intro g6 W H)
  |((with_reducible refine gate_dst (N := 9) rfl ?_);refine l_loadA rfl H 51 _ rfl _ rfl (by (repeat (first|exact In.head|apply In.tail))) _ _ Tryd.underlying51 rfl size51 (by (first|rfl|assumption|omega|(simp only [nums_length];omega)|(simp [nums_length,zs];done)|(simp [nums_length,zs];omega))) ?_)
  |((with_reducible refine gate_dst (N := 7) rfl ?_);refine l_allocA rfl H 51 rfl _ zero51 ?_;clear H;intro g7 W H)
  |((with_reducible refine gate_store (t := 51) (p := 7) rfl ?_);refine l_storeW rfl H 51 _ _ rfl _ rfl _ rfl (by (repeat (first|exact In.head|apply In.tail))) _ size51 (by (first|rfl|assumption|omega|(simp only [nums_length];omega)|(simp [nums_length,zs];done)|(simp [nums_length,zs];omega))) (by (first|rfl|assumption|omega|(simp only [nums_length];omega)|(simp [nums_length,zs];done)|(simp [nums_length,zs];omega))) (by (first|exact nums_one|assumption|(intro u hu;simp at hu;subst hu;rfl)|(intro u hu;simp at hu;rcases hu with rfl|rfl|rfl|rfl|rfl|rfl|rfl <;> rfl)|(intro u hu;simp at hu;rcases hu with rfl|rfl|rfl|rfl <;> rfl)|(intro u hu;simp at hu;rcases hu with rfl|rfl|rfl <;> rfl)|(intro u hu;simp at hu;rcases hu with rfl|rfl <;> rfl))) ?_;clear H;intro W H))
 go_loopg [8] k (fun gq v8 w' => ∃ i : Nat,v8 = .int .i64 (i : Int) ∧ i + gq = k ∧ Own w F0 [.blk g7 51 (nums .u8 (ys.take i ++ xs.drop i)),.blk g6 51 (nums .u8 (zs 64)),.blk g4 51 (nums .u8 ys),.blk g3 51 (nums .u8 xs)] w')
 case atStart => exact ⟨0,rfl,by omega,H⟩
 case round =>
  clear H
  obtain ⟨i,rfl,hi,H⟩ := hrel
  have hl : (ys.take i ++ xs.drop i).length = 64 := by rw [List.length_append,List.length_take,List.length_drop];omega
  by_cases ci : i < k
  ·obtain ⟨gk',rfl⟩ : ∃ q,gk = q + 1 := ⟨gk - 1,by omega⟩
   have q1 : decide ((i : Int) < cut) = true := decide_eq_true (by omega)
   have q2 : decide ((i : Int) < 64) = true := decide_eq_true (by omega)
   have p0 : ((0 : Int) ≤ (i : Int)) = True := eq_true (by omega)
   have p1 : ((i : Int) < 64) = True := eq_true (by omega)
   have hs := mix_step xs ys hx hy i (by omega)
   have hcy : (nums .u8 ys)[i]? = some (.int .u8 (ys.getD i 0)) := nums_at i (by omega)
   have hfit : i < (nums .u8 (ys.take i ++ xs.drop i)).length := by rw [nums_length,hl];omega
   generalize ys.getD i 0 = z at hs hcy
   obtain ⟨M',hM'⟩ : ∃ x,ys.take (i + 1) ++ xs.drop (i + 1) = x := ⟨_,rfl⟩
   rw [hM'] at hs
   have HM := Lib.hid hM'
   clear hM'
   have HS := Lib.hid hs
   generalize hM : ys.take i ++ xs.drop i = M at *
   clear hM hk hs
   go_wp2_with (first
  |((with_reducible refine gate_dst (N := 22) rfl ?_);refine l_load1 rfl H 5 _ rfl _ _ rfl (by (repeat (first|exact In.head|apply In.tail))) _ Tryd.underlying5 rfl _ (by first|rfl|assumption|exact nums_at _ (by omega)) ?_)
  |((with_reducible refine gate_store (t := 5) (p := 23) rfl ?_);refine l_store1 rfl H 5 _ _ rfl _ _ rfl _ (by first|(go_simp;done)|(go_simp;with_reducible rfl)) (by (repeat (first|exact In.head|apply In.tail))) rfl rfl size5 (by (first|rfl|assumption|omega|(simp only [nums_length];omega)|(simp [nums_length,zs];done)|(simp [nums_length,zs];omega))) ?_;clear H;intro W H))
   rw [nums_set,HS.out,← HM.out] at H
   go_roundg gk'
   case measure => omega
   case rel => exact ⟨i + 1,by go_num,by omega,H⟩
  ·have hik : i = k := by omega
   subst hik
   by_cases cc : (i : Int) < cut
   ·have q1 : decide ((i : Int) < cut) = true := decide_eq_true cc
    have q2 : decide ((i : Int) < 64) = false := decide_eq_false (by omega)
    go_wp2_with (first
  |((with_reducible refine gate_dst (N := 24) rfl ?_);refine l_loadA rfl H 51 _ rfl _ rfl (by (repeat (first|exact In.head|apply In.tail))) _ _ Tryd.underlying51 rfl size51 (by (first|rfl|assumption|omega|(simp only [nums_length];omega)|(simp [nums_length,zs];done)|(simp [nums_length,zs];omega))) ?_)
  |((with_reducible refine gate_store (t := 51) (p := 6) rfl ?_);refine l_storeW rfl H 51 _ _ rfl _ rfl _ rfl (by (repeat (first|exact In.head|apply In.tail))) _ size51 (by (first|rfl|assumption|omega|(simp only [nums_length];omega)|(simp [nums_length,zs];done)|(simp [nums_length,zs];omega))) (by (first|rfl|assumption|omega|(simp only [nums_length];omega)|(simp [nums_length,zs];done)|(simp [nums_length,zs];omega))) (by (first|exact nums_one|assumption|(intro u hu;simp at hu;subst hu;rfl)|(intro u hu;simp at hu;rcases hu with rfl|rfl|rfl|rfl|rfl|rfl|rfl <;> rfl)|(intro u hu;simp at hu;rcases hu with rfl|rfl|rfl|rfl <;> rfl)|(intro u hu;simp at hu;rcases hu with rfl|rfl|rfl <;> rfl)|(intro u hu;simp at hu;rcases hu with rfl|rfl <;> rfl))) ?_;clear H;intro W H))
    refine bodyPost_ret (results_cell_row (p := 6) (ty := 51) rfl _ _ g6 51 _ (0,0) _ rfl (H.heap (.tail .head)) Tryd.underlying51 rfl (by rw [size51];simp only [List.size_toArray,nums_length,hl])) rfl ?_
    exact ⟨rfl,H.below⟩
   ·have q1 : decide ((i : Int) < cut) = false := decide_eq_false cc
    go_wp2_with (first
  |((with_reducible refine gate_dst (N := 24) rfl ?_);refine l_loadA rfl H 51 _ rfl _ rfl (by (repeat (first|exact In.head|apply In.tail))) _ _ Tryd.underlying51 rfl size51 (by (first|rfl|assumption|omega|(simp only [nums_length];omega)|(simp [nums_length,zs];done)|(simp [nums_length,zs];omega))) ?_)
  |((with_reducible refine gate_store (t := 51) (p := 6) rfl ?_);refine l_storeW rfl H 51 _ _ rfl _ rfl _ rfl (by (repeat (first|exact In.head|apply In.tail))) _ size51 (by (first|rfl|assumption|omega|(simp only [nums_length];omega)|(simp [nums_length,zs];done)|(simp [nums_length,zs];omega))) (by (first|rfl|assumption|omega|(simp only [nums_length];omega)|(simp [nums_length,zs];done)|(simp [nums_length,zs];omega))) (by (first|exact nums_one|assumption|(intro u hu;simp at hu;subst hu;rfl)|(intro u hu;simp at hu;rcases hu with rfl|rfl|rfl|rfl|rfl|rfl|rfl <;> rfl)|(intro u hu;simp at hu;rcases hu with rfl|rfl|rfl|rfl <;> rfl)|(intro u hu;simp at hu;rcases hu with rfl|rfl|rfl <;> rfl)|(intro u hu;simp at hu;rcases hu with rfl|rfl <;> rfl))) ?_;clear H;intro W H))
    refine bodyPost_ret (results_cell_row (p := 6) (ty := 51) rfl _ _ g6 51 _ (0,0) _ rfl (H.heap (.tail .head)) Tryd.underlying51 rfl (by rw [size51];simp only [List.size_toArray,nums_length,hl])) rfl ?_
    exact ⟨rfl,H.below⟩
end Go.Proofs.YtaekpfhgdnfciaaDoor.O
end

section
/- What Kept counts: plain. -/
set_option linter.unusedVariables false
set_option linter.unusedSimpArgs false
namespace Go.Proofs.YtaekpfhgdnfciaaDoor.O
open Go.RowKit Go.Proofs.YtaekpfhgdnfciaaDoor.F Go.Proofs.YtaekpfhgdnfciaaDoorW.PrintWords Go.Proofs.YtaekpfhgdnfciaaDoorW.PrintLast Go.Proofs.YtaekpfhgdnfciaaDoorW.PrintMore Go.Proofs.YtaekpfhgdnfciaaDoor.Plain
namespace KB
theorem two_l (a : Int) (ha : a ≤ 9223372036854775807) (d : Nat) : ∀ (k i : Nat),(i : Int) ≤ a → (a - i : Int) = d → d < k →
  strandlineref01_Two.l0 k a (((2 ^ i % 18446744073709551616 : Nat)) : Int) i = some (((2 ^ a.toNat % 18446744073709551616 : Nat)) : Int) := by
 induction d with
 |zero =>
  intro k i h1 hd hk
  obtain ⟨k,rfl⟩ : ∃ m,k = m + 1 := ⟨k - 1,by omega⟩
  simp only [strandlineref01_Two.l0]
  rw [if_neg (by omega),show a.toNat = i by omega]
 |succ d ih =>
  intro k i h1 hd hk
  obtain ⟨k,rfl⟩ : ∃ m,k = m + 1 := ⟨k - 1,by omega⟩
  simp only [strandlineref01_Two.l0]
  rw [if_pos (by omega),w64 (n := (i : Int) + 1) (by omega) (by omega),IntKind.wrap_u64]
  have hr := ih k (i + 1) (by omega) (by omega) (by omega)
  rw [show (((2 ^ i % 18446744073709551616 : Nat) : Int) * 2 % 18446744073709551616) = ((2 ^ (i + 1) % 18446744073709551616 : Nat) : Int) by rw [Nat.pow_succ];omega]
  exact hr
theorem two_eq (k : Nat) (a : Int) (h0 : 0 ≤ a) (h1 : a ≤ 63) (hk : 63 < k) : strandlineref01_Two.f k a = some ((2 : Int) ^ a.toNat) := by
 unfold strandlineref01_Two.f
 have := two_l a (by omega) a.toNat k 0 (by omega) (by omega) (by omega)
 rw [Nat.mod_eq_of_lt (show (2 : Nat) ^ a.toNat < 18446744073709551616 from Nat.pow_lt_pow_right (by decide) (by omega : a.toNat < 64)),pow_cast] at this
 exact this
/-- Bit i of bytes. -/
def bitb (l : List Int) (i : Int) : Bool := decide (0 ≤ i) && decide (i / 8 < (l.length : Int)) && (rd l (i / 8) / 2 ^ (i % 8).toNat % 2 == 1)
theorem rbit_eq {l : List Int} (hl : ∀ x ∈ l,(Lit.int .u8 x).wf = true) (i : Int) (hi : i ≤ 9223372036854775807) (n : Nat) (hn : 63 < n) : strandlineref01_Bit.f n l i = some (bitb l i) := by
 unfold strandlineref01_Bit.f bitb
 by_cases h : i ≥ 0
 ·rw [if_pos h,show decide (0 ≤ i) = true from decide_eq_true h,td h,w64 (n := i / 8) (by omega) (by omega),tm h]
  by_cases h2 : i / 8 < (l.length : Int)
  ·have hp : (0 : Int) < 2 ^ (i % 8).toNat := Int.pow_pos (by decide)
   rw [if_pos h2,if_pos (by omega),two_eq n (i % 8) (by omega) (by omega) hn,show decide (i / 8 < (l.length : Int)) = true from decide_eq_true h2]
   simp only [Option.bind_some]
   obtain ⟨r0,r1⟩ := rd_u8 hl (i / 8)
   have h3 : 0 ≤ rd l (i / 8) / 2 ^ (i % 8).toNat := Int.ediv_nonneg r0 (by omega)
   have h4 : rd l (i / 8) / 2 ^ (i % 8).toNat ≤ rd l (i / 8) := Int.ediv_le_self _ r0
   rw [if_neg (by omega),wu64 (n := rd l (i / 8)) (by omega) (by omega),td r0,wu64 (n := rd l (i / 8) / 2 ^ (i % 8).toNat) h3 (by omega),tm h3]
   simp
  ·rw [if_neg h2,show decide (i / 8 < (l.length : Int)) = false from decide_eq_false h2]
   simp
 ·rw [if_neg h,show decide (0 ≤ i) = false from decide_eq_false (by omega)]
  simp
end KB
end Go.Proofs.YtaekpfhgdnfciaaDoor.O
end

section
/- What any crash leaves of any sectors: plain. -/
set_option linter.unusedVariables false
set_option linter.unusedSimpArgs false
namespace Go.Proofs.YtaekpfhgdnfciaaDoor.O
open Go.RowKit Go.Proofs.YtaekpfhgdnfciaaDoor.F Go.Proofs.YtaekpfhgdnfciaaDoor.F.Nums Go.Proofs.YtaekpfhgdnfciaaDoorW.PrintWords Go.Proofs.YtaekpfhgdnfciaaDoorW.PrintLast Go.Proofs.YtaekpfhgdnfciaaDoorW.PrintMore Go.Proofs.YtaekpfhgdnfciaaDoor.Plain
def nearN (c : Int) : Nat := (mx 0 (mn c 64)).toNat
theorem nearN_le (c : Int) : nearN c ≤ 64 := by unfold nearN mx mn;split <;> split <;> omega
theorem nearN_max (c : Int) : (nearN c : Int) = max 0 (min c 64) := by unfold nearN mx mn;split <;> split <;> omega
def mixL (xs ys : List Int) (c : Int) : List Int := ys.take (nearN c) ++ xs.drop (nearN c)
theorem mixL_len {xs ys : List Int} (hx : xs.length = 64) (hy : ys.length = 64) (c : Int) : (mixL xs ys c).length = 64 := by
 have := nearN_le c
 unfold mixL
 rw [List.length_append,List.length_take,List.length_drop]
 omega
theorem mixL_0 (xs ys : List Int) : mixL xs ys 0 = xs := by
 unfold mixL
 rw [show nearN 0 = 0 from rfl]
 simp
theorem mixL_64 {xs ys : List Int} (hx : xs.length = 64) (hy : ys.length = 64) : mixL xs ys 64 = ys := by
 unfold mixL
 rw [show nearN 64 = 64 from rfl,List.take_of_length_le (by omega),List.drop_of_length_le (by omega),List.append_nil]
section
variable (fo fn keep : List Int) (torn cut : Int)
def cutAt (k : Nat) : Int := if (k : Int) = torn then cut else if KB.bitb keep k = true then 64 else 0
def outAt (k : Nat) : List Int := mixL (secAt fo k) (secAt fn k) (cutAt keep torn cut k)
def appF : Nat → List Int
 |0 => []
 |k + 1 => appF k ++ outAt fo fn keep torn cut k
variable {fo fn} {no nn : Nat}
theorem outAt_len (ho : fo.length = 64 * no) (hn : fn.length = 64 * nn) {k : Nat} (h1 : k < no) (h2 : k < nn) : (outAt fo fn keep torn cut k).length = 64 := mixL_len (secAt_len ho h1) (secAt_len hn h2) _
theorem appF_len (ho : fo.length = 64 * no) (hn : fn.length = 64 * nn) (k : Nat) (h1 : k ≤ no) (h2 : k ≤ nn) : (appF fo fn keep torn cut k).length = 64 * k := by
 induction k with
 |zero => rfl
 |succ k ih => rw [appF,List.length_append,ih (by omega) (by omega),outAt_len keep torn cut ho hn (by omega) (by omega)];omega
end
end Go.Proofs.YtaekpfhgdnfciaaDoor.O
end

section
/- The reference's Apply. -/
set_option linter.unusedVariables false
set_option linter.unusedSimpArgs false
namespace Go.Proofs.YtaekpfhgdnfciaaDoor.O
open Go.RowKit Go.Proofs.YtaekpfhgdnfciaaDoor.F Go.Proofs.YtaekpfhgdnfciaaDoor.F.Nums Go.Proofs.YtaekpfhgdnfciaaDoorW.PrintWords Go.Proofs.YtaekpfhgdnfciaaDoorW.PrintLast Go.Proofs.YtaekpfhgdnfciaaDoorW.PrintMore Go.Proofs.YtaekpfhgdnfciaaDoor.Plain
section
variable {fo fn : List Int} (keep : List Int) (torn cut : Int) {no nn : Nat}
set_option maxRecDepth 100000 in
set_option maxHeartbeats 4000000 in
theorem rapply_calls (n : Nat) (ho : fo.length = 64 * no) (hn : fn.length = 64 * nn) (h1 : n ≤ no) (h2 : n ≤ nn) (hmin : n = no ∨ n = nn) (h100 : n ≤ 100) (hl : ∀ x ∈ keep,(Lit.int .u8 x).wf = true) (A B Ak : Option Addr) (c d ck : Nat) (w : World)
  (hA : Rd w A (nums .u8 fo)) (hB : Rd w B (nums .u8 fn)) (hc : no ≤ c) (hd : nn ≤ d) (hk : (Kd.int .u8).C w Ak keep.length keep) (hck : keep.length ≤ ck) :
  Calls Tryd.prog 37 #[.slice A no c,.slice B nn d,.agg #[.slice Ak keep.length ck,.int .i64 torn,.int .i64 cut]] w fun e W => ∃ v,e = .returned v ∧ Own w F0 [.row v 51 64 n (nums .u8 (appF fo fn keep torn cut n))] W := by
 have H := Own.start w
 have FB := fun (k : Nat) (hk2 : k < 200) (W : World) (hb : Below w.heap.size w W) => strandlineref01_Bit.calls 100 Ak ck keep (k : Int) _ W (Kd.C_below hk hb) hck (KB.rbit_eq hl (k : Int) (by omega) 100 (by decide))
 have hend : ∀ k : Nat,k = n → (k < no ∧ k = nn) ∨ k = no := fun k e => by omega
 generalize keep.length = lk at *
 clear hmin
 go_enter Tryd.func37,Tryd.ntmps37
 go_wp2_with (first
  |((with_reducible refine gate_dst (N := 5) rfl ?_);refine l_boxA rfl H 46 _ rfl _ rfl ?_;clear H;intro g5 W H))
 go_loopg [7,8] n (fun gq v7 v8 w' => ∃ k : Nat,v8 = .int .i64 (k : Int) ∧ k + gq = n ∧ Own w F0 [.row v7 51 64 k (nums .u8 (appF fo fn keep torn cut k)),.blk g5 46 [.slice Ak lk ck,.int .i64 torn,.int .i64 cut]] w')
 case atStart => exact ⟨0,rfl,by omega,H.cons (r := .row (.slice none 0 0) 51 64 0 []) (Below.refl _ _) (own_nil _ _ _ _) (fun k hk => by cases hk)⟩
 case round =>
  clear H
  obtain ⟨k,rfl,hkn,H⟩ := hrel
  by_cases ck : k < n
  ·obtain ⟨gk',rfl⟩ : ∃ q,gk = q + 1 := ⟨gk - 1,by omega⟩
   have q1 : decide (k < no) = true := decide_eq_true (by omega)
   have q3 : decide (k < nn) = true := decide_eq_true (by omega)
   obtain ⟨ad,rfl⟩ := hA.some_ (by rw [nums_length];omega)
   obtain ⟨bd,rfl⟩ := hB.some_ (by rw [nums_length];omega)
   have p0 : ((0 : Int) ≤ (k : Int)) = True := eq_true (by omega)
   have p1 : ((k : Int) < (no : Int)) = True := eq_true (by omega)
   have p2 : ((k : Int) < (nn : Int)) = True := eq_true (by omega)
   have nA : ((nums .u8 fo).drop (k * 64)).take 64 = nums .u8 (secAt fo k) := by rw [nums_drop,nums_take,Nat.mul_comm];rfl
   have nB : ((nums .u8 fn).drop (k * 64)).take 64 = nums .u8 (secAt fn k) := by rw [nums_drop,nums_take,Nat.mul_comm];rfl
   have lA := secAt_len ho (show k < no by omega)
   have lB := secAt_len hn (show k < nn by omega)
   have hF : appF fo fn keep torn cut (k + 1) = appF fo fn keep torn cut k ++ mixL (secAt fo k) (secAt fn k) (cutAt keep torn cut k) := rfl
   have hcut : cutAt keep torn cut k = if (k : Int) = torn then cut else if KB.bitb keep k = true then 64 else 0 := rfl
   have FB := FB k (by omega)
   generalize appF fo fn keep torn cut k = af at H hF
   generalize secAt fo k = sa at nA lA hF
   generalize secAt fn k = sb at nB lB hF
   generalize cutAt keep torn cut k = cc at hcut hF
   generalize KB.bitb keep (k : Int) = b at hcut FB
   clear hl hk
   by_cases he : (k : Int) = torn
   ·have q2 : ((k : Int) == torn) = true := by simp [he]
    rw [if_pos he] at hcut
    subst hcut
    clear he
    have M := fun W => rmix_calls sa sb lA lB cc _ (nearN_max cc) W
    have lm := mixL_len lA lB cc
    change ∀ W,Calls _ _ _ W (fun e w' => e = .returned (.agg (nums .u8 (mixL sa sb cc)).toArray) ∧ Below W.heap.size W w') at M
    generalize mixL sa sb cc = mm at hF M lm
    go_wp2_with (first
  |((with_reducible refine gate_dst (N := 23) rfl ?_);refine l_load1 rfl H 3 _ rfl _ _ rfl (by (repeat (first|exact In.head|apply In.tail))) _ Tryd.underlying3 rfl _ (by first|rfl|assumption|exact nums_at _ (by omega)) ?_))
    refine start_ (n := 15) (S := Own _ _ _) (ds := [13]) #[f_,f_,f_,f_,f_,f_,f_,f_,f_,f_,f_,f_,f_,f_,f_] (by kernel_rfl) rfl rfl H.drew (fun hHeld => ?_)
    replace H := H.drew
    generalize World.drew _ = W at H hHeld ⊢
    refine pure_ (i := 0) (N := some 25) (v := ?_) (a' := ?_) #[t_,f_,f_,f_,f_,f_,f_,f_,f_,f_,f_,f_,f_,f_,f_] rfl rfl (by kernel_rfl) (fun _ _ _ h => h) (Or.inl ⟨by rfl,?_⟩) ?_ ?_
    rotate_left
    ·intro w'
     go_simp
     with_reducible rfl
    rotate_left
    ·simp only [ps_]
     rfl
    refine pure_ (i := 1) (N := some 26) (v := ?_) (a' := ?_) #[t_,t_,f_,f_,f_,f_,f_,f_,f_,f_,f_,f_,f_,f_,f_] rfl rfl (by kernel_rfl) (fun _ _ _ h => h) (Or.inl ⟨by rfl,?_⟩) ?_ ?_
    rotate_left
    ·intro w'
     go_simp
     with_reducible rfl
    rotate_left
    ·simp only [ps_]
     rfl
    refine pure_ (i := 2) (N := some 27) (v := ?_) (a' := ?_) #[t_,t_,t_,f_,f_,f_,f_,f_,f_,f_,f_,f_,f_,f_,f_] rfl rfl (by kernel_rfl) (fun _ _ _ h => h) (Or.inl ⟨by rfl,?_⟩) ?_ ?_
    rotate_left
    ·intro w'
     go_simp
     with_reducible rfl
    rotate_left
    ·simp only [ps_]
     rfl
    refine pure_ (i := 3) (N := some 28) (v := ?_) (a' := ?_) #[t_,t_,t_,t_,f_,f_,f_,f_,f_,f_,f_,f_,f_,f_,f_] rfl rfl (by kernel_rfl) (fun _ _ _ h => h) (Or.inl ⟨by rfl,?_⟩) ?_ ?_
    rotate_left
    ·intro w'
     go_simp
     with_reducible rfl
    rotate_left
    ·simp only [ps_]
     rfl
    refine pure_ (i := 5) (N := some 30) (v := ?_) (a' := ?_) #[t_,t_,t_,t_,f_,t_,f_,f_,f_,f_,f_,f_,f_,f_,f_] rfl rfl (by kernel_rfl) (fun _ _ _ h => h) (Or.inl ⟨by rfl,?_⟩) ?_ ?_
    rotate_left
    ·intro w'
     go_simp
     with_reducible rfl
    rotate_left
    ·simp only [ps_]
     rfl
    refine pure_ (i := 6) (N := some 31) (v := ?_) (a' := ?_) #[t_,t_,t_,t_,f_,t_,t_,f_,f_,f_,f_,f_,f_,f_,f_] rfl rfl (by kernel_rfl) (fun _ _ _ h => h) (Or.inl ⟨by rfl,?_⟩) ?_ ?_
    rotate_left
    ·intro w'
     go_simp
     with_reducible rfl
    rotate_left
    ·simp only [ps_]
     rfl
    refine pure_ (i := 7) (N := some 32) (v := ?_) (a' := ?_) #[t_,t_,t_,t_,f_,t_,t_,t_,f_,f_,f_,f_,f_,f_,f_] rfl rfl (by kernel_rfl) (fun _ _ _ h => h) (Or.inl ⟨by rfl,?_⟩) ?_ ?_
    rotate_left
    ·intro w'
     go_simp
     with_reducible rfl
    rotate_left
    ·simp only [ps_]
     rfl
    refine pure_ (i := 9) (N := some 34) (v := ?_) (a' := ?_) #[t_,t_,t_,t_,f_,t_,t_,t_,f_,t_,f_,f_,f_,f_,f_] rfl rfl (by kernel_rfl) (fun _ _ _ h => h) (Or.inl ⟨by rfl,?_⟩) ?_ ?_
    rotate_left
    ·intro w'
     go_simp
     with_reducible rfl
    rotate_left
    ·simp only [ps_]
     rfl
    refine take_run (i := 4) (N := some 29) (a' := ?_) #[t_,t_,t_,t_,t_,t_,t_,t_,f_,t_,f_,f_,f_,f_,f_] rfl rfl (by kernel_rfl) (fun _ _ _ _ h => h) (by rfl) hHeld (.agg (nums .u8 sa).toArray) (fun X HX => r_loadRdS 51 _ rfl (k * 64) rfl (hA.below HX.below) 64 _ Tryd.underlying51 rfl size51 (by decide) _ nA (by rw [nums_length];exact lA)) ?_ ?_
    rotate_left
    ·simp only [ps_]
     rfl
    refine take_run (i := 8) (N := some 33) (a' := ?_) #[t_,t_,t_,t_,t_,t_,t_,t_,t_,t_,f_,f_,f_,f_,f_] rfl rfl (by kernel_rfl) (fun _ _ _ _ h => h) (by rfl) hHeld (.agg (nums .u8 sb).toArray) (fun X HX => r_loadRdS 51 _ rfl (k * 64) rfl (hB.below HX.below) 64 _ Tryd.underlying51 rfl size51 (by decide) _ nB (by rw [nums_length];exact lB)) ?_ ?_
    rotate_left
    ·simp only [ps_]
     rfl
    refine one_ (i := 10) (N := some 35) #[t_,t_,t_,t_,t_,t_,t_,t_,t_,t_,t_,f_,f_,f_,f_] rfl rfl (by kernel_rfl) (by decide) (fun K hK => ?_)
    refine wanted_ rfl ?_
    refine w_load1 H 3 _ rfl _ _ rfl (by (repeat (first|exact In.head|apply In.tail))) _ Tryd.underlying3 rfl _ (by first|rfl|assumption|exact nums_at _ (by omega)) ?_
    refine hK.out _ _ ?_ (fun hHeld => ?_)
    ·first|trivial|exact H|exact H.del .head|exact (H.del .head).del .head|exact H.heap (by (repeat (first|exact In.head|apply In.tail)))
    clear hK K
    refine norm_ (a' := ?_) ?_ ?_
    rotate_left
    ·show Act.put _ (some 35) _ = _
     simp only [ps_]
     rfl
    refine one_ (i := 11) (N := some 36) #[t_,t_,t_,t_,t_,t_,t_,t_,t_,t_,t_,t_,f_,f_,f_] rfl rfl (by kernel_rfl) (by decide) (fun K hK => ?_)
    refine callK_ (M W) Tryd.func62 (by kernel_rfl) rfl (by rfl) rfl rfl (by (try simp only [List.map_toArray,List.map_cons,List.map_nil]);first|done|rfl) ?_
    rintro e W ⟨rfl,hb⟩
    refine ⟨_,rfl,?_⟩
    replace H := H.to hb
    clear hb
    refine hK.out _ _ ?_ (fun hHeld => ?_)
    ·first|trivial|exact H|exact H.del .head|exact (H.del .head).del .head|exact H.heap (by (repeat (first|exact In.head|apply In.tail)))
    clear hK K
    refine norm_ (a' := ?_) ?_ ?_
    rotate_left
    ·show Act.put _ (some 36) _ = _
     simp only [ps_]
     rfl
    refine one_ (i := 12) (N := some 37) #[t_,t_,t_,t_,t_,t_,t_,t_,t_,t_,t_,t_,t_,f_,f_] rfl rfl (by kernel_rfl) (by decide) (fun K hK => ?_)
    refine wanted_ rfl ?_
    refine w_build1A H 23 51 _ rfl Tryd.underlying23 _ rfl _ _ zs51 rfl (by (first|rfl|assumption|omega|(simp only [nums_length];omega)|(simp [nums_length,zs];done)|(simp [nums_length,zs];omega))) (by decide) (by decide) ?_
    clear H
    intro g37 W H
    refine hK.out _ _ ?_ (fun hHeld => ?_)
    ·first|trivial|exact H|exact H.del .head|exact (H.del .head).del .head|exact H.heap (by (repeat (first|exact In.head|apply In.tail)))
    clear hK K
    refine norm_ (a' := ?_) ?_ ?_
    rotate_left
    ·show Act.put _ (some 37) _ = _
     simp only [ps_]
     rfl
    refine last_ (i := 13) (N := some 38) #[t_,t_,t_,t_,t_,t_,t_,t_,t_,t_,t_,t_,t_,t_,f_] rfl rfl (by kernel_rfl) (by decide) (fun K hK => ?_)
    refine wanted_ rfl ?_
    refine w_append1 H _ _ 23 51 rfl Tryd.underlying23 _ _ _ inf51 rfl (by decide) (by decide) _ _ _ rfl (by (repeat (first|exact In.head|apply In.tail))) _ _ rfl (by (repeat (first|exact In.head|apply In.tail))) (by (first|rfl|assumption|omega|(simp only [nums_length];omega)|(simp [nums_length,zs];done)|(simp [nums_length,zs];omega))) (by (first|exact nums_one|assumption|(intro u hu;simp at hu;subst hu;rfl)|(intro u hu;simp at hu;rcases hu with rfl|rfl|rfl|rfl|rfl|rfl|rfl <;> rfl)|(intro u hu;simp at hu;rcases hu with rfl|rfl|rfl|rfl <;> rfl)|(intro u hu;simp at hu;rcases hu with rfl|rfl|rfl <;> rfl)|(intro u hu;simp at hu;rcases hu with rfl|rfl <;> rfl))) (by omega) ?_
    clear H
    intro v38 W H
    refine hK.out _ _ ?_
    clear hK K
    refine norm_ (a' := ?_) ?_ ?_
    rotate_left
    ·show Act.put _ (some 38) _ = _
     simp only [ps_]
     rfl
    refine pure_ (i := 14) (N := some 7) (v := ?_) (a' := ?_) #[t_,t_,t_,t_,t_,t_,t_,t_,t_,t_,t_,t_,t_,t_,t_] rfl rfl (by kernel_rfl) (fun _ _ _ h => h) (Or.inl ⟨by rfl,?_⟩) ?_ ?_
    rotate_left
    ·intro w'
     go_simp
     with_reducible rfl
    rotate_left
    ·simp only [ps_]
     rfl
    refine done_ (by kernel_rfl) ?_
    clear hHeld
    go_wp2
    go_roundg gk'
    case measure => omega
    case rel => exact ⟨k + 1,by go_num,by omega,by rw [hF,← nums_app];exact H.del .head⟩
   ·have q2 : ((k : Int) == torn) = false := by simp [he]
    rw [if_neg he] at hcut
    clear he
    rcases b with _|_
    ·rw [if_neg (by decide)] at hcut
     subst hcut
     rw [mixL_0] at hF
     go_wp2_with (first
  |((with_reducible refine gate_dst (N := 23) rfl ?_);refine l_load1 rfl H 3 _ rfl _ _ rfl (by (repeat (first|exact In.head|apply In.tail))) _ Tryd.underlying3 rfl _ (by first|rfl|assumption|exact nums_at _ (by omega)) ?_)
  |((with_reducible refine gate_dst (N := 40) rfl ?_);refine l_load1 rfl H 38 _ rfl _ _ rfl (by (repeat (first|exact In.head|apply In.tail))) _ Tryd.underlying38 rfl _ (by first|rfl|assumption|exact nums_at _ (by omega)) ?_)
  |((with_reducible refine gate_dst (N := 55) rfl ?_);refine l_build1A rfl H 23 51 _ rfl Tryd.underlying23 _ rfl _ _ zs51 rfl (by (first|rfl|assumption|omega|(simp only [nums_length];omega)|(simp [nums_length,zs];done)|(simp [nums_length,zs];omega))) (by decide) (by decide) ?_;clear H;intro g55 W H)
  |((with_reducible refine gate_dst (N := 56) rfl ?_);refine l_append1 rfl H _ _ 23 51 rfl Tryd.underlying23 _ _ _ inf51 rfl (by decide) (by decide) _ _ _ rfl (by (repeat (first|exact In.head|apply In.tail))) _ _ rfl (by (repeat (first|exact In.head|apply In.tail))) (by (first|rfl|assumption|omega|(simp only [nums_length];omega)|(simp [nums_length,zs];done)|(simp [nums_length,zs];omega))) (by (first|exact nums_one|assumption|(intro u hu;simp at hu;subst hu;rfl)|(intro u hu;simp at hu;rcases hu with rfl|rfl|rfl|rfl|rfl|rfl|rfl <;> rfl)|(intro u hu;simp at hu;rcases hu with rfl|rfl|rfl|rfl <;> rfl)|(intro u hu;simp at hu;rcases hu with rfl|rfl|rfl <;> rfl)|(intro u hu;simp at hu;rcases hu with rfl|rfl <;> rfl))) (by omega) ?_;clear H;intro v56 W H)
  |((with_reducible refine gate_dst (N := 54) rfl ?_);refine l_loadRdS rfl 51 _ rfl (k * 64) rfl (hA.below H.below) 64 _ Tryd.underlying51 rfl size51 (by decide) _ nA (by rw [nums_length];exact lA) ?_)
  |(go_at_call 63;(with_reducible refine (FB _ H.below).mono ?_);rintro e W ⟨rfl,hb⟩;replace H := H.to hb.below;clear hb))
     go_roundg gk'
     case measure => omega
     case rel => exact ⟨k + 1,by go_num,by omega,by rw [hF,← nums_app];exact H.del .head⟩
    ·rw [if_pos rfl] at hcut
     subst hcut
     rw [mixL_64 lA lB] at hF
     go_wp2_with (first
  |((with_reducible refine gate_dst (N := 23) rfl ?_);refine l_load1 rfl H 3 _ rfl _ _ rfl (by (repeat (first|exact In.head|apply In.tail))) _ Tryd.underlying3 rfl _ (by first|rfl|assumption|exact nums_at _ (by omega)) ?_)
  |((with_reducible refine gate_dst (N := 40) rfl ?_);refine l_load1 rfl H 38 _ rfl _ _ rfl (by (repeat (first|exact In.head|apply In.tail))) _ Tryd.underlying38 rfl _ (by first|rfl|assumption|exact nums_at _ (by omega)) ?_)
  |((with_reducible refine gate_dst (N := 48) rfl ?_);refine l_build1A rfl H 23 51 _ rfl Tryd.underlying23 _ rfl _ _ zs51 rfl (by (first|rfl|assumption|omega|(simp only [nums_length];omega)|(simp [nums_length,zs];done)|(simp [nums_length,zs];omega))) (by decide) (by decide) ?_;clear H;intro g48 W H)
  |((with_reducible refine gate_dst (N := 49) rfl ?_);refine l_append1 rfl H _ _ 23 51 rfl Tryd.underlying23 _ _ _ inf51 rfl (by decide) (by decide) _ _ _ rfl (by (repeat (first|exact In.head|apply In.tail))) _ _ rfl (by (repeat (first|exact In.head|apply In.tail))) (by (first|rfl|assumption|omega|(simp only [nums_length];omega)|(simp [nums_length,zs];done)|(simp [nums_length,zs];omega))) (by (first|exact nums_one|assumption|(intro u hu;simp at hu;subst hu;rfl)|(intro u hu;simp at hu;rcases hu with rfl|rfl|rfl|rfl|rfl|rfl|rfl <;> rfl)|(intro u hu;simp at hu;rcases hu with rfl|rfl|rfl|rfl <;> rfl)|(intro u hu;simp at hu;rcases hu with rfl|rfl|rfl <;> rfl)|(intro u hu;simp at hu;rcases hu with rfl|rfl <;> rfl))) (by omega) ?_;clear H;intro v49 W H)
  |((with_reducible refine gate_dst (N := 47) rfl ?_);refine l_loadRdS rfl 51 _ rfl (k * 64) rfl (hB.below H.below) 64 _ Tryd.underlying51 rfl size51 (by decide) _ nB (by rw [nums_length];exact lB) ?_)
  |(go_at_call 63;(with_reducible refine (FB _ H.below).mono ?_);rintro e W ⟨rfl,hb⟩;replace H := H.to hb.below;clear hb))
     go_roundg gk'
     case measure => omega
     case rel => exact ⟨k + 1,by go_num,by omega,by rw [hF,← nums_app];exact H.del .head⟩
  ·have e : k = n := by omega
   rcases hend k e with ⟨e1,e2⟩|e2
   ·have q1 : decide (k < no) = true := decide_eq_true e1
    have q3 : decide (k < nn) = false := decide_eq_false (by omega)
    subst e
    go_wp2
    go_ret
    exact ⟨_,rfl,H.del (.tail .head)⟩
   ·have q1 : decide (k < no) = false := decide_eq_false (by omega)
    subst e
    go_wp2
    go_ret
    exact ⟨_,rfl,H.del (.tail .head)⟩
end
end Go.Proofs.YtaekpfhgdnfciaaDoor.O
end
