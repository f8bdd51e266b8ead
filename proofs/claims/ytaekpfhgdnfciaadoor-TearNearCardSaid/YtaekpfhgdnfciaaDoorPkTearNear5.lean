/- Texts of mine put together: StampS, SealMath, SealC, FkSpan, FkStrandlineref07, SpanC, PlanR. -/
import Derived.Test.YtaekpfhgdnfciaaDoorPkTearNear4
import Derived.Test.YtaekpfhgdnfciaaDoorPkTearNear3
import Derived.Lib.Hide
set_option linter.unusedVariables false
set_option linter.unusedSimpArgs false
open Go.RowKit Go.Proofs.YtaekpfhgdnfciaaDoorW.PrintWords Go.Proofs.YtaekpfhgdnfciaaDoorW.PrintLast Go.Proofs.YtaekpfhgdnfciaaDoorW.PrintMore

section
namespace Go.Proofs.YtaekpfhgdnfciaaDoor.F
open Nums
theorem eq64 {xs ys : List Int} (hx : xs.length = 64) (hy : ys.length = 64) (bx : Bytes xs) (by' : Bytes ys) (w : World) :
  (Op.equalIn 10000 51 (.agg (vals xs).toArray) (.agg (vals ys).toArray)).run Tryd.prog w = .ok (xs == ys) w := equalB 9998 w 51 64 Tryd.underlying51 hx hy bx by'
set_option maxRecDepth 100000 in
set_option maxHeartbeats 2000000 in
theorem refSeal_calls (k : Nat) (e i : Int) (room : List Int) (A : Option Addr) (c : Nat) (out : List Int) (w : World) (hr : Kd.C (Kd.int .u8) w A room.length room) (hc : room.length ≤ c) (ho : out.length = 64)
  (hB : ∀ j : Nat,j < 64 → strandlineref06_Byte.f k e i room (j : Int) = some (out.getD j 0)) :
  Calls Tryd.prog 73 #[.int .u64 e,.int .i64 i,.slice A room.length c] w fun en w' => en = .returned (.agg (vals out).toArray) ∧ Below w.heap.size w w' := by
 have HR := Aside0.mk hr
 have HC := Aside0.mk hc
 have HBy := Aside0.mk hB
 clear hr hc hB
 have hz : z64b.length = 64 := rfl
 have FR0 : Byt ((w.alloc (.cells (vals z64b).toArray 51)).alloc (.cells (vals z64b).toArray 51)) w.heap.size 51 z64b := blk_alloc (blk_new w (.cells (vals z64b).toArray 51)) _
 have FS0 : Byt ((w.alloc (.cells (vals z64b).toArray 51)).alloc (.cells (vals z64b).toArray 51)) (w.heap.size + 1) 51 z64b := by
  have := blk_new (w.alloc (.cells (vals z64b).toArray 51)) (.cells (vals z64b).toArray 51)
  rw [World.size_alloc] at this
  exact this
 have FB0 : Below w.heap.size w ((w.alloc (.cells (vals z64b).toArray 51)).alloc (.cells (vals z64b).toArray 51)) := below_alloc (below_alloc (Below.refl _ _) _) _
 have hW0 : ∃ W0,(w.alloc (.cells (vals z64b).toArray 51)).alloc (.cells (vals z64b).toArray 51) = W0 := ⟨_,rfl⟩
 obtain ⟨W0,hW0⟩ := hW0
 rw [hW0] at FR0 FS0 FB0
 rw [show (vals z64b).toArray = #[.int .u8 0,.int .u8 0,.int .u8 0,.int .u8 0,.int .u8 0,.int .u8 0,.int .u8 0,.int .u8 0,.int .u8 0,.int .u8 0,.int .u8 0,.int .u8 0,.int .u8 0,.int .u8 0,.int .u8 0,.int .u8 0,.int .u8 0,.int .u8 0,.int .u8 0,.int .u8 0,.int .u8 0,.int .u8 0,.int .u8 0,.int .u8 0,.int .u8 0,.int .u8 0,.int .u8 0,.int .u8 0,.int .u8 0,.int .u8 0,.int .u8 0,.int .u8 0,.int .u8 0,.int .u8 0,.int .u8 0,.int .u8 0,.int .u8 0,.int .u8 0,.int .u8 0,.int .u8 0,.int .u8 0,.int .u8 0,.int .u8 0,.int .u8 0,.int .u8 0,.int .u8 0,.int .u8 0,.int .u8 0,.int .u8 0,.int .u8 0,.int .u8 0,.int .u8 0,.int .u8 0,.int .u8 0,.int .u8 0,.int .u8 0,.int .u8 0,.int .u8 0,.int .u8 0,.int .u8 0,.int .u8 0,.int .u8 0,.int .u8 0,.int .u8 0] from rfl] at hW0
 go_enter Tryd.func73,Tryd.ntmps73
 go_wp2_with (first
  |((with_reducible refine gate_store (t := 51) (p := 7) rfl ?_)
    (try rw [hW0])
    refine wpList_store_row rfl 51 (.tmp 7) (.tmp 9) rfl (w.heap.size + 1) (vals z64b).toArray rfl rfl 51 (vals z64b).toArray FS0 (infoSec hz) rfl (vals_all z64b) ?_
    have FS1 : Byt (World.setRow W0 (w.heap.size + 1) (vals z64b).toArray) (w.heap.size + 1) 51 z64b := setRow_heap W0 (w.heap.size + 1) _ _ _ _ FS0
    have FR1 : Byt (World.setRow W0 (w.heap.size + 1) (vals z64b).toArray) w.heap.size 51 z64b := (setRow_other W0 (w.heap.size + 1) w.heap.size _ (by omega)).trans FR0
    have FB1 := below_setRow FB0 (show w.heap.size ≤ w.heap.size + 1 by omega) (vals z64b).toArray
    generalize World.setRow W0 (w.heap.size + 1) (vals z64b).toArray = W1 at FS1 FR1 FB1 ⊢
    clear FS0 FR0 FB0 hW0))
 have HR1 := Aside0.mk (Kd.C_below HR.out FB1)
 replace FS1 := Aside0.mk FS1
 replace FR1 := Aside0.mk FR1
 replace FB1 := Aside0.mk FB1
 go_loopg [8] 64 (fun gq v8 w' => ∃ j : Nat,v8 = .int .i64 j ∧ Aside0 (j + gq = 64) ∧ Aside0 (Byt w' (w.heap.size + 1) 51 (fillB out j z64b)) ∧ Aside0 (Byt w' w.heap.size 51 z64b) ∧ Aside0 (Below w.heap.size w w'))
 case atStart => exact ⟨0,rfl,⟨rfl⟩,FS1,FR1,FB1⟩
 case round =>
  clear FS1 FR1 FB1
  obtain ⟨j,rfl,HQ,FS,FR,FB⟩ := hrel
  by_cases cj : j < 64
  ·obtain ⟨gk',rfl⟩ : ∃ q,gk = q + 1 := ⟨gk - 1,by have := HQ.out;omega⟩
   have q1 : decide ((j : Int) < 64) = true := decide_eq_true (by omega)
   have p0 : ((0 : Int) ≤ (j : Int)) = True := eq_true (by omega)
   have p1 : ((j : Int) < 64) = True := eq_true (by omega)
   have hfl := fillB_len out z64b j
   go_wp2_with fail
   refine (strandlineref06_Byte.calls k e i A c room j (out.getD j 0) _ (Kd.C_below HR.out FB.out) HC.out (HBy.out j cj)).mono ?_
   rintro en w2 ⟨rfl,hb2⟩
   have FS2 := FS.out.below hb2
   have FR2 := FR.out.below hb2
   have FB2 := below_step FB.out hb2
   have y1 : w2.cell? ⟨w.heap.size + 1,j,none⟩ = some (.int .u8 ((fillB out j z64b).getD j 0)) := by
    rw [FS2.cell,List.getElem?_eq_getElem (by rw [hfl];exact cj),List.getD_eq_getElem?_getD,List.getElem?_eq_getElem (by rw [hfl];exact cj)]
    rfl
   have y2 := blk_frozen FS2 j
   have FS3 := Aside0.mk (show Byt (w2.setCell ⟨w.heap.size + 1,j,none⟩ (.int .u8 (out.getD j 0))) (w.heap.size + 1) 51 (fillB out (j + 1) z64b) from FS2.set j (out.getD j 0))
   have FR3 := Aside0.mk (show Byt (w2.setCell ⟨w.heap.size + 1,j,none⟩ (.int .u8 (out.getD j 0))) w.heap.size 51 z64b from (Below.heap_setCell w2 ⟨w.heap.size + 1,j,none⟩ _ _ (by show w.heap.size ≠ w.heap.size + 1;omega)).trans FR2)
   have FB3 := Aside0.mk (Below.setCell FB2 (p := ⟨w.heap.size + 1,j,none⟩) (by show w.heap.size ≤ w.heap.size + 1;omega) (.int .u8 (out.getD j 0)))
   clear FS2 FR2 FB2 FS FR FB hb2
   generalize out.getD j 0 = z at FS3 FR3 FB3 ⊢
   go_wp2_with fail
   go_roundg gk'
   case measure => omega
   case rel => exact ⟨j + 1,by go_num,⟨by have := HQ.out;omega⟩,FS3,FR3,FB3⟩
  ·have hj : j = 64 := by have := HQ.out;omega
   subst hj
   have q1 : decide (((64 : Nat) : Int) < 64) = false := by decide
   have hfa : fillB out 64 z64b = out := by have := fillB_all out z64b (by rw [ho];rfl);rwa [ho] at this
   rw [hfa] at FS
   go_wp2_with (first
    |((with_reducible refine gate_dst (N := 21) rfl ?_)
      refine wpList_load_row rfl 51 (.tmp 7) rfl (w.heap.size + 1) rfl 51 (vals out).toArray (0,0) _ FS.out Tryd.underlying51 rfl (infoSec ho) ?_)
    |((with_reducible refine gate_store (t := 51) (p := 6) rfl ?_)
      refine wpList_store_row rfl 51 (.tmp 6) (.tmp 21) rfl w.heap.size (vals out).toArray rfl rfl 51 (vals z64b).toArray FR.out (infoSec ho) (by simp [vals,ho,hz]) (vals_all out) ?_
      have FE : Byt (World.setRow wr w.heap.size (vals out).toArray) w.heap.size 51 out := setRow_heap wr w.heap.size _ _ _ _ FR.out
      have FB2 := below_setRow FB.out (Nat.le_refl _) (vals out).toArray
      generalize World.setRow wr w.heap.size (vals out).toArray = W5 at FE FB2 ⊢
      clear FS FR FB))
   refine bodyPost_ret (results_cell_row (p := 6) (ty := 51) rfl _ _ w.heap.size 51 (vals out).toArray (0,0) _ rfl FE Tryd.underlying51 rfl (infoSec ho)) rfl ?_
   exact ⟨rfl,FB2⟩
end Go.Proofs.YtaekpfhgdnfciaaDoor.F
end

section
namespace Go.Proofs.YtaekpfhgdnfciaaDoor.F
namespace Nums
open Go.Proofs.YtaekpfhgdnfciaaDoor.Plain
theorem splice_get {l cs : List Int} {o : Nat} (h : o + cs.length ≤ l.length) (j : Nat) : (splice l o cs)[j]? = if j < o then l[j]? else if j < o + cs.length then cs[j - o]? else l[j]? := by
 have hl : (l.take o).length = o := by rw [List.length_take];omega
 unfold splice
 by_cases h1 : j < o
 ·rw [if_pos h1,List.getElem?_append_left (by omega),List.getElem?_take_of_lt h1]
 ·rw [if_neg h1,List.getElem?_append_right (by omega),hl]
  by_cases h2 : j < o + cs.length
  ·rw [if_pos h2,List.getElem?_append_left (by omega)]
  ·rw [if_neg h2,List.getElem?_append_right (by omega),List.getElem?_drop]
   congr 1
   omega
theorem getD_of {l : List Int} {j : Nat} {z : Int} (h : l[j]? = some z) : l.getD j 0 = z := by rw [List.getD_eq_getElem?_getD,h];rfl
theorem rd_getD (l : List Int) (j : Nat) : rd l (j : Int) = l.getD j 0 := by unfold rd;rw [Int.toNat_natCast]
theorem byte_eq (k : Nat) (hk : 8 < k) (n : Nat) (hn : n < 18446744073709551616) (i : Int) (room : List Int) (hr : room.length ≤ 140737488355328) (j : Nat) (hj : j < 64) :
  strandlineref06_Byte.f k n i room (j : Int) = some ((sealF n i room).getD j 0) := by
 obtain ⟨m,hm⟩ : ∃ m : Nat,IntKind.u64.wrap i = m := ⟨(IntKind.u64.wrap i).toNat,by rw [IntKind.wrap_u64];omega⟩
 have hm2 : m < 18446744073709551616 := by rw [IntKind.wrap_u64] at hm;omega
 have L1 := putl_len n 8
 have L2 := putl_len m 4
 have P1 := rput_eq k hk n hn 8 (by decide)
 have P2 := rput_eq k hk m hm2 4 (by decide)
 rw [show (cl8 8).toNat = 8 from rfl] at P1
 rw [show (cl8 4).toNat = 4 from rfl] at P2
 have hl1 : (splice z64b 0 (putl n 8)).length = 64 := by rw [length_splice _ _ _ (by rw [L1];decide)];rfl
 have hl2 : (splice (splice z64b 0 (putl n 8)) 8 (putl m 4)).length = 64 := by rw [length_splice _ _ _ (by rw [L2,hl1];decide),hl1]
 have hz : ∀ j : Nat,j < 64 → z64b[j]? = some 0 := fun j hj => by unfold z64b;rw [List.getElem?_replicate,if_pos hj]
 have e : (sealF n i room)[j]? = if j < 12 then (if j < 8 then (putl n 8)[j]? else (putl m 4)[j - 8]?) else if j < 12 + (room.take 52).length then (room.take 52)[j - 12]? else some 0 := by
  unfold sealF
  rw [Int.toNat_natCast,hm,Int.toNat_natCast,splice_get (by rw [hl2,List.length_take];omega),splice_get (by rw [hl1,L2];decide),splice_get (by rw [L1];decide),L1,L2]
  by_cases h1 : j < 8
  ·rw [if_pos (by omega),if_pos h1,if_neg (by omega),if_pos (by omega),if_pos (by omega),if_pos h1];rfl
  ·by_cases h2 : j < 12
   ·rw [if_pos h2,if_neg h1,if_pos (by omega),if_pos h2,if_neg h1]
   ·simp [h1,h2,show ¬ j < 0 + 8 by omega,show ¬ j < 8 + 4 by omega,hz j hj]
 unfold strandlineref06_Byte.f
 by_cases h1 : j < 8
 ·rw [if_pos h1,if_pos (by omega)] at e
  rw [List.getElem?_eq_getElem (show j < (putl n 8).length by rw [L1];exact h1)] at e
  rw [if_pos (by omega),P1,Option.bind_some,L1,if_pos (by omega),if_pos (by omega),rd_getD,getD_of e,List.getD_eq_getElem?_getD,List.getElem?_eq_getElem (show j < (putl n 8).length by rw [L1];exact h1)]
  rfl
 ·by_cases h2 : j < 12
  ·rw [if_pos h2,if_neg h1] at e
   rw [if_neg (by omega),if_pos (by omega),hm,P2,Option.bind_some,L2,show wrap64 ((j : Int) - 8) = ((j - 8 : Nat) : Int) by rw [w64 (by omega) (by omega)];omega,if_pos (by omega),if_pos (by omega),rd_getD]
   rw [List.getElem?_eq_getElem (show j - 8 < (putl m 4).length by rw [L2];omega)] at e
   rw [getD_of e,List.getD_eq_getElem?_getD,List.getElem?_eq_getElem (show j - 8 < (putl m 4).length by rw [L2];omega)]
   rfl
  ·rw [if_neg h2] at e
   rw [if_neg (by omega),if_neg (by omega),show wrap64 ((j : Int) - 12) = ((j - 12 : Nat) : Int) by rw [w64 (by omega) (by omega)];omega]
   by_cases h3 : j - 12 < room.length
   ·rw [if_pos (by rw [List.length_take];omega),List.getElem?_take_of_lt (by omega),List.getElem?_eq_getElem h3] at e
    rw [if_pos (by omega),if_pos (by omega),rd_getD,getD_of e,List.getD_eq_getElem?_getD,List.getElem?_eq_getElem h3]
    rfl
   ·rw [if_neg (by rw [List.length_take];omega)] at e
    rw [if_neg (by omega),getD_of e]
end Nums
end Go.Proofs.YtaekpfhgdnfciaaDoor.F
end

section
namespace Go.Proofs.YtaekpfhgdnfciaaDoor.O
open Go.Proofs.YtaekpfhgdnfciaaDoor.F Go.Proofs.YtaekpfhgdnfciaaDoor.F.Nums Go.Proofs.YtaekpfhgdnfciaaDoor.Plain
theorem sealF_eq (e i : Int) (room : List Int) : sealF e i room = putl e.toNat 8 ++ (putl (IntKind.u64.wrap i).toNat 4 ++ (room.take 52 ++ zs (52 - room.length))) := by
 have h0 : splice z64b 0 (putl e.toNat 8) = putl e.toNat 8 ++ zs 56 := by
  have := splice_at ([] : List Int) z64b (putl e.toNat 8) 0 rfl
  rw [List.nil_append,List.nil_append,putl_len] at this
  rw [this]
  congr 1
 unfold sealF
 rw [h0,splice_at _ _ _ 8 (putl_len _ _),putl_len,← List.append_assoc,splice_at _ _ _ 12 (by rw [List.length_append,putl_len,putl_len])]
 rw [List.append_assoc]
 congr 3
 unfold zs
 rw [List.drop_replicate,List.drop_replicate,List.length_take]
 congr 1
 omega
theorem seal_bytes (e i : Int) {room : List Int} (h : Bytes room) : Bytes (sealF e i room) := by
 rw [sealF_eq]
 exact bytes_append (putl_bytes _ _) (bytes_append (putl_bytes _ _) (bytes_append (bytes_take h _) (bytes_zs _)))
theorem rseal_c (e i : Int) (room : List Int) (A : Option Addr) (c : Nat) (w : World) (hr : Kd.C (Kd.int .u8) w A room.length room) (hc : room.length ≤ c) (h0 : 0 ≤ e) (h1 : e ≤ 18446744073709551615) (hl : room.length ≤ 140737488355328) :
  Calls Tryd.prog 73 #[.int .u64 e,.int .i64 i,.slice A room.length c] w fun en w' => en = .returned (.agg (nums .u8 (sealF e i room)).toArray) ∧ Below w.heap.size w w' := by
 obtain ⟨n,rfl⟩ := Int.eq_ofNat_of_zero_le h0
 exact refSeal_calls 9 n i room A c (sealF n i room) w hr hc (sealF_len _ _ _) (fun j hj => byte_eq 9 (by decide) n (by omega) i room hl j hj)
def secAt (fl : List Int) (k : Nat) : List Int := (fl.drop (64 * k)).take 64
theorem secAt_len {fl : List Int} {n k : Nat} (h : fl.length = 64 * n) (hk : k < n) : (secAt fl k).length = 64 := by
 unfold secAt
 rw [List.length_take,List.length_drop]
 omega
end Go.Proofs.YtaekpfhgdnfciaaDoor.O
end

section
namespace Go.Proofs.YtaekpfhgdnfciaaDoor.F

attribute [local go_sem high] eqA83
attribute [local go_sem] field83_0
attribute [local go_sem] field83_1
attribute [local go_sem] max2_int min2_int max_two min_two max_three min_three max_four min_four
/-! ### span_near: function 58 -/
def span_near.f (a0 : Int) (a1 : Int) : Option (Int) := some (mx 0 (mn a0 a1))
set_option maxHeartbeats 8000000 in
set_option maxRecDepth 100000 in
theorem span_near.calls (a0 : Int) (a1 : Int) (r : Int) (w : World) (h : span_near.f a0 a1 = some r) :
  Calls Tryd.prog 58 #[.int .i64 a0,.int .i64 a1] w fun e w' => e = .returned (.int .i64 r) ∧ Below w.heap.size w w' := by
 have hu73 := Tryd.underlying73
 have hu76 := Tryd.underlying76
 have hu83 := Tryd.underlying83
 have hu94 := Tryd.underlying94
 have hu106 := Tryd.underlying106
 have HB := Aside0.mk (Below.refl w.heap.size w)
 have H : (some (mx 0 (mn a0 a1))) = some r := h
 clear h
 obtain ⟨ji3,hji3⟩ : ∃ j_ : Int,(mn a0 a1) = j_ := ⟨_,rfl⟩
 replace H : (some (mx 0 (ji3))) = some r := by first|(rw [hji3] at H;exact H)|(simp only [hji3] at H ⊢;exact H)
 have hji3_ : (if a1 < a0 then a1 else a0) = ji3 := hji3
 obtain ⟨ji4,hji4⟩ : ∃ j_ : Int,(mx 0 (ji3)) = j_ := ⟨_,rfl⟩
 replace H : (some ji4) = some r := by first|(rw [hji4] at H;exact H)|(simp only [hji4] at H ⊢;exact H)
 have hji4_ : (if 0 < (ji3) then (ji3) else 0) = ji4 := hji4
 obtain rfl := Option.some.inj H
 go_enter Tryd.func58,Tryd.ntmps58
 go_wp2
 go_ret
 exact ⟨by first|rfl|(simp [errW_none,errW_some] <;> rfl)|(simp only [← hji3,← hji4];first|rfl|(simp [errW_none,errW_some] <;> rfl))|(simp [*,errW_none,errW_some] <;> rfl),by repeat (first|(with_reducible first|exact HB.out|apply below_alloc|apply pw_below_drewN|apply below_drew1)|exact HB.out)⟩
/-! ### span_Where: function 32 -/
def span_Where.f (a0 : Int) : Option (Int × Int) := (span_near.f a0 832).bind fun t102 => (some (wrap64 (Int.tdiv t102 52),Int.tmod t102 52))
set_option maxHeartbeats 8000000 in
set_option maxRecDepth 100000 in
theorem span_Where.calls (a0 : Int) (r1 : Int) (r2 : Int) (w : World) (h : span_Where.f a0 = some (r1,r2)) :
  Calls Tryd.prog 32 #[.int .i64 a0] w fun e w' => e = .returned (.agg #[.int .i64 r1,.int .i64 r2]) ∧ Below w.heap.size w w' := by
 have hu73 := Tryd.underlying73
 have hu76 := Tryd.underlying76
 have hu94 := Tryd.underlying94
 have hu106 := Tryd.underlying106
 have hu83 := Tryd.underlying83
 have HB := Aside0.mk (Below.refl w.heap.size w)
 have H : ((span_near.f a0 832).bind fun t102 => (some (wrap64 (Int.tdiv t102 52),Int.tmod t102 52))) = some (r1,r2) := h
 clear h
 replace H := Option.bind_eq_some_iff.mp H
 obtain ⟨t102,A20,H⟩ := H
 replace H : (some (wrap64 (Int.tdiv t102 52),Int.tmod t102 52)) = some (r1,r2) := H
 have A2 := Aside0.mk A20
 clear A20
 simp only [Option.some.injEq,Prod.mk.injEq] at H
 obtain ⟨rfl,rfl⟩ := H
 go_enter Tryd.func32,Tryd.ntmps32
 go_wp2_with (first|((with_reducible refine gate_dst (N := 2) rfl ?_);refine box_event ?hg (N := 2) ?hd (cs := #[.int .i64 0,.int .i64 0]) (t := 83) ?hr ?_;(case hd => rfl);(case hg => rfl);(case hr => first|(go_simp;done)|(go_simp;rfl));intro gb101 hg w3 hbox hb;have n0_ := Aside0.mk (below_step (by repeat (first|(with_reducible first|exact HB.out|apply below_alloc|apply pw_below_drewN|apply below_drew1)|exact HB.out)) hb);have n1_ := Aside0.mk (hbox);have n2_ := Aside0.mk ((by rw [hg];exact (below_size (by repeat (first|(with_reducible first|exact HB.out|apply below_alloc|apply pw_below_drewN|apply below_drew1)|exact HB.out))) : w.heap.size ≤ gb101));have n3_ := Aside0.mk ((by rw [hg];exact (below_size (by repeat (first|(with_reducible first|exact HB.out|apply below_alloc|apply pw_below_drewN|apply below_drew1)|exact HB.out))) : w.heap.size ≤ gb101));clear HB;have HB := n0_;have BK101 := n1_;have GW101 := n2_;have GE101 := n3_;clear n0_ n1_ n2_ n3_;clear hb hbox hg)|((with_reducible refine gate_callee (f := 58) rfl ?_);refine goesL_ (some 4) rfl rfl Tryd.func58 (by kernel_rfl) rfl #[.int .i64 a0,.int .i64 832] rfl (by (try simp only [List.map_toArray,List.map_cons,List.map_nil]);first|done|rfl|(simp only [List.length_drop,List.length_take];rfl)) ?_;(with_reducible refine (span_near.calls a0 832 t102 _ A2.out).mono ?_);rintro e w4 ⟨rfl,hb⟩;refine ⟨_,rfl,?_⟩;have n0_ := Aside0.mk (blk_below (g := gb101) (o := .cells #[.int .i64 0,.int .i64 0] 83 (0,0)) (by (with_reducible repeat (first|refine blk_drewN ?_ _|refine blk_drew ?_|refine blk_alloc ?_ _));exact BK101.out) hb);have n1_ := Aside0.mk (below_step (by repeat (first|(with_reducible first|exact HB.out|apply below_alloc|apply pw_below_drewN|apply below_drew1|refine below_set ?_ GE101.out)|exact HB.out)) hb);clear BK101;clear HB;have BK101 := n0_;have HB := n1_;clear n0_ n1_;(try clear hb);(try clear hb2);(try clear hk);(try clear hi);have hcz5_0 : w4.cell? ⟨gb101,0,none⟩ = some (.int .i64 0) := (blk_cell BK101.out 0).trans rfl;have hcz5_1 : w4.cell? ⟨gb101,1,none⟩ = some (.int .i64 0) := (blk_cell BK101.out 1).trans rfl;have hfz5_0 := blk_frozen BK101.out 0;have hfz5_1 := blk_frozen BK101.out 1))
 refine bodyPost_ret (results_cell_row rfl _ _ gb101 83 #[.int .i64 (wrap64 (Int.tdiv t102 52)),.int .i64 (Int.tmod t102 52)] (0,0) _ rfl (by (with_reducible repeat (first|refine blk_drewN ?_ _|refine blk_drew ?_|refine blk_alloc ?_ _));refine blk_put (cs := #[.int .i64 (wrap64 (Int.tdiv t102 52)),.int .i64 0]) ?_ 1 _ rfl;(with_reducible repeat (first|refine blk_drewN ?_ _|refine blk_drew ?_|refine blk_alloc ?_ _));refine blk_put (cs := #[.int .i64 0,.int .i64 0]) ?_ 0 _ rfl;(with_reducible repeat (first|refine blk_drewN ?_ _|refine blk_drew ?_|refine blk_alloc ?_ _));exact BK101.out) Tryd.underlying83 rfl (by kernel_rfl)) rfl ?_
 exact ⟨by first|rfl|(simp [errW_none,errW_some] <;> rfl)|(simp [*,errW_none,errW_some] <;> rfl),by repeat (first|(with_reducible first|exact HB.out|apply below_alloc|apply pw_below_drewN|apply below_drew1|refine below_set ?_ GE101.out)|exact HB.out)⟩
/-! ### span_Begin: function 47 -/
def span_Begin.f (a0 : Int) : Option (Int) := (span_near.f a0 832).bind fun t103 => ((span_Where.f t103).bind fun bt104 => (if (wrap64 (52 - bt104.2)) < 11 then (some (wrap64 (t103 + (wrap64 (52 - bt104.2))))) else (some t103)))
set_option maxHeartbeats 8000000 in
set_option maxRecDepth 100000 in
theorem span_Begin.calls (a0 : Int) (r : Int) (w : World) (h : span_Begin.f a0 = some r) :
  Calls Tryd.prog 47 #[.int .i64 a0] w fun e w' => e = .returned (.int .i64 r) ∧ Below w.heap.size w w' := by
 have hu73 := Tryd.underlying73
 have hu76 := Tryd.underlying76
 have hu83 := Tryd.underlying83
 have hu94 := Tryd.underlying94
 have hu106 := Tryd.underlying106
 have HB := Aside0.mk (Below.refl w.heap.size w)
 have H : ((span_near.f a0 832).bind fun t103 => ((span_Where.f t103).bind fun bt104 => (if (wrap64 (52 - bt104.2)) < 11 then (some (wrap64 (t103 + (wrap64 (52 - bt104.2))))) else (some t103)))) = some r := h
 clear h
 replace H := Option.bind_eq_some_iff.mp H
 obtain ⟨t103,A20,H⟩ := H
 replace H : ((span_Where.f t103).bind fun bt104 => (if (wrap64 (52 - bt104.2)) < 11 then (some (wrap64 (t103 + (wrap64 (52 - bt104.2))))) else (some t103))) = some r := H
 have A2 := Aside0.mk A20
 clear A20
 replace H := Option.bind_eq_some_iff.mp H
 obtain ⟨⟨t104,t105⟩,A30,H⟩ := H
 replace H : (if (wrap64 (52 - t105)) < 11 then (some (wrap64 (t103 + (wrap64 (52 - t105))))) else (some t103)) = some r := H
 have A3 := Aside0.mk A30
 clear A30
 by_cases c4 : (wrap64 (52 - t105)) < 11
 ·rw [if_pos c4] at H
  have c4b0 : decide ((wrap64 (52 - t105)) < 11) = true := decide_eq_true c4
  clear c4
  obtain rfl := Option.some.inj H
  go_enter Tryd.func47,Tryd.ntmps47
  go_wp2_with (first|((with_reducible refine gate_callee (f := 58) rfl ?_);refine goesL_ (some 5) rfl rfl Tryd.func58 (by kernel_rfl) rfl #[.int .i64 a0,.int .i64 832] rfl (by (try simp only [List.map_toArray,List.map_cons,List.map_nil]);first|done|rfl|(simp only [List.length_drop,List.length_take];rfl)) ?_;(with_reducible refine (span_near.calls a0 832 t103 _ A2.out).mono ?_);rintro e w5 ⟨rfl,hb⟩;refine ⟨_,rfl,?_⟩;have n0_ := Aside0.mk (below_step (by repeat (first|(with_reducible first|exact HB.out|apply below_alloc|apply pw_below_drewN|apply below_drew1)|exact HB.out)) hb);clear HB;have HB := n0_;clear n0_;(try clear hb);(try clear hb2);(try clear hk);(try clear hi))|((with_reducible refine gate_callee (f := 32) rfl ?_);refine goesL_ (some 7) rfl rfl Tryd.func32 (by kernel_rfl) rfl #[.int .i64 t103] rfl (by (try simp only [List.map_toArray,List.map_cons,List.map_nil]);first|done|rfl|(simp only [List.length_drop,List.length_take];rfl)) ?_;(with_reducible refine (span_Where.calls t103 t104 t105 _ A3.out).mono ?_);rintro e w6 ⟨rfl,hb⟩;refine ⟨_,rfl,?_⟩;have n0_ := Aside0.mk (below_step (by repeat (first|(with_reducible first|exact HB.out|apply below_alloc|apply pw_below_drewN|apply below_drew1)|exact HB.out)) hb);clear HB;have HB := n0_;clear n0_;(try clear hb);(try clear hb2);(try clear hk);(try clear hi)))
  go_ret
  exact ⟨by first|rfl|(simp [errW_none,errW_some] <;> rfl)|(simp [*,errW_none,errW_some] <;> rfl),by repeat (first|(with_reducible first|exact HB.out|apply below_alloc|apply pw_below_drewN|apply below_drew1)|exact HB.out)⟩
 ·rw [if_neg c4] at H
  have c4b0 : decide ((wrap64 (52 - t105)) < 11) = false := decide_eq_false c4
  clear c4
  obtain rfl := Option.some.inj H
  go_enter Tryd.func47,Tryd.ntmps47
  go_wp2_with (first|((with_reducible refine gate_callee (f := 58) rfl ?_);refine goesL_ (some 5) rfl rfl Tryd.func58 (by kernel_rfl) rfl #[.int .i64 a0,.int .i64 832] rfl (by (try simp only [List.map_toArray,List.map_cons,List.map_nil]);first|done|rfl|(simp only [List.length_drop,List.length_take];rfl)) ?_;(with_reducible refine (span_near.calls a0 832 t103 _ A2.out).mono ?_);rintro e w7 ⟨rfl,hb⟩;refine ⟨_,rfl,?_⟩;have n0_ := Aside0.mk (below_step (by repeat (first|(with_reducible first|exact HB.out|apply below_alloc|apply pw_below_drewN|apply below_drew1)|exact HB.out)) hb);clear HB;have HB := n0_;clear n0_;(try clear hb);(try clear hb2);(try clear hk);(try clear hi))|((with_reducible refine gate_callee (f := 32) rfl ?_);refine goesL_ (some 7) rfl rfl Tryd.func32 (by kernel_rfl) rfl #[.int .i64 t103] rfl (by (try simp only [List.map_toArray,List.map_cons,List.map_nil]);first|done|rfl|(simp only [List.length_drop,List.length_take];rfl)) ?_;(with_reducible refine (span_Where.calls t103 t104 t105 _ A3.out).mono ?_);rintro e w8 ⟨rfl,hb⟩;refine ⟨_,rfl,?_⟩;have n0_ := Aside0.mk (below_step (by repeat (first|(with_reducible first|exact HB.out|apply below_alloc|apply pw_below_drewN|apply below_drew1)|exact HB.out)) hb);clear HB;have HB := n0_;clear n0_;(try clear hb);(try clear hb2);(try clear hk);(try clear hi)))
  go_ret
  exact ⟨by first|rfl|(simp [errW_none,errW_some] <;> rfl)|(simp [*,errW_none,errW_some] <;> rfl),by repeat (first|(with_reducible first|exact HB.out|apply below_alloc|apply pw_below_drewN|apply below_drew1)|exact HB.out)⟩
/-! ### span_Left: function 50 -/
def span_Left.f (a0 : Int) : Option (Int) := (span_near.f a0 832).bind fun t103 => ((span_Where.f t103).bind fun bt104 => (if (bt104.1 == 16 && (bt104.2 == 0)) = true then (some 0) else (some (wrap64 (208 - (Int.tmod t103 208))))))
set_option maxHeartbeats 8000000 in
set_option maxRecDepth 100000 in
theorem span_Left.calls (a0 : Int) (r : Int) (w : World) (h : span_Left.f a0 = some r) :
  Calls Tryd.prog 50 #[.int .i64 a0] w fun e w' => e = .returned (.int .i64 r) ∧ Below w.heap.size w w' := by
 have hu73 := Tryd.underlying73
 have hu76 := Tryd.underlying76
 have hu94 := Tryd.underlying94
 have hu106 := Tryd.underlying106
 have hu83 := Tryd.underlying83
 have HB := Aside0.mk (Below.refl w.heap.size w)
 have H : ((span_near.f a0 832).bind fun t103 => ((span_Where.f t103).bind fun bt104 => (if (bt104.1 == 16 && (bt104.2 == 0)) = true then (some 0) else (some (wrap64 (208 - (Int.tmod t103 208))))))) = some r := h
 clear h
 replace H := Option.bind_eq_some_iff.mp H
 obtain ⟨t103,A20,H⟩ := H
 replace H : ((span_Where.f t103).bind fun bt104 => (if (bt104.1 == 16 && (bt104.2 == 0)) = true then (some 0) else (some (wrap64 (208 - (Int.tmod t103 208)))))) = some r := H
 have A2 := Aside0.mk A20
 clear A20
 replace H := Option.bind_eq_some_iff.mp H
 obtain ⟨⟨t104,t105⟩,A30,H⟩ := H
 replace H : (if (t104 == 16 && (t105 == 0)) = true then (some 0) else (some (wrap64 (208 - (Int.tmod t103 208))))) = some r := H
 have A3 := Aside0.mk A30
 clear A30
 by_cases c4 : (t104 == 16 && (t105 == 0)) = true
 ·rw [if_pos c4] at H
  have c4b0 : (t104 == 16 && (t105 == 0)) = true := c4
  (try (have c4b1 : decide (t104 = 16 && (t105 == 0)) = true := by simpa using c4))
  (try (have c4b2 : (t104 == 16 && (t105 == 0)) = true := by simpa using c4))
  clear c4
  obtain rfl := Option.some.inj H
  go_enter Tryd.func50,Tryd.ntmps50
  go_wp2_with (first|((with_reducible refine gate_callee (f := 58) rfl ?_);refine goesL_ (some 4) rfl rfl Tryd.func58 (by kernel_rfl) rfl #[.int .i64 a0,.int .i64 832] rfl (by (try simp only [List.map_toArray,List.map_cons,List.map_nil]);first|done|rfl|(simp only [List.length_drop,List.length_take];rfl)) ?_;(with_reducible refine (span_near.calls a0 832 t103 _ A2.out).mono ?_);rintro e w5 ⟨rfl,hb⟩;refine ⟨_,rfl,?_⟩;have n0_ := Aside0.mk (below_step (by repeat (first|(with_reducible first|exact HB.out|apply below_alloc|apply pw_below_drewN|apply below_drew1)|exact HB.out)) hb);clear HB;have HB := n0_;clear n0_;(try clear hb);(try clear hb2);(try clear hk);(try clear hi))|((with_reducible refine gate_callee (f := 32) rfl ?_);refine goesL_ (some 6) rfl rfl Tryd.func32 (by kernel_rfl) rfl #[.int .i64 t103] rfl (by (try simp only [List.map_toArray,List.map_cons,List.map_nil]);first|done|rfl|(simp only [List.length_drop,List.length_take];rfl)) ?_;(with_reducible refine (span_Where.calls t103 t104 t105 _ A3.out).mono ?_);rintro e w6 ⟨rfl,hb⟩;refine ⟨_,rfl,?_⟩;have n0_ := Aside0.mk (below_step (by repeat (first|(with_reducible first|exact HB.out|apply below_alloc|apply pw_below_drewN|apply below_drew1)|exact HB.out)) hb);clear HB;have HB := n0_;clear n0_;(try clear hb);(try clear hb2);(try clear hk);(try clear hi)))
  go_ret
  exact ⟨by first|rfl|(simp [errW_none,errW_some] <;> rfl)|(simp [*,errW_none,errW_some] <;> rfl),by repeat (first|(with_reducible first|exact HB.out|apply below_alloc|apply pw_below_drewN|apply below_drew1)|exact HB.out)⟩
 ·rw [if_neg c4] at H
  have c4b0 : (t104 == 16 && (t105 == 0)) = false := by simpa using c4
  (try (have c4b1 : decide (t104 = 16 && (t105 == 0)) = false := by simpa using c4))
  (try (have c4b2 : (t104 == 16 && (t105 == 0)) = false := by simpa using c4))
  (try (have c4b3 : ¬ (t104 = 16 && (t105 == 0)) := by simpa using c4))
  clear c4
  obtain rfl := Option.some.inj H
  go_enter Tryd.func50,Tryd.ntmps50
  go_wp2_with (first|((with_reducible refine gate_callee (f := 58) rfl ?_);refine goesL_ (some 4) rfl rfl Tryd.func58 (by kernel_rfl) rfl #[.int .i64 a0,.int .i64 832] rfl (by (try simp only [List.map_toArray,List.map_cons,List.map_nil]);first|done|rfl|(simp only [List.length_drop,List.length_take];rfl)) ?_;(with_reducible refine (span_near.calls a0 832 t103 _ A2.out).mono ?_);rintro e w7 ⟨rfl,hb⟩;refine ⟨_,rfl,?_⟩;have n0_ := Aside0.mk (below_step (by repeat (first|(with_reducible first|exact HB.out|apply below_alloc|apply pw_below_drewN|apply below_drew1)|exact HB.out)) hb);clear HB;have HB := n0_;clear n0_;(try clear hb);(try clear hb2);(try clear hk);(try clear hi))|((with_reducible refine gate_callee (f := 32) rfl ?_);refine goesL_ (some 6) rfl rfl Tryd.func32 (by kernel_rfl) rfl #[.int .i64 t103] rfl (by (try simp only [List.map_toArray,List.map_cons,List.map_nil]);first|done|rfl|(simp only [List.length_drop,List.length_take];rfl)) ?_;(with_reducible refine (span_Where.calls t103 t104 t105 _ A3.out).mono ?_);rintro e w8 ⟨rfl,hb⟩;refine ⟨_,rfl,?_⟩;have n0_ := Aside0.mk (below_step (by repeat (first|(with_reducible first|exact HB.out|apply below_alloc|apply pw_below_drewN|apply below_drew1)|exact HB.out)) hb);clear HB;have HB := n0_;clear n0_;(try clear hb);(try clear hb2);(try clear hk);(try clear hi)))
  go_ret
  exact ⟨by first|rfl|(simp [errW_none,errW_some] <;> rfl)|(simp [*,errW_none,errW_some] <;> rfl),by repeat (first|(with_reducible first|exact HB.out|apply below_alloc|apply pw_below_drewN|apply below_drew1)|exact HB.out)⟩
/-! ### span_Touch: function 68 -/
def span_Touch.f (a0 : Int) (a1 : Int) : Option (Int × Int) := (span_near.f a0 832).bind fun t103 => ((span_near.f a1 832).bind fun t104 => (if t103 ≥ t104 then (some (0,0)) else ((span_Where.f t103).bind fun bt105 => ((span_Where.f (wrap64 (t104 - 1))).bind fun bt107 => (some (bt105.1,wrap64 (bt107.1 + 1)))))))
set_option maxHeartbeats 8000000 in
set_option maxRecDepth 100000 in
theorem span_Touch.calls (a0 : Int) (a1 : Int) (r1 : Int) (r2 : Int) (w : World) (h : span_Touch.f a0 a1 = some (r1,r2)) :
  Calls Tryd.prog 68 #[.int .i64 a0,.int .i64 a1] w fun e w' => e = .returned (.tuple #[.int .i64 r1,.int .i64 r2]) ∧ Below w.heap.size w w' := by
 have hu73 := Tryd.underlying73
 have hu76 := Tryd.underlying76
 have hu83 := Tryd.underlying83
 have hu94 := Tryd.underlying94
 have hu106 := Tryd.underlying106
 have HB := Aside0.mk (Below.refl w.heap.size w)
 have H : ((span_near.f a0 832).bind fun t103 => ((span_near.f a1 832).bind fun t104 => (if t103 ≥ t104 then (some (0,0)) else ((span_Where.f t103).bind fun bt105 => ((span_Where.f (wrap64 (t104 - 1))).bind fun bt107 => (some (bt105.1,wrap64 (bt107.1 + 1)))))))) = some (r1,r2) := h
 clear h
 replace H := Option.bind_eq_some_iff.mp H
 obtain ⟨t103,A30,H⟩ := H
 replace H : ((span_near.f a1 832).bind fun t104 => (if t103 ≥ t104 then (some (0,0)) else ((span_Where.f t103).bind fun bt105 => ((span_Where.f (wrap64 (t104 - 1))).bind fun bt107 => (some (bt105.1,wrap64 (bt107.1 + 1))))))) = some (r1,r2) := H
 have A3 := Aside0.mk A30
 clear A30
 replace H := Option.bind_eq_some_iff.mp H
 obtain ⟨t104,A40,H⟩ := H
 replace H : (if t103 ≥ t104 then (some (0,0)) else ((span_Where.f t103).bind fun bt105 => ((span_Where.f (wrap64 (t104 - 1))).bind fun bt107 => (some (bt105.1,wrap64 (bt107.1 + 1)))))) = some (r1,r2) := H
 have A4 := Aside0.mk A40
 clear A40
 by_cases c5 : t103 ≥ t104
 ·rw [if_pos c5] at H
  have c5b0 : decide (t104 ≤ t103) = true := decide_eq_true c5
  clear c5
  simp only [Option.some.injEq,Prod.mk.injEq] at H
  obtain ⟨rfl,rfl⟩ := H
  go_enter Tryd.func68,Tryd.ntmps68
  go_wp2_with (first|((with_reducible refine gate_callee (f := 58) rfl ?_);refine goesL_ (some 7) rfl rfl Tryd.func58 (by kernel_rfl) rfl #[.int .i64 a0,.int .i64 832] rfl (by (try simp only [List.map_toArray,List.map_cons,List.map_nil]);first|done|rfl|(simp only [List.length_drop,List.length_take];rfl)) ?_;(with_reducible refine (span_near.calls a0 832 t103 _ A3.out).mono ?_);rintro e w6 ⟨rfl,hb⟩;refine ⟨_,rfl,?_⟩;have n0_ := Aside0.mk (below_step (by repeat (first|(with_reducible first|exact HB.out|apply below_alloc|apply pw_below_drewN|apply below_drew1)|exact HB.out)) hb);clear HB;have HB := n0_;clear n0_;(try clear hb);(try clear hb2);(try clear hk);(try clear hi))|((with_reducible refine gate_callee (f := 58) rfl ?_);refine goesL_ (some 9) rfl rfl Tryd.func58 (by kernel_rfl) rfl #[.int .i64 a1,.int .i64 832] rfl (by (try simp only [List.map_toArray,List.map_cons,List.map_nil]);first|done|rfl|(simp only [List.length_drop,List.length_take];rfl)) ?_;(with_reducible refine (span_near.calls a1 832 t104 _ A4.out).mono ?_);rintro e w7 ⟨rfl,hb⟩;refine ⟨_,rfl,?_⟩;have n0_ := Aside0.mk (below_step (by repeat (first|(with_reducible first|exact HB.out|apply below_alloc|apply pw_below_drewN|apply below_drew1)|exact HB.out)) hb);clear HB;have HB := n0_;clear n0_;(try clear hb);(try clear hb2);(try clear hk);(try clear hi)))
  go_ret2
  exact ⟨by first|rfl|(simp [errW_none,errW_some] <;> rfl)|(simp [*,errW_none,errW_some] <;> rfl),by repeat (first|(with_reducible first|exact HB.out|apply below_alloc|apply pw_below_drewN|apply below_drew1)|exact HB.out)⟩
 ·rw [if_neg c5] at H
  have c5b0 : decide (t104 ≤ t103) = false := decide_eq_false c5
  clear c5
  replace H := Option.bind_eq_some_iff.mp H
  obtain ⟨⟨t105,t106⟩,A80,H⟩ := H
  replace H : ((span_Where.f (wrap64 (t104 - 1))).bind fun bt107 => (some (t105,wrap64 (bt107.1 + 1)))) = some (r1,r2) := H
  have A8 := Aside0.mk A80
  clear A80
  replace H := Option.bind_eq_some_iff.mp H
  obtain ⟨⟨t107,t108⟩,A90,H⟩ := H
  replace H : (some (t105,wrap64 (t107 + 1))) = some (r1,r2) := H
  have A9 := Aside0.mk A90
  clear A90
  simp only [Option.some.injEq,Prod.mk.injEq] at H
  obtain ⟨rfl,rfl⟩ := H
  go_enter Tryd.func68,Tryd.ntmps68
  go_wp2_with (first|((with_reducible refine gate_callee (f := 58) rfl ?_);refine goesL_ (some 7) rfl rfl Tryd.func58 (by kernel_rfl) rfl #[.int .i64 a0,.int .i64 832] rfl (by (try simp only [List.map_toArray,List.map_cons,List.map_nil]);first|done|rfl|(simp only [List.length_drop,List.length_take];rfl)) ?_;(with_reducible refine (span_near.calls a0 832 t103 _ A3.out).mono ?_);rintro e w10 ⟨rfl,hb⟩;refine ⟨_,rfl,?_⟩;have n0_ := Aside0.mk (below_step (by repeat (first|(with_reducible first|exact HB.out|apply below_alloc|apply pw_below_drewN|apply below_drew1)|exact HB.out)) hb);clear HB;have HB := n0_;clear n0_;(try clear hb);(try clear hb2);(try clear hk);(try clear hi))|((with_reducible refine gate_callee (f := 58) rfl ?_);refine goesL_ (some 9) rfl rfl Tryd.func58 (by kernel_rfl) rfl #[.int .i64 a1,.int .i64 832] rfl (by (try simp only [List.map_toArray,List.map_cons,List.map_nil]);first|done|rfl|(simp only [List.length_drop,List.length_take];rfl)) ?_;(with_reducible refine (span_near.calls a1 832 t104 _ A4.out).mono ?_);rintro e w11 ⟨rfl,hb⟩;refine ⟨_,rfl,?_⟩;have n0_ := Aside0.mk (below_step (by repeat (first|(with_reducible first|exact HB.out|apply below_alloc|apply pw_below_drewN|apply below_drew1)|exact HB.out)) hb);clear HB;have HB := n0_;clear n0_;(try clear hb);(try clear hb2);(try clear hk);(try clear hi))|((with_reducible refine gate_callee (f := 32) rfl ?_);refine goesL_ (some 14) rfl rfl Tryd.func32 (by kernel_rfl) rfl #[.int .i64 t103] rfl (by (try simp only [List.map_toArray,List.map_cons,List.map_nil]);first|done|rfl|(simp only [List.length_drop,List.length_take];rfl)) ?_;(with_reducible refine (span_Where.calls t103 t105 t106 _ A8.out).mono ?_);rintro e w12 ⟨rfl,hb⟩;refine ⟨_,rfl,?_⟩;have n0_ := Aside0.mk (below_step (by repeat (first|(with_reducible first|exact HB.out|apply below_alloc|apply pw_below_drewN|apply below_drew1)|exact HB.out)) hb);clear HB;have HB := n0_;clear n0_;(try clear hb);(try clear hb2);(try clear hk);(try clear hi))|((with_reducible refine gate_callee (f := 32) rfl ?_);refine goesL_ (some 18) rfl rfl Tryd.func32 (by kernel_rfl) rfl #[.int .i64 (wrap64 (t104 - 1))] rfl (by (try simp only [List.map_toArray,List.map_cons,List.map_nil]);first|done|rfl|(simp only [List.length_drop,List.length_take];rfl)) ?_;(with_reducible refine (span_Where.calls (wrap64 (t104 - 1)) t107 t108 _ A9.out).mono ?_);rintro e w13 ⟨rfl,hb⟩;refine ⟨_,rfl,?_⟩;have n0_ := Aside0.mk (below_step (by repeat (first|(with_reducible first|exact HB.out|apply below_alloc|apply pw_below_drewN|apply below_drew1)|exact HB.out)) hb);clear HB;have HB := n0_;clear n0_;(try clear hb);(try clear hb2);(try clear hk);(try clear hi)))
  go_ret2
  exact ⟨by first|rfl|(simp [errW_none,errW_some] <;> rfl)|(simp [*,errW_none,errW_some] <;> rfl),by repeat (first|(with_reducible first|exact HB.out|apply below_alloc|apply pw_below_drewN|apply below_drew1)|exact HB.out)⟩
/-! ### strandlineref07_Near: function 34 -/
def strandlineref07_Near.f (a0 : Int) : Option (Int) := if a0 < 0 then (some 0) else (if a0 > 832 then (some 832) else (some a0))
set_option maxHeartbeats 8000000 in
set_option maxRecDepth 100000 in
theorem strandlineref07_Near.calls (a0 : Int) (r : Int) (w : World) (h : strandlineref07_Near.f a0 = some r) :
  Calls Tryd.prog 34 #[.int .i64 a0] w fun e w' => e = .returned (.int .i64 r) ∧ Drawn0 w w' := by
 have hu73 := Tryd.underlying73
 have hu76 := Tryd.underlying76
 have hu83 := Tryd.underlying83
 have hu94 := Tryd.underlying94
 have hu106 := Tryd.underlying106
 have H : (if a0 < 0 then (some 0) else (if a0 > 832 then (some 832) else (some a0))) = some r := h
 clear h
 by_cases c2 : a0 < 0
 ·rw [if_pos c2] at H
  have c2b0 : decide (a0 < 0) = true := decide_eq_true c2
  clear c2
  obtain rfl := Option.some.inj H
  go_enter Tryd.func34,Tryd.ntmps34
  go_wp2
  go_ret
  exact ⟨by first|rfl|(simp;done)|(simp [*];done),by repeat (first|exact Drawn0.refl _|apply Drawn0.step)⟩
 ·rw [if_neg c2] at H
  have c2b0 : decide (a0 < 0) = false := decide_eq_false c2
  clear c2
  by_cases c3 : a0 > 832
  ·rw [if_pos c3] at H
   have c3b0 : decide (832 < a0) = true := decide_eq_true c3
   clear c3
   obtain rfl := Option.some.inj H
   go_enter Tryd.func34,Tryd.ntmps34
   go_wp2
   go_ret
   exact ⟨by first|rfl|(simp;done)|(simp [*];done),by repeat (first|exact Drawn0.refl _|apply Drawn0.step)⟩
  ·rw [if_neg c3] at H
   have c3b0 : decide (832 < a0) = false := decide_eq_false c3
   clear c3
   obtain rfl := Option.some.inj H
   go_enter Tryd.func34,Tryd.ntmps34
   go_wp2
   go_ret
   exact ⟨by first|rfl|(simp;done)|(simp [*];done),by repeat (first|exact Drawn0.refl _|apply Drawn0.step)⟩
/-! ### strandlineref07_Where: function 54 -/
def strandlineref07_Where.l0 : Nat → Int → Int → Int → Int → Option (Int × Int)
 |0,_,_,_,_ => none
 |k + 1,x0,x4,x5,x6 => (strandlineref07_Near.f x0).bind fun t105 => (if x6 < t105 then (if (wrap64 (x5 + 1)) = 52 then (strandlineref07_Where.l0 k x0 (wrap64 (x4 + 1)) 0 (wrap64 (x6 + 1))) else (strandlineref07_Where.l0 k x0 x4 (wrap64 (x5 + 1)) (wrap64 (x6 + 1)))) else (some (x4,x5)))
def strandlineref07_Where.f (k : Nat) (a0 : Int) : Option (Int × Int) := strandlineref07_Where.l0 k a0 0 0 0
set_option maxHeartbeats 8000000 in
set_option maxRecDepth 100000 in
theorem strandlineref07_Where.calls (k : Nat) (a0 : Int) (r1 : Int) (r2 : Int) (w : World) (h : strandlineref07_Where.f k a0 = some (r1,r2)) :
  Calls Tryd.prog 54 #[.int .i64 a0] w fun e w' => e = .returned (.tuple #[.int .i64 r1,.int .i64 r2]) ∧ Drawn0 w w' := by
 have hu73 := Tryd.underlying73
 have hu76 := Tryd.underlying76
 have hu83 := Tryd.underlying83
 have hu94 := Tryd.underlying94
 have hu106 := Tryd.underlying106
 have H : (strandlineref07_Where.l0 k a0 0 0 0) = some (r1,r2) := h
 clear h
 have H' := Aside0.mk H
 clear H
 go_enter Tryd.func54,Tryd.ntmps54
 go_wp2
 go_loopg [4,5,6] k (fun kq v4 v5 v6 w' => ∃ (x4_1 : Int) (x5_1 : Int) (x6_1 : Int),v4 = .int .i64 x4_1 ∧ v5 = .int .i64 x5_1 ∧ v6 = .int .i64 x6_1 ∧ Aside0 (strandlineref07_Where.l0 kq a0 x4_1 x5_1 x6_1 = some (r1,r2)) ∧ Aside0 (kq ≤ k) ∧ Drawn0 w w')
 case atStart => exact ⟨(0),(0),(0),(by first|rfl|(simp;done)|(simp [*];done)),(by first|rfl|(simp;done)|(simp [*];done)),(by first|rfl|(simp;done)|(simp [*];done)),H',⟨Nat.le_refl _⟩,by repeat (first|exact Drawn0.refl _|apply Drawn0.step)⟩
 case round =>
  clear H'
  obtain ⟨x4_1,x5_1,x6_1,rfl,rfl,rfl,HA,HK1,⟨m1,rfl⟩⟩ := hrel
  cases gk with
  |zero => exact absurd HA.out (by simp [strandlineref07_Where.l0])
  |succ k1 =>
   have H := HA.out
   clear HA
   simp only [strandlineref07_Where.l0] at H
   replace H := Option.bind_eq_some_iff.mp H
   obtain ⟨t105,A20,H⟩ := H
   replace H : (if x6_1 < t105 then (if (wrap64 (x5_1 + 1)) = 52 then (strandlineref07_Where.l0 k1 a0 (wrap64 (x4_1 + 1)) 0 (wrap64 (x6_1 + 1))) else (strandlineref07_Where.l0 k1 a0 x4_1 (wrap64 (x5_1 + 1)) (wrap64 (x6_1 + 1)))) else (some (x4_1,x5_1))) = some (r1,r2) := H
   have A2 := Aside0.mk A20
   clear A20
   by_cases c3 : x6_1 < t105
   ·rw [if_pos c3] at H
    have c3b0 : decide (x6_1 < t105) = true := decide_eq_true c3
    clear c3
    by_cases c4 : (wrap64 (x5_1 + 1)) = 52
    ·rw [if_pos c4] at H
     have c4b0 : ((wrap64 (x5_1 + 1)) == 52) = true := beq_iff_eq.mpr c4
     have c4b1 : ((wrap64 (x5_1 + 1)) != 52) = false := bne_eq_false_iff_eq.mpr c4
     clear c4
     have H' := Aside0.mk H
     clear H
     go_wp2_with (first|((with_reducible refine gate_callee (f := 34) rfl ?_);refine goesL_ (some 9) rfl rfl Tryd.func34 (by kernel_rfl) rfl #[.int .i64 a0] rfl (by (try simp only [List.map_toArray,List.map_cons,List.map_nil]);first|done|rfl|(simp only [List.length_drop,List.length_take];rfl)) ?_;(with_reducible refine (strandlineref07_Near.calls a0 t105 _ A2.out).mono ?_);rintro e w' ⟨rfl,⟨nd,rfl⟩⟩;refine ⟨_,rfl,?_⟩))
     go_roundg k1
     case measure => have := HK1.out;omega
     case rel => exact ⟨(wrap64 (x4_1 + 1)),(0),(wrap64 (x6_1 + 1)),(by first|rfl|(simp;done)|(simp [*];done)),(by first|rfl|(simp;done)|(simp [*];done)),(by first|rfl|(simp;done)|(simp [*];done)),H',⟨by have := HK1.out;omega⟩,by repeat (first|exact Drawn0.refl _|apply Drawn0.step)⟩
    ·rw [if_neg c4] at H
     have c4b0 : ((wrap64 (x5_1 + 1)) == 52) = false := beq_eq_false_iff_ne.mpr c4
     have c4b1 : ((wrap64 (x5_1 + 1)) != 52) = true := bne_iff_ne.mpr c4
     have H' := Aside0.mk H
     clear H
     go_wp2_with (first|((with_reducible refine gate_callee (f := 34) rfl ?_);refine goesL_ (some 9) rfl rfl Tryd.func34 (by kernel_rfl) rfl #[.int .i64 a0] rfl (by (try simp only [List.map_toArray,List.map_cons,List.map_nil]);first|done|rfl|(simp only [List.length_drop,List.length_take];rfl)) ?_;(with_reducible refine (strandlineref07_Near.calls a0 t105 _ A2.out).mono ?_);rintro e w' ⟨rfl,⟨nd,rfl⟩⟩;refine ⟨_,rfl,?_⟩))
     go_roundg k1
     case measure => have := HK1.out;omega
     case rel => exact ⟨(x4_1),(wrap64 (x5_1 + 1)),(wrap64 (x6_1 + 1)),(by first|rfl|(simp;done)|(simp [*];done)),(by first|rfl|(simp;done)|(simp [*];done)),(by first|rfl|(simp;done)|(simp [*];done)),H',⟨by have := HK1.out;omega⟩,by repeat (first|exact Drawn0.refl _|apply Drawn0.step)⟩
   ·rw [if_neg c3] at H
    have c3b0 : decide (x6_1 < t105) = false := decide_eq_false c3
    clear c3
    simp only [Option.some.injEq,Prod.mk.injEq] at H
    obtain ⟨rfl,rfl⟩ := H
    go_wp2_with (first|((with_reducible refine gate_callee (f := 34) rfl ?_);refine goesL_ (some 9) rfl rfl Tryd.func34 (by kernel_rfl) rfl #[.int .i64 a0] rfl (by (try simp only [List.map_toArray,List.map_cons,List.map_nil]);first|done|rfl|(simp only [List.length_drop,List.length_take];rfl)) ?_;(with_reducible refine (strandlineref07_Near.calls a0 t105 _ A2.out).mono ?_);rintro e w' ⟨rfl,⟨nd,rfl⟩⟩;refine ⟨_,rfl,?_⟩))
    go_ret2
    exact ⟨by first|rfl|(simp;done)|(simp [*];done),by repeat (first|exact Drawn0.refl _|apply Drawn0.step)⟩
/-! ### strandlineref07_Begin: function 29 -/
def strandlineref07_Begin.l0 : Nat → Int → Int → Option (Int)
 |0,_,_ => none
 |k + 1,x0,x4 => if x0 < 832 then (if x4 > 41 then (if x4 < 52 then (strandlineref07_Begin.l0 k (wrap64 (x0 + 1)) (wrap64 (x4 + 1))) else (some x0)) else (some x0)) else (some x0)
def strandlineref07_Begin.f (k : Nat) (a0 : Int) : Option (Int) := (strandlineref07_Near.f a0).bind fun t106 => ((strandlineref07_Where.f k t106).bind fun bt107 => (strandlineref07_Begin.l0 k t106 bt107.2))
set_option maxHeartbeats 8000000 in
set_option maxRecDepth 100000 in
theorem strandlineref07_Begin.calls (k : Nat) (a0 : Int) (r : Int) (w : World) (h : strandlineref07_Begin.f k a0 = some r) :
  Calls Tryd.prog 29 #[.int .i64 a0] w fun e w' => e = .returned (.int .i64 r) ∧ Drawn0 w w' := by
 have hu73 := Tryd.underlying73
 have hu76 := Tryd.underlying76
 have hu83 := Tryd.underlying83
 have hu94 := Tryd.underlying94
 have hu106 := Tryd.underlying106
 have H : ((strandlineref07_Near.f a0).bind fun t106 => ((strandlineref07_Where.f k t106).bind fun bt107 => (strandlineref07_Begin.l0 k t106 bt107.2))) = some r := h
 clear h
 replace H := Option.bind_eq_some_iff.mp H
 obtain ⟨t106,A20,H⟩ := H
 replace H : ((strandlineref07_Where.f k t106).bind fun bt107 => (strandlineref07_Begin.l0 k t106 bt107.2)) = some r := H
 have A2 := Aside0.mk A20
 clear A20
 replace H := Option.bind_eq_some_iff.mp H
 obtain ⟨⟨t107,t108⟩,A30,H⟩ := H
 replace H : (strandlineref07_Begin.l0 k t106 t108) = some r := H
 have A3 := Aside0.mk A30
 clear A30
 have H' := Aside0.mk H
 clear H
 go_enter Tryd.func29,Tryd.ntmps29
 go_wp2_with (first|((with_reducible refine gate_callee (f := 34) rfl ?_);refine goesL_ (some 6) rfl rfl Tryd.func34 (by kernel_rfl) rfl #[.int .i64 a0] rfl (by (try simp only [List.map_toArray,List.map_cons,List.map_nil]);first|done|rfl|(simp only [List.length_drop,List.length_take];rfl)) ?_;(with_reducible refine (strandlineref07_Near.calls a0 t106 _ A2.out).mono ?_);rintro e w' ⟨rfl,⟨nd,rfl⟩⟩;refine ⟨_,rfl,?_⟩)|((with_reducible refine gate_callee (f := 54) rfl ?_);refine goesL_ (some 9) rfl rfl Tryd.func54 (by kernel_rfl) rfl #[.int .i64 t106] rfl (by (try simp only [List.map_toArray,List.map_cons,List.map_nil]);first|done|rfl|(simp only [List.length_drop,List.length_take];rfl)) ?_;(with_reducible refine (strandlineref07_Where.calls k t106 t107 t108 _ A3.out).mono ?_);rintro e w' ⟨rfl,⟨nd,rfl⟩⟩;refine ⟨_,rfl,?_⟩))
 go_loopg [0,4] k (fun kq v0 v4 w' => ∃ (x0_1 : Int) (x4_1 : Int),v0 = .int .i64 x0_1 ∧ v4 = .int .i64 x4_1 ∧ Aside0 (strandlineref07_Begin.l0 kq x0_1 x4_1 = some r) ∧ Aside0 (kq ≤ k) ∧ Drawn0 w w')
 case atStart => exact ⟨(t106),(t108),(by first|rfl|(simp;done)|(simp [*];done)),(by first|rfl|(simp;done)|(simp [*];done)),H',⟨Nat.le_refl _⟩,by repeat (first|exact Drawn0.refl _|apply Drawn0.step)⟩
 case round =>
  clear H'
  try clear c2
  try clear p2
  try clear c3
  obtain ⟨x0_1,x4_1,rfl,rfl,HA,HK1,⟨m1,rfl⟩⟩ := hrel
  cases gk with
  |zero => exact absurd HA.out (by simp [strandlineref07_Begin.l0])
  |succ k1 =>
   have H := HA.out
   clear HA
   simp only [strandlineref07_Begin.l0] at H
   by_cases c4 : x0_1 < 832
   ·rw [if_pos c4] at H
    have c4b0 : decide (x0_1 < 832) = true := decide_eq_true c4
    clear c4
    by_cases c5 : x4_1 > 41
    ·rw [if_pos c5] at H
     have c5b0 : decide (41 < x4_1) = true := decide_eq_true c5
     clear c5
     by_cases c6 : x4_1 < 52
     ·rw [if_pos c6] at H
      have c6b0 : decide (x4_1 < 52) = true := decide_eq_true c6
      clear c6
      have H' := Aside0.mk H
      clear H
      go_wp2
      go_roundg k1
      case measure => have := HK1.out;omega
      case rel => exact ⟨(wrap64 (x0_1 + 1)),(wrap64 (x4_1 + 1)),(by first|rfl|(simp;done)|(simp [*];done)),(by first|rfl|(simp;done)|(simp [*];done)),H',⟨by have := HK1.out;omega⟩,by repeat (first|exact Drawn0.refl _|apply Drawn0.step)⟩
     ·rw [if_neg c6] at H
      have c6b0 : decide (x4_1 < 52) = false := decide_eq_false c6
      clear c6
      obtain rfl := Option.some.inj H
      go_wp2
      go_ret
      exact ⟨by first|rfl|(simp;done)|(simp [*];done),by repeat (first|exact Drawn0.refl _|apply Drawn0.step)⟩
    ·rw [if_neg c5] at H
     have c5b0 : decide (41 < x4_1) = false := decide_eq_false c5
     clear c5
     obtain rfl := Option.some.inj H
     go_wp2
     go_ret
     exact ⟨by first|rfl|(simp;done)|(simp [*];done),by repeat (first|exact Drawn0.refl _|apply Drawn0.step)⟩
   ·rw [if_neg c4] at H
    have c4b0 : decide (x0_1 < 832) = false := decide_eq_false c4
    clear c4
    obtain rfl := Option.some.inj H
    go_wp2
    go_ret
    exact ⟨by first|rfl|(simp;done)|(simp [*];done),by repeat (first|exact Drawn0.refl _|apply Drawn0.step)⟩
/-! ### strandlineref07_Left: function 57 -/
def strandlineref07_Left.l0 : Nat → Int → Int → Option (Int)
 |0,_,_ => none
 |k + 1,x0,x3 => if x0 < 832 then (if x3 = 0 then (strandlineref07_Left.l0 k (wrap64 (x0 + 1)) (wrap64 (x3 + 1))) else (if (Int.tmod x0 208) = 0 then (some x3) else (strandlineref07_Left.l0 k (wrap64 (x0 + 1)) (wrap64 (x3 + 1))))) else (some x3)
def strandlineref07_Left.f (k : Nat) (a0 : Int) : Option (Int) := (strandlineref07_Near.f a0).bind fun t109 => (strandlineref07_Left.l0 k t109 0)
set_option maxHeartbeats 8000000 in
set_option maxRecDepth 100000 in
theorem strandlineref07_Left.calls (k : Nat) (a0 : Int) (r : Int) (w : World) (h : strandlineref07_Left.f k a0 = some r) :
  Calls Tryd.prog 57 #[.int .i64 a0] w fun e w' => e = .returned (.int .i64 r) ∧ Drawn0 w w' := by
 have hu73 := Tryd.underlying73
 have hu76 := Tryd.underlying76
 have hu83 := Tryd.underlying83
 have hu94 := Tryd.underlying94
 have hu106 := Tryd.underlying106
 have H : ((strandlineref07_Near.f a0).bind fun t109 => (strandlineref07_Left.l0 k t109 0)) = some r := h
 clear h
 replace H := Option.bind_eq_some_iff.mp H
 obtain ⟨t109,A20,H⟩ := H
 replace H : (strandlineref07_Left.l0 k t109 0) = some r := H
 have A2 := Aside0.mk A20
 clear A20
 have H' := Aside0.mk H
 clear H
 go_enter Tryd.func57,Tryd.ntmps57
 go_wp2_with (first|((with_reducible refine gate_callee (f := 34) rfl ?_);refine goesL_ (some 5) rfl rfl Tryd.func34 (by kernel_rfl) rfl #[.int .i64 a0] rfl (by (try simp only [List.map_toArray,List.map_cons,List.map_nil]);first|done|rfl|(simp only [List.length_drop,List.length_take];rfl)) ?_;(with_reducible refine (strandlineref07_Near.calls a0 t109 _ A2.out).mono ?_);rintro e w' ⟨rfl,⟨nd,rfl⟩⟩;refine ⟨_,rfl,?_⟩))
 go_loopg [0,3] k (fun kq v0 v3 w' => ∃ (x0_1 : Int) (x3_1 : Int),v0 = .int .i64 x0_1 ∧ v3 = .int .i64 x3_1 ∧ Aside0 (strandlineref07_Left.l0 kq x0_1 x3_1 = some r) ∧ Aside0 (kq ≤ k) ∧ Drawn0 w w')
 case atStart => exact ⟨(t109),(0),(by first|rfl|(simp;done)|(simp [*];done)),(by first|rfl|(simp;done)|(simp [*];done)),H',⟨Nat.le_refl _⟩,by repeat (first|exact Drawn0.refl _|apply Drawn0.step)⟩
 case round =>
  clear H'
  try clear p2
  obtain ⟨x0_1,x3_1,rfl,rfl,HA,HK1,⟨m1,rfl⟩⟩ := hrel
  cases gk with
  |zero => exact absurd HA.out (by simp [strandlineref07_Left.l0])
  |succ k1 =>
   have H := HA.out
   clear HA
   simp only [strandlineref07_Left.l0] at H
   by_cases c3 : x0_1 < 832
   ·rw [if_pos c3] at H
    have c3b0 : decide (x0_1 < 832) = true := decide_eq_true c3
    clear c3
    by_cases c4 : x3_1 = 0
    ·rw [if_pos c4] at H
     have c4b0 : (x3_1 == 0) = true := beq_iff_eq.mpr c4
     have c4b1 : (x3_1 != 0) = false := bne_eq_false_iff_eq.mpr c4
     clear c4
     have H' := Aside0.mk H
     clear H
     go_wp2
     go_roundg k1
     case measure => have := HK1.out;omega
     case rel => exact ⟨(wrap64 (x0_1 + 1)),(wrap64 (x3_1 + 1)),(by first|rfl|(simp;done)|(simp [*];done)),(by first|rfl|(simp;done)|(simp [*];done)),H',⟨by have := HK1.out;omega⟩,by repeat (first|exact Drawn0.refl _|apply Drawn0.step)⟩
    ·rw [if_neg c4] at H
     have c4b0 : (x3_1 == 0) = false := beq_eq_false_iff_ne.mpr c4
     have c4b1 : (x3_1 != 0) = true := bne_iff_ne.mpr c4
     by_cases c5 : (Int.tmod x0_1 208) = 0
     ·rw [if_pos c5] at H
      have c5b0 : ((Int.tmod x0_1 208) == 0) = true := beq_iff_eq.mpr c5
      have c5b1 : ((Int.tmod x0_1 208) != 0) = false := bne_eq_false_iff_eq.mpr c5
      clear c5
      obtain rfl := Option.some.inj H
      go_wp2
      go_ret
      exact ⟨by first|rfl|(simp;done)|(simp [*];done),by repeat (first|exact Drawn0.refl _|apply Drawn0.step)⟩
     ·rw [if_neg c5] at H
      have c5b0 : ((Int.tmod x0_1 208) == 0) = false := beq_eq_false_iff_ne.mpr c5
      have c5b1 : ((Int.tmod x0_1 208) != 0) = true := bne_iff_ne.mpr c5
      have H' := Aside0.mk H
      clear H
      go_wp2
      go_roundg k1
      case measure => have := HK1.out;omega
      case rel => exact ⟨(wrap64 (x0_1 + 1)),(wrap64 (x3_1 + 1)),(by first|rfl|(simp;done)|(simp [*];done)),(by first|rfl|(simp;done)|(simp [*];done)),H',⟨by have := HK1.out;omega⟩,by repeat (first|exact Drawn0.refl _|apply Drawn0.step)⟩
   ·rw [if_neg c3] at H
    have c3b0 : decide (x0_1 < 832) = false := decide_eq_false c3
    clear c3
    obtain rfl := Option.some.inj H
    go_wp2
    go_ret
    exact ⟨by first|rfl|(simp;done)|(simp [*];done),by repeat (first|exact Drawn0.refl _|apply Drawn0.step)⟩
/-! ### strandlineref07_Touch: function 59 -/
def strandlineref07_Touch.l0 : Nat → Int → Int → Int → Int → Option (Int × Int)
 |0,_,_,_,_ => none
 |k + 1,x1,x6,x7,x8 => (strandlineref07_Near.f x1).bind fun t186 => (if x8 < t186 then (if x6 < 0 then (strandlineref07_Touch.l0 k x1 (wrap64 (Int.tdiv x8 52)) (wrap64 (Int.tdiv x8 52)) (wrap64 (x8 + 1))) else (strandlineref07_Touch.l0 k x1 x6 (wrap64 (Int.tdiv x8 52)) (wrap64 (x8 + 1)))) else (if x6 < 0 then (some (0,0)) else (some (x6,wrap64 (x7 + 1)))))
def strandlineref07_Touch.f (k : Nat) (a0 : Int) (a1 : Int) : Option (Int × Int) := (strandlineref07_Near.f a0).bind fun t185 => (strandlineref07_Touch.l0 k a1 (-1) (-1) t185)
set_option maxHeartbeats 8000000 in
set_option maxRecDepth 100000 in
theorem strandlineref07_Touch.calls (k : Nat) (a0 : Int) (a1 : Int) (r1 : Int) (r2 : Int) (w : World) (h : strandlineref07_Touch.f k a0 a1 = some (r1,r2)) :
  Calls Tryd.prog 59 #[.int .i64 a0,.int .i64 a1] w fun e w' => e = .returned (.tuple #[.int .i64 r1,.int .i64 r2]) ∧ Drawn0 w w' := by
 have hu73 := Tryd.underlying73
 have hu76 := Tryd.underlying76
 have hu83 := Tryd.underlying83
 have hu94 := Tryd.underlying94
 have hu106 := Tryd.underlying106
 have H : ((strandlineref07_Near.f a0).bind fun t185 => (strandlineref07_Touch.l0 k a1 (-1) (-1) t185)) = some (r1,r2) := h
 clear h
 replace H := Option.bind_eq_some_iff.mp H
 obtain ⟨t185,A30,H⟩ := H
 replace H : (strandlineref07_Touch.l0 k a1 (-1) (-1) t185) = some (r1,r2) := H
 have A3 := Aside0.mk A30
 clear A30
 have H' := Aside0.mk H
 clear H
 go_enter Tryd.func59,Tryd.ntmps59
 go_wp2_with (first|((with_reducible refine gate_callee (f := 34) rfl ?_);refine goesL_ (some 10) rfl rfl Tryd.func34 (by kernel_rfl) rfl #[.int .i64 a0] rfl (by (try simp only [List.map_toArray,List.map_cons,List.map_nil]);first|done|rfl|(simp only [List.length_drop,List.length_take];rfl)) ?_;(with_reducible refine (strandlineref07_Near.calls a0 t185 _ A3.out).mono ?_);rintro e w' ⟨rfl,⟨nd,rfl⟩⟩;refine ⟨_,rfl,?_⟩))
 go_loopg [6,7,8] k (fun kq v6 v7 v8 w' => ∃ (x6_1 : Int) (x7_1 : Int) (x8_1 : Int),v6 = .int .i64 x6_1 ∧ v7 = .int .i64 x7_1 ∧ v8 = .int .i64 x8_1 ∧ Aside0 (strandlineref07_Touch.l0 kq a1 x6_1 x7_1 x8_1 = some (r1,r2)) ∧ Aside0 (kq ≤ k) ∧ Drawn0 w w')
 case atStart => exact ⟨((-1)),((-1)),(t185),(by first|rfl|(simp;done)|(simp [*];done)),(by first|rfl|(simp;done)|(simp [*];done)),(by first|rfl|(simp;done)|(simp [*];done)),H',⟨Nat.le_refl _⟩,by repeat (first|exact Drawn0.refl _|apply Drawn0.step)⟩
 case round =>
  clear H'
  try clear p2
  try clear c3
  obtain ⟨x6_1,x7_1,x8_1,rfl,rfl,rfl,HA,HK1,⟨m1,rfl⟩⟩ := hrel
  cases gk with
  |zero => exact absurd HA.out (by simp [strandlineref07_Touch.l0])
  |succ k1 =>
   have H := HA.out
   clear HA
   simp only [strandlineref07_Touch.l0] at H
   replace H := Option.bind_eq_some_iff.mp H
   obtain ⟨t186,A40,H⟩ := H
   replace H : (if x8_1 < t186 then (if x6_1 < 0 then (strandlineref07_Touch.l0 k1 a1 (wrap64 (Int.tdiv x8_1 52)) (wrap64 (Int.tdiv x8_1 52)) (wrap64 (x8_1 + 1))) else (strandlineref07_Touch.l0 k1 a1 x6_1 (wrap64 (Int.tdiv x8_1 52)) (wrap64 (x8_1 + 1)))) else (if x6_1 < 0 then (some (0,0)) else (some (x6_1,wrap64 (x7_1 + 1))))) = some (r1,r2) := H
   have A4 := Aside0.mk A40
   clear A40
   by_cases c5 : x8_1 < t186
   ·rw [if_pos c5] at H
    have c5b0 : decide (x8_1 < t186) = true := decide_eq_true c5
    clear c5
    by_cases c6 : x6_1 < 0
    ·rw [if_pos c6] at H
     have c6b0 : decide (x6_1 < 0) = true := decide_eq_true c6
     clear c6
     have H' := Aside0.mk H
     clear H
     go_wp2_with (first|((with_reducible refine gate_callee (f := 34) rfl ?_);refine goesL_ (some 13) rfl rfl Tryd.func34 (by kernel_rfl) rfl #[.int .i64 a1] rfl (by (try simp only [List.map_toArray,List.map_cons,List.map_nil]);first|done|rfl|(simp only [List.length_drop,List.length_take];rfl)) ?_;(with_reducible refine (strandlineref07_Near.calls a1 t186 _ A4.out).mono ?_);rintro e w' ⟨rfl,⟨nd,rfl⟩⟩;refine ⟨_,rfl,?_⟩))
     go_roundg k1
     case measure => have := HK1.out;omega
     case rel => exact ⟨(wrap64 (Int.tdiv x8_1 52)),(wrap64 (Int.tdiv x8_1 52)),(wrap64 (x8_1 + 1)),(by first|rfl|(simp;done)|(simp [*];done)),(by first|rfl|(simp;done)|(simp [*];done)),(by first|rfl|(simp;done)|(simp [*];done)),H',⟨by have := HK1.out;omega⟩,by repeat (first|exact Drawn0.refl _|apply Drawn0.step)⟩
    ·rw [if_neg c6] at H
     have c6b0 : decide (x6_1 < 0) = false := decide_eq_false c6
     clear c6
     have H' := Aside0.mk H
     clear H
     go_wp2_with (first|((with_reducible refine gate_callee (f := 34) rfl ?_);refine goesL_ (some 13) rfl rfl Tryd.func34 (by kernel_rfl) rfl #[.int .i64 a1] rfl (by (try simp only [List.map_toArray,List.map_cons,List.map_nil]);first|done|rfl|(simp only [List.length_drop,List.length_take];rfl)) ?_;(with_reducible refine (strandlineref07_Near.calls a1 t186 _ A4.out).mono ?_);rintro e w' ⟨rfl,⟨nd,rfl⟩⟩;refine ⟨_,rfl,?_⟩))
     go_roundg k1
     case measure => have := HK1.out;omega
     case rel => exact ⟨(x6_1),(wrap64 (Int.tdiv x8_1 52)),(wrap64 (x8_1 + 1)),(by first|rfl|(simp;done)|(simp [*];done)),(by first|rfl|(simp;done)|(simp [*];done)),(by first|rfl|(simp;done)|(simp [*];done)),H',⟨by have := HK1.out;omega⟩,by repeat (first|exact Drawn0.refl _|apply Drawn0.step)⟩
   ·rw [if_neg c5] at H
    have c5b0 : decide (x8_1 < t186) = false := decide_eq_false c5
    clear c5
    by_cases c7 : x6_1 < 0
    ·rw [if_pos c7] at H
     have c7b0 : decide (x6_1 < 0) = true := decide_eq_true c7
     clear c7
     simp only [Option.some.injEq,Prod.mk.injEq] at H
     obtain ⟨rfl,rfl⟩ := H
     go_wp2_with (first|((with_reducible refine gate_callee (f := 34) rfl ?_);refine goesL_ (some 13) rfl rfl Tryd.func34 (by kernel_rfl) rfl #[.int .i64 a1] rfl (by (try simp only [List.map_toArray,List.map_cons,List.map_nil]);first|done|rfl|(simp only [List.length_drop,List.length_take];rfl)) ?_;(with_reducible refine (strandlineref07_Near.calls a1 t186 _ A4.out).mono ?_);rintro e w' ⟨rfl,⟨nd,rfl⟩⟩;refine ⟨_,rfl,?_⟩))
     go_ret2
     exact ⟨by first|rfl|(simp;done)|(simp [*];done),by repeat (first|exact Drawn0.refl _|apply Drawn0.step)⟩
    ·rw [if_neg c7] at H
     have c7b0 : decide (x6_1 < 0) = false := decide_eq_false c7
     clear c7
     simp only [Option.some.injEq,Prod.mk.injEq] at H
     obtain ⟨rfl,rfl⟩ := H
     go_wp2_with (first|((with_reducible refine gate_callee (f := 34) rfl ?_);refine goesL_ (some 13) rfl rfl Tryd.func34 (by kernel_rfl) rfl #[.int .i64 a1] rfl (by (try simp only [List.map_toArray,List.map_cons,List.map_nil]);first|done|rfl|(simp only [List.length_drop,List.length_take];rfl)) ?_;(with_reducible refine (strandlineref07_Near.calls a1 t186 _ A4.out).mono ?_);rintro e w' ⟨rfl,⟨nd,rfl⟩⟩;refine ⟨_,rfl,?_⟩))
     go_ret2
     exact ⟨by first|rfl|(simp;done)|(simp [*];done),by repeat (first|exact Drawn0.refl _|apply Drawn0.step)⟩
end Go.Proofs.YtaekpfhgdnfciaaDoor.F
end

section
namespace Go.Proofs.YtaekpfhgdnfciaaDoor.O
open Go.Proofs.YtaekpfhgdnfciaaDoor.F Go.Proofs.YtaekpfhgdnfciaaDoor.Plain
namespace SpanP
theorem near_eq (a : Int) : span_near.f a 832 = some (cl a) := by unfold span_near.f;rw [near_cl]
theorem where_eq (a : Int) : span_Where.f a = some (cl a / 52,cl a % 52) := by
 have h0 := cl_lo a
 have h1 := cl_hi a
 unfold span_Where.f
 rw [near_eq]
 simp only [Option.bind_some]
 rw [td h0,tm h0,w64 (by omega) (by omega)]
theorem begin_eq (a : Int) : span_Begin.f a = some (bg (cl a)) := by
 have h0 := cl_lo a
 have h1 := cl_hi a
 unfold span_Begin.f
 rw [near_eq]
 simp only [Option.bind_some]
 rw [where_eq,cl_cl]
 simp only [Option.bind_some]
 rw [w64 (n := 52 - cl a % 52) (by omega) (by omega)]
 unfold bg
 by_cases h : 41 < cl a % 52
 ·rw [if_pos (by omega),if_pos h,w64 (by omega) (by omega)]
 ·rw [if_neg (by omega),if_neg h]
theorem left_eq (a : Int) : span_Left.f a = some (lf (cl a)) := by
 have h0 := cl_lo a
 have h1 := cl_hi a
 unfold span_Left.f
 rw [near_eq]
 simp only [Option.bind_some]
 rw [where_eq,cl_cl]
 simp only [Option.bind_some]
 unfold lf
 by_cases h : cl a = 832
 ·rw [if_pos h,h,if_pos (by decide)]
 ·rw [if_neg (by simp only [Bool.and_eq_true,beq_iff_eq];omega),if_neg h,tm h0,w64 (by omega) (by omega)]
theorem rnear_eq (a : Int) : strandlineref07_Near.f a = some (cl a) := by
 unfold strandlineref07_Near.f cl
 by_cases h1 : a < 0
 ·rw [if_pos h1,if_pos h1]
 ·by_cases h2 : 832 < a
  ·rw [if_neg h1,if_neg h1,if_pos h2,if_pos h2]
  ·rw [if_neg h1,if_neg h1,if_neg (by omega),if_neg h2]
theorem touch_eq (a b : Int) : span_Touch.f a b = some (tch (cl a) (cl b)) := by
 have a0 := cl_lo a
 have a1 := cl_hi a
 have b0 := cl_lo b
 have b1 := cl_hi b
 unfold span_Touch.f
 rw [near_eq,near_eq]
 simp only [Option.bind_some]
 unfold tch
 by_cases h : cl a ≥ cl b
 ·rw [if_pos h,if_pos h]
 ·rw [if_neg h,if_neg h,where_eq,w64 (n := cl b - 1) (by omega) (by omega),where_eq,cl_cl,cl_in (a := cl b - 1) (by omega) (by omega)]
  simp only [Option.bind_some]
  rw [w64 (by omega) (by omega)]
theorem rtouch_l (b : Int) (d : Nat) : ∀ (k : Nat) (f l i : Int),0 ≤ i → i ≤ cl b → 0 ≤ f → l = (i - 1) / 52 → 0 < i → (cl b - i : Int) = d → d < k →
  strandlineref07_Touch.l0 k b f l i = some (f,(cl b - 1) / 52 + 1) := by
 have h9 := cl_hi b
 induction d with
 |zero =>
  intro k f l i h0 h1 h2 h3 h4 hd hk
  obtain ⟨k,rfl⟩ : ∃ m,k = m + 1 := ⟨k - 1,by omega⟩
  simp only [strandlineref07_Touch.l0]
  rw [rnear_eq]
  simp only [Option.bind_some]
  obtain rfl : i = cl b := by omega
  rw [if_neg (by omega),if_neg (by omega),h3,w64 (by omega) (by omega)]
 |succ d ih =>
  intro k f l i h0 h1 h2 h3 h4 hd hk
  obtain ⟨k,rfl⟩ : ∃ m,k = m + 1 := ⟨k - 1,by omega⟩
  simp only [strandlineref07_Touch.l0]
  rw [rnear_eq]
  simp only [Option.bind_some]
  rw [if_pos (by omega),if_neg (by omega),td h0,w64 (n := i / 52) (by omega) (by omega),w64 (n := i + 1) (by omega) (by omega)]
  exact ih k f (i / 52) (i + 1) (by omega) (by omega) h2 (by omega) (by omega) (by omega) (by omega)
theorem rtouch_eq (k : Nat) (hk : 833 < k) (a b : Int) : strandlineref07_Touch.f k a b = some (tch (cl a) (cl b)) := by
 have a0 := cl_lo a
 have a1 := cl_hi a
 have b0 := cl_lo b
 have b1 := cl_hi b
 unfold strandlineref07_Touch.f
 rw [rnear_eq]
 simp only [Option.bind_some]
 obtain ⟨k,rfl⟩ : ∃ m,k = m + 1 := ⟨k - 1,by omega⟩
 simp only [strandlineref07_Touch.l0]
 rw [rnear_eq]
 simp only [Option.bind_some]
 unfold tch
 by_cases h : cl a < cl b
 ·rw [if_pos h,if_pos (by omega),if_neg (show ¬ cl a ≥ cl b by omega),td a0,w64 (n := cl a / 52) (by omega) (by omega),w64 (n := cl a + 1) (by omega) (by omega)]
  exact rtouch_l b (cl b - (cl a + 1)).toNat k (cl a / 52) (cl a / 52) (cl a + 1) (by omega) (by omega) (by omega) (by omega) (by omega) (by omega) (by omega)
 ·rw [if_neg h,if_pos (by omega),if_pos (show cl a ≥ cl b by omega)]
theorem rwhere_l (a : Int) (d : Nat) : ∀ (k : Nat) (i : Int),0 ≤ i → i ≤ cl a → (cl a - i : Int) = d → d < k →
  strandlineref07_Where.l0 k a (i / 52) (i % 52) i = some (cl a / 52,cl a % 52) := by
 have h9 := cl_hi a
 induction d with
 |zero =>
  intro k i h0 h1 hd hk
  obtain ⟨k,rfl⟩ : ∃ m,k = m + 1 := ⟨k - 1,by omega⟩
  simp only [strandlineref07_Where.l0]
  rw [rnear_eq]
  simp only [Option.bind_some]
  rw [if_neg (by omega)]
  obtain rfl : i = cl a := by omega
  rfl
 |succ d ih =>
  intro k i h0 h1 hd hk
  obtain ⟨k,rfl⟩ : ∃ m,k = m + 1 := ⟨k - 1,by omega⟩
  simp only [strandlineref07_Where.l0]
  rw [rnear_eq]
  simp only [Option.bind_some]
  rw [if_pos (by omega),w64 (n := i % 52 + 1) (by omega) (by omega),w64 (n := i / 52 + 1) (by omega) (by omega),w64 (n := i + 1) (by omega) (by omega)]
  have hr := ih k (i + 1) (by omega) (by omega) (by omega) (by omega)
  by_cases hm : i % 52 + 1 = 52
  ·rw [if_pos hm,show i / 52 + 1 = (i + 1) / 52 by omega,show (0 : Int) = (i + 1) % 52 by omega]
   exact hr
  ·rw [if_neg hm,show i % 52 + 1 = (i + 1) % 52 by omega,show i / 52 = (i + 1) / 52 by omega]
   exact hr
theorem rwhere_eq (k : Nat) (hk : 832 < k) (a : Int) : strandlineref07_Where.f k a = some (cl a / 52,cl a % 52) := by
 have h0 := cl_lo a
 have h1 := cl_hi a
 unfold strandlineref07_Where.f
 exact rwhere_l a (cl a).toNat k 0 (by omega) (by omega) (by omega) (by omega)
theorem rleft_l (d : Nat) : ∀ (k : Nat) (at_ n : Int),0 ≤ at_ → at_ ≤ 832 → 0 ≤ n → n ≤ at_ → (832 - at_ : Int) = d → d < k →
  strandlineref07_Left.l0 k at_ n = some (n + if at_ = 832 then 0 else if n = 0 then 208 - at_ % 208 else (208 - at_ % 208) % 208) := by
 induction d with
 |zero =>
  intro k at_ n h0 h1 h2 h3 hd hk
  obtain ⟨k,rfl⟩ : ∃ m,k = m + 1 := ⟨k - 1,by omega⟩
  simp only [strandlineref07_Left.l0]
  rw [if_neg (by omega),if_pos (show at_ = 832 by omega)]
  simp
 |succ d ih =>
  intro k at_ n h0 h1 h2 h3 hd hk
  obtain ⟨k,rfl⟩ : ∃ m,k = m + 1 := ⟨k - 1,by omega⟩
  simp only [strandlineref07_Left.l0]
  rw [if_pos (by omega),tm h0,w64 (n := at_ + 1) (by omega) (by omega),w64 (n := n + 1) (by omega) (by omega)]
  have hr := ih k (at_ + 1) (n + 1) (by omega) (by omega) (by omega) (by omega) (by omega) (by omega)
  rw [if_neg (show ¬ n + 1 = 0 by omega)] at hr
  rw [if_neg (show ¬ at_ = 832 by omega),hr]
  by_cases hn : n = 0
  ·rw [if_pos hn,if_pos hn]
   congr 1
   by_cases h8 : at_ + 1 = 832
   ·rw [if_pos h8];omega
   ·rw [if_neg h8];omega
  ·rw [if_neg hn,if_neg hn]
   by_cases hm : at_ % 208 = 0
   ·rw [if_pos hm]
    congr 1
    omega
   ·rw [if_neg hm]
    congr 1
    by_cases h8 : at_ + 1 = 832
    ·rw [if_pos h8];omega
    ·rw [if_neg h8];omega
theorem rleft_eq (k : Nat) (hk : 832 < k) (a : Int) : strandlineref07_Left.f k a = some (lf (cl a)) := by
 have h0 := cl_lo a
 have h1 := cl_hi a
 unfold strandlineref07_Left.f
 rw [rnear_eq]
 simp only [Option.bind_some]
 rw [rleft_l (832 - cl a).toNat k (cl a) 0 h0 h1 (by omega) h0 (by omega) (by omega)]
 unfold lf
 by_cases h : cl a = 832
 ·rw [if_pos h,if_pos h];rfl
 ·rw [if_neg h,if_neg h,if_pos rfl];simp
theorem rbegin_l (d : Nat) : ∀ (k : Nat) (at_ off : Int),0 ≤ at_ → at_ ≤ 832 → 41 < off → off ≤ 52 → (at_ + (52 - off)) ≤ 832 → (52 - off : Int) = d → d < k →
  strandlineref07_Begin.l0 k at_ off = some (at_ + (52 - off)) := by
 induction d with
 |zero =>
  intro k at_ off h0 h1 h2 h3 h4 hd hk
  obtain ⟨k,rfl⟩ : ∃ m,k = m + 1 := ⟨k - 1,by omega⟩
  simp only [strandlineref07_Begin.l0]
  rw [show at_ + (52 - off) = at_ by omega,if_neg (show ¬ off < 52 by omega)]
  simp
 |succ d ih =>
  intro k at_ off h0 h1 h2 h3 h4 hd hk
  obtain ⟨k,rfl⟩ : ∃ m,k = m + 1 := ⟨k - 1,by omega⟩
  simp only [strandlineref07_Begin.l0]
  rw [if_pos (by omega),if_pos (by omega),if_pos (by omega),w64 (n := at_ + 1) (by omega) (by omega),w64 (n := off + 1) (by omega) (by omega)]
  rw [ih k (at_ + 1) (off + 1) (by omega) (by omega) (by omega) (by omega) (by omega) (by omega) (by omega)]
  congr 1
  omega
theorem rbegin_eq (k : Nat) (hk : 832 < k) (a : Int) : strandlineref07_Begin.f k a = some (bg (cl a)) := by
 have h0 := cl_lo a
 have h1 := cl_hi a
 unfold strandlineref07_Begin.f
 rw [rnear_eq]
 simp only [Option.bind_some]
 rw [rwhere_eq k hk,cl_cl]
 simp only [Option.bind_some]
 unfold bg
 by_cases h : 41 < cl a % 52
 ·rw [if_pos h,rbegin_l (52 - cl a % 52).toNat k (cl a) (cl a % 52) h0 h1 h (by omega) (by omega) (by omega) (by omega)]
 ·rw [if_neg h]
  obtain ⟨k,rfl⟩ : ∃ m,k = m + 1 := ⟨k - 1,by omega⟩
  simp only [strandlineref07_Begin.l0]
  rw [if_neg (show ¬ cl a % 52 > 41 by omega)]
  simp
end SpanP
open SpanP
theorem touch_nat (a b : Int) : ∃ x y : Nat,tch (cl a) (cl b) = ((x : Int),(y : Int)) ∧ x ≤ y ∧ y ≤ 16 := by
 have h1 := cl_lo a;have h2 := cl_hi a;have h3 := cl_lo b;have h4 := cl_hi b
 unfold tch
 by_cases h : cl a ≥ cl b
 ·rw [if_pos h]
  exact ⟨0,0,rfl,Nat.le_refl _,by decide⟩
 ·rw [if_neg h]
  exact ⟨(cl a / 52).toNat,((cl b - 1) / 52 + 1).toNat,by congr 1 <;> omega,by omega,by omega⟩
theorem rtouch_c (a b : Int) (x y : Nat) (h : tch (cl a) (cl b) = ((x : Int),(y : Int))) (w : World) :
  Calls Tryd.prog 59 #[.int .i64 a,.int .i64 b] w fun e w' => e = .returned (.tuple #[.int .i64 x,.int .i64 y]) ∧ Below w.heap.size w w' :=
 (strandlineref07_Touch.calls 834 a b x y w (by rw [rtouch_eq 834 (by decide),h])).mono fun e w' ⟨h1,h2⟩ => ⟨h1,by first|exact h2|(obtain ⟨m,rfl⟩ := h2;exact pw_below_drewN (Below.refl _ _) m)⟩
end Go.Proofs.YtaekpfhgdnfciaaDoor.O
end

section
namespace Go.Proofs.YtaekpfhgdnfciaaDoor.O
open Go.Proofs.YtaekpfhgdnfciaaDoor.F Go.Proofs.YtaekpfhgdnfciaaDoor.F.Nums Go.Proofs.YtaekpfhgdnfciaaDoor.Plain
attribute [local go_sem] max2_int min2_int max_two min_two max_three min_three max_four min_four
def bodySec (body : List Int) (i : Nat) : List Int := (body.drop (52 * i)).take 52
theorem bodySec_len (body : List Int) (i : Nat) : (bodySec body i).length = min (52 * (i + 1)) body.length - min (52 * i) body.length := by
 unfold bodySec
 rw [List.length_take,List.length_drop]
 omega
def flatP (e : Int) (body : List Int) (a : Nat) : Nat → List Int
 |0 => []
 |n + 1 => flatP e body a n ++ sealF e ((a + n : Nat) : Int) (bodySec body (a + n))
theorem flatP_len (e : Int) (body : List Int) (a n : Nat) : (flatP e body a n).length = 64 * n := by
 induction n with
 |zero => rfl
 |succ n ih =>
  show (flatP e body a n ++ sealF e ((a + n : Nat) : Int) (bodySec body (a + n))).length = _
  rw [List.length_append,ih,sealF_len]
  omega
theorem bodySec_bytes {body : List Int} (h : Bytes body) (i : Nat) : Bytes (bodySec body i) := bytes_take (bytes_drop h _) _
theorem flatP_bytes {body : List Int} (h : Bytes body) (e : Int) (a n : Nat) : Bytes (flatP e body a n) := by
 induction n with
 |zero => exact fun c hc => by cases hc
 |succ n ih => exact bytes_append ih (seal_bytes _ _ (bodySec_bytes h _))
set_option maxRecDepth 100000 in
set_option maxHeartbeats 4000000 in
theorem r16sector_calls (e : Int) (h0 : 0 ≤ e) (h1 : e ≤ 18446744073709551615) (body : List Int) (i : Nat) (hi : i ≤ 16) (A : Option Addr) (c : Nat) (w : World) (hr : Kd.C (Kd.int .u8) w A body.length body) (hc : body.length ≤ c) (hl : body.length ≤ 140737488351232) :
  Calls Tryd.prog 60 #[.int .u64 e,.slice A body.length c,.int .i64 (i : Int)] w fun en w' => en = .returned (.agg (nums .u8 (sealF e (i : Int) (bodySec body i))).toArray) ∧ Below w.heap.size w w' := by
 have HR := Rd.of_C hr
 have hs := sealF_len e (i : Int) (bodySec body i)
 have hbl := bodySec_len body i
 have S1 := fun A c W (h : Kd.C (Kd.int .u8) W A (bodySec body i).length (bodySec body i)) hc => rseal_c e (i : Int) (bodySec body i) A c W h hc h0 h1 (by omega)
 obtain ⟨m,hm⟩ : ∃ m,(bodySec body i).length = m := ⟨_,rfl⟩
 have hm52 : m ≤ 52 := by omega
 have htk : ∀ j,j < m → (nums .u8 body)[52 * i + j]? = some (.int .u8 ((bodySec body i).getD j 0)) := fun j hj => by
  rw [nums_at (52 * i + j) (by omega)]
  congr 2
  unfold bodySec
  rw [List.getD_eq_getElem?_getD,List.getD_eq_getElem?_getD,List.getElem?_take_of_lt (by omega),List.getElem?_drop]
 have hsn : ∀ j,j < m → (bodySec body i).take (j + 1) = (bodySec body i).take j ++ [(bodySec body i).getD j 0] := fun j hj => by
  rw [List.take_add_one,List.getElem?_eq_getElem (by omega),List.getD_eq_getElem?_getD,List.getElem?_eq_getElem (by omega)]
  rfl
 have hft : (bodySec body i).take m = bodySec body i := List.take_of_length_le (by omega)
 obtain ⟨n,hn⟩ : ∃ n,body.length = n := ⟨_,rfl⟩
 rw [hn] at hbl hc hl ⊢
 rw [hm] at S1 hbl
 generalize bodySec body i = room at *
 generalize sealF e (i : Int) room = s at *
 obtain ⟨b0,hb0⟩ : ∃ b0,52 * i = b0 := ⟨_,rfl⟩
 rw [hb0] at hbl htk
 have i1 : IntKind.i64.wrap (52 * (i : Int)) = (b0 : Int) := by rw [IntKind.wrap_i64];omega
 have i2 : IntKind.i64.wrap ((b0 : Int) + 52) = (b0 : Int) + 52 := by rw [IntKind.wrap_i64];omega
 have HB := Lib.hid hb0
 have HM := Lib.hid hbl
 have HT := Lib.hid hft
 have HI := Lib.hid hi
 have HN := Lib.hid hn
 have HL := Lib.hid hm
 clear hb0 hbl hft hi hn hm
 have H := Own.start w
 go_enter Tryd.func60,Tryd.ntmps60
 go_wp2_with (first
  |((with_reducible refine gate_dst (N := 6) rfl ?_);refine l_allocA rfl H 51 rfl _ zero51 ?_;clear H;intro g6 W H))
 have H := (show Own w F0 [.row (.slice none 0 0) 5 1 0 [],.blk g6 51 (nums .u8 (zs 64))] W from H.cons (Below.refl _ _) (own_nil _ _ _ _) (fun k hk => by cases hk))
 go_loopg [7,8] m (fun gq v7 v8 w' => ∃ j k : Nat,v8 = .int .i64 (k : Int) ∧ Hid (k = b0 + j ∧ j + gq = m) ∧ Own w F0 [.row v7 5 1 j (nums .u8 (room.take j)),.blk g6 51 (nums .u8 (zs 64))] w')
 case atStart => exact ⟨0,b0,rfl,⟨rfl,by omega⟩,by rw [List.take_zero];exact H⟩
 case round =>
  clear H
  obtain ⟨j,k,rfl,hk,H⟩ := hrel
  have hk1 := hk.1
  have hk2 := hk.2
  have hB := HB.out
  have hM := HM.out
  have hI := HI.out
  by_cases cj : j < m
  ·obtain ⟨gk',rfl⟩ : ∃ q,gk = q + 1 := ⟨gk - 1,by omega⟩
   have q1 : decide ((k : Int) < (b0 : Int) + 52) = true := decide_eq_true (by omega)
   have q2 : decide ((k : Int) < (n : Int)) = true := decide_eq_true (by omega)
   obtain ⟨ad,rfl⟩ := HR.some_ (by rw [nums_length,HN.out];omega)
   have p0 : ((0 : Int) ≤ (k : Int)) = True := eq_true (by omega)
   have p1 : ((k : Int) < (n : Int)) = True := eq_true (by omega)
   have hz := htk j cj
   have hsn' := hsn j cj
   rw [← hk1] at hz
   generalize room.getD j 0 = z at hz hsn'
   have hbd : (j + 1) * 1 ≤ 140737488355328 := by omega
   have hkb : k ≤ 1000 := by omega
   clear hk1 hk2 hB hM hI
   go_wp2_with (first
  |((with_reducible refine gate_dst (N := 29) rfl ?_);refine l_build11 rfl H 38 5 _ rfl Tryd.underlying38 _ rfl _ zs5 rfl rfl ?_;clear H;intro g29 W H)
  |((with_reducible refine gate_dst (N := 30) rfl ?_);refine l_append1 rfl H _ _ 38 5 rfl Tryd.underlying38 _ _ _ inf5 rfl (by decide) (by decide) _ _ _ rfl (by repeat constructor) _ _ rfl (by repeat constructor) (by first|rfl|assumption|omega|(simp only [nums_length];omega)|simp [nums_length,zs] <;> omega) (by first|exact nums_one|assumption|exact on1_ rfl) (by omega) ?_;clear H;intro v30 W H)
  |((with_reducible refine gate_dst (N := 28) rfl ?_);refine l_loadRd1 rfl 5 _ rfl k rfl (HR.below H.below) _ Tryd.underlying5 rfl _ hz ?_))
   go_roundg gk'
   case measure => omega
   case rel =>
    refine ⟨j + 1,k + 1,by go_num,⟨by have := hk.1;omega,by have := hk.2;omega⟩,?_⟩
    rw [hsn',← nums_app]
    exact H.del .head
  ·obtain rfl : j = m := by omega
   rw [HT.out] at H
   by_cases c2 : j < 52
   ·have q1 : decide ((k : Int) < (b0 : Int) + 52) = true := decide_eq_true (by omega)
    have q2 : decide (k < n) = false := decide_eq_false (by omega)
    clear hk1 hk2 hB hM hI
    obtain ⟨A',c',rfl⟩ := H.row_slice .head
    go_wp2_with (first
  |((with_reducible refine gate_store (t := 51) (p := 6) rfl ?_);refine l_storeW rfl H 51 _ _ rfl _ rfl _ rfl (by repeat constructor) _ size51 (by first|rfl|assumption|omega|(simp only [nums_length];omega)|simp [nums_length,zs] <;> omega) (by first|rfl|assumption|omega|(simp only [nums_length];omega)|simp [nums_length,zs] <;> omega) (by first|exact nums_one|assumption|exact on1_ rfl) ?_;clear H;intro W H)
  |(go_at_call 73;(with_reducible refine (S1 A' c' _ (H.rowC .head).2.2 (H.rowC .head).1).mono ?_);rintro e W ⟨rfl,hb⟩;replace H := H.to hb;clear hb))
    refine bodyPost_ret (results_cell_row (p := 6) (ty := 51) rfl _ _ g6 51 _ (0,0) _ rfl (H.heap (.tail .head)) Tryd.underlying51 rfl (by rw [size51];simp only [List.size_toArray,nums_length,hs])) rfl ?_
    exact ⟨rfl,H.below⟩
   ·have q1 : decide ((k : Int) < (b0 : Int) + 52) = false := decide_eq_false (by omega)
    clear hk1 hk2 hB hM hI
    obtain ⟨A',c',rfl⟩ := H.row_slice .head
    go_wp2_with (first
  |((with_reducible refine gate_store (t := 51) (p := 6) rfl ?_);refine l_storeW rfl H 51 _ _ rfl _ rfl _ rfl (by repeat constructor) _ size51 (by first|rfl|assumption|omega|(simp only [nums_length];omega)|simp [nums_length,zs] <;> omega) (by first|rfl|assumption|omega|(simp only [nums_length];omega)|simp [nums_length,zs] <;> omega) (by first|exact nums_one|assumption|exact on1_ rfl) ?_;clear H;intro W H)
  |(go_at_call 73;(with_reducible refine (S1 A' c' _ (H.rowC .head).2.2 (H.rowC .head).1).mono ?_);rintro e W ⟨rfl,hb⟩;replace H := H.to hb;clear hb))
    refine bodyPost_ret (results_cell_row (p := 6) (ty := 51) rfl _ _ g6 51 _ (0,0) _ rfl (H.heap (.tail .head)) Tryd.underlying51 rfl (by rw [size51];simp only [List.size_toArray,nums_length,hs])) rfl ?_
    exact ⟨rfl,H.below⟩
theorem touch0 (t : Int) : ∃ y : Nat,tch (cl 0) (cl t) = (((0 : Nat) : Int),(y : Int)) ∧ y ≤ 16 := by
 obtain ⟨x,y,h,h1,h2⟩ := touch_nat 0 t
 have hx : x = 0 := by
  have e := congrArg Prod.fst h
  unfold tch at e
  rw [show cl 0 = 0 from rfl] at e
  split at e
  ·simpa using e.symm
  ·have : ((0 : Int) / 52,(cl t - 1) / 52 + 1).1 = (x : Int) := e
   simpa using this.symm
 subst hx
 exact ⟨y,h,h2⟩
def flatW (e : Int) (body : List Int) (b k : Nat) : List Int := flatP e body 0 (min k b) ++ zs (64 * (k - b))
theorem flatW_len (e : Int) (body : List Int) (b k : Nat) : (flatW e body b k).length = 64 * k := by
 unfold flatW zs
 rw [List.length_append,flatP_len,List.length_replicate]
 omega
theorem zs_add (a b : Nat) : zs (a + b) = zs a ++ zs b := by unfold zs;rw [List.replicate_append_replicate]
theorem flatW_zero (e : Int) (body : List Int) (b k : Nat) (h : b ≤ k) : flatW e body b (k + 1) = flatW e body b k ++ zs 64 := by
 unfold flatW
 rw [Nat.min_eq_right h,Nat.min_eq_right (by omega),show 64 * (k + 1 - b) = 64 * (k - b) + 64 by omega,zs_add,List.append_assoc]
theorem flatW_sec (e : Int) (body : List Int) (b k : Nat) (h : k < b) : flatW e body b (k + 1) = flatW e body b k ++ sealF e (k : Int) (bodySec body k) := by
 unfold flatW
 rw [Nat.min_eq_left (by omega),Nat.min_eq_left (by omega),show 64 * (k + 1 - b) = 0 by omega,show 64 * (k - b) = 0 by omega,show zs 0 = [] from rfl,List.append_nil,List.append_nil]
 show flatP e body 0 k ++ sealF e ((0 + k : Nat) : Int) (bodySec body (0 + k)) = _
 rw [Nat.zero_add]
theorem flatW_bytes {body : List Int} (h : Bytes body) (e : Int) (b k : Nat) : Bytes (flatW e body b k) := bytes_append (flatP_bytes h _ _ _) (bytes_zs _)
set_option maxRecDepth 100000 in
set_option maxHeartbeats 4000000 in
theorem rwhole_calls (e : Int) (h0 : 0 ≤ e) (h1 : e ≤ 18446744073709551615) (body : List Int) (t : Int) (b : Nat) (ht : tch (cl 0) (cl t) = (((0 : Nat) : Int),(b : Int))) (hb : b ≤ 16) (A : Option Addr) (c : Nat) (w : World) (hr : Kd.C (Kd.int .u8) w A body.length body) (hc : body.length ≤ c) (hl : body.length ≤ 140737488351232) :
  Calls Tryd.prog 35 #[.int .u64 e,.slice A body.length c,.int .i64 t] w fun en w' => ∃ v,en = .returned v ∧ w'.ownsRow w.heap.size 51 64 v 16 (nums .u8 (flatW e body b 16)) ∧ Below w.heap.size w w' := by
 have T1 := fun W => rtouch_c 0 t 0 b ht W
 have S1 := fun i (hi : i ≤ 16) W (hB : Below w.heap.size w W) => r16sector_calls e h0 h1 body i hi A c W (Kd.C_below hr hB) hc hl
 have hz := fun k (hk : b ≤ k) => flatW_zero e body b k hk
 have hs := fun k (hk : k < b) => flatW_sec e body b k hk
 have hat : flatW e body b 0 = [] := List.eq_nil_of_length_eq_zero (flatW_len e body b 0)
 have hsl := fun k : Nat => sealF_len e (k : Int) (bodySec body k)
 generalize hF : flatW e body b = F at *
 obtain ⟨n,hn⟩ : ∃ n,body.length = n := ⟨_,rfl⟩
 rw [hn] at S1 ⊢
 clear hn hl hc hr hF ht
 have H := (show Own w F0 [.row (.slice none 0 0) 51 64 0 []] w from (Own.start w).cons (Below.refl _ _) (own_nil _ _ _ _) (fun k hk => by cases hk))
 go_enter Tryd.func35,Tryd.ntmps35
 go_wp2_with (first
  |(go_at_call 59;(with_reducible refine (T1 _).mono ?_);rintro e W ⟨rfl,hb'⟩;replace H := H.to hb';clear hb'))
 go_loopg [9,10] 16 (fun gq v9 v10 w' => ∃ k : Nat,v10 = .int .i64 (k : Int) ∧ k + gq = 16 ∧ Own w F0 [.row v9 51 64 k (nums .u8 (F k))] w')
 case atStart => exact ⟨0,rfl,rfl,by rw [hat];exact H⟩
 case round =>
  clear H
  obtain ⟨k,rfl,hk,H⟩ := hrel
  by_cases ck : k < 16
  ·obtain ⟨gk',rfl⟩ : ∃ q,gk = q + 1 := ⟨gk - 1,by omega⟩
   have q1 : decide ((k : Int) < 16) = true := decide_eq_true (by omega)
   have hbd : (k + 1) * 64 ≤ 140737488355328 := by omega
   by_cases cb : k < b
   ·have q2 : decide (k < b) = true := decide_eq_true cb
    have hsk := hs k cb
    have S2 := S1 k (by omega)
    have hl := hsl k
    generalize sealF e (k : Int) (bodySec body k) = s at S2 hl hsk
    clear hs hz hsl
    go_wp2_with (first
  |((with_reducible refine gate_dst (N := 28) rfl ?_);refine l_build1A rfl H 23 51 _ rfl Tryd.underlying23 _ rfl _ _ zs51 rfl (by first|rfl|assumption|omega|(simp only [nums_length];omega)|simp [nums_length,zs] <;> omega) (by decide) (by decide) ?_;clear H;intro g28 W H)
  |((with_reducible refine gate_dst (N := 29) rfl ?_);refine l_append1 rfl H _ _ 23 51 rfl Tryd.underlying23 _ _ _ inf51 rfl (by decide) (by decide) _ _ _ rfl (by repeat constructor) _ _ rfl (by repeat constructor) (by first|rfl|assumption|omega|(simp only [nums_length];omega)|simp [nums_length,zs] <;> omega) (by first|exact nums_one|assumption|exact on1_ rfl) (by omega) ?_;clear H;intro v29 W H)
  |(go_at_call 60;(with_reducible refine (S2 _ H.below).mono ?_);rintro e W ⟨rfl,hb'⟩;replace H := H.to hb';clear hb'))
    go_roundg gk'
    case measure => omega
    case rel =>
     refine ⟨k + 1,by go_num,by omega,?_⟩
     rw [hsk,← nums_app]
     exact H.del .head
   ·have q2 : decide (k < b) = false := decide_eq_false cb
    have hzk := hz k (by omega)
    clear hs hz hsl
    go_wp2_with (first
  |((with_reducible refine gate_dst (N := 32) rfl ?_);refine l_build1A rfl H 23 51 _ rfl Tryd.underlying23 _ rfl _ _ zs51 rfl (by first|rfl|assumption|omega|(simp only [nums_length];omega)|simp [nums_length,zs] <;> omega) (by decide) (by decide) ?_;clear H;intro g32 W H)
  |((with_reducible refine gate_dst (N := 33) rfl ?_);refine l_append1 rfl H _ _ 23 51 rfl Tryd.underlying23 _ _ _ inf51 rfl (by decide) (by decide) _ _ _ rfl (by repeat constructor) _ _ rfl (by repeat constructor) (by first|rfl|assumption|omega|(simp only [nums_length];omega)|simp [nums_length,zs] <;> omega) (by first|exact nums_one|assumption|exact on1_ rfl) (by omega) ?_;clear H;intro v33 W H)
  |((with_reducible refine gate_dst (N := 31) rfl ?_);refine l_run rfl (.agg (nums .u8 (zs 64)).toArray) (by kernel_rfl) ?_))
    go_roundg gk'
    case measure => omega
    case rel =>
     refine ⟨k + 1,by go_num,by omega,?_⟩
     rw [hzk,← nums_app]
     exact H.del .head
  ·have q1 : decide ((k : Int) < 16) = false := decide_eq_false (by omega)
   obtain rfl : k = 16 := by omega
   go_wp2
   go_ret
   exact ⟨_,rfl,H.at_ .head,H.below⟩
end Go.Proofs.YtaekpfhgdnfciaaDoor.O
end
