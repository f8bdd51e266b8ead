/- Texts of mine put together: FkStrandlineref15. -/
import Derived.Test.YtaekpfhgdnfciaaDoorPkScanTells2
section
/- Functions of strandlineref15: what each answers, as a Lean function, and that the call answers just this. Turned out of what the kit's print told for this seat. -/
namespace Go.Proofs.YtaekpfhgdnfciaaDoor.F
open Go.RowKit Go.Proofs.YtaekpfhgdnfciaaDoorW.PrintWords Go.Proofs.YtaekpfhgdnfciaaDoorW.PrintLast Go.Proofs.YtaekpfhgdnfciaaDoorW.PrintMore
attribute [local go_sem high] eqA83
attribute [local go_sem] field83_0
attribute [local go_sem] field83_1
attribute [local go_sem] max2_int min2_int max_two min_two max_three min_three max_four min_four
set_option linter.unusedVariables false
set_option linter.unusedSimpArgs false
/-! ### strandlineref15_Joiner_Feed: function 31 -/
def strandlineref15_Joiner_Feed.j0 : Nat → Bool → Bool → List Int → Int → Int → List Int → Option (Bool × List Int × List Int × Bool × Int)
 |0,_,_,_,_,_,_ => none
 |k + 1,x35,x243000,x243001,x244000,x244001,x244002 => if x35 = true then (some (false,([] : List Int),([] : List Int),false,2)) else ((some (([] : List Int) : List Int)).bind fun y245 => (if y245.length + x243001.length < 140737488355328 then ((some (y245 ++ x243001 : List Int)).bind fun y248 => (if y248.length + x244002.length < 140737488355328 then ((some (y248 ++ x244002 : List Int)).bind fun y251 => (if (y251.length : Int) > 512 then (some (false,([] : List Int),([] : List Int),false,5)) else (if x244000 = 1 then (some (false,([] : List Int),y251,true,0)) else (if x244000 = 4 then (some (false,([] : List Int),y251,true,0)) else (some (true,y251,([] : List Int),false,0)))))) else (none))) else (none)))
def strandlineref15_Joiner_Feed.f (k : Nat) (a0_0 : Bool) (l0_1 : List Int) (a1_0 : Int) (a1_1 : Int) (l1_2 : List Int) : Option (Bool × List Int × List Int × Bool × Int) := if a0_0 = true then (if a1_0 = 3 then (strandlineref15_Joiner_Feed.j0 k false a0_0 l0_1 a1_0 a1_1 l1_2) else (if a1_0 = 4 then (strandlineref15_Joiner_Feed.j0 k false a0_0 l0_1 a1_0 a1_1 l1_2) else (strandlineref15_Joiner_Feed.j0 k true a0_0 l0_1 a1_0 a1_1 l1_2))) else (if a1_0 = 1 then (strandlineref15_Joiner_Feed.j0 k false a0_0 l0_1 a1_0 a1_1 l1_2) else (strandlineref15_Joiner_Feed.j0 k (a1_0 != 2) a0_0 l0_1 a1_0 a1_1 l1_2))
def strandlineref15_Joiner_Feed.T3 : Bool × List (List Nat × List Nat) := (true,[([],[]),([],[]),([1],[1]),([0,2],[0,2]),([],[]),([4],[4]),([3,5,3],[3,5]),([6,6,0,1,2,3,4,5,6],[6])])
def strandlineref15_Joiner_Feed.B3 : List Nat := [0,0,2,7,0,16,63,127]
theorem strandlineref15_Joiner_Feed.tab3 : rtab .any (opsOf Tryd.f31 3) = strandlineref15_Joiner_Feed.T3 := by kernel_rfl
theorem strandlineref15_Joiner_Feed.bits3 : waitsOk strandlineref15_Joiner_Feed.T3.2 strandlineref15_Joiner_Feed.B3 = true := by kernel_rfl
set_option maxHeartbeats 8000000 in
set_option maxRecDepth 100000 in
theorem strandlineref15_Joiner_Feed.calls (k : Nat) (a0_0 : Bool) (A0_1 : Option Addr) (c0_1 : Nat) (l0_1 : List Int) (a1_0 : Int) (a1_1 : Int) (A1_2 : Option Addr) (c1_2 : Nat) (l1_2 : List Int) (r1 : Bool) (r2 : List Int) (r3 : List Int) (r4 : Bool) (r5 : Int) (w : World) (hr0_1 : Kd.C (Kd.int .u8) w A0_1 l0_1.length l0_1) (hc0_1 : l0_1.length ≤ c0_1) (hr1_2 : Kd.C (Kd.int .u8) w A1_2 l1_2.length l1_2) (hc1_2 : l1_2.length ≤ c1_2) (h : strandlineref15_Joiner_Feed.f k a0_0 l0_1 a1_0 a1_1 l1_2 = some (r1,r2,r3,r4,r5)) :
  Calls Tryd.prog 31 #[.agg #[.bool a0_0,.slice A0_1 l0_1.length c0_1],.agg #[.int .i64 a1_0,.int .u32 a1_1,.slice A1_2 l1_2.length c1_2]] w fun e w' => ∃ v1_ v2_ : Value,e = .returned (.tuple #[.agg #[.bool r1,v1_],v2_,.bool r4,.int .i64 r5]) ∧ Kd.R (Kd.int .u8) 5 w' w.heap.size (fun k_ => some k_ ≠ (v2_ : Value).ownBlock) v1_ r2 ∧ Kd.R (Kd.int .u8) 5 w' w.heap.size (fun k_ => some k_ ≠ (v1_ : Value).ownBlock) v2_ r3 ∧ Below w.heap.size w w' := by
 have hu83 := Tryd.underlying83
 have hu94 := Tryd.underlying94
 have hu106 := Tryd.underlying106
 have hu73 := Tryd.underlying73
 have hu76 := Tryd.underlying76
 have HR0_1 := Aside0.mk hr0_1
 have HC0_1 := Aside0.mk hc0_1
 clear hr0_1 hc0_1
 have HR1_2 := Aside0.mk hr1_2
 have HC1_2 := Aside0.mk hc1_2
 clear hr1_2 hc1_2
 have HB := Aside0.mk (Below.refl w.heap.size w)
 have H : (if a0_0 = true then (if a1_0 = 3 then (strandlineref15_Joiner_Feed.j0 k false a0_0 l0_1 a1_0 a1_1 l1_2) else (if a1_0 = 4 then (strandlineref15_Joiner_Feed.j0 k false a0_0 l0_1 a1_0 a1_1 l1_2) else (strandlineref15_Joiner_Feed.j0 k true a0_0 l0_1 a1_0 a1_1 l1_2))) else (if a1_0 = 1 then (strandlineref15_Joiner_Feed.j0 k false a0_0 l0_1 a1_0 a1_1 l1_2) else (strandlineref15_Joiner_Feed.j0 k (a1_0 != 2) a0_0 l0_1 a1_0 a1_1 l1_2))) = some (r1,r2,r3,r4,r5) := h
 clear h
 have HC3 := Aside0.mk H
 clear H
 go_enter Tryd.func31,Tryd.ntmps31
 go_upto_region 1 with (first|((with_reducible refine gate_dst (N := 2) rfl ?_);refine box_event ?hg (N := 2) ?hd (cs := #[.bool a0_0,.slice A0_1 l0_1.length c0_1]) (t := 73) ?hr ?_;(case hd => rfl);(case hg => rfl);(case hr => first|(go_simp;done)|(go_simp;rfl));intro gb242 hg w4 hbox hb;have n0_ := Aside0.mk (below_step (by repeat (first|(with_reducible first|exact HB.out|apply below_alloc|apply pw_below_drewN|apply below_drew1)|exact HB.out)) hb);have n1_ := Aside0.mk (hbox);have n2_ := Aside0.mk ((by rw [hg];exact (below_size (by repeat (first|(with_reducible first|exact HB.out|apply below_alloc|apply pw_below_drewN|apply below_drew1)|exact HB.out))) : w.heap.size ≤ gb242));have n3_ := Aside0.mk ((by rw [hg];exact (below_size (by repeat (first|(with_reducible first|exact HB.out|apply below_alloc|apply pw_below_drewN|apply below_drew1)|exact HB.out))) : w.heap.size ≤ gb242));clear HB;have HB := n0_;have BK242 := n1_;have GW242 := n2_;have GE242 := n3_;clear n0_ n1_ n2_ n3_;clear hb hbox hg)|((with_reducible refine gate_dst (N := 3) rfl ?_);refine box_event ?hg (N := 3) ?hd (cs := #[.int .i64 a1_0,.int .u32 a1_1,.slice A1_2 l1_2.length c1_2]) (t := 76) ?hr ?_;(case hd => rfl);(case hg => rfl);(case hr => first|(go_simp;done)|(go_simp;rfl));intro gb243 hg w5 hbox hb;have n0_ := Aside0.mk (blk_below (g := gb242) (o := .cells #[.bool a0_0,.slice A0_1 l0_1.length c0_1] 73 (0,0)) (by (with_reducible repeat (first|refine blk_drewN ?_ _|refine blk_drew ?_|refine blk_alloc ?_ _));exact BK242.out) hb);have n1_ := Aside0.mk (below_step (by repeat (first|(with_reducible first|exact HB.out|apply below_alloc|apply pw_below_drewN|apply below_drew1|refine below_set ?_ GE242.out)|exact HB.out)) hb);have n2_ := Aside0.mk (hbox);have n3_ := Aside0.mk ((by rw [hg];exact (below_size (by repeat (first|(with_reducible first|exact HB.out|apply below_alloc|apply pw_below_drewN|apply below_drew1|refine below_set ?_ GE242.out)|exact HB.out))) : w.heap.size ≤ gb243));have n4_ := Aside0.mk ((by rw [hg];exact (below_size (by repeat (first|(with_reducible first|exact HB.out|apply below_alloc|apply pw_below_drewN|apply below_drew1|refine below_set ?_ GE242.out)|exact HB.out))) : w.heap.size ≤ gb243));have n5_ := Aside0.mk ((by rw [hg];exact Nat.ne_of_lt (blk_lt (g := gb242) (o := .cells #[.bool a0_0,.slice A0_1 l0_1.length c0_1] 73 (0,0)) (by (with_reducible repeat (first|refine blk_drewN ?_ _|refine blk_drew ?_|refine blk_alloc ?_ _));exact BK242.out)) : gb242 ≠ gb243));have n6_ := Aside0.mk ((by rw [hg];exact Nat.ne_of_gt (blk_lt (g := gb242) (o := .cells #[.bool a0_0,.slice A0_1 l0_1.length c0_1] 73 (0,0)) (by (with_reducible repeat (first|refine blk_drewN ?_ _|refine blk_drew ?_|refine blk_alloc ?_ _));exact BK242.out)) : gb243 ≠ gb242));clear BK242;clear HB;have BK242 := n0_;have HB := n1_;have BK243 := n2_;have GW243 := n3_;have GE243 := n4_;have NB242_243 := n5_;have NB243_242 := n6_;clear n0_ n1_ n2_ n3_ n4_ n5_ n6_;clear hb hbox hg)|((with_reducible refine gate_dst (N := 4) rfl ?_);refine box_event ?hg (N := 4) ?hd (cs := #[.bool false,.slice none 0 0]) (t := 73) ?hr ?_;(case hd => rfl);(case hg => rfl);(case hr => first|(go_simp;done)|(go_simp;rfl));intro gb244 hg w6 hbox hb;have n0_ := Aside0.mk (blk_below (g := gb242) (o := .cells #[.bool a0_0,.slice A0_1 l0_1.length c0_1] 73 (0,0)) (by (with_reducible repeat (first|refine blk_drewN ?_ _|refine blk_drew ?_|refine blk_alloc ?_ _));exact BK242.out) hb);have n1_ := Aside0.mk (blk_below (g := gb243) (o := .cells #[.int .i64 a1_0,.int .u32 a1_1,.slice A1_2 l1_2.length c1_2] 76 (0,0)) (by (with_reducible repeat (first|refine blk_drewN ?_ _|refine blk_drew ?_|refine blk_alloc ?_ _));exact BK243.out) hb);have n2_ := Aside0.mk (below_step (by repeat (first|(with_reducible first|exact HB.out|apply below_alloc|apply pw_below_drewN|apply below_drew1|refine below_set ?_ GE242.out|refine below_set ?_ GE243.out)|exact HB.out)) hb);have n3_ := Aside0.mk (hbox);have n4_ := Aside0.mk ((by rw [hg];exact (below_size (by repeat (first|(with_reducible first|exact HB.out|apply below_alloc|apply pw_below_drewN|apply below_drew1|refine below_set ?_ GE242.out|refine below_set ?_ GE243.out)|exact HB.out))) : w.heap.size ≤ gb244));have n5_ := Aside0.mk ((by rw [hg];exact (below_size (by repeat (first|(with_reducible first|exact HB.out|apply below_alloc|apply pw_below_drewN|apply below_drew1|refine below_set ?_ GE242.out|refine below_set ?_ GE243.out)|exact HB.out))) : w.heap.size ≤ gb244));have n6_ := Aside0.mk ((by rw [hg];exact Nat.ne_of_lt (blk_lt (g := gb242) (o := .cells #[.bool a0_0,.slice A0_1 l0_1.length c0_1] 73 (0,0)) (by (with_reducible repeat (first|refine blk_drewN ?_ _|refine blk_drew ?_|refine blk_alloc ?_ _));exact BK242.out)) : gb242 ≠ gb244));have n7_ := Aside0.mk ((by rw [hg];exact Nat.ne_of_gt (blk_lt (g := gb242) (o := .cells #[.bool a0_0,.slice A0_1 l0_1.length c0_1] 73 (0,0)) (by (with_reducible repeat (first|refine blk_drewN ?_ _|refine blk_drew ?_|refine blk_alloc ?_ _));exact BK242.out)) : gb244 ≠ gb242));have n8_ := Aside0.mk ((by rw [hg];exact Nat.ne_of_lt (blk_lt (g := gb243) (o := .cells #[.int .i64 a1_0,.int .u32 a1_1,.slice A1_2 l1_2.length c1_2] 76 (0,0)) (by (with_reducible repeat (first|refine blk_drewN ?_ _|refine blk_drew ?_|refine blk_alloc ?_ _));exact BK243.out)) : gb243 ≠ gb244));have n9_ := Aside0.mk ((by rw [hg];exact Nat.ne_of_gt (blk_lt (g := gb243) (o := .cells #[.int .i64 a1_0,.int .u32 a1_1,.slice A1_2 l1_2.length c1_2] 76 (0,0)) (by (with_reducible repeat (first|refine blk_drewN ?_ _|refine blk_drew ?_|refine blk_alloc ?_ _));exact BK243.out)) : gb244 ≠ gb243));clear BK242;clear BK243;clear HB;have BK242 := n0_;have BK243 := n1_;have HB := n2_;have BK244 := n3_;have GW244 := n4_;have GE244 := n5_;have NB242_244 := n6_;have NB244_242 := n7_;have NB243_244 := n8_;have NB244_243 := n9_;clear n0_ n1_ n2_ n3_ n4_ n5_ n6_ n7_ n8_ n9_;clear hb hbox hg))
 (try simp only [Act.put,List.setIfInBounds_toArray,List.set_cons_zero,List.set_cons_succ])
 go_cut [35] (fun v35 wc => ∃ (kq : Nat) (x35_2 : Bool),v35 = .bool x35_2 ∧ Aside0 (strandlineref15_Joiner_Feed.j0 kq x35_2 a0_0 l0_1 a1_0 a1_1 l1_2 = some (r1,r2,r3,r4,r5)) ∧ Aside0 (kq ≤ k) ∧ Aside0 (wc.heap[gb242]? = some (.cells #[.bool a0_0,(.slice A0_1 l0_1.length c0_1)] 73 (0,0))) ∧ Aside0 (wc.heap[gb243]? = some (.cells #[.int .i64 a1_0,.int .u32 a1_1,(.slice A1_2 l1_2.length c1_2)] 76 (0,0))) ∧ Aside0 (wc.heap[gb244]? = some (.cells #[.bool false,(.slice none 0 0)] 73 (0,0))) ∧ Aside0 (Below w.heap.size w wc))
 case first =>
  have H := HC3.out
  clear HC3
  by_cases c7 : a0_0 = true
  ·subst c7
   have H1 : (if a1_0 = 3 then (strandlineref15_Joiner_Feed.j0 k false true l0_1 a1_0 a1_1 l1_2) else (if a1_0 = 4 then (strandlineref15_Joiner_Feed.j0 k false true l0_1 a1_0 a1_1 l1_2) else (strandlineref15_Joiner_Feed.j0 k true true l0_1 a1_0 a1_1 l1_2))) = some (r1,r2,r3,r4,r5) := by rw [if_pos rfl] at H;exact H
   clear H
   have H := H1
   clear H1
   by_cases c8 : a1_0 = 3
   ·rw [if_pos c8] at H
    have c8b0 : (a1_0 == 3) = true := beq_iff_eq.mpr c8
    have c8b1 : (a1_0 != 3) = false := bne_eq_false_iff_eq.mpr c8
    clear c8
    (first|rw [c8b0]|(simp only [i64_w,i32_w];rw [c8b0])|skip)
    have H' := Aside0.mk H
    clear H
    have hnb9 := NB242_243.out
    have hnc9 := NB243_242.out
    have hnb10 := NB242_244.out
    have hnc10 := NB244_242.out
    have hcz11_0 : w6.cell? ⟨gb242,0,none⟩ = some (.bool true) := (blk_cell BK242.out 0).trans rfl
    have hcz11_1 : w6.cell? ⟨gb242,1,none⟩ = some (.slice A0_1 l0_1.length c0_1) := (blk_cell BK242.out 1).trans rfl
    have hfz11_0 := blk_frozen BK242.out 0
    have hfz11_1 := blk_frozen BK242.out 1
    have hnb12 := NB243_244.out
    have hnc12 := NB244_243.out
    have hcz13_0 : w6.cell? ⟨gb243,0,none⟩ = some (.int .i64 a1_0) := (blk_cell BK243.out 0).trans rfl
    have hcz13_1 : w6.cell? ⟨gb243,1,none⟩ = some (.int .u32 a1_1) := (blk_cell BK243.out 1).trans rfl
    have hcz13_2 : w6.cell? ⟨gb243,2,none⟩ = some (.slice A1_2 l1_2.length c1_2) := (blk_cell BK243.out 2).trans rfl
    have hfz13_0 := blk_frozen BK243.out 0
    have hfz13_1 := blk_frozen BK243.out 1
    have hfz13_2 := blk_frozen BK243.out 2
    go_wp2
    go_meet
    case rel => exact ⟨_,(false),(by first|rfl|(simp;done)|(simp [*];done)),H',⟨by first|omega|exact Nat.le_refl _⟩,⟨by (with_reducible repeat (first|refine blk_drewN ?_ _|refine blk_drew ?_|refine blk_alloc ?_ _));exact BK242.out⟩,⟨by (with_reducible repeat (first|refine blk_drewN ?_ _|refine blk_drew ?_|refine blk_alloc ?_ _));exact BK243.out⟩,⟨by (with_reducible repeat (first|refine blk_drewN ?_ _|refine blk_drew ?_|refine blk_alloc ?_ _));exact BK244.out⟩,⟨by repeat (first|(with_reducible first|exact HB.out|apply below_alloc|apply pw_below_drewN|apply below_drew1|refine below_set ?_ GE242.out|refine below_set ?_ GE243.out|refine below_set ?_ GE244.out)|exact HB.out)⟩⟩
   ·rw [if_neg c8] at H
    have c8b0 : (a1_0 == 3) = false := beq_eq_false_iff_ne.mpr c8
    have c8b1 : (a1_0 != 3) = true := bne_iff_ne.mpr c8
    (first|rw [c8b0]|(simp only [i64_w,i32_w];rw [c8b0])|skip)
    by_cases c14 : a1_0 = 4
    ·rw [if_pos c14] at H
     have c14b0 : (a1_0 == 4) = true := beq_iff_eq.mpr c14
     have c14b1 : (a1_0 != 4) = false := bne_eq_false_iff_eq.mpr c14
     clear c14
     have H' := Aside0.mk H
     clear H
     have hnb15 := NB242_243.out
     have hnc15 := NB243_242.out
     have hnb16 := NB242_244.out
     have hnc16 := NB244_242.out
     have hcz17_0 : w6.cell? ⟨gb242,0,none⟩ = some (.bool true) := (blk_cell BK242.out 0).trans rfl
     have hcz17_1 : w6.cell? ⟨gb242,1,none⟩ = some (.slice A0_1 l0_1.length c0_1) := (blk_cell BK242.out 1).trans rfl
     have hfz17_0 := blk_frozen BK242.out 0
     have hfz17_1 := blk_frozen BK242.out 1
     have hnb18 := NB243_244.out
     have hnc18 := NB244_243.out
     have hcz19_0 : w6.cell? ⟨gb243,0,none⟩ = some (.int .i64 a1_0) := (blk_cell BK243.out 0).trans rfl
     have hcz19_1 : w6.cell? ⟨gb243,1,none⟩ = some (.int .u32 a1_1) := (blk_cell BK243.out 1).trans rfl
     have hcz19_2 : w6.cell? ⟨gb243,2,none⟩ = some (.slice A1_2 l1_2.length c1_2) := (blk_cell BK243.out 2).trans rfl
     have hfz19_0 := blk_frozen BK243.out 0
     have hfz19_1 := blk_frozen BK243.out 1
     have hfz19_2 := blk_frozen BK243.out 2
     go_wp2
     go_meet
     case rel => exact ⟨_,(false),(by first|rfl|(simp;done)|(simp [*];done)),H',⟨by first|omega|exact Nat.le_refl _⟩,⟨by (with_reducible repeat (first|refine blk_drewN ?_ _|refine blk_drew ?_|refine blk_alloc ?_ _));exact BK242.out⟩,⟨by (with_reducible repeat (first|refine blk_drewN ?_ _|refine blk_drew ?_|refine blk_alloc ?_ _));exact BK243.out⟩,⟨by (with_reducible repeat (first|refine blk_drewN ?_ _|refine blk_drew ?_|refine blk_alloc ?_ _));exact BK244.out⟩,⟨by repeat (first|(with_reducible first|exact HB.out|apply below_alloc|apply pw_below_drewN|apply below_drew1|refine below_set ?_ GE242.out|refine below_set ?_ GE243.out|refine below_set ?_ GE244.out)|exact HB.out)⟩⟩
    ·rw [if_neg c14] at H
     have c14b0 : (a1_0 == 4) = false := beq_eq_false_iff_ne.mpr c14
     have c14b1 : (a1_0 != 4) = true := bne_iff_ne.mpr c14
     have H' := Aside0.mk H
     clear H
     have hnb20 := NB242_243.out
     have hnc20 := NB243_242.out
     have hnb21 := NB242_244.out
     have hnc21 := NB244_242.out
     have hcz22_0 : w6.cell? ⟨gb242,0,none⟩ = some (.bool true) := (blk_cell BK242.out 0).trans rfl
     have hcz22_1 : w6.cell? ⟨gb242,1,none⟩ = some (.slice A0_1 l0_1.length c0_1) := (blk_cell BK242.out 1).trans rfl
     have hfz22_0 := blk_frozen BK242.out 0
     have hfz22_1 := blk_frozen BK242.out 1
     have hnb23 := NB243_244.out
     have hnc23 := NB244_243.out
     have hcz24_0 : w6.cell? ⟨gb243,0,none⟩ = some (.int .i64 a1_0) := (blk_cell BK243.out 0).trans rfl
     have hcz24_1 : w6.cell? ⟨gb243,1,none⟩ = some (.int .u32 a1_1) := (blk_cell BK243.out 1).trans rfl
     have hcz24_2 : w6.cell? ⟨gb243,2,none⟩ = some (.slice A1_2 l1_2.length c1_2) := (blk_cell BK243.out 2).trans rfl
     have hfz24_0 := blk_frozen BK243.out 0
     have hfz24_1 := blk_frozen BK243.out 1
     have hfz24_2 := blk_frozen BK243.out 2
     go_wp2
     go_meet
     case rel => exact ⟨_,(true),(by first|rfl|(simp;done)|(simp [*];done)),H',⟨by first|omega|exact Nat.le_refl _⟩,⟨by (with_reducible repeat (first|refine blk_drewN ?_ _|refine blk_drew ?_|refine blk_alloc ?_ _));exact BK242.out⟩,⟨by (with_reducible repeat (first|refine blk_drewN ?_ _|refine blk_drew ?_|refine blk_alloc ?_ _));exact BK243.out⟩,⟨by (with_reducible repeat (first|refine blk_drewN ?_ _|refine blk_drew ?_|refine blk_alloc ?_ _));exact BK244.out⟩,⟨by repeat (first|(with_reducible first|exact HB.out|apply below_alloc|apply pw_below_drewN|apply below_drew1|refine below_set ?_ GE242.out|refine below_set ?_ GE243.out|refine below_set ?_ GE244.out)|exact HB.out)⟩⟩
  ·replace c7 := Bool.eq_false_iff.mpr c7
   subst c7
   have H1 : (if a1_0 = 1 then (strandlineref15_Joiner_Feed.j0 k false false l0_1 a1_0 a1_1 l1_2) else (strandlineref15_Joiner_Feed.j0 k (a1_0 != 2) false l0_1 a1_0 a1_1 l1_2)) = some (r1,r2,r3,r4,r5) := by rw [if_neg (show ¬ (false = true) by decide)] at H;exact H
   clear H
   have H := H1
   clear H1
   by_cases c25 : a1_0 = 1
   ·rw [if_pos c25] at H
    have c25b0 : (a1_0 == 1) = true := beq_iff_eq.mpr c25
    have c25b1 : (a1_0 != 1) = false := bne_eq_false_iff_eq.mpr c25
    clear c25
    have H' := Aside0.mk H
    clear H
    have hnb26 := NB242_243.out
    have hnc26 := NB243_242.out
    have hnb27 := NB242_244.out
    have hnc27 := NB244_242.out
    have hcz28_0 : w6.cell? ⟨gb242,0,none⟩ = some (.bool false) := (blk_cell BK242.out 0).trans rfl
    have hcz28_1 : w6.cell? ⟨gb242,1,none⟩ = some (.slice A0_1 l0_1.length c0_1) := (blk_cell BK242.out 1).trans rfl
    have hfz28_0 := blk_frozen BK242.out 0
    have hfz28_1 := blk_frozen BK242.out 1
    have hnb29 := NB243_244.out
    have hnc29 := NB244_243.out
    have hcz30_0 : w6.cell? ⟨gb243,0,none⟩ = some (.int .i64 a1_0) := (blk_cell BK243.out 0).trans rfl
    have hcz30_1 : w6.cell? ⟨gb243,1,none⟩ = some (.int .u32 a1_1) := (blk_cell BK243.out 1).trans rfl
    have hcz30_2 : w6.cell? ⟨gb243,2,none⟩ = some (.slice A1_2 l1_2.length c1_2) := (blk_cell BK243.out 2).trans rfl
    have hfz30_0 := blk_frozen BK243.out 0
    have hfz30_1 := blk_frozen BK243.out 1
    have hfz30_2 := blk_frozen BK243.out 2
    go_wp2
    go_meet
    case rel => exact ⟨_,(false),(by first|rfl|(simp;done)|(simp [*];done)),H',⟨by first|omega|exact Nat.le_refl _⟩,⟨by (with_reducible repeat (first|refine blk_drewN ?_ _|refine blk_drew ?_|refine blk_alloc ?_ _));exact BK242.out⟩,⟨by (with_reducible repeat (first|refine blk_drewN ?_ _|refine blk_drew ?_|refine blk_alloc ?_ _));exact BK243.out⟩,⟨by (with_reducible repeat (first|refine blk_drewN ?_ _|refine blk_drew ?_|refine blk_alloc ?_ _));exact BK244.out⟩,⟨by repeat (first|(with_reducible first|exact HB.out|apply below_alloc|apply pw_below_drewN|apply below_drew1|refine below_set ?_ GE242.out|refine below_set ?_ GE243.out|refine below_set ?_ GE244.out)|exact HB.out)⟩⟩
   ·rw [if_neg c25] at H
    have c25b0 : (a1_0 == 1) = false := beq_eq_false_iff_ne.mpr c25
    have c25b1 : (a1_0 != 1) = true := bne_iff_ne.mpr c25
    have H' := Aside0.mk H
    clear H
    have hnb31 := NB242_243.out
    have hnc31 := NB243_242.out
    have hnb32 := NB242_244.out
    have hnc32 := NB244_242.out
    have hcz33_0 : w6.cell? ⟨gb242,0,none⟩ = some (.bool false) := (blk_cell BK242.out 0).trans rfl
    have hcz33_1 : w6.cell? ⟨gb242,1,none⟩ = some (.slice A0_1 l0_1.length c0_1) := (blk_cell BK242.out 1).trans rfl
    have hfz33_0 := blk_frozen BK242.out 0
    have hfz33_1 := blk_frozen BK242.out 1
    have hnb34 := NB243_244.out
    have hnc34 := NB244_243.out
    have hcz35_0 : w6.cell? ⟨gb243,0,none⟩ = some (.int .i64 a1_0) := (blk_cell BK243.out 0).trans rfl
    have hcz35_1 : w6.cell? ⟨gb243,1,none⟩ = some (.int .u32 a1_1) := (blk_cell BK243.out 1).trans rfl
    have hcz35_2 : w6.cell? ⟨gb243,2,none⟩ = some (.slice A1_2 l1_2.length c1_2) := (blk_cell BK243.out 2).trans rfl
    have hfz35_0 := blk_frozen BK243.out 0
    have hfz35_1 := blk_frozen BK243.out 1
    have hfz35_2 := blk_frozen BK243.out 2
    go_wp2
    go_meet
    case rel => exact ⟨_,((a1_0 != 2)),(by first|rfl|(simp;done)|(simp [*];done)),H',⟨by first|omega|exact Nat.le_refl _⟩,⟨by (with_reducible repeat (first|refine blk_drewN ?_ _|refine blk_drew ?_|refine blk_alloc ?_ _));exact BK242.out⟩,⟨by (with_reducible repeat (first|refine blk_drewN ?_ _|refine blk_drew ?_|refine blk_alloc ?_ _));exact BK243.out⟩,⟨by (with_reducible repeat (first|refine blk_drewN ?_ _|refine blk_drew ?_|refine blk_alloc ?_ _));exact BK244.out⟩,⟨by repeat (first|(with_reducible first|exact HB.out|apply below_alloc|apply pw_below_drewN|apply below_drew1|refine below_set ?_ GE242.out|refine below_set ?_ GE243.out|refine below_set ?_ GE244.out)|exact HB.out)⟩⟩
 case rest =>
  clear HC3
  try clear c1
  try clear c2
  try clear p2
  try clear c3
  try clear c7
  try clear c8
  try clear c8b0
  try clear c8b1
  try clear c9
  try clear c10
  try clear c12
  try clear c14
  try clear c14b0
  try clear c14b1
  try clear c15
  try clear c16
  try clear c18
  try clear c20
  try clear c21
  try clear c23
  try clear c25
  try clear c25b0
  try clear c25b1
  try clear c26
  try clear c27
  try clear c29
  try clear c31
  try clear c32
  try clear c34
  try clear hcz11_0
  try clear hcz11_1
  try clear hcz13_0
  try clear hcz13_1
  try clear hcz13_2
  try clear hcz17_0
  try clear hcz17_1
  try clear hcz19_0
  try clear hcz19_1
  try clear hcz19_2
  try clear hcz22_0
  try clear hcz22_1
  try clear hcz24_0
  try clear hcz24_1
  try clear hcz24_2
  try clear hcz28_0
  try clear hcz28_1
  try clear hcz30_0
  try clear hcz30_1
  try clear hcz30_2
  try clear hcz33_0
  try clear hcz33_1
  try clear hcz35_0
  try clear hcz35_1
  try clear hcz35_2
  try clear hfz11_0
  try clear hfz11_1
  try clear hfz13_0
  try clear hfz13_1
  try clear hfz13_2
  try clear hfz17_0
  try clear hfz17_1
  try clear hfz19_0
  try clear hfz19_1
  try clear hfz19_2
  try clear hfz22_0
  try clear hfz22_1
  try clear hfz24_0
  try clear hfz24_1
  try clear hfz24_2
  try clear hfz28_0
  try clear hfz28_1
  try clear hfz30_0
  try clear hfz30_1
  try clear hfz30_2
  try clear hfz33_0
  try clear hfz33_1
  try clear hfz35_0
  try clear hfz35_1
  try clear hfz35_2
  obtain ⟨kq,x35_2,rfl,HA,HJ2,BK242,BK243,BK244,HB⟩ := hcut
  cases kq with
  |zero => exact absurd HA.out (by simp [strandlineref15_Joiner_Feed.j0])
  |succ kj2 =>
   have H := HA.out
   clear HA
   simp only [strandlineref15_Joiner_Feed.j0] at H
   by_cases c36 : x35_2 = true
   ·subst c36
    have H1 : (some (false,([] : List Int),([] : List Int),false,2)) = some (r1,r2,r3,r4,r5) := by rw [if_pos rfl] at H;exact H
    clear H
    have H := H1
    clear H1
    simp only [Option.some.injEq,Prod.mk.injEq] at H
    obtain ⟨rfl,rfl,rfl,rfl,rfl⟩ := H
    have hnb37 := NB244_242.out
    have hnc37 := NB242_244.out
    have hnb38 := NB244_243.out
    have hnc38 := NB243_244.out
    have hcz39_0 : wc.cell? ⟨gb244,0,none⟩ = some (.bool false) := (blk_cell BK244.out 0).trans rfl
    have hcz39_1 : wc.cell? ⟨gb244,1,none⟩ = some (.slice none 0 0) := (blk_cell BK244.out 1).trans rfl
    have hfz39_0 := blk_frozen BK244.out 0
    have hfz39_1 := blk_frozen BK244.out 1
    go_wp2
    refine bodyPost_ret (results_list (rs := [.cell 4 73,.tmp 5,.tmp 6,.tmp 7]) rfl (by simp) (.cell gb244 73 #[.bool false,.slice none 0 0] (0,0) _ rfl (by (with_reducible repeat (first|refine blk_drewN ?_ _|refine blk_drew ?_|refine blk_alloc ?_ _));refine blk_put (cs := #[.bool false,.slice none 0 0]) ?_ 1 _ rfl;(with_reducible repeat (first|refine blk_drewN ?_ _|refine blk_drew ?_|refine blk_alloc ?_ _));refine blk_put (cs := #[.bool false,.slice none 0 0]) ?_ 0 _ rfl;(with_reducible repeat (first|refine blk_drewN ?_ _|refine blk_drew ?_|refine blk_alloc ?_ _));exact BK244.out) Tryd.underlying73 rfl (by kernel_rfl) (.tmp (.tmp (.tmp .nil))))) rfl ?_
    exact ⟨_,_,by first|rfl|(simp [errW_none,errW_some] <;> rfl)|(simp [*,errW_none,errW_some] <;> rfl),by first|exact Kd.R_nil _ _ _ _ _|exact Kd.N_nil _ _ _ _ _|exact Kd.V_nil _ _ _ _ _|exact Kd.Q_nil _ _ _ _ _|exact Kd.S_nil _ _ _ _ _,by first|exact Kd.R_nil _ _ _ _ _|exact Kd.N_nil _ _ _ _ _|exact Kd.V_nil _ _ _ _ _|exact Kd.Q_nil _ _ _ _ _|exact Kd.S_nil _ _ _ _ _,by repeat (first|(with_reducible first|exact HB.out|apply below_alloc|apply pw_below_drewN|apply below_drew1|refine below_set ?_ GE242.out|refine below_set ?_ GE243.out|refine below_set ?_ GE244.out)|exact HB.out)⟩
   ·replace c36 := Bool.eq_false_iff.mpr c36
    subst c36
    have H1 : ((some (([] : List Int) : List Int)).bind fun y245 => (if y245.length + l0_1.length < 140737488355328 then ((some (y245 ++ l0_1 : List Int)).bind fun y248 => (if y248.length + l1_2.length < 140737488355328 then ((some (y248 ++ l1_2 : List Int)).bind fun y251 => (if (y251.length : Int) > 512 then (some (false,([] : List Int),([] : List Int),false,5)) else (if a1_0 = 1 then (some (false,([] : List Int),y251,true,0)) else (if a1_0 = 4 then (some (false,([] : List Int),y251,true,0)) else (some (true,y251,([] : List Int),false,0)))))) else (none))) else (none))) = some (r1,r2,r3,r4,r5) := by rw [if_neg (show ¬ (false = true) by decide)] at H;exact H
    clear H
    have H := H1
    clear H1
    obtain ⟨y245,hy245⟩ : ∃ y_ : List Int,y_ = (([] : List Int)) := ⟨_,rfl⟩
    replace H : (if y245.length + l0_1.length < 140737488355328 then ((some (y245 ++ l0_1 : List Int)).bind fun y248 => (if y248.length + l1_2.length < 140737488355328 then ((some (y248 ++ l1_2 : List Int)).bind fun y251 => (if (y251.length : Int) > 512 then (some (false,([] : List Int),([] : List Int),false,5)) else (if a1_0 = 1 then (some (false,([] : List Int),y251,true,0)) else (if a1_0 = 4 then (some (false,([] : List Int),y251,true,0)) else (some (true,y251,([] : List Int),false,0)))))) else (none))) else (none)) = some (r1,r2,r3,r4,r5) := by first|(rw [hy245];with_reducible exact H)|(have H2_ := (Option.bind_some _ _).symm.trans H;rw [hy245];with_reducible exact H2_)|(have H2_ := (Option.bind_some _ _).symm.trans H;with_reducible exact H2_)|with_reducible exact H|(rw [hy245];exact H)|exact H
    have Ny245 := Aside0.mk hy245
    clear hy245
    by_cases c40 : y245.length + l0_1.length < 140737488355328
    ·rw [if_pos c40] at H
     have LMc40 := Aside0.mk c40
     clear c40
     obtain ⟨y248,hy248⟩ : ∃ y_ : List Int,y_ = (y245 ++ l0_1) := ⟨_,rfl⟩
     replace H : (if y248.length + l1_2.length < 140737488355328 then ((some (y248 ++ l1_2 : List Int)).bind fun y251 => (if (y251.length : Int) > 512 then (some (false,([] : List Int),([] : List Int),false,5)) else (if a1_0 = 1 then (some (false,([] : List Int),y251,true,0)) else (if a1_0 = 4 then (some (false,([] : List Int),y251,true,0)) else (some (true,y251,([] : List Int),false,0)))))) else (none)) = some (r1,r2,r3,r4,r5) := by first|(rw [hy248];with_reducible exact H)|(have H2_ := (Option.bind_some _ _).symm.trans H;rw [hy248];with_reducible exact H2_)|(have H2_ := (Option.bind_some _ _).symm.trans H;with_reducible exact H2_)|with_reducible exact H|(rw [hy248];exact H)|exact H
     have Ny248 := Aside0.mk hy248
     clear hy248
     by_cases c41 : y248.length + l1_2.length < 140737488355328
     ·rw [if_pos c41] at H
      have LMc41 := Aside0.mk c41
      clear c41
      obtain ⟨y251,hy251⟩ : ∃ y_ : List Int,y_ = (y248 ++ l1_2) := ⟨_,rfl⟩
      replace H : (if (y251.length : Int) > 512 then (some (false,([] : List Int),([] : List Int),false,5)) else (if a1_0 = 1 then (some (false,([] : List Int),y251,true,0)) else (if a1_0 = 4 then (some (false,([] : List Int),y251,true,0)) else (some (true,y251,([] : List Int),false,0))))) = some (r1,r2,r3,r4,r5) := by first|(rw [hy251];with_reducible exact H)|(have H2_ := (Option.bind_some _ _).symm.trans H;rw [hy251];with_reducible exact H2_)|(have H2_ := (Option.bind_some _ _).symm.trans H;with_reducible exact H2_)|with_reducible exact H|(rw [hy251];exact H)|exact H
      have Ny251 := Aside0.mk hy251
      clear hy251
      by_cases c42 : (y251.length : Int) > 512
      ·rw [if_pos c42] at H
       have c42b0 : decide (512 < (y251.length : Int)) = true := decide_eq_true c42
       have c42b1 : decide (512 < y251.length) = true := decide_eq_true (by omega)
       clear c42
       simp only [Option.some.injEq,Prod.mk.injEq] at H
       obtain ⟨rfl,rfl,rfl,rfl,rfl⟩ := H
       try go_wp2
       have n0_ := Aside0.mk (blk_drew BK242.out)
       have n1_ := Aside0.mk (blk_drew BK243.out)
       have n2_ := Aside0.mk (blk_drew BK244.out)
       have n3_ := Aside0.mk (below_drew1 HB.out)
       clear BK242
       clear BK243
       clear BK244
       clear HB
       have BK242 := n0_
       have BK243 := n1_
       have BK244 := n2_
       have HB := n3_
       clear n0_ n1_ n2_ n3_
       refine start_ (n := 8) (S := fun w' => w'.cell? ⟨gb242,0,none⟩ = some (.bool a0_0) ∧ w'.cell? ⟨gb242,1,none⟩ = some (.slice A0_1 l0_1.length c0_1) ∧ w'.cell? ⟨gb243,0,none⟩ = some (.int .i64 a1_0) ∧ w'.cell? ⟨gb243,1,none⟩ = some (.int .u32 a1_1) ∧ w'.cell? ⟨gb243,2,none⟩ = some (.slice A1_2 l1_2.length c1_2)) (ds := []) #[f_,f_,f_,f_,f_,f_,f_,f_] (by kernel_rfl) rfl rfl ⟨(blk_cell BK242.out 0).trans rfl,(blk_cell BK242.out 1).trans rfl,(blk_cell BK243.out 0).trans rfl,(blk_cell BK243.out 1).trans rfl,(blk_cell BK243.out 2).trans rfl⟩ (fun hHeld => ?_);refine with_tabW strandlineref15_Joiner_Feed.tab3 strandlineref15_Joiner_Feed.bits3 (fun HT_ HW_ => ?_)
       generalize wc.drew = w43 at BK242 BK243 BK244 HB hHeld ⊢
       refine pure_ (i := 1) (N := some 38) (v := ?_) (a' := ?_) #[f_,t_,f_,f_,f_,f_,f_,f_] rfl rfl (any_of HT_.out (by kernel_rfl)) (fun _ _ _ h => h) (Or.inl ⟨by rfl,?_⟩) ?_ ?_
       rotate_left
       ·intro w'
        go_simp
        with_reducible rfl
       rotate_left
       ·simp only [ps_]
        rfl
       refine pure_ (i := 4) (N := some 41) (v := ?_) (a' := ?_) #[f_,t_,f_,f_,t_,f_,f_,f_] rfl rfl (any_of HT_.out (by kernel_rfl)) (fun _ _ _ h => h) (Or.inl ⟨by rfl,?_⟩) ?_ ?_
       rotate_left
       ·intro w'
        go_simp
        with_reducible rfl
       rotate_left
       ·simp only [ps_]
        rfl
       refine take_ (i := 2) (N := some 39) (v := ?_) (a' := ?_) #[f_,t_,t_,f_,t_,f_,f_,f_] rfl rfl (take_ofW HT_.out HW_.out (by kernel_rfl)) (fun _ _ _ h => h) (Or.inl ⟨by rfl,?_⟩) hHeld ?_ ?_
       rotate_left
       ·rintro w' ⟨s0,s1,s2,s3,s4⟩
        go_simp
        with_reducible rfl
       rotate_left
       ·simp only [ps_]
        rfl
       refine take_ (i := 5) (N := some 42) (v := ?_) (a' := ?_) #[f_,t_,t_,f_,t_,t_,f_,f_] rfl rfl (take_ofW HT_.out HW_.out (by kernel_rfl)) (fun _ _ _ h => h) (Or.inl ⟨by rfl,?_⟩) hHeld ?_ ?_
       rotate_left
       ·rintro w' ⟨s0,s1,s2,s3,s4⟩
        go_simp
        with_reducible rfl
       rotate_left
       ·simp only [ps_]
        rfl
       refine one_ (i := 0) (N := some 37) #[t_,t_,t_,f_,t_,t_,f_,f_] rfl rfl (one_of HT_.out (by kernel_rfl)) (by decide) (fun K hK => ?_)
       refine Kd.R_lit_step (Kd.int .u8) _ 5 ?hg (N := 37) ?hd (xs := ([] : List Int)) (inner := []) (ok := fun _ => True) (okp := fun _ => True) ?hr ?hp (fun _ hk => hk) trivial (Below.refl _ _) (Nat.le_refl _) (by simp) ?_;(case hd => rfl);(case hg => rfl);(case hr => first|(go_simp;done)|(go_simp;rfl));(case hp => exact (Reps.none _ _))
       intro v246 w44 ho45 hb hg_ hnew_
       clear hg_ hnew_
       (first|rw [← Ny245.out] at ho45|(simp only [Int.reduceToNat] at ho45;rw [← Ny245.out] at ho45))
       have n0_ := Aside0.mk (Kd.R_lower ho45 (below_size (by repeat (first|(with_reducible first|exact HB.out|apply below_alloc|apply pw_below_drewN|apply below_drew1|refine below_set ?_ GE242.out|refine below_set ?_ GE243.out|refine below_set ?_ GE244.out)|exact HB.out))))
       have n1_ := Aside0.mk (blk_below (g := gb242) (o := .cells #[.bool a0_0,.slice A0_1 l0_1.length c0_1] 73 (0,0)) (by (with_reducible repeat (first|refine blk_drewN ?_ _|refine blk_drew ?_|refine blk_alloc ?_ _));exact BK242.out) hb)
       have n2_ := Aside0.mk (blk_below (g := gb243) (o := .cells #[.int .i64 a1_0,.int .u32 a1_1,.slice A1_2 l1_2.length c1_2] 76 (0,0)) (by (with_reducible repeat (first|refine blk_drewN ?_ _|refine blk_drew ?_|refine blk_alloc ?_ _));exact BK243.out) hb)
       have n3_ := Aside0.mk (blk_below (g := gb244) (o := .cells #[.bool false,.slice none 0 0] 73 (0,0)) (by (with_reducible repeat (first|refine blk_drewN ?_ _|refine blk_drew ?_|refine blk_alloc ?_ _));exact BK244.out) hb)
       have n4_ := Aside0.mk (below_step (by repeat (first|(with_reducible first|exact HB.out|apply below_alloc|apply pw_below_drewN|apply below_drew1|refine below_set ?_ GE242.out|refine below_set ?_ GE243.out|refine below_set ?_ GE244.out)|exact HB.out)) hb)
       clear BK242
       clear BK243
       clear BK244
       clear HB
       have HO247 := n0_
       have BK242 := n1_
       have BK243 := n2_
       have BK244 := n3_
       have HB := n4_
       clear n0_ n1_ n2_ n3_ n4_
       clear hb ho45
       refine hK.out _ _ ⟨(blk_cell BK242.out 0).trans rfl,(blk_cell BK242.out 1).trans rfl,(blk_cell BK243.out 0).trans rfl,(blk_cell BK243.out 1).trans rfl,(blk_cell BK243.out 2).trans rfl⟩ (fun hHeld => ?_)
       clear hK K
       refine norm_ (a' := ?_) ?_ ?_
       rotate_left
       ·show Act.put _ (some 37) _ = _
        simp only [ps_]
        rfl
       refine one_ (i := 3) (N := some 40) #[t_,t_,t_,t_,t_,t_,f_,f_] rfl rfl (one_of HT_.out (by kernel_rfl)) (by decide) (fun K hK => ?_)
       refine Kd.R_append_rows_step (Kd.int .u8) (w0 := w) w.heap.size (by rfl) (.tmp 37) (.tmp 39) 38 5 (.int .u8 0) 1 rfl Tryd.underlying38 info5 rfl (by decide) (by omega) v246 y245 l0_1 _ _ _ (fun _ => True) (fun _ => False) rfl rfl ?aO ?aR (fun _ _ h => h) (fun _ h => h.elim) ?aF ?aB ?aS ?aL ?_
       (case aR => repeat (first|exact (Kd.C_below HR0_1.out HB.out)|(with_reducible refine Kd.C_alloc ?_ _)|(with_reducible refine Kd.C_drewN ?_ _)|(with_reducible refine Kd.C_drew ?_)))
       (case aB => exact (by repeat (first|(with_reducible first|exact HB.out|apply below_alloc|apply pw_below_drewN|apply below_drew1|refine below_set ?_ GE242.out|refine below_set ?_ GE243.out|refine below_set ?_ GE244.out)|exact HB.out)))
       (case aF => exact (fun _ _ => trivial))
       (case aO => exact (by (with_reducible repeat (first|apply Kd.R_alloc|apply Kd.R_drewN|apply Kd.R_drew));exact HO247.out))
       (case aS => exact (below_size (by repeat (first|(with_reducible first|exact HB.out|apply below_alloc|apply pw_below_drewN|apply below_drew1|refine below_set ?_ GE242.out|refine below_set ?_ GE243.out|refine below_set ?_ GE244.out)|exact HB.out))))
       (case aL => have := LMc40.out;omega)
       intro v249 w46 ho hb hg hat
       rw [← Ny248.out] at ho
       have n0_ := Aside0.mk (blk_grown (g := gb242) (o := .cells #[.bool a0_0,.slice A0_1 l0_1.length c0_1] 73 (0,0)) (by (with_reducible repeat (first|refine blk_drewN ?_ _|refine blk_drew ?_|refine blk_alloc ?_ _));exact BK242.out) hg (Kd.R_ne HO247.out BK242.out (by decide)))
       have n1_ := Aside0.mk (blk_grown (g := gb243) (o := .cells #[.int .i64 a1_0,.int .u32 a1_1,.slice A1_2 l1_2.length c1_2] 76 (0,0)) (by (with_reducible repeat (first|refine blk_drewN ?_ _|refine blk_drew ?_|refine blk_alloc ?_ _));exact BK243.out) hg (Kd.R_ne HO247.out BK243.out (by decide)))
       have n2_ := Aside0.mk (blk_grown (g := gb244) (o := .cells #[.bool false,.slice none 0 0] 73 (0,0)) (by (with_reducible repeat (first|refine blk_drewN ?_ _|refine blk_drew ?_|refine blk_alloc ?_ _));exact BK244.out) hg (Kd.R_ne HO247.out BK244.out (by decide)))
       have n3_ := Aside0.mk (hb)
       have n4_ := Aside0.mk (ho)
       clear BK242
       clear BK243
       clear BK244
       clear HB
       clear HO247
       have BK242 := n0_
       have BK243 := n1_
       have BK244 := n2_
       have HB := n3_
       have HO250 := n4_
       clear n0_ n1_ n2_ n3_ n4_
       clear ho hb hg hat
       refine hK.out _ _ ⟨(blk_cell BK242.out 0).trans rfl,(blk_cell BK242.out 1).trans rfl,(blk_cell BK243.out 0).trans rfl,(blk_cell BK243.out 1).trans rfl,(blk_cell BK243.out 2).trans rfl⟩ (fun hHeld => ?_)
       clear hK K
       refine norm_ (a' := ?_) ?_ ?_
       rotate_left
       ·show Act.put _ (some 40) _ = _
        simp only [ps_]
        rfl
       refine one_ (i := 6) (N := some 43) #[t_,t_,t_,t_,t_,t_,t_,f_] rfl rfl (one_of HT_.out (by kernel_rfl)) (by decide) (fun K hK => ?_)
       refine Kd.R_append_rows_step (Kd.int .u8) (w0 := w) w.heap.size (by rfl) (.tmp 40) (.tmp 42) 38 5 (.int .u8 0) 1 rfl Tryd.underlying38 info5 rfl (by decide) (by omega) v249 y248 l1_2 _ _ _ (fun _ => True) (fun _ => False) rfl rfl ?aO ?aR (fun _ _ h => h) (fun _ h => h.elim) ?aF ?aB ?aS ?aL ?_
       (case aR => repeat (first|exact (Kd.C_below HR1_2.out HB.out)|(with_reducible refine Kd.C_alloc ?_ _)|(with_reducible refine Kd.C_drewN ?_ _)|(with_reducible refine Kd.C_drew ?_)))
       (case aB => exact (by repeat (first|(with_reducible first|exact HB.out|apply below_alloc|apply pw_below_drewN|apply below_drew1|refine below_set ?_ GE242.out|refine below_set ?_ GE243.out|refine below_set ?_ GE244.out)|exact HB.out)))
       (case aF => exact (fun _ _ => trivial))
       (case aO => exact (by (with_reducible repeat (first|apply Kd.R_alloc|apply Kd.R_drewN|apply Kd.R_drew));exact HO250.out))
       (case aS => exact (below_size (by repeat (first|(with_reducible first|exact HB.out|apply below_alloc|apply pw_below_drewN|apply below_drew1|refine below_set ?_ GE242.out|refine below_set ?_ GE243.out|refine below_set ?_ GE244.out)|exact HB.out))))
       (case aL => have := LMc41.out;omega)
       intro v252 w47 ho hb hg hat
       rw [← Ny251.out] at ho
       have n0_ := Aside0.mk (blk_grown (g := gb242) (o := .cells #[.bool a0_0,.slice A0_1 l0_1.length c0_1] 73 (0,0)) (by (with_reducible repeat (first|refine blk_drewN ?_ _|refine blk_drew ?_|refine blk_alloc ?_ _));exact BK242.out) hg (Kd.R_ne HO250.out BK242.out (by decide)))
       have n1_ := Aside0.mk (blk_grown (g := gb243) (o := .cells #[.int .i64 a1_0,.int .u32 a1_1,.slice A1_2 l1_2.length c1_2] 76 (0,0)) (by (with_reducible repeat (first|refine blk_drewN ?_ _|refine blk_drew ?_|refine blk_alloc ?_ _));exact BK243.out) hg (Kd.R_ne HO250.out BK243.out (by decide)))
       have n2_ := Aside0.mk (blk_grown (g := gb244) (o := .cells #[.bool false,.slice none 0 0] 73 (0,0)) (by (with_reducible repeat (first|refine blk_drewN ?_ _|refine blk_drew ?_|refine blk_alloc ?_ _));exact BK244.out) hg (Kd.R_ne HO250.out BK244.out (by decide)))
       have n3_ := Aside0.mk (hb)
       have n4_ := Aside0.mk (ho)
       clear BK242
       clear BK243
       clear BK244
       clear HB
       clear HO250
       have BK242 := n0_
       have BK243 := n1_
       have BK244 := n2_
       have HB := n3_
       have HO253 := n4_
       clear n0_ n1_ n2_ n3_ n4_
       clear ho hb hg hat
       refine hK.out _ _ ⟨(blk_cell BK242.out 0).trans rfl,(blk_cell BK242.out 1).trans rfl,(blk_cell BK243.out 0).trans rfl,(blk_cell BK243.out 1).trans rfl,(blk_cell BK243.out 2).trans rfl⟩ (fun hHeld => ?_)
       clear hK K
       refine norm_ (a' := ?_) ?_ ?_
       rotate_left
       ·show Act.put _ (some 43) _ = _
        simp only [ps_]
        rfl
       refine pure_ (i := 7) (N := some 8) (v := ?_) (a' := ?_) #[t_,t_,t_,t_,t_,t_,t_,t_] rfl rfl (any_of HT_.out (by kernel_rfl)) (fun _ _ _ h => h) (Or.inl ⟨by rfl,?_⟩) ?_ ?_
       rotate_left
       ·intro w'
        go_simp
        with_reducible rfl
       rotate_left
       ·simp only [ps_]
        rfl
       refine done_ (done_of HT_.out (by kernel_rfl)) ?_
       obtain ⟨Ao48,co48,eo48⟩ := Kd.R_slice HO253.out
       subst eo48
       have hnb49 := NB244_242.out
       have hnc49 := NB242_244.out
       have hnb50 := NB244_243.out
       have hnc50 := NB243_244.out
       have hcz51_0 : w47.cell? ⟨gb244,0,none⟩ = some (.bool false) := (blk_cell BK244.out 0).trans rfl
       have hcz51_1 : w47.cell? ⟨gb244,1,none⟩ = some (.slice none 0 0) := (blk_cell BK244.out 1).trans rfl
       have hfz51_0 := blk_frozen BK244.out 0
       have hfz51_1 := blk_frozen BK244.out 1
       try go_wp2
       refine bodyPost_ret (results_list (rs := [.cell 4 73,.tmp 5,.tmp 6,.tmp 7]) rfl (by simp) (.cell gb244 73 #[.bool false,.slice none 0 0] (0,0) _ rfl (by (with_reducible repeat (first|refine blk_drewN ?_ _|refine blk_drew ?_|refine blk_alloc ?_ _));refine blk_put (cs := #[.bool false,.slice none 0 0]) ?_ 1 _ rfl;(with_reducible repeat (first|refine blk_drewN ?_ _|refine blk_drew ?_|refine blk_alloc ?_ _));refine blk_put (cs := #[.bool false,.slice none 0 0]) ?_ 0 _ rfl;(with_reducible repeat (first|refine blk_drewN ?_ _|refine blk_drew ?_|refine blk_alloc ?_ _));exact BK244.out) Tryd.underlying73 rfl (by kernel_rfl) (.tmp (.tmp (.tmp .nil))))) rfl ?_
       exact ⟨_,_,by first|rfl|(simp [errW_none,errW_some] <;> rfl)|(simp [*,errW_none,errW_some] <;> rfl),by first|exact Kd.R_nil _ _ _ _ _|exact Kd.N_nil _ _ _ _ _|exact Kd.V_nil _ _ _ _ _|exact Kd.Q_nil _ _ _ _ _|exact Kd.S_nil _ _ _ _ _,by first|exact Kd.R_nil _ _ _ _ _|exact Kd.N_nil _ _ _ _ _|exact Kd.V_nil _ _ _ _ _|exact Kd.Q_nil _ _ _ _ _|exact Kd.S_nil _ _ _ _ _,by repeat (first|(with_reducible first|exact HB.out|apply below_alloc|apply pw_below_drewN|apply below_drew1|refine below_set ?_ GE242.out|refine below_set ?_ GE243.out|refine below_set ?_ GE244.out)|exact HB.out)⟩
      ·rw [if_neg c42] at H
       have c42b0 : decide (512 < (y251.length : Int)) = false := decide_eq_false c42
       have c42b1 : decide (512 < y251.length) = false := decide_eq_false (by omega)
       clear c42
       by_cases c52 : a1_0 = 1
       ·rw [if_pos c52] at H
        have c52b0 : (a1_0 == 1) = true := beq_iff_eq.mpr c52
        have c52b1 : (a1_0 != 1) = false := bne_eq_false_iff_eq.mpr c52
        clear c52
        simp only [Option.some.injEq,Prod.mk.injEq] at H
        obtain ⟨rfl,rfl,rfl,rfl,rfl⟩ := H
        try go_wp2
        have n0_ := Aside0.mk (blk_drew BK242.out)
        have n1_ := Aside0.mk (blk_drew BK243.out)
        have n2_ := Aside0.mk (blk_drew BK244.out)
        have n3_ := Aside0.mk (below_drew1 HB.out)
        clear BK242
        clear BK243
        clear BK244
        clear HB
        have BK242 := n0_
        have BK243 := n1_
        have BK244 := n2_
        have HB := n3_
        clear n0_ n1_ n2_ n3_
        refine start_ (n := 8) (S := fun w' => w'.cell? ⟨gb242,0,none⟩ = some (.bool a0_0) ∧ w'.cell? ⟨gb242,1,none⟩ = some (.slice A0_1 l0_1.length c0_1) ∧ w'.cell? ⟨gb243,0,none⟩ = some (.int .i64 a1_0) ∧ w'.cell? ⟨gb243,1,none⟩ = some (.int .u32 a1_1) ∧ w'.cell? ⟨gb243,2,none⟩ = some (.slice A1_2 l1_2.length c1_2)) (ds := []) #[f_,f_,f_,f_,f_,f_,f_,f_] (by kernel_rfl) rfl rfl ⟨(blk_cell BK242.out 0).trans rfl,(blk_cell BK242.out 1).trans rfl,(blk_cell BK243.out 0).trans rfl,(blk_cell BK243.out 1).trans rfl,(blk_cell BK243.out 2).trans rfl⟩ (fun hHeld => ?_);refine with_tabW strandlineref15_Joiner_Feed.tab3 strandlineref15_Joiner_Feed.bits3 (fun HT_ HW_ => ?_)
        generalize wc.drew = w53 at BK242 BK243 BK244 HB hHeld ⊢
        refine pure_ (i := 1) (N := some 38) (v := ?_) (a' := ?_) #[f_,t_,f_,f_,f_,f_,f_,f_] rfl rfl (any_of HT_.out (by kernel_rfl)) (fun _ _ _ h => h) (Or.inl ⟨by rfl,?_⟩) ?_ ?_
        rotate_left
        ·intro w'
         go_simp
         with_reducible rfl
        rotate_left
        ·simp only [ps_]
         rfl
        refine pure_ (i := 4) (N := some 41) (v := ?_) (a' := ?_) #[f_,t_,f_,f_,t_,f_,f_,f_] rfl rfl (any_of HT_.out (by kernel_rfl)) (fun _ _ _ h => h) (Or.inl ⟨by rfl,?_⟩) ?_ ?_
        rotate_left
        ·intro w'
         go_simp
         with_reducible rfl
        rotate_left
        ·simp only [ps_]
         rfl
        refine take_ (i := 2) (N := some 39) (v := ?_) (a' := ?_) #[f_,t_,t_,f_,t_,f_,f_,f_] rfl rfl (take_ofW HT_.out HW_.out (by kernel_rfl)) (fun _ _ _ h => h) (Or.inl ⟨by rfl,?_⟩) hHeld ?_ ?_
        rotate_left
        ·rintro w' ⟨s0,s1,s2,s3,s4⟩
         go_simp
         with_reducible rfl
        rotate_left
        ·simp only [ps_]
         rfl
        refine take_ (i := 5) (N := some 42) (v := ?_) (a' := ?_) #[f_,t_,t_,f_,t_,t_,f_,f_] rfl rfl (take_ofW HT_.out HW_.out (by kernel_rfl)) (fun _ _ _ h => h) (Or.inl ⟨by rfl,?_⟩) hHeld ?_ ?_
        rotate_left
        ·rintro w' ⟨s0,s1,s2,s3,s4⟩
         go_simp
         with_reducible rfl
        rotate_left
        ·simp only [ps_]
         rfl
        refine one_ (i := 0) (N := some 37) #[t_,t_,t_,f_,t_,t_,f_,f_] rfl rfl (one_of HT_.out (by kernel_rfl)) (by decide) (fun K hK => ?_)
        refine Kd.R_lit_step (Kd.int .u8) _ 5 ?hg (N := 37) ?hd (xs := ([] : List Int)) (inner := []) (ok := fun _ => True) (okp := fun _ => True) ?hr ?hp (fun _ hk => hk) trivial (Below.refl _ _) (Nat.le_refl _) (by simp) ?_;(case hd => rfl);(case hg => rfl);(case hr => first|(go_simp;done)|(go_simp;rfl));(case hp => exact (Reps.none _ _))
        intro v246 w54 ho55 hb hg_ hnew_
        clear hg_ hnew_
        (first|rw [← Ny245.out] at ho55|(simp only [Int.reduceToNat] at ho55;rw [← Ny245.out] at ho55))
        have n0_ := Aside0.mk (Kd.R_lower ho55 (below_size (by repeat (first|(with_reducible first|exact HB.out|apply below_alloc|apply pw_below_drewN|apply below_drew1|refine below_set ?_ GE242.out|refine below_set ?_ GE243.out|refine below_set ?_ GE244.out)|exact HB.out))))
        have n1_ := Aside0.mk (blk_below (g := gb242) (o := .cells #[.bool a0_0,.slice A0_1 l0_1.length c0_1] 73 (0,0)) (by (with_reducible repeat (first|refine blk_drewN ?_ _|refine blk_drew ?_|refine blk_alloc ?_ _));exact BK242.out) hb)
        have n2_ := Aside0.mk (blk_below (g := gb243) (o := .cells #[.int .i64 a1_0,.int .u32 a1_1,.slice A1_2 l1_2.length c1_2] 76 (0,0)) (by (with_reducible repeat (first|refine blk_drewN ?_ _|refine blk_drew ?_|refine blk_alloc ?_ _));exact BK243.out) hb)
        have n3_ := Aside0.mk (blk_below (g := gb244) (o := .cells #[.bool false,.slice none 0 0] 73 (0,0)) (by (with_reducible repeat (first|refine blk_drewN ?_ _|refine blk_drew ?_|refine blk_alloc ?_ _));exact BK244.out) hb)
        have n4_ := Aside0.mk (below_step (by repeat (first|(with_reducible first|exact HB.out|apply below_alloc|apply pw_below_drewN|apply below_drew1|refine below_set ?_ GE242.out|refine below_set ?_ GE243.out|refine below_set ?_ GE244.out)|exact HB.out)) hb)
        clear BK242
        clear BK243
        clear BK244
        clear HB
        have HO247 := n0_
        have BK242 := n1_
        have BK243 := n2_
        have BK244 := n3_
        have HB := n4_
        clear n0_ n1_ n2_ n3_ n4_
        clear hb ho55
        refine hK.out _ _ ⟨(blk_cell BK242.out 0).trans rfl,(blk_cell BK242.out 1).trans rfl,(blk_cell BK243.out 0).trans rfl,(blk_cell BK243.out 1).trans rfl,(blk_cell BK243.out 2).trans rfl⟩ (fun hHeld => ?_)
        clear hK K
        refine norm_ (a' := ?_) ?_ ?_
        rotate_left
        ·show Act.put _ (some 37) _ = _
         simp only [ps_]
         rfl
        refine one_ (i := 3) (N := some 40) #[t_,t_,t_,t_,t_,t_,f_,f_] rfl rfl (one_of HT_.out (by kernel_rfl)) (by decide) (fun K hK => ?_)
        refine Kd.R_append_rows_step (Kd.int .u8) (w0 := w) w.heap.size (by rfl) (.tmp 37) (.tmp 39) 38 5 (.int .u8 0) 1 rfl Tryd.underlying38 info5 rfl (by decide) (by omega) v246 y245 l0_1 _ _ _ (fun _ => True) (fun _ => False) rfl rfl ?aO ?aR (fun _ _ h => h) (fun _ h => h.elim) ?aF ?aB ?aS ?aL ?_
        (case aR => repeat (first|exact (Kd.C_below HR0_1.out HB.out)|(with_reducible refine Kd.C_alloc ?_ _)|(with_reducible refine Kd.C_drewN ?_ _)|(with_reducible refine Kd.C_drew ?_)))
        (case aB => exact (by repeat (first|(with_reducible first|exact HB.out|apply below_alloc|apply pw_below_drewN|apply below_drew1|refine below_set ?_ GE242.out|refine below_set ?_ GE243.out|refine below_set ?_ GE244.out)|exact HB.out)))
        (case aF => exact (fun _ _ => trivial))
        (case aO => exact (by (with_reducible repeat (first|apply Kd.R_alloc|apply Kd.R_drewN|apply Kd.R_drew));exact HO247.out))
        (case aS => exact (below_size (by repeat (first|(with_reducible first|exact HB.out|apply below_alloc|apply pw_below_drewN|apply below_drew1|refine below_set ?_ GE242.out|refine below_set ?_ GE243.out|refine below_set ?_ GE244.out)|exact HB.out))))
        (case aL => have := LMc40.out;omega)
        intro v249 w56 ho hb hg hat
        rw [← Ny248.out] at ho
        have n0_ := Aside0.mk (blk_grown (g := gb242) (o := .cells #[.bool a0_0,.slice A0_1 l0_1.length c0_1] 73 (0,0)) (by (with_reducible repeat (first|refine blk_drewN ?_ _|refine blk_drew ?_|refine blk_alloc ?_ _));exact BK242.out) hg (Kd.R_ne HO247.out BK242.out (by decide)))
        have n1_ := Aside0.mk (blk_grown (g := gb243) (o := .cells #[.int .i64 a1_0,.int .u32 a1_1,.slice A1_2 l1_2.length c1_2] 76 (0,0)) (by (with_reducible repeat (first|refine blk_drewN ?_ _|refine blk_drew ?_|refine blk_alloc ?_ _));exact BK243.out) hg (Kd.R_ne HO247.out BK243.out (by decide)))
        have n2_ := Aside0.mk (blk_grown (g := gb244) (o := .cells #[.bool false,.slice none 0 0] 73 (0,0)) (by (with_reducible repeat (first|refine blk_drewN ?_ _|refine blk_drew ?_|refine blk_alloc ?_ _));exact BK244.out) hg (Kd.R_ne HO247.out BK244.out (by decide)))
        have n3_ := Aside0.mk (hb)
        have n4_ := Aside0.mk (ho)
        clear BK242
        clear BK243
        clear BK244
        clear HB
        clear HO247
        have BK242 := n0_
        have BK243 := n1_
        have BK244 := n2_
        have HB := n3_
        have HO250 := n4_
        clear n0_ n1_ n2_ n3_ n4_
        clear ho hb hg hat
        refine hK.out _ _ ⟨(blk_cell BK242.out 0).trans rfl,(blk_cell BK242.out 1).trans rfl,(blk_cell BK243.out 0).trans rfl,(blk_cell BK243.out 1).trans rfl,(blk_cell BK243.out 2).trans rfl⟩ (fun hHeld => ?_)
        clear hK K
        refine norm_ (a' := ?_) ?_ ?_
        rotate_left
        ·show Act.put _ (some 40) _ = _
         simp only [ps_]
         rfl
        refine one_ (i := 6) (N := some 43) #[t_,t_,t_,t_,t_,t_,t_,f_] rfl rfl (one_of HT_.out (by kernel_rfl)) (by decide) (fun K hK => ?_)
        refine Kd.R_append_rows_step (Kd.int .u8) (w0 := w) w.heap.size (by rfl) (.tmp 40) (.tmp 42) 38 5 (.int .u8 0) 1 rfl Tryd.underlying38 info5 rfl (by decide) (by omega) v249 y248 l1_2 _ _ _ (fun _ => True) (fun _ => False) rfl rfl ?aO ?aR (fun _ _ h => h) (fun _ h => h.elim) ?aF ?aB ?aS ?aL ?_
        (case aR => repeat (first|exact (Kd.C_below HR1_2.out HB.out)|(with_reducible refine Kd.C_alloc ?_ _)|(with_reducible refine Kd.C_drewN ?_ _)|(with_reducible refine Kd.C_drew ?_)))
        (case aB => exact (by repeat (first|(with_reducible first|exact HB.out|apply below_alloc|apply pw_below_drewN|apply below_drew1|refine below_set ?_ GE242.out|refine below_set ?_ GE243.out|refine below_set ?_ GE244.out)|exact HB.out)))
        (case aF => exact (fun _ _ => trivial))
        (case aO => exact (by (with_reducible repeat (first|apply Kd.R_alloc|apply Kd.R_drewN|apply Kd.R_drew));exact HO250.out))
        (case aS => exact (below_size (by repeat (first|(with_reducible first|exact HB.out|apply below_alloc|apply pw_below_drewN|apply below_drew1|refine below_set ?_ GE242.out|refine below_set ?_ GE243.out|refine below_set ?_ GE244.out)|exact HB.out))))
        (case aL => have := LMc41.out;omega)
        intro v252 w57 ho hb hg hat
        rw [← Ny251.out] at ho
        have n0_ := Aside0.mk (blk_grown (g := gb242) (o := .cells #[.bool a0_0,.slice A0_1 l0_1.length c0_1] 73 (0,0)) (by (with_reducible repeat (first|refine blk_drewN ?_ _|refine blk_drew ?_|refine blk_alloc ?_ _));exact BK242.out) hg (Kd.R_ne HO250.out BK242.out (by decide)))
        have n1_ := Aside0.mk (blk_grown (g := gb243) (o := .cells #[.int .i64 a1_0,.int .u32 a1_1,.slice A1_2 l1_2.length c1_2] 76 (0,0)) (by (with_reducible repeat (first|refine blk_drewN ?_ _|refine blk_drew ?_|refine blk_alloc ?_ _));exact BK243.out) hg (Kd.R_ne HO250.out BK243.out (by decide)))
        have n2_ := Aside0.mk (blk_grown (g := gb244) (o := .cells #[.bool false,.slice none 0 0] 73 (0,0)) (by (with_reducible repeat (first|refine blk_drewN ?_ _|refine blk_drew ?_|refine blk_alloc ?_ _));exact BK244.out) hg (Kd.R_ne HO250.out BK244.out (by decide)))
        have n3_ := Aside0.mk (hb)
        have n4_ := Aside0.mk (ho)
        clear BK242
        clear BK243
        clear BK244
        clear HB
        clear HO250
        have BK242 := n0_
        have BK243 := n1_
        have BK244 := n2_
        have HB := n3_
        have HO253 := n4_
        clear n0_ n1_ n2_ n3_ n4_
        clear ho hb hg hat
        refine hK.out _ _ ⟨(blk_cell BK242.out 0).trans rfl,(blk_cell BK242.out 1).trans rfl,(blk_cell BK243.out 0).trans rfl,(blk_cell BK243.out 1).trans rfl,(blk_cell BK243.out 2).trans rfl⟩ (fun hHeld => ?_)
        clear hK K
        refine norm_ (a' := ?_) ?_ ?_
        rotate_left
        ·show Act.put _ (some 43) _ = _
         simp only [ps_]
         rfl
        refine pure_ (i := 7) (N := some 8) (v := ?_) (a' := ?_) #[t_,t_,t_,t_,t_,t_,t_,t_] rfl rfl (any_of HT_.out (by kernel_rfl)) (fun _ _ _ h => h) (Or.inl ⟨by rfl,?_⟩) ?_ ?_
        rotate_left
        ·intro w'
         go_simp
         with_reducible rfl
        rotate_left
        ·simp only [ps_]
         rfl
        refine done_ (done_of HT_.out (by kernel_rfl)) ?_
        obtain ⟨Ao58,co58,eo58⟩ := Kd.R_slice HO253.out
        subst eo58
        have hnb59 := NB243_242.out
        have hnc59 := NB242_243.out
        have hnb60 := NB243_244.out
        have hnc60 := NB244_243.out
        have hcz61_0 : w57.cell? ⟨gb243,0,none⟩ = some (.int .i64 a1_0) := (blk_cell BK243.out 0).trans rfl
        have hcz61_1 : w57.cell? ⟨gb243,1,none⟩ = some (.int .u32 a1_1) := (blk_cell BK243.out 1).trans rfl
        have hcz61_2 : w57.cell? ⟨gb243,2,none⟩ = some (.slice A1_2 l1_2.length c1_2) := (blk_cell BK243.out 2).trans rfl
        have hfz61_0 := blk_frozen BK243.out 0
        have hfz61_1 := blk_frozen BK243.out 1
        have hfz61_2 := blk_frozen BK243.out 2
        have hnb62 := NB244_242.out
        have hnc62 := NB242_244.out
        have hcz63_0 : w57.cell? ⟨gb244,0,none⟩ = some (.bool false) := (blk_cell BK244.out 0).trans rfl
        have hcz63_1 : w57.cell? ⟨gb244,1,none⟩ = some (.slice none 0 0) := (blk_cell BK244.out 1).trans rfl
        have hfz63_0 := blk_frozen BK244.out 0
        have hfz63_1 := blk_frozen BK244.out 1
        try go_wp2
        refine bodyPost_ret (results_list (rs := [.cell 4 73,.tmp 5,.tmp 6,.tmp 7]) rfl (by simp) (.cell gb244 73 #[.bool false,.slice none 0 0] (0,0) _ rfl (by (with_reducible repeat (first|refine blk_drewN ?_ _|refine blk_drew ?_|refine blk_alloc ?_ _));refine blk_put (cs := #[.bool false,.slice none 0 0]) ?_ 1 _ rfl;(with_reducible repeat (first|refine blk_drewN ?_ _|refine blk_drew ?_|refine blk_alloc ?_ _));refine blk_put (cs := #[.bool false,.slice none 0 0]) ?_ 0 _ rfl;(with_reducible repeat (first|refine blk_drewN ?_ _|refine blk_drew ?_|refine blk_alloc ?_ _));exact BK244.out) Tryd.underlying73 rfl (by kernel_rfl) (.tmp (.tmp (.tmp .nil))))) rfl ?_
        exact ⟨_,_,by first|rfl|(simp [errW_none,errW_some] <;> rfl)|(simp [*,errW_none,errW_some] <;> rfl),by first|exact Kd.R_nil _ _ _ _ _|exact Kd.N_nil _ _ _ _ _|exact Kd.V_nil _ _ _ _ _|exact Kd.Q_nil _ _ _ _ _|exact Kd.S_nil _ _ _ _ _,by (with_reducible repeat (first|apply Kd.R_alloc|apply Kd.R_drewN|apply Kd.R_drew));exact Kd.R_mono (Kd.R_far (p := ⟨gb244,1,none⟩) (Kd.R_far (p := ⟨gb244,0,none⟩) (Kd.R_types HO253.out BK244.out (by decide)) (fun _ hk => hk.2) (.bool false)) (fun _ hk => hk.2) (.slice none 0 0)) (fun _ hk => (by simp [Value.ownBlock])),by repeat (first|(with_reducible first|exact HB.out|apply below_alloc|apply pw_below_drewN|apply below_drew1|refine below_set ?_ GE242.out|refine below_set ?_ GE243.out|refine below_set ?_ GE244.out)|exact HB.out)⟩
       ·rw [if_neg c52] at H
        have c52b0 : (a1_0 == 1) = false := beq_eq_false_iff_ne.mpr c52
        have c52b1 : (a1_0 != 1) = true := bne_iff_ne.mpr c52
        by_cases c64 : a1_0 = 4
        ·rw [if_pos c64] at H
         have c64b0 : (a1_0 == 4) = true := beq_iff_eq.mpr c64
         have c64b1 : (a1_0 != 4) = false := bne_eq_false_iff_eq.mpr c64
         clear c64
         simp only [Option.some.injEq,Prod.mk.injEq] at H
         obtain ⟨rfl,rfl,rfl,rfl,rfl⟩ := H
         try go_wp2
         have n0_ := Aside0.mk (blk_drew BK242.out)
         have n1_ := Aside0.mk (blk_drew BK243.out)
         have n2_ := Aside0.mk (blk_drew BK244.out)
         have n3_ := Aside0.mk (below_drew1 HB.out)
         clear BK242
         clear BK243
         clear BK244
         clear HB
         have BK242 := n0_
         have BK243 := n1_
         have BK244 := n2_
         have HB := n3_
         clear n0_ n1_ n2_ n3_
         refine start_ (n := 8) (S := fun w' => w'.cell? ⟨gb242,0,none⟩ = some (.bool a0_0) ∧ w'.cell? ⟨gb242,1,none⟩ = some (.slice A0_1 l0_1.length c0_1) ∧ w'.cell? ⟨gb243,0,none⟩ = some (.int .i64 a1_0) ∧ w'.cell? ⟨gb243,1,none⟩ = some (.int .u32 a1_1) ∧ w'.cell? ⟨gb243,2,none⟩ = some (.slice A1_2 l1_2.length c1_2)) (ds := []) #[f_,f_,f_,f_,f_,f_,f_,f_] (by kernel_rfl) rfl rfl ⟨(blk_cell BK242.out 0).trans rfl,(blk_cell BK242.out 1).trans rfl,(blk_cell BK243.out 0).trans rfl,(blk_cell BK243.out 1).trans rfl,(blk_cell BK243.out 2).trans rfl⟩ (fun hHeld => ?_);refine with_tabW strandlineref15_Joiner_Feed.tab3 strandlineref15_Joiner_Feed.bits3 (fun HT_ HW_ => ?_)
         generalize wc.drew = w65 at BK242 BK243 BK244 HB hHeld ⊢
         refine pure_ (i := 1) (N := some 38) (v := ?_) (a' := ?_) #[f_,t_,f_,f_,f_,f_,f_,f_] rfl rfl (any_of HT_.out (by kernel_rfl)) (fun _ _ _ h => h) (Or.inl ⟨by rfl,?_⟩) ?_ ?_
         rotate_left
         ·intro w'
          go_simp
          with_reducible rfl
         rotate_left
         ·simp only [ps_]
          rfl
         refine pure_ (i := 4) (N := some 41) (v := ?_) (a' := ?_) #[f_,t_,f_,f_,t_,f_,f_,f_] rfl rfl (any_of HT_.out (by kernel_rfl)) (fun _ _ _ h => h) (Or.inl ⟨by rfl,?_⟩) ?_ ?_
         rotate_left
         ·intro w'
          go_simp
          with_reducible rfl
         rotate_left
         ·simp only [ps_]
          rfl
         refine take_ (i := 2) (N := some 39) (v := ?_) (a' := ?_) #[f_,t_,t_,f_,t_,f_,f_,f_] rfl rfl (take_ofW HT_.out HW_.out (by kernel_rfl)) (fun _ _ _ h => h) (Or.inl ⟨by rfl,?_⟩) hHeld ?_ ?_
         rotate_left
         ·rintro w' ⟨s0,s1,s2,s3,s4⟩
          go_simp
          with_reducible rfl
         rotate_left
         ·simp only [ps_]
          rfl
         refine take_ (i := 5) (N := some 42) (v := ?_) (a' := ?_) #[f_,t_,t_,f_,t_,t_,f_,f_] rfl rfl (take_ofW HT_.out HW_.out (by kernel_rfl)) (fun _ _ _ h => h) (Or.inl ⟨by rfl,?_⟩) hHeld ?_ ?_
         rotate_left
         ·rintro w' ⟨s0,s1,s2,s3,s4⟩
          go_simp
          with_reducible rfl
         rotate_left
         ·simp only [ps_]
          rfl
         refine one_ (i := 0) (N := some 37) #[t_,t_,t_,f_,t_,t_,f_,f_] rfl rfl (one_of HT_.out (by kernel_rfl)) (by decide) (fun K hK => ?_)
         refine Kd.R_lit_step (Kd.int .u8) _ 5 ?hg (N := 37) ?hd (xs := ([] : List Int)) (inner := []) (ok := fun _ => True) (okp := fun _ => True) ?hr ?hp (fun _ hk => hk) trivial (Below.refl _ _) (Nat.le_refl _) (by simp) ?_;(case hd => rfl);(case hg => rfl);(case hr => first|(go_simp;done)|(go_simp;rfl));(case hp => exact (Reps.none _ _))
         intro v246 w66 ho67 hb hg_ hnew_
         clear hg_ hnew_
         (first|rw [← Ny245.out] at ho67|(simp only [Int.reduceToNat] at ho67;rw [← Ny245.out] at ho67))
         have n0_ := Aside0.mk (Kd.R_lower ho67 (below_size (by repeat (first|(with_reducible first|exact HB.out|apply below_alloc|apply pw_below_drewN|apply below_drew1|refine below_set ?_ GE242.out|refine below_set ?_ GE243.out|refine below_set ?_ GE244.out)|exact HB.out))))
         have n1_ := Aside0.mk (blk_below (g := gb242) (o := .cells #[.bool a0_0,.slice A0_1 l0_1.length c0_1] 73 (0,0)) (by (with_reducible repeat (first|refine blk_drewN ?_ _|refine blk_drew ?_|refine blk_alloc ?_ _));exact BK242.out) hb)
         have n2_ := Aside0.mk (blk_below (g := gb243) (o := .cells #[.int .i64 a1_0,.int .u32 a1_1,.slice A1_2 l1_2.length c1_2] 76 (0,0)) (by (with_reducible repeat (first|refine blk_drewN ?_ _|refine blk_drew ?_|refine blk_alloc ?_ _));exact BK243.out) hb)
         have n3_ := Aside0.mk (blk_below (g := gb244) (o := .cells #[.bool false,.slice none 0 0] 73 (0,0)) (by (with_reducible repeat (first|refine blk_drewN ?_ _|refine blk_drew ?_|refine blk_alloc ?_ _));exact BK244.out) hb)
         have n4_ := Aside0.mk (below_step (by repeat (first|(with_reducible first|exact HB.out|apply below_alloc|apply pw_below_drewN|apply below_drew1|refine below_set ?_ GE242.out|refine below_set ?_ GE243.out|refine below_set ?_ GE244.out)|exact HB.out)) hb)
         clear BK242
         clear BK243
         clear BK244
         clear HB
         have HO247 := n0_
         have BK242 := n1_
         have BK243 := n2_
         have BK244 := n3_
         have HB := n4_
         clear n0_ n1_ n2_ n3_ n4_
         clear hb ho67
         refine hK.out _ _ ⟨(blk_cell BK242.out 0).trans rfl,(blk_cell BK242.out 1).trans rfl,(blk_cell BK243.out 0).trans rfl,(blk_cell BK243.out 1).trans rfl,(blk_cell BK243.out 2).trans rfl⟩ (fun hHeld => ?_)
         clear hK K
         refine norm_ (a' := ?_) ?_ ?_
         rotate_left
         ·show Act.put _ (some 37) _ = _
          simp only [ps_]
          rfl
         refine one_ (i := 3) (N := some 40) #[t_,t_,t_,t_,t_,t_,f_,f_] rfl rfl (one_of HT_.out (by kernel_rfl)) (by decide) (fun K hK => ?_)
         refine Kd.R_append_rows_step (Kd.int .u8) (w0 := w) w.heap.size (by rfl) (.tmp 37) (.tmp 39) 38 5 (.int .u8 0) 1 rfl Tryd.underlying38 info5 rfl (by decide) (by omega) v246 y245 l0_1 _ _ _ (fun _ => True) (fun _ => False) rfl rfl ?aO ?aR (fun _ _ h => h) (fun _ h => h.elim) ?aF ?aB ?aS ?aL ?_
         (case aR => repeat (first|exact (Kd.C_below HR0_1.out HB.out)|(with_reducible refine Kd.C_alloc ?_ _)|(with_reducible refine Kd.C_drewN ?_ _)|(with_reducible refine Kd.C_drew ?_)))
         (case aB => exact (by repeat (first|(with_reducible first|exact HB.out|apply below_alloc|apply pw_below_drewN|apply below_drew1|refine below_set ?_ GE242.out|refine below_set ?_ GE243.out|refine below_set ?_ GE244.out)|exact HB.out)))
         (case aF => exact (fun _ _ => trivial))
         (case aO => exact (by (with_reducible repeat (first|apply Kd.R_alloc|apply Kd.R_drewN|apply Kd.R_drew));exact HO247.out))
         (case aS => exact (below_size (by repeat (first|(with_reducible first|exact HB.out|apply below_alloc|apply pw_below_drewN|apply below_drew1|refine below_set ?_ GE242.out|refine below_set ?_ GE243.out|refine below_set ?_ GE244.out)|exact HB.out))))
         (case aL => have := LMc40.out;omega)
         intro v249 w68 ho hb hg hat
         rw [← Ny248.out] at ho
         have n0_ := Aside0.mk (blk_grown (g := gb242) (o := .cells #[.bool a0_0,.slice A0_1 l0_1.length c0_1] 73 (0,0)) (by (with_reducible repeat (first|refine blk_drewN ?_ _|refine blk_drew ?_|refine blk_alloc ?_ _));exact BK242.out) hg (Kd.R_ne HO247.out BK242.out (by decide)))
         have n1_ := Aside0.mk (blk_grown (g := gb243) (o := .cells #[.int .i64 a1_0,.int .u32 a1_1,.slice A1_2 l1_2.length c1_2] 76 (0,0)) (by (with_reducible repeat (first|refine blk_drewN ?_ _|refine blk_drew ?_|refine blk_alloc ?_ _));exact BK243.out) hg (Kd.R_ne HO247.out BK243.out (by decide)))
         have n2_ := Aside0.mk (blk_grown (g := gb244) (o := .cells #[.bool false,.slice none 0 0] 73 (0,0)) (by (with_reducible repeat (first|refine blk_drewN ?_ _|refine blk_drew ?_|refine blk_alloc ?_ _));exact BK244.out) hg (Kd.R_ne HO247.out BK244.out (by decide)))
         have n3_ := Aside0.mk (hb)
         have n4_ := Aside0.mk (ho)
         clear BK242
         clear BK243
         clear BK244
         clear HB
         clear HO247
         have BK242 := n0_
         have BK243 := n1_
         have BK244 := n2_
         have HB := n3_
         have HO250 := n4_
         clear n0_ n1_ n2_ n3_ n4_
         clear ho hb hg hat
         refine hK.out _ _ ⟨(blk_cell BK242.out 0).trans rfl,(blk_cell BK242.out 1).trans rfl,(blk_cell BK243.out 0).trans rfl,(blk_cell BK243.out 1).trans rfl,(blk_cell BK243.out 2).trans rfl⟩ (fun hHeld => ?_)
         clear hK K
         refine norm_ (a' := ?_) ?_ ?_
         rotate_left
         ·show Act.put _ (some 40) _ = _
          simp only [ps_]
          rfl
         refine one_ (i := 6) (N := some 43) #[t_,t_,t_,t_,t_,t_,t_,f_] rfl rfl (one_of HT_.out (by kernel_rfl)) (by decide) (fun K hK => ?_)
         refine Kd.R_append_rows_step (Kd.int .u8) (w0 := w) w.heap.size (by rfl) (.tmp 40) (.tmp 42) 38 5 (.int .u8 0) 1 rfl Tryd.underlying38 info5 rfl (by decide) (by omega) v249 y248 l1_2 _ _ _ (fun _ => True) (fun _ => False) rfl rfl ?aO ?aR (fun _ _ h => h) (fun _ h => h.elim) ?aF ?aB ?aS ?aL ?_
         (case aR => repeat (first|exact (Kd.C_below HR1_2.out HB.out)|(with_reducible refine Kd.C_alloc ?_ _)|(with_reducible refine Kd.C_drewN ?_ _)|(with_reducible refine Kd.C_drew ?_)))
         (case aB => exact (by repeat (first|(with_reducible first|exact HB.out|apply below_alloc|apply pw_below_drewN|apply below_drew1|refine below_set ?_ GE242.out|refine below_set ?_ GE243.out|refine below_set ?_ GE244.out)|exact HB.out)))
         (case aF => exact (fun _ _ => trivial))
         (case aO => exact (by (with_reducible repeat (first|apply Kd.R_alloc|apply Kd.R_drewN|apply Kd.R_drew));exact HO250.out))
         (case aS => exact (below_size (by repeat (first|(with_reducible first|exact HB.out|apply below_alloc|apply pw_below_drewN|apply below_drew1|refine below_set ?_ GE242.out|refine below_set ?_ GE243.out|refine below_set ?_ GE244.out)|exact HB.out))))
         (case aL => have := LMc41.out;omega)
         intro v252 w69 ho hb hg hat
         rw [← Ny251.out] at ho
         have n0_ := Aside0.mk (blk_grown (g := gb242) (o := .cells #[.bool a0_0,.slice A0_1 l0_1.length c0_1] 73 (0,0)) (by (with_reducible repeat (first|refine blk_drewN ?_ _|refine blk_drew ?_|refine blk_alloc ?_ _));exact BK242.out) hg (Kd.R_ne HO250.out BK242.out (by decide)))
         have n1_ := Aside0.mk (blk_grown (g := gb243) (o := .cells #[.int .i64 a1_0,.int .u32 a1_1,.slice A1_2 l1_2.length c1_2] 76 (0,0)) (by (with_reducible repeat (first|refine blk_drewN ?_ _|refine blk_drew ?_|refine blk_alloc ?_ _));exact BK243.out) hg (Kd.R_ne HO250.out BK243.out (by decide)))
         have n2_ := Aside0.mk (blk_grown (g := gb244) (o := .cells #[.bool false,.slice none 0 0] 73 (0,0)) (by (with_reducible repeat (first|refine blk_drewN ?_ _|refine blk_drew ?_|refine blk_alloc ?_ _));exact BK244.out) hg (Kd.R_ne HO250.out BK244.out (by decide)))
         have n3_ := Aside0.mk (hb)
         have n4_ := Aside0.mk (ho)
         clear BK242
         clear BK243
         clear BK244
         clear HB
         clear HO250
         have BK242 := n0_
         have BK243 := n1_
         have BK244 := n2_
         have HB := n3_
         have HO253 := n4_
         clear n0_ n1_ n2_ n3_ n4_
         clear ho hb hg hat
         refine hK.out _ _ ⟨(blk_cell BK242.out 0).trans rfl,(blk_cell BK242.out 1).trans rfl,(blk_cell BK243.out 0).trans rfl,(blk_cell BK243.out 1).trans rfl,(blk_cell BK243.out 2).trans rfl⟩ (fun hHeld => ?_)
         clear hK K
         refine norm_ (a' := ?_) ?_ ?_
         rotate_left
         ·show Act.put _ (some 43) _ = _
          simp only [ps_]
          rfl
         refine pure_ (i := 7) (N := some 8) (v := ?_) (a' := ?_) #[t_,t_,t_,t_,t_,t_,t_,t_] rfl rfl (any_of HT_.out (by kernel_rfl)) (fun _ _ _ h => h) (Or.inl ⟨by rfl,?_⟩) ?_ ?_
         rotate_left
         ·intro w'
          go_simp
          with_reducible rfl
         rotate_left
         ·simp only [ps_]
          rfl
         refine done_ (done_of HT_.out (by kernel_rfl)) ?_
         obtain ⟨Ao70,co70,eo70⟩ := Kd.R_slice HO253.out
         subst eo70
         have hnb71 := NB243_242.out
         have hnc71 := NB242_243.out
         have hnb72 := NB243_244.out
         have hnc72 := NB244_243.out
         have hcz73_0 : w69.cell? ⟨gb243,0,none⟩ = some (.int .i64 a1_0) := (blk_cell BK243.out 0).trans rfl
         have hcz73_1 : w69.cell? ⟨gb243,1,none⟩ = some (.int .u32 a1_1) := (blk_cell BK243.out 1).trans rfl
         have hcz73_2 : w69.cell? ⟨gb243,2,none⟩ = some (.slice A1_2 l1_2.length c1_2) := (blk_cell BK243.out 2).trans rfl
         have hfz73_0 := blk_frozen BK243.out 0
         have hfz73_1 := blk_frozen BK243.out 1
         have hfz73_2 := blk_frozen BK243.out 2
         have hnb74 := NB244_242.out
         have hnc74 := NB242_244.out
         have hcz75_0 : w69.cell? ⟨gb244,0,none⟩ = some (.bool false) := (blk_cell BK244.out 0).trans rfl
         have hcz75_1 : w69.cell? ⟨gb244,1,none⟩ = some (.slice none 0 0) := (blk_cell BK244.out 1).trans rfl
         have hfz75_0 := blk_frozen BK244.out 0
         have hfz75_1 := blk_frozen BK244.out 1
         try go_wp2
         refine bodyPost_ret (results_list (rs := [.cell 4 73,.tmp 5,.tmp 6,.tmp 7]) rfl (by simp) (.cell gb244 73 #[.bool false,.slice none 0 0] (0,0) _ rfl (by (with_reducible repeat (first|refine blk_drewN ?_ _|refine blk_drew ?_|refine blk_alloc ?_ _));refine blk_put (cs := #[.bool false,.slice none 0 0]) ?_ 1 _ rfl;(with_reducible repeat (first|refine blk_drewN ?_ _|refine blk_drew ?_|refine blk_alloc ?_ _));refine blk_put (cs := #[.bool false,.slice none 0 0]) ?_ 0 _ rfl;(with_reducible repeat (first|refine blk_drewN ?_ _|refine blk_drew ?_|refine blk_alloc ?_ _));exact BK244.out) Tryd.underlying73 rfl (by kernel_rfl) (.tmp (.tmp (.tmp .nil))))) rfl ?_
         exact ⟨_,_,by first|rfl|(simp [errW_none,errW_some] <;> rfl)|(simp [*,errW_none,errW_some] <;> rfl),by first|exact Kd.R_nil _ _ _ _ _|exact Kd.N_nil _ _ _ _ _|exact Kd.V_nil _ _ _ _ _|exact Kd.Q_nil _ _ _ _ _|exact Kd.S_nil _ _ _ _ _,by (with_reducible repeat (first|apply Kd.R_alloc|apply Kd.R_drewN|apply Kd.R_drew));exact Kd.R_mono (Kd.R_far (p := ⟨gb244,1,none⟩) (Kd.R_far (p := ⟨gb244,0,none⟩) (Kd.R_types HO253.out BK244.out (by decide)) (fun _ hk => hk.2) (.bool false)) (fun _ hk => hk.2) (.slice none 0 0)) (fun _ hk => (by simp [Value.ownBlock])),by repeat (first|(with_reducible first|exact HB.out|apply below_alloc|apply pw_below_drewN|apply below_drew1|refine below_set ?_ GE242.out|refine below_set ?_ GE243.out|refine below_set ?_ GE244.out)|exact HB.out)⟩
        ·rw [if_neg c64] at H
         have c64b0 : (a1_0 == 4) = false := beq_eq_false_iff_ne.mpr c64
         have c64b1 : (a1_0 != 4) = true := bne_iff_ne.mpr c64
         simp only [Option.some.injEq,Prod.mk.injEq] at H
         obtain ⟨rfl,rfl,rfl,rfl,rfl⟩ := H
         try go_wp2
         have n0_ := Aside0.mk (blk_drew BK242.out)
         have n1_ := Aside0.mk (blk_drew BK243.out)
         have n2_ := Aside0.mk (blk_drew BK244.out)
         have n3_ := Aside0.mk (below_drew1 HB.out)
         clear BK242
         clear BK243
         clear BK244
         clear HB
         have BK242 := n0_
         have BK243 := n1_
         have BK244 := n2_
         have HB := n3_
         clear n0_ n1_ n2_ n3_
         refine start_ (n := 8) (S := fun w' => w'.cell? ⟨gb242,0,none⟩ = some (.bool a0_0) ∧ w'.cell? ⟨gb242,1,none⟩ = some (.slice A0_1 l0_1.length c0_1) ∧ w'.cell? ⟨gb243,0,none⟩ = some (.int .i64 a1_0) ∧ w'.cell? ⟨gb243,1,none⟩ = some (.int .u32 a1_1) ∧ w'.cell? ⟨gb243,2,none⟩ = some (.slice A1_2 l1_2.length c1_2)) (ds := []) #[f_,f_,f_,f_,f_,f_,f_,f_] (by kernel_rfl) rfl rfl ⟨(blk_cell BK242.out 0).trans rfl,(blk_cell BK242.out 1).trans rfl,(blk_cell BK243.out 0).trans rfl,(blk_cell BK243.out 1).trans rfl,(blk_cell BK243.out 2).trans rfl⟩ (fun hHeld => ?_);refine with_tabW strandlineref15_Joiner_Feed.tab3 strandlineref15_Joiner_Feed.bits3 (fun HT_ HW_ => ?_)
         generalize wc.drew = w76 at BK242 BK243 BK244 HB hHeld ⊢
         refine pure_ (i := 1) (N := some 38) (v := ?_) (a' := ?_) #[f_,t_,f_,f_,f_,f_,f_,f_] rfl rfl (any_of HT_.out (by kernel_rfl)) (fun _ _ _ h => h) (Or.inl ⟨by rfl,?_⟩) ?_ ?_
         rotate_left
         ·intro w'
          go_simp
          with_reducible rfl
         rotate_left
         ·simp only [ps_]
          rfl
         refine pure_ (i := 4) (N := some 41) (v := ?_) (a' := ?_) #[f_,t_,f_,f_,t_,f_,f_,f_] rfl rfl (any_of HT_.out (by kernel_rfl)) (fun _ _ _ h => h) (Or.inl ⟨by rfl,?_⟩) ?_ ?_
         rotate_left
         ·intro w'
          go_simp
          with_reducible rfl
         rotate_left
         ·simp only [ps_]
          rfl
         refine take_ (i := 2) (N := some 39) (v := ?_) (a' := ?_) #[f_,t_,t_,f_,t_,f_,f_,f_] rfl rfl (take_ofW HT_.out HW_.out (by kernel_rfl)) (fun _ _ _ h => h) (Or.inl ⟨by rfl,?_⟩) hHeld ?_ ?_
         rotate_left
         ·rintro w' ⟨s0,s1,s2,s3,s4⟩
          go_simp
          with_reducible rfl
         rotate_left
         ·simp only [ps_]
          rfl
         refine take_ (i := 5) (N := some 42) (v := ?_) (a' := ?_) #[f_,t_,t_,f_,t_,t_,f_,f_] rfl rfl (take_ofW HT_.out HW_.out (by kernel_rfl)) (fun _ _ _ h => h) (Or.inl ⟨by rfl,?_⟩) hHeld ?_ ?_
         rotate_left
         ·rintro w' ⟨s0,s1,s2,s3,s4⟩
          go_simp
          with_reducible rfl
         rotate_left
         ·simp only [ps_]
          rfl
         refine one_ (i := 0) (N := some 37) #[t_,t_,t_,f_,t_,t_,f_,f_] rfl rfl (one_of HT_.out (by kernel_rfl)) (by decide) (fun K hK => ?_)
         refine Kd.R_lit_step (Kd.int .u8) _ 5 ?hg (N := 37) ?hd (xs := ([] : List Int)) (inner := []) (ok := fun _ => True) (okp := fun _ => True) ?hr ?hp (fun _ hk => hk) trivial (Below.refl _ _) (Nat.le_refl _) (by simp) ?_;(case hd => rfl);(case hg => rfl);(case hr => first|(go_simp;done)|(go_simp;rfl));(case hp => exact (Reps.none _ _))
         intro v246 w77 ho78 hb hg_ hnew_
         clear hg_ hnew_
         (first|rw [← Ny245.out] at ho78|(simp only [Int.reduceToNat] at ho78;rw [← Ny245.out] at ho78))
         have n0_ := Aside0.mk (Kd.R_lower ho78 (below_size (by repeat (first|(with_reducible first|exact HB.out|apply below_alloc|apply pw_below_drewN|apply below_drew1|refine below_set ?_ GE242.out|refine below_set ?_ GE243.out|refine below_set ?_ GE244.out)|exact HB.out))))
         have n1_ := Aside0.mk (blk_below (g := gb242) (o := .cells #[.bool a0_0,.slice A0_1 l0_1.length c0_1] 73 (0,0)) (by (with_reducible repeat (first|refine blk_drewN ?_ _|refine blk_drew ?_|refine blk_alloc ?_ _));exact BK242.out) hb)
         have n2_ := Aside0.mk (blk_below (g := gb243) (o := .cells #[.int .i64 a1_0,.int .u32 a1_1,.slice A1_2 l1_2.length c1_2] 76 (0,0)) (by (with_reducible repeat (first|refine blk_drewN ?_ _|refine blk_drew ?_|refine blk_alloc ?_ _));exact BK243.out) hb)
         have n3_ := Aside0.mk (blk_below (g := gb244) (o := .cells #[.bool false,.slice none 0 0] 73 (0,0)) (by (with_reducible repeat (first|refine blk_drewN ?_ _|refine blk_drew ?_|refine blk_alloc ?_ _));exact BK244.out) hb)
         have n4_ := Aside0.mk (below_step (by repeat (first|(with_reducible first|exact HB.out|apply below_alloc|apply pw_below_drewN|apply below_drew1|refine below_set ?_ GE242.out|refine below_set ?_ GE243.out|refine below_set ?_ GE244.out)|exact HB.out)) hb)
         clear BK242
         clear BK243
         clear BK244
         clear HB
         have HO247 := n0_
         have BK242 := n1_
         have BK243 := n2_
         have BK244 := n3_
         have HB := n4_
         clear n0_ n1_ n2_ n3_ n4_
         clear hb ho78
         refine hK.out _ _ ⟨(blk_cell BK242.out 0).trans rfl,(blk_cell BK242.out 1).trans rfl,(blk_cell BK243.out 0).trans rfl,(blk_cell BK243.out 1).trans rfl,(blk_cell BK243.out 2).trans rfl⟩ (fun hHeld => ?_)
         clear hK K
         refine norm_ (a' := ?_) ?_ ?_
         rotate_left
         ·show Act.put _ (some 37) _ = _
          simp only [ps_]
          rfl
         refine one_ (i := 3) (N := some 40) #[t_,t_,t_,t_,t_,t_,f_,f_] rfl rfl (one_of HT_.out (by kernel_rfl)) (by decide) (fun K hK => ?_)
         refine Kd.R_append_rows_step (Kd.int .u8) (w0 := w) w.heap.size (by rfl) (.tmp 37) (.tmp 39) 38 5 (.int .u8 0) 1 rfl Tryd.underlying38 info5 rfl (by decide) (by omega) v246 y245 l0_1 _ _ _ (fun _ => True) (fun _ => False) rfl rfl ?aO ?aR (fun _ _ h => h) (fun _ h => h.elim) ?aF ?aB ?aS ?aL ?_
         (case aR => repeat (first|exact (Kd.C_below HR0_1.out HB.out)|(with_reducible refine Kd.C_alloc ?_ _)|(with_reducible refine Kd.C_drewN ?_ _)|(with_reducible refine Kd.C_drew ?_)))
         (case aB => exact (by repeat (first|(with_reducible first|exact HB.out|apply below_alloc|apply pw_below_drewN|apply below_drew1|refine below_set ?_ GE242.out|refine below_set ?_ GE243.out|refine below_set ?_ GE244.out)|exact HB.out)))
         (case aF => exact (fun _ _ => trivial))
         (case aO => exact (by (with_reducible repeat (first|apply Kd.R_alloc|apply Kd.R_drewN|apply Kd.R_drew));exact HO247.out))
         (case aS => exact (below_size (by repeat (first|(with_reducible first|exact HB.out|apply below_alloc|apply pw_below_drewN|apply below_drew1|refine below_set ?_ GE242.out|refine below_set ?_ GE243.out|refine below_set ?_ GE244.out)|exact HB.out))))
         (case aL => have := LMc40.out;omega)
         intro v249 w79 ho hb hg hat
         rw [← Ny248.out] at ho
         have n0_ := Aside0.mk (blk_grown (g := gb242) (o := .cells #[.bool a0_0,.slice A0_1 l0_1.length c0_1] 73 (0,0)) (by (with_reducible repeat (first|refine blk_drewN ?_ _|refine blk_drew ?_|refine blk_alloc ?_ _));exact BK242.out) hg (Kd.R_ne HO247.out BK242.out (by decide)))
         have n1_ := Aside0.mk (blk_grown (g := gb243) (o := .cells #[.int .i64 a1_0,.int .u32 a1_1,.slice A1_2 l1_2.length c1_2] 76 (0,0)) (by (with_reducible repeat (first|refine blk_drewN ?_ _|refine blk_drew ?_|refine blk_alloc ?_ _));exact BK243.out) hg (Kd.R_ne HO247.out BK243.out (by decide)))
         have n2_ := Aside0.mk (blk_grown (g := gb244) (o := .cells #[.bool false,.slice none 0 0] 73 (0,0)) (by (with_reducible repeat (first|refine blk_drewN ?_ _|refine blk_drew ?_|refine blk_alloc ?_ _));exact BK244.out) hg (Kd.R_ne HO247.out BK244.out (by decide)))
         have n3_ := Aside0.mk (hb)
         have n4_ := Aside0.mk (ho)
         clear BK242
         clear BK243
         clear BK244
         clear HB
         clear HO247
         have BK242 := n0_
         have BK243 := n1_
         have BK244 := n2_
         have HB := n3_
         have HO250 := n4_
         clear n0_ n1_ n2_ n3_ n4_
         clear ho hb hg hat
         refine hK.out _ _ ⟨(blk_cell BK242.out 0).trans rfl,(blk_cell BK242.out 1).trans rfl,(blk_cell BK243.out 0).trans rfl,(blk_cell BK243.out 1).trans rfl,(blk_cell BK243.out 2).trans rfl⟩ (fun hHeld => ?_)
         clear hK K
         refine norm_ (a' := ?_) ?_ ?_
         rotate_left
         ·show Act.put _ (some 40) _ = _
          simp only [ps_]
          rfl
         refine one_ (i := 6) (N := some 43) #[t_,t_,t_,t_,t_,t_,t_,f_] rfl rfl (one_of HT_.out (by kernel_rfl)) (by decide) (fun K hK => ?_)
         refine Kd.R_append_rows_step (Kd.int .u8) (w0 := w) w.heap.size (by rfl) (.tmp 40) (.tmp 42) 38 5 (.int .u8 0) 1 rfl Tryd.underlying38 info5 rfl (by decide) (by omega) v249 y248 l1_2 _ _ _ (fun _ => True) (fun _ => False) rfl rfl ?aO ?aR (fun _ _ h => h) (fun _ h => h.elim) ?aF ?aB ?aS ?aL ?_
         (case aR => repeat (first|exact (Kd.C_below HR1_2.out HB.out)|(with_reducible refine Kd.C_alloc ?_ _)|(with_reducible refine Kd.C_drewN ?_ _)|(with_reducible refine Kd.C_drew ?_)))
         (case aB => exact (by repeat (first|(with_reducible first|exact HB.out|apply below_alloc|apply pw_below_drewN|apply below_drew1|refine below_set ?_ GE242.out|refine below_set ?_ GE243.out|refine below_set ?_ GE244.out)|exact HB.out)))
         (case aF => exact (fun _ _ => trivial))
         (case aO => exact (by (with_reducible repeat (first|apply Kd.R_alloc|apply Kd.R_drewN|apply Kd.R_drew));exact HO250.out))
         (case aS => exact (below_size (by repeat (first|(with_reducible first|exact HB.out|apply below_alloc|apply pw_below_drewN|apply below_drew1|refine below_set ?_ GE242.out|refine below_set ?_ GE243.out|refine below_set ?_ GE244.out)|exact HB.out))))
         (case aL => have := LMc41.out;omega)
         intro v252 w80 ho hb hg hat
         rw [← Ny251.out] at ho
         have n0_ := Aside0.mk (blk_grown (g := gb242) (o := .cells #[.bool a0_0,.slice A0_1 l0_1.length c0_1] 73 (0,0)) (by (with_reducible repeat (first|refine blk_drewN ?_ _|refine blk_drew ?_|refine blk_alloc ?_ _));exact BK242.out) hg (Kd.R_ne HO250.out BK242.out (by decide)))
         have n1_ := Aside0.mk (blk_grown (g := gb243) (o := .cells #[.int .i64 a1_0,.int .u32 a1_1,.slice A1_2 l1_2.length c1_2] 76 (0,0)) (by (with_reducible repeat (first|refine blk_drewN ?_ _|refine blk_drew ?_|refine blk_alloc ?_ _));exact BK243.out) hg (Kd.R_ne HO250.out BK243.out (by decide)))
         have n2_ := Aside0.mk (blk_grown (g := gb244) (o := .cells #[.bool false,.slice none 0 0] 73 (0,0)) (by (with_reducible repeat (first|refine blk_drewN ?_ _|refine blk_drew ?_|refine blk_alloc ?_ _));exact BK244.out) hg (Kd.R_ne HO250.out BK244.out (by decide)))
         have n3_ := Aside0.mk (hb)
         have n4_ := Aside0.mk (ho)
         clear BK242
         clear BK243
         clear BK244
         clear HB
         clear HO250
         have BK242 := n0_
         have BK243 := n1_
         have BK244 := n2_
         have HB := n3_
         have HO253 := n4_
         clear n0_ n1_ n2_ n3_ n4_
         clear ho hb hg hat
         refine hK.out _ _ ⟨(blk_cell BK242.out 0).trans rfl,(blk_cell BK242.out 1).trans rfl,(blk_cell BK243.out 0).trans rfl,(blk_cell BK243.out 1).trans rfl,(blk_cell BK243.out 2).trans rfl⟩ (fun hHeld => ?_)
         clear hK K
         refine norm_ (a' := ?_) ?_ ?_
         rotate_left
         ·show Act.put _ (some 43) _ = _
          simp only [ps_]
          rfl
         refine pure_ (i := 7) (N := some 8) (v := ?_) (a' := ?_) #[t_,t_,t_,t_,t_,t_,t_,t_] rfl rfl (any_of HT_.out (by kernel_rfl)) (fun _ _ _ h => h) (Or.inl ⟨by rfl,?_⟩) ?_ ?_
         rotate_left
         ·intro w'
          go_simp
          with_reducible rfl
         rotate_left
         ·simp only [ps_]
          rfl
         refine done_ (done_of HT_.out (by kernel_rfl)) ?_
         obtain ⟨Ao81,co81,eo81⟩ := Kd.R_slice HO253.out
         subst eo81
         have hnb82 := NB243_242.out
         have hnc82 := NB242_243.out
         have hnb83 := NB243_244.out
         have hnc83 := NB244_243.out
         have hcz84_0 : w80.cell? ⟨gb243,0,none⟩ = some (.int .i64 a1_0) := (blk_cell BK243.out 0).trans rfl
         have hcz84_1 : w80.cell? ⟨gb243,1,none⟩ = some (.int .u32 a1_1) := (blk_cell BK243.out 1).trans rfl
         have hcz84_2 : w80.cell? ⟨gb243,2,none⟩ = some (.slice A1_2 l1_2.length c1_2) := (blk_cell BK243.out 2).trans rfl
         have hfz84_0 := blk_frozen BK243.out 0
         have hfz84_1 := blk_frozen BK243.out 1
         have hfz84_2 := blk_frozen BK243.out 2
         have hnb85 := NB244_242.out
         have hnc85 := NB242_244.out
         have hcz86_0 : w80.cell? ⟨gb244,0,none⟩ = some (.bool false) := (blk_cell BK244.out 0).trans rfl
         have hcz86_1 : w80.cell? ⟨gb244,1,none⟩ = some (.slice none 0 0) := (blk_cell BK244.out 1).trans rfl
         have hfz86_0 := blk_frozen BK244.out 0
         have hfz86_1 := blk_frozen BK244.out 1
         try go_wp2
         refine bodyPost_ret (results_list (rs := [.cell 4 73,.tmp 5,.tmp 6,.tmp 7]) rfl (by simp) (.cell gb244 73 #[.bool true,.slice Ao81 y251.length co81] (0,0) _ rfl (by (with_reducible repeat (first|refine blk_drewN ?_ _|refine blk_drew ?_|refine blk_alloc ?_ _));refine blk_put (cs := #[.bool true,.slice none 0 0]) ?_ 1 _ rfl;(with_reducible repeat (first|refine blk_drewN ?_ _|refine blk_drew ?_|refine blk_alloc ?_ _));refine blk_put (cs := #[.bool false,.slice none 0 0]) ?_ 0 _ rfl;(with_reducible repeat (first|refine blk_drewN ?_ _|refine blk_drew ?_|refine blk_alloc ?_ _));exact BK244.out) Tryd.underlying73 rfl (by kernel_rfl) (.tmp (.tmp (.tmp .nil))))) rfl ?_
         exact ⟨_,_,by first|rfl|(simp [errW_none,errW_some] <;> rfl)|(simp [*,errW_none,errW_some] <;> rfl),by (with_reducible repeat (first|apply Kd.R_alloc|apply Kd.R_drewN|apply Kd.R_drew));exact Kd.R_mono (Kd.R_far (p := ⟨gb244,1,none⟩) (Kd.R_far (p := ⟨gb244,0,none⟩) (Kd.R_types HO253.out BK244.out (by decide)) (fun _ hk => hk.2) (.bool true)) (fun _ hk => hk.2) (.slice Ao81 y251.length co81)) (fun _ hk => (by simp [Value.ownBlock])),by first|exact Kd.R_nil _ _ _ _ _|exact Kd.N_nil _ _ _ _ _|exact Kd.V_nil _ _ _ _ _|exact Kd.Q_nil _ _ _ _ _|exact Kd.S_nil _ _ _ _ _,by repeat (first|(with_reducible first|exact HB.out|apply below_alloc|apply pw_below_drewN|apply below_drew1|refine below_set ?_ GE242.out|refine below_set ?_ GE243.out|refine below_set ?_ GE244.out)|exact HB.out)⟩
     ·rw [if_neg c41] at H
      exact absurd H (by simp)
    ·rw [if_neg c40] at H
     exact absurd H (by simp)
end Go.Proofs.YtaekpfhgdnfciaaDoor.F
end
