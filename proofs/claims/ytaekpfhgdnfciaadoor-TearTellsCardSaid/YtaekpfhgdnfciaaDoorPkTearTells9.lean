/- Texts of mine put together: FkStrandlineref13, FragSame, Hold, FkCut. -/
import Derived.Test.YtaekpfhgdnfciaaDoorPkTearTells3
import Derived.Test.YtaekpfhgdnfciaaDoorPkTearTells4
import Derived.Test.YtaekpfhgdnfciaaDoorPkTearTells6
import Derived.Test.YtaekpfhgdnfciaaDoorPkTearTells8
section
/- Functions of strandlineref13: what each answers, as a Lean function, and that the call answers just this. Turned out of what the kit's print told for this seat. -/
namespace Go.Proofs.YtaekpfhgdnfciaaDoor.F
open Go.RowKit Go.Proofs.YtaekpfhgdnfciaaDoorW.PrintWords Go.Proofs.YtaekpfhgdnfciaaDoorW.PrintLast Go.Proofs.YtaekpfhgdnfciaaDoorW.PrintMore
attribute [local go_sem high] eqA83
attribute [local go_sem] field83_0
attribute [local go_sem] field83_1
attribute [local go_sem] max2_int min2_int max_two min_two max_three min_three max_four min_four
set_option linter.unusedVariables false
set_option linter.unusedSimpArgs false
/-! ### strandlineref13_Bytes: function 61 -/
def strandlineref13_Bytes.f (k : Nat) (a0_0 : Int) (a0_1 : Int) (l0_2 : List Int) : Option (List Int) := (strandlineref01_Put.f k (IntKind.u64.wrap ((l0_2.length : Int))) 2).bind fun t129 => (if t129.length < 140737488355328 then ((some (t129 ++ [(a0_0) % 256] : List Int)).bind fun y132 => ((strandlineref01_Put.f k (IntKind.u64.wrap (a0_1)) 4).bind fun t135 => (if y132.length + t135.length < 140737488355328 then ((some (y132 ++ t135 : List Int)).bind fun y138 => (if y138.length + l0_2.length < 140737488355328 then ((some (y138 ++ l0_2 : List Int)).bind fun y141 => ((strandlineref03_Of.f k y141).bind fun t144 => ((strandlineref03_Mask.f t144).bind fun t145 => ((strandlineref01_Put.f k (IntKind.u64.wrap (t145)) 4).bind fun t146 => (if t146.length + y141.length < 140737488355328 then (some (t146 ++ y141)) else (none)))))) else (none))) else (none)))) else (none))
theorem strandlineref13_Bytes.mono : ∀ a0 a1 a2 k,LeO (strandlineref13_Bytes.f k a0 a1 a2) (strandlineref13_Bytes.f (k + 1) a0 a1 a2) := by
 intro a0 a1 a2 k
 unfold strandlineref13_Bytes.f
 repeat' first
   |(with_reducible exact strandlineref01_Put.mono _ _ _)
   |(with_reducible exact strandlineref03_Of.mono _ _)
   |(with_reducible exact LeO.refl _)
   |(with_reducible exact LeO.none _)
   |(with_reducible refine LeO.ite ?_ ?_)
   |(with_reducible refine LeO.bind ?_ (fun _ => ?_))
   |exact strandlineref01_Put.mono _ _ _
   |exact strandlineref03_Of.mono _ _
   |exact LeO.none _
   |refine LeO.ite ?_ ?_
   |refine LeO.bind ?_ (fun _ => ?_)
set_option maxHeartbeats 8000000 in
set_option maxRecDepth 100000 in
theorem strandlineref13_Bytes.calls (k : Nat) (a0_0 : Int) (a0_1 : Int) (A0_2 : Option Addr) (c0_2 : Nat) (l0_2 : List Int) (r : List Int) (w : World) (hr0_2 : Kd.C (Kd.int .u8) w A0_2 l0_2.length l0_2) (hc0_2 : l0_2.length ≤ c0_2) (h : strandlineref13_Bytes.f k a0_0 a0_1 l0_2 = some r) :
  Calls Tryd.prog 61 #[.agg #[.int .i64 a0_0,.int .u32 a0_1,.slice A0_2 l0_2.length c0_2]] w fun e w' => ∃ v0_ : Value,e = .returned (v0_) ∧ Kd.R (Kd.int .u8) 5 w' w.heap.size (fun _ => True) v0_ r ∧ Below w.heap.size w w' := by
 have hu73 := Tryd.underlying73
 have hu83 := Tryd.underlying83
 have hu94 := Tryd.underlying94
 have hu106 := Tryd.underlying106
 have hu76 := Tryd.underlying76
 have HR0_2 := Aside0.mk hr0_2
 have HC0_2 := Aside0.mk hc0_2
 clear hr0_2 hc0_2
 have HB := Aside0.mk (Below.refl w.heap.size w)
 have H : ((strandlineref01_Put.f k (IntKind.u64.wrap ((l0_2.length : Int))) 2).bind fun t129 => (if t129.length < 140737488355328 then ((some (t129 ++ [(a0_0) % 256] : List Int)).bind fun y132 => ((strandlineref01_Put.f k (IntKind.u64.wrap (a0_1)) 4).bind fun t135 => (if y132.length + t135.length < 140737488355328 then ((some (y132 ++ t135 : List Int)).bind fun y138 => (if y138.length + l0_2.length < 140737488355328 then ((some (y138 ++ l0_2 : List Int)).bind fun y141 => ((strandlineref03_Of.f k y141).bind fun t144 => ((strandlineref03_Mask.f t144).bind fun t145 => ((strandlineref01_Put.f k (IntKind.u64.wrap (t145)) 4).bind fun t146 => (if t146.length + y141.length < 140737488355328 then (some (t146 ++ y141)) else (none)))))) else (none))) else (none)))) else (none))) = some r := h
 clear h
 replace H := Option.bind_eq_some_iff.mp H
 obtain ⟨t129,A20,H⟩ := H
 replace H : (if t129.length < 140737488355328 then ((some (t129 ++ [(a0_0) % 256] : List Int)).bind fun y132 => ((strandlineref01_Put.f k (IntKind.u64.wrap (a0_1)) 4).bind fun t135 => (if y132.length + t135.length < 140737488355328 then ((some (y132 ++ t135 : List Int)).bind fun y138 => (if y138.length + l0_2.length < 140737488355328 then ((some (y138 ++ l0_2 : List Int)).bind fun y141 => ((strandlineref03_Of.f k y141).bind fun t144 => ((strandlineref03_Mask.f t144).bind fun t145 => ((strandlineref01_Put.f k (IntKind.u64.wrap (t145)) 4).bind fun t146 => (if t146.length + y141.length < 140737488355328 then (some (t146 ++ y141)) else (none)))))) else (none))) else (none)))) else (none)) = some r := H
 have A2 := Aside0.mk A20
 clear A20
 by_cases c3 : t129.length < 140737488355328
 ·rw [if_pos c3] at H
  have LMc3 := Aside0.mk c3
  clear c3
  obtain ⟨y132,hy132⟩ : ∃ y_ : List Int,y_ = (t129 ++ [(a0_0) % 256]) := ⟨_,rfl⟩
  replace H : ((strandlineref01_Put.f k (IntKind.u64.wrap (a0_1)) 4).bind fun t135 => (if y132.length + t135.length < 140737488355328 then ((some (y132 ++ t135 : List Int)).bind fun y138 => (if y138.length + l0_2.length < 140737488355328 then ((some (y138 ++ l0_2 : List Int)).bind fun y141 => ((strandlineref03_Of.f k y141).bind fun t144 => ((strandlineref03_Mask.f t144).bind fun t145 => ((strandlineref01_Put.f k (IntKind.u64.wrap (t145)) 4).bind fun t146 => (if t146.length + y141.length < 140737488355328 then (some (t146 ++ y141)) else (none)))))) else (none))) else (none))) = some r := by first|(rw [hy132];with_reducible exact H)|(have H2_ := (Option.bind_some _ _).symm.trans H;rw [hy132];with_reducible exact H2_)|(have H2_ := (Option.bind_some _ _).symm.trans H;with_reducible exact H2_)|with_reducible exact H|(rw [hy132];exact H)|exact H
  have Ny132 := Aside0.mk hy132
  clear hy132
  replace H := Option.bind_eq_some_iff.mp H
  obtain ⟨t135,A40,H⟩ := H
  replace H : (if y132.length + t135.length < 140737488355328 then ((some (y132 ++ t135 : List Int)).bind fun y138 => (if y138.length + l0_2.length < 140737488355328 then ((some (y138 ++ l0_2 : List Int)).bind fun y141 => ((strandlineref03_Of.f k y141).bind fun t144 => ((strandlineref03_Mask.f t144).bind fun t145 => ((strandlineref01_Put.f k (IntKind.u64.wrap (t145)) 4).bind fun t146 => (if t146.length + y141.length < 140737488355328 then (some (t146 ++ y141)) else (none)))))) else (none))) else (none)) = some r := H
  have A4 := Aside0.mk A40
  clear A40
  by_cases c5 : y132.length + t135.length < 140737488355328
  ·rw [if_pos c5] at H
   have LMc5 := Aside0.mk c5
   clear c5
   obtain ⟨y138,hy138⟩ : ∃ y_ : List Int,y_ = (y132 ++ t135) := ⟨_,rfl⟩
   replace H : (if y138.length + l0_2.length < 140737488355328 then ((some (y138 ++ l0_2 : List Int)).bind fun y141 => ((strandlineref03_Of.f k y141).bind fun t144 => ((strandlineref03_Mask.f t144).bind fun t145 => ((strandlineref01_Put.f k (IntKind.u64.wrap (t145)) 4).bind fun t146 => (if t146.length + y141.length < 140737488355328 then (some (t146 ++ y141)) else (none)))))) else (none)) = some r := by first|(rw [hy138];with_reducible exact H)|(have H2_ := (Option.bind_some _ _).symm.trans H;rw [hy138];with_reducible exact H2_)|(have H2_ := (Option.bind_some _ _).symm.trans H;with_reducible exact H2_)|with_reducible exact H|(rw [hy138];exact H)|exact H
   have Ny138 := Aside0.mk hy138
   clear hy138
   by_cases c6 : y138.length + l0_2.length < 140737488355328
   ·rw [if_pos c6] at H
    have LMc6 := Aside0.mk c6
    clear c6
    obtain ⟨y141,hy141⟩ : ∃ y_ : List Int,y_ = (y138 ++ l0_2) := ⟨_,rfl⟩
    replace H : ((strandlineref03_Of.f k y141).bind fun t144 => ((strandlineref03_Mask.f t144).bind fun t145 => ((strandlineref01_Put.f k (IntKind.u64.wrap (t145)) 4).bind fun t146 => (if t146.length + y141.length < 140737488355328 then (some (t146 ++ y141)) else (none))))) = some r := by first|(rw [hy141];with_reducible exact H)|(have H2_ := (Option.bind_some _ _).symm.trans H;rw [hy141];with_reducible exact H2_)|(have H2_ := (Option.bind_some _ _).symm.trans H;with_reducible exact H2_)|with_reducible exact H|(rw [hy141];exact H)|exact H
    have Ny141 := Aside0.mk hy141
    clear hy141
    replace H := Option.bind_eq_some_iff.mp H
    obtain ⟨t144,A70,H⟩ := H
    replace H : ((strandlineref03_Mask.f t144).bind fun t145 => ((strandlineref01_Put.f k (IntKind.u64.wrap (t145)) 4).bind fun t146 => (if t146.length + y141.length < 140737488355328 then (some (t146 ++ y141)) else (none)))) = some r := H
    have A7 := Aside0.mk A70
    clear A70
    replace H := Option.bind_eq_some_iff.mp H
    obtain ⟨t145,A80,H⟩ := H
    replace H : ((strandlineref01_Put.f k (IntKind.u64.wrap (t145)) 4).bind fun t146 => (if t146.length + y141.length < 140737488355328 then (some (t146 ++ y141)) else (none))) = some r := H
    have A8 := Aside0.mk A80
    clear A80
    replace H := Option.bind_eq_some_iff.mp H
    obtain ⟨t146,A90,H⟩ := H
    replace H : (if t146.length + y141.length < 140737488355328 then (some (t146 ++ y141)) else (none)) = some r := H
    have A9 := Aside0.mk A90
    clear A90
    by_cases c10 : t146.length + y141.length < 140737488355328
    ·rw [if_pos c10] at H
     have LMc10 := Aside0.mk c10
     clear c10
     obtain ⟨y149,hy149⟩ : ∃ y_ : List Int,y_ = (t146 ++ y141) := ⟨_,rfl⟩
     replace H : (some y149) = some r := by first|(rw [hy149];with_reducible exact H)|(have H2_ := (Option.bind_some _ _).symm.trans H;rw [hy149];with_reducible exact H2_)|(have H2_ := (Option.bind_some _ _).symm.trans H;with_reducible exact H2_)|with_reducible exact H|(rw [hy149];exact H)|exact H
     have Ny149 := Aside0.mk hy149
     clear hy149
     obtain rfl := Option.some.inj H
     go_enter Tryd.func61,Tryd.ntmps61
     go_wp2_with (first|((with_reducible refine gate_dst (N := 1) rfl ?_);refine box_event ?hg (N := 1) ?hd (cs := #[.int .i64 a0_0,.int .u32 a0_1,.slice A0_2 l0_2.length c0_2]) (t := 76) ?hr ?_;(case hd => rfl);(case hg => rfl);(case hr => first|(go_simp;done)|(go_simp;rfl));intro gb128 hg w11 hbox hb;have n0_ := Aside0.mk (below_step (by repeat (first|(with_reducible first|exact HB.out|apply below_alloc|apply pw_below_drewN|apply below_drew1)|exact HB.out)) hb);have n1_ := Aside0.mk (hbox);have n2_ := Aside0.mk ((by rw [hg];exact (below_size (by repeat (first|(with_reducible first|exact HB.out|apply below_alloc|apply pw_below_drewN|apply below_drew1)|exact HB.out))) : w.heap.size ≤ gb128));have n3_ := Aside0.mk ((by rw [hg];exact (below_size (by repeat (first|(with_reducible first|exact HB.out|apply below_alloc|apply pw_below_drewN|apply below_drew1)|exact HB.out))) : w.heap.size ≤ gb128));clear HB;have HB := n0_;have BK128 := n1_;have GW128 := n2_;have GE128 := n3_;clear n0_ n1_ n2_ n3_;clear hb hbox hg;have hcz12_0 : w11.cell? ⟨gb128,0,none⟩ = some (.int .i64 a0_0) := (blk_cell BK128.out 0).trans rfl;have hcz12_1 : w11.cell? ⟨gb128,1,none⟩ = some (.int .u32 a0_1) := (blk_cell BK128.out 1).trans rfl;have hcz12_2 : w11.cell? ⟨gb128,2,none⟩ = some (.slice A0_2 l0_2.length c0_2) := (blk_cell BK128.out 2).trans rfl;have hfz12_0 := blk_frozen BK128.out 0;have hfz12_1 := blk_frozen BK128.out 1;have hfz12_2 := blk_frozen BK128.out 2)|((with_reducible refine gate_callee (f := 76) rfl ?_);refine goesL_ (some 8) rfl rfl Tryd.func76 (by kernel_rfl) rfl #[.int .u64 (IntKind.u64.wrap ((l0_2.length : Int))),.int .i64 2] rfl (by (try simp only [List.map_toArray,List.map_cons,List.map_nil]);first|done|rfl|(simp only [List.length_drop,List.length_take];rfl)) ?_;(with_reducible refine (strandlineref01_Put.calls k (IntKind.u64.wrap ((l0_2.length : Int))) 2 t129 _ A2.out).mono ?_);rintro e w13 ⟨v130,rfl,ho0,hb⟩;refine ⟨_,rfl,?_⟩;have n0_ := Aside0.mk (Kd.R_lower ho0 (below_size (by repeat (first|(with_reducible first|exact HB.out|apply below_alloc|apply pw_below_drewN|apply below_drew1|refine below_set ?_ GE128.out)|exact HB.out))));have n1_ := Aside0.mk (blk_below (g := gb128) (o := .cells #[.int .i64 a0_0,.int .u32 a0_1,.slice A0_2 l0_2.length c0_2] 76 (0,0)) (by (with_reducible repeat (first|refine blk_drewN ?_ _|refine blk_drew ?_|refine blk_alloc ?_ _));exact BK128.out) hb);have n2_ := Aside0.mk (below_step (by repeat (first|(with_reducible first|exact HB.out|apply below_alloc|apply pw_below_drewN|apply below_drew1|refine below_set ?_ GE128.out)|exact HB.out)) hb);clear BK128;clear HB;have HO131 := n0_;have BK128 := n1_;have HB := n2_;clear n0_ n1_ n2_;(try clear hb);(try clear hb2);(try clear hk);(try clear hi);(try clear ho0);have hcz14_0 : w13.cell? ⟨gb128,0,none⟩ = some (.int .i64 a0_0) := (blk_cell BK128.out 0).trans rfl;have hcz14_1 : w13.cell? ⟨gb128,1,none⟩ = some (.int .u32 a0_1) := (blk_cell BK128.out 1).trans rfl;have hcz14_2 : w13.cell? ⟨gb128,2,none⟩ = some (.slice A0_2 l0_2.length c0_2) := (blk_cell BK128.out 2).trans rfl;have hfz14_0 := blk_frozen BK128.out 0;have hfz14_1 := blk_frozen BK128.out 1;have hfz14_2 := blk_frozen BK128.out 2)|((with_reducible refine gate_builtin (b := .append) (xs := #[.tmp 9,.tmp 13]) rfl ?_);at_builtin;refine Kd.R_append (Kd.int .u8) (w0 := w) w.heap.size rfl (.tmp 9) (.tmp 13) 38 5 (.int .u8 0) 1 rfl Tryd.underlying38 info5 rfl (by decide) (by omega) v130 t129 ((a0_0) % 256) [.int .u8 ((a0_0) % 256)] (fun _ => True) (fun _ => False) rfl rfl ?aP (fun _ hk => hk.elim) ?aF ?aO ?aB ?aS ?aL ?_;(case aP => exact rfl);(case aB => exact (by repeat (first|(with_reducible first|exact HB.out|apply below_alloc|apply pw_below_drewN|apply below_drew1|refine below_set ?_ GE128.out)|exact HB.out)));(case aF => exact (fun _ _ => trivial));(case aO => exact (by (with_reducible repeat (first|apply Kd.R_alloc|apply Kd.R_drewN|apply Kd.R_drew));exact HO131.out));(case aS => exact (below_size (by repeat (first|(with_reducible first|exact HB.out|apply below_alloc|apply pw_below_drewN|apply below_drew1|refine below_set ?_ GE128.out)|exact HB.out))));(case aL => have := LMc3.out;omega);intro v133 w15 ho hb hg hat;rw [← Ny132.out] at ho;have n0_ := Aside0.mk (blk_grown (g := gb128) (o := .cells #[.int .i64 a0_0,.int .u32 a0_1,.slice A0_2 l0_2.length c0_2] 76 (0,0)) (by (with_reducible repeat (first|refine blk_drewN ?_ _|refine blk_drew ?_|refine blk_alloc ?_ _));exact BK128.out) hg (Kd.R_ne HO131.out BK128.out (by decide)));have n1_ := Aside0.mk (hb);have n2_ := Aside0.mk (ho);clear BK128;clear HB;clear HO131;have BK128 := n0_;have HB := n1_;have HO134 := n2_;clear n0_ n1_ n2_;clear ho hb hg hat;have hcz16_0 : w15.cell? ⟨gb128,0,none⟩ = some (.int .i64 a0_0) := (blk_cell BK128.out 0).trans rfl;have hcz16_1 : w15.cell? ⟨gb128,1,none⟩ = some (.int .u32 a0_1) := (blk_cell BK128.out 1).trans rfl;have hcz16_2 : w15.cell? ⟨gb128,2,none⟩ = some (.slice A0_2 l0_2.length c0_2) := (blk_cell BK128.out 2).trans rfl;have hfz16_0 := blk_frozen BK128.out 0;have hfz16_1 := blk_frozen BK128.out 1;have hfz16_2 := blk_frozen BK128.out 2)|((with_reducible refine gate_callee (f := 76) rfl ?_);refine goesL_ (some 19) rfl rfl Tryd.func76 (by kernel_rfl) rfl #[.int .u64 (IntKind.u64.wrap (a0_1)),.int .i64 4] rfl (by (try simp only [List.map_toArray,List.map_cons,List.map_nil]);first|done|rfl|(simp only [List.length_drop,List.length_take];rfl)) ?_;(with_reducible refine (strandlineref01_Put.calls k (IntKind.u64.wrap (a0_1)) 4 t135 _ A4.out).mono ?_);rintro e w17 ⟨v136,rfl,ho0,hb⟩;refine ⟨_,rfl,?_⟩;have n0_ := Aside0.mk (Kd.R_elder' (by (with_reducible repeat (first|apply Kd.R_alloc|apply Kd.R_drewN|apply Kd.R_drew));exact HO134.out) (Kd.R_base ho0) hb);have n1_ := Aside0.mk (Kd.R_lower (Kd.R_new' ho0 (Kd.R_lt (by (with_reducible repeat (first|apply Kd.R_alloc|apply Kd.R_drewN|apply Kd.R_drew));exact HO134.out))) (below_size (by repeat (first|(with_reducible first|exact HB.out|apply below_alloc|apply pw_below_drewN|apply below_drew1|refine below_set ?_ GE128.out)|exact HB.out))));have n2_ := Aside0.mk (blk_below (g := gb128) (o := .cells #[.int .i64 a0_0,.int .u32 a0_1,.slice A0_2 l0_2.length c0_2] 76 (0,0)) (by (with_reducible repeat (first|refine blk_drewN ?_ _|refine blk_drew ?_|refine blk_alloc ?_ _));exact BK128.out) hb);have n3_ := Aside0.mk (below_step (by repeat (first|(with_reducible first|exact HB.out|apply below_alloc|apply pw_below_drewN|apply below_drew1|refine below_set ?_ GE128.out)|exact HB.out)) hb);clear HO134;clear BK128;clear HB;have HO134 := n0_;have HO137 := n1_;have BK128 := n2_;have HB := n3_;clear n0_ n1_ n2_ n3_;(try clear hb);(try clear hb2);(try clear hk);(try clear hi);(try clear ho0);obtain ⟨Ao19,co19,eo19⟩ := Kd.R_slice HO137.out;subst eo19)|((with_reducible refine gate_builtin (b := .append) (xs := #[.tmp 15,.tmp 19]) rfl ?_);at_builtin;refine Kd.R_append_rows (Kd.int .u8) (w0 := w) w.heap.size rfl (.tmp 15) (.tmp 19) 38 5 (.int .u8 0) 1 rfl Tryd.underlying38 info5 rfl (by decide) (by omega) v133 y132 t135 _ _ _ (fun k_ => some k_ ≠ (.slice Ao19 t135.length co19 : Value).ownBlock) (fun _ => False) rfl rfl ?aO ?aR (fun _ _ h => h) (fun _ h => h.elim) ?aF ?aB ?aS ?aL ?_;(case aR => repeat (first|exact (Kd.R_reads' HO137.out).2.2|(with_reducible refine Kd.C_alloc ?_ _)|(with_reducible refine Kd.C_drewN ?_ _)|(with_reducible refine Kd.C_drew ?_)));(case aB => exact (by repeat (first|(with_reducible first|exact HB.out|apply below_alloc|apply pw_below_drewN|apply below_drew1|refine below_set ?_ GE128.out)|exact HB.out)));(case aF => exact (fun k_ hk => Kd.fresh' (Kd.R_lt (by (with_reducible repeat (first|apply Kd.R_alloc|apply Kd.R_drewN|apply Kd.R_drew));exact HO137.out)) k_ hk));(case aO => exact (by (with_reducible repeat (first|apply Kd.R_alloc|apply Kd.R_drewN|apply Kd.R_drew));exact Kd.R_mono HO134.out (fun _ hk => hk.2)));(case aS => exact (below_size (by repeat (first|(with_reducible first|exact HB.out|apply below_alloc|apply pw_below_drewN|apply below_drew1|refine below_set ?_ GE128.out)|exact HB.out))));(case aL => have := LMc5.out;omega);intro v139 w18 ho hb hg hat;rw [← Ny138.out] at ho;have n0_ := Aside0.mk (blk_grown (g := gb128) (o := .cells #[.int .i64 a0_0,.int .u32 a0_1,.slice A0_2 l0_2.length c0_2] 76 (0,0)) (by (with_reducible repeat (first|refine blk_drewN ?_ _|refine blk_drew ?_|refine blk_alloc ?_ _));exact BK128.out) hg (Kd.R_ne HO134.out BK128.out (by decide)));have n1_ := Aside0.mk (Kd.R_after (ok := (fun _ => True)) (by (with_reducible repeat (first|apply Kd.R_alloc|apply Kd.R_drewN|apply Kd.R_drew));exact HO137.out) hg hat);have n2_ := Aside0.mk (hb);have n3_ := Aside0.mk (ho);clear BK128;clear HO137;clear HB;clear HO134;have BK128 := n0_;have HO137 := n1_;have HB := n2_;have HO140 := n3_;clear n0_ n1_ n2_ n3_;clear ho hb hg hat;have hcz20_0 : w18.cell? ⟨gb128,0,none⟩ = some (.int .i64 a0_0) := (blk_cell BK128.out 0).trans rfl;have hcz20_1 : w18.cell? ⟨gb128,1,none⟩ = some (.int .u32 a0_1) := (blk_cell BK128.out 1).trans rfl;have hcz20_2 : w18.cell? ⟨gb128,2,none⟩ = some (.slice A0_2 l0_2.length c0_2) := (blk_cell BK128.out 2).trans rfl;have hfz20_0 := blk_frozen BK128.out 0;have hfz20_1 := blk_frozen BK128.out 1;have hfz20_2 := blk_frozen BK128.out 2)|((with_reducible refine gate_builtin (b := .append) (xs := #[.tmp 21,.tmp 23]) rfl ?_);at_builtin;refine Kd.R_append_rows (Kd.int .u8) (w0 := w) w.heap.size rfl (.tmp 21) (.tmp 23) 38 5 (.int .u8 0) 1 rfl Tryd.underlying38 info5 rfl (by decide) (by omega) v139 y138 l0_2 _ _ _ (fun k_ => some k_ ≠ (.slice Ao19 t135.length co19 : Value).ownBlock) (fun _ => False) rfl rfl ?aO ?aR (fun _ _ h => h) (fun _ h => h.elim) ?aF ?aB ?aS ?aL ?_;(case aR => repeat (first|exact (Kd.C_below HR0_2.out HB.out)|(with_reducible refine Kd.C_alloc ?_ _)|(with_reducible refine Kd.C_drewN ?_ _)|(with_reducible refine Kd.C_drew ?_)));(case aB => exact (by repeat (first|(with_reducible first|exact HB.out|apply below_alloc|apply pw_below_drewN|apply below_drew1|refine below_set ?_ GE128.out)|exact HB.out)));(case aF => exact (fun k_ hk => Kd.fresh' (Kd.R_lt (by (with_reducible repeat (first|apply Kd.R_alloc|apply Kd.R_drewN|apply Kd.R_drew));exact HO137.out)) k_ hk));(case aO => exact (by (with_reducible repeat (first|apply Kd.R_alloc|apply Kd.R_drewN|apply Kd.R_drew));exact HO140.out));(case aS => exact (below_size (by repeat (first|(with_reducible first|exact HB.out|apply below_alloc|apply pw_below_drewN|apply below_drew1|refine below_set ?_ GE128.out)|exact HB.out))));(case aL => have := LMc6.out;omega);intro v142 w21 ho hb hg hat;rw [← Ny141.out] at ho;have n0_ := Aside0.mk (blk_grown (g := gb128) (o := .cells #[.int .i64 a0_0,.int .u32 a0_1,.slice A0_2 l0_2.length c0_2] 76 (0,0)) (by (with_reducible repeat (first|refine blk_drewN ?_ _|refine blk_drew ?_|refine blk_alloc ?_ _));exact BK128.out) hg (Kd.R_ne HO140.out BK128.out (by decide)));have n1_ := Aside0.mk (Kd.R_after (ok := (fun _ => True)) (by (with_reducible repeat (first|apply Kd.R_alloc|apply Kd.R_drewN|apply Kd.R_drew));exact HO137.out) hg hat);have n2_ := Aside0.mk (hb);have n3_ := Aside0.mk (ho);clear BK128;clear HO137;clear HB;clear HO140;have BK128 := n0_;have HO137 := n1_;have HB := n2_;have HO143 := n3_;clear n0_ n1_ n2_ n3_;clear ho hb hg hat;obtain ⟨Ao22,co22,eo22⟩ := Kd.R_slice HO143.out;subst eo22)|((with_reducible refine gate_callee (f := 78) rfl ?_);refine goesL_ (some 26) rfl rfl Tryd.func78 (by kernel_rfl) rfl #[.slice Ao22 y141.length co22] rfl (by (try simp only [List.map_toArray,List.map_cons,List.map_nil]);first|done|rfl|(simp only [List.length_drop,List.length_take];rfl)) ?_;(with_reducible refine (strandlineref03_Of.calls k _ _ y141 t144 _ ?side1 ?side2 A7.out).mono ?_);(case side1 => repeat (first|exact (Kd.R_reads' HO143.out).2.2|(with_reducible refine Kd.C_alloc ?_ _)|(with_reducible refine Kd.C_drewN ?_ _)|(with_reducible refine Kd.C_drew ?_)));(case side2 => exact (Kd.R_reads' HO143.out).2.1);rintro e w' ⟨rfl,⟨nd,rfl⟩⟩;refine ⟨_,rfl,?_⟩)|((with_reducible refine gate_callee (f := 77) rfl ?_);refine goesL_ (some 27) rfl rfl Tryd.func77 (by kernel_rfl) rfl #[.int .u32 t144] rfl (by (try simp only [List.map_toArray,List.map_cons,List.map_nil]);first|done|rfl|(simp only [List.length_drop,List.length_take];rfl)) ?_;(with_reducible refine (strandlineref03_Mask.calls t144 t145 _ A8.out).mono ?_);rintro e w' ⟨rfl,⟨nd,rfl⟩⟩;refine ⟨_,rfl,?_⟩)|((with_reducible refine gate_callee (f := 76) rfl ?_);refine goesL_ (some 29) rfl rfl Tryd.func76 (by kernel_rfl) rfl #[.int .u64 (IntKind.u64.wrap (t145)),.int .i64 4] rfl (by (try simp only [List.map_toArray,List.map_cons,List.map_nil]);first|done|rfl|(simp only [List.length_drop,List.length_take];rfl)) ?_;(with_reducible refine (strandlineref01_Put.calls k (IntKind.u64.wrap (t145)) 4 t146 _ A9.out).mono ?_);rintro e w23 ⟨v147,rfl,ho0,hb⟩;refine ⟨_,rfl,?_⟩;have n0_ := Aside0.mk (Kd.R_elder' (by (with_reducible repeat (first|apply Kd.R_alloc|apply Kd.R_drewN|apply Kd.R_drew));exact HO137.out) (Kd.R_base ho0) hb);have n1_ := Aside0.mk (Kd.R_elder' (by (with_reducible repeat (first|apply Kd.R_alloc|apply Kd.R_drewN|apply Kd.R_drew));exact HO143.out) (Kd.R_base ho0) hb);have n2_ := Aside0.mk (Kd.R_lower (Kd.R_new' (Kd.R_new' ho0 (Kd.R_lt (by (with_reducible repeat (first|apply Kd.R_alloc|apply Kd.R_drewN|apply Kd.R_drew));exact HO137.out))) (Kd.R_lt (by (with_reducible repeat (first|apply Kd.R_alloc|apply Kd.R_drewN|apply Kd.R_drew));exact HO143.out))) (below_size (by repeat (first|(with_reducible first|exact HB.out|apply below_alloc|apply pw_below_drewN|apply below_drew1|refine below_set ?_ GE128.out)|exact HB.out))));have n3_ := Aside0.mk (blk_below (g := gb128) (o := .cells #[.int .i64 a0_0,.int .u32 a0_1,.slice A0_2 l0_2.length c0_2] 76 (0,0)) (by (with_reducible repeat (first|refine blk_drewN ?_ _|refine blk_drew ?_|refine blk_alloc ?_ _));exact BK128.out) hb);have n4_ := Aside0.mk (below_step (by repeat (first|(with_reducible first|exact HB.out|apply below_alloc|apply pw_below_drewN|apply below_drew1|refine below_set ?_ GE128.out)|exact HB.out)) hb);clear HO137;clear HO143;clear BK128;clear HB;have HO137 := n0_;have HO143 := n1_;have HO148 := n2_;have BK128 := n3_;have HB := n4_;clear n0_ n1_ n2_ n3_ n4_;(try clear hb);(try clear hb2);(try clear hk);(try clear hi);(try clear ho0))|((with_reducible refine gate_builtin (b := .append) (xs := #[.tmp 29,.tmp 30]) rfl ?_);at_builtin;refine Kd.R_append_rows (Kd.int .u8) (w0 := w) w.heap.size rfl (.tmp 29) (.tmp 30) 38 5 (.int .u8 0) 1 rfl Tryd.underlying38 info5 rfl (by decide) (by omega) v147 t146 y141 _ _ _ (fun k_ => some k_ ≠ (.slice Ao19 t135.length co19 : Value).ownBlock ∧ some k_ ≠ (.slice Ao22 y141.length co22 : Value).ownBlock) (fun _ => False) rfl rfl ?aO ?aR (fun _ _ h => h) (fun _ h => h.elim) ?aF ?aB ?aS ?aL ?_;(case aR => repeat (first|exact (Kd.R_reads' HO143.out).2.2|(with_reducible refine Kd.C_alloc ?_ _)|(with_reducible refine Kd.C_drewN ?_ _)|(with_reducible refine Kd.C_drew ?_)));(case aB => exact (by repeat (first|(with_reducible first|exact HB.out|apply below_alloc|apply pw_below_drewN|apply below_drew1|refine below_set ?_ GE128.out)|exact HB.out)));(case aF => exact (fun k_ hk => ⟨Kd.fresh' (Kd.R_lt (by (with_reducible repeat (first|apply Kd.R_alloc|apply Kd.R_drewN|apply Kd.R_drew));exact HO137.out)) k_ hk,Kd.fresh' (Kd.R_lt (by (with_reducible repeat (first|apply Kd.R_alloc|apply Kd.R_drewN|apply Kd.R_drew));exact HO143.out)) k_ hk⟩));(case aO => exact (by (with_reducible repeat (first|apply Kd.R_alloc|apply Kd.R_drewN|apply Kd.R_drew));exact Kd.R_mono HO148.out (fun _ hk => ⟨hk.1.2,hk.2⟩)));(case aS => exact (below_size (by repeat (first|(with_reducible first|exact HB.out|apply below_alloc|apply pw_below_drewN|apply below_drew1|refine below_set ?_ GE128.out)|exact HB.out))));(case aL => have := LMc10.out;omega);intro v150 w24 ho hb hg hat;rw [← Ny149.out] at ho;have n0_ := Aside0.mk (blk_grown (g := gb128) (o := .cells #[.int .i64 a0_0,.int .u32 a0_1,.slice A0_2 l0_2.length c0_2] 76 (0,0)) (by (with_reducible repeat (first|refine blk_drewN ?_ _|refine blk_drew ?_|refine blk_alloc ?_ _));exact BK128.out) hg (Kd.R_ne HO148.out BK128.out (by decide)));have n1_ := Aside0.mk (Kd.R_after (ok := (fun k_ => some k_ ≠ (.slice Ao22 y141.length co22 : Value).ownBlock)) (by (with_reducible repeat (first|apply Kd.R_alloc|apply Kd.R_drewN|apply Kd.R_drew));exact Kd.R_mono HO137.out (fun _ hk => ⟨hk.1.2,hk.2⟩)) hg hat);have n2_ := Aside0.mk (Kd.R_after (ok := (fun k_ => some k_ ≠ (.slice Ao19 t135.length co19 : Value).ownBlock)) (by (with_reducible repeat (first|apply Kd.R_alloc|apply Kd.R_drewN|apply Kd.R_drew));exact HO143.out) hg hat);have n3_ := Aside0.mk (hb);have n4_ := Aside0.mk (ho);clear BK128;clear HO137;clear HO143;clear HB;clear HO148;have BK128 := n0_;have HO137 := n1_;have HO143 := n2_;have HB := n3_;have HO151 := n4_;clear n0_ n1_ n2_ n3_ n4_;clear ho hb hg hat))
     go_ret
     exact ⟨_,by first|rfl|(simp [errW_none,errW_some] <;> rfl)|(simp [*,errW_none,errW_some] <;> rfl),by (with_reducible repeat (first|apply Kd.R_alloc|apply Kd.R_drewN|apply Kd.R_drew));exact Kd.R_mono HO151.out (fun _ hk => trivial),by repeat (first|(with_reducible first|exact HB.out|apply below_alloc|apply pw_below_drewN|apply below_drew1|refine below_set ?_ GE128.out)|exact HB.out)⟩
    ·rw [if_neg c10] at H
     exact absurd H (by simp)
   ·rw [if_neg c6] at H
    exact absurd H (by simp)
  ·rw [if_neg c5] at H
   exact absurd H (by simp)
 ·rw [if_neg c3] at H
  exact absurd H (by simp)
/-! ### strandlineref13_Same: function 40 -/
def strandlineref13_Same.f (a0_0 : Int) (a0_1 : Int) (l0_2 : List Int) (a1_0 : Int) (a1_1 : Int) (l1_2 : List Int) : Option (Bool) := if a0_0 = a1_0 then (if a0_1 = a1_1 then (some ((strOfNums l0_2).toList == (strOfNums l1_2).toList)) else (some false)) else (some false)
set_option maxHeartbeats 8000000 in
set_option maxRecDepth 100000 in
theorem strandlineref13_Same.calls (a0_0 : Int) (a0_1 : Int) (A0_2 : Option Addr) (c0_2 : Nat) (l0_2 : List Int) (a1_0 : Int) (a1_1 : Int) (A1_2 : Option Addr) (c1_2 : Nat) (l1_2 : List Int) (r : Bool) (w : World) (hr0_2 : Kd.C (Kd.int .u8) w A0_2 l0_2.length l0_2) (hc0_2 : l0_2.length ≤ c0_2) (hr1_2 : Kd.C (Kd.int .u8) w A1_2 l1_2.length l1_2) (hc1_2 : l1_2.length ≤ c1_2) (h : strandlineref13_Same.f a0_0 a0_1 l0_2 a1_0 a1_1 l1_2 = some r) :
  Calls Tryd.prog 40 #[.agg #[.int .i64 a0_0,.int .u32 a0_1,.slice A0_2 l0_2.length c0_2],.agg #[.int .i64 a1_0,.int .u32 a1_1,.slice A1_2 l1_2.length c1_2]] w fun e w' => e = .returned (.bool r) ∧ Below w.heap.size w w' := by
 have hu73 := Tryd.underlying73
 have hu83 := Tryd.underlying83
 have hu94 := Tryd.underlying94
 have hu106 := Tryd.underlying106
 have hu76 := Tryd.underlying76
 have HR0_2 := Aside0.mk hr0_2
 have HC0_2 := Aside0.mk hc0_2
 clear hr0_2 hc0_2
 have HR1_2 := Aside0.mk hr1_2
 have HC1_2 := Aside0.mk hc1_2
 clear hr1_2 hc1_2
 have HB := Aside0.mk (Below.refl w.heap.size w)
 have H : (if a0_0 = a1_0 then (if a0_1 = a1_1 then (some ((strOfNums l0_2).toList == (strOfNums l1_2).toList)) else (some false)) else (some false)) = some r := h
 clear h
 by_cases c3 : a0_0 = a1_0
 ·rw [if_pos c3] at H
  have c3b0 : (a0_0 == a1_0) = true := beq_iff_eq.mpr c3
  have c3b1 : (a0_0 != a1_0) = false := bne_eq_false_iff_eq.mpr c3
  clear c3
  by_cases c4 : a0_1 = a1_1
  ·rw [if_pos c4] at H
   have c4b0 : (a0_1 == a1_1) = true := beq_iff_eq.mpr c4
   have c4b1 : (a0_1 != a1_1) = false := bne_eq_false_iff_eq.mpr c4
   clear c4
   obtain rfl := Option.some.inj H
   go_enter Tryd.func40,Tryd.ntmps40
   go_wp2_with (first|((with_reducible refine gate_dst (N := 2) rfl ?_);refine box_event ?hg (N := 2) ?hd (cs := #[.int .i64 a0_0,.int .u32 a0_1,.slice A0_2 l0_2.length c0_2]) (t := 76) ?hr ?_;(case hd => rfl);(case hg => rfl);(case hr => first|(go_simp;done)|(go_simp;rfl));intro gb254 hg w5 hbox hb;have n0_ := Aside0.mk (below_step (by repeat (first|(with_reducible first|exact HB.out|apply below_alloc|apply pw_below_drewN|apply below_drew1)|exact HB.out)) hb);have n1_ := Aside0.mk (hbox);have n2_ := Aside0.mk ((by rw [hg];exact (below_size (by repeat (first|(with_reducible first|exact HB.out|apply below_alloc|apply pw_below_drewN|apply below_drew1)|exact HB.out))) : w.heap.size ≤ gb254));have n3_ := Aside0.mk ((by rw [hg];exact (below_size (by repeat (first|(with_reducible first|exact HB.out|apply below_alloc|apply pw_below_drewN|apply below_drew1)|exact HB.out))) : w.heap.size ≤ gb254));clear HB;have HB := n0_;have BK254 := n1_;have GW254 := n2_;have GE254 := n3_;clear n0_ n1_ n2_ n3_;clear hb hbox hg)|((with_reducible refine gate_dst (N := 3) rfl ?_);refine box_event ?hg (N := 3) ?hd (cs := #[.int .i64 a1_0,.int .u32 a1_1,.slice A1_2 l1_2.length c1_2]) (t := 76) ?hr ?_;(case hd => rfl);(case hg => rfl);(case hr => first|(go_simp;done)|(go_simp;rfl));intro gb255 hg w6 hbox hb;have n0_ := Aside0.mk (blk_below (g := gb254) (o := .cells #[.int .i64 a0_0,.int .u32 a0_1,.slice A0_2 l0_2.length c0_2] 76 (0,0)) (by (with_reducible repeat (first|refine blk_drewN ?_ _|refine blk_drew ?_|refine blk_alloc ?_ _));exact BK254.out) hb);have n1_ := Aside0.mk (below_step (by repeat (first|(with_reducible first|exact HB.out|apply below_alloc|apply pw_below_drewN|apply below_drew1|refine below_set ?_ GE254.out)|exact HB.out)) hb);have n2_ := Aside0.mk (hbox);have n3_ := Aside0.mk ((by rw [hg];exact (below_size (by repeat (first|(with_reducible first|exact HB.out|apply below_alloc|apply pw_below_drewN|apply below_drew1|refine below_set ?_ GE254.out)|exact HB.out))) : w.heap.size ≤ gb255));have n4_ := Aside0.mk ((by rw [hg];exact (below_size (by repeat (first|(with_reducible first|exact HB.out|apply below_alloc|apply pw_below_drewN|apply below_drew1|refine below_set ?_ GE254.out)|exact HB.out))) : w.heap.size ≤ gb255));have n5_ := Aside0.mk ((by rw [hg];exact Nat.ne_of_lt (blk_lt (g := gb254) (o := .cells #[.int .i64 a0_0,.int .u32 a0_1,.slice A0_2 l0_2.length c0_2] 76 (0,0)) (by (with_reducible repeat (first|refine blk_drewN ?_ _|refine blk_drew ?_|refine blk_alloc ?_ _));exact BK254.out)) : gb254 ≠ gb255));have n6_ := Aside0.mk ((by rw [hg];exact Nat.ne_of_gt (blk_lt (g := gb254) (o := .cells #[.int .i64 a0_0,.int .u32 a0_1,.slice A0_2 l0_2.length c0_2] 76 (0,0)) (by (with_reducible repeat (first|refine blk_drewN ?_ _|refine blk_drew ?_|refine blk_alloc ?_ _));exact BK254.out)) : gb255 ≠ gb254));clear BK254;clear HB;have BK254 := n0_;have HB := n1_;have BK255 := n2_;have GW255 := n3_;have GE255 := n4_;have NB254_255 := n5_;have NB255_254 := n6_;clear n0_ n1_ n2_ n3_ n4_ n5_ n6_;clear hb hbox hg;have hnb7 := NB254_255.out;have hnc7 := NB255_254.out;have hcz8_0 : w6.cell? ⟨gb254,0,none⟩ = some (.int .i64 a0_0) := (blk_cell BK254.out 0).trans rfl;have hcz8_1 : w6.cell? ⟨gb254,1,none⟩ = some (.int .u32 a0_1) := (blk_cell BK254.out 1).trans rfl;have hcz8_2 : w6.cell? ⟨gb254,2,none⟩ = some (.slice A0_2 l0_2.length c0_2) := (blk_cell BK254.out 2).trans rfl;have hfz8_0 := blk_frozen BK254.out 0;have hfz8_1 := blk_frozen BK254.out 1;have hfz8_2 := blk_frozen BK254.out 2;have hcz9_0 : w6.cell? ⟨gb255,0,none⟩ = some (.int .i64 a1_0) := (blk_cell BK255.out 0).trans rfl;have hcz9_1 : w6.cell? ⟨gb255,1,none⟩ = some (.int .u32 a1_1) := (blk_cell BK255.out 1).trans rfl;have hcz9_2 : w6.cell? ⟨gb255,2,none⟩ = some (.slice A1_2 l1_2.length c1_2) := (blk_cell BK255.out 2).trans rfl;have hfz9_0 := blk_frozen BK255.out 0;have hfz9_1 := blk_frozen BK255.out 1;have hfz9_2 := blk_frozen BK255.out 2;have hcv10 := Kd.C_string (P := Tryd.prog) (A := A0_2) (c := c0_2) Tryd.underlying38 Tryd.underlying5 Tryd.underlying9 (Kd.C_below HR0_2.out HB.out);have hcv11 := Kd.C_string (P := Tryd.prog) (A := A1_2) (c := c1_2) Tryd.underlying38 Tryd.underlying5 Tryd.underlying9 (Kd.C_below HR1_2.out HB.out)))
   go_ret
   exact ⟨by first|rfl|(simp [errW_none,errW_some] <;> rfl)|(simp [*,errW_none,errW_some] <;> rfl),by repeat (first|(with_reducible first|exact HB.out|apply below_alloc|apply pw_below_drewN|apply below_drew1|refine below_set ?_ GE254.out|refine below_set ?_ GE255.out)|exact HB.out)⟩
  ·rw [if_neg c4] at H
   have c4b0 : (a0_1 == a1_1) = false := beq_eq_false_iff_ne.mpr c4
   have c4b1 : (a0_1 != a1_1) = true := bne_iff_ne.mpr c4
   obtain rfl := Option.some.inj H
   go_enter Tryd.func40,Tryd.ntmps40
   go_wp2_with (first|((with_reducible refine gate_dst (N := 2) rfl ?_);refine box_event ?hg (N := 2) ?hd (cs := #[.int .i64 a0_0,.int .u32 a0_1,.slice A0_2 l0_2.length c0_2]) (t := 76) ?hr ?_;(case hd => rfl);(case hg => rfl);(case hr => first|(go_simp;done)|(go_simp;rfl));intro gb254 hg w12 hbox hb;have n0_ := Aside0.mk (below_step (by repeat (first|(with_reducible first|exact HB.out|apply below_alloc|apply pw_below_drewN|apply below_drew1)|exact HB.out)) hb);have n1_ := Aside0.mk (hbox);have n2_ := Aside0.mk ((by rw [hg];exact (below_size (by repeat (first|(with_reducible first|exact HB.out|apply below_alloc|apply pw_below_drewN|apply below_drew1)|exact HB.out))) : w.heap.size ≤ gb254));have n3_ := Aside0.mk ((by rw [hg];exact (below_size (by repeat (first|(with_reducible first|exact HB.out|apply below_alloc|apply pw_below_drewN|apply below_drew1)|exact HB.out))) : w.heap.size ≤ gb254));clear HB;have HB := n0_;have BK254 := n1_;have GW254 := n2_;have GE254 := n3_;clear n0_ n1_ n2_ n3_;clear hb hbox hg)|((with_reducible refine gate_dst (N := 3) rfl ?_);refine box_event ?hg (N := 3) ?hd (cs := #[.int .i64 a1_0,.int .u32 a1_1,.slice A1_2 l1_2.length c1_2]) (t := 76) ?hr ?_;(case hd => rfl);(case hg => rfl);(case hr => first|(go_simp;done)|(go_simp;rfl));intro gb255 hg w13 hbox hb;have n0_ := Aside0.mk (blk_below (g := gb254) (o := .cells #[.int .i64 a0_0,.int .u32 a0_1,.slice A0_2 l0_2.length c0_2] 76 (0,0)) (by (with_reducible repeat (first|refine blk_drewN ?_ _|refine blk_drew ?_|refine blk_alloc ?_ _));exact BK254.out) hb);have n1_ := Aside0.mk (below_step (by repeat (first|(with_reducible first|exact HB.out|apply below_alloc|apply pw_below_drewN|apply below_drew1|refine below_set ?_ GE254.out)|exact HB.out)) hb);have n2_ := Aside0.mk (hbox);have n3_ := Aside0.mk ((by rw [hg];exact (below_size (by repeat (first|(with_reducible first|exact HB.out|apply below_alloc|apply pw_below_drewN|apply below_drew1|refine below_set ?_ GE254.out)|exact HB.out))) : w.heap.size ≤ gb255));have n4_ := Aside0.mk ((by rw [hg];exact (below_size (by repeat (first|(with_reducible first|exact HB.out|apply below_alloc|apply pw_below_drewN|apply below_drew1|refine below_set ?_ GE254.out)|exact HB.out))) : w.heap.size ≤ gb255));have n5_ := Aside0.mk ((by rw [hg];exact Nat.ne_of_lt (blk_lt (g := gb254) (o := .cells #[.int .i64 a0_0,.int .u32 a0_1,.slice A0_2 l0_2.length c0_2] 76 (0,0)) (by (with_reducible repeat (first|refine blk_drewN ?_ _|refine blk_drew ?_|refine blk_alloc ?_ _));exact BK254.out)) : gb254 ≠ gb255));have n6_ := Aside0.mk ((by rw [hg];exact Nat.ne_of_gt (blk_lt (g := gb254) (o := .cells #[.int .i64 a0_0,.int .u32 a0_1,.slice A0_2 l0_2.length c0_2] 76 (0,0)) (by (with_reducible repeat (first|refine blk_drewN ?_ _|refine blk_drew ?_|refine blk_alloc ?_ _));exact BK254.out)) : gb255 ≠ gb254));clear BK254;clear HB;have BK254 := n0_;have HB := n1_;have BK255 := n2_;have GW255 := n3_;have GE255 := n4_;have NB254_255 := n5_;have NB255_254 := n6_;clear n0_ n1_ n2_ n3_ n4_ n5_ n6_;clear hb hbox hg;have hnb14 := NB254_255.out;have hnc14 := NB255_254.out;have hcz15_0 : w13.cell? ⟨gb254,0,none⟩ = some (.int .i64 a0_0) := (blk_cell BK254.out 0).trans rfl;have hcz15_1 : w13.cell? ⟨gb254,1,none⟩ = some (.int .u32 a0_1) := (blk_cell BK254.out 1).trans rfl;have hcz15_2 : w13.cell? ⟨gb254,2,none⟩ = some (.slice A0_2 l0_2.length c0_2) := (blk_cell BK254.out 2).trans rfl;have hfz15_0 := blk_frozen BK254.out 0;have hfz15_1 := blk_frozen BK254.out 1;have hfz15_2 := blk_frozen BK254.out 2;have hcz16_0 : w13.cell? ⟨gb255,0,none⟩ = some (.int .i64 a1_0) := (blk_cell BK255.out 0).trans rfl;have hcz16_1 : w13.cell? ⟨gb255,1,none⟩ = some (.int .u32 a1_1) := (blk_cell BK255.out 1).trans rfl;have hcz16_2 : w13.cell? ⟨gb255,2,none⟩ = some (.slice A1_2 l1_2.length c1_2) := (blk_cell BK255.out 2).trans rfl;have hfz16_0 := blk_frozen BK255.out 0;have hfz16_1 := blk_frozen BK255.out 1;have hfz16_2 := blk_frozen BK255.out 2))
   go_ret
   exact ⟨by first|rfl|(simp [errW_none,errW_some] <;> rfl)|(simp [*,errW_none,errW_some] <;> rfl),by repeat (first|(with_reducible first|exact HB.out|apply below_alloc|apply pw_below_drewN|apply below_drew1|refine below_set ?_ GE254.out|refine below_set ?_ GE255.out)|exact HB.out)⟩
 ·rw [if_neg c3] at H
  have c3b0 : (a0_0 == a1_0) = false := beq_eq_false_iff_ne.mpr c3
  have c3b1 : (a0_0 != a1_0) = true := bne_iff_ne.mpr c3
  obtain rfl := Option.some.inj H
  go_enter Tryd.func40,Tryd.ntmps40
  go_wp2_with (first|((with_reducible refine gate_dst (N := 2) rfl ?_);refine box_event ?hg (N := 2) ?hd (cs := #[.int .i64 a0_0,.int .u32 a0_1,.slice A0_2 l0_2.length c0_2]) (t := 76) ?hr ?_;(case hd => rfl);(case hg => rfl);(case hr => first|(go_simp;done)|(go_simp;rfl));intro gb254 hg w17 hbox hb;have n0_ := Aside0.mk (below_step (by repeat (first|(with_reducible first|exact HB.out|apply below_alloc|apply pw_below_drewN|apply below_drew1)|exact HB.out)) hb);have n1_ := Aside0.mk (hbox);have n2_ := Aside0.mk ((by rw [hg];exact (below_size (by repeat (first|(with_reducible first|exact HB.out|apply below_alloc|apply pw_below_drewN|apply below_drew1)|exact HB.out))) : w.heap.size ≤ gb254));have n3_ := Aside0.mk ((by rw [hg];exact (below_size (by repeat (first|(with_reducible first|exact HB.out|apply below_alloc|apply pw_below_drewN|apply below_drew1)|exact HB.out))) : w.heap.size ≤ gb254));clear HB;have HB := n0_;have BK254 := n1_;have GW254 := n2_;have GE254 := n3_;clear n0_ n1_ n2_ n3_;clear hb hbox hg)|((with_reducible refine gate_dst (N := 3) rfl ?_);refine box_event ?hg (N := 3) ?hd (cs := #[.int .i64 a1_0,.int .u32 a1_1,.slice A1_2 l1_2.length c1_2]) (t := 76) ?hr ?_;(case hd => rfl);(case hg => rfl);(case hr => first|(go_simp;done)|(go_simp;rfl));intro gb255 hg w18 hbox hb;have n0_ := Aside0.mk (blk_below (g := gb254) (o := .cells #[.int .i64 a0_0,.int .u32 a0_1,.slice A0_2 l0_2.length c0_2] 76 (0,0)) (by (with_reducible repeat (first|refine blk_drewN ?_ _|refine blk_drew ?_|refine blk_alloc ?_ _));exact BK254.out) hb);have n1_ := Aside0.mk (below_step (by repeat (first|(with_reducible first|exact HB.out|apply below_alloc|apply pw_below_drewN|apply below_drew1|refine below_set ?_ GE254.out)|exact HB.out)) hb);have n2_ := Aside0.mk (hbox);have n3_ := Aside0.mk ((by rw [hg];exact (below_size (by repeat (first|(with_reducible first|exact HB.out|apply below_alloc|apply pw_below_drewN|apply below_drew1|refine below_set ?_ GE254.out)|exact HB.out))) : w.heap.size ≤ gb255));have n4_ := Aside0.mk ((by rw [hg];exact (below_size (by repeat (first|(with_reducible first|exact HB.out|apply below_alloc|apply pw_below_drewN|apply below_drew1|refine below_set ?_ GE254.out)|exact HB.out))) : w.heap.size ≤ gb255));have n5_ := Aside0.mk ((by rw [hg];exact Nat.ne_of_lt (blk_lt (g := gb254) (o := .cells #[.int .i64 a0_0,.int .u32 a0_1,.slice A0_2 l0_2.length c0_2] 76 (0,0)) (by (with_reducible repeat (first|refine blk_drewN ?_ _|refine blk_drew ?_|refine blk_alloc ?_ _));exact BK254.out)) : gb254 ≠ gb255));have n6_ := Aside0.mk ((by rw [hg];exact Nat.ne_of_gt (blk_lt (g := gb254) (o := .cells #[.int .i64 a0_0,.int .u32 a0_1,.slice A0_2 l0_2.length c0_2] 76 (0,0)) (by (with_reducible repeat (first|refine blk_drewN ?_ _|refine blk_drew ?_|refine blk_alloc ?_ _));exact BK254.out)) : gb255 ≠ gb254));clear BK254;clear HB;have BK254 := n0_;have HB := n1_;have BK255 := n2_;have GW255 := n3_;have GE255 := n4_;have NB254_255 := n5_;have NB255_254 := n6_;clear n0_ n1_ n2_ n3_ n4_ n5_ n6_;clear hb hbox hg;have hnb19 := NB254_255.out;have hnc19 := NB255_254.out;have hcz20_0 : w18.cell? ⟨gb254,0,none⟩ = some (.int .i64 a0_0) := (blk_cell BK254.out 0).trans rfl;have hcz20_1 : w18.cell? ⟨gb254,1,none⟩ = some (.int .u32 a0_1) := (blk_cell BK254.out 1).trans rfl;have hcz20_2 : w18.cell? ⟨gb254,2,none⟩ = some (.slice A0_2 l0_2.length c0_2) := (blk_cell BK254.out 2).trans rfl;have hfz20_0 := blk_frozen BK254.out 0;have hfz20_1 := blk_frozen BK254.out 1;have hfz20_2 := blk_frozen BK254.out 2;have hcz21_0 : w18.cell? ⟨gb255,0,none⟩ = some (.int .i64 a1_0) := (blk_cell BK255.out 0).trans rfl;have hcz21_1 : w18.cell? ⟨gb255,1,none⟩ = some (.int .u32 a1_1) := (blk_cell BK255.out 1).trans rfl;have hcz21_2 : w18.cell? ⟨gb255,2,none⟩ = some (.slice A1_2 l1_2.length c1_2) := (blk_cell BK255.out 2).trans rfl;have hfz21_0 := blk_frozen BK255.out 0;have hfz21_1 := blk_frozen BK255.out 1;have hfz21_2 := blk_frozen BK255.out 2))
  go_ret
  exact ⟨by first|rfl|(simp [errW_none,errW_some] <;> rfl)|(simp [*,errW_none,errW_some] <;> rfl),by repeat (first|(with_reducible first|exact HB.out|apply below_alloc|apply pw_below_drewN|apply below_drew1|refine below_set ?_ GE254.out|refine below_set ?_ GE255.out)|exact HB.out)⟩
-- NOT PRINTED: function 22 (strandlineref20_Clashes)
-- NOT PRINTED: function 24 (tear_Differ)
-- NOT PRINTED: function 7 (strandlinelaw20_TearTells)
end Go.Proofs.YtaekpfhgdnfciaaDoor.F
end

section
/- frag.Same, and the reference's. -/
set_option linter.unusedVariables false
set_option linter.unusedSimpArgs false
namespace Go.Proofs.YtaekpfhgdnfciaaDoor.O
open Go.RowKit Go.Proofs.YtaekpfhgdnfciaaDoorW.PrintWords Go.Proofs.YtaekpfhgdnfciaaDoorW.PrintLast Go.Proofs.YtaekpfhgdnfciaaDoorW.PrintMore Go.Proofs.YtaekpfhgdnfciaaDoor.F Go.Proofs.YtaekpfhgdnfciaaDoor.F.Nums Go.Proofs.YtaekpfhgdnfciaaDoor.Plain
theorem str_same {x y : List Int} (hx : Bytes x) (hy : Bytes y) : ((strOfNums x).toList == (strOfNums y).toList) = (x == y) := by
 by_cases h : x = y
 ·subst h
  simp
 ·rw [beq_eq_false_iff_ne.2 h]
  exact beq_eq_false_iff_ne.2 (fun e => h (CrcMath.strOfNums_inj hx hy e))
def sameFr (k1 x1 k2 x2 : Int) (d1 d2 : List Int) : Bool := k1 == k2 && (x1 == x2 && d1 == d2)
theorem rsame_calls (k1 x1 k2 x2 : Int) (d1 d2 : List Int) (A1 A2 : Option Addr) (c1 c2 : Nat) (w : World) (h1 : (Kd.int .u8).C w A1 d1.length d1) (hc1 : d1.length ≤ c1) (h2 : (Kd.int .u8).C w A2 d2.length d2) (hc2 : d2.length ≤ c2) (hb1 : Bytes d1) (hb2 : Bytes d2) :
  Calls Tryd.prog 40 #[.agg #[.int .i64 k1,.int .u32 x1,.slice A1 d1.length c1],.agg #[.int .i64 k2,.int .u32 x2,.slice A2 d2.length c2]] w fun e W => e = .returned (.bool (sameFr k1 x1 k2 x2 d1 d2)) ∧ Below w.heap.size w W := by
 refine strandlineref13_Same.calls k1 x1 A1 c1 d1 k2 x2 A2 c2 d2 _ w h1 hc1 h2 hc2 ?_
 unfold strandlineref13_Same.f sameFr
 rw [str_same hb1 hb2]
 by_cases e1 : k1 = k2
 ·rw [if_pos e1]
  by_cases e2 : x1 = x2
  ·rw [if_pos e2];simp [e1,e2]
  ·rw [if_neg e2];simp [e2]
 ·rw [if_neg e1];simp [e1]
set_option maxRecDepth 100000 in
set_option maxHeartbeats 8000000 in
theorem fsame_calls (k1 x1 k2 x2 : Int) (d1 d2 : List Int) (A1 A2 : Option Addr) (c1 c2 : Nat) (w : World) (h1 : (Kd.int .u8).C w A1 d1.length d1) (hc1 : d1.length ≤ c1) (h2 : (Kd.int .u8).C w A2 d2.length d2) (hc2 : d2.length ≤ c2) (hb1 : Bytes d1) (hb2 : Bytes d2) :
  Calls Tryd.prog 43 #[.agg #[.int .i64 k1,.int .u32 x1,.slice A1 d1.length c1],.agg #[.int .i64 k2,.int .u32 x2,.slice A2 d2.length c2]] w fun e W => e = .returned (.bool (sameFr k1 x1 k2 x2 d1 d2)) ∧ Below w.heap.size w W := by
 have H := Own.start w
 have s1 := str_same hb1 hb2
 unfold sameFr
 cases e1 : (k1 == k2) with
 |false =>
  generalize d1.length = n1 at *
  generalize d2.length = n2 at *
  go_enter Tryd.func43,Tryd.ntmps43
  go_wp2_with (first
  |((with_reducible refine gate_dst (N := 2) rfl ?_);refine l_boxA rfl H 76 _ rfl _ rfl ?_;clear H;intro g2 W H)
  |((with_reducible refine gate_dst (N := 3) rfl ?_);refine l_boxA rfl H 76 _ rfl _ rfl ?_;clear H;intro g3 W H)
  |((with_reducible refine gate_dst (N := 6) rfl ?_);refine l_load1 rfl H 3 _ rfl _ _ rfl (by (repeat (first|exact In.head|apply In.tail))) _ Tryd.underlying3 rfl _ (by first|rfl|assumption|exact nums_at _ (by omega)) ?_)
  |((with_reducible refine gate_dst (N := 8) rfl ?_);refine l_load1 rfl H 3 _ rfl _ _ rfl (by (repeat (first|exact In.head|apply In.tail))) _ Tryd.underlying3 rfl _ (by first|rfl|assumption|exact nums_at _ (by omega)) ?_)
  |((with_reducible refine gate_dst (N := 12) rfl ?_);refine gate_guard (by rfl) ?_;refine l_load1 rfl H 67 _ rfl _ _ rfl (by (repeat (first|exact In.head|apply In.tail))) _ Tryd.underlying67 rfl _ (by first|rfl|assumption|exact nums_at _ (by omega)) ?_)
  |((with_reducible refine gate_dst (N := 14) rfl ?_);refine gate_guard (by rfl) ?_;refine l_load1 rfl H 67 _ rfl _ _ rfl (by (repeat (first|exact In.head|apply In.tail))) _ Tryd.underlying67 rfl _ (by first|rfl|assumption|exact nums_at _ (by omega)) ?_)
  |((with_reducible refine gate_dst (N := 19) rfl ?_);refine gate_guard (by rfl) ?_;refine l_load1 rfl H 38 _ rfl _ _ rfl (by (repeat (first|exact In.head|apply In.tail))) _ Tryd.underlying38 rfl _ (by first|rfl|assumption|exact nums_at _ (by omega)) ?_)
  |((with_reducible refine gate_dst (N := 20) rfl ?_);refine gate_guard (by rfl) ?_;refine l_strR rfl H 38 9 5 _ rfl _ rfl (by (repeat (first|exact In.head|apply In.tail))) Tryd.underlying38 Tryd.underlying5 Tryd.underlying9 ?_)
  |((with_reducible refine gate_dst (N := 22) rfl ?_);refine gate_guard (by rfl) ?_;refine l_load1 rfl H 38 _ rfl _ _ rfl (by (repeat (first|exact In.head|apply In.tail))) _ Tryd.underlying38 rfl _ (by first|rfl|assumption|exact nums_at _ (by omega)) ?_)
  |((with_reducible refine gate_dst (N := 23) rfl ?_);refine gate_guard (by rfl) ?_;refine l_strR rfl H 38 9 5 _ rfl _ rfl (by (repeat (first|exact In.head|apply In.tail))) Tryd.underlying38 Tryd.underlying5 Tryd.underlying9 ?_))
  go_ret
  exact ⟨rfl,H.below⟩
 |true =>
  cases e2 : (x1 == x2) with
  |false =>
   generalize d1.length = n1 at *
   generalize d2.length = n2 at *
   go_enter Tryd.func43,Tryd.ntmps43
   go_wp2_with (first
  |((with_reducible refine gate_dst (N := 2) rfl ?_);refine l_boxA rfl H 76 _ rfl _ rfl ?_;clear H;intro g2 W H)
  |((with_reducible refine gate_dst (N := 3) rfl ?_);refine l_boxA rfl H 76 _ rfl _ rfl ?_;clear H;intro g3 W H)
  |((with_reducible refine gate_dst (N := 6) rfl ?_);refine l_load1 rfl H 3 _ rfl _ _ rfl (by (repeat (first|exact In.head|apply In.tail))) _ Tryd.underlying3 rfl _ (by first|rfl|assumption|exact nums_at _ (by omega)) ?_)
  |((with_reducible refine gate_dst (N := 8) rfl ?_);refine l_load1 rfl H 3 _ rfl _ _ rfl (by (repeat (first|exact In.head|apply In.tail))) _ Tryd.underlying3 rfl _ (by first|rfl|assumption|exact nums_at _ (by omega)) ?_)
  |((with_reducible refine gate_dst (N := 12) rfl ?_);refine gate_guard (by rfl) ?_;refine l_load1 rfl H 67 _ rfl _ _ rfl (by (repeat (first|exact In.head|apply In.tail))) _ Tryd.underlying67 rfl _ (by first|rfl|assumption|exact nums_at _ (by omega)) ?_)
  |((with_reducible refine gate_dst (N := 14) rfl ?_);refine gate_guard (by rfl) ?_;refine l_load1 rfl H 67 _ rfl _ _ rfl (by (repeat (first|exact In.head|apply In.tail))) _ Tryd.underlying67 rfl _ (by first|rfl|assumption|exact nums_at _ (by omega)) ?_)
  |((with_reducible refine gate_dst (N := 19) rfl ?_);refine gate_guard (by rfl) ?_;refine l_load1 rfl H 38 _ rfl _ _ rfl (by (repeat (first|exact In.head|apply In.tail))) _ Tryd.underlying38 rfl _ (by first|rfl|assumption|exact nums_at _ (by omega)) ?_)
  |((with_reducible refine gate_dst (N := 20) rfl ?_);refine gate_guard (by rfl) ?_;refine l_strR rfl H 38 9 5 _ rfl _ rfl (by (repeat (first|exact In.head|apply In.tail))) Tryd.underlying38 Tryd.underlying5 Tryd.underlying9 ?_)
  |((with_reducible refine gate_dst (N := 22) rfl ?_);refine gate_guard (by rfl) ?_;refine l_load1 rfl H 38 _ rfl _ _ rfl (by (repeat (first|exact In.head|apply In.tail))) _ Tryd.underlying38 rfl _ (by first|rfl|assumption|exact nums_at _ (by omega)) ?_)
  |((with_reducible refine gate_dst (N := 23) rfl ?_);refine gate_guard (by rfl) ?_;refine l_strR rfl H 38 9 5 _ rfl _ rfl (by (repeat (first|exact In.head|apply In.tail))) Tryd.underlying38 Tryd.underlying5 Tryd.underlying9 ?_))
   go_ret
   exact ⟨rfl,H.below⟩
  |true =>
   cases e3 : (d1 == d2) with
   |false =>
    rw [e3] at s1
    generalize d1.length = n1 at *
    generalize d2.length = n2 at *
    go_enter Tryd.func43,Tryd.ntmps43
    go_wp2_with (first
  |((with_reducible refine gate_dst (N := 2) rfl ?_);refine l_boxA rfl H 76 _ rfl _ rfl ?_;clear H;intro g2 W H)
  |((with_reducible refine gate_dst (N := 3) rfl ?_);refine l_boxA rfl H 76 _ rfl _ rfl ?_;clear H;intro g3 W H)
  |((with_reducible refine gate_dst (N := 6) rfl ?_);refine l_load1 rfl H 3 _ rfl _ _ rfl (by (repeat (first|exact In.head|apply In.tail))) _ Tryd.underlying3 rfl _ (by first|rfl|assumption|exact nums_at _ (by omega)) ?_)
  |((with_reducible refine gate_dst (N := 8) rfl ?_);refine l_load1 rfl H 3 _ rfl _ _ rfl (by (repeat (first|exact In.head|apply In.tail))) _ Tryd.underlying3 rfl _ (by first|rfl|assumption|exact nums_at _ (by omega)) ?_)
  |((with_reducible refine gate_dst (N := 12) rfl ?_);refine gate_guard (by rfl) ?_;refine l_load1 rfl H 67 _ rfl _ _ rfl (by (repeat (first|exact In.head|apply In.tail))) _ Tryd.underlying67 rfl _ (by first|rfl|assumption|exact nums_at _ (by omega)) ?_)
  |((with_reducible refine gate_dst (N := 14) rfl ?_);refine gate_guard (by rfl) ?_;refine l_load1 rfl H 67 _ rfl _ _ rfl (by (repeat (first|exact In.head|apply In.tail))) _ Tryd.underlying67 rfl _ (by first|rfl|assumption|exact nums_at _ (by omega)) ?_)
  |((with_reducible refine gate_dst (N := 19) rfl ?_);refine gate_guard (by rfl) ?_;refine l_load1 rfl H 38 _ rfl _ _ rfl (by (repeat (first|exact In.head|apply In.tail))) _ Tryd.underlying38 rfl _ (by first|rfl|assumption|exact nums_at _ (by omega)) ?_)
  |((with_reducible refine gate_dst (N := 20) rfl ?_);refine gate_guard (by rfl) ?_;refine l_strR rfl H 38 9 5 _ rfl _ rfl (by (repeat (first|exact In.head|apply In.tail))) Tryd.underlying38 Tryd.underlying5 Tryd.underlying9 ?_)
  |((with_reducible refine gate_dst (N := 22) rfl ?_);refine gate_guard (by rfl) ?_;refine l_load1 rfl H 38 _ rfl _ _ rfl (by (repeat (first|exact In.head|apply In.tail))) _ Tryd.underlying38 rfl _ (by first|rfl|assumption|exact nums_at _ (by omega)) ?_)
  |((with_reducible refine gate_dst (N := 23) rfl ?_);refine gate_guard (by rfl) ?_;refine l_strR rfl H 38 9 5 _ rfl _ rfl (by (repeat (first|exact In.head|apply In.tail))) Tryd.underlying38 Tryd.underlying5 Tryd.underlying9 ?_)
    |((with_reducible refine gate_dst (N := 20) rfl ?_);refine gate_guard (by rfl) ?_;refine l_run rfl (.string (strOfNums d1)) (r_strC 38 9 5 _ rfl rfl (Kd.C_below h1 H.below) Tryd.underlying38 Tryd.underlying5 Tryd.underlying9) ?_)
    |((with_reducible refine gate_dst (N := 23) rfl ?_);refine gate_guard (by rfl) ?_;refine l_run rfl (.string (strOfNums d2)) (r_strC 38 9 5 _ rfl rfl (Kd.C_below h2 H.below) Tryd.underlying38 Tryd.underlying5 Tryd.underlying9) ?_))
    go_ret
    exact ⟨rfl,H.below⟩
   |true =>
    rw [e3] at s1
    generalize d1.length = n1 at *
    generalize d2.length = n2 at *
    go_enter Tryd.func43,Tryd.ntmps43
    go_wp2_with (first
  |((with_reducible refine gate_dst (N := 2) rfl ?_);refine l_boxA rfl H 76 _ rfl _ rfl ?_;clear H;intro g2 W H)
  |((with_reducible refine gate_dst (N := 3) rfl ?_);refine l_boxA rfl H 76 _ rfl _ rfl ?_;clear H;intro g3 W H)
  |((with_reducible refine gate_dst (N := 6) rfl ?_);refine l_load1 rfl H 3 _ rfl _ _ rfl (by (repeat (first|exact In.head|apply In.tail))) _ Tryd.underlying3 rfl _ (by first|rfl|assumption|exact nums_at _ (by omega)) ?_)
  |((with_reducible refine gate_dst (N := 8) rfl ?_);refine l_load1 rfl H 3 _ rfl _ _ rfl (by (repeat (first|exact In.head|apply In.tail))) _ Tryd.underlying3 rfl _ (by first|rfl|assumption|exact nums_at _ (by omega)) ?_)
  |((with_reducible refine gate_dst (N := 12) rfl ?_);refine gate_guard (by rfl) ?_;refine l_load1 rfl H 67 _ rfl _ _ rfl (by (repeat (first|exact In.head|apply In.tail))) _ Tryd.underlying67 rfl _ (by first|rfl|assumption|exact nums_at _ (by omega)) ?_)
  |((with_reducible refine gate_dst (N := 14) rfl ?_);refine gate_guard (by rfl) ?_;refine l_load1 rfl H 67 _ rfl _ _ rfl (by (repeat (first|exact In.head|apply In.tail))) _ Tryd.underlying67 rfl _ (by first|rfl|assumption|exact nums_at _ (by omega)) ?_)
  |((with_reducible refine gate_dst (N := 19) rfl ?_);refine gate_guard (by rfl) ?_;refine l_load1 rfl H 38 _ rfl _ _ rfl (by (repeat (first|exact In.head|apply In.tail))) _ Tryd.underlying38 rfl _ (by first|rfl|assumption|exact nums_at _ (by omega)) ?_)
  |((with_reducible refine gate_dst (N := 20) rfl ?_);refine gate_guard (by rfl) ?_;refine l_strR rfl H 38 9 5 _ rfl _ rfl (by (repeat (first|exact In.head|apply In.tail))) Tryd.underlying38 Tryd.underlying5 Tryd.underlying9 ?_)
  |((with_reducible refine gate_dst (N := 22) rfl ?_);refine gate_guard (by rfl) ?_;refine l_load1 rfl H 38 _ rfl _ _ rfl (by (repeat (first|exact In.head|apply In.tail))) _ Tryd.underlying38 rfl _ (by first|rfl|assumption|exact nums_at _ (by omega)) ?_)
  |((with_reducible refine gate_dst (N := 23) rfl ?_);refine gate_guard (by rfl) ?_;refine l_strR rfl H 38 9 5 _ rfl _ rfl (by (repeat (first|exact In.head|apply In.tail))) Tryd.underlying38 Tryd.underlying5 Tryd.underlying9 ?_)
    |((with_reducible refine gate_dst (N := 20) rfl ?_);refine gate_guard (by rfl) ?_;refine l_run rfl (.string (strOfNums d1)) (r_strC 38 9 5 _ rfl rfl (Kd.C_below h1 H.below) Tryd.underlying38 Tryd.underlying5 Tryd.underlying9) ?_)
    |((with_reducible refine gate_dst (N := 23) rfl ?_);refine gate_guard (by rfl) ?_;refine l_run rfl (.string (strOfNums d2)) (r_strC 38 9 5 _ rfl rfl (Kd.C_below h2 H.below) Tryd.underlying38 Tryd.underlying5 Tryd.underlying9) ?_))
    go_ret
    exact ⟨rfl,H.below⟩
end Go.Proofs.YtaekpfhgdnfciaaDoor.O
end

section
/- tear.Clashes's function 'hold', by what is owned. -/
set_option linter.unusedVariables false
set_option linter.unusedSimpArgs false
namespace Go.Proofs.YtaekpfhgdnfciaaDoor.O
open Go.RowKit Go.Proofs.YtaekpfhgdnfciaaDoorW.PrintWords Go.Proofs.YtaekpfhgdnfciaaDoorW.PrintLast Go.Proofs.YtaekpfhgdnfciaaDoorW.PrintMore Go.Proofs.YtaekpfhgdnfciaaDoor.F Go.Proofs.YtaekpfhgdnfciaaDoor.F.Nums Go.Proofs.YtaekpfhgdnfciaaDoor.Plain
/-- is something else told at a place than what is wanted? -/
def badF (ep : Int) (F : List Int) (ok : List Bool) (p : Nat) (wk wx : Int) (wd : List Int) : Bool :=
 match told ep F ok p with
 |none => false
 |some (k,d,_) => !(sameFr k ep wk wx d wd)
theorem told_bytes {ep : Int} {F : List Int} {ok : List Bool} (hb : Bytes F) {p : Nat} {k : Int} {d : List Int} {n : Nat} (h : told ep F ok p = some (k,d,n)) : Bytes d := by
 unfold told at h
 split at h
 ·cases h
 ·split at h
  ·cases h
  ·split at h
   ·cases h
   ·split at h
    ·cases h
    ·have := Option.some.inj h
     simp only [Prod.mk.injEq] at this
     obtain ⟨-,rfl,-⟩ := this
     unfold decD frAt
     exact bytes_drop (bytes_take (bytes_take (bytes_drop hb _) _) _) _
set_option maxRecDepth 100000 in
set_option maxHeartbeats 16000000 in
theorem hold_own (e64 : Int) (F : List Int) (ok : List Bool) (hF : F.length = 832) (hFb : Bytes F) (hok : ok.length = 16) (p : Nat) (hp : p + 11 ≤ 832) (wk wx : Int) (wd : List Int) (Aw : Option Addr) (cw : Nat) (hcw : wd.length ≤ cw) (hbw : Bytes wd)
  (Ab Ao Ar : Option Addr) (cb co cr : Nat) (hcb : 832 ≤ cb) (hco : 16 ≤ co) (g3 g9 g10 g11 : Nat) (outs : List Int) (hout : outs.length ≤ 10000) (rest : List Res) (outs' : List Int) (ho' : outs' = (if badF (e64 % 4294967296) F ok p wk wx wd = true then outs ++ [(p : Int)] else outs)) {w0 W : World} {FF : Nat → Option Obj}
  (hW : ∀ X L',Own w0 FF L' X → (Kd.int .u8).C X Aw wd.length wd) (hH0 : Half w0)
  (H : Own w0 FF (.blk g3 22 [.int .u64 e64] :: .blk g9 38 [.slice Ab 832 cb] :: .blk g10 63 [.slice Ao 16 co] :: .blk g11 26 [.slice Ar outs.length cr] :: .row (.slice Ar outs.length cr) 3 1 outs.length (nums .i64 outs) :: .row (.slice Ab 832 cb) 5 1 832 (nums .u8 F) :: .row (.slice Ao 16 co) 4 1 16 (bools ok) :: rest) W) :
  Calls Tryd.prog 41 #[.int .i64 (p : Int),.agg #[.int .i64 wk,.int .u32 wx,.slice Aw wd.length cw],.pointer (some ⟨g3,0,none⟩),.pointer (some ⟨g9,0,none⟩),.pointer (some ⟨g10,0,none⟩),.pointer (some ⟨g11,0,none⟩)] W fun e W' => e = .returned (.tuple #[]) ∧ ∃ Ar' cr',
   Own w0 FF (.blk g3 22 [.int .u64 e64] :: .blk g9 38 [.slice Ab 832 cb] :: .blk g10 63 [.slice Ao 16 co] :: .blk g11 26 [.slice Ar' outs'.length cr'] :: .row (.slice Ar' outs'.length cr') 3 1 outs'.length (nums .i64 outs') :: .row (.slice Ab 832 cb) 5 1 832 (nums .u8 F) :: .row (.slice Ao 16 co) 4 1 16 (bools ok) :: rest) W' := by
 have TC := fun W hb ho h => ttold_calls e64 F ok hF hFb hok p hp Ab Ao cb co hcb hco W hb ho h
 unfold badF at ho'
 generalize e64 % 4294967296 = ep at *
 cases hT : told ep F ok p with
 |none =>
  rw [hT] at TC ho'
  clear hT
  generalize wd.length = nw at *
  simp only [Bool.false_eq_true,if_false] at ho'
  rw [ho']
  clear ho'
  generalize hol : outs.length = m at *
  go_enter Tryd.func41,Tryd.ntmps41
  go_wp2_with (first
  |((with_reducible refine gate_dst (N := 7) rfl ?_);refine l_boxA rfl H 76 _ rfl _ rfl ?_;clear H;intro g7 W H)
  |((with_reducible refine gate_dst (N := 11) rfl ?_);refine l_load1 rfl H 22 _ rfl _ _ rfl (by (repeat (first|exact In.head|apply In.tail))) _ Tryd.underlying22 rfl _ (by first|rfl|assumption|exact nums_at _ (by omega)) ?_)
  |((with_reducible refine gate_dst (N := 12) rfl ?_);refine l_load1 rfl H 38 _ rfl _ _ rfl (by (repeat (first|exact In.head|apply In.tail))) _ Tryd.underlying38 rfl _ (by first|rfl|assumption|exact nums_at _ (by omega)) ?_)
  |((with_reducible refine gate_dst (N := 13) rfl ?_);refine l_load1 rfl H 63 _ rfl _ _ rfl (by (repeat (first|exact In.head|apply In.tail))) _ Tryd.underlying63 rfl _ (by first|rfl|assumption|exact nums_at _ (by omega)) ?_)
  |((with_reducible refine gate_dst (N := 8) rfl ?_);refine l_allocA rfl H 76 rfl _ zero76 ?_;clear H;intro g8 W H)
  |((with_reducible refine gate_store (t := 76) (p := 8) rfl ?_);refine l_storeW rfl H 76 _ _ rfl _ rfl _ rfl (by (repeat (first|exact In.head|apply In.tail))) _ size76 (by (first|rfl|assumption|omega|(simp only [nums_length];omega)|(simp [nums_length,zs];done)|(simp [nums_length,zs];omega))) (by (first|rfl|assumption|omega|(simp only [nums_length];omega)|(simp [nums_length,zs];done)|(simp [nums_length,zs];omega))) (by (first|exact nums_one|assumption|(intro u hu;simp at hu;subst hu;rfl)|(intro u hu;simp at hu;rcases hu with rfl|rfl|rfl|rfl|rfl|rfl|rfl <;> rfl)|(intro u hu;simp at hu;rcases hu with rfl|rfl|rfl|rfl <;> rfl)|(intro u hu;simp at hu;rcases hu with rfl|rfl|rfl <;> rfl)|(intro u hu;simp at hu;rcases hu with rfl|rfl <;> rfl))) ?_;clear H;intro W H)
  |((with_reducible refine gate_dst (N := 20) rfl ?_);refine gate_guard (by rfl) ?_;refine l_loadA rfl H 76 _ rfl _ rfl (by (repeat (first|exact In.head|apply In.tail))) _ _ Tryd.underlying76 rfl size76 (by (first|rfl|assumption|omega|(simp only [nums_length];omega)|(simp [nums_length,zs];done)|(simp [nums_length,zs];omega))) ?_)
  |((with_reducible refine gate_dst (N := 21) rfl ?_);refine gate_guard (by rfl) ?_;refine l_loadA rfl H 76 _ rfl _ rfl (by (repeat (first|exact In.head|apply In.tail))) _ _ Tryd.underlying76 rfl size76 (by (first|rfl|assumption|omega|(simp only [nums_length];omega)|(simp [nums_length,zs];done)|(simp [nums_length,zs];omega))) ?_)
  |(go_at_call 42;(with_reducible refine (TC _ (H.rd (A := Ab) (by repeat (first|exact In.head|apply In.tail))).1 (H.rd (A := Ao) (by repeat (first|exact In.head|apply In.tail))).1 (hH0.below H.below)).mono ?_);rintro e W ⟨⟨k1,x1,A1,n1,c1,d1,rfl,ho,-,-⟩,hb⟩;replace H := H.addRow hb ho;clear hb ho))
  go_end0
  replace H := H.del (r := .blk g8 _ _) (by repeat (first|exact Del.head|apply Del.tail))
  replace H := H.del (r := .blk g7 _ _) (by repeat (first|exact Del.head|apply Del.tail))
  replace H := H.del (r := .row (.slice A1 n1 c1) _ _ _ _) (by repeat (first|exact Del.head|apply Del.tail))
  first|exact ⟨rfl,Ar,cr,H⟩|exact ⟨Ar,cr,H⟩
 |some y =>
  obtain ⟨k,d,m'⟩ := y
  have hdb := told_bytes hFb hT
  have TC2 : ∀ W,Rd W Ab (nums .u8 F) → Rd W Ao (bools ok) → Half W → Calls Tryd.prog 42 #[.int .u64 e64,.slice Ab 832 cb,.slice Ao 16 co,.int .i64 (p : Int)] W fun en W' => ∃ A1 c1,en = .returned (.tuple #[.agg #[.int .i64 k,.int .u32 ep,.slice A1 d.length c1],.bool true]) ∧ W'.ownsRow W.heap.size 5 1 (.slice A1 d.length c1) d.length (nums .u8 d) ∧ Below W.heap.size W W' := fun W hb ho h => (TC W hb ho h).mono (by
   rintro e W' ⟨⟨k1,x1,A1,n1,c1,d1,rfl,ho,hn,hy⟩,hb⟩
   obtain ⟨e1,e2,-⟩ := hy _ hT
   simp only [Prod.mk.injEq] at e1
   obtain ⟨rfl,rfl,-⟩ := e1
   subst hn e2
   exact ⟨A1,c1,by rw [hT];rfl,ho,hb⟩)
  rw [hT] at ho'
  simp only at ho'
  clear TC hT
  have SC := fun A1 c1 W h1 h2 h3 => fsame_calls k ep wk wx d wd A1 Aw c1 cw W h1 h2 h3 hcw hdb hbw
  clear hdb hbw
  generalize hwl : wd.length = nw at *
  generalize hdl : d.length = nd at *
  generalize hol : outs.length = m at *
  cases hS : sameFr k ep wk wx d wd with
  |true =>
   rw [hS] at SC
   simp only [hS,Bool.not_true,Bool.false_eq_true,if_false] at ho'
   clear hS
   rw [ho',hol]
   clear ho'
   go_enter Tryd.func41,Tryd.ntmps41
   go_wp2_with (first
  |((with_reducible refine gate_dst (N := 7) rfl ?_);refine l_boxA rfl H 76 _ rfl _ rfl ?_;clear H;intro g7 W H)
  |((with_reducible refine gate_dst (N := 11) rfl ?_);refine l_load1 rfl H 22 _ rfl _ _ rfl (by (repeat (first|exact In.head|apply In.tail))) _ Tryd.underlying22 rfl _ (by first|rfl|assumption|exact nums_at _ (by omega)) ?_)
  |((with_reducible refine gate_dst (N := 12) rfl ?_);refine l_load1 rfl H 38 _ rfl _ _ rfl (by (repeat (first|exact In.head|apply In.tail))) _ Tryd.underlying38 rfl _ (by first|rfl|assumption|exact nums_at _ (by omega)) ?_)
  |((with_reducible refine gate_dst (N := 13) rfl ?_);refine l_load1 rfl H 63 _ rfl _ _ rfl (by (repeat (first|exact In.head|apply In.tail))) _ Tryd.underlying63 rfl _ (by first|rfl|assumption|exact nums_at _ (by omega)) ?_)
  |((with_reducible refine gate_dst (N := 8) rfl ?_);refine l_allocA rfl H 76 rfl _ zero76 ?_;clear H;intro g8 W H)
  |((with_reducible refine gate_store (t := 76) (p := 8) rfl ?_);refine l_storeW rfl H 76 _ _ rfl _ rfl _ rfl (by (repeat (first|exact In.head|apply In.tail))) _ size76 (by (first|rfl|assumption|omega|(simp only [nums_length];omega)|(simp [nums_length,zs];done)|(simp [nums_length,zs];omega))) (by (first|rfl|assumption|omega|(simp only [nums_length];omega)|(simp [nums_length,zs];done)|(simp [nums_length,zs];omega))) (by (first|exact nums_one|assumption|(intro u hu;simp at hu;subst hu;rfl)|(intro u hu;simp at hu;rcases hu with rfl|rfl|rfl|rfl|rfl|rfl|rfl <;> rfl)|(intro u hu;simp at hu;rcases hu with rfl|rfl|rfl|rfl <;> rfl)|(intro u hu;simp at hu;rcases hu with rfl|rfl|rfl <;> rfl)|(intro u hu;simp at hu;rcases hu with rfl|rfl <;> rfl))) ?_;clear H;intro W H)
  |((with_reducible refine gate_dst (N := 20) rfl ?_);refine gate_guard (by rfl) ?_;refine l_loadA rfl H 76 _ rfl _ rfl (by (repeat (first|exact In.head|apply In.tail))) _ _ Tryd.underlying76 rfl size76 (by (first|rfl|assumption|omega|(simp only [nums_length];omega)|(simp [nums_length,zs];done)|(simp [nums_length,zs];omega))) ?_)
  |((with_reducible refine gate_dst (N := 21) rfl ?_);refine gate_guard (by rfl) ?_;refine l_loadA rfl H 76 _ rfl _ rfl (by (repeat (first|exact In.head|apply In.tail))) _ _ Tryd.underlying76 rfl size76 (by (first|rfl|assumption|omega|(simp only [nums_length];omega)|(simp [nums_length,zs];done)|(simp [nums_length,zs];omega))) ?_)
   |(go_at_call 42;(with_reducible refine (TC2 _ (H.rd (A := Ab) (by repeat (first|exact In.head|apply In.tail))).1 (H.rd (A := Ao) (by repeat (first|exact In.head|apply In.tail))).1 (hH0.below H.below)).mono ?_);rintro e W ⟨A1,c1,rfl,ho,hb⟩;replace H := H.addRow hb ho;clear hb ho)
   |(go_at_call 43;(with_reducible refine (SC _ _ _ (H.rowC (A := A1) (cc := c1) (by repeat (first|exact In.head|apply In.tail))).2.2 (H.rowC (A := A1) (cc := c1) (by repeat (first|exact In.head|apply In.tail))).1 (hW _ _ H)).mono ?_);rintro e W ⟨rfl,hb⟩;replace H := H.to hb;clear hb))
   go_end0
   replace H := H.del (r := .blk g8 _ _) (by repeat (first|exact Del.head|apply Del.tail))
   replace H := H.del (r := .blk g7 _ _) (by repeat (first|exact Del.head|apply Del.tail))
   replace H := H.del (r := .row (.slice A1 nd c1) _ _ _ _) (by repeat (first|exact Del.head|apply Del.tail))
   first|exact ⟨rfl,Ar,cr,H⟩|exact ⟨Ar,cr,H⟩
  |false =>
   rw [hS] at SC
   simp only [hS,Bool.not_false,if_true] at ho'
   clear hS
   have hl1 : m + 1 = outs'.length := by rw [ho'];simp [hol]
   have hnp : nums .i64 outs ++ [.int .i64 (p : Int)] = nums .i64 outs' := by rw [ho'];simp [nums]
   rw [← hl1,← hnp]
   clear hl1 hnp ho'
   go_enter Tryd.func41,Tryd.ntmps41
   go_wp2_with (first
  |((with_reducible refine gate_dst (N := 7) rfl ?_);refine l_boxA rfl H 76 _ rfl _ rfl ?_;clear H;intro g7 W H)
  |((with_reducible refine gate_dst (N := 11) rfl ?_);refine l_load1 rfl H 22 _ rfl _ _ rfl (by (repeat (first|exact In.head|apply In.tail))) _ Tryd.underlying22 rfl _ (by first|rfl|assumption|exact nums_at _ (by omega)) ?_)
  |((with_reducible refine gate_dst (N := 12) rfl ?_);refine l_load1 rfl H 38 _ rfl _ _ rfl (by (repeat (first|exact In.head|apply In.tail))) _ Tryd.underlying38 rfl _ (by first|rfl|assumption|exact nums_at _ (by omega)) ?_)
  |((with_reducible refine gate_dst (N := 13) rfl ?_);refine l_load1 rfl H 63 _ rfl _ _ rfl (by (repeat (first|exact In.head|apply In.tail))) _ Tryd.underlying63 rfl _ (by first|rfl|assumption|exact nums_at _ (by omega)) ?_)
  |((with_reducible refine gate_dst (N := 8) rfl ?_);refine l_allocA rfl H 76 rfl _ zero76 ?_;clear H;intro g8 W H)
  |((with_reducible refine gate_store (t := 76) (p := 8) rfl ?_);refine l_storeW rfl H 76 _ _ rfl _ rfl _ rfl (by (repeat (first|exact In.head|apply In.tail))) _ size76 (by (first|rfl|assumption|omega|(simp only [nums_length];omega)|(simp [nums_length,zs];done)|(simp [nums_length,zs];omega))) (by (first|rfl|assumption|omega|(simp only [nums_length];omega)|(simp [nums_length,zs];done)|(simp [nums_length,zs];omega))) (by (first|exact nums_one|assumption|(intro u hu;simp at hu;subst hu;rfl)|(intro u hu;simp at hu;rcases hu with rfl|rfl|rfl|rfl|rfl|rfl|rfl <;> rfl)|(intro u hu;simp at hu;rcases hu with rfl|rfl|rfl|rfl <;> rfl)|(intro u hu;simp at hu;rcases hu with rfl|rfl|rfl <;> rfl)|(intro u hu;simp at hu;rcases hu with rfl|rfl <;> rfl))) ?_;clear H;intro W H)
  |((with_reducible refine gate_dst (N := 20) rfl ?_);refine gate_guard (by rfl) ?_;refine l_loadA rfl H 76 _ rfl _ rfl (by (repeat (first|exact In.head|apply In.tail))) _ _ Tryd.underlying76 rfl size76 (by (first|rfl|assumption|omega|(simp only [nums_length];omega)|(simp [nums_length,zs];done)|(simp [nums_length,zs];omega))) ?_)
  |((with_reducible refine gate_dst (N := 21) rfl ?_);refine gate_guard (by rfl) ?_;refine l_loadA rfl H 76 _ rfl _ rfl (by (repeat (first|exact In.head|apply In.tail))) _ _ Tryd.underlying76 rfl size76 (by (first|rfl|assumption|omega|(simp only [nums_length];omega)|(simp [nums_length,zs];done)|(simp [nums_length,zs];omega))) ?_)
  |((with_reducible refine gate_dst (N := 25) rfl ?_);refine l_load1 rfl H 26 _ rfl _ _ rfl (by (repeat (first|exact In.head|apply In.tail))) _ Tryd.underlying26 rfl _ (by first|rfl|assumption|exact nums_at _ (by omega)) ?_)
  |((with_reducible refine gate_dst (N := 27) rfl ?_);refine l_build11 rfl H 26 3 _ rfl Tryd.underlying26 _ rfl _ zs3 rfl rfl ?_;clear H;intro g27 W H)
  |((with_reducible refine gate_dst (N := 28) rfl ?_);refine l_append1 rfl H _ _ 26 3 rfl Tryd.underlying26 _ _ _ inf3 rfl (by decide) (by decide) _ _ _ rfl (by (repeat (first|exact In.head|apply In.tail))) _ _ rfl (by (repeat (first|exact In.head|apply In.tail))) (by (first|rfl|assumption|omega|(simp only [nums_length];omega)|(simp [nums_length,zs];done)|(simp [nums_length,zs];omega))) (by (first|exact nums_one|assumption|(intro u hu;simp at hu;subst hu;rfl)|(intro u hu;simp at hu;rcases hu with rfl|rfl|rfl|rfl|rfl|rfl|rfl <;> rfl)|(intro u hu;simp at hu;rcases hu with rfl|rfl|rfl|rfl <;> rfl)|(intro u hu;simp at hu;rcases hu with rfl|rfl|rfl <;> rfl)|(intro u hu;simp at hu;rcases hu with rfl|rfl <;> rfl))) (by omega) ?_;clear H;intro v28 W H;obtain ⟨A28,c28,rfl⟩ : ∃ A c,v28 = .slice A (m + 1) c := H.row_slice (by repeat (first|exact In.head|apply In.tail)))
  |((with_reducible refine gate_store (t := 26) (p := 5) rfl ?_);refine l_store1 rfl H 26 _ _ rfl _ _ rfl _ (by first|(go_simp;done)|(go_simp;with_reducible rfl)) (by (repeat (first|exact In.head|apply In.tail))) rfl rfl size26 (by (first|rfl|assumption|omega|(simp only [nums_length];omega)|(simp [nums_length,zs];done)|(simp [nums_length,zs];omega))) ?_;clear H;intro W H)
   |(go_at_call 42;(with_reducible refine (TC2 _ (H.rd (A := Ab) (by repeat (first|exact In.head|apply In.tail))).1 (H.rd (A := Ao) (by repeat (first|exact In.head|apply In.tail))).1 (hH0.below H.below)).mono ?_);rintro e W ⟨A1,c1,rfl,ho,hb⟩;replace H := H.addRow hb ho;clear hb ho)
   |(go_at_call 43;(with_reducible refine (SC _ _ _ (H.rowC (A := A1) (cc := c1) (by repeat (first|exact In.head|apply In.tail))).2.2 (H.rowC (A := A1) (cc := c1) (by repeat (first|exact In.head|apply In.tail))).1 (hW _ _ H)).mono ?_);rintro e W ⟨rfl,hb⟩;replace H := H.to hb;clear hb))
   go_end0
   replace H := H.del (r := .blk g8 _ _) (by repeat (first|exact Del.head|apply Del.tail))
   replace H := H.del (r := .blk g7 _ _) (by repeat (first|exact Del.head|apply Del.tail))
   replace H := H.del (r := .blk g27 _ _) (by repeat (first|exact Del.head|apply Del.tail))
   replace H := H.del (r := .row (.slice A1 nd c1) _ _ _ _) (by repeat (first|exact Del.head|apply Del.tail))
   first|exact ⟨rfl,A28,c28,H⟩|exact ⟨A28,c28,H⟩
end Go.Proofs.YtaekpfhgdnfciaaDoor.O
end

section
/- Functions of cut: what each answers, as a Lean function, and that the call answers just this. Turned out of what the kit's print told for this seat. -/
namespace Go.Proofs.YtaekpfhgdnfciaaDoor.F
open Go.RowKit Go.Proofs.YtaekpfhgdnfciaaDoorW.PrintWords Go.Proofs.YtaekpfhgdnfciaaDoorW.PrintLast Go.Proofs.YtaekpfhgdnfciaaDoorW.PrintMore
attribute [local go_sem high] eqA83
attribute [local go_sem] field83_0
attribute [local go_sem] field83_1
attribute [local go_sem] max2_int min2_int max_two min_two max_three min_three max_four min_four
set_option linter.unusedVariables false
set_option linter.unusedSimpArgs false
/-! ### cut_kind: function 66 -/
def cut_kind.j0 : Nat → Bool → Bool → Bool → Option (Int)
 |0,_,_,_ => none
 |k + 1,x0,x1,x5 => if x5 = true then (some 1) else (if x0 = true then (some 2) else (if x1 = true then (some 4) else (some 3)))
def cut_kind.f (k : Nat) (a0 : Bool) (a1 : Bool) : Option (Int) := if a0 = true then (cut_kind.j0 k a0 a1 a1) else (cut_kind.j0 k a0 a1 false)
set_option maxHeartbeats 8000000 in
set_option maxRecDepth 100000 in
theorem cut_kind.calls (k : Nat) (a0 : Bool) (a1 : Bool) (r : Int) (w : World) (h : cut_kind.f k a0 a1 = some r) :
  Calls Tryd.prog 66 #[.bool a0,.bool a1] w fun e w' => e = .returned (.int .i64 r) ∧ Drawn0 w w' := by
 have hu73 := Tryd.underlying73
 have hu76 := Tryd.underlying76
 have hu83 := Tryd.underlying83
 have hu94 := Tryd.underlying94
 have hu106 := Tryd.underlying106
 have H : (if a0 = true then (cut_kind.j0 k a0 a1 a1) else (cut_kind.j0 k a0 a1 false)) = some r := h
 clear h
 have HC3 := Aside0.mk H
 clear H
 go_enter Tryd.func66,Tryd.ntmps66
 go_upto_region 1 with (fail)
 go_cut [5] (fun v5 wc => ∃ (kq : Nat) (x5_2 : Bool),v5 = .bool x5_2 ∧ Aside0 (cut_kind.j0 kq a0 a1 x5_2 = some r) ∧ Aside0 (kq ≤ k) ∧ Drawn0 w wc)
 case first =>
  have H := HC3.out
  clear HC3
  by_cases c4 : a0 = true
  ·subst c4
   have H1 : (cut_kind.j0 k true a1 a1) = some r := by rw [if_pos rfl] at H;exact H
   clear H
   have H := H1
   clear H1
   have H' := Aside0.mk H
   clear H
   go_wp2
   go_meet
   case rel => exact ⟨_,(a1),(by first|rfl|(simp;done)|(simp [*];done)),H',⟨by first|omega|exact Nat.le_refl _⟩,by repeat (first|exact Drawn0.refl _|apply Drawn0.step)⟩
  ·replace c4 := Bool.eq_false_iff.mpr c4
   subst c4
   have H1 : (cut_kind.j0 k false a1 false) = some r := by rw [if_neg (show ¬ (false = true) by decide)] at H;exact H
   clear H
   have H := H1
   clear H1
   have H' := Aside0.mk H
   clear H
   go_wp2
   go_meet
   case rel => exact ⟨_,(false),(by first|rfl|(simp;done)|(simp [*];done)),H',⟨by first|omega|exact Nat.le_refl _⟩,by repeat (first|exact Drawn0.refl _|apply Drawn0.step)⟩
 case rest =>
  clear HC3
  try clear p2
  try clear c4
  obtain ⟨kq,x5_2,rfl,HA,HJ2,⟨mc2,rfl⟩⟩ := hcut
  cases kq with
  |zero => exact absurd HA.out (by simp [cut_kind.j0])
  |succ kj2 =>
   have H := HA.out
   clear HA
   simp only [cut_kind.j0] at H
   by_cases c5 : x5_2 = true
   ·subst c5
    have H1 : (some 1) = some r := by rw [if_pos rfl] at H;exact H
    clear H
    have H := H1
    clear H1
    obtain rfl := Option.some.inj H
    go_wp2
    go_ret
    exact ⟨by first|rfl|(simp;done)|(simp [*];done),by repeat (first|exact Drawn0.refl _|apply Drawn0.step)⟩
   ·replace c5 := Bool.eq_false_iff.mpr c5
    subst c5
    have H1 : (if a0 = true then (some 2) else (if a1 = true then (some 4) else (some 3))) = some r := by rw [if_neg (show ¬ (false = true) by decide)] at H;exact H
    clear H
    have H := H1
    clear H1
    by_cases c6 : a0 = true
    ·subst c6
     have H1 : (some 2) = some r := by rw [if_pos rfl] at H;exact H
     clear H
     have H := H1
     clear H1
     obtain rfl := Option.some.inj H
     go_wp2
     go_ret
     exact ⟨by first|rfl|(simp;done)|(simp [*];done),by repeat (first|exact Drawn0.refl _|apply Drawn0.step)⟩
    ·replace c6 := Bool.eq_false_iff.mpr c6
     subst c6
     have H1 : (if a1 = true then (some 4) else (some 3)) = some r := by rw [if_neg (show ¬ (false = true) by decide)] at H;exact H
     clear H
     have H := H1
     clear H1
     by_cases c7 : a1 = true
     ·subst c7
      have H1 : (some 4) = some r := by rw [if_pos rfl] at H;exact H
      clear H
      have H := H1
      clear H1
      obtain rfl := Option.some.inj H
      go_wp2
      go_ret
      exact ⟨by first|rfl|(simp;done)|(simp [*];done),by repeat (first|exact Drawn0.refl _|apply Drawn0.step)⟩
     ·replace c7 := Bool.eq_false_iff.mpr c7
      subst c7
      have H1 : (some 3) = some r := by rw [if_neg (show ¬ (false = true) by decide)] at H;exact H
      clear H
      have H := H1
      clear H1
      obtain rfl := Option.some.inj H
      go_wp2
      go_ret
      exact ⟨by first|rfl|(simp;done)|(simp [*];done),by repeat (first|exact Drawn0.refl _|apply Drawn0.step)⟩
end Go.Proofs.YtaekpfhgdnfciaaDoor.F
end
