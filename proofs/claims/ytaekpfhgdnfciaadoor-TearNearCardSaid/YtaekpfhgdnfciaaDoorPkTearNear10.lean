/- Texts of mine put together: FkStrandlineref17, Own2. -/
import Derived.Test.YtaekpfhgdnfciaaDoorPkTearNear3
import Derived.Test.YtaekpfhgdnfciaaDoorPkTearNear5
import Derived.Test.YtaekpfhgdnfciaaDoorPkTearNear8
import Derived.Test.YtaekpfhgdnfciaaDoorPkTearNear9
import Derived.Test.YtaekpfhgdnfciaaDoorPkTearNear4
import Derived.Great.BuildSlice
import Derived.Lib.LazyBuf
import Derived.ArgAppend
set_option linter.unusedVariables false
set_option linter.unusedSimpArgs false
open Go.RowKit Go.Proofs.YtaekpfhgdnfciaaDoorW.PrintWords Go.Proofs.YtaekpfhgdnfciaaDoorW.PrintLast Go.Proofs.YtaekpfhgdnfciaaDoorW.PrintMore

section
namespace Go.Proofs.YtaekpfhgdnfciaaDoor.F

attribute [local go_sem high] eqA83
attribute [local go_sem] field83_0
attribute [local go_sem] field83_1
attribute [local go_sem] max2_int min2_int max_two min_two max_three min_three max_four min_four
/-! ### strandlineref17_Add: function 36 -/
mutual
def strandlineref17_Add.j1 : Nat → Int → List Int → List (S94) → Int → List Int → Option (List Int × Int × Bool)
 |0,_,_,_,_,_ => none
 |k + 1,x0,x3,x11,x12,x14 => strandlineref17_Add.l1 k x0 x3 x11 x12 x14 0
def strandlineref17_Add.l1 : Nat → Int → List Int → List (S94) → Int → List Int → Int → Option (List Int × Int × Bool)
 |0,_,_,_,_,_,_ => none
 |k + 1,x0,x3,x11,x12,x14,x16 => if x16 < (x11.length : Int) then (if 0 ≤ x16 then (if 0 ≤ ((rd_T94 x11 x16).f2) then (if ((rd_T94 x11 x16).f2) ≤ ((rd_T94 x11 x16).f3) then (if ((rd_T94 x11 x16).f3) ≤ (x3.length : Int) then ((strandlineref13_Bytes.f k ((rd_T94 x11 x16).f1) ((Int.tmod x0 4294967296) % 4294967296) ((x3.take (((rd_T94 x11 x16).f3) : Int).toNat).drop (((rd_T94 x11 x16).f2) : Int).toNat)).bind fun t166 => (strandlineref17_Add.l2 k x0 x3 x11 x12 x14 x16 t166 0)) else (none)) else (none)) else (none)) else (none)) else (some (x14,x12,true))
def strandlineref17_Add.l2 : Nat → Int → List Int → List (S94) → Int → List Int → Int → List Int → Int → Option (List Int × Int × Bool)
 |0,_,_,_,_,_,_,_,_ => none
 |k + 1,x0,x3,x11,x12,x14,x16,x17,x18 => if x18 < (x17.length : Int) then (if 0 ≤ x16 then (if x16 < (x11.length : Int) then (if 0 ≤ x18 then (if 0 ≤ (wrap64 (((rd_T94 x11 x16).f0) + x18)) then (if (wrap64 (((rd_T94 x11 x16).f0) + x18)) < (x14.length : Int) then (strandlineref17_Add.l2 k x0 x3 x11 x12 (x14.set ((wrap64 (((rd_T94 x11 x16).f0) + x18)) : Int).toNat (rd x17 x18)) x16 x17 (wrap64 (x18 + 1))) else (none)) else (none)) else (none)) else (none)) else (none)) else (strandlineref17_Add.l1 k x0 x3 x11 x12 x14 (wrap64 (x16 + 1)))
def strandlineref17_Add.l0 : Nat → Int → List Int → List Int → List (S94) → Int → List Int → Int → Option (List Int × Int × Bool)
 |0,_,_,_,_,_,_,_ => none
 |k + 1,x0,x1,x3,x11,x12,x14,x15 => if x15 < 832 then (if x15 < (x1.length : Int) then (if 0 ≤ x15 then (if x15 < (x14.length : Int) then (strandlineref17_Add.l0 k x0 x1 x3 x11 x12 (x14.set (x15 : Int).toNat (rd x1 x15)) (wrap64 (x15 + 1))) else (none)) else (none)) else (strandlineref17_Add.j1 k x0 x3 x11 x12 x14)) else (strandlineref17_Add.j1 k x0 x3 x11 x12 x14)
end
def strandlineref17_Add.f (k : Nat) (a0 : Int) (l1 : List Int) (a2 : Int) (l3 : List Int) : Option (List Int × Int × Bool) := (strandlineref14_Cut.f k a2 (l3.length : Int)).bind fun bt152 => (if bt152.2.2 = true then (if 832 ≤ 281474976710656 then (strandlineref17_Add.l0 k a0 l1 l3 bt152.1 bt152.2.1 (List.replicate 832 0) 0) else (none)) else (some (([] : List Int),0,false)))
def strandlineref17_Add.T12 : Bool × List (List Nat × List Nat) := (true,[([],[]),([],[]),([0,1],[0,1]),([2],[2]),([3],[3]),([],[]),([5],[5]),([6],[6]),([],[]),([],[]),([],[]),([9,10],[9,10]),([11],[11]),([12],[12]),([],[]),([],[]),([14,15],[14,15]),([16],[16]),([17],[17]),([8,13,18],[8,13,18]),([4,7,19],[4,7,19]),([20],[20]),([21,21,0,1,2,3,4,5,6,7,8,9,10,11,12,13,14,15,16,17,18,19,20,21],[21])])
def strandlineref17_Add.B12 : List Nat := [0,0,3,7,15,0,32,96,0,0,0,1536,3584,7680,0,0,49152,114688,245760,524032,1048575,2097151,4194303]
theorem strandlineref17_Add.tab12 : rtab .any (opsOf Tryd.f36 12) = strandlineref17_Add.T12 := by kernel_rfl
theorem strandlineref17_Add.bits12 : waitsOk strandlineref17_Add.T12.2 strandlineref17_Add.B12 = true := by kernel_rfl
def strandlineref17_Add.T16 : Bool × List (List Nat × List Nat) := (true,[([],[]),([],[]),([],[]),([1,2],[1,2]),([3],[3]),([4],[4]),([],[]),([5,6],[5,6]),([],[]),([],[]),([8,9],[8,9]),([10],[10]),([0,7,0,1,2,3,4,5,6,7,8,9,10,11],[0,7]),([12,11,0,1,2,3,4,5,6,7,8,9,10,11],[11,12])])
def strandlineref17_Add.B16 : List Nat := [0,0,0,6,14,30,0,126,0,0,768,1792,4095,8191]
theorem strandlineref17_Add.tab16 : rtab .any (opsOf Tryd.f36 16) = strandlineref17_Add.T16 := by kernel_rfl
theorem strandlineref17_Add.bits16 : waitsOk strandlineref17_Add.T16.2 strandlineref17_Add.B16 = true := by kernel_rfl
set_option maxHeartbeats 8000000 in
set_option maxRecDepth 100000 in
theorem strandlineref17_Add.calls (k : Nat) (a0 : Int) (A1 : Option Addr) (c1 : Nat) (l1 : List Int) (a2 : Int) (A3 : Option Addr) (c3 : Nat) (l3 : List Int) (r1 : List Int) (r2 : Int) (r3 : Bool) (w : World) (hr1 : Kd.C (Kd.int .u8) w A1 l1.length l1) (hc1 : l1.length ≤ c1) (hr3 : Kd.C (Kd.int .u8) w A3 l3.length l3) (hc3 : l3.length ≤ c3) (h : strandlineref17_Add.f k a0 l1 a2 l3 = some (r1,r2,r3)) :
  Calls Tryd.prog 36 #[.int .u64 a0,.slice A1 l1.length c1,.int .i64 a2,.slice A3 l3.length c3] w fun e w' => ∃ v0_ : Value,e = .returned (.tuple #[v0_,.int .i64 r2,.bool r3]) ∧ Kd.R (Kd.int .u8) 5 w' w.heap.size (fun _ => True) v0_ r1 ∧ Below w.heap.size w w' := by
 have hu5 := Tryd.underlying5
 have hu73 := Tryd.underlying73
 have hu83 := Tryd.underlying83
 have hu94 := Tryd.underlying94
 have hu106 := Tryd.underlying106
 have hu76 := Tryd.underlying76
 have HR1 := Aside0.mk hr1
 have HC1 := Aside0.mk hc1
 clear hr1 hc1
 have HR3 := Aside0.mk hr3
 have HC3 := Aside0.mk hc3
 clear hr3 hc3
 have HB := Aside0.mk (Below.refl w.heap.size w)
 have H : ((strandlineref14_Cut.f k a2 (l3.length : Int)).bind fun bt152 => (if bt152.2.2 = true then (if 832 ≤ 281474976710656 then (strandlineref17_Add.l0 k a0 l1 l3 bt152.1 bt152.2.1 (List.replicate 832 0) 0) else (none)) else (some (([] : List Int),0,false)))) = some (r1,r2,r3) := h
 clear h
 replace H := Option.bind_eq_some_iff.mp H
 obtain ⟨⟨t152,t153,t154⟩,A50,H⟩ := H
 replace H : (if t154 = true then (if 832 ≤ 281474976710656 then (strandlineref17_Add.l0 k a0 l1 l3 t152 t153 (List.replicate 832 0) 0) else (none)) else (some (([] : List Int),0,false))) = some (r1,r2,r3) := H
 have A5 := Aside0.mk A50
 clear A50
 by_cases c6 : t154 = true
 ·subst c6
  have H1 : (if 832 ≤ 281474976710656 then (strandlineref17_Add.l0 k a0 l1 l3 t152 t153 (List.replicate 832 0) 0) else (none)) = some (r1,r2,r3) := by rw [if_pos rfl] at H;exact H
  clear H
  have H := H1
  clear H1
  by_cases c7 : 832 ≤ 281474976710656
  ·rw [if_pos c7] at H
   have c7b0 := eq_true c7
   have c7b1 : decide (832 ≤ 281474976710656) = true := decide_eq_true c7
   clear c7
   obtain ⟨y157,hy157⟩ : ∃ y_ : List Int,y_ = (List.replicate 832 0) := ⟨_,rfl⟩
   replace H : (strandlineref17_Add.l0 k a0 l1 l3 t152 t153 y157 0) = some (r1,r2,r3) := by first|(rw [hy157];with_reducible exact H)|(have H2_ := (Option.bind_some _ _).symm.trans H;rw [hy157];with_reducible exact H2_)|(have H2_ := (Option.bind_some _ _).symm.trans H;with_reducible exact H2_)|with_reducible exact H|(rw [hy157];exact H)|exact H
   have Ny157 := Aside0.mk hy157
   clear hy157
   have HC8 := Aside0.mk H
   clear H
   go_enter Tryd.func36,Tryd.ntmps36
   go_upto_block 0 with (first|((with_reducible refine gate_callee (f := 38) rfl ?_);refine goesL_ (some 23) rfl rfl Tryd.func38 (by kernel_rfl) rfl #[.int .i64 a2,.int .i64 (l3.length : Int)] rfl (by (try simp only [List.map_toArray,List.map_cons,List.map_nil]);first|done|rfl|(simp only [List.length_drop,List.length_take];rfl)) ?_;(with_reducible refine (strandlineref14_Cut.calls k a2 (l3.length : Int) t152 t153 true _ A5.out).mono ?_);rintro e w9 ⟨v155,rfl,ho0,hb⟩;refine ⟨_,rfl,?_⟩;have n0_ := Aside0.mk (Kd.R_lower ho0 (below_size (by repeat (first|(with_reducible first|exact HB.out|apply below_alloc|apply pw_below_drewN|apply below_drew1)|exact HB.out))));have n1_ := Aside0.mk (below_step (by repeat (first|(with_reducible first|exact HB.out|apply below_alloc|apply pw_below_drewN|apply below_drew1)|exact HB.out)) hb);clear HB;have HO156 := n0_;have HB := n1_;clear n0_ n1_;(try clear hb);(try clear hb2);(try clear hk);(try clear hi);(try clear ho0))|((with_reducible refine gate_dst (N := 29) rfl ?_);(try (refine gate_guard (by rfl) ?_;dsimp only));refine Kd.R_make (Kd.int .u8) _ 5 rfl (N := 29) rfl 38 _ _ rfl 832 rfl rfl Tryd.underlying38 (.int .u8 0) 1 info5 rfl (by decide) (by omega) 0 (ok := fun _ => True) (okp := fun _ => True) rfl (fun _ hk => hk) trivial (by omega) (by omega) (Below.refl _ _) (Nat.le_refl _) ?_;intro v158 w10 ho11 hb hg_ hnew_;clear hg_ hnew_;(first|rw [← Ny157.out] at ho11|(simp only [Int.reduceToNat] at ho11;rw [← Ny157.out] at ho11));have n0_ := Aside0.mk (Kd.R_below (by (with_reducible repeat (first|apply Kd.R_alloc|apply Kd.R_drewN|apply Kd.R_drew));exact HO156.out) hb);have n1_ := Aside0.mk (Kd.R_lower ho11 (below_size (by repeat (first|(with_reducible first|exact HB.out|apply below_alloc|apply pw_below_drewN|apply below_drew1)|exact HB.out))));have n2_ := Aside0.mk (below_step (by repeat (first|(with_reducible first|exact HB.out|apply below_alloc|apply pw_below_drewN|apply below_drew1)|exact HB.out)) hb);clear HO156;clear HB;have HO156 := n0_;have HO159 := n1_;have HB := n2_;clear n0_ n1_ n2_;clear hb ho11))
   (try simp only [Act.put,List.setIfInBounds_toArray,List.set_cons_zero,List.set_cons_succ])
   go_cut [] (fun wc => ∃ (kq : Nat) (x14_7 : List Int),Aside0 (strandlineref17_Add.j1 kq a0 l3 t152 t153 x14_7 = some (r1,r2,r3)) ∧ Aside0 (kq ≤ k) ∧ Aside0 (Kd.R k94 94 wc w.heap.size (fun _ => True) v155 t152) ∧ Aside0 (Kd.R (Kd.int .u8) 5 wc w.heap.size (fun _ => True) v158 x14_7) ∧ Aside0 (Below w.heap.size w wc))
   case first =>
    have H := HC8.out
    clear HC8
    have H' := Aside0.mk H
    clear H
    go_wp2
    go_loopg [15] k (fun kq v15 w' => ∃ (x14_1 : List Int) (x15_1 : Int),v15 = .int .i64 x15_1 ∧ Aside0 (strandlineref17_Add.l0 kq a0 l1 l3 t152 t153 x14_1 x15_1 = some (r1,r2,r3)) ∧ Aside0 (kq ≤ k) ∧ Aside0 (Kd.R k94 94 w' w.heap.size (fun _ => True) v155 t152) ∧ Aside0 (Kd.R (Kd.int .u8) 5 w' w.heap.size (fun _ => True) v158 x14_1) ∧ Aside0 (Below w.heap.size w w'))
    case atStart => exact ⟨(y157),(0),(by first|rfl|(simp;done)|(simp [*];done)),H',⟨Nat.le_refl _⟩,⟨by (with_reducible repeat (first|apply Kd.R_alloc|apply Kd.R_drewN|apply Kd.R_drew));exact HO156.out⟩,⟨by (with_reducible repeat (first|apply Kd.R_alloc|apply Kd.R_drewN|apply Kd.R_drew));exact HO159.out⟩,⟨by repeat (first|(with_reducible first|exact HB.out|apply below_alloc|apply pw_below_drewN|apply below_drew1)|exact HB.out)⟩⟩
    case round =>
     clear H'
     try clear c1
     try clear p2
     try clear c3
     try clear c6
     try clear c7
     try clear c7b0
     try clear c7b1
     obtain ⟨x14_1,x15_1,rfl,HA,HK1,HO_11,HO_14,HB⟩ := hrel
     cases gk with
     |zero => exact absurd HA.out (by simp [strandlineref17_Add.l0])
     |succ k1 =>
      have H := HA.out
      clear HA
      simp only [strandlineref17_Add.l0] at H
      by_cases c12 : x15_1 < 832
      ·rw [if_pos c12] at H
       have c12b0 : decide (x15_1 < 832) = true := decide_eq_true c12
       clear c12
       (first|rw [c12b0]|(simp only [i64_w,i32_w];rw [c12b0])|skip)
       by_cases c13 : x15_1 < (l1.length : Int)
       ·rw [if_pos c13] at H
        have c13b0 : decide (x15_1 < (l1.length : Int)) = true := decide_eq_true c13
        clear c13
        by_cases c14 : 0 ≤ x15_1
        ·rw [if_pos c14] at H
         have c14b0 : decide (0 ≤ x15_1) = true := decide_eq_true c14
         clear c14
         by_cases c15 : x15_1 < (x14_1.length : Int)
         ·rw [if_pos c15] at H
          have c15b0 : decide (x15_1 < (x14_1.length : Int)) = true := decide_eq_true c15
          clear c15
          obtain ⟨y161,hy161⟩ : ∃ y_ : List Int,y_ = (x14_1.set (x15_1 : Int).toNat (rd l1 x15_1)) := ⟨_,rfl⟩
          replace H : (strandlineref17_Add.l0 k1 a0 l1 l3 t152 t153 y161 (wrap64 (x15_1 + 1))) = some (r1,r2,r3) := by first|(rw [hy161];with_reducible exact H)|(have H2_ := (Option.bind_some _ _).symm.trans H;rw [hy161];with_reducible exact H2_)|(have H2_ := (Option.bind_some _ _).symm.trans H;with_reducible exact H2_)|with_reducible exact H|(rw [hy161];exact H)|exact H
          have Ny161 := Aside0.mk hy161
          clear hy161
          have H' := Aside0.mk H
          clear H
          have p160 : 0 ≤ (x15_1 : Int) := of_decide_eq_true (by first|(with_reducible assumption)|assumption)
          have q160 : x15_1 < (l1.length : Int) := of_decide_eq_true (by first|(with_reducible assumption)|assumption)
          obtain ⟨ad160,e160,hx160_0⟩ := Kd.at_int HR1.out x15_1 p160 q160
          cases e160
          replace hx160_0 := (HB.out.cell (World.block_lt_of_cell? w _ hx160_0)).trans hx160_0
          replace p160 := eq_true p160
          replace q160 := eq_true q160
          have p16 : 0 ≤ (x15_1 : Int) := of_decide_eq_true (by first|(with_reducible assumption)|assumption)
          have q16 : (x15_1 : Int) < ((x14_1.length : Int) : Int) := of_decide_eq_true (by first|(with_reducible assumption)|assumption)
          obtain ⟨go16,co16,eo16,gb16,gl16,cl16,HG16⟩ := Kd.R_form HO_14.out (by omega)
          (first|cases eo16|(injection eo16 with ea_ en_ ec_;(first|subst ea_|(injection ea_ with ea_;subst ea_));subst ec_;clear en_))
          have GB16 := Aside0.mk gb16
          have GG16 := Aside0.mk HG16
          clear gb16 gl16 HG16
          obtain ⟨hx16_0,hf16_0⟩ := Kd.R_celln 0 HO_14.out (x15_1 : Int) p16 q16
          replace p16 := eq_true p16
          replace q16 := eq_true q16
          have HP17 := Kd.R_putg HO_14.out (x15_1 : Int) (rd l1 x15_1)
          go_wp2_with (first|((with_reducible refine gate_store (t := 5) (p := 46) rfl ?_);refine store_event (t := 5) (p := 46) (v := ?vo_w18) (w1 := (wr.setCell ⟨go16,(x15_1 : Int).toNat,none⟩ (.int .u8 (rd l1 x15_1)))) ?hg ?ho ?hn ?hr ?_;(case ho => rfl);(case hg => rfl);(case hn => rfl);(case hr => first|(go_simp;done)|(go_simp;rfl));intro w18 hw;have hg : wr.grownBy w18 (some go16) := (by rw [hw];exact HP17.2);have hp_ : Kd.R (Kd.int .u8) 5 w18 w.heap.size (fun _ => True) (.slice (some ⟨go16,0,none⟩) x14_1.length co16) y161 := (by rw [hw,Ny161.out];exact HP17.1);clear HP17;have n0_ := Aside0.mk (Kd.R_over' (v := (.slice (some ⟨go16,0,none⟩) x14_1.length co16)) (by (with_reducible repeat (first|apply Kd.R_alloc|apply Kd.R_drewN|apply Kd.R_drew));exact HO_11.out) (Kd.R_typed HO_14.out) (by decide) hg);have n1_ := Aside0.mk (hp_);have n2_ := Aside0.mk ((by rw [hw];exact below_set (HB.out) GB16.out : Below w.heap.size w w18));clear HO_11;clear HO_14;clear HB;have HO_11 := n0_;have HO_14 := n1_;have HB := n2_;clear n0_ n1_ n2_;clear hg hw hp_))
          go_roundg k1
          case measure => have := HK1.out;omega
          case rel => exact ⟨(y161),(wrap64 (x15_1 + 1)),(by first|rfl|(simp;done)|(simp [*];done)),H',⟨by have := HK1.out;omega⟩,⟨by (with_reducible repeat (first|apply Kd.R_alloc|apply Kd.R_drewN|apply Kd.R_drew));exact HO_11.out⟩,⟨by (with_reducible repeat (first|apply Kd.R_alloc|apply Kd.R_drewN|apply Kd.R_drew));exact HO_14.out⟩,⟨by repeat (first|(with_reducible first|exact HB.out|apply below_alloc|apply pw_below_drewN|apply below_drew1)|exact HB.out)⟩⟩
         ·rw [if_neg c15] at H
          exact absurd H (by simp)
        ·rw [if_neg c14] at H
         exact absurd H (by simp)
       ·rw [if_neg c13] at H
        have c13b0 : decide (x15_1 < (l1.length : Int)) = false := decide_eq_false c13
        clear c13
        have H' := Aside0.mk H
        clear H
        go_wp2
        go_meet
        case rel => exact ⟨_,(x14_1),H',⟨by have := HK1.out;first|omega|exact Nat.le_refl _⟩,⟨by (with_reducible repeat (first|apply Kd.R_alloc|apply Kd.R_drewN|apply Kd.R_drew));exact HO_11.out⟩,⟨by (with_reducible repeat (first|apply Kd.R_alloc|apply Kd.R_drewN|apply Kd.R_drew));exact HO_14.out⟩,⟨by repeat (first|(with_reducible first|exact HB.out|apply below_alloc|apply pw_below_drewN|apply below_drew1)|exact HB.out)⟩⟩
      ·rw [if_neg c12] at H
       have c12b0 : decide (x15_1 < 832) = false := decide_eq_false c12
       clear c12
       (first|rw [c12b0]|(simp only [i64_w,i32_w];rw [c12b0])|skip)
       have H' := Aside0.mk H
       clear H
       go_wp2
       go_meet
       case rel => exact ⟨_,(x14_1),H',⟨by have := HK1.out;first|omega|exact Nat.le_refl _⟩,⟨by (with_reducible repeat (first|apply Kd.R_alloc|apply Kd.R_drewN|apply Kd.R_drew));exact HO_11.out⟩,⟨by (with_reducible repeat (first|apply Kd.R_alloc|apply Kd.R_drewN|apply Kd.R_drew));exact HO_14.out⟩,⟨by repeat (first|(with_reducible first|exact HB.out|apply below_alloc|apply pw_below_drewN|apply below_drew1)|exact HB.out)⟩⟩
   case rest =>
    clear HC8
    try clear c1
    try clear p1
    try clear q1
    try clear hx1
    try clear p2
    try clear c3
    try clear c6
    try clear p6
    try clear c7
    try clear c7b0
    try clear c7b1
    try clear c12
    try clear c12b0
    try clear c13
    try clear c13b0
    try clear c14
    try clear c14b0
    try clear c15
    try clear c15b0
    try clear p16
    try clear q16
    try clear hx16
    try clear hf16
    try clear hx160_0
    try clear hx16_0
    try clear p16
    try clear p160
    try clear p2
    try clear q16
    try clear q160
    obtain ⟨kq,x14_7,HA,HJ7,HO_11,HO_14,HB⟩ := hcut
    cases kq with
    |zero => exact absurd HA.out (by simp [strandlineref17_Add.j1])
    |succ kj7 =>
     have H := HA.out
     clear HA
     simp only [strandlineref17_Add.j1] at H
     have H' := Aside0.mk H
     clear H
     go_wp2
     go_loopg [16] kj7 (fun kq v16 w' => ∃ (x14_2 : List Int) (x16_2 : Int),v16 = .int .i64 x16_2 ∧ Aside0 (strandlineref17_Add.l1 kq a0 l3 t152 t153 x14_2 x16_2 = some (r1,r2,r3)) ∧ Aside0 (kq ≤ kj7) ∧ Aside0 (Kd.R k94 94 w' w.heap.size (fun _ => True) v155 t152) ∧ Aside0 (Kd.R (Kd.int .u8) 5 w' w.heap.size (fun _ => True) v158 x14_2) ∧ Aside0 (Below w.heap.size w w'))
     case atStart => exact ⟨(x14_7),(0),(by first|rfl|(simp;done)|(simp [*];done)),H',⟨Nat.le_refl _⟩,⟨by (with_reducible repeat (first|apply Kd.R_alloc|apply Kd.R_drewN|apply Kd.R_drew));exact HO_11.out⟩,⟨by (with_reducible repeat (first|apply Kd.R_alloc|apply Kd.R_drewN|apply Kd.R_drew));exact HO_14.out⟩,⟨by repeat (first|(with_reducible first|exact HB.out|apply below_alloc|apply pw_below_drewN|apply below_drew1)|exact HB.out)⟩⟩
     case round =>
      clear H'
      try clear c1
      try clear p1
      try clear q1
      try clear hx1
      try clear p2
      try clear c3
      try clear c6
      try clear p6
      try clear c7
      try clear c7b0
      try clear c7b1
      try clear c12
      try clear c12b0
      try clear c13
      try clear c13b0
      try clear c14
      try clear c14b0
      try clear c15
      try clear c15b0
      try clear p16
      try clear q16
      try clear hx16
      try clear hf16
      try clear hx160_0
      try clear hx16_0
      try clear p1
      try clear p16
      try clear p160
      try clear p2
      try clear p6
      try clear q1
      try clear q16
      try clear q160
      obtain ⟨x14_2,x16_2,rfl,HA,HK2,HO_11,HO_14,HB⟩ := hrel
      cases gk with
      |zero => exact absurd HA.out (by simp [strandlineref17_Add.l1])
      |succ k2 =>
       have H := HA.out
       clear HA
       simp only [strandlineref17_Add.l1] at H
       by_cases c19 : x16_2 < (t152.length : Int)
       ·rw [if_pos c19] at H
        have c19b0 : decide (x16_2 < (t152.length : Int)) = true := decide_eq_true c19
        clear c19
        by_cases c20 : 0 ≤ x16_2
        ·rw [if_pos c20] at H
         have c20b0 : decide (0 ≤ x16_2) = true := decide_eq_true c20
         clear c20
         by_cases c21 : 0 ≤ ((rd_T94 t152 x16_2).f2)
         ·rw [if_pos c21] at H
          have c21b0 := eq_true c21
          have c21b1 : decide (0 ≤ ((rd_T94 t152 x16_2).f2)) = true := decide_eq_true c21
          clear c21
          by_cases c22 : ((rd_T94 t152 x16_2).f2) ≤ ((rd_T94 t152 x16_2).f3)
          ·rw [if_pos c22] at H
           have c22b0 := eq_true c22
           have c22b1 : decide (((rd_T94 t152 x16_2).f2) ≤ ((rd_T94 t152 x16_2).f3)) = true := decide_eq_true c22
           clear c22
           by_cases c23 : ((rd_T94 t152 x16_2).f3) ≤ (l3.length : Int)
           ·rw [if_pos c23] at H
            have c23b0 := eq_true c23
            have c23b1 : decide (((rd_T94 t152 x16_2).f3) ≤ (l3.length : Int)) = true := decide_eq_true c23
            clear c23
            replace H := Option.bind_eq_some_iff.mp H
            obtain ⟨t166,A240,H⟩ := H
            replace H : (strandlineref17_Add.l2 k2 a0 l3 t152 t153 x14_2 x16_2 t166 0) = some (r1,r2,r3) := H
            have A24 := Aside0.mk A240
            clear A240
            have H' := Aside0.mk H
            clear H
            obtain ⟨Ao25,co25,eo25⟩ := Kd.R_slice HO_11.out
            subst eo25
            try go_wp2
            have n0_ := Aside0.mk (Kd.R_drew HO_11.out)
            have n1_ := Aside0.mk (Kd.R_drew HO_14.out)
            have n2_ := Aside0.mk (below_drew1 HB.out)
            clear HO_11
            clear HO_14
            clear HB
            have HO_11 := n0_
            have HO_14 := n1_
            have HB := n2_
            clear n0_ n1_ n2_
            have p162 : 0 ≤ (x16_2 : Int) := of_decide_eq_true (by first|(with_reducible assumption)|assumption)
            have q162 : x16_2 < (t152.length : Int) := of_decide_eq_true (by first|(with_reducible assumption)|assumption)
            obtain ⟨ad162,e162,hx162_0,hx162_1,hx162_2,hx162_3⟩ := at_T94 (Kd.R_reads' HO_11.out).2.2 x16_2 p162 q162
            cases e162
            replace p162 := eq_true p162
            replace q162 := eq_true q162
            have p163 : 0 ≤ (x16_2 : Int) := of_decide_eq_true (by first|(with_reducible assumption)|assumption)
            have q163 : x16_2 < (t152.length : Int) := of_decide_eq_true (by first|(with_reducible assumption)|assumption)
            obtain ⟨ad163,e163,hx163_0,hx163_1,hx163_2,hx163_3⟩ := at_T94 (Kd.R_reads' HO_11.out).2.2 x16_2 p163 q163
            obtain rfl : ad162 = ad163 := (by injection e163)
            replace p163 := eq_true p163
            replace q163 := eq_true q163
            have p164 : 0 ≤ (x16_2 : Int) := of_decide_eq_true (by first|(with_reducible assumption)|assumption)
            have q164 : x16_2 < (t152.length : Int) := of_decide_eq_true (by first|(with_reducible assumption)|assumption)
            obtain ⟨ad164,e164,hx164_0,hx164_1,hx164_2,hx164_3⟩ := at_T94 (Kd.R_reads' HO_11.out).2.2 x16_2 p164 q164
            obtain rfl : ad162 = ad164 := (by injection e164)
            replace p164 := eq_true p164
            replace q164 := eq_true q164
            obtain ⟨i027,hi027,_,hsz27,_⟩ := info_parts info5
            obtain ⟨A27,hcut27,hA27,hC27⟩ := print_mid_of (P := Tryd.prog) (Value.int .u8) 0 38 5 .i64 .i64 Tryd.underlying38 hi027 hsz27 A3 c3 l3 ((rd_T94 t152 x16_2).f2) ((rd_T94 t152 x16_2).f3) (of_decide_eq_true (by first|(with_reducible assumption)|assumption)) (by first|omega|exact of_decide_eq_true (by first|(with_reducible assumption)|assumption)) (of_decide_eq_true (by first|(with_reducible assumption)|assumption)) HC3.out
            have HR165 := Aside0.mk (Kd.C_of_reads (h1 := fun _ => rfl) (hA27 _ (Kd.reads_of_C HR3.out)))
            have HC165 := Aside0.mk hC27
            clear hA27 hC27 hi027 hsz27
            refine start_ (n := 23) (S := fun w' => w'.cell? (ad162.add ((x16_2).toNat * 4)) = some (.int .i64 ((rd_T94 t152 x16_2).f0)) ∧ w'.cell? ⟨(ad162.add ((x16_2).toNat * 4)).block,(ad162.add ((x16_2).toNat * 4)).off + 1,none⟩ = some (.int .i64 ((rd_T94 t152 x16_2).f1)) ∧ w'.cell? ⟨(ad162.add ((x16_2).toNat * 4)).block,(ad162.add ((x16_2).toNat * 4)).off + 2,none⟩ = some (.int .i64 ((rd_T94 t152 x16_2).f2)) ∧ w'.cell? ⟨(ad162.add ((x16_2).toNat * 4)).block,(ad162.add ((x16_2).toNat * 4)).off + 3,none⟩ = some (.int .i64 ((rd_T94 t152 x16_2).f3)) ∧ w'.cell? (ad162.add ((x16_2).toNat * 4)) = some (.int .i64 ((rd_T94 t152 x16_2).f0)) ∧ w'.cell? ⟨(ad162.add ((x16_2).toNat * 4)).block,(ad162.add ((x16_2).toNat * 4)).off + 1,none⟩ = some (.int .i64 ((rd_T94 t152 x16_2).f1)) ∧ w'.cell? ⟨(ad162.add ((x16_2).toNat * 4)).block,(ad162.add ((x16_2).toNat * 4)).off + 2,none⟩ = some (.int .i64 ((rd_T94 t152 x16_2).f2)) ∧ w'.cell? ⟨(ad162.add ((x16_2).toNat * 4)).block,(ad162.add ((x16_2).toNat * 4)).off + 3,none⟩ = some (.int .i64 ((rd_T94 t152 x16_2).f3)) ∧ w'.cell? (ad162.add ((x16_2).toNat * 4)) = some (.int .i64 ((rd_T94 t152 x16_2).f0)) ∧ w'.cell? ⟨(ad162.add ((x16_2).toNat * 4)).block,(ad162.add ((x16_2).toNat * 4)).off + 1,none⟩ = some (.int .i64 ((rd_T94 t152 x16_2).f1)) ∧ w'.cell? ⟨(ad162.add ((x16_2).toNat * 4)).block,(ad162.add ((x16_2).toNat * 4)).off + 2,none⟩ = some (.int .i64 ((rd_T94 t152 x16_2).f2)) ∧ w'.cell? ⟨(ad162.add ((x16_2).toNat * 4)).block,(ad162.add ((x16_2).toNat * 4)).off + 3,none⟩ = some (.int .i64 ((rd_T94 t152 x16_2).f3))) (ds := []) #[f_,f_,f_,f_,f_,f_,f_,f_,f_,f_,f_,f_,f_,f_,f_,f_,f_,f_,f_,f_,f_,f_,f_] (by kernel_rfl) rfl rfl ⟨hx162_0,hx162_1,hx162_2,hx162_3,hx163_0,hx163_1,hx163_2,hx163_3,hx164_0,hx164_1,hx164_2,hx164_3⟩ (fun hHeld => ?_);refine with_tabW strandlineref17_Add.tab12 strandlineref17_Add.bits12 (fun HT_ HW_ => ?_)
            generalize wr.drew = w26 at HO_11 HO_14 HB HR165 hx162_0 hx162_1 hx162_2 hx162_3 hx163_0 hx163_1 hx163_2 hx163_3 hx164_0 hx164_1 hx164_2 hx164_3 hHeld ⊢
            refine pure_ (i := 0) (N := some 53) (v := ?_) (a' := ?_) #[t_,f_,f_,f_,f_,f_,f_,f_,f_,f_,f_,f_,f_,f_,f_,f_,f_,f_,f_,f_,f_,f_,f_] rfl rfl (any_of HT_.out (by kernel_rfl)) (fun _ _ _ h => h) (Or.inl ⟨by rfl,?_⟩) ?_ ?_
            rotate_left
            ·intro w'
             go_simp
             with_reducible rfl
            rotate_left
            ·simp only [ps_]
             rfl
            refine pure_ (i := 1) (N := some 54) (v := ?_) (a' := ?_) #[t_,t_,f_,f_,f_,f_,f_,f_,f_,f_,f_,f_,f_,f_,f_,f_,f_,f_,f_,f_,f_,f_,f_] rfl rfl (any_of HT_.out (by kernel_rfl)) (fun _ _ _ h => h) (Or.inl ⟨by rfl,?_⟩) ?_ ?_
            rotate_left
            ·intro w'
             go_simp
             with_reducible rfl
            rotate_left
            ·simp only [ps_]
             rfl
            refine pure_ (i := 2) (N := some 55) (v := ?_) (a' := ?_) #[t_,t_,t_,f_,f_,f_,f_,f_,f_,f_,f_,f_,f_,f_,f_,f_,f_,f_,f_,f_,f_,f_,f_] rfl rfl (any_of HT_.out (by kernel_rfl)) (fun _ _ _ h => h) (Or.inl ⟨by rfl,?_⟩) ?_ ?_
            rotate_left
            ·intro w'
             go_simp
             with_reducible rfl
            rotate_left
            ·simp only [ps_]
             rfl
            refine pure_ (i := 3) (N := some 56) (v := ?_) (a' := ?_) #[t_,t_,t_,t_,f_,f_,f_,f_,f_,f_,f_,f_,f_,f_,f_,f_,f_,f_,f_,f_,f_,f_,f_] rfl rfl (any_of HT_.out (by kernel_rfl)) (fun _ _ _ h => h) (Or.inl ⟨by rfl,?_⟩) ?_ ?_
            rotate_left
            ·intro w'
             go_simp
             with_reducible rfl
            rotate_left
            ·simp only [ps_]
             rfl
            refine pure_ (i := 5) (N := some 58) (v := ?_) (a' := ?_) #[t_,t_,t_,t_,f_,t_,f_,f_,f_,f_,f_,f_,f_,f_,f_,f_,f_,f_,f_,f_,f_,f_,f_] rfl rfl (any_of HT_.out (by kernel_rfl)) (fun _ _ _ h => h) (Or.inl ⟨by rfl,?_⟩) ?_ ?_
            rotate_left
            ·intro w'
             go_simp
             with_reducible rfl
            rotate_left
            ·simp only [ps_]
             rfl
            refine pure_ (i := 6) (N := some 59) (v := ?_) (a' := ?_) #[t_,t_,t_,t_,f_,t_,t_,f_,f_,f_,f_,f_,f_,f_,f_,f_,f_,f_,f_,f_,f_,f_,f_] rfl rfl (any_of HT_.out (by kernel_rfl)) (fun _ _ _ h => h) (Or.inl ⟨by rfl,?_⟩) ?_ ?_
            rotate_left
            ·intro w'
             go_simp
             with_reducible rfl
            rotate_left
            ·simp only [ps_]
             rfl
            refine pure_ (i := 7) (N := some 60) (v := ?_) (a' := ?_) #[t_,t_,t_,t_,f_,t_,t_,t_,f_,f_,f_,f_,f_,f_,f_,f_,f_,f_,f_,f_,f_,f_,f_] rfl rfl (any_of HT_.out (by kernel_rfl)) (fun _ _ _ h => h) (Or.inl ⟨by rfl,?_⟩) ?_ ?_
            rotate_left
            ·intro w'
             go_simp
             with_reducible rfl
            rotate_left
            ·simp only [ps_]
             rfl
            refine pure_ (i := 8) (N := some 61) (v := ?_) (a' := ?_) #[t_,t_,t_,t_,f_,t_,t_,t_,t_,f_,f_,f_,f_,f_,f_,f_,f_,f_,f_,f_,f_,f_,f_] rfl rfl (any_of HT_.out (by kernel_rfl)) (fun _ _ _ h => h) (Or.inl ⟨by rfl,?_⟩) ?_ ?_
            rotate_left
            ·intro w'
             go_simp
             with_reducible rfl
            rotate_left
            ·simp only [ps_]
             rfl
            refine pure_ (i := 9) (N := some 62) (v := ?_) (a' := ?_) #[t_,t_,t_,t_,f_,t_,t_,t_,t_,t_,f_,f_,f_,f_,f_,f_,f_,f_,f_,f_,f_,f_,f_] rfl rfl (any_of HT_.out (by kernel_rfl)) (fun _ _ _ h => h) (Or.inl ⟨by rfl,?_⟩) ?_ ?_
            rotate_left
            ·intro w'
             go_simp
             with_reducible rfl
            rotate_left
            ·simp only [ps_]
             rfl
            refine pure_ (i := 10) (N := some 63) (v := ?_) (a' := ?_) #[t_,t_,t_,t_,f_,t_,t_,t_,t_,t_,t_,f_,f_,f_,f_,f_,f_,f_,f_,f_,f_,f_,f_] rfl rfl (any_of HT_.out (by kernel_rfl)) (fun _ _ _ h => h) (Or.inl ⟨by rfl,?_⟩) ?_ ?_
            rotate_left
            ·intro w'
             go_simp
             with_reducible rfl
            rotate_left
            ·simp only [ps_]
             rfl
            refine pure_ (i := 11) (N := some 64) (v := ?_) (a' := ?_) #[t_,t_,t_,t_,f_,t_,t_,t_,t_,t_,t_,t_,f_,f_,f_,f_,f_,f_,f_,f_,f_,f_,f_] rfl rfl (any_of HT_.out (by kernel_rfl)) (fun _ _ _ h => h) (Or.inl ⟨by rfl,?_⟩) ?_ ?_
            rotate_left
            ·intro w'
             go_simp
             with_reducible rfl
            rotate_left
            ·simp only [ps_]
             rfl
            refine pure_ (i := 12) (N := some 65) (v := ?_) (a' := ?_) #[t_,t_,t_,t_,f_,t_,t_,t_,t_,t_,t_,t_,t_,f_,f_,f_,f_,f_,f_,f_,f_,f_,f_] rfl rfl (any_of HT_.out (by kernel_rfl)) (fun _ _ _ h => h) (Or.inl ⟨by rfl,?_⟩) ?_ ?_
            rotate_left
            ·intro w'
             go_simp
             with_reducible rfl
            rotate_left
            ·simp only [ps_]
             rfl
            refine pure_ (i := 14) (N := some 67) (v := ?_) (a' := ?_) #[t_,t_,t_,t_,f_,t_,t_,t_,t_,t_,t_,t_,t_,f_,t_,f_,f_,f_,f_,f_,f_,f_,f_] rfl rfl (any_of HT_.out (by kernel_rfl)) (fun _ _ _ h => h) (Or.inl ⟨by rfl,?_⟩) ?_ ?_
            rotate_left
            ·intro w'
             go_simp
             with_reducible rfl
            rotate_left
            ·simp only [ps_]
             rfl
            refine pure_ (i := 15) (N := some 68) (v := ?_) (a' := ?_) #[t_,t_,t_,t_,f_,t_,t_,t_,t_,t_,t_,t_,t_,f_,t_,t_,f_,f_,f_,f_,f_,f_,f_] rfl rfl (any_of HT_.out (by kernel_rfl)) (fun _ _ _ h => h) (Or.inl ⟨by rfl,?_⟩) ?_ ?_
            rotate_left
            ·intro w'
             go_simp
             with_reducible rfl
            rotate_left
            ·simp only [ps_]
             rfl
            refine pure_ (i := 16) (N := some 69) (v := ?_) (a' := ?_) #[t_,t_,t_,t_,f_,t_,t_,t_,t_,t_,t_,t_,t_,f_,t_,t_,t_,f_,f_,f_,f_,f_,f_] rfl rfl (any_of HT_.out (by kernel_rfl)) (fun _ _ _ h => h) (Or.inl ⟨by rfl,?_⟩) ?_ ?_
            rotate_left
            ·intro w'
             go_simp
             with_reducible rfl
            rotate_left
            ·simp only [ps_]
             rfl
            refine pure_ (i := 17) (N := some 70) (v := ?_) (a' := ?_) #[t_,t_,t_,t_,f_,t_,t_,t_,t_,t_,t_,t_,t_,f_,t_,t_,t_,t_,f_,f_,f_,f_,f_] rfl rfl (any_of HT_.out (by kernel_rfl)) (fun _ _ _ h => h) (Or.inl ⟨by rfl,?_⟩) ?_ ?_
            rotate_left
            ·intro w'
             go_simp
             with_reducible rfl
            rotate_left
            ·simp only [ps_]
             rfl
            refine take_ (i := 4) (N := some 57) (v := ?_) (a' := ?_) #[t_,t_,t_,t_,t_,t_,t_,t_,t_,t_,t_,t_,t_,f_,t_,t_,t_,t_,f_,f_,f_,f_,f_] rfl rfl (take_ofW HT_.out HW_.out (by kernel_rfl)) (fun _ _ _ h => h) (Or.inl ⟨by rfl,?_⟩) hHeld ?_ ?_
            rotate_left
            ·rintro w' ⟨s0,s1,s2,s3,s4,s5,s6,s7,s8,s9,s10,s11⟩
             go_simp
             with_reducible rfl
            rotate_left
            ·simp only [ps_]
             rfl
            refine take_ (i := 13) (N := some 66) (v := ?_) (a' := ?_) #[t_,t_,t_,t_,t_,t_,t_,t_,t_,t_,t_,t_,t_,t_,t_,t_,t_,t_,f_,f_,f_,f_,f_] rfl rfl (take_ofW HT_.out HW_.out (by kernel_rfl)) (fun _ _ _ h => h) (Or.inl ⟨by rfl,?_⟩) hHeld ?_ ?_
            rotate_left
            ·rintro w' ⟨s0,s1,s2,s3,s4,s5,s6,s7,s8,s9,s10,s11⟩
             go_simp
             with_reducible rfl
            rotate_left
            ·simp only [ps_]
             rfl
            refine take_ (i := 18) (N := some 71) (v := ?_) (a' := ?_) #[t_,t_,t_,t_,t_,t_,t_,t_,t_,t_,t_,t_,t_,t_,t_,t_,t_,t_,t_,f_,f_,f_,f_] rfl rfl (take_ofW HT_.out HW_.out (by kernel_rfl)) (fun _ _ _ h => h) (Or.inl ⟨by rfl,?_⟩) hHeld ?_ ?_
            rotate_left
            ·rintro w' ⟨s0,s1,s2,s3,s4,s5,s6,s7,s8,s9,s10,s11⟩
             go_simp
             with_reducible rfl
            rotate_left
            ·simp only [ps_]
             rfl
            refine pure_ (i := 19) (N := some 72) (v := ?_) (a' := ?_) #[t_,t_,t_,t_,t_,t_,t_,t_,t_,t_,t_,t_,t_,t_,t_,t_,t_,t_,t_,t_,f_,f_,f_] rfl rfl (any_of HT_.out (by kernel_rfl)) (fun _ _ _ h => h) (Or.inl ⟨by rfl,?_⟩) ?_ ?_
            rotate_left
            ·intro w'
             go_simp
             with_reducible rfl
            rotate_left
            ·simp only [ps_]
             rfl
            refine pure_ (i := 20) (N := some 73) (v := ?_) (a' := ?_) #[t_,t_,t_,t_,t_,t_,t_,t_,t_,t_,t_,t_,t_,t_,t_,t_,t_,t_,t_,t_,t_,f_,f_] rfl rfl (any_of HT_.out (by kernel_rfl)) (fun _ _ _ h => h) (Or.inl ⟨by rfl,?_⟩) ?_ ?_
            rotate_left
            ·intro w'
             go_simp
             with_reducible rfl
            rotate_left
            ·simp only [ps_]
             rfl
            refine one_ (i := 21) (N := some 74) #[t_,t_,t_,t_,t_,t_,t_,t_,t_,t_,t_,t_,t_,t_,t_,t_,t_,t_,t_,t_,t_,t_,f_] rfl rfl (one_of HT_.out (by kernel_rfl)) (by decide) (fun K hK => ?_)
            refine goes_ Tryd.func61 (by kernel_rfl) rfl #[.agg #[.int .i64 ((rd_T94 t152 x16_2).f1),.int .u32 ((Int.tmod a0 4294967296) % 4294967296),.slice A27 ((l3.take (((rd_T94 t152 x16_2).f3) : Int).toNat).drop (((rd_T94 t152 x16_2).f2) : Int).toNat).length (c3 - ((rd_T94 t152 x16_2).f2).toNat)]] (by rfl) rfl rfl (by (try simp only [List.map_toArray,List.map_cons,List.map_nil]);first|done|(rw [show ((l3.take (((rd_T94 t152 x16_2).f3) : Int).toNat).drop (((rd_T94 t152 x16_2).f2) : Int).toNat).length = (((rd_T94 t152 x16_2).f3).toNat - ((rd_T94 t152 x16_2).f2).toNat) from (by rw [List.length_drop,List.length_take];have h_ : (((rd_T94 t152 x16_2).f3) : Int) ≤ (l3.length : Int) := of_decide_eq_true (by first|(with_reducible assumption)|assumption);omega)] <;> rfl)|rfl|(simp only [List.length_drop,List.length_take];rfl)) ?_
            with_reducible refine (strandlineref13_Bytes.calls k2 ((rd_T94 t152 x16_2).f1) ((Int.tmod a0 4294967296) % 4294967296) _ _ ((l3.take (((rd_T94 t152 x16_2).f3) : Int).toNat).drop (((rd_T94 t152 x16_2).f2) : Int).toNat) t166 _ ?side1 ?side2 A24.out).mono ?_
            (case side1 => repeat (first|exact (Kd.C_below HR165.out HB.out)|(with_reducible refine Kd.C_alloc ?_ _)|(with_reducible refine Kd.C_drewN ?_ _)|(with_reducible refine Kd.C_drew ?_)))
            (case side2 => exact HC165.out)
            rintro e w28 ⟨v167,rfl,ho0,hb⟩
            have HS0_ := (hb.cell (World.block_lt_of_cell? _ _ (hHeld.1))).trans (hHeld.1)
            have HS1_ := (hb.cell (World.block_lt_of_cell? _ _ (hHeld.2.1))).trans (hHeld.2.1)
            have HS2_ := (hb.cell (World.block_lt_of_cell? _ _ (hHeld.2.2.1))).trans (hHeld.2.2.1)
            have HS3_ := (hb.cell (World.block_lt_of_cell? _ _ (hHeld.2.2.2.1))).trans (hHeld.2.2.2.1)
            have HS4_ := (hb.cell (World.block_lt_of_cell? _ _ (hHeld.2.2.2.2.1))).trans (hHeld.2.2.2.2.1)
            have HS5_ := (hb.cell (World.block_lt_of_cell? _ _ (hHeld.2.2.2.2.2.1))).trans (hHeld.2.2.2.2.2.1)
            have HS6_ := (hb.cell (World.block_lt_of_cell? _ _ (hHeld.2.2.2.2.2.2.1))).trans (hHeld.2.2.2.2.2.2.1)
            have HS7_ := (hb.cell (World.block_lt_of_cell? _ _ (hHeld.2.2.2.2.2.2.2.1))).trans (hHeld.2.2.2.2.2.2.2.1)
            have HS8_ := (hb.cell (World.block_lt_of_cell? _ _ (hHeld.2.2.2.2.2.2.2.2.1))).trans (hHeld.2.2.2.2.2.2.2.2.1)
            have HS9_ := (hb.cell (World.block_lt_of_cell? _ _ (hHeld.2.2.2.2.2.2.2.2.2.1))).trans (hHeld.2.2.2.2.2.2.2.2.2.1)
            have HS10_ := (hb.cell (World.block_lt_of_cell? _ _ (hHeld.2.2.2.2.2.2.2.2.2.2.1))).trans (hHeld.2.2.2.2.2.2.2.2.2.2.1)
            have HS11_ := (hb.cell (World.block_lt_of_cell? _ _ (hHeld.2.2.2.2.2.2.2.2.2.2.2))).trans (hHeld.2.2.2.2.2.2.2.2.2.2.2)
            refine ⟨_,rfl,?_⟩
            have n0_ := Aside0.mk (Kd.R_below (by (with_reducible repeat (first|apply Kd.R_alloc|apply Kd.R_drewN|apply Kd.R_drew));exact HO_11.out) hb)
            have n1_ := Aside0.mk (Kd.R_elder' (by (with_reducible repeat (first|apply Kd.R_alloc|apply Kd.R_drewN|apply Kd.R_drew));exact HO_14.out) (Kd.R_base ho0) hb)
            have n2_ := Aside0.mk (Kd.R_lower (Kd.R_new' ho0 (Kd.R_lt (by (with_reducible repeat (first|apply Kd.R_alloc|apply Kd.R_drewN|apply Kd.R_drew));exact HO_14.out))) (below_size (by repeat (first|(with_reducible first|exact HB.out|apply below_alloc|apply pw_below_drewN|apply below_drew1)|exact HB.out))))
            have n3_ := Aside0.mk (below_step (by repeat (first|(with_reducible first|exact HB.out|apply below_alloc|apply pw_below_drewN|apply below_drew1)|exact HB.out)) hb)
            clear HO_11
            clear HO_14
            clear HB
            have HO_11 := n0_
            have HO_14 := n1_
            have HO168 := n2_
            have HB := n3_
            clear n0_ n1_ n2_ n3_
            (try clear hb)
            (try clear hb2)
            (try clear hk)
            (try clear hi)
            (try clear ho0)
            refine hK.out _ _ ⟨HS0_,HS1_,HS2_,HS3_,HS4_,HS5_,HS6_,HS7_,HS8_,HS9_,HS10_,HS11_⟩ (fun hHeld => ?_)
            clear hK K
            refine norm_ (by show Act.put _ (some 74) _ = _;simp only [ps_];rfl) ?_
            refine pure_ (i := 22) (N := some 17) (v := ?_) (a' := ?_) #[t_,t_,t_,t_,t_,t_,t_,t_,t_,t_,t_,t_,t_,t_,t_,t_,t_,t_,t_,t_,t_,t_,t_] rfl rfl (any_of HT_.out (by kernel_rfl)) (fun _ _ _ h => h) (Or.inl ⟨by rfl,?_⟩) ?_ ?_
            rotate_left
            ·intro w'
             go_simp
             with_reducible rfl
            rotate_left
            ·simp only [ps_]
             rfl
            refine done_ (done_of HT_.out (by kernel_rfl)) ?_
            try go_wp2
            go_loopg [18] k2 (fun kq v18 w' => ∃ (x14_3 : List Int) (x18_3 : Int),v18 = .int .i64 x18_3 ∧ Aside0 (strandlineref17_Add.l2 kq a0 l3 t152 t153 x14_3 x16_2 t166 x18_3 = some (r1,r2,r3)) ∧ Aside0 (kq ≤ k2) ∧ Aside0 (Kd.R k94 94 w' w.heap.size (fun _ => True) (.slice (some ad162) t152.length co25) t152) ∧ Aside0 (Kd.R (Kd.int .u8) 5 w' w.heap.size (fun k_ => some k_ ≠ (v167 : Value).ownBlock) v158 x14_3) ∧ Aside0 (Kd.R (Kd.int .u8) 5 w' w.heap.size (fun k_ => some k_ ≠ (v158 : Value).ownBlock) v167 t166) ∧ Aside0 (Below w.heap.size w w'))
            case atStart => exact ⟨(x14_2),(0),(by first|rfl|(simp;done)|(simp [*];done)),H',⟨Nat.le_refl _⟩,⟨by (with_reducible repeat (first|apply Kd.R_alloc|apply Kd.R_drewN|apply Kd.R_drew));exact HO_11.out⟩,⟨by (with_reducible repeat (first|apply Kd.R_alloc|apply Kd.R_drewN|apply Kd.R_drew));exact Kd.R_mono HO_14.out (fun _ hk => hk.2)⟩,⟨by (with_reducible repeat (first|apply Kd.R_alloc|apply Kd.R_drewN|apply Kd.R_drew));exact Kd.R_mono HO168.out (fun _ hk => hk.2)⟩,⟨by repeat (first|(with_reducible first|exact HB.out|apply below_alloc|apply pw_below_drewN|apply below_drew1)|exact HB.out)⟩⟩
            case round =>
             clear H'
             try clear c1
             try clear p1
             try clear q1
             try clear hx1
             try clear c2
             try clear p2
             try clear c3
             try clear c6
             try clear p6
             try clear c7
             try clear c7b0
             try clear c7b1
             try clear c12
             try clear c12b0
             try clear c13
             try clear c13b0
             try clear c14
             try clear c14b0
             try clear c15
             try clear c15b0
             try clear p16
             try clear q16
             try clear hx16
             try clear hf16
             try clear c19
             try clear c19b0
             try clear c20
             try clear c20b0
             try clear c21
             try clear c21b0
             try clear c21b1
             try clear c22
             try clear c22b0
             try clear c22b1
             try clear c23
             try clear c23b0
             try clear c23b1
             try clear hx160_0
             try clear hx162_0
             try clear hx162_1
             try clear hx162_2
             try clear hx162_3
             try clear hx163_0
             try clear hx163_1
             try clear hx163_2
             try clear hx163_3
             try clear hx164_0
             try clear hx164_1
             try clear hx164_2
             try clear hx164_3
             try clear hx16_0
             try clear p1
             try clear p16
             try clear p160
             try clear p162
             try clear p163
             try clear p164
             try clear p2
             try clear p6
             try clear q1
             try clear q16
             try clear q160
             try clear q162
             try clear q163
             try clear q164
             obtain ⟨x14_3,x18_3,rfl,HA,HK3,HO_11,HO_14,HO_17,HB⟩ := hrel
             cases gk with
             |zero => exact absurd HA.out (by simp [strandlineref17_Add.l2])
             |succ k3 =>
              have H := HA.out
              clear HA
              simp only [strandlineref17_Add.l2] at H
              by_cases c29 : x18_3 < (t166.length : Int)
              ·rw [if_pos c29] at H
               have c29b0 : decide (x18_3 < (t166.length : Int)) = true := decide_eq_true c29
               clear c29
               by_cases c30 : 0 ≤ x16_2
               ·rw [if_pos c30] at H
                have c30b0 : decide (0 ≤ x16_2) = true := decide_eq_true c30
                clear c30
                by_cases c31 : x16_2 < (t152.length : Int)
                ·rw [if_pos c31] at H
                 have c31b0 : decide (x16_2 < (t152.length : Int)) = true := decide_eq_true c31
                 clear c31
                 by_cases c32 : 0 ≤ x18_3
                 ·rw [if_pos c32] at H
                  have c32b0 : decide (0 ≤ x18_3) = true := decide_eq_true c32
                  clear c32
                  obtain ⟨ji33,hji33⟩ : ∃ j_ : Int,(wrap64 (((rd_T94 t152 x16_2).f0) + x18_3)) = j_ := ⟨_,rfl⟩
                  replace H : (if 0 ≤ (ji33) then (if (ji33) < (x14_3.length : Int) then (strandlineref17_Add.l2 k3 a0 l3 t152 t153 (x14_3.set ((ji33) : Int).toNat (rd t166 x18_3)) x16_2 t166 (wrap64 (x18_3 + 1))) else (none)) else (none)) = some (r1,r2,r3) := by first|(rw [hji33] at H;exact H)|(simp only [hji33] at H ⊢;exact H)
                  have hji33w : (IntKind.i64.wrap (((rd_T94 t152 x16_2).f0) + x18_3)) = ji33 := (i64_w _).trans hji33
                  by_cases c34 : 0 ≤ (ji33)
                  ·rw [if_pos c34] at H
                   have c34b0 : decide (0 ≤ (ji33)) = true := decide_eq_true c34
                   clear c34
                   by_cases c35 : (ji33) < (x14_3.length : Int)
                   ·rw [if_pos c35] at H
                    have c35b0 : decide ((ji33) < (x14_3.length : Int)) = true := decide_eq_true c35
                    clear c35
                    obtain ⟨y171,hy171⟩ : ∃ y_ : List Int,y_ = (x14_3.set ((ji33) : Int).toNat (rd t166 x18_3)) := ⟨_,rfl⟩
                    replace H : (strandlineref17_Add.l2 k3 a0 l3 t152 t153 y171 x16_2 t166 (wrap64 (x18_3 + 1))) = some (r1,r2,r3) := by first|(rw [hy171];with_reducible exact H)|(have H2_ := (Option.bind_some _ _).symm.trans H;rw [hy171];with_reducible exact H2_)|(have H2_ := (Option.bind_some _ _).symm.trans H;with_reducible exact H2_)|with_reducible exact H|(rw [hy171];exact H)|exact H
                    have Ny171 := Aside0.mk hy171
                    clear hy171
                    have H' := Aside0.mk H
                    clear H
                    obtain ⟨Ao37,co37,eo37⟩ := Kd.R_slice HO_17.out
                    subst eo37
                    try go_wp2
                    have n0_ := Aside0.mk (Kd.R_drew HO_11.out)
                    have n1_ := Aside0.mk (Kd.R_drew HO_14.out)
                    have n2_ := Aside0.mk (Kd.R_drew HO_17.out)
                    have n3_ := Aside0.mk (below_drew1 HB.out)
                    clear HO_11
                    clear HO_14
                    clear HO_17
                    clear HB
                    have HO_11 := n0_
                    have HO_14 := n1_
                    have HO_17 := n2_
                    have HB := n3_
                    clear n0_ n1_ n2_ n3_
                    have p169 : 0 ≤ (x16_2 : Int) := of_decide_eq_true (by first|(with_reducible assumption)|assumption)
                    have q169 : x16_2 < (t152.length : Int) := of_decide_eq_true (by first|(with_reducible assumption)|assumption)
                    obtain ⟨ad169,e169,hx169_0,hx169_1,hx169_2,hx169_3⟩ := at_T94 (Kd.R_reads' HO_11.out).2.2 x16_2 p169 q169
                    obtain rfl : ad162 = ad169 := (by injection e169)
                    replace p169 := eq_true p169
                    replace q169 := eq_true q169
                    have p170 : 0 ≤ (x18_3 : Int) := of_decide_eq_true (by first|(with_reducible assumption)|assumption)
                    have q170 : x18_3 < (t166.length : Int) := of_decide_eq_true (by first|(with_reducible assumption)|assumption)
                    obtain ⟨ad170,e170,hx170_0⟩ := Kd.at_int (Kd.R_reads' HO_17.out).2.2 x18_3 p170 q170
                    cases e170
                    replace p170 := eq_true p170
                    replace q170 := eq_true q170
                    have p36 : 0 ≤ ((ji33) : Int) := of_decide_eq_true (by first|(with_reducible assumption)|assumption)
                    have q36 : ((ji33) : Int) < ((x14_3.length : Int) : Int) := of_decide_eq_true (by first|(with_reducible assumption)|assumption)
                    obtain ⟨go36,co36,eo36,gb36,gl36,cl36,HG36⟩ := Kd.R_form HO_14.out (by omega)
                    (first|cases eo36|(injection eo36 with ea_ en_ ec_;(first|subst ea_|(injection ea_ with ea_;subst ea_));subst ec_;clear en_))
                    have GB36 := Aside0.mk gb36
                    have GG36 := Aside0.mk HG36
                    clear gb36 gl36 HG36
                    obtain ⟨hx36_0,hf36_0⟩ := Kd.R_celln 0 HO_14.out ((ji33) : Int) p36 q36
                    replace p36 := eq_true p36
                    replace q36 := eq_true q36
                    have HP39 := Kd.R_putn HO_14.out ((ji33) : Int) (rd t166 x18_3)
                    rw [← Ny171.out] at HP39
                    have HQ39 := Aside0.mk HP39
                    clear HP39
                    refine start_ (n := 14) (S := fun w' => w'.cell? (ad162.add ((x16_2).toNat * 4)) = some (.int .i64 ((rd_T94 t152 x16_2).f0)) ∧ w'.cell? ⟨(ad162.add ((x16_2).toNat * 4)).block,(ad162.add ((x16_2).toNat * 4)).off + 1,none⟩ = some (.int .i64 ((rd_T94 t152 x16_2).f1)) ∧ w'.cell? ⟨(ad162.add ((x16_2).toNat * 4)).block,(ad162.add ((x16_2).toNat * 4)).off + 2,none⟩ = some (.int .i64 ((rd_T94 t152 x16_2).f2)) ∧ w'.cell? ⟨(ad162.add ((x16_2).toNat * 4)).block,(ad162.add ((x16_2).toNat * 4)).off + 3,none⟩ = some (.int .i64 ((rd_T94 t152 x16_2).f3)) ∧ w'.cell? (ad170.add (x18_3).toNat) = some (.int .u8 (rd t166 x18_3))) (ds := [13]) #[f_,f_,f_,f_,f_,f_,f_,f_,f_,f_,f_,f_,f_,f_] (by kernel_rfl) rfl rfl ⟨hx169_0,hx169_1,hx169_2,hx169_3,hx170_0⟩ (fun hHeld => ?_);refine with_tabW strandlineref17_Add.tab16 strandlineref17_Add.bits16 (fun HT_ HW_ => ?_)
                    generalize wr.drew = w38 at HO_11 HO_14 HO_17 HB GG36 HQ39 hf36_0 hx169_0 hx169_1 hx169_2 hx169_3 hx170_0 hx36_0 hHeld ⊢
                    refine pure_ (i := 0) (N := some 81) (v := ?_) (a' := ?_) #[t_,f_,f_,f_,f_,f_,f_,f_,f_,f_,f_,f_,f_,f_] rfl rfl (any_of HT_.out (by kernel_rfl)) (fun _ _ _ h => h) (Or.inl ⟨by rfl,?_⟩) ?_ ?_
                    rotate_left
                    ·intro w'
                     go_simp
                     with_reducible rfl
                    rotate_left
                    ·simp only [ps_]
                     rfl
                    refine pure_ (i := 1) (N := some 82) (v := ?_) (a' := ?_) #[t_,t_,f_,f_,f_,f_,f_,f_,f_,f_,f_,f_,f_,f_] rfl rfl (any_of HT_.out (by kernel_rfl)) (fun _ _ _ h => h) (Or.inl ⟨by rfl,?_⟩) ?_ ?_
                    rotate_left
                    ·intro w'
                     go_simp
                     with_reducible rfl
                    rotate_left
                    ·simp only [ps_]
                     rfl
                    refine pure_ (i := 2) (N := some 83) (v := ?_) (a' := ?_) #[t_,t_,t_,f_,f_,f_,f_,f_,f_,f_,f_,f_,f_,f_] rfl rfl (any_of HT_.out (by kernel_rfl)) (fun _ _ _ h => h) (Or.inl ⟨by rfl,?_⟩) ?_ ?_
                    rotate_left
                    ·intro w'
                     go_simp
                     with_reducible rfl
                    rotate_left
                    ·simp only [ps_]
                     rfl
                    refine pure_ (i := 3) (N := some 84) (v := ?_) (a' := ?_) #[t_,t_,t_,t_,f_,f_,f_,f_,f_,f_,f_,f_,f_,f_] rfl rfl (any_of HT_.out (by kernel_rfl)) (fun _ _ _ h => h) (Or.inl ⟨by rfl,?_⟩) ?_ ?_
                    rotate_left
                    ·intro w'
                     go_simp
                     with_reducible rfl
                    rotate_left
                    ·simp only [ps_]
                     rfl
                    refine pure_ (i := 4) (N := some 85) (v := ?_) (a' := ?_) #[t_,t_,t_,t_,t_,f_,f_,f_,f_,f_,f_,f_,f_,f_] rfl rfl (any_of HT_.out (by kernel_rfl)) (fun _ _ _ h => h) (Or.inl ⟨by rfl,?_⟩) ?_ ?_
                    rotate_left
                    ·intro w'
                     go_simp
                     with_reducible rfl
                    rotate_left
                    ·simp only [ps_]
                     rfl
                    refine pure_ (i := 6) (N := some 87) (v := ?_) (a' := ?_) #[t_,t_,t_,t_,t_,f_,t_,f_,f_,f_,f_,f_,f_,f_] rfl rfl (any_of HT_.out (by kernel_rfl)) (fun _ _ _ h => h) (Or.inl ⟨by rfl,?_⟩) ?_ ?_
                    rotate_left
                    ·intro w'
                     go_simp
                     with_reducible rfl
                    rotate_left
                    ·simp only [ps_]
                     rfl
                    refine pure_ (i := 8) (N := some 89) (v := ?_) (a' := ?_) #[t_,t_,t_,t_,t_,f_,t_,f_,t_,f_,f_,f_,f_,f_] rfl rfl (any_of HT_.out (by kernel_rfl)) (fun _ _ _ h => h) (Or.inl ⟨by rfl,?_⟩) ?_ ?_
                    rotate_left
                    ·intro w'
                     go_simp
                     with_reducible rfl
                    rotate_left
                    ·simp only [ps_]
                     rfl
                    refine pure_ (i := 9) (N := some 90) (v := ?_) (a' := ?_) #[t_,t_,t_,t_,t_,f_,t_,f_,t_,t_,f_,f_,f_,f_] rfl rfl (any_of HT_.out (by kernel_rfl)) (fun _ _ _ h => h) (Or.inl ⟨by rfl,?_⟩) ?_ ?_
                    rotate_left
                    ·intro w'
                     go_simp
                     with_reducible rfl
                    rotate_left
                    ·simp only [ps_]
                     rfl
                    refine pure_ (i := 10) (N := some 91) (v := ?_) (a' := ?_) #[t_,t_,t_,t_,t_,f_,t_,f_,t_,t_,t_,f_,f_,f_] rfl rfl (any_of HT_.out (by kernel_rfl)) (fun _ _ _ h => h) (Or.inl ⟨by rfl,?_⟩) ?_ ?_
                    rotate_left
                    ·intro w'
                     go_simp
                     with_reducible rfl
                    rotate_left
                    ·simp only [ps_]
                     rfl
                    refine take_ (i := 5) (N := some 86) (v := ?_) (a' := ?_) #[t_,t_,t_,t_,t_,t_,t_,f_,t_,t_,t_,f_,f_,f_] rfl rfl (take_ofW HT_.out HW_.out (by kernel_rfl)) (fun _ _ _ h => h) (Or.inl ⟨by rfl,?_⟩) hHeld ?_ ?_
                    rotate_left
                    ·rintro w' ⟨s0,s1,s2,s3,s4⟩
                     go_simp
                     with_reducible rfl
                    rotate_left
                    ·simp only [ps_]
                     rfl
                    refine pure_ (i := 7) (N := some 88) (v := ?_) (a' := ?_) #[t_,t_,t_,t_,t_,t_,t_,t_,t_,t_,t_,f_,f_,f_] rfl rfl (any_of HT_.out (by kernel_rfl)) (fun _ _ _ h => h) (Or.inl ⟨by rfl,?_⟩) ?_ ?_
                    rotate_left
                    ·intro w'
                     go_simp
                     with_reducible rfl
                    rotate_left
                    ·simp only [ps_]
                     rfl
                    refine take_ (i := 11) (N := some 92) (v := ?_) (a' := ?_) #[t_,t_,t_,t_,t_,t_,t_,t_,t_,t_,t_,t_,f_,f_] rfl rfl (take_ofW HT_.out HW_.out (by kernel_rfl)) (fun _ _ _ h => h) (Or.inl ⟨by rfl,?_⟩) hHeld ?_ ?_
                    rotate_left
                    ·rintro w' ⟨s0,s1,s2,s3,s4⟩
                     go_simp
                     with_reducible rfl
                    rotate_left
                    ·simp only [ps_]
                     rfl
                    refine pure_ (i := 12) (N := some 93) (v := ?_) (a' := ?_) #[t_,t_,t_,t_,t_,t_,t_,t_,t_,t_,t_,t_,t_,f_] rfl rfl (any_of HT_.out (by kernel_rfl)) (fun _ _ _ h => h) (Or.inl ⟨by rfl,?_⟩) ?_ ?_
                    rotate_left
                    ·intro w'
                     go_simp
                     with_reducible rfl
                    rotate_left
                    ·simp only [ps_]
                     rfl
                    refine last_ (i := 13) (N := none) #[t_,t_,t_,t_,t_,t_,t_,t_,t_,t_,t_,t_,t_,t_] rfl rfl (one_of HT_.out (by kernel_rfl)) (by decide) (fun K hK => ?_)
                    refine skip_ (w1 := ?_) (by rfl) rfl ?_ ?_
                    rotate_left
                    ·go_simp
                     rfl
                    refine hK.out _ _ ?_
                    clear hK K
                    refine done_ (done_of HT_.out (by kernel_rfl)) ?_
                    try go_wp2
                    go_roundg k3
                    case measure => have := HJ7.out;have := HK2.out;have := HK3.out;omega
                    case rel => exact ⟨(y171),(wrap64 (x18_3 + 1)),(by first|rfl|(simp;done)|(simp [*];done)),H',⟨by have := HJ7.out;have := HK2.out;have := HK3.out;omega⟩,⟨by (with_reducible repeat (first|apply Kd.R_alloc|apply Kd.R_drewN|apply Kd.R_drew));exact Kd.R_mono (Kd.R_far (p := ⟨go36,((ji33) : Int).toNat,none⟩) (Kd.R_types HO_11.out GG36.out (by decide)) (fun _ hk => hk.2) (.int .u8 (rd t166 x18_3))) (fun _ hk => trivial)⟩,⟨by (with_reducible repeat (first|apply Kd.R_alloc|apply Kd.R_drewN|apply Kd.R_drew));exact HQ39.out⟩,⟨by (with_reducible repeat (first|apply Kd.R_alloc|apply Kd.R_drewN|apply Kd.R_drew));exact Kd.R_mono (Kd.R_far (p := ⟨go36,((ji33) : Int).toNat,none⟩) (Kd.R_mono HO_17.out (fun k_ hk => (⟨hk,fun e_ => hk (by rw [e_];rfl)⟩ : _ ∧ k_ ≠ go36))) (fun _ hk => hk.2) (.int .u8 (rd t166 x18_3))) (fun _ hk => hk.1)⟩,⟨by repeat (first|(with_reducible first|exact HB.out|apply below_alloc|apply pw_below_drewN|apply below_drew1|refine below_set ?_ GB36.out)|exact HB.out)⟩⟩
                   ·rw [if_neg c35] at H
                    exact absurd H (by simp)
                  ·rw [if_neg c34] at H
                   exact absurd H (by simp)
                 ·rw [if_neg c32] at H
                  exact absurd H (by simp)
                ·rw [if_neg c31] at H
                 exact absurd H (by simp)
               ·rw [if_neg c30] at H
                exact absurd H (by simp)
              ·rw [if_neg c29] at H
               have c29b0 : decide (x18_3 < (t166.length : Int)) = false := decide_eq_false c29
               clear c29
               have H' := Aside0.mk H
               clear H
               obtain ⟨Ao40,co40,eo40⟩ := Kd.R_slice HO_17.out
               subst eo40
               go_wp2
               go_roundg k3
               case measure => have := HJ7.out;have := HK2.out;have := HK3.out;omega
               case rel => exact ⟨(x14_3),(wrap64 (x16_2 + 1)),(by first|rfl|(simp;done)|(simp [*];done)),H',⟨by have := HJ7.out;have := HK2.out;have := HK3.out;omega⟩,⟨by (with_reducible repeat (first|apply Kd.R_alloc|apply Kd.R_drewN|apply Kd.R_drew));exact HO_11.out⟩,⟨by (with_reducible repeat (first|apply Kd.R_alloc|apply Kd.R_drewN|apply Kd.R_drew));exact Kd.R_mono HO_14.out (fun _ hk => trivial)⟩,⟨by repeat (first|(with_reducible first|exact HB.out|apply below_alloc|apply pw_below_drewN|apply below_drew1)|exact HB.out)⟩⟩
           ·rw [if_neg c23] at H
            exact absurd H (by simp)
          ·rw [if_neg c22] at H
           exact absurd H (by simp)
         ·rw [if_neg c21] at H
          exact absurd H (by simp)
        ·rw [if_neg c20] at H
         exact absurd H (by simp)
       ·rw [if_neg c19] at H
        have c19b0 : decide (x16_2 < (t152.length : Int)) = false := decide_eq_false c19
        clear c19
        simp only [Option.some.injEq,Prod.mk.injEq] at H
        obtain ⟨rfl,rfl,rfl⟩ := H
        obtain ⟨Ao41,co41,eo41⟩ := Kd.R_slice HO_11.out
        subst eo41
        go_wp2
        go_ret3
        exact ⟨_,by first|rfl|(simp [errW_none,errW_some] <;> rfl)|(simp [*,errW_none,errW_some] <;> rfl),by (with_reducible repeat (first|apply Kd.R_alloc|apply Kd.R_drewN|apply Kd.R_drew));exact HO_14.out,by repeat (first|(with_reducible first|exact HB.out|apply below_alloc|apply pw_below_drewN|apply below_drew1)|exact HB.out)⟩
  ·rw [if_neg c7] at H
   exact absurd H (by simp)
 ·replace c6 := Bool.eq_false_iff.mpr c6
  subst c6
  have H1 : (some (([] : List Int),0,false)) = some (r1,r2,r3) := by rw [if_neg (show ¬ (false = true) by decide)] at H;exact H
  clear H
  have H := H1
  clear H1
  simp only [Option.some.injEq,Prod.mk.injEq] at H
  obtain ⟨rfl,rfl,rfl⟩ := H
  go_enter Tryd.func36,Tryd.ntmps36
  go_wp2_with (first|((with_reducible refine gate_callee (f := 38) rfl ?_);refine goesL_ (some 23) rfl rfl Tryd.func38 (by kernel_rfl) rfl #[.int .i64 a2,.int .i64 (l3.length : Int)] rfl (by (try simp only [List.map_toArray,List.map_cons,List.map_nil]);first|done|rfl|(simp only [List.length_drop,List.length_take];rfl)) ?_;(with_reducible refine (strandlineref14_Cut.calls k a2 (l3.length : Int) t152 t153 false _ A5.out).mono ?_);rintro e w42 ⟨v155,rfl,ho0,hb⟩;refine ⟨_,rfl,?_⟩;have n0_ := Aside0.mk (Kd.R_lower ho0 (below_size (by repeat (first|(with_reducible first|exact HB.out|apply below_alloc|apply pw_below_drewN|apply below_drew1)|exact HB.out))));have n1_ := Aside0.mk (below_step (by repeat (first|(with_reducible first|exact HB.out|apply below_alloc|apply pw_below_drewN|apply below_drew1)|exact HB.out)) hb);clear HB;have HO156 := n0_;have HB := n1_;clear n0_ n1_;(try clear hb);(try clear hb2);(try clear hk);(try clear hi);(try clear ho0)))
  go_ret3
  exact ⟨_,by first|rfl|(simp [errW_none,errW_some] <;> rfl)|(simp [*,errW_none,errW_some] <;> rfl),by first|exact Kd.R_nil _ _ _ _ _|exact Kd.N_nil _ _ _ _ _|exact Kd.V_nil _ _ _ _ _|exact Kd.Q_nil _ _ _ _ _|exact Kd.S_nil _ _ _ _ _,by repeat (first|(with_reducible first|exact HB.out|apply below_alloc|apply pw_below_drewN|apply below_drew1)|exact HB.out)⟩
/-! ### strandlineref17_Lay: function 17 -/
def strandlineref17_Lay.l0 : Nat → Int → List (List Int) → List Int → List Int → Int → Int → Option (List Int × List Int × Int × Bool)
 |0,_,_,_,_,_,_ => none
 |k + 1,x0,x1,x8,x9,x10,x12 => if x12 < (x1.length : Int) then ((strandlineref07_Begin.f k x10).bind fun t175 => (if x9.length < 17592186044416 then (if 0 ≤ x12 then ((strandlineref17_Add.f k x0 x8 x10 (rd_L3 x1 x12)).bind fun bt180 => (if bt180.2.2 = true then (strandlineref17_Lay.l0 k x0 x1 bt180.1 (x9 ++ [t175]) bt180.2.1 (wrap64 (x12 + 1))) else (some (([] : List Int),([] : List Int),0,false)))) else (none)) else (none))) else (some (x8,x9,x10,true))
def strandlineref17_Lay.f (k : Nat) (a0 : Int) (l1 : List (List Int)) : Option (List Int × List Int × Int × Bool) := if 832 ≤ 281474976710656 then (strandlineref17_Lay.l0 k a0 l1 (List.replicate 832 0) ([] : List Int) 0 0) else (none)
set_option maxHeartbeats 8000000 in
set_option maxRecDepth 100000 in
theorem strandlineref17_Lay.calls (k : Nat) (a0 : Int) (A1 : Option Addr) (c1 : Nat) (l1 : List (List Int)) (r1 : List Int) (r2 : List Int) (r3 : Int) (r4 : Bool) (w : World) (hr1 : Kd.C (Kd.slice 5 (Kd.int .u8)) w A1 l1.length l1) (hc1 : l1.length ≤ c1) (h : strandlineref17_Lay.f k a0 l1 = some (r1,r2,r3,r4)) :
  Calls Tryd.prog 17 #[.int .u64 a0,.slice A1 l1.length c1] w fun e w' => ∃ v0_ v1_ : Value,e = .returned (.tuple #[v0_,v1_,.int .i64 r3,.bool r4]) ∧ Kd.R (Kd.int .u8) 5 w' w.heap.size (fun _ => True) v0_ r1 ∧ Kd.R (Kd.int .i64) 3 w' w.heap.size (fun _ => True) v1_ r2 ∧ Below w.heap.size w w' := by
 have hu73 := Tryd.underlying73
 have hu76 := Tryd.underlying76
 have hu83 := Tryd.underlying83
 have hu94 := Tryd.underlying94
 have hu106 := Tryd.underlying106
 have HR1 := Aside0.mk hr1
 have HC1 := Aside0.mk hc1
 clear hr1 hc1
 have HB := Aside0.mk (Below.refl w.heap.size w)
 have H : (if 832 ≤ 281474976710656 then (strandlineref17_Lay.l0 k a0 l1 (List.replicate 832 0) ([] : List Int) 0 0) else (none)) = some (r1,r2,r3,r4) := h
 clear h
 by_cases c3 : 832 ≤ 281474976710656
 ·rw [if_pos c3] at H
  have c3b0 := eq_true c3
  have c3b1 : decide (832 ≤ 281474976710656) = true := decide_eq_true c3
  clear c3
  obtain ⟨y172,hy172⟩ : ∃ y_ : List Int,y_ = (List.replicate 832 0) := ⟨_,rfl⟩
  replace H : (strandlineref17_Lay.l0 k a0 l1 y172 ([] : List Int) 0 0) = some (r1,r2,r3,r4) := by first|(rw [hy172];with_reducible exact H)|(have H2_ := (Option.bind_some _ _).symm.trans H;rw [hy172];with_reducible exact H2_)|(have H2_ := (Option.bind_some _ _).symm.trans H;with_reducible exact H2_)|with_reducible exact H|(rw [hy172];exact H)|exact H
  have Ny172 := Aside0.mk hy172
  clear hy172
  have H' := Aside0.mk H
  clear H
  go_enter Tryd.func17,Tryd.ntmps17
  go_wp2_with (first|((with_reducible refine gate_dst (N := 13) rfl ?_);refine Kd.R_make (Kd.int .u8) _ 5 rfl (N := 13) rfl 38 _ _ rfl 832 rfl rfl Tryd.underlying38 (.int .u8 0) 1 info5 rfl (by decide) (by omega) 0 (ok := fun _ => True) (okp := fun _ => True) rfl (fun _ hk => hk) trivial (by omega) (by omega) (Below.refl _ _) (Nat.le_refl _) ?_;intro v173 w4 ho5 hb hg_ hnew_;clear hg_ hnew_;(first|rw [← Ny172.out] at ho5|(simp only [Int.reduceToNat] at ho5;rw [← Ny172.out] at ho5));have n0_ := Aside0.mk (Kd.R_lower ho5 (below_size (by repeat (first|(with_reducible first|exact HB.out|apply below_alloc|apply pw_below_drewN|apply below_drew1)|exact HB.out))));have n1_ := Aside0.mk (below_step (by repeat (first|(with_reducible first|exact HB.out|apply below_alloc|apply pw_below_drewN|apply below_drew1)|exact HB.out)) hb);clear HB;have HO174 := n0_;have HB := n1_;clear n0_ n1_;clear hb ho5))
  go_loopg [8,9,10,12] k (fun kq v8 v9 v10 v12 w' => ∃ (x8_1 : List Int) (x9_1 : List Int) (x10_1 : Int) (x12_1 : Int),v10 = .int .i64 x10_1 ∧ v12 = .int .i64 x12_1 ∧ Aside0 (strandlineref17_Lay.l0 kq a0 l1 x8_1 x9_1 x10_1 x12_1 = some (r1,r2,r3,r4)) ∧ Aside0 (kq ≤ k) ∧ Aside0 (Kd.R (Kd.int .u8) 5 w' w.heap.size (fun _ => True) v8 x8_1) ∧ Aside0 (Kd.R (Kd.int .i64) 3 w' w.heap.size (fun _ => True) v9 x9_1) ∧ Aside0 (Below w.heap.size w w'))
  case atStart => exact ⟨(y172),(([] : List Int)),(0),(0),(by first|rfl|(simp;done)|(simp [*];done)),(by first|rfl|(simp;done)|(simp [*];done)),H',⟨Nat.le_refl _⟩,⟨by (with_reducible repeat (first|apply Kd.R_alloc|apply Kd.R_drewN|apply Kd.R_drew));exact HO174.out⟩,⟨by first|exact Kd.R_nil _ _ _ _ _|exact Kd.N_nil _ _ _ _ _|exact Kd.V_nil _ _ _ _ _|exact Kd.Q_nil _ _ _ _ _|exact Kd.S_nil _ _ _ _ _⟩,⟨by repeat (first|(with_reducible first|exact HB.out|apply below_alloc|apply pw_below_drewN|apply below_drew1)|exact HB.out)⟩⟩
  case round =>
   clear H'
   try clear c1
   try clear p2
   try clear c3
   try clear c3b0
   try clear c3b1
   obtain ⟨x8_1,x9_1,x10_1,x12_1,rfl,rfl,HA,HK1,HO_8,HO_9,HB⟩ := hrel
   cases gk with
   |zero => exact absurd HA.out (by simp [strandlineref17_Lay.l0])
   |succ k1 =>
    have H := HA.out
    clear HA
    simp only [strandlineref17_Lay.l0] at H
    by_cases c6 : x12_1 < (l1.length : Int)
    ·rw [if_pos c6] at H
     have c6b0 : decide (x12_1 < (l1.length : Int)) = true := decide_eq_true c6
     clear c6
     replace H := Option.bind_eq_some_iff.mp H
     obtain ⟨t175,A70,H⟩ := H
     replace H : (if x9_1.length < 17592186044416 then (if 0 ≤ x12_1 then ((strandlineref17_Add.f k1 a0 x8_1 x10_1 (rd_L3 l1 x12_1)).bind fun bt180 => (if bt180.2.2 = true then (strandlineref17_Lay.l0 k1 a0 l1 bt180.1 (x9_1 ++ [t175]) bt180.2.1 (wrap64 (x12_1 + 1))) else (some (([] : List Int),([] : List Int),0,false)))) else (none)) else (none)) = some (r1,r2,r3,r4) := H
     have A7 := Aside0.mk A70
     clear A70
     by_cases c8 : x9_1.length < 17592186044416
     ·rw [if_pos c8] at H
      have LMc8 := Aside0.mk c8
      clear c8
      obtain ⟨y176,hy176⟩ : ∃ y_ : List Int,y_ = (x9_1 ++ [t175]) := ⟨_,rfl⟩
      replace H : (if 0 ≤ x12_1 then ((strandlineref17_Add.f k1 a0 x8_1 x10_1 (rd_L3 l1 x12_1)).bind fun bt180 => (if bt180.2.2 = true then (strandlineref17_Lay.l0 k1 a0 l1 bt180.1 y176 bt180.2.1 (wrap64 (x12_1 + 1))) else (some (([] : List Int),([] : List Int),0,false)))) else (none)) = some (r1,r2,r3,r4) := by first|(rw [hy176];with_reducible exact H)|(have H2_ := (Option.bind_some _ _).symm.trans H;rw [hy176];with_reducible exact H2_)|(have H2_ := (Option.bind_some _ _).symm.trans H;with_reducible exact H2_)|with_reducible exact H|(rw [hy176];exact H)|exact H
      have Ny176 := Aside0.mk hy176
      clear hy176
      by_cases c9 : 0 ≤ x12_1
      ·rw [if_pos c9] at H
       have c9b0 : decide (0 ≤ x12_1) = true := decide_eq_true c9
       clear c9
       replace H := Option.bind_eq_some_iff.mp H
       obtain ⟨⟨t180,t181,t182⟩,A100,H⟩ := H
       replace H : (if t182 = true then (strandlineref17_Lay.l0 k1 a0 l1 t180 y176 t181 (wrap64 (x12_1 + 1))) else (some (([] : List Int),([] : List Int),0,false))) = some (r1,r2,r3,r4) := H
       have A10 := Aside0.mk A100
       clear A100
       by_cases c11 : t182 = true
       ·subst c11
        have H1 : (strandlineref17_Lay.l0 k1 a0 l1 t180 y176 t181 (wrap64 (x12_1 + 1))) = some (r1,r2,r3,r4) := by rw [if_pos rfl] at H;exact H
        clear H
        have H := H1
        clear H1
        have H' := Aside0.mk H
        clear H
        go_wp2_with (first|((with_reducible refine gate_callee (f := 29) rfl ?_);refine goesL_ (some 22) rfl rfl Tryd.func29 (by kernel_rfl) rfl #[.int .i64 x10_1] rfl (by (try simp only [List.map_toArray,List.map_cons,List.map_nil]);first|done|rfl|(simp only [List.length_drop,List.length_take];rfl)) ?_;(with_reducible refine (strandlineref07_Begin.calls k1 x10_1 t175 _ A7.out).mono ?_);rintro e w' ⟨rfl,⟨nd,rfl⟩⟩;refine ⟨_,rfl,?_⟩)|((with_reducible refine gate_builtin (b := .append) (xs := #[.tmp 20,.tmp 23]) rfl ?_);at_builtin;refine Kd.R_append (Kd.int .i64) (w0 := w) w.heap.size rfl (.tmp 20) (.tmp 23) 26 3 (.int .i64 0) 8 rfl Tryd.underlying26 info3 rfl (by decide) (by omega) u9 x9_1 t175 [.int .i64 t175] (fun _ => True) (fun _ => False) rfl rfl ?aP (fun _ hk => hk.elim) ?aF ?aO ?aB ?aS ?aL ?_;(case aP => exact rfl);(case aB => exact (by repeat (first|(with_reducible first|exact HB.out|apply below_alloc|apply pw_below_drewN|apply below_drew1)|exact HB.out)));(case aF => exact (fun _ _ => trivial));(case aO => exact (by (with_reducible repeat (first|apply Kd.R_alloc|apply Kd.R_drewN|apply Kd.R_drew));exact HO_9.out));(case aS => exact (below_size (by repeat (first|(with_reducible first|exact HB.out|apply below_alloc|apply pw_below_drewN|apply below_drew1)|exact HB.out))));(case aL => have := LMc8.out;omega);intro v177 w12 ho hb hg hat;rw [← Ny176.out] at ho;have n0_ := Aside0.mk (Kd.R_over' (by (with_reducible repeat (first|apply Kd.R_alloc|apply Kd.R_drewN|apply Kd.R_drew));exact HO_8.out) (Kd.R_typed (by (with_reducible repeat (first|apply Kd.R_alloc|apply Kd.R_drewN|apply Kd.R_drew));exact HO_9.out)) (by decide) hg);have n1_ := Aside0.mk (hb);have n2_ := Aside0.mk (ho);clear HO_8;clear HB;clear HO_9;have HO_8 := n0_;have HB := n1_;have HO178 := n2_;clear n0_ n1_ n2_;clear ho hb hg hat;have p179 : 0 ≤ (x12_1 : Int) := of_decide_eq_true (by first|(with_reducible assumption)|assumption);have q179 : x12_1 < (l1.length : Int) := of_decide_eq_true (by first|(with_reducible assumption)|assumption);obtain ⟨ad179,A179_0,c179_0,e179,hx179_0,hl179_0,hi179_0⟩ := at_L3 HR1.out x12_1 p179 q179;cases e179;replace hx179_0 := (HB.out.cell (World.block_lt_of_cell? w _ hx179_0)).trans hx179_0;have HR179_0 := Aside0.mk hi179_0;have HC179_0 := Aside0.mk hl179_0;clear hi179_0 hl179_0;replace p179 := eq_true p179;replace q179 := eq_true q179;obtain ⟨Ao13,co13,eo13⟩ := Kd.R_slice HO_8.out;subst eo13)|((with_reducible refine gate_callee (f := 36) rfl ?_);refine goesL_ (some 33) rfl rfl Tryd.func36 (by kernel_rfl) rfl #[.int .u64 a0,.slice Ao13 x8_1.length co13,.int .i64 x10_1,.slice A179_0 (rd_L3 l1 x12_1).length c179_0] rfl (by (try simp only [List.map_toArray,List.map_cons,List.map_nil]);first|done|rfl|(simp only [List.length_drop,List.length_take];rfl)) ?_;(with_reducible refine (strandlineref17_Add.calls k1 a0 _ _ x8_1 x10_1 _ _ (rd_L3 l1 x12_1) t180 t181 true _ ?side1 ?side2 ?side3 ?side4 A10.out).mono ?_);(case side1 => repeat (first|exact (Kd.R_reads' HO_8.out).2.2|(with_reducible refine Kd.C_alloc ?_ _)|(with_reducible refine Kd.C_drewN ?_ _)|(with_reducible refine Kd.C_drew ?_)));(case side2 => exact (Kd.R_reads' HO_8.out).2.1);(case side3 => repeat (first|exact (Kd.C_below HR179_0.out HB.out)|(with_reducible refine Kd.C_alloc ?_ _)|(with_reducible refine Kd.C_drewN ?_ _)|(with_reducible refine Kd.C_drew ?_)));(case side4 => exact HC179_0.out);rintro e w14 ⟨v183,rfl,ho0,hb⟩;refine ⟨_,rfl,?_⟩;have n0_ := Aside0.mk (Kd.R_elder' (by (with_reducible repeat (first|apply Kd.R_alloc|apply Kd.R_drewN|apply Kd.R_drew));exact HO_8.out) (Kd.R_base ho0) hb);have n1_ := Aside0.mk (Kd.R_below (by (with_reducible repeat (first|apply Kd.R_alloc|apply Kd.R_drewN|apply Kd.R_drew));exact HO178.out) hb);have n2_ := Aside0.mk (Kd.R_lower (Kd.R_new' ho0 (Kd.R_lt (by (with_reducible repeat (first|apply Kd.R_alloc|apply Kd.R_drewN|apply Kd.R_drew));exact HO_8.out))) (below_size (by repeat (first|(with_reducible first|exact HB.out|apply below_alloc|apply pw_below_drewN|apply below_drew1)|exact HB.out))));have n3_ := Aside0.mk (below_step (by repeat (first|(with_reducible first|exact HB.out|apply below_alloc|apply pw_below_drewN|apply below_drew1)|exact HB.out)) hb);clear HO_8;clear HO178;clear HB;have HO_8 := n0_;have HO178 := n1_;have HO184 := n2_;have HB := n3_;clear n0_ n1_ n2_ n3_;(try clear hb);(try clear hb2);(try clear hk);(try clear hi);(try clear ho0)))
        go_roundg k1
        case measure => have := HK1.out;omega
        case rel => exact ⟨(t180),(y176),(t181),(wrap64 (x12_1 + 1)),(by first|rfl|(simp;done)|(simp [*];done)),(by first|rfl|(simp;done)|(simp [*];done)),H',⟨by have := HK1.out;omega⟩,⟨by (with_reducible repeat (first|apply Kd.R_alloc|apply Kd.R_drewN|apply Kd.R_drew));exact Kd.R_mono HO184.out (fun _ hk => trivial)⟩,⟨by (with_reducible repeat (first|apply Kd.R_alloc|apply Kd.R_drewN|apply Kd.R_drew));exact HO178.out⟩,⟨by repeat (first|(with_reducible first|exact HB.out|apply below_alloc|apply pw_below_drewN|apply below_drew1)|exact HB.out)⟩⟩
       ·replace c11 := Bool.eq_false_iff.mpr c11
        subst c11
        have H1 : (some (([] : List Int),([] : List Int),0,false)) = some (r1,r2,r3,r4) := by rw [if_neg (show ¬ (false = true) by decide)] at H;exact H
        clear H
        have H := H1
        clear H1
        simp only [Option.some.injEq,Prod.mk.injEq] at H
        obtain ⟨rfl,rfl,rfl,rfl⟩ := H
        go_wp2_with (first|((with_reducible refine gate_callee (f := 29) rfl ?_);refine goesL_ (some 22) rfl rfl Tryd.func29 (by kernel_rfl) rfl #[.int .i64 x10_1] rfl (by (try simp only [List.map_toArray,List.map_cons,List.map_nil]);first|done|rfl|(simp only [List.length_drop,List.length_take];rfl)) ?_;(with_reducible refine (strandlineref07_Begin.calls k1 x10_1 t175 _ A7.out).mono ?_);rintro e w' ⟨rfl,⟨nd,rfl⟩⟩;refine ⟨_,rfl,?_⟩)|((with_reducible refine gate_builtin (b := .append) (xs := #[.tmp 20,.tmp 23]) rfl ?_);at_builtin;refine Kd.R_append (Kd.int .i64) (w0 := w) w.heap.size rfl (.tmp 20) (.tmp 23) 26 3 (.int .i64 0) 8 rfl Tryd.underlying26 info3 rfl (by decide) (by omega) u9 x9_1 t175 [.int .i64 t175] (fun _ => True) (fun _ => False) rfl rfl ?aP (fun _ hk => hk.elim) ?aF ?aO ?aB ?aS ?aL ?_;(case aP => exact rfl);(case aB => exact (by repeat (first|(with_reducible first|exact HB.out|apply below_alloc|apply pw_below_drewN|apply below_drew1)|exact HB.out)));(case aF => exact (fun _ _ => trivial));(case aO => exact (by (with_reducible repeat (first|apply Kd.R_alloc|apply Kd.R_drewN|apply Kd.R_drew));exact HO_9.out));(case aS => exact (below_size (by repeat (first|(with_reducible first|exact HB.out|apply below_alloc|apply pw_below_drewN|apply below_drew1)|exact HB.out))));(case aL => have := LMc8.out;omega);intro v177 w15 ho hb hg hat;rw [← Ny176.out] at ho;have n0_ := Aside0.mk (Kd.R_over' (by (with_reducible repeat (first|apply Kd.R_alloc|apply Kd.R_drewN|apply Kd.R_drew));exact HO_8.out) (Kd.R_typed (by (with_reducible repeat (first|apply Kd.R_alloc|apply Kd.R_drewN|apply Kd.R_drew));exact HO_9.out)) (by decide) hg);have n1_ := Aside0.mk (hb);have n2_ := Aside0.mk (ho);clear HO_8;clear HB;clear HO_9;have HO_8 := n0_;have HB := n1_;have HO178 := n2_;clear n0_ n1_ n2_;clear ho hb hg hat;have p179 : 0 ≤ (x12_1 : Int) := of_decide_eq_true (by first|(with_reducible assumption)|assumption);have q179 : x12_1 < (l1.length : Int) := of_decide_eq_true (by first|(with_reducible assumption)|assumption);obtain ⟨ad179,A179_0,c179_0,e179,hx179_0,hl179_0,hi179_0⟩ := at_L3 HR1.out x12_1 p179 q179;cases e179;replace hx179_0 := (HB.out.cell (World.block_lt_of_cell? w _ hx179_0)).trans hx179_0;have HR179_0 := Aside0.mk hi179_0;have HC179_0 := Aside0.mk hl179_0;clear hi179_0 hl179_0;replace p179 := eq_true p179;replace q179 := eq_true q179;obtain ⟨Ao16,co16,eo16⟩ := Kd.R_slice HO_8.out;subst eo16)|((with_reducible refine gate_callee (f := 36) rfl ?_);refine goesL_ (some 33) rfl rfl Tryd.func36 (by kernel_rfl) rfl #[.int .u64 a0,.slice Ao16 x8_1.length co16,.int .i64 x10_1,.slice A179_0 (rd_L3 l1 x12_1).length c179_0] rfl (by (try simp only [List.map_toArray,List.map_cons,List.map_nil]);first|done|rfl|(simp only [List.length_drop,List.length_take];rfl)) ?_;(with_reducible refine (strandlineref17_Add.calls k1 a0 _ _ x8_1 x10_1 _ _ (rd_L3 l1 x12_1) t180 t181 false _ ?side1 ?side2 ?side3 ?side4 A10.out).mono ?_);(case side1 => repeat (first|exact (Kd.R_reads' HO_8.out).2.2|(with_reducible refine Kd.C_alloc ?_ _)|(with_reducible refine Kd.C_drewN ?_ _)|(with_reducible refine Kd.C_drew ?_)));(case side2 => exact (Kd.R_reads' HO_8.out).2.1);(case side3 => repeat (first|exact (Kd.C_below HR179_0.out HB.out)|(with_reducible refine Kd.C_alloc ?_ _)|(with_reducible refine Kd.C_drewN ?_ _)|(with_reducible refine Kd.C_drew ?_)));(case side4 => exact HC179_0.out);rintro e w17 ⟨v183,rfl,ho0,hb⟩;refine ⟨_,rfl,?_⟩;have n0_ := Aside0.mk (Kd.R_elder' (by (with_reducible repeat (first|apply Kd.R_alloc|apply Kd.R_drewN|apply Kd.R_drew));exact HO_8.out) (Kd.R_base ho0) hb);have n1_ := Aside0.mk (Kd.R_below (by (with_reducible repeat (first|apply Kd.R_alloc|apply Kd.R_drewN|apply Kd.R_drew));exact HO178.out) hb);have n2_ := Aside0.mk (Kd.R_lower (Kd.R_new' ho0 (Kd.R_lt (by (with_reducible repeat (first|apply Kd.R_alloc|apply Kd.R_drewN|apply Kd.R_drew));exact HO_8.out))) (below_size (by repeat (first|(with_reducible first|exact HB.out|apply below_alloc|apply pw_below_drewN|apply below_drew1)|exact HB.out))));have n3_ := Aside0.mk (below_step (by repeat (first|(with_reducible first|exact HB.out|apply below_alloc|apply pw_below_drewN|apply below_drew1)|exact HB.out)) hb);clear HO_8;clear HO178;clear HB;have HO_8 := n0_;have HO178 := n1_;have HO184 := n2_;have HB := n3_;clear n0_ n1_ n2_ n3_;(try clear hb);(try clear hb2);(try clear hk);(try clear hi);(try clear ho0)))
        refine bodyPost_ret (results_list (rs := [.tmp 4,.tmp 5,.tmp 6,.tmp 7]) rfl (by simp) (.tmp (.tmp (.tmp (.tmp .nil))))) rfl ?_
        exact ⟨_,_,by first|rfl|(simp [errW_none,errW_some] <;> rfl)|(simp [*,errW_none,errW_some] <;> rfl),by first|exact Kd.R_nil _ _ _ _ _|exact Kd.N_nil _ _ _ _ _|exact Kd.V_nil _ _ _ _ _|exact Kd.Q_nil _ _ _ _ _|exact Kd.S_nil _ _ _ _ _,by first|exact Kd.R_nil _ _ _ _ _|exact Kd.N_nil _ _ _ _ _|exact Kd.V_nil _ _ _ _ _|exact Kd.Q_nil _ _ _ _ _|exact Kd.S_nil _ _ _ _ _,by repeat (first|(with_reducible first|exact HB.out|apply below_alloc|apply pw_below_drewN|apply below_drew1)|exact HB.out)⟩
      ·rw [if_neg c9] at H
       exact absurd H (by simp)
     ·rw [if_neg c8] at H
      exact absurd H (by simp)
    ·rw [if_neg c6] at H
     have c6b0 : decide (x12_1 < (l1.length : Int)) = false := decide_eq_false c6
     clear c6
     simp only [Option.some.injEq,Prod.mk.injEq] at H
     obtain ⟨rfl,rfl,rfl,rfl⟩ := H
     go_wp2
     refine bodyPost_ret (results_list (rs := [.tmp 4,.tmp 5,.tmp 6,.tmp 7]) rfl (by simp) (.tmp (.tmp (.tmp (.tmp .nil))))) rfl ?_
     exact ⟨_,_,by first|rfl|(simp [errW_none,errW_some] <;> rfl)|(simp [*,errW_none,errW_some] <;> rfl),by (with_reducible repeat (first|apply Kd.R_alloc|apply Kd.R_drewN|apply Kd.R_drew));exact HO_8.out,by (with_reducible repeat (first|apply Kd.R_alloc|apply Kd.R_drewN|apply Kd.R_drew));exact HO_9.out,by repeat (first|(with_reducible first|exact HB.out|apply below_alloc|apply pw_below_drewN|apply below_drew1)|exact HB.out)⟩
 ·rw [if_neg c3] at H
  exact absurd H (by simp)
end Go.Proofs.YtaekpfhgdnfciaaDoor.F
end

section
namespace Go.Proofs.YtaekpfhgdnfciaaDoor.O
open Go.Proofs.YtaekpfhgdnfciaaDoor.F
section
variable {P : Program} {o : Oper} {a : Act} {K : Act → World → Prop} {Q : Exit → Act → World → Prop} {w0 W : World} {F : Nat → Option Obj} {L : List Res} {c : Res → List Res} {ops : Array Oper} {rest : List Oper}
theorem w_appendFull (H : Own w0 F L W) (s x : Operand) (t e : TypeId) (ho : o.op = .call { callee := .builtin .append,args := #[s,x],argTypes := #[t,t] }) (ht : P.underlying t = some (.slice e)) (z : Value) (size bytes : Nat)
  (hinfo : (P.info? e).map (fun i => (i.zero,i.size,i.bytes)) = some (some z,size,bytes)) (hz : z.cells.size = size) (hs0 : 0 < size) (hb0 : 0 < bytes) (b : Addr) (n : Nat) (olds : List Value) (hs : a.eval s = .slice (some b) n n) (hlo : olds.length = n * size) (holds : ∀ j u,olds[j]? = some u → W.cell? (b.add j) = some u)
  (A : Option Addr) (m cc : Nat) (news : List Value) (hx : a.eval x = .slice A m cc) (hm : 0 < m) (hl : news.length = m * size) (hR : Rd W A news) (hbytes : (n + m) * bytes ≤ 140737488355328)
  (h : ∀ v' W',Own w0 F (.row v' e size (n + m) (olds ++ news) :: L) W' → K (a.put o.dst v') W') : o.wp P a W K Q := by
 obtain ⟨i,hi,hzz⟩ := Option.map_eq_some_iff.1 hinfo
 simp only [Prod.mk.injEq] at hzz
 obtain ⟨hz0,hz1,hz2⟩ := hzz
 have hlen : n + m ≤ 140737488355328 := Nat.le_trans (Nat.le_mul_of_pos_right _ hb0) hbytes
 obtain ⟨ad,rfl,hc⟩ := hR (by rw [hl];exact Nat.mul_pos hm hs0)
 obtain ⟨v1,w1,hrun,h2,hg⟩ := run_append_arg_grows (P := P) W t o.type e i z size bytes ht hi hz0 hz1 hz2 hz hs0 b n n olds hlo holds ad m cc news hl (fun j u hj => hc j u hj) (by omega) (by simp only [maxLen];omega) hbytes
 unfold Oper.wp execOp
 simp only [ho,resolve,invoke,builtin,Sem.run_bind,Sem.run_pure,Result.andThen_ok,List.map_toArray,List.map_cons,List.map_nil,hs,hx,hrun]
 exact h _ _ (H.cons ⟨hg.os,hg.tape,hg.output,hg.size,fun k hk => hg.block k hk (by simp)⟩ (own_weaken h2 H.size) (fun k hk => own_base h2 k hk))
theorem w_append0 (s x : Operand) (t e : TypeId) (ho : o.op = .call { callee := .builtin .append,args := #[s,x],argTypes := #[t,t] }) (ht : P.underlying t = some (.slice e)) (hinfo : ((P.info? e).map (·.size)).isSome = true) (b : Addr) (n cap : Nat) (hnc : n ≤ cap) (hs : a.eval s = .slice (some b) n cap) (A : Option Addr) (cc : Nat) (hx : a.eval x = .slice A 0 cc)
  (h : K (a.put o.dst (.slice (some b) n cap)) W) : o.wp P a W K Q := by
 obtain ⟨q,hq⟩ := Option.isSome_iff_exists.1 hinfo
 obtain ⟨i,hi,hq2⟩ := Option.map_eq_some_iff.1 hq
 have hrun : (Builtin.append_ #[t,t] o.type #[.slice (some b) n cap,.slice A 0 cc]).run P W = .ok (.slice (some b) n cap) W := by
  cases A <;> simp [Builtin.append_,run_underlying ht,sizeOf,typeInfo,hi,Builtin.lenOf,Builtin.firstCells,hnc,storeCells,loadCells,loadCellsFrom]
 unfold Oper.wp execOp
 simp only [ho,resolve,invoke,builtin,Sem.run_bind,Sem.run_pure,Result.andThen_ok,List.map_toArray,List.map_cons,List.map_nil,hs,hx,hrun]
 exact h
theorem In.to {L : List Res} {r : Res} {c : Res → List Res} (h : In L r c) (r' : Res) : In (c r') r' c := by
 induction h with
 |head => exact .head
 |tail h ih => exact .tail ih
theorem splice_take {α : Type} (cur ys : List α) (n : Nat) (h : ys.length ≤ n) (hn : n ≤ cur.length) : (splice cur 0 ys).take n = splice (cur.take n) 0 ys := by
 unfold splice
 simp only [List.take_zero,List.nil_append,Nat.zero_add]
 rw [List.take_append,List.drop_take,List.take_of_length_le h]
theorem w_copyRow (H : Own w0 F L W) (d s : Operand) (dT sT : TypeId) (ho : o.op = .call { callee := .builtin .copy,args := #[d,s],argTypes := #[dT,sT] }) (elem : TypeId) (hu : P.underlying dT = some (.slice elem)) (hsz : (P.info? elem).map (·.size) = some 1)
  (A0 : Option Addr) (dLen dCap n cap e : Nat) (hd : a.eval d = .slice A0 dLen dCap) {xs : List Int} (hI : In L (.row (.slice A0 n cap) e 1 n (nums .u8 xs)) c) (h0 : 0 < n) (A : Option Addr) (sLen sCap : Nat) (hs : a.eval s = .slice A sLen sCap) (ys : List Int) (hy : (Kd.int .u8).C W A sLen ys) (hfit : min sLen dLen ≤ n)
  (h : ∀ W',Own w0 F (c (.row (.slice A0 n cap) e 1 n (nums .u8 (splice xs 0 (ys.take (min sLen dLen)))))) W' → K (a.put o.dst (goInt (min sLen dLen : Nat))) W') : o.wp P a W K Q := by
 obtain ⟨g,cap',cur,e1,hnc,hm,hl,ht,H1⟩ := H.row_blk hI h0
 injection e1 with e1 e2 e3
 subst e1 e3
 have hyl : ys.length = sLen := hy.1
 refine w_copy H1 d s dT sT ho elem hu hsz g 0 dLen dCap hd (hI.to _) A sLen sCap hs (nums .u8 (ys.take (min sLen dLen))) (by rw [nums_length,List.length_take];omega) ?_ ?_ (by omega) ?_
 ·intro hp
  obtain ⟨ad,e,hc⟩ := (Rd.of_C hy) (by rw [nums_length];omega)
  refine ⟨ad,e,fun j u hj => hc j u ?_⟩
  rw [← nums_take] at hj
  have := (List.getElem?_eq_some_iff.1 hj).1
  rw [List.length_take] at this
  rwa [List.getElem?_take_of_lt (by omega)] at hj
 ·exact nums_one
 ·intro W' H'
  refine h W' ?_
  refine H'.blk_row (hI.to _) hnc hm ?_ ?_
  ·rw [← hl]
   have : ∀ (l : List Value) (ys : List Value),ys.length ≤ l.length → (splice l 0 ys).length = l.length := fun l ys h => by unfold splice;simp;omega
   exact this _ _ (by rw [nums_length,List.length_take];omega)
  ·rw [splice_take _ _ _ (by rw [nums_length,List.length_take];omega) (by omega),ht]
   simp [splice,nums,List.map_take,List.map_drop]
end
section
variable {P : Program} {o : Oper} {a : Act}
end
section
variable {P : Program} {o : Oper} {a : Act} {K : Act → World → Prop} {Q : Exit → Act → World → Prop} {w0 W : World} {F : Nat → Option Obj} {L : List Res} {c : Res → List Res} {ops : Array Oper} {rest : List Oper}
end
end Go.Proofs.YtaekpfhgdnfciaaDoor.O
end
