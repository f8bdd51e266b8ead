/- Texts of mine put together: FkStrandlineref14. -/
import Derived.Test.YtaekpfhgdnfciaaDoorPkTearNear3
import Derived.Test.YtaekpfhgdnfciaaDoorPkTearNear5
set_option linter.unusedVariables false
set_option linter.unusedSimpArgs false
open Go.RowKit Go.Proofs.YtaekpfhgdnfciaaDoorW.PrintWords Go.Proofs.YtaekpfhgdnfciaaDoorW.PrintLast Go.Proofs.YtaekpfhgdnfciaaDoorW.PrintMore

section
namespace Go.Proofs.YtaekpfhgdnfciaaDoor.F

attribute [local go_sem high] eqA83
attribute [local go_sem] field83_0
attribute [local go_sem] field83_1
attribute [local go_sem] max2_int min2_int max_two min_two max_three min_three max_four min_four
/-! ### strandlineref14_Cut: function 38 -/
mutual
def strandlineref14_Cut.l0 : Nat → Int → Int → List (S94) → Int → Option ((List (S94)) × Int × Bool)
 |0,_,_,_,_ => none
 |k + 1,x0,x1,x7,x8 => if (x7.length : Int) = 0 then (strandlineref14_Cut.j1 k x0 x1 x7 x8 true) else (strandlineref14_Cut.j1 k x0 x1 x7 x8 (decide (x8 < x1)))
def strandlineref14_Cut.j1 : Nat → Int → Int → List (S94) → Int → Bool → Option ((List (S94)) × Int × Bool)
 |0,_,_,_,_,_ => none
 |k + 1,x0,x1,x7,x8,x19 => if x19 = true then ((strandlineref07_Begin.f k x0).bind fun t113 => (if t113 ≥ 832 then (some (([] : List (S94)),0,false)) else ((strandlineref07_Left.f k t113).bind fun t114 => (if (wrap64 (x1 - x8)) > (wrap64 (t114 - 11)) then ((strandlineref07_Left.f k t113).bind fun t115 => (if x7.length < 4398046511104 then (strandlineref14_Cut.l0 k (wrap64 ((wrap64 (t113 + 11)) + (wrap64 (t115 - 11)))) x1 (x7 ++ [(⟨t113,3,x8,wrap64 (x8 + (wrap64 (t115 - 11)))⟩ : S94)]) (wrap64 (x8 + (wrap64 (t115 - 11))))) else (none))) else (if x7.length < 4398046511104 then (strandlineref14_Cut.l0 k (wrap64 ((wrap64 (t113 + 11)) + (wrap64 (x1 - x8)))) x1 (x7 ++ [(⟨t113,3,x8,wrap64 (x8 + (wrap64 (x1 - x8)))⟩ : S94)]) (wrap64 (x8 + (wrap64 (x1 - x8))))) else (none)))))) else (if 0 < (x7.length : Int) then ((some (x7.set (0 : Int).toNat (⟨(rd_T94 x7 0).f0,2,(rd_T94 x7 0).f2,(rd_T94 x7 0).f3⟩ : S94) : List (S94))).bind fun y110 => (if 0 ≤ (wrap64 ((x7.length : Int) - 1)) then (if (wrap64 ((x7.length : Int) - 1)) < (x7.length : Int) then ((some (y110.set ((wrap64 ((x7.length : Int) - 1)) : Int).toNat (⟨(rd_T94 y110 (wrap64 ((x7.length : Int) - 1))).f0,4,(rd_T94 y110 (wrap64 ((x7.length : Int) - 1))).f2,(rd_T94 y110 (wrap64 ((x7.length : Int) - 1))).f3⟩ : S94) : List (S94))).bind fun y111 => (if (x7.length : Int) = 1 then (some ((y111.set (0 : Int).toNat (⟨(rd_T94 y111 0).f0,1,(rd_T94 y111 0).f2,(rd_T94 y111 0).f3⟩ : S94)),x0,true)) else (some (y111,x0,true)))) else (none)) else (none))) else (none))
end
def strandlineref14_Cut.f (k : Nat) (a0 : Int) (a1 : Int) : Option ((List (S94)) × Int × Bool) := if a1 < 0 then (some (([] : List (S94)),0,false)) else (strandlineref14_Cut.l0 k a0 a1 ([] : List (S94)) 0)
set_option maxHeartbeats 8000000 in
set_option maxRecDepth 100000 in
theorem strandlineref14_Cut.calls (k : Nat) (a0 : Int) (a1 : Int) (r1 : List (S94)) (r2 : Int) (r3 : Bool) (w : World) (h : strandlineref14_Cut.f k a0 a1 = some (r1,r2,r3)) :
  Calls Tryd.prog 38 #[.int .i64 a0,.int .i64 a1] w fun e w' => ∃ v0_ : Value,e = .returned (.tuple #[v0_,.int .i64 r2,.bool r3]) ∧ Kd.R k94 94 w' w.heap.size (fun _ => True) v0_ r1 ∧ Below w.heap.size w w' := by
 have hu3 := Tryd.underlying3
 have hu73 := Tryd.underlying73
 have hu76 := Tryd.underlying76
 have hu83 := Tryd.underlying83
 have hu106 := Tryd.underlying106
 have hu94 := Tryd.underlying94
 have HB := Aside0.mk (Below.refl w.heap.size w)
 have H : (if a1 < 0 then (some (([] : List (S94)),0,false)) else (strandlineref14_Cut.l0 k a0 a1 ([] : List (S94)) 0)) = some (r1,r2,r3) := h
 clear h
 by_cases c3 : a1 < 0
 ·rw [if_pos c3] at H
  have c3b0 : decide (a1 < 0) = true := decide_eq_true c3
  clear c3
  simp only [Option.some.injEq,Prod.mk.injEq] at H
  obtain ⟨rfl,rfl,rfl⟩ := H
  go_enter Tryd.func38,Tryd.ntmps38
  go_wp2
  go_ret3
  exact ⟨_,by first|rfl|(simp [errW_none,errW_some] <;> rfl)|(simp [*,errW_none,errW_some] <;> rfl),by first|exact Kd.R_nil _ _ _ _ _|exact Kd.N_nil _ _ _ _ _|exact Kd.V_nil _ _ _ _ _|exact Kd.Q_nil _ _ _ _ _|exact Kd.S_nil _ _ _ _ _,by repeat (first|(with_reducible first|exact HB.out|apply below_alloc|apply pw_below_drewN|apply below_drew1)|exact HB.out)⟩
 ·rw [if_neg c3] at H
  have c3b0 : decide (a1 < 0) = false := decide_eq_false c3
  clear c3
  have H' := Aside0.mk H
  clear H
  go_enter Tryd.func38,Tryd.ntmps38
  go_wp2
  go_loopg [0,7,8] k (fun kq v0 v7 v8 w' => ∃ (x0_1 : Int) (x7_1 : List (S94)) (x8_1 : Int),v0 = .int .i64 x0_1 ∧ v8 = .int .i64 x8_1 ∧ Aside0 (strandlineref14_Cut.l0 kq x0_1 a1 x7_1 x8_1 = some (r1,r2,r3)) ∧ Aside0 (kq ≤ k) ∧ Aside0 (Kd.R k94 94 w' w.heap.size (fun _ => True) v7 x7_1) ∧ Aside0 (Below w.heap.size w w'))
  case atStart => exact ⟨(a0),(([] : List (S94))),(0),(by first|rfl|(simp;done)|(simp [*];done)),(by first|rfl|(simp;done)|(simp [*];done)),H',⟨Nat.le_refl _⟩,⟨by first|exact Kd.R_nil _ _ _ _ _|exact Kd.N_nil _ _ _ _ _|exact Kd.V_nil _ _ _ _ _|exact Kd.Q_nil _ _ _ _ _|exact Kd.S_nil _ _ _ _ _⟩,⟨by repeat (first|(with_reducible first|exact HB.out|apply below_alloc|apply pw_below_drewN|apply below_drew1)|exact HB.out)⟩⟩
  case round =>
   clear H'
   try clear p2
   try clear c3
   try clear c3b0
   obtain ⟨x0_1,x7_1,x8_1,rfl,rfl,HA,HK1,HO_7,HB⟩ := hrel
   cases gk with
   |zero => exact absurd HA.out (by simp [strandlineref14_Cut.l0])
   |succ k1 =>
    have H := HA.out
    clear HA
    simp only [strandlineref14_Cut.l0] at H
    have HC4 := Aside0.mk H
    clear H
    go_upto_region 5 with (fail)
    go_cut [19] (fun v19 wc => ∃ (kq : Nat) (x19_3 : Bool),v19 = .bool x19_3 ∧ Aside0 (strandlineref14_Cut.j1 kq x0_1 a1 x7_1 x8_1 x19_3 = some (r1,r2,r3)) ∧ Aside0 (kq ≤ k1) ∧ Aside0 (Kd.R k94 94 wc w.heap.size (fun _ => True) u7 x7_1) ∧ Aside0 (Below w.heap.size w wc))
    case first =>
     have H := HC4.out
     clear HC4
     by_cases c5 : (x7_1.length : Int) = 0
     ·rw [if_pos c5] at H
      have c5b0 : ((x7_1.length : Int) == 0) = true := beq_iff_eq.mpr c5
      have c5b1 : ((x7_1.length : Int) != 0) = false := bne_eq_false_iff_eq.mpr c5
      clear c5
      (first|rw [c5b0]|(simp only [i64_w,i32_w];rw [c5b0])|skip)
      have H' := Aside0.mk H
      clear H
      obtain ⟨Ao6,co6,eo6⟩ := Kd.R_slice HO_7.out
      subst eo6
      go_wp2
      go_meet
      case rel => exact ⟨_,(true),(by first|rfl|(simp;done)|(simp [*];done)),H',⟨by have := HK1.out;first|omega|exact Nat.le_refl _⟩,⟨by (with_reducible repeat (first|apply Kd.R_alloc|apply Kd.R_drewN|apply Kd.R_drew));exact HO_7.out⟩,⟨by repeat (first|(with_reducible first|exact HB.out|apply below_alloc|apply pw_below_drewN|apply below_drew1)|exact HB.out)⟩⟩
     ·rw [if_neg c5] at H
      have c5b0 : ((x7_1.length : Int) == 0) = false := beq_eq_false_iff_ne.mpr c5
      have c5b1 : ((x7_1.length : Int) != 0) = true := bne_iff_ne.mpr c5
      have c5b2 : ¬ (x7_1 = []) := fun h_ => c5 (by rw [h_];rfl)
      (first|rw [c5b0]|(simp only [i64_w,i32_w];rw [c5b0])|skip)
      have H' := Aside0.mk H
      clear H
      obtain ⟨Ao7,co7,eo7⟩ := Kd.R_slice HO_7.out
      subst eo7
      go_wp2
      go_meet
      case rel => exact ⟨_,(decide (x8_1 < a1)),(by first|rfl|(simp;done)|(simp [*];done)),H',⟨by have := HK1.out;first|omega|exact Nat.le_refl _⟩,⟨by (with_reducible repeat (first|apply Kd.R_alloc|apply Kd.R_drewN|apply Kd.R_drew));exact HO_7.out⟩,⟨by repeat (first|(with_reducible first|exact HB.out|apply below_alloc|apply pw_below_drewN|apply below_drew1)|exact HB.out)⟩⟩
    case rest =>
     clear HC4
     try clear p2
     try clear c3
     try clear c3b0
     try clear c5
     try clear c5b0
     try clear c5b1
     try clear c5b2
     try clear p2
     obtain ⟨kq,x19_3,rfl,HA,HJ3,HO_7,HB⟩ := hcut
     cases kq with
     |zero => exact absurd HA.out (by simp [strandlineref14_Cut.j1])
     |succ kj3 =>
      have H := HA.out
      clear HA
      simp only [strandlineref14_Cut.j1] at H
      by_cases c8 : x19_3 = true
      ·subst c8
       have H1 : ((strandlineref07_Begin.f kj3 x0_1).bind fun t113 => (if t113 ≥ 832 then (some (([] : List (S94)),0,false)) else ((strandlineref07_Left.f kj3 t113).bind fun t114 => (if (wrap64 (a1 - x8_1)) > (wrap64 (t114 - 11)) then ((strandlineref07_Left.f kj3 t113).bind fun t115 => (if x7_1.length < 4398046511104 then (strandlineref14_Cut.l0 kj3 (wrap64 ((wrap64 (t113 + 11)) + (wrap64 (t115 - 11)))) a1 (x7_1 ++ [(⟨t113,3,x8_1,wrap64 (x8_1 + (wrap64 (t115 - 11)))⟩ : S94)]) (wrap64 (x8_1 + (wrap64 (t115 - 11))))) else (none))) else (if x7_1.length < 4398046511104 then (strandlineref14_Cut.l0 kj3 (wrap64 ((wrap64 (t113 + 11)) + (wrap64 (a1 - x8_1)))) a1 (x7_1 ++ [(⟨t113,3,x8_1,wrap64 (x8_1 + (wrap64 (a1 - x8_1)))⟩ : S94)]) (wrap64 (x8_1 + (wrap64 (a1 - x8_1))))) else (none)))))) = some (r1,r2,r3) := by rw [if_pos rfl] at H;exact H
       clear H
       have H := H1
       clear H1
       replace H := Option.bind_eq_some_iff.mp H
       obtain ⟨t113,A90,H⟩ := H
       replace H : (if t113 ≥ 832 then (some (([] : List (S94)),0,false)) else ((strandlineref07_Left.f kj3 t113).bind fun t114 => (if (wrap64 (a1 - x8_1)) > (wrap64 (t114 - 11)) then ((strandlineref07_Left.f kj3 t113).bind fun t115 => (if x7_1.length < 4398046511104 then (strandlineref14_Cut.l0 kj3 (wrap64 ((wrap64 (t113 + 11)) + (wrap64 (t115 - 11)))) a1 (x7_1 ++ [(⟨t113,3,x8_1,wrap64 (x8_1 + (wrap64 (t115 - 11)))⟩ : S94)]) (wrap64 (x8_1 + (wrap64 (t115 - 11))))) else (none))) else (if x7_1.length < 4398046511104 then (strandlineref14_Cut.l0 kj3 (wrap64 ((wrap64 (t113 + 11)) + (wrap64 (a1 - x8_1)))) a1 (x7_1 ++ [(⟨t113,3,x8_1,wrap64 (x8_1 + (wrap64 (a1 - x8_1)))⟩ : S94)]) (wrap64 (x8_1 + (wrap64 (a1 - x8_1))))) else (none))))) = some (r1,r2,r3) := H
       have A9 := Aside0.mk A90
       clear A90
       by_cases c10 : t113 ≥ 832
       ·rw [if_pos c10] at H
        have c10b0 : decide (832 ≤ t113) = true := decide_eq_true c10
        clear c10
        simp only [Option.some.injEq,Prod.mk.injEq] at H
        obtain ⟨rfl,rfl,rfl⟩ := H
        go_wp2_with (first|((with_reducible refine gate_callee (f := 29) rfl ?_);refine goesL_ (some 21) rfl rfl Tryd.func29 (by kernel_rfl) rfl #[.int .i64 x0_1] rfl (by (try simp only [List.map_toArray,List.map_cons,List.map_nil]);first|done|rfl|(simp only [List.length_drop,List.length_take];rfl)) ?_;(with_reducible refine (strandlineref07_Begin.calls kj3 x0_1 t113 _ A9.out).mono ?_);rintro e w' ⟨rfl,⟨nd,rfl⟩⟩;refine ⟨_,rfl,?_⟩))
        go_ret3
        exact ⟨_,by first|rfl|(simp [errW_none,errW_some] <;> rfl)|(simp [*,errW_none,errW_some] <;> rfl),by first|exact Kd.R_nil _ _ _ _ _|exact Kd.N_nil _ _ _ _ _|exact Kd.V_nil _ _ _ _ _|exact Kd.Q_nil _ _ _ _ _|exact Kd.S_nil _ _ _ _ _,by repeat (first|(with_reducible first|exact HB.out|apply below_alloc|apply pw_below_drewN|apply below_drew1)|exact HB.out)⟩
       ·rw [if_neg c10] at H
        have c10b0 : decide (832 ≤ t113) = false := decide_eq_false c10
        clear c10
        replace H := Option.bind_eq_some_iff.mp H
        obtain ⟨t114,A110,H⟩ := H
        replace H : (if (wrap64 (a1 - x8_1)) > (wrap64 (t114 - 11)) then ((strandlineref07_Left.f kj3 t113).bind fun t115 => (if x7_1.length < 4398046511104 then (strandlineref14_Cut.l0 kj3 (wrap64 ((wrap64 (t113 + 11)) + (wrap64 (t115 - 11)))) a1 (x7_1 ++ [(⟨t113,3,x8_1,wrap64 (x8_1 + (wrap64 (t115 - 11)))⟩ : S94)]) (wrap64 (x8_1 + (wrap64 (t115 - 11))))) else (none))) else (if x7_1.length < 4398046511104 then (strandlineref14_Cut.l0 kj3 (wrap64 ((wrap64 (t113 + 11)) + (wrap64 (a1 - x8_1)))) a1 (x7_1 ++ [(⟨t113,3,x8_1,wrap64 (x8_1 + (wrap64 (a1 - x8_1)))⟩ : S94)]) (wrap64 (x8_1 + (wrap64 (a1 - x8_1))))) else (none))) = some (r1,r2,r3) := H
        have A11 := Aside0.mk A110
        clear A110
        by_cases c12 : (wrap64 (a1 - x8_1)) > (wrap64 (t114 - 11))
        ·rw [if_pos c12] at H
         have c12b0 : decide ((wrap64 (t114 - 11)) < (wrap64 (a1 - x8_1))) = true := decide_eq_true c12
         clear c12
         replace H := Option.bind_eq_some_iff.mp H
         obtain ⟨t115,A130,H⟩ := H
         replace H : (if x7_1.length < 4398046511104 then (strandlineref14_Cut.l0 kj3 (wrap64 ((wrap64 (t113 + 11)) + (wrap64 (t115 - 11)))) a1 (x7_1 ++ [(⟨t113,3,x8_1,wrap64 (x8_1 + (wrap64 (t115 - 11)))⟩ : S94)]) (wrap64 (x8_1 + (wrap64 (t115 - 11))))) else (none)) = some (r1,r2,r3) := H
         have A13 := Aside0.mk A130
         clear A130
         by_cases c14 : x7_1.length < 4398046511104
         ·rw [if_pos c14] at H
          have LMc14 := Aside0.mk c14
          clear c14
          obtain ⟨y116,hy116⟩ : ∃ y_ : List (S94),y_ = (x7_1 ++ [(⟨t113,3,x8_1,wrap64 (x8_1 + (wrap64 (t115 - 11)))⟩ : S94)]) := ⟨_,rfl⟩
          replace H : (strandlineref14_Cut.l0 kj3 (wrap64 ((wrap64 (t113 + 11)) + (wrap64 (t115 - 11)))) a1 y116 (wrap64 (x8_1 + (wrap64 (t115 - 11))))) = some (r1,r2,r3) := by first|(rw [hy116];with_reducible exact H)|(have H2_ := (Option.bind_some _ _).symm.trans H;rw [hy116];with_reducible exact H2_)|(have H2_ := (Option.bind_some _ _).symm.trans H;with_reducible exact H2_)|with_reducible exact H|(rw [hy116];exact H)|exact H
          have Ny116 := Aside0.mk hy116
          clear hy116
          have H' := Aside0.mk H
          clear H
          go_wp2_with (first|((with_reducible refine gate_callee (f := 29) rfl ?_);refine goesL_ (some 21) rfl rfl Tryd.func29 (by kernel_rfl) rfl #[.int .i64 x0_1] rfl (by (try simp only [List.map_toArray,List.map_cons,List.map_nil]);first|done|rfl|(simp only [List.length_drop,List.length_take];rfl)) ?_;(with_reducible refine (strandlineref07_Begin.calls kj3 x0_1 t113 _ A9.out).mono ?_);rintro e w' ⟨rfl,⟨nd,rfl⟩⟩;refine ⟨_,rfl,?_⟩)|((with_reducible refine gate_callee (f := 57) rfl ?_);refine goesL_ (some 29) rfl rfl Tryd.func57 (by kernel_rfl) rfl #[.int .i64 t113] rfl (by (try simp only [List.map_toArray,List.map_cons,List.map_nil]);first|done|rfl|(simp only [List.length_drop,List.length_take];rfl)) ?_;(with_reducible refine (strandlineref07_Left.calls kj3 t113 t114 _ A11.out).mono ?_);rintro e w' ⟨rfl,⟨nd,rfl⟩⟩;refine ⟨_,rfl,?_⟩)|((with_reducible refine gate_callee (f := 57) rfl ?_);refine goesL_ (some 33) rfl rfl Tryd.func57 (by kernel_rfl) rfl #[.int .i64 t113] rfl (by (try simp only [List.map_toArray,List.map_cons,List.map_nil]);first|done|rfl|(simp only [List.length_drop,List.length_take];rfl)) ?_;(with_reducible refine (strandlineref07_Left.calls kj3 t113 t115 _ A13.out).mono ?_);rintro e w' ⟨rfl,⟨nd,rfl⟩⟩;refine ⟨_,rfl,?_⟩)|((with_reducible refine gate_builtin (b := .append) (xs := #[.tmp 35,.tmp 42]) rfl ?_);at_builtin;refine Kd.R_append k94 (w0 := w) w.heap.size rfl (.tmp 35) (.tmp 42) 90 94 (.agg #[(.int .i64 0),(.int .i64 0),(.int .i64 0),(.int .i64 0)]) 32 rfl Tryd.underlying90 info94 rfl (by decide) (by omega) u7 x7_1 (⟨t113,3,x8_1,wrap64 (x8_1 + (wrap64 (t115 - 11)))⟩ : S94) [.int .i64 t113,.int .i64 3,.int .i64 x8_1,.int .i64 (wrap64 (x8_1 + (wrap64 (t115 - 11))))] (fun _ => True) (fun _ => False) rfl rfl ?aP (fun _ hk => hk.elim) ?aF ?aO ?aB ?aS ?aL ?_;(case aP => exact k94_mkM _ _ _ (⟨t113,3,x8_1,wrap64 (x8_1 + (wrap64 (t115 - 11)))⟩ : S94));(case aB => exact (by repeat (first|(with_reducible first|exact HB.out|apply below_alloc|apply pw_below_drewN|apply below_drew1)|exact HB.out)));(case aF => exact (fun _ _ => trivial));(case aO => exact (by (with_reducible repeat (first|apply Kd.R_alloc|apply Kd.R_drewN|apply Kd.R_drew));exact HO_7.out));(case aS => exact (below_size (by repeat (first|(with_reducible first|exact HB.out|apply below_alloc|apply pw_below_drewN|apply below_drew1)|exact HB.out))));(case aL => have := LMc14.out;omega);intro v117 w15 ho hb hg hat;rw [← Ny116.out] at ho;have n0_ := Aside0.mk (hb);have n1_ := Aside0.mk (ho);clear HB;clear HO_7;have HB := n0_;have HO118 := n1_;clear n0_ n1_;clear ho hb hg hat))
          go_roundg kj3
          case measure => have := HK1.out;have := HJ3.out;omega
          case rel => exact ⟨(wrap64 ((wrap64 (t113 + 11)) + (wrap64 (t115 - 11)))),(y116),(wrap64 (x8_1 + (wrap64 (t115 - 11)))),(by first|rfl|(simp;done)|(simp [*];done)),(by first|rfl|(simp;done)|(simp [*];done)),H',⟨by have := HK1.out;have := HJ3.out;omega⟩,⟨by (with_reducible repeat (first|apply Kd.R_alloc|apply Kd.R_drewN|apply Kd.R_drew));exact HO118.out⟩,⟨by repeat (first|(with_reducible first|exact HB.out|apply below_alloc|apply pw_below_drewN|apply below_drew1)|exact HB.out)⟩⟩
         ·rw [if_neg c14] at H
          exact absurd H (by simp)
        ·rw [if_neg c12] at H
         have c12b0 : decide ((wrap64 (t114 - 11)) < (wrap64 (a1 - x8_1))) = false := decide_eq_false c12
         clear c12
         by_cases c16 : x7_1.length < 4398046511104
         ·rw [if_pos c16] at H
          have LMc16 := Aside0.mk c16
          clear c16
          obtain ⟨y119,hy119⟩ : ∃ y_ : List (S94),y_ = (x7_1 ++ [(⟨t113,3,x8_1,wrap64 (x8_1 + (wrap64 (a1 - x8_1)))⟩ : S94)]) := ⟨_,rfl⟩
          replace H : (strandlineref14_Cut.l0 kj3 (wrap64 ((wrap64 (t113 + 11)) + (wrap64 (a1 - x8_1)))) a1 y119 (wrap64 (x8_1 + (wrap64 (a1 - x8_1))))) = some (r1,r2,r3) := by first|(rw [hy119];with_reducible exact H)|(have H2_ := (Option.bind_some _ _).symm.trans H;rw [hy119];with_reducible exact H2_)|(have H2_ := (Option.bind_some _ _).symm.trans H;with_reducible exact H2_)|with_reducible exact H|(rw [hy119];exact H)|exact H
          have Ny119 := Aside0.mk hy119
          clear hy119
          have H' := Aside0.mk H
          clear H
          go_wp2_with (first|((with_reducible refine gate_callee (f := 29) rfl ?_);refine goesL_ (some 21) rfl rfl Tryd.func29 (by kernel_rfl) rfl #[.int .i64 x0_1] rfl (by (try simp only [List.map_toArray,List.map_cons,List.map_nil]);first|done|rfl|(simp only [List.length_drop,List.length_take];rfl)) ?_;(with_reducible refine (strandlineref07_Begin.calls kj3 x0_1 t113 _ A9.out).mono ?_);rintro e w' ⟨rfl,⟨nd,rfl⟩⟩;refine ⟨_,rfl,?_⟩)|((with_reducible refine gate_callee (f := 57) rfl ?_);refine goesL_ (some 29) rfl rfl Tryd.func57 (by kernel_rfl) rfl #[.int .i64 t113] rfl (by (try simp only [List.map_toArray,List.map_cons,List.map_nil]);first|done|rfl|(simp only [List.length_drop,List.length_take];rfl)) ?_;(with_reducible refine (strandlineref07_Left.calls kj3 t113 t114 _ A11.out).mono ?_);rintro e w' ⟨rfl,⟨nd,rfl⟩⟩;refine ⟨_,rfl,?_⟩)|((with_reducible refine gate_builtin (b := .append) (xs := #[.tmp 35,.tmp 42]) rfl ?_);at_builtin;refine Kd.R_append k94 (w0 := w) w.heap.size rfl (.tmp 35) (.tmp 42) 90 94 (.agg #[(.int .i64 0),(.int .i64 0),(.int .i64 0),(.int .i64 0)]) 32 rfl Tryd.underlying90 info94 rfl (by decide) (by omega) u7 x7_1 (⟨t113,3,x8_1,wrap64 (x8_1 + (wrap64 (a1 - x8_1)))⟩ : S94) [.int .i64 t113,.int .i64 3,.int .i64 x8_1,.int .i64 (wrap64 (x8_1 + (wrap64 (a1 - x8_1))))] (fun _ => True) (fun _ => False) rfl rfl ?aP (fun _ hk => hk.elim) ?aF ?aO ?aB ?aS ?aL ?_;(case aP => exact k94_mkM _ _ _ (⟨t113,3,x8_1,wrap64 (x8_1 + (wrap64 (a1 - x8_1)))⟩ : S94));(case aB => exact (by repeat (first|(with_reducible first|exact HB.out|apply below_alloc|apply pw_below_drewN|apply below_drew1)|exact HB.out)));(case aF => exact (fun _ _ => trivial));(case aO => exact (by (with_reducible repeat (first|apply Kd.R_alloc|apply Kd.R_drewN|apply Kd.R_drew));exact HO_7.out));(case aS => exact (below_size (by repeat (first|(with_reducible first|exact HB.out|apply below_alloc|apply pw_below_drewN|apply below_drew1)|exact HB.out))));(case aL => have := LMc16.out;omega);intro v120 w17 ho hb hg hat;rw [← Ny119.out] at ho;have n0_ := Aside0.mk (hb);have n1_ := Aside0.mk (ho);clear HB;clear HO_7;have HB := n0_;have HO121 := n1_;clear n0_ n1_;clear ho hb hg hat))
          go_roundg kj3
          case measure => have := HK1.out;have := HJ3.out;omega
          case rel => exact ⟨(wrap64 ((wrap64 (t113 + 11)) + (wrap64 (a1 - x8_1)))),(y119),(wrap64 (x8_1 + (wrap64 (a1 - x8_1)))),(by first|rfl|(simp;done)|(simp [*];done)),(by first|rfl|(simp;done)|(simp [*];done)),H',⟨by have := HK1.out;have := HJ3.out;omega⟩,⟨by (with_reducible repeat (first|apply Kd.R_alloc|apply Kd.R_drewN|apply Kd.R_drew));exact HO121.out⟩,⟨by repeat (first|(with_reducible first|exact HB.out|apply below_alloc|apply pw_below_drewN|apply below_drew1)|exact HB.out)⟩⟩
         ·rw [if_neg c16] at H
          exact absurd H (by simp)
      ·replace c8 := Bool.eq_false_iff.mpr c8
       subst c8
       have H1 : (if 0 < (x7_1.length : Int) then ((some (x7_1.set (0 : Int).toNat (⟨(rd_T94 x7_1 0).f0,2,(rd_T94 x7_1 0).f2,(rd_T94 x7_1 0).f3⟩ : S94) : List (S94))).bind fun y110 => (if 0 ≤ (wrap64 ((x7_1.length : Int) - 1)) then (if (wrap64 ((x7_1.length : Int) - 1)) < (x7_1.length : Int) then ((some (y110.set ((wrap64 ((x7_1.length : Int) - 1)) : Int).toNat (⟨(rd_T94 y110 (wrap64 ((x7_1.length : Int) - 1))).f0,4,(rd_T94 y110 (wrap64 ((x7_1.length : Int) - 1))).f2,(rd_T94 y110 (wrap64 ((x7_1.length : Int) - 1))).f3⟩ : S94) : List (S94))).bind fun y111 => (if (x7_1.length : Int) = 1 then (some ((y111.set (0 : Int).toNat (⟨(rd_T94 y111 0).f0,1,(rd_T94 y111 0).f2,(rd_T94 y111 0).f3⟩ : S94)),x0_1,true)) else (some (y111,x0_1,true)))) else (none)) else (none))) else (none)) = some (r1,r2,r3) := by rw [if_neg (show ¬ (false = true) by decide)] at H;exact H
       clear H
       have H := H1
       clear H1
       by_cases c18 : 0 < (x7_1.length : Int)
       ·rw [if_pos c18] at H
        have c18b0 : decide (0 < (x7_1.length : Int)) = true := decide_eq_true c18
        have c18b1 : decide (0 < x7_1.length) = true := decide_eq_true (by omega)
        clear c18
        obtain ⟨y110,hy110⟩ : ∃ y_ : List (S94),y_ = (x7_1.set (0 : Int).toNat (⟨(rd_T94 x7_1 0).f0,2,(rd_T94 x7_1 0).f2,(rd_T94 x7_1 0).f3⟩ : S94)) := ⟨_,rfl⟩
        replace H : (if 0 ≤ (wrap64 ((x7_1.length : Int) - 1)) then (if (wrap64 ((x7_1.length : Int) - 1)) < (x7_1.length : Int) then ((some (y110.set ((wrap64 ((x7_1.length : Int) - 1)) : Int).toNat (⟨(rd_T94 y110 (wrap64 ((x7_1.length : Int) - 1))).f0,4,(rd_T94 y110 (wrap64 ((x7_1.length : Int) - 1))).f2,(rd_T94 y110 (wrap64 ((x7_1.length : Int) - 1))).f3⟩ : S94) : List (S94))).bind fun y111 => (if (x7_1.length : Int) = 1 then (some ((y111.set (0 : Int).toNat (⟨(rd_T94 y111 0).f0,1,(rd_T94 y111 0).f2,(rd_T94 y111 0).f3⟩ : S94)),x0_1,true)) else (some (y111,x0_1,true)))) else (none)) else (none)) = some (r1,r2,r3) := by first|(rw [hy110];with_reducible exact H)|(have H2_ := (Option.bind_some _ _).symm.trans H;rw [hy110];with_reducible exact H2_)|(have H2_ := (Option.bind_some _ _).symm.trans H;with_reducible exact H2_)|with_reducible exact H|(rw [hy110];exact H)|exact H
        have Ny110 := Aside0.mk hy110
        clear hy110
        obtain ⟨ji20,hji20⟩ : ∃ j_ : Int,(wrap64 ((x7_1.length : Int) - 1)) = j_ := ⟨_,rfl⟩
        replace H : (if 0 ≤ (ji20) then (if (ji20) < (x7_1.length : Int) then ((some (y110.set ((ji20) : Int).toNat (⟨(rd_T94 y110 (ji20)).f0,4,(rd_T94 y110 (ji20)).f2,(rd_T94 y110 (ji20)).f3⟩ : S94) : List (S94))).bind fun y111 => (if (x7_1.length : Int) = 1 then (some ((y111.set (0 : Int).toNat (⟨(rd_T94 y111 0).f0,1,(rd_T94 y111 0).f2,(rd_T94 y111 0).f3⟩ : S94)),x0_1,true)) else (some (y111,x0_1,true)))) else (none)) else (none)) = some (r1,r2,r3) := by first|(rw [hji20] at H;exact H)|(simp only [hji20] at H ⊢;exact H)
        have hji20w : (IntKind.i64.wrap ((x7_1.length : Int) - 1)) = ji20 := (i64_w _).trans hji20
        by_cases c21 : 0 ≤ (ji20)
        ·rw [if_pos c21] at H
         have c21b0 : decide (0 ≤ (ji20)) = true := decide_eq_true c21
         clear c21
         by_cases c22 : (ji20) < (x7_1.length : Int)
         ·rw [if_pos c22] at H
          have c22b0 : decide ((ji20) < (x7_1.length : Int)) = true := decide_eq_true c22
          clear c22
          obtain ⟨y111,hy111⟩ : ∃ y_ : List (S94),y_ = (y110.set ((ji20) : Int).toNat (⟨(rd_T94 y110 (ji20)).f0,4,(rd_T94 y110 (ji20)).f2,(rd_T94 y110 (ji20)).f3⟩ : S94)) := ⟨_,rfl⟩
          replace H : (if (x7_1.length : Int) = 1 then (some ((y111.set (0 : Int).toNat (⟨(rd_T94 y111 0).f0,1,(rd_T94 y111 0).f2,(rd_T94 y111 0).f3⟩ : S94)),x0_1,true)) else (some (y111,x0_1,true))) = some (r1,r2,r3) := by first|(rw [hy111];with_reducible exact H)|(have H2_ := (Option.bind_some _ _).symm.trans H;rw [hy111];with_reducible exact H2_)|(have H2_ := (Option.bind_some _ _).symm.trans H;with_reducible exact H2_)|with_reducible exact H|(rw [hy111];exact H)|exact H
          have Ny111 := Aside0.mk hy111
          clear hy111
          by_cases c24 : (x7_1.length : Int) = 1
          ·rw [if_pos c24] at H
           have c24b0 : ((x7_1.length : Int) == 1) = true := beq_iff_eq.mpr c24
           have c24b1 : ((x7_1.length : Int) != 1) = false := bne_eq_false_iff_eq.mpr c24
           clear c24
           obtain ⟨y112,hy112⟩ : ∃ y_ : List (S94),y_ = (y111.set (0 : Int).toNat (⟨(rd_T94 y111 0).f0,1,(rd_T94 y111 0).f2,(rd_T94 y111 0).f3⟩ : S94)) := ⟨_,rfl⟩
           replace H : (some (y112,x0_1,true)) = some (r1,r2,r3) := by first|(rw [hy112];with_reducible exact H)|(have H2_ := (Option.bind_some _ _).symm.trans H;rw [hy112];with_reducible exact H2_)|(have H2_ := (Option.bind_some _ _).symm.trans H;with_reducible exact H2_)|with_reducible exact H|(rw [hy112];exact H)|exact H
           have Ny112 := Aside0.mk hy112
           clear hy112
           simp only [Option.some.injEq,Prod.mk.injEq] at H
           obtain ⟨rfl,rfl,rfl⟩ := H
           have p19 : 0 ≤ (0 : Int) := (by omega)
           have q19 : (0 : Int) < ((x7_1.length : Int) : Int) := of_decide_eq_true (by first|(with_reducible assumption)|assumption)
           have qi19 : (0 < x7_1.length) = True := eq_true (by omega)
           obtain ⟨go19,co19,eo19,gb19,gl19,cl19,HG19⟩ := Kd.R_form HO_7.out (by omega)
           (first|cases eo19|(injection eo19 with ea_ en_ ec_;(first|subst ea_|(injection ea_ with ea_;subst ea_));subst ec_;clear en_))
           have GB19 := Aside0.mk gb19
           have GG19 := Aside0.mk HG19
           clear gb19 gl19 HG19
           obtain ⟨ce19,hcl19,hM19,hcc19,hfr19⟩ := Kd.R_elem HO_7.out z94 (0 : Int) p19 q19
           obtain rfl := k94_openM hM19
           have hx19_0 : wc.cell? ⟨go19,(0 : Int).toNat * 4,none⟩ = some (.int .i64 ((rd_T94 x7_1 0).f0)) := hcc19 0 _ rfl
           have hx19_1 : wc.cell? ⟨go19,(0 : Int).toNat * 4 + 1,none⟩ = some (.int .i64 ((rd_T94 x7_1 0).f1)) := hcc19 1 _ rfl
           have hx19_2 : wc.cell? ⟨go19,(0 : Int).toNat * 4 + 2,none⟩ = some (.int .i64 ((rd_T94 x7_1 0).f2)) := hcc19 2 _ rfl
           have hx19_3 : wc.cell? ⟨go19,(0 : Int).toNat * 4 + 3,none⟩ = some (.int .i64 ((rd_T94 x7_1 0).f3)) := hcc19 3 _ rfl
           have hf19_0 : wc.frozen? ⟨go19,(0 : Int).toNat * 4,none⟩ = false := hfr19 0
           have hf19_1 : wc.frozen? ⟨go19,(0 : Int).toNat * 4 + 1,none⟩ = false := hfr19 1
           have hf19_2 : wc.frozen? ⟨go19,(0 : Int).toNat * 4 + 2,none⟩ = false := hfr19 2
           have hf19_3 : wc.frozen? ⟨go19,(0 : Int).toNat * 4 + 3,none⟩ = false := hfr19 3
           clear hcl19 hcc19 hfr19 hM19
           (try rw [show ((0 : Int)).toNat = 0 from rfl] at hx19_0)
           (try simp only [Nat.reduceMul,Nat.zero_mul,Nat.zero_add,Nat.reduceAdd] at hx19_0)
           (try rw [show ((0 : Int)).toNat = 0 from rfl] at hf19_0)
           (try simp only [Nat.reduceMul,Nat.zero_mul,Nat.zero_add,Nat.reduceAdd] at hf19_0)
           (try rw [show ((0 : Int)).toNat = 0 from rfl] at hx19_1)
           (try simp only [Nat.reduceMul,Nat.zero_mul,Nat.zero_add,Nat.reduceAdd] at hx19_1)
           (try rw [show ((0 : Int)).toNat = 0 from rfl] at hf19_1)
           (try simp only [Nat.reduceMul,Nat.zero_mul,Nat.zero_add,Nat.reduceAdd] at hf19_1)
           (try rw [show ((0 : Int)).toNat = 0 from rfl] at hx19_2)
           (try simp only [Nat.reduceMul,Nat.zero_mul,Nat.zero_add,Nat.reduceAdd] at hx19_2)
           (try rw [show ((0 : Int)).toNat = 0 from rfl] at hf19_2)
           (try simp only [Nat.reduceMul,Nat.zero_mul,Nat.zero_add,Nat.reduceAdd] at hf19_2)
           (try rw [show ((0 : Int)).toNat = 0 from rfl] at hx19_3)
           (try simp only [Nat.reduceMul,Nat.zero_mul,Nat.zero_add,Nat.reduceAdd] at hx19_3)
           (try rw [show ((0 : Int)).toNat = 0 from rfl] at hf19_3)
           (try simp only [Nat.reduceMul,Nat.zero_mul,Nat.zero_add,Nat.reduceAdd] at hf19_3)
           replace p19 := eq_true p19
           replace q19 := eq_true q19
           have HX26 := Aside0.mk (show Kd.R k94 94 wc w.heap.size (fun _ => True) (.slice (some ⟨go19,0,none⟩) x7_1.length co19) x7_1 from (by (with_reducible repeat (first|apply Kd.R_alloc|apply Kd.R_drewN|apply Kd.R_drew));exact HO_7.out))
           obtain ⟨ce26,hcl26,hM26,hcc26,hfr26⟩ := Kd.R_elem HX26.out z94 (0 : Int) (by omega) (by have h_ : (0 : Int) < ((x7_1.length : Int) : Int) := of_decide_eq_true (by first|(with_reducible assumption)|assumption);first|exact h_|(have e_ := (Kd.R_reads' HO_7.out).1;omega)|simpa using h_)
           obtain rfl := k94_openM hM26
           have HP26 := Kd.R_seg HX26.out (0 : Int) (by omega) (by have h_ : (0 : Int) < ((x7_1.length : Int) : Int) := of_decide_eq_true (by first|(with_reducible assumption)|assumption);first|exact h_|(have e_ := (Kd.R_reads' HO_7.out).1;omega)|simpa using h_) (seg := [.int .i64 2]) (j := 1) hcl26 hcc26 (show 2 ≤ 4 from by decide) (x' := (⟨(rd_T94 x7_1 0).f0,2,(rd_T94 x7_1 0).f2,(rd_T94 x7_1 0).f3⟩ : S94)) (k94_mkM _ _ _ (⟨(rd_T94 x7_1 0).f0,2,(rd_T94 x7_1 0).f2,(rd_T94 x7_1 0).f3⟩ : S94)) (fun _ hk => hk)
           have hx26_1 := hcc26 1 _ rfl
           (try simp only [show (k94).sz = 4 from rfl,Nat.mul_one,Nat.add_zero] at hx26_1)
           (try rw [show ((0 : Int)).toNat = 0 from rfl] at hx26_1)
           (try simp only [Nat.reduceMul,Nat.zero_mul,Nat.zero_add,Nat.reduceAdd] at hx26_1)
           have hf26_1 := hfr26 1
           (try simp only [show (k94).sz = 4 from rfl,Nat.mul_one,Nat.add_zero] at hf26_1)
           (try rw [show ((0 : Int)).toNat = 0 from rfl] at hf26_1)
           (try simp only [Nat.reduceMul,Nat.zero_mul,Nat.zero_add,Nat.reduceAdd] at hf26_1)
           clear hcl26 hcc26 hfr26 hM26
           go_wp2_with (first|((with_reducible refine gate_store (t := 3) (p := 53) rfl ?_);refine store_event (t := 3) (p := 53) (v := ?vo_w27) (w1 := (wc.setCell ⟨go19,1,none⟩ (.int .i64 2))) ?hg ?ho ?hn ?hr ?_;(case ho => rfl);(case hg => rfl);(case hn => rfl);(case hr => first|(go_simp;done)|(go_simp;rfl));intro w27 hw;have hg : wc.grownBy w27 (some go19) := (by rw [hw];exact HP26.2);have hp_ : Kd.R k94 94 w27 w.heap.size (fun _ => True) (.slice (some ⟨go19,0,none⟩) x7_1.length co19) y110 := (by rw [hw,Ny110.out];exact HP26.1);clear HP26;have n0_ := Aside0.mk (hp_);have n1_ := Aside0.mk ((by rw [hw];exact below_set (HB.out) GB19.out : Below w.heap.size w w27));clear HO_7;clear HB;have HO_7 := n0_;have HB := n1_;clear n0_ n1_;clear hg hw hp_;have p23 : 0 ≤ ((ji20) : Int) := of_decide_eq_true (by first|(with_reducible assumption)|assumption);have q23 : ((ji20) : Int) < ((x7_1.length : Int) : Int) := of_decide_eq_true (by first|(with_reducible assumption)|assumption);obtain ⟨ce23,hcl23,hM23,hcc23,hfr23⟩ := Kd.R_elem HO_7.out z94 ((ji20) : Int) p23 q23;obtain rfl := k94_openM hM23;have hx23_0 : w27.cell? ⟨go19,((ji20) : Int).toNat * 4,none⟩ = some (.int .i64 ((rd_T94 y110 (ji20)).f0)) := hcc23 0 _ rfl;have hx23_1 : w27.cell? ⟨go19,((ji20) : Int).toNat * 4 + 1,none⟩ = some (.int .i64 ((rd_T94 y110 (ji20)).f1)) := hcc23 1 _ rfl;have hx23_2 : w27.cell? ⟨go19,((ji20) : Int).toNat * 4 + 2,none⟩ = some (.int .i64 ((rd_T94 y110 (ji20)).f2)) := hcc23 2 _ rfl;have hx23_3 : w27.cell? ⟨go19,((ji20) : Int).toNat * 4 + 3,none⟩ = some (.int .i64 ((rd_T94 y110 (ji20)).f3)) := hcc23 3 _ rfl;have hf23_0 : w27.frozen? ⟨go19,((ji20) : Int).toNat * 4,none⟩ = false := hfr23 0;have hf23_1 : w27.frozen? ⟨go19,((ji20) : Int).toNat * 4 + 1,none⟩ = false := hfr23 1;have hf23_2 : w27.frozen? ⟨go19,((ji20) : Int).toNat * 4 + 2,none⟩ = false := hfr23 2;have hf23_3 : w27.frozen? ⟨go19,((ji20) : Int).toNat * 4 + 3,none⟩ = false := hfr23 3;clear hcl23 hcc23 hfr23 hM23;replace p23 := eq_true p23;replace q23 := eq_true q23;have HX28 := Aside0.mk (show Kd.R k94 94 w27 w.heap.size (fun _ => True) (.slice (some ⟨go19,0,none⟩) x7_1.length co19) y110 from (by (with_reducible repeat (first|apply Kd.R_alloc|apply Kd.R_drewN|apply Kd.R_drew));exact HO_7.out));obtain ⟨ce28,hcl28,hM28,hcc28,hfr28⟩ := Kd.R_elem HX28.out z94 ((ji20) : Int) (of_decide_eq_true (by first|(with_reducible assumption)|assumption)) (by have h_ : ((ji20) : Int) < ((x7_1.length : Int) : Int) := of_decide_eq_true (by first|(with_reducible assumption)|assumption);first|exact h_|(have e_ := (Kd.R_reads' HO_7.out).1;omega)|simpa using h_);obtain rfl := k94_openM hM28;have HP28 := Kd.R_seg HX28.out ((ji20) : Int) (of_decide_eq_true (by first|(with_reducible assumption)|assumption)) (by have h_ : ((ji20) : Int) < ((x7_1.length : Int) : Int) := of_decide_eq_true (by first|(with_reducible assumption)|assumption);first|exact h_|(have e_ := (Kd.R_reads' HO_7.out).1;omega)|simpa using h_) (seg := [.int .i64 4]) (j := 1) hcl28 hcc28 (show 2 ≤ 4 from by decide) (x' := (⟨(rd_T94 y110 (ji20)).f0,4,(rd_T94 y110 (ji20)).f2,(rd_T94 y110 (ji20)).f3⟩ : S94)) (k94_mkM _ _ _ (⟨(rd_T94 y110 (ji20)).f0,4,(rd_T94 y110 (ji20)).f2,(rd_T94 y110 (ji20)).f3⟩ : S94)) (fun _ hk => hk);have hx28_1 := hcc28 1 _ rfl;(try simp only [show (k94).sz = 4 from rfl,Nat.mul_one,Nat.add_zero] at hx28_1);have hf28_1 := hfr28 1;(try simp only [show (k94).sz = 4 from rfl,Nat.mul_one,Nat.add_zero] at hf28_1);clear hcl28 hcc28 hfr28 hM28)|((with_reducible refine gate_store (t := 3) (p := 59) rfl ?_);refine store_event (t := 3) (p := 59) (v := ?vo_w29) (w1 := (w27.setCell ⟨go19,((ji20) : Int).toNat * 4 + 1,none⟩ (.int .i64 4))) ?hg ?ho ?hn ?hr ?_;(case ho => rfl);(case hg => rfl);(case hn => rfl);(case hr => first|(go_simp;done)|(go_simp;rfl));intro w29 hw;have hg : w27.grownBy w29 (some go19) := (by rw [hw];exact HP28.2);have hp_ : Kd.R k94 94 w29 w.heap.size (fun _ => True) (.slice (some ⟨go19,0,none⟩) x7_1.length co19) y111 := (by rw [hw,Ny111.out];exact HP28.1);clear HP28;have n0_ := Aside0.mk (hp_);have n1_ := Aside0.mk ((by rw [hw];exact below_set (HB.out) GB19.out : Below w.heap.size w w29));clear HO_7;clear HB;have HO_7 := n0_;have HB := n1_;clear n0_ n1_;clear hg hw hp_;have p25 : 0 ≤ (0 : Int) := (by omega);have q25 : (0 : Int) < ((x7_1.length : Int) : Int) := of_decide_eq_true (by first|(with_reducible assumption)|assumption);have qi25 : (0 < x7_1.length) = True := eq_true (by omega);obtain ⟨ce25,hcl25,hM25,hcc25,hfr25⟩ := Kd.R_elem HO_7.out z94 (0 : Int) p25 q25;obtain rfl := k94_openM hM25;have hx25_0 : w29.cell? ⟨go19,(0 : Int).toNat * 4,none⟩ = some (.int .i64 ((rd_T94 y111 0).f0)) := hcc25 0 _ rfl;have hx25_1 : w29.cell? ⟨go19,(0 : Int).toNat * 4 + 1,none⟩ = some (.int .i64 ((rd_T94 y111 0).f1)) := hcc25 1 _ rfl;have hx25_2 : w29.cell? ⟨go19,(0 : Int).toNat * 4 + 2,none⟩ = some (.int .i64 ((rd_T94 y111 0).f2)) := hcc25 2 _ rfl;have hx25_3 : w29.cell? ⟨go19,(0 : Int).toNat * 4 + 3,none⟩ = some (.int .i64 ((rd_T94 y111 0).f3)) := hcc25 3 _ rfl;have hf25_0 : w29.frozen? ⟨go19,(0 : Int).toNat * 4,none⟩ = false := hfr25 0;have hf25_1 : w29.frozen? ⟨go19,(0 : Int).toNat * 4 + 1,none⟩ = false := hfr25 1;have hf25_2 : w29.frozen? ⟨go19,(0 : Int).toNat * 4 + 2,none⟩ = false := hfr25 2;have hf25_3 : w29.frozen? ⟨go19,(0 : Int).toNat * 4 + 3,none⟩ = false := hfr25 3;clear hcl25 hcc25 hfr25 hM25;(try rw [show ((0 : Int)).toNat = 0 from rfl] at hx25_0);(try simp only [Nat.reduceMul,Nat.zero_mul,Nat.zero_add,Nat.reduceAdd] at hx25_0);(try rw [show ((0 : Int)).toNat = 0 from rfl] at hf25_0);(try simp only [Nat.reduceMul,Nat.zero_mul,Nat.zero_add,Nat.reduceAdd] at hf25_0);(try rw [show ((0 : Int)).toNat = 0 from rfl] at hx25_1);(try simp only [Nat.reduceMul,Nat.zero_mul,Nat.zero_add,Nat.reduceAdd] at hx25_1);(try rw [show ((0 : Int)).toNat = 0 from rfl] at hf25_1);(try simp only [Nat.reduceMul,Nat.zero_mul,Nat.zero_add,Nat.reduceAdd] at hf25_1);(try rw [show ((0 : Int)).toNat = 0 from rfl] at hx25_2);(try simp only [Nat.reduceMul,Nat.zero_mul,Nat.zero_add,Nat.reduceAdd] at hx25_2);(try rw [show ((0 : Int)).toNat = 0 from rfl] at hf25_2);(try simp only [Nat.reduceMul,Nat.zero_mul,Nat.zero_add,Nat.reduceAdd] at hf25_2);(try rw [show ((0 : Int)).toNat = 0 from rfl] at hx25_3);(try simp only [Nat.reduceMul,Nat.zero_mul,Nat.zero_add,Nat.reduceAdd] at hx25_3);(try rw [show ((0 : Int)).toNat = 0 from rfl] at hf25_3);(try simp only [Nat.reduceMul,Nat.zero_mul,Nat.zero_add,Nat.reduceAdd] at hf25_3);replace p25 := eq_true p25;replace q25 := eq_true q25;have HX30 := Aside0.mk (show Kd.R k94 94 w29 w.heap.size (fun _ => True) (.slice (some ⟨go19,0,none⟩) x7_1.length co19) y111 from (by (with_reducible repeat (first|apply Kd.R_alloc|apply Kd.R_drewN|apply Kd.R_drew));exact HO_7.out));obtain ⟨ce30,hcl30,hM30,hcc30,hfr30⟩ := Kd.R_elem HX30.out z94 (0 : Int) (by omega) (by have h_ : (0 : Int) < ((x7_1.length : Int) : Int) := of_decide_eq_true (by first|(with_reducible assumption)|assumption);first|exact h_|(have e_ := (Kd.R_reads' HO_7.out).1;omega)|simpa using h_);obtain rfl := k94_openM hM30;have HP30 := Kd.R_seg HX30.out (0 : Int) (by omega) (by have h_ : (0 : Int) < ((x7_1.length : Int) : Int) := of_decide_eq_true (by first|(with_reducible assumption)|assumption);first|exact h_|(have e_ := (Kd.R_reads' HO_7.out).1;omega)|simpa using h_) (seg := [.int .i64 1]) (j := 1) hcl30 hcc30 (show 2 ≤ 4 from by decide) (x' := (⟨(rd_T94 y111 0).f0,1,(rd_T94 y111 0).f2,(rd_T94 y111 0).f3⟩ : S94)) (k94_mkM _ _ _ (⟨(rd_T94 y111 0).f0,1,(rd_T94 y111 0).f2,(rd_T94 y111 0).f3⟩ : S94)) (fun _ hk => hk);have hx30_1 := hcc30 1 _ rfl;(try simp only [show (k94).sz = 4 from rfl,Nat.mul_one,Nat.add_zero] at hx30_1);(try rw [show ((0 : Int)).toNat = 0 from rfl] at hx30_1);(try simp only [Nat.reduceMul,Nat.zero_mul,Nat.zero_add,Nat.reduceAdd] at hx30_1);have hf30_1 := hfr30 1;(try simp only [show (k94).sz = 4 from rfl,Nat.mul_one,Nat.add_zero] at hf30_1);(try rw [show ((0 : Int)).toNat = 0 from rfl] at hf30_1);(try simp only [Nat.reduceMul,Nat.zero_mul,Nat.zero_add,Nat.reduceAdd] at hf30_1);clear hcl30 hcc30 hfr30 hM30)|((with_reducible refine gate_store (t := 3) (p := 65) rfl ?_);refine store_event (t := 3) (p := 65) (v := ?vo_w31) (w1 := (w29.setCell ⟨go19,1,none⟩ (.int .i64 1))) ?hg ?ho ?hn ?hr ?_;(case ho => rfl);(case hg => rfl);(case hn => rfl);(case hr => first|(go_simp;done)|(go_simp;rfl));intro w31 hw;have hg : w29.grownBy w31 (some go19) := (by rw [hw];exact HP30.2);have hp_ : Kd.R k94 94 w31 w.heap.size (fun _ => True) (.slice (some ⟨go19,0,none⟩) x7_1.length co19) y112 := (by rw [hw,Ny112.out];exact HP30.1);clear HP30;have n0_ := Aside0.mk (hp_);have n1_ := Aside0.mk ((by rw [hw];exact below_set (HB.out) GB19.out : Below w.heap.size w w31));clear HO_7;clear HB;have HO_7 := n0_;have HB := n1_;clear n0_ n1_;clear hg hw hp_))
           go_ret3
           exact ⟨_,by first|rfl|(simp [errW_none,errW_some] <;> rfl)|(simp only [← hji20];first|rfl|(simp [errW_none,errW_some] <;> rfl))|(simp [*,errW_none,errW_some] <;> rfl),by (with_reducible repeat (first|apply Kd.R_alloc|apply Kd.R_drewN|apply Kd.R_drew));exact HO_7.out,by repeat (first|(with_reducible first|exact HB.out|apply below_alloc|apply pw_below_drewN|apply below_drew1)|exact HB.out)⟩
          ·rw [if_neg c24] at H
           have c24b0 : ((x7_1.length : Int) == 1) = false := beq_eq_false_iff_ne.mpr c24
           have c24b1 : ((x7_1.length : Int) != 1) = true := bne_iff_ne.mpr c24
           simp only [Option.some.injEq,Prod.mk.injEq] at H
           obtain ⟨rfl,rfl,rfl⟩ := H
           have p19 : 0 ≤ (0 : Int) := (by omega)
           have q19 : (0 : Int) < ((x7_1.length : Int) : Int) := of_decide_eq_true (by first|(with_reducible assumption)|assumption)
           have qi19 : (0 < x7_1.length) = True := eq_true (by omega)
           obtain ⟨go19,co19,eo19,gb19,gl19,cl19,HG19⟩ := Kd.R_form HO_7.out (by omega)
           (first|cases eo19|(injection eo19 with ea_ en_ ec_;(first|subst ea_|(injection ea_ with ea_;subst ea_));subst ec_;clear en_))
           have GB19 := Aside0.mk gb19
           have GG19 := Aside0.mk HG19
           clear gb19 gl19 HG19
           obtain ⟨ce19,hcl19,hM19,hcc19,hfr19⟩ := Kd.R_elem HO_7.out z94 (0 : Int) p19 q19
           obtain rfl := k94_openM hM19
           have hx19_0 : wc.cell? ⟨go19,(0 : Int).toNat * 4,none⟩ = some (.int .i64 ((rd_T94 x7_1 0).f0)) := hcc19 0 _ rfl
           have hx19_1 : wc.cell? ⟨go19,(0 : Int).toNat * 4 + 1,none⟩ = some (.int .i64 ((rd_T94 x7_1 0).f1)) := hcc19 1 _ rfl
           have hx19_2 : wc.cell? ⟨go19,(0 : Int).toNat * 4 + 2,none⟩ = some (.int .i64 ((rd_T94 x7_1 0).f2)) := hcc19 2 _ rfl
           have hx19_3 : wc.cell? ⟨go19,(0 : Int).toNat * 4 + 3,none⟩ = some (.int .i64 ((rd_T94 x7_1 0).f3)) := hcc19 3 _ rfl
           have hf19_0 : wc.frozen? ⟨go19,(0 : Int).toNat * 4,none⟩ = false := hfr19 0
           have hf19_1 : wc.frozen? ⟨go19,(0 : Int).toNat * 4 + 1,none⟩ = false := hfr19 1
           have hf19_2 : wc.frozen? ⟨go19,(0 : Int).toNat * 4 + 2,none⟩ = false := hfr19 2
           have hf19_3 : wc.frozen? ⟨go19,(0 : Int).toNat * 4 + 3,none⟩ = false := hfr19 3
           clear hcl19 hcc19 hfr19 hM19
           (try rw [show ((0 : Int)).toNat = 0 from rfl] at hx19_0)
           (try simp only [Nat.reduceMul,Nat.zero_mul,Nat.zero_add,Nat.reduceAdd] at hx19_0)
           (try rw [show ((0 : Int)).toNat = 0 from rfl] at hf19_0)
           (try simp only [Nat.reduceMul,Nat.zero_mul,Nat.zero_add,Nat.reduceAdd] at hf19_0)
           (try rw [show ((0 : Int)).toNat = 0 from rfl] at hx19_1)
           (try simp only [Nat.reduceMul,Nat.zero_mul,Nat.zero_add,Nat.reduceAdd] at hx19_1)
           (try rw [show ((0 : Int)).toNat = 0 from rfl] at hf19_1)
           (try simp only [Nat.reduceMul,Nat.zero_mul,Nat.zero_add,Nat.reduceAdd] at hf19_1)
           (try rw [show ((0 : Int)).toNat = 0 from rfl] at hx19_2)
           (try simp only [Nat.reduceMul,Nat.zero_mul,Nat.zero_add,Nat.reduceAdd] at hx19_2)
           (try rw [show ((0 : Int)).toNat = 0 from rfl] at hf19_2)
           (try simp only [Nat.reduceMul,Nat.zero_mul,Nat.zero_add,Nat.reduceAdd] at hf19_2)
           (try rw [show ((0 : Int)).toNat = 0 from rfl] at hx19_3)
           (try simp only [Nat.reduceMul,Nat.zero_mul,Nat.zero_add,Nat.reduceAdd] at hx19_3)
           (try rw [show ((0 : Int)).toNat = 0 from rfl] at hf19_3)
           (try simp only [Nat.reduceMul,Nat.zero_mul,Nat.zero_add,Nat.reduceAdd] at hf19_3)
           replace p19 := eq_true p19
           replace q19 := eq_true q19
           have HX32 := Aside0.mk (show Kd.R k94 94 wc w.heap.size (fun _ => True) (.slice (some ⟨go19,0,none⟩) x7_1.length co19) x7_1 from (by (with_reducible repeat (first|apply Kd.R_alloc|apply Kd.R_drewN|apply Kd.R_drew));exact HO_7.out))
           obtain ⟨ce32,hcl32,hM32,hcc32,hfr32⟩ := Kd.R_elem HX32.out z94 (0 : Int) (by omega) (by have h_ : (0 : Int) < ((x7_1.length : Int) : Int) := of_decide_eq_true (by first|(with_reducible assumption)|assumption);first|exact h_|(have e_ := (Kd.R_reads' HO_7.out).1;omega)|simpa using h_)
           obtain rfl := k94_openM hM32
           have HP32 := Kd.R_seg HX32.out (0 : Int) (by omega) (by have h_ : (0 : Int) < ((x7_1.length : Int) : Int) := of_decide_eq_true (by first|(with_reducible assumption)|assumption);first|exact h_|(have e_ := (Kd.R_reads' HO_7.out).1;omega)|simpa using h_) (seg := [.int .i64 2]) (j := 1) hcl32 hcc32 (show 2 ≤ 4 from by decide) (x' := (⟨(rd_T94 x7_1 0).f0,2,(rd_T94 x7_1 0).f2,(rd_T94 x7_1 0).f3⟩ : S94)) (k94_mkM _ _ _ (⟨(rd_T94 x7_1 0).f0,2,(rd_T94 x7_1 0).f2,(rd_T94 x7_1 0).f3⟩ : S94)) (fun _ hk => hk)
           have hx32_1 := hcc32 1 _ rfl
           (try simp only [show (k94).sz = 4 from rfl,Nat.mul_one,Nat.add_zero] at hx32_1)
           (try rw [show ((0 : Int)).toNat = 0 from rfl] at hx32_1)
           (try simp only [Nat.reduceMul,Nat.zero_mul,Nat.zero_add,Nat.reduceAdd] at hx32_1)
           have hf32_1 := hfr32 1
           (try simp only [show (k94).sz = 4 from rfl,Nat.mul_one,Nat.add_zero] at hf32_1)
           (try rw [show ((0 : Int)).toNat = 0 from rfl] at hf32_1)
           (try simp only [Nat.reduceMul,Nat.zero_mul,Nat.zero_add,Nat.reduceAdd] at hf32_1)
           clear hcl32 hcc32 hfr32 hM32
           go_wp2_with (first|((with_reducible refine gate_store (t := 3) (p := 53) rfl ?_);refine store_event (t := 3) (p := 53) (v := ?vo_w33) (w1 := (wc.setCell ⟨go19,1,none⟩ (.int .i64 2))) ?hg ?ho ?hn ?hr ?_;(case ho => rfl);(case hg => rfl);(case hn => rfl);(case hr => first|(go_simp;done)|(go_simp;rfl));intro w33 hw;have hg : wc.grownBy w33 (some go19) := (by rw [hw];exact HP32.2);have hp_ : Kd.R k94 94 w33 w.heap.size (fun _ => True) (.slice (some ⟨go19,0,none⟩) x7_1.length co19) y110 := (by rw [hw,Ny110.out];exact HP32.1);clear HP32;have n0_ := Aside0.mk (hp_);have n1_ := Aside0.mk ((by rw [hw];exact below_set (HB.out) GB19.out : Below w.heap.size w w33));clear HO_7;clear HB;have HO_7 := n0_;have HB := n1_;clear n0_ n1_;clear hg hw hp_;have p23 : 0 ≤ ((ji20) : Int) := of_decide_eq_true (by first|(with_reducible assumption)|assumption);have q23 : ((ji20) : Int) < ((x7_1.length : Int) : Int) := of_decide_eq_true (by first|(with_reducible assumption)|assumption);obtain ⟨ce23,hcl23,hM23,hcc23,hfr23⟩ := Kd.R_elem HO_7.out z94 ((ji20) : Int) p23 q23;obtain rfl := k94_openM hM23;have hx23_0 : w33.cell? ⟨go19,((ji20) : Int).toNat * 4,none⟩ = some (.int .i64 ((rd_T94 y110 (ji20)).f0)) := hcc23 0 _ rfl;have hx23_1 : w33.cell? ⟨go19,((ji20) : Int).toNat * 4 + 1,none⟩ = some (.int .i64 ((rd_T94 y110 (ji20)).f1)) := hcc23 1 _ rfl;have hx23_2 : w33.cell? ⟨go19,((ji20) : Int).toNat * 4 + 2,none⟩ = some (.int .i64 ((rd_T94 y110 (ji20)).f2)) := hcc23 2 _ rfl;have hx23_3 : w33.cell? ⟨go19,((ji20) : Int).toNat * 4 + 3,none⟩ = some (.int .i64 ((rd_T94 y110 (ji20)).f3)) := hcc23 3 _ rfl;have hf23_0 : w33.frozen? ⟨go19,((ji20) : Int).toNat * 4,none⟩ = false := hfr23 0;have hf23_1 : w33.frozen? ⟨go19,((ji20) : Int).toNat * 4 + 1,none⟩ = false := hfr23 1;have hf23_2 : w33.frozen? ⟨go19,((ji20) : Int).toNat * 4 + 2,none⟩ = false := hfr23 2;have hf23_3 : w33.frozen? ⟨go19,((ji20) : Int).toNat * 4 + 3,none⟩ = false := hfr23 3;clear hcl23 hcc23 hfr23 hM23;replace p23 := eq_true p23;replace q23 := eq_true q23;have HX34 := Aside0.mk (show Kd.R k94 94 w33 w.heap.size (fun _ => True) (.slice (some ⟨go19,0,none⟩) x7_1.length co19) y110 from (by (with_reducible repeat (first|apply Kd.R_alloc|apply Kd.R_drewN|apply Kd.R_drew));exact HO_7.out));obtain ⟨ce34,hcl34,hM34,hcc34,hfr34⟩ := Kd.R_elem HX34.out z94 ((ji20) : Int) (of_decide_eq_true (by first|(with_reducible assumption)|assumption)) (by have h_ : ((ji20) : Int) < ((x7_1.length : Int) : Int) := of_decide_eq_true (by first|(with_reducible assumption)|assumption);first|exact h_|(have e_ := (Kd.R_reads' HO_7.out).1;omega)|simpa using h_);obtain rfl := k94_openM hM34;have HP34 := Kd.R_seg HX34.out ((ji20) : Int) (of_decide_eq_true (by first|(with_reducible assumption)|assumption)) (by have h_ : ((ji20) : Int) < ((x7_1.length : Int) : Int) := of_decide_eq_true (by first|(with_reducible assumption)|assumption);first|exact h_|(have e_ := (Kd.R_reads' HO_7.out).1;omega)|simpa using h_) (seg := [.int .i64 4]) (j := 1) hcl34 hcc34 (show 2 ≤ 4 from by decide) (x' := (⟨(rd_T94 y110 (ji20)).f0,4,(rd_T94 y110 (ji20)).f2,(rd_T94 y110 (ji20)).f3⟩ : S94)) (k94_mkM _ _ _ (⟨(rd_T94 y110 (ji20)).f0,4,(rd_T94 y110 (ji20)).f2,(rd_T94 y110 (ji20)).f3⟩ : S94)) (fun _ hk => hk);have hx34_1 := hcc34 1 _ rfl;(try simp only [show (k94).sz = 4 from rfl,Nat.mul_one,Nat.add_zero] at hx34_1);have hf34_1 := hfr34 1;(try simp only [show (k94).sz = 4 from rfl,Nat.mul_one,Nat.add_zero] at hf34_1);clear hcl34 hcc34 hfr34 hM34)|((with_reducible refine gate_store (t := 3) (p := 59) rfl ?_);refine store_event (t := 3) (p := 59) (v := ?vo_w35) (w1 := (w33.setCell ⟨go19,((ji20) : Int).toNat * 4 + 1,none⟩ (.int .i64 4))) ?hg ?ho ?hn ?hr ?_;(case ho => rfl);(case hg => rfl);(case hn => rfl);(case hr => first|(go_simp;done)|(go_simp;rfl));intro w35 hw;have hg : w33.grownBy w35 (some go19) := (by rw [hw];exact HP34.2);have hp_ : Kd.R k94 94 w35 w.heap.size (fun _ => True) (.slice (some ⟨go19,0,none⟩) x7_1.length co19) y111 := (by rw [hw,Ny111.out];exact HP34.1);clear HP34;have n0_ := Aside0.mk (hp_);have n1_ := Aside0.mk ((by rw [hw];exact below_set (HB.out) GB19.out : Below w.heap.size w w35));clear HO_7;clear HB;have HO_7 := n0_;have HB := n1_;clear n0_ n1_;clear hg hw hp_))
           go_ret3
           exact ⟨_,by first|rfl|(simp [errW_none,errW_some] <;> rfl)|(simp only [← hji20];first|rfl|(simp [errW_none,errW_some] <;> rfl))|(simp [*,errW_none,errW_some] <;> rfl),by (with_reducible repeat (first|apply Kd.R_alloc|apply Kd.R_drewN|apply Kd.R_drew));exact HO_7.out,by repeat (first|(with_reducible first|exact HB.out|apply below_alloc|apply pw_below_drewN|apply below_drew1)|exact HB.out)⟩
         ·rw [if_neg c22] at H
          exact absurd H (by simp)
        ·rw [if_neg c21] at H
         exact absurd H (by simp)
       ·rw [if_neg c18] at H
        exact absurd H (by simp)
end Go.Proofs.YtaekpfhgdnfciaaDoor.F
end
