/- Functions of strandlineref14: what each answers, as a Lean function, and that the call answers just this. Turned out of what the kit's print told for this seat. -/
import Derived.Test.YthlpimojojofbaaF0
import Derived.Test.YthlpimojojofbaaFkStrandlineref07
namespace Go.Proofs.Ythlpimojojofbaa.F
open Go.RowKit Go.Proofs.YthlpimojojofbaaW.PrintWords Go.Proofs.YthlpimojojofbaaW.PrintLast Go.Proofs.YthlpimojojofbaaW.PrintMore
attribute [local go_sem high] eqA23
attribute [local go_sem high] eqA79
attribute [local go_sem] field23_0
attribute [local go_sem] field23_1
attribute [local go_sem] max2_int min2_int max_two min_two max_three min_three max_four min_four
set_option linter.unusedVariables false
set_option linter.unusedSimpArgs false

/-! ### strandlineref14_Cut: function 49 -/
mutual
def strandlineref14_Cut.l0 : Nat → Int → Int → List (S79) → Int → Option ((List (S79)) × Int × Bool)
  | 0, _, _, _, _ => none
  | k + 1, x0, x1, x7, x8 => if (x7.length : Int) = 0 then (strandlineref14_Cut.j1 k x0 x1 x7 x8 true) else (strandlineref14_Cut.j1 k x0 x1 x7 x8 (decide (x8 < x1)))
def strandlineref14_Cut.j1 : Nat → Int → Int → List (S79) → Int → Bool → Option ((List (S79)) × Int × Bool)
  | 0, _, _, _, _, _ => none
  | k + 1, x0, x1, x7, x8, x19 => if x19 = true then ((strandlineref07_Begin.f k x0).bind fun t125 => (if t125 ≥ 832 then (some (([] : List (S79)), 0, false)) else ((strandlineref07_Left.f k t125).bind fun t126 => (if (wrap64 (x1 - x8)) > (wrap64 (t126 - 11)) then ((strandlineref07_Left.f k t125).bind fun t127 => (if x7.length < 4398046511104 then (strandlineref14_Cut.l0 k (wrap64 ((wrap64 (t125 + 11)) + (wrap64 (t127 - 11)))) x1 (x7 ++ [(⟨t125, 3, x8, wrap64 (x8 + (wrap64 (t127 - 11)))⟩ : S79)]) (wrap64 (x8 + (wrap64 (t127 - 11))))) else (none))) else (if x7.length < 4398046511104 then (strandlineref14_Cut.l0 k (wrap64 ((wrap64 (t125 + 11)) + (wrap64 (x1 - x8)))) x1 (x7 ++ [(⟨t125, 3, x8, wrap64 (x8 + (wrap64 (x1 - x8)))⟩ : S79)]) (wrap64 (x8 + (wrap64 (x1 - x8))))) else (none)))))) else (if 0 < (x7.length : Int) then ((some (x7.set (0 : Int).toNat (⟨(rd_T79 x7 0).f0, 2, (rd_T79 x7 0).f2, (rd_T79 x7 0).f3⟩ : S79) : List (S79))).bind fun y122 => (if 0 ≤ (wrap64 ((x7.length : Int) - 1)) then (if (wrap64 ((x7.length : Int) - 1)) < (x7.length : Int) then ((some (y122.set ((wrap64 ((x7.length : Int) - 1)) : Int).toNat (⟨(rd_T79 y122 (wrap64 ((x7.length : Int) - 1))).f0, 4, (rd_T79 y122 (wrap64 ((x7.length : Int) - 1))).f2, (rd_T79 y122 (wrap64 ((x7.length : Int) - 1))).f3⟩ : S79) : List (S79))).bind fun y123 => (if (x7.length : Int) = 1 then (some ((y123.set (0 : Int).toNat (⟨(rd_T79 y123 0).f0, 1, (rd_T79 y123 0).f2, (rd_T79 y123 0).f3⟩ : S79)), x0, true)) else (some (y123, x0, true)))) else (none)) else (none))) else (none))
end
def strandlineref14_Cut.f (k : Nat) (a0 : Int) (a1 : Int) : Option ((List (S79)) × Int × Bool) := if a1 < 0 then (some (([] : List (S79)), 0, false)) else (strandlineref14_Cut.l0 k a0 a1 ([] : List (S79)) 0)
theorem strandlineref14_Cut.mono_l : ∀ k, (∀ y0 y1 y2 y3, LeO (strandlineref14_Cut.l0 k y0 y1 y2 y3) (strandlineref14_Cut.l0 (k + 1) y0 y1 y2 y3)) ∧ (∀ y0 y1 y2 y3 y4, LeO (strandlineref14_Cut.j1 k y0 y1 y2 y3 y4) (strandlineref14_Cut.j1 (k + 1) y0 y1 y2 y3 y4))
  | 0 => ⟨fun _ _ _ _ r h => by simp [strandlineref14_Cut.l0] at h, fun _ _ _ _ _ r h => by simp [strandlineref14_Cut.j1] at h⟩
  | k + 1 => by
    obtain ⟨ih0, ih1⟩ := strandlineref14_Cut.mono_l k
    refine ⟨?_, ?_⟩
    · intro y0 y1 y2 y3
      unfold strandlineref14_Cut.l0
      repeat' first
      | (with_reducible exact ih0 _ _ _ _)
      | (with_reducible exact ih1 _ _ _ _ _)
      | (with_reducible exact strandlineref07_Begin.mono _ _)
      | (with_reducible exact strandlineref07_Left.mono _ _)
      | (with_reducible exact LeO.refl _)
      | (with_reducible exact LeO.none _)
      | (with_reducible refine LeO.ite ?_ ?_)
      | (with_reducible refine LeO.bind ?_ (fun _ => ?_))
      | exact ih0 _ _ _ _
      | exact ih1 _ _ _ _ _
      | exact strandlineref07_Begin.mono _ _
      | exact strandlineref07_Left.mono _ _
      | exact LeO.none _
      | refine LeO.ite ?_ ?_
      | refine LeO.bind ?_ (fun _ => ?_)
    · intro y0 y1 y2 y3 y4
      unfold strandlineref14_Cut.j1
      repeat' first
      | (with_reducible exact ih0 _ _ _ _)
      | (with_reducible exact ih1 _ _ _ _ _)
      | (with_reducible exact strandlineref07_Begin.mono _ _)
      | (with_reducible exact strandlineref07_Left.mono _ _)
      | (with_reducible exact LeO.refl _)
      | (with_reducible exact LeO.none _)
      | (with_reducible refine LeO.ite ?_ ?_)
      | (with_reducible refine LeO.bind ?_ (fun _ => ?_))
      | exact ih0 _ _ _ _
      | exact ih1 _ _ _ _ _
      | exact strandlineref07_Begin.mono _ _
      | exact strandlineref07_Left.mono _ _
      | exact LeO.none _
      | refine LeO.ite ?_ ?_
      | refine LeO.bind ?_ (fun _ => ?_)
theorem strandlineref14_Cut.mono : ∀ a0 a1 k, LeO (strandlineref14_Cut.f k a0 a1) (strandlineref14_Cut.f (k + 1) a0 a1) := by
  intro a0 a1 k
  obtain ⟨ih0, ih1⟩ := strandlineref14_Cut.mono_l k
  unfold strandlineref14_Cut.f
  repeat' first
      | (with_reducible exact ih0 _ _ _ _)
      | (with_reducible exact ih1 _ _ _ _ _)
      | (with_reducible exact strandlineref07_Begin.mono _ _)
      | (with_reducible exact strandlineref07_Left.mono _ _)
      | (with_reducible exact LeO.refl _)
      | (with_reducible exact LeO.none _)
      | (with_reducible refine LeO.ite ?_ ?_)
      | (with_reducible refine LeO.bind ?_ (fun _ => ?_))
      | exact ih0 _ _ _ _
      | exact ih1 _ _ _ _ _
      | exact strandlineref07_Begin.mono _ _
      | exact strandlineref07_Left.mono _ _
      | exact LeO.none _
      | refine LeO.ite ?_ ?_
      | refine LeO.bind ?_ (fun _ => ?_)
set_option maxHeartbeats 8000000 in
set_option maxRecDepth 100000 in
theorem strandlineref14_Cut.calls (k : Nat) (a0 : Int) (a1 : Int) (r1 : List (S79)) (r2 : Int) (r3 : Bool) (w : World) (h : strandlineref14_Cut.f k a0 a1 = some (r1, r2, r3)) :
    Calls Try.prog 49 #[.int .i64 a0, .int .i64 a1] w fun e w' => ∃ v0_ : Value, e = .returned (.tuple #[v0_, .int .i64 r2, .bool r3]) ∧ Kd.R k79 79 w' w.heap.size (fun _ => True) v0_ r1 ∧ Below w.heap.size w w' := by
  have hu3 := Try.underlying3
  have hu23 := Try.underlying23
  have hu37 := Try.underlying37
  have hu61 := Try.underlying61
  have hu66 := Try.underlying66
  have hu116 := Try.underlying116
  have hu79 := Try.underlying79
  have HB := Aside0.mk (Below.refl w.heap.size w)
  have H : (if a1 < 0 then (some (([] : List (S79)), 0, false)) else (strandlineref14_Cut.l0 k a0 a1 ([] : List (S79)) 0)) = some (r1, r2, r3) := h
  clear h
  by_cases c3 : a1 < 0
  · rw [if_pos c3] at H
    have c3b0 : decide (a1 < 0) = true := decide_eq_true c3
    clear c3
    simp only [Option.some.injEq, Prod.mk.injEq] at H
    obtain ⟨rfl, rfl, rfl⟩ := H
    go_enter Try.func49, Try.ntmps49
    go_wp2
    go_ret3
    exact ⟨_, by first | rfl | (simp [errW_none, errW_some] <;> rfl) | (simp [*, errW_none, errW_some] <;> rfl), by first | exact Kd.R_nil _ _ _ _ _ | exact Kd.N_nil _ _ _ _ _ | exact Kd.V_nil _ _ _ _ _ | exact Kd.Q_nil _ _ _ _ _ | exact Kd.S_nil _ _ _ _ _, by repeat (first | (with_reducible first | exact HB.out | apply below_alloc | apply pw_below_drewN | apply below_drew1) | exact HB.out)⟩
  · rw [if_neg c3] at H
    have c3b0 : decide (a1 < 0) = false := decide_eq_false c3
    clear c3
    have H' := Aside0.mk H
    clear H
    go_enter Try.func49, Try.ntmps49
    go_wp2
    go_loopg [0, 7, 8] k (fun kq v0 v7 v8 w' => ∃ (x0_1 : Int) (x7_1 : List (S79)) (x8_1 : Int), v0 = .int .i64 x0_1 ∧ v8 = .int .i64 x8_1 ∧ Aside0 (strandlineref14_Cut.l0 kq x0_1 a1 x7_1 x8_1 = some (r1, r2, r3)) ∧ Aside0 (kq ≤ k) ∧ Aside0 (Kd.R k79 79 w' w.heap.size (fun _ => True) v7 x7_1) ∧ Aside0 (Below w.heap.size w w'))
    case atStart => exact ⟨(a0), (([] : List (S79))), (0), (by first | rfl | (simp; done) | (simp [*]; done)), (by first | rfl | (simp; done) | (simp [*]; done)), H', ⟨Nat.le_refl _⟩, ⟨by first | exact Kd.R_nil _ _ _ _ _ | exact Kd.N_nil _ _ _ _ _ | exact Kd.V_nil _ _ _ _ _ | exact Kd.Q_nil _ _ _ _ _ | exact Kd.S_nil _ _ _ _ _⟩, ⟨by repeat (first | (with_reducible first | exact HB.out | apply below_alloc | apply pw_below_drewN | apply below_drew1) | exact HB.out)⟩⟩
    case round =>
      clear H'
      try clear p2
      try clear c3
      try clear c3b0
      obtain ⟨x0_1, x7_1, x8_1, rfl, rfl, HA, HK1, HO_7, HB⟩ := hrel
      cases gk with
      | zero => exact absurd HA.out (by simp [strandlineref14_Cut.l0])
      | succ k1 =>
        have H := HA.out
        clear HA
        simp only [strandlineref14_Cut.l0] at H
        have HC4 := Aside0.mk H
        clear H
        go_upto_region 5 with (fail)
        go_cut [19] (fun v19 wc => ∃ (kq : Nat) (x19_3 : Bool), v19 = .bool x19_3 ∧ Aside0 (strandlineref14_Cut.j1 kq x0_1 a1 x7_1 x8_1 x19_3 = some (r1, r2, r3)) ∧ Aside0 (kq ≤ k1) ∧ Aside0 (Kd.R k79 79 wc w.heap.size (fun _ => True) u7 x7_1) ∧ Aside0 (Below w.heap.size w wc))
        case first =>
          have H := HC4.out
          clear HC4
          by_cases c5 : (x7_1.length : Int) = 0
          · rw [if_pos c5] at H
            have c5b0 : ((x7_1.length : Int) == 0) = true := beq_iff_eq.mpr c5
            have c5b1 : ((x7_1.length : Int) != 0) = false := bne_eq_false_iff_eq.mpr c5
            clear c5
            (first | rw [c5b0] | (simp only [i64_w, i32_w]; rw [c5b0]) | skip)
            have H' := Aside0.mk H
            clear H
            obtain ⟨Ao6, co6, eo6⟩ := Kd.R_slice HO_7.out
            subst eo6
            go_wp2
            go_meet
            case rel => exact ⟨_, (true), (by first | rfl | (simp; done) | (simp [*]; done)), H', ⟨by have := HK1.out; first | omega | exact Nat.le_refl _⟩, ⟨by (with_reducible repeat (first | apply Kd.R_alloc | apply Kd.R_drewN | apply Kd.R_drew)); exact HO_7.out⟩, ⟨by repeat (first | (with_reducible first | exact HB.out | apply below_alloc | apply pw_below_drewN | apply below_drew1) | exact HB.out)⟩⟩
          · rw [if_neg c5] at H
            have c5b0 : ((x7_1.length : Int) == 0) = false := beq_eq_false_iff_ne.mpr c5
            have c5b1 : ((x7_1.length : Int) != 0) = true := bne_iff_ne.mpr c5
            have c5b2 : ¬ (x7_1 = []) := fun h_ => c5 (by rw [h_]; rfl)
            (first | rw [c5b0] | (simp only [i64_w, i32_w]; rw [c5b0]) | skip)
            have H' := Aside0.mk H
            clear H
            obtain ⟨Ao7, co7, eo7⟩ := Kd.R_slice HO_7.out
            subst eo7
            go_wp2
            go_meet
            case rel => exact ⟨_, (decide (x8_1 < a1)), (by first | rfl | (simp; done) | (simp [*]; done)), H', ⟨by have := HK1.out; first | omega | exact Nat.le_refl _⟩, ⟨by (with_reducible repeat (first | apply Kd.R_alloc | apply Kd.R_drewN | apply Kd.R_drew)); exact HO_7.out⟩, ⟨by repeat (first | (with_reducible first | exact HB.out | apply below_alloc | apply pw_below_drewN | apply below_drew1) | exact HB.out)⟩⟩
        case rest =>
          clear HC4
          try clear p2
          try clear c3
          try clear c3b0
          try clear c4
          try clear c5
          try clear c5b0
          try clear c5b1
          try clear c5b2
          try clear p2
          obtain ⟨kq, x19_3, rfl, HA, HJ3, HO_7, HB⟩ := hcut
          cases kq with
          | zero => exact absurd HA.out (by simp [strandlineref14_Cut.j1])
          | succ kj3 =>
            have H := HA.out
            clear HA
            simp only [strandlineref14_Cut.j1] at H
            by_cases c8 : x19_3 = true
            · subst c8
              have H1 : ((strandlineref07_Begin.f kj3 x0_1).bind fun t125 => (if t125 ≥ 832 then (some (([] : List (S79)), 0, false)) else ((strandlineref07_Left.f kj3 t125).bind fun t126 => (if (wrap64 (a1 - x8_1)) > (wrap64 (t126 - 11)) then ((strandlineref07_Left.f kj3 t125).bind fun t127 => (if x7_1.length < 4398046511104 then (strandlineref14_Cut.l0 kj3 (wrap64 ((wrap64 (t125 + 11)) + (wrap64 (t127 - 11)))) a1 (x7_1 ++ [(⟨t125, 3, x8_1, wrap64 (x8_1 + (wrap64 (t127 - 11)))⟩ : S79)]) (wrap64 (x8_1 + (wrap64 (t127 - 11))))) else (none))) else (if x7_1.length < 4398046511104 then (strandlineref14_Cut.l0 kj3 (wrap64 ((wrap64 (t125 + 11)) + (wrap64 (a1 - x8_1)))) a1 (x7_1 ++ [(⟨t125, 3, x8_1, wrap64 (x8_1 + (wrap64 (a1 - x8_1)))⟩ : S79)]) (wrap64 (x8_1 + (wrap64 (a1 - x8_1))))) else (none)))))) = some (r1, r2, r3) := by rw [if_pos rfl] at H; exact H
              clear H
              have H := H1
              clear H1
              replace H := Option.bind_eq_some_iff.mp H
              obtain ⟨t125, A90, H⟩ := H
              replace H : (if t125 ≥ 832 then (some (([] : List (S79)), 0, false)) else ((strandlineref07_Left.f kj3 t125).bind fun t126 => (if (wrap64 (a1 - x8_1)) > (wrap64 (t126 - 11)) then ((strandlineref07_Left.f kj3 t125).bind fun t127 => (if x7_1.length < 4398046511104 then (strandlineref14_Cut.l0 kj3 (wrap64 ((wrap64 (t125 + 11)) + (wrap64 (t127 - 11)))) a1 (x7_1 ++ [(⟨t125, 3, x8_1, wrap64 (x8_1 + (wrap64 (t127 - 11)))⟩ : S79)]) (wrap64 (x8_1 + (wrap64 (t127 - 11))))) else (none))) else (if x7_1.length < 4398046511104 then (strandlineref14_Cut.l0 kj3 (wrap64 ((wrap64 (t125 + 11)) + (wrap64 (a1 - x8_1)))) a1 (x7_1 ++ [(⟨t125, 3, x8_1, wrap64 (x8_1 + (wrap64 (a1 - x8_1)))⟩ : S79)]) (wrap64 (x8_1 + (wrap64 (a1 - x8_1))))) else (none))))) = some (r1, r2, r3) := H
              have A9 := Aside0.mk A90
              clear A90
              by_cases c10 : t125 ≥ 832
              · rw [if_pos c10] at H
                have c10b0 : decide (832 ≤ t125) = true := decide_eq_true c10
                clear c10
                simp only [Option.some.injEq, Prod.mk.injEq] at H
                obtain ⟨rfl, rfl, rfl⟩ := H
                go_wp2_with (first | ((with_reducible refine gate_callee (f := 87) rfl ?_); refine goesL_ (some 21) rfl rfl Try.func87 (by kernel_rfl) rfl #[.int .i64 x0_1] rfl (by (try simp only [List.map_toArray, List.map_cons, List.map_nil]); first | done | rfl | (simp only [List.length_drop, List.length_take]; rfl)) ?_; (with_reducible refine (strandlineref07_Begin.calls kj3 x0_1 t125 _ A9.out).mono ?_); rintro e w' ⟨rfl, ⟨nd, rfl⟩⟩; refine ⟨_, rfl, ?_⟩))
                go_ret3
                exact ⟨_, by first | rfl | (simp [errW_none, errW_some] <;> rfl) | (simp [*, errW_none, errW_some] <;> rfl), by first | exact Kd.R_nil _ _ _ _ _ | exact Kd.N_nil _ _ _ _ _ | exact Kd.V_nil _ _ _ _ _ | exact Kd.Q_nil _ _ _ _ _ | exact Kd.S_nil _ _ _ _ _, by repeat (first | (with_reducible first | exact HB.out | apply below_alloc | apply pw_below_drewN | apply below_drew1) | exact HB.out)⟩
              · rw [if_neg c10] at H
                have c10b0 : decide (832 ≤ t125) = false := decide_eq_false c10
                clear c10
                replace H := Option.bind_eq_some_iff.mp H
                obtain ⟨t126, A110, H⟩ := H
                replace H : (if (wrap64 (a1 - x8_1)) > (wrap64 (t126 - 11)) then ((strandlineref07_Left.f kj3 t125).bind fun t127 => (if x7_1.length < 4398046511104 then (strandlineref14_Cut.l0 kj3 (wrap64 ((wrap64 (t125 + 11)) + (wrap64 (t127 - 11)))) a1 (x7_1 ++ [(⟨t125, 3, x8_1, wrap64 (x8_1 + (wrap64 (t127 - 11)))⟩ : S79)]) (wrap64 (x8_1 + (wrap64 (t127 - 11))))) else (none))) else (if x7_1.length < 4398046511104 then (strandlineref14_Cut.l0 kj3 (wrap64 ((wrap64 (t125 + 11)) + (wrap64 (a1 - x8_1)))) a1 (x7_1 ++ [(⟨t125, 3, x8_1, wrap64 (x8_1 + (wrap64 (a1 - x8_1)))⟩ : S79)]) (wrap64 (x8_1 + (wrap64 (a1 - x8_1))))) else (none))) = some (r1, r2, r3) := H
                have A11 := Aside0.mk A110
                clear A110
                by_cases c12 : (wrap64 (a1 - x8_1)) > (wrap64 (t126 - 11))
                · rw [if_pos c12] at H
                  have c12b0 : decide ((wrap64 (t126 - 11)) < (wrap64 (a1 - x8_1))) = true := decide_eq_true c12
                  clear c12
                  replace H := Option.bind_eq_some_iff.mp H
                  obtain ⟨t127, A130, H⟩ := H
                  replace H : (if x7_1.length < 4398046511104 then (strandlineref14_Cut.l0 kj3 (wrap64 ((wrap64 (t125 + 11)) + (wrap64 (t127 - 11)))) a1 (x7_1 ++ [(⟨t125, 3, x8_1, wrap64 (x8_1 + (wrap64 (t127 - 11)))⟩ : S79)]) (wrap64 (x8_1 + (wrap64 (t127 - 11))))) else (none)) = some (r1, r2, r3) := H
                  have A13 := Aside0.mk A130
                  clear A130
                  by_cases c14 : x7_1.length < 4398046511104
                  · rw [if_pos c14] at H
                    have LMc14 := Aside0.mk c14
                    clear c14
                    obtain ⟨y128, hy128⟩ : ∃ y_ : List (S79), y_ = (x7_1 ++ [(⟨t125, 3, x8_1, wrap64 (x8_1 + (wrap64 (t127 - 11)))⟩ : S79)]) := ⟨_, rfl⟩
                    replace H : (strandlineref14_Cut.l0 kj3 (wrap64 ((wrap64 (t125 + 11)) + (wrap64 (t127 - 11)))) a1 y128 (wrap64 (x8_1 + (wrap64 (t127 - 11))))) = some (r1, r2, r3) := by first | (rw [hy128]; with_reducible exact H) | (have H2_ := (Option.bind_some _ _).symm.trans H; rw [hy128]; with_reducible exact H2_) | (have H2_ := (Option.bind_some _ _).symm.trans H; with_reducible exact H2_) | with_reducible exact H | (rw [hy128]; exact H) | exact H
                    have Ny128 := Aside0.mk hy128
                    clear hy128
                    have H' := Aside0.mk H
                    clear H
                    go_wp2_with (first | ((with_reducible refine gate_callee (f := 87) rfl ?_); refine goesL_ (some 21) rfl rfl Try.func87 (by kernel_rfl) rfl #[.int .i64 x0_1] rfl (by (try simp only [List.map_toArray, List.map_cons, List.map_nil]); first | done | rfl | (simp only [List.length_drop, List.length_take]; rfl)) ?_; (with_reducible refine (strandlineref07_Begin.calls kj3 x0_1 t125 _ A9.out).mono ?_); rintro e w' ⟨rfl, ⟨nd, rfl⟩⟩; refine ⟨_, rfl, ?_⟩) | ((with_reducible refine gate_callee (f := 61) rfl ?_); refine goesL_ (some 29) rfl rfl Try.func61 (by kernel_rfl) rfl #[.int .i64 t125] rfl (by (try simp only [List.map_toArray, List.map_cons, List.map_nil]); first | done | rfl | (simp only [List.length_drop, List.length_take]; rfl)) ?_; (with_reducible refine (strandlineref07_Left.calls kj3 t125 t126 _ A11.out).mono ?_); rintro e w' ⟨rfl, ⟨nd, rfl⟩⟩; refine ⟨_, rfl, ?_⟩) | ((with_reducible refine gate_callee (f := 61) rfl ?_); refine goesL_ (some 33) rfl rfl Try.func61 (by kernel_rfl) rfl #[.int .i64 t125] rfl (by (try simp only [List.map_toArray, List.map_cons, List.map_nil]); first | done | rfl | (simp only [List.length_drop, List.length_take]; rfl)) ?_; (with_reducible refine (strandlineref07_Left.calls kj3 t125 t127 _ A13.out).mono ?_); rintro e w' ⟨rfl, ⟨nd, rfl⟩⟩; refine ⟨_, rfl, ?_⟩) | ((with_reducible refine gate_builtin (b := .append) (xs := #[.tmp 35, .tmp 42]) rfl ?_); at_builtin; refine Kd.R_append k79 (w0 := w) w.heap.size rfl (.tmp 35) (.tmp 42) 75 79 (.agg #[(.int .i64 0), (.int .i64 0), (.int .i64 0), (.int .i64 0)]) 32 rfl Try.underlying75 info79 rfl (by decide) (by omega) u7 x7_1 (⟨t125, 3, x8_1, wrap64 (x8_1 + (wrap64 (t127 - 11)))⟩ : S79) [.int .i64 t125, .int .i64 3, .int .i64 x8_1, .int .i64 (wrap64 (x8_1 + (wrap64 (t127 - 11))))] (fun _ => True) (fun _ => False) rfl rfl ?aP (fun _ hk => hk.elim) ?aF ?aO ?aB ?aS ?aL ?_; (case aP => exact k79_mkM _ _ _ (⟨t125, 3, x8_1, wrap64 (x8_1 + (wrap64 (t127 - 11)))⟩ : S79)); (case aB => exact (by repeat (first | (with_reducible first | exact HB.out | apply below_alloc | apply pw_below_drewN | apply below_drew1) | exact HB.out))); (case aF => exact (fun _ _ => trivial)); (case aO => exact (by (with_reducible repeat (first | apply Kd.R_alloc | apply Kd.R_drewN | apply Kd.R_drew)); exact HO_7.out)); (case aS => exact (below_size (by repeat (first | (with_reducible first | exact HB.out | apply below_alloc | apply pw_below_drewN | apply below_drew1) | exact HB.out)))); (case aL => have := LMc14.out; omega); intro v129 w15 ho hb hg hat; rw [← Ny128.out] at ho; have n0_ := Aside0.mk (hb); have n1_ := Aside0.mk (ho); clear HB; clear HO_7; have HB := n0_; have HO130 := n1_; clear n0_ n1_; clear ho hb hg hat))
                    go_roundg kj3
                    case measure => have := HK1.out; have := HJ3.out; omega
                    case rel => exact ⟨(wrap64 ((wrap64 (t125 + 11)) + (wrap64 (t127 - 11)))), (y128), (wrap64 (x8_1 + (wrap64 (t127 - 11)))), (by first | rfl | (simp; done) | (simp [*]; done)), (by first | rfl | (simp; done) | (simp [*]; done)), H', ⟨by have := HK1.out; have := HJ3.out; omega⟩, ⟨by (with_reducible repeat (first | apply Kd.R_alloc | apply Kd.R_drewN | apply Kd.R_drew)); exact HO130.out⟩, ⟨by repeat (first | (with_reducible first | exact HB.out | apply below_alloc | apply pw_below_drewN | apply below_drew1) | exact HB.out)⟩⟩
                  · rw [if_neg c14] at H
                    exact absurd H (by simp)
                · rw [if_neg c12] at H
                  have c12b0 : decide ((wrap64 (t126 - 11)) < (wrap64 (a1 - x8_1))) = false := decide_eq_false c12
                  clear c12
                  by_cases c16 : x7_1.length < 4398046511104
                  · rw [if_pos c16] at H
                    have LMc16 := Aside0.mk c16
                    clear c16
                    obtain ⟨y131, hy131⟩ : ∃ y_ : List (S79), y_ = (x7_1 ++ [(⟨t125, 3, x8_1, wrap64 (x8_1 + (wrap64 (a1 - x8_1)))⟩ : S79)]) := ⟨_, rfl⟩
                    replace H : (strandlineref14_Cut.l0 kj3 (wrap64 ((wrap64 (t125 + 11)) + (wrap64 (a1 - x8_1)))) a1 y131 (wrap64 (x8_1 + (wrap64 (a1 - x8_1))))) = some (r1, r2, r3) := by first | (rw [hy131]; with_reducible exact H) | (have H2_ := (Option.bind_some _ _).symm.trans H; rw [hy131]; with_reducible exact H2_) | (have H2_ := (Option.bind_some _ _).symm.trans H; with_reducible exact H2_) | with_reducible exact H | (rw [hy131]; exact H) | exact H
                    have Ny131 := Aside0.mk hy131
                    clear hy131
                    have H' := Aside0.mk H
                    clear H
                    go_wp2_with (first | ((with_reducible refine gate_callee (f := 87) rfl ?_); refine goesL_ (some 21) rfl rfl Try.func87 (by kernel_rfl) rfl #[.int .i64 x0_1] rfl (by (try simp only [List.map_toArray, List.map_cons, List.map_nil]); first | done | rfl | (simp only [List.length_drop, List.length_take]; rfl)) ?_; (with_reducible refine (strandlineref07_Begin.calls kj3 x0_1 t125 _ A9.out).mono ?_); rintro e w' ⟨rfl, ⟨nd, rfl⟩⟩; refine ⟨_, rfl, ?_⟩) | ((with_reducible refine gate_callee (f := 61) rfl ?_); refine goesL_ (some 29) rfl rfl Try.func61 (by kernel_rfl) rfl #[.int .i64 t125] rfl (by (try simp only [List.map_toArray, List.map_cons, List.map_nil]); first | done | rfl | (simp only [List.length_drop, List.length_take]; rfl)) ?_; (with_reducible refine (strandlineref07_Left.calls kj3 t125 t126 _ A11.out).mono ?_); rintro e w' ⟨rfl, ⟨nd, rfl⟩⟩; refine ⟨_, rfl, ?_⟩) | ((with_reducible refine gate_builtin (b := .append) (xs := #[.tmp 35, .tmp 42]) rfl ?_); at_builtin; refine Kd.R_append k79 (w0 := w) w.heap.size rfl (.tmp 35) (.tmp 42) 75 79 (.agg #[(.int .i64 0), (.int .i64 0), (.int .i64 0), (.int .i64 0)]) 32 rfl Try.underlying75 info79 rfl (by decide) (by omega) u7 x7_1 (⟨t125, 3, x8_1, wrap64 (x8_1 + (wrap64 (a1 - x8_1)))⟩ : S79) [.int .i64 t125, .int .i64 3, .int .i64 x8_1, .int .i64 (wrap64 (x8_1 + (wrap64 (a1 - x8_1))))] (fun _ => True) (fun _ => False) rfl rfl ?aP (fun _ hk => hk.elim) ?aF ?aO ?aB ?aS ?aL ?_; (case aP => exact k79_mkM _ _ _ (⟨t125, 3, x8_1, wrap64 (x8_1 + (wrap64 (a1 - x8_1)))⟩ : S79)); (case aB => exact (by repeat (first | (with_reducible first | exact HB.out | apply below_alloc | apply pw_below_drewN | apply below_drew1) | exact HB.out))); (case aF => exact (fun _ _ => trivial)); (case aO => exact (by (with_reducible repeat (first | apply Kd.R_alloc | apply Kd.R_drewN | apply Kd.R_drew)); exact HO_7.out)); (case aS => exact (below_size (by repeat (first | (with_reducible first | exact HB.out | apply below_alloc | apply pw_below_drewN | apply below_drew1) | exact HB.out)))); (case aL => have := LMc16.out; omega); intro v132 w17 ho hb hg hat; rw [← Ny131.out] at ho; have n0_ := Aside0.mk (hb); have n1_ := Aside0.mk (ho); clear HB; clear HO_7; have HB := n0_; have HO133 := n1_; clear n0_ n1_; clear ho hb hg hat))
                    go_roundg kj3
                    case measure => have := HK1.out; have := HJ3.out; omega
                    case rel => exact ⟨(wrap64 ((wrap64 (t125 + 11)) + (wrap64 (a1 - x8_1)))), (y131), (wrap64 (x8_1 + (wrap64 (a1 - x8_1)))), (by first | rfl | (simp; done) | (simp [*]; done)), (by first | rfl | (simp; done) | (simp [*]; done)), H', ⟨by have := HK1.out; have := HJ3.out; omega⟩, ⟨by (with_reducible repeat (first | apply Kd.R_alloc | apply Kd.R_drewN | apply Kd.R_drew)); exact HO133.out⟩, ⟨by repeat (first | (with_reducible first | exact HB.out | apply below_alloc | apply pw_below_drewN | apply below_drew1) | exact HB.out)⟩⟩
                  · rw [if_neg c16] at H
                    exact absurd H (by simp)
            · replace c8 := Bool.eq_false_iff.mpr c8
              subst c8
              have H1 : (if 0 < (x7_1.length : Int) then ((some (x7_1.set (0 : Int).toNat (⟨(rd_T79 x7_1 0).f0, 2, (rd_T79 x7_1 0).f2, (rd_T79 x7_1 0).f3⟩ : S79) : List (S79))).bind fun y122 => (if 0 ≤ (wrap64 ((x7_1.length : Int) - 1)) then (if (wrap64 ((x7_1.length : Int) - 1)) < (x7_1.length : Int) then ((some (y122.set ((wrap64 ((x7_1.length : Int) - 1)) : Int).toNat (⟨(rd_T79 y122 (wrap64 ((x7_1.length : Int) - 1))).f0, 4, (rd_T79 y122 (wrap64 ((x7_1.length : Int) - 1))).f2, (rd_T79 y122 (wrap64 ((x7_1.length : Int) - 1))).f3⟩ : S79) : List (S79))).bind fun y123 => (if (x7_1.length : Int) = 1 then (some ((y123.set (0 : Int).toNat (⟨(rd_T79 y123 0).f0, 1, (rd_T79 y123 0).f2, (rd_T79 y123 0).f3⟩ : S79)), x0_1, true)) else (some (y123, x0_1, true)))) else (none)) else (none))) else (none)) = some (r1, r2, r3) := by rw [if_neg (show ¬ (false = true) by decide)] at H; exact H
              clear H
              have H := H1
              clear H1
              by_cases c18 : 0 < (x7_1.length : Int)
              · rw [if_pos c18] at H
                have c18b0 : decide (0 < (x7_1.length : Int)) = true := decide_eq_true c18
                have c18b1 : decide (0 < x7_1.length) = true := decide_eq_true (by omega)
                clear c18
                obtain ⟨y122, hy122⟩ : ∃ y_ : List (S79), y_ = (x7_1.set (0 : Int).toNat (⟨(rd_T79 x7_1 0).f0, 2, (rd_T79 x7_1 0).f2, (rd_T79 x7_1 0).f3⟩ : S79)) := ⟨_, rfl⟩
                replace H : (if 0 ≤ (wrap64 ((x7_1.length : Int) - 1)) then (if (wrap64 ((x7_1.length : Int) - 1)) < (x7_1.length : Int) then ((some (y122.set ((wrap64 ((x7_1.length : Int) - 1)) : Int).toNat (⟨(rd_T79 y122 (wrap64 ((x7_1.length : Int) - 1))).f0, 4, (rd_T79 y122 (wrap64 ((x7_1.length : Int) - 1))).f2, (rd_T79 y122 (wrap64 ((x7_1.length : Int) - 1))).f3⟩ : S79) : List (S79))).bind fun y123 => (if (x7_1.length : Int) = 1 then (some ((y123.set (0 : Int).toNat (⟨(rd_T79 y123 0).f0, 1, (rd_T79 y123 0).f2, (rd_T79 y123 0).f3⟩ : S79)), x0_1, true)) else (some (y123, x0_1, true)))) else (none)) else (none)) = some (r1, r2, r3) := by first | (rw [hy122]; with_reducible exact H) | (have H2_ := (Option.bind_some _ _).symm.trans H; rw [hy122]; with_reducible exact H2_) | (have H2_ := (Option.bind_some _ _).symm.trans H; with_reducible exact H2_) | with_reducible exact H | (rw [hy122]; exact H) | exact H
                have Ny122 := Aside0.mk hy122
                clear hy122
                obtain ⟨ji20, hji20⟩ : ∃ j_ : Int, (wrap64 ((x7_1.length : Int) - 1)) = j_ := ⟨_, rfl⟩
                replace H : (if 0 ≤ (ji20) then (if (ji20) < (x7_1.length : Int) then ((some (y122.set ((ji20) : Int).toNat (⟨(rd_T79 y122 (ji20)).f0, 4, (rd_T79 y122 (ji20)).f2, (rd_T79 y122 (ji20)).f3⟩ : S79) : List (S79))).bind fun y123 => (if (x7_1.length : Int) = 1 then (some ((y123.set (0 : Int).toNat (⟨(rd_T79 y123 0).f0, 1, (rd_T79 y123 0).f2, (rd_T79 y123 0).f3⟩ : S79)), x0_1, true)) else (some (y123, x0_1, true)))) else (none)) else (none)) = some (r1, r2, r3) := by first | (rw [hji20] at H; exact H) | (simp only [hji20] at H ⊢; exact H)
                have hji20w : (IntKind.i64.wrap ((x7_1.length : Int) - 1)) = ji20 := (i64_w _).trans hji20
                by_cases c21 : 0 ≤ (ji20)
                · rw [if_pos c21] at H
                  have c21b0 : decide (0 ≤ (ji20)) = true := decide_eq_true c21
                  clear c21
                  by_cases c22 : (ji20) < (x7_1.length : Int)
                  · rw [if_pos c22] at H
                    have c22b0 : decide ((ji20) < (x7_1.length : Int)) = true := decide_eq_true c22
                    clear c22
                    obtain ⟨y123, hy123⟩ : ∃ y_ : List (S79), y_ = (y122.set ((ji20) : Int).toNat (⟨(rd_T79 y122 (ji20)).f0, 4, (rd_T79 y122 (ji20)).f2, (rd_T79 y122 (ji20)).f3⟩ : S79)) := ⟨_, rfl⟩
                    replace H : (if (x7_1.length : Int) = 1 then (some ((y123.set (0 : Int).toNat (⟨(rd_T79 y123 0).f0, 1, (rd_T79 y123 0).f2, (rd_T79 y123 0).f3⟩ : S79)), x0_1, true)) else (some (y123, x0_1, true))) = some (r1, r2, r3) := by first | (rw [hy123]; with_reducible exact H) | (have H2_ := (Option.bind_some _ _).symm.trans H; rw [hy123]; with_reducible exact H2_) | (have H2_ := (Option.bind_some _ _).symm.trans H; with_reducible exact H2_) | with_reducible exact H | (rw [hy123]; exact H) | exact H
                    have Ny123 := Aside0.mk hy123
                    clear hy123
                    by_cases c24 : (x7_1.length : Int) = 1
                    · rw [if_pos c24] at H
                      have c24b0 : ((x7_1.length : Int) == 1) = true := beq_iff_eq.mpr c24
                      have c24b1 : ((x7_1.length : Int) != 1) = false := bne_eq_false_iff_eq.mpr c24
                      clear c24
                      obtain ⟨y124, hy124⟩ : ∃ y_ : List (S79), y_ = (y123.set (0 : Int).toNat (⟨(rd_T79 y123 0).f0, 1, (rd_T79 y123 0).f2, (rd_T79 y123 0).f3⟩ : S79)) := ⟨_, rfl⟩
                      replace H : (some (y124, x0_1, true)) = some (r1, r2, r3) := by first | (rw [hy124]; with_reducible exact H) | (have H2_ := (Option.bind_some _ _).symm.trans H; rw [hy124]; with_reducible exact H2_) | (have H2_ := (Option.bind_some _ _).symm.trans H; with_reducible exact H2_) | with_reducible exact H | (rw [hy124]; exact H) | exact H
                      have Ny124 := Aside0.mk hy124
                      clear hy124
                      simp only [Option.some.injEq, Prod.mk.injEq] at H
                      obtain ⟨rfl, rfl, rfl⟩ := H
                      have p19 : 0 ≤ (0 : Int) := (by omega)
                      have q19 : (0 : Int) < ((x7_1.length : Int) : Int) := of_decide_eq_true (by first | (with_reducible assumption) | assumption)
                      have qi19 : (0 < x7_1.length) = True := eq_true (by omega)
                      obtain ⟨go19, co19, eo19, gb19, gl19, cl19, HG19⟩ := Kd.R_form HO_7.out (by omega)
                      (first | cases eo19 | (injection eo19 with ea_ en_ ec_; (first | subst ea_ | (injection ea_ with ea_; subst ea_)); subst ec_; clear en_))
                      have GB19 := Aside0.mk gb19
                      have GG19 := Aside0.mk HG19
                      clear gb19 gl19 HG19
                      obtain ⟨ce19, hcl19, hM19, hcc19, hfr19⟩ := Kd.R_elem HO_7.out z79 (0 : Int) p19 q19
                      obtain rfl := k79_openM hM19
                      have hx19_0 : wc.cell? ⟨go19, (0 : Int).toNat * 4, none⟩ = some (.int .i64 ((rd_T79 x7_1 0).f0)) := hcc19 0 _ rfl
                      have hx19_1 : wc.cell? ⟨go19, (0 : Int).toNat * 4 + 1, none⟩ = some (.int .i64 ((rd_T79 x7_1 0).f1)) := hcc19 1 _ rfl
                      have hx19_2 : wc.cell? ⟨go19, (0 : Int).toNat * 4 + 2, none⟩ = some (.int .i64 ((rd_T79 x7_1 0).f2)) := hcc19 2 _ rfl
                      have hx19_3 : wc.cell? ⟨go19, (0 : Int).toNat * 4 + 3, none⟩ = some (.int .i64 ((rd_T79 x7_1 0).f3)) := hcc19 3 _ rfl
                      have hf19_0 : wc.frozen? ⟨go19, (0 : Int).toNat * 4, none⟩ = false := hfr19 0
                      have hf19_1 : wc.frozen? ⟨go19, (0 : Int).toNat * 4 + 1, none⟩ = false := hfr19 1
                      have hf19_2 : wc.frozen? ⟨go19, (0 : Int).toNat * 4 + 2, none⟩ = false := hfr19 2
                      have hf19_3 : wc.frozen? ⟨go19, (0 : Int).toNat * 4 + 3, none⟩ = false := hfr19 3
                      clear hcl19 hcc19 hfr19 hM19
                      (try rw [show ((0 : Int)).toNat = 0 from rfl] at hx19_0)
                      (try simp only [Nat.reduceMul, Nat.zero_mul, Nat.zero_add, Nat.reduceAdd] at hx19_0)
                      (try rw [show ((0 : Int)).toNat = 0 from rfl] at hf19_0)
                      (try simp only [Nat.reduceMul, Nat.zero_mul, Nat.zero_add, Nat.reduceAdd] at hf19_0)
                      (try rw [show ((0 : Int)).toNat = 0 from rfl] at hx19_1)
                      (try simp only [Nat.reduceMul, Nat.zero_mul, Nat.zero_add, Nat.reduceAdd] at hx19_1)
                      (try rw [show ((0 : Int)).toNat = 0 from rfl] at hf19_1)
                      (try simp only [Nat.reduceMul, Nat.zero_mul, Nat.zero_add, Nat.reduceAdd] at hf19_1)
                      (try rw [show ((0 : Int)).toNat = 0 from rfl] at hx19_2)
                      (try simp only [Nat.reduceMul, Nat.zero_mul, Nat.zero_add, Nat.reduceAdd] at hx19_2)
                      (try rw [show ((0 : Int)).toNat = 0 from rfl] at hf19_2)
                      (try simp only [Nat.reduceMul, Nat.zero_mul, Nat.zero_add, Nat.reduceAdd] at hf19_2)
                      (try rw [show ((0 : Int)).toNat = 0 from rfl] at hx19_3)
                      (try simp only [Nat.reduceMul, Nat.zero_mul, Nat.zero_add, Nat.reduceAdd] at hx19_3)
                      (try rw [show ((0 : Int)).toNat = 0 from rfl] at hf19_3)
                      (try simp only [Nat.reduceMul, Nat.zero_mul, Nat.zero_add, Nat.reduceAdd] at hf19_3)
                      replace p19 := eq_true p19
                      replace q19 := eq_true q19
                      have HX26 := Aside0.mk (show Kd.R k79 79 wc w.heap.size (fun _ => True) (.slice (some ⟨go19, 0, none⟩) x7_1.length co19) x7_1 from (by (with_reducible repeat (first | apply Kd.R_alloc | apply Kd.R_drewN | apply Kd.R_drew)); exact HO_7.out))
                      obtain ⟨ce26, hcl26, hM26, hcc26, hfr26⟩ := Kd.R_elem HX26.out z79 (0 : Int) (by omega) (by have h_ : (0 : Int) < ((x7_1.length : Int) : Int) := of_decide_eq_true (by first | (with_reducible assumption) | assumption); first | exact h_ | (have e_ := (Kd.R_reads' HO_7.out).1; omega) | simpa using h_)
                      obtain rfl := k79_openM hM26
                      have HP26 := Kd.R_seg HX26.out (0 : Int) (by omega) (by have h_ : (0 : Int) < ((x7_1.length : Int) : Int) := of_decide_eq_true (by first | (with_reducible assumption) | assumption); first | exact h_ | (have e_ := (Kd.R_reads' HO_7.out).1; omega) | simpa using h_) (seg := [.int .i64 2]) (j := 1) hcl26 hcc26 (show 2 ≤ 4 from by decide) (x' := (⟨(rd_T79 x7_1 0).f0, 2, (rd_T79 x7_1 0).f2, (rd_T79 x7_1 0).f3⟩ : S79)) (k79_mkM _ _ _ (⟨(rd_T79 x7_1 0).f0, 2, (rd_T79 x7_1 0).f2, (rd_T79 x7_1 0).f3⟩ : S79) ) (fun _ hk => hk)
                      have hx26_1 := hcc26 1 _ rfl
                      (try simp only [show (k79).sz = 4 from rfl, Nat.mul_one, Nat.add_zero] at hx26_1)
                      (try rw [show ((0 : Int)).toNat = 0 from rfl] at hx26_1)
                      (try simp only [Nat.reduceMul, Nat.zero_mul, Nat.zero_add, Nat.reduceAdd] at hx26_1)
                      have hf26_1 := hfr26 1
                      (try simp only [show (k79).sz = 4 from rfl, Nat.mul_one, Nat.add_zero] at hf26_1)
                      (try rw [show ((0 : Int)).toNat = 0 from rfl] at hf26_1)
                      (try simp only [Nat.reduceMul, Nat.zero_mul, Nat.zero_add, Nat.reduceAdd] at hf26_1)
                      clear hcl26 hcc26 hfr26 hM26
                      go_wp2_with (first | ((with_reducible refine gate_store (t := 3) (p := 53) rfl ?_); refine store_event (t := 3) (p := 53) (v := ?vo_w27) (w1 := (wc.setCell ⟨go19, 1, none⟩ (.int .i64 2))) ?hg ?ho ?hn ?hr ?_; (case ho => rfl); (case hg => rfl); (case hn => rfl); (case hr => first | (go_simp; done) | (go_simp; rfl)); intro w27 hw; have hg : wc.grownBy w27 (some go19) := (by rw [hw]; exact HP26.2); have hp_ : Kd.R k79 79 w27 w.heap.size (fun _ => True) (.slice (some ⟨go19, 0, none⟩) x7_1.length co19) y122 := (by rw [hw, Ny122.out]; exact HP26.1); clear HP26; have n0_ := Aside0.mk (hp_); have n1_ := Aside0.mk ((by rw [hw]; exact below_set (HB.out) GB19.out : Below w.heap.size w w27)); clear HO_7; clear HB; have HO_7 := n0_; have HB := n1_; clear n0_ n1_; clear hg hw hp_; have p23 : 0 ≤ ((ji20) : Int) := of_decide_eq_true (by first | (with_reducible assumption) | assumption); have q23 : ((ji20) : Int) < ((x7_1.length : Int) : Int) := of_decide_eq_true (by first | (with_reducible assumption) | assumption); obtain ⟨ce23, hcl23, hM23, hcc23, hfr23⟩ := Kd.R_elem HO_7.out z79 ((ji20) : Int) p23 q23; obtain rfl := k79_openM hM23; have hx23_0 : w27.cell? ⟨go19, ((ji20) : Int).toNat * 4, none⟩ = some (.int .i64 ((rd_T79 y122 (ji20)).f0)) := hcc23 0 _ rfl; have hx23_1 : w27.cell? ⟨go19, ((ji20) : Int).toNat * 4 + 1, none⟩ = some (.int .i64 ((rd_T79 y122 (ji20)).f1)) := hcc23 1 _ rfl; have hx23_2 : w27.cell? ⟨go19, ((ji20) : Int).toNat * 4 + 2, none⟩ = some (.int .i64 ((rd_T79 y122 (ji20)).f2)) := hcc23 2 _ rfl; have hx23_3 : w27.cell? ⟨go19, ((ji20) : Int).toNat * 4 + 3, none⟩ = some (.int .i64 ((rd_T79 y122 (ji20)).f3)) := hcc23 3 _ rfl; have hf23_0 : w27.frozen? ⟨go19, ((ji20) : Int).toNat * 4, none⟩ = false := hfr23 0; have hf23_1 : w27.frozen? ⟨go19, ((ji20) : Int).toNat * 4 + 1, none⟩ = false := hfr23 1; have hf23_2 : w27.frozen? ⟨go19, ((ji20) : Int).toNat * 4 + 2, none⟩ = false := hfr23 2; have hf23_3 : w27.frozen? ⟨go19, ((ji20) : Int).toNat * 4 + 3, none⟩ = false := hfr23 3; clear hcl23 hcc23 hfr23 hM23; replace p23 := eq_true p23; replace q23 := eq_true q23; have HX28 := Aside0.mk (show Kd.R k79 79 w27 w.heap.size (fun _ => True) (.slice (some ⟨go19, 0, none⟩) x7_1.length co19) y122 from (by (with_reducible repeat (first | apply Kd.R_alloc | apply Kd.R_drewN | apply Kd.R_drew)); exact HO_7.out)); obtain ⟨ce28, hcl28, hM28, hcc28, hfr28⟩ := Kd.R_elem HX28.out z79 ((ji20) : Int) (of_decide_eq_true (by first | (with_reducible assumption) | assumption)) (by have h_ : ((ji20) : Int) < ((x7_1.length : Int) : Int) := of_decide_eq_true (by first | (with_reducible assumption) | assumption); first | exact h_ | (have e_ := (Kd.R_reads' HO_7.out).1; omega) | simpa using h_); obtain rfl := k79_openM hM28; have HP28 := Kd.R_seg HX28.out ((ji20) : Int) (of_decide_eq_true (by first | (with_reducible assumption) | assumption)) (by have h_ : ((ji20) : Int) < ((x7_1.length : Int) : Int) := of_decide_eq_true (by first | (with_reducible assumption) | assumption); first | exact h_ | (have e_ := (Kd.R_reads' HO_7.out).1; omega) | simpa using h_) (seg := [.int .i64 4]) (j := 1) hcl28 hcc28 (show 2 ≤ 4 from by decide) (x' := (⟨(rd_T79 y122 (ji20)).f0, 4, (rd_T79 y122 (ji20)).f2, (rd_T79 y122 (ji20)).f3⟩ : S79)) (k79_mkM _ _ _ (⟨(rd_T79 y122 (ji20)).f0, 4, (rd_T79 y122 (ji20)).f2, (rd_T79 y122 (ji20)).f3⟩ : S79) ) (fun _ hk => hk); have hx28_1 := hcc28 1 _ rfl; (try simp only [show (k79).sz = 4 from rfl, Nat.mul_one, Nat.add_zero] at hx28_1); have hf28_1 := hfr28 1; (try simp only [show (k79).sz = 4 from rfl, Nat.mul_one, Nat.add_zero] at hf28_1); clear hcl28 hcc28 hfr28 hM28) | ((with_reducible refine gate_store (t := 3) (p := 59) rfl ?_); refine store_event (t := 3) (p := 59) (v := ?vo_w29) (w1 := (w27.setCell ⟨go19, ((ji20) : Int).toNat * 4 + 1, none⟩ (.int .i64 4))) ?hg ?ho ?hn ?hr ?_; (case ho => rfl); (case hg => rfl); (case hn => rfl); (case hr => first | (go_simp; done) | (go_simp; rfl)); intro w29 hw; have hg : w27.grownBy w29 (some go19) := (by rw [hw]; exact HP28.2); have hp_ : Kd.R k79 79 w29 w.heap.size (fun _ => True) (.slice (some ⟨go19, 0, none⟩) x7_1.length co19) y123 := (by rw [hw, Ny123.out]; exact HP28.1); clear HP28; have n0_ := Aside0.mk (hp_); have n1_ := Aside0.mk ((by rw [hw]; exact below_set (HB.out) GB19.out : Below w.heap.size w w29)); clear HO_7; clear HB; have HO_7 := n0_; have HB := n1_; clear n0_ n1_; clear hg hw hp_; have p25 : 0 ≤ (0 : Int) := (by omega); have q25 : (0 : Int) < ((x7_1.length : Int) : Int) := of_decide_eq_true (by first | (with_reducible assumption) | assumption); have qi25 : (0 < x7_1.length) = True := eq_true (by omega); obtain ⟨ce25, hcl25, hM25, hcc25, hfr25⟩ := Kd.R_elem HO_7.out z79 (0 : Int) p25 q25; obtain rfl := k79_openM hM25; have hx25_0 : w29.cell? ⟨go19, (0 : Int).toNat * 4, none⟩ = some (.int .i64 ((rd_T79 y123 0).f0)) := hcc25 0 _ rfl; have hx25_1 : w29.cell? ⟨go19, (0 : Int).toNat * 4 + 1, none⟩ = some (.int .i64 ((rd_T79 y123 0).f1)) := hcc25 1 _ rfl; have hx25_2 : w29.cell? ⟨go19, (0 : Int).toNat * 4 + 2, none⟩ = some (.int .i64 ((rd_T79 y123 0).f2)) := hcc25 2 _ rfl; have hx25_3 : w29.cell? ⟨go19, (0 : Int).toNat * 4 + 3, none⟩ = some (.int .i64 ((rd_T79 y123 0).f3)) := hcc25 3 _ rfl; have hf25_0 : w29.frozen? ⟨go19, (0 : Int).toNat * 4, none⟩ = false := hfr25 0; have hf25_1 : w29.frozen? ⟨go19, (0 : Int).toNat * 4 + 1, none⟩ = false := hfr25 1; have hf25_2 : w29.frozen? ⟨go19, (0 : Int).toNat * 4 + 2, none⟩ = false := hfr25 2; have hf25_3 : w29.frozen? ⟨go19, (0 : Int).toNat * 4 + 3, none⟩ = false := hfr25 3; clear hcl25 hcc25 hfr25 hM25; (try rw [show ((0 : Int)).toNat = 0 from rfl] at hx25_0); (try simp only [Nat.reduceMul, Nat.zero_mul, Nat.zero_add, Nat.reduceAdd] at hx25_0); (try rw [show ((0 : Int)).toNat = 0 from rfl] at hf25_0); (try simp only [Nat.reduceMul, Nat.zero_mul, Nat.zero_add, Nat.reduceAdd] at hf25_0); (try rw [show ((0 : Int)).toNat = 0 from rfl] at hx25_1); (try simp only [Nat.reduceMul, Nat.zero_mul, Nat.zero_add, Nat.reduceAdd] at hx25_1); (try rw [show ((0 : Int)).toNat = 0 from rfl] at hf25_1); (try simp only [Nat.reduceMul, Nat.zero_mul, Nat.zero_add, Nat.reduceAdd] at hf25_1); (try rw [show ((0 : Int)).toNat = 0 from rfl] at hx25_2); (try simp only [Nat.reduceMul, Nat.zero_mul, Nat.zero_add, Nat.reduceAdd] at hx25_2); (try rw [show ((0 : Int)).toNat = 0 from rfl] at hf25_2); (try simp only [Nat.reduceMul, Nat.zero_mul, Nat.zero_add, Nat.reduceAdd] at hf25_2); (try rw [show ((0 : Int)).toNat = 0 from rfl] at hx25_3); (try simp only [Nat.reduceMul, Nat.zero_mul, Nat.zero_add, Nat.reduceAdd] at hx25_3); (try rw [show ((0 : Int)).toNat = 0 from rfl] at hf25_3); (try simp only [Nat.reduceMul, Nat.zero_mul, Nat.zero_add, Nat.reduceAdd] at hf25_3); replace p25 := eq_true p25; replace q25 := eq_true q25; have HX30 := Aside0.mk (show Kd.R k79 79 w29 w.heap.size (fun _ => True) (.slice (some ⟨go19, 0, none⟩) x7_1.length co19) y123 from (by (with_reducible repeat (first | apply Kd.R_alloc | apply Kd.R_drewN | apply Kd.R_drew)); exact HO_7.out)); obtain ⟨ce30, hcl30, hM30, hcc30, hfr30⟩ := Kd.R_elem HX30.out z79 (0 : Int) (by omega) (by have h_ : (0 : Int) < ((x7_1.length : Int) : Int) := of_decide_eq_true (by first | (with_reducible assumption) | assumption); first | exact h_ | (have e_ := (Kd.R_reads' HO_7.out).1; omega) | simpa using h_); obtain rfl := k79_openM hM30; have HP30 := Kd.R_seg HX30.out (0 : Int) (by omega) (by have h_ : (0 : Int) < ((x7_1.length : Int) : Int) := of_decide_eq_true (by first | (with_reducible assumption) | assumption); first | exact h_ | (have e_ := (Kd.R_reads' HO_7.out).1; omega) | simpa using h_) (seg := [.int .i64 1]) (j := 1) hcl30 hcc30 (show 2 ≤ 4 from by decide) (x' := (⟨(rd_T79 y123 0).f0, 1, (rd_T79 y123 0).f2, (rd_T79 y123 0).f3⟩ : S79)) (k79_mkM _ _ _ (⟨(rd_T79 y123 0).f0, 1, (rd_T79 y123 0).f2, (rd_T79 y123 0).f3⟩ : S79) ) (fun _ hk => hk); have hx30_1 := hcc30 1 _ rfl; (try simp only [show (k79).sz = 4 from rfl, Nat.mul_one, Nat.add_zero] at hx30_1); (try rw [show ((0 : Int)).toNat = 0 from rfl] at hx30_1); (try simp only [Nat.reduceMul, Nat.zero_mul, Nat.zero_add, Nat.reduceAdd] at hx30_1); have hf30_1 := hfr30 1; (try simp only [show (k79).sz = 4 from rfl, Nat.mul_one, Nat.add_zero] at hf30_1); (try rw [show ((0 : Int)).toNat = 0 from rfl] at hf30_1); (try simp only [Nat.reduceMul, Nat.zero_mul, Nat.zero_add, Nat.reduceAdd] at hf30_1); clear hcl30 hcc30 hfr30 hM30) | ((with_reducible refine gate_store (t := 3) (p := 65) rfl ?_); refine store_event (t := 3) (p := 65) (v := ?vo_w31) (w1 := (w29.setCell ⟨go19, 1, none⟩ (.int .i64 1))) ?hg ?ho ?hn ?hr ?_; (case ho => rfl); (case hg => rfl); (case hn => rfl); (case hr => first | (go_simp; done) | (go_simp; rfl)); intro w31 hw; have hg : w29.grownBy w31 (some go19) := (by rw [hw]; exact HP30.2); have hp_ : Kd.R k79 79 w31 w.heap.size (fun _ => True) (.slice (some ⟨go19, 0, none⟩) x7_1.length co19) y124 := (by rw [hw, Ny124.out]; exact HP30.1); clear HP30; have n0_ := Aside0.mk (hp_); have n1_ := Aside0.mk ((by rw [hw]; exact below_set (HB.out) GB19.out : Below w.heap.size w w31)); clear HO_7; clear HB; have HO_7 := n0_; have HB := n1_; clear n0_ n1_; clear hg hw hp_))
                      go_ret3
                      exact ⟨_, by first | rfl | (simp [errW_none, errW_some] <;> rfl) | (simp only [← hji20]; first | rfl | (simp [errW_none, errW_some] <;> rfl)) | (simp [*, errW_none, errW_some] <;> rfl), by (with_reducible repeat (first | apply Kd.R_alloc | apply Kd.R_drewN | apply Kd.R_drew)); exact HO_7.out, by repeat (first | (with_reducible first | exact HB.out | apply below_alloc | apply pw_below_drewN | apply below_drew1) | exact HB.out)⟩
                    · rw [if_neg c24] at H
                      have c24b0 : ((x7_1.length : Int) == 1) = false := beq_eq_false_iff_ne.mpr c24
                      have c24b1 : ((x7_1.length : Int) != 1) = true := bne_iff_ne.mpr c24
                      simp only [Option.some.injEq, Prod.mk.injEq] at H
                      obtain ⟨rfl, rfl, rfl⟩ := H
                      have p19 : 0 ≤ (0 : Int) := (by omega)
                      have q19 : (0 : Int) < ((x7_1.length : Int) : Int) := of_decide_eq_true (by first | (with_reducible assumption) | assumption)
                      have qi19 : (0 < x7_1.length) = True := eq_true (by omega)
                      obtain ⟨go19, co19, eo19, gb19, gl19, cl19, HG19⟩ := Kd.R_form HO_7.out (by omega)
                      (first | cases eo19 | (injection eo19 with ea_ en_ ec_; (first | subst ea_ | (injection ea_ with ea_; subst ea_)); subst ec_; clear en_))
                      have GB19 := Aside0.mk gb19
                      have GG19 := Aside0.mk HG19
                      clear gb19 gl19 HG19
                      obtain ⟨ce19, hcl19, hM19, hcc19, hfr19⟩ := Kd.R_elem HO_7.out z79 (0 : Int) p19 q19
                      obtain rfl := k79_openM hM19
                      have hx19_0 : wc.cell? ⟨go19, (0 : Int).toNat * 4, none⟩ = some (.int .i64 ((rd_T79 x7_1 0).f0)) := hcc19 0 _ rfl
                      have hx19_1 : wc.cell? ⟨go19, (0 : Int).toNat * 4 + 1, none⟩ = some (.int .i64 ((rd_T79 x7_1 0).f1)) := hcc19 1 _ rfl
                      have hx19_2 : wc.cell? ⟨go19, (0 : Int).toNat * 4 + 2, none⟩ = some (.int .i64 ((rd_T79 x7_1 0).f2)) := hcc19 2 _ rfl
                      have hx19_3 : wc.cell? ⟨go19, (0 : Int).toNat * 4 + 3, none⟩ = some (.int .i64 ((rd_T79 x7_1 0).f3)) := hcc19 3 _ rfl
                      have hf19_0 : wc.frozen? ⟨go19, (0 : Int).toNat * 4, none⟩ = false := hfr19 0
                      have hf19_1 : wc.frozen? ⟨go19, (0 : Int).toNat * 4 + 1, none⟩ = false := hfr19 1
                      have hf19_2 : wc.frozen? ⟨go19, (0 : Int).toNat * 4 + 2, none⟩ = false := hfr19 2
                      have hf19_3 : wc.frozen? ⟨go19, (0 : Int).toNat * 4 + 3, none⟩ = false := hfr19 3
                      clear hcl19 hcc19 hfr19 hM19
                      (try rw [show ((0 : Int)).toNat = 0 from rfl] at hx19_0)
                      (try simp only [Nat.reduceMul, Nat.zero_mul, Nat.zero_add, Nat.reduceAdd] at hx19_0)
                      (try rw [show ((0 : Int)).toNat = 0 from rfl] at hf19_0)
                      (try simp only [Nat.reduceMul, Nat.zero_mul, Nat.zero_add, Nat.reduceAdd] at hf19_0)
                      (try rw [show ((0 : Int)).toNat = 0 from rfl] at hx19_1)
                      (try simp only [Nat.reduceMul, Nat.zero_mul, Nat.zero_add, Nat.reduceAdd] at hx19_1)
                      (try rw [show ((0 : Int)).toNat = 0 from rfl] at hf19_1)
                      (try simp only [Nat.reduceMul, Nat.zero_mul, Nat.zero_add, Nat.reduceAdd] at hf19_1)
                      (try rw [show ((0 : Int)).toNat = 0 from rfl] at hx19_2)
                      (try simp only [Nat.reduceMul, Nat.zero_mul, Nat.zero_add, Nat.reduceAdd] at hx19_2)
                      (try rw [show ((0 : Int)).toNat = 0 from rfl] at hf19_2)
                      (try simp only [Nat.reduceMul, Nat.zero_mul, Nat.zero_add, Nat.reduceAdd] at hf19_2)
                      (try rw [show ((0 : Int)).toNat = 0 from rfl] at hx19_3)
                      (try simp only [Nat.reduceMul, Nat.zero_mul, Nat.zero_add, Nat.reduceAdd] at hx19_3)
                      (try rw [show ((0 : Int)).toNat = 0 from rfl] at hf19_3)
                      (try simp only [Nat.reduceMul, Nat.zero_mul, Nat.zero_add, Nat.reduceAdd] at hf19_3)
                      replace p19 := eq_true p19
                      replace q19 := eq_true q19
                      have HX32 := Aside0.mk (show Kd.R k79 79 wc w.heap.size (fun _ => True) (.slice (some ⟨go19, 0, none⟩) x7_1.length co19) x7_1 from (by (with_reducible repeat (first | apply Kd.R_alloc | apply Kd.R_drewN | apply Kd.R_drew)); exact HO_7.out))
                      obtain ⟨ce32, hcl32, hM32, hcc32, hfr32⟩ := Kd.R_elem HX32.out z79 (0 : Int) (by omega) (by have h_ : (0 : Int) < ((x7_1.length : Int) : Int) := of_decide_eq_true (by first | (with_reducible assumption) | assumption); first | exact h_ | (have e_ := (Kd.R_reads' HO_7.out).1; omega) | simpa using h_)
                      obtain rfl := k79_openM hM32
                      have HP32 := Kd.R_seg HX32.out (0 : Int) (by omega) (by have h_ : (0 : Int) < ((x7_1.length : Int) : Int) := of_decide_eq_true (by first | (with_reducible assumption) | assumption); first | exact h_ | (have e_ := (Kd.R_reads' HO_7.out).1; omega) | simpa using h_) (seg := [.int .i64 2]) (j := 1) hcl32 hcc32 (show 2 ≤ 4 from by decide) (x' := (⟨(rd_T79 x7_1 0).f0, 2, (rd_T79 x7_1 0).f2, (rd_T79 x7_1 0).f3⟩ : S79)) (k79_mkM _ _ _ (⟨(rd_T79 x7_1 0).f0, 2, (rd_T79 x7_1 0).f2, (rd_T79 x7_1 0).f3⟩ : S79) ) (fun _ hk => hk)
                      have hx32_1 := hcc32 1 _ rfl
                      (try simp only [show (k79).sz = 4 from rfl, Nat.mul_one, Nat.add_zero] at hx32_1)
                      (try rw [show ((0 : Int)).toNat = 0 from rfl] at hx32_1)
                      (try simp only [Nat.reduceMul, Nat.zero_mul, Nat.zero_add, Nat.reduceAdd] at hx32_1)
                      have hf32_1 := hfr32 1
                      (try simp only [show (k79).sz = 4 from rfl, Nat.mul_one, Nat.add_zero] at hf32_1)
                      (try rw [show ((0 : Int)).toNat = 0 from rfl] at hf32_1)
                      (try simp only [Nat.reduceMul, Nat.zero_mul, Nat.zero_add, Nat.reduceAdd] at hf32_1)
                      clear hcl32 hcc32 hfr32 hM32
                      go_wp2_with (first | ((with_reducible refine gate_store (t := 3) (p := 53) rfl ?_); refine store_event (t := 3) (p := 53) (v := ?vo_w33) (w1 := (wc.setCell ⟨go19, 1, none⟩ (.int .i64 2))) ?hg ?ho ?hn ?hr ?_; (case ho => rfl); (case hg => rfl); (case hn => rfl); (case hr => first | (go_simp; done) | (go_simp; rfl)); intro w33 hw; have hg : wc.grownBy w33 (some go19) := (by rw [hw]; exact HP32.2); have hp_ : Kd.R k79 79 w33 w.heap.size (fun _ => True) (.slice (some ⟨go19, 0, none⟩) x7_1.length co19) y122 := (by rw [hw, Ny122.out]; exact HP32.1); clear HP32; have n0_ := Aside0.mk (hp_); have n1_ := Aside0.mk ((by rw [hw]; exact below_set (HB.out) GB19.out : Below w.heap.size w w33)); clear HO_7; clear HB; have HO_7 := n0_; have HB := n1_; clear n0_ n1_; clear hg hw hp_; have p23 : 0 ≤ ((ji20) : Int) := of_decide_eq_true (by first | (with_reducible assumption) | assumption); have q23 : ((ji20) : Int) < ((x7_1.length : Int) : Int) := of_decide_eq_true (by first | (with_reducible assumption) | assumption); obtain ⟨ce23, hcl23, hM23, hcc23, hfr23⟩ := Kd.R_elem HO_7.out z79 ((ji20) : Int) p23 q23; obtain rfl := k79_openM hM23; have hx23_0 : w33.cell? ⟨go19, ((ji20) : Int).toNat * 4, none⟩ = some (.int .i64 ((rd_T79 y122 (ji20)).f0)) := hcc23 0 _ rfl; have hx23_1 : w33.cell? ⟨go19, ((ji20) : Int).toNat * 4 + 1, none⟩ = some (.int .i64 ((rd_T79 y122 (ji20)).f1)) := hcc23 1 _ rfl; have hx23_2 : w33.cell? ⟨go19, ((ji20) : Int).toNat * 4 + 2, none⟩ = some (.int .i64 ((rd_T79 y122 (ji20)).f2)) := hcc23 2 _ rfl; have hx23_3 : w33.cell? ⟨go19, ((ji20) : Int).toNat * 4 + 3, none⟩ = some (.int .i64 ((rd_T79 y122 (ji20)).f3)) := hcc23 3 _ rfl; have hf23_0 : w33.frozen? ⟨go19, ((ji20) : Int).toNat * 4, none⟩ = false := hfr23 0; have hf23_1 : w33.frozen? ⟨go19, ((ji20) : Int).toNat * 4 + 1, none⟩ = false := hfr23 1; have hf23_2 : w33.frozen? ⟨go19, ((ji20) : Int).toNat * 4 + 2, none⟩ = false := hfr23 2; have hf23_3 : w33.frozen? ⟨go19, ((ji20) : Int).toNat * 4 + 3, none⟩ = false := hfr23 3; clear hcl23 hcc23 hfr23 hM23; replace p23 := eq_true p23; replace q23 := eq_true q23; have HX34 := Aside0.mk (show Kd.R k79 79 w33 w.heap.size (fun _ => True) (.slice (some ⟨go19, 0, none⟩) x7_1.length co19) y122 from (by (with_reducible repeat (first | apply Kd.R_alloc | apply Kd.R_drewN | apply Kd.R_drew)); exact HO_7.out)); obtain ⟨ce34, hcl34, hM34, hcc34, hfr34⟩ := Kd.R_elem HX34.out z79 ((ji20) : Int) (of_decide_eq_true (by first | (with_reducible assumption) | assumption)) (by have h_ : ((ji20) : Int) < ((x7_1.length : Int) : Int) := of_decide_eq_true (by first | (with_reducible assumption) | assumption); first | exact h_ | (have e_ := (Kd.R_reads' HO_7.out).1; omega) | simpa using h_); obtain rfl := k79_openM hM34; have HP34 := Kd.R_seg HX34.out ((ji20) : Int) (of_decide_eq_true (by first | (with_reducible assumption) | assumption)) (by have h_ : ((ji20) : Int) < ((x7_1.length : Int) : Int) := of_decide_eq_true (by first | (with_reducible assumption) | assumption); first | exact h_ | (have e_ := (Kd.R_reads' HO_7.out).1; omega) | simpa using h_) (seg := [.int .i64 4]) (j := 1) hcl34 hcc34 (show 2 ≤ 4 from by decide) (x' := (⟨(rd_T79 y122 (ji20)).f0, 4, (rd_T79 y122 (ji20)).f2, (rd_T79 y122 (ji20)).f3⟩ : S79)) (k79_mkM _ _ _ (⟨(rd_T79 y122 (ji20)).f0, 4, (rd_T79 y122 (ji20)).f2, (rd_T79 y122 (ji20)).f3⟩ : S79) ) (fun _ hk => hk); have hx34_1 := hcc34 1 _ rfl; (try simp only [show (k79).sz = 4 from rfl, Nat.mul_one, Nat.add_zero] at hx34_1); have hf34_1 := hfr34 1; (try simp only [show (k79).sz = 4 from rfl, Nat.mul_one, Nat.add_zero] at hf34_1); clear hcl34 hcc34 hfr34 hM34) | ((with_reducible refine gate_store (t := 3) (p := 59) rfl ?_); refine store_event (t := 3) (p := 59) (v := ?vo_w35) (w1 := (w33.setCell ⟨go19, ((ji20) : Int).toNat * 4 + 1, none⟩ (.int .i64 4))) ?hg ?ho ?hn ?hr ?_; (case ho => rfl); (case hg => rfl); (case hn => rfl); (case hr => first | (go_simp; done) | (go_simp; rfl)); intro w35 hw; have hg : w33.grownBy w35 (some go19) := (by rw [hw]; exact HP34.2); have hp_ : Kd.R k79 79 w35 w.heap.size (fun _ => True) (.slice (some ⟨go19, 0, none⟩) x7_1.length co19) y123 := (by rw [hw, Ny123.out]; exact HP34.1); clear HP34; have n0_ := Aside0.mk (hp_); have n1_ := Aside0.mk ((by rw [hw]; exact below_set (HB.out) GB19.out : Below w.heap.size w w35)); clear HO_7; clear HB; have HO_7 := n0_; have HB := n1_; clear n0_ n1_; clear hg hw hp_))
                      go_ret3
                      exact ⟨_, by first | rfl | (simp [errW_none, errW_some] <;> rfl) | (simp only [← hji20]; first | rfl | (simp [errW_none, errW_some] <;> rfl)) | (simp [*, errW_none, errW_some] <;> rfl), by (with_reducible repeat (first | apply Kd.R_alloc | apply Kd.R_drewN | apply Kd.R_drew)); exact HO_7.out, by repeat (first | (with_reducible first | exact HB.out | apply below_alloc | apply pw_below_drewN | apply below_drew1) | exact HB.out)⟩
                  · rw [if_neg c22] at H
                    exact absurd H (by simp)
                · rw [if_neg c21] at H
                  exact absurd H (by simp)
              · rw [if_neg c18] at H
                exact absurd H (by simp)

-- NOT PRINTED: function 10 (strandlinelaw15_JoinBack)

/-! ### strandlineref14_Same: function 59 -/
def strandlineref14_Same.l0 : Nat → List (S79) → List (S79) → Int → Option (Bool)
  | 0, _, _, _ => none
  | k + 1, x0, x1, x5 => if x5 < (x0.length : Int) then (if 0 ≤ x5 then (if x5 < (x1.length : Int) then (if (!(((rd_T79 x0 x5).f0) == ((rd_T79 x1 x5).f0)) || (!(((rd_T79 x0 x5).f1) == ((rd_T79 x1 x5).f1)) || (!(((rd_T79 x0 x5).f2) == ((rd_T79 x1 x5).f2)) || (!(((rd_T79 x0 x5).f3) == ((rd_T79 x1 x5).f3)))))) = true then (some false) else (strandlineref14_Same.l0 k x0 x1 (wrap64 (x5 + 1)))) else (none)) else (none)) else (some true)
def strandlineref14_Same.f (k : Nat) (l0 : List (S79)) (l1 : List (S79)) : Option (Bool) := if (l0.length : Int) = (l1.length : Int) then (strandlineref14_Same.l0 k l0 l1 0) else (some false)
theorem strandlineref14_Same.mono_l : ∀ k, (∀ y0 y1 y2, LeO (strandlineref14_Same.l0 k y0 y1 y2) (strandlineref14_Same.l0 (k + 1) y0 y1 y2))
  | 0 => fun _ _ _ r h => by simp [strandlineref14_Same.l0] at h
  | k + 1 => by
    have ih0 := strandlineref14_Same.mono_l k
    · intro y0 y1 y2
      unfold strandlineref14_Same.l0
      repeat' first
      | (with_reducible exact ih0 _ _ _)
      | (with_reducible exact LeO.refl _)
      | (with_reducible exact LeO.none _)
      | (with_reducible refine LeO.ite ?_ ?_)
      | (with_reducible refine LeO.bind ?_ (fun _ => ?_))
      | exact ih0 _ _ _
      | exact LeO.none _
      | refine LeO.ite ?_ ?_
      | refine LeO.bind ?_ (fun _ => ?_)
theorem strandlineref14_Same.mono : ∀ a0 a1 k, LeO (strandlineref14_Same.f k a0 a1) (strandlineref14_Same.f (k + 1) a0 a1) := by
  intro a0 a1 k
  have ih0 := strandlineref14_Same.mono_l k
  unfold strandlineref14_Same.f
  repeat' first
      | (with_reducible exact ih0 _ _ _)
      | (with_reducible exact LeO.refl _)
      | (with_reducible exact LeO.none _)
      | (with_reducible refine LeO.ite ?_ ?_)
      | (with_reducible refine LeO.bind ?_ (fun _ => ?_))
      | exact ih0 _ _ _
      | exact LeO.none _
      | refine LeO.ite ?_ ?_
      | refine LeO.bind ?_ (fun _ => ?_)
set_option maxHeartbeats 8000000 in
set_option maxRecDepth 100000 in
theorem strandlineref14_Same.calls (k : Nat) (A0 : Option Addr) (c0 : Nat) (l0 : List (S79)) (A1 : Option Addr) (c1 : Nat) (l1 : List (S79)) (r : Bool) (w : World) (hr0 : Kd.C k79 w A0 l0.length l0) (hc0 : l0.length ≤ c0) (hr1 : Kd.C k79 w A1 l1.length l1) (hc1 : l1.length ≤ c1) (h : strandlineref14_Same.f k l0 l1 = some r) :
    Calls Try.prog 59 #[.slice A0 l0.length c0, .slice A1 l1.length c1] w fun e w' => e = .returned (.bool r) ∧ Drawn0 w w' := by
  have hu23 := Try.underlying23
  have hu37 := Try.underlying37
  have hu61 := Try.underlying61
  have hu66 := Try.underlying66
  have hu116 := Try.underlying116
  have hu79 := Try.underlying79
  have HR0 := Aside0.mk hr0
  have HC0 := Aside0.mk hc0
  clear hr0 hc0
  have HR1 := Aside0.mk hr1
  have HC1 := Aside0.mk hc1
  clear hr1 hc1
  have H : (if (l0.length : Int) = (l1.length : Int) then (strandlineref14_Same.l0 k l0 l1 0) else (some false)) = some r := h
  clear h
  by_cases c3 : (l0.length : Int) = (l1.length : Int)
  · rw [if_pos c3] at H
    have c3b0 : ((l0.length : Int) == (l1.length : Int)) = true := beq_iff_eq.mpr c3
    have c3b1 : ((l0.length : Int) != (l1.length : Int)) = false := bne_eq_false_iff_eq.mpr c3
    have c3b2 : (l0.length == l1.length) = true := by first | simpa using c3 | (simp at c3 ⊢; omega)
    clear c3
    have H' := Aside0.mk H
    clear H
    go_enter Try.func59, Try.ntmps59
    go_wp2
    repeat (go_quiet (fail); try go_wp2)
    go_loopg [5] k (fun kq v5 w' => ∃ (x5_1 : Int), v5 = .int .i64 x5_1 ∧ Aside0 (strandlineref14_Same.l0 kq l0 l1 x5_1 = some r) ∧ Aside0 (kq ≤ k) ∧ Drawn0 w w')
    case atStart => exact ⟨(0), (by first | rfl | (simp; done) | (simp [*]; done)), H', ⟨Nat.le_refl _⟩, by repeat (first | exact Drawn0.refl _ | apply Drawn0.step)⟩
    case round =>
      clear H'
      try clear c1
      try clear p2
      try clear c3
      try clear c3b0
      try clear c3b1
      try clear c3b2
      obtain ⟨x5_1, rfl, HA, HK1, ⟨m1, rfl⟩⟩ := hrel
      cases gk with
      | zero => exact absurd HA.out (by simp [strandlineref14_Same.l0])
      | succ k1 =>
        have H := HA.out
        clear HA
        simp only [strandlineref14_Same.l0] at H
        by_cases c4 : x5_1 < (l0.length : Int)
        · rw [if_pos c4] at H
          have c4b0 : decide (x5_1 < (l0.length : Int)) = true := decide_eq_true c4
          clear c4
          by_cases c5 : 0 ≤ x5_1
          · rw [if_pos c5] at H
            have c5b0 : decide (0 ≤ x5_1) = true := decide_eq_true c5
            clear c5
            by_cases c6 : x5_1 < (l1.length : Int)
            · rw [if_pos c6] at H
              have c6b0 : decide (x5_1 < (l1.length : Int)) = true := decide_eq_true c6
              clear c6
              by_cases c7 : (!(((rd_T79 l0 x5_1).f0) == ((rd_T79 l1 x5_1).f0)) || (!(((rd_T79 l0 x5_1).f1) == ((rd_T79 l1 x5_1).f1)) || (!(((rd_T79 l0 x5_1).f2) == ((rd_T79 l1 x5_1).f2)) || (!(((rd_T79 l0 x5_1).f3) == ((rd_T79 l1 x5_1).f3)))))) = true
              · rw [if_pos c7] at H
                have c7b0 : (!(((rd_T79 l0 x5_1).f0) == ((rd_T79 l1 x5_1).f0)) || (!(((rd_T79 l0 x5_1).f1) == ((rd_T79 l1 x5_1).f1)) || (!(((rd_T79 l0 x5_1).f2) == ((rd_T79 l1 x5_1).f2)) || (!(((rd_T79 l0 x5_1).f3) == ((rd_T79 l1 x5_1).f3)))))) = true := c7
                clear c7
                obtain rfl := Option.some.inj H
                have p118 : 0 ≤ (x5_1 : Int) := of_decide_eq_true (by first | (with_reducible assumption) | assumption)
                have q118 : x5_1 < (l0.length : Int) := of_decide_eq_true (by first | (with_reducible assumption) | assumption)
                obtain ⟨ad118, e118, hx118_0, hx118_1, hx118_2, hx118_3⟩ := at_T79 HR0.out x5_1 p118 q118
                cases e118
                replace p118 := eq_true p118
                replace q118 := eq_true q118
                have p119 : 0 ≤ (x5_1 : Int) := of_decide_eq_true (by first | (with_reducible assumption) | assumption)
                have q119 : x5_1 < (l1.length : Int) := of_decide_eq_true (by first | (with_reducible assumption) | assumption)
                obtain ⟨ad119, e119, hx119_0, hx119_1, hx119_2, hx119_3⟩ := at_T79 HR1.out x5_1 p119 q119
                cases e119
                replace p119 := eq_true p119
                replace q119 := eq_true q119
                go_wp2
                repeat (go_quiet (fail); try go_wp2)
                go_ret
                exact ⟨by first | rfl | (simp; done) | (simp [*]; done), by repeat (first | exact Drawn0.refl _ | apply Drawn0.step)⟩
              · rw [if_neg c7] at H
                have c7b0 : (!(((rd_T79 l0 x5_1).f0) == ((rd_T79 l1 x5_1).f0)) || (!(((rd_T79 l0 x5_1).f1) == ((rd_T79 l1 x5_1).f1)) || (!(((rd_T79 l0 x5_1).f2) == ((rd_T79 l1 x5_1).f2)) || (!(((rd_T79 l0 x5_1).f3) == ((rd_T79 l1 x5_1).f3)))))) = false := by simpa using c7
                clear c7
                have H' := Aside0.mk H
                clear H
                have p118 : 0 ≤ (x5_1 : Int) := of_decide_eq_true (by first | (with_reducible assumption) | assumption)
                have q118 : x5_1 < (l0.length : Int) := of_decide_eq_true (by first | (with_reducible assumption) | assumption)
                obtain ⟨ad118, e118, hx118_0, hx118_1, hx118_2, hx118_3⟩ := at_T79 HR0.out x5_1 p118 q118
                cases e118
                replace p118 := eq_true p118
                replace q118 := eq_true q118
                have p119 : 0 ≤ (x5_1 : Int) := of_decide_eq_true (by first | (with_reducible assumption) | assumption)
                have q119 : x5_1 < (l1.length : Int) := of_decide_eq_true (by first | (with_reducible assumption) | assumption)
                obtain ⟨ad119, e119, hx119_0, hx119_1, hx119_2, hx119_3⟩ := at_T79 HR1.out x5_1 p119 q119
                cases e119
                replace p119 := eq_true p119
                replace q119 := eq_true q119
                go_wp2
                repeat (go_quiet (fail); try go_wp2)
                go_roundg k1
                case measure => have := HK1.out; omega
                case rel => exact ⟨(wrap64 (x5_1 + 1)), (by first | rfl | (simp; done) | (simp [*]; done)), H', ⟨by have := HK1.out; omega⟩, by repeat (first | exact Drawn0.refl _ | apply Drawn0.step)⟩
            · rw [if_neg c6] at H
              exact absurd H (by simp)
          · rw [if_neg c5] at H
            exact absurd H (by simp)
        · rw [if_neg c4] at H
          have c4b0 : decide (x5_1 < (l0.length : Int)) = false := decide_eq_false c4
          clear c4
          obtain rfl := Option.some.inj H
          go_wp2
          repeat (go_quiet (fail); try go_wp2)
          go_ret
          exact ⟨by first | rfl | (simp; done) | (simp [*]; done), by repeat (first | exact Drawn0.refl _ | apply Drawn0.step)⟩
  · rw [if_neg c3] at H
    have c3b0 : ((l0.length : Int) == (l1.length : Int)) = false := beq_eq_false_iff_ne.mpr c3
    have c3b1 : ((l0.length : Int) != (l1.length : Int)) = true := bne_iff_ne.mpr c3
    have c3b2 : (l0.length == l1.length) = false := by first | simpa using c3 | (simp at c3 ⊢; omega)
    obtain rfl := Option.some.inj H
    go_enter Try.func59, Try.ntmps59
    go_wp2
    repeat (go_quiet (fail); try go_wp2)
    go_ret
    exact ⟨by first | rfl | (simp; done) | (simp [*]; done), by repeat (first | exact Drawn0.refl _ | apply Drawn0.step)⟩


end Go.Proofs.Ythlpimojojofbaa.F
