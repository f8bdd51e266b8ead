/- Functions of strandlineref07: what each answers, as a Lean function, and that the call answers just this. Turned out of what the kit's print told for this seat. -/
import Derived.Test.YthlpimojojofbaaF0
namespace Go.Proofs.Ythlpimojojofbaa.F
open Go.RowKit Go.Proofs.YthlpimojojofbaaW.PrintWords Go.Proofs.YthlpimojojofbaaW.PrintLast Go.Proofs.YthlpimojojofbaaW.PrintMore
attribute [local go_sem high] eqA23
attribute [local go_sem high] eqA79
attribute [local go_sem] field23_0
attribute [local go_sem] field23_1
attribute [local go_sem] max2_int min2_int max_two min_two max_three min_three max_four min_four
set_option linter.unusedVariables false
set_option linter.unusedSimpArgs false

/-! ### strandlineref07_Near: function 22 -/
def strandlineref07_Near.f (a0 : Int) : Option (Int) := if a0 < 0 then (some 0) else (if a0 > 832 then (some 832) else (some a0))
set_option maxHeartbeats 8000000 in
set_option maxRecDepth 100000 in
theorem strandlineref07_Near.calls (a0 : Int) (r : Int) (w : World) (h : strandlineref07_Near.f a0 = some r) :
    Calls Try.prog 22 #[.int .i64 a0] w fun e w' => e = .returned (.int .i64 r) ∧ Drawn0 w w' := by
  have hu23 := Try.underlying23
  have hu37 := Try.underlying37
  have hu61 := Try.underlying61
  have hu66 := Try.underlying66
  have hu79 := Try.underlying79
  have hu116 := Try.underlying116
  have H : (if a0 < 0 then (some 0) else (if a0 > 832 then (some 832) else (some a0))) = some r := h
  clear h
  by_cases c2 : a0 < 0
  · rw [if_pos c2] at H
    have c2b0 : decide (a0 < 0) = true := decide_eq_true c2
    clear c2
    obtain rfl := Option.some.inj H
    go_enter Try.func22, Try.ntmps22
    go_wp2
    go_ret
    exact ⟨by first | rfl | (simp; done) | (simp [*]; done), by repeat (first | exact Drawn0.refl _ | apply Drawn0.step)⟩
  · rw [if_neg c2] at H
    have c2b0 : decide (a0 < 0) = false := decide_eq_false c2
    clear c2
    by_cases c3 : a0 > 832
    · rw [if_pos c3] at H
      have c3b0 : decide (832 < a0) = true := decide_eq_true c3
      clear c3
      obtain rfl := Option.some.inj H
      go_enter Try.func22, Try.ntmps22
      go_wp2
      go_ret
      exact ⟨by first | rfl | (simp; done) | (simp [*]; done), by repeat (first | exact Drawn0.refl _ | apply Drawn0.step)⟩
    · rw [if_neg c3] at H
      have c3b0 : decide (832 < a0) = false := decide_eq_false c3
      clear c3
      obtain rfl := Option.some.inj H
      go_enter Try.func22, Try.ntmps22
      go_wp2
      go_ret
      exact ⟨by first | rfl | (simp; done) | (simp [*]; done), by repeat (first | exact Drawn0.refl _ | apply Drawn0.step)⟩

/-! ### strandlineref07_Where: function 20 -/
def strandlineref07_Where.l0 : Nat → Int → Int → Int → Int → Option (Int × Int)
  | 0, _, _, _, _ => none
  | k + 1, x0, x4, x5, x6 => (strandlineref07_Near.f x0).bind fun t103 => (if x6 < t103 then (if (wrap64 (x5 + 1)) = 52 then (strandlineref07_Where.l0 k x0 (wrap64 (x4 + 1)) 0 (wrap64 (x6 + 1))) else (strandlineref07_Where.l0 k x0 x4 (wrap64 (x5 + 1)) (wrap64 (x6 + 1)))) else (some (x4, x5)))
def strandlineref07_Where.f (k : Nat) (a0 : Int) : Option (Int × Int) := strandlineref07_Where.l0 k a0 0 0 0
theorem strandlineref07_Where.mono_l : ∀ k, (∀ y0 y1 y2 y3, LeO (strandlineref07_Where.l0 k y0 y1 y2 y3) (strandlineref07_Where.l0 (k + 1) y0 y1 y2 y3))
  | 0 => fun _ _ _ _ r h => by simp [strandlineref07_Where.l0] at h
  | k + 1 => by
    have ih0 := strandlineref07_Where.mono_l k
    · intro y0 y1 y2 y3
      unfold strandlineref07_Where.l0
      repeat' first
      | (with_reducible exact ih0 _ _ _ _)
      | (with_reducible exact LeO.refl _)
      | (with_reducible exact LeO.none _)
      | (with_reducible refine LeO.ite ?_ ?_)
      | (with_reducible refine LeO.bind ?_ (fun _ => ?_))
      | exact ih0 _ _ _ _
      | exact LeO.none _
      | refine LeO.ite ?_ ?_
      | refine LeO.bind ?_ (fun _ => ?_)
theorem strandlineref07_Where.mono : ∀ a0 k, LeO (strandlineref07_Where.f k a0) (strandlineref07_Where.f (k + 1) a0) := by
  intro a0 k
  have ih0 := strandlineref07_Where.mono_l k
  unfold strandlineref07_Where.f
  repeat' first
      | (with_reducible exact ih0 _ _ _ _)
      | (with_reducible exact LeO.refl _)
      | (with_reducible exact LeO.none _)
      | (with_reducible refine LeO.ite ?_ ?_)
      | (with_reducible refine LeO.bind ?_ (fun _ => ?_))
      | exact ih0 _ _ _ _
      | exact LeO.none _
      | refine LeO.ite ?_ ?_
      | refine LeO.bind ?_ (fun _ => ?_)
set_option maxHeartbeats 8000000 in
set_option maxRecDepth 100000 in
theorem strandlineref07_Where.calls (k : Nat) (a0 : Int) (r1 : Int) (r2 : Int) (w : World) (h : strandlineref07_Where.f k a0 = some (r1, r2)) :
    Calls Try.prog 20 #[.int .i64 a0] w fun e w' => e = .returned (.tuple #[.int .i64 r1, .int .i64 r2]) ∧ Drawn0 w w' := by
  have hu23 := Try.underlying23
  have hu37 := Try.underlying37
  have hu61 := Try.underlying61
  have hu66 := Try.underlying66
  have hu79 := Try.underlying79
  have hu116 := Try.underlying116
  have H : (strandlineref07_Where.l0 k a0 0 0 0) = some (r1, r2) := h
  clear h
  have H' := Aside0.mk H
  clear H
  go_enter Try.func20, Try.ntmps20
  go_wp2
  go_loopg [4, 5, 6] k (fun kq v4 v5 v6 w' => ∃ (x4_1 : Int) (x5_1 : Int) (x6_1 : Int), v4 = .int .i64 x4_1 ∧ v5 = .int .i64 x5_1 ∧ v6 = .int .i64 x6_1 ∧ Aside0 (strandlineref07_Where.l0 kq a0 x4_1 x5_1 x6_1 = some (r1, r2)) ∧ Aside0 (kq ≤ k) ∧ Drawn0 w w')
  case atStart => exact ⟨(0), (0), (0), (by first | rfl | (simp; done) | (simp [*]; done)), (by first | rfl | (simp; done) | (simp [*]; done)), (by first | rfl | (simp; done) | (simp [*]; done)), H', ⟨Nat.le_refl _⟩, by repeat (first | exact Drawn0.refl _ | apply Drawn0.step)⟩
  case round =>
    clear H'
    obtain ⟨x4_1, x5_1, x6_1, rfl, rfl, rfl, HA, HK1, ⟨m1, rfl⟩⟩ := hrel
    cases gk with
    | zero => exact absurd HA.out (by simp [strandlineref07_Where.l0])
    | succ k1 =>
      have H := HA.out
      clear HA
      simp only [strandlineref07_Where.l0] at H
      replace H := Option.bind_eq_some_iff.mp H
      obtain ⟨t103, A20, H⟩ := H
      replace H : (if x6_1 < t103 then (if (wrap64 (x5_1 + 1)) = 52 then (strandlineref07_Where.l0 k1 a0 (wrap64 (x4_1 + 1)) 0 (wrap64 (x6_1 + 1))) else (strandlineref07_Where.l0 k1 a0 x4_1 (wrap64 (x5_1 + 1)) (wrap64 (x6_1 + 1)))) else (some (x4_1, x5_1))) = some (r1, r2) := H
      have A2 := Aside0.mk A20
      clear A20
      by_cases c3 : x6_1 < t103
      · rw [if_pos c3] at H
        have c3b0 : decide (x6_1 < t103) = true := decide_eq_true c3
        clear c3
        by_cases c4 : (wrap64 (x5_1 + 1)) = 52
        · rw [if_pos c4] at H
          have c4b0 : ((wrap64 (x5_1 + 1)) == 52) = true := beq_iff_eq.mpr c4
          have c4b1 : ((wrap64 (x5_1 + 1)) != 52) = false := bne_eq_false_iff_eq.mpr c4
          clear c4
          have H' := Aside0.mk H
          clear H
          go_wp2_with (first | ((with_reducible refine gate_callee (f := 22) rfl ?_); refine goesL_ (some 9) rfl rfl Try.func22 (by kernel_rfl) rfl #[.int .i64 a0] rfl (by (try simp only [List.map_toArray, List.map_cons, List.map_nil]); first | done | rfl | (simp only [List.length_drop, List.length_take]; rfl)) ?_; (with_reducible refine (strandlineref07_Near.calls a0 t103 _ A2.out).mono ?_); rintro e w' ⟨rfl, ⟨nd, rfl⟩⟩; refine ⟨_, rfl, ?_⟩))
          go_roundg k1
          case measure => have := HK1.out; omega
          case rel => exact ⟨(wrap64 (x4_1 + 1)), (0), (wrap64 (x6_1 + 1)), (by first | rfl | (simp; done) | (simp [*]; done)), (by first | rfl | (simp; done) | (simp [*]; done)), (by first | rfl | (simp; done) | (simp [*]; done)), H', ⟨by have := HK1.out; omega⟩, by repeat (first | exact Drawn0.refl _ | apply Drawn0.step)⟩
        · rw [if_neg c4] at H
          have c4b0 : ((wrap64 (x5_1 + 1)) == 52) = false := beq_eq_false_iff_ne.mpr c4
          have c4b1 : ((wrap64 (x5_1 + 1)) != 52) = true := bne_iff_ne.mpr c4
          have H' := Aside0.mk H
          clear H
          go_wp2_with (first | ((with_reducible refine gate_callee (f := 22) rfl ?_); refine goesL_ (some 9) rfl rfl Try.func22 (by kernel_rfl) rfl #[.int .i64 a0] rfl (by (try simp only [List.map_toArray, List.map_cons, List.map_nil]); first | done | rfl | (simp only [List.length_drop, List.length_take]; rfl)) ?_; (with_reducible refine (strandlineref07_Near.calls a0 t103 _ A2.out).mono ?_); rintro e w' ⟨rfl, ⟨nd, rfl⟩⟩; refine ⟨_, rfl, ?_⟩))
          go_roundg k1
          case measure => have := HK1.out; omega
          case rel => exact ⟨(x4_1), (wrap64 (x5_1 + 1)), (wrap64 (x6_1 + 1)), (by first | rfl | (simp; done) | (simp [*]; done)), (by first | rfl | (simp; done) | (simp [*]; done)), (by first | rfl | (simp; done) | (simp [*]; done)), H', ⟨by have := HK1.out; omega⟩, by repeat (first | exact Drawn0.refl _ | apply Drawn0.step)⟩
      · rw [if_neg c3] at H
        have c3b0 : decide (x6_1 < t103) = false := decide_eq_false c3
        clear c3
        simp only [Option.some.injEq, Prod.mk.injEq] at H
        obtain ⟨rfl, rfl⟩ := H
        go_wp2_with (first | ((with_reducible refine gate_callee (f := 22) rfl ?_); refine goesL_ (some 9) rfl rfl Try.func22 (by kernel_rfl) rfl #[.int .i64 a0] rfl (by (try simp only [List.map_toArray, List.map_cons, List.map_nil]); first | done | rfl | (simp only [List.length_drop, List.length_take]; rfl)) ?_; (with_reducible refine (strandlineref07_Near.calls a0 t103 _ A2.out).mono ?_); rintro e w' ⟨rfl, ⟨nd, rfl⟩⟩; refine ⟨_, rfl, ?_⟩))
        go_ret2
        exact ⟨by first | rfl | (simp; done) | (simp [*]; done), by repeat (first | exact Drawn0.refl _ | apply Drawn0.step)⟩

/-! ### strandlineref07_Left: function 61 -/
def strandlineref07_Left.l0 : Nat → Int → Int → Option (Int)
  | 0, _, _ => none
  | k + 1, x0, x3 => if x0 < 832 then (if x3 = 0 then (strandlineref07_Left.l0 k (wrap64 (x0 + 1)) (wrap64 (x3 + 1))) else (if (Int.tmod x0 208) = 0 then (some x3) else (strandlineref07_Left.l0 k (wrap64 (x0 + 1)) (wrap64 (x3 + 1))))) else (some x3)
def strandlineref07_Left.f (k : Nat) (a0 : Int) : Option (Int) := (strandlineref07_Near.f a0).bind fun t117 => (strandlineref07_Left.l0 k t117 0)
theorem strandlineref07_Left.mono_l : ∀ k, (∀ y0 y1, LeO (strandlineref07_Left.l0 k y0 y1) (strandlineref07_Left.l0 (k + 1) y0 y1))
  | 0 => fun _ _ r h => by simp [strandlineref07_Left.l0] at h
  | k + 1 => by
    have ih0 := strandlineref07_Left.mono_l k
    · intro y0 y1
      unfold strandlineref07_Left.l0
      repeat' first
      | (with_reducible exact ih0 _ _)
      | (with_reducible exact LeO.refl _)
      | (with_reducible exact LeO.none _)
      | (with_reducible refine LeO.ite ?_ ?_)
      | (with_reducible refine LeO.bind ?_ (fun _ => ?_))
      | exact ih0 _ _
      | exact LeO.none _
      | refine LeO.ite ?_ ?_
      | refine LeO.bind ?_ (fun _ => ?_)
theorem strandlineref07_Left.mono : ∀ a0 k, LeO (strandlineref07_Left.f k a0) (strandlineref07_Left.f (k + 1) a0) := by
  intro a0 k
  have ih0 := strandlineref07_Left.mono_l k
  unfold strandlineref07_Left.f
  repeat' first
      | (with_reducible exact ih0 _ _)
      | (with_reducible exact LeO.refl _)
      | (with_reducible exact LeO.none _)
      | (with_reducible refine LeO.ite ?_ ?_)
      | (with_reducible refine LeO.bind ?_ (fun _ => ?_))
      | exact ih0 _ _
      | exact LeO.none _
      | refine LeO.ite ?_ ?_
      | refine LeO.bind ?_ (fun _ => ?_)
set_option maxHeartbeats 8000000 in
set_option maxRecDepth 100000 in
theorem strandlineref07_Left.calls (k : Nat) (a0 : Int) (r : Int) (w : World) (h : strandlineref07_Left.f k a0 = some r) :
    Calls Try.prog 61 #[.int .i64 a0] w fun e w' => e = .returned (.int .i64 r) ∧ Drawn0 w w' := by
  have hu23 := Try.underlying23
  have hu37 := Try.underlying37
  have hu61 := Try.underlying61
  have hu66 := Try.underlying66
  have hu79 := Try.underlying79
  have hu116 := Try.underlying116
  have H : ((strandlineref07_Near.f a0).bind fun t117 => (strandlineref07_Left.l0 k t117 0)) = some r := h
  clear h
  replace H := Option.bind_eq_some_iff.mp H
  obtain ⟨t117, A20, H⟩ := H
  replace H : (strandlineref07_Left.l0 k t117 0) = some r := H
  have A2 := Aside0.mk A20
  clear A20
  have H' := Aside0.mk H
  clear H
  go_enter Try.func61, Try.ntmps61
  go_wp2_with (first | ((with_reducible refine gate_callee (f := 22) rfl ?_); refine goesL_ (some 5) rfl rfl Try.func22 (by kernel_rfl) rfl #[.int .i64 a0] rfl (by (try simp only [List.map_toArray, List.map_cons, List.map_nil]); first | done | rfl | (simp only [List.length_drop, List.length_take]; rfl)) ?_; (with_reducible refine (strandlineref07_Near.calls a0 t117 _ A2.out).mono ?_); rintro e w' ⟨rfl, ⟨nd, rfl⟩⟩; refine ⟨_, rfl, ?_⟩))
  go_loopg [0, 3] k (fun kq v0 v3 w' => ∃ (x0_1 : Int) (x3_1 : Int), v0 = .int .i64 x0_1 ∧ v3 = .int .i64 x3_1 ∧ Aside0 (strandlineref07_Left.l0 kq x0_1 x3_1 = some r) ∧ Aside0 (kq ≤ k) ∧ Drawn0 w w')
  case atStart => exact ⟨(t117), (0), (by first | rfl | (simp; done) | (simp [*]; done)), (by first | rfl | (simp; done) | (simp [*]; done)), H', ⟨Nat.le_refl _⟩, by repeat (first | exact Drawn0.refl _ | apply Drawn0.step)⟩
  case round =>
    clear H'
    try clear c2
    try clear p2
    obtain ⟨x0_1, x3_1, rfl, rfl, HA, HK1, ⟨m1, rfl⟩⟩ := hrel
    cases gk with
    | zero => exact absurd HA.out (by simp [strandlineref07_Left.l0])
    | succ k1 =>
      have H := HA.out
      clear HA
      simp only [strandlineref07_Left.l0] at H
      by_cases c3 : x0_1 < 832
      · rw [if_pos c3] at H
        have c3b0 : decide (x0_1 < 832) = true := decide_eq_true c3
        clear c3
        by_cases c4 : x3_1 = 0
        · rw [if_pos c4] at H
          have c4b0 : (x3_1 == 0) = true := beq_iff_eq.mpr c4
          have c4b1 : (x3_1 != 0) = false := bne_eq_false_iff_eq.mpr c4
          clear c4
          have H' := Aside0.mk H
          clear H
          go_wp2
          go_roundg k1
          case measure => have := HK1.out; omega
          case rel => exact ⟨(wrap64 (x0_1 + 1)), (wrap64 (x3_1 + 1)), (by first | rfl | (simp; done) | (simp [*]; done)), (by first | rfl | (simp; done) | (simp [*]; done)), H', ⟨by have := HK1.out; omega⟩, by repeat (first | exact Drawn0.refl _ | apply Drawn0.step)⟩
        · rw [if_neg c4] at H
          have c4b0 : (x3_1 == 0) = false := beq_eq_false_iff_ne.mpr c4
          have c4b1 : (x3_1 != 0) = true := bne_iff_ne.mpr c4
          by_cases c5 : (Int.tmod x0_1 208) = 0
          · rw [if_pos c5] at H
            have c5b0 : ((Int.tmod x0_1 208) == 0) = true := beq_iff_eq.mpr c5
            have c5b1 : ((Int.tmod x0_1 208) != 0) = false := bne_eq_false_iff_eq.mpr c5
            clear c5
            obtain rfl := Option.some.inj H
            go_wp2
            go_ret
            exact ⟨by first | rfl | (simp; done) | (simp [*]; done), by repeat (first | exact Drawn0.refl _ | apply Drawn0.step)⟩
          · rw [if_neg c5] at H
            have c5b0 : ((Int.tmod x0_1 208) == 0) = false := beq_eq_false_iff_ne.mpr c5
            have c5b1 : ((Int.tmod x0_1 208) != 0) = true := bne_iff_ne.mpr c5
            have H' := Aside0.mk H
            clear H
            go_wp2
            go_roundg k1
            case measure => have := HK1.out; omega
            case rel => exact ⟨(wrap64 (x0_1 + 1)), (wrap64 (x3_1 + 1)), (by first | rfl | (simp; done) | (simp [*]; done)), (by first | rfl | (simp; done) | (simp [*]; done)), H', ⟨by have := HK1.out; omega⟩, by repeat (first | exact Drawn0.refl _ | apply Drawn0.step)⟩
      · rw [if_neg c3] at H
        have c3b0 : decide (x0_1 < 832) = false := decide_eq_false c3
        clear c3
        obtain rfl := Option.some.inj H
        go_wp2
        go_ret
        exact ⟨by first | rfl | (simp; done) | (simp [*]; done), by repeat (first | exact Drawn0.refl _ | apply Drawn0.step)⟩

/-! ### strandlineref07_Begin: function 87 -/
def strandlineref07_Begin.l0 : Nat → Int → Int → Option (Int)
  | 0, _, _ => none
  | k + 1, x0, x4 => if x0 < 832 then (if x4 > 41 then (if x4 < 52 then (strandlineref07_Begin.l0 k (wrap64 (x0 + 1)) (wrap64 (x4 + 1))) else (some x0)) else (some x0)) else (some x0)
def strandlineref07_Begin.f (k : Nat) (a0 : Int) : Option (Int) := (strandlineref07_Near.f a0).bind fun t119 => ((strandlineref07_Where.f k t119).bind fun bt120 => (strandlineref07_Begin.l0 k t119 bt120.2))
theorem strandlineref07_Begin.mono_l : ∀ k, (∀ y0 y1, LeO (strandlineref07_Begin.l0 k y0 y1) (strandlineref07_Begin.l0 (k + 1) y0 y1))
  | 0 => fun _ _ r h => by simp [strandlineref07_Begin.l0] at h
  | k + 1 => by
    have ih0 := strandlineref07_Begin.mono_l k
    · intro y0 y1
      unfold strandlineref07_Begin.l0
      repeat' first
      | (with_reducible exact ih0 _ _)
      | (with_reducible exact strandlineref07_Where.mono _ _)
      | (with_reducible exact LeO.refl _)
      | (with_reducible exact LeO.none _)
      | (with_reducible refine LeO.ite ?_ ?_)
      | (with_reducible refine LeO.bind ?_ (fun _ => ?_))
      | exact ih0 _ _
      | exact strandlineref07_Where.mono _ _
      | exact LeO.none _
      | refine LeO.ite ?_ ?_
      | refine LeO.bind ?_ (fun _ => ?_)
theorem strandlineref07_Begin.mono : ∀ a0 k, LeO (strandlineref07_Begin.f k a0) (strandlineref07_Begin.f (k + 1) a0) := by
  intro a0 k
  have ih0 := strandlineref07_Begin.mono_l k
  unfold strandlineref07_Begin.f
  repeat' first
      | (with_reducible exact ih0 _ _)
      | (with_reducible exact strandlineref07_Where.mono _ _)
      | (with_reducible exact LeO.refl _)
      | (with_reducible exact LeO.none _)
      | (with_reducible refine LeO.ite ?_ ?_)
      | (with_reducible refine LeO.bind ?_ (fun _ => ?_))
      | exact ih0 _ _
      | exact strandlineref07_Where.mono _ _
      | exact LeO.none _
      | refine LeO.ite ?_ ?_
      | refine LeO.bind ?_ (fun _ => ?_)
set_option maxHeartbeats 8000000 in
set_option maxRecDepth 100000 in
theorem strandlineref07_Begin.calls (k : Nat) (a0 : Int) (r : Int) (w : World) (h : strandlineref07_Begin.f k a0 = some r) :
    Calls Try.prog 87 #[.int .i64 a0] w fun e w' => e = .returned (.int .i64 r) ∧ Drawn0 w w' := by
  have hu23 := Try.underlying23
  have hu37 := Try.underlying37
  have hu61 := Try.underlying61
  have hu66 := Try.underlying66
  have hu79 := Try.underlying79
  have hu116 := Try.underlying116
  have H : ((strandlineref07_Near.f a0).bind fun t119 => ((strandlineref07_Where.f k t119).bind fun bt120 => (strandlineref07_Begin.l0 k t119 bt120.2))) = some r := h
  clear h
  replace H := Option.bind_eq_some_iff.mp H
  obtain ⟨t119, A20, H⟩ := H
  replace H : ((strandlineref07_Where.f k t119).bind fun bt120 => (strandlineref07_Begin.l0 k t119 bt120.2)) = some r := H
  have A2 := Aside0.mk A20
  clear A20
  replace H := Option.bind_eq_some_iff.mp H
  obtain ⟨⟨t120, t121⟩, A30, H⟩ := H
  replace H : (strandlineref07_Begin.l0 k t119 t121) = some r := H
  have A3 := Aside0.mk A30
  clear A30
  have H' := Aside0.mk H
  clear H
  go_enter Try.func87, Try.ntmps87
  go_wp2_with (first | ((with_reducible refine gate_callee (f := 22) rfl ?_); refine goesL_ (some 6) rfl rfl Try.func22 (by kernel_rfl) rfl #[.int .i64 a0] rfl (by (try simp only [List.map_toArray, List.map_cons, List.map_nil]); first | done | rfl | (simp only [List.length_drop, List.length_take]; rfl)) ?_; (with_reducible refine (strandlineref07_Near.calls a0 t119 _ A2.out).mono ?_); rintro e w' ⟨rfl, ⟨nd, rfl⟩⟩; refine ⟨_, rfl, ?_⟩) | ((with_reducible refine gate_callee (f := 20) rfl ?_); refine goesL_ (some 9) rfl rfl Try.func20 (by kernel_rfl) rfl #[.int .i64 t119] rfl (by (try simp only [List.map_toArray, List.map_cons, List.map_nil]); first | done | rfl | (simp only [List.length_drop, List.length_take]; rfl)) ?_; (with_reducible refine (strandlineref07_Where.calls k t119 t120 t121 _ A3.out).mono ?_); rintro e w' ⟨rfl, ⟨nd, rfl⟩⟩; refine ⟨_, rfl, ?_⟩))
  go_loopg [0, 4] k (fun kq v0 v4 w' => ∃ (x0_1 : Int) (x4_1 : Int), v0 = .int .i64 x0_1 ∧ v4 = .int .i64 x4_1 ∧ Aside0 (strandlineref07_Begin.l0 kq x0_1 x4_1 = some r) ∧ Aside0 (kq ≤ k) ∧ Drawn0 w w')
  case atStart => exact ⟨(t119), (t121), (by first | rfl | (simp; done) | (simp [*]; done)), (by first | rfl | (simp; done) | (simp [*]; done)), H', ⟨Nat.le_refl _⟩, by repeat (first | exact Drawn0.refl _ | apply Drawn0.step)⟩
  case round =>
    clear H'
    try clear c2
    try clear p2
    obtain ⟨x0_1, x4_1, rfl, rfl, HA, HK1, ⟨m1, rfl⟩⟩ := hrel
    cases gk with
    | zero => exact absurd HA.out (by simp [strandlineref07_Begin.l0])
    | succ k1 =>
      have H := HA.out
      clear HA
      simp only [strandlineref07_Begin.l0] at H
      by_cases c4 : x0_1 < 832
      · rw [if_pos c4] at H
        have c4b0 : decide (x0_1 < 832) = true := decide_eq_true c4
        clear c4
        by_cases c5 : x4_1 > 41
        · rw [if_pos c5] at H
          have c5b0 : decide (41 < x4_1) = true := decide_eq_true c5
          clear c5
          by_cases c6 : x4_1 < 52
          · rw [if_pos c6] at H
            have c6b0 : decide (x4_1 < 52) = true := decide_eq_true c6
            clear c6
            have H' := Aside0.mk H
            clear H
            go_wp2
            go_roundg k1
            case measure => have := HK1.out; omega
            case rel => exact ⟨(wrap64 (x0_1 + 1)), (wrap64 (x4_1 + 1)), (by first | rfl | (simp; done) | (simp [*]; done)), (by first | rfl | (simp; done) | (simp [*]; done)), H', ⟨by have := HK1.out; omega⟩, by repeat (first | exact Drawn0.refl _ | apply Drawn0.step)⟩
          · rw [if_neg c6] at H
            have c6b0 : decide (x4_1 < 52) = false := decide_eq_false c6
            clear c6
            obtain rfl := Option.some.inj H
            go_wp2
            go_ret
            exact ⟨by first | rfl | (simp; done) | (simp [*]; done), by repeat (first | exact Drawn0.refl _ | apply Drawn0.step)⟩
        · rw [if_neg c5] at H
          have c5b0 : decide (41 < x4_1) = false := decide_eq_false c5
          clear c5
          obtain rfl := Option.some.inj H
          go_wp2
          go_ret
          exact ⟨by first | rfl | (simp; done) | (simp [*]; done), by repeat (first | exact Drawn0.refl _ | apply Drawn0.step)⟩
      · rw [if_neg c4] at H
        have c4b0 : decide (x0_1 < 832) = false := decide_eq_false c4
        clear c4
        obtain rfl := Option.some.inj H
        go_wp2
        go_ret
        exact ⟨by first | rfl | (simp; done) | (simp [*]; done), by repeat (first | exact Drawn0.refl _ | apply Drawn0.step)⟩

/-! ### strandlineref07_Touch: function 70 -/
def strandlineref07_Touch.l0 : Nat → Int → Int → Int → Int → Option (Int × Int)
  | 0, _, _, _, _ => none
  | k + 1, x1, x6, x7, x8 => (strandlineref07_Near.f x1).bind fun t118 => (if x8 < t118 then (if x6 < 0 then (strandlineref07_Touch.l0 k x1 (wrap64 (Int.tdiv x8 52)) (wrap64 (Int.tdiv x8 52)) (wrap64 (x8 + 1))) else (strandlineref07_Touch.l0 k x1 x6 (wrap64 (Int.tdiv x8 52)) (wrap64 (x8 + 1)))) else (if x6 < 0 then (some (0, 0)) else (some (x6, wrap64 (x7 + 1)))))
def strandlineref07_Touch.f (k : Nat) (a0 : Int) (a1 : Int) : Option (Int × Int) := (strandlineref07_Near.f a0).bind fun t117 => (strandlineref07_Touch.l0 k a1 (-1) (-1) t117)
theorem strandlineref07_Touch.mono_l : ∀ k, (∀ y0 y1 y2 y3, LeO (strandlineref07_Touch.l0 k y0 y1 y2 y3) (strandlineref07_Touch.l0 (k + 1) y0 y1 y2 y3))
  | 0 => fun _ _ _ _ r h => by simp [strandlineref07_Touch.l0] at h
  | k + 1 => by
    have ih0 := strandlineref07_Touch.mono_l k
    · intro y0 y1 y2 y3
      unfold strandlineref07_Touch.l0
      repeat' first
      | (with_reducible exact ih0 _ _ _ _)
      | (with_reducible exact LeO.refl _)
      | (with_reducible exact LeO.none _)
      | (with_reducible refine LeO.ite ?_ ?_)
      | (with_reducible refine LeO.bind ?_ (fun _ => ?_))
      | exact ih0 _ _ _ _
      | exact LeO.none _
      | refine LeO.ite ?_ ?_
      | refine LeO.bind ?_ (fun _ => ?_)
theorem strandlineref07_Touch.mono : ∀ a0 a1 k, LeO (strandlineref07_Touch.f k a0 a1) (strandlineref07_Touch.f (k + 1) a0 a1) := by
  intro a0 a1 k
  have ih0 := strandlineref07_Touch.mono_l k
  unfold strandlineref07_Touch.f
  repeat' first
      | (with_reducible exact ih0 _ _ _ _)
      | (with_reducible exact LeO.refl _)
      | (with_reducible exact LeO.none _)
      | (with_reducible refine LeO.ite ?_ ?_)
      | (with_reducible refine LeO.bind ?_ (fun _ => ?_))
      | exact ih0 _ _ _ _
      | exact LeO.none _
      | refine LeO.ite ?_ ?_
      | refine LeO.bind ?_ (fun _ => ?_)
set_option maxHeartbeats 8000000 in
set_option maxRecDepth 100000 in
theorem strandlineref07_Touch.calls (k : Nat) (a0 : Int) (a1 : Int) (r1 : Int) (r2 : Int) (w : World) (h : strandlineref07_Touch.f k a0 a1 = some (r1, r2)) :
    Calls Try.prog 70 #[.int .i64 a0, .int .i64 a1] w fun e w' => e = .returned (.tuple #[.int .i64 r1, .int .i64 r2]) ∧ Drawn0 w w' := by
  have hu23 := Try.underlying23
  have hu37 := Try.underlying37
  have hu61 := Try.underlying61
  have hu66 := Try.underlying66
  have hu79 := Try.underlying79
  have hu116 := Try.underlying116
  have H : ((strandlineref07_Near.f a0).bind fun t117 => (strandlineref07_Touch.l0 k a1 (-1) (-1) t117)) = some (r1, r2) := h
  clear h
  replace H := Option.bind_eq_some_iff.mp H
  obtain ⟨t117, A30, H⟩ := H
  replace H : (strandlineref07_Touch.l0 k a1 (-1) (-1) t117) = some (r1, r2) := H
  have A3 := Aside0.mk A30
  clear A30
  have H' := Aside0.mk H
  clear H
  go_enter Try.func70, Try.ntmps70
  go_wp2_with (first | ((with_reducible refine gate_callee (f := 22) rfl ?_); refine goesL_ (some 10) rfl rfl Try.func22 (by kernel_rfl) rfl #[.int .i64 a0] rfl (by (try simp only [List.map_toArray, List.map_cons, List.map_nil]); first | done | rfl | (simp only [List.length_drop, List.length_take]; rfl)) ?_; (with_reducible refine (strandlineref07_Near.calls a0 t117 _ A3.out).mono ?_); rintro e w' ⟨rfl, ⟨nd, rfl⟩⟩; refine ⟨_, rfl, ?_⟩))
  go_loopg [6, 7, 8] k (fun kq v6 v7 v8 w' => ∃ (x6_1 : Int) (x7_1 : Int) (x8_1 : Int), v6 = .int .i64 x6_1 ∧ v7 = .int .i64 x7_1 ∧ v8 = .int .i64 x8_1 ∧ Aside0 (strandlineref07_Touch.l0 kq a1 x6_1 x7_1 x8_1 = some (r1, r2)) ∧ Aside0 (kq ≤ k) ∧ Drawn0 w w')
  case atStart => exact ⟨((-1)), ((-1)), (t117), (by first | rfl | (simp; done) | (simp [*]; done)), (by first | rfl | (simp; done) | (simp [*]; done)), (by first | rfl | (simp; done) | (simp [*]; done)), H', ⟨Nat.le_refl _⟩, by repeat (first | exact Drawn0.refl _ | apply Drawn0.step)⟩
  case round =>
    clear H'
    try clear c2
    try clear p2
    obtain ⟨x6_1, x7_1, x8_1, rfl, rfl, rfl, HA, HK1, ⟨m1, rfl⟩⟩ := hrel
    cases gk with
    | zero => exact absurd HA.out (by simp [strandlineref07_Touch.l0])
    | succ k1 =>
      have H := HA.out
      clear HA
      simp only [strandlineref07_Touch.l0] at H
      replace H := Option.bind_eq_some_iff.mp H
      obtain ⟨t118, A40, H⟩ := H
      replace H : (if x8_1 < t118 then (if x6_1 < 0 then (strandlineref07_Touch.l0 k1 a1 (wrap64 (Int.tdiv x8_1 52)) (wrap64 (Int.tdiv x8_1 52)) (wrap64 (x8_1 + 1))) else (strandlineref07_Touch.l0 k1 a1 x6_1 (wrap64 (Int.tdiv x8_1 52)) (wrap64 (x8_1 + 1)))) else (if x6_1 < 0 then (some (0, 0)) else (some (x6_1, wrap64 (x7_1 + 1))))) = some (r1, r2) := H
      have A4 := Aside0.mk A40
      clear A40
      by_cases c5 : x8_1 < t118
      · rw [if_pos c5] at H
        have c5b0 : decide (x8_1 < t118) = true := decide_eq_true c5
        clear c5
        by_cases c6 : x6_1 < 0
        · rw [if_pos c6] at H
          have c6b0 : decide (x6_1 < 0) = true := decide_eq_true c6
          clear c6
          have H' := Aside0.mk H
          clear H
          go_wp2_with (first | ((with_reducible refine gate_callee (f := 22) rfl ?_); refine goesL_ (some 13) rfl rfl Try.func22 (by kernel_rfl) rfl #[.int .i64 a1] rfl (by (try simp only [List.map_toArray, List.map_cons, List.map_nil]); first | done | rfl | (simp only [List.length_drop, List.length_take]; rfl)) ?_; (with_reducible refine (strandlineref07_Near.calls a1 t118 _ A4.out).mono ?_); rintro e w' ⟨rfl, ⟨nd, rfl⟩⟩; refine ⟨_, rfl, ?_⟩))
          go_roundg k1
          case measure => have := HK1.out; omega
          case rel => exact ⟨(wrap64 (Int.tdiv x8_1 52)), (wrap64 (Int.tdiv x8_1 52)), (wrap64 (x8_1 + 1)), (by first | rfl | (simp; done) | (simp [*]; done)), (by first | rfl | (simp; done) | (simp [*]; done)), (by first | rfl | (simp; done) | (simp [*]; done)), H', ⟨by have := HK1.out; omega⟩, by repeat (first | exact Drawn0.refl _ | apply Drawn0.step)⟩
        · rw [if_neg c6] at H
          have c6b0 : decide (x6_1 < 0) = false := decide_eq_false c6
          clear c6
          have H' := Aside0.mk H
          clear H
          go_wp2_with (first | ((with_reducible refine gate_callee (f := 22) rfl ?_); refine goesL_ (some 13) rfl rfl Try.func22 (by kernel_rfl) rfl #[.int .i64 a1] rfl (by (try simp only [List.map_toArray, List.map_cons, List.map_nil]); first | done | rfl | (simp only [List.length_drop, List.length_take]; rfl)) ?_; (with_reducible refine (strandlineref07_Near.calls a1 t118 _ A4.out).mono ?_); rintro e w' ⟨rfl, ⟨nd, rfl⟩⟩; refine ⟨_, rfl, ?_⟩))
          go_roundg k1
          case measure => have := HK1.out; omega
          case rel => exact ⟨(x6_1), (wrap64 (Int.tdiv x8_1 52)), (wrap64 (x8_1 + 1)), (by first | rfl | (simp; done) | (simp [*]; done)), (by first | rfl | (simp; done) | (simp [*]; done)), (by first | rfl | (simp; done) | (simp [*]; done)), H', ⟨by have := HK1.out; omega⟩, by repeat (first | exact Drawn0.refl _ | apply Drawn0.step)⟩
      · rw [if_neg c5] at H
        have c5b0 : decide (x8_1 < t118) = false := decide_eq_false c5
        clear c5
        by_cases c7 : x6_1 < 0
        · rw [if_pos c7] at H
          have c7b0 : decide (x6_1 < 0) = true := decide_eq_true c7
          clear c7
          simp only [Option.some.injEq, Prod.mk.injEq] at H
          obtain ⟨rfl, rfl⟩ := H
          go_wp2_with (first | ((with_reducible refine gate_callee (f := 22) rfl ?_); refine goesL_ (some 13) rfl rfl Try.func22 (by kernel_rfl) rfl #[.int .i64 a1] rfl (by (try simp only [List.map_toArray, List.map_cons, List.map_nil]); first | done | rfl | (simp only [List.length_drop, List.length_take]; rfl)) ?_; (with_reducible refine (strandlineref07_Near.calls a1 t118 _ A4.out).mono ?_); rintro e w' ⟨rfl, ⟨nd, rfl⟩⟩; refine ⟨_, rfl, ?_⟩))
          go_ret2
          exact ⟨by first | rfl | (simp; done) | (simp [*]; done), by repeat (first | exact Drawn0.refl _ | apply Drawn0.step)⟩
        · rw [if_neg c7] at H
          have c7b0 : decide (x6_1 < 0) = false := decide_eq_false c7
          clear c7
          simp only [Option.some.injEq, Prod.mk.injEq] at H
          obtain ⟨rfl, rfl⟩ := H
          go_wp2_with (first | ((with_reducible refine gate_callee (f := 22) rfl ?_); refine goesL_ (some 13) rfl rfl Try.func22 (by kernel_rfl) rfl #[.int .i64 a1] rfl (by (try simp only [List.map_toArray, List.map_cons, List.map_nil]); first | done | rfl | (simp only [List.length_drop, List.length_take]; rfl)) ?_; (with_reducible refine (strandlineref07_Near.calls a1 t118 _ A4.out).mono ?_); rintro e w' ⟨rfl, ⟨nd, rfl⟩⟩; refine ⟨_, rfl, ?_⟩))
          go_ret2
          exact ⟨by first | rfl | (simp; done) | (simp [*]; done), by repeat (first | exact Drawn0.refl _ | apply Drawn0.step)⟩


end Go.Proofs.Ythlpimojojofbaa.F
