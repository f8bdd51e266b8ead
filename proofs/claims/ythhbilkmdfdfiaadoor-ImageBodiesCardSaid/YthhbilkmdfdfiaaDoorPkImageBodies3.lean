/- Texts of mine put together: FkStrandlineref03, CrcMath, FragM, FkCut, FkSpan, Hand. -/
import Derived.Test.YthhbilkmdfdfiaaDoorPkImageBodies1
import Derived.Test.YthhbilkmdfdfiaaDoorPkImageBodies2
section
/- Functions of strandlineref03: what each answers, as a Lean function, and that the call answers just this. Turned out of what the kit's print told for this seat. -/
namespace Go.Proofs.YthhbilkmdfdfiaaDoor.F
open Go.RowKit Go.Proofs.YthhbilkmdfdfiaaDoorW.PrintWords Go.Proofs.YthhbilkmdfdfiaaDoorW.PrintLast Go.Proofs.YthhbilkmdfdfiaaDoorW.PrintMore
attribute [local go_sem high] eqA120
attribute [local go_sem] field120_0
attribute [local go_sem] field120_1
attribute [local go_sem] max2_int min2_int max_two min_two max_three min_three max_four min_four
set_option linter.unusedVariables false
set_option linter.unusedSimpArgs false

/-! ### strandlineref03_Step: function 53 -/
def strandlineref03_Step.f (a0 : Int) : Option (Int) := if (Int.tmod a0 2) = 1 then (some (Go.bits .xor .u32 ((Int.tdiv a0 2) % 4294967296) 2197175160)) else (some ((Int.tdiv a0 2) % 4294967296))
set_option maxHeartbeats 8000000 in
set_option maxRecDepth 100000 in
theorem strandlineref03_Step.calls (a0 : Int) (r : Int) (w : World) (h : strandlineref03_Step.f a0 = some r) :
    Calls Tryd.prog 53 #[.int .u32 a0] w fun e w' => e = .returned (.int .u32 r) ∧ Drawn0 w w' := by
  have hu37 := Tryd.underlying37
  have hu99 := Tryd.underlying99
  have hu120 := Tryd.underlying120
  have H : (if (Int.tmod a0 2) = 1 then (some (Go.bits .xor .u32 ((Int.tdiv a0 2) % 4294967296) 2197175160)) else (some ((Int.tdiv a0 2) % 4294967296))) = some r := h
  clear h
  by_cases c2 : (Int.tmod a0 2) = 1
  · rw [if_pos c2] at H
    have c2b0 : ((Int.tmod a0 2) == 1) = true := beq_iff_eq.mpr c2
    have c2b1 : ((Int.tmod a0 2) != 1) = false := bne_eq_false_iff_eq.mpr c2
    clear c2
    obtain rfl := Option.some.inj H
    go_enter Tryd.func53, Tryd.ntmps53
    go_wp2
    go_ret
    exact ⟨by first | rfl | (simp; done) | (simp [*]; done), by repeat (first | exact Drawn0.refl _ | apply Drawn0.step)⟩
  · rw [if_neg c2] at H
    have c2b0 : ((Int.tmod a0 2) == 1) = false := beq_eq_false_iff_ne.mpr c2
    have c2b1 : ((Int.tmod a0 2) != 1) = true := bne_iff_ne.mpr c2
    obtain rfl := Option.some.inj H
    go_enter Tryd.func53, Tryd.ntmps53
    go_wp2
    go_ret
    exact ⟨by first | rfl | (simp; done) | (simp [*]; done), by repeat (first | exact Drawn0.refl _ | apply Drawn0.step)⟩

/-! ### strandlineref03_More: function 19 -/
mutual
def strandlineref03_More.l0 : Nat → List Int → Int → Int → Option (Int)
  | 0, _, _, _ => none
  | k + 1, x1, x5, x6 => if x6 < (x1.length : Int) then (if 0 ≤ x6 then (strandlineref03_More.l1 k x1 (Go.bits .xor .u32 x5 ((rd x1 x6) % 4294967296)) x6 0) else (none)) else (some ((4294967295 - x5) % 4294967296))
def strandlineref03_More.l1 : Nat → List Int → Int → Int → Int → Option (Int)
  | 0, _, _, _, _ => none
  | k + 1, x1, x5, x6, x7 => if x7 < 8 then ((strandlineref03_Step.f x5).bind fun t102 => (strandlineref03_More.l1 k x1 t102 x6 (wrap64 (x7 + 1)))) else (strandlineref03_More.l0 k x1 x5 (wrap64 (x6 + 1)))
end
def strandlineref03_More.f (k : Nat) (a0 : Int) (l1 : List Int) : Option (Int) := strandlineref03_More.l0 k l1 ((4294967295 - a0) % 4294967296) 0
theorem strandlineref03_More.mono_l : ∀ k, (∀ y0 y1 y2, LeO (strandlineref03_More.l0 k y0 y1 y2) (strandlineref03_More.l0 (k + 1) y0 y1 y2)) ∧ (∀ y0 y1 y2 y3, LeO (strandlineref03_More.l1 k y0 y1 y2 y3) (strandlineref03_More.l1 (k + 1) y0 y1 y2 y3))
  | 0 => ⟨fun _ _ _ r h => by simp [strandlineref03_More.l0] at h, fun _ _ _ _ r h => by simp [strandlineref03_More.l1] at h⟩
  | k + 1 => by
    obtain ⟨ih0, ih1⟩ := strandlineref03_More.mono_l k
    refine ⟨?_, ?_⟩
    · intro y0 y1 y2
      unfold strandlineref03_More.l0
      repeat' first
      | (with_reducible exact ih0 _ _ _)
      | (with_reducible exact ih1 _ _ _ _)
      | (with_reducible exact LeO.refl _)
      | (with_reducible exact LeO.none _)
      | (with_reducible refine LeO.ite ?_ ?_)
      | (with_reducible refine LeO.bind ?_ (fun _ => ?_))
      | exact ih0 _ _ _
      | exact ih1 _ _ _ _
      | exact LeO.none _
      | refine LeO.ite ?_ ?_
      | refine LeO.bind ?_ (fun _ => ?_)
    · intro y0 y1 y2 y3
      unfold strandlineref03_More.l1
      repeat' first
      | (with_reducible exact ih0 _ _ _)
      | (with_reducible exact ih1 _ _ _ _)
      | (with_reducible exact LeO.refl _)
      | (with_reducible exact LeO.none _)
      | (with_reducible refine LeO.ite ?_ ?_)
      | (with_reducible refine LeO.bind ?_ (fun _ => ?_))
      | exact ih0 _ _ _
      | exact ih1 _ _ _ _
      | exact LeO.none _
      | refine LeO.ite ?_ ?_
      | refine LeO.bind ?_ (fun _ => ?_)
theorem strandlineref03_More.mono : ∀ a0 a1 k, LeO (strandlineref03_More.f k a0 a1) (strandlineref03_More.f (k + 1) a0 a1) := by
  intro a0 a1 k
  obtain ⟨ih0, ih1⟩ := strandlineref03_More.mono_l k
  unfold strandlineref03_More.f
  repeat' first
      | (with_reducible exact ih0 _ _ _)
      | (with_reducible exact ih1 _ _ _ _)
      | (with_reducible exact LeO.refl _)
      | (with_reducible exact LeO.none _)
      | (with_reducible refine LeO.ite ?_ ?_)
      | (with_reducible refine LeO.bind ?_ (fun _ => ?_))
      | exact ih0 _ _ _
      | exact ih1 _ _ _ _
      | exact LeO.none _
      | refine LeO.ite ?_ ?_
      | refine LeO.bind ?_ (fun _ => ?_)
set_option maxHeartbeats 8000000 in
set_option maxRecDepth 100000 in
theorem strandlineref03_More.calls (k : Nat) (a0 : Int) (A1 : Option Addr) (c1 : Nat) (l1 : List Int) (r : Int) (w : World) (hr1 : Kd.C (Kd.int .u8) w A1 l1.length l1) (hc1 : l1.length ≤ c1) (h : strandlineref03_More.f k a0 l1 = some r) :
    Calls Tryd.prog 19 #[.int .u32 a0, .slice A1 l1.length c1] w fun e w' => e = .returned (.int .u32 r) ∧ Drawn0 w w' := by
  have hu37 := Tryd.underlying37
  have hu99 := Tryd.underlying99
  have hu120 := Tryd.underlying120
  have HR1 := Aside0.mk hr1
  have HC1 := Aside0.mk hc1
  clear hr1 hc1
  have H : (strandlineref03_More.l0 k l1 ((4294967295 - a0) % 4294967296) 0) = some r := h
  clear h
  have H' := Aside0.mk H
  clear H
  go_enter Tryd.func19, Tryd.ntmps19
  go_wp2
  go_loopg [5, 6] k (fun kq v5 v6 w' => ∃ (x5_1 : Int) (x6_1 : Int), v5 = .int .u32 x5_1 ∧ v6 = .int .i64 x6_1 ∧ Aside0 (strandlineref03_More.l0 kq l1 x5_1 x6_1 = some r) ∧ Aside0 (kq ≤ k) ∧ Drawn0 w w')
  case atStart => exact ⟨((4294967295 - a0) % 4294967296), (0), (by first | rfl | (simp; done) | (simp [*]; done)), (by first | rfl | (simp; done) | (simp [*]; done)), H', ⟨Nat.le_refl _⟩, by repeat (first | exact Drawn0.refl _ | apply Drawn0.step)⟩
  case round =>
    clear H'
    try clear c1
    try clear p2
    obtain ⟨x5_1, x6_1, rfl, rfl, HA, HK1, ⟨m1, rfl⟩⟩ := hrel
    cases gk with
    | zero => exact absurd HA.out (by simp [strandlineref03_More.l0])
    | succ k1 =>
      have H := HA.out
      clear HA
      simp only [strandlineref03_More.l0] at H
      by_cases c3 : x6_1 < (l1.length : Int)
      · rw [if_pos c3] at H
        have c3b0 : decide (x6_1 < (l1.length : Int)) = true := decide_eq_true c3
        clear c3
        by_cases c4 : 0 ≤ x6_1
        · rw [if_pos c4] at H
          have c4b0 : decide (0 ≤ x6_1) = true := decide_eq_true c4
          clear c4
          have H' := Aside0.mk H
          clear H
          have p101 : 0 ≤ (x6_1 : Int) := of_decide_eq_true (by first | (with_reducible assumption) | assumption)
          have q101 : x6_1 < (l1.length : Int) := of_decide_eq_true (by first | (with_reducible assumption) | assumption)
          obtain ⟨ad101, e101, hx101_0⟩ := Kd.at_int HR1.out x6_1 p101 q101
          cases e101
          replace p101 := eq_true p101
          replace q101 := eq_true q101
          go_wp2
          go_loopg [5, 7] k1 (fun kq v5 v7 w' => ∃ (x5_2 : Int) (x7_2 : Int), v5 = .int .u32 x5_2 ∧ v7 = .int .i64 x7_2 ∧ Aside0 (strandlineref03_More.l1 kq l1 x5_2 x6_1 x7_2 = some r) ∧ Aside0 (kq ≤ k1) ∧ Drawn0 w w')
          case atStart => exact ⟨(Go.bits .xor .u32 x5_1 ((rd l1 x6_1) % 4294967296)), (0), (by first | rfl | (simp; done) | (simp [*]; done)), (by first | rfl | (simp; done) | (simp [*]; done)), H', ⟨Nat.le_refl _⟩, by repeat (first | exact Drawn0.refl _ | apply Drawn0.step)⟩
          case round =>
            clear H'
            try clear c1
            try clear p1
            try clear q1
            try clear hx1
            try clear p2
            try clear c3
            try clear c3b0
            try clear c4
            try clear c4b0
            try clear hx101_0
            try clear p101
            try clear p2
            try clear q101
            obtain ⟨x5_2, x7_2, rfl, rfl, HA, HK2, ⟨m2, rfl⟩⟩ := hrel
            cases gk with
            | zero => exact absurd HA.out (by simp [strandlineref03_More.l1])
            | succ k2 =>
              have H := HA.out
              clear HA
              simp only [strandlineref03_More.l1] at H
              by_cases c5 : x7_2 < 8
              · rw [if_pos c5] at H
                have c5b0 : decide (x7_2 < 8) = true := decide_eq_true c5
                clear c5
                replace H := Option.bind_eq_some_iff.mp H
                obtain ⟨t102, A60, H⟩ := H
                replace H : (strandlineref03_More.l1 k2 l1 t102 x6_1 (wrap64 (x7_2 + 1))) = some r := H
                have A6 := Aside0.mk A60
                clear A60
                have H' := Aside0.mk H
                clear H
                go_wp2_with (first | ((with_reducible refine gate_callee (f := 53) rfl ?_); refine goesL_ (some 28) rfl rfl Tryd.func53 (by kernel_rfl) rfl #[.int .u32 x5_2] rfl (by (try simp only [List.map_toArray, List.map_cons, List.map_nil]); first | done | rfl | (simp only [List.length_drop, List.length_take]; rfl)) ?_; (with_reducible refine (strandlineref03_Step.calls x5_2 t102 _ A6.out).mono ?_); rintro e w' ⟨rfl, ⟨nd, rfl⟩⟩; refine ⟨_, rfl, ?_⟩))
                go_roundg k2
                case measure => have := HK1.out; have := HK2.out; omega
                case rel => exact ⟨(t102), (wrap64 (x7_2 + 1)), (by first | rfl | (simp; done) | (simp [*]; done)), (by first | rfl | (simp; done) | (simp [*]; done)), H', ⟨by have := HK1.out; have := HK2.out; omega⟩, by repeat (first | exact Drawn0.refl _ | apply Drawn0.step)⟩
              · rw [if_neg c5] at H
                have c5b0 : decide (x7_2 < 8) = false := decide_eq_false c5
                clear c5
                have H' := Aside0.mk H
                clear H
                go_wp2
                go_roundg k2
                case measure => have := HK1.out; have := HK2.out; omega
                case rel => exact ⟨(x5_2), (wrap64 (x6_1 + 1)), (by first | rfl | (simp; done) | (simp [*]; done)), (by first | rfl | (simp; done) | (simp [*]; done)), H', ⟨by have := HK1.out; have := HK2.out; omega⟩, by repeat (first | exact Drawn0.refl _ | apply Drawn0.step)⟩
        · rw [if_neg c4] at H
          exact absurd H (by simp)
      · rw [if_neg c3] at H
        have c3b0 : decide (x6_1 < (l1.length : Int)) = false := decide_eq_false c3
        clear c3
        obtain rfl := Option.some.inj H
        go_wp2
        go_ret
        exact ⟨by first | rfl | (simp; done) | (simp [*]; done), by repeat (first | exact Drawn0.refl _ | apply Drawn0.step)⟩

/-! ### strandlineref03_Of: function 17 -/
def strandlineref03_Of.f (k : Nat) (l0 : List Int) : Option (Int) := (strandlineref03_More.f k 0 l0).bind fun t103 => (some t103)
theorem strandlineref03_Of.mono : ∀ a0 k, LeO (strandlineref03_Of.f k a0) (strandlineref03_Of.f (k + 1) a0) := by
  intro a0 k
  unfold strandlineref03_Of.f
  repeat' first
      | (with_reducible exact strandlineref03_More.mono _ _ _)
      | (with_reducible exact LeO.refl _)
      | (with_reducible exact LeO.none _)
      | (with_reducible refine LeO.ite ?_ ?_)
      | (with_reducible refine LeO.bind ?_ (fun _ => ?_))
      | exact strandlineref03_More.mono _ _ _
      | exact LeO.none _
      | refine LeO.ite ?_ ?_
      | refine LeO.bind ?_ (fun _ => ?_)
set_option maxHeartbeats 8000000 in
set_option maxRecDepth 100000 in
theorem strandlineref03_Of.calls (k : Nat) (A0 : Option Addr) (c0 : Nat) (l0 : List Int) (r : Int) (w : World) (hr0 : Kd.C (Kd.int .u8) w A0 l0.length l0) (hc0 : l0.length ≤ c0) (h : strandlineref03_Of.f k l0 = some r) :
    Calls Tryd.prog 17 #[.slice A0 l0.length c0] w fun e w' => e = .returned (.int .u32 r) ∧ Drawn0 w w' := by
  have hu37 := Tryd.underlying37
  have hu99 := Tryd.underlying99
  have hu120 := Tryd.underlying120
  have HR0 := Aside0.mk hr0
  have HC0 := Aside0.mk hc0
  clear hr0 hc0
  have H : ((strandlineref03_More.f k 0 l0).bind fun t103 => (some t103)) = some r := h
  clear h
  replace H := Option.bind_eq_some_iff.mp H
  obtain ⟨t103, A20, H⟩ := H
  replace H : (some t103) = some r := H
  have A2 := Aside0.mk A20
  clear A20
  obtain rfl := Option.some.inj H
  go_enter Tryd.func17, Tryd.ntmps17
  go_wp2_with (first | ((with_reducible refine gate_callee (f := 19) rfl ?_); refine goesL_ (some 4) rfl rfl Tryd.func19 (by kernel_rfl) rfl #[.int .u32 0, .slice A0 l0.length c0] rfl (by (try simp only [List.map_toArray, List.map_cons, List.map_nil]); first | done | rfl | (simp only [List.length_drop, List.length_take]; rfl)) ?_; (with_reducible refine (strandlineref03_More.calls k 0 _ _ l0 t103 _ ?side1 ?side2 A2.out).mono ?_); (case side1 => repeat (first | exact HR0.out | (with_reducible refine Kd.C_alloc ?_ _) | (with_reducible refine Kd.C_drewN ?_ _) | (with_reducible refine Kd.C_drew ?_))); (case side2 => exact HC0.out); rintro e w' ⟨rfl, ⟨nd, rfl⟩⟩; refine ⟨_, rfl, ?_⟩))
  go_ret
  exact ⟨by first | rfl | (simp; done) | (simp [*]; done), by repeat (first | exact Drawn0.refl _ | apply Drawn0.step)⟩

/-! ### strandlineref03_Mask: function 21 -/
def strandlineref03_Mask.f (a0 : Int) : Option (Int) := some ((((((Int.tdiv a0 32768) % 4294967296) + (((Int.tmod a0 32768) * 131072) % 4294967296)) % 4294967296) + 2726488792) % 4294967296)
set_option maxHeartbeats 8000000 in
set_option maxRecDepth 100000 in
theorem strandlineref03_Mask.calls (a0 : Int) (r : Int) (w : World) (h : strandlineref03_Mask.f a0 = some r) :
    Calls Tryd.prog 21 #[.int .u32 a0] w fun e w' => e = .returned (.int .u32 r) ∧ Drawn0 w w' := by
  have hu37 := Tryd.underlying37
  have hu99 := Tryd.underlying99
  have hu120 := Tryd.underlying120
  have H : (some ((((((Int.tdiv a0 32768) % 4294967296) + (((Int.tmod a0 32768) * 131072) % 4294967296)) % 4294967296) + 2726488792) % 4294967296)) = some r := h
  clear h
  obtain rfl := Option.some.inj H
  go_enter Tryd.func21, Tryd.ntmps21
  go_wp2
  go_ret
  exact ⟨by first | rfl | (simp; done) | (simp [*]; done), by repeat (first | exact Drawn0.refl _ | apply Drawn0.step)⟩

/-! ### strandlineref03_Shift: function 24 -/
def strandlineref03_Shift.l0 : Nat → Int → Int → Int → Option (Int)
  | 0, _, _, _ => none
  | k + 1, x0, x1, x5 => if x5 < (wrap64 (8 * x1)) then ((strandlineref03_Step.f x0).bind fun t107 => (strandlineref03_Shift.l0 k t107 x1 (wrap64 (x5 + 1)))) else (some x0)
def strandlineref03_Shift.f (k : Nat) (a0 : Int) (a1 : Int) : Option (Int) := strandlineref03_Shift.l0 k a0 a1 0
theorem strandlineref03_Shift.mono_l : ∀ k, (∀ y0 y1 y2, LeO (strandlineref03_Shift.l0 k y0 y1 y2) (strandlineref03_Shift.l0 (k + 1) y0 y1 y2))
  | 0 => fun _ _ _ r h => by simp [strandlineref03_Shift.l0] at h
  | k + 1 => by
    have ih0 := strandlineref03_Shift.mono_l k
    · intro y0 y1 y2
      unfold strandlineref03_Shift.l0
      repeat' first
      | (with_reducible exact ih0 _ _ _)
      | (with_reducible exact LeO.refl _)
      | (with_reducible exact LeO.none _)
      | (with_reducible refine LeO.ite ?_ ?_)
      | (with_reducible refine LeO.bind ?_ (fun _ => ?_))
      | exact ih0 _ _ _
      | exact LeO.none _
      | refine LeO.ite ?_ ?_
      | refine LeO.bind ?_ (fun _ => ?_)
theorem strandlineref03_Shift.mono : ∀ a0 a1 k, LeO (strandlineref03_Shift.f k a0 a1) (strandlineref03_Shift.f (k + 1) a0 a1) := by
  intro a0 a1 k
  have ih0 := strandlineref03_Shift.mono_l k
  unfold strandlineref03_Shift.f
  repeat' first
      | (with_reducible exact ih0 _ _ _)
      | (with_reducible exact LeO.refl _)
      | (with_reducible exact LeO.none _)
      | (with_reducible refine LeO.ite ?_ ?_)
      | (with_reducible refine LeO.bind ?_ (fun _ => ?_))
      | exact ih0 _ _ _
      | exact LeO.none _
      | refine LeO.ite ?_ ?_
      | refine LeO.bind ?_ (fun _ => ?_)
set_option maxHeartbeats 8000000 in
set_option maxRecDepth 100000 in
theorem strandlineref03_Shift.calls (k : Nat) (a0 : Int) (a1 : Int) (r : Int) (w : World) (h : strandlineref03_Shift.f k a0 a1 = some r) :
    Calls Tryd.prog 24 #[.int .u32 a0, .int .i64 a1] w fun e w' => e = .returned (.int .u32 r) ∧ Drawn0 w w' := by
  have hu37 := Tryd.underlying37
  have hu99 := Tryd.underlying99
  have hu120 := Tryd.underlying120
  have H : (strandlineref03_Shift.l0 k a0 a1 0) = some r := h
  clear h
  have H' := Aside0.mk H
  clear H
  go_enter Tryd.func24, Tryd.ntmps24
  go_wp2
  go_loopg [0, 5] k (fun kq v0 v5 w' => ∃ (x0_1 : Int) (x5_1 : Int), v0 = .int .u32 x0_1 ∧ v5 = .int .i64 x5_1 ∧ Aside0 (strandlineref03_Shift.l0 kq x0_1 a1 x5_1 = some r) ∧ Aside0 (kq ≤ k) ∧ Drawn0 w w')
  case atStart => exact ⟨(a0), (0), (by first | rfl | (simp; done) | (simp [*]; done)), (by first | rfl | (simp; done) | (simp [*]; done)), H', ⟨Nat.le_refl _⟩, by repeat (first | exact Drawn0.refl _ | apply Drawn0.step)⟩
  case round =>
    clear H'
    try clear c2
    try clear p2
    obtain ⟨x0_1, x5_1, rfl, rfl, HA, HK1, ⟨m1, rfl⟩⟩ := hrel
    cases gk with
    | zero => exact absurd HA.out (by simp [strandlineref03_Shift.l0])
    | succ k1 =>
      have H := HA.out
      clear HA
      simp only [strandlineref03_Shift.l0] at H
      by_cases c3 : x5_1 < (wrap64 (8 * a1))
      · rw [if_pos c3] at H
        have c3b0 : decide (x5_1 < (wrap64 (8 * a1))) = true := decide_eq_true c3
        clear c3
        replace H := Option.bind_eq_some_iff.mp H
        obtain ⟨t107, A40, H⟩ := H
        replace H : (strandlineref03_Shift.l0 k1 t107 a1 (wrap64 (x5_1 + 1))) = some r := H
        have A4 := Aside0.mk A40
        clear A40
        have H' := Aside0.mk H
        clear H
        go_wp2_with (first | ((with_reducible refine gate_callee (f := 53) rfl ?_); refine goesL_ (some 13) rfl rfl Tryd.func53 (by kernel_rfl) rfl #[.int .u32 x0_1] rfl (by (try simp only [List.map_toArray, List.map_cons, List.map_nil]); first | done | rfl | (simp only [List.length_drop, List.length_take]; rfl)) ?_; (with_reducible refine (strandlineref03_Step.calls x0_1 t107 _ A4.out).mono ?_); rintro e w' ⟨rfl, ⟨nd, rfl⟩⟩; refine ⟨_, rfl, ?_⟩))
        go_roundg k1
        case measure => have := HK1.out; omega
        case rel => exact ⟨(t107), (wrap64 (x5_1 + 1)), (by first | rfl | (simp; done) | (simp [*]; done)), (by first | rfl | (simp; done) | (simp [*]; done)), H', ⟨by have := HK1.out; omega⟩, by repeat (first | exact Drawn0.refl _ | apply Drawn0.step)⟩
      · rw [if_neg c3] at H
        have c3b0 : decide (x5_1 < (wrap64 (8 * a1))) = false := decide_eq_false c3
        clear c3
        obtain rfl := Option.some.inj H
        go_wp2
        go_ret
        exact ⟨by first | rfl | (simp; done) | (simp [*]; done), by repeat (first | exact Drawn0.refl _ | apply Drawn0.step)⟩

-- NOT PRINTED: function 25 (crc_Join)

-- NOT PRINTED: function 5 (strandlinelaw03_CrcJoins)


end Go.Proofs.YthhbilkmdfdfiaaDoor.F
end

section
/- crc in plain numbers: a step, eight steps a byte; that four steps by the table are four steps; the reference's sum; the mask. -/
set_option linter.unusedVariables false
set_option linter.unusedSimpArgs false
namespace Go.Proofs.YthhbilkmdfdfiaaDoor.CrcMath
open Go.RowKit Go.Proofs.YthhbilkmdfdfiaaDoor.F Go.Proofs.YthhbilkmdfdfiaaDoorW.PrintWords Go.Proofs.YthhbilkmdfdfiaaDoorW.PrintLast Go.Proofs.YthhbilkmdfdfiaaDoorW.PrintMore Go.Proofs.YthhbilkmdfdfiaaDoor.Plain
theorem xor32_nat (a b : Nat) (ha : a < 4294967296) (hb : b < 4294967296) : bits .xor .u32 a b = ((a ^^^ b : Nat) : Int) := by
  rw [xor32, BitVec.ofInt_natCast, BitVec.ofInt_natCast, BitVec.toNat_xor, BitVec.toNat_ofNat, BitVec.toNat_ofNat, Nat.mod_eq_of_lt (by omega), Nat.mod_eq_of_lt (by omega)]
theorem xor_lt32 {a b : Nat} (ha : a < 4294967296) (hb : b < 4294967296) : a ^^^ b < 4294967296 := Nat.xor_lt_two_pow (n := 32) ha hb
abbrev P : Nat := 2197175160
/-- one step -/
def stp (n : Nat) : Nat := if n % 2 = 1 then (n / 2) ^^^ P else n / 2
theorem stp_lt {n : Nat} (h : n < 4294967296) : stp n < 4294967296 := by
  unfold stp
  split
  · exact xor_lt32 (by omega) (by decide)
  · omega
theorem xor_mod2 (a b : Nat) : (a ^^^ b) % 2 = (a % 2 + b % 2) % 2 := by
  have h := Nat.xor_mod_two_pow (a := a) (b := b) (n := 1)
  rw [show (2 : Nat) ^ 1 = 2 by decide] at h
  rw [h]
  rcases Nat.mod_two_eq_zero_or_one a with h1 | h1 <;> rcases Nat.mod_two_eq_zero_or_one b with h2 | h2 <;> rw [h1, h2] <;> decide
theorem stp_xor (a b : Nat) : stp (a ^^^ b) = stp a ^^^ stp b := by
  have hp : P ^^^ P = 0 := Nat.xor_self P
  unfold stp
  rw [xor_mod2, Nat.xor_div_two]
  rcases Nat.mod_two_eq_zero_or_one a with h1 | h1 <;> rcases Nat.mod_two_eq_zero_or_one b with h2 | h2 <;> rw [h1, h2]
  · rfl
  · show (a / 2 ^^^ b / 2) ^^^ P = a / 2 ^^^ (b / 2 ^^^ P)
    rw [Nat.xor_assoc]
  · show (a / 2 ^^^ b / 2) ^^^ P = (a / 2 ^^^ P) ^^^ b / 2
    rw [Nat.xor_assoc, Nat.xor_assoc, Nat.xor_comm P]
  · show a / 2 ^^^ b / 2 = (a / 2 ^^^ P) ^^^ (b / 2 ^^^ P)
    rw [Nat.xor_assoc, Nat.xor_comm (b / 2) P, ← Nat.xor_assoc P, hp, Nat.zero_xor]
theorem stp_even (q : Nat) : stp (2 * q) = q := by unfold stp; rw [if_neg (by omega)]; omega
def itr : Nat → Nat → Nat
  | 0, n => n
  | r + 1, n => itr r (stp n)
theorem itr_xor (r : Nat) : ∀ a b : Nat, itr r (a ^^^ b) = itr r a ^^^ itr r b := by
  induction r with
  | zero => intro a b; rfl
  | succ r ih => intro a b; show itr r (stp (a ^^^ b)) = itr r (stp a) ^^^ itr r (stp b); rw [stp_xor, ih]
theorem itr_lt (r : Nat) : ∀ {n : Nat}, n < 4294967296 → itr r n < 4294967296 := by
  induction r with
  | zero => intro n h; exact h
  | succ r ih => intro n h; exact ih (stp_lt h)
theorem itr_add (r s : Nat) : ∀ n : Nat, itr (r + s) n = itr s (itr r n) := by
  induction r with
  | zero => intro n; rw [Nat.zero_add]; rfl
  | succ r ih => intro n; rw [show r + 1 + s = (r + s) + 1 by omega]; exact ih (stp n)
theorem itr_shift (r : Nat) : ∀ q : Nat, itr r (2 ^ r * q) = q := by
  induction r with
  | zero => intro q; show 2 ^ 0 * q = q; omega
  | succ r ih =>
    intro q
    show itr r (stp (2 ^ (r + 1) * q)) = q
    rw [show 2 ^ (r + 1) * q = 2 * (2 ^ r * q) by rw [Nat.pow_succ, Nat.mul_comm (2 ^ r) 2, Nat.mul_assoc], stp_even, ih]
theorem split_xor (n r : Nat) : 2 ^ r * (n / 2 ^ r) ^^^ n % 2 ^ r = n := by
  have h1 : n % 2 ^ r < 2 ^ r := Nat.mod_lt _ (Nat.two_pow_pos r)
  apply Nat.eq_of_testBit_eq
  intro i
  rw [Nat.testBit_xor, Nat.testBit_two_pow_mul, Nat.testBit_mod_two_pow, Nat.testBit_div_two_pow]
  by_cases h : i < r
  · have : ¬ i ≥ r := by omega
    simp [h, this]
  · have h2 : i ≥ r := by omega
    simp [h, h2, show i - r + r = i by omega]
theorem half_itr : ∀ i : Nat, i < 16 → halfL.getD i 0 = ((itr 4 i : Nat) : Int) := by decide +kernel
theorem four_nat {n : Nat} (h : n < 4294967296) : fourI (n : Int) = ((itr 4 n : Nat) : Int) := by
  unfold fourI
  have e1 : ((n : Int) % 16).toNat = n % 16 := by omega
  have e2 : (n : Int) / 16 = ((n / 16 : Nat) : Int) := by omega
  have hl : n % 16 < 16 := Nat.mod_lt _ (by decide)
  rw [e1, e2, half_itr _ hl, xor32_nat _ _ (itr_lt 4 (by omega)) (by omega)]
  congr 1
  have h3 := split_xor n 4
  have h4 : itr 4 n = itr 4 (2 ^ 4 * (n / 2 ^ 4)) ^^^ itr 4 (n % 2 ^ 4) := by rw [← itr_xor, h3]
  rw [h4, itr_shift, Nat.xor_comm]
theorem stepC_nat {n c : Nat} (h : n < 4294967296) (hc : c < 256) : stepC (n : Int) (c : Int) = ((itr 8 (n ^^^ c) : Nat) : Int) := by
  unfold stepC
  have hx := xor_lt32 h (show c < 4294967296 by omega)
  rw [xor32_nat _ _ h (by omega), four_nat hx, four_nat (itr_lt 4 hx), ← itr_add]
/-- the sum's state behind bytes -/
def sums (b : List Int) (n : Nat) : Nat := b.foldl (fun n c => itr 8 (n ^^^ c.toNat)) n
theorem fold_nat (b : List Int) (hb : ∀ c ∈ b, 0 ≤ c ∧ c ≤ 255) : ∀ {n : Nat}, n < 4294967296 → b.foldl stepC (n : Int) = ((sums b n : Nat) : Int) := by
  induction b with
  | nil => intro n h; rfl
  | cons c b ih =>
    intro n h
    have hc := hb c (List.mem_cons_self ..)
    have hlt := itr_lt 8 (xor_lt32 h (show c.toNat < 4294967296 by omega))
    show b.foldl stepC (stepC n c) = ((sums b (itr 8 (n ^^^ c.toNat)) : Nat) : Int)
    have e : stepC (n : Int) c = ((itr 8 (n ^^^ c.toNat) : Nat) : Int) := by
      have := stepC_nat (n := n) (c := c.toNat) h (by omega)
      rwa [Int.toNat_of_nonneg hc.1] at this
    rw [e]
    exact ih (fun x hx => hb x (List.mem_cons_of_mem _ hx)) hlt
theorem moreI_nat {s : Nat} (hs : s < 4294967296) (b : List Int) (hb : ∀ c ∈ b, 0 ≤ c ∧ c ≤ 255) : moreI s b = 4294967295 - ((sums b (4294967295 - s) : Nat) : Int) := by
  unfold moreI
  rw [show (4294967295 : Int) - (s : Int) = ((4294967295 - s : Nat) : Int) by omega, fold_nat b hb (by omega)]
/-! the reference -/
theorem rstep {n : Nat} (h : n < 4294967296) : strandlineref03_Step.f (n : Int) = some ((stp n : Nat) : Int) := by
  unfold strandlineref03_Step.f stp
  rw [tm (by omega), td (by omega)]
  have e2 : (n : Int) / 2 % 4294967296 = ((n / 2 : Nat) : Int) := by omega
  by_cases c : n % 2 = 1
  · rw [if_pos (by omega), if_pos c, e2, show (2197175160 : Int) = ((P : Nat) : Int) by decide, xor32_nat _ _ (by omega) (by decide)]
  · rw [if_neg (by omega), if_neg c, e2]
theorem rmore_l1 (b : List Int) (i : Int) (r : Nat) : ∀ (k : Nat) (n : Nat), r ≤ 8 → n < 4294967296 → strandlineref03_More.l1 (k + r + 1) b n i (8 - (r : Int)) = strandlineref03_More.l0 k b ((itr r n : Nat) : Int) (wrap64 (i + 1)) := by
  induction r with
  | zero =>
    intro k n hr h
    simp only [strandlineref03_More.l1]
    rw [if_neg (by omega)]
    rfl
  | succ r ih =>
    intro k n hr h
    rw [show k + (r + 1) + 1 = (k + r + 1) + 1 by omega]
    simp only [strandlineref03_More.l1]
    rw [if_pos (by omega), rstep h, Option.bind_some, show wrap64 (8 - ((r + 1 : Nat) : Int) + 1) = 8 - (r : Int) by rw [w64 (by omega) (by omega)]; omega]
    exact ih k (stp n) (by omega) (stp_lt h)
theorem rmore_l0 (b : List Int) (hb : ∀ c ∈ b, 0 ≤ c ∧ c ≤ 255) (hl : b.length ≤ 1000000) (d : Nat) : ∀ (k i n : Nat), i + d = b.length → n < 4294967296 → strandlineref03_More.l0 (k + 10 * d + 1) b n i = some (4294967295 - ((sums (b.drop i) n : Nat) : Int)) := by
  induction d with
  | zero =>
    intro k i n hi h
    simp only [strandlineref03_More.l0]
    rw [if_neg (by omega), show i = b.length by omega, List.drop_length]
    show some ((4294967295 - (n : Int)) % 4294967296) = some (4294967295 - ((n : Nat) : Int))
    rw [Int.emod_eq_of_lt (by omega) (by omega)]
  | succ d ih =>
    intro k i n hi h
    have hi2 : i < b.length := by omega
    have hc := hb _ (List.getElem_mem hi2)
    have hrd : rd b i = b[i] := by unfold rd; rw [List.getD_eq_getElem?_getD, Int.toNat_natCast, List.getElem?_eq_getElem hi2]; rfl
    rw [show k + 10 * (d + 1) + 1 = (k + 1 + 10 * d + 8 + 1) + 1 by omega]
    simp only [strandlineref03_More.l0]
    have hlt := xor_lt32 h (show (b[i]).toNat < 4294967296 by omega)
    have e : bits .xor .u32 (n : Int) (rd b i % 4294967296) = ((n ^^^ (b[i]).toNat : Nat) : Int) := by
      rw [hrd, Int.emod_eq_of_lt (by omega) (by omega), show b[i] = (((b[i]).toNat : Nat) : Int) by omega, xor32_nat _ _ h (by omega)]
      rfl
    rw [if_pos (by omega), if_pos (by omega), e]
    have h1 := rmore_l1 b i 8 (k + 1 + 10 * d) (n ^^^ (b[i]).toNat) (by omega) hlt
    rw [show (8 : Int) - ((8 : Nat) : Int) = 0 by decide] at h1
    rw [h1, w64 (n := (i : Int) + 1) (by omega) (by omega), List.drop_eq_getElem_cons hi2]
    have h2 := ih k (i + 1) (itr 8 (n ^^^ (b[i]).toNat)) (by omega) (itr_lt 8 hlt)
    rw [show k + 1 + 10 * d = k + 10 * d + 1 by omega]
    exact h2
theorem rmore_eq {s : Nat} (hs : s < 4294967296) (b : List Int) (hb : ∀ c ∈ b, 0 ≤ c ∧ c ≤ 255) (hl : b.length ≤ 1000000) (k : Nat) : strandlineref03_More.f (k + 10 * b.length + 1) s b = some (moreI s b) := by
  unfold strandlineref03_More.f
  rw [show ((4294967295 - (s : Int)) % 4294967296) = ((4294967295 - s : Nat) : Int) by omega, moreI_nat hs b hb]
  exact rmore_l0 b hb hl b.length k 0 _ (by omega) (by omega)
theorem rof_eq (b : List Int) (hb : ∀ c ∈ b, 0 ≤ c ∧ c ≤ 255) (hl : b.length ≤ 1000000) (k : Nat) : strandlineref03_Of.f (k + 10 * b.length + 1) b = some (moreI 0 b) := by
  unfold strandlineref03_Of.f
  have := rmore_eq (s := 0) (by decide) b hb hl k
  rw [show ((0 : Nat) : Int) = 0 from rfl] at this
  rw [this]
  rfl
/-! the mask -/
theorem or32_nat (a b : Nat) (ha : a < 4294967296) (hb : b < 4294967296) : bits .or .u32 a b = ((a ||| b : Nat) : Int) := by
  show IntKind.u32.wrap ((BitVec.ofInt 32 a ||| BitVec.ofInt 32 b).toNat : Int) = _
  have hlt := Nat.or_lt_two_pow (n := 32) ha hb
  rw [BitVec.ofInt_natCast, BitVec.ofInt_natCast, BitVec.toNat_or, BitVec.toNat_ofNat, BitVec.toNat_ofNat, Nat.mod_eq_of_lt (by omega), Nat.mod_eq_of_lt (by omega), IntKind.wrap_u32]
  omega
theorem mask_eq {n : Nat} (h : n < 4294967296) : crc_Mask.f n = some ((((n / 32768 + n % 32768 * 131072 + 2726488792) % 4294967296 : Nat)) : Int) := by
  unfold crc_Mask.f
  rw [show (n : Int) / 32768 = ((n / 32768 : Nat) : Int) by omega, show ((n : Int) * 131072) % 4294967296 = ((2 ^ 17 * (n % 32768) : Nat) : Int) by omega, or32_nat _ _ (by omega) (by omega), Nat.or_comm,
    ← Nat.two_pow_add_eq_or_of_lt (show n / 32768 < 2 ^ 17 by omega)]
  refine congrArg some ?_
  omega
theorem rmask_eq {n : Nat} (h : n < 4294967296) : strandlineref03_Mask.f n = some ((((n / 32768 + n % 32768 * 131072 + 2726488792) % 4294967296 : Nat)) : Int) := by
  unfold strandlineref03_Mask.f
  rw [td (by omega), tm (by omega)]
  refine congrArg some ?_
  omega
end Go.Proofs.YthhbilkmdfdfiaaDoor.CrcMath
end

section
/- A fragment's bytes, and back: plain. -/
set_option linter.unusedVariables false
set_option linter.unusedSimpArgs false
namespace Go.Proofs.YthhbilkmdfdfiaaDoor.O
open Go.RowKit Go.Proofs.YthhbilkmdfdfiaaDoorW.PrintWords Go.Proofs.YthhbilkmdfdfiaaDoorW.PrintLast Go.Proofs.YthhbilkmdfdfiaaDoorW.PrintMore Go.Proofs.YthhbilkmdfdfiaaDoor.F Go.Proofs.YthhbilkmdfdfiaaDoor.F.Nums Go.Proofs.YthhbilkmdfdfiaaDoor.Plain Go.Proofs.YthhbilkmdfdfiaaDoor.CrcMath
/-- the masked sum -/
def maskN (n : Nat) : Nat := (n / 32768 + n % 32768 * 131072 + 2726488792) % 4294967296
theorem maskN_lt (n : Nat) : maskN n < 4294967296 := Nat.mod_lt _ (by decide)
def crcN (l : List Int) : Nat := (moreI 0 l).toNat
theorem moreI_lo (l : List Int) : 0 ≤ moreI 0 l ∧ moreI 0 l ≤ 4294967295 := by
  have := fold_in l (4294967295 - 0) (by decide) (by decide)
  unfold moreI
  omega
theorem crcN_eq (l : List Int) : moreI 0 l = (crcN l : Int) := by
  have := moreI_lo l
  unfold crcN
  omega
theorem crcN_lt (l : List Int) : crcN l < 4294967296 := by
  have := moreI_lo l
  unfold crcN
  omega
def sumN (l : List Int) : Nat := maskN (crcN l)
theorem sumN_lt (l : List Int) : sumN l < 4294967296 := maskN_lt _
theorem crc_sum (l : List Int) : crc_Mask.f (moreI 0 l) = some (sumN l : Int) := by rw [crcN_eq]; exact mask_eq (crcN_lt l)
theorem rcrc_sum (l : List Int) : strandlineref03_Mask.f (moreI 0 l) = some (sumN l : Int) := by rw [crcN_eq]; exact rmask_eq (crcN_lt l)
def bodyL (kind ep : Int) (data : List Int) : List Int := putl data.length 2 ++ (kind :: (putl ep.toNat 4 ++ data))
def encL (kind ep : Int) (data : List Int) : List Int := putl (sumN (bodyL kind ep data)) 4 ++ bodyL kind ep data
theorem bodyL_len (kind ep : Int) (data : List Int) : (bodyL kind ep data).length = 7 + data.length := by simp [bodyL, putl_len]; omega
theorem encL_len (kind ep : Int) (data : List Int) : (encL kind ep data).length = 11 + data.length := by unfold encL; rw [List.length_append, bodyL_len, putl_len]; omega
def rightF (kind : Int) (n : Nat) : Bool := decide (1 ≤ kind) && decide (kind ≤ 4) && decide (n ≤ 197)
theorem bodyL_bytes {kind ep : Int} {data : List Int} (hk : 0 ≤ kind ∧ kind ≤ 255) (hd : Bytes data) : Bytes (bodyL kind ep data) := by
  refine bytes_append (putl_bytes _ _) (fun c hc => ?_)
  rcases List.mem_cons.1 hc with rfl | hc
  · exact hk
  · exact bytes_append (putl_bytes _ _) hd c hc
theorem encL_bytes {kind ep : Int} {data : List Int} (hk : 0 ≤ kind ∧ kind ≤ 255) (hd : Bytes data) : Bytes (encL kind ep data) := bytes_append (putl_bytes _ _) (bodyL_bytes hk hd)
end Go.Proofs.YthhbilkmdfdfiaaDoor.O
end

section
/- Functions of cut: what each answers, as a Lean function, and that the call answers just this. Turned out of what the kit's print told for this seat. -/
namespace Go.Proofs.YthhbilkmdfdfiaaDoor.F
open Go.RowKit Go.Proofs.YthhbilkmdfdfiaaDoorW.PrintWords Go.Proofs.YthhbilkmdfdfiaaDoorW.PrintLast Go.Proofs.YthhbilkmdfdfiaaDoorW.PrintMore
attribute [local go_sem high] eqA120
attribute [local go_sem] field120_0
attribute [local go_sem] field120_1
attribute [local go_sem] max2_int min2_int max_two min_two max_three min_three max_four min_four
set_option linter.unusedVariables false
set_option linter.unusedSimpArgs false

/-! ### cut_kind: function 77 -/
def cut_kind.j0 : Nat → Bool → Bool → Bool → Option (Int)
  | 0, _, _, _ => none
  | k + 1, x0, x1, x5 => if x5 = true then (some 1) else (if x0 = true then (some 2) else (if x1 = true then (some 4) else (some 3)))
def cut_kind.f (k : Nat) (a0 : Bool) (a1 : Bool) : Option (Int) := if a0 = true then (cut_kind.j0 k a0 a1 a1) else (cut_kind.j0 k a0 a1 false)
theorem cut_kind.mono_l : ∀ k, (∀ y0 y1 y2, LeO (cut_kind.j0 k y0 y1 y2) (cut_kind.j0 (k + 1) y0 y1 y2))
  | 0 => fun _ _ _ r h => by simp [cut_kind.j0] at h
  | k + 1 => by
    have ih0 := cut_kind.mono_l k
    · intro y0 y1 y2
      unfold cut_kind.j0
      repeat' first
      | (with_reducible exact ih0 _ _ _)
      | (with_reducible exact LeO.refl _)
      | (with_reducible exact LeO.none _)
      | (with_reducible refine LeO.ite ?_ ?_)
      | (with_reducible refine LeO.bind ?_ (fun _ => ?_))
      | exact ih0 _ _ _
      | exact LeO.none _
      | refine LeO.ite ?_ ?_
      | refine LeO.bind ?_ (fun _ => ?_)
theorem cut_kind.mono : ∀ a0 a1 k, LeO (cut_kind.f k a0 a1) (cut_kind.f (k + 1) a0 a1) := by
  intro a0 a1 k
  have ih0 := cut_kind.mono_l k
  unfold cut_kind.f
  repeat' first
      | (with_reducible exact ih0 _ _ _)
      | (with_reducible exact LeO.refl _)
      | (with_reducible exact LeO.none _)
      | (with_reducible refine LeO.ite ?_ ?_)
      | (with_reducible refine LeO.bind ?_ (fun _ => ?_))
      | exact ih0 _ _ _
      | exact LeO.none _
      | refine LeO.ite ?_ ?_
      | refine LeO.bind ?_ (fun _ => ?_)
set_option maxHeartbeats 8000000 in
set_option maxRecDepth 100000 in
theorem cut_kind.calls (k : Nat) (a0 : Bool) (a1 : Bool) (r : Int) (w : World) (h : cut_kind.f k a0 a1 = some r) :
    Calls Tryd.prog 77 #[.bool a0, .bool a1] w fun e w' => e = .returned (.int .i64 r) ∧ Drawn0 w w' := by
  have hu37 := Tryd.underlying37
  have hu99 := Tryd.underlying99
  have hu120 := Tryd.underlying120
  have H : (if a0 = true then (cut_kind.j0 k a0 a1 a1) else (cut_kind.j0 k a0 a1 false)) = some r := h
  clear h
  have HC3 := Aside0.mk H
  clear H
  go_enter Tryd.func77, Tryd.ntmps77
  go_upto_region 1 with (fail)
  go_cut [5] (fun v5 wc => ∃ (kq : Nat) (x5_2 : Bool), v5 = .bool x5_2 ∧ Aside0 (cut_kind.j0 kq a0 a1 x5_2 = some r) ∧ Aside0 (kq ≤ k) ∧ Drawn0 w wc)
  case first =>
    have H := HC3.out
    clear HC3
    by_cases c4 : a0 = true
    · subst c4
      have H1 : (cut_kind.j0 k true a1 a1) = some r := by rw [if_pos rfl] at H; exact H
      clear H
      have H := H1
      clear H1
      have H' := Aside0.mk H
      clear H
      go_wp2
      go_meet
      case rel => exact ⟨_, (a1), (by first | rfl | (simp; done) | (simp [*]; done)), H', ⟨by first | omega | exact Nat.le_refl _⟩, by repeat (first | exact Drawn0.refl _ | apply Drawn0.step)⟩
    · replace c4 := Bool.eq_false_iff.mpr c4
      subst c4
      have H1 : (cut_kind.j0 k false a1 false) = some r := by rw [if_neg (show ¬ (false = true) by decide)] at H; exact H
      clear H
      have H := H1
      clear H1
      have H' := Aside0.mk H
      clear H
      go_wp2
      go_meet
      case rel => exact ⟨_, (false), (by first | rfl | (simp; done) | (simp [*]; done)), H', ⟨by first | omega | exact Nat.le_refl _⟩, by repeat (first | exact Drawn0.refl _ | apply Drawn0.step)⟩
  case rest =>
    clear HC3
    try clear p2
    try clear c4
    obtain ⟨kq, x5_2, rfl, HA, HJ2, ⟨mc2, rfl⟩⟩ := hcut
    cases kq with
    | zero => exact absurd HA.out (by simp [cut_kind.j0])
    | succ kj2 =>
      have H := HA.out
      clear HA
      simp only [cut_kind.j0] at H
      by_cases c5 : x5_2 = true
      · subst c5
        have H1 : (some 1) = some r := by rw [if_pos rfl] at H; exact H
        clear H
        have H := H1
        clear H1
        obtain rfl := Option.some.inj H
        go_wp2
        go_ret
        exact ⟨by first | rfl | (simp; done) | (simp [*]; done), by repeat (first | exact Drawn0.refl _ | apply Drawn0.step)⟩
      · replace c5 := Bool.eq_false_iff.mpr c5
        subst c5
        have H1 : (if a0 = true then (some 2) else (if a1 = true then (some 4) else (some 3))) = some r := by rw [if_neg (show ¬ (false = true) by decide)] at H; exact H
        clear H
        have H := H1
        clear H1
        by_cases c6 : a0 = true
        · subst c6
          have H1 : (some 2) = some r := by rw [if_pos rfl] at H; exact H
          clear H
          have H := H1
          clear H1
          obtain rfl := Option.some.inj H
          go_wp2
          go_ret
          exact ⟨by first | rfl | (simp; done) | (simp [*]; done), by repeat (first | exact Drawn0.refl _ | apply Drawn0.step)⟩
        · replace c6 := Bool.eq_false_iff.mpr c6
          subst c6
          have H1 : (if a1 = true then (some 4) else (some 3)) = some r := by rw [if_neg (show ¬ (false = true) by decide)] at H; exact H
          clear H
          have H := H1
          clear H1
          by_cases c7 : a1 = true
          · subst c7
            have H1 : (some 4) = some r := by rw [if_pos rfl] at H; exact H
            clear H
            have H := H1
            clear H1
            obtain rfl := Option.some.inj H
            go_wp2
            go_ret
            exact ⟨by first | rfl | (simp; done) | (simp [*]; done), by repeat (first | exact Drawn0.refl _ | apply Drawn0.step)⟩
          · replace c7 := Bool.eq_false_iff.mpr c7
            subst c7
            have H1 : (some 3) = some r := by rw [if_neg (show ¬ (false = true) by decide)] at H; exact H
            clear H
            have H := H1
            clear H1
            obtain rfl := Option.some.inj H
            go_wp2
            go_ret
            exact ⟨by first | rfl | (simp; done) | (simp [*]; done), by repeat (first | exact Drawn0.refl _ | apply Drawn0.step)⟩


end Go.Proofs.YthhbilkmdfdfiaaDoor.F
end

section
/- Functions of span: what each answers, as a Lean function, and that the call answers just this. Turned out of what the kit's print told for this seat. -/
namespace Go.Proofs.YthhbilkmdfdfiaaDoor.F
open Go.RowKit Go.Proofs.YthhbilkmdfdfiaaDoorW.PrintWords Go.Proofs.YthhbilkmdfdfiaaDoorW.PrintLast Go.Proofs.YthhbilkmdfdfiaaDoorW.PrintMore
attribute [local go_sem high] eqA120
attribute [local go_sem] field120_0
attribute [local go_sem] field120_1
attribute [local go_sem] max2_int min2_int max_two min_two max_three min_three max_four min_four
set_option linter.unusedVariables false
set_option linter.unusedSimpArgs false

/-! ### span_near: function 85 -/
def span_near.f (a0 : Int) (a1 : Int) : Option (Int) := some (mx 0 (mn a0 a1))
set_option maxHeartbeats 8000000 in
set_option maxRecDepth 100000 in
theorem span_near.calls (a0 : Int) (a1 : Int) (r : Int) (w : World) (h : span_near.f a0 a1 = some r) :
    Calls Tryd.prog 85 #[.int .i64 a0, .int .i64 a1] w fun e w' => e = .returned (.int .i64 r) ∧ Below w.heap.size w w' := by
  have hu37 := Tryd.underlying37
  have hu99 := Tryd.underlying99
  have hu120 := Tryd.underlying120
  have HB := Aside0.mk (Below.refl w.heap.size w)
  have H : (some (mx 0 (mn a0 a1))) = some r := h
  clear h
  obtain ⟨ji3, hji3⟩ : ∃ j_ : Int, (mn a0 a1) = j_ := ⟨_, rfl⟩
  replace H : (some (mx 0 (ji3))) = some r := by first | (rw [hji3] at H; exact H) | (simp only [hji3] at H ⊢; exact H)
  have hji3_ : (if a1 < a0 then a1 else a0) = ji3 := hji3
  obtain ⟨ji4, hji4⟩ : ∃ j_ : Int, (mx 0 (ji3)) = j_ := ⟨_, rfl⟩
  replace H : (some ji4) = some r := by first | (rw [hji4] at H; exact H) | (simp only [hji4] at H ⊢; exact H)
  have hji4_ : (if 0 < (ji3) then (ji3) else 0) = ji4 := hji4
  obtain rfl := Option.some.inj H
  go_enter Tryd.func85, Tryd.ntmps85
  go_wp2
  go_ret
  exact ⟨by first | rfl | (simp [errW_none, errW_some] <;> rfl) | (simp only [← hji3, ← hji4]; first | rfl | (simp [errW_none, errW_some] <;> rfl)) | (simp [*, errW_none, errW_some] <;> rfl), by repeat (first | (with_reducible first | exact HB.out | apply below_alloc | apply pw_below_drewN | apply below_drew1) | exact HB.out)⟩

/-! ### span_Where: function 86 -/
def span_Where.f (a0 : Int) : Option (Int × Int) := (span_near.f a0 832).bind fun t195 => (some (wrap64 (Int.tdiv t195 52), Int.tmod t195 52))
set_option maxHeartbeats 8000000 in
set_option maxRecDepth 100000 in
theorem span_Where.calls (a0 : Int) (r1 : Int) (r2 : Int) (w : World) (h : span_Where.f a0 = some (r1, r2)) :
    Calls Tryd.prog 86 #[.int .i64 a0] w fun e w' => e = .returned (.agg #[.int .i64 r1, .int .i64 r2]) ∧ Below w.heap.size w w' := by
  have hu37 := Tryd.underlying37
  have hu99 := Tryd.underlying99
  have hu120 := Tryd.underlying120
  have HB := Aside0.mk (Below.refl w.heap.size w)
  have H : ((span_near.f a0 832).bind fun t195 => (some (wrap64 (Int.tdiv t195 52), Int.tmod t195 52))) = some (r1, r2) := h
  clear h
  replace H := Option.bind_eq_some_iff.mp H
  obtain ⟨t195, A20, H⟩ := H
  replace H : (some (wrap64 (Int.tdiv t195 52), Int.tmod t195 52)) = some (r1, r2) := H
  have A2 := Aside0.mk A20
  clear A20
  simp only [Option.some.injEq, Prod.mk.injEq] at H
  obtain ⟨rfl, rfl⟩ := H
  go_enter Tryd.func86, Tryd.ntmps86
  go_wp2_with (first | ((with_reducible refine gate_dst (N := 2) rfl ?_); refine box_event ?hg (N := 2) ?hd (cs := #[.int .i64 0, .int .i64 0]) (t := 120) ?hr ?_; (case hd => rfl); (case hg => rfl); (case hr => first | (go_simp; done) | (go_simp; rfl)); intro gb194 hg w3 hbox hb; have n0_ := Aside0.mk (below_step (by repeat (first | (with_reducible first | exact HB.out | apply below_alloc | apply pw_below_drewN | apply below_drew1) | exact HB.out)) hb); have n1_ := Aside0.mk (hbox); have n2_ := Aside0.mk ((by rw [hg]; exact (below_size (by repeat (first | (with_reducible first | exact HB.out | apply below_alloc | apply pw_below_drewN | apply below_drew1) | exact HB.out))) : w.heap.size ≤ gb194)); have n3_ := Aside0.mk ((by rw [hg]; exact (below_size (by repeat (first | (with_reducible first | exact HB.out | apply below_alloc | apply pw_below_drewN | apply below_drew1) | exact HB.out))) : w.heap.size ≤ gb194)); clear HB; have HB := n0_; have BK194 := n1_; have GW194 := n2_; have GE194 := n3_; clear n0_ n1_ n2_ n3_; clear hb hbox hg) | ((with_reducible refine gate_callee (f := 85) rfl ?_); refine goesL_ (some 4) rfl rfl Tryd.func85 (by kernel_rfl) rfl #[.int .i64 a0, .int .i64 832] rfl (by (try simp only [List.map_toArray, List.map_cons, List.map_nil]); first | done | rfl | (simp only [List.length_drop, List.length_take]; rfl)) ?_; (with_reducible refine (span_near.calls a0 832 t195 _ A2.out).mono ?_); rintro e w4 ⟨rfl, hb⟩; refine ⟨_, rfl, ?_⟩; have n0_ := Aside0.mk (blk_below (g := gb194) (o := .cells #[.int .i64 0, .int .i64 0] 120 (0, 0)) (by (with_reducible repeat (first | refine blk_drewN ?_ _ | refine blk_drew ?_ | refine blk_alloc ?_ _)); exact BK194.out) hb); have n1_ := Aside0.mk (below_step (by repeat (first | (with_reducible first | exact HB.out | apply below_alloc | apply pw_below_drewN | apply below_drew1 | refine below_set ?_ GE194.out) | exact HB.out)) hb); clear BK194; clear HB; have BK194 := n0_; have HB := n1_; clear n0_ n1_; (try clear hb); (try clear hb2); (try clear hk); (try clear hi); have hcz5_0 : w4.cell? ⟨gb194, 0, none⟩ = some (.int .i64 0) := (blk_cell BK194.out 0).trans rfl; have hcz5_1 : w4.cell? ⟨gb194, 1, none⟩ = some (.int .i64 0) := (blk_cell BK194.out 1).trans rfl; have hfz5_0 := blk_frozen BK194.out 0; have hfz5_1 := blk_frozen BK194.out 1))
  refine bodyPost_ret (results_cell_row rfl _ _ gb194 120 #[.int .i64 (wrap64 (Int.tdiv t195 52)), .int .i64 (Int.tmod t195 52)] (0, 0) _ rfl (by (with_reducible repeat (first | refine blk_drewN ?_ _ | refine blk_drew ?_ | refine blk_alloc ?_ _)); refine blk_put (cs := #[.int .i64 (wrap64 (Int.tdiv t195 52)), .int .i64 0]) ?_ 1 _ rfl; (with_reducible repeat (first | refine blk_drewN ?_ _ | refine blk_drew ?_ | refine blk_alloc ?_ _)); refine blk_put (cs := #[.int .i64 0, .int .i64 0]) ?_ 0 _ rfl; (with_reducible repeat (first | refine blk_drewN ?_ _ | refine blk_drew ?_ | refine blk_alloc ?_ _)); exact BK194.out) Tryd.underlying120 rfl (by kernel_rfl)) rfl ?_
  exact ⟨by first | rfl | (simp [errW_none, errW_some] <;> rfl) | (simp [*, errW_none, errW_some] <;> rfl), by repeat (first | (with_reducible first | exact HB.out | apply below_alloc | apply pw_below_drewN | apply below_drew1 | refine below_set ?_ GE194.out) | exact HB.out)⟩

/-! ### span_Touch: function 87 -/
def span_Touch.f (a0 : Int) (a1 : Int) : Option (Int × Int) := (span_near.f a0 832).bind fun t196 => ((span_near.f a1 832).bind fun t197 => (if t196 ≥ t197 then (some (0, 0)) else ((span_Where.f t196).bind fun bt198 => ((span_Where.f (wrap64 (t197 - 1))).bind fun bt200 => (some (bt198.1, wrap64 (bt200.1 + 1)))))))
set_option maxHeartbeats 8000000 in
set_option maxRecDepth 100000 in
theorem span_Touch.calls (a0 : Int) (a1 : Int) (r1 : Int) (r2 : Int) (w : World) (h : span_Touch.f a0 a1 = some (r1, r2)) :
    Calls Tryd.prog 87 #[.int .i64 a0, .int .i64 a1] w fun e w' => e = .returned (.tuple #[.int .i64 r1, .int .i64 r2]) ∧ Below w.heap.size w w' := by
  have hu37 := Tryd.underlying37
  have hu99 := Tryd.underlying99
  have hu120 := Tryd.underlying120
  have HB := Aside0.mk (Below.refl w.heap.size w)
  have H : ((span_near.f a0 832).bind fun t196 => ((span_near.f a1 832).bind fun t197 => (if t196 ≥ t197 then (some (0, 0)) else ((span_Where.f t196).bind fun bt198 => ((span_Where.f (wrap64 (t197 - 1))).bind fun bt200 => (some (bt198.1, wrap64 (bt200.1 + 1)))))))) = some (r1, r2) := h
  clear h
  replace H := Option.bind_eq_some_iff.mp H
  obtain ⟨t196, A30, H⟩ := H
  replace H : ((span_near.f a1 832).bind fun t197 => (if t196 ≥ t197 then (some (0, 0)) else ((span_Where.f t196).bind fun bt198 => ((span_Where.f (wrap64 (t197 - 1))).bind fun bt200 => (some (bt198.1, wrap64 (bt200.1 + 1))))))) = some (r1, r2) := H
  have A3 := Aside0.mk A30
  clear A30
  replace H := Option.bind_eq_some_iff.mp H
  obtain ⟨t197, A40, H⟩ := H
  replace H : (if t196 ≥ t197 then (some (0, 0)) else ((span_Where.f t196).bind fun bt198 => ((span_Where.f (wrap64 (t197 - 1))).bind fun bt200 => (some (bt198.1, wrap64 (bt200.1 + 1)))))) = some (r1, r2) := H
  have A4 := Aside0.mk A40
  clear A40
  by_cases c5 : t196 ≥ t197
  · rw [if_pos c5] at H
    have c5b0 : decide (t197 ≤ t196) = true := decide_eq_true c5
    clear c5
    simp only [Option.some.injEq, Prod.mk.injEq] at H
    obtain ⟨rfl, rfl⟩ := H
    go_enter Tryd.func87, Tryd.ntmps87
    go_wp2_with (first | ((with_reducible refine gate_callee (f := 85) rfl ?_); refine goesL_ (some 7) rfl rfl Tryd.func85 (by kernel_rfl) rfl #[.int .i64 a0, .int .i64 832] rfl (by (try simp only [List.map_toArray, List.map_cons, List.map_nil]); first | done | rfl | (simp only [List.length_drop, List.length_take]; rfl)) ?_; (with_reducible refine (span_near.calls a0 832 t196 _ A3.out).mono ?_); rintro e w6 ⟨rfl, hb⟩; refine ⟨_, rfl, ?_⟩; have n0_ := Aside0.mk (below_step (by repeat (first | (with_reducible first | exact HB.out | apply below_alloc | apply pw_below_drewN | apply below_drew1) | exact HB.out)) hb); clear HB; have HB := n0_; clear n0_; (try clear hb); (try clear hb2); (try clear hk); (try clear hi)) | ((with_reducible refine gate_callee (f := 85) rfl ?_); refine goesL_ (some 9) rfl rfl Tryd.func85 (by kernel_rfl) rfl #[.int .i64 a1, .int .i64 832] rfl (by (try simp only [List.map_toArray, List.map_cons, List.map_nil]); first | done | rfl | (simp only [List.length_drop, List.length_take]; rfl)) ?_; (with_reducible refine (span_near.calls a1 832 t197 _ A4.out).mono ?_); rintro e w7 ⟨rfl, hb⟩; refine ⟨_, rfl, ?_⟩; have n0_ := Aside0.mk (below_step (by repeat (first | (with_reducible first | exact HB.out | apply below_alloc | apply pw_below_drewN | apply below_drew1) | exact HB.out)) hb); clear HB; have HB := n0_; clear n0_; (try clear hb); (try clear hb2); (try clear hk); (try clear hi)))
    go_ret2
    exact ⟨by first | rfl | (simp [errW_none, errW_some] <;> rfl) | (simp [*, errW_none, errW_some] <;> rfl), by repeat (first | (with_reducible first | exact HB.out | apply below_alloc | apply pw_below_drewN | apply below_drew1) | exact HB.out)⟩
  · rw [if_neg c5] at H
    have c5b0 : decide (t197 ≤ t196) = false := decide_eq_false c5
    clear c5
    replace H := Option.bind_eq_some_iff.mp H
    obtain ⟨⟨t198, t199⟩, A80, H⟩ := H
    replace H : ((span_Where.f (wrap64 (t197 - 1))).bind fun bt200 => (some (t198, wrap64 (bt200.1 + 1)))) = some (r1, r2) := H
    have A8 := Aside0.mk A80
    clear A80
    replace H := Option.bind_eq_some_iff.mp H
    obtain ⟨⟨t200, t201⟩, A90, H⟩ := H
    replace H : (some (t198, wrap64 (t200 + 1))) = some (r1, r2) := H
    have A9 := Aside0.mk A90
    clear A90
    simp only [Option.some.injEq, Prod.mk.injEq] at H
    obtain ⟨rfl, rfl⟩ := H
    go_enter Tryd.func87, Tryd.ntmps87
    go_wp2_with (first | ((with_reducible refine gate_callee (f := 85) rfl ?_); refine goesL_ (some 7) rfl rfl Tryd.func85 (by kernel_rfl) rfl #[.int .i64 a0, .int .i64 832] rfl (by (try simp only [List.map_toArray, List.map_cons, List.map_nil]); first | done | rfl | (simp only [List.length_drop, List.length_take]; rfl)) ?_; (with_reducible refine (span_near.calls a0 832 t196 _ A3.out).mono ?_); rintro e w10 ⟨rfl, hb⟩; refine ⟨_, rfl, ?_⟩; have n0_ := Aside0.mk (below_step (by repeat (first | (with_reducible first | exact HB.out | apply below_alloc | apply pw_below_drewN | apply below_drew1) | exact HB.out)) hb); clear HB; have HB := n0_; clear n0_; (try clear hb); (try clear hb2); (try clear hk); (try clear hi)) | ((with_reducible refine gate_callee (f := 85) rfl ?_); refine goesL_ (some 9) rfl rfl Tryd.func85 (by kernel_rfl) rfl #[.int .i64 a1, .int .i64 832] rfl (by (try simp only [List.map_toArray, List.map_cons, List.map_nil]); first | done | rfl | (simp only [List.length_drop, List.length_take]; rfl)) ?_; (with_reducible refine (span_near.calls a1 832 t197 _ A4.out).mono ?_); rintro e w11 ⟨rfl, hb⟩; refine ⟨_, rfl, ?_⟩; have n0_ := Aside0.mk (below_step (by repeat (first | (with_reducible first | exact HB.out | apply below_alloc | apply pw_below_drewN | apply below_drew1) | exact HB.out)) hb); clear HB; have HB := n0_; clear n0_; (try clear hb); (try clear hb2); (try clear hk); (try clear hi)) | ((with_reducible refine gate_callee (f := 86) rfl ?_); refine goesL_ (some 14) rfl rfl Tryd.func86 (by kernel_rfl) rfl #[.int .i64 t196] rfl (by (try simp only [List.map_toArray, List.map_cons, List.map_nil]); first | done | rfl | (simp only [List.length_drop, List.length_take]; rfl)) ?_; (with_reducible refine (span_Where.calls t196 t198 t199 _ A8.out).mono ?_); rintro e w12 ⟨rfl, hb⟩; refine ⟨_, rfl, ?_⟩; have n0_ := Aside0.mk (below_step (by repeat (first | (with_reducible first | exact HB.out | apply below_alloc | apply pw_below_drewN | apply below_drew1) | exact HB.out)) hb); clear HB; have HB := n0_; clear n0_; (try clear hb); (try clear hb2); (try clear hk); (try clear hi)) | ((with_reducible refine gate_callee (f := 86) rfl ?_); refine goesL_ (some 18) rfl rfl Tryd.func86 (by kernel_rfl) rfl #[.int .i64 (wrap64 (t197 - 1))] rfl (by (try simp only [List.map_toArray, List.map_cons, List.map_nil]); first | done | rfl | (simp only [List.length_drop, List.length_take]; rfl)) ?_; (with_reducible refine (span_Where.calls (wrap64 (t197 - 1)) t200 t201 _ A9.out).mono ?_); rintro e w13 ⟨rfl, hb⟩; refine ⟨_, rfl, ?_⟩; have n0_ := Aside0.mk (below_step (by repeat (first | (with_reducible first | exact HB.out | apply below_alloc | apply pw_below_drewN | apply below_drew1) | exact HB.out)) hb); clear HB; have HB := n0_; clear n0_; (try clear hb); (try clear hb2); (try clear hk); (try clear hi)))
    go_ret2
    exact ⟨by first | rfl | (simp [errW_none, errW_some] <;> rfl) | (simp [*, errW_none, errW_some] <;> rfl), by repeat (first | (with_reducible first | exact HB.out | apply below_alloc | apply pw_below_drewN | apply below_drew1) | exact HB.out)⟩

/-! ### span_Begin: function 75 -/
def span_Begin.f (a0 : Int) : Option (Int) := (span_near.f a0 832).bind fun t103 => ((span_Where.f t103).bind fun bt104 => (if (wrap64 (52 - bt104.2)) < 11 then (some (wrap64 (t103 + (wrap64 (52 - bt104.2))))) else (some t103)))
set_option maxHeartbeats 8000000 in
set_option maxRecDepth 100000 in
theorem span_Begin.calls (a0 : Int) (r : Int) (w : World) (h : span_Begin.f a0 = some r) :
    Calls Tryd.prog 75 #[.int .i64 a0] w fun e w' => e = .returned (.int .i64 r) ∧ Below w.heap.size w w' := by
  have hu37 := Tryd.underlying37
  have hu99 := Tryd.underlying99
  have hu120 := Tryd.underlying120
  have HB := Aside0.mk (Below.refl w.heap.size w)
  have H : ((span_near.f a0 832).bind fun t103 => ((span_Where.f t103).bind fun bt104 => (if (wrap64 (52 - bt104.2)) < 11 then (some (wrap64 (t103 + (wrap64 (52 - bt104.2))))) else (some t103)))) = some r := h
  clear h
  replace H := Option.bind_eq_some_iff.mp H
  obtain ⟨t103, A20, H⟩ := H
  replace H : ((span_Where.f t103).bind fun bt104 => (if (wrap64 (52 - bt104.2)) < 11 then (some (wrap64 (t103 + (wrap64 (52 - bt104.2))))) else (some t103))) = some r := H
  have A2 := Aside0.mk A20
  clear A20
  replace H := Option.bind_eq_some_iff.mp H
  obtain ⟨⟨t104, t105⟩, A30, H⟩ := H
  replace H : (if (wrap64 (52 - t105)) < 11 then (some (wrap64 (t103 + (wrap64 (52 - t105))))) else (some t103)) = some r := H
  have A3 := Aside0.mk A30
  clear A30
  by_cases c4 : (wrap64 (52 - t105)) < 11
  · rw [if_pos c4] at H
    have c4b0 : decide ((wrap64 (52 - t105)) < 11) = true := decide_eq_true c4
    clear c4
    obtain rfl := Option.some.inj H
    go_enter Tryd.func75, Tryd.ntmps75
    go_wp2_with (first | ((with_reducible refine gate_callee (f := 85) rfl ?_); refine goesL_ (some 5) rfl rfl Tryd.func85 (by kernel_rfl) rfl #[.int .i64 a0, .int .i64 832] rfl (by (try simp only [List.map_toArray, List.map_cons, List.map_nil]); first | done | rfl | (simp only [List.length_drop, List.length_take]; rfl)) ?_; (with_reducible refine (span_near.calls a0 832 t103 _ A2.out).mono ?_); rintro e w5 ⟨rfl, hb⟩; refine ⟨_, rfl, ?_⟩; have n0_ := Aside0.mk (below_step (by repeat (first | (with_reducible first | exact HB.out | apply below_alloc | apply pw_below_drewN | apply below_drew1) | exact HB.out)) hb); clear HB; have HB := n0_; clear n0_; (try clear hb); (try clear hb2); (try clear hk); (try clear hi)) | ((with_reducible refine gate_callee (f := 86) rfl ?_); refine goesL_ (some 7) rfl rfl Tryd.func86 (by kernel_rfl) rfl #[.int .i64 t103] rfl (by (try simp only [List.map_toArray, List.map_cons, List.map_nil]); first | done | rfl | (simp only [List.length_drop, List.length_take]; rfl)) ?_; (with_reducible refine (span_Where.calls t103 t104 t105 _ A3.out).mono ?_); rintro e w6 ⟨rfl, hb⟩; refine ⟨_, rfl, ?_⟩; have n0_ := Aside0.mk (below_step (by repeat (first | (with_reducible first | exact HB.out | apply below_alloc | apply pw_below_drewN | apply below_drew1) | exact HB.out)) hb); clear HB; have HB := n0_; clear n0_; (try clear hb); (try clear hb2); (try clear hk); (try clear hi)))
    go_ret
    exact ⟨by first | rfl | (simp [errW_none, errW_some] <;> rfl) | (simp [*, errW_none, errW_some] <;> rfl), by repeat (first | (with_reducible first | exact HB.out | apply below_alloc | apply pw_below_drewN | apply below_drew1) | exact HB.out)⟩
  · rw [if_neg c4] at H
    have c4b0 : decide ((wrap64 (52 - t105)) < 11) = false := decide_eq_false c4
    clear c4
    obtain rfl := Option.some.inj H
    go_enter Tryd.func75, Tryd.ntmps75
    go_wp2_with (first | ((with_reducible refine gate_callee (f := 85) rfl ?_); refine goesL_ (some 5) rfl rfl Tryd.func85 (by kernel_rfl) rfl #[.int .i64 a0, .int .i64 832] rfl (by (try simp only [List.map_toArray, List.map_cons, List.map_nil]); first | done | rfl | (simp only [List.length_drop, List.length_take]; rfl)) ?_; (with_reducible refine (span_near.calls a0 832 t103 _ A2.out).mono ?_); rintro e w7 ⟨rfl, hb⟩; refine ⟨_, rfl, ?_⟩; have n0_ := Aside0.mk (below_step (by repeat (first | (with_reducible first | exact HB.out | apply below_alloc | apply pw_below_drewN | apply below_drew1) | exact HB.out)) hb); clear HB; have HB := n0_; clear n0_; (try clear hb); (try clear hb2); (try clear hk); (try clear hi)) | ((with_reducible refine gate_callee (f := 86) rfl ?_); refine goesL_ (some 7) rfl rfl Tryd.func86 (by kernel_rfl) rfl #[.int .i64 t103] rfl (by (try simp only [List.map_toArray, List.map_cons, List.map_nil]); first | done | rfl | (simp only [List.length_drop, List.length_take]; rfl)) ?_; (with_reducible refine (span_Where.calls t103 t104 t105 _ A3.out).mono ?_); rintro e w8 ⟨rfl, hb⟩; refine ⟨_, rfl, ?_⟩; have n0_ := Aside0.mk (below_step (by repeat (first | (with_reducible first | exact HB.out | apply below_alloc | apply pw_below_drewN | apply below_drew1) | exact HB.out)) hb); clear HB; have HB := n0_; clear n0_; (try clear hb); (try clear hb2); (try clear hk); (try clear hi)))
    go_ret
    exact ⟨by first | rfl | (simp [errW_none, errW_some] <;> rfl) | (simp [*, errW_none, errW_some] <;> rfl), by repeat (first | (with_reducible first | exact HB.out | apply below_alloc | apply pw_below_drewN | apply below_drew1) | exact HB.out)⟩

/-! ### span_Left: function 76 -/
def span_Left.f (a0 : Int) : Option (Int) := (span_near.f a0 832).bind fun t103 => ((span_Where.f t103).bind fun bt104 => (if (bt104.1 == 16 && (bt104.2 == 0)) = true then (some 0) else (some (wrap64 (208 - (Int.tmod t103 208))))))
set_option maxHeartbeats 8000000 in
set_option maxRecDepth 100000 in
theorem span_Left.calls (a0 : Int) (r : Int) (w : World) (h : span_Left.f a0 = some r) :
    Calls Tryd.prog 76 #[.int .i64 a0] w fun e w' => e = .returned (.int .i64 r) ∧ Below w.heap.size w w' := by
  have hu37 := Tryd.underlying37
  have hu99 := Tryd.underlying99
  have hu120 := Tryd.underlying120
  have HB := Aside0.mk (Below.refl w.heap.size w)
  have H : ((span_near.f a0 832).bind fun t103 => ((span_Where.f t103).bind fun bt104 => (if (bt104.1 == 16 && (bt104.2 == 0)) = true then (some 0) else (some (wrap64 (208 - (Int.tmod t103 208))))))) = some r := h
  clear h
  replace H := Option.bind_eq_some_iff.mp H
  obtain ⟨t103, A20, H⟩ := H
  replace H : ((span_Where.f t103).bind fun bt104 => (if (bt104.1 == 16 && (bt104.2 == 0)) = true then (some 0) else (some (wrap64 (208 - (Int.tmod t103 208)))))) = some r := H
  have A2 := Aside0.mk A20
  clear A20
  replace H := Option.bind_eq_some_iff.mp H
  obtain ⟨⟨t104, t105⟩, A30, H⟩ := H
  replace H : (if (t104 == 16 && (t105 == 0)) = true then (some 0) else (some (wrap64 (208 - (Int.tmod t103 208))))) = some r := H
  have A3 := Aside0.mk A30
  clear A30
  by_cases c4 : (t104 == 16 && (t105 == 0)) = true
  · rw [if_pos c4] at H
    have c4b0 : (t104 == 16 && (t105 == 0)) = true := c4
    (try (have c4b1 : decide (t104 = 16 && (t105 == 0)) = true := by simpa using c4))
    (try (have c4b2 : (t104 == 16 && (t105 == 0)) = true := by simpa using c4))
    clear c4
    obtain rfl := Option.some.inj H
    go_enter Tryd.func76, Tryd.ntmps76
    go_wp2_with (first | ((with_reducible refine gate_callee (f := 85) rfl ?_); refine goesL_ (some 4) rfl rfl Tryd.func85 (by kernel_rfl) rfl #[.int .i64 a0, .int .i64 832] rfl (by (try simp only [List.map_toArray, List.map_cons, List.map_nil]); first | done | rfl | (simp only [List.length_drop, List.length_take]; rfl)) ?_; (with_reducible refine (span_near.calls a0 832 t103 _ A2.out).mono ?_); rintro e w5 ⟨rfl, hb⟩; refine ⟨_, rfl, ?_⟩; have n0_ := Aside0.mk (below_step (by repeat (first | (with_reducible first | exact HB.out | apply below_alloc | apply pw_below_drewN | apply below_drew1) | exact HB.out)) hb); clear HB; have HB := n0_; clear n0_; (try clear hb); (try clear hb2); (try clear hk); (try clear hi)) | ((with_reducible refine gate_callee (f := 86) rfl ?_); refine goesL_ (some 6) rfl rfl Tryd.func86 (by kernel_rfl) rfl #[.int .i64 t103] rfl (by (try simp only [List.map_toArray, List.map_cons, List.map_nil]); first | done | rfl | (simp only [List.length_drop, List.length_take]; rfl)) ?_; (with_reducible refine (span_Where.calls t103 t104 t105 _ A3.out).mono ?_); rintro e w6 ⟨rfl, hb⟩; refine ⟨_, rfl, ?_⟩; have n0_ := Aside0.mk (below_step (by repeat (first | (with_reducible first | exact HB.out | apply below_alloc | apply pw_below_drewN | apply below_drew1) | exact HB.out)) hb); clear HB; have HB := n0_; clear n0_; (try clear hb); (try clear hb2); (try clear hk); (try clear hi)))
    go_ret
    exact ⟨by first | rfl | (simp [errW_none, errW_some] <;> rfl) | (simp [*, errW_none, errW_some] <;> rfl), by repeat (first | (with_reducible first | exact HB.out | apply below_alloc | apply pw_below_drewN | apply below_drew1) | exact HB.out)⟩
  · rw [if_neg c4] at H
    have c4b0 : (t104 == 16 && (t105 == 0)) = false := by simpa using c4
    (try (have c4b1 : decide (t104 = 16 && (t105 == 0)) = false := by simpa using c4))
    (try (have c4b2 : (t104 == 16 && (t105 == 0)) = false := by simpa using c4))
    (try (have c4b3 : ¬ (t104 = 16 && (t105 == 0)) := by simpa using c4))
    clear c4
    obtain rfl := Option.some.inj H
    go_enter Tryd.func76, Tryd.ntmps76
    go_wp2_with (first | ((with_reducible refine gate_callee (f := 85) rfl ?_); refine goesL_ (some 4) rfl rfl Tryd.func85 (by kernel_rfl) rfl #[.int .i64 a0, .int .i64 832] rfl (by (try simp only [List.map_toArray, List.map_cons, List.map_nil]); first | done | rfl | (simp only [List.length_drop, List.length_take]; rfl)) ?_; (with_reducible refine (span_near.calls a0 832 t103 _ A2.out).mono ?_); rintro e w7 ⟨rfl, hb⟩; refine ⟨_, rfl, ?_⟩; have n0_ := Aside0.mk (below_step (by repeat (first | (with_reducible first | exact HB.out | apply below_alloc | apply pw_below_drewN | apply below_drew1) | exact HB.out)) hb); clear HB; have HB := n0_; clear n0_; (try clear hb); (try clear hb2); (try clear hk); (try clear hi)) | ((with_reducible refine gate_callee (f := 86) rfl ?_); refine goesL_ (some 6) rfl rfl Tryd.func86 (by kernel_rfl) rfl #[.int .i64 t103] rfl (by (try simp only [List.map_toArray, List.map_cons, List.map_nil]); first | done | rfl | (simp only [List.length_drop, List.length_take]; rfl)) ?_; (with_reducible refine (span_Where.calls t103 t104 t105 _ A3.out).mono ?_); rintro e w8 ⟨rfl, hb⟩; refine ⟨_, rfl, ?_⟩; have n0_ := Aside0.mk (below_step (by repeat (first | (with_reducible first | exact HB.out | apply below_alloc | apply pw_below_drewN | apply below_drew1) | exact HB.out)) hb); clear HB; have HB := n0_; clear n0_; (try clear hb); (try clear hb2); (try clear hk); (try clear hi)))
    go_ret
    exact ⟨by first | rfl | (simp [errW_none, errW_some] <;> rfl) | (simp [*, errW_none, errW_some] <;> rfl), by repeat (first | (with_reducible first | exact HB.out | apply below_alloc | apply pw_below_drewN | apply below_drew1) | exact HB.out)⟩


end Go.Proofs.YthhbilkmdfdfiaaDoor.F
end

section
/- Small words for texts made by hand: a wanted operation of a region that draws its order. -/
namespace Go.Proofs.YthhbilkmdfdfiaaDoor.F
open Go.RowKit Go.Proofs.YthhbilkmdfdfiaaDoorW.PrintWords Go.Proofs.YthhbilkmdfdfiaaDoorW.PrintLast Go.Proofs.YthhbilkmdfdfiaaDoorW.PrintMore
theorem wanted_ {P : Program} {ops : Array Oper} {Q : Exit → Act → World → Prop} {K : Act → World → Prop} {o : Oper} {N : Option Tmp} {a : Act} {w : World} (hw : Region.wanted o (yielded ops a.tmps) = true) (h : Oper.wp P o a w K Q) :
    if Region.wanted o (yielded ops a.tmps) = true then Oper.wp P o a w K Q else K (a.put N undef) w := by
  rw [if_pos hw]
  exact h
end Go.Proofs.YthhbilkmdfdfiaaDoor.F
end
