/- The statement's own function. Turned out of what the kit's print told for this seat. -/
import Derived.Test.YtflkhjleknmfpaaF0
import Derived.Test.YtflkhjleknmfpaaFkStrandlinelaw01
import Derived.Test.YtflkhjleknmfpaaFkStrandlineref01
import Derived.Test.YtflkhjleknmfpaaFkWord
namespace Go.Proofs.Ytflkhjleknmfpaa.F
open Go.RowKit Go.Proofs.YtflkhjleknmfpaaW.PrintWords Go.Proofs.YtflkhjleknmfpaaW.PrintLast Go.Proofs.YtflkhjleknmfpaaW.PrintMore
attribute [local go_sem high] eqA35
attribute [local go_sem] field35_0
attribute [local go_sem] field35_1
attribute [local go_sem] max2_int min2_int max_two min_two max_three min_three max_four min_four
set_option linter.unusedVariables false
set_option linter.unusedSimpArgs false

/-! ### strandlinelaw01_WordZigs: function 4 -/
def strandlinelaw01_WordZigs.j0 : Nat → Int → List Int → Bool → Option (Bool)
  | 0, _, _, _ => none
  | k + 1, x0, x2, x32 => if x32 = true then (some false) else ((word_Bit.f x2 x0).bind fun t123 => ((strandlineref01_Bit.f k x2 x0).bind fun t124 => (if (t123 == t124) = true then ((strandlinelaw01_awake.f k).bind fun t125 => (some t125)) else (some false))))
def strandlinelaw01_WordZigs.f (k : Nat) (a0 : Int) (a1 : Int) (l2 : List Int) : Option (Bool) := (word_Zig.f a0).bind fun t115 => ((strandlineref01_Zig.f a0).bind fun t116 => (if t115 = t116 then ((word_Zag.f a1).bind fun t117 => ((strandlineref01_Zag.f a1).bind fun t118 => (if t117 = t118 then ((word_Zig.f a0).bind fun t119 => ((word_Zag.f t119).bind fun t120 => (if t120 = a0 then ((word_Zag.f a1).bind fun t121 => ((word_Zig.f t121).bind fun t122 => (strandlinelaw01_WordZigs.j0 k a0 l2 (t122 != a1)))) else (strandlinelaw01_WordZigs.j0 k a0 l2 true)))) else (strandlinelaw01_WordZigs.j0 k a0 l2 true)))) else (strandlinelaw01_WordZigs.j0 k a0 l2 true)))
theorem strandlinelaw01_WordZigs.mono_l : ∀ k, (∀ y0 y1 y2, LeO (strandlinelaw01_WordZigs.j0 k y0 y1 y2) (strandlinelaw01_WordZigs.j0 (k + 1) y0 y1 y2))
  | 0 => fun _ _ _ r h => by simp [strandlinelaw01_WordZigs.j0] at h
  | k + 1 => by
    have ih0 := strandlinelaw01_WordZigs.mono_l k
    · intro y0 y1 y2
      unfold strandlinelaw01_WordZigs.j0
      repeat' first
      | (with_reducible exact ih0 _ _ _)
      | (with_reducible exact strandlinelaw01_awake.mono _)
      | (with_reducible exact strandlineref01_Bit.mono _ _ _)
      | (with_reducible exact LeO.refl _)
      | (with_reducible exact LeO.none _)
      | (with_reducible refine LeO.ite ?_ ?_)
      | (with_reducible refine LeO.bind ?_ (fun _ => ?_))
      | exact ih0 _ _ _
      | exact strandlinelaw01_awake.mono _
      | exact strandlineref01_Bit.mono _ _ _
      | exact LeO.none _
      | refine LeO.ite ?_ ?_
      | refine LeO.bind ?_ (fun _ => ?_)
theorem strandlinelaw01_WordZigs.mono : ∀ a0 a1 a2 k, LeO (strandlinelaw01_WordZigs.f k a0 a1 a2) (strandlinelaw01_WordZigs.f (k + 1) a0 a1 a2) := by
  intro a0 a1 a2 k
  have ih0 := strandlinelaw01_WordZigs.mono_l k
  unfold strandlinelaw01_WordZigs.f
  repeat' first
      | (with_reducible exact ih0 _ _ _)
      | (with_reducible exact strandlinelaw01_awake.mono _)
      | (with_reducible exact strandlineref01_Bit.mono _ _ _)
      | (with_reducible exact LeO.refl _)
      | (with_reducible exact LeO.none _)
      | (with_reducible refine LeO.ite ?_ ?_)
      | (with_reducible refine LeO.bind ?_ (fun _ => ?_))
      | exact ih0 _ _ _
      | exact strandlinelaw01_awake.mono _
      | exact strandlineref01_Bit.mono _ _ _
      | exact LeO.none _
      | refine LeO.ite ?_ ?_
      | refine LeO.bind ?_ (fun _ => ?_)
set_option maxHeartbeats 8000000 in
set_option maxRecDepth 100000 in
theorem strandlinelaw01_WordZigs.calls (k : Nat) (a0 : Int) (a1 : Int) (A2 : Option Addr) (c2 : Nat) (l2 : List Int) (r : Bool) (w : World) (hr2 : Kd.C (Kd.int .u8) w A2 l2.length l2) (hc2 : l2.length ≤ c2) (h : strandlinelaw01_WordZigs.f k a0 a1 l2 = some r) :
    Calls Try.prog 4 #[.int .i64 a0, .int .u64 a1, .slice A2 l2.length c2] w fun e w' => e = .returned (.bool r) ∧ Below w.heap.size w w' := by
  have hu35 := Try.underlying35
  have hu52 := Try.underlying52
  have HR2 := Aside0.mk hr2
  have HC2 := Aside0.mk hc2
  clear hr2 hc2
  have HB := Aside0.mk (Below.refl w.heap.size w)
  have H : ((word_Zig.f a0).bind fun t115 => ((strandlineref01_Zig.f a0).bind fun t116 => (if t115 = t116 then ((word_Zag.f a1).bind fun t117 => ((strandlineref01_Zag.f a1).bind fun t118 => (if t117 = t118 then ((word_Zig.f a0).bind fun t119 => ((word_Zag.f t119).bind fun t120 => (if t120 = a0 then ((word_Zag.f a1).bind fun t121 => ((word_Zig.f t121).bind fun t122 => (strandlinelaw01_WordZigs.j0 k a0 l2 (t122 != a1)))) else (strandlinelaw01_WordZigs.j0 k a0 l2 true)))) else (strandlinelaw01_WordZigs.j0 k a0 l2 true)))) else (strandlinelaw01_WordZigs.j0 k a0 l2 true)))) = some r := h
  clear h
  have HC4 := Aside0.mk H
  clear H
  go_enter Try.func4, Try.ntmps4
  go_upto_region 1 with (fail)
  go_cut [32] (fun v32 wc => ∃ (kq : Nat) (x32_3 : Bool), v32 = .bool x32_3 ∧ Aside0 (strandlinelaw01_WordZigs.j0 kq a0 l2 x32_3 = some r) ∧ Aside0 (kq ≤ k) ∧ Aside0 (Below w.heap.size w wc))
  case first =>
    have H := HC4.out
    clear HC4
    replace H := Option.bind_eq_some_iff.mp H
    obtain ⟨t115, A50, H⟩ := H
    replace H : ((strandlineref01_Zig.f a0).bind fun t116 => (if t115 = t116 then ((word_Zag.f a1).bind fun t117 => ((strandlineref01_Zag.f a1).bind fun t118 => (if t117 = t118 then ((word_Zig.f a0).bind fun t119 => ((word_Zag.f t119).bind fun t120 => (if t120 = a0 then ((word_Zag.f a1).bind fun t121 => ((word_Zig.f t121).bind fun t122 => (strandlinelaw01_WordZigs.j0 k a0 l2 (t122 != a1)))) else (strandlinelaw01_WordZigs.j0 k a0 l2 true)))) else (strandlinelaw01_WordZigs.j0 k a0 l2 true)))) else (strandlinelaw01_WordZigs.j0 k a0 l2 true))) = some r := H
    have A5 := Aside0.mk A50
    clear A50
    replace H := Option.bind_eq_some_iff.mp H
    obtain ⟨t116, A60, H⟩ := H
    replace H : (if t115 = t116 then ((word_Zag.f a1).bind fun t117 => ((strandlineref01_Zag.f a1).bind fun t118 => (if t117 = t118 then ((word_Zig.f a0).bind fun t119 => ((word_Zag.f t119).bind fun t120 => (if t120 = a0 then ((word_Zag.f a1).bind fun t121 => ((word_Zig.f t121).bind fun t122 => (strandlinelaw01_WordZigs.j0 k a0 l2 (t122 != a1)))) else (strandlinelaw01_WordZigs.j0 k a0 l2 true)))) else (strandlinelaw01_WordZigs.j0 k a0 l2 true)))) else (strandlinelaw01_WordZigs.j0 k a0 l2 true)) = some r := H
    have A6 := Aside0.mk A60
    clear A60
    by_cases c7 : t115 = t116
    · rw [if_pos c7] at H
      have c7b0 : (t115 == t116) = true := beq_iff_eq.mpr c7
      have c7b1 : (t115 != t116) = false := bne_eq_false_iff_eq.mpr c7
      clear c7
      (first | rw [c7b0] | (simp only [i64_w, i32_w]; rw [c7b0]) | skip)
      replace H := Option.bind_eq_some_iff.mp H
      obtain ⟨t117, A80, H⟩ := H
      replace H : ((strandlineref01_Zag.f a1).bind fun t118 => (if t117 = t118 then ((word_Zig.f a0).bind fun t119 => ((word_Zag.f t119).bind fun t120 => (if t120 = a0 then ((word_Zag.f a1).bind fun t121 => ((word_Zig.f t121).bind fun t122 => (strandlinelaw01_WordZigs.j0 k a0 l2 (t122 != a1)))) else (strandlinelaw01_WordZigs.j0 k a0 l2 true)))) else (strandlinelaw01_WordZigs.j0 k a0 l2 true))) = some r := H
      have A8 := Aside0.mk A80
      clear A80
      replace H := Option.bind_eq_some_iff.mp H
      obtain ⟨t118, A90, H⟩ := H
      replace H : (if t117 = t118 then ((word_Zig.f a0).bind fun t119 => ((word_Zag.f t119).bind fun t120 => (if t120 = a0 then ((word_Zag.f a1).bind fun t121 => ((word_Zig.f t121).bind fun t122 => (strandlinelaw01_WordZigs.j0 k a0 l2 (t122 != a1)))) else (strandlinelaw01_WordZigs.j0 k a0 l2 true)))) else (strandlinelaw01_WordZigs.j0 k a0 l2 true)) = some r := H
      have A9 := Aside0.mk A90
      clear A90
      by_cases c10 : t117 = t118
      · rw [if_pos c10] at H
        have c10b0 : (t117 == t118) = true := beq_iff_eq.mpr c10
        have c10b1 : (t117 != t118) = false := bne_eq_false_iff_eq.mpr c10
        clear c10
        replace H := Option.bind_eq_some_iff.mp H
        obtain ⟨t119, A110, H⟩ := H
        replace H : ((word_Zag.f t119).bind fun t120 => (if t120 = a0 then ((word_Zag.f a1).bind fun t121 => ((word_Zig.f t121).bind fun t122 => (strandlinelaw01_WordZigs.j0 k a0 l2 (t122 != a1)))) else (strandlinelaw01_WordZigs.j0 k a0 l2 true))) = some r := H
        have A11 := Aside0.mk A110
        clear A110
        replace H := Option.bind_eq_some_iff.mp H
        obtain ⟨t120, A120, H⟩ := H
        replace H : (if t120 = a0 then ((word_Zag.f a1).bind fun t121 => ((word_Zig.f t121).bind fun t122 => (strandlinelaw01_WordZigs.j0 k a0 l2 (t122 != a1)))) else (strandlinelaw01_WordZigs.j0 k a0 l2 true)) = some r := H
        have A12 := Aside0.mk A120
        clear A120
        by_cases c13 : t120 = a0
        · rw [if_pos c13] at H
          have c13b0 : (t120 == a0) = true := beq_iff_eq.mpr c13
          have c13b1 : (t120 != a0) = false := bne_eq_false_iff_eq.mpr c13
          clear c13
          replace H := Option.bind_eq_some_iff.mp H
          obtain ⟨t121, A140, H⟩ := H
          replace H : ((word_Zig.f t121).bind fun t122 => (strandlinelaw01_WordZigs.j0 k a0 l2 (t122 != a1))) = some r := H
          have A14 := Aside0.mk A140
          clear A140
          replace H := Option.bind_eq_some_iff.mp H
          obtain ⟨t122, A150, H⟩ := H
          replace H : (strandlinelaw01_WordZigs.j0 k a0 l2 (t122 != a1)) = some r := H
          have A15 := Aside0.mk A150
          have A15q : Aside0 (word_Zig.f t117 = some t122) := ⟨by rw [show t117 = t121 from Option.some.inj (A8.out.symm.trans A14.out)]; exact A15.out⟩
          clear A150
          have H' := Aside0.mk H
          clear H
          go_wp2_with (first | ((with_reducible refine gate_callee (f := 18) rfl ?_); refine goesL_ (some 8) rfl rfl Try.func18 (by kernel_rfl) rfl #[.int .i64 a0] rfl (by (try simp only [List.map_toArray, List.map_cons, List.map_nil]); first | done | rfl | (simp only [List.length_drop, List.length_take]; rfl)) ?_; (with_reducible refine (word_Zig.calls a0 t115 _ A5.out).mono ?_); rintro e w' ⟨rfl, ⟨nd, rfl⟩⟩; refine ⟨_, rfl, ?_⟩) | ((with_reducible refine gate_callee (f := 19) rfl ?_); refine goesL_ (some 10) rfl rfl Try.func19 (by kernel_rfl) rfl #[.int .i64 a0] rfl (by (try simp only [List.map_toArray, List.map_cons, List.map_nil]); first | done | rfl | (simp only [List.length_drop, List.length_take]; rfl)) ?_; (with_reducible refine (strandlineref01_Zig.calls a0 t116 _ A6.out).mono ?_); rintro e w' ⟨rfl, ⟨nd, rfl⟩⟩; refine ⟨_, rfl, ?_⟩) | (go_at_call 20; (with_reducible refine (word_Zag.calls a1 t117 _ A8.out).mono ?_); rintro e w' ⟨rfl, ⟨nd, rfl⟩⟩) | (go_at_call 21; (with_reducible refine (strandlineref01_Zag.calls a1 t118 _ A9.out).mono ?_); rintro e w' ⟨rfl, ⟨nd, rfl⟩⟩) | (go_at_call 18; (with_reducible refine (word_Zig.calls a0 t119 _ A11.out).mono ?_); rintro e w' ⟨rfl, ⟨nd, rfl⟩⟩) | (go_at_call 20; (with_reducible refine (word_Zag.calls t119 t120 _ A12.out).mono ?_); rintro e w' ⟨rfl, ⟨nd, rfl⟩⟩) | (go_at_call 20; (with_reducible refine (word_Zag.calls a1 t121 _ A14.out).mono ?_); rintro e w' ⟨rfl, ⟨nd, rfl⟩⟩) | (go_at_call 18; (with_reducible refine (word_Zig.calls t117 t122 _ A15q.out).mono ?_); rintro e w' ⟨rfl, ⟨nd, rfl⟩⟩))
          go_meet
          case rel => exact ⟨_, ((t122 != a1)), (by first | rfl | (simp; done) | (simp [*]; done)), H', ⟨by first | omega | exact Nat.le_refl _⟩, ⟨by repeat (first | (with_reducible first | exact HB.out | apply below_alloc | apply pw_below_drewN | apply below_drew1) | exact HB.out)⟩⟩
        · rw [if_neg c13] at H
          have c13b0 : (t120 == a0) = false := beq_eq_false_iff_ne.mpr c13
          have c13b1 : (t120 != a0) = true := bne_iff_ne.mpr c13
          have H' := Aside0.mk H
          clear H
          go_wp2_with (first | ((with_reducible refine gate_callee (f := 18) rfl ?_); refine goesL_ (some 8) rfl rfl Try.func18 (by kernel_rfl) rfl #[.int .i64 a0] rfl (by (try simp only [List.map_toArray, List.map_cons, List.map_nil]); first | done | rfl | (simp only [List.length_drop, List.length_take]; rfl)) ?_; (with_reducible refine (word_Zig.calls a0 t115 _ A5.out).mono ?_); rintro e w' ⟨rfl, ⟨nd, rfl⟩⟩; refine ⟨_, rfl, ?_⟩) | ((with_reducible refine gate_callee (f := 19) rfl ?_); refine goesL_ (some 10) rfl rfl Try.func19 (by kernel_rfl) rfl #[.int .i64 a0] rfl (by (try simp only [List.map_toArray, List.map_cons, List.map_nil]); first | done | rfl | (simp only [List.length_drop, List.length_take]; rfl)) ?_; (with_reducible refine (strandlineref01_Zig.calls a0 t116 _ A6.out).mono ?_); rintro e w' ⟨rfl, ⟨nd, rfl⟩⟩; refine ⟨_, rfl, ?_⟩) | (go_at_call 20; (with_reducible refine (word_Zag.calls a1 t117 _ A8.out).mono ?_); rintro e w' ⟨rfl, ⟨nd, rfl⟩⟩) | (go_at_call 21; (with_reducible refine (strandlineref01_Zag.calls a1 t118 _ A9.out).mono ?_); rintro e w' ⟨rfl, ⟨nd, rfl⟩⟩) | (go_at_call 18; (with_reducible refine (word_Zig.calls a0 t119 _ A11.out).mono ?_); rintro e w' ⟨rfl, ⟨nd, rfl⟩⟩) | (go_at_call 20; (with_reducible refine (word_Zag.calls t119 t120 _ A12.out).mono ?_); rintro e w' ⟨rfl, ⟨nd, rfl⟩⟩))
          go_meet
          case rel => exact ⟨_, (true), (by first | rfl | (simp; done) | (simp [*]; done)), H', ⟨by first | omega | exact Nat.le_refl _⟩, ⟨by repeat (first | (with_reducible first | exact HB.out | apply below_alloc | apply pw_below_drewN | apply below_drew1) | exact HB.out)⟩⟩
      · rw [if_neg c10] at H
        have c10b0 : (t117 == t118) = false := beq_eq_false_iff_ne.mpr c10
        have c10b1 : (t117 != t118) = true := bne_iff_ne.mpr c10
        have H' := Aside0.mk H
        clear H
        go_wp2_with (first | ((with_reducible refine gate_callee (f := 18) rfl ?_); refine goesL_ (some 8) rfl rfl Try.func18 (by kernel_rfl) rfl #[.int .i64 a0] rfl (by (try simp only [List.map_toArray, List.map_cons, List.map_nil]); first | done | rfl | (simp only [List.length_drop, List.length_take]; rfl)) ?_; (with_reducible refine (word_Zig.calls a0 t115 _ A5.out).mono ?_); rintro e w' ⟨rfl, ⟨nd, rfl⟩⟩; refine ⟨_, rfl, ?_⟩) | ((with_reducible refine gate_callee (f := 19) rfl ?_); refine goesL_ (some 10) rfl rfl Try.func19 (by kernel_rfl) rfl #[.int .i64 a0] rfl (by (try simp only [List.map_toArray, List.map_cons, List.map_nil]); first | done | rfl | (simp only [List.length_drop, List.length_take]; rfl)) ?_; (with_reducible refine (strandlineref01_Zig.calls a0 t116 _ A6.out).mono ?_); rintro e w' ⟨rfl, ⟨nd, rfl⟩⟩; refine ⟨_, rfl, ?_⟩) | (go_at_call 20; (with_reducible refine (word_Zag.calls a1 t117 _ A8.out).mono ?_); rintro e w' ⟨rfl, ⟨nd, rfl⟩⟩) | (go_at_call 21; (with_reducible refine (strandlineref01_Zag.calls a1 t118 _ A9.out).mono ?_); rintro e w' ⟨rfl, ⟨nd, rfl⟩⟩))
        go_meet
        case rel => exact ⟨_, (true), (by first | rfl | (simp; done) | (simp [*]; done)), H', ⟨by first | omega | exact Nat.le_refl _⟩, ⟨by repeat (first | (with_reducible first | exact HB.out | apply below_alloc | apply pw_below_drewN | apply below_drew1) | exact HB.out)⟩⟩
    · rw [if_neg c7] at H
      have c7b0 : (t115 == t116) = false := beq_eq_false_iff_ne.mpr c7
      have c7b1 : (t115 != t116) = true := bne_iff_ne.mpr c7
      (first | rw [c7b0] | (simp only [i64_w, i32_w]; rw [c7b0]) | skip)
      have H' := Aside0.mk H
      clear H
      go_wp2_with (first | ((with_reducible refine gate_callee (f := 18) rfl ?_); refine goesL_ (some 8) rfl rfl Try.func18 (by kernel_rfl) rfl #[.int .i64 a0] rfl (by (try simp only [List.map_toArray, List.map_cons, List.map_nil]); first | done | rfl | (simp only [List.length_drop, List.length_take]; rfl)) ?_; (with_reducible refine (word_Zig.calls a0 t115 _ A5.out).mono ?_); rintro e w' ⟨rfl, ⟨nd, rfl⟩⟩; refine ⟨_, rfl, ?_⟩) | ((with_reducible refine gate_callee (f := 19) rfl ?_); refine goesL_ (some 10) rfl rfl Try.func19 (by kernel_rfl) rfl #[.int .i64 a0] rfl (by (try simp only [List.map_toArray, List.map_cons, List.map_nil]); first | done | rfl | (simp only [List.length_drop, List.length_take]; rfl)) ?_; (with_reducible refine (strandlineref01_Zig.calls a0 t116 _ A6.out).mono ?_); rintro e w' ⟨rfl, ⟨nd, rfl⟩⟩; refine ⟨_, rfl, ?_⟩))
      go_meet
      case rel => exact ⟨_, (true), (by first | rfl | (simp; done) | (simp [*]; done)), H', ⟨by first | omega | exact Nat.le_refl _⟩, ⟨by repeat (first | (with_reducible first | exact HB.out | apply below_alloc | apply pw_below_drewN | apply below_drew1) | exact HB.out)⟩⟩
  case rest =>
    clear HC4
    try clear c1
    try clear c2
    try clear p2
    try clear c4
    try clear c7
    try clear c7b0
    try clear c7b1
    try clear c10
    try clear c10b0
    try clear c10b1
    try clear c13
    try clear c13b0
    try clear c13b1
    obtain ⟨kq, x32_3, rfl, HA, HJ3, HB⟩ := hcut
    cases kq with
    | zero => exact absurd HA.out (by simp [strandlinelaw01_WordZigs.j0])
    | succ kj3 =>
      have H := HA.out
      clear HA
      simp only [strandlinelaw01_WordZigs.j0] at H
      by_cases c16 : x32_3 = true
      · subst c16
        have H1 : (some false) = some r := by rw [if_pos rfl] at H; exact H
        clear H
        have H := H1
        clear H1
        obtain rfl := Option.some.inj H
        go_wp2
        go_ret
        exact ⟨by first | rfl | (simp [errW_none, errW_some] <;> rfl) | (simp [*, errW_none, errW_some] <;> rfl), by repeat (first | (with_reducible first | exact HB.out | apply below_alloc | apply pw_below_drewN | apply below_drew1) | exact HB.out)⟩
      · replace c16 := Bool.eq_false_iff.mpr c16
        subst c16
        have H1 : ((word_Bit.f l2 a0).bind fun t123 => ((strandlineref01_Bit.f kj3 l2 a0).bind fun t124 => (if (t123 == t124) = true then ((strandlinelaw01_awake.f kj3).bind fun t125 => (some t125)) else (some false)))) = some r := by rw [if_neg (show ¬ (false = true) by decide)] at H; exact H
        clear H
        have H := H1
        clear H1
        replace H := Option.bind_eq_some_iff.mp H
        obtain ⟨t123, A170, H⟩ := H
        replace H : ((strandlineref01_Bit.f kj3 l2 a0).bind fun t124 => (if (t123 == t124) = true then ((strandlinelaw01_awake.f kj3).bind fun t125 => (some t125)) else (some false))) = some r := H
        have A17 := Aside0.mk A170
        clear A170
        replace H := Option.bind_eq_some_iff.mp H
        obtain ⟨t124, A180, H⟩ := H
        replace H : (if (t123 == t124) = true then ((strandlinelaw01_awake.f kj3).bind fun t125 => (some t125)) else (some false)) = some r := H
        have A18 := Aside0.mk A180
        clear A180
        by_cases c19 : (t123 == t124) = true
        · rw [if_pos c19] at H
          have c19b0 : (t123 == t124) = true := c19
          (try (have c19b1 : decide (t123 = t124) = true := by simpa using c19))
          (try (have c19b2 : (t123 == t124) = true := by simpa using c19))
          clear c19
          replace H := Option.bind_eq_some_iff.mp H
          obtain ⟨t125, A200, H⟩ := H
          replace H : (some t125) = some r := H
          have A20 := Aside0.mk A200
          clear A200
          obtain rfl := Option.some.inj H
          go_wp2_with (first | ((with_reducible refine gate_callee (f := 22) rfl ?_); refine goesL_ (some 35) rfl rfl Try.func22 (by kernel_rfl) rfl #[.slice A2 l2.length c2, .int .i64 a0] rfl (by (try simp only [List.map_toArray, List.map_cons, List.map_nil]); first | done | rfl | (simp only [List.length_drop, List.length_take]; rfl)) ?_; (with_reducible refine (word_Bit.calls _ _ l2 a0 t123 _ ?side1 ?side2 A17.out).mono ?_); (case side1 => repeat (first | exact (Kd.C_below HR2.out HB.out) | (with_reducible refine Kd.C_alloc ?_ _) | (with_reducible refine Kd.C_drewN ?_ _) | (with_reducible refine Kd.C_drew ?_))); (case side2 => exact HC2.out); rintro e w' ⟨rfl, ⟨nd, rfl⟩⟩; refine ⟨_, rfl, ?_⟩) | ((with_reducible refine gate_callee (f := 23) rfl ?_); refine goesL_ (some 38) rfl rfl Try.func23 (by kernel_rfl) rfl #[.slice A2 l2.length c2, .int .i64 a0] rfl (by (try simp only [List.map_toArray, List.map_cons, List.map_nil]); first | done | rfl | (simp only [List.length_drop, List.length_take]; rfl)) ?_; (with_reducible refine (strandlineref01_Bit.calls kj3 _ _ l2 a0 t124 _ ?side1 ?side2 A18.out).mono ?_); (case side1 => repeat (first | exact (Kd.C_below HR2.out (by repeat (first | (with_reducible first | exact HB.out | apply below_alloc | apply pw_below_drewN | apply below_drew1) | exact HB.out))) | (with_reducible refine Kd.C_alloc ?_ _) | (with_reducible refine Kd.C_drewN ?_ _) | (with_reducible refine Kd.C_drew ?_))); (case side2 => exact HC2.out); rintro e w' ⟨rfl, ⟨nd, rfl⟩⟩; refine ⟨_, rfl, ?_⟩) | (go_at_call 17; (with_reducible refine (strandlinelaw01_awake.calls kj3  t125 _ A20.out).mono ?_); rintro e w21 ⟨rfl, hb⟩; have n0_ := Aside0.mk (below_step (by repeat (first | (with_reducible first | exact HB.out | apply below_alloc | apply pw_below_drewN | apply below_drew1) | exact HB.out)) hb); clear HB; have HB := n0_; clear n0_; (try clear hb); (try clear hb2); (try clear hk); (try clear hi)))
          go_ret
          exact ⟨by first | rfl | (simp [errW_none, errW_some] <;> rfl) | (simp [*, errW_none, errW_some] <;> rfl), by repeat (first | (with_reducible first | exact HB.out | apply below_alloc | apply pw_below_drewN | apply below_drew1) | exact HB.out)⟩
        · rw [if_neg c19] at H
          have c19b0 : (t123 == t124) = false := by simpa using c19
          (try (have c19b1 : decide (t123 = t124) = false := by simpa using c19))
          (try (have c19b2 : (t123 == t124) = false := by simpa using c19))
          (try (have c19b3 : ¬ (t123 = t124) := by simpa using c19))
          clear c19
          obtain rfl := Option.some.inj H
          go_wp2_with (first | ((with_reducible refine gate_callee (f := 22) rfl ?_); refine goesL_ (some 35) rfl rfl Try.func22 (by kernel_rfl) rfl #[.slice A2 l2.length c2, .int .i64 a0] rfl (by (try simp only [List.map_toArray, List.map_cons, List.map_nil]); first | done | rfl | (simp only [List.length_drop, List.length_take]; rfl)) ?_; (with_reducible refine (word_Bit.calls _ _ l2 a0 t123 _ ?side1 ?side2 A17.out).mono ?_); (case side1 => repeat (first | exact (Kd.C_below HR2.out HB.out) | (with_reducible refine Kd.C_alloc ?_ _) | (with_reducible refine Kd.C_drewN ?_ _) | (with_reducible refine Kd.C_drew ?_))); (case side2 => exact HC2.out); rintro e w' ⟨rfl, ⟨nd, rfl⟩⟩; refine ⟨_, rfl, ?_⟩) | ((with_reducible refine gate_callee (f := 23) rfl ?_); refine goesL_ (some 38) rfl rfl Try.func23 (by kernel_rfl) rfl #[.slice A2 l2.length c2, .int .i64 a0] rfl (by (try simp only [List.map_toArray, List.map_cons, List.map_nil]); first | done | rfl | (simp only [List.length_drop, List.length_take]; rfl)) ?_; (with_reducible refine (strandlineref01_Bit.calls kj3 _ _ l2 a0 t124 _ ?side1 ?side2 A18.out).mono ?_); (case side1 => repeat (first | exact (Kd.C_below HR2.out (by repeat (first | (with_reducible first | exact HB.out | apply below_alloc | apply pw_below_drewN | apply below_drew1) | exact HB.out))) | (with_reducible refine Kd.C_alloc ?_ _) | (with_reducible refine Kd.C_drewN ?_ _) | (with_reducible refine Kd.C_drew ?_))); (case side2 => exact HC2.out); rintro e w' ⟨rfl, ⟨nd, rfl⟩⟩; refine ⟨_, rfl, ?_⟩))
          go_ret
          exact ⟨by first | rfl | (simp [errW_none, errW_some] <;> rfl) | (simp [*, errW_none, errW_some] <;> rfl), by repeat (first | (with_reducible first | exact HB.out | apply below_alloc | apply pw_below_drewN | apply below_drew1) | exact HB.out)⟩

/-- THE ONE PURE STATEMENT of strandlinelaw01_WordZigs: yours. -/
def strandlinelaw01_WordZigs.Pure : Prop := ∀ (a0 : Int) (a1 : Int) (l2 : List Int), (Lit.int .i64 a0).wf = true → (Lit.int .u64 a1).wf = true → l2.length ≤ maxLen → l2.length * 1 ≤ 140737488351232 → (∀ x ∈ l2, (Lit.int .u8 x).wf = true) → ∃ k, strandlinelaw01_WordZigs.f k a0 a1 l2 = some true
theorem strandlinelaw01_WordZigs.walk (P : strandlinelaw01_WordZigs.Pure) (a0 : Int) (a1 : Int) (a2 : Option Addr) (len2 cap2 : Nat) (z2 : List Int) (w : World) (w0 : (Lit.int .i64 a0).wf = true) (w1 : (Lit.int .u64 a1).wf = true) (w2 : (a2 = none ∧ len2 = 0 ∧ cap2 = 0 ∧ z2 = []) ∨ ∃ x, a2 = some x ∧ len2 ≤ cap2 ∧ cap2 ≤ maxLen ∧ z2.length = cap2 ∧ (∀ i, i < z2.length → w.cell? (x.add i) = some (.int .u8 (z2.getD i 0))) ∧ ∀ n ∈ z2, (Lit.int .u8 n).wf = true) (y2 : len2 * 1 ≤ 140737488351232) :
    Calls Try.prog 4 #[.int .i64 a0, .int .u64 a1, .slice a2 len2 cap2] w fun e w' => e = .returned (.bool true) ∧ Below w.heap.size w w' := by
  obtain ⟨l2, rfl, hr2, hm2, hw2, hc2⟩ := ReadsInt.ofRowC w2
  obtain ⟨k, h⟩ := P a0 a1 l2 w0 w1 hm2 y2 hw2
  refine (strandlinelaw01_WordZigs.calls k a0 a1 _ _ l2 true w (Kd.C_of_reads (d := (0 : Int)) (h1 := fun _ => rfl) hr2) hc2 h).mono ?_
  rintro e w' ⟨rfl, hd⟩
  exact ⟨rfl, hd⟩


end Go.Proofs.Ytflkhjleknmfpaa.F
