/- CrashAll: the statement's function. -/
import Derived.Test.YthlpimojojofbaaCrashRef
import Derived.Test.YthlpimojojofbaaAwake09
namespace Go.Proofs.Ythlpimojojofbaa.O
open Go.RowKit Go.Proofs.YthlpimojojofbaaW.PrintWords Go.Proofs.YthlpimojojofbaaW.PrintLast Go.Proofs.YthlpimojojofbaaW.PrintMore Go.Proofs.Ythlpimojojofbaa.F Go.Proofs.Ythlpimojojofbaa.Plain
set_option linter.unusedVariables false
set_option linter.unusedSimpArgs false
/-- element i's first byte -/
theorem keep_at {w : World} {A : Option Addr} {N : Nat} (h : Kd.C k37 w A N (allX N)) (i : Nat) (hi : i < N) :
    ∃ ad ad2 c2, A = some ad ∧ (∀ X, Below w.heap.size w X → X.cell? (ad.add (i * 3)) = some (.slice (some ad2) 1 c2)) ∧ (∀ X, Below w.heap.size w X → X.cell? ad2 = some (.int .u8 (i : Int))) := by
  obtain ⟨ad, c, e, _, hK, hc0⟩ := Kd.C_get h z37 (i : Int) (by omega) (by omega)
  have ex := allX_at N i hi
  unfold rd_T37 at ex
  rw [ex] at hK
  rw [Int.toNat_natCast] at hc0
  obtain ⟨A2, c2, rfl, l2, g2⟩ := k37_open hK
  obtain ⟨ad2, e2, hc2⟩ := (Rd.of_C g2) (by simp [nums])
  have x0 := hc0 0 _ rfl
  have x1 := hc2 0 _ rfl
  rw [Nat.add_zero] at x0
  have e3 : ad2.add 0 = ad2 := by simp [Addr.add]
  rw [e3] at x1
  subst e2
  exact ⟨ad, ad2, c2, e, fun X hX => (hX.cell (World.block_lt_of_cell? w _ x0)).trans x0, fun X hX => (hX.cell (World.block_lt_of_cell? w _ x1)).trans x1⟩
set_option maxRecDepth 100000 in
set_option maxHeartbeats 4000000 in
theorem crashAll_law (n cut : Int) (w : World) : Calls Try.prog 4 #[.int .i64 n, .int .i64 cut] w fun e w' => e = .returned (.bool true) ∧ Below w.heap.size w w' := by
  have H := Own.start w
  obtain ⟨m, hm, hm8⟩ := near_nat n 8
  obtain ⟨m6, hm6, hm66⟩ := near_nat n 6
  obtain ⟨N, hN⟩ : ∃ N, N = 2 ^ m := ⟨_, rfl⟩
  obtain ⟨N6, hN6⟩ : ∃ N, N = 2 ^ m6 := ⟨_, rfl⟩
  obtain ⟨p1, p2⟩ := pow_le m N hm8 hN
  obtain ⟨p3, p4⟩ := pow_le m6 N6 (by omega) hN6
  have FA := fun W => all_C n m N hm hm8 hN W
  have FT := fun W => tears_C n cut m6 N6 hm6 hm66 hN6 W
  have RA := fun W => strandlineref09_All.calls 1000 n _ W (rall_eq n m N 1000 hm hm8 hN (by decide))
  have RT := fun W => rtears_C n cut m6 N6 hm6 hm66 hN6 W
  have S1 := fun W A0 c0 A1 c1 h0 h1 => same09 N (allX N) A0 c0 A1 c1 W h0 h1
  have S2 := fun W A0 c0 A1 c1 h0 h1 => same09 (N6 * m6) (specT (tall cut m6 N6)) A0 c0 A1 c1 W h0 h1
  have lA := allX_len N
  generalize specT (tall cut m6 N6) = XT at FT RT S2
  generalize N6 * m6 = NT at FT RT S2
  clear hm hm6 hN hN6 hm8 hm66 p3 p4
  go_enter Try.func4, Try.ntmps4
  go_wp2_with (first
    | (go_at_call 24; (with_reducible refine (FA _).mono ?_); rintro e W1 ⟨A1, c1, rfl, hc1, hC1, hb⟩; replace H := H.to hb; clear hb)
    | (go_at_call 26; (with_reducible refine (RA _).mono ?_); rintro e W2 ⟨v2, rfl, hS, hb⟩; obtain ⟨A2, c2, rfl, hc2, hC2⟩ := Kd.R_reads (Kd.S_R hS); rw [lA] at hc2 hC2; have hC12 := Kd.C_below hC1 hb; replace H := H.to hb; clear hb hS)
    | (go_at_call 27; (with_reducible refine (FT _).mono ?_); rintro e W4 ⟨A4, c4, rfl, hc4, hC4, hb⟩; have hC14 := Kd.C_below hC13 hb; replace H := H.to hb; clear hb)
    | (go_at_call 28; (with_reducible refine (RT _).mono ?_); rintro e W5 ⟨A5, c5, rfl, hc5, hC5, hb⟩; have hC15 := Kd.C_below hC14 hb; have hC45 := Kd.C_below hC4 hb; replace H := H.to hb; clear hb)
    | (go_at_call 25; (with_reducible refine (S1 _ _ _ _ _ hC12 hC2).mono ?_); rintro e W3 ⟨rfl, hb⟩; have hC13 := Kd.C_below hC12 hb; replace H := H.to hb; clear hb)
    | (go_at_call 25; (with_reducible refine (S2 _ _ _ _ _ hC45 hC5).mono ?_); rintro e W6 ⟨rfl, hb⟩; have hC16 := Kd.C_below hC15 hb; replace H := H.to hb; clear hb))
  have hb := H.below
  have E := fun k hk => keep_at hC16 k hk
  have H := Own.start W6
  clear FA RA S1 FT RT S2 hC1 hC2 hC12 hC13 hC14 hC15 hC4 hC5 hC45
  go_loopg [6] (N - 1) (fun gq v6 w' => ∃ k : Nat, v6 = .int .i64 (k : Int) ∧ 1 ≤ k ∧ k + gq = N ∧ Own W6 F0 [] w')
  case atStart => exact ⟨1, rfl, Nat.le_refl _, by omega, H⟩
  case round =>
    clear H
    obtain ⟨k, rfl, hk1, hk, H⟩ := hrel
    by_cases ck : k < N
    · obtain ⟨gk', rfl⟩ : ∃ q, gk = q + 1 := ⟨gk - 1, by omega⟩
      obtain ⟨j, rfl⟩ : ∃ j, k = j + 1 := ⟨k - 1, by omega⟩
      have q3 : decide (((j + 1 : Nat) : Int) < (N : Int)) = true := decide_eq_true (by omega)
      have p0 : ((0 : Int) ≤ (((j + 1 : Nat)) : Int)) = True := eq_true (by omega)
      have p1' : ((((j + 1 : Nat)) : Int) < (N : Int)) = True := eq_true (by omega)
      have p2' : ((0 : Int) ≤ (j : Int)) = True := eq_true (by omega)
      have p3' : ((j : Int) < (N : Int)) = True := eq_true (by omega)
      have hw1 : wrap64 ((((j + 1 : Nat)) : Int) - 1) = (j : Int) := by rw [show (((j + 1 : Nat)) : Int) - 1 = (j : Int) by omega]; exact w64 (by omega) (by omega)
      have hw : IntKind.i64.wrap ((((j + 1 : Nat)) : Int) - 1) = (j : Int) := (i64_w _).trans hw1
      have q4 : decide (j + 1 ≤ j) = false := decide_eq_false (by omega)
      obtain ⟨ad, ad1, c21, rfl, FX, FB⟩ := E (j + 1) ck
      obtain ⟨ad', ad2, c22, e2, FY, FC⟩ := E j (by omega)
      obtain rfl := Option.some.inj e2
      clear E
      obtain ⟨kk, hkk⟩ : ∃ kk : Nat, j + 1 = kk := ⟨_, rfl⟩
      have HK := Lib.hid hkk
      rw [hkk] at q3 p0 p1' hw hw1 q4 FX FB ck hk ⊢
      clear hkk
      go_wp2
      refine start_ (n := 16) (S := Own _ _ _) (ds := []) #[false, false, false, false, false, false, false, false, false, false, false, false, false, false, false, false] (by kernel_rfl) rfl rfl H.drew (fun hHeld => ?_)
      replace H := H.drew
      generalize World.drew _ = W at H hHeld ⊢
      refine pure_ (i := 0) (N := some 30) (v := ?_) (a' := ?_) #[true, false, false, false, false, false, false, false, false, false, false, false, false, false, false, false] rfl rfl (by kernel_rfl) (fun _ _ _ h => h) (Or.inl ⟨by rfl, ?_⟩) ?_ ?_
      rotate_left
      · intro w'
        go_simp
        with_reducible rfl
      rotate_left
      · simp only [Act.put, List.setIfInBounds_toArray, List.set_cons_zero, List.set_cons_succ, i64_w, i32_w]
        rfl
      refine pure_ (i := 1) (N := some 31) (v := ?_) (a' := ?_) #[true, true, false, false, false, false, false, false, false, false, false, false, false, false, false, false] rfl rfl (by kernel_rfl) (fun _ _ _ h => h) (Or.inl ⟨by rfl, ?_⟩) ?_ ?_
      rotate_left
      · intro w'
        go_simp
        with_reducible rfl
      rotate_left
      · simp only [Act.put, List.setIfInBounds_toArray, List.set_cons_zero, List.set_cons_succ, i64_w, i32_w]
        rfl
      refine pure_ (i := 2) (N := some 32) (v := ?_) (a' := ?_) #[true, true, true, false, false, false, false, false, false, false, false, false, false, false, false, false] rfl rfl (by kernel_rfl) (fun _ _ _ h => h) (Or.inl ⟨by rfl, ?_⟩) ?_ ?_
      rotate_left
      · intro w'
        go_simp
        with_reducible rfl
      rotate_left
      · simp only [Act.put, List.setIfInBounds_toArray, List.set_cons_zero, List.set_cons_succ, i64_w, i32_w]
        rfl
      refine pure_ (i := 3) (N := some 33) (v := ?_) (a' := ?_) #[true, true, true, true, false, false, false, false, false, false, false, false, false, false, false, false] rfl rfl (by kernel_rfl) (fun _ _ _ h => h) (Or.inl ⟨by rfl, ?_⟩) ?_ ?_
      rotate_left
      · intro w'
        go_simp
        with_reducible rfl
      rotate_left
      · simp only [Act.put, List.setIfInBounds_toArray, List.set_cons_zero, List.set_cons_succ, i64_w, i32_w]
        rfl
      refine pure_ (i := 7) (N := some 37) (v := ?_) (a' := ?_) #[true, true, true, true, false, false, false, true, false, false, false, false, false, false, false, false] rfl rfl (by kernel_rfl) (fun _ _ _ h => h) (Or.inl ⟨by rfl, ?_⟩) ?_ ?_
      rotate_left
      · intro w'
        go_simp
        with_reducible rfl
      rotate_left
      · simp only [Act.put, List.setIfInBounds_toArray, List.set_cons_zero, List.set_cons_succ, i64_w, i32_w]
        rfl
      refine pure_ (i := 8) (N := some 38) (v := ?_) (a' := ?_) #[true, true, true, true, false, false, false, true, true, false, false, false, false, false, false, false] rfl rfl (by kernel_rfl) (fun _ _ _ h => h) (Or.inl ⟨by rfl, ?_⟩) ?_ ?_
      rotate_left
      · intro w'
        go_simp
        with_reducible rfl
      rotate_left
      · simp only [Act.put, List.setIfInBounds_toArray, List.set_cons_zero, List.set_cons_succ, i64_w, i32_w]
        rfl
      refine pure_ (i := 9) (N := some 39) (v := ?_) (a' := ?_) #[true, true, true, true, false, false, false, true, true, true, false, false, false, false, false, false] rfl rfl (by kernel_rfl) (fun _ _ _ h => h) (Or.inl ⟨by rfl, ?_⟩) ?_ ?_
      rotate_left
      · intro w'
        go_simp
        with_reducible rfl
      rotate_left
      · simp only [Act.put, List.setIfInBounds_toArray, List.set_cons_zero, List.set_cons_succ, i64_w, i32_w]
        rfl
      refine pure_ (i := 10) (N := some 40) (v := ?_) (a' := ?_) #[true, true, true, true, false, false, false, true, true, true, true, false, false, false, false, false] rfl rfl (by kernel_rfl) (fun _ _ _ h => h) (Or.inl ⟨by rfl, ?_⟩) ?_ ?_
      rotate_left
      · intro w'
        go_simp
        with_reducible rfl
      rotate_left
      · simp only [Act.put, List.setIfInBounds_toArray, List.set_cons_zero, List.set_cons_succ, i64_w, i32_w]
        rfl
      refine pure_ (i := 11) (N := some 41) (v := ?_) (a' := ?_) #[true, true, true, true, false, false, false, true, true, true, true, true, false, false, false, false] rfl rfl (by kernel_rfl) (fun _ _ _ h => h) (Or.inl ⟨by rfl, ?_⟩) ?_ ?_
      rotate_left
      · intro w'
        go_simp
        with_reducible rfl
      rotate_left
      · simp only [Act.put, List.setIfInBounds_toArray, List.set_cons_zero, List.set_cons_succ, i64_w, i32_w]
        rfl
      refine take_run (i := 4) (N := some 34) (a' := ?_) #[true, true, true, true, true, false, false, true, true, true, true, true, false, false, false, false] rfl rfl (by kernel_rfl) (fun _ _ _ _ h => h) (by rfl) hHeld (.slice (some ad1) 1 c21) (fun X HX => r_loadCell 35 _ rfl rfl (FX X HX.below) _ Try.underlying35 rfl) ?_ ?_
      rotate_left
      · simp only [Act.put, List.setIfInBounds_toArray, List.set_cons_zero, List.set_cons_succ, i64_w, i32_w]
        rfl
      refine pure_ (i := 5) (N := some 35) (v := ?_) (a' := ?_) #[true, true, true, true, true, true, false, true, true, true, true, true, false, false, false, false] rfl rfl (by kernel_rfl) (fun _ _ _ h => h) (Or.inl ⟨by rfl, ?_⟩) ?_ ?_
      rotate_left
      · intro w'
        go_simp
        with_reducible rfl
      rotate_left
      · simp only [Act.put, List.setIfInBounds_toArray, List.set_cons_zero, List.set_cons_succ, i64_w, i32_w]
        rfl
      refine take_run (i := 6) (N := some 36) (a' := ?_) #[true, true, true, true, true, true, true, true, true, true, true, true, false, false, false, false] rfl rfl (by kernel_rfl) (fun _ _ _ _ h => h) (by rfl) hHeld (.int .u8 (kk : Int)) (fun X HX => r_loadCell 5 _ rfl rfl (FB X HX.below) _ Try.underlying5 rfl) ?_ ?_
      rotate_left
      · simp only [Act.put, List.setIfInBounds_toArray, List.set_cons_zero, List.set_cons_succ, i64_w, i32_w]
        rfl
      refine take_run (i := 12) (N := some 42) (a' := ?_) #[true, true, true, true, true, true, true, true, true, true, true, true, true, false, false, false] rfl rfl (by kernel_rfl) (fun _ _ _ _ h => h) (by rfl) hHeld (.slice (some ad2) 1 c22) (fun X HX => r_loadCell 35 _ rfl rfl (FY X HX.below) _ Try.underlying35 rfl) ?_ ?_
      rotate_left
      · simp only [Act.put, List.setIfInBounds_toArray, List.set_cons_zero, List.set_cons_succ, i64_w, i32_w]
        rfl
      refine pure_ (i := 13) (N := some 43) (v := ?_) (a' := ?_) #[true, true, true, true, true, true, true, true, true, true, true, true, true, true, false, false] rfl rfl (by kernel_rfl) (fun _ _ _ h => h) (Or.inl ⟨by rfl, ?_⟩) ?_ ?_
      rotate_left
      · intro w'
        go_simp
        with_reducible rfl
      rotate_left
      · simp only [Act.put, List.setIfInBounds_toArray, List.set_cons_zero, List.set_cons_succ, i64_w, i32_w]
        rfl
      refine take_run (i := 14) (N := some 44) (a' := ?_) #[true, true, true, true, true, true, true, true, true, true, true, true, true, true, true, false] rfl rfl (by kernel_rfl) (fun _ _ _ _ h => h) (by rfl) hHeld (.int .u8 (j : Int)) (fun X HX => r_loadCell 5 _ rfl rfl (FC X HX.below) _ Try.underlying5 rfl) ?_ ?_
      rotate_left
      · simp only [Act.put, List.setIfInBounds_toArray, List.set_cons_zero, List.set_cons_succ, i64_w, i32_w]
        rfl
      refine pure_ (i := 15) (N := some 45) (v := ?_) (a' := ?_) #[true, true, true, true, true, true, true, true, true, true, true, true, true, true, true, true] rfl rfl (by kernel_rfl) (fun _ _ _ h => h) (Or.inl ⟨by rfl, ?_⟩) ?_ ?_
      rotate_left
      · intro w'
        go_simp
        with_reducible rfl
      rotate_left
      · simp only [Act.put, List.setIfInBounds_toArray, List.set_cons_zero, List.set_cons_succ, i64_w, i32_w]
        rfl
      refine done_ (by kernel_rfl) ?_
      clear hHeld
      go_wp2
      go_roundg gk'
      case measure => omega
      case rel => exact ⟨kk + 1, by go_num, by omega, by omega, H⟩
    · have q3 : decide (k < N) = false := decide_eq_false ck
      go_wp2_with (first
    | (go_at_call 29; (with_reducible refine (awake09 _).mono ?_); rintro e W7 ⟨rfl, hb7⟩; replace H := H.to hb7; clear hb7))
      go_ret
      exact ⟨rfl, hb.trans (H.below.mono hb.size)⟩
end Go.Proofs.Ythlpimojojofbaa.O
