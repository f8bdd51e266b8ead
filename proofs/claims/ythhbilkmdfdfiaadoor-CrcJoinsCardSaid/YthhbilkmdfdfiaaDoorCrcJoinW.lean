/- crc's matrices, Shift, Join, by what is owned. -/
import Derived.Test.YthhbilkmdfdfiaaDoorCrcShift
import Derived.Test.YthhbilkmdfdfiaaDoorOwn2
import Derived.Test.YthhbilkmdfdfiaaDoorHand
import Derived.Test.YthhbilkmdfdfiaaDoorAwake03
set_option linter.unusedVariables false
set_option linter.unusedSimpArgs false
namespace Go.Proofs.YthhbilkmdfdfiaaDoor.O
open Go.RowKit Go.Proofs.YthhbilkmdfdfiaaDoorW.PrintWords Go.Proofs.YthhbilkmdfdfiaaDoorW.PrintLast Go.Proofs.YthhbilkmdfdfiaaDoorW.PrintMore Go.Proofs.YthhbilkmdfdfiaaDoor.F Go.Proofs.YthhbilkmdfdfiaaDoor.Plain Go.Proofs.YthhbilkmdfdfiaaDoor.CrcMath
theorem u32_and1 {x : Int} (h0 : 0 ≤ x) (h1 : x ≤ 4294967295) : bits .and .u32 x 1 = x % 2 := by
  show IntKind.u32.wrap ((BitVec.ofInt 32 x &&& BitVec.ofInt 32 1).toNat : Int) = _
  have h2 := bv32 x
  rw [BitVec.toNat_and, show (BitVec.ofInt 32 1).toNat = 2 ^ 1 - 1 by decide, Nat.and_two_pow_sub_one_eq_mod, IntKind.wrap_u32]
  omega
set_option maxRecDepth 100000 in
set_option maxHeartbeats 8000000 in
theorem times_calls (r x : Nat) (hx : x < 4294967296) (w : World) :
    Calls Tryd.prog 55 #[.agg (nums .u32 (mat r)).toArray, .int .u32 (x : Int)] w fun e W => e = .returned (.int .u32 ((itr r x : Nat) : Int)) ∧ Below w.heap.size w W := by
  have H := Own.start w
  have hml : (nums .u32 (mat r)).length = 32 := by rw [nums_length, mat_len]
  have hat : ∀ i, i < 32 → (nums .u32 (mat r))[i]? = some (.int .u32 ((itr r (2 ^ i) : Nat) : Int)) := fun i hi => by
    rw [nums_at i (by rw [mat_len]; exact hi), mat_getD r hi]
  have hall := mpart_all r hx
  go_enter Tryd.func55, Tryd.ntmps55
  go_wp2_with (first
    | ((with_reducible refine gate_dst (N := 2) rfl ?_); refine l_boxA rfl H 82 _ rfl _ rfl ?_; clear H; intro g2 W H)
    | ((with_reducible refine gate_dst (N := 8) rfl ?_); refine l_loadA rfl H 82 _ rfl _ rfl (by (repeat (first | exact In.head | apply In.tail))) _ _ Tryd.underlying82 rfl size82 (by (first | rfl | assumption | omega | (simp only [nums_length]; omega) | (simp [nums_length, zs]; done) | (simp [nums_length, zs]; omega))) ?_))
  go_loopg [5, 9] 32 (fun gq v5 v9 w' => ∃ k : Nat, v9 = .int .i64 (k : Int) ∧ k + gq = 32 ∧ v5 = .int .u32 ((mpart r x k : Nat) : Int) ∧ Own w F0 [.blk g2 82 (nums .u32 (mat r))] w')
  case atStart => exact ⟨0, rfl, rfl, by rw [mpart0]; rfl, H⟩
  case round =>
    clear H
    obtain ⟨k, rfl, hk, rfl, H⟩ := hrel
    by_cases ck : k < 32
    · obtain ⟨gk', rfl⟩ : ∃ q, gk = q + 1 := ⟨gk - 1, by omega⟩
      have q0 : ((k : Int) < 32) = True := eq_true (by omega)
      have q0' : decide ((k : Int) < 32) = true := decide_eq_true (by omega)
      have q1 : ((0 : Int) ≤ (k : Int)) = True := eq_true (by omega)
      have hv := hat k ck
      have hbit : bits .and .u32 ((x : Int) / 2 ^ k) 1 = ((x / 2 ^ k % 2 : Nat) : Int) := by
        have hlt : x / 2 ^ k < 4294967296 := Nat.lt_of_le_of_lt (Nat.div_le_self _ _) hx
        rw [show (x : Int) / 2 ^ k = ((x / 2 ^ k : Nat) : Int) by simp]
        generalize x / 2 ^ k = y at hlt ⊢
        rw [u32_and1 (by omega) (by omega)]
        omega
      have hst := mpart_step r x k
      by_cases hb : x / 2 ^ k % 2 = 1
      · have q2 : (bits .and .u32 ((x : Int) / 2 ^ k) 1 == 1) = true := by rw [hbit, hb]; rfl
        rw [if_pos hb] at hst
        have hxr := xor32_nat (mpart r x k) (itr r (2 ^ k)) (mpart_lt r hx k) (itr_lt r (pow_lt32 ck))
        clear hbit hb
        go_wp2_with (first
        | ((with_reducible refine gate_dst (N := 12) rfl ?_); refine l_run rfl (.int .u32 ((itr r (2 ^ k) : Nat) : Int)) (r_index1 82 _ _ rfl (nums .u32 (mat r)) rfl k rfl Tryd.underlying82 Tryd.underlying22 rfl size22 ck _ hv _) ?_))
        go_roundg gk'
        case measure => omega
        case rel => exact ⟨k + 1, by go_num, by omega, by rw [hst, ← hxr], H⟩
      · have q2 : (bits .and .u32 ((x : Int) / 2 ^ k) 1 == 1) = false := by rw [hbit, beq_eq_false_iff_ne]; omega
        rw [if_neg hb] at hst
        clear hbit hb
        go_wp2_with (first
        | ((with_reducible refine gate_dst (N := 12) rfl ?_); refine l_run rfl (.int .u32 ((itr r (2 ^ k) : Nat) : Int)) (r_index1 82 _ _ rfl (nums .u32 (mat r)) rfl k rfl Tryd.underlying82 Tryd.underlying22 rfl size22 ck _ hv _) ?_))
        go_roundg gk'
        case measure => omega
        case rel => exact ⟨k + 1, by go_num, by omega, by rw [hst], H⟩
    · obtain rfl : k = 32 := by omega
      rw [hall]
      clear hk ck
      go_wp2
      go_ret
      exact ⟨rfl, H.below⟩
set_option maxRecDepth 100000 in
set_option maxHeartbeats 8000000 in
theorem twice_calls (r : Nat) (w : World) :
    Calls Tryd.prog 56 #[.agg (nums .u32 (mat r)).toArray] w fun e W => e = .returned (.agg (nums .u32 (mat (r + r))).toArray) ∧ Below w.heap.size w W := by
  have H := Own.start w
  have hml : (nums .u32 (mat r)).length = 32 := by rw [nums_length, mat_len]
  have hz : (nums .u32 (zs 32)).length = 32 := by rw [nums_length]; rfl
  have hat : ∀ i, i < 32 → (nums .u32 (mat r))[i]? = some (.int .u32 ((itr r (2 ^ i) : Nat) : Int)) := fun i hi => by
    rw [nums_at i (by rw [mat_len]; exact hi), mat_getD r hi]
  go_enter Tryd.func56, Tryd.ntmps56
  go_wp2_with (first
    | ((with_reducible refine gate_dst (N := 1) rfl ?_); refine l_boxA rfl H 82 _ rfl _ rfl ?_; clear H; intro g1 W H)
    | ((with_reducible refine gate_dst (N := 2) rfl ?_); refine l_allocA rfl H 82 rfl _ zero82 ?_; clear H; intro g2 W H)
    | ((with_reducible refine gate_dst (N := 3) rfl ?_); refine l_allocA rfl H 82 rfl _ zero82 ?_; clear H; intro g3 W H)
    | ((with_reducible refine gate_dst (N := 6) rfl ?_); refine l_loadA rfl H 82 _ rfl _ rfl (by (repeat (first | exact In.head | apply In.tail))) _ _ Tryd.underlying82 rfl size82 (by (first | rfl | assumption | omega | (simp only [nums_length]; omega) | (simp [nums_length, zs]; done) | (simp [nums_length, zs]; omega))) ?_))
  go_loopg [7] 32 (fun gq v7 w' => ∃ k : Nat, v7 = .int .i64 (k : Int) ∧ k + gq = 32 ∧ Own w F0 [.blk g3 82 (nums .u32 (rows (r + r) k)), .blk g2 82 (nums .u32 (zs 32)), .blk g1 82 (nums .u32 (mat r))] w')
  case atStart => exact ⟨0, rfl, rfl, by rw [rows0]; exact H⟩
  case round =>
    clear H
    obtain ⟨k, rfl, hk, H⟩ := hrel
    by_cases ck : k < 32
    · obtain ⟨gk', rfl⟩ : ∃ q, gk = q + 1 := ⟨gk - 1, by omega⟩
      have q0 : ((k : Int) < 32) = True := eq_true (by omega)
      have q0' : decide ((k : Int) < 32) = true := decide_eq_true (by omega)
      have q1 : ((0 : Int) ≤ (k : Int)) = True := eq_true (by omega)
      have hv := hat k ck
      have TC := fun W => times_calls r (itr r (2 ^ k)) (itr_lt r (pow_lt32 ck)) W
      rw [← itr_two] at TC
      have hrl := rows_len (r + r) (i := k) (by omega)
      have hfit : k < (nums .u32 (rows (r + r) k)).length := by rw [nums_length, hrl]; exact ck
      have hst := rows_step (r + r) ck
      go_wp2_with (first
    | ((with_reducible refine gate_dst (N := 12) rfl ?_); refine l_loadA rfl H 82 _ rfl _ rfl (by (repeat (first | exact In.head | apply In.tail))) _ _ Tryd.underlying82 rfl size82 (by (first | rfl | assumption | omega | (simp only [nums_length]; omega) | (simp [nums_length, zs]; done) | (simp [nums_length, zs]; omega))) ?_)
    | ((with_reducible refine gate_store (t := 22) (p := 15) rfl ?_); refine l_store1 rfl H 22 _ _ rfl _ _ rfl _ (by first | (go_simp; done) | (go_simp; with_reducible rfl)) (by (repeat (first | exact In.head | apply In.tail))) rfl rfl size22 (by (first | rfl | assumption | omega | (simp only [nums_length]; omega) | (simp [nums_length, zs]; done) | (simp [nums_length, zs]; omega))) ?_; clear H; intro W H)
      | ((with_reducible refine gate_dst (N := 10) rfl ?_); refine l_run rfl (.int .u32 ((itr r (2 ^ k) : Nat) : Int)) (r_index1 82 _ _ rfl (nums .u32 (mat r)) rfl k rfl Tryd.underlying82 Tryd.underlying22 rfl size22 ck _ hv _) ?_)
      | (go_at_call 55; (with_reducible refine (TC _).mono ?_); rintro e W ⟨rfl, hb⟩; replace H := H.to hb; clear hb))
      rw [nums_set, hst] at H
      go_roundg gk'
      case measure => omega
      case rel => exact ⟨k + 1, by go_num, by omega, H⟩
    · obtain rfl : k = 32 := by omega
      rw [rows_all] at H
      have hml2 : (nums .u32 (mat (r + r))).length = 32 := by rw [nums_length, mat_len]
      clear hk ck
      go_wp2_with (first
    | ((with_reducible refine gate_dst (N := 17) rfl ?_); refine l_loadA rfl H 82 _ rfl _ rfl (by (repeat (first | exact In.head | apply In.tail))) _ _ Tryd.underlying82 rfl size82 (by (first | rfl | assumption | omega | (simp only [nums_length]; omega) | (simp [nums_length, zs]; done) | (simp [nums_length, zs]; omega))) ?_)
    | ((with_reducible refine gate_store (t := 82) (p := 2) rfl ?_); refine l_storeW rfl H 82 _ _ rfl _ rfl _ rfl (by (repeat (first | exact In.head | apply In.tail))) _ size82 (by (first | rfl | assumption | omega | (simp only [nums_length]; omega) | (simp [nums_length, zs]; done) | (simp [nums_length, zs]; omega))) (by (first | rfl | assumption | omega | (simp only [nums_length]; omega) | (simp [nums_length, zs]; done) | (simp [nums_length, zs]; omega))) (by (first | exact nums_one | assumption | (intro u hu; simp at hu; subst hu; rfl) | (intro u hu; simp at hu; rcases hu with rfl | rfl | rfl | rfl | rfl | rfl | rfl <;> rfl) | (intro u hu; simp at hu; rcases hu with rfl | rfl | rfl | rfl <;> rfl) | (intro u hu; simp at hu; rcases hu with rfl | rfl | rfl <;> rfl) | (intro u hu; simp at hu; rcases hu with rfl | rfl <;> rfl))) ?_; clear H; intro W H))
      refine bodyPost_ret (results_cell_row (p := 2) (ty := 82) rfl _ _ g2 82 _ (0, 0) _ rfl (H.heap (.tail .head)) Tryd.underlying82 rfl (by rw [List.size_toArray, hml2]; exact size82)) rfl ?_
      exact ⟨rfl, H.below⟩
set_option maxRecDepth 100000 in
set_option maxHeartbeats 8000000 in
theorem byteful_calls (w : World) (hH : Half w) :
    Calls Tryd.prog 54 #[] w fun e W => e = .returned (.agg (nums .u32 (mat 8)).toArray) ∧ Below w.heap.size w W := by
  have H := Own.start w
  have hz : (nums .u32 (zs 32)).length = 32 := by rw [nums_length]; rfl
  go_enter Tryd.func54, Tryd.ntmps54
  go_wp2_with (first
    | ((with_reducible refine gate_dst (N := 0) rfl ?_); refine l_allocA rfl H 82 rfl _ zero82 ?_; clear H; intro g0 W H)
    | ((with_reducible refine gate_dst (N := 1) rfl ?_); refine l_allocA rfl H 82 rfl _ zero82 ?_; clear H; intro g1 W H))
  go_loopg [3] 32 (fun gq v3 w' => ∃ k : Nat, v3 = .int .i64 (k : Int) ∧ k + gq = 32 ∧ Own w F0 [.blk g1 82 (nums .u32 (rows 8 k)), .blk g0 82 (nums .u32 (zs 32))] w')
  case atStart => exact ⟨0, rfl, rfl, by rw [rows0]; exact H⟩
  case round =>
    clear H
    obtain ⟨k, rfl, hk, H⟩ := hrel
    by_cases ck : k < 32
    · obtain ⟨gk', rfl⟩ : ∃ q, gk = q + 1 := ⟨gk - 1, by omega⟩
      have q0 : ((k : Int) < 32) = True := eq_true (by omega)
      have q0' : decide ((k : Int) < 32) = true := decide_eq_true (by omega)
      have q1 : ((0 : Int) ≤ (k : Int)) = True := eq_true (by omega)
      have hp := pow_lt32 ck
      have hp2 : (2 : Int) ^ k % 4294967296 = ((2 ^ k : Nat) : Int) := by
        rw [← pow_cast]
        generalize 2 ^ k = y at hp ⊢
        omega
      have hi4 := itr_lt 4 hp
      have F1 : ∀ W, Half W → Calls Tryd.prog 52 #[.int .u32 ((2 : Int) ^ k % 4294967296)] W fun e w' => e = .returned (.int .u32 ((itr 4 (2 ^ k) : Nat) : Int)) ∧ W = w' := fun W h => by
        rw [hp2, ← four_nat hp]
        generalize 2 ^ k = y at hp ⊢
        exact four_calls (y : Int) W h (by omega) (by omega)
      have F2 : ∀ W, Half W → Calls Tryd.prog 52 #[.int .u32 ((itr 4 (2 ^ k) : Nat) : Int)] W fun e w' => e = .returned (.int .u32 ((itr 8 (2 ^ k) : Nat) : Int)) ∧ W = w' := fun W h => by
        rw [show itr 8 (2 ^ k) = itr 4 (itr 4 (2 ^ k)) from itr_add 4 4 _, ← four_nat hi4]
        generalize itr 4 (2 ^ k) = y at hi4 ⊢
        exact four_calls (y : Int) W h (by omega) (by omega)
      clear hp2 hi4 hp
      have hrl := rows_len 8 (i := k) (by omega)
      have hfit : k < (nums .u32 (rows 8 k)).length := by rw [nums_length, hrl]; exact ck
      have hst := rows_step 8 ck
      go_wp2_with (first
    | ((with_reducible refine gate_store (t := 22) (p := 11) rfl ?_); refine l_store1 rfl H 22 _ _ rfl _ _ rfl _ (by first | (go_simp; done) | (go_simp; with_reducible rfl)) (by (repeat (first | exact In.head | apply In.tail))) rfl rfl size22 (by (first | rfl | assumption | omega | (simp only [nums_length]; omega) | (simp [nums_length, zs]; done) | (simp [nums_length, zs]; omega))) ?_; clear H; intro W H)
      | (go_at_call 52; (with_reducible refine (F1 _ (hH.below H.below)).mono ?_); rintro e W ⟨rfl, rfl⟩)
      | (go_at_call 52; (with_reducible refine (F2 _ (hH.below H.below)).mono ?_); rintro e W ⟨rfl, rfl⟩))
      rw [nums_set, hst] at H
      go_roundg gk'
      case measure => omega
      case rel => exact ⟨k + 1, by go_num, by omega, H⟩
    · obtain rfl : k = 32 := by omega
      rw [rows_all] at H
      have hml2 : (nums .u32 (mat 8)).length = 32 := by rw [nums_length, mat_len]
      clear hk ck
      go_wp2_with (first
    | ((with_reducible refine gate_dst (N := 13) rfl ?_); refine l_loadA rfl H 82 _ rfl _ rfl (by (repeat (first | exact In.head | apply In.tail))) _ _ Tryd.underlying82 rfl size82 (by (first | rfl | assumption | omega | (simp only [nums_length]; omega) | (simp [nums_length, zs]; done) | (simp [nums_length, zs]; omega))) ?_)
    | ((with_reducible refine gate_store (t := 82) (p := 0) rfl ?_); refine l_storeW rfl H 82 _ _ rfl _ rfl _ rfl (by (repeat (first | exact In.head | apply In.tail))) _ size82 (by (first | rfl | assumption | omega | (simp only [nums_length]; omega) | (simp [nums_length, zs]; done) | (simp [nums_length, zs]; omega))) (by (first | rfl | assumption | omega | (simp only [nums_length]; omega) | (simp [nums_length, zs]; done) | (simp [nums_length, zs]; omega))) (by (first | exact nums_one | assumption | (intro u hu; simp at hu; subst hu; rfl) | (intro u hu; simp at hu; rcases hu with rfl | rfl | rfl | rfl | rfl | rfl | rfl <;> rfl) | (intro u hu; simp at hu; rcases hu with rfl | rfl | rfl | rfl <;> rfl) | (intro u hu; simp at hu; rcases hu with rfl | rfl | rfl <;> rfl) | (intro u hu; simp at hu; rcases hu with rfl | rfl <;> rfl))) ?_; clear H; intro W H))
      refine bodyPost_ret (results_cell_row (p := 0) (ty := 82) rfl _ _ g0 82 _ (0, 0) _ rfl (H.heap (.tail .head)) Tryd.underlying82 rfl (by rw [List.size_toArray, hml2]; exact size82)) rfl ?_
      exact ⟨rfl, H.below⟩
set_option maxRecDepth 100000 in
set_option maxHeartbeats 8000000 in
theorem shift_calls (x : Nat) (n : Int) (hx : x < 4294967296) (hn : n ≤ 1000000) (w : World) (hH : Half w) :
    Calls Tryd.prog 23 #[.int .u32 (x : Int), .int .i64 n] w fun e W => e = .returned (.int .u32 ((itr (8 * n.toNat) x : Nat) : Int)) ∧ Below w.heap.size w W := by
  have H := Own.start w
  have hz : (nums .u32 (zs 32)).length = 32 := by rw [nums_length]; rfl
  have hm8 : (nums .u32 (mat 8)).length = 32 := by rw [nums_length, mat_len]
  have BC := fun W h => byteful_calls W h
  generalize hres : itr (8 * n.toNat) x = res
  obtain ⟨m0, hm0⟩ : ∃ m, n.toNat = m := ⟨_, rfl⟩
  rw [hm0] at hres
  have hm1 : m0 ≤ 1000000 := by omega
  go_enter Tryd.func23, Tryd.ntmps23
  by_cases hp : 0 < n
  all_goals
    go_wp2_with (first
    | ((with_reducible refine gate_dst (N := 5) rfl ?_); refine l_allocA rfl H 82 rfl _ zero82 ?_; clear H; intro g5 W H)
    | ((with_reducible refine gate_store (t := 82) (p := 5) rfl ?_); refine l_storeW rfl H 82 _ _ rfl _ rfl _ rfl (by (repeat (first | exact In.head | apply In.tail))) _ size82 (by (first | rfl | assumption | omega | (simp only [nums_length]; omega) | (simp [nums_length, zs]; done) | (simp [nums_length, zs]; omega))) (by (first | rfl | assumption | omega | (simp only [nums_length]; omega) | (simp [nums_length, zs]; done) | (simp [nums_length, zs]; omega))) (by (first | exact nums_one | assumption | (intro u hu; simp at hu; subst hu; rfl) | (intro u hu; simp at hu; rcases hu with rfl | rfl | rfl | rfl | rfl | rfl | rfl <;> rfl) | (intro u hu; simp at hu; rcases hu with rfl | rfl | rfl | rfl <;> rfl) | (intro u hu; simp at hu; rcases hu with rfl | rfl | rfl <;> rfl) | (intro u hu; simp at hu; rcases hu with rfl | rfl <;> rfl))) ?_; clear H; intro W H)
    | (go_at_call 54; (with_reducible refine (BC _ (hH.below H.below)).mono ?_); rintro e W ⟨rfl, hb⟩; replace H := H.to hb; clear hb))
    simp only [Act.put, List.setIfInBounds_toArray, List.set_cons_zero, List.set_cons_succ]
    go_loopg [0, 1, 5] m0 (fun gq v0 v1 v5 w' => ∃ (y m R g : Nat), v0 = .int .u32 (y : Int) ∧ v1 = .int .i64 (m : Int) ∧ v5 = .pointer (some ⟨g, 0, none⟩) ∧ y < 4294967296 ∧ m ≤ gq ∧ m ≤ 1000000 ∧ itr (R * m) y = res ∧ Own w F0 [.blk g 82 (nums .u32 (mat R))] w')
    case atStart => exact ⟨x, m0, 8, g5, rfl, by congr 1; omega, rfl, hx, Nat.le_refl _, hm1, hres, H⟩
    case round =>
      clear H
      obtain ⟨y, m, R, g5, rfl, rfl, rfl, hy, hmg, hm6, hit, H⟩ := hrel
      have hmR : (nums .u32 (mat R)).length = 32 := by rw [nums_length, mat_len]
      by_cases cm : 0 < m
      · obtain ⟨gk', rfl⟩ : ∃ q, gk = q + 1 := ⟨gk - 1, by omega⟩
        have q0 : decide ((m : Int) > 0) = true := decide_eq_true (by omega)
        have hand : bits .and .i64 (m : Int) 1 = ((m % 2 : Nat) : Int) := by rw [show (1 : Int) = 2 ^ 1 - 1 by decide, i64_mask _ 1 (by decide)]; omega
        have hmR2 : (nums .u32 (mat (R + R))).length = 32 := by rw [nums_length, mat_len]
        have TW := fun W => twice_calls R W
        have TC := fun W => times_calls R y hy W
        by_cases hb : m % 2 = 1
        · have q2 : (bits .and .i64 (m : Int) 1 == 1) = true := by rw [hand, hb]; rfl
          have hs := shift_odd R m y hb
          have hy2 := itr_lt R hy
          clear hand
          go_wp2_with (first
    | ((with_reducible refine gate_dst (N := 17) rfl ?_); refine l_loadA rfl H 82 _ rfl _ rfl (by (repeat (first | exact In.head | apply In.tail))) _ _ Tryd.underlying82 rfl size82 (by (first | rfl | assumption | omega | (simp only [nums_length]; omega) | (simp [nums_length, zs]; done) | (simp [nums_length, zs]; omega))) ?_)
    | ((with_reducible refine gate_dst (N := 20) rfl ?_); refine l_loadA rfl H 82 _ rfl _ rfl (by (repeat (first | exact In.head | apply In.tail))) _ _ Tryd.underlying82 rfl size82 (by (first | rfl | assumption | omega | (simp only [nums_length]; omega) | (simp [nums_length, zs]; done) | (simp [nums_length, zs]; omega))) ?_)
    | ((with_reducible refine gate_store (t := 82) (p := 5) rfl ?_); refine l_storeW rfl H 82 _ _ rfl _ rfl _ rfl (by (repeat (first | exact In.head | apply In.tail))) _ size82 (by (first | rfl | assumption | omega | (simp only [nums_length]; omega) | (simp [nums_length, zs]; done) | (simp [nums_length, zs]; omega))) (by (first | rfl | assumption | omega | (simp only [nums_length]; omega) | (simp [nums_length, zs]; done) | (simp [nums_length, zs]; omega))) (by (first | exact nums_one | assumption | (intro u hu; simp at hu; subst hu; rfl) | (intro u hu; simp at hu; rcases hu with rfl | rfl | rfl | rfl | rfl | rfl | rfl <;> rfl) | (intro u hu; simp at hu; rcases hu with rfl | rfl | rfl | rfl <;> rfl) | (intro u hu; simp at hu; rcases hu with rfl | rfl | rfl <;> rfl) | (intro u hu; simp at hu; rcases hu with rfl | rfl <;> rfl))) ?_; clear H; intro W H)
    | ((with_reducible refine gate_dst (N := 22) rfl ?_); refine l_loadA rfl H 82 _ rfl _ rfl (by (repeat (first | exact In.head | apply In.tail))) _ _ Tryd.underlying82 rfl size82 (by (first | rfl | assumption | omega | (simp only [nums_length]; omega) | (simp [nums_length, zs]; done) | (simp [nums_length, zs]; omega))) ?_)
    | ((with_reducible refine gate_dst (N := 5) rfl ?_); refine l_allocA rfl H 82 rfl _ zero82 ?_; clear H; intro g5 W H)
    | ((with_reducible refine gate_store (t := 82) (p := 5) rfl ?_); refine l_storeW rfl H 82 _ _ rfl _ rfl _ rfl (by (repeat (first | exact In.head | apply In.tail))) _ size82 (by (first | rfl | assumption | omega | (simp only [nums_length]; omega) | (simp [nums_length, zs]; done) | (simp [nums_length, zs]; omega))) (by (first | rfl | assumption | omega | (simp only [nums_length]; omega) | (simp [nums_length, zs]; done) | (simp [nums_length, zs]; omega))) (by (first | exact nums_one | assumption | (intro u hu; simp at hu; subst hu; rfl) | (intro u hu; simp at hu; rcases hu with rfl | rfl | rfl | rfl | rfl | rfl | rfl <;> rfl) | (intro u hu; simp at hu; rcases hu with rfl | rfl | rfl | rfl <;> rfl) | (intro u hu; simp at hu; rcases hu with rfl | rfl | rfl <;> rfl) | (intro u hu; simp at hu; rcases hu with rfl | rfl <;> rfl))) ?_; clear H; intro W H)
    | (go_at_call 55; (with_reducible refine (TC _).mono ?_); rintro e W ⟨rfl, hb⟩; replace H := H.to hb; clear hb)
    | (go_at_call 56; (with_reducible refine (TW _).mono ?_); rintro e W ⟨rfl, hb⟩; replace H := H.to hb; clear hb))
          go_roundg gk'
          case measure => omega
          case rel => exact ⟨itr R y, m / 2, R + R, g5, rfl, congrArg (Value.int .i64) (by omega), rfl, hy2, by omega, by omega, by rw [hs]; exact hit, H.del (.tail .head)⟩
        · have q2 : (bits .and .i64 (m : Int) 1 == 1) = false := by rw [hand, beq_eq_false_iff_ne]; omega
          have hs := shift_even R m y (by omega)
          clear hand
          go_wp2_with (first
    | ((with_reducible refine gate_dst (N := 17) rfl ?_); refine l_loadA rfl H 82 _ rfl _ rfl (by (repeat (first | exact In.head | apply In.tail))) _ _ Tryd.underlying82 rfl size82 (by (first | rfl | assumption | omega | (simp only [nums_length]; omega) | (simp [nums_length, zs]; done) | (simp [nums_length, zs]; omega))) ?_)
    | ((with_reducible refine gate_dst (N := 20) rfl ?_); refine l_loadA rfl H 82 _ rfl _ rfl (by (repeat (first | exact In.head | apply In.tail))) _ _ Tryd.underlying82 rfl size82 (by (first | rfl | assumption | omega | (simp only [nums_length]; omega) | (simp [nums_length, zs]; done) | (simp [nums_length, zs]; omega))) ?_)
    | ((with_reducible refine gate_store (t := 82) (p := 5) rfl ?_); refine l_storeW rfl H 82 _ _ rfl _ rfl _ rfl (by (repeat (first | exact In.head | apply In.tail))) _ size82 (by (first | rfl | assumption | omega | (simp only [nums_length]; omega) | (simp [nums_length, zs]; done) | (simp [nums_length, zs]; omega))) (by (first | rfl | assumption | omega | (simp only [nums_length]; omega) | (simp [nums_length, zs]; done) | (simp [nums_length, zs]; omega))) (by (first | exact nums_one | assumption | (intro u hu; simp at hu; subst hu; rfl) | (intro u hu; simp at hu; rcases hu with rfl | rfl | rfl | rfl | rfl | rfl | rfl <;> rfl) | (intro u hu; simp at hu; rcases hu with rfl | rfl | rfl | rfl <;> rfl) | (intro u hu; simp at hu; rcases hu with rfl | rfl | rfl <;> rfl) | (intro u hu; simp at hu; rcases hu with rfl | rfl <;> rfl))) ?_; clear H; intro W H)
    | ((with_reducible refine gate_dst (N := 22) rfl ?_); refine l_loadA rfl H 82 _ rfl _ rfl (by (repeat (first | exact In.head | apply In.tail))) _ _ Tryd.underlying82 rfl size82 (by (first | rfl | assumption | omega | (simp only [nums_length]; omega) | (simp [nums_length, zs]; done) | (simp [nums_length, zs]; omega))) ?_)
    | ((with_reducible refine gate_dst (N := 5) rfl ?_); refine l_allocA rfl H 82 rfl _ zero82 ?_; clear H; intro g5 W H)
    | ((with_reducible refine gate_store (t := 82) (p := 5) rfl ?_); refine l_storeW rfl H 82 _ _ rfl _ rfl _ rfl (by (repeat (first | exact In.head | apply In.tail))) _ size82 (by (first | rfl | assumption | omega | (simp only [nums_length]; omega) | (simp [nums_length, zs]; done) | (simp [nums_length, zs]; omega))) (by (first | rfl | assumption | omega | (simp only [nums_length]; omega) | (simp [nums_length, zs]; done) | (simp [nums_length, zs]; omega))) (by (first | exact nums_one | assumption | (intro u hu; simp at hu; subst hu; rfl) | (intro u hu; simp at hu; rcases hu with rfl | rfl | rfl | rfl | rfl | rfl | rfl <;> rfl) | (intro u hu; simp at hu; rcases hu with rfl | rfl | rfl | rfl <;> rfl) | (intro u hu; simp at hu; rcases hu with rfl | rfl | rfl <;> rfl) | (intro u hu; simp at hu; rcases hu with rfl | rfl <;> rfl))) ?_; clear H; intro W H)
    | (go_at_call 55; (with_reducible refine (TC _).mono ?_); rintro e W ⟨rfl, hb⟩; replace H := H.to hb; clear hb)
    | (go_at_call 56; (with_reducible refine (TW _).mono ?_); rintro e W ⟨rfl, hb⟩; replace H := H.to hb; clear hb))
          go_roundg gk'
          case measure => omega
          case rel => exact ⟨y, m / 2, R + R, g5, rfl, congrArg (Value.int .i64) (by omega), rfl, hy, by omega, by omega, by rw [hs]; exact hit, H.del (.tail .head)⟩
      · obtain rfl : m = 0 := by omega
        have q0 : decide ((0 : Int) > 0) = false := rfl
        rw [Nat.mul_zero] at hit
        go_wp2
        go_ret
        exact ⟨by rw [← hit]; rfl, H.below⟩
set_option maxRecDepth 100000 in
set_option maxHeartbeats 8000000 in
theorem join_calls' (a b : Nat) (n : Int) (ha : a < 4294967296) (hb : b < 4294967296) (hn : n ≤ 1000000) (w : World) (hH : Half w) :
    Calls Tryd.prog 25 #[.int .u32 (a : Int), .int .u32 (b : Int), .int .i64 n] w fun e W => e = .returned (.int .u32 ((itr (8 * n.toNat) a ^^^ b : Nat) : Int)) ∧ Below w.heap.size w W := by
  have H := Own.start w
  have SC := fun W h => shift_calls a n ha hn W h
  have hx := xor32_nat (itr (8 * n.toNat) a) b (itr_lt _ ha) hb
  generalize itr (8 * n.toNat) a = r at *
  go_enter Tryd.func25, Tryd.ntmps25
  go_wp2_with (first
    | (go_at_call 23; (with_reducible refine (SC _ (hH.below H.below)).mono ?_); rintro e W ⟨rfl, hb⟩; replace H := H.to hb; clear hb))
  go_ret
  exact ⟨by rw [← hx]; rfl, H.below⟩
theorem rshift_l (x1 : Int) (d : Nat) : ∀ (k i x : Nat), x < 4294967296 → (i : Int) + d = wrap64 (8 * x1) → wrap64 (8 * x1) ≤ 1000000000 → d < k → strandlineref03_Shift.l0 k (x : Int) x1 (i : Int) = some ((itr d x : Nat) : Int) := by
  induction d with
  | zero =>
    intro k i x hx hi hm hk
    obtain ⟨k, rfl⟩ : ∃ j, k = j + 1 := ⟨k - 1, by omega⟩
    simp only [strandlineref03_Shift.l0]
    rw [if_neg (by omega)]
    rfl
  | succ d ih =>
    intro k i x hx hi hm hk
    obtain ⟨k, rfl⟩ : ∃ j, k = j + 1 := ⟨k - 1, by omega⟩
    simp only [strandlineref03_Shift.l0]
    rw [if_pos (by omega), rstep hx, Option.bind_some, w64 (by omega) (by omega), show (i : Int) + 1 = ((i + 1 : Nat) : Int) by omega]
    exact ih k (i + 1) (stp x) (stp_lt hx) (by omega) hm (by omega)
theorem rshift_eq (x : Nat) (n : Nat) (hx : x < 4294967296) (hn : n ≤ 1000000) : strandlineref03_Shift.f (8 * n + 1) (x : Int) (n : Int) = some ((itr (8 * n) x : Nat) : Int) := by
  unfold strandlineref03_Shift.f
  have hw : wrap64 (8 * (n : Int)) = ((8 * n : Nat) : Int) := by rw [w64 (by omega) (by omega)]; omega
  exact rshift_l n (8 * n) (8 * n + 1) 0 x hx (by rw [hw]; omega) (by rw [hw]; omega) (by omega)
end Go.Proofs.YthhbilkmdfdfiaaDoor.O
