/- the reference's Mix. -/
import Derived.Test.YthlpimojojofbaaStampLaw
import Derived.Test.YthlpimojojofbaaRd
import Derived.Lib.Hide
namespace Go.Proofs.Ythlpimojojofbaa.O
open Go.RowKit Go.Proofs.YthlpimojojofbaaW.PrintWords Go.Proofs.YthlpimojojofbaaW.PrintLast Go.Proofs.YthlpimojojofbaaW.PrintMore Go.Proofs.Ythlpimojojofbaa.F Go.Proofs.Ythlpimojojofbaa.F.Nums Go.Proofs.Ythlpimojojofbaa.Plain
set_option linter.unusedVariables false
set_option linter.unusedSimpArgs false
theorem mix_step (xs ys : List Int) (hx : xs.length = 64) (hy : ys.length = 64) (i : Nat) (hi : i < 64) : (ys.take i ++ xs.drop i).set i (ys.getD i 0) = ys.take (i + 1) ++ xs.drop (i + 1) := by
  have hl : (ys.take i).length = i := by rw [List.length_take]; omega
  rw [List.set_append_right _ _ (by omega), hl, Nat.sub_self, List.drop_eq_getElem_cons (by omega : i < xs.length), List.set_cons_zero, List.take_succ_eq_append_getElem (by omega : i < ys.length), List.append_assoc, List.getD_eq_getElem?_getD, List.getElem?_eq_getElem (by omega : i < ys.length)]
  rfl
set_option maxRecDepth 100000 in
set_option maxHeartbeats 4000000 in
theorem rmix_calls (xs ys : List Int) (hx : xs.length = 64) (hy : ys.length = 64) (cut : Int) (k : Nat) (hk : (k : Int) = max 0 (min cut 64)) (w : World) :
    Calls Try.prog 39 #[.agg (nums .u8 xs).toArray, .agg (nums .u8 ys).toArray, .int .i64 cut] w fun e w' => e = .returned (.agg (nums .u8 (ys.take k ++ xs.drop k)).toArray) ∧ Below w.heap.size w w' := by
  have H := Own.start w
  have hk64 : k ≤ 64 := by omega
  go_enter Try.func39, Try.ntmps39
  go_wp2_with (first
    | ((with_reducible refine gate_dst (N := 3) rfl ?_); refine l_boxA rfl H 43 _ rfl _ rfl ?_; clear H; intro g3 W H)
    | ((with_reducible refine gate_dst (N := 4) rfl ?_); refine l_boxA rfl H 43 _ rfl _ rfl ?_; clear H; intro g4 W H)
    | ((with_reducible refine gate_dst (N := 6) rfl ?_); refine l_allocA rfl H 43 rfl _ zero43 ?_; clear H; intro g6 W H)
    | ((with_reducible refine gate_dst (N := 9) rfl ?_); refine l_loadA rfl H 43 _ rfl _ rfl (by (repeat (first | exact In.head | apply In.tail))) _ _ Try.underlying43 rfl size43 (by (first | rfl | assumption | omega | (simp only [nums_length]; omega) | (simp [nums_length, zs]; done) | (simp [nums_length, zs]; omega))) ?_)
    | ((with_reducible refine gate_dst (N := 7) rfl ?_); refine l_allocA rfl H 43 rfl _ zero43 ?_; clear H; intro g7 W H)
    | ((with_reducible refine gate_store (t := 43) (p := 7) rfl ?_); refine l_storeW rfl H 43 _ _ rfl _ rfl _ rfl (by (repeat (first | exact In.head | apply In.tail))) _ size43 (by (first | rfl | assumption | omega | (simp only [nums_length]; omega) | (simp [nums_length, zs]; done) | (simp [nums_length, zs]; omega))) (by (first | rfl | assumption | omega | (simp only [nums_length]; omega) | (simp [nums_length, zs]; done) | (simp [nums_length, zs]; omega))) (by (first | exact nums_one | (intro u hu; simp at hu; subst hu; rfl) | (intro u hu; simp at hu; rcases hu with rfl | rfl | rfl | rfl | rfl | rfl | rfl <;> rfl) | (intro u hu; simp at hu; rcases hu with rfl | rfl | rfl | rfl <;> rfl) | (intro u hu; simp at hu; rcases hu with rfl | rfl | rfl <;> rfl) | (intro u hu; simp at hu; rcases hu with rfl | rfl <;> rfl))) ?_; clear H; intro W H))
  go_loopg [8] k (fun gq v8 w' => ∃ i : Nat, v8 = .int .i64 (i : Int) ∧ i + gq = k ∧ Own w F0 [.blk g7 43 (nums .u8 (ys.take i ++ xs.drop i)), .blk g6 43 (nums .u8 (zs 64)), .blk g4 43 (nums .u8 ys), .blk g3 43 (nums .u8 xs)] w')
  case atStart => exact ⟨0, rfl, by omega, H⟩
  case round =>
    clear H
    obtain ⟨i, rfl, hi, H⟩ := hrel
    have hl : (ys.take i ++ xs.drop i).length = 64 := by rw [List.length_append, List.length_take, List.length_drop]; omega
    by_cases ci : i < k
    · obtain ⟨gk', rfl⟩ : ∃ q, gk = q + 1 := ⟨gk - 1, by omega⟩
      have q1 : decide ((i : Int) < cut) = true := decide_eq_true (by omega)
      have q2 : decide ((i : Int) < 64) = true := decide_eq_true (by omega)
      have p0 : ((0 : Int) ≤ (i : Int)) = True := eq_true (by omega)
      have p1 : ((i : Int) < 64) = True := eq_true (by omega)
      have hs := mix_step xs ys hx hy i (by omega)
      have hcy : (nums .u8 ys)[i]? = some (.int .u8 (ys.getD i 0)) := nums_at i (by omega)
      have hfit : i < (nums .u8 (ys.take i ++ xs.drop i)).length := by rw [nums_length, hl]; omega
      generalize ys.getD i 0 = z at hs hcy
      obtain ⟨M', hM'⟩ : ∃ x, ys.take (i + 1) ++ xs.drop (i + 1) = x := ⟨_, rfl⟩
      rw [hM'] at hs
      have HM := Lib.hid hM'
      clear hM'
      have HS := Lib.hid hs
      generalize hM : ys.take i ++ xs.drop i = M at *
      clear hM hk hs
      go_wp2_with (first
    | ((with_reducible refine gate_dst (N := 22) rfl ?_); refine l_load1 rfl H 5 _ rfl _ _ rfl (by (repeat (first | exact In.head | apply In.tail))) _ Try.underlying5 rfl _ (by first | rfl | assumption | exact nums_at _ (by omega)) ?_)
    | ((with_reducible refine gate_store (t := 5) (p := 23) rfl ?_); refine l_store1 rfl H 5 _ _ rfl _ _ rfl _ (by first | (go_simp; done) | (go_simp; with_reducible rfl)) (by (repeat (first | exact In.head | apply In.tail))) rfl rfl size5 (by (first | rfl | assumption | omega | (simp only [nums_length]; omega) | (simp [nums_length, zs]; done) | (simp [nums_length, zs]; omega))) ?_; clear H; intro W H))
      rw [nums_set, HS.out, ← HM.out] at H
      go_roundg gk'
      case measure => omega
      case rel => exact ⟨i + 1, by go_num, by omega, H⟩
    · have hik : i = k := by omega
      subst hik
      by_cases cc : (i : Int) < cut
      · have q1 : decide ((i : Int) < cut) = true := decide_eq_true cc
        have q2 : decide ((i : Int) < 64) = false := decide_eq_false (by omega)
        go_wp2_with (first
    | ((with_reducible refine gate_dst (N := 24) rfl ?_); refine l_loadA rfl H 43 _ rfl _ rfl (by (repeat (first | exact In.head | apply In.tail))) _ _ Try.underlying43 rfl size43 (by (first | rfl | assumption | omega | (simp only [nums_length]; omega) | (simp [nums_length, zs]; done) | (simp [nums_length, zs]; omega))) ?_)
    | ((with_reducible refine gate_store (t := 43) (p := 6) rfl ?_); refine l_storeW rfl H 43 _ _ rfl _ rfl _ rfl (by (repeat (first | exact In.head | apply In.tail))) _ size43 (by (first | rfl | assumption | omega | (simp only [nums_length]; omega) | (simp [nums_length, zs]; done) | (simp [nums_length, zs]; omega))) (by (first | rfl | assumption | omega | (simp only [nums_length]; omega) | (simp [nums_length, zs]; done) | (simp [nums_length, zs]; omega))) (by (first | exact nums_one | (intro u hu; simp at hu; subst hu; rfl) | (intro u hu; simp at hu; rcases hu with rfl | rfl | rfl | rfl | rfl | rfl | rfl <;> rfl) | (intro u hu; simp at hu; rcases hu with rfl | rfl | rfl | rfl <;> rfl) | (intro u hu; simp at hu; rcases hu with rfl | rfl | rfl <;> rfl) | (intro u hu; simp at hu; rcases hu with rfl | rfl <;> rfl))) ?_; clear H; intro W H))
        refine bodyPost_ret (results_cell_row (p := 6) (ty := 43) rfl _ _ g6 43 _ (0, 0) _ rfl (H.heap (.tail .head)) Try.underlying43 rfl (by rw [size43]; simp only [List.size_toArray, nums_length, hl])) rfl ?_
        exact ⟨rfl, H.below⟩
      · have q1 : decide ((i : Int) < cut) = false := decide_eq_false cc
        go_wp2_with (first
    | ((with_reducible refine gate_dst (N := 24) rfl ?_); refine l_loadA rfl H 43 _ rfl _ rfl (by (repeat (first | exact In.head | apply In.tail))) _ _ Try.underlying43 rfl size43 (by (first | rfl | assumption | omega | (simp only [nums_length]; omega) | (simp [nums_length, zs]; done) | (simp [nums_length, zs]; omega))) ?_)
    | ((with_reducible refine gate_store (t := 43) (p := 6) rfl ?_); refine l_storeW rfl H 43 _ _ rfl _ rfl _ rfl (by (repeat (first | exact In.head | apply In.tail))) _ size43 (by (first | rfl | assumption | omega | (simp only [nums_length]; omega) | (simp [nums_length, zs]; done) | (simp [nums_length, zs]; omega))) (by (first | rfl | assumption | omega | (simp only [nums_length]; omega) | (simp [nums_length, zs]; done) | (simp [nums_length, zs]; omega))) (by (first | exact nums_one | (intro u hu; simp at hu; subst hu; rfl) | (intro u hu; simp at hu; rcases hu with rfl | rfl | rfl | rfl | rfl | rfl | rfl <;> rfl) | (intro u hu; simp at hu; rcases hu with rfl | rfl | rfl | rfl <;> rfl) | (intro u hu; simp at hu; rcases hu with rfl | rfl | rfl <;> rfl) | (intro u hu; simp at hu; rcases hu with rfl | rfl <;> rfl))) ?_; clear H; intro W H))
        refine bodyPost_ret (results_cell_row (p := 6) (ty := 43) rfl _ _ g6 43 _ (0, 0) _ rfl (H.heap (.tail .head)) Try.underlying43 rfl (by rw [size43]; simp only [List.size_toArray, nums_length, hl])) rfl ?_
        exact ⟨rfl, H.below⟩
end Go.Proofs.Ythlpimojojofbaa.O
