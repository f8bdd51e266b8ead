/- crash by hand: Mix. -/
import Derived.Test.YthlpimojojofbaaTy
import Derived.Test.YthlpimojojofbaaPlain
import Derived.Test.YthlpimojojofbaaFkCrash
import Derived.Test.YthlpimojojofbaaHand
namespace Go.Proofs.Ythlpimojojofbaa.O
open Go.RowKit Go.Proofs.YthlpimojojofbaaW.PrintWords Go.Proofs.YthlpimojojofbaaW.PrintLast Go.Proofs.YthlpimojojofbaaW.PrintMore Go.Proofs.Ythlpimojojofbaa.F
set_option linter.unusedVariables false
set_option linter.unusedSimpArgs false
theorem near_nat (n : Int) (m : Nat) : ∃ k : Nat, mx 0 (mn n m) = (k : Int) ∧ k ≤ m := ⟨(mx 0 (mn n m)).toNat, by unfold mx mn; split <;> split <;> omega, by unfold mx mn; split <;> split <;> omega⟩
set_option maxRecDepth 100000 in
theorem mix_calls (xs ys : List Int) (hx : xs.length = 64) (hy : ys.length = 64) (cut : Int) (k : Nat) (hk : mx 0 (mn cut 64) = (k : Int)) (hk64 : k ≤ 64) (w : World) :
    Calls Try.prog 38 #[.agg (nums .u8 xs).toArray, .agg (nums .u8 ys).toArray, .int .i64 cut] w fun e w' => e = .returned (.agg (nums .u8 (ys.take k ++ xs.drop k)).toArray) ∧ Below w.heap.size w w' := by
  have hn := crash_near.calls cut 64 k
  rw [show crash_near.f cut 64 = some (k : Int) by unfold crash_near.f; rw [hk]] at hn
  clear hk
  have H := Own.start w
  go_enter Try.func38, Try.ntmps38
  go_wp2_with (first
    | ((with_reducible refine gate_dst (N := 3) rfl ?_); refine l_boxA rfl H 43 _ rfl _ rfl ?_; clear H; intro g3 W H)
    | ((with_reducible refine gate_dst (N := 4) rfl ?_); refine l_boxA rfl H 43 _ rfl _ rfl ?_; clear H; intro g4 W H)
    | ((with_reducible refine gate_dst (N := 6) rfl ?_); refine l_allocA rfl H 43 rfl _ zero43 ?_; clear H; intro g6 W H)
    | ((with_reducible refine gate_dst (N := 14) rfl ?_); refine l_loadA rfl H 43 _ rfl _ rfl (by (repeat (first | exact In.head | apply In.tail))) _ _ Try.underlying43 rfl size43 (by (first | rfl | assumption | omega | (simp only [nums_length]; omega) | (simp [nums_length, zs]; done) | (simp [nums_length, zs]; omega))) ?_)
    | ((with_reducible refine gate_store (t := 43) (p := 6) rfl ?_); refine l_storeW rfl H 43 _ _ rfl _ rfl _ rfl (by (repeat (first | exact In.head | apply In.tail))) _ size43 (by (first | rfl | assumption | omega | (simp only [nums_length]; omega) | (simp [nums_length, zs]; done) | (simp [nums_length, zs]; omega))) (by (first | rfl | assumption | omega | (simp only [nums_length]; omega) | (simp [nums_length, zs]; done) | (simp [nums_length, zs]; omega))) (by (first | exact nums_one | (intro u hu; simp at hu; subst hu; rfl) | (intro u hu; simp at hu; rcases hu with rfl | rfl | rfl | rfl | rfl | rfl | rfl <;> rfl) | (intro u hu; simp at hu; rcases hu with rfl | rfl | rfl | rfl <;> rfl) | (intro u hu; simp at hu; rcases hu with rfl | rfl | rfl <;> rfl) | (intro u hu; simp at hu; rcases hu with rfl | rfl <;> rfl))) ?_; clear H; intro W H)
    | (go_at_call 80; refine (hn _ rfl).mono ?_; rintro e W ⟨rfl, hb⟩; replace H := H.to hb; clear hb))
  have a1 : (k : Int) ≤ 64 := by omega
  refine start_ (n := 5) (S := fun _ => True) (ds := []) #[false, false, false, false, false] (by kernel_rfl) rfl rfl trivial (fun hHeld => ?_)
  replace H := H.drew
  generalize World.drew _ = W at H hHeld ⊢
  refine pure_ (i := 0) (N := some 9) (v := ?_) (a' := ?_) #[true, false, false, false, false] rfl rfl (by kernel_rfl) (fun _ _ _ h => h) (Or.inl ⟨by rfl, ?_⟩) ?_ ?_
  rotate_left
  · intro w'
    go_simp
    with_reducible rfl
  rotate_left
  · simp only [Act.put, List.setIfInBounds_toArray, List.set_cons_zero, List.set_cons_succ, i64_w, i32_w]
    rfl
  refine pure_ (i := 1) (N := some 10) (v := ?_) (a' := ?_) #[true, true, false, false, false] rfl rfl (by kernel_rfl) (fun _ _ _ h => h) (Or.inl ⟨by rfl, ?_⟩) ?_ ?_
  rotate_left
  · intro w'
    go_simp
    with_reducible rfl
  rotate_left
  · simp only [Act.put, List.setIfInBounds_toArray, List.set_cons_zero, List.set_cons_succ, i64_w, i32_w]
    rfl
  refine pure_ (i := 2) (N := some 11) (v := ?_) (a' := ?_) #[true, true, true, false, false] rfl rfl (by kernel_rfl) (fun _ _ _ h => h) (Or.inl ⟨by rfl, ?_⟩) ?_ ?_
  rotate_left
  · intro w'
    go_simp
    with_reducible rfl
  rotate_left
  · simp only [Act.put, List.setIfInBounds_toArray, List.set_cons_zero, List.set_cons_succ, i64_w, i32_w]
    rfl
  refine pure_ (i := 3) (N := some 12) (v := ?_) (a' := ?_) #[true, true, true, true, false] rfl rfl (by kernel_rfl) (fun _ _ _ h => h) (Or.inl ⟨by rfl, ?_⟩) ?_ ?_
  rotate_left
  · intro w'
    go_simp
    with_reducible rfl
  rotate_left
  · simp only [Act.put, List.setIfInBounds_toArray, List.set_cons_zero, List.set_cons_succ, i64_w, i32_w]
    rfl
  refine one_ (i := 4) (N := some 13) #[true, true, true, true, true] rfl rfl (by kernel_rfl) (by decide) (fun K hK => ?_)
  refine wanted_ rfl ?_
  refine w_copyC H _ _ _ _ rfl 5 Try.underlying35 size5 _ _ _ _ rfl (by (repeat (first | exact In.head | apply In.tail))) _ _ _ rfl ((ys.drop 0).take k) ?_ (by (first | rfl | assumption | omega | (simp only [nums_length]; omega) | (simp [nums_length, zs]; done) | (simp [nums_length, zs]; omega))) ?_
  · exact H.C (In.tail In.head) 0 k (by omega) (by omega)
  clear H; intro W H
  refine hK.out _ _ ?_ (fun hHeld => ?_)
  · first | trivial | exact H | exact H.del .head | exact (H.del .head).del .head
  clear hK K
  refine norm_ (a' := ?_) ?_ ?_
  rotate_left
  · show Act.put _ (some 13) _ = _
    simp only [Act.put, List.setIfInBounds_toArray, List.set_cons_zero, List.set_cons_succ, i64_w, i32_w]
    rfl
  refine done_ (by kernel_rfl) ?_
  clear hHeld
  rw [show splice xs 0 (List.take (min k k) (List.take k (List.drop 0 ys))) = ys.take k ++ xs.drop k by simp [splice, hy, Nat.min_eq_left hk64, List.take_take]] at H
  have hl : (ys.take k ++ xs.drop k).length = 64 := by simp [hx, hy]; omega
  go_wp2_with (first
    | ((with_reducible refine gate_dst (N := 3) rfl ?_); refine l_boxA rfl H 43 _ rfl _ rfl ?_; clear H; intro g3 W H)
    | ((with_reducible refine gate_dst (N := 4) rfl ?_); refine l_boxA rfl H 43 _ rfl _ rfl ?_; clear H; intro g4 W H)
    | ((with_reducible refine gate_dst (N := 6) rfl ?_); refine l_allocA rfl H 43 rfl _ zero43 ?_; clear H; intro g6 W H)
    | ((with_reducible refine gate_dst (N := 14) rfl ?_); refine l_loadA rfl H 43 _ rfl _ rfl (by (repeat (first | exact In.head | apply In.tail))) _ _ Try.underlying43 rfl size43 (by (first | rfl | assumption | omega | (simp only [nums_length]; omega) | (simp [nums_length, zs]; done) | (simp [nums_length, zs]; omega))) ?_)
    | ((with_reducible refine gate_store (t := 43) (p := 6) rfl ?_); refine l_storeW rfl H 43 _ _ rfl _ rfl _ rfl (by (repeat (first | exact In.head | apply In.tail))) _ size43 (by (first | rfl | assumption | omega | (simp only [nums_length]; omega) | (simp [nums_length, zs]; done) | (simp [nums_length, zs]; omega))) (by (first | rfl | assumption | omega | (simp only [nums_length]; omega) | (simp [nums_length, zs]; done) | (simp [nums_length, zs]; omega))) (by (first | exact nums_one | (intro u hu; simp at hu; subst hu; rfl) | (intro u hu; simp at hu; rcases hu with rfl | rfl | rfl | rfl | rfl | rfl | rfl <;> rfl) | (intro u hu; simp at hu; rcases hu with rfl | rfl | rfl | rfl <;> rfl) | (intro u hu; simp at hu; rcases hu with rfl | rfl | rfl <;> rfl) | (intro u hu; simp at hu; rcases hu with rfl | rfl <;> rfl))) ?_; clear H; intro W H))
  refine bodyPost_ret (results_cell_row (p := 6) (ty := 43) rfl _ _ g6 43 _ (0, 0) _ rfl (H.heap .head) Try.underlying43 rfl (by rw [size43]; simp only [List.size_toArray, nums_length, hl])) rfl ?_
  exact ⟨rfl, H.below⟩
end Go.Proofs.Ythlpimojojofbaa.O
