/- crash.Tears: a loop over a function, with a loop in it. -/
import Derived.Test.YthlpimojojofbaaCrashAll
namespace Go.Proofs.Ythlpimojojofbaa.O
open Go.RowKit Go.Proofs.YthlpimojojofbaaW.PrintWords Go.Proofs.YthlpimojojofbaaW.PrintLast Go.Proofs.YthlpimojojofbaaW.PrintMore Go.Proofs.Ythlpimojojofbaa.F Go.Proofs.Ythlpimojojofbaa.Plain
attribute [local go_sem] Oper.semAt_some
set_option linter.unusedVariables false
set_option linter.unusedSimpArgs false
/-- what is laid: the newest first -/
def tblks : List (Value × Int × Int × Int) → List Res
  | [] => []
  | x :: r => .row x.1 5 1 1 [.int .u8 x.2.1] :: tblks r
def tcells : List (Value × Int × Int × Int) → List Value
  | [] => []
  | x :: r => tcells r ++ [x.1, .int .i64 x.2.2.1, .int .i64 x.2.2.2]
def trow (cut : Int) (k : Nat) : Nat → List (Int × Int × Int) → List (Int × Int × Int)
  | 0, l => l
  | i + 1, l => ((k : Int), (i : Int), cut) :: trow cut k i l
def tall (cut : Int) (m : Nat) : Nat → List (Int × Int × Int)
  | 0 => []
  | k + 1 => trow cut k m (tall cut m k)
theorem trow_len (cut : Int) (k : Nat) (l : List (Int × Int × Int)) (i : Nat) : (trow cut k i l).length = l.length + i := by
  induction i with
  | zero => rfl
  | succ i ih => simp only [trow, List.length_cons, ih]; omega
theorem tall_len (cut : Int) (m k : Nat) : (tall cut m k).length = k * m := by
  induction k with
  | zero => simp [tall]
  | succ k ih => rw [tall, trow_len, ih, Nat.succ_mul]
set_option maxRecDepth 100000 in
set_option maxHeartbeats 4000000 in
theorem tears_calls (n cut : Int) (m N : Nat) (hn : mx 0 (mn n 6) = (m : Int)) (hm : m ≤ 6) (hN : N = 2 ^ m) (w : World) :
    Calls Try.prog 27 #[.int .i64 n, .int .i64 cut] w fun e W => ∃ xs v, xs.map (·.2) = tall cut m N ∧ e = .returned v ∧ Own w F0 (.row v 37 3 (tall cut m N).length (tcells xs) :: tblks xs) W := by
  have hc := crash_near.calls n 6 m
  rw [show crash_near.f n 6 = some (m : Int) by unfold crash_near.f; rw [hn]] at hc
  clear hn
  refine (callsIn_wide (n := 9)).1 (callsIn_of_wp_marks Try.func27 rfl trivial ?_ rfl)
  simp only [Try.ntmps27, List.size_toArray, List.length_cons, List.length_nil, Nat.reduceAdd, Nat.reduceSub, Array.replicate_succ, Array.replicate_zero, List.push_toArray, List.append_toArray, List.nil_append, List.cons_append]
  gi_wp2
  have H := ((Own.start w).alloc 3 [.int .i64 n]).alloc 3 [.int .i64 cut]
  rw [World.size_alloc] at H
  generalize hB2 : w.heap.size = B2 at H ⊢
  refine ⟨trivial, (callsIn_wide.2 (hc _ trivial)).mono ?_⟩
  rintro e W ⟨rfl, hb⟩
  replace H := H.to hb
  clear hb hc
  generalize hB3 : B2 + 1 = B3 at H ⊢
  have c2 := H.cell (.tail .head) 0
  have f2 := H.frozen (.tail .head) 0
  have H := (H.set (.tail .head) 0 (.int .i64 (m : Int)) (by simp)).alloc 31 [.slice none 0 0]
  have c2' : ((W.setCell ⟨B2, 0, none⟩ (.int .i64 (m : Int))).alloc (.cells #[.slice none 0 0] 31)).cell? ⟨B2, 0, none⟩ = some (.int .i64 (m : Int)) := H.cell (.tail (.tail .head)) 0
  gi_wp2
  rw [World.size_setCell] at H
  generalize W.heap.size = B5 at H ⊢
  refine ⟨trivial, (callsIn_wide.2 (each_own H (m : Int))).mono ?_⟩
  clear H c2 f2 c2'
  rintro e W ⟨Bn, rfl, H⟩
  gi_wp2
  have H0 := (H.cons (r := .row (.slice none 0 0) 37 3 0 []) (Below.refl _ _) (own_nil _ _ _ _) (fun k hk => by cases hk))
  clear H
  refine rf_own (n := 8) (N := N) rfl (Go.Proofs.enters_of Try.func93 (by kernel_rfl) rfl) rfl
    (fun k L => ∃ xs v, xs.map (·.2) = tall cut m k ∧ L = .row v 37 3 (tall cut m k).length (tcells xs) :: .blk Bn 3 [.int .i64 (m : Int)] :: .blk B5 31 [v] :: .blk B3 3 [.int .i64 cut] :: .blk B2 3 [.int .i64 (m : Int)] :: tblks xs)
    (fun k a L => ∃ xs v g B6, xs.map (·.2) = tall cut m k ∧ a = { tmps := #[.int .i64 n, .int .i64 cut, .pointer (some ⟨B2, 0, none⟩), .pointer (some ⟨B3, 0, none⟩), .slice none 0 0, .pointer (some ⟨B5, 0, none⟩), .pointer (some ⟨B6, 0, none⟩), undef, .int .i64 n, .int .i64 (m : Int), .int .i64 (m : Int), .func (.func 93) #[] #[.pointer (some ⟨Bn, 0, none⟩)], .agg #[.slice (some ⟨g, 0, none⟩) 1 1, .int .i64 (-1), .int .i64 0], undef, undef, undef, undef, undef, undef, undef, undef, undef, undef, undef, undef, undef, undef, undef, undef], defers := [] } ∧
      L = .blk B6 37 [.slice (some ⟨g, 0, none⟩) 1 1, .int .i64 (-1), .int .i64 0] :: .blk g 5 [.int .u8 (k : Int)] :: .row v 37 3 (tall cut m k).length (tcells xs) :: .blk Bn 3 [.int .i64 (m : Int)] :: .blk B5 31 [v] :: .blk B3 3 [.int .i64 cut] :: .blk B2 3 [.int .i64 (m : Int)] :: tblks xs)
    H0 ⟨[], _, rfl, rfl⟩
    (fun k W => .agg #[.slice (some ⟨W.heap.size, 0, none⟩) 1 1, .int .i64 (-1), .int .i64 0]) (fun k => .cells #[.int .u8 (k : Int)] 5) (fun W => W.cell? ⟨Bn, 0, none⟩ = some (.int .i64 (m : Int)))
    ?_ (fun l J W h1 h2 h3 => each1_in 8 l Bn m N (by omega) hN J h1 h2 W h3) ?assign ?body ?done
  · rintro F k L W ⟨gs, v, hl, rfl⟩ H
    exact H.cell (.tail .head) 0
  case assign =>
    rintro F l k L W hk ⟨xs, v, hl, rfl⟩ H
    have H1 := H.alloc 5 [.int .u8 (k : Int)]
    clear H
    refine regIn_lit rfl (fun ⟨_, _, h⟩ => h) ?_
    simp only [List.zip_toArray, List.zip_cons_cons, List.zip_nil_right, List.zip_nil_left, List.foldl_toArray, List.foldl_cons, List.foldl_nil, List.setIfInBounds_toArray, List.set_cons_zero, List.set_cons_succ]
    rw [show (W.alloc (.cells #[.int .u8 (k : Int)] 5)) = W.alloc (.cells [Value.int .u8 (k : Int)].toArray 5) from rfl]
    generalize W.alloc (.cells [Value.int .u8 (k : Int)].toArray 5) = W1 at H1 ⊢
    generalize W.heap.size = g at H1 ⊢
    have H := H1
    clear H1
    go_wp2_with (first
    | ((with_reducible refine gate_dst (N := 6) rfl ?_); refine l_allocA rfl H 37 rfl _ zero37 ?_; clear H; intro g6 W H)
    | ((with_reducible refine gate_store (t := 37) (p := 6) rfl ?_); refine l_storeW rfl H 37 _ _ rfl _ rfl _ rfl (by (repeat (first | exact In.head | apply In.tail))) _ size37 (by (first | rfl | assumption | omega | (simp only [nums_length]; omega) | (simp [nums_length, zs]; done) | (simp [nums_length, zs]; omega))) (by (first | rfl | assumption | omega | (simp only [nums_length]; omega) | (simp [nums_length, zs]; done) | (simp [nums_length, zs]; omega))) (by (first | exact nums_one | (intro u hu; simp at hu; subst hu; rfl) | (intro u hu; simp at hu; rcases hu with rfl | rfl | rfl | rfl | rfl | rfl | rfl <;> rfl) | (intro u hu; simp at hu; rcases hu with rfl | rfl | rfl | rfl <;> rfl) | (intro u hu; simp at hu; rcases hu with rfl | rfl | rfl <;> rfl) | (intro u hu; simp at hu; rcases hu with rfl | rfl <;> rfl))) ?_; clear H; intro W H))
    exact ⟨_, ⟨xs, v, g, g6, hl, rfl, rfl⟩, H⟩
  case body =>
    rintro F l k a1 L W hk ⟨xs, v, g, B6, hl, rfl, rfl⟩ H
    have hk256 : k < 256 := Nat.lt_of_lt_of_le hk (by subst hN; exact Nat.le_trans (Nat.pow_le_pow_right (by decide) hm) (by decide))
    have c2 := H.cell (.tail (.tail (.tail (.tail (.tail (.tail .head)))))) 0
    have lN : (tall cut m k).length ≤ 1600 := by rw [tall_len]; exact Nat.le_trans (Nat.mul_le_mul (Nat.le_of_lt hk256) hm) (by decide : 256 * 6 ≤ 1600)
    gi_wp2
    gi_loopw [14] (fun p wr => ∃ (i : Nat) (ys : List (Value × Int × Int × Int)) (u : Value), p = .int .i64 (i : Int) ∧ i ≤ m ∧ ys.map (·.2) = trow cut k i (tall cut m k) ∧ Own w F (.blk B6 37 [.slice (some ⟨g, 0, none⟩) 1 1, .int .i64 (-1), .int .i64 0] :: .blk g 5 [.int .u8 (k : Int)] :: .row u 37 3 (trow cut k i (tall cut m k)).length (tcells ys) :: .blk Bn 3 [.int .i64 (m : Int)] :: .blk B5 31 [u] :: .blk B3 3 [.int .i64 cut] :: .blk B2 3 [.int .i64 (m : Int)] :: tblks ys) wr) (fun p _ => m - (intOf p).toNat)
    case atStart => exact ⟨0, xs, v, rfl, by omega, hl, H⟩
    case round =>
      clear H hl
      obtain ⟨i, ys, u, rfl, hi, hl, H⟩ := hrel
      by_cases ci : i < m
      · have q1 : decide (i < m) = true := decide_eq_true ci
        have lt : (trow cut k i (tall cut m k)).length ≤ 2000 := by rw [trow_len]; omega
        generalize hlt : (trow cut k i (tall cut m k)).length = tl at H lt
        gi_wp2
        refine startIn_ (m := 11) (S := Own _ _ _) (ds := [9, 10]) #[false, false, false, false, false, false, false, false, false, false, false] (by kernel_rfl) rfl rfl H.drew (by kernel_rfl) (fun ⟨_, _, h⟩ => h) (fun hHeld => ?_)
        replace H := H.drew
        generalize World.drew _ = W at H hHeld ⊢
        refine pure_ (i := 2) (N := some 19) (v := ?_) (a' := ?_) #[false, false, true, false, false, false, false, false, false, false, false] rfl rfl (by kernel_rfl) (fun _ _ _ h => h) (Or.inl ⟨by rfl, ?_⟩) ?_ ?_
        rotate_left
        · intro w'
          go_simp
          with_reducible rfl
        rotate_left
        · simp only [Act.put, List.setIfInBounds_toArray, List.set_cons_zero, List.set_cons_succ, i64_w, i32_w]
          rfl
        refine pure_ (i := 5) (N := some 22) (v := ?_) (a' := ?_) #[false, false, true, false, false, true, false, false, false, false, false] rfl rfl (by kernel_rfl) (fun _ _ _ h => h) (Or.inl ⟨by rfl, ?_⟩) ?_ ?_
        rotate_left
        · intro w'
          go_simp
          with_reducible rfl
        rotate_left
        · simp only [Act.put, List.setIfInBounds_toArray, List.set_cons_zero, List.set_cons_succ, i64_w, i32_w]
          rfl
        refine take_load1 (i := 0) (N := some 17) (a' := ?_) #[true, false, true, false, false, true, false, false, false, false, false] rfl rfl (by kernel_rfl) (fun _ _ _ _ h => h) (by rfl) hHeld 31 _ rfl _ _ rfl (by (repeat (first | exact In.head | apply In.tail))) _ Try.underlying31 rfl _ (by first | rfl | assumption | exact nums_at _ (by omega)) ?_ ?_
        rotate_left
        · simp only [Act.put, List.setIfInBounds_toArray, List.set_cons_zero, List.set_cons_succ, i64_w, i32_w]
          rfl
        refine take_load1 (i := 3) (N := some 20) (a' := ?_) #[true, false, true, true, false, true, false, false, false, false, false] rfl rfl (by kernel_rfl) (fun _ _ _ _ h => h) (by rfl) hHeld 35 _ rfl _ _ rfl (by (repeat (first | exact In.head | apply In.tail))) _ Try.underlying35 rfl _ (by first | rfl | assumption | exact nums_at _ (by omega)) ?_ ?_
        rotate_left
        · simp only [Act.put, List.setIfInBounds_toArray, List.set_cons_zero, List.set_cons_succ, i64_w, i32_w]
          rfl
        refine take_load1 (i := 6) (N := some 23) (a' := ?_) #[true, false, true, true, false, true, true, false, false, false, false] rfl rfl (by kernel_rfl) (fun _ _ _ _ h => h) (by rfl) hHeld 3 _ rfl _ _ rfl (by (repeat (first | exact In.head | apply In.tail))) _ Try.underlying3 rfl _ (by first | rfl | assumption | exact nums_at _ (by omega)) ?_ ?_
        rotate_left
        · simp only [Act.put, List.setIfInBounds_toArray, List.set_cons_zero, List.set_cons_succ, i64_w, i32_w]
          rfl
        refine one_ (i := 1) (N := some 18) #[true, true, true, true, false, true, true, false, false, false, false] rfl rfl (by kernel_rfl) (by decide) (fun K hK => ?_)
        refine wanted_ rfl ?_
        refine w_build0 H 35 5 rfl Try.underlying35 (by kernel_rfl) ?_
        clear H
        intro g18 W H
        refine hK.out _ _ ?_ (fun hHeld => ?_)
        · first | trivial | exact H | exact H.del .head | exact (H.del .head).del .head
        clear hK K
        refine norm_ (a' := ?_) ?_ ?_
        rotate_left
        · show Act.put _ (some 18) _ = _
          simp only [Act.put, List.setIfInBounds_toArray, List.set_cons_zero, List.set_cons_succ, i64_w, i32_w]
          rfl
        refine one_ (i := 4) (N := some 21) #[true, true, true, true, true, true, true, false, false, false, false] rfl rfl (by kernel_rfl) (by decide) (fun K hK => ?_)
        refine wanted_ rfl ?_
        refine w_append1 H _ _ 35 5 rfl Try.underlying35 _ _ _ inf5 rfl (by decide) (by decide) _ _ _ rfl (by (repeat (first | exact In.head | apply In.tail))) _ _ rfl (by (repeat (first | exact In.head | apply In.tail))) (by (first | rfl | assumption | omega | (simp only [nums_length]; omega) | (simp [nums_length, zs]; done) | (simp [nums_length, zs]; omega))) (by (first | exact nums_one | (intro u hu; simp at hu; subst hu; rfl) | (intro u hu; simp at hu; rcases hu with rfl | rfl | rfl | rfl | rfl | rfl | rfl <;> rfl) | (intro u hu; simp at hu; rcases hu with rfl | rfl | rfl | rfl <;> rfl) | (intro u hu; simp at hu; rcases hu with rfl | rfl | rfl <;> rfl) | (intro u hu; simp at hu; rcases hu with rfl | rfl <;> rfl))) (by omega) ?_
        clear H
        intro v21 W H
        obtain ⟨A21, c21, rfl⟩ := H.row_slice .head
        refine hK.out _ _ ?_ (fun hHeld => ?_)
        · first | trivial | exact H | exact H.del .head | exact (H.del .head).del .head
        clear hK K
        refine norm_ (a' := ?_) ?_ ?_
        rotate_left
        · show Act.put _ (some 21) _ = _
          simp only [Act.put, List.setIfInBounds_toArray, List.set_cons_zero, List.set_cons_succ, i64_w, i32_w]
          rfl
        refine pure_ (i := 7) (N := some 24) (v := ?_) (a' := ?_) #[true, true, true, true, true, true, true, true, false, false, false] rfl rfl (by kernel_rfl) (fun _ _ _ h => h) (Or.inl ⟨by rfl, ?_⟩) ?_ ?_
        rotate_left
        · intro w'
          go_simp
          with_reducible rfl
        rotate_left
        · simp only [Act.put, List.setIfInBounds_toArray, List.set_cons_zero, List.set_cons_succ, i64_w, i32_w]
          rfl
        refine one_ (i := 8) (N := some 25) #[true, true, true, true, true, true, true, true, true, false, false] rfl rfl (by kernel_rfl) (by decide) (fun K hK => ?_)
        refine wanted_ rfl ?_
        refine w_build1A H 31 37 _ rfl Try.underlying31 _ rfl _ _ zs37 rfl (by (first | rfl | assumption | omega | (simp only [nums_length]; omega) | (simp [nums_length, zs]; done) | (simp [nums_length, zs]; omega))) (by decide) (by decide) ?_
        clear H
        intro g25 W H
        refine hK.out _ _ ?_ (fun hHeld => ?_)
        · first | trivial | exact H | exact H.del .head | exact (H.del .head).del .head
        clear hK K
        refine norm_ (a' := ?_) ?_ ?_
        rotate_left
        · show Act.put _ (some 25) _ = _
          simp only [Act.put, List.setIfInBounds_toArray, List.set_cons_zero, List.set_cons_succ, i64_w, i32_w]
          rfl
        refine last_ (i := 9) (N := some 26) #[true, true, true, true, true, true, true, true, true, true, false] rfl rfl (by kernel_rfl) (by decide) (fun K hK => ?_)
        refine wanted_ rfl ?_
        refine w_append1 H _ _ 31 37 rfl Try.underlying31 _ _ _ inf37 rfl (by decide) (by decide) _ _ _ rfl (by (repeat (first | exact In.head | apply In.tail))) _ _ rfl (by (repeat (first | exact In.head | apply In.tail))) (by (first | rfl | assumption | omega | (simp only [nums_length]; omega) | (simp [nums_length, zs]; done) | (simp [nums_length, zs]; omega))) (by (first | exact nums_one | (intro u hu; simp at hu; subst hu; rfl) | (intro u hu; simp at hu; rcases hu with rfl | rfl | rfl | rfl | rfl | rfl | rfl <;> rfl) | (intro u hu; simp at hu; rcases hu with rfl | rfl | rfl | rfl <;> rfl) | (intro u hu; simp at hu; rcases hu with rfl | rfl | rfl <;> rfl) | (intro u hu; simp at hu; rcases hu with rfl | rfl <;> rfl))) (by omega) ?_
        clear H
        intro v26 W H
        obtain ⟨A26, c26, rfl⟩ := H.row_slice (.tail (.tail (.tail (.tail .head))))
        refine hK.out _ _ ?_
        clear hK K
        refine norm_ (a' := ?_) ?_ ?_
        rotate_left
        · show Act.put _ (some 26) _ = _
          simp only [Act.put, List.setIfInBounds_toArray, List.set_cons_zero, List.set_cons_succ, i64_w, i32_w]
          rfl
        refine last_ (i := 10) (N := none) #[true, true, true, true, true, true, true, true, true, true, true] rfl rfl (by kernel_rfl) (by decide) (fun K hK => ?_)
        refine wanted_ rfl ?_
        refine w_store1 H 31 _ _ rfl _ _ rfl _ (by first | (go_simp; done) | (go_simp; with_reducible rfl)) (by (repeat (first | exact In.head | apply In.tail))) rfl rfl size31 (by (first | rfl | assumption | omega | (simp only [nums_length]; omega) | (simp [nums_length, zs]; done) | (simp [nums_length, zs]; omega))) ?_
        clear H
        intro W H
        refine hK.out _ _ ?_
        clear hK K
        refine done_ (by kernel_rfl) ?_
        clear hHeld
        gi_wp2
        have H1 := H.del .head
        have hl1 : (trow cut k (i + 1) (tall cut m k)).length = tl + 1 := by rw [trow, List.length_cons, hlt]
        refine ⟨⟨i + 1, (.slice A21 1 c21, (k : Int), (i : Int), cut) :: ys, .slice A26 (tl + 1) c26, by go_num, by omega, by simp [hl, trow], ?_⟩, by simp [intOf]; omega⟩
        rw [hl1]
        exact H1.perm (List.perm_middle (l₁ := [_, _, _, _, _, _, _])).symm
      · have ei : i = m := by omega
        subst ei
        have q1 : decide (i < i) = false := decide_eq_false ci
        gi_wp2
        exact ⟨_, ⟨ys, u, hl, rfl⟩, (H.del .head).del .head⟩
  case done =>
    rintro F D L W ⟨xs, v, hl, rfl⟩ H hF hD
    have c0 := H.cell (.tail (.tail .head)) 0
    gi_wp2
    refine ⟨by simp, .inl ⟨_, _, rfl, run_takeDeferred (H.holds D _ hF), ?_⟩⟩
    have H1 := H.putF D _ (.deferred none) hF hD
    refine ⟨_, results_tmp rfl _ _ _, xs, v, hl, rfl, ?_⟩
    have H2 := (((H1.del (.tail .head)).del (.tail .head)).del (.tail .head)).del (.tail .head)
    exact H2.loose (fun g o h => by cases h)
end Go.Proofs.Ythlpimojojofbaa.O
