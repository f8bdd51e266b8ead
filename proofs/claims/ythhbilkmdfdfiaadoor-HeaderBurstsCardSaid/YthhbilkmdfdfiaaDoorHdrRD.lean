/- header.Newer; the reference's Decode, by what is owned. -/
import Derived.Test.YthhbilkmdfdfiaaDoorHdrD
set_option linter.unusedVariables false
set_option linter.unusedSimpArgs false
namespace Go.Proofs.YthhbilkmdfdfiaaDoor.O
open Go.RowKit Go.Proofs.YthhbilkmdfdfiaaDoorW.PrintWords Go.Proofs.YthhbilkmdfdfiaaDoorW.PrintLast Go.Proofs.YthhbilkmdfdfiaaDoorW.PrintMore Go.Proofs.YthhbilkmdfdfiaaDoor.F Go.Proofs.YthhbilkmdfdfiaaDoor.F.Nums Go.Proofs.YthhbilkmdfdfiaaDoor.Plain
def bR (ep seq fi : Int) : Bool := decide (ep > 0) && decide (seq > 0) && decide (seq ≤ 2147483647) && decide (fi > 0) && decide (fi ≤ 2147483647)
theorem bR_six (ep seq fi : Int) : (decide (ep > 0) = false ∧ bR ep seq fi = false) ∨ (decide (ep > 0) = true ∧ decide (seq > 0) = false ∧ bR ep seq fi = false) ∨ (decide (ep > 0) = true ∧ decide (seq > 0) = true ∧ decide (seq ≤ 2147483647) = false ∧ bR ep seq fi = false) ∨
    (decide (ep > 0) = true ∧ decide (seq > 0) = true ∧ decide (seq ≤ 2147483647) = true ∧ decide (fi > 0) = false ∧ bR ep seq fi = false) ∨ (decide (ep > 0) = true ∧ decide (seq > 0) = true ∧ decide (seq ≤ 2147483647) = true ∧ decide (fi > 0) = true ∧ decide (fi ≤ 2147483647) = false ∧ bR ep seq fi = false) ∨
    (decide (ep > 0) = true ∧ decide (seq > 0) = true ∧ decide (seq ≤ 2147483647) = true ∧ decide (fi > 0) = true ∧ decide (fi ≤ 2147483647) = true ∧ bR ep seq fi = true) := by
  unfold bR
  cases decide (ep > 0) <;> cases decide (seq > 0) <;> cases decide (seq ≤ 2147483647) <;> cases decide (fi > 0) <;> cases decide (fi ≤ 2147483647) <;> simp
def okR (b : Bool) (fi h0 h1 h2 h3 : Int) : Nat → Bool
  | 0 => b
  | k + 1 => okR b fi h0 h1 h2 h3 k && decide (hd4 h0 h1 h2 h3 k ≥ 0) && decide (hd4 h0 h1 h2 h3 k < fi)
theorem okR_all (ep seq fi h0 h1 h2 h3 : Int) (he : 0 ≤ ep) : okR (bR ep seq fi) fi h0 h1 h2 h3 4 = rightH ep seq fi h0 h1 h2 h3 := by
  rw [Bool.eq_iff_iff, rightH_iff]
  simp [okR, bR, hd4]
  omega
set_option maxRecDepth 100000 in
set_option maxHeartbeats 8000000 in
theorem rright_calls (ep seq fi h0 h1 h2 h3 : Int) (he : 0 ≤ ep) (w : World) :
    Calls Tryd.prog 38 #[hV ep seq fi h0 h1 h2 h3] w fun e W => e = .returned (.bool (rightH ep seq fi h0 h1 h2 h3)) ∧ Below w.heap.size w W := by
  rw [← okR_all ep seq fi h0 h1 h2 h3 he]
  have H := Own.start w
  have six := bR_six ep seq fi
  generalize bR ep seq fi = b at *
  go_enter Tryd.func38, Tryd.ntmps38
  rcases six with ⟨p1, pb⟩ | ⟨p1, p2, pb⟩ | ⟨p1, p2, p3, pb⟩ | ⟨p1, p2, p3, p4, pb⟩ | ⟨p1, p2, p3, p4, p5, pb⟩ | ⟨p1, p2, p3, p4, p5, pb⟩
  all_goals
    have PB := Aside0.mk pb
    clear pb
    go_wp2_with (first
    | ((with_reducible refine gate_dst (N := 1) rfl ?_); refine l_boxA rfl H 54 _ rfl _ rfl ?_; clear H; intro g1 W H)
    | ((with_reducible refine gate_dst (N := 6) rfl ?_); refine l_load1 rfl H 51 _ rfl _ _ rfl (by (repeat (first | exact In.head | apply In.tail))) _ Tryd.underlying51 rfl _ (by first | rfl | assumption | exact nums_at _ (by omega)) ?_)
    | ((with_reducible refine gate_dst (N := 10) rfl ?_); refine gate_guard (by rfl) ?_; refine l_load1 rfl H 3 _ rfl _ _ rfl (by (repeat (first | exact In.head | apply In.tail))) _ Tryd.underlying3 rfl _ (by first | rfl | assumption | exact nums_at _ (by omega)) ?_)
    | ((with_reducible refine gate_dst (N := 15) rfl ?_); refine gate_guard (by rfl) ?_; refine l_load1 rfl H 3 _ rfl _ _ rfl (by (repeat (first | exact In.head | apply In.tail))) _ Tryd.underlying3 rfl _ (by first | rfl | assumption | exact nums_at _ (by omega)) ?_)
    | ((with_reducible refine gate_dst (N := 20) rfl ?_); refine gate_guard (by rfl) ?_; refine l_load1 rfl H 3 _ rfl _ _ rfl (by (repeat (first | exact In.head | apply In.tail))) _ Tryd.underlying3 rfl _ (by first | rfl | assumption | exact nums_at _ (by omega)) ?_)
    | ((with_reducible refine gate_dst (N := 25) rfl ?_); refine gate_guard (by rfl) ?_; refine l_load1 rfl H 3 _ rfl _ _ rfl (by (repeat (first | exact In.head | apply In.tail))) _ Tryd.underlying3 rfl _ (by first | rfl | assumption | exact nums_at _ (by omega)) ?_))
    go_loopg [3, 4] 4 (fun gq v3 v4 w' => ∃ k : Nat, v4 = .int .i64 (k : Int) ∧ k + gq = 4 ∧ v3 = .bool (okR b fi h0 h1 h2 h3 k) ∧ Own w F0 [.blk g1 54 [.int .u64 ep, .int .i64 seq, .int .i64 fi, .int .i64 h0, .int .i64 h1, .int .i64 h2, .int .i64 h3]] w')
    case atStart => exact ⟨0, rfl, rfl, by rw [show okR b fi h0 h1 h2 h3 0 = b from rfl, PB.out], H⟩
    case round =>
      clear H
      obtain ⟨k, rfl, hk, rfl, H⟩ := hrel
      by_cases ck : k < 4
      · obtain ⟨gk', rfl⟩ : ∃ q, gk = q + 1 := ⟨gk - 1, by omega⟩
        have q0 : ((k : Int) < 4) = True := eq_true (by omega)
        have q0' : decide ((k : Int) < 4) = true := decide_eq_true (by omega)
        have q1 : ((0 : Int) ≤ (k : Int)) = True := eq_true (by omega)
        have hv : [Value.int .u64 ep, Value.int .i64 seq, Value.int .i64 fi, Value.int .i64 h0, Value.int .i64 h1, Value.int .i64 h2, Value.int .i64 h3][3 + k]? = some (.int .i64 (hd4 h0 h1 h2 h3 k)) := by
          rcases (show k = 0 ∨ k = 1 ∨ k = 2 ∨ k = 3 by omega) with rfl | rfl | rfl | rfl <;> rfl
        have HS := Aside0.mk (show okR b fi h0 h1 h2 h3 (k + 1) = (okR b fi h0 h1 h2 h3 k && decide (hd4 h0 h1 h2 h3 k ≥ 0) && decide (hd4 h0 h1 h2 h3 k < fi)) from rfl)
        have HK := Aside0.mk hk
        clear hk
        generalize hd4 h0 h1 h2 h3 k = h at hv HS
        generalize okR b fi h0 h1 h2 h3 k = o at HS ⊢
        cases o with
        | false =>
          go_wp2
          refine start_ (n := 18) (S := Own _ _ _) (ds := []) #[false, false, false, false, false, false, false, false, false, false, false, false, false, false, false, false, false, false] (by kernel_rfl) rfl rfl H.drew (fun hHeld => ?_)
          replace H := H.drew
          generalize World.drew _ = W at H hHeld ⊢
          refine pure_ (i := 0) (N := some 32) (v := ?_) (a' := ?_) #[true, false, false, false, false, false, false, false, false, false, false, false, false, false, false, false, false, false] rfl rfl (by kernel_rfl) (fun _ _ _ h => h) (Or.inl ⟨by rfl, ?_⟩) ?_ ?_
          rotate_left
          · intro w'
            go_simp
            with_reducible rfl
          rotate_left
          · simp only [Act.put, List.setIfInBounds_toArray, List.set_cons_zero, List.set_cons_succ, i64_w, i32_w]
            rfl
          refine pure_ (i := 1) (N := some 33) (v := ?_) (a' := ?_) #[true, true, false, false, false, false, false, false, false, false, false, false, false, false, false, false, false, false] rfl rfl (by kernel_rfl) (fun _ _ _ h => h) (Or.inl ⟨by rfl, ?_⟩) ?_ ?_
          rotate_left
          · intro w'
            go_simp
            with_reducible rfl
          rotate_left
          · simp only [Act.put, List.setIfInBounds_toArray, List.set_cons_zero, List.set_cons_succ, i64_w, i32_w]
            rfl
          refine pure_ (i := 2) (N := some 34) (v := undef) (a' := ?_) #[true, true, true, false, false, false, false, false, false, false, false, false, false, false, false, false, false, false] rfl rfl (by kernel_rfl) (fun _ _ _ h => h) (Or.inr ⟨by rfl, rfl⟩) ?_ ?_
          rotate_left
          · simp only [Act.put, List.setIfInBounds_toArray, List.set_cons_zero, List.set_cons_succ, i64_w, i32_w]
            rfl
          refine pure_ (i := 3) (N := some 35) (v := undef) (a' := ?_) #[true, true, true, true, false, false, false, false, false, false, false, false, false, false, false, false, false, false] rfl rfl (by kernel_rfl) (fun _ _ _ h => h) (Or.inr ⟨by rfl, rfl⟩) ?_ ?_
          rotate_left
          · simp only [Act.put, List.setIfInBounds_toArray, List.set_cons_zero, List.set_cons_succ, i64_w, i32_w]
            rfl
          refine pure_ (i := 4) (N := some 36) (v := undef) (a' := ?_) #[true, true, true, true, true, false, false, false, false, false, false, false, false, false, false, false, false, false] rfl rfl (by kernel_rfl) (fun _ _ _ h => h) (Or.inr ⟨by rfl, rfl⟩) ?_ ?_
          rotate_left
          · simp only [Act.put, List.setIfInBounds_toArray, List.set_cons_zero, List.set_cons_succ, i64_w, i32_w]
            rfl
          refine pure_ (i := 5) (N := some 37) (v := undef) (a' := ?_) #[true, true, true, true, true, true, false, false, false, false, false, false, false, false, false, false, false, false] rfl rfl (by kernel_rfl) (fun _ _ _ h => h) (Or.inr ⟨by rfl, rfl⟩) ?_ ?_
          rotate_left
          · simp only [Act.put, List.setIfInBounds_toArray, List.set_cons_zero, List.set_cons_succ, i64_w, i32_w]
            rfl
          refine pure_ (i := 6) (N := some 38) (v := undef) (a' := ?_) #[true, true, true, true, true, true, true, false, false, false, false, false, false, false, false, false, false, false] rfl rfl (by kernel_rfl) (fun _ _ _ h => h) (Or.inr ⟨by rfl, rfl⟩) ?_ ?_
          rotate_left
          · simp only [Act.put, List.setIfInBounds_toArray, List.set_cons_zero, List.set_cons_succ, i64_w, i32_w]
            rfl
          refine pure_ (i := 7) (N := some 39) (v := ?_) (a' := ?_) #[true, true, true, true, true, true, true, true, false, false, false, false, false, false, false, false, false, false] rfl rfl (by kernel_rfl) (fun _ _ _ h => h) (Or.inl ⟨by rfl, ?_⟩) ?_ ?_
          rotate_left
          · intro w'
            go_simp
            with_reducible rfl
          rotate_left
          · simp only [Act.put, List.setIfInBounds_toArray, List.set_cons_zero, List.set_cons_succ, i64_w, i32_w]
            rfl
          refine pure_ (i := 8) (N := some 40) (v := ?_) (a' := ?_) #[true, true, true, true, true, true, true, true, true, false, false, false, false, false, false, false, false, false] rfl rfl (by kernel_rfl) (fun _ _ _ h => h) (Or.inl ⟨by rfl, ?_⟩) ?_ ?_
          rotate_left
          · intro w'
            go_simp
            with_reducible rfl
          rotate_left
          · simp only [Act.put, List.setIfInBounds_toArray, List.set_cons_zero, List.set_cons_succ, i64_w, i32_w]
            rfl
          refine pure_ (i := 9) (N := some 41) (v := undef) (a' := ?_) #[true, true, true, true, true, true, true, true, true, true, false, false, false, false, false, false, false, false] rfl rfl (by kernel_rfl) (fun _ _ _ h => h) (Or.inr ⟨by rfl, rfl⟩) ?_ ?_
          rotate_left
          · simp only [Act.put, List.setIfInBounds_toArray, List.set_cons_zero, List.set_cons_succ, i64_w, i32_w]
            rfl
          refine pure_ (i := 10) (N := some 42) (v := undef) (a' := ?_) #[true, true, true, true, true, true, true, true, true, true, true, false, false, false, false, false, false, false] rfl rfl (by kernel_rfl) (fun _ _ _ h => h) (Or.inr ⟨by rfl, rfl⟩) ?_ ?_
          rotate_left
          · simp only [Act.put, List.setIfInBounds_toArray, List.set_cons_zero, List.set_cons_succ, i64_w, i32_w]
            rfl
          refine pure_ (i := 11) (N := some 43) (v := undef) (a' := ?_) #[true, true, true, true, true, true, true, true, true, true, true, true, false, false, false, false, false, false] rfl rfl (by kernel_rfl) (fun _ _ _ h => h) (Or.inr ⟨by rfl, rfl⟩) ?_ ?_
          rotate_left
          · simp only [Act.put, List.setIfInBounds_toArray, List.set_cons_zero, List.set_cons_succ, i64_w, i32_w]
            rfl
          refine pure_ (i := 13) (N := some 45) (v := undef) (a' := ?_) #[true, true, true, true, true, true, true, true, true, true, true, true, false, true, false, false, false, false] rfl rfl (by kernel_rfl) (fun _ _ _ h => h) (Or.inr ⟨by rfl, rfl⟩) ?_ ?_
          rotate_left
          · simp only [Act.put, List.setIfInBounds_toArray, List.set_cons_zero, List.set_cons_succ, i64_w, i32_w]
            rfl
          refine pure_ (i := 12) (N := some 44) (v := undef) (a' := ?_) #[true, true, true, true, true, true, true, true, true, true, true, true, true, true, false, false, false, false] rfl rfl (by kernel_rfl) (fun _ _ _ h => h) (Or.inr ⟨by rfl, rfl⟩) ?_ ?_
          rotate_left
          · simp only [Act.put, List.setIfInBounds_toArray, List.set_cons_zero, List.set_cons_succ, i64_w, i32_w]
            rfl
          refine pure_ (i := 14) (N := some 46) (v := undef) (a' := ?_) #[true, true, true, true, true, true, true, true, true, true, true, true, true, true, true, false, false, false] rfl rfl (by kernel_rfl) (fun _ _ _ h => h) (Or.inr ⟨by rfl, rfl⟩) ?_ ?_
          rotate_left
          · simp only [Act.put, List.setIfInBounds_toArray, List.set_cons_zero, List.set_cons_succ, i64_w, i32_w]
            rfl
          refine pure_ (i := 15) (N := some 47) (v := undef) (a' := ?_) #[true, true, true, true, true, true, true, true, true, true, true, true, true, true, true, true, false, false] rfl rfl (by kernel_rfl) (fun _ _ _ h => h) (Or.inr ⟨by rfl, rfl⟩) ?_ ?_
          rotate_left
          · simp only [Act.put, List.setIfInBounds_toArray, List.set_cons_zero, List.set_cons_succ, i64_w, i32_w]
            rfl
          refine pure_ (i := 16) (N := some 48) (v := ?_) (a' := ?_) #[true, true, true, true, true, true, true, true, true, true, true, true, true, true, true, true, true, false] rfl rfl (by kernel_rfl) (fun _ _ _ h => h) (Or.inl ⟨by rfl, ?_⟩) ?_ ?_
          rotate_left
          · intro w'
            go_simp
            with_reducible rfl
          rotate_left
          · simp only [Act.put, List.setIfInBounds_toArray, List.set_cons_zero, List.set_cons_succ, i64_w, i32_w]
            rfl
          refine pure_ (i := 17) (N := some 3) (v := ?_) (a' := ?_) #[true, true, true, true, true, true, true, true, true, true, true, true, true, true, true, true, true, true] rfl rfl (by kernel_rfl) (fun _ _ _ h => h) (Or.inl ⟨by rfl, ?_⟩) ?_ ?_
          rotate_left
          · intro w'
            go_simp
            with_reducible rfl
          rotate_left
          · simp only [Act.put, List.setIfInBounds_toArray, List.set_cons_zero, List.set_cons_succ, i64_w, i32_w]
            rfl
          refine done_ (by kernel_rfl) ?_
          clear hHeld
          go_wp2
          go_roundg gk'
          case measure => have := HK.out; omega
          case rel => exact ⟨k + 1, by go_num, by have := HK.out; omega, by rw [HS.out]; rfl, H⟩
        | true =>
          by_cases c1 : h ≥ 0
          · have d1 : decide (h ≥ 0) = true := decide_eq_true c1
            go_wp2
            refine start_ (n := 18) (S := Own _ _ _) (ds := []) #[false, false, false, false, false, false, false, false, false, false, false, false, false, false, false, false, false, false] (by kernel_rfl) rfl rfl H.drew (fun hHeld => ?_)
            replace H := H.drew
            generalize World.drew _ = W at H hHeld ⊢
            refine pure_ (i := 0) (N := some 32) (v := ?_) (a' := ?_) #[true, false, false, false, false, false, false, false, false, false, false, false, false, false, false, false, false, false] rfl rfl (by kernel_rfl) (fun _ _ _ h => h) (Or.inl ⟨by rfl, ?_⟩) ?_ ?_
            rotate_left
            · intro w'
              go_simp
              with_reducible rfl
            rotate_left
            · simp only [Act.put, List.setIfInBounds_toArray, List.set_cons_zero, List.set_cons_succ, i64_w, i32_w]
              rfl
            refine pure_ (i := 1) (N := some 33) (v := ?_) (a' := ?_) #[true, true, false, false, false, false, false, false, false, false, false, false, false, false, false, false, false, false] rfl rfl (by kernel_rfl) (fun _ _ _ h => h) (Or.inl ⟨by rfl, ?_⟩) ?_ ?_
            rotate_left
            · intro w'
              go_simp
              with_reducible rfl
            rotate_left
            · simp only [Act.put, List.setIfInBounds_toArray, List.set_cons_zero, List.set_cons_succ, i64_w, i32_w]
              rfl
            refine pure_ (i := 2) (N := some 34) (v := ?_) (a' := ?_) #[true, true, true, false, false, false, false, false, false, false, false, false, false, false, false, false, false, false] rfl rfl (by kernel_rfl) (fun _ _ _ h => h) (Or.inl ⟨by rfl, ?_⟩) ?_ ?_
            rotate_left
            · intro w'
              go_simp
              with_reducible rfl
            rotate_left
            · simp only [Act.put, List.setIfInBounds_toArray, List.set_cons_zero, List.set_cons_succ, i64_w, i32_w]
              rfl
            refine pure_ (i := 3) (N := some 35) (v := ?_) (a' := ?_) #[true, true, true, true, false, false, false, false, false, false, false, false, false, false, false, false, false, false] rfl rfl (by kernel_rfl) (fun _ _ _ h => h) (Or.inl ⟨by rfl, ?_⟩) ?_ ?_
            rotate_left
            · intro w'
              go_simp
              with_reducible rfl
            rotate_left
            · simp only [Act.put, List.setIfInBounds_toArray, List.set_cons_zero, List.set_cons_succ, i64_w, i32_w]
              rfl
            refine pure_ (i := 4) (N := some 36) (v := ?_) (a' := ?_) #[true, true, true, true, true, false, false, false, false, false, false, false, false, false, false, false, false, false] rfl rfl (by kernel_rfl) (fun _ _ _ h => h) (Or.inl ⟨by rfl, ?_⟩) ?_ ?_
            rotate_left
            · intro w'
              go_simp
              with_reducible rfl
            rotate_left
            · simp only [Act.put, List.setIfInBounds_toArray, List.set_cons_zero, List.set_cons_succ, i64_w, i32_w]
              rfl
            refine one_ (i := 5) (N := some 37) #[true, true, true, true, true, true, false, false, false, false, false, false, false, false, false, false, false, false] rfl rfl (by kernel_rfl) (by decide) (fun K hK => ?_)
            refine wanted_ rfl ?_
            refine w_load1 H 3 _ rfl _ _ rfl (by (repeat (first | exact In.head | apply In.tail))) _ Tryd.underlying3 rfl _ (by first | rfl | assumption | exact nums_at _ (by omega)) ?_
            refine hK.out _ _ ?_ (fun hHeld => ?_)
            · first | trivial | exact H | exact H.del .head | exact (H.del .head).del .head
            clear hK K
            refine norm_ (a' := ?_) ?_ ?_
            rotate_left
            · show Act.put _ (some 37) _ = _
              simp only [Act.put, List.setIfInBounds_toArray, List.set_cons_zero, List.set_cons_succ, i64_w, i32_w]
              rfl
            refine pure_ (i := 6) (N := some 38) (v := ?_) (a' := ?_) #[true, true, true, true, true, true, true, false, false, false, false, false, false, false, false, false, false, false] rfl rfl (by kernel_rfl) (fun _ _ _ h => h) (Or.inl ⟨by rfl, ?_⟩) ?_ ?_
            rotate_left
            · intro w'
              go_simp
              with_reducible rfl
            rotate_left
            · simp only [Act.put, List.setIfInBounds_toArray, List.set_cons_zero, List.set_cons_succ, i64_w, i32_w]
              rfl
            refine pure_ (i := 7) (N := some 39) (v := ?_) (a' := ?_) #[true, true, true, true, true, true, true, true, false, false, false, false, false, false, false, false, false, false] rfl rfl (by kernel_rfl) (fun _ _ _ h => h) (Or.inl ⟨by rfl, ?_⟩) ?_ ?_
            rotate_left
            · intro w'
              go_simp
              with_reducible rfl
            rotate_left
            · simp only [Act.put, List.setIfInBounds_toArray, List.set_cons_zero, List.set_cons_succ, i64_w, i32_w]
              rfl
            refine pure_ (i := 8) (N := some 40) (v := ?_) (a' := ?_) #[true, true, true, true, true, true, true, true, true, false, false, false, false, false, false, false, false, false] rfl rfl (by kernel_rfl) (fun _ _ _ h => h) (Or.inl ⟨by rfl, ?_⟩) ?_ ?_
            rotate_left
            · intro w'
              go_simp
              with_reducible rfl
            rotate_left
            · simp only [Act.put, List.setIfInBounds_toArray, List.set_cons_zero, List.set_cons_succ, i64_w, i32_w]
              rfl
            refine pure_ (i := 9) (N := some 41) (v := ?_) (a' := ?_) #[true, true, true, true, true, true, true, true, true, true, false, false, false, false, false, false, false, false] rfl rfl (by kernel_rfl) (fun _ _ _ h => h) (Or.inl ⟨by rfl, ?_⟩) ?_ ?_
            rotate_left
            · intro w'
              go_simp
              with_reducible rfl
            rotate_left
            · simp only [Act.put, List.setIfInBounds_toArray, List.set_cons_zero, List.set_cons_succ, i64_w, i32_w]
              rfl
            refine pure_ (i := 10) (N := some 42) (v := ?_) (a' := ?_) #[true, true, true, true, true, true, true, true, true, true, true, false, false, false, false, false, false, false] rfl rfl (by kernel_rfl) (fun _ _ _ h => h) (Or.inl ⟨by rfl, ?_⟩) ?_ ?_
            rotate_left
            · intro w'
              go_simp
              with_reducible rfl
            rotate_left
            · simp only [Act.put, List.setIfInBounds_toArray, List.set_cons_zero, List.set_cons_succ, i64_w, i32_w]
              rfl
            refine pure_ (i := 11) (N := some 43) (v := ?_) (a' := ?_) #[true, true, true, true, true, true, true, true, true, true, true, true, false, false, false, false, false, false] rfl rfl (by kernel_rfl) (fun _ _ _ h => h) (Or.inl ⟨by rfl, ?_⟩) ?_ ?_
            rotate_left
            · intro w'
              go_simp
              with_reducible rfl
            rotate_left
            · simp only [Act.put, List.setIfInBounds_toArray, List.set_cons_zero, List.set_cons_succ, i64_w, i32_w]
              rfl
            refine pure_ (i := 13) (N := some 45) (v := ?_) (a' := ?_) #[true, true, true, true, true, true, true, true, true, true, true, true, false, true, false, false, false, false] rfl rfl (by kernel_rfl) (fun _ _ _ h => h) (Or.inl ⟨by rfl, ?_⟩) ?_ ?_
            rotate_left
            · intro w'
              go_simp
              with_reducible rfl
            rotate_left
            · simp only [Act.put, List.setIfInBounds_toArray, List.set_cons_zero, List.set_cons_succ, i64_w, i32_w]
              rfl
            refine take_load1 (i := 12) (N := some 44) (a' := ?_) #[true, true, true, true, true, true, true, true, true, true, true, true, true, true, false, false, false, false] rfl rfl (by kernel_rfl) (fun _ _ _ _ h => h) (by rfl) hHeld 3 _ rfl _ _ rfl (by (repeat (first | exact In.head | apply In.tail))) _ Tryd.underlying3 rfl _ (by first | rfl | assumption | exact nums_at _ (by omega)) ?_ ?_
            rotate_left
            · simp only [Act.put, List.setIfInBounds_toArray, List.set_cons_zero, List.set_cons_succ, i64_w, i32_w]
              rfl
            refine one_ (i := 14) (N := some 46) #[true, true, true, true, true, true, true, true, true, true, true, true, true, true, true, false, false, false] rfl rfl (by kernel_rfl) (by decide) (fun K hK => ?_)
            refine wanted_ rfl ?_
            refine w_load1 H 3 _ rfl _ _ rfl (by (repeat (first | exact In.head | apply In.tail))) _ Tryd.underlying3 rfl _ (by first | rfl | assumption | exact nums_at _ (by omega)) ?_
            refine hK.out _ _ ?_ (fun hHeld => ?_)
            · first | trivial | exact H | exact H.del .head | exact (H.del .head).del .head
            clear hK K
            refine norm_ (a' := ?_) ?_ ?_
            rotate_left
            · show Act.put _ (some 46) _ = _
              simp only [Act.put, List.setIfInBounds_toArray, List.set_cons_zero, List.set_cons_succ, i64_w, i32_w]
              rfl
            refine pure_ (i := 15) (N := some 47) (v := ?_) (a' := ?_) #[true, true, true, true, true, true, true, true, true, true, true, true, true, true, true, true, false, false] rfl rfl (by kernel_rfl) (fun _ _ _ h => h) (Or.inl ⟨by rfl, ?_⟩) ?_ ?_
            rotate_left
            · intro w'
              go_simp
              with_reducible rfl
            rotate_left
            · simp only [Act.put, List.setIfInBounds_toArray, List.set_cons_zero, List.set_cons_succ, i64_w, i32_w]
              rfl
            refine pure_ (i := 16) (N := some 48) (v := ?_) (a' := ?_) #[true, true, true, true, true, true, true, true, true, true, true, true, true, true, true, true, true, false] rfl rfl (by kernel_rfl) (fun _ _ _ h => h) (Or.inl ⟨by rfl, ?_⟩) ?_ ?_
            rotate_left
            · intro w'
              go_simp
              with_reducible rfl
            rotate_left
            · simp only [Act.put, List.setIfInBounds_toArray, List.set_cons_zero, List.set_cons_succ, i64_w, i32_w]
              rfl
            refine pure_ (i := 17) (N := some 3) (v := ?_) (a' := ?_) #[true, true, true, true, true, true, true, true, true, true, true, true, true, true, true, true, true, true] rfl rfl (by kernel_rfl) (fun _ _ _ h => h) (Or.inl ⟨by rfl, ?_⟩) ?_ ?_
            rotate_left
            · intro w'
              go_simp
              with_reducible rfl
            rotate_left
            · simp only [Act.put, List.setIfInBounds_toArray, List.set_cons_zero, List.set_cons_succ, i64_w, i32_w]
              rfl
            refine done_ (by kernel_rfl) ?_
            clear hHeld
            go_wp2
            go_roundg gk'
            case measure => have := HK.out; omega
            case rel => exact ⟨k + 1, by go_num, by have := HK.out; omega, by rw [HS.out, d1]; rfl, H⟩
          · have d1 : decide (h ≥ 0) = false := decide_eq_false c1
            go_wp2
            refine start_ (n := 18) (S := Own _ _ _) (ds := []) #[false, false, false, false, false, false, false, false, false, false, false, false, false, false, false, false, false, false] (by kernel_rfl) rfl rfl H.drew (fun hHeld => ?_)
            replace H := H.drew
            generalize World.drew _ = W at H hHeld ⊢
            refine pure_ (i := 0) (N := some 32) (v := ?_) (a' := ?_) #[true, false, false, false, false, false, false, false, false, false, false, false, false, false, false, false, false, false] rfl rfl (by kernel_rfl) (fun _ _ _ h => h) (Or.inl ⟨by rfl, ?_⟩) ?_ ?_
            rotate_left
            · intro w'
              go_simp
              with_reducible rfl
            rotate_left
            · simp only [Act.put, List.setIfInBounds_toArray, List.set_cons_zero, List.set_cons_succ, i64_w, i32_w]
              rfl
            refine pure_ (i := 1) (N := some 33) (v := ?_) (a' := ?_) #[true, true, false, false, false, false, false, false, false, false, false, false, false, false, false, false, false, false] rfl rfl (by kernel_rfl) (fun _ _ _ h => h) (Or.inl ⟨by rfl, ?_⟩) ?_ ?_
            rotate_left
            · intro w'
              go_simp
              with_reducible rfl
            rotate_left
            · simp only [Act.put, List.setIfInBounds_toArray, List.set_cons_zero, List.set_cons_succ, i64_w, i32_w]
              rfl
            refine pure_ (i := 2) (N := some 34) (v := ?_) (a' := ?_) #[true, true, true, false, false, false, false, false, false, false, false, false, false, false, false, false, false, false] rfl rfl (by kernel_rfl) (fun _ _ _ h => h) (Or.inl ⟨by rfl, ?_⟩) ?_ ?_
            rotate_left
            · intro w'
              go_simp
              with_reducible rfl
            rotate_left
            · simp only [Act.put, List.setIfInBounds_toArray, List.set_cons_zero, List.set_cons_succ, i64_w, i32_w]
              rfl
            refine pure_ (i := 3) (N := some 35) (v := ?_) (a' := ?_) #[true, true, true, true, false, false, false, false, false, false, false, false, false, false, false, false, false, false] rfl rfl (by kernel_rfl) (fun _ _ _ h => h) (Or.inl ⟨by rfl, ?_⟩) ?_ ?_
            rotate_left
            · intro w'
              go_simp
              with_reducible rfl
            rotate_left
            · simp only [Act.put, List.setIfInBounds_toArray, List.set_cons_zero, List.set_cons_succ, i64_w, i32_w]
              rfl
            refine pure_ (i := 4) (N := some 36) (v := ?_) (a' := ?_) #[true, true, true, true, true, false, false, false, false, false, false, false, false, false, false, false, false, false] rfl rfl (by kernel_rfl) (fun _ _ _ h => h) (Or.inl ⟨by rfl, ?_⟩) ?_ ?_
            rotate_left
            · intro w'
              go_simp
              with_reducible rfl
            rotate_left
            · simp only [Act.put, List.setIfInBounds_toArray, List.set_cons_zero, List.set_cons_succ, i64_w, i32_w]
              rfl
            refine one_ (i := 5) (N := some 37) #[true, true, true, true, true, true, false, false, false, false, false, false, false, false, false, false, false, false] rfl rfl (by kernel_rfl) (by decide) (fun K hK => ?_)
            refine wanted_ rfl ?_
            refine w_load1 H 3 _ rfl _ _ rfl (by (repeat (first | exact In.head | apply In.tail))) _ Tryd.underlying3 rfl _ (by first | rfl | assumption | exact nums_at _ (by omega)) ?_
            refine hK.out _ _ ?_ (fun hHeld => ?_)
            · first | trivial | exact H | exact H.del .head | exact (H.del .head).del .head
            clear hK K
            refine norm_ (a' := ?_) ?_ ?_
            rotate_left
            · show Act.put _ (some 37) _ = _
              simp only [Act.put, List.setIfInBounds_toArray, List.set_cons_zero, List.set_cons_succ, i64_w, i32_w]
              rfl
            refine pure_ (i := 6) (N := some 38) (v := ?_) (a' := ?_) #[true, true, true, true, true, true, true, false, false, false, false, false, false, false, false, false, false, false] rfl rfl (by kernel_rfl) (fun _ _ _ h => h) (Or.inl ⟨by rfl, ?_⟩) ?_ ?_
            rotate_left
            · intro w'
              go_simp
              with_reducible rfl
            rotate_left
            · simp only [Act.put, List.setIfInBounds_toArray, List.set_cons_zero, List.set_cons_succ, i64_w, i32_w]
              rfl
            refine pure_ (i := 7) (N := some 39) (v := ?_) (a' := ?_) #[true, true, true, true, true, true, true, true, false, false, false, false, false, false, false, false, false, false] rfl rfl (by kernel_rfl) (fun _ _ _ h => h) (Or.inl ⟨by rfl, ?_⟩) ?_ ?_
            rotate_left
            · intro w'
              go_simp
              with_reducible rfl
            rotate_left
            · simp only [Act.put, List.setIfInBounds_toArray, List.set_cons_zero, List.set_cons_succ, i64_w, i32_w]
              rfl
            refine pure_ (i := 8) (N := some 40) (v := ?_) (a' := ?_) #[true, true, true, true, true, true, true, true, true, false, false, false, false, false, false, false, false, false] rfl rfl (by kernel_rfl) (fun _ _ _ h => h) (Or.inl ⟨by rfl, ?_⟩) ?_ ?_
            rotate_left
            · intro w'
              go_simp
              with_reducible rfl
            rotate_left
            · simp only [Act.put, List.setIfInBounds_toArray, List.set_cons_zero, List.set_cons_succ, i64_w, i32_w]
              rfl
            refine pure_ (i := 9) (N := some 41) (v := undef) (a' := ?_) #[true, true, true, true, true, true, true, true, true, true, false, false, false, false, false, false, false, false] rfl rfl (by kernel_rfl) (fun _ _ _ h => h) (Or.inr ⟨by rfl, rfl⟩) ?_ ?_
            rotate_left
            · simp only [Act.put, List.setIfInBounds_toArray, List.set_cons_zero, List.set_cons_succ, i64_w, i32_w]
              rfl
            refine pure_ (i := 10) (N := some 42) (v := undef) (a' := ?_) #[true, true, true, true, true, true, true, true, true, true, true, false, false, false, false, false, false, false] rfl rfl (by kernel_rfl) (fun _ _ _ h => h) (Or.inr ⟨by rfl, rfl⟩) ?_ ?_
            rotate_left
            · simp only [Act.put, List.setIfInBounds_toArray, List.set_cons_zero, List.set_cons_succ, i64_w, i32_w]
              rfl
            refine pure_ (i := 11) (N := some 43) (v := undef) (a' := ?_) #[true, true, true, true, true, true, true, true, true, true, true, true, false, false, false, false, false, false] rfl rfl (by kernel_rfl) (fun _ _ _ h => h) (Or.inr ⟨by rfl, rfl⟩) ?_ ?_
            rotate_left
            · simp only [Act.put, List.setIfInBounds_toArray, List.set_cons_zero, List.set_cons_succ, i64_w, i32_w]
              rfl
            refine pure_ (i := 13) (N := some 45) (v := undef) (a' := ?_) #[true, true, true, true, true, true, true, true, true, true, true, true, false, true, false, false, false, false] rfl rfl (by kernel_rfl) (fun _ _ _ h => h) (Or.inr ⟨by rfl, rfl⟩) ?_ ?_
            rotate_left
            · simp only [Act.put, List.setIfInBounds_toArray, List.set_cons_zero, List.set_cons_succ, i64_w, i32_w]
              rfl
            refine pure_ (i := 12) (N := some 44) (v := undef) (a' := ?_) #[true, true, true, true, true, true, true, true, true, true, true, true, true, true, false, false, false, false] rfl rfl (by kernel_rfl) (fun _ _ _ h => h) (Or.inr ⟨by rfl, rfl⟩) ?_ ?_
            rotate_left
            · simp only [Act.put, List.setIfInBounds_toArray, List.set_cons_zero, List.set_cons_succ, i64_w, i32_w]
              rfl
            refine pure_ (i := 14) (N := some 46) (v := undef) (a' := ?_) #[true, true, true, true, true, true, true, true, true, true, true, true, true, true, true, false, false, false] rfl rfl (by kernel_rfl) (fun _ _ _ h => h) (Or.inr ⟨by rfl, rfl⟩) ?_ ?_
            rotate_left
            · simp only [Act.put, List.setIfInBounds_toArray, List.set_cons_zero, List.set_cons_succ, i64_w, i32_w]
              rfl
            refine pure_ (i := 15) (N := some 47) (v := undef) (a' := ?_) #[true, true, true, true, true, true, true, true, true, true, true, true, true, true, true, true, false, false] rfl rfl (by kernel_rfl) (fun _ _ _ h => h) (Or.inr ⟨by rfl, rfl⟩) ?_ ?_
            rotate_left
            · simp only [Act.put, List.setIfInBounds_toArray, List.set_cons_zero, List.set_cons_succ, i64_w, i32_w]
              rfl
            refine pure_ (i := 16) (N := some 48) (v := ?_) (a' := ?_) #[true, true, true, true, true, true, true, true, true, true, true, true, true, true, true, true, true, false] rfl rfl (by kernel_rfl) (fun _ _ _ h => h) (Or.inl ⟨by rfl, ?_⟩) ?_ ?_
            rotate_left
            · intro w'
              go_simp
              with_reducible rfl
            rotate_left
            · simp only [Act.put, List.setIfInBounds_toArray, List.set_cons_zero, List.set_cons_succ, i64_w, i32_w]
              rfl
            refine pure_ (i := 17) (N := some 3) (v := ?_) (a' := ?_) #[true, true, true, true, true, true, true, true, true, true, true, true, true, true, true, true, true, true] rfl rfl (by kernel_rfl) (fun _ _ _ h => h) (Or.inl ⟨by rfl, ?_⟩) ?_ ?_
            rotate_left
            · intro w'
              go_simp
              with_reducible rfl
            rotate_left
            · simp only [Act.put, List.setIfInBounds_toArray, List.set_cons_zero, List.set_cons_succ, i64_w, i32_w]
              rfl
            refine done_ (by kernel_rfl) ?_
            clear hHeld
            go_wp2
            go_roundg gk'
            case measure => have := HK.out; omega
            case rel => exact ⟨k + 1, by go_num, by have := HK.out; omega, by rw [HS.out, d1]; rfl, H⟩
      · obtain rfl : k = 4 := by omega
        clear hk ck
        go_wp2
        go_ret
        exact ⟨rfl, H.below⟩
theorem rput_own {w0 W : World} {F : Nat → Option Obj} {L : List Res} (H : Own w0 F L W) (n : Nat) (hn : n < 18446744073709551616) (wi : Int) (i : Nat) (hw : wi = (i : Int)) (hi : i ≤ 8) :
    Calls Tryd.prog 61 #[.int .u64 (n : Int), .int .i64 wi] W fun e W' => ∃ A c, e = .returned (.slice A i c) ∧ i ≤ c ∧ (Kd.int .u8).C W' A i (putl n i) ∧ Own w0 F L W' := by
  subst hw
  have hc : (cl8 (i : Int)).toNat = i := by unfold cl8; split <;> (try split) <;> omega
  have he := rput_eq 20 (by decide) n hn (i : Int) (by omega)
  rw [hc] at he
  refine (strandlineref01_Put.calls 20 n (i : Int) _ W he).mono ?_
  rintro e W' ⟨v, rfl, hR, hb⟩
  obtain ⟨A, c, rfl, hl, hC⟩ := Kd.R_reads hR
  rw [putl_len] at hl hC ⊢
  exact ⟨A, c, rfl, hl, hC, H.to hb⟩
theorem rof_own {w0 W : World} {F : Nat → Option Obj} {L : List Res} (H : Own w0 F L W) (A : Option Addr) (n c : Nat) (xs : List Int) (hC : (Kd.int .u8).C W A n xs) (hc : n ≤ c) (hb : Bytes xs) (hl : n ≤ 1000000) :
    Calls Tryd.prog 17 #[.slice A n c] W fun e W' => e = .returned (.int .u32 (moreI 0 xs)) ∧ Own w0 F L W' := by
  have hn : xs.length = n := hC.1
  subst hn
  refine (strandlineref03_Of.calls _ A c xs _ W hC hc (CrcMath.rof_eq xs hb hl 0)).mono ?_
  rintro e W' ⟨rfl, hd⟩
  exact ⟨rfl, H.to hd.below⟩
theorem rmask_own {w0 W : World} {F : Nat → Option Obj} {L : List Res} (H : Own w0 F L W) (xs : List Int) :
    Calls Tryd.prog 21 #[.int .u32 (moreI 0 xs)] W fun e W' => e = .returned (.int .u32 (sumN xs : Int)) ∧ Own w0 F L W' := by
  refine (strandlineref03_Mask.calls (moreI 0 xs) _ W (rcrc_sum xs)).mono ?_
  rintro e W' ⟨rfl, hd⟩
  exact ⟨rfl, H.to hd.below⟩
def hacc (ep seq fi h0 h1 h2 h3 : Int) : Nat → List Int
  | 0 => ((hMagic ++ putl ep.toNat 8) ++ putl seq.toNat 4) ++ putl fi.toNat 4
  | k + 1 => hacc ep seq fi h0 h1 h2 h3 k ++ putl (hd4 h0 h1 h2 h3 k).toNat 4
theorem hacc_len (ep seq fi h0 h1 h2 h3 : Int) (k : Nat) : (hacc ep seq fi h0 h1 h2 h3 k).length = 21 + 4 * k := by
  induction k with
  | zero => simp [hacc, hMagic, putl_len]
  | succ k ih => unfold hacc; rw [List.length_append, ih, putl_len]; omega
theorem hacc_all (ep seq fi h0 h1 h2 h3 : Int) : hacc ep seq fi h0 h1 h2 h3 4 = hB ep seq fi h0 h1 h2 h3 := by simp [hacc, hB, hd4, List.append_assoc]
theorem take_set {b : List Int} {k : Nat} (h : k < b.length) (hl : b.length ≤ 64) : (b.take k ++ zs (64 - k)).set k (b.getD k 0) = b.take (k + 1) ++ zs (64 - (k + 1)) := by
  have h1 : (b.take k).length = k := by rw [List.length_take]; omega
  have h2 : b.take (k + 1) = b.take k ++ [b.getD k 0] := by rw [List.take_add_one, List.getElem?_eq_getElem h, List.getD_eq_getElem?_getD, List.getElem?_eq_getElem h]; rfl
  rw [h2, List.set_append_right _ _ (by omega), h1, Nat.sub_self, show 64 - k = (64 - (k + 1)) + 1 by omega]
  simp [zs, List.replicate_succ]
set_option maxRecDepth 100000 in
set_option maxHeartbeats 8000000 in
theorem rsector_calls (ep seq fi h0 h1 h2 h3 : Int) (w : World) (hr : rightH ep seq fi h0 h1 h2 h3 = true) (he : 0 ≤ ep ∧ ep ≤ 18446744073709551615) :
    Calls Tryd.prog 41 #[hV ep seq fi h0 h1 h2 h3] w fun e W => e = .returned (.agg (nums .u8 (hS ep seq fi h0 h1 h2 h3)).toArray) ∧ Below w.heap.size w W := by
  have H := Own.start w
  obtain ⟨⟨a0, a1, a2, a3⟩, -, hs, hf⟩ := rightH_iff.1 hr
  have hhd : ∀ k, k < 4 → 0 ≤ hd4 h0 h1 h2 h3 k ∧ hd4 h0 h1 h2 h3 k < 4294967296 := by
    intro k hk
    rcases (show k = 0 ∨ k = 1 ∨ k = 2 ∨ k = 3 by omega) with rfl | rfl | rfl | rfl <;> simp only [hd4] <;> omega
  obtain ⟨e, rfl⟩ := Int.eq_ofNat_of_zero_le he.1
  obtain ⟨q, rfl⟩ := Int.eq_ofNat_of_zero_le (show 0 ≤ seq by omega)
  obtain ⟨f, rfl⟩ := Int.eq_ofNat_of_zero_le (show 0 ≤ fi by omega)
  have P1 := fun {W : World} {L : List Res} (H : Own w F0 L W) => rput_own H e (by omega) 8 8 rfl (by decide)
  have P2 := fun {W : World} {L : List Res} (H : Own w F0 L W) => rput_own H q (by omega) 4 4 rfl (by decide)
  have P3 := fun {W : World} {L : List Res} (H : Own w F0 L W) => rput_own H f (by omega) 4 4 rfl (by decide)
  have u2 : IntKind.u64.wrap (q : Int) = (q : Int) := wu64 (by omega) (by omega)
  have u3 : IntKind.u64.wrap (f : Int) = (f : Int) := wu64 (by omega) (by omega)
  have hacc0 : ((hMagic ++ putl e 8) ++ putl q 4) ++ putl f 4 = hacc e q f h0 h1 h2 h3 0 := rfl
  have hal := hacc_len e q f h0 h1 h2 h3
  have l1 : (putl e 8).length = 8 := putl_len _ _
  have l2 : (putl q 4).length = 4 := putl_len _ _
  have l3 : (putl f 4).length = 4 := putl_len _ _
  generalize putl e 8 = p1 at *
  generalize putl q 4 = p2 at *
  generalize putl f 4 = p3 at *
  go_enter Tryd.func41, Tryd.ntmps41
  go_wp2_with (first
    | ((with_reducible refine gate_dst (N := 1) rfl ?_); refine l_boxA rfl H 54 _ rfl _ rfl ?_; clear H; intro g1 W H)
    | ((with_reducible refine gate_dst (N := 2) rfl ?_); refine l_allocA rfl H 50 rfl _ zero50 ?_; clear H; intro g2 W H)
    | ((with_reducible refine gate_dst (N := 9) rfl ?_); refine l_load1 rfl H 51 _ rfl _ _ rfl (by (repeat (first | exact In.head | apply In.tail))) _ Tryd.underlying51 rfl _ (by first | rfl | assumption | exact nums_at _ (by omega)) ?_)
    | ((with_reducible refine gate_dst (N := 14) rfl ?_); refine l_load1 rfl H 3 _ rfl _ _ rfl (by (repeat (first | exact In.head | apply In.tail))) _ Tryd.underlying3 rfl _ (by first | rfl | assumption | exact nums_at _ (by omega)) ?_)
    | ((with_reducible refine gate_dst (N := 20) rfl ?_); refine l_load1 rfl H 3 _ rfl _ _ rfl (by (repeat (first | exact In.head | apply In.tail))) _ Tryd.underlying3 rfl _ (by first | rfl | assumption | exact nums_at _ (by omega)) ?_)
    | ((with_reducible refine gate_dst (N := 7) rfl ?_); refine l_buildN rfl H 23 5 5 _ rfl Tryd.underlying23 _ 1 zs5 (by decide) (by decide) (by decide) (nums .u8 hMagic) rfl rfl (by intro v hv; simp [hMagic, nums] at hv; rcases hv with rfl | rfl | rfl | rfl | rfl <;> rfl) (nums .u8 hMagic) rfl ?_; clear H; intro g7 W H)
    | (go_at_call 61; (with_reducible refine (P1 H).mono ?_); clear H; rintro e W ⟨A10, c10, rfl, h10, C10, H⟩)
    | ((with_reducible refine gate_dst (N := 11) rfl ?_); refine l_appendFull rfl H _ _ 23 5 rfl Tryd.underlying23 _ _ _ inf5 rfl (by decide) (by decide) ⟨g7, 0, none⟩ 5 (nums .u8 hMagic) rfl rfl (fun j u hj => by rw [addr_add, H.cell .head, Nat.zero_add]; exact hj) A10 8 c10 (nums .u8 p1) rfl (by decide) (by rw [nums_length, l1]) (Rd.of_C C10) (by decide) ?_; clear H; intro v11 W H; rw [nums_app] at H; obtain ⟨A11, c11, rfl⟩ := H.row_slice .head)
    | (go_at_call 61; (with_reducible refine (P2 H).mono ?_); clear H; rintro e W ⟨A16, c16, rfl, h16, C16, H⟩)
    | ((with_reducible refine gate_dst (N := 17) rfl ?_); refine l_append rfl H _ _ 23 5 rfl Tryd.underlying23 _ _ _ inf5 rfl (by decide) (by decide) _ 13 (nums .u8 (hMagic ++ p1)) rfl .head A16 4 c16 (nums .u8 p2) rfl (by rw [nums_length, l2]) (fun hp => (Rd.of_C C16) (by rw [nums_length, l2]; exact hp)) nums_one (by decide) ?_; clear H; intro v17 W H; rw [nums_app] at H; obtain ⟨A17, c17, rfl⟩ := H.row_slice .head)
    | (go_at_call 61; (with_reducible refine (P3 H).mono ?_); clear H; rintro e W ⟨A22, c22, rfl, h22, C22, H⟩)
    | ((with_reducible refine gate_dst (N := 23) rfl ?_); refine l_append rfl H _ _ 23 5 rfl Tryd.underlying23 _ _ _ inf5 rfl (by decide) (by decide) _ 17 (nums .u8 (hMagic ++ p1 ++ p2)) rfl .head A22 4 c22 (nums .u8 p3) rfl (by rw [nums_length, l3]) (fun hp => (Rd.of_C C22) (by rw [nums_length, l3]; exact hp)) nums_one (by decide) ?_; clear H; intro v23 W H; rw [nums_app, hacc0] at H; obtain ⟨A23, c23, rfl⟩ := H.row_slice .head))
  clear P1 P2 P3 u2 u3 hacc0
  have hb := hB_bytes e q f h0 h1 h2 h3
  have hbl := hB_len e q f h0 h1 h2 h3
  have hha := hacc_all e q f h0 h1 h2 h3
  have hSd : hS e q f h0 h1 h2 h3 = hB e q f h0 h1 h2 h3 ++ (putl (sumN (hB e q f h0 h1 h2 h3)) 4 ++ zs 23) := rfl
  generalize hSS : hS (e : Int) q f h0 h1 h2 h3 = SS at *
  generalize hB (e : Int) q f h0 h1 h2 h3 = BB at *
  go_loopg [3, 4] 4 (fun gq v3 v4 w' => ∃ (k : Nat) (A : Option Addr) (c : Nat), v4 = .int .i64 (k : Int) ∧ k + gq = 4 ∧ v3 = .slice A (21 + 4 * k) c ∧ Own w F0 [.row (.slice A (21 + 4 * k) c) 5 1 (21 + 4 * k) (nums .u8 (hacc e q f h0 h1 h2 h3 k)), .blk g7 5 (nums .u8 hMagic), .blk g2 50 (nums .u8 (zs 64)), .blk g1 54 [.int .u64 e, .int .i64 q, .int .i64 f, .int .i64 h0, .int .i64 h1, .int .i64 h2, .int .i64 h3]] w')
  case atStart => exact ⟨0, A23, c23, rfl, rfl, rfl, H⟩
  case round =>
    clear H
    obtain ⟨k, A3, c3, rfl, hk, rfl, H⟩ := hrel
    by_cases ck : k < 4
    · obtain ⟨gk', rfl⟩ : ∃ q, gk = q + 1 := ⟨gk - 1, by omega⟩
      have q0 : ((k : Int) < 4) = True := eq_true (by omega)
      have q0' : decide ((k : Int) < 4) = true := decide_eq_true (by omega)
      have q1 : ((0 : Int) ≤ (k : Int)) = True := eq_true (by omega)
      have hv : [Value.int .u64 (e : Int), Value.int .i64 (q : Int), Value.int .i64 (f : Int), Value.int .i64 h0, Value.int .i64 h1, Value.int .i64 h2, Value.int .i64 h3][3 + k]? = some (.int .i64 (hd4 h0 h1 h2 h3 k)) := by
        rcases (show k = 0 ∨ k = 1 ∨ k = 2 ∨ k = 3 by omega) with rfl | rfl | rfl | rfl <;> rfl
      have hak := hal k
      have hsuc : hacc e q f h0 h1 h2 h3 k ++ putl (hd4 h0 h1 h2 h3 k).toNat 4 = hacc e q f h0 h1 h2 h3 (k + 1) := rfl
      have hh := hhd k ck
      obtain ⟨y, hy⟩ := Int.eq_ofNat_of_zero_le hh.1
      rw [hy] at hv hsuc hh
      rw [Int.toNat_natCast] at hsuc
      have u1 : IntKind.u64.wrap (y : Int) = (y : Int) := wu64 (by omega) (by omega)
      have PF := fun {W : World} {L : List Res} (H : Own w F0 L W) => rput_own H y (by omega) 4 4 rfl (by decide)
      have ly : (putl y 4).length = 4 := putl_len _ _
      have hfit : (21 + 4 * k + 4) * 1 ≤ 140737488355328 := by omega
      have HK := Aside0.mk hk
      have HE := Aside0.mk (show 21 + 4 * k + 4 = 21 + 4 * (k + 1) by omega)
      have HS := Aside0.mk hsuc
      clear hk ck hh hy hsuc
      generalize hacc e q f h0 h1 h2 h3 k = ac at H HS hak
      generalize 21 + 4 * k = m at H hak HE hfit ⊢
      generalize putl y 4 = py at PF ly HS
      go_wp2_with (first
    | ((with_reducible refine gate_dst (N := 32) rfl ?_); refine l_load1 rfl H 3 _ rfl _ _ rfl (by (repeat (first | exact In.head | apply In.tail))) _ Tryd.underlying3 rfl _ (by first | rfl | assumption | exact nums_at _ (by omega)) ?_)
      | (go_at_call 61; (with_reducible refine (PF H).mono ?_); clear H; rintro e W ⟨A34, c34, rfl, h34, C34, H⟩)
      | ((with_reducible refine gate_dst (N := 35) rfl ?_); refine l_append rfl H _ _ 23 5 rfl Tryd.underlying23 _ _ _ inf5 rfl (by decide) (by decide) _ m (nums .u8 ac) rfl .head A34 4 c34 (nums .u8 py) rfl (by rw [nums_length, ly]) (fun hp => (Rd.of_C C34) (by rw [nums_length, ly]; exact hp)) nums_one hfit ?_; clear H; intro v35 W H; rw [nums_app, HS.out] at H; obtain ⟨A35, c35, rfl⟩ := H.row_slice .head))
      go_roundg gk'
      case measure => have := HK.out; omega
      case rel =>
        rw [HE.out] at H ⊢
        have hk := HK.out
        exact ⟨k + 1, A35, c35, by rw [w64 (by omega) (by omega)]; rfl, by omega, rfl, H⟩
    · obtain rfl : k = 4 := by omega
      rw [hha] at H
      clear hk ck hhd hal hha
      have OF := fun {W : World} {L : List Res} (H : Own w F0 L W) A n c hC hc hl => rof_own H A n c BB hC hc hb hl
      have MF := fun {W : World} {L : List Res} (H : Own w F0 L W) => rmask_own H BB
      have hsl := sumN_lt BB
      have PF := fun {W : World} {L : List Res} (H : Own w F0 L W) => rput_own H (sumN BB) (by omega) 4 4 rfl (by decide)
      have u1 : IntKind.u64.wrap (sumN BB : Int) = (sumN BB : Int) := wu64 (by omega) (by omega)
      have ly : (putl (sumN BB) 4).length = 4 := putl_len _ _
      have by4 : Bytes (putl (sumN BB) 4) := putl_bytes _ _
      generalize putl (sumN BB) 4 = py at *
      generalize sumN BB = sm at *
      generalize moreI 0 BB = mo at *
      clear hsl
      go_wp2_with (first
    | ((with_reducible refine gate_dst (N := 5) rfl ?_); refine l_allocA rfl H 50 rfl _ zero50 ?_; clear H; intro g5 W H)
    | ((with_reducible refine gate_store (t := 50) (p := 5) rfl ?_); refine l_storeW rfl H 50 _ _ rfl _ rfl _ rfl (by (repeat (first | exact In.head | apply In.tail))) _ size50 (by (first | rfl | assumption | omega | (simp only [nums_length]; omega) | (simp [nums_length, zs]; done) | (simp [nums_length, zs]; omega))) (by (first | rfl | assumption | omega | (simp only [nums_length]; omega) | (simp [nums_length, zs]; done) | (simp [nums_length, zs]; omega))) (by (first | exact nums_one | assumption | (intro u hu; simp at hu; subst hu; rfl) | (intro u hu; simp at hu; rcases hu with rfl | rfl | rfl | rfl | rfl | rfl | rfl <;> rfl) | (intro u hu; simp at hu; rcases hu with rfl | rfl | rfl | rfl <;> rfl) | (intro u hu; simp at hu; rcases hu with rfl | rfl | rfl <;> rfl) | (intro u hu; simp at hu; rcases hu with rfl | rfl <;> rfl))) ?_; clear H; intro W H)
      | (go_at_call 17; (with_reducible refine (OF H _ _ _ (H.rowC .head).2.2 (H.rowC .head).1 (by decide)).mono ?_); clear H; rintro e W ⟨rfl, H⟩)
      | (go_at_call 21; (with_reducible refine (MF H).mono ?_); clear H; rintro e W ⟨rfl, H⟩)
      | (go_at_call 61; (with_reducible refine (PF H).mono ?_); clear H; rintro e W ⟨A41, c41, rfl, h41, C41, H⟩)
      | ((with_reducible refine gate_dst (N := 42) rfl ?_); refine l_append rfl H _ _ 23 5 rfl Tryd.underlying23 _ _ _ inf5 rfl (by decide) (by decide) _ 37 (nums .u8 BB) rfl .head A41 4 c41 (nums .u8 py) rfl (by rw [nums_length, ly]) (fun hp => (Rd.of_C C41) (by rw [nums_length, ly]; exact hp)) nums_one (by decide) ?_; clear H; intro v42 W H; rw [nums_app] at H; obtain ⟨A42, c42, rfl⟩ := H.row_slice .head)
      | ((with_reducible refine gate_dst (N := 43) rfl ?_); refine l_run rfl (.agg (nums .u8 (zs 64)).toArray) (by kernel_rfl) ?_))
      clear OF MF PF u1
      have hl41 : (BB ++ py).length = 41 := by rw [List.length_append, hbl, ly]
      have hb41 : Bytes (BB ++ py) := bytes_append hb by4
      rw [← List.append_assoc] at hSd
      generalize BB ++ py = bb at *
      go_loopg [6] 41 (fun gq v6 w' => ∃ k : Nat, v6 = .int .i64 (k : Int) ∧ k + gq = 41 ∧ Own w F0 [.blk g5 50 (nums .u8 (bb.take k ++ zs (64 - k))), .row (.slice A42 41 c42) 5 1 41 (nums .u8 bb), .blk g7 5 (nums .u8 hMagic), .blk g2 50 (nums .u8 (zs 64)), .blk g1 54 [.int .u64 e, .int .i64 q, .int .i64 f, .int .i64 h0, .int .i64 h1, .int .i64 h2, .int .i64 h3]] w')
      case atStart => exact ⟨0, rfl, rfl, H⟩
      case round =>
        clear H
        obtain ⟨k, rfl, hk, H⟩ := hrel
        by_cases ck : k < 41
        · obtain ⟨gk', rfl⟩ : ∃ q, gk = q + 1 := ⟨gk - 1, by omega⟩
          have q0 : ((k : Int) < 41) = True := eq_true (by omega)
          have q0' : decide ((k : Int) < 41) = true := decide_eq_true (by omega)
          have q1 : ((0 : Int) ≤ (k : Int)) = True := eq_true (by omega)
          have q2 : ((k : Int) < 64) = True := eq_true (by omega)
          have hat := nums_at (k := .u8) (xs := bb) k (by omega)
          obtain ⟨ad, rfl⟩ := (H.rd (.tail .head)).1.some_ (by rw [nums_length, hl41]; decide)
          have hts := take_set (b := bb) (k := k) (by omega) (by omega)
          have hcl : (nums .u8 (bb.take k ++ zs (64 - k))).length = 64 := by rw [nums_length, List.length_append, List.length_take]; simp [zs]; omega
          have hkl : k < (nums .u8 (bb.take k ++ zs (64 - k))).length := by omega
          have HK := Aside0.mk (And.intro hk hts)
          clear hk hts ck
          generalize bb.getD k 0 = x at hat HK
          generalize bb.take k ++ zs (64 - k) = cu at H HK hcl hkl
          go_wp2_with (first
    | ((with_reducible refine gate_store (t := 5) (p := 55) rfl ?_); refine l_store1 rfl H 5 _ _ rfl _ _ rfl _ (by first | (go_simp; done) | (go_simp; with_reducible rfl)) (by (repeat (first | exact In.head | apply In.tail))) rfl rfl size5 (by (first | rfl | assumption | omega | (simp only [nums_length]; omega) | (simp [nums_length, zs]; done) | (simp [nums_length, zs]; omega))) ?_; clear H; intro W H)
          | ((with_reducible refine gate_dst (N := 54) rfl ?_); refine l_run rfl _ (r_loadRd1 5 _ rfl k rfl (H.rd (.tail .head)).1 _ Tryd.underlying5 rfl _ hat) ?_))
          rw [nums_set, HK.out.2] at H
          go_roundg gk'
          case measure => have := HK.out.1; omega
          case rel =>
            have hk := HK.out.1
            exact ⟨k + 1, by go_num, by omega, H⟩
        · obtain rfl : k = 41 := by omega
          rw [List.take_of_length_le (by rw [hl41]; exact Nat.le_refl _), show bb ++ zs (64 - 41) = SS from hSd.symm] at H
          have hSn : (nums .u8 SS).length = 64 := by rw [nums_length, hSd, List.length_append, hl41]; simp [zs]
          clear hk ck hSd
          go_wp2_with (first
    | ((with_reducible refine gate_dst (N := 56) rfl ?_); refine l_loadA rfl H 50 _ rfl _ rfl (by (repeat (first | exact In.head | apply In.tail))) _ _ Tryd.underlying50 rfl size50 (by (first | rfl | assumption | omega | (simp only [nums_length]; omega) | (simp [nums_length, zs]; done) | (simp [nums_length, zs]; omega))) ?_)
    | ((with_reducible refine gate_store (t := 50) (p := 2) rfl ?_); refine l_storeW rfl H 50 _ _ rfl _ rfl _ rfl (by (repeat (first | exact In.head | apply In.tail))) _ size50 (by (first | rfl | assumption | omega | (simp only [nums_length]; omega) | (simp [nums_length, zs]; done) | (simp [nums_length, zs]; omega))) (by (first | rfl | assumption | omega | (simp only [nums_length]; omega) | (simp [nums_length, zs]; done) | (simp [nums_length, zs]; omega))) (by (first | exact nums_one | assumption | (intro u hu; simp at hu; subst hu; rfl) | (intro u hu; simp at hu; rcases hu with rfl | rfl | rfl | rfl | rfl | rfl | rfl <;> rfl) | (intro u hu; simp at hu; rcases hu with rfl | rfl | rfl | rfl <;> rfl) | (intro u hu; simp at hu; rcases hu with rfl | rfl | rfl <;> rfl) | (intro u hu; simp at hu; rcases hu with rfl | rfl <;> rfl))) ?_; clear H; intro W H))
          refine bodyPost_ret (results_cell_row (p := 2) (ty := 50) rfl _ _ g2 50 _ (0, 0) _ rfl (H.heap (.tail (.tail (.tail .head)))) Tryd.underlying50 rfl (by rw [List.size_toArray, hSn]; exact size50)) rfl ?_
          exact ⟨by rw [hSS], H.below⟩
def newB (e1 s1 e2 s2 : Int) : Bool := decide (e1 > e2) || (e1 == e2 && decide (s1 > s2))
set_option maxRecDepth 100000 in
set_option maxHeartbeats 8000000 in
theorem newer_calls (ep seq fi h0 h1 h2 h3 ep' seq' fi' h0' h1' h2' h3' : Int) (w : World) :
    Calls Tryd.prog 40 #[hV ep seq fi h0 h1 h2 h3, hV ep' seq' fi' h0' h1' h2' h3'] w fun e W => e = .returned (.bool (newB ep seq ep' seq')) ∧ Below w.heap.size w W := by
  have H := Own.start w
  generalize hR : newB ep seq ep' seq' = R
  have HR := Aside0.mk hR
  clear hR
  cases c1 : decide (ep > ep') with
  | true =>
    go_enter Tryd.func40, Tryd.ntmps40
    go_wp2_with (first
    | ((with_reducible refine gate_dst (N := 2) rfl ?_); refine l_boxA rfl H 54 _ rfl _ rfl ?_; clear H; intro g2 W H)
    | ((with_reducible refine gate_dst (N := 3) rfl ?_); refine l_boxA rfl H 54 _ rfl _ rfl ?_; clear H; intro g3 W H)
    | ((with_reducible refine gate_dst (N := 6) rfl ?_); refine l_load1 rfl H 51 _ rfl _ _ rfl (by (repeat (first | exact In.head | apply In.tail))) _ Tryd.underlying51 rfl _ (by first | rfl | assumption | exact nums_at _ (by omega)) ?_)
    | ((with_reducible refine gate_dst (N := 8) rfl ?_); refine l_load1 rfl H 51 _ rfl _ _ rfl (by (repeat (first | exact In.head | apply In.tail))) _ Tryd.underlying51 rfl _ (by first | rfl | assumption | exact nums_at _ (by omega)) ?_)
    | ((with_reducible refine gate_dst (N := 12) rfl ?_); refine gate_guard (by rfl) ?_; refine l_load1 rfl H 51 _ rfl _ _ rfl (by (repeat (first | exact In.head | apply In.tail))) _ Tryd.underlying51 rfl _ (by first | rfl | assumption | exact nums_at _ (by omega)) ?_)
    | ((with_reducible refine gate_dst (N := 14) rfl ?_); refine gate_guard (by rfl) ?_; refine l_load1 rfl H 51 _ rfl _ _ rfl (by (repeat (first | exact In.head | apply In.tail))) _ Tryd.underlying51 rfl _ (by first | rfl | assumption | exact nums_at _ (by omega)) ?_)
    | ((with_reducible refine gate_dst (N := 18) rfl ?_); refine gate_guard (by rfl) ?_; refine l_load1 rfl H 3 _ rfl _ _ rfl (by (repeat (first | exact In.head | apply In.tail))) _ Tryd.underlying3 rfl _ (by first | rfl | assumption | exact nums_at _ (by omega)) ?_)
    | ((with_reducible refine gate_dst (N := 20) rfl ?_); refine gate_guard (by rfl) ?_; refine l_load1 rfl H 3 _ rfl _ _ rfl (by (repeat (first | exact In.head | apply In.tail))) _ Tryd.underlying3 rfl _ (by first | rfl | assumption | exact nums_at _ (by omega)) ?_))
    go_ret
    exact ⟨by rw [← HR.out]; unfold newB; rw [c1]; rfl, H.below⟩
  | false =>
    cases c2 : (ep == ep') with
    | true =>
      go_enter Tryd.func40, Tryd.ntmps40
      go_wp2_with (first
    | ((with_reducible refine gate_dst (N := 2) rfl ?_); refine l_boxA rfl H 54 _ rfl _ rfl ?_; clear H; intro g2 W H)
    | ((with_reducible refine gate_dst (N := 3) rfl ?_); refine l_boxA rfl H 54 _ rfl _ rfl ?_; clear H; intro g3 W H)
    | ((with_reducible refine gate_dst (N := 6) rfl ?_); refine l_load1 rfl H 51 _ rfl _ _ rfl (by (repeat (first | exact In.head | apply In.tail))) _ Tryd.underlying51 rfl _ (by first | rfl | assumption | exact nums_at _ (by omega)) ?_)
    | ((with_reducible refine gate_dst (N := 8) rfl ?_); refine l_load1 rfl H 51 _ rfl _ _ rfl (by (repeat (first | exact In.head | apply In.tail))) _ Tryd.underlying51 rfl _ (by first | rfl | assumption | exact nums_at _ (by omega)) ?_)
    | ((with_reducible refine gate_dst (N := 12) rfl ?_); refine gate_guard (by rfl) ?_; refine l_load1 rfl H 51 _ rfl _ _ rfl (by (repeat (first | exact In.head | apply In.tail))) _ Tryd.underlying51 rfl _ (by first | rfl | assumption | exact nums_at _ (by omega)) ?_)
    | ((with_reducible refine gate_dst (N := 14) rfl ?_); refine gate_guard (by rfl) ?_; refine l_load1 rfl H 51 _ rfl _ _ rfl (by (repeat (first | exact In.head | apply In.tail))) _ Tryd.underlying51 rfl _ (by first | rfl | assumption | exact nums_at _ (by omega)) ?_)
    | ((with_reducible refine gate_dst (N := 18) rfl ?_); refine gate_guard (by rfl) ?_; refine l_load1 rfl H 3 _ rfl _ _ rfl (by (repeat (first | exact In.head | apply In.tail))) _ Tryd.underlying3 rfl _ (by first | rfl | assumption | exact nums_at _ (by omega)) ?_)
    | ((with_reducible refine gate_dst (N := 20) rfl ?_); refine gate_guard (by rfl) ?_; refine l_load1 rfl H 3 _ rfl _ _ rfl (by (repeat (first | exact In.head | apply In.tail))) _ Tryd.underlying3 rfl _ (by first | rfl | assumption | exact nums_at _ (by omega)) ?_))
      go_ret
      exact ⟨by rw [← HR.out]; unfold newB; rw [c1, c2]; rfl, H.below⟩
    | false =>
      go_enter Tryd.func40, Tryd.ntmps40
      go_wp2_with (first
    | ((with_reducible refine gate_dst (N := 2) rfl ?_); refine l_boxA rfl H 54 _ rfl _ rfl ?_; clear H; intro g2 W H)
    | ((with_reducible refine gate_dst (N := 3) rfl ?_); refine l_boxA rfl H 54 _ rfl _ rfl ?_; clear H; intro g3 W H)
    | ((with_reducible refine gate_dst (N := 6) rfl ?_); refine l_load1 rfl H 51 _ rfl _ _ rfl (by (repeat (first | exact In.head | apply In.tail))) _ Tryd.underlying51 rfl _ (by first | rfl | assumption | exact nums_at _ (by omega)) ?_)
    | ((with_reducible refine gate_dst (N := 8) rfl ?_); refine l_load1 rfl H 51 _ rfl _ _ rfl (by (repeat (first | exact In.head | apply In.tail))) _ Tryd.underlying51 rfl _ (by first | rfl | assumption | exact nums_at _ (by omega)) ?_)
    | ((with_reducible refine gate_dst (N := 12) rfl ?_); refine gate_guard (by rfl) ?_; refine l_load1 rfl H 51 _ rfl _ _ rfl (by (repeat (first | exact In.head | apply In.tail))) _ Tryd.underlying51 rfl _ (by first | rfl | assumption | exact nums_at _ (by omega)) ?_)
    | ((with_reducible refine gate_dst (N := 14) rfl ?_); refine gate_guard (by rfl) ?_; refine l_load1 rfl H 51 _ rfl _ _ rfl (by (repeat (first | exact In.head | apply In.tail))) _ Tryd.underlying51 rfl _ (by first | rfl | assumption | exact nums_at _ (by omega)) ?_)
    | ((with_reducible refine gate_dst (N := 18) rfl ?_); refine gate_guard (by rfl) ?_; refine l_load1 rfl H 3 _ rfl _ _ rfl (by (repeat (first | exact In.head | apply In.tail))) _ Tryd.underlying3 rfl _ (by first | rfl | assumption | exact nums_at _ (by omega)) ?_)
    | ((with_reducible refine gate_dst (N := 20) rfl ?_); refine gate_guard (by rfl) ?_; refine l_load1 rfl H 3 _ rfl _ _ rfl (by (repeat (first | exact In.head | apply In.tail))) _ Tryd.underlying3 rfl _ (by first | rfl | assumption | exact nums_at _ (by omega)) ?_))
      go_ret
      exact ⟨by rw [← HR.out]; unfold newB; rw [c1, c2]; rfl, H.below⟩
def okZ (b : Bool) (s : List Int) : Nat → Bool
  | 0 => b
  | k + 1 => okZ b s k && (s.getD (41 + k) 0 == 0)
theorem okZ_eq (b : Bool) (s : List Int) (hl : s.length = 64) (k : Nat) (hk : k ≤ 23) : okZ b s k = (b && decide ((s.drop 41).take k = zs k)) := by
  induction k with
  | zero => simp [okZ, zs]
  | succ k ih =>
    have hlt : 41 + k < s.length := by omega
    have h1 : (s.drop 41).take (k + 1) = (s.drop 41).take k ++ [s.getD (41 + k) 0] := by
      rw [List.take_add_one, List.getElem?_drop, List.getElem?_eq_getElem hlt, List.getD_eq_getElem?_getD, List.getElem?_eq_getElem hlt]
      rfl
    have h2 : zs (k + 1) = zs k ++ [0] := by simp [zs, List.replicate_succ']
    have h3 : ((s.drop 41).take k).length = (zs k).length := by rw [List.length_take, List.length_drop]; simp [zs]; omega
    unfold okZ
    rw [ih (by omega), h1, h2]
    cases b
    · rfl
    · simp only [Bool.true_and]
      rw [Bool.eq_iff_iff]
      simp only [Bool.and_eq_true, decide_eq_true_eq, beq_iff_eq]
      constructor
      · rintro ⟨a, b⟩; rw [a, b]
      · intro h
        have := List.append_inj h h3
        exact ⟨this.1, by simpa using this.2⟩
theorem okZ_form (s : List Int) (hl : s.length = 64) : okZ (decide (s.take 5 = hMagic)) s 23 = formS s := by
  rw [okZ_eq _ s hl 23 (by decide), List.take_of_length_le (l := s.drop 41) (i := 23) (by rw [List.length_drop]; omega)]
  rfl
theorem mg_six {s : List Int} (hl : s.length = 64) : ((s.getD 0 0 == 115) = false ∧ decide (s.take 5 = hMagic) = false) ∨ ((s.getD 0 0 == 115) = true ∧ (s.getD 1 0 == 116) = false ∧ decide (s.take 5 = hMagic) = false) ∨ ((s.getD 0 0 == 115) = true ∧ (s.getD 1 0 == 116) = true ∧ (s.getD 2 0 == 114) = false ∧ decide (s.take 5 = hMagic) = false) ∨
    ((s.getD 0 0 == 115) = true ∧ (s.getD 1 0 == 116) = true ∧ (s.getD 2 0 == 114) = true ∧ (s.getD 3 0 == 100) = false ∧ decide (s.take 5 = hMagic) = false) ∨ ((s.getD 0 0 == 115) = true ∧ (s.getD 1 0 == 116) = true ∧ (s.getD 2 0 == 114) = true ∧ (s.getD 3 0 == 100) = true ∧ (s.getD 4 0 == 1) = false ∧ decide (s.take 5 = hMagic) = false) ∨
    ((s.getD 0 0 == 115) = true ∧ (s.getD 1 0 == 116) = true ∧ (s.getD 2 0 == 114) = true ∧ (s.getD 3 0 == 100) = true ∧ (s.getD 4 0 == 1) = true ∧ decide (s.take 5 = hMagic) = true) := by
  have h : decide (s.take 5 = hMagic) = ((s.getD 0 0 == 115) && (s.getD 1 0 == 116) && (s.getD 2 0 == 114) && (s.getD 3 0 == 100) && (s.getD 4 0 == 1)) := by
    match s, hl with
    | a :: b :: c :: d :: e :: r, _ =>
      rw [Bool.eq_iff_iff]
      simp [hMagic, and_assoc]
  rw [h]
  cases (s.getD 0 0 == 115) <;> cases (s.getD 1 0 == 116) <;> cases (s.getD 2 0 == 114) <;> cases (s.getD 3 0 == 100) <;> cases (s.getD 4 0 == 1) <;> simp
theorem mg_five {s : List Int} (hl : s.length = 64) (h : decide (s.take 5 = hMagic) = false) : (s.getD 0 0 == 115) = false ∨ ((s.getD 0 0 == 115) = true ∧ (s.getD 1 0 == 116) = false) ∨ ((s.getD 0 0 == 115) = true ∧ (s.getD 1 0 == 116) = true ∧ (s.getD 2 0 == 114) = false) ∨
    ((s.getD 0 0 == 115) = true ∧ (s.getD 1 0 == 116) = true ∧ (s.getD 2 0 == 114) = true ∧ (s.getD 3 0 == 100) = false) ∨ ((s.getD 0 0 == 115) = true ∧ (s.getD 1 0 == 116) = true ∧ (s.getD 2 0 == 114) = true ∧ (s.getD 3 0 == 100) = true ∧ (s.getD 4 0 == 1) = false) := by
  rcases mg_six hl with ⟨p1, pb⟩ | ⟨p1, p2, pb⟩ | ⟨p1, p2, p3, pb⟩ | ⟨p1, p2, p3, p4, pb⟩ | ⟨p1, p2, p3, p4, p5, pb⟩ | ⟨p1, p2, p3, p4, p5, pb⟩
  · exact .inl p1
  · exact .inr (.inl ⟨p1, p2⟩)
  · exact .inr (.inr (.inl ⟨p1, p2, p3⟩))
  · exact .inr (.inr (.inr (.inl ⟨p1, p2, p3, p4⟩)))
  · exact .inr (.inr (.inr (.inr ⟨p1, p2, p3, p4, p5⟩)))
  · rw [h] at pb; cases pb
theorem at_u8 {s : List Int} (hl : s.length = 64) (k : Nat) (hk : k < 64) : (nums .u8 s)[k]? = some (.int .u8 (s.getD k 0)) := nums_at k (by omega)
set_option maxRecDepth 100000 in
set_option maxHeartbeats 8000000 in
theorem rhdecode_no (s : List Int) (hl : s.length = 64) (hb : Bytes s) (w : World) (hz : s ≠ zs 64) (hm : decide (s.take 5 = hMagic) = false) :
    Calls Tryd.prog 35 #[.agg (nums .u8 s).toArray] w fun e W => e = .returned (.tuple #[hV0, .int .i64 2]) ∧ Below w.heap.size w W := by
  have H := Own.start w
  have hsz : (nums .u8 s).length = 64 := by rw [nums_length, hl]
  have E0 := fun W => heq64 s (zs 64) hl rfl hb (bytes_zs 64) W
  rw [show (s == zs 64) = false by simp [hz]] at E0
  have five := mg_five hl hm
  have k0 := at_u8 hl 0 (by decide)
  have k1 := at_u8 hl 1 (by decide)
  have k2 := at_u8 hl 2 (by decide)
  have k3 := at_u8 hl 3 (by decide)
  have k4 := at_u8 hl 4 (by decide)
  clear hz hm
  generalize s.getD 0 0 = s0 at *
  generalize s.getD 1 0 = s1 at *
  generalize s.getD 2 0 = s2 at *
  generalize s.getD 3 0 = s3 at *
  generalize s.getD 4 0 = s4 at *
  go_enter Tryd.func35, Tryd.ntmps35
  rcases five with p1 | ⟨p1, p2⟩ | ⟨p1, p2, p3⟩ | ⟨p1, p2, p3, p4⟩ | ⟨p1, p2, p3, p4, p5⟩
  all_goals
    go_wp2_with (first
    | ((with_reducible refine gate_dst (N := 1) rfl ?_); refine l_boxA rfl H 50 _ rfl _ rfl ?_; clear H; intro g1 W H)
    | ((with_reducible refine gate_dst (N := 2) rfl ?_); refine l_allocA rfl H 54 rfl _ zero54 ?_; clear H; intro g2 W H)
    | ((with_reducible refine gate_dst (N := 8) rfl ?_); refine l_loadA rfl H 50 _ rfl _ rfl (by (repeat (first | exact In.head | apply In.tail))) _ _ Tryd.underlying50 rfl size50 (by (first | rfl | assumption | omega | (simp only [nums_length]; omega) | (simp [nums_length, zs]; done) | (simp [nums_length, zs]; omega))) ?_)
    | ((with_reducible refine gate_dst (N := 13) rfl ?_); refine l_load1 rfl H 5 _ rfl _ _ rfl (by (repeat (first | exact In.head | apply In.tail))) _ Tryd.underlying5 rfl _ (by first | rfl | assumption | exact nums_at _ (by omega)) ?_)
    | ((with_reducible refine gate_dst (N := 17) rfl ?_); refine gate_guard (by rfl) ?_; refine l_load1 rfl H 5 _ rfl _ _ rfl (by (repeat (first | exact In.head | apply In.tail))) _ Tryd.underlying5 rfl _ (by first | rfl | assumption | exact nums_at _ (by omega)) ?_)
    | ((with_reducible refine gate_dst (N := 22) rfl ?_); refine gate_guard (by rfl) ?_; refine l_load1 rfl H 5 _ rfl _ _ rfl (by (repeat (first | exact In.head | apply In.tail))) _ Tryd.underlying5 rfl _ (by first | rfl | assumption | exact nums_at _ (by omega)) ?_)
    | ((with_reducible refine gate_dst (N := 27) rfl ?_); refine gate_guard (by rfl) ?_; refine l_load1 rfl H 5 _ rfl _ _ rfl (by (repeat (first | exact In.head | apply In.tail))) _ Tryd.underlying5 rfl _ (by first | rfl | assumption | exact nums_at _ (by omega)) ?_)
    | ((with_reducible refine gate_dst (N := 32) rfl ?_); refine gate_guard (by rfl) ?_; refine l_load1 rfl H 5 _ rfl _ _ rfl (by (repeat (first | exact In.head | apply In.tail))) _ Tryd.underlying5 rfl _ (by first | rfl | assumption | exact nums_at _ (by omega)) ?_)
    | ((with_reducible refine gate_dst (N := 9) rfl ?_); refine l_run rfl (.agg (nums .u8 (zs 64)).toArray) (by kernel_rfl) ?_))
    go_loopg [4, 5] 23 (fun gq v4 v5 w' => ∃ k : Nat, v5 = .int .i64 ((41 + k : Nat) : Int) ∧ k + gq = 23 ∧ v4 = .bool false ∧ Own w F0 [.blk g2 54 [.int .u64 0, .int .i64 0, .int .i64 0, .int .i64 0, .int .i64 0, .int .i64 0, .int .i64 0], .blk g1 50 (nums .u8 s)] w')
    case atStart => exact ⟨0, rfl, rfl, rfl, H⟩
    case round =>
      clear H
      obtain ⟨k, rfl, hk, rfl, H⟩ := hrel
      by_cases ck : k < 23
      · obtain ⟨gk', rfl⟩ : ∃ q, gk = q + 1 := ⟨gk - 1, by omega⟩
        have q0 : decide (((41 + k : Nat) : Int) < 64) = true := decide_eq_true (by omega)
        go_wp2
        go_roundg gk'
        case measure => omega
        case rel => exact ⟨k + 1, congrArg (Value.int .i64) (by omega), by omega, rfl, H⟩
      · obtain rfl : k = 23 := by omega
        clear hk ck
        go_wp2_with (first
    | ((with_reducible refine gate_store (t := 54) (p := 2) rfl ?_); refine l_storeW rfl H 54 _ _ rfl _ rfl _ rfl (by (repeat (first | exact In.head | apply In.tail))) _ size54 (by (first | rfl | assumption | omega | (simp only [nums_length]; omega) | (simp [nums_length, zs]; done) | (simp [nums_length, zs]; omega))) (by (first | rfl | assumption | omega | (simp only [nums_length]; omega) | (simp [nums_length, zs]; done) | (simp [nums_length, zs]; omega))) (by (first | exact nums_one | assumption | (intro u hu; simp at hu; subst hu; rfl) | (intro u hu; simp at hu; rcases hu with rfl | rfl | rfl | rfl | rfl | rfl | rfl <;> rfl) | (intro u hu; simp at hu; rcases hu with rfl | rfl | rfl | rfl <;> rfl) | (intro u hu; simp at hu; rcases hu with rfl | rfl | rfl <;> rfl) | (intro u hu; simp at hu; rcases hu with rfl | rfl <;> rfl))) ?_; clear H; intro W H))
        refine bodyPost_ret (results_ct (p := 2) (ty := 54) rfl _ _ g2 54 _ (0, 0) _ rfl (H.heap .head) Tryd.underlying54 rfl size54) rfl ?_
        exact ⟨rfl, H.below⟩
set_option maxRecDepth 100000 in
set_option maxHeartbeats 8000000 in
theorem rhdecode_yes (s : List Int) (hl : s.length = 64) (hb : Bytes s) (w : World) (hz : s ≠ zs 64) (hm : decide (s.take 5 = hMagic) = true) :
    Calls Tryd.prog 35 #[.agg (nums .u8 s).toArray] w fun e W => e = .returned (.tuple #[decV s, .int .i64 (decH s)]) ∧ Below w.heap.size w W := by
  have H := Own.start w
  have hsz : (nums .u8 s).length = 64 := by rw [nums_length, hl]
  have E0 := fun W => heq64 s (zs 64) hl rfl hb (bytes_zs 64) W
  rw [show (s == zs 64) = false by simp [hz]] at E0
  have d1 : decH s = if formS s = false then 2 else if nS s 37 ≠ (sumN (s.take 37) : Int) then 3 else if rightS s = false then 2 else 0 := by unfold decH; rw [if_neg hz]
  have k0 := at_u8 hl 0 (by decide)
  have k1 := at_u8 hl 1 (by decide)
  have k2 := at_u8 hl 2 (by decide)
  have k3 := at_u8 hl 3 (by decide)
  have k4 := at_u8 hl 4 (by decide)
  have hOK := okZ_form s hl
  rw [hm] at hOK
  obtain ⟨p1, p2, p3, p4, p5⟩ : (s.getD 0 0 == 115) = true ∧ (s.getD 1 0 == 116) = true ∧ (s.getD 2 0 == 114) = true ∧ (s.getD 3 0 == 100) = true ∧ (s.getD 4 0 == 1) = true := by
    rcases mg_six hl with ⟨p1, pb⟩ | ⟨p1, p2, pb⟩ | ⟨p1, p2, p3, pb⟩ | ⟨p1, p2, p3, p4, pb⟩ | ⟨p1, p2, p3, p4, p5, pb⟩ | ⟨p1, p2, p3, p4, p5, pb⟩
    · rw [hm] at pb; cases pb
    · rw [hm] at pb; cases pb
    · rw [hm] at pb; cases pb
    · rw [hm] at pb; cases pb
    · rw [hm] at pb; cases pb
    · exact ⟨p1, p2, p3, p4, p5⟩
  clear hz hm
  generalize s.getD 0 0 = s0 at *
  generalize s.getD 1 0 = s1 at *
  generalize s.getD 2 0 = s2 at *
  generalize s.getD 3 0 = s3 at *
  generalize s.getD 4 0 = s4 at *
  obtain ⟨V, hV⟩ : ∃ x, decV s = x := ⟨_, rfl⟩
  obtain ⟨D, hD⟩ : ∃ x, decH s = x := ⟨_, rfl⟩
  rw [hV, hD]
  rw [hD] at d1
  have hv : V = if D = 0 then hvS s else hV0 := by rw [← hV, ← hD]; rfl
  clear hV hD
  have HD := Aside0.mk (And.intro d1 hv)
  clear d1 hv
  go_enter Tryd.func35, Tryd.ntmps35
  go_wp2_with (first
    | ((with_reducible refine gate_dst (N := 1) rfl ?_); refine l_boxA rfl H 50 _ rfl _ rfl ?_; clear H; intro g1 W H)
    | ((with_reducible refine gate_dst (N := 2) rfl ?_); refine l_allocA rfl H 54 rfl _ zero54 ?_; clear H; intro g2 W H)
    | ((with_reducible refine gate_dst (N := 8) rfl ?_); refine l_loadA rfl H 50 _ rfl _ rfl (by (repeat (first | exact In.head | apply In.tail))) _ _ Tryd.underlying50 rfl size50 (by (first | rfl | assumption | omega | (simp only [nums_length]; omega) | (simp [nums_length, zs]; done) | (simp [nums_length, zs]; omega))) ?_)
    | ((with_reducible refine gate_dst (N := 13) rfl ?_); refine l_load1 rfl H 5 _ rfl _ _ rfl (by (repeat (first | exact In.head | apply In.tail))) _ Tryd.underlying5 rfl _ (by first | rfl | assumption | exact nums_at _ (by omega)) ?_)
    | ((with_reducible refine gate_dst (N := 17) rfl ?_); refine gate_guard (by rfl) ?_; refine l_load1 rfl H 5 _ rfl _ _ rfl (by (repeat (first | exact In.head | apply In.tail))) _ Tryd.underlying5 rfl _ (by first | rfl | assumption | exact nums_at _ (by omega)) ?_)
    | ((with_reducible refine gate_dst (N := 22) rfl ?_); refine gate_guard (by rfl) ?_; refine l_load1 rfl H 5 _ rfl _ _ rfl (by (repeat (first | exact In.head | apply In.tail))) _ Tryd.underlying5 rfl _ (by first | rfl | assumption | exact nums_at _ (by omega)) ?_)
    | ((with_reducible refine gate_dst (N := 27) rfl ?_); refine gate_guard (by rfl) ?_; refine l_load1 rfl H 5 _ rfl _ _ rfl (by (repeat (first | exact In.head | apply In.tail))) _ Tryd.underlying5 rfl _ (by first | rfl | assumption | exact nums_at _ (by omega)) ?_)
    | ((with_reducible refine gate_dst (N := 32) rfl ?_); refine gate_guard (by rfl) ?_; refine l_load1 rfl H 5 _ rfl _ _ rfl (by (repeat (first | exact In.head | apply In.tail))) _ Tryd.underlying5 rfl _ (by first | rfl | assumption | exact nums_at _ (by omega)) ?_)
    | ((with_reducible refine gate_dst (N := 9) rfl ?_); refine l_run rfl (.agg (nums .u8 (zs 64)).toArray) (by kernel_rfl) ?_))
  go_loopg [4, 5] 23 (fun gq v4 v5 w' => ∃ k : Nat, v5 = .int .i64 ((41 + k : Nat) : Int) ∧ k + gq = 23 ∧ v4 = .bool (okZ true s k) ∧ Own w F0 [.blk g2 54 [.int .u64 0, .int .i64 0, .int .i64 0, .int .i64 0, .int .i64 0, .int .i64 0, .int .i64 0], .blk g1 50 (nums .u8 s)] w')
  case atStart => exact ⟨0, rfl, rfl, rfl, H⟩
  case round =>
    clear H
    obtain ⟨k, rfl, hk, rfl, H⟩ := hrel
    by_cases ck : k < 23
    · obtain ⟨gk', rfl⟩ : ∃ q, gk = q + 1 := ⟨gk - 1, by omega⟩
      have q0 : decide (((41 + k : Nat) : Int) < 64) = true := decide_eq_true (by omega)
      have q1 : ((0 : Int) ≤ ((41 + k : Nat) : Int)) = True := eq_true (by omega)
      have q2 : (((41 + k : Nat) : Int) < 64) = True := eq_true (by omega)
      have kk := at_u8 hl (41 + k) (by omega)
      have HS := Aside0.mk (show okZ true s (k + 1) = (okZ true s k && (s.getD (41 + k) 0 == 0)) from rfl)
      have HM := Aside0.mk (show ((41 + k : Nat) : Int) + 1 = ((41 + (k + 1) : Nat) : Int) by omega)
      have hm64 : 41 + k < 64 := by omega
      generalize s.getD (41 + k) 0 = x at kk HS
      generalize okZ true s k = o at HS ⊢
      generalize 41 + k = m at q0 q1 q2 kk HM hm64 ⊢
      have HK := Aside0.mk hk
      clear hk ck
      cases o with
      | false =>
        go_wp2
        go_roundg gk'
        case measure => have := HK.out; omega
        case rel => exact ⟨k + 1, by first | (rw [w64 (by omega) (by omega), HM.out]) | (exact congrArg (Value.int .i64) HM.out), by have := HK.out; omega, by rw [HS.out]; rfl, H⟩
      | true =>
        go_wp2_with (first
    | ((with_reducible refine gate_dst (N := 43) rfl ?_); refine gate_guard (by rfl) ?_; refine l_load1 rfl H 5 _ rfl _ _ rfl (by (repeat (first | exact In.head | apply In.tail))) _ Tryd.underlying5 rfl _ (by first | rfl | assumption | exact nums_at _ (by omega)) ?_))
        go_roundg gk'
        case measure => have := HK.out; omega
        case rel => exact ⟨k + 1, by first | (rw [w64 (by omega) (by omega), HM.out]) | (exact congrArg (Value.int .i64) HM.out), by have := HK.out; omega, by rw [HS.out]; rfl, H⟩
    · obtain rfl : k = 23 := by omega
      clear hk ck p1 p2 p3 p4 p5 E0 k0 k1 k2 k3 k4
      rw [hOK]
      obtain ⟨d1, hv⟩ := HD.out
      clear HD hOK
      cases hf : formS s with
      | false =>
        rw [hf, if_pos rfl] at d1
        subst d1
        rw [if_neg (by decide)] at hv
        subst hv
        go_wp2_with (first
    | ((with_reducible refine gate_store (t := 54) (p := 2) rfl ?_); refine l_storeW rfl H 54 _ _ rfl _ rfl _ rfl (by (repeat (first | exact In.head | apply In.tail))) _ size54 (by (first | rfl | assumption | omega | (simp only [nums_length]; omega) | (simp [nums_length, zs]; done) | (simp [nums_length, zs]; omega))) (by (first | rfl | assumption | omega | (simp only [nums_length]; omega) | (simp [nums_length, zs]; done) | (simp [nums_length, zs]; omega))) (by (first | exact nums_one | assumption | (intro u hu; simp at hu; subst hu; rfl) | (intro u hu; simp at hu; rcases hu with rfl | rfl | rfl | rfl | rfl | rfl | rfl <;> rfl) | (intro u hu; simp at hu; rcases hu with rfl | rfl | rfl | rfl <;> rfl) | (intro u hu; simp at hu; rcases hu with rfl | rfl | rfl <;> rfl) | (intro u hu; simp at hu; rcases hu with rfl | rfl <;> rfl))) ?_; clear H; intro W H))
        refine bodyPost_ret (results_ct (p := 2) (ty := 54) rfl _ _ g2 54 _ (0, 0) _ rfl (H.heap .head) Tryd.underlying54 rfl size54) rfl ?_
        exact ⟨rfl, H.below⟩
      | true =>
        rw [hf, if_neg (by decide)] at d1
        have e37 : ((getn ((s.drop 37).take 4) 4 : Nat) : Int) = nS s 37 := by unfold nS; exact congrArg _ (getn_pre 4 (fun j hj => by rw [List.getElem?_take_of_lt hj]))
        have G37 := fun {W : World} {L : List Res} (H : Own w F0 L W) A n c hC hc => rget_own H A n c ((s.drop 37).take 4) hC hc (bytes_take (bytes_drop hb 37) 4)
        have hC37 : ∀ {L : List Res} {c : Res → List Res} {W : World} {g : Nat}, Own w F0 L W → In L (.blk g 50 (nums .u8 s)) c → (Kd.int .u8).C W (some ⟨g, 0, none⟩) 37 (s.take 37) := fun H hI => by
          have := H.C hI 0 37 (by omega) (by decide)
          rwa [List.drop_zero] at this
        have OF := fun {W : World} {L : List Res} (H : Own w F0 L W) A n c hC hc hl => rof_own H A n c (s.take 37) hC hc (bytes_take hb 37) hl
        have MF := fun {W : World} {L : List Res} (H : Own w F0 L W) => rmask_own H (s.take 37)
        have hsb := sumN_lt (s.take 37)
        have w1 : IntKind.u64.wrap (sumN (s.take 37) : Int) = (sumN (s.take 37) : Int) := wu64 (Int.natCast_nonneg _) (Int.le_trans (Int.ofNat_le.2 (Nat.le_of_lt hsb)) (by decide))
        clear hsb hf
        generalize moreI 0 (s.take 37) = mo at *
        generalize sumN (s.take 37) = sm at *
        generalize nS s 37 = n37 at *
        by_cases c5 : n37 = (sm : Int)
        · rw [if_neg (fun h => h c5)] at d1
          have q5 : (n37 == (sm : Int)) = true := by simp [c5]
          have q5' : (n37 != (sm : Int)) = false := by simp [c5]
          clear c5
          have e13 : ((getn ((s.drop 13).take 4) 4 : Nat) : Int) = nS s 13 := by unfold nS; exact congrArg _ (getn_pre 4 (fun j hj => by rw [List.getElem?_take_of_lt hj]))
          have G13 := fun {W : World} {L : List Res} (H : Own w F0 L W) A n c hC hc => rget_own H A n c ((s.drop 13).take 4) hC hc (bytes_take (bytes_drop hb 13) 4)
          have w13 : IntKind.i64.wrap (nS s 13) = nS s 13 := by have := nS_lt hb 13; rw [IntKind.wrap_i64]; omega
          have e17 : ((getn ((s.drop 17).take 4) 4 : Nat) : Int) = nS s 17 := by unfold nS; exact congrArg _ (getn_pre 4 (fun j hj => by rw [List.getElem?_take_of_lt hj]))
          have G17 := fun {W : World} {L : List Res} (H : Own w F0 L W) A n c hC hc => rget_own H A n c ((s.drop 17).take 4) hC hc (bytes_take (bytes_drop hb 17) 4)
          have w17 : IntKind.i64.wrap (nS s 17) = nS s 17 := by have := nS_lt hb 17; rw [IntKind.wrap_i64]; omega
          have e21 : ((getn ((s.drop 21).take 4) 4 : Nat) : Int) = nS s 21 := by unfold nS; exact congrArg _ (getn_pre 4 (fun j hj => by rw [List.getElem?_take_of_lt hj]))
          have G21 := fun {W : World} {L : List Res} (H : Own w F0 L W) A n c hC hc => rget_own H A n c ((s.drop 21).take 4) hC hc (bytes_take (bytes_drop hb 21) 4)
          have w21 : IntKind.i64.wrap (nS s 21) = nS s 21 := by have := nS_lt hb 21; rw [IntKind.wrap_i64]; omega
          have e25 : ((getn ((s.drop 25).take 4) 4 : Nat) : Int) = nS s 25 := by unfold nS; exact congrArg _ (getn_pre 4 (fun j hj => by rw [List.getElem?_take_of_lt hj]))
          have G25 := fun {W : World} {L : List Res} (H : Own w F0 L W) A n c hC hc => rget_own H A n c ((s.drop 25).take 4) hC hc (bytes_take (bytes_drop hb 25) 4)
          have w25 : IntKind.i64.wrap (nS s 25) = nS s 25 := by have := nS_lt hb 25; rw [IntKind.wrap_i64]; omega
          have e29 : ((getn ((s.drop 29).take 4) 4 : Nat) : Int) = nS s 29 := by unfold nS; exact congrArg _ (getn_pre 4 (fun j hj => by rw [List.getElem?_take_of_lt hj]))
          have G29 := fun {W : World} {L : List Res} (H : Own w F0 L W) A n c hC hc => rget_own H A n c ((s.drop 29).take 4) hC hc (bytes_take (bytes_drop hb 29) 4)
          have w29 : IntKind.i64.wrap (nS s 29) = nS s 29 := by have := nS_lt hb 29; rw [IntKind.wrap_i64]; omega
          have e33 : ((getn ((s.drop 33).take 4) 4 : Nat) : Int) = nS s 33 := by unfold nS; exact congrArg _ (getn_pre 4 (fun j hj => by rw [List.getElem?_take_of_lt hj]))
          have G33 := fun {W : World} {L : List Res} (H : Own w F0 L W) A n c hC hc => rget_own H A n c ((s.drop 33).take 4) hC hc (bytes_take (bytes_drop hb 33) 4)
          have w33 : IntKind.i64.wrap (nS s 33) = nS s 33 := by have := nS_lt hb 33; rw [IntKind.wrap_i64]; omega
          have e5 : ((getn ((s.drop 5).take 8) 8 : Nat) : Int) = epS s := by unfold epS; exact congrArg _ (getn_pre 8 (fun j hj => by rw [List.getElem?_take_of_lt hj]))
          have G5 := fun {W : World} {L : List Res} (H : Own w F0 L W) A n c hC hc => rget_own H A n c ((s.drop 5).take 8) hC hc (bytes_take (bytes_drop hb 5) 8)
          have FR := fun W => rright_calls (epS s) (nS s 13) (nS s 17) (nS s 21) (nS s 25) (nS s 29) (nS s 33) (epS_lt hb).1 W
          change ∀ W, Calls _ _ _ W fun e W' => e = .returned (.bool (rightS s)) ∧ _ at FR
          unfold hvS at hv
          generalize rightS s = RR at *
          generalize epS s = ep at *
          generalize nS s 13 = n13 at *
          generalize nS s 17 = n17 at *
          generalize nS s 21 = n21 at *
          generalize nS s 25 = n25 at *
          generalize nS s 29 = n29 at *
          generalize nS s 33 = n33 at *
          go_wp2
          refine start_ (n := 7) (S := Own _ _ _) (ds := [4]) #[false, false, false, false, false, false, false] (by kernel_rfl) rfl rfl H.drew (fun hHeld => ?_)
          replace H := H.drew
          generalize World.drew _ = W at H hHeld ⊢
          refine take_run (i := 0) (N := some 49) (a' := ?_) #[true, false, false, false, false, false, false] rfl rfl (by kernel_rfl) (fun _ _ _ _ h => h) (by rfl) hHeld (.slice (some ⟨g1, 37, none⟩) 4 27) (fun X HX => x_arr_lohi' _ _ _ rfl 0 rfl Tryd.underlying50 size5 37 41 rfl rfl (by decide) (by decide) (by decide) X 37 4 27 rfl rfl rfl) ?_ ?_
          rotate_left
          · simp only [Act.put, List.setIfInBounds_toArray, List.set_cons_zero, List.set_cons_succ, i64_w, i32_w]
            rfl
          refine take_run (i := 2) (N := some 51) (a' := ?_) #[true, false, true, false, false, false, false] rfl rfl (by kernel_rfl) (fun _ _ _ _ h => h) (by rfl) hHeld (.slice (some ⟨g1, 0, none⟩) 37 64) (fun X HX => x_arr_hi _ _ rfl 0 rfl Tryd.underlying50 size5 37 rfl (by decide) (by decide) X) ?_ ?_
          rotate_left
          · simp only [Act.put, List.setIfInBounds_toArray, List.set_cons_zero, List.set_cons_succ, i64_w, i32_w]
            rfl
          refine one_ (i := 1) (N := some 50) #[true, true, true, false, false, false, false] rfl rfl (by kernel_rfl) (by decide) (fun K hK => ?_)
          refine callK_ (G37 H (some ⟨g1, 37, none⟩) 4 27 (H.C (by first|exact .tail .head|exact .tail (.tail .head)|exact .head) 37 4 (by omega) (by decide)) (by decide) (by decide)) Tryd.func59 (by kernel_rfl) rfl (by rfl) rfl rfl (by (try simp only [List.map_toArray, List.map_cons, List.map_nil]); first | done | rfl) ?_
          rintro e W ⟨rfl, H'⟩
          refine ⟨_, rfl, ?_⟩
          replace H := H'
          clear H'
          rw [e37]
          refine hK.out _ _ ?_ (fun hHeld => ?_)
          · first | trivial | exact H | exact H.del .head | exact (H.del .head).del .head
          clear hK K
          refine norm_ (a' := ?_) ?_ ?_
          rotate_left
          · show Act.put _ (some 50) _ = _
            simp only [Act.put, List.setIfInBounds_toArray, List.set_cons_zero, List.set_cons_succ, i64_w, i32_w]
            rfl
          refine one_ (i := 3) (N := some 52) #[true, true, true, true, false, false, false] rfl rfl (by kernel_rfl) (by decide) (fun K hK => ?_)
          refine callK_ (OF H (some ⟨g1, 0, none⟩) 37 64 (hC37 H (by first|exact .tail .head|exact .head)) (by decide) (by decide)) Tryd.func17 (by kernel_rfl) rfl (by rfl) rfl rfl (by (try simp only [List.map_toArray, List.map_cons, List.map_nil]); first | done | rfl) ?_
          rintro e W ⟨rfl, H'⟩
          refine ⟨_, rfl, ?_⟩
          replace H := H'
          clear H'
          refine hK.out _ _ ?_ (fun hHeld => ?_)
          · first | trivial | exact H | exact H.del .head | exact (H.del .head).del .head
          clear hK K
          refine norm_ (a' := ?_) ?_ ?_
          rotate_left
          · show Act.put _ (some 52) _ = _
            simp only [Act.put, List.setIfInBounds_toArray, List.set_cons_zero, List.set_cons_succ, i64_w, i32_w]
            rfl
          refine last_ (i := 4) (N := some 53) #[true, true, true, true, true, false, false] rfl rfl (by kernel_rfl) (by decide) (fun K hK => ?_)
          refine callK_ (MF H) Tryd.func21 (by kernel_rfl) rfl (by rfl) rfl rfl (by (try simp only [List.map_toArray, List.map_cons, List.map_nil]); first | done | rfl) ?_
          rintro e W ⟨rfl, H'⟩
          refine ⟨_, rfl, ?_⟩
          replace H := H'
          clear H'
          refine hK.out _ _ ?_
          clear hK K
          refine norm_ (a' := ?_) ?_ ?_
          rotate_left
          · show Act.put _ (some 53) _ = _
            simp only [Act.put, List.setIfInBounds_toArray, List.set_cons_zero, List.set_cons_succ, i64_w, i32_w]
            rfl
          refine pure_ (i := 5) (N := some 54) (v := ?_) (a' := ?_) #[true, true, true, true, true, true, false] rfl rfl (by kernel_rfl) (fun _ _ _ h => h) (Or.inl ⟨by rfl, ?_⟩) ?_ ?_
          rotate_left
          · intro w'
            go_simp
            with_reducible rfl
          rotate_left
          · simp only [Act.put, List.setIfInBounds_toArray, List.set_cons_zero, List.set_cons_succ, i64_w, i32_w]
            rfl
          refine pure_ (i := 6) (N := some 55) (v := ?_) (a' := ?_) #[true, true, true, true, true, true, true] rfl rfl (by kernel_rfl) (fun _ _ _ h => h) (Or.inl ⟨by rfl, ?_⟩) ?_ ?_
          rotate_left
          · intro w'
            go_simp
            with_reducible rfl
          rotate_left
          · simp only [Act.put, List.setIfInBounds_toArray, List.set_cons_zero, List.set_cons_succ, i64_w, i32_w]
            rfl
          refine done_ (by kernel_rfl) ?_
          clear hHeld
          go_wp2
          refine start_ (n := 11) (S := Own _ _ _) (ds := []) #[false, false, false, false, false, false, false, false, false, false, false] (by kernel_rfl) rfl rfl H.drew (fun hHeld => ?_)
          replace H := H.drew
          generalize World.drew _ = W at H hHeld ⊢
          refine take_run (i := 0) (N := some 57) (a' := ?_) #[true, false, false, false, false, false, false, false, false, false, false] rfl rfl (by kernel_rfl) (fun _ _ _ _ h => h) (by rfl) hHeld (.slice (some ⟨g1, 5, none⟩) 8 59) (fun X HX => x_arr_lohi' _ _ _ rfl 0 rfl Tryd.underlying50 size5 5 13 rfl rfl (by decide) (by decide) (by decide) X 5 8 59 rfl rfl rfl) ?_ ?_
          rotate_left
          · simp only [Act.put, List.setIfInBounds_toArray, List.set_cons_zero, List.set_cons_succ, i64_w, i32_w]
            rfl
          refine take_run (i := 2) (N := some 59) (a' := ?_) #[true, false, true, false, false, false, false, false, false, false, false] rfl rfl (by kernel_rfl) (fun _ _ _ _ h => h) (by rfl) hHeld (.slice (some ⟨g1, 13, none⟩) 4 51) (fun X HX => x_arr_lohi' _ _ _ rfl 0 rfl Tryd.underlying50 size5 13 17 rfl rfl (by decide) (by decide) (by decide) X 13 4 51 rfl rfl rfl) ?_ ?_
          rotate_left
          · simp only [Act.put, List.setIfInBounds_toArray, List.set_cons_zero, List.set_cons_succ, i64_w, i32_w]
            rfl
          refine take_run (i := 5) (N := some 62) (a' := ?_) #[true, false, true, false, false, true, false, false, false, false, false] rfl rfl (by kernel_rfl) (fun _ _ _ _ h => h) (by rfl) hHeld (.slice (some ⟨g1, 17, none⟩) 4 47) (fun X HX => x_arr_lohi' _ _ _ rfl 0 rfl Tryd.underlying50 size5 17 21 rfl rfl (by decide) (by decide) (by decide) X 17 4 47 rfl rfl rfl) ?_ ?_
          rotate_left
          · simp only [Act.put, List.setIfInBounds_toArray, List.set_cons_zero, List.set_cons_succ, i64_w, i32_w]
            rfl
          refine join_ (σ := Nat) 1 #[true, true, true, true, true, true, true, true, true, true, false] (fun g6 => [(58, Value.int .u64 ep), (60, Value.int .u64 n13), (61, Value.int .i64 n13), (63, Value.int .u64 n17), (64, Value.int .i64 n17), (65, hV ep n13 n17 0 0 0 0), (6, Value.pointer (some ⟨g6, 0, none⟩))]) (fun g6 W => Own w F0 [.blk g6 54 [.int .u64 0, .int .i64 0, .int .i64 0, .int .i64 0, .int .i64 0, .int .i64 0, .int .i64 0], .blk g2 54 [.int .u64 0, .int .i64 0, .int .i64 0, .int .i64 0, .int .i64 0, .int .i64 0, .int .i64 0], .blk g1 50 (nums .u8 s)] W) ?_ (fun hC => ?_)
          rotate_left
          focus
            simp only [putAll, Act.put, List.setIfInBounds_toArray, List.set_cons_zero, List.set_cons_succ] at hC
            refine two_ (i := 1) (j := 9) (Ni := some 58) (Nj := some 6) #[true, true, true, false, false, true, false, false, false, false, false] #[true, false, true, false, false, true, false, false, false, true, false] rfl rfl rfl rfl (by kernel_rfl) (by decide) (by decide) (fun K hK => ?_) (fun K hK => ?_)
            focus
              refine callK_ (G5 H (some ⟨g1, 5, none⟩) 8 59 (H.C (by first|exact .tail .head|exact .tail (.tail .head)|exact .head) 5 8 (by omega) (by decide)) (by decide) (by decide)) Tryd.func59 (by kernel_rfl) rfl (by rfl) rfl rfl (by (try simp only [List.map_toArray, List.map_cons, List.map_nil]); first | done | rfl) ?_
              rintro e W ⟨rfl, H'⟩
              refine ⟨_, rfl, ?_⟩
              replace H := H'
              clear H'
              rw [e5]
              refine hK.out _ _ ?_ (fun hHeld => ?_)
              · first | trivial | exact H | exact H.del .head | exact (H.del .head).del .head
              clear hK K
              refine norm_ (a' := ?_) ?_ ?_
              rotate_left
              · show Act.put _ (some 58) _ = _
                simp only [Act.put, List.setIfInBounds_toArray, List.set_cons_zero, List.set_cons_succ, i64_w, i32_w]
                rfl
              refine two_ (i := 3) (j := 9) (Ni := some 60) (Nj := some 6) #[true, true, true, true, false, true, false, false, false, false, false] #[true, true, true, false, false, true, false, false, false, true, false] rfl rfl rfl rfl (by kernel_rfl) (by decide) (by decide) (fun K hK => ?_) (fun K hK => ?_)
              focus
                refine callK_ (G13 H (some ⟨g1, 13, none⟩) 4 51 (H.C (by first|exact .tail .head|exact .tail (.tail .head)|exact .head) 13 4 (by omega) (by decide)) (by decide) (by decide)) Tryd.func59 (by kernel_rfl) rfl (by rfl) rfl rfl (by (try simp only [List.map_toArray, List.map_cons, List.map_nil]); first | done | rfl) ?_
                rintro e W ⟨rfl, H'⟩
                refine ⟨_, rfl, ?_⟩
                replace H := H'
                clear H'
                rw [e13]
                refine hK.out _ _ ?_ (fun hHeld => ?_)
                · first | trivial | exact H | exact H.del .head | exact (H.del .head).del .head
                clear hK K
                refine norm_ (a' := ?_) ?_ ?_
                rotate_left
                · show Act.put _ (some 60) _ = _
                  simp only [Act.put, List.setIfInBounds_toArray, List.set_cons_zero, List.set_cons_succ, i64_w, i32_w]
                  rfl
                refine pure_ (i := 4) (N := some 61) (v := ?_) (a' := ?_) #[true, true, true, true, true, true, false, false, false, false, false] rfl rfl (by kernel_rfl) (fun _ _ _ h => h) (Or.inl ⟨by rfl, ?_⟩) ?_ ?_
                rotate_left
                · intro w'
                  go_simp
                  with_reducible rfl
                rotate_left
                · simp only [Act.put, List.setIfInBounds_toArray, List.set_cons_zero, List.set_cons_succ, i64_w, i32_w]
                  rfl
                refine two_ (i := 6) (j := 9) (Ni := some 63) (Nj := some 6) #[true, true, true, true, true, true, true, false, false, false, false] #[true, true, true, true, true, true, false, false, false, true, false] rfl rfl rfl rfl (by kernel_rfl) (by decide) (by decide) (fun K hK => ?_) (fun K hK => ?_)
                focus
                  refine callK_ (G17 H (some ⟨g1, 17, none⟩) 4 47 (H.C (by first|exact .tail .head|exact .tail (.tail .head)|exact .head) 17 4 (by omega) (by decide)) (by decide) (by decide)) Tryd.func59 (by kernel_rfl) rfl (by rfl) rfl rfl (by (try simp only [List.map_toArray, List.map_cons, List.map_nil]); first | done | rfl) ?_
                  rintro e W ⟨rfl, H'⟩
                  refine ⟨_, rfl, ?_⟩
                  replace H := H'
                  clear H'
                  rw [e17]
                  refine hK.out _ _ ?_ (fun hHeld => ?_)
                  · first | trivial | exact H | exact H.del .head | exact (H.del .head).del .head
                  clear hK K
                  refine norm_ (a' := ?_) ?_ ?_
                  rotate_left
                  · show Act.put _ (some 63) _ = _
                    simp only [Act.put, List.setIfInBounds_toArray, List.set_cons_zero, List.set_cons_succ, i64_w, i32_w]
                    rfl
                  refine pure_ (i := 7) (N := some 64) (v := ?_) (a' := ?_) #[true, true, true, true, true, true, true, true, false, false, false] rfl rfl (by kernel_rfl) (fun _ _ _ h => h) (Or.inl ⟨by rfl, ?_⟩) ?_ ?_
                  rotate_left
                  · intro w'
                    go_simp
                    with_reducible rfl
                  rotate_left
                  · simp only [Act.put, List.setIfInBounds_toArray, List.set_cons_zero, List.set_cons_succ, i64_w, i32_w]
                    rfl
                  refine pure_ (i := 8) (N := some 65) (v := ?_) (a' := ?_) #[true, true, true, true, true, true, true, true, true, false, false] rfl rfl (by kernel_rfl) (fun _ _ _ h => h) (Or.inl ⟨by rfl, ?_⟩) ?_ ?_
                  rotate_left
                  · intro w'
                    go_simp
                    with_reducible rfl
                  rotate_left
                  · simp only [Act.put, List.setIfInBounds_toArray, List.set_cons_zero, List.set_cons_succ, i64_w, i32_w]
                    rfl
                  refine one_ (i := 9) (N := some 6) #[true, true, true, true, true, true, true, true, true, true, false] rfl rfl (by kernel_rfl) (by decide) (fun K hK => ?_)
                  refine wanted_ rfl ?_
                  refine w_allocA H 54 rfl _ zero54 ?_
                  clear H
                  intro g6 W H
                  refine hK.out _ _ ?_ (fun hHeld => ?_)
                  · first | trivial | exact H | exact H.del .head | exact (H.del .head).del .head
                  clear hK K
                  refine norm_ (a' := ?_) ?_ ?_
                  rotate_left
                  · show Act.put _ (some 6) _ = _
                    simp only [Act.put, List.setIfInBounds_toArray, List.set_cons_zero, List.set_cons_succ, i64_w, i32_w]
                    rfl
                rotate_left 1
                focus
                  refine wanted_ rfl ?_
                  refine w_allocA H 54 rfl _ zero54 ?_
                  clear H
                  intro g6 W H
                  refine hK.out _ _ ?_ (fun hHeld => ?_)
                  · first | trivial | exact H | exact H.del .head | exact (H.del .head).del .head
                  clear hK K
                  refine norm_ (a' := ?_) ?_ ?_
                  rotate_left
                  · show Act.put _ (some 6) _ = _
                    simp only [Act.put, List.setIfInBounds_toArray, List.set_cons_zero, List.set_cons_succ, i64_w, i32_w]
                    rfl
                  refine one_ (i := 6) (N := some 63) #[true, true, true, true, true, true, true, false, false, true, false] rfl rfl (by kernel_rfl) (by decide) (fun K hK => ?_)
                  refine callK_ (G17 H (some ⟨g1, 17, none⟩) 4 47 (H.C (by first|exact .tail .head|exact .tail (.tail .head)|exact .head) 17 4 (by omega) (by decide)) (by decide) (by decide)) Tryd.func59 (by kernel_rfl) rfl (by rfl) rfl rfl (by (try simp only [List.map_toArray, List.map_cons, List.map_nil]); first | done | rfl) ?_
                  rintro e W ⟨rfl, H'⟩
                  refine ⟨_, rfl, ?_⟩
                  replace H := H'
                  clear H'
                  rw [e17]
                  refine hK.out _ _ ?_ (fun hHeld => ?_)
                  · first | trivial | exact H | exact H.del .head | exact (H.del .head).del .head
                  clear hK K
                  refine norm_ (a' := ?_) ?_ ?_
                  rotate_left
                  · show Act.put _ (some 63) _ = _
                    simp only [Act.put, List.setIfInBounds_toArray, List.set_cons_zero, List.set_cons_succ, i64_w, i32_w]
                    rfl
                  refine pure_ (i := 7) (N := some 64) (v := ?_) (a' := ?_) #[true, true, true, true, true, true, true, true, false, true, false] rfl rfl (by kernel_rfl) (fun _ _ _ h => h) (Or.inl ⟨by rfl, ?_⟩) ?_ ?_
                  rotate_left
                  · intro w'
                    go_simp
                    with_reducible rfl
                  rotate_left
                  · simp only [Act.put, List.setIfInBounds_toArray, List.set_cons_zero, List.set_cons_succ, i64_w, i32_w]
                    rfl
                  refine pure_ (i := 8) (N := some 65) (v := ?_) (a' := ?_) #[true, true, true, true, true, true, true, true, true, true, false] rfl rfl (by kernel_rfl) (fun _ _ _ h => h) (Or.inl ⟨by rfl, ?_⟩) ?_ ?_
                  rotate_left
                  · intro w'
                    go_simp
                    with_reducible rfl
                  rotate_left
                  · simp only [Act.put, List.setIfInBounds_toArray, List.set_cons_zero, List.set_cons_succ, i64_w, i32_w]
                    rfl
                rotate_left 1
              rotate_left 2
              focus
                refine wanted_ rfl ?_
                refine w_allocA H 54 rfl _ zero54 ?_
                clear H
                intro g6 W H
                refine hK.out _ _ ?_ (fun hHeld => ?_)
                · first | trivial | exact H | exact H.del .head | exact (H.del .head).del .head
                clear hK K
                refine norm_ (a' := ?_) ?_ ?_
                rotate_left
                · show Act.put _ (some 6) _ = _
                  simp only [Act.put, List.setIfInBounds_toArray, List.set_cons_zero, List.set_cons_succ, i64_w, i32_w]
                  rfl
                refine one_ (i := 3) (N := some 60) #[true, true, true, true, false, true, false, false, false, true, false] rfl rfl (by kernel_rfl) (by decide) (fun K hK => ?_)
                refine callK_ (G13 H (some ⟨g1, 13, none⟩) 4 51 (H.C (by first|exact .tail .head|exact .tail (.tail .head)|exact .head) 13 4 (by omega) (by decide)) (by decide) (by decide)) Tryd.func59 (by kernel_rfl) rfl (by rfl) rfl rfl (by (try simp only [List.map_toArray, List.map_cons, List.map_nil]); first | done | rfl) ?_
                rintro e W ⟨rfl, H'⟩
                refine ⟨_, rfl, ?_⟩
                replace H := H'
                clear H'
                rw [e13]
                refine hK.out _ _ ?_ (fun hHeld => ?_)
                · first | trivial | exact H | exact H.del .head | exact (H.del .head).del .head
                clear hK K
                refine norm_ (a' := ?_) ?_ ?_
                rotate_left
                · show Act.put _ (some 60) _ = _
                  simp only [Act.put, List.setIfInBounds_toArray, List.set_cons_zero, List.set_cons_succ, i64_w, i32_w]
                  rfl
                refine pure_ (i := 4) (N := some 61) (v := ?_) (a' := ?_) #[true, true, true, true, true, true, false, false, false, true, false] rfl rfl (by kernel_rfl) (fun _ _ _ h => h) (Or.inl ⟨by rfl, ?_⟩) ?_ ?_
                rotate_left
                · intro w'
                  go_simp
                  with_reducible rfl
                rotate_left
                · simp only [Act.put, List.setIfInBounds_toArray, List.set_cons_zero, List.set_cons_succ, i64_w, i32_w]
                  rfl
                refine one_ (i := 6) (N := some 63) #[true, true, true, true, true, true, true, false, false, true, false] rfl rfl (by kernel_rfl) (by decide) (fun K hK => ?_)
                refine callK_ (G17 H (some ⟨g1, 17, none⟩) 4 47 (H.C (by first|exact .tail .head|exact .tail (.tail .head)|exact .head) 17 4 (by omega) (by decide)) (by decide) (by decide)) Tryd.func59 (by kernel_rfl) rfl (by rfl) rfl rfl (by (try simp only [List.map_toArray, List.map_cons, List.map_nil]); first | done | rfl) ?_
                rintro e W ⟨rfl, H'⟩
                refine ⟨_, rfl, ?_⟩
                replace H := H'
                clear H'
                rw [e17]
                refine hK.out _ _ ?_ (fun hHeld => ?_)
                · first | trivial | exact H | exact H.del .head | exact (H.del .head).del .head
                clear hK K
                refine norm_ (a' := ?_) ?_ ?_
                rotate_left
                · show Act.put _ (some 63) _ = _
                  simp only [Act.put, List.setIfInBounds_toArray, List.set_cons_zero, List.set_cons_succ, i64_w, i32_w]
                  rfl
                refine pure_ (i := 7) (N := some 64) (v := ?_) (a' := ?_) #[true, true, true, true, true, true, true, true, false, true, false] rfl rfl (by kernel_rfl) (fun _ _ _ h => h) (Or.inl ⟨by rfl, ?_⟩) ?_ ?_
                rotate_left
                · intro w'
                  go_simp
                  with_reducible rfl
                rotate_left
                · simp only [Act.put, List.setIfInBounds_toArray, List.set_cons_zero, List.set_cons_succ, i64_w, i32_w]
                  rfl
                refine pure_ (i := 8) (N := some 65) (v := ?_) (a' := ?_) #[true, true, true, true, true, true, true, true, true, true, false] rfl rfl (by kernel_rfl) (fun _ _ _ h => h) (Or.inl ⟨by rfl, ?_⟩) ?_ ?_
                rotate_left
                · intro w'
                  go_simp
                  with_reducible rfl
                rotate_left
                · simp only [Act.put, List.setIfInBounds_toArray, List.set_cons_zero, List.set_cons_succ, i64_w, i32_w]
                  rfl
              rotate_left 1
            rotate_left 3
            focus
              refine wanted_ rfl ?_
              refine w_allocA H 54 rfl _ zero54 ?_
              clear H
              intro g6 W H
              refine hK.out _ _ ?_ (fun hHeld => ?_)
              · first | trivial | exact H | exact H.del .head | exact (H.del .head).del .head
              clear hK K
              refine norm_ (a' := ?_) ?_ ?_
              rotate_left
              · show Act.put _ (some 6) _ = _
                simp only [Act.put, List.setIfInBounds_toArray, List.set_cons_zero, List.set_cons_succ, i64_w, i32_w]
                rfl
              refine one_ (i := 1) (N := some 58) #[true, true, true, false, false, true, false, false, false, true, false] rfl rfl (by kernel_rfl) (by decide) (fun K hK => ?_)
              refine callK_ (G5 H (some ⟨g1, 5, none⟩) 8 59 (H.C (by first|exact .tail .head|exact .tail (.tail .head)|exact .head) 5 8 (by omega) (by decide)) (by decide) (by decide)) Tryd.func59 (by kernel_rfl) rfl (by rfl) rfl rfl (by (try simp only [List.map_toArray, List.map_cons, List.map_nil]); first | done | rfl) ?_
              rintro e W ⟨rfl, H'⟩
              refine ⟨_, rfl, ?_⟩
              replace H := H'
              clear H'
              rw [e5]
              refine hK.out _ _ ?_ (fun hHeld => ?_)
              · first | trivial | exact H | exact H.del .head | exact (H.del .head).del .head
              clear hK K
              refine norm_ (a' := ?_) ?_ ?_
              rotate_left
              · show Act.put _ (some 58) _ = _
                simp only [Act.put, List.setIfInBounds_toArray, List.set_cons_zero, List.set_cons_succ, i64_w, i32_w]
                rfl
              refine one_ (i := 3) (N := some 60) #[true, true, true, true, false, true, false, false, false, true, false] rfl rfl (by kernel_rfl) (by decide) (fun K hK => ?_)
              refine callK_ (G13 H (some ⟨g1, 13, none⟩) 4 51 (H.C (by first|exact .tail .head|exact .tail (.tail .head)|exact .head) 13 4 (by omega) (by decide)) (by decide) (by decide)) Tryd.func59 (by kernel_rfl) rfl (by rfl) rfl rfl (by (try simp only [List.map_toArray, List.map_cons, List.map_nil]); first | done | rfl) ?_
              rintro e W ⟨rfl, H'⟩
              refine ⟨_, rfl, ?_⟩
              replace H := H'
              clear H'
              rw [e13]
              refine hK.out _ _ ?_ (fun hHeld => ?_)
              · first | trivial | exact H | exact H.del .head | exact (H.del .head).del .head
              clear hK K
              refine norm_ (a' := ?_) ?_ ?_
              rotate_left
              · show Act.put _ (some 60) _ = _
                simp only [Act.put, List.setIfInBounds_toArray, List.set_cons_zero, List.set_cons_succ, i64_w, i32_w]
                rfl
              refine pure_ (i := 4) (N := some 61) (v := ?_) (a' := ?_) #[true, true, true, true, true, true, false, false, false, true, false] rfl rfl (by kernel_rfl) (fun _ _ _ h => h) (Or.inl ⟨by rfl, ?_⟩) ?_ ?_
              rotate_left
              · intro w'
                go_simp
                with_reducible rfl
              rotate_left
              · simp only [Act.put, List.setIfInBounds_toArray, List.set_cons_zero, List.set_cons_succ, i64_w, i32_w]
                rfl
              refine one_ (i := 6) (N := some 63) #[true, true, true, true, true, true, true, false, false, true, false] rfl rfl (by kernel_rfl) (by decide) (fun K hK => ?_)
              refine callK_ (G17 H (some ⟨g1, 17, none⟩) 4 47 (H.C (by first|exact .tail .head|exact .tail (.tail .head)|exact .head) 17 4 (by omega) (by decide)) (by decide) (by decide)) Tryd.func59 (by kernel_rfl) rfl (by rfl) rfl rfl (by (try simp only [List.map_toArray, List.map_cons, List.map_nil]); first | done | rfl) ?_
              rintro e W ⟨rfl, H'⟩
              refine ⟨_, rfl, ?_⟩
              replace H := H'
              clear H'
              rw [e17]
              refine hK.out _ _ ?_ (fun hHeld => ?_)
              · first | trivial | exact H | exact H.del .head | exact (H.del .head).del .head
              clear hK K
              refine norm_ (a' := ?_) ?_ ?_
              rotate_left
              · show Act.put _ (some 63) _ = _
                simp only [Act.put, List.setIfInBounds_toArray, List.set_cons_zero, List.set_cons_succ, i64_w, i32_w]
                rfl
              refine pure_ (i := 7) (N := some 64) (v := ?_) (a' := ?_) #[true, true, true, true, true, true, true, true, false, true, false] rfl rfl (by kernel_rfl) (fun _ _ _ h => h) (Or.inl ⟨by rfl, ?_⟩) ?_ ?_
              rotate_left
              · intro w'
                go_simp
                with_reducible rfl
              rotate_left
              · simp only [Act.put, List.setIfInBounds_toArray, List.set_cons_zero, List.set_cons_succ, i64_w, i32_w]
                rfl
              refine pure_ (i := 8) (N := some 65) (v := ?_) (a' := ?_) #[true, true, true, true, true, true, true, true, true, true, false] rfl rfl (by kernel_rfl) (fun _ _ _ h => h) (Or.inl ⟨by rfl, ?_⟩) ?_ ?_
              rotate_left
              · intro w'
                go_simp
                with_reducible rfl
              rotate_left
              · simp only [Act.put, List.setIfInBounds_toArray, List.set_cons_zero, List.set_cons_succ, i64_w, i32_w]
                rfl
            rotate_left 1
            all_goals exact hC g6 _ H
          clear H hHeld
          rintro g6 W H
          have hHeld := H
          refine norm_ (a' := ?_) ?_ ?_
          rotate_left
          · simp only [putAll, Act.put, List.setIfInBounds_toArray, List.set_cons_zero, List.set_cons_succ, i64_w, i32_w]
            rfl
          refine one_ (i := 10) (N := none) #[true, true, true, true, true, true, true, true, true, true, true] rfl rfl (by kernel_rfl) (by decide) (fun K hK => ?_)
          refine wanted_ rfl ?_
          refine w_storeW H 54 _ _ rfl _ rfl _ rfl (by (repeat (first | exact In.head | apply In.tail))) _ size54 (by (first | rfl | assumption | omega | (simp only [nums_length]; omega) | (simp [nums_length, zs]; done) | (simp [nums_length, zs]; omega))) (by (first | rfl | assumption | omega | (simp only [nums_length]; omega) | (simp [nums_length, zs]; done) | (simp [nums_length, zs]; omega))) (by (first | exact nums_one | assumption | (intro u hu; simp at hu; subst hu; rfl) | (intro u hu; simp at hu; rcases hu with rfl | rfl | rfl | rfl | rfl | rfl | rfl <;> rfl) | (intro u hu; simp at hu; rcases hu with rfl | rfl | rfl | rfl <;> rfl) | (intro u hu; simp at hu; rcases hu with rfl | rfl | rfl <;> rfl) | (intro u hu; simp at hu; rcases hu with rfl | rfl <;> rfl))) ?_
          clear H
          intro W H
          refine hK.out _ _ ?_ (fun hHeld => ?_)
          · first | trivial | exact H | exact H.del .head | exact (H.del .head).del .head
          clear hK K
          refine done_ (by kernel_rfl) ?_
          clear hHeld
          go_wp2
          go_loopg [7] 4 (fun gq v7 w' => ∃ k : Nat, v7 = .int .i64 (k : Int) ∧ k + gq = 4 ∧ Own w F0 [.blk g6 54 (hcs ep n13 n17 n21 n25 n29 n33 k), .blk g2 54 [.int .u64 0, .int .i64 0, .int .i64 0, .int .i64 0, .int .i64 0, .int .i64 0, .int .i64 0], .blk g1 50 (nums .u8 s)] w')
          case atStart => exact ⟨0, rfl, rfl, H⟩
          case round =>
            clear H
            obtain ⟨k, rfl, hk, H⟩ := hrel
            by_cases ck : k < 4
            · obtain ⟨gk', rfl⟩ : ∃ q, gk = q + 1 := ⟨gk - 1, by omega⟩
              have HK := Aside0.mk hk
              clear hk
              rcases (show k = 0 ∨ k = 1 ∨ k = 2 ∨ k = 3 by omega) with rfl | rfl | rfl | rfl
              · clear ck
                simp only [hcs] at H
                go_wp2_with (first
    | ((with_reducible refine gate_store (t := 3) (p := 81) rfl ?_); refine l_store1 rfl H 3 _ _ rfl _ _ rfl _ (by first | (go_simp; done) | (go_simp; with_reducible rfl)) (by (repeat (first | exact In.head | apply In.tail))) rfl rfl size3 (by (first | rfl | assumption | omega | (simp only [nums_length]; omega) | (simp [nums_length, zs]; done) | (simp [nums_length, zs]; omega))) ?_; clear H; intro W H)
                | ((with_reducible refine gate_dst (N := 77) rfl ?_); refine l_run rfl (.slice (some ⟨g1, 21, none⟩) 4 43) (x_arr_lohi' _ _ _ rfl 0 rfl Tryd.underlying50 size5 21 25 rfl rfl (by decide) (by decide) (by decide) _ 21 4 43 rfl rfl rfl) ?_)
                | (go_at_call 59; (with_reducible refine (G21 H _ _ _ (H.C (.tail (.tail .head)) 21 4 (by omega) (by decide)) (by decide) (by decide)).mono ?_); clear H; rintro e W ⟨rfl, H⟩; rw [e21]))
                go_roundg gk'
                case measure => have := HK.out; omega
                case rel => exact ⟨1, rfl, by have := HK.out; omega, H⟩
              · clear ck
                simp only [hcs] at H
                go_wp2_with (first
    | ((with_reducible refine gate_store (t := 3) (p := 81) rfl ?_); refine l_store1 rfl H 3 _ _ rfl _ _ rfl _ (by first | (go_simp; done) | (go_simp; with_reducible rfl)) (by (repeat (first | exact In.head | apply In.tail))) rfl rfl size3 (by (first | rfl | assumption | omega | (simp only [nums_length]; omega) | (simp [nums_length, zs]; done) | (simp [nums_length, zs]; omega))) ?_; clear H; intro W H)
                | ((with_reducible refine gate_dst (N := 77) rfl ?_); refine l_run rfl (.slice (some ⟨g1, 25, none⟩) 4 39) (x_arr_lohi' _ _ _ rfl 0 rfl Tryd.underlying50 size5 25 29 rfl rfl (by decide) (by decide) (by decide) _ 25 4 39 rfl rfl rfl) ?_)
                | (go_at_call 59; (with_reducible refine (G25 H _ _ _ (H.C (.tail (.tail .head)) 25 4 (by omega) (by decide)) (by decide) (by decide)).mono ?_); clear H; rintro e W ⟨rfl, H⟩; rw [e25]))
                go_roundg gk'
                case measure => have := HK.out; omega
                case rel => exact ⟨2, rfl, by have := HK.out; omega, H⟩
              · clear ck
                simp only [hcs] at H
                go_wp2_with (first
    | ((with_reducible refine gate_store (t := 3) (p := 81) rfl ?_); refine l_store1 rfl H 3 _ _ rfl _ _ rfl _ (by first | (go_simp; done) | (go_simp; with_reducible rfl)) (by (repeat (first | exact In.head | apply In.tail))) rfl rfl size3 (by (first | rfl | assumption | omega | (simp only [nums_length]; omega) | (simp [nums_length, zs]; done) | (simp [nums_length, zs]; omega))) ?_; clear H; intro W H)
                | ((with_reducible refine gate_dst (N := 77) rfl ?_); refine l_run rfl (.slice (some ⟨g1, 29, none⟩) 4 35) (x_arr_lohi' _ _ _ rfl 0 rfl Tryd.underlying50 size5 29 33 rfl rfl (by decide) (by decide) (by decide) _ 29 4 35 rfl rfl rfl) ?_)
                | (go_at_call 59; (with_reducible refine (G29 H _ _ _ (H.C (.tail (.tail .head)) 29 4 (by omega) (by decide)) (by decide) (by decide)).mono ?_); clear H; rintro e W ⟨rfl, H⟩; rw [e29]))
                go_roundg gk'
                case measure => have := HK.out; omega
                case rel => exact ⟨3, rfl, by have := HK.out; omega, H⟩
              · clear ck
                simp only [hcs] at H
                go_wp2_with (first
    | ((with_reducible refine gate_store (t := 3) (p := 81) rfl ?_); refine l_store1 rfl H 3 _ _ rfl _ _ rfl _ (by first | (go_simp; done) | (go_simp; with_reducible rfl)) (by (repeat (first | exact In.head | apply In.tail))) rfl rfl size3 (by (first | rfl | assumption | omega | (simp only [nums_length]; omega) | (simp [nums_length, zs]; done) | (simp [nums_length, zs]; omega))) ?_; clear H; intro W H)
                | ((with_reducible refine gate_dst (N := 77) rfl ?_); refine l_run rfl (.slice (some ⟨g1, 33, none⟩) 4 31) (x_arr_lohi' _ _ _ rfl 0 rfl Tryd.underlying50 size5 33 37 rfl rfl (by decide) (by decide) (by decide) _ 33 4 31 rfl rfl rfl) ?_)
                | (go_at_call 59; (with_reducible refine (G33 H _ _ _ (H.C (.tail (.tail .head)) 33 4 (by omega) (by decide)) (by decide) (by decide)).mono ?_); clear H; rintro e W ⟨rfl, H⟩; rw [e33]))
                go_roundg gk'
                case measure => have := HK.out; omega
                case rel => exact ⟨4, rfl, by have := HK.out; omega, H⟩
            · obtain rfl : k = 4 := by omega
              clear hk ck
              simp only [hcs] at H
              cases RR with
              | true =>
                rw [if_neg (show ¬ true = false by decide)] at d1
                subst d1
                rw [if_pos rfl] at hv
                subst hv
                go_wp2_with (first
    | ((with_reducible refine gate_dst (N := 82) rfl ?_); refine l_loadA rfl H 54 _ rfl _ rfl (by (repeat (first | exact In.head | apply In.tail))) _ _ Tryd.underlying54 rfl size54 (by (first | rfl | assumption | omega | (simp only [nums_length]; omega) | (simp [nums_length, zs]; done) | (simp [nums_length, zs]; omega))) ?_)
    | ((with_reducible refine gate_dst (N := 86) rfl ?_); refine l_loadA rfl H 54 _ rfl _ rfl (by (repeat (first | exact In.head | apply In.tail))) _ _ Tryd.underlying54 rfl size54 (by (first | rfl | assumption | omega | (simp only [nums_length]; omega) | (simp [nums_length, zs]; done) | (simp [nums_length, zs]; omega))) ?_)
    | ((with_reducible refine gate_store (t := 54) (p := 2) rfl ?_); refine l_storeW rfl H 54 _ _ rfl _ rfl _ rfl (by (repeat (first | exact In.head | apply In.tail))) _ size54 (by (first | rfl | assumption | omega | (simp only [nums_length]; omega) | (simp [nums_length, zs]; done) | (simp [nums_length, zs]; omega))) (by (first | rfl | assumption | omega | (simp only [nums_length]; omega) | (simp [nums_length, zs]; done) | (simp [nums_length, zs]; omega))) (by (first | exact nums_one | assumption | (intro u hu; simp at hu; subst hu; rfl) | (intro u hu; simp at hu; rcases hu with rfl | rfl | rfl | rfl | rfl | rfl | rfl <;> rfl) | (intro u hu; simp at hu; rcases hu with rfl | rfl | rfl | rfl <;> rfl) | (intro u hu; simp at hu; rcases hu with rfl | rfl | rfl <;> rfl) | (intro u hu; simp at hu; rcases hu with rfl | rfl <;> rfl))) ?_; clear H; intro W H)
                | (go_at_call 38; (with_reducible refine (FR _).mono ?_); rintro e W ⟨rfl, hb⟩; replace H := H.to hb; clear hb))
                refine bodyPost_ret (results_ct (p := 2) (ty := 54) rfl _ _ g2 54 _ (0, 0) _ rfl (H.heap (.tail .head)) Tryd.underlying54 rfl size54) rfl ?_
                exact ⟨rfl, H.below⟩
              | false =>
                rw [if_pos rfl] at d1
                subst d1
                rw [if_neg (by decide)] at hv
                subst hv
                go_wp2_with (first
    | ((with_reducible refine gate_dst (N := 82) rfl ?_); refine l_loadA rfl H 54 _ rfl _ rfl (by (repeat (first | exact In.head | apply In.tail))) _ _ Tryd.underlying54 rfl size54 (by (first | rfl | assumption | omega | (simp only [nums_length]; omega) | (simp [nums_length, zs]; done) | (simp [nums_length, zs]; omega))) ?_)
    | ((with_reducible refine gate_store (t := 54) (p := 2) rfl ?_); refine l_storeW rfl H 54 _ _ rfl _ rfl _ rfl (by (repeat (first | exact In.head | apply In.tail))) _ size54 (by (first | rfl | assumption | omega | (simp only [nums_length]; omega) | (simp [nums_length, zs]; done) | (simp [nums_length, zs]; omega))) (by (first | rfl | assumption | omega | (simp only [nums_length]; omega) | (simp [nums_length, zs]; done) | (simp [nums_length, zs]; omega))) (by (first | exact nums_one | assumption | (intro u hu; simp at hu; subst hu; rfl) | (intro u hu; simp at hu; rcases hu with rfl | rfl | rfl | rfl | rfl | rfl | rfl <;> rfl) | (intro u hu; simp at hu; rcases hu with rfl | rfl | rfl | rfl <;> rfl) | (intro u hu; simp at hu; rcases hu with rfl | rfl | rfl <;> rfl) | (intro u hu; simp at hu; rcases hu with rfl | rfl <;> rfl))) ?_; clear H; intro W H)
                | (go_at_call 38; (with_reducible refine (FR _).mono ?_); rintro e W ⟨rfl, hb⟩; replace H := H.to hb; clear hb))
                refine bodyPost_ret (results_ct (p := 2) (ty := 54) rfl _ _ g2 54 _ (0, 0) _ rfl (H.heap (.tail .head)) Tryd.underlying54 rfl size54) rfl ?_
                exact ⟨rfl, H.below⟩
        · rw [if_pos c5] at d1
          have q5 : (n37 == (sm : Int)) = false := by simp [c5]
          have q5' : (n37 != (sm : Int)) = true := by simp [c5]
          subst d1
          rw [if_neg (by decide)] at hv
          subst hv
          clear c5
          go_wp2
          refine start_ (n := 7) (S := Own _ _ _) (ds := [4]) #[false, false, false, false, false, false, false] (by kernel_rfl) rfl rfl H.drew (fun hHeld => ?_)
          replace H := H.drew
          generalize World.drew _ = W at H hHeld ⊢
          refine take_run (i := 0) (N := some 49) (a' := ?_) #[true, false, false, false, false, false, false] rfl rfl (by kernel_rfl) (fun _ _ _ _ h => h) (by rfl) hHeld (.slice (some ⟨g1, 37, none⟩) 4 27) (fun X HX => x_arr_lohi' _ _ _ rfl 0 rfl Tryd.underlying50 size5 37 41 rfl rfl (by decide) (by decide) (by decide) X 37 4 27 rfl rfl rfl) ?_ ?_
          rotate_left
          · simp only [Act.put, List.setIfInBounds_toArray, List.set_cons_zero, List.set_cons_succ, i64_w, i32_w]
            rfl
          refine take_run (i := 2) (N := some 51) (a' := ?_) #[true, false, true, false, false, false, false] rfl rfl (by kernel_rfl) (fun _ _ _ _ h => h) (by rfl) hHeld (.slice (some ⟨g1, 0, none⟩) 37 64) (fun X HX => x_arr_hi _ _ rfl 0 rfl Tryd.underlying50 size5 37 rfl (by decide) (by decide) X) ?_ ?_
          rotate_left
          · simp only [Act.put, List.setIfInBounds_toArray, List.set_cons_zero, List.set_cons_succ, i64_w, i32_w]
            rfl
          refine one_ (i := 1) (N := some 50) #[true, true, true, false, false, false, false] rfl rfl (by kernel_rfl) (by decide) (fun K hK => ?_)
          refine callK_ (G37 H (some ⟨g1, 37, none⟩) 4 27 (H.C (by first|exact .tail .head|exact .tail (.tail .head)|exact .head) 37 4 (by omega) (by decide)) (by decide) (by decide)) Tryd.func59 (by kernel_rfl) rfl (by rfl) rfl rfl (by (try simp only [List.map_toArray, List.map_cons, List.map_nil]); first | done | rfl) ?_
          rintro e W ⟨rfl, H'⟩
          refine ⟨_, rfl, ?_⟩
          replace H := H'
          clear H'
          rw [e37]
          refine hK.out _ _ ?_ (fun hHeld => ?_)
          · first | trivial | exact H | exact H.del .head | exact (H.del .head).del .head
          clear hK K
          refine norm_ (a' := ?_) ?_ ?_
          rotate_left
          · show Act.put _ (some 50) _ = _
            simp only [Act.put, List.setIfInBounds_toArray, List.set_cons_zero, List.set_cons_succ, i64_w, i32_w]
            rfl
          refine one_ (i := 3) (N := some 52) #[true, true, true, true, false, false, false] rfl rfl (by kernel_rfl) (by decide) (fun K hK => ?_)
          refine callK_ (OF H (some ⟨g1, 0, none⟩) 37 64 (hC37 H (by first|exact .tail .head|exact .head)) (by decide) (by decide)) Tryd.func17 (by kernel_rfl) rfl (by rfl) rfl rfl (by (try simp only [List.map_toArray, List.map_cons, List.map_nil]); first | done | rfl) ?_
          rintro e W ⟨rfl, H'⟩
          refine ⟨_, rfl, ?_⟩
          replace H := H'
          clear H'
          refine hK.out _ _ ?_ (fun hHeld => ?_)
          · first | trivial | exact H | exact H.del .head | exact (H.del .head).del .head
          clear hK K
          refine norm_ (a' := ?_) ?_ ?_
          rotate_left
          · show Act.put _ (some 52) _ = _
            simp only [Act.put, List.setIfInBounds_toArray, List.set_cons_zero, List.set_cons_succ, i64_w, i32_w]
            rfl
          refine last_ (i := 4) (N := some 53) #[true, true, true, true, true, false, false] rfl rfl (by kernel_rfl) (by decide) (fun K hK => ?_)
          refine callK_ (MF H) Tryd.func21 (by kernel_rfl) rfl (by rfl) rfl rfl (by (try simp only [List.map_toArray, List.map_cons, List.map_nil]); first | done | rfl) ?_
          rintro e W ⟨rfl, H'⟩
          refine ⟨_, rfl, ?_⟩
          replace H := H'
          clear H'
          refine hK.out _ _ ?_
          clear hK K
          refine norm_ (a' := ?_) ?_ ?_
          rotate_left
          · show Act.put _ (some 53) _ = _
            simp only [Act.put, List.setIfInBounds_toArray, List.set_cons_zero, List.set_cons_succ, i64_w, i32_w]
            rfl
          refine pure_ (i := 5) (N := some 54) (v := ?_) (a' := ?_) #[true, true, true, true, true, true, false] rfl rfl (by kernel_rfl) (fun _ _ _ h => h) (Or.inl ⟨by rfl, ?_⟩) ?_ ?_
          rotate_left
          · intro w'
            go_simp
            with_reducible rfl
          rotate_left
          · simp only [Act.put, List.setIfInBounds_toArray, List.set_cons_zero, List.set_cons_succ, i64_w, i32_w]
            rfl
          refine pure_ (i := 6) (N := some 55) (v := ?_) (a' := ?_) #[true, true, true, true, true, true, true] rfl rfl (by kernel_rfl) (fun _ _ _ h => h) (Or.inl ⟨by rfl, ?_⟩) ?_ ?_
          rotate_left
          · intro w'
            go_simp
            with_reducible rfl
          rotate_left
          · simp only [Act.put, List.setIfInBounds_toArray, List.set_cons_zero, List.set_cons_succ, i64_w, i32_w]
            rfl
          refine done_ (by kernel_rfl) ?_
          clear hHeld
          go_wp2_with (first
    | ((with_reducible refine gate_store (t := 54) (p := 2) rfl ?_); refine l_storeW rfl H 54 _ _ rfl _ rfl _ rfl (by (repeat (first | exact In.head | apply In.tail))) _ size54 (by (first | rfl | assumption | omega | (simp only [nums_length]; omega) | (simp [nums_length, zs]; done) | (simp [nums_length, zs]; omega))) (by (first | rfl | assumption | omega | (simp only [nums_length]; omega) | (simp [nums_length, zs]; done) | (simp [nums_length, zs]; omega))) (by (first | exact nums_one | assumption | (intro u hu; simp at hu; subst hu; rfl) | (intro u hu; simp at hu; rcases hu with rfl | rfl | rfl | rfl | rfl | rfl | rfl <;> rfl) | (intro u hu; simp at hu; rcases hu with rfl | rfl | rfl | rfl <;> rfl) | (intro u hu; simp at hu; rcases hu with rfl | rfl | rfl <;> rfl) | (intro u hu; simp at hu; rcases hu with rfl | rfl <;> rfl))) ?_; clear H; intro W H))
          refine bodyPost_ret (results_ct (p := 2) (ty := 54) rfl _ _ g2 54 _ (0, 0) _ rfl (H.heap .head) Tryd.underlying54 rfl size54) rfl ?_
          exact ⟨rfl, H.below⟩
end Go.Proofs.YthhbilkmdfdfiaaDoor.O
