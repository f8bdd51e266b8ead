/- strandlinelaw03.CrcJoins. -/
import Derived.Test.YthhbilkmdfdfiaaDoorCrcJoinW
set_option linter.unusedVariables false
set_option linter.unusedSimpArgs false
namespace Go.Proofs.YthhbilkmdfdfiaaDoor.O
open Go.RowKit Go.Proofs.YthhbilkmdfdfiaaDoorW.PrintWords Go.Proofs.YthhbilkmdfdfiaaDoorW.PrintLast Go.Proofs.YthhbilkmdfdfiaaDoorW.PrintMore Go.Proofs.YthhbilkmdfdfiaaDoor.F Go.Proofs.YthhbilkmdfdfiaaDoor.Plain Go.Proofs.YthhbilkmdfdfiaaDoor.CrcMath
theorem b8_of_wf {xs : List Int} (h : ∀ x ∈ xs, (Lit.int .u8 x).wf = true) : ∀ c ∈ xs, 0 ≤ c ∧ c ≤ 255 := fun c hc => by
  have := h c hc
  simp [Lit.wf, IntKind.min, IntKind.max, IntKind.signed, IntKind.bits] at this
  omega
set_option maxRecDepth 100000 in
set_option maxHeartbeats 8000000 in
theorem crcJoins_law (x n : Int) (a b : List Int) (A B : Option Addr) (ca cb : Nat) (w : World) (hx : 0 ≤ x ∧ x ≤ 4294967295) (hCa : (Kd.int .u8).C w A a.length a) (hca : a.length ≤ ca) (hba : ∀ c ∈ a, 0 ≤ c ∧ c ≤ 255) (hCb : (Kd.int .u8).C w B b.length b) (hcb : b.length ≤ cb) (hbb : ∀ c ∈ b, 0 ≤ c ∧ c ≤ 255) (hH : Half w) :
    Calls Tryd.prog 5 #[.int .u32 x, .int .i64 n, .agg #[.slice A a.length ca, .slice B b.length cb]] w fun e W => e = .returned (.bool true) ∧ Below w.heap.size w W := by
  have H := Own.start w
  obtain ⟨y, rfl⟩ := Int.eq_ofNat_of_zero_le hx.1
  have AW := fun W h => strandlinelaw03_awake.calls true W rfl h
  have four : decide ((a.length : Int) > 2000) = true ∨ (decide ((a.length : Int) > 2000) = false ∧ decide ((b.length : Int) > 2000) = true) ∨ (decide ((a.length : Int) > 2000) = false ∧ decide ((b.length : Int) > 2000) = false ∧ decide (n > 2000) = true) ∨ (decide ((a.length : Int) > 2000) = false ∧ decide ((b.length : Int) > 2000) = false ∧ decide (n > 2000) = false) := by
    cases decide ((a.length : Int) > 2000) <;> cases decide ((b.length : Int) > 2000) <;> cases decide (n > 2000) <;> simp
  rcases four with q1 | ⟨q1, q2⟩ | ⟨q1, q2, q3⟩ | ⟨q1, q2, q3⟩
  · clear hCa hca hba hCb hcb hbb
    generalize a.length = na at *
    generalize b.length = nb at *
    go_enter Tryd.func5, Tryd.ntmps5
    go_wp2_with (first
    | ((with_reducible refine gate_dst (N := 5) rfl ?_); refine l_boxA rfl H 32 _ rfl _ rfl ?_; clear H; intro g5 W H))
    refine start_ (n := 6) (S := Own _ _ _) (ds := []) #[false, false, false, false, false, false] (by kernel_rfl) rfl rfl H.drew (fun hHeld => ?_)
    replace H := H.drew
    generalize World.drew _ = W at H hHeld ⊢
    refine pure_ (i := 0) (N := some 10) (v := ?_) (a' := ?_) #[true, false, false, false, false, false] rfl rfl (by kernel_rfl) (fun _ _ _ h => h) (Or.inl ⟨by rfl, ?_⟩) ?_ ?_
    rotate_left
    · intro w'
      go_simp
      with_reducible rfl
    rotate_left
    · simp only [Act.put, List.setIfInBounds_toArray, List.set_cons_zero, List.set_cons_succ, i64_w, i32_w]
      rfl
    refine pure_ (i := 2) (N := some 12) (v := ?_) (a' := ?_) #[true, false, true, false, false, false] rfl rfl (by kernel_rfl) (fun _ _ _ h => h) (Or.inl ⟨by rfl, ?_⟩) ?_ ?_
    rotate_left
    · intro w'
      go_simp
      with_reducible rfl
    rotate_left
    · simp only [Act.put, List.setIfInBounds_toArray, List.set_cons_zero, List.set_cons_succ, i64_w, i32_w]
      rfl
    refine take_load1 (i := 1) (N := some 11) (a' := ?_) #[true, true, true, false, false, false] rfl rfl (by kernel_rfl) (fun _ _ _ _ h => h) (by rfl) hHeld 23 _ rfl _ _ rfl (by (repeat (first | exact In.head | apply In.tail))) _ Tryd.underlying23 rfl _ (by first | rfl | assumption | exact nums_at _ (by omega)) ?_ ?_
    rotate_left
    · simp only [Act.put, List.setIfInBounds_toArray, List.set_cons_zero, List.set_cons_succ, i64_w, i32_w]
      rfl
    refine pure_ (i := 4) (N := some 7) (v := ?_) (a' := ?_) #[true, true, true, false, true, false] rfl rfl (by kernel_rfl) (fun _ _ _ h => h) (Or.inl ⟨by rfl, ?_⟩) ?_ ?_
    rotate_left
    · intro w'
      go_simp
      with_reducible rfl
    rotate_left
    · simp only [Act.put, List.setIfInBounds_toArray, List.set_cons_zero, List.set_cons_succ, i64_w, i32_w]
      rfl
    refine one_ (i := 3) (N := some 13) #[true, true, true, true, true, false] rfl rfl (by kernel_rfl) (by decide) (fun K hK => ?_)
    refine wanted_ rfl ?_
    refine w_load1 H 23 _ rfl _ _ rfl (by (repeat (first | exact In.head | apply In.tail))) _ Tryd.underlying23 rfl _ (by first | rfl | assumption | exact nums_at _ (by omega)) ?_
    refine hK.out _ _ ?_ (fun hHeld => ?_)
    · first | trivial | exact H | exact H.del .head | exact (H.del .head).del .head
    clear hK K
    refine norm_ (a' := ?_) ?_ ?_
    rotate_left
    · show Act.put _ (some 13) _ = _
      simp only [Act.put, List.setIfInBounds_toArray, List.set_cons_zero, List.set_cons_succ, i64_w, i32_w]
      rfl
    refine pure_ (i := 5) (N := some 8) (v := ?_) (a' := ?_) #[true, true, true, true, true, true] rfl rfl (by kernel_rfl) (fun _ _ _ h => h) (Or.inl ⟨by rfl, ?_⟩) ?_ ?_
    rotate_left
    · intro w'
      go_simp
      with_reducible rfl
    rotate_left
    · simp only [Act.put, List.setIfInBounds_toArray, List.set_cons_zero, List.set_cons_succ, i64_w, i32_w]
      rfl
    refine done_ (by kernel_rfl) ?_
    clear hHeld
    go_wp2_with (first
    | (go_at_call 15; (with_reducible refine (AW _ (hH.below H.below)).mono ?_); rintro e W ⟨rfl, hb⟩; replace H := H.to hb; clear hb))
    go_ret
    exact ⟨rfl, H.below⟩
  · clear hCa hca hba hCb hcb hbb
    generalize a.length = na at *
    generalize b.length = nb at *
    go_enter Tryd.func5, Tryd.ntmps5
    go_wp2_with (first
    | ((with_reducible refine gate_dst (N := 5) rfl ?_); refine l_boxA rfl H 32 _ rfl _ rfl ?_; clear H; intro g5 W H))
    refine start_ (n := 6) (S := Own _ _ _) (ds := []) #[false, false, false, false, false, false] (by kernel_rfl) rfl rfl H.drew (fun hHeld => ?_)
    replace H := H.drew
    generalize World.drew _ = W at H hHeld ⊢
    refine pure_ (i := 0) (N := some 10) (v := ?_) (a' := ?_) #[true, false, false, false, false, false] rfl rfl (by kernel_rfl) (fun _ _ _ h => h) (Or.inl ⟨by rfl, ?_⟩) ?_ ?_
    rotate_left
    · intro w'
      go_simp
      with_reducible rfl
    rotate_left
    · simp only [Act.put, List.setIfInBounds_toArray, List.set_cons_zero, List.set_cons_succ, i64_w, i32_w]
      rfl
    refine pure_ (i := 2) (N := some 12) (v := ?_) (a' := ?_) #[true, false, true, false, false, false] rfl rfl (by kernel_rfl) (fun _ _ _ h => h) (Or.inl ⟨by rfl, ?_⟩) ?_ ?_
    rotate_left
    · intro w'
      go_simp
      with_reducible rfl
    rotate_left
    · simp only [Act.put, List.setIfInBounds_toArray, List.set_cons_zero, List.set_cons_succ, i64_w, i32_w]
      rfl
    refine take_load1 (i := 1) (N := some 11) (a' := ?_) #[true, true, true, false, false, false] rfl rfl (by kernel_rfl) (fun _ _ _ _ h => h) (by rfl) hHeld 23 _ rfl _ _ rfl (by (repeat (first | exact In.head | apply In.tail))) _ Tryd.underlying23 rfl _ (by first | rfl | assumption | exact nums_at _ (by omega)) ?_ ?_
    rotate_left
    · simp only [Act.put, List.setIfInBounds_toArray, List.set_cons_zero, List.set_cons_succ, i64_w, i32_w]
      rfl
    refine pure_ (i := 4) (N := some 7) (v := ?_) (a' := ?_) #[true, true, true, false, true, false] rfl rfl (by kernel_rfl) (fun _ _ _ h => h) (Or.inl ⟨by rfl, ?_⟩) ?_ ?_
    rotate_left
    · intro w'
      go_simp
      with_reducible rfl
    rotate_left
    · simp only [Act.put, List.setIfInBounds_toArray, List.set_cons_zero, List.set_cons_succ, i64_w, i32_w]
      rfl
    refine one_ (i := 3) (N := some 13) #[true, true, true, true, true, false] rfl rfl (by kernel_rfl) (by decide) (fun K hK => ?_)
    refine wanted_ rfl ?_
    refine w_load1 H 23 _ rfl _ _ rfl (by (repeat (first | exact In.head | apply In.tail))) _ Tryd.underlying23 rfl _ (by first | rfl | assumption | exact nums_at _ (by omega)) ?_
    refine hK.out _ _ ?_ (fun hHeld => ?_)
    · first | trivial | exact H | exact H.del .head | exact (H.del .head).del .head
    clear hK K
    refine norm_ (a' := ?_) ?_ ?_
    rotate_left
    · show Act.put _ (some 13) _ = _
      simp only [Act.put, List.setIfInBounds_toArray, List.set_cons_zero, List.set_cons_succ, i64_w, i32_w]
      rfl
    refine pure_ (i := 5) (N := some 8) (v := ?_) (a' := ?_) #[true, true, true, true, true, true] rfl rfl (by kernel_rfl) (fun _ _ _ h => h) (Or.inl ⟨by rfl, ?_⟩) ?_ ?_
    rotate_left
    · intro w'
      go_simp
      with_reducible rfl
    rotate_left
    · simp only [Act.put, List.setIfInBounds_toArray, List.set_cons_zero, List.set_cons_succ, i64_w, i32_w]
      rfl
    refine done_ (by kernel_rfl) ?_
    clear hHeld
    go_wp2_with (first
    | (go_at_call 15; (with_reducible refine (AW _ (hH.below H.below)).mono ?_); rintro e W ⟨rfl, hb⟩; replace H := H.to hb; clear hb))
    go_ret
    exact ⟨rfl, H.below⟩
  · clear hCa hca hba hCb hcb hbb
    generalize a.length = na at *
    generalize b.length = nb at *
    go_enter Tryd.func5, Tryd.ntmps5
    go_wp2_with (first
    | ((with_reducible refine gate_dst (N := 5) rfl ?_); refine l_boxA rfl H 32 _ rfl _ rfl ?_; clear H; intro g5 W H))
    refine start_ (n := 6) (S := Own _ _ _) (ds := []) #[false, false, false, false, false, false] (by kernel_rfl) rfl rfl H.drew (fun hHeld => ?_)
    replace H := H.drew
    generalize World.drew _ = W at H hHeld ⊢
    refine pure_ (i := 0) (N := some 10) (v := ?_) (a' := ?_) #[true, false, false, false, false, false] rfl rfl (by kernel_rfl) (fun _ _ _ h => h) (Or.inl ⟨by rfl, ?_⟩) ?_ ?_
    rotate_left
    · intro w'
      go_simp
      with_reducible rfl
    rotate_left
    · simp only [Act.put, List.setIfInBounds_toArray, List.set_cons_zero, List.set_cons_succ, i64_w, i32_w]
      rfl
    refine pure_ (i := 2) (N := some 12) (v := ?_) (a' := ?_) #[true, false, true, false, false, false] rfl rfl (by kernel_rfl) (fun _ _ _ h => h) (Or.inl ⟨by rfl, ?_⟩) ?_ ?_
    rotate_left
    · intro w'
      go_simp
      with_reducible rfl
    rotate_left
    · simp only [Act.put, List.setIfInBounds_toArray, List.set_cons_zero, List.set_cons_succ, i64_w, i32_w]
      rfl
    refine take_load1 (i := 1) (N := some 11) (a' := ?_) #[true, true, true, false, false, false] rfl rfl (by kernel_rfl) (fun _ _ _ _ h => h) (by rfl) hHeld 23 _ rfl _ _ rfl (by (repeat (first | exact In.head | apply In.tail))) _ Tryd.underlying23 rfl _ (by first | rfl | assumption | exact nums_at _ (by omega)) ?_ ?_
    rotate_left
    · simp only [Act.put, List.setIfInBounds_toArray, List.set_cons_zero, List.set_cons_succ, i64_w, i32_w]
      rfl
    refine pure_ (i := 4) (N := some 7) (v := ?_) (a' := ?_) #[true, true, true, false, true, false] rfl rfl (by kernel_rfl) (fun _ _ _ h => h) (Or.inl ⟨by rfl, ?_⟩) ?_ ?_
    rotate_left
    · intro w'
      go_simp
      with_reducible rfl
    rotate_left
    · simp only [Act.put, List.setIfInBounds_toArray, List.set_cons_zero, List.set_cons_succ, i64_w, i32_w]
      rfl
    refine one_ (i := 3) (N := some 13) #[true, true, true, true, true, false] rfl rfl (by kernel_rfl) (by decide) (fun K hK => ?_)
    refine wanted_ rfl ?_
    refine w_load1 H 23 _ rfl _ _ rfl (by (repeat (first | exact In.head | apply In.tail))) _ Tryd.underlying23 rfl _ (by first | rfl | assumption | exact nums_at _ (by omega)) ?_
    refine hK.out _ _ ?_ (fun hHeld => ?_)
    · first | trivial | exact H | exact H.del .head | exact (H.del .head).del .head
    clear hK K
    refine norm_ (a' := ?_) ?_ ?_
    rotate_left
    · show Act.put _ (some 13) _ = _
      simp only [Act.put, List.setIfInBounds_toArray, List.set_cons_zero, List.set_cons_succ, i64_w, i32_w]
      rfl
    refine pure_ (i := 5) (N := some 8) (v := ?_) (a' := ?_) #[true, true, true, true, true, true] rfl rfl (by kernel_rfl) (fun _ _ _ h => h) (Or.inl ⟨by rfl, ?_⟩) ?_ ?_
    rotate_left
    · intro w'
      go_simp
      with_reducible rfl
    rotate_left
    · simp only [Act.put, List.setIfInBounds_toArray, List.set_cons_zero, List.set_cons_succ, i64_w, i32_w]
      rfl
    refine done_ (by kernel_rfl) ?_
    clear hHeld
    go_wp2_with (first
    | (go_at_call 15; (with_reducible refine (AW _ (hH.below H.below)).mono ?_); rintro e W ⟨rfl, hb⟩; replace H := H.to hb; clear hb))
    go_ret
    exact ⟨rfl, H.below⟩
  · have n1 : a.length ≤ 2000 := by have := of_decide_eq_false q1; omega
    have n2 : b.length ≤ 2000 := by have := of_decide_eq_false q2; omega
    have n3 : n ≤ 2000 := by have := of_decide_eq_false q3; omega
    have hab : (∀ c ∈ a ++ b, 0 ≤ c ∧ c ≤ 255) := fun c hc => (List.mem_append.1 hc).elim (hba c) (hbb c)
    have SC := fun W h => shift_calls y n (by omega) (by omega) W h
    have R1 : 0 < n → ∀ W, Calls Tryd.prog 24 #[.int .u32 (y : Int), .int .i64 n] W fun e w' => e = .returned (.int .u32 ((itr (8 * n.toNat) y : Nat) : Int)) ∧ Below W.heap.size W w' := fun hp W => by
      have h := rshift_eq y n.toNat (by omega) (by omega)
      rw [show (n.toNat : Int) = n by omega] at h
      refine (strandlineref03_Shift.calls _ _ _ _ W h).mono ?_
      rintro e W' ⟨rfl, hd⟩
      exact ⟨rfl, hd.below⟩
    have R0 : ¬ 0 < n → ∀ W, Calls Tryd.prog 24 #[.int .u32 (y : Int), .int .i64 0] W fun e w' => e = .returned (.int .u32 ((itr (8 * n.toNat) y : Nat) : Int)) ∧ Below W.heap.size W w' := fun hp W => by
      have h := rshift_eq y 0 (by omega) (by omega)
      rw [show n.toNat = 0 by omega]
      refine (strandlineref03_Shift.calls _ _ _ _ W h).mono ?_
      rintro e W' ⟨rfl, hd⟩
      exact ⟨rfl, hd.below⟩
    have JC := fun W h => join_calls' (crcOf a) (crcOf b) (b.length : Int) (crcOf_lt hba) (crcOf_lt hbb) (by omega) W h
    rw [Int.toNat_natCast, ← crc_join a b hba] at JC
    have OA := fun A c W hC hc h => of_calls A c a W hC hc hba h
    have OB := fun A c W hC hc h => of_calls A c b W hC hc hbb h
    rw [moreI_crc hba] at OA
    rw [moreI_crc hbb] at OB
    have OX := fun A c W hC hc => strandlineref03_Of.calls _ A c (a ++ b) _ W hC hc (rof_eq (a ++ b) hab (by rw [List.length_append]; omega) 0)
    rw [moreI_crc hab, List.length_append] at OX
    generalize 0 + 10 * (a.length + b.length) + 1 = kf at OX
    generalize crcOf (a ++ b) = cab at *
    generalize crcOf a = sa at *
    generalize crcOf b = sb at *
    generalize itr (8 * n.toNat) y = sy at *
    have hla : (nums .u8 a).length = a.length * 1 := by rw [nums_length, Nat.mul_one]
    have hlb : (nums .u8 b).length = b.length * 1 := by rw [nums_length, Nat.mul_one]
    have hab' := nums_app (k := .u8) a b
    generalize hna : a.length = na at *
    generalize hnb : b.length = nb at *
    clear hba hbb hab
    go_enter Tryd.func5, Tryd.ntmps5
    go_wp2_with (first
    | ((with_reducible refine gate_dst (N := 5) rfl ?_); refine l_boxA rfl H 32 _ rfl _ rfl ?_; clear H; intro g5 W H))
    refine start_ (n := 6) (S := Own _ _ _) (ds := []) #[false, false, false, false, false, false] (by kernel_rfl) rfl rfl H.drew (fun hHeld => ?_)
    replace H := H.drew
    generalize World.drew _ = W at H hHeld ⊢
    refine pure_ (i := 0) (N := some 10) (v := ?_) (a' := ?_) #[true, false, false, false, false, false] rfl rfl (by kernel_rfl) (fun _ _ _ h => h) (Or.inl ⟨by rfl, ?_⟩) ?_ ?_
    rotate_left
    · intro w'
      go_simp
      with_reducible rfl
    rotate_left
    · simp only [Act.put, List.setIfInBounds_toArray, List.set_cons_zero, List.set_cons_succ, i64_w, i32_w]
      rfl
    refine pure_ (i := 2) (N := some 12) (v := ?_) (a' := ?_) #[true, false, true, false, false, false] rfl rfl (by kernel_rfl) (fun _ _ _ h => h) (Or.inl ⟨by rfl, ?_⟩) ?_ ?_
    rotate_left
    · intro w'
      go_simp
      with_reducible rfl
    rotate_left
    · simp only [Act.put, List.setIfInBounds_toArray, List.set_cons_zero, List.set_cons_succ, i64_w, i32_w]
      rfl
    refine take_load1 (i := 1) (N := some 11) (a' := ?_) #[true, true, true, false, false, false] rfl rfl (by kernel_rfl) (fun _ _ _ _ h => h) (by rfl) hHeld 23 _ rfl _ _ rfl (by (repeat (first | exact In.head | apply In.tail))) _ Tryd.underlying23 rfl _ (by first | rfl | assumption | exact nums_at _ (by omega)) ?_ ?_
    rotate_left
    · simp only [Act.put, List.setIfInBounds_toArray, List.set_cons_zero, List.set_cons_succ, i64_w, i32_w]
      rfl
    refine pure_ (i := 4) (N := some 7) (v := ?_) (a' := ?_) #[true, true, true, false, true, false] rfl rfl (by kernel_rfl) (fun _ _ _ h => h) (Or.inl ⟨by rfl, ?_⟩) ?_ ?_
    rotate_left
    · intro w'
      go_simp
      with_reducible rfl
    rotate_left
    · simp only [Act.put, List.setIfInBounds_toArray, List.set_cons_zero, List.set_cons_succ, i64_w, i32_w]
      rfl
    refine one_ (i := 3) (N := some 13) #[true, true, true, true, true, false] rfl rfl (by kernel_rfl) (by decide) (fun K hK => ?_)
    refine wanted_ rfl ?_
    refine w_load1 H 23 _ rfl _ _ rfl (by (repeat (first | exact In.head | apply In.tail))) _ Tryd.underlying23 rfl _ (by first | rfl | assumption | exact nums_at _ (by omega)) ?_
    refine hK.out _ _ ?_ (fun hHeld => ?_)
    · first | trivial | exact H | exact H.del .head | exact (H.del .head).del .head
    clear hK K
    refine norm_ (a' := ?_) ?_ ?_
    rotate_left
    · show Act.put _ (some 13) _ = _
      simp only [Act.put, List.setIfInBounds_toArray, List.set_cons_zero, List.set_cons_succ, i64_w, i32_w]
      rfl
    refine pure_ (i := 5) (N := some 8) (v := ?_) (a' := ?_) #[true, true, true, true, true, true] rfl rfl (by kernel_rfl) (fun _ _ _ h => h) (Or.inl ⟨by rfl, ?_⟩) ?_ ?_
    rotate_left
    · intro w'
      go_simp
      with_reducible rfl
    rotate_left
    · simp only [Act.put, List.setIfInBounds_toArray, List.set_cons_zero, List.set_cons_succ, i64_w, i32_w]
      rfl
    refine done_ (by kernel_rfl) ?_
    clear hHeld
    by_cases hp : 0 < n
    · have RS := R1 hp
      go_wp2_with (first
    | ((with_reducible refine gate_dst (N := 27) rfl ?_); refine l_build0 rfl H 23 5 rfl Tryd.underlying23 (by kernel_rfl) ?_; clear H; intro g27 W H)
    | ((with_reducible refine gate_dst (N := 29) rfl ?_); refine l_append rfl H _ _ 23 5 rfl Tryd.underlying23 _ _ _ inf5 rfl (by decide) (by decide) _ 0 [] rfl .head A na ca (nums .u8 a) rfl hla (fun hq => (Rd.of_C (Kd.C_below hCa H.below)) (by rw [hla, Nat.mul_one]; exact hq)) nums_one (by omega) ?_; clear H; intro v29 W H; obtain ⟨A29, c29, e29⟩ := H.row_slice .head; rw [Nat.zero_add] at e29 H; rw [List.nil_append] at H; subst e29)
    | ((with_reducible refine gate_dst (N := 31) rfl ?_); refine l_append rfl H _ _ 23 5 rfl Tryd.underlying23 _ _ _ inf5 rfl (by decide) (by decide) _ na (nums .u8 a) rfl .head B nb cb (nums .u8 b) rfl hlb (fun hq => (Rd.of_C (Kd.C_below hCb H.below)) (by rw [hlb, Nat.mul_one]; exact hq)) nums_one (by omega) ?_; clear H; intro v31 W H; obtain ⟨A31, c31, rfl⟩ := H.row_slice .head; rw [hab'] at H)
    | (go_at_call 23; (with_reducible refine (SC _ (hH.below H.below)).mono ?_); rintro e W ⟨rfl, hb⟩; replace H := H.to hb; clear hb)
    | (go_at_call 24; (with_reducible refine (RS _).mono ?_); rintro e W ⟨rfl, hb⟩; replace H := H.to hb; clear hb)
    | (go_at_call 16; (with_reducible refine (OA _ _ _ (Kd.C_below hCa H.below) hca (hH.below H.below)).mono ?_); rintro e W ⟨rfl, hd⟩; replace H := H.to hd.below; clear hd)
    | (go_at_call 16; (with_reducible refine (OB _ _ _ (Kd.C_below hCb H.below) hcb (hH.below H.below)).mono ?_); rintro e W ⟨rfl, hd⟩; replace H := H.to hd.below; clear hd)
    | (go_at_call 25; (with_reducible refine (JC _ (hH.below H.below)).mono ?_); rintro e W ⟨rfl, hb⟩; replace H := H.to hb; clear hb)
    | (go_at_call 17; (with_reducible refine (OX _ _ _ (H.rowC .head).2.2 (H.rowC .head).1).mono ?_); rintro e W ⟨rfl, hd⟩; replace H := H.to hd.below; clear hd)
    | (go_at_call 15; (with_reducible refine (AW _ (hH.below H.below)).mono ?_); rintro e W ⟨rfl, hb⟩; replace H := H.to hb; clear hb))
      go_ret
      exact ⟨rfl, H.below⟩
    · have RS := R0 (Int.not_lt.1 hp)
      go_wp2_with (first
    | ((with_reducible refine gate_dst (N := 27) rfl ?_); refine l_build0 rfl H 23 5 rfl Tryd.underlying23 (by kernel_rfl) ?_; clear H; intro g27 W H)
    | ((with_reducible refine gate_dst (N := 29) rfl ?_); refine l_append rfl H _ _ 23 5 rfl Tryd.underlying23 _ _ _ inf5 rfl (by decide) (by decide) _ 0 [] rfl .head A na ca (nums .u8 a) rfl hla (fun hq => (Rd.of_C (Kd.C_below hCa H.below)) (by rw [hla, Nat.mul_one]; exact hq)) nums_one (by omega) ?_; clear H; intro v29 W H; obtain ⟨A29, c29, e29⟩ := H.row_slice .head; rw [Nat.zero_add] at e29 H; rw [List.nil_append] at H; subst e29)
    | ((with_reducible refine gate_dst (N := 31) rfl ?_); refine l_append rfl H _ _ 23 5 rfl Tryd.underlying23 _ _ _ inf5 rfl (by decide) (by decide) _ na (nums .u8 a) rfl .head B nb cb (nums .u8 b) rfl hlb (fun hq => (Rd.of_C (Kd.C_below hCb H.below)) (by rw [hlb, Nat.mul_one]; exact hq)) nums_one (by omega) ?_; clear H; intro v31 W H; obtain ⟨A31, c31, rfl⟩ := H.row_slice .head; rw [hab'] at H)
    | (go_at_call 23; (with_reducible refine (SC _ (hH.below H.below)).mono ?_); rintro e W ⟨rfl, hb⟩; replace H := H.to hb; clear hb)
    | (go_at_call 24; (with_reducible refine (RS _).mono ?_); rintro e W ⟨rfl, hb⟩; replace H := H.to hb; clear hb)
    | (go_at_call 16; (with_reducible refine (OA _ _ _ (Kd.C_below hCa H.below) hca (hH.below H.below)).mono ?_); rintro e W ⟨rfl, hd⟩; replace H := H.to hd.below; clear hd)
    | (go_at_call 16; (with_reducible refine (OB _ _ _ (Kd.C_below hCb H.below) hcb (hH.below H.below)).mono ?_); rintro e W ⟨rfl, hd⟩; replace H := H.to hd.below; clear hd)
    | (go_at_call 25; (with_reducible refine (JC _ (hH.below H.below)).mono ?_); rintro e W ⟨rfl, hb⟩; replace H := H.to hb; clear hb)
    | (go_at_call 17; (with_reducible refine (OX _ _ _ (H.rowC .head).2.2 (H.rowC .head).1).mono ?_); rintro e W ⟨rfl, hd⟩; replace H := H.to hd.below; clear hd)
    | (go_at_call 15; (with_reducible refine (AW _ (hH.below H.below)).mono ?_); rintro e W ⟨rfl, hb⟩; replace H := H.to hb; clear hb))
      go_ret
      exact ⟨rfl, H.below⟩
end Go.Proofs.YthhbilkmdfdfiaaDoor.O
