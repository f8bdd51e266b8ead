/- header.Right and Encode, by what is owned. -/
import Derived.Test.YthhbilkmdfdfiaaDoorHdrW
set_option linter.unusedVariables false
set_option linter.unusedSimpArgs false
namespace Go.Proofs.YthhbilkmdfdfiaaDoor.O
open Go.RowKit Go.Proofs.YthhbilkmdfdfiaaDoorW.PrintWords Go.Proofs.YthhbilkmdfdfiaaDoorW.PrintLast Go.Proofs.YthhbilkmdfdfiaaDoorW.PrintMore Go.Proofs.YthhbilkmdfdfiaaDoor.F Go.Proofs.YthhbilkmdfdfiaaDoor.F.Nums Go.Proofs.YthhbilkmdfdfiaaDoor.Plain
/-- a header's value -/
abbrev hV (ep seq fi h0 h1 h2 h3 : Int) : Value := .agg #[.int .u64 ep, .int .i64 seq, .int .i64 fi, .int .i64 h0, .int .i64 h1, .int .i64 h2, .int .i64 h3]
def hd4 (h0 h1 h2 h3 : Int) : Nat → Int
  | 0 => h0
  | 1 => h1
  | 2 => h2
  | _ => h3
theorem rightH_heads {ep seq fi h0 h1 h2 h3 : Int} {k : Nat} (hk : k < 4) (h : ¬ (0 ≤ hd4 h0 h1 h2 h3 k ∧ hd4 h0 h1 h2 h3 k < fi)) : rightH ep seq fi h0 h1 h2 h3 = false := by
  unfold rightH
  apply decide_eq_false
  rintro ⟨⟨a0, a1, a2, a3⟩, -⟩
  rcases (show k = 0 ∨ k = 1 ∨ k = 2 ∨ k = 3 by omega) with rfl | rfl | rfl | rfl
  · exact h a0
  · exact h a1
  · exact h a2
  · exact h a3
theorem rightH_rest {ep seq fi h0 h1 h2 h3 : Int} (h : ∀ j, j < 4 → 0 ≤ hd4 h0 h1 h2 h3 j ∧ hd4 h0 h1 h2 h3 j < fi) : rightH ep seq fi h0 h1 h2 h3 = (!(ep == 0) && decide (1 ≤ seq) && decide (seq ≤ 2147483647) && decide (1 ≤ fi) && decide (fi ≤ 2147483647)) := by
  have a0 := h 0 (by decide)
  have a1 := h 1 (by decide)
  have a2 := h 2 (by decide)
  have a3 := h 3 (by decide)
  simp only [hd4] at a0 a1 a2 a3
  rw [Bool.eq_iff_iff, rightH_iff]
  simp
  omega
set_option maxRecDepth 100000 in
set_option maxHeartbeats 8000000 in
theorem right_calls (ep seq fi h0 h1 h2 h3 : Int) (w : World) :
    Calls Tryd.prog 39 #[hV ep seq fi h0 h1 h2 h3] w fun e W => e = .returned (.bool (rightH ep seq fi h0 h1 h2 h3)) ∧ Below w.heap.size w W := by
  have H := Own.start w
  generalize hR : rightH ep seq fi h0 h1 h2 h3 = R
  have HR := Aside0.mk hR
  clear hR
  go_enter Tryd.func39, Tryd.ntmps39
  go_wp2_with (first
    | ((with_reducible refine gate_dst (N := 1) rfl ?_); refine l_boxA rfl H 54 _ rfl _ rfl ?_; clear H; intro g1 W H)
    | ((with_reducible refine gate_dst (N := 6) rfl ?_); refine l_run rfl (.agg #[.int .i64 h0, .int .i64 h1, .int .i64 h2, .int .i64 h3]) (r_loadRdS 52 _ rfl 3 rfl (H.rdB .head 0) 4 _ Tryd.underlying52 rfl size52 (by decide) [.int .i64 h0, .int .i64 h1, .int .i64 h2, .int .i64 h3] rfl rfl) ?_))
  go_loopg [7] 4 (fun gq v7 w' => ∃ k : Nat, v7 = .int .i64 (k : Int) ∧ k + gq = 4 ∧ (∀ j, j < k → 0 ≤ hd4 h0 h1 h2 h3 j ∧ hd4 h0 h1 h2 h3 j < fi) ∧ Own w F0 [.blk g1 54 [.int .u64 ep, .int .i64 seq, .int .i64 fi, .int .i64 h0, .int .i64 h1, .int .i64 h2, .int .i64 h3]] w')
  case atStart => exact ⟨0, rfl, rfl, fun j hj => absurd hj (by omega), H⟩
  case round =>
    clear H
    obtain ⟨k, rfl, hk, hh, H⟩ := hrel
    by_cases ck : k < 4
    · obtain ⟨gk', rfl⟩ : ∃ q, gk = q + 1 := ⟨gk - 1, by omega⟩
      have q0 : ((k : Int) < 4) = True := eq_true (by omega)
      have hv : [Value.int .i64 h0, Value.int .i64 h1, Value.int .i64 h2, Value.int .i64 h3][k]? = some (.int .i64 (hd4 h0 h1 h2 h3 k)) := by
        rcases (show k = 0 ∨ k = 1 ∨ k = 2 ∨ k = 3 by omega) with rfl | rfl | rfl | rfl <;> rfl
      by_cases hr : 0 ≤ hd4 h0 h1 h2 h3 k ∧ hd4 h0 h1 h2 h3 k < fi
      · have hh' : ∀ j, j < k + 1 → 0 ≤ hd4 h0 h1 h2 h3 j ∧ hd4 h0 h1 h2 h3 j < fi := fun j hj => by
          by_cases e : j = k
          · subst e; exact hr
          · exact hh j (by omega)
        have HH := Aside0.mk (And.intro hk hh')
        clear hh hk hh'
        generalize hd4 h0 h1 h2 h3 k = h at hr hv
        have q1 : decide (h < 0) = false := decide_eq_false (Int.not_lt.2 hr.1)
        have q2 : decide (h ≥ fi) = false := decide_eq_false (Int.not_le.2 hr.2)
        clear hr
        go_wp2_with (first
    | ((with_reducible refine gate_dst (N := 15) rfl ?_); refine gate_guard (by rfl) ?_; refine l_load1 rfl H 3 _ rfl _ _ rfl (by (repeat (first | exact In.head | apply In.tail))) _ Tryd.underlying3 rfl _ (by first | rfl | assumption | exact nums_at _ (by omega)) ?_)
    | ((with_reducible refine gate_dst (N := 9) rfl ?_); refine l_run rfl (.int .i64 h) (r_index1 52 _ _ rfl [.int .i64 h0, .int .i64 h1, .int .i64 h2, .int .i64 h3] rfl k rfl Tryd.underlying52 Tryd.underlying3 rfl size3 ck _ hv _) ?_))
        go_roundg gk'
        case measure => have := HH.out.1; omega
        case rel => exact ⟨k + 1, by go_num, by have := HH.out.1; omega, HH.out.2, H⟩
      · have eR : R = false := HR.out.symm.trans (rightH_heads ck hr)
        clear HR
        subst eR
        clear hh hk
        generalize hd4 h0 h1 h2 h3 k = h at hr hv
        by_cases hn : h < 0
        · have q1 : decide (h < 0) = true := decide_eq_true hn
          go_wp2_with (first
    | ((with_reducible refine gate_dst (N := 15) rfl ?_); refine gate_guard (by rfl) ?_; refine l_load1 rfl H 3 _ rfl _ _ rfl (by (repeat (first | exact In.head | apply In.tail))) _ Tryd.underlying3 rfl _ (by first | rfl | assumption | exact nums_at _ (by omega)) ?_)
    | ((with_reducible refine gate_dst (N := 9) rfl ?_); refine l_run rfl (.int .i64 h) (r_index1 52 _ _ rfl [.int .i64 h0, .int .i64 h1, .int .i64 h2, .int .i64 h3] rfl k rfl Tryd.underlying52 Tryd.underlying3 rfl size3 ck _ hv _) ?_))
          go_ret
          exact ⟨rfl, H.below⟩
        · have q1 : decide (h < 0) = false := decide_eq_false hn
          have q2 : decide (h ≥ fi) = true := decide_eq_true (by omega)
          go_wp2_with (first
    | ((with_reducible refine gate_dst (N := 15) rfl ?_); refine gate_guard (by rfl) ?_; refine l_load1 rfl H 3 _ rfl _ _ rfl (by (repeat (first | exact In.head | apply In.tail))) _ Tryd.underlying3 rfl _ (by first | rfl | assumption | exact nums_at _ (by omega)) ?_)
    | ((with_reducible refine gate_dst (N := 9) rfl ?_); refine l_run rfl (.int .i64 h) (r_index1 52 _ _ rfl [.int .i64 h0, .int .i64 h1, .int .i64 h2, .int .i64 h3] rfl k rfl Tryd.underlying52 Tryd.underlying3 rfl size3 ck _ hv _) ?_))
          go_ret
          exact ⟨rfl, H.below⟩
    · obtain rfl : k = 4 := by omega
      have eR := HR.out.symm.trans (rightH_rest hh)
      clear HR hh hk ck
      subst eR
      by_cases c1 : ep = 0
      · subst c1
        go_wp2_with (first
    | ((with_reducible refine gate_dst (N := 20) rfl ?_); refine l_load1 rfl H 51 _ rfl _ _ rfl (by (repeat (first | exact In.head | apply In.tail))) _ Tryd.underlying51 rfl _ (by first | rfl | assumption | exact nums_at _ (by omega)) ?_)
    | ((with_reducible refine gate_dst (N := 24) rfl ?_); refine gate_guard (by rfl) ?_; refine l_load1 rfl H 3 _ rfl _ _ rfl (by (repeat (first | exact In.head | apply In.tail))) _ Tryd.underlying3 rfl _ (by first | rfl | assumption | exact nums_at _ (by omega)) ?_)
    | ((with_reducible refine gate_dst (N := 29) rfl ?_); refine gate_guard (by rfl) ?_; refine l_load1 rfl H 3 _ rfl _ _ rfl (by (repeat (first | exact In.head | apply In.tail))) _ Tryd.underlying3 rfl _ (by first | rfl | assumption | exact nums_at _ (by omega)) ?_)
    | ((with_reducible refine gate_dst (N := 34) rfl ?_); refine gate_guard (by rfl) ?_; refine l_load1 rfl H 3 _ rfl _ _ rfl (by (repeat (first | exact In.head | apply In.tail))) _ Tryd.underlying3 rfl _ (by first | rfl | assumption | exact nums_at _ (by omega)) ?_)
    | ((with_reducible refine gate_dst (N := 39) rfl ?_); refine gate_guard (by rfl) ?_; refine l_load1 rfl H 3 _ rfl _ _ rfl (by (repeat (first | exact In.head | apply In.tail))) _ Tryd.underlying3 rfl _ (by first | rfl | assumption | exact nums_at _ (by omega)) ?_))
        go_ret
        exact ⟨by simp, H.below⟩
      have q1 : (ep == 0) = false := by rw [beq_eq_false_iff_ne]; exact c1
      have q1b : (ep != 0) = true := by rw [bne_iff_ne]; exact c1
      by_cases c2 : seq ≥ 1
      · have p2 : decide (1 ≤ seq) = true := decide_eq_true c2
        have q2 : decide (seq ≥ 1) = true := decide_eq_true c2
        by_cases c3 : seq ≤ 2147483647
        · have q3 : decide (seq ≤ 2147483647) = true := decide_eq_true c3
          by_cases c4 : fi ≥ 1
          · have p4 : decide (1 ≤ fi) = true := decide_eq_true c4
            have q4 : decide (fi ≥ 1) = true := decide_eq_true c4
            go_wp2_with (first
    | ((with_reducible refine gate_dst (N := 20) rfl ?_); refine l_load1 rfl H 51 _ rfl _ _ rfl (by (repeat (first | exact In.head | apply In.tail))) _ Tryd.underlying51 rfl _ (by first | rfl | assumption | exact nums_at _ (by omega)) ?_)
    | ((with_reducible refine gate_dst (N := 24) rfl ?_); refine gate_guard (by rfl) ?_; refine l_load1 rfl H 3 _ rfl _ _ rfl (by (repeat (first | exact In.head | apply In.tail))) _ Tryd.underlying3 rfl _ (by first | rfl | assumption | exact nums_at _ (by omega)) ?_)
    | ((with_reducible refine gate_dst (N := 29) rfl ?_); refine gate_guard (by rfl) ?_; refine l_load1 rfl H 3 _ rfl _ _ rfl (by (repeat (first | exact In.head | apply In.tail))) _ Tryd.underlying3 rfl _ (by first | rfl | assumption | exact nums_at _ (by omega)) ?_)
    | ((with_reducible refine gate_dst (N := 34) rfl ?_); refine gate_guard (by rfl) ?_; refine l_load1 rfl H 3 _ rfl _ _ rfl (by (repeat (first | exact In.head | apply In.tail))) _ Tryd.underlying3 rfl _ (by first | rfl | assumption | exact nums_at _ (by omega)) ?_)
    | ((with_reducible refine gate_dst (N := 39) rfl ?_); refine gate_guard (by rfl) ?_; refine l_load1 rfl H 3 _ rfl _ _ rfl (by (repeat (first | exact In.head | apply In.tail))) _ Tryd.underlying3 rfl _ (by first | rfl | assumption | exact nums_at _ (by omega)) ?_))
            go_ret
            exact ⟨by simp [*], H.below⟩
          · have p4 : decide (1 ≤ fi) = false := decide_eq_false c4
            have q4 : decide (fi ≥ 1) = false := decide_eq_false c4
            go_wp2_with (first
    | ((with_reducible refine gate_dst (N := 20) rfl ?_); refine l_load1 rfl H 51 _ rfl _ _ rfl (by (repeat (first | exact In.head | apply In.tail))) _ Tryd.underlying51 rfl _ (by first | rfl | assumption | exact nums_at _ (by omega)) ?_)
    | ((with_reducible refine gate_dst (N := 24) rfl ?_); refine gate_guard (by rfl) ?_; refine l_load1 rfl H 3 _ rfl _ _ rfl (by (repeat (first | exact In.head | apply In.tail))) _ Tryd.underlying3 rfl _ (by first | rfl | assumption | exact nums_at _ (by omega)) ?_)
    | ((with_reducible refine gate_dst (N := 29) rfl ?_); refine gate_guard (by rfl) ?_; refine l_load1 rfl H 3 _ rfl _ _ rfl (by (repeat (first | exact In.head | apply In.tail))) _ Tryd.underlying3 rfl _ (by first | rfl | assumption | exact nums_at _ (by omega)) ?_)
    | ((with_reducible refine gate_dst (N := 34) rfl ?_); refine gate_guard (by rfl) ?_; refine l_load1 rfl H 3 _ rfl _ _ rfl (by (repeat (first | exact In.head | apply In.tail))) _ Tryd.underlying3 rfl _ (by first | rfl | assumption | exact nums_at _ (by omega)) ?_)
    | ((with_reducible refine gate_dst (N := 39) rfl ?_); refine gate_guard (by rfl) ?_; refine l_load1 rfl H 3 _ rfl _ _ rfl (by (repeat (first | exact In.head | apply In.tail))) _ Tryd.underlying3 rfl _ (by first | rfl | assumption | exact nums_at _ (by omega)) ?_))
            go_ret
            exact ⟨by simp [*], H.below⟩
        · have q3 : decide (seq ≤ 2147483647) = false := decide_eq_false c3
          go_wp2_with (first
    | ((with_reducible refine gate_dst (N := 20) rfl ?_); refine l_load1 rfl H 51 _ rfl _ _ rfl (by (repeat (first | exact In.head | apply In.tail))) _ Tryd.underlying51 rfl _ (by first | rfl | assumption | exact nums_at _ (by omega)) ?_)
    | ((with_reducible refine gate_dst (N := 24) rfl ?_); refine gate_guard (by rfl) ?_; refine l_load1 rfl H 3 _ rfl _ _ rfl (by (repeat (first | exact In.head | apply In.tail))) _ Tryd.underlying3 rfl _ (by first | rfl | assumption | exact nums_at _ (by omega)) ?_)
    | ((with_reducible refine gate_dst (N := 29) rfl ?_); refine gate_guard (by rfl) ?_; refine l_load1 rfl H 3 _ rfl _ _ rfl (by (repeat (first | exact In.head | apply In.tail))) _ Tryd.underlying3 rfl _ (by first | rfl | assumption | exact nums_at _ (by omega)) ?_)
    | ((with_reducible refine gate_dst (N := 34) rfl ?_); refine gate_guard (by rfl) ?_; refine l_load1 rfl H 3 _ rfl _ _ rfl (by (repeat (first | exact In.head | apply In.tail))) _ Tryd.underlying3 rfl _ (by first | rfl | assumption | exact nums_at _ (by omega)) ?_)
    | ((with_reducible refine gate_dst (N := 39) rfl ?_); refine gate_guard (by rfl) ?_; refine l_load1 rfl H 3 _ rfl _ _ rfl (by (repeat (first | exact In.head | apply In.tail))) _ Tryd.underlying3 rfl _ (by first | rfl | assumption | exact nums_at _ (by omega)) ?_))
          go_ret
          exact ⟨by simp [*], H.below⟩
      · have p2 : decide (1 ≤ seq) = false := decide_eq_false c2
        have q2 : decide (seq ≥ 1) = false := decide_eq_false c2
        go_wp2_with (first
    | ((with_reducible refine gate_dst (N := 20) rfl ?_); refine l_load1 rfl H 51 _ rfl _ _ rfl (by (repeat (first | exact In.head | apply In.tail))) _ Tryd.underlying51 rfl _ (by first | rfl | assumption | exact nums_at _ (by omega)) ?_)
    | ((with_reducible refine gate_dst (N := 24) rfl ?_); refine gate_guard (by rfl) ?_; refine l_load1 rfl H 3 _ rfl _ _ rfl (by (repeat (first | exact In.head | apply In.tail))) _ Tryd.underlying3 rfl _ (by first | rfl | assumption | exact nums_at _ (by omega)) ?_)
    | ((with_reducible refine gate_dst (N := 29) rfl ?_); refine gate_guard (by rfl) ?_; refine l_load1 rfl H 3 _ rfl _ _ rfl (by (repeat (first | exact In.head | apply In.tail))) _ Tryd.underlying3 rfl _ (by first | rfl | assumption | exact nums_at _ (by omega)) ?_)
    | ((with_reducible refine gate_dst (N := 34) rfl ?_); refine gate_guard (by rfl) ?_; refine l_load1 rfl H 3 _ rfl _ _ rfl (by (repeat (first | exact In.head | apply In.tail))) _ Tryd.underlying3 rfl _ (by first | rfl | assumption | exact nums_at _ (by omega)) ?_)
    | ((with_reducible refine gate_dst (N := 39) rfl ?_); refine gate_guard (by rfl) ?_; refine l_load1 rfl H 3 _ rfl _ _ rfl (by (repeat (first | exact In.head | apply In.tail))) _ Tryd.underlying3 rfl _ (by first | rfl | assumption | exact nums_at _ (by omega)) ?_))
        go_ret
        exact ⟨by simp [*], H.below⟩
set_option maxRecDepth 100000 in
set_option maxHeartbeats 8000000 in
theorem hencode_no (ep seq fi h0 h1 h2 h3 : Int) (w : World) (hr : rightH ep seq fi h0 h1 h2 h3 = false) :
    Calls Tryd.prog 36 #[hV ep seq fi h0 h1 h2 h3] w fun e W => e = .returned (.tuple #[.agg (nums .u8 (zs 64)).toArray, .int .i64 13]) ∧ Below w.heap.size w W := by
  have H := Own.start w
  have FR := fun W => right_calls ep seq fi h0 h1 h2 h3 W
  rw [hr] at FR
  have hz : (nums .u8 (zs 64)).length = 64 := by rw [nums_length]; rfl
  go_enter Tryd.func36, Tryd.ntmps36
  go_wp2_with (first
    | ((with_reducible refine gate_dst (N := 1) rfl ?_); refine l_boxA rfl H 54 _ rfl _ rfl ?_; clear H; intro g1 W H)
    | ((with_reducible refine gate_dst (N := 2) rfl ?_); refine l_allocA rfl H 50 rfl _ zero50 ?_; clear H; intro g2 W H)
    | ((with_reducible refine gate_dst (N := 4) rfl ?_); refine l_allocA rfl H 50 rfl _ zero50 ?_; clear H; intro g4 W H)
    | ((with_reducible refine gate_dst (N := 5) rfl ?_); refine l_loadA rfl H 54 _ rfl _ rfl (by (repeat (first | exact In.head | apply In.tail))) _ _ Tryd.underlying54 rfl size54 (by (first | rfl | assumption | omega | (simp only [nums_length]; omega) | (simp [nums_length, zs]; done) | (simp [nums_length, zs]; omega))) ?_)
    | ((with_reducible refine gate_dst (N := 8) rfl ?_); refine l_loadA rfl H 50 _ rfl _ rfl (by (repeat (first | exact In.head | apply In.tail))) _ _ Tryd.underlying50 rfl size50 (by (first | rfl | assumption | omega | (simp only [nums_length]; omega) | (simp [nums_length, zs]; done) | (simp [nums_length, zs]; omega))) ?_)
    | ((with_reducible refine gate_store (t := 50) (p := 2) rfl ?_); refine l_storeW rfl H 50 _ _ rfl _ rfl _ rfl (by (repeat (first | exact In.head | apply In.tail))) _ size50 (by (first | rfl | assumption | omega | (simp only [nums_length]; omega) | (simp [nums_length, zs]; done) | (simp [nums_length, zs]; omega))) (by (first | rfl | assumption | omega | (simp only [nums_length]; omega) | (simp [nums_length, zs]; done) | (simp [nums_length, zs]; omega))) (by (first | exact nums_one | assumption | (intro u hu; simp at hu; subst hu; rfl) | (intro u hu; simp at hu; rcases hu with rfl | rfl | rfl | rfl | rfl | rfl | rfl <;> rfl) | (intro u hu; simp at hu; rcases hu with rfl | rfl | rfl | rfl <;> rfl) | (intro u hu; simp at hu; rcases hu with rfl | rfl | rfl <;> rfl) | (intro u hu; simp at hu; rcases hu with rfl | rfl <;> rfl))) ?_; clear H; intro W H)
    | (go_at_call 39; (with_reducible refine (FR _).mono ?_); rintro e W ⟨rfl, hb⟩; replace H := H.to hb; clear hb))
  refine bodyPost_ret (results_ct (p := 2) (ty := 50) rfl _ _ g2 50 _ (0, 0) _ rfl (H.heap (.tail .head)) Tryd.underlying50 rfl size50) rfl ?_
  exact ⟨rfl, H.below⟩
set_option maxRecDepth 100000 in
set_option maxHeartbeats 8000000 in
theorem hencode_ok (ep seq fi h0 h1 h2 h3 : Int) (w : World) (hr : rightH ep seq fi h0 h1 h2 h3 = true) (he : 0 ≤ ep ∧ ep ≤ 18446744073709551615) (hH : Half w) :
    Calls Tryd.prog 36 #[hV ep seq fi h0 h1 h2 h3] w fun e W => e = .returned (.tuple #[.agg (nums .u8 (hS ep seq fi h0 h1 h2 h3)).toArray, .int .i64 0]) ∧ Below w.heap.size w W := by
  have H := Own.start w
  have FR := fun W => right_calls ep seq fi h0 h1 h2 h3 W
  rw [hr] at FR
  obtain ⟨⟨a0, a1, a2, a3⟩, -, hs, hf⟩ := rightH_iff.1 hr
  have hxs : ∀ x ∈ [seq, fi, h0, h1, h2, h3], 0 ≤ x ∧ x ≤ 9223372036854775807 := by
    intro x hx
    simp at hx
    rcases hx with rfl | rfl | rfl | rfl | rfl | rfl <;> omega
  obtain ⟨e, rfl⟩ := Int.eq_ofNat_of_zero_le he.1
  have P1 := fun {W : World} {L : List Res} (H : Own w F0 L W) => put_own H e (by omega) 8 8 rfl (by decide)
  have hz : (nums .u8 (zs 64)).length = 64 := by rw [nums_length]; rfl
  have hlB := lay_B (e : Int) seq fi h0 h1 h2 h3
  have hlS := lay_S (e : Int) seq fi h0 h1 h2 h3
  have htB := take_B (e : Int) seq fi h0 h1 h2 h3 (zs 27)
  have hBl := hB_len (e : Int) seq fi h0 h1 h2 h3
  have hBb := hB_bytes (e : Int) seq fi h0 h1 h2 h3
  have hSl := hS_len (e : Int) seq fi h0 h1 h2 h3
  rw [Int.toNat_natCast] at hlB
  obtain ⟨c1, hc1⟩ : ∃ c, splice (zs 64) 0 [115, 116, 114, 100] = c := ⟨_, rfl⟩
  have hc1l : c1.length = 64 := by rw [← hc1]; rfl
  have hc1n : (nums .u8 c1).length = 64 := by rw [nums_length, hc1l]
  rw [hc1] at hlB
  generalize hS (e : Int) seq fi h0 h1 h2 h3 = SS at *
  generalize hB (e : Int) seq fi h0 h1 h2 h3 = BB at *
  go_enter Tryd.func36, Tryd.ntmps36
  go_wp2_with (first
    | ((with_reducible refine gate_dst (N := 1) rfl ?_); refine l_boxA rfl H 54 _ rfl _ rfl ?_; clear H; intro g1 W H)
    | ((with_reducible refine gate_dst (N := 2) rfl ?_); refine l_allocA rfl H 50 rfl _ zero50 ?_; clear H; intro g2 W H)
    | ((with_reducible refine gate_dst (N := 4) rfl ?_); refine l_allocA rfl H 50 rfl _ zero50 ?_; clear H; intro g4 W H)
    | ((with_reducible refine gate_dst (N := 5) rfl ?_); refine l_loadA rfl H 54 _ rfl _ rfl (by (repeat (first | exact In.head | apply In.tail))) _ _ Tryd.underlying54 rfl size54 (by (first | rfl | assumption | omega | (simp only [nums_length]; omega) | (simp [nums_length, zs]; done) | (simp [nums_length, zs]; omega))) ?_)
    | (go_at_call 39; (with_reducible refine (FR _).mono ?_); rintro e W ⟨rfl, hb⟩; replace H := H.to hb; clear hb)
    | ((with_reducible refine gate_dst (N := 10) rfl ?_); refine l_copyStr rfl H _ _ _ _ rfl 5 Tryd.underlying23 size5 g4 0 64 64 rfl .head _ rfl [115, 116, 114, 100] rfl (by decide) (by decide) ?_; clear H; intro W H; rw [hc1] at H)
    | ((with_reducible refine gate_store (t := 5) (p := 11) rfl ?_); refine l_store1 rfl H 5 _ _ rfl _ _ rfl _ (by first | (go_simp; done) | (go_simp; with_reducible rfl)) (by (repeat (first | exact In.head | apply In.tail))) rfl rfl size5 (by (first | rfl | assumption | omega | (simp only [nums_length]; omega) | (simp [nums_length, zs]; done) | (simp [nums_length, zs]; omega))) ?_; clear H; intro W H))
  rw [nums_set] at H
  have hc2l : (c1.set 4 1).length = 64 := by rw [List.length_set, hc1l]
  have hc2n : (nums .u8 (c1.set 4 1)).length = 64 := by rw [nums_length, hc2l]
  generalize c1.set 4 1 = c2 at H hc2l hc2n hlB
  refine start_ (n := 5) (S := Own _ _ _) (ds := [4]) #[false, false, false, false, false] (by kernel_rfl) rfl rfl H.drew (fun hHeld => ?_)
  replace H := H.drew
  generalize World.drew _ = W at H hHeld ⊢
  refine take_run (i := 0) (N := some 12) (a' := ?_) #[true, false, false, false, false] rfl rfl (by kernel_rfl) (fun _ _ _ _ h => h) (by rfl) hHeld (.slice (some ⟨g4, 5, none⟩) 59 59) (fun X HX => x_arr_lo' _ _ rfl 0 rfl Tryd.underlying50 size5 5 rfl (by decide) X 5 59 rfl rfl) ?_ ?_
  rotate_left
  · simp only [Act.put, List.setIfInBounds_toArray, List.set_cons_zero, List.set_cons_succ, i64_w, i32_w]
    rfl
  refine pure_ (i := 1) (N := some 13) (v := ?_) (a' := ?_) #[true, true, false, false, false] rfl rfl (by kernel_rfl) (fun _ _ _ h => h) (Or.inl ⟨by rfl, ?_⟩) ?_ ?_
  rotate_left
  · intro w'
    go_simp
    with_reducible rfl
  rotate_left
  · simp only [Act.put, List.setIfInBounds_toArray, List.set_cons_zero, List.set_cons_succ, i64_w, i32_w]
    rfl
  refine one_ (i := 2) (N := some 14) #[true, true, true, false, false] rfl rfl (by kernel_rfl) (by decide) (fun K hK => ?_)
  refine wanted_ rfl ?_
  refine w_load1 H 51 _ rfl _ _ rfl (by (repeat (first | exact In.head | apply In.tail))) _ Tryd.underlying51 rfl _ (by first | rfl | assumption | exact nums_at _ (by omega)) ?_
  refine hK.out _ _ ?_ (fun hHeld => ?_)
  · first | trivial | exact H | exact H.del .head | exact (H.del .head).del .head
  clear hK K
  refine norm_ (a' := ?_) ?_ ?_
  rotate_left
  · show Act.put _ (some 14) _ = _
    simp only [Act.put, List.setIfInBounds_toArray, List.set_cons_zero, List.set_cons_succ, i64_w, i32_w]
    rfl
  refine one_ (i := 3) (N := some 15) #[true, true, true, true, false] rfl rfl (by kernel_rfl) (by decide) (fun K hK => ?_)
  refine callK_ (P1 H) Tryd.func60 (by kernel_rfl) rfl (by rfl) rfl rfl (by (try simp only [List.map_toArray, List.map_cons, List.map_nil]); first | done | rfl) ?_
  rintro e W ⟨A15, c15, rfl, h15, C15, H'⟩
  refine ⟨_, rfl, ?_⟩
  replace H := H'
  clear H'
  refine hK.out _ _ ?_ (fun hHeld => ?_)
  · first | trivial | exact H | exact H.del .head | exact (H.del .head).del .head
  clear hK K
  refine norm_ (a' := ?_) ?_ ?_
  rotate_left
  · show Act.put _ (some 15) _ = _
    simp only [Act.put, List.setIfInBounds_toArray, List.set_cons_zero, List.set_cons_succ, i64_w, i32_w]
    rfl
  refine last_ (i := 4) (N := some 16) #[true, true, true, true, true] rfl rfl (by kernel_rfl) (by decide) (fun K hK => ?_)
  refine wanted_ rfl ?_
  refine w_copyC H _ _ _ _ rfl 5 Tryd.underlying23 size5 _ _ _ _ rfl (by (repeat (first | exact In.head | apply In.tail))) _ _ _ rfl ((putl e 8)) ?_ (by (first | rfl | assumption | omega | (simp only [nums_length]; omega) | (simp [nums_length, zs]; done) | (simp [nums_length, zs]; omega))) ?_
  · exact C15
  clear H; intro W H
  refine hK.out _ _ ?_
  clear hK K
  refine norm_ (a' := ?_) ?_ ?_
  rotate_left
  · show Act.put _ (some 16) _ = _
    simp only [Act.put, List.setIfInBounds_toArray, List.set_cons_zero, List.set_cons_succ, i64_w, i32_w]
    rfl
  refine done_ (by kernel_rfl) ?_
  clear hHeld
  rw [show (putl e 8).take (min 8 59) = putl e 8 from List.take_of_length_le (by rw [putl_len]; decide)] at H
  have hc3l : (splice c2 5 (putl e 8)).length = 64 := by rw [splice_len _ _ _ (by rw [putl_len, hc2l]; decide), hc2l]
  have hc3n : (nums .u8 (splice c2 5 (putl e 8))).length = 64 := by rw [nums_length, hc3l]
  generalize splice c2 5 (putl e 8) = c3 at H hc3l hc3n hlB
  go_wp2
  refine start_ (n := 9) (S := Own _ _ _) (ds := [8]) #[false, false, false, false, false, false, false, false, false] (by kernel_rfl) rfl rfl H.drew (fun hHeld => ?_)
  replace H := H.drew
  generalize World.drew _ = W at H hHeld ⊢
  refine pure_ (i := 0) (N := some 17) (v := ?_) (a' := ?_) #[true, false, false, false, false, false, false, false, false] rfl rfl (by kernel_rfl) (fun _ _ _ h => h) (Or.inl ⟨by rfl, ?_⟩) ?_ ?_
  rotate_left
  · intro w'
    go_simp
    with_reducible rfl
  rotate_left
  · simp only [Act.put, List.setIfInBounds_toArray, List.set_cons_zero, List.set_cons_succ, i64_w, i32_w]
    rfl
  refine pure_ (i := 2) (N := some 19) (v := ?_) (a' := ?_) #[true, false, true, false, false, false, false, false, false] rfl rfl (by kernel_rfl) (fun _ _ _ h => h) (Or.inl ⟨by rfl, ?_⟩) ?_ ?_
  rotate_left
  · intro w'
    go_simp
    with_reducible rfl
  rotate_left
  · simp only [Act.put, List.setIfInBounds_toArray, List.set_cons_zero, List.set_cons_succ, i64_w, i32_w]
    rfl
  refine pure_ (i := 5) (N := some 22) (v := ?_) (a' := ?_) #[true, false, true, false, false, true, false, false, false] rfl rfl (by kernel_rfl) (fun _ _ _ h => h) (Or.inl ⟨by rfl, ?_⟩) ?_ ?_
  rotate_left
  · intro w'
    go_simp
    with_reducible rfl
  rotate_left
  · simp only [Act.put, List.setIfInBounds_toArray, List.set_cons_zero, List.set_cons_succ, i64_w, i32_w]
    rfl
  refine take_run (i := 6) (N := some 23) (a' := ?_) #[true, false, true, false, false, true, true, false, false] rfl rfl (by kernel_rfl) (fun _ _ _ _ h => h) (by rfl) hHeld (.slice (some ⟨g1, 3, none⟩) 4 4) (fun X HX => x_arr _ none none rfl 3 rfl Tryd.underlying52 size3 0 4 (fun W => by simp [Instr.sliceBounds]) (by decide) X) ?_ ?_
  rotate_left
  · simp only [Act.put, List.setIfInBounds_toArray, List.set_cons_zero, List.set_cons_succ, i64_w, i32_w]
    rfl
  refine take_load1 (i := 1) (N := some 18) (a' := ?_) #[true, true, true, false, false, true, true, false, false] rfl rfl (by kernel_rfl) (fun _ _ _ _ h => h) (by rfl) hHeld 3 _ rfl _ _ rfl (by (repeat (first | exact In.head | apply In.tail))) _ Tryd.underlying3 rfl _ (by first | rfl | assumption | exact nums_at _ (by omega)) ?_ ?_
  rotate_left
  · simp only [Act.put, List.setIfInBounds_toArray, List.set_cons_zero, List.set_cons_succ, i64_w, i32_w]
    rfl
  refine one_ (i := 3) (N := some 20) #[true, true, true, true, false, true, true, false, false] rfl rfl (by kernel_rfl) (by decide) (fun K hK => ?_)
  refine wanted_ rfl ?_
  refine w_load1 H 3 _ rfl _ _ rfl (by (repeat (first | exact In.head | apply In.tail))) _ Tryd.underlying3 rfl _ (by first | rfl | assumption | exact nums_at _ (by omega)) ?_
  refine hK.out _ _ ?_ (fun hHeld => ?_)
  · first | trivial | exact H | exact H.del .head | exact (H.del .head).del .head
  clear hK K
  refine norm_ (a' := ?_) ?_ ?_
  rotate_left
  · show Act.put _ (some 20) _ = _
    simp only [Act.put, List.setIfInBounds_toArray, List.set_cons_zero, List.set_cons_succ, i64_w, i32_w]
    rfl
  refine one_ (i := 4) (N := some 21) #[true, true, true, true, true, true, true, false, false] rfl rfl (by kernel_rfl) (by decide) (fun K hK => ?_)
  refine wanted_ rfl ?_
  refine w_buildN H 71 3 2 _ rfl Tryd.underlying71 _ 1 zs3 (by decide) (by decide) (by decide) [.int .i64 seq, .int .i64 fi] rfl rfl (by intro v hv; simp at hv; rcases hv with rfl | rfl <;> rfl) [.int .i64 seq, .int .i64 fi] rfl ?_
  clear H
  intro g21 W H
  refine hK.out _ _ ?_ (fun hHeld => ?_)
  · first | trivial | exact H | exact H.del .head | exact (H.del .head).del .head
  clear hK K
  refine norm_ (a' := ?_) ?_ ?_
  rotate_left
  · show Act.put _ (some 21) _ = _
    simp only [Act.put, List.setIfInBounds_toArray, List.set_cons_zero, List.set_cons_succ, i64_w, i32_w]
    rfl
  refine one_ (i := 7) (N := some 24) #[true, true, true, true, true, true, true, true, false] rfl rfl (by kernel_rfl) (by decide) (fun K hK => ?_)
  refine wanted_ rfl ?_
  refine w_appendFull H _ _ 71 3 rfl Tryd.underlying71 _ _ _ inf3 rfl (by decide) (by decide) ⟨g21, 0, none⟩ 2 [.int .i64 seq, .int .i64 fi] rfl rfl (fun j u hj => by rw [addr_add, H.cell .head, Nat.zero_add]; exact hj) (some ⟨g1, 3, none⟩) 4 4 (nums .i64 [h0, h1, h2, h3]) rfl (by decide) rfl (H.rdB (.tail (.tail (.tail .head))) 3) (by decide) ?_
  clear H
  intro v24 W H
  obtain ⟨A24, c24, rfl⟩ := H.row_slice .head
  obtain ⟨ad24, rfl⟩ := (H.rd .head).1.some_ (Nat.succ_pos _)
  replace H := H.del (.tail .head)
  refine hK.out _ _ ?_ (fun hHeld => ?_)
  · first | trivial | exact H | exact H.del .head | exact (H.del .head).del .head
  clear hK K
  refine norm_ (a' := ?_) ?_ ?_
  rotate_left
  · show Act.put _ (some 24) _ = _
    simp only [Act.put, List.setIfInBounds_toArray, List.set_cons_zero, List.set_cons_succ, i64_w, i32_w]
    rfl
  refine last_ (i := 8) (N := some 25) #[true, true, true, true, true, true, true, true, true] rfl rfl (by kernel_rfl) (by decide) (fun K hK => ?_)
  refine callK_ (lay_own ad24 6 c24 g4 13 [seq, fi, h0, h1, h2, h3] c3 3 rfl (by decide) hc3l (by decide) hxs H) Tryd.func64 (by kernel_rfl) rfl (by rfl) rfl rfl (by (try simp only [List.map_toArray, List.map_cons, List.map_nil]); first | done | rfl) ?_
  rintro e W ⟨rfl, H'⟩
  refine ⟨_, rfl, ?_⟩
  replace H := H'
  clear H'
  rw [hlB] at H
  replace H := H.del .head
  refine hK.out _ _ ?_
  clear hK K
  refine norm_ (a' := ?_) ?_ ?_
  rotate_left
  · show Act.put _ (some 25) _ = _
    simp only [Act.put, List.setIfInBounds_toArray, List.set_cons_zero, List.set_cons_succ, i64_w, i32_w]
    rfl
  refine done_ (by kernel_rfl) ?_
  clear hHeld
  have hsb := sumN_lt BB
  have hlb : (BB ++ zs 27).length = 64 := by rw [List.length_append, hBl]; rfl
  have hlbn : (nums .u8 (BB ++ zs 27)).length = 64 := by rw [nums_length, hlb]
  have SC := fun W h => sum_calls (BB ++ zs 27) hlb (bytes_append hBb (bytes_zs 27)) W h
  rw [htB] at SC
  have c1 : IntKind.i64.wrap (sumN BB : Int) = (sumN BB : Int) := by rw [IntKind.wrap_i64]; omega
  have hx1 : ∀ x ∈ [(sumN BB : Int)], 0 ≤ x ∧ x ≤ 9223372036854775807 := by intro x hx; rw [List.mem_singleton.1 hx]; exact ⟨Int.natCast_nonneg _, Int.le_trans (Int.ofNat_le.2 (Nat.le_of_lt hsb)) (by decide)⟩
  have hSn : (nums .u8 SS).length = 64 := by rw [nums_length, hSl]
  generalize sumN BB = sm at SC c1 hx1 hlS hsb
  go_wp2_with (first
    | ((with_reducible refine gate_dst (N := 26) rfl ?_); refine l_loadA rfl H 50 _ rfl _ rfl (by (repeat (first | exact In.head | apply In.tail))) _ _ Tryd.underlying50 rfl size50 (by (first | rfl | assumption | omega | (simp only [nums_length]; omega) | (simp [nums_length, zs]; done) | (simp [nums_length, zs]; omega))) ?_)
    | ((with_reducible refine gate_dst (N := 31) rfl ?_); refine l_loadA rfl H 50 _ rfl _ rfl (by (repeat (first | exact In.head | apply In.tail))) _ _ Tryd.underlying50 rfl size50 (by (first | rfl | assumption | omega | (simp only [nums_length]; omega) | (simp [nums_length, zs]; done) | (simp [nums_length, zs]; omega))) ?_)
    | ((with_reducible refine gate_store (t := 50) (p := 2) rfl ?_); refine l_storeW rfl H 50 _ _ rfl _ rfl _ rfl (by (repeat (first | exact In.head | apply In.tail))) _ size50 (by (first | rfl | assumption | omega | (simp only [nums_length]; omega) | (simp [nums_length, zs]; done) | (simp [nums_length, zs]; omega))) (by (first | rfl | assumption | omega | (simp only [nums_length]; omega) | (simp [nums_length, zs]; done) | (simp [nums_length, zs]; omega))) (by (first | exact nums_one | assumption | (intro u hu; simp at hu; subst hu; rfl) | (intro u hu; simp at hu; rcases hu with rfl | rfl | rfl | rfl | rfl | rfl | rfl <;> rfl) | (intro u hu; simp at hu; rcases hu with rfl | rfl | rfl | rfl <;> rfl) | (intro u hu; simp at hu; rcases hu with rfl | rfl | rfl <;> rfl) | (intro u hu; simp at hu; rcases hu with rfl | rfl <;> rfl))) ?_; clear H; intro W H)
    | ((with_reducible refine gate_dst (N := 29) rfl ?_); refine l_build11 rfl H 71 3 _ rfl Tryd.underlying71 (.int .i64 (sm : Int)) rfl _ zs3 rfl rfl ?_; clear H; intro g29 W H)
    | (go_at_call 63; (with_reducible refine (SC _ (hH.below H.below)).mono ?_); rintro e W ⟨rfl, hb⟩; replace H := H.to hb; clear hb)
    | (go_at_call 64; (refine (lay_own _ 1 1 g4 37 [(sm : Int)] (BB ++ zs 27) 3 rfl (by decide) hlb (by decide) hx1 (H.blk_row (sz := 1) (n := 1) (cap := 1) .head (by decide) (by decide) rfl rfl)).mono ?_); clear H; rintro e W ⟨rfl, H⟩; rw [hlS] at H))
  refine bodyPost_ret (results_ct (p := 2) (ty := 50) rfl _ _ g2 50 _ (0, 0) _ rfl (H.heap (.tail (.tail .head))) Tryd.underlying50 rfl (by rw [List.size_toArray, hSn]; exact size50)) rfl ?_
  exact ⟨rfl, H.below⟩
end Go.Proofs.YthhbilkmdfdfiaaDoor.O
