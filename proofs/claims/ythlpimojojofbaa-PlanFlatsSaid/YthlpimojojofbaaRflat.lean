/- the reference's Flat. -/
import Derived.Test.YthlpimojojofbaaFlat
namespace Go.Proofs.Ythlpimojojofbaa.O
open Go.RowKit Go.Proofs.YthlpimojojofbaaW.PrintWords Go.Proofs.YthlpimojojofbaaW.PrintLast Go.Proofs.YthlpimojojofbaaW.PrintMore Go.Proofs.Ythlpimojojofbaa.F Go.Proofs.Ythlpimojojofbaa.F.Nums Go.Proofs.Ythlpimojojofbaa.Plain
set_option linter.unusedVariables false
set_option linter.unusedSimpArgs false
set_option maxRecDepth 100000 in
set_option maxHeartbeats 4000000 in
theorem rflat_calls (e : Int) (h0 : 0 ≤ e) (h1 : e ≤ 18446744073709551615) (fl : List Int) (n : Nat) (hf : fl.length = 64 * n) (hb : Bytes fl) (A : Option Addr) (c : Nat) (w : World) (hr : Rd w A (nums .u8 fl)) (hc : n ≤ c) (hn : n ≤ 9223372036854775807) :
    Calls Try.prog 71 #[.int .u64 e, .slice A n c] w fun en w' => ∃ v1 v2, en = .returned (.tuple #[v1, v2]) ∧ Own w F0 [.row v1 5 1 832 (nums .u8 (bodyF e fl n 16)), .row v2 4 1 16 (bools (oksF e fl n 16))] w' := by
  have H0 := (show Own w F0 [.row (.slice none 0 0) 4 1 0 []] w from (Own.start w).cons (Below.refl _ _) (own_nil _ _ _ _) (fun k hk => by cases hk))
  have H := (show Own w F0 [.row (.slice none 0 0) 5 1 0 [], .row (.slice none 0 0) 4 1 0 []] w from H0.cons (Below.refl _ _) (own_nil _ _ _ _) (fun k hk => by cases hk))
  clear H0
  go_enter Try.func71, Try.ntmps71
  go_wp2
  go_loopg [6, 7, 8] 16 (fun gq v6 v7 v8 w' => ∃ k : Nat, v8 = .int .i64 (k : Int) ∧ k + gq = 16 ∧ Own w F0 [.row v6 5 1 (52 * k) (nums .u8 (bodyF e fl n k)), .row v7 4 1 k (bools (oksF e fl n k))] w')
  case atStart => exact ⟨0, rfl, rfl, H⟩
  case round =>
    clear H
    obtain ⟨k, rfl, hk, H⟩ := hrel
    by_cases ck : k < 16
    · obtain ⟨gk', rfl⟩ : ∃ q, gk = q + 1 := ⟨gk - 1, by omega⟩
      have q1 : decide ((k : Int) < 16) = true := decide_eq_true (by omega)
      have hS : bodyF e fl n (k + 1) = bodyF e fl n k ++ roomAt e fl n k := rfl
      have hO : oksF e fl n (k + 1) = oksF e fl n k ++ [okAt e fl n k] := rfl
      have hlB : (bodyF e fl n k).length = 52 * k := bodyF_len hf k
      have hlO : (oksF e fl n k).length = k := oksF_len k
      have hp2 : 52 * (k + 1) = 52 * k + 52 := by omega
      have hbd : (k + 1) * 1 ≤ 140737488355328 := by omega
      unfold roomAt at hS
      obtain ⟨B', hB'⟩ : ∃ x, bodyF e fl n (k + 1) = x := ⟨_, rfl⟩
      obtain ⟨O', hO'⟩ : ∃ x, oksF e fl n (k + 1) = x := ⟨_, rfl⟩
      rw [hB'] at hS
      rw [hO'] at hO
      have HB' := Lib.hid hB'
      have HO' := Lib.hid hO'
      clear hB' hO'
      generalize bodyF e fl n k = B at *
      generalize oksF e fl n k = O at *
      obtain ⟨p, hp⟩ : ∃ p, 52 * k = p := ⟨_, rfl⟩
      rw [hp] at H hlB hp2
      have hpb : (p + 52) * 1 ≤ 140737488355328 := by omega
      by_cases cn : k < n
      · have q2 : decide (k < n) = true := decide_eq_true cn
        have q3 : ((0 : Int) ≤ (k : Int)) = True := eq_true (by omega)
        have q4 : ((k : Int) < (n : Int)) = True := eq_true (by omega)
        obtain ⟨ad, rfl⟩ := hr.some_ (by rw [nums_length]; omega)
        have hsl := secAt_len hf cn
        have hbs : Bytes (secAt fl k) := bytes_take (bytes_drop hb _) _
        have hnu : ((nums .u8 fl).drop (k * 64)).take 64 = nums .u8 (secAt fl k) := by rw [nums_drop, nums_take, Nat.mul_comm]; rfl
        have O1 := fun W => ropen_c (secAt fl k) hsl hbs e (k : Int) h0 h1 W
        have hok : okAt e fl n k = openF (secAt fl k) e (k : Int) := by unfold okAt; rw [decide_eq_true cn, Bool.true_and]
        rw [hok] at hS hO
        have hdl : ((secAt fl k).drop 12).length = 52 := by rw [List.length_drop, hsl]
        unfold openL at O1
        cases hq : openF (secAt fl k) e (k : Int) with
        | true =>
          simp only [hq, if_true] at O1 hS hO
          generalize (secAt fl k).drop 12 = rm at *
          generalize secAt fl k = sec at *
          have HD := Lib.hid hdl
          have HS := Lib.hid hS
          have HO := Lib.hid hO
          have HP := Lib.hid hp
          have HP2 := Lib.hid hp2
          clear hS hO hp hp2 hdl hq hok hlB hlO hbs
          go_wp2_with (first
    | ((with_reducible refine gate_dst (N := 17) rfl ?_); refine l_make1 rfl H 35 5 _ _ rfl _ rfl rfl Try.underlying35 _ rfl _ inf5 (by decide) (by decide) ?_; clear H; intro g17 W H)
    | ((with_reducible refine gate_dst (N := 40) rfl ?_); refine l_append1 rfl H _ _ 96 4 rfl Try.underlying96 _ _ _ inf4 rfl (by decide) (by decide) _ _ _ rfl (by (repeat (first | exact In.head | apply In.tail))) _ _ rfl (by (repeat (first | exact In.head | apply In.tail))) (by (first | rfl | assumption | omega | (simp only [nums_length]; omega) | (simp [nums_length, zs]; done) | (simp [nums_length, zs]; omega))) (by (first | exact nums_one | (intro u hu; simp at hu; subst hu; rfl) | (intro u hu; simp at hu; rcases hu with rfl | rfl | rfl | rfl | rfl | rfl | rfl <;> rfl) | (intro u hu; simp at hu; rcases hu with rfl | rfl | rfl | rfl <;> rfl) | (intro u hu; simp at hu; rcases hu with rfl | rfl | rfl <;> rfl) | (intro u hu; simp at hu; rcases hu with rfl | rfl <;> rfl))) (by omega) ?_; clear H; intro v40 W H)
    | ((with_reducible refine gate_dst (N := 26) rfl ?_); refine l_loadRdS rfl 43 _ rfl (k * 64) rfl (hr.below H.below) 64 _ Try.underlying43 rfl size43 (by decide) _ hnu (by rw [nums_length]; exact hsl) ?_)
    | (go_at_call 36; (with_reducible refine (O1 _).mono ?_); rintro e W ⟨v, rfl, hR, hb'⟩; replace H := H.addR hb' hR; clear hb' hR; rw [HD.out] at H; obtain ⟨Av, cv, rfl⟩ := H.row_slice .head)
    | ((with_reducible refine gate_dst (N := 36) rfl ?_); refine l_append rfl H _ _ 35 5 rfl Try.underlying35 _ _ _ inf5 rfl (by decide) (by decide) _ _ _ rfl (.tail (.tail .head)) Av 52 cv (nums .u8 rm) rfl (by rw [nums_length, HD.out]) (fun h => (H.rd .head).1 (by rw [nums_length, HD.out]; exact h)) nums_one hpb ?_; clear H; intro v36 W H)
    | ((with_reducible refine gate_dst (N := 39) rfl ?_); refine l_build11 rfl H 96 4 _ rfl Try.underlying96 (.bool true) rfl _ zs4 rfl rfl ?_; clear H; intro g39 W H))
          rw [nums_app, ← HS.out, ← HP2.out, show ([Value.bool true] : List Value) = bools [true] from rfl, bools_app, ← HO.out, ← HB'.out, ← HO'.out] at H
          go_roundg gk'
          case measure => omega
          case rel => exact ⟨k + 1, by go_num, by omega, ((H.del .head).del .head).del .head⟩
        | false =>
          simp only [hq, Bool.false_eq_true, if_false] at O1 hS hO
          clear hdl hok
          generalize secAt fl k = sec at *
          have HS := Lib.hid hS
          have HO := Lib.hid hO
          have HP := Lib.hid hp
          have HP2 := Lib.hid hp2
          clear hS hO hp hp2 hq hlB hlO hbs
          go_wp2_with (first
    | ((with_reducible refine gate_dst (N := 17) rfl ?_); refine l_make1 rfl H 35 5 _ _ rfl _ rfl rfl Try.underlying35 _ rfl _ inf5 (by decide) (by decide) ?_; clear H; intro g17 W H)
    | ((with_reducible refine gate_dst (N := 40) rfl ?_); refine l_append1 rfl H _ _ 96 4 rfl Try.underlying96 _ _ _ inf4 rfl (by decide) (by decide) _ _ _ rfl (by (repeat (first | exact In.head | apply In.tail))) _ _ rfl (by (repeat (first | exact In.head | apply In.tail))) (by (first | rfl | assumption | omega | (simp only [nums_length]; omega) | (simp [nums_length, zs]; done) | (simp [nums_length, zs]; omega))) (by (first | exact nums_one | (intro u hu; simp at hu; subst hu; rfl) | (intro u hu; simp at hu; rcases hu with rfl | rfl | rfl | rfl | rfl | rfl | rfl <;> rfl) | (intro u hu; simp at hu; rcases hu with rfl | rfl | rfl | rfl <;> rfl) | (intro u hu; simp at hu; rcases hu with rfl | rfl | rfl <;> rfl) | (intro u hu; simp at hu; rcases hu with rfl | rfl <;> rfl))) (by omega) ?_; clear H; intro v40 W H)
    | ((with_reducible refine gate_dst (N := 26) rfl ?_); refine l_loadRdS rfl 43 _ rfl (k * 64) rfl (hr.below H.below) 64 _ Try.underlying43 rfl size43 (by decide) _ hnu (by rw [nums_length]; exact hsl) ?_)
    | (go_at_call 36; (with_reducible refine (O1 _).mono ?_); rintro e W ⟨v, rfl, hR, hb'⟩; replace H := H.addR hb' hR; clear hb' hR;  obtain ⟨Av, cv, rfl⟩ := H.row_slice .head)
    | ((with_reducible refine gate_dst (N := 36) rfl ?_); refine l_append rfl H _ _ 35 5 rfl Try.underlying35 _ _ _ inf5 rfl (by decide) (by decide) _ _ _ rfl (.tail (.tail .head)) (some ⟨g17, 0, none⟩) 52 52 (nums .u8 (zs 52)) rfl rfl (fun _ => H.rdB (.tail .head) 0 (by decide)) nums_one hpb ?_; clear H; intro v36 W H)
    | ((with_reducible refine gate_dst (N := 39) rfl ?_); refine l_build11 rfl H 96 4 _ rfl Try.underlying96 (.bool false) rfl _ zs4 rfl rfl ?_; clear H; intro g39 W H))
          rw [nums_app, ← HS.out, ← HP2.out, show ([Value.bool false] : List Value) = bools [false] from rfl, bools_app, ← HO.out, ← HB'.out, ← HO'.out] at H
          go_roundg gk'
          case measure => omega
          case rel => exact ⟨k + 1, by go_num, by omega, ((H.del .head).del .head).del .head⟩
      · have q2 : decide (k < n) = false := decide_eq_false cn
        rw [okAt_out (by omega)] at hS hO
        simp only [Bool.false_eq_true, if_false] at hS hO
        have HS := Lib.hid hS
        have HO := Lib.hid hO
        have HP := Lib.hid hp
        have HP2 := Lib.hid hp2
        clear hS hO hp hp2 hlB hlO
        go_wp2_with (first
    | ((with_reducible refine gate_dst (N := 17) rfl ?_); refine l_make1 rfl H 35 5 _ _ rfl _ rfl rfl Try.underlying35 _ rfl _ inf5 (by decide) (by decide) ?_; clear H; intro g17 W H)
    | ((with_reducible refine gate_dst (N := 40) rfl ?_); refine l_append1 rfl H _ _ 96 4 rfl Try.underlying96 _ _ _ inf4 rfl (by decide) (by decide) _ _ _ rfl (by (repeat (first | exact In.head | apply In.tail))) _ _ rfl (by (repeat (first | exact In.head | apply In.tail))) (by (first | rfl | assumption | omega | (simp only [nums_length]; omega) | (simp [nums_length, zs]; done) | (simp [nums_length, zs]; omega))) (by (first | exact nums_one | (intro u hu; simp at hu; subst hu; rfl) | (intro u hu; simp at hu; rcases hu with rfl | rfl | rfl | rfl | rfl | rfl | rfl <;> rfl) | (intro u hu; simp at hu; rcases hu with rfl | rfl | rfl | rfl <;> rfl) | (intro u hu; simp at hu; rcases hu with rfl | rfl | rfl <;> rfl) | (intro u hu; simp at hu; rcases hu with rfl | rfl <;> rfl))) (by omega) ?_; clear H; intro v40 W H)
    | ((with_reducible refine gate_dst (N := 36) rfl ?_); refine l_append rfl H _ _ 35 5 rfl Try.underlying35 _ _ _ inf5 rfl (by decide) (by decide) _ _ _ rfl (.tail .head) (some ⟨g17, 0, none⟩) 52 52 (nums .u8 (zs 52)) rfl rfl (fun _ => H.rdB .head 0 (by decide)) nums_one hpb ?_; clear H; intro v36 W H)
    | ((with_reducible refine gate_dst (N := 39) rfl ?_); refine l_build11 rfl H 96 4 _ rfl Try.underlying96 (.bool false) rfl _ zs4 rfl rfl ?_; clear H; intro g39 W H))
        rw [nums_app, ← HS.out, ← HP2.out, show ([Value.bool false] : List Value) = bools [false] from rfl, bools_app, ← HO.out, ← HB'.out, ← HO'.out] at H
        go_roundg gk'
        case measure => omega
        case rel => exact ⟨k + 1, by go_num, by omega, (H.del .head).del .head⟩
    · have q1 : decide ((k : Int) < 16) = false := decide_eq_false (by omega)
      obtain rfl : k = 16 := by omega
      go_wp2
      go_ret2
      exact ⟨_, _, rfl, H⟩
end Go.Proofs.Ythlpimojojofbaa.O
