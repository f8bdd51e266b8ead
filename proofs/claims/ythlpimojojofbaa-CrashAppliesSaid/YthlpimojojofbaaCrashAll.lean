/- crash.All and Tears: loops over a function. -/
import Derived.Test.YthlpimojojofbaaIn
import Derived.Test.YthlpimojojofbaaCrash
import Derived.Test.YthlpimojojofbaaCrashMix
import Derived.Shelf.Abstract
namespace Go.Proofs.Ythlpimojojofbaa.O
open Go.RowKit Go.Proofs.YthlpimojojofbaaW.PrintWords Go.Proofs.YthlpimojojofbaaW.PrintLast Go.Proofs.YthlpimojojofbaaW.PrintMore Go.Proofs.Ythlpimojojofbaa.F Go.Proofs.Ythlpimojojofbaa.Plain
attribute [local go_sem] Oper.semAt_some
set_option linter.unusedVariables false
set_option linter.unusedSimpArgs false
theorem each_own {w0 W : World} {F : Nat → Option Obj} {L : List Res} (H : Own w0 F L W) (m : Int) : Calls Try.prog 79 #[.int .i64 m] W fun e W' => ∃ g, e = .returned (.func (.func 93) #[] #[.pointer (some ⟨g, 0, none⟩)]) ∧ Own w0 F (.blk g 3 [.int .i64 m] :: L) W' := by
  go_enter Try.func79, Try.ntmps79
  go_wp2
  go_ret
  exact ⟨_, rfl, H.alloc _ _⟩
set_option maxRecDepth 100000 in
set_option maxHeartbeats 1000000 in
theorem each1_in (n l Bn m N : Nat) (hm : m ≤ 8) (hN : N = 2 ^ m) (J : Nat → World → Prop) (hC : ∀ k W, J k W → W.cell? ⟨Bn, 0, none⟩ = some (.int .i64 (m : Int)))
    (hY : ∀ k W, k < N → J k W → YieldAt Fence.wide n Try.prog l #[.agg #[.slice (some ⟨W.heap.size, 0, none⟩) 1 1, .int .i64 (-1), .int .i64 0]] (W.alloc (.cells #[.int .u8 (k : Int)] 5)) fun e W' => e = .returned (.bool true) ∧ J (k + 1) W')
    (W : World) (h0 : J 0 W) : CallsIn Fence.wide n Try.prog 93 #[.func (.yield l) #[] #[], .pointer (some ⟨Bn, 0, none⟩)] W fun e W' => (∃ v, e = .returned v) ∧ J N W' := by
  refine callsIn_of_wp Try.func93 rfl trivial ?_ rfl
  simp only [Try.ntmps93, List.size_toArray, List.length_cons, List.length_nil, Nat.reduceAdd, Nat.reduceSub, Array.replicate_succ, Array.replicate_zero, List.push_toArray, List.append_toArray, List.nil_append, List.cons_append]
  have c0 := hC 0 W h0
  have hN2 : N ≤ 256 := by
    subst hN
    exact Nat.le_trans (Nat.pow_le_pow_right (by decide) hm) (by decide)
  have hs : wrap64 (2 ^ m) = (N : Int) := by
    rw [show ((2 : Int) ^ m) = (N : Int) by rw [hN]; simp]
    exact w64 (by omega) (by omega)
  clear hN
  gi_wp2
  rw [hs]
  gi_loopw [6] (fun p wr => ∃ k : Nat, p = .int .i64 (k : Int) ∧ k ≤ N ∧ J k wr) (fun p _ => N - (intOf p).toNat)
  case atStart => exact ⟨0, rfl, by omega, h0⟩
  case round =>
    obtain ⟨k, rfl, hk, hJ⟩ := hrel
    by_cases ck : k < N
    · have q1 : decide (k < N) = true := decide_eq_true ck
      have hw : IntKind.u8.wrap (k : Int) = (k : Int) := by rw [IntKind.wrap_u8]; omega
      obtain ⟨fn, tmps, assign, body, hy, hR⟩ := hY k wr ck hJ
      gi_wp2
      refine ⟨fun h => by simp [Fence.wide] at h, (RoundIn.mono (⟨hR.1, fun c cs _ => hR.2 c cs (room_wide _)⟩ : RoundIn Fence.wide (n - 1) Try.prog l fn tmps assign body _ _) ?_)⟩
      rintro e W3 ⟨rfl, hJ3⟩
      gi_wp2
      go_roundw
      case rel => exact ⟨k + 1, by go_num, by omega, hJ3⟩
      case measure => simp [intOf]; omega
    · have q1 : decide (k < N) = false := decide_eq_false ck
      have ek : k = N := by omega
      subst ek
      gi_wp2
      go_end0
      exact ⟨⟨_, rfl⟩, hJ⟩
theorem Own.loose {w0 W : World} {F F' : Nat → Option Obj} {L : List Res} (H : Own w0 F' L W) (h : Fle F F') : Own w0 F L W :=
  ⟨H.below, fun g o hg => H.holds g o (h g o hg), H.ats, fun y hy k hk => by
    cases hF : F k with
    | none => rfl
    | some o => have := H.apart y hy k hk; rw [h k o hF] at this; exact this, H.sep⟩
theorem perm_4 {α : Type} (a b c d : α) (l : List α) : (a :: b :: c :: d :: l).Perm (b :: c :: d :: a :: l) :=
  (List.Perm.swap b a _).trans (.cons b ((List.Perm.swap c a _).trans (.cons c (List.Perm.swap d a _))))
/-- what the crashes lay: the newest first -/
def blks : List Nat → List Res
  | [] => []
  | g :: gs => .blk g 5 [.int .u8 (gs.length : Int)] :: blks gs
def ccells : List Nat → List Value
  | [] => []
  | g :: gs => ccells gs ++ [.slice (some ⟨g, 0, none⟩) 1 1, .int .i64 (-1), .int .i64 0]
set_option maxRecDepth 100000 in
set_option maxHeartbeats 4000000 in
theorem all_calls (n : Int) (m N : Nat) (hn : mx 0 (mn n 8) = (m : Int)) (hm : m ≤ 8) (hN : N = 2 ^ m) (w : World) :
    Calls Try.prog 24 #[.int .i64 n] w fun e W => ∃ gs v, gs.length = N ∧ e = .returned v ∧ Own w F0 (.row v 37 3 N (ccells gs) :: blks gs) W := by
  have hc := crash_near.calls n 8 m
  rw [show crash_near.f n 8 = some (m : Int) by unfold crash_near.f; rw [hn]] at hc
  clear hn
  refine (callsIn_wide (n := 9)).1 (callsIn_of_wp_marks Try.func24 rfl trivial ?_ rfl)
  simp only [Try.ntmps24, List.size_toArray, List.length_cons, List.length_nil, Nat.reduceAdd, Nat.reduceSub, Array.replicate_succ, Array.replicate_zero, List.push_toArray, List.append_toArray, List.nil_append, List.cons_append]
  gi_wp2
  have H := (Own.start w).alloc 31 [.slice none 0 0]
  generalize hB3 : w.heap.size = B3 at H ⊢
  refine ⟨trivial, (callsIn_wide.2 (hc _ trivial)).mono ?_⟩
  rintro e W ⟨rfl, hb⟩
  replace H := H.to hb
  clear hb hc
  gi_wp2
  refine ⟨trivial, (callsIn_wide.2 (each_own H (m : Int))).mono ?_⟩
  clear H
  rintro e W ⟨Bn, rfl, H⟩
  gi_wp2
  have H0 := (H.cons (r := .row (.slice none 0 0) 37 3 0 []) (Below.refl _ _) (own_nil _ _ _ _) (fun k hk => by cases hk))
  clear H
  refine rf_own (n := 8) (N := N) rfl (Go.Proofs.enters_of Try.func93 (by kernel_rfl) rfl) rfl
    (fun k L => ∃ gs v, gs.length = k ∧ L = .row v 37 3 k (ccells gs) :: .blk Bn 3 [.int .i64 (m : Int)] :: .blk B3 31 [v] :: blks gs)
    (fun k a L => ∃ gs v g B4, gs.length = k ∧ a = { tmps := #[.int .i64 n, undef, .slice none 0 0, .pointer (some ⟨B3, 0, none⟩), .pointer (some ⟨B4, 0, none⟩), .int .i64 n, .int .i64 (m : Int), .func (.func 93) #[] #[.pointer (some ⟨Bn, 0, none⟩)], .agg #[.slice (some ⟨g, 0, none⟩) 1 1, .int .i64 (-1), .int .i64 0], undef, undef, undef, undef, undef], defers := [] } ∧
      L = .blk B4 37 [.slice (some ⟨g, 0, none⟩) 1 1, .int .i64 (-1), .int .i64 0] :: .blk g 5 [.int .u8 (k : Int)] :: .row v 37 3 k (ccells gs) :: .blk Bn 3 [.int .i64 (m : Int)] :: .blk B3 31 [v] :: blks gs)
    H0 ⟨[], _, rfl, rfl⟩
    (fun k W => .agg #[.slice (some ⟨W.heap.size, 0, none⟩) 1 1, .int .i64 (-1), .int .i64 0]) (fun k => .cells #[.int .u8 (k : Int)] 5) (fun W => W.cell? ⟨Bn, 0, none⟩ = some (.int .i64 (m : Int)))
    ?_ (fun l J W h1 h2 h3 => each1_in 8 l Bn m N hm hN J h1 h2 W h3) ?assign ?body ?done
  · rintro F k L W ⟨gs, v, hl, rfl⟩ H
    exact H.cell (.tail .head) 0
  case assign =>
    rintro F l k L W hk ⟨gs, v, hl, rfl⟩ H
    have H1 := H.alloc 5 [.int .u8 (k : Int)]
    clear H
    refine regIn_lit rfl (fun ⟨_, _, h⟩ => h) ?_
    simp only [List.zip_toArray, List.zip_cons_cons, List.zip_nil_right, List.zip_nil_left, List.foldl_toArray, List.foldl_cons, List.foldl_nil, List.setIfInBounds_toArray, List.set_cons_zero, List.set_cons_succ]
    rw [show (W.alloc (.cells #[.int .u8 (k : Int)] 5)) = W.alloc (.cells [Value.int .u8 (k : Int)].toArray 5) from rfl]
    generalize W.alloc (.cells [Value.int .u8 (k : Int)].toArray 5) = W1 at H1 ⊢
    generalize W.heap.size = g at H1 ⊢
    have H := H1
    clear H1
    go_wp2_with (first
    | ((with_reducible refine gate_dst (N := 4) rfl ?_); refine l_allocA rfl H 37 rfl _ zero37 ?_; clear H; intro g4 W H)
    | ((with_reducible refine gate_store (t := 37) (p := 4) rfl ?_); refine l_storeW rfl H 37 _ _ rfl _ rfl _ rfl (by (repeat (first | exact In.head | apply In.tail))) _ size37 (by (first | rfl | assumption | omega | (simp only [nums_length]; omega) | (simp [nums_length, zs]; done) | (simp [nums_length, zs]; omega))) (by (first | rfl | assumption | omega | (simp only [nums_length]; omega) | (simp [nums_length, zs]; done) | (simp [nums_length, zs]; omega))) (by (first | exact nums_one | (intro u hu; simp at hu; subst hu; rfl) | (intro u hu; simp at hu; rcases hu with rfl | rfl | rfl | rfl | rfl | rfl | rfl <;> rfl) | (intro u hu; simp at hu; rcases hu with rfl | rfl | rfl | rfl <;> rfl) | (intro u hu; simp at hu; rcases hu with rfl | rfl | rfl <;> rfl) | (intro u hu; simp at hu; rcases hu with rfl | rfl <;> rfl))) ?_; clear H; intro W H))
    exact ⟨_, ⟨gs, v, g, g4, hl, rfl, rfl⟩, H⟩
  case body =>
    rintro F l k a1 L W hk ⟨gs, v, g, B4, hl, rfl, rfl⟩ H
    apply wpIn_block
    refine regIn_lit rfl (fun ⟨_, _, h⟩ => h) ?_
    have hk256 : k < 256 := Nat.lt_of_lt_of_le hk (by subst hN; exact Nat.le_trans (Nat.pow_le_pow_right (by decide) hm) (by decide))
    go_wp2_with (first
    | ((with_reducible refine gate_dst (N := 9) rfl ?_); refine l_load1 rfl H 31 _ rfl _ _ rfl (by (repeat (first | exact In.head | apply In.tail))) _ Try.underlying31 rfl _ (by first | rfl | assumption | exact nums_at _ (by omega)) ?_)
    | ((with_reducible refine gate_dst (N := 10) rfl ?_); refine l_loadA rfl H 37 _ rfl _ rfl (by (repeat (first | exact In.head | apply In.tail))) _ _ Try.underlying37 rfl size37 (by (first | rfl | assumption | omega | (simp only [nums_length]; omega) | (simp [nums_length, zs]; done) | (simp [nums_length, zs]; omega))) ?_)
    | ((with_reducible refine gate_dst (N := 11) rfl ?_); refine l_build1A rfl H 31 37 _ rfl Try.underlying31 _ rfl _ _ zs37 rfl (by (first | rfl | assumption | omega | (simp only [nums_length]; omega) | (simp [nums_length, zs]; done) | (simp [nums_length, zs]; omega))) (by decide) (by decide) ?_; clear H; intro g11 W H)
    | ((with_reducible refine gate_dst (N := 12) rfl ?_); refine l_append1 rfl H _ _ 31 37 rfl Try.underlying31 _ _ _ inf37 rfl (by decide) (by decide) _ _ _ rfl (by (repeat (first | exact In.head | apply In.tail))) _ _ rfl (by (repeat (first | exact In.head | apply In.tail))) (by (first | rfl | assumption | omega | (simp only [nums_length]; omega) | (simp [nums_length, zs]; done) | (simp [nums_length, zs]; omega))) (by (first | exact nums_one | (intro u hu; simp at hu; subst hu; rfl) | (intro u hu; simp at hu; rcases hu with rfl | rfl | rfl | rfl | rfl | rfl | rfl <;> rfl) | (intro u hu; simp at hu; rcases hu with rfl | rfl | rfl | rfl <;> rfl) | (intro u hu; simp at hu; rcases hu with rfl | rfl | rfl <;> rfl) | (intro u hu; simp at hu; rcases hu with rfl | rfl <;> rfl))) (by omega) ?_; clear H; intro v12 W H; obtain ⟨A12, c12, rfl⟩ := H.row_slice (.tail (.tail (.tail .head))))
    | ((with_reducible refine gate_store (t := 31) (p := 3) rfl ?_); refine l_store1 rfl H 31 _ _ rfl _ _ rfl _ (by first | (go_simp; done) | (go_simp; with_reducible rfl)) (by (repeat (first | exact In.head | apply In.tail))) rfl rfl size31 (by (first | rfl | assumption | omega | (simp only [nums_length]; omega) | (simp [nums_length, zs]; done) | (simp [nums_length, zs]; omega))) ?_; clear H; intro W H))
    subst hl
    have H1 := (H.del .head).del .head
    exact ⟨_, ⟨g :: gs, .slice A12 (gs.length + 1) c12, rfl, rfl⟩, H1.perm (perm_4 _ _ _ _ _)⟩
  case done =>
    rintro F D L W ⟨gs, v, hl, rfl⟩ H hF hD
    have c0 := H.cell (.tail (.tail .head)) 0
    gi_wp2
    refine ⟨by simp, .inl ⟨_, _, rfl, run_takeDeferred (H.holds D _ hF), ?_⟩⟩
    have H1 := H.putF D _ (.deferred none) hF hD
    refine ⟨_, results_tmp rfl _ _ _, gs, v, hl, rfl, ?_⟩
    have H2 := (H1.del (.tail .head)).del (.tail .head)
    exact H2.loose (fun g o h => by cases h)
end Go.Proofs.Ythlpimojojofbaa.O
