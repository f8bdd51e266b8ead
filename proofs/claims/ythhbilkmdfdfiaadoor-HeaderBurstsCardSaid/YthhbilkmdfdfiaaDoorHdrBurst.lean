/- strandlinelaw18.HeaderBursts. -/
import Derived.Test.YthhbilkmdfdfiaaDoorHdrLaw
import Derived.Test.YthhbilkmdfdfiaaDoorBurst
set_option linter.unusedVariables false
set_option linter.unusedSimpArgs false
namespace Go.Proofs.YthhbilkmdfdfiaaDoor.O
open Go.RowKit Go.Proofs.YthhbilkmdfdfiaaDoorW.PrintWords Go.Proofs.YthhbilkmdfdfiaaDoorW.PrintLast Go.Proofs.YthhbilkmdfdfiaaDoorW.PrintMore Go.Proofs.YthhbilkmdfdfiaaDoor.F Go.Proofs.YthhbilkmdfdfiaaDoor.F.Nums Go.Proofs.YthhbilkmdfdfiaaDoor.Plain
theorem updB_takeN (a : Nat) (wl : List Int) (n k : Nat) (b : List Int) : (updB a wl k b).take n = updB a wl k (b.take n) := by
  induction k with
  | zero => rfl
  | succ k ih =>
    show ((updB a wl k b).set (a + k) (wl.getD k 0)).take n = (updB a wl k (b.take n)).set (a + k) (wl.getD k 0)
    rw [List.take_set, ih]
theorem updB_dropN (a : Nat) (wl : List Int) (n k : Nat) (b : List Int) (h : a + k ≤ n) : (updB a wl k b).drop n = b.drop n := by
  induction k with
  | zero => rfl
  | succ k ih =>
    show ((updB a wl k b).set (a + k) (wl.getD k 0)).drop n = b.drop n
    rw [List.drop_set_of_lt (by omega), ih (by omega)]
theorem take_le {l m : List Int} {k j : Nat} (h : l.take k = m.take k) (hj : j ≤ k) : l.take j = m.take j := by
  rw [← Nat.min_eq_left hj, ← List.take_take, h, List.take_take]
theorem nS_eq {s t : List Int} {a : Nat} (h : s.drop a = t.drop a) : nS s a = nS t a := by unfold nS; rw [h]
theorem hburst {S wl : List Int} {B : List Int} (hl : S.length = 64) (hb : Bytes S) (hw : Bytes wl) (h0 : decH S = 0) (hB : S.take 37 = B) (hbl : B.length = 37) (hs : nS S 37 = (sumN B : Int)) (hz : S.drop 41 = zs 23) (a k : Nat) (ha : a < 64) (hk : k ≤ 4) (h1 : a < 37 → a + k ≤ 37) (hx : k = 4 ∨ 64 ≤ a + k ∨ (a < 37 ∧ 37 ≤ a + k)) :
    ((decH (updB a wl k S) == 0) == (updB a wl k S == S)) = true := by
  have hu : Bytes (updB a wl k S) := updB_in hb hw k
  have hul := updB_len a wl S k
  by_cases hc : updB a wl k S = S
  · rw [hc, h0, beq_self_eq_true, beq_self_eq_true]
    rfl
  · have hne : decH (updB a wl k S) ≠ 0 := by
      intro hd
      obtain ⟨t5, d41, hsum, -⟩ := decH_ok hd
      apply hc
      by_cases h37 : a < 37
      · have hdr := updB_dropN a wl 37 k S (h1 h37)
        rw [nS_eq hdr, hs] at hsum
        have hm := sumN_inj (Int.ofNat_inj.mp hsum).symm
        rw [updB_takeN, hB] at hm
        have e4 : updB a wl k B = updB a wl 4 B := by
          rcases hx with rfl | hx | hx
          · rfl
          · have := h1 h37
            omega
          · obtain ⟨j, hj⟩ : ∃ j, 4 = k + j := ⟨4 - k, by omega⟩
            rw [hj]
            exact (updB_stop (by omega) j).symm
        rw [e4] at hm
        have hBb : Bytes B := by rw [← hB]; exact bytes_take hb 37
        have := CrcMath.upd_sum hBb hw hm
        rw [← List.take_append_drop 37 (updB a wl k S), updB_takeN, hB, e4, this, hdr, ← hB, List.take_append_drop]
      · have ht : (updB a wl k S).take 37 = S.take 37 := take_le (CrcMath.updB_take a wl S k) (by omega)
        rw [ht, hB, ← hs] at hsum
        have p4 : ∀ t : List Int, Bytes t → t.length = 64 → putl (nS t 37).toNat 4 = (t.drop 37).take 4 := fun t bt lt => by
          unfold nS
          rw [Int.toNat_natCast]
          exact putl_getn (bytes_drop bt 37) 4 (by rw [List.length_drop]; omega)
        have e1 := p4 _ hu (by rw [hul]; exact hl)
        have e2 := p4 _ hb hl
        rw [hsum, e2] at e1
        rw [← List.take_append_drop 37 (updB a wl k S), ht, ← take_split (updB a wl k S) 37 4, ← e1, d41, ← hz, take_split S 37 4, List.take_append_drop]
    rw [show (decH (updB a wl k S) == 0) = false by simp [hne], show (updB a wl k S == S) = false by simp [hc]]
    rfl
theorem decV_agg (s : List Int) : ∃ X : List Value, decV s = .agg X.toArray ∧ X.length = 7 ∧ ∀ u ∈ X, u.oneCell' = true := by
  unfold decV hvS
  split
  · exact ⟨_, rfl, rfl, by intro u hu; simp at hu; rcases hu with rfl | rfl | rfl | rfl | rfl | rfl | rfl <;> rfl⟩
  · exact ⟨_, rfl, rfl, by intro u hu; simp at hu; rcases hu with rfl | rfl <;> rfl⟩
theorem three_of (a k : Nat) (hx3 : k = 4 ∨ 64 ≤ a + k ∨ (a < 37 ∧ 37 ≤ a + k)) : decide ((k : Int) < 4) = false ∨ (decide ((k : Int) < 4) = true ∧ decide (((a + k : Nat) : Int) < 64) = false) ∨ (decide ((k : Int) < 4) = true ∧ decide (((a + k : Nat) : Int) < 64) = true ∧ (decide ((a : Int) < 37) == decide (((a + k : Nat) : Int) < 37)) = false) := by
  by_cases c1 : k < 4
  · right
    by_cases c2 : a + k < 64
    · right
      refine ⟨decide_eq_true (by omega), decide_eq_true (by omega), ?_⟩
      rcases hx3 with h | h | ⟨h1, h2⟩
      · omega
      · omega
      · rw [decide_eq_true (show (a : Int) < 37 by omega), decide_eq_false (show ¬ ((a + k : Nat) : Int) < 37 by omega)]
        rfl
    · exact .inl ⟨decide_eq_true (by omega), decide_eq_false (by omega)⟩
  · exact .inl (decide_eq_false (by omega))
theorem burst64 (z : Int) : ∃ a : Nat, (IntKind.u64.wrap z).tmod 64 = (a : Int) ∧ wrap64 (a : Int) = (a : Int) ∧ a < 64 := by
  have y0 : 0 ≤ IntKind.u64.wrap z := by rw [IntKind.wrap_u64]; exact Int.emod_nonneg _ (by decide)
  generalize IntKind.u64.wrap z = y at y0
  rw [Int.tmod_eq_emod_of_nonneg y0]
  refine ⟨(y % 64).toNat, by omega, w64 (by omega) (by omega), by omega⟩
set_option maxRecDepth 100000 in
set_option maxHeartbeats 8000000 in
theorem headerBursts_law (ep seq fi h0 h1 h2 h3 at_ x0 x1 x2 x3 : Int) (he : 0 ≤ ep ∧ ep ≤ 18446744073709551615) (hx : Bytes [x0, x1, x2, x3]) (w : World) (hH : Half w) :
    Calls Tryd.prog 10 #[hV ep seq fi h0 h1 h2 h3, .int .i64 at_, .agg (nums .u8 [x0, x1, x2, x3]).toArray] w fun e W => e = .returned (.bool true) ∧ Below w.heap.size w W := by
  have H := Own.start w
  have R2 := fun W => rright_calls ep seq fi h0 h1 h2 h3 he.1 W
  have hn4 : (nums .u8 [x0, x1, x2, x3]).length = 4 := rfl
  cases hr : rightH ep seq fi h0 h1 h2 h3 with
  | false =>
    rw [hr] at R2
    clear hr
    go_enter Tryd.func10, Tryd.ntmps10
    go_wp2_with (first
    | ((with_reducible refine gate_dst (N := 3) rfl ?_); refine l_boxA rfl H 54 _ rfl _ rfl ?_; clear H; intro g3 W H)
    | ((with_reducible refine gate_dst (N := 5) rfl ?_); refine l_boxA rfl H 29 _ rfl _ rfl ?_; clear H; intro g5 W H)
    | ((with_reducible refine gate_dst (N := 13) rfl ?_); refine l_loadA rfl H 54 _ rfl _ rfl (by (repeat (first | exact In.head | apply In.tail))) _ _ Tryd.underlying54 rfl size54 (by (first | rfl | assumption | omega | (simp only [nums_length]; omega) | (simp [nums_length, zs]; done) | (simp [nums_length, zs]; omega))) ?_)
    | (go_at_call 38; (with_reducible refine (R2 _).mono ?_); rintro e W ⟨rfl, hb⟩; replace H := H.to hb; clear hb)
    | (go_at_call 37; (with_reducible refine (awake18_calls _ (hH.below H.below)).mono ?_); rintro e W ⟨rfl, hb⟩; replace H := H.to hb; clear hb))
    go_ret
    exact ⟨rfl, H.below⟩
  | true =>
    rw [hr] at R2
    have EN := fun W h => hencode_ok ep seq fi h0 h1 h2 h3 W hr he h
    have hSl := hS_len ep seq fi h0 h1 h2 h3
    have hSb := hS_bytes ep seq fi h0 h1 h2 h3
    have hd0 := dec_S ep seq fi h0 h1 h2 h3 hr he
    have hB : (hS ep seq fi h0 h1 h2 h3).take 37 = hB ep seq fi h0 h1 h2 h3 := take_B _ _ _ _ _ _ _ _
    have hbl := hB_len ep seq fi h0 h1 h2 h3
    have hsum := (fields_S ep seq fi h0 h1 h2 h3 hr he).2.2.2.2.2.2.2
    have hz := (decH_ok hd0).2.1
    have HB := fun a k ha hk h1 h2 => hburst (wl := [x0, x1, x2, x3]) hSl hSb hx hd0 hB hbl hsum hz a k ha hk h1 h2
    clear hd0 hB hbl hsum hz hr
    have hsz : (nums .u8 (hS ep seq fi h0 h1 h2 h3)).length = 64 := by rw [nums_length, hSl]
    generalize hS ep seq fi h0 h1 h2 h3 = SS at *
    obtain ⟨a, ha1, ha2, ha⟩ := burst64 at_
    have ha2' := (i64_w _).trans ha2
    go_enter Tryd.func10, Tryd.ntmps10
    go_wp2_with (first
    | ((with_reducible refine gate_dst (N := 3) rfl ?_); refine l_boxA rfl H 54 _ rfl _ rfl ?_; clear H; intro g3 W H)
    | ((with_reducible refine gate_dst (N := 5) rfl ?_); refine l_boxA rfl H 29 _ rfl _ rfl ?_; clear H; intro g5 W H)
    | ((with_reducible refine gate_dst (N := 13) rfl ?_); refine l_loadA rfl H 54 _ rfl _ rfl (by (repeat (first | exact In.head | apply In.tail))) _ _ Tryd.underlying54 rfl size54 (by (first | rfl | assumption | omega | (simp only [nums_length]; omega) | (simp [nums_length, zs]; done) | (simp [nums_length, zs]; omega))) ?_)
    | ((with_reducible refine gate_dst (N := 18) rfl ?_); refine l_loadA rfl H 54 _ rfl _ rfl (by (repeat (first | exact In.head | apply In.tail))) _ _ Tryd.underlying54 rfl size54 (by (first | rfl | assumption | omega | (simp only [nums_length]; omega) | (simp [nums_length, zs]; done) | (simp [nums_length, zs]; omega))) ?_)
    | ((with_reducible refine gate_dst (N := 7) rfl ?_); refine l_allocA rfl H 50 rfl _ zero50 ?_; clear H; intro g7 W H)
    | ((with_reducible refine gate_store (t := 50) (p := 7) rfl ?_); refine l_storeW rfl H 50 _ _ rfl _ rfl _ rfl (by (repeat (first | exact In.head | apply In.tail))) _ size50 (by (first | rfl | assumption | omega | (simp only [nums_length]; omega) | (simp [nums_length, zs]; done) | (simp [nums_length, zs]; omega))) (by (first | rfl | assumption | omega | (simp only [nums_length]; omega) | (simp [nums_length, zs]; done) | (simp [nums_length, zs]; omega))) (by (first | exact nums_one | assumption | (intro u hu; simp at hu; subst hu; rfl) | (intro u hu; simp at hu; rcases hu with rfl | rfl | rfl | rfl | rfl | rfl | rfl <;> rfl) | (intro u hu; simp at hu; rcases hu with rfl | rfl | rfl | rfl <;> rfl) | (intro u hu; simp at hu; rcases hu with rfl | rfl | rfl <;> rfl) | (intro u hu; simp at hu; rcases hu with rfl | rfl <;> rfl))) ?_; clear H; intro W H)
    | ((with_reducible refine gate_dst (N := 22) rfl ?_); refine l_loadA rfl H 50 _ rfl _ rfl (by (repeat (first | exact In.head | apply In.tail))) _ _ Tryd.underlying50 rfl size50 (by (first | rfl | assumption | omega | (simp only [nums_length]; omega) | (simp [nums_length, zs]; done) | (simp [nums_length, zs]; omega))) ?_)
    | ((with_reducible refine gate_dst (N := 9) rfl ?_); refine l_allocA rfl H 50 rfl _ zero50 ?_; clear H; intro g9 W H)
    | ((with_reducible refine gate_store (t := 50) (p := 9) rfl ?_); refine l_storeW rfl H 50 _ _ rfl _ rfl _ rfl (by (repeat (first | exact In.head | apply In.tail))) _ size50 (by (first | rfl | assumption | omega | (simp only [nums_length]; omega) | (simp [nums_length, zs]; done) | (simp [nums_length, zs]; omega))) (by (first | rfl | assumption | omega | (simp only [nums_length]; omega) | (simp [nums_length, zs]; done) | (simp [nums_length, zs]; omega))) (by (first | exact nums_one | assumption | (intro u hu; simp at hu; subst hu; rfl) | (intro u hu; simp at hu; rcases hu with rfl | rfl | rfl | rfl | rfl | rfl | rfl <;> rfl) | (intro u hu; simp at hu; rcases hu with rfl | rfl | rfl | rfl <;> rfl) | (intro u hu; simp at hu; rcases hu with rfl | rfl | rfl <;> rfl) | (intro u hu; simp at hu; rcases hu with rfl | rfl <;> rfl))) ?_; clear H; intro W H)
    | (go_at_call 36; (with_reducible refine (EN _ (hH.below H.below)).mono ?_); rintro e W ⟨rfl, hb⟩; replace H := H.to hb; clear hb)
    | (go_at_call 38; (with_reducible refine (R2 _).mono ?_); rintro e W ⟨rfl, hb⟩; replace H := H.to hb; clear hb))
    go_loopg [10] 4 (fun gq v10 w' => ∃ k : Nat, v10 = .int .i64 (k : Int) ∧ k + gq = 4 ∧ (a < 37 → a + k ≤ 37) ∧ Own w F0 [.blk g9 50 (nums .u8 (updB a [x0, x1, x2, x3] k SS)), .blk g7 50 (nums .u8 SS), .blk g5 29 (nums .u8 [x0, x1, x2, x3]), .blk g3 54 [.int .u64 ep, .int .i64 seq, .int .i64 fi, .int .i64 h0, .int .i64 h1, .int .i64 h2, .int .i64 h3]] w')
    case atStart => exact ⟨0, rfl, rfl, fun h => by omega, H⟩
    case round =>
      clear H
      obtain ⟨k, rfl, hk, hle, H⟩ := hrel
      have hul := updB_len a [x0, x1, x2, x3] SS k
      have hub : Bytes (updB a [x0, x1, x2, x3] k SS) := updB_in hSb hx k
      have w1 : wrap64 ((a : Int) + (k : Int)) = ((a + k : Nat) : Int) := by rw [w64 (by omega) (by omega)]; omega
      have w1' := (i64_w _).trans w1
      by_cases hcont : k < 4 ∧ a + k < 64 ∧ (a < 37 → a + k < 37)
      · obtain ⟨c1, c2, c3⟩ := hcont
        obtain ⟨gk', rfl⟩ : ∃ q, gk = q + 1 := ⟨gk - 1, by omega⟩
        have q0 : decide ((k : Int) < 4) = true := decide_eq_true (by omega)
        have q1 : ((0 : Int) ≤ (k : Int)) = True := eq_true (by omega)
        have q2 : ((k : Int) < 4) = True := eq_true (by omega)
        have q3 : decide (((a + k : Nat) : Int) < 64) = true := decide_eq_true (by omega)
        have q4 : ((0 : Int) ≤ ((a + k : Nat) : Int)) = True := eq_true (by omega)
        have q5 : (((a + k : Nat) : Int) < 64) = True := eq_true (by omega)
        have q6 : (decide ((a : Int) < 37) == decide (((a + k : Nat) : Int) < 37)) = true := by
          rw [beq_iff_eq, decide_eq_decide]
          omega
        have hat := nums_at (k := .u8) (xs := [x0, x1, x2, x3]) k c1
        have hsuc : (updB a [x0, x1, x2, x3] k SS).set (a + k) ([x0, x1, x2, x3].getD k 0) = updB a [x0, x1, x2, x3] (k + 1) SS := rfl
        have hfit : a + k < (nums .u8 (updB a [x0, x1, x2, x3] k SS)).length := by rw [nums_length, hul, hSl]; exact c2
        have HK := Aside0.mk (And.intro hk (And.intro c1 (And.intro hsuc (show a < 37 → a + (k + 1) ≤ 37 by omega))))
        clear hsuc hk c1 c3
        generalize [x0, x1, x2, x3].getD k 0 = x at hat HK
        generalize a + k = m at *
        generalize updB a [x0, x1, x2, x3] k SS = cu at *
        go_wp2_with (first
    | ((with_reducible refine gate_dst (N := 51) rfl ?_); refine l_load1 rfl H 5 _ rfl _ _ rfl (by (repeat (first | exact In.head | apply In.tail))) _ Tryd.underlying5 rfl _ (by first | rfl | assumption | exact nums_at _ (by omega)) ?_)
    | ((with_reducible refine gate_store (t := 5) (p := 52) rfl ?_); refine l_store1 rfl H 5 _ _ rfl _ _ rfl _ (by first | (go_simp; done) | (go_simp; with_reducible rfl)) (by (repeat (first | exact In.head | apply In.tail))) rfl rfl size5 (by (first | rfl | assumption | omega | (simp only [nums_length]; omega) | (simp [nums_length, zs]; done) | (simp [nums_length, zs]; omega))) ?_; clear H; intro W H))
        rw [nums_set, HK.out.2.2.1] at H
        go_roundg gk'
        case measure => have := HK.out; omega
        case rel =>
          have hk := HK.out.2.1
          exact ⟨k + 1, by rw [w64 (by omega) (by omega)]; rfl, by have := HK.out.1; omega, HK.out.2.2.2, H⟩
      · have hk4 : k ≤ 4 := Nat.le.intro hk
        have hx3 : k = 4 ∨ 64 ≤ a + k ∨ (a < 37 ∧ 37 ≤ a + k) := by
          by_cases c1 : k < 4
          · by_cases c2 : a + k < 64
            · by_cases c3 : a < 37 → a + k < 37
              · exact absurd ⟨c1, c2, c3⟩ hcont
              · have c3' := Classical.not_imp.1 c3
                exact .inr (.inr ⟨c3'.1, Nat.not_lt.1 c3'.2⟩)
            · exact .inr (.inl (Nat.not_lt.1 c2))
          · exact .inl (Nat.le_antisymm hk4 (Nat.not_lt.1 c1))
        clear hcont
        have hbb := HB a k ha hk4 hle hx3
        have hcl : (updB a [x0, x1, x2, x3] k SS).length = 64 := by rw [hul, hSl]
        have hcn : (nums .u8 (updB a [x0, x1, x2, x3] k SS)).length = 64 := by rw [nums_length, hcl]
        have DC := fun W h => hdecode_calls (updB a [x0, x1, x2, x3] k SS) hcl hub W h
        have SE := fun W => heq64 (updB a [x0, x1, x2, x3] k SS) SS hcl hSl hub hSb W
        obtain ⟨X, hX, hX7, hX1⟩ := decV_agg (updB a [x0, x1, x2, x3] k SS)
        rw [hX] at DC
        have three := three_of a k hx3
        clear hX hul hk hle HB hub hx3 hk4
        generalize a + k = m at *
        generalize updB a [x0, x1, x2, x3] k SS = CC at *
        generalize decH CC = D at *
        rcases three with q0 | ⟨q0, q1⟩ | ⟨q0, q1, q2⟩
        all_goals
          go_wp2_with (first
    | ((with_reducible refine gate_dst (N := 54) rfl ?_); refine l_loadA rfl H 50 _ rfl _ rfl (by (repeat (first | exact In.head | apply In.tail))) _ _ Tryd.underlying50 rfl size50 (by (first | rfl | assumption | omega | (simp only [nums_length]; omega) | (simp [nums_length, zs]; done) | (simp [nums_length, zs]; omega))) ?_)
    | ((with_reducible refine gate_dst (N := 11) rfl ?_); refine l_allocA rfl H 54 rfl _ zero54 ?_; clear H; intro g11 W H)
    | ((with_reducible refine gate_store (t := 54) (p := 11) rfl ?_); refine l_storeW rfl H 54 _ _ rfl _ rfl _ rfl (by (repeat (first | exact In.head | apply In.tail))) _ size54 (by (first | rfl | assumption | omega | (simp only [nums_length]; omega) | (simp [nums_length, zs]; done) | (simp [nums_length, zs]; omega))) (by (first | rfl | assumption | omega | (simp only [nums_length]; omega) | (simp [nums_length, zs]; done) | (simp [nums_length, zs]; omega))) (by (first | exact nums_one | assumption | (intro u hu; simp at hu; subst hu; rfl) | (intro u hu; simp at hu; rcases hu with rfl | rfl | rfl | rfl | rfl | rfl | rfl <;> rfl) | (intro u hu; simp at hu; rcases hu with rfl | rfl | rfl | rfl <;> rfl) | (intro u hu; simp at hu; rcases hu with rfl | rfl | rfl <;> rfl) | (intro u hu; simp at hu; rcases hu with rfl | rfl <;> rfl))) ?_; clear H; intro W H)
    | ((with_reducible refine gate_dst (N := 63) rfl ?_); refine gate_guard (by rfl) ?_; refine l_loadA rfl H 50 _ rfl _ rfl (by (repeat (first | exact In.head | apply In.tail))) _ _ Tryd.underlying50 rfl size50 (by (first | rfl | assumption | omega | (simp only [nums_length]; omega) | (simp [nums_length, zs]; done) | (simp [nums_length, zs]; omega))) ?_)
    | ((with_reducible refine gate_dst (N := 64) rfl ?_); refine gate_guard (by rfl) ?_; refine l_loadA rfl H 50 _ rfl _ rfl (by (repeat (first | exact In.head | apply In.tail))) _ _ Tryd.underlying50 rfl size50 (by (first | rfl | assumption | omega | (simp only [nums_length]; omega) | (simp [nums_length, zs]; done) | (simp [nums_length, zs]; omega))) ?_)
          | (go_at_call 34; (with_reducible refine (DC _ (hH.below H.below)).mono ?_); rintro e W ⟨rfl, hb⟩; replace H := H.to hb; clear hb)
          | ((with_reducible refine gate_dst (N := 65) rfl ?_); refine gate_guard (by rfl) ?_; refine l_run rfl (.bool (CC == SS)) (r_eqlS 50 _ _ _ rfl _ _ rfl rfl _ _ (by kernel_rfl) (SE _)) ?_)
          | (go_at_call 37; (with_reducible refine (awake18_calls _ (hH.below H.below)).mono ?_); rintro e W ⟨rfl, hb⟩; replace H := H.to hb; clear hb))
          go_ret
          exact ⟨rfl, H.below⟩
end Go.Proofs.YthhbilkmdfdfiaaDoor.O
