/- plan by hand: sector, Write, Whole, and the reference's Sector, Write, Whole. -/
import Derived.Test.YthlpimojojofbaaSecs
import Derived.Test.YthlpimojojofbaaStampLaw
import Derived.Test.YthlpimojojofbaaSpanC
namespace Go.Proofs.Ythlpimojojofbaa.O
open Go.RowKit Go.Proofs.YthlpimojojofbaaW.PrintWords Go.Proofs.YthlpimojojofbaaW.PrintLast Go.Proofs.YthlpimojojofbaaW.PrintMore Go.Proofs.Ythlpimojojofbaa.F Go.Proofs.Ythlpimojojofbaa.F.Nums Go.Proofs.Ythlpimojojofbaa.Plain
attribute [local go_sem] max2_int min2_int max_two min_two max_three min_three max_four min_four
set_option linter.unusedVariables false
set_option linter.unusedSimpArgs false
/-- what a sector has of a body -/
def bodySec (body : List Int) (i : Nat) : List Int := (body.drop (52 * i)).take 52
theorem bodySec_len (body : List Int) (i : Nat) : (bodySec body i).length = min (52 * (i + 1)) body.length - min (52 * i) body.length := by
  unfold bodySec
  rw [List.length_take, List.length_drop]
  omega
/-- n sectors of a body, from number a on, end to end -/
def flatP (e : Int) (body : List Int) (a : Nat) : Nat → List Int
  | 0 => []
  | n + 1 => flatP e body a n ++ sealF e ((a + n : Nat) : Int) (bodySec body (a + n))
theorem flatP_len (e : Int) (body : List Int) (a n : Nat) : (flatP e body a n).length = 64 * n := by
  induction n with
  | zero => rfl
  | succ n ih =>
    show (flatP e body a n ++ sealF e ((a + n : Nat) : Int) (bodySec body (a + n))).length = _
    rw [List.length_append, ih, sealF_len]
    omega
theorem bodySec_bytes {body : List Int} (h : Bytes body) (i : Nat) : Bytes (bodySec body i) := bytes_take (bytes_drop h _) _
theorem flatP_bytes {body : List Int} (h : Bytes body) (e : Int) (a n : Nat) : Bytes (flatP e body a n) := by
  induction n with
  | zero => exact fun c hc => by cases hc
  | succ n ih => exact bytes_append ih (seal_bytes _ _ (bodySec_bytes h _))
theorem mn_nat (a b : Nat) : mn (a : Int) (b : Int) = ((min a b : Nat) : Int) := by
  unfold mn
  split <;> omega
set_option maxRecDepth 100000 in
set_option maxHeartbeats 4000000 in
theorem sector_calls (e : Int) (h0 : 0 ≤ e) (h1 : e ≤ 18446744073709551615) (body : List Int) (i : Nat) (hi : i ≤ 16) (A : Option Addr) (c : Nat) (w : World) (hr : Kd.C (Kd.int .u8) w A body.length body) (hc : body.length ≤ c) (hl : body.length ≤ 140737488351232) :
    Calls Try.prog 91 #[.int .u64 e, .slice A body.length c, .int .i64 (i : Int)] w fun en w' => en = .returned (.agg (nums .u8 (sealF e (i : Int) (bodySec body i))).toArray) ∧ Below w.heap.size w w' := by
  have HR := Rd.of_C hr
  have hs := sealF_len e (i : Int) (bodySec body i)
  have hbl := bodySec_len body i
  obtain ⟨n, hn⟩ : ∃ n, body.length = n := ⟨_, rfl⟩
  rw [hn] at hbl hc hl ⊢
  obtain ⟨lo, hlo⟩ : ∃ lo, min (52 * i) n = lo := ⟨_, rfl⟩
  obtain ⟨hh, hhh⟩ : ∃ hh, min (52 * (i + 1)) n = hh := ⟨_, rfl⟩
  have m1 : (if (n : Int) < (i : Int) * 52 then (n : Int) else (i : Int) * 52) = (lo : Int) := by split <;> omega
  have m2 : (if (n : Int) < ((i : Int) + 1) * 52 then (n : Int) else ((i : Int) + 1) * 52) = (hh : Int) := by split <;> omega
  rw [hlo, hhh] at hbl
  have hR2 : Rd w (dropA A lo hh 1) (nums .u8 (bodySec body i)) := by
    have := (HR.dropA lo c 1 (fun e => by rw [nums_length]; omega)).take (hh - lo)
    rw [Nat.mul_one, nums_drop, nums_take] at this
    have e1 : (body.drop lo).take (hh - lo) = bodySec body i := by
      unfold bodySec
      by_cases hq : 52 * i ≤ n
      · rw [show lo = 52 * i by omega]
        by_cases hq2 : 52 * (i + 1) ≤ n
        · rw [show hh - 52 * i = 52 by omega]
        · rw [List.take_of_length_le (i := 52) (by rw [List.length_drop]; omega), List.take_of_length_le (by rw [List.length_drop]; omega)]
      · rw [List.drop_of_length_le (by omega), List.drop_of_length_le (by omega), List.take_nil, List.take_nil]
    rw [e1] at this
    unfold dropA at this ⊢
    by_cases h3 : hh = lo
    · rw [List.eq_nil_of_length_eq_zero (show (bodySec body i).length = 0 by omega)]
      exact Rd.nil _ _
    · rw [if_neg h3]
      rwa [if_neg (by omega)] at this
  have S1 := fun W (hb : Below w.heap.size w W) => seal_c e (i : Int) (bodySec body i) (dropA A lo hh 1) (hh - lo) W ((hR2.below hb).C rfl (by rw [hbl]; omega)) (by rw [hbl]; exact Nat.le_refl _) h0 h1
  rw [hbl] at S1
  have l1 : lo ≤ hh := by omega
  have l2 : hh ≤ c := by omega
  have i1 : IntKind.i64.wrap ((i : Int) * 52) = (i : Int) * 52 := by rw [IntKind.wrap_i64]; omega
  have i2 : IntKind.i64.wrap ((i : Int) + 1) = (i : Int) + 1 := by rw [IntKind.wrap_i64]; omega
  have i3 : IntKind.i64.wrap (((i : Int) + 1) * 52) = ((i : Int) + 1) * 52 := by rw [IntKind.wrap_i64]; omega
  generalize bodySec body i = room at S1 hs ⊢
  generalize sealF e (i : Int) room = s at S1 hs ⊢
  clear hlo hhh hR2 hbl hn hr HR hc hl
  have H := Own.start w
  go_enter Try.func91, Try.ntmps91
  go_wp2_with (first
    | ((with_reducible refine gate_dst (N := 6) rfl ?_); refine l_allocA rfl H 43 rfl _ zero43 ?_; clear H; intro g6 W H)
    | ((with_reducible refine gate_store (t := 43) (p := 6) rfl ?_); refine l_storeW rfl H 43 _ _ rfl _ rfl _ rfl (by (repeat (first | exact In.head | apply In.tail))) _ size43 (by (first | rfl | assumption | omega | (simp only [nums_length]; omega) | (simp [nums_length, zs]; done) | (simp [nums_length, zs]; omega))) (by (first | rfl | assumption | omega | (simp only [nums_length]; omega) | (simp [nums_length, zs]; done) | (simp [nums_length, zs]; omega))) (by (first | exact nums_one | (intro u hu; simp at hu; subst hu; rfl) | (intro u hu; simp at hu; rcases hu with rfl | rfl | rfl | rfl | rfl | rfl | rfl <;> rfl) | (intro u hu; simp at hu; rcases hu with rfl | rfl | rfl | rfl <;> rfl) | (intro u hu; simp at hu; rcases hu with rfl | rfl | rfl <;> rfl) | (intro u hu; simp at hu; rcases hu with rfl | rfl <;> rfl))) ?_; clear H; intro W H)
    | ((with_reducible refine gate_dst (N := 26) rfl ?_); refine l_run rfl (.slice (dropA A lo hh 1) (hh - lo) (hh - lo)) (x_slice_lohimax _ _ _ _ rfl rfl Try.underlying35 size5 lo hh hh rfl rfl rfl l1 (Nat.le_refl _) l2 _) ?_)
    | (go_at_call 30; (with_reducible refine (S1 _ H.below).mono ?_); rintro e W ⟨rfl, hb⟩; replace H := H.to hb; clear hb))
  refine bodyPost_ret (results_cell_row (p := 6) (ty := 43) rfl _ _ g6 43 _ (0, 0) _ rfl (H.heap .head) Try.underlying43 rfl (by rw [size43]; simp only [List.size_toArray, nums_length, hs])) rfl ?_
  exact ⟨rfl, H.below⟩
set_option maxRecDepth 100000 in
set_option maxHeartbeats 4000000 in
theorem rsector_calls (e : Int) (h0 : 0 ≤ e) (h1 : e ≤ 18446744073709551615) (body : List Int) (i : Nat) (hi : i ≤ 16) (A : Option Addr) (c : Nat) (w : World) (hr : Kd.C (Kd.int .u8) w A body.length body) (hc : body.length ≤ c) (hl : body.length ≤ 140737488351232) :
    Calls Try.prog 92 #[.int .u64 e, .slice A body.length c, .int .i64 (i : Int)] w fun en w' => en = .returned (.agg (nums .u8 (sealF e (i : Int) (bodySec body i))).toArray) ∧ Below w.heap.size w w' := by
  have HR := Rd.of_C hr
  have hs := sealF_len e (i : Int) (bodySec body i)
  have hbl := bodySec_len body i
  have S1 := fun A c W (h : Kd.C (Kd.int .u8) W A (bodySec body i).length (bodySec body i)) hc => rseal_c e (i : Int) (bodySec body i) A c W h hc h0 h1 (by omega)
  obtain ⟨m, hm⟩ : ∃ m, (bodySec body i).length = m := ⟨_, rfl⟩
  have hm52 : m ≤ 52 := by omega
  have htk : ∀ j, j < m → (nums .u8 body)[52 * i + j]? = some (.int .u8 ((bodySec body i).getD j 0)) := fun j hj => by
    rw [nums_at (52 * i + j) (by omega)]
    congr 2
    unfold bodySec
    rw [List.getD_eq_getElem?_getD, List.getD_eq_getElem?_getD, List.getElem?_take_of_lt (by omega), List.getElem?_drop]
  have hsn : ∀ j, j < m → (bodySec body i).take (j + 1) = (bodySec body i).take j ++ [(bodySec body i).getD j 0] := fun j hj => by
    rw [List.take_add_one, List.getElem?_eq_getElem (by omega), List.getD_eq_getElem?_getD, List.getElem?_eq_getElem (by omega)]
    rfl
  have hft : (bodySec body i).take m = bodySec body i := List.take_of_length_le (by omega)
  obtain ⟨n, hn⟩ : ∃ n, body.length = n := ⟨_, rfl⟩
  rw [hn] at hbl hc hl ⊢
  rw [hm] at S1 hbl
  generalize bodySec body i = room at *
  generalize sealF e (i : Int) room = s at *
  obtain ⟨b0, hb0⟩ : ∃ b0, 52 * i = b0 := ⟨_, rfl⟩
  rw [hb0] at hbl htk
  have i1 : IntKind.i64.wrap (52 * (i : Int)) = (b0 : Int) := by rw [IntKind.wrap_i64]; omega
  have i2 : IntKind.i64.wrap ((b0 : Int) + 52) = (b0 : Int) + 52 := by rw [IntKind.wrap_i64]; omega
  have HB := Lib.hid hb0
  have HM := Lib.hid hbl
  have HT := Lib.hid hft
  have HI := Lib.hid hi
  have HN := Lib.hid hn
  have HL := Lib.hid hm
  clear hb0 hbl hft hi hn hm
  have H := Own.start w
  go_enter Try.func92, Try.ntmps92
  go_wp2_with (first
    | ((with_reducible refine gate_dst (N := 6) rfl ?_); refine l_allocA rfl H 43 rfl _ zero43 ?_; clear H; intro g6 W H))
  have H := (show Own w F0 [.row (.slice none 0 0) 5 1 0 [], .blk g6 43 (nums .u8 (zs 64))] W from H.cons (Below.refl _ _) (own_nil _ _ _ _) (fun k hk => by cases hk))
  go_loopg [7, 8] m (fun gq v7 v8 w' => ∃ j k : Nat, v8 = .int .i64 (k : Int) ∧ Hid (k = b0 + j ∧ j + gq = m) ∧ Own w F0 [.row v7 5 1 j (nums .u8 (room.take j)), .blk g6 43 (nums .u8 (zs 64))] w')
  case atStart => exact ⟨0, b0, rfl, ⟨rfl, by omega⟩, by rw [List.take_zero]; exact H⟩
  case round =>
    clear H
    obtain ⟨j, k, rfl, hk, H⟩ := hrel
    have hk1 := hk.1
    have hk2 := hk.2
    have hB := HB.out
    have hM := HM.out
    have hI := HI.out
    by_cases cj : j < m
    · obtain ⟨gk', rfl⟩ : ∃ q, gk = q + 1 := ⟨gk - 1, by omega⟩
      have q1 : decide ((k : Int) < (b0 : Int) + 52) = true := decide_eq_true (by omega)
      have q2 : decide ((k : Int) < (n : Int)) = true := decide_eq_true (by omega)
      obtain ⟨ad, rfl⟩ := HR.some_ (by rw [nums_length, HN.out]; omega)
      have p0 : ((0 : Int) ≤ (k : Int)) = True := eq_true (by omega)
      have p1 : ((k : Int) < (n : Int)) = True := eq_true (by omega)
      have hz := htk j cj
      have hsn' := hsn j cj
      rw [← hk1] at hz
      generalize room.getD j 0 = z at hz hsn'
      have hbd : (j + 1) * 1 ≤ 140737488355328 := by omega
      have hkb : k ≤ 1000 := by omega
      clear hk1 hk2 hB hM hI
      go_wp2_with (first
    | ((with_reducible refine gate_dst (N := 29) rfl ?_); refine l_build11 rfl H 35 5 _ rfl Try.underlying35 _ rfl _ zs5 rfl rfl ?_; clear H; intro g29 W H)
    | ((with_reducible refine gate_dst (N := 30) rfl ?_); refine l_append1 rfl H _ _ 35 5 rfl Try.underlying35 _ _ _ inf5 rfl (by decide) (by decide) _ _ _ rfl (by (repeat (first | exact In.head | apply In.tail))) _ _ rfl (by (repeat (first | exact In.head | apply In.tail))) (by (first | rfl | assumption | omega | (simp only [nums_length]; omega) | (simp [nums_length, zs]; done) | (simp [nums_length, zs]; omega))) (by (first | exact nums_one | (intro u hu; simp at hu; subst hu; rfl) | (intro u hu; simp at hu; rcases hu with rfl | rfl | rfl | rfl | rfl | rfl | rfl <;> rfl) | (intro u hu; simp at hu; rcases hu with rfl | rfl | rfl | rfl <;> rfl) | (intro u hu; simp at hu; rcases hu with rfl | rfl | rfl <;> rfl) | (intro u hu; simp at hu; rcases hu with rfl | rfl <;> rfl))) (by omega) ?_; clear H; intro v30 W H)
    | ((with_reducible refine gate_dst (N := 28) rfl ?_); refine l_loadRd1 rfl 5 _ rfl k rfl (HR.below H.below) _ Try.underlying5 rfl _ hz ?_))
      go_roundg gk'
      case measure => omega
      case rel =>
        refine ⟨j + 1, k + 1, by go_num, ⟨by have := hk.1; omega, by have := hk.2; omega⟩, ?_⟩
        rw [hsn', ← nums_app]
        exact H.del .head
    · obtain rfl : j = m := by omega
      rw [HT.out] at H
      by_cases c2 : j < 52
      · have q1 : decide ((k : Int) < (b0 : Int) + 52) = true := decide_eq_true (by omega)
        have q2 : decide (k < n) = false := decide_eq_false (by omega)
        clear hk1 hk2 hB hM hI
        obtain ⟨A', c', rfl⟩ := H.row_slice .head
        go_wp2_with (first
    | ((with_reducible refine gate_store (t := 43) (p := 6) rfl ?_); refine l_storeW rfl H 43 _ _ rfl _ rfl _ rfl (by (repeat (first | exact In.head | apply In.tail))) _ size43 (by (first | rfl | assumption | omega | (simp only [nums_length]; omega) | (simp [nums_length, zs]; done) | (simp [nums_length, zs]; omega))) (by (first | rfl | assumption | omega | (simp only [nums_length]; omega) | (simp [nums_length, zs]; done) | (simp [nums_length, zs]; omega))) (by (first | exact nums_one | (intro u hu; simp at hu; subst hu; rfl) | (intro u hu; simp at hu; rcases hu with rfl | rfl | rfl | rfl | rfl | rfl | rfl <;> rfl) | (intro u hu; simp at hu; rcases hu with rfl | rfl | rfl | rfl <;> rfl) | (intro u hu; simp at hu; rcases hu with rfl | rfl | rfl <;> rfl) | (intro u hu; simp at hu; rcases hu with rfl | rfl <;> rfl))) ?_; clear H; intro W H)
    | (go_at_call 31; (with_reducible refine (S1 A' c' _ (H.rowC .head).2.2 (H.rowC .head).1).mono ?_); rintro e W ⟨rfl, hb⟩; replace H := H.to hb; clear hb))
        refine bodyPost_ret (results_cell_row (p := 6) (ty := 43) rfl _ _ g6 43 _ (0, 0) _ rfl (H.heap (.tail .head)) Try.underlying43 rfl (by rw [size43]; simp only [List.size_toArray, nums_length, hs])) rfl ?_
        exact ⟨rfl, H.below⟩
      · have q1 : decide ((k : Int) < (b0 : Int) + 52) = false := decide_eq_false (by omega)
        clear hk1 hk2 hB hM hI
        obtain ⟨A', c', rfl⟩ := H.row_slice .head
        go_wp2_with (first
    | ((with_reducible refine gate_store (t := 43) (p := 6) rfl ?_); refine l_storeW rfl H 43 _ _ rfl _ rfl _ rfl (by (repeat (first | exact In.head | apply In.tail))) _ size43 (by (first | rfl | assumption | omega | (simp only [nums_length]; omega) | (simp [nums_length, zs]; done) | (simp [nums_length, zs]; omega))) (by (first | rfl | assumption | omega | (simp only [nums_length]; omega) | (simp [nums_length, zs]; done) | (simp [nums_length, zs]; omega))) (by (first | exact nums_one | (intro u hu; simp at hu; subst hu; rfl) | (intro u hu; simp at hu; rcases hu with rfl | rfl | rfl | rfl | rfl | rfl | rfl <;> rfl) | (intro u hu; simp at hu; rcases hu with rfl | rfl | rfl | rfl <;> rfl) | (intro u hu; simp at hu; rcases hu with rfl | rfl | rfl <;> rfl) | (intro u hu; simp at hu; rcases hu with rfl | rfl <;> rfl))) ?_; clear H; intro W H)
    | (go_at_call 31; (with_reducible refine (S1 A' c' _ (H.rowC .head).2.2 (H.rowC .head).1).mono ?_); rintro e W ⟨rfl, hb⟩; replace H := H.to hb; clear hb))
        refine bodyPost_ret (results_cell_row (p := 6) (ty := 43) rfl _ _ g6 43 _ (0, 0) _ rfl (H.heap (.tail .head)) Try.underlying43 rfl (by rw [size43]; simp only [List.size_toArray, nums_length, hs])) rfl ?_
        exact ⟨rfl, H.below⟩
set_option maxRecDepth 100000 in
set_option maxHeartbeats 4000000 in
theorem write_calls (e : Int) (h0 : 0 ≤ e) (h1 : e ≤ 18446744073709551615) (body : List Int) (f t : Int) (a b : Nat) (ht : tch (cl f) (cl t) = ((a : Int), (b : Int))) (hab : a ≤ b) (hb : b ≤ 16) (A : Option Addr) (c : Nat) (w : World) (hr : Kd.C (Kd.int .u8) w A body.length body) (hc : body.length ≤ c) (hl : body.length ≤ 140737488351232) :
    Calls Try.prog 65 #[.int .u64 e, .slice A body.length c, .int .i64 f, .int .i64 t] w fun en w' => ∃ v, en = .returned (.tuple #[.int .i64 (a : Int), v]) ∧ w'.ownsRow w.heap.size 43 64 v (b - a) (nums .u8 (flatP e body a (b - a))) ∧ Below w.heap.size w w' := by
  have T1 := fun W => touch_c f t a b ht W
  have S1 := fun i (hi : i ≤ 16) W (hb : Below w.heap.size w W) => sector_calls e h0 h1 body i hi A c W (Kd.C_below hr hb) hc hl
  obtain ⟨n, hn⟩ : ∃ n, body.length = n := ⟨_, rfl⟩
  rw [hn] at S1 ⊢
  clear hn hl hc hr
  have H := (show Own w F0 [.row (.slice none 0 0) 43 64 0 []] w from (Own.start w).cons (Below.refl _ _) (own_nil _ _ _ _) (fun k hk => by cases hk))
  have w1 : IntKind.i64.wrap ((b : Int) - (a : Int)) = ((b - a : Nat) : Int) := by rw [IntKind.wrap_i64]; omega
  obtain ⟨m, hm⟩ : ∃ m, b - a = m := ⟨_, rfl⟩
  rw [hm] at w1 ⊢
  have HM := Lib.hid hm
  have HAB := Lib.hid (And.intro hab hb)
  clear hm hab hb
  go_enter Try.func65, Try.ntmps65
  go_wp2_with (first
    | (go_at_call 90; (with_reducible refine (T1 _).mono ?_); rintro e W ⟨rfl, hb⟩; replace H := H.to hb; clear hb))
  go_loopg [12, 23] m (fun gq v12 v23 w' => ∃ k : Nat, v23 = .int .i64 (k : Int) ∧ k + gq = m ∧ Own w F0 [.row v12 43 64 k (nums .u8 (flatP e body a k))] w')
  case atStart => exact ⟨0, rfl, by omega, H⟩
  case round =>
    clear H
    obtain ⟨k, rfl, hk, H⟩ := hrel
    by_cases ck : k < m
    · obtain ⟨gk', rfl⟩ : ∃ q, gk = q + 1 := ⟨gk - 1, by omega⟩
      have q1 : decide (k < m) = true := decide_eq_true ck
      have hM := HM.out
      have hA := HAB.out
      have S2 := S1 (a + k) (by omega)
      have w2 : IntKind.i64.wrap ((a : Int) + (k : Int)) = ((a + k : Nat) : Int) := by rw [IntKind.wrap_i64]; omega
      have hbd : (k + 1) * 64 ≤ 140737488355328 := by omega
      have hsl := sealF_len e ((a + k : Nat) : Int) (bodySec body (a + k))
      have hfp : flatP e body a (k + 1) = flatP e body a k ++ sealF e ((a + k : Nat) : Int) (bodySec body (a + k)) := rfl
      have hkb : k ≤ 16 := by omega
      generalize sealF e ((a + k : Nat) : Int) (bodySec body (a + k)) = s at S2 hsl hfp
      generalize a + k = ak at w2 S2
      clear hM hA
      go_wp2_with (first
    | ((with_reducible refine gate_dst (N := 33) rfl ?_); refine l_build1A rfl H 81 43 _ rfl Try.underlying81 _ rfl _ _ zs43 rfl (by (first | rfl | assumption | omega | (simp only [nums_length]; omega) | (simp [nums_length, zs]; done) | (simp [nums_length, zs]; omega))) (by decide) (by decide) ?_; clear H; intro g33 W H)
    | ((with_reducible refine gate_dst (N := 34) rfl ?_); refine l_append1 rfl H _ _ 81 43 rfl Try.underlying81 _ _ _ inf43 rfl (by decide) (by decide) _ _ _ rfl (by (repeat (first | exact In.head | apply In.tail))) _ _ rfl (by (repeat (first | exact In.head | apply In.tail))) (by (first | rfl | assumption | omega | (simp only [nums_length]; omega) | (simp [nums_length, zs]; done) | (simp [nums_length, zs]; omega))) (by (first | exact nums_one | (intro u hu; simp at hu; subst hu; rfl) | (intro u hu; simp at hu; rcases hu with rfl | rfl | rfl | rfl | rfl | rfl | rfl <;> rfl) | (intro u hu; simp at hu; rcases hu with rfl | rfl | rfl | rfl <;> rfl) | (intro u hu; simp at hu; rcases hu with rfl | rfl | rfl <;> rfl) | (intro u hu; simp at hu; rcases hu with rfl | rfl <;> rfl))) (by omega) ?_; clear H; intro v34 W H)
    | (go_at_call 91; (with_reducible refine (S2 _ H.below).mono ?_); rintro e W ⟨rfl, hb⟩; replace H := H.to hb; clear hb))
      go_roundg gk'
      case measure => omega
      case rel =>
        refine ⟨k + 1, by go_num, by omega, ?_⟩
        rw [hfp, ← nums_app]
        exact H.del .head
    · have q1 : decide (k < m) = false := decide_eq_false ck
      obtain rfl : k = m := by omega
      go_wp2
      go_ret2
      exact ⟨_, rfl, H.at_ .head, H.below⟩
set_option maxRecDepth 100000 in
set_option maxHeartbeats 4000000 in
theorem rwrite_calls (e : Int) (h0 : 0 ≤ e) (h1 : e ≤ 18446744073709551615) (body : List Int) (f t : Int) (a b : Nat) (ht : tch (cl f) (cl t) = ((a : Int), (b : Int))) (hab : a ≤ b) (hb : b ≤ 16) (A : Option Addr) (c : Nat) (w : World) (hr : Kd.C (Kd.int .u8) w A body.length body) (hc : body.length ≤ c) (hl : body.length ≤ 140737488351232) :
    Calls Try.prog 66 #[.int .u64 e, .slice A body.length c, .int .i64 f, .int .i64 t] w fun en w' => ∃ v, en = .returned (.tuple #[.int .i64 (a : Int), v]) ∧ w'.ownsRow w.heap.size 43 64 v (b - a) (nums .u8 (flatP e body a (b - a))) ∧ Below w.heap.size w w' := by
  have T1 := fun W => rtouch_c f t a b ht W
  have S1 := fun i (hi : i ≤ 16) W (hb : Below w.heap.size w W) => rsector_calls e h0 h1 body i hi A c W (Kd.C_below hr hb) hc hl
  obtain ⟨n, hn⟩ : ∃ n, body.length = n := ⟨_, rfl⟩
  rw [hn] at S1 ⊢
  clear hn hl hc hr
  have H := (show Own w F0 [.row (.slice none 0 0) 43 64 0 []] w from (Own.start w).cons (Below.refl _ _) (own_nil _ _ _ _) (fun k hk => by cases hk))
  obtain ⟨m, hm⟩ : ∃ m, b - a = m := ⟨_, rfl⟩
  rw [hm]
  have HM := Lib.hid hm
  have HAB := Lib.hid (And.intro hab hb)
  clear hm hab hb
  go_enter Try.func66, Try.ntmps66
  go_wp2_with (first
    | (go_at_call 70; (with_reducible refine (T1 _).mono ?_); rintro e W ⟨rfl, hb⟩; replace H := H.to hb; clear hb))
  go_loopg [12, 13] m (fun gq v12 v13 w' => ∃ k ak : Nat, v13 = .int .i64 (ak : Int) ∧ Hid (ak = a + k) ∧ k + gq = m ∧ Own w F0 [.row v12 43 64 k (nums .u8 (flatP e body a k))] w')
  case atStart => exact ⟨0, a, rfl, rfl, by omega, H⟩
  case round =>
    clear H
    obtain ⟨k, ak, rfl, hak, hk, H⟩ := hrel
    have hM := HM.out
    have hA := HAB.out
    have hK := hak.out
    by_cases ck : k < m
    · obtain ⟨gk', rfl⟩ : ∃ q, gk = q + 1 := ⟨gk - 1, by omega⟩
      have q1 : decide (ak < b) = true := decide_eq_true (by omega)
      have S2 := S1 ak (by omega)
      have hbd : (k + 1) * 64 ≤ 140737488355328 := by omega
      have hsl := sealF_len e (ak : Int) (bodySec body ak)
      have hfp : flatP e body a (k + 1) = flatP e body a k ++ sealF e (ak : Int) (bodySec body ak) := by rw [hK]; rfl
      have hkb : ak ≤ 16 := by omega
      generalize sealF e (ak : Int) (bodySec body ak) = s at S2 hsl hfp
      clear hM hA hK
      go_wp2_with (first
    | ((with_reducible refine gate_dst (N := 31) rfl ?_); refine l_build1A rfl H 81 43 _ rfl Try.underlying81 _ rfl _ _ zs43 rfl (by (first | rfl | assumption | omega | (simp only [nums_length]; omega) | (simp [nums_length, zs]; done) | (simp [nums_length, zs]; omega))) (by decide) (by decide) ?_; clear H; intro g31 W H)
    | ((with_reducible refine gate_dst (N := 32) rfl ?_); refine l_append1 rfl H _ _ 81 43 rfl Try.underlying81 _ _ _ inf43 rfl (by decide) (by decide) _ _ _ rfl (by (repeat (first | exact In.head | apply In.tail))) _ _ rfl (by (repeat (first | exact In.head | apply In.tail))) (by (first | rfl | assumption | omega | (simp only [nums_length]; omega) | (simp [nums_length, zs]; done) | (simp [nums_length, zs]; omega))) (by (first | exact nums_one | (intro u hu; simp at hu; subst hu; rfl) | (intro u hu; simp at hu; rcases hu with rfl | rfl | rfl | rfl | rfl | rfl | rfl <;> rfl) | (intro u hu; simp at hu; rcases hu with rfl | rfl | rfl | rfl <;> rfl) | (intro u hu; simp at hu; rcases hu with rfl | rfl | rfl <;> rfl) | (intro u hu; simp at hu; rcases hu with rfl | rfl <;> rfl))) (by omega) ?_; clear H; intro v32 W H)
    | (go_at_call 92; (with_reducible refine (S2 _ H.below).mono ?_); rintro e W ⟨rfl, hb⟩; replace H := H.to hb; clear hb))
      go_roundg gk'
      case measure => omega
      case rel =>
        refine ⟨k + 1, ak + 1, by go_num, by have := hak.out; show ak + 1 = a + (k + 1); omega, by omega, ?_⟩
        rw [hfp, ← nums_app]
        exact H.del .head
    · have q1 : decide (ak < b) = false := decide_eq_false (by omega)
      obtain rfl : k = m := by omega
      clear hM hA hK
      go_wp2
      go_ret2
      exact ⟨_, rfl, H.at_ .head, H.below⟩
theorem touch0 (t : Int) : ∃ y : Nat, tch (cl 0) (cl t) = (((0 : Nat) : Int), (y : Int)) ∧ y ≤ 16 := by
  obtain ⟨x, y, h, h1, h2⟩ := touch_nat 0 t
  have hx : x = 0 := by
    have e := congrArg Prod.fst h
    unfold tch at e
    rw [show cl 0 = 0 from rfl] at e
    split at e
    · simpa using e.symm
    · have : ((0 : Int) / 52, (cl t - 1) / 52 + 1).1 = (x : Int) := e
      simpa using this.symm
  subst hx
  exact ⟨y, h, h2⟩
/-- the first k of the sixteen sectors of a body of which b are laid -/
def flatW (e : Int) (body : List Int) (b k : Nat) : List Int := flatP e body 0 (min k b) ++ zs (64 * (k - b))
theorem flatW_len (e : Int) (body : List Int) (b k : Nat) : (flatW e body b k).length = 64 * k := by
  unfold flatW zs
  rw [List.length_append, flatP_len, List.length_replicate]
  omega
theorem zs_add (a b : Nat) : zs (a + b) = zs a ++ zs b := by unfold zs; rw [List.replicate_append_replicate]
theorem flatW_zero (e : Int) (body : List Int) (b k : Nat) (h : b ≤ k) : flatW e body b (k + 1) = flatW e body b k ++ zs 64 := by
  unfold flatW
  rw [Nat.min_eq_right h, Nat.min_eq_right (by omega), show 64 * (k + 1 - b) = 64 * (k - b) + 64 by omega, zs_add, List.append_assoc]
theorem flatW_sec (e : Int) (body : List Int) (b k : Nat) (h : k < b) : flatW e body b (k + 1) = flatW e body b k ++ sealF e (k : Int) (bodySec body k) := by
  unfold flatW
  rw [Nat.min_eq_left (by omega), Nat.min_eq_left (by omega), show 64 * (k + 1 - b) = 0 by omega, show 64 * (k - b) = 0 by omega, show zs 0 = [] from rfl, List.append_nil, List.append_nil]
  show flatP e body 0 k ++ sealF e ((0 + k : Nat) : Int) (bodySec body (0 + k)) = _
  rw [Nat.zero_add]
theorem flatW_at (e : Int) (body : List Int) (b : Nat) : flatW e body b b = flatP e body 0 b := by
  unfold flatW
  rw [Nat.min_self, Nat.sub_self, Nat.mul_zero, show zs 0 = [] from rfl, List.append_nil]
theorem flatW_bytes {body : List Int} (h : Bytes body) (e : Int) (b k : Nat) : Bytes (flatW e body b k) := bytes_append (flatP_bytes h _ _ _) (bytes_zs _)
set_option maxRecDepth 100000 in
set_option maxHeartbeats 4000000 in
theorem whole_calls (e : Int) (h0 : 0 ≤ e) (h1 : e ≤ 18446744073709551615) (body : List Int) (t : Int) (b : Nat) (ht : tch (cl 0) (cl t) = (((0 : Nat) : Int), (b : Int))) (hb : b ≤ 16) (A : Option Addr) (c : Nat) (w : World) (hr : Kd.C (Kd.int .u8) w A body.length body) (hc : body.length ≤ c) (hl : body.length ≤ 140737488351232) :
    Calls Try.prog 67 #[.int .u64 e, .slice A body.length c, .int .i64 t] w fun en w' => ∃ v, en = .returned v ∧ w'.ownsRow w.heap.size 43 64 v 16 (nums .u8 (flatW e body b 16)) ∧ Below w.heap.size w w' := by
  have W1 := fun W (hB : Below w.heap.size w W) => write_calls e h0 h1 body 0 t 0 b ht (Nat.zero_le _) hb A c W (Kd.C_below hr hB) hc hl
  rw [Nat.sub_zero] at W1
  have hz := fun k (hk : b ≤ k) => flatW_zero e body b k hk
  have hat := flatW_at e body b
  rw [← hat] at W1
  generalize hF : flatW e body b = F at *
  obtain ⟨n, hn⟩ : ∃ n, body.length = n := ⟨_, rfl⟩
  rw [hn] at W1 ⊢
  clear hn hl hc hr hat hF ht
  have H := Own.start w
  go_enter Try.func67, Try.ntmps67
  go_wp2_with (first
    | (go_at_call 65; (with_reducible refine (W1 _ H.below).mono ?_); rintro e W ⟨v, rfl, ho, hb'⟩; replace H := H.addRow hb' ho; clear hb' ho))
  go_loopg [8] (16 - b) (fun gq v8 w' => ∃ k : Nat, k + gq = 16 ∧ b ≤ k ∧ Own w F0 [.row v8 43 64 k (nums .u8 (F k))] w')
  case atStart => exact ⟨b, by omega, Nat.le_refl _, H⟩
  case round =>
    clear H
    obtain ⟨k, hk, hbk, H⟩ := hrel
    obtain ⟨A8, c8, rfl⟩ := H.row_slice .head
    by_cases ck : k < 16
    · obtain ⟨gk', rfl⟩ : ∃ q, gk = q + 1 := ⟨gk - 1, by omega⟩
      have q1 : decide ((k : Int) < 16) = true := decide_eq_true (by omega)
      have hbd : (k + 1) * 64 ≤ 140737488355328 := by omega
      have hzk := hz k hbk
      go_wp2_with (first
    | ((with_reducible refine gate_dst (N := 21) rfl ?_); refine l_build1A rfl H 81 43 _ rfl Try.underlying81 _ rfl _ _ zs43 rfl (by (first | rfl | assumption | omega | (simp only [nums_length]; omega) | (simp [nums_length, zs]; done) | (simp [nums_length, zs]; omega))) (by decide) (by decide) ?_; clear H; intro g21 W H)
    | ((with_reducible refine gate_dst (N := 22) rfl ?_); refine l_append1 rfl H _ _ 81 43 rfl Try.underlying81 _ _ _ inf43 rfl (by decide) (by decide) _ _ _ rfl (by (repeat (first | exact In.head | apply In.tail))) _ _ rfl (by (repeat (first | exact In.head | apply In.tail))) (by (first | rfl | assumption | omega | (simp only [nums_length]; omega) | (simp [nums_length, zs]; done) | (simp [nums_length, zs]; omega))) (by (first | exact nums_one | (intro u hu; simp at hu; subst hu; rfl) | (intro u hu; simp at hu; rcases hu with rfl | rfl | rfl | rfl | rfl | rfl | rfl <;> rfl) | (intro u hu; simp at hu; rcases hu with rfl | rfl | rfl | rfl <;> rfl) | (intro u hu; simp at hu; rcases hu with rfl | rfl | rfl <;> rfl) | (intro u hu; simp at hu; rcases hu with rfl | rfl <;> rfl))) (by omega) ?_; clear H; intro v22 W H)
    | ((with_reducible refine gate_dst (N := 20) rfl ?_); refine l_run rfl (.agg (nums .u8 (zs 64)).toArray) (by kernel_rfl) ?_))
      go_roundg gk'
      case measure => omega
      case rel =>
        refine ⟨k + 1, by omega, by omega, ?_⟩
        rw [hzk, ← nums_app]
        exact H.del .head
    · have q1 : decide ((k : Int) < 16) = false := decide_eq_false (by omega)
      obtain rfl : k = 16 := by omega
      go_wp2
      go_ret
      exact ⟨_, rfl, H.at_ .head, H.below⟩
set_option maxRecDepth 100000 in
set_option maxHeartbeats 4000000 in
theorem rwhole_calls (e : Int) (h0 : 0 ≤ e) (h1 : e ≤ 18446744073709551615) (body : List Int) (t : Int) (b : Nat) (ht : tch (cl 0) (cl t) = (((0 : Nat) : Int), (b : Int))) (hb : b ≤ 16) (A : Option Addr) (c : Nat) (w : World) (hr : Kd.C (Kd.int .u8) w A body.length body) (hc : body.length ≤ c) (hl : body.length ≤ 140737488351232) :
    Calls Try.prog 68 #[.int .u64 e, .slice A body.length c, .int .i64 t] w fun en w' => ∃ v, en = .returned v ∧ w'.ownsRow w.heap.size 43 64 v 16 (nums .u8 (flatW e body b 16)) ∧ Below w.heap.size w w' := by
  have T1 := fun W => rtouch_c 0 t 0 b ht W
  have S1 := fun i (hi : i ≤ 16) W (hB : Below w.heap.size w W) => rsector_calls e h0 h1 body i hi A c W (Kd.C_below hr hB) hc hl
  have hz := fun k (hk : b ≤ k) => flatW_zero e body b k hk
  have hs := fun k (hk : k < b) => flatW_sec e body b k hk
  have hat : flatW e body b 0 = [] := List.eq_nil_of_length_eq_zero (flatW_len e body b 0)
  have hsl := fun k : Nat => sealF_len e (k : Int) (bodySec body k)
  generalize hF : flatW e body b = F at *
  obtain ⟨n, hn⟩ : ∃ n, body.length = n := ⟨_, rfl⟩
  rw [hn] at S1 ⊢
  clear hn hl hc hr hF ht
  have H := (show Own w F0 [.row (.slice none 0 0) 43 64 0 []] w from (Own.start w).cons (Below.refl _ _) (own_nil _ _ _ _) (fun k hk => by cases hk))
  go_enter Try.func68, Try.ntmps68
  go_wp2_with (first
    | (go_at_call 70; (with_reducible refine (T1 _).mono ?_); rintro e W ⟨rfl, hb'⟩; replace H := H.to hb'; clear hb'))
  go_loopg [9, 10] 16 (fun gq v9 v10 w' => ∃ k : Nat, v10 = .int .i64 (k : Int) ∧ k + gq = 16 ∧ Own w F0 [.row v9 43 64 k (nums .u8 (F k))] w')
  case atStart => exact ⟨0, rfl, rfl, by rw [hat]; exact H⟩
  case round =>
    clear H
    obtain ⟨k, rfl, hk, H⟩ := hrel
    by_cases ck : k < 16
    · obtain ⟨gk', rfl⟩ : ∃ q, gk = q + 1 := ⟨gk - 1, by omega⟩
      have q1 : decide ((k : Int) < 16) = true := decide_eq_true (by omega)
      have hbd : (k + 1) * 64 ≤ 140737488355328 := by omega
      by_cases cb : k < b
      · have q2 : decide (k < b) = true := decide_eq_true cb
        have hsk := hs k cb
        have S2 := S1 k (by omega)
        have hl := hsl k
        generalize sealF e (k : Int) (bodySec body k) = s at S2 hl hsk
        clear hs hz hsl
        go_wp2_with (first
    | ((with_reducible refine gate_dst (N := 28) rfl ?_); refine l_build1A rfl H 81 43 _ rfl Try.underlying81 _ rfl _ _ zs43 rfl (by (first | rfl | assumption | omega | (simp only [nums_length]; omega) | (simp [nums_length, zs]; done) | (simp [nums_length, zs]; omega))) (by decide) (by decide) ?_; clear H; intro g28 W H)
    | ((with_reducible refine gate_dst (N := 29) rfl ?_); refine l_append1 rfl H _ _ 81 43 rfl Try.underlying81 _ _ _ inf43 rfl (by decide) (by decide) _ _ _ rfl (by (repeat (first | exact In.head | apply In.tail))) _ _ rfl (by (repeat (first | exact In.head | apply In.tail))) (by (first | rfl | assumption | omega | (simp only [nums_length]; omega) | (simp [nums_length, zs]; done) | (simp [nums_length, zs]; omega))) (by (first | exact nums_one | (intro u hu; simp at hu; subst hu; rfl) | (intro u hu; simp at hu; rcases hu with rfl | rfl | rfl | rfl | rfl | rfl | rfl <;> rfl) | (intro u hu; simp at hu; rcases hu with rfl | rfl | rfl | rfl <;> rfl) | (intro u hu; simp at hu; rcases hu with rfl | rfl | rfl <;> rfl) | (intro u hu; simp at hu; rcases hu with rfl | rfl <;> rfl))) (by omega) ?_; clear H; intro v29 W H)
    | (go_at_call 92; (with_reducible refine (S2 _ H.below).mono ?_); rintro e W ⟨rfl, hb'⟩; replace H := H.to hb'; clear hb'))
        go_roundg gk'
        case measure => omega
        case rel =>
          refine ⟨k + 1, by go_num, by omega, ?_⟩
          rw [hsk, ← nums_app]
          exact H.del .head
      · have q2 : decide (k < b) = false := decide_eq_false cb
        have hzk := hz k (by omega)
        clear hs hz hsl
        go_wp2_with (first
    | ((with_reducible refine gate_dst (N := 32) rfl ?_); refine l_build1A rfl H 81 43 _ rfl Try.underlying81 _ rfl _ _ zs43 rfl (by (first | rfl | assumption | omega | (simp only [nums_length]; omega) | (simp [nums_length, zs]; done) | (simp [nums_length, zs]; omega))) (by decide) (by decide) ?_; clear H; intro g32 W H)
    | ((with_reducible refine gate_dst (N := 33) rfl ?_); refine l_append1 rfl H _ _ 81 43 rfl Try.underlying81 _ _ _ inf43 rfl (by decide) (by decide) _ _ _ rfl (by (repeat (first | exact In.head | apply In.tail))) _ _ rfl (by (repeat (first | exact In.head | apply In.tail))) (by (first | rfl | assumption | omega | (simp only [nums_length]; omega) | (simp [nums_length, zs]; done) | (simp [nums_length, zs]; omega))) (by (first | exact nums_one | (intro u hu; simp at hu; subst hu; rfl) | (intro u hu; simp at hu; rcases hu with rfl | rfl | rfl | rfl | rfl | rfl | rfl <;> rfl) | (intro u hu; simp at hu; rcases hu with rfl | rfl | rfl | rfl <;> rfl) | (intro u hu; simp at hu; rcases hu with rfl | rfl | rfl <;> rfl) | (intro u hu; simp at hu; rcases hu with rfl | rfl <;> rfl))) (by omega) ?_; clear H; intro v33 W H)
    | ((with_reducible refine gate_dst (N := 31) rfl ?_); refine l_run rfl (.agg (nums .u8 (zs 64)).toArray) (by kernel_rfl) ?_))
        go_roundg gk'
        case measure => omega
        case rel =>
          refine ⟨k + 1, by go_num, by omega, ?_⟩
          rw [hzk, ← nums_app]
          exact H.del .head
    · have q1 : decide ((k : Int) < 16) = false := decide_eq_false (by omega)
      obtain rfl : k = 16 := by omega
      go_wp2
      go_ret
      exact ⟨_, rfl, H.at_ .head, H.below⟩
end Go.Proofs.Ythlpimojojofbaa.O
