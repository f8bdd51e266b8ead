/- Texts of mine put together: PlanW, Sectors, ImageBodies, RowImageBodies. -/
import Derived.Test.YthhbilkmdfdfiaaDoorPkImageBodies11
import Derived.Test.YthhbilkmdfdfiaaDoorCards
import Derived.Test.YthhbilkmdfdfiaaDoorTie
import Derived.Test.YthhbilkmdfdfiaaDoorPkImageBodies1
import Derived.SevenTiedAt
import Derived.WalkKit
import Derived.ProofKit
import Derived.OpenShut
import Derived.ShutString
import Derived.ChangeOld
import Derived.Below
import Derived.SizedLaws
import Derived.Lib.SmallJoins
section
/- plan by hand: sector, Write, Whole, and the reference's Sector, Whole. -/
namespace Go.Proofs.YthhbilkmdfdfiaaDoor.O
open Go.RowKit Go.Proofs.YthhbilkmdfdfiaaDoorW.PrintWords Go.Proofs.YthhbilkmdfdfiaaDoorW.PrintLast Go.Proofs.YthhbilkmdfdfiaaDoorW.PrintMore Go.Proofs.YthhbilkmdfdfiaaDoor.F Go.Proofs.YthhbilkmdfdfiaaDoor.F.Nums Go.Proofs.YthhbilkmdfdfiaaDoor.Plain
attribute [local go_sem] max2_int min2_int max_two min_two max_three min_three max_four min_four
set_option linter.unusedVariables false
set_option linter.unusedSimpArgs false
/-- what a sector has of a body -/
def bodySec (body : List Int) (i : Nat) : List Int := (body.drop (52 * i)).take 52
theorem bodySec_len (body : List Int) (i : Nat) : (bodySec body i).length = min (52 * (i + 1)) body.length - min (52 * i) body.length := by
  unfold bodySec
  rw [List.length_take, List.length_drop]
  omega
/-- n sectors of a body, from number a on, end to end -/
def flatP (e : Int) (body : List Int) (a : Nat) : Nat → List Int
  | 0 => []
  | n + 1 => flatP e body a n ++ sealF e ((a + n : Nat) : Int) (bodySec body (a + n))
theorem flatP_len (e : Int) (body : List Int) (a n : Nat) : (flatP e body a n).length = 64 * n := by
  induction n with
  | zero => rfl
  | succ n ih =>
    show (flatP e body a n ++ sealF e ((a + n : Nat) : Int) (bodySec body (a + n))).length = _
    rw [List.length_append, ih, sealF_len]
    omega
theorem bodySec_bytes {body : List Int} (h : Bytes body) (i : Nat) : Bytes (bodySec body i) := bytes_take (bytes_drop h _) _
theorem flatP_bytes {body : List Int} (h : Bytes body) (e : Int) (a n : Nat) : Bytes (flatP e body a n) := by
  induction n with
  | zero => exact fun c hc => by cases hc
  | succ n ih => exact bytes_append ih (seal_bytes _ _ (bodySec_bytes h _))
set_option maxRecDepth 100000 in
set_option maxHeartbeats 4000000 in
theorem sector_calls (e : Int) (h0 : 0 ≤ e) (h1 : e ≤ 18446744073709551615) (body : List Int) (i : Nat) (hi : i ≤ 16) (A : Option Addr) (c : Nat) (w : World) (hr : Kd.C (Kd.int .u8) w A body.length body) (hc : body.length ≤ c) (hl : body.length ≤ 140737488351232) :
    Calls Tryd.prog 88 #[.int .u64 e, .slice A body.length c, .int .i64 (i : Int)] w fun en w' => en = .returned (.agg (nums .u8 (sealF e (i : Int) (bodySec body i))).toArray) ∧ Below w.heap.size w w' := by
  have HR := Rd.of_C hr
  have hs := sealF_len e (i : Int) (bodySec body i)
  have hbl := bodySec_len body i
  obtain ⟨n, hn⟩ : ∃ n, body.length = n := ⟨_, rfl⟩
  rw [hn] at hbl hc hl ⊢
  obtain ⟨lo, hlo⟩ : ∃ lo, min (52 * i) n = lo := ⟨_, rfl⟩
  obtain ⟨hh, hhh⟩ : ∃ hh, min (52 * (i + 1)) n = hh := ⟨_, rfl⟩
  have m1 : (if (n : Int) < (i : Int) * 52 then (n : Int) else (i : Int) * 52) = (lo : Int) := by split <;> omega
  have m2 : (if (n : Int) < ((i : Int) + 1) * 52 then (n : Int) else ((i : Int) + 1) * 52) = (hh : Int) := by split <;> omega
  rw [hlo, hhh] at hbl
  have hR2 : Rd w (dropA A lo hh 1) (nums .u8 (bodySec body i)) := by
    have := (HR.dropA lo c 1 (fun e => by rw [nums_length]; omega)).take (hh - lo)
    rw [Nat.mul_one, nums_drop, nums_take] at this
    have e1 : (body.drop lo).take (hh - lo) = bodySec body i := by
      unfold bodySec
      by_cases hq : 52 * i ≤ n
      · rw [show lo = 52 * i by omega]
        by_cases hq2 : 52 * (i + 1) ≤ n
        · rw [show hh - 52 * i = 52 by omega]
        · rw [List.take_of_length_le (i := 52) (by rw [List.length_drop]; omega), List.take_of_length_le (by rw [List.length_drop]; omega)]
      · rw [List.drop_of_length_le (by omega), List.drop_of_length_le (by omega), List.take_nil, List.take_nil]
    rw [e1] at this
    unfold dropA at this ⊢
    by_cases h3 : hh = lo
    · rw [List.eq_nil_of_length_eq_zero (show (bodySec body i).length = 0 by omega)]
      exact Rd.nil _ _
    · rw [if_neg h3]
      rwa [if_neg (by omega)] at this
  have S1 := fun W (hb : Below w.heap.size w W) => seal_c e (i : Int) (bodySec body i) (dropA A lo hh 1) (hh - lo) W ((hR2.below hb).C rfl (by rw [hbl]; omega)) (by rw [hbl]; exact Nat.le_refl _) h0 h1
  rw [hbl] at S1
  have l1 : lo ≤ hh := by omega
  have l2 : hh ≤ c := by omega
  have i1 : IntKind.i64.wrap ((i : Int) * 52) = (i : Int) * 52 := by rw [IntKind.wrap_i64]; omega
  have i2 : IntKind.i64.wrap ((i : Int) + 1) = (i : Int) + 1 := by rw [IntKind.wrap_i64]; omega
  have i3 : IntKind.i64.wrap (((i : Int) + 1) * 52) = ((i : Int) + 1) * 52 := by rw [IntKind.wrap_i64]; omega
  generalize bodySec body i = room at S1 hs ⊢
  generalize sealF e (i : Int) room = s at S1 hs ⊢
  clear hlo hhh hR2 hbl hn hr HR hc hl
  have H := Own.start w
  go_enter Tryd.func88, Tryd.ntmps88
  go_wp2_with (first
    | ((with_reducible refine gate_dst (N := 6) rfl ?_); refine l_allocA rfl H 50 rfl _ zero50 ?_; clear H; intro g6 W H)
    | ((with_reducible refine gate_store (t := 50) (p := 6) rfl ?_); refine l_storeW rfl H 50 _ _ rfl _ rfl _ rfl (by (repeat (first | exact In.head | apply In.tail))) _ size50 (by (first | rfl | assumption | omega | (simp only [nums_length]; omega) | (simp [nums_length, zs]; done) | (simp [nums_length, zs]; omega))) (by (first | rfl | assumption | omega | (simp only [nums_length]; omega) | (simp [nums_length, zs]; done) | (simp [nums_length, zs]; omega))) (by (first | exact nums_one | assumption | (intro u hu; simp at hu; subst hu; rfl) | (intro u hu; simp at hu; rcases hu with rfl | rfl | rfl | rfl | rfl | rfl | rfl <;> rfl) | (intro u hu; simp at hu; rcases hu with rfl | rfl | rfl | rfl <;> rfl) | (intro u hu; simp at hu; rcases hu with rfl | rfl | rfl <;> rfl) | (intro u hu; simp at hu; rcases hu with rfl | rfl <;> rfl))) ?_; clear H; intro W H)
    | ((with_reducible refine gate_dst (N := 26) rfl ?_); refine l_run rfl (.slice (dropA A lo hh 1) (hh - lo) (hh - lo)) (x_slice_lohimax _ _ _ _ rfl rfl Tryd.underlying23 size5 lo hh hh rfl rfl rfl l1 (Nat.le_refl _) l2 _) ?_)
    | (go_at_call 90; (with_reducible refine (S1 _ H.below).mono ?_); rintro e W ⟨rfl, hb⟩; replace H := H.to hb; clear hb))
  refine bodyPost_ret (results_cell_row (p := 6) (ty := 50) rfl _ _ g6 50 _ (0, 0) _ rfl (H.heap .head) Tryd.underlying50 rfl (by rw [size50]; simp only [List.size_toArray, nums_length, hs])) rfl ?_
  exact ⟨rfl, H.below⟩
set_option maxRecDepth 100000 in
set_option maxHeartbeats 4000000 in
theorem r16sector_calls (e : Int) (h0 : 0 ≤ e) (h1 : e ≤ 18446744073709551615) (body : List Int) (i : Nat) (hi : i ≤ 16) (A : Option Addr) (c : Nat) (w : World) (hr : Kd.C (Kd.int .u8) w A body.length body) (hc : body.length ≤ c) (hl : body.length ≤ 140737488351232) :
    Calls Tryd.prog 84 #[.int .u64 e, .slice A body.length c, .int .i64 (i : Int)] w fun en w' => en = .returned (.agg (nums .u8 (sealF e (i : Int) (bodySec body i))).toArray) ∧ Below w.heap.size w w' := by
  have HR := Rd.of_C hr
  have hs := sealF_len e (i : Int) (bodySec body i)
  have hbl := bodySec_len body i
  have S1 := fun A c W (h : Kd.C (Kd.int .u8) W A (bodySec body i).length (bodySec body i)) hc => rseal_c e (i : Int) (bodySec body i) A c W h hc h0 h1 (by omega)
  obtain ⟨m, hm⟩ : ∃ m, (bodySec body i).length = m := ⟨_, rfl⟩
  have hm52 : m ≤ 52 := by omega
  have htk : ∀ j, j < m → (nums .u8 body)[52 * i + j]? = some (.int .u8 ((bodySec body i).getD j 0)) := fun j hj => by
    rw [nums_at (52 * i + j) (by omega)]
    congr 2
    unfold bodySec
    rw [List.getD_eq_getElem?_getD, List.getD_eq_getElem?_getD, List.getElem?_take_of_lt (by omega), List.getElem?_drop]
  have hsn : ∀ j, j < m → (bodySec body i).take (j + 1) = (bodySec body i).take j ++ [(bodySec body i).getD j 0] := fun j hj => by
    rw [List.take_add_one, List.getElem?_eq_getElem (by omega), List.getD_eq_getElem?_getD, List.getElem?_eq_getElem (by omega)]
    rfl
  have hft : (bodySec body i).take m = bodySec body i := List.take_of_length_le (by omega)
  obtain ⟨n, hn⟩ : ∃ n, body.length = n := ⟨_, rfl⟩
  rw [hn] at hbl hc hl ⊢
  rw [hm] at S1 hbl
  generalize bodySec body i = room at *
  generalize sealF e (i : Int) room = s at *
  obtain ⟨b0, hb0⟩ : ∃ b0, 52 * i = b0 := ⟨_, rfl⟩
  rw [hb0] at hbl htk
  have i1 : IntKind.i64.wrap (52 * (i : Int)) = (b0 : Int) := by rw [IntKind.wrap_i64]; omega
  have i2 : IntKind.i64.wrap ((b0 : Int) + 52) = (b0 : Int) + 52 := by rw [IntKind.wrap_i64]; omega
  have HB := Lib.hid hb0
  have HM := Lib.hid hbl
  have HT := Lib.hid hft
  have HI := Lib.hid hi
  have HN := Lib.hid hn
  have HL := Lib.hid hm
  clear hb0 hbl hft hi hn hm
  have H := Own.start w
  go_enter Tryd.func84, Tryd.ntmps84
  go_wp2_with (first
    | ((with_reducible refine gate_dst (N := 6) rfl ?_); refine l_allocA rfl H 50 rfl _ zero50 ?_; clear H; intro g6 W H))
  have H := (show Own w F0 [.row (.slice none 0 0) 5 1 0 [], .blk g6 50 (nums .u8 (zs 64))] W from H.cons (Below.refl _ _) (own_nil _ _ _ _) (fun k hk => by cases hk))
  go_loopg [7, 8] m (fun gq v7 v8 w' => ∃ j k : Nat, v8 = .int .i64 (k : Int) ∧ Hid (k = b0 + j ∧ j + gq = m) ∧ Own w F0 [.row v7 5 1 j (nums .u8 (room.take j)), .blk g6 50 (nums .u8 (zs 64))] w')
  case atStart => exact ⟨0, b0, rfl, ⟨rfl, by omega⟩, by rw [List.take_zero]; exact H⟩
  case round =>
    clear H
    obtain ⟨j, k, rfl, hk, H⟩ := hrel
    have hk1 := hk.1
    have hk2 := hk.2
    have hB := HB.out
    have hM := HM.out
    have hI := HI.out
    by_cases cj : j < m
    · obtain ⟨gk', rfl⟩ : ∃ q, gk = q + 1 := ⟨gk - 1, by omega⟩
      have q1 : decide ((k : Int) < (b0 : Int) + 52) = true := decide_eq_true (by omega)
      have q2 : decide ((k : Int) < (n : Int)) = true := decide_eq_true (by omega)
      obtain ⟨ad, rfl⟩ := HR.some_ (by rw [nums_length, HN.out]; omega)
      have p0 : ((0 : Int) ≤ (k : Int)) = True := eq_true (by omega)
      have p1 : ((k : Int) < (n : Int)) = True := eq_true (by omega)
      have hz := htk j cj
      have hsn' := hsn j cj
      rw [← hk1] at hz
      generalize room.getD j 0 = z at hz hsn'
      have hbd : (j + 1) * 1 ≤ 140737488355328 := by omega
      have hkb : k ≤ 1000 := by omega
      clear hk1 hk2 hB hM hI
      go_wp2_with (first
    | ((with_reducible refine gate_dst (N := 29) rfl ?_); refine l_build11 rfl H 23 5 _ rfl Tryd.underlying23 _ rfl _ zs5 rfl rfl ?_; clear H; intro g29 W H)
    | ((with_reducible refine gate_dst (N := 30) rfl ?_); refine l_append1 rfl H _ _ 23 5 rfl Tryd.underlying23 _ _ _ inf5 rfl (by decide) (by decide) _ _ _ rfl (by (repeat (first | exact In.head | apply In.tail))) _ _ rfl (by (repeat (first | exact In.head | apply In.tail))) (by (first | rfl | assumption | omega | (simp only [nums_length]; omega) | (simp [nums_length, zs]; done) | (simp [nums_length, zs]; omega))) (by (first | exact nums_one | assumption | (intro u hu; simp at hu; subst hu; rfl) | (intro u hu; simp at hu; rcases hu with rfl | rfl | rfl | rfl | rfl | rfl | rfl <;> rfl) | (intro u hu; simp at hu; rcases hu with rfl | rfl | rfl | rfl <;> rfl) | (intro u hu; simp at hu; rcases hu with rfl | rfl | rfl <;> rfl) | (intro u hu; simp at hu; rcases hu with rfl | rfl <;> rfl))) (by omega) ?_; clear H; intro v30 W H)
    | ((with_reducible refine gate_dst (N := 28) rfl ?_); refine l_loadRd1 rfl 5 _ rfl k rfl (HR.below H.below) _ Tryd.underlying5 rfl _ hz ?_))
      go_roundg gk'
      case measure => omega
      case rel =>
        refine ⟨j + 1, k + 1, by go_num, ⟨by have := hk.1; omega, by have := hk.2; omega⟩, ?_⟩
        rw [hsn', ← nums_app]
        exact H.del .head
    · obtain rfl : j = m := by omega
      rw [HT.out] at H
      by_cases c2 : j < 52
      · have q1 : decide ((k : Int) < (b0 : Int) + 52) = true := decide_eq_true (by omega)
        have q2 : decide (k < n) = false := decide_eq_false (by omega)
        clear hk1 hk2 hB hM hI
        obtain ⟨A', c', rfl⟩ := H.row_slice .head
        go_wp2_with (first
    | ((with_reducible refine gate_store (t := 50) (p := 6) rfl ?_); refine l_storeW rfl H 50 _ _ rfl _ rfl _ rfl (by (repeat (first | exact In.head | apply In.tail))) _ size50 (by (first | rfl | assumption | omega | (simp only [nums_length]; omega) | (simp [nums_length, zs]; done) | (simp [nums_length, zs]; omega))) (by (first | rfl | assumption | omega | (simp only [nums_length]; omega) | (simp [nums_length, zs]; done) | (simp [nums_length, zs]; omega))) (by (first | exact nums_one | assumption | (intro u hu; simp at hu; subst hu; rfl) | (intro u hu; simp at hu; rcases hu with rfl | rfl | rfl | rfl | rfl | rfl | rfl <;> rfl) | (intro u hu; simp at hu; rcases hu with rfl | rfl | rfl | rfl <;> rfl) | (intro u hu; simp at hu; rcases hu with rfl | rfl | rfl <;> rfl) | (intro u hu; simp at hu; rcases hu with rfl | rfl <;> rfl))) ?_; clear H; intro W H)
    | (go_at_call 89; (with_reducible refine (S1 A' c' _ (H.rowC .head).2.2 (H.rowC .head).1).mono ?_); rintro e W ⟨rfl, hb⟩; replace H := H.to hb; clear hb))
        refine bodyPost_ret (results_cell_row (p := 6) (ty := 50) rfl _ _ g6 50 _ (0, 0) _ rfl (H.heap (.tail .head)) Tryd.underlying50 rfl (by rw [size50]; simp only [List.size_toArray, nums_length, hs])) rfl ?_
        exact ⟨rfl, H.below⟩
      · have q1 : decide ((k : Int) < (b0 : Int) + 52) = false := decide_eq_false (by omega)
        clear hk1 hk2 hB hM hI
        obtain ⟨A', c', rfl⟩ := H.row_slice .head
        go_wp2_with (first
    | ((with_reducible refine gate_store (t := 50) (p := 6) rfl ?_); refine l_storeW rfl H 50 _ _ rfl _ rfl _ rfl (by (repeat (first | exact In.head | apply In.tail))) _ size50 (by (first | rfl | assumption | omega | (simp only [nums_length]; omega) | (simp [nums_length, zs]; done) | (simp [nums_length, zs]; omega))) (by (first | rfl | assumption | omega | (simp only [nums_length]; omega) | (simp [nums_length, zs]; done) | (simp [nums_length, zs]; omega))) (by (first | exact nums_one | assumption | (intro u hu; simp at hu; subst hu; rfl) | (intro u hu; simp at hu; rcases hu with rfl | rfl | rfl | rfl | rfl | rfl | rfl <;> rfl) | (intro u hu; simp at hu; rcases hu with rfl | rfl | rfl | rfl <;> rfl) | (intro u hu; simp at hu; rcases hu with rfl | rfl | rfl <;> rfl) | (intro u hu; simp at hu; rcases hu with rfl | rfl <;> rfl))) ?_; clear H; intro W H)
    | (go_at_call 89; (with_reducible refine (S1 A' c' _ (H.rowC .head).2.2 (H.rowC .head).1).mono ?_); rintro e W ⟨rfl, hb⟩; replace H := H.to hb; clear hb))
        refine bodyPost_ret (results_cell_row (p := 6) (ty := 50) rfl _ _ g6 50 _ (0, 0) _ rfl (H.heap (.tail .head)) Tryd.underlying50 rfl (by rw [size50]; simp only [List.size_toArray, nums_length, hs])) rfl ?_
        exact ⟨rfl, H.below⟩
set_option maxRecDepth 100000 in
set_option maxHeartbeats 4000000 in
theorem write_calls (e : Int) (h0 : 0 ≤ e) (h1 : e ≤ 18446744073709551615) (body : List Int) (f t : Int) (a b : Nat) (ht : tch (cl f) (cl t) = ((a : Int), (b : Int))) (hab : a ≤ b) (hb : b ≤ 16) (A : Option Addr) (c : Nat) (w : World) (hr : Kd.C (Kd.int .u8) w A body.length body) (hc : body.length ≤ c) (hl : body.length ≤ 140737488351232) :
    Calls Tryd.prog 82 #[.int .u64 e, .slice A body.length c, .int .i64 f, .int .i64 t] w fun en w' => ∃ v, en = .returned (.tuple #[.int .i64 (a : Int), v]) ∧ w'.ownsRow w.heap.size 50 64 v (b - a) (nums .u8 (flatP e body a (b - a))) ∧ Below w.heap.size w w' := by
  have T1 := fun W => touch_c f t a b ht W
  have S1 := fun i (hi : i ≤ 16) W (hb : Below w.heap.size w W) => sector_calls e h0 h1 body i hi A c W (Kd.C_below hr hb) hc hl
  obtain ⟨n, hn⟩ : ∃ n, body.length = n := ⟨_, rfl⟩
  rw [hn] at S1 ⊢
  clear hn hl hc hr
  have H := (show Own w F0 [.row (.slice none 0 0) 50 64 0 []] w from (Own.start w).cons (Below.refl _ _) (own_nil _ _ _ _) (fun k hk => by cases hk))
  have w1 : IntKind.i64.wrap ((b : Int) - (a : Int)) = ((b - a : Nat) : Int) := by rw [IntKind.wrap_i64]; omega
  obtain ⟨m, hm⟩ : ∃ m, b - a = m := ⟨_, rfl⟩
  rw [hm] at w1 ⊢
  have HM := Lib.hid hm
  have HAB := Lib.hid (And.intro hab hb)
  clear hm hab hb
  go_enter Tryd.func82, Tryd.ntmps82
  go_wp2_with (first
    | (go_at_call 87; (with_reducible refine (T1 _).mono ?_); rintro e W ⟨rfl, hb⟩; replace H := H.to hb; clear hb))
  go_loopg [12, 23] m (fun gq v12 v23 w' => ∃ k : Nat, v23 = .int .i64 (k : Int) ∧ k + gq = m ∧ Own w F0 [.row v12 50 64 k (nums .u8 (flatP e body a k))] w')
  case atStart => exact ⟨0, rfl, by omega, H⟩
  case round =>
    clear H
    obtain ⟨k, rfl, hk, H⟩ := hrel
    by_cases ck : k < m
    · obtain ⟨gk', rfl⟩ : ∃ q, gk = q + 1 := ⟨gk - 1, by omega⟩
      have q1 : decide (k < m) = true := decide_eq_true ck
      have hM := HM.out
      have hA := HAB.out
      have S2 := S1 (a + k) (by omega)
      have w2 : IntKind.i64.wrap ((a : Int) + (k : Int)) = ((a + k : Nat) : Int) := by rw [IntKind.wrap_i64]; omega
      have hbd : (k + 1) * 64 ≤ 140737488355328 := by omega
      have hsl := sealF_len e ((a + k : Nat) : Int) (bodySec body (a + k))
      have hfp : flatP e body a (k + 1) = flatP e body a k ++ sealF e ((a + k : Nat) : Int) (bodySec body (a + k)) := rfl
      have hkb : k ≤ 16 := by omega
      generalize sealF e ((a + k : Nat) : Int) (bodySec body (a + k)) = s at S2 hsl hfp
      generalize a + k = ak at w2 S2
      clear hM hA
      go_wp2_with (first
    | ((with_reducible refine gate_dst (N := 33) rfl ?_); refine l_build1A rfl H 76 50 _ rfl Tryd.underlying76 _ rfl _ _ zs50 rfl (by (first | rfl | assumption | omega | (simp only [nums_length]; omega) | (simp [nums_length, zs]; done) | (simp [nums_length, zs]; omega))) (by decide) (by decide) ?_; clear H; intro g33 W H)
    | ((with_reducible refine gate_dst (N := 34) rfl ?_); refine l_append1 rfl H _ _ 76 50 rfl Tryd.underlying76 _ _ _ inf50 rfl (by decide) (by decide) _ _ _ rfl (by (repeat (first | exact In.head | apply In.tail))) _ _ rfl (by (repeat (first | exact In.head | apply In.tail))) (by (first | rfl | assumption | omega | (simp only [nums_length]; omega) | (simp [nums_length, zs]; done) | (simp [nums_length, zs]; omega))) (by (first | exact nums_one | assumption | (intro u hu; simp at hu; subst hu; rfl) | (intro u hu; simp at hu; rcases hu with rfl | rfl | rfl | rfl | rfl | rfl | rfl <;> rfl) | (intro u hu; simp at hu; rcases hu with rfl | rfl | rfl | rfl <;> rfl) | (intro u hu; simp at hu; rcases hu with rfl | rfl | rfl <;> rfl) | (intro u hu; simp at hu; rcases hu with rfl | rfl <;> rfl))) (by omega) ?_; clear H; intro v34 W H)
    | (go_at_call 88; (with_reducible refine (S2 _ H.below).mono ?_); rintro e W ⟨rfl, hb⟩; replace H := H.to hb; clear hb))
      go_roundg gk'
      case measure => omega
      case rel =>
        refine ⟨k + 1, by go_num, by omega, ?_⟩
        rw [hfp, ← nums_app]
        exact H.del .head
    · have q1 : decide (k < m) = false := decide_eq_false ck
      obtain rfl : k = m := by omega
      go_wp2
      go_ret2
      exact ⟨_, rfl, H.at_ .head, H.below⟩
theorem touch0 (t : Int) : ∃ y : Nat, tch (cl 0) (cl t) = (((0 : Nat) : Int), (y : Int)) ∧ y ≤ 16 := by
  obtain ⟨x, y, h, h1, h2⟩ := touch_nat 0 t
  have hx : x = 0 := by
    have e := congrArg Prod.fst h
    unfold tch at e
    rw [show cl 0 = 0 from rfl] at e
    split at e
    · simpa using e.symm
    · have : ((0 : Int) / 52, (cl t - 1) / 52 + 1).1 = (x : Int) := e
      simpa using this.symm
  subst hx
  exact ⟨y, h, h2⟩
/-- the first k of the sixteen sectors of a body of which b are laid -/
def flatW (e : Int) (body : List Int) (b k : Nat) : List Int := flatP e body 0 (min k b) ++ zs (64 * (k - b))
theorem flatW_len (e : Int) (body : List Int) (b k : Nat) : (flatW e body b k).length = 64 * k := by
  unfold flatW zs
  rw [List.length_append, flatP_len, List.length_replicate]
  omega
theorem zs_add (a b : Nat) : zs (a + b) = zs a ++ zs b := by unfold zs; rw [List.replicate_append_replicate]
theorem flatW_zero (e : Int) (body : List Int) (b k : Nat) (h : b ≤ k) : flatW e body b (k + 1) = flatW e body b k ++ zs 64 := by
  unfold flatW
  rw [Nat.min_eq_right h, Nat.min_eq_right (by omega), show 64 * (k + 1 - b) = 64 * (k - b) + 64 by omega, zs_add, List.append_assoc]
theorem flatW_sec (e : Int) (body : List Int) (b k : Nat) (h : k < b) : flatW e body b (k + 1) = flatW e body b k ++ sealF e (k : Int) (bodySec body k) := by
  unfold flatW
  rw [Nat.min_eq_left (by omega), Nat.min_eq_left (by omega), show 64 * (k + 1 - b) = 0 by omega, show 64 * (k - b) = 0 by omega, show zs 0 = [] from rfl, List.append_nil, List.append_nil]
  show flatP e body 0 k ++ sealF e ((0 + k : Nat) : Int) (bodySec body (0 + k)) = _
  rw [Nat.zero_add]
theorem flatW_at (e : Int) (body : List Int) (b : Nat) : flatW e body b b = flatP e body 0 b := by
  unfold flatW
  rw [Nat.min_self, Nat.sub_self, Nat.mul_zero, show zs 0 = [] from rfl, List.append_nil]
theorem flatW_bytes {body : List Int} (h : Bytes body) (e : Int) (b k : Nat) : Bytes (flatW e body b k) := bytes_append (flatP_bytes h _ _ _) (bytes_zs _)
set_option maxRecDepth 100000 in
set_option maxHeartbeats 4000000 in
theorem whole_calls (e : Int) (h0 : 0 ≤ e) (h1 : e ≤ 18446744073709551615) (body : List Int) (t : Int) (b : Nat) (ht : tch (cl 0) (cl t) = (((0 : Nat) : Int), (b : Int))) (hb : b ≤ 16) (A : Option Addr) (c : Nat) (w : World) (hr : Kd.C (Kd.int .u8) w A body.length body) (hc : body.length ≤ c) (hl : body.length ≤ 140737488351232) :
    Calls Tryd.prog 70 #[.int .u64 e, .slice A body.length c, .int .i64 t] w fun en w' => ∃ v, en = .returned v ∧ w'.ownsRow w.heap.size 50 64 v 16 (nums .u8 (flatW e body b 16)) ∧ Below w.heap.size w w' := by
  have W1 := fun W (hB : Below w.heap.size w W) => write_calls e h0 h1 body 0 t 0 b ht (Nat.zero_le _) hb A c W (Kd.C_below hr hB) hc hl
  rw [Nat.sub_zero] at W1
  have hz := fun k (hk : b ≤ k) => flatW_zero e body b k hk
  have hat := flatW_at e body b
  rw [← hat] at W1
  generalize hF : flatW e body b = F at *
  obtain ⟨n, hn⟩ : ∃ n, body.length = n := ⟨_, rfl⟩
  rw [hn] at W1 ⊢
  clear hn hl hc hr hat hF ht
  have H := Own.start w
  go_enter Tryd.func70, Tryd.ntmps70
  go_wp2_with (first
    | (go_at_call 82; (with_reducible refine (W1 _ H.below).mono ?_); rintro e W ⟨v, rfl, ho, hb'⟩; replace H := H.addRow hb' ho; clear hb' ho))
  go_loopg [8] (16 - b) (fun gq v8 w' => ∃ k : Nat, k + gq = 16 ∧ b ≤ k ∧ Own w F0 [.row v8 50 64 k (nums .u8 (F k))] w')
  case atStart => exact ⟨b, by omega, Nat.le_refl _, H⟩
  case round =>
    clear H
    obtain ⟨k, hk, hbk, H⟩ := hrel
    obtain ⟨A8, c8, rfl⟩ := H.row_slice .head
    by_cases ck : k < 16
    · obtain ⟨gk', rfl⟩ : ∃ q, gk = q + 1 := ⟨gk - 1, by omega⟩
      have q1 : decide ((k : Int) < 16) = true := decide_eq_true (by omega)
      have hbd : (k + 1) * 64 ≤ 140737488355328 := by omega
      have hzk := hz k hbk
      go_wp2_with (first
    | ((with_reducible refine gate_dst (N := 21) rfl ?_); refine l_build1A rfl H 76 50 _ rfl Tryd.underlying76 _ rfl _ _ zs50 rfl (by (first | rfl | assumption | omega | (simp only [nums_length]; omega) | (simp [nums_length, zs]; done) | (simp [nums_length, zs]; omega))) (by decide) (by decide) ?_; clear H; intro g21 W H)
    | ((with_reducible refine gate_dst (N := 22) rfl ?_); refine l_append1 rfl H _ _ 76 50 rfl Tryd.underlying76 _ _ _ inf50 rfl (by decide) (by decide) _ _ _ rfl (by (repeat (first | exact In.head | apply In.tail))) _ _ rfl (by (repeat (first | exact In.head | apply In.tail))) (by (first | rfl | assumption | omega | (simp only [nums_length]; omega) | (simp [nums_length, zs]; done) | (simp [nums_length, zs]; omega))) (by (first | exact nums_one | assumption | (intro u hu; simp at hu; subst hu; rfl) | (intro u hu; simp at hu; rcases hu with rfl | rfl | rfl | rfl | rfl | rfl | rfl <;> rfl) | (intro u hu; simp at hu; rcases hu with rfl | rfl | rfl | rfl <;> rfl) | (intro u hu; simp at hu; rcases hu with rfl | rfl | rfl <;> rfl) | (intro u hu; simp at hu; rcases hu with rfl | rfl <;> rfl))) (by omega) ?_; clear H; intro v22 W H)
    | ((with_reducible refine gate_dst (N := 20) rfl ?_); refine l_run rfl (.agg (nums .u8 (zs 64)).toArray) (by kernel_rfl) ?_))
      go_roundg gk'
      case measure => omega
      case rel =>
        refine ⟨k + 1, by omega, by omega, ?_⟩
        rw [hzk, ← nums_app]
        exact H.del .head
    · have q1 : decide ((k : Int) < 16) = false := decide_eq_false (by omega)
      obtain rfl : k = 16 := by omega
      go_wp2
      go_ret
      exact ⟨_, rfl, H.at_ .head, H.below⟩
set_option maxRecDepth 100000 in
set_option maxHeartbeats 4000000 in
theorem rwhole_calls (e : Int) (h0 : 0 ≤ e) (h1 : e ≤ 18446744073709551615) (body : List Int) (t : Int) (b : Nat) (ht : tch (cl 0) (cl t) = (((0 : Nat) : Int), (b : Int))) (hb : b ≤ 16) (A : Option Addr) (c : Nat) (w : World) (hr : Kd.C (Kd.int .u8) w A body.length body) (hc : body.length ≤ c) (hl : body.length ≤ 140737488351232) :
    Calls Tryd.prog 71 #[.int .u64 e, .slice A body.length c, .int .i64 t] w fun en w' => ∃ v, en = .returned v ∧ w'.ownsRow w.heap.size 50 64 v 16 (nums .u8 (flatW e body b 16)) ∧ Below w.heap.size w w' := by
  have T1 := fun W => rtouch_c 0 t 0 b ht W
  have S1 := fun i (hi : i ≤ 16) W (hB : Below w.heap.size w W) => r16sector_calls e h0 h1 body i hi A c W (Kd.C_below hr hB) hc hl
  have hz := fun k (hk : b ≤ k) => flatW_zero e body b k hk
  have hs := fun k (hk : k < b) => flatW_sec e body b k hk
  have hat : flatW e body b 0 = [] := List.eq_nil_of_length_eq_zero (flatW_len e body b 0)
  have hsl := fun k : Nat => sealF_len e (k : Int) (bodySec body k)
  generalize hF : flatW e body b = F at *
  obtain ⟨n, hn⟩ : ∃ n, body.length = n := ⟨_, rfl⟩
  rw [hn] at S1 ⊢
  clear hn hl hc hr hF ht
  have H := (show Own w F0 [.row (.slice none 0 0) 50 64 0 []] w from (Own.start w).cons (Below.refl _ _) (own_nil _ _ _ _) (fun k hk => by cases hk))
  go_enter Tryd.func71, Tryd.ntmps71
  go_wp2_with (first
    | (go_at_call 83; (with_reducible refine (T1 _).mono ?_); rintro e W ⟨rfl, hb'⟩; replace H := H.to hb'; clear hb'))
  go_loopg [9, 10] 16 (fun gq v9 v10 w' => ∃ k : Nat, v10 = .int .i64 (k : Int) ∧ k + gq = 16 ∧ Own w F0 [.row v9 50 64 k (nums .u8 (F k))] w')
  case atStart => exact ⟨0, rfl, rfl, by rw [hat]; exact H⟩
  case round =>
    clear H
    obtain ⟨k, rfl, hk, H⟩ := hrel
    by_cases ck : k < 16
    · obtain ⟨gk', rfl⟩ : ∃ q, gk = q + 1 := ⟨gk - 1, by omega⟩
      have q1 : decide ((k : Int) < 16) = true := decide_eq_true (by omega)
      have hbd : (k + 1) * 64 ≤ 140737488355328 := by omega
      by_cases cb : k < b
      · have q2 : decide (k < b) = true := decide_eq_true cb
        have hsk := hs k cb
        have S2 := S1 k (by omega)
        have hl := hsl k
        generalize sealF e (k : Int) (bodySec body k) = s at S2 hl hsk
        clear hs hz hsl
        go_wp2_with (first
    | ((with_reducible refine gate_dst (N := 28) rfl ?_); refine l_build1A rfl H 76 50 _ rfl Tryd.underlying76 _ rfl _ _ zs50 rfl (by (first | rfl | assumption | omega | (simp only [nums_length]; omega) | (simp [nums_length, zs]; done) | (simp [nums_length, zs]; omega))) (by decide) (by decide) ?_; clear H; intro g28 W H)
    | ((with_reducible refine gate_dst (N := 29) rfl ?_); refine l_append1 rfl H _ _ 76 50 rfl Tryd.underlying76 _ _ _ inf50 rfl (by decide) (by decide) _ _ _ rfl (by (repeat (first | exact In.head | apply In.tail))) _ _ rfl (by (repeat (first | exact In.head | apply In.tail))) (by (first | rfl | assumption | omega | (simp only [nums_length]; omega) | (simp [nums_length, zs]; done) | (simp [nums_length, zs]; omega))) (by (first | exact nums_one | assumption | (intro u hu; simp at hu; subst hu; rfl) | (intro u hu; simp at hu; rcases hu with rfl | rfl | rfl | rfl | rfl | rfl | rfl <;> rfl) | (intro u hu; simp at hu; rcases hu with rfl | rfl | rfl | rfl <;> rfl) | (intro u hu; simp at hu; rcases hu with rfl | rfl | rfl <;> rfl) | (intro u hu; simp at hu; rcases hu with rfl | rfl <;> rfl))) (by omega) ?_; clear H; intro v29 W H)
    | (go_at_call 84; (with_reducible refine (S2 _ H.below).mono ?_); rintro e W ⟨rfl, hb'⟩; replace H := H.to hb'; clear hb'))
        go_roundg gk'
        case measure => omega
        case rel =>
          refine ⟨k + 1, by go_num, by omega, ?_⟩
          rw [hsk, ← nums_app]
          exact H.del .head
      · have q2 : decide (k < b) = false := decide_eq_false cb
        have hzk := hz k (by omega)
        clear hs hz hsl
        go_wp2_with (first
    | ((with_reducible refine gate_dst (N := 32) rfl ?_); refine l_build1A rfl H 76 50 _ rfl Tryd.underlying76 _ rfl _ _ zs50 rfl (by (first | rfl | assumption | omega | (simp only [nums_length]; omega) | (simp [nums_length, zs]; done) | (simp [nums_length, zs]; omega))) (by decide) (by decide) ?_; clear H; intro g32 W H)
    | ((with_reducible refine gate_dst (N := 33) rfl ?_); refine l_append1 rfl H _ _ 76 50 rfl Tryd.underlying76 _ _ _ inf50 rfl (by decide) (by decide) _ _ _ rfl (by (repeat (first | exact In.head | apply In.tail))) _ _ rfl (by (repeat (first | exact In.head | apply In.tail))) (by (first | rfl | assumption | omega | (simp only [nums_length]; omega) | (simp [nums_length, zs]; done) | (simp [nums_length, zs]; omega))) (by (first | exact nums_one | assumption | (intro u hu; simp at hu; subst hu; rfl) | (intro u hu; simp at hu; rcases hu with rfl | rfl | rfl | rfl | rfl | rfl | rfl <;> rfl) | (intro u hu; simp at hu; rcases hu with rfl | rfl | rfl | rfl <;> rfl) | (intro u hu; simp at hu; rcases hu with rfl | rfl | rfl <;> rfl) | (intro u hu; simp at hu; rcases hu with rfl | rfl <;> rfl))) (by omega) ?_; clear H; intro v33 W H)
    | ((with_reducible refine gate_dst (N := 31) rfl ?_); refine l_run rfl (.agg (nums .u8 (zs 64)).toArray) (by kernel_rfl) ?_))
        go_roundg gk'
        case measure => omega
        case rel =>
          refine ⟨k + 1, by go_num, by omega, ?_⟩
          rw [hzk, ← nums_app]
          exact H.del .head
    · have q1 : decide ((k : Int) < 16) = false := decide_eq_false (by omega)
      obtain rfl : k = 16 := by omega
      go_wp2
      go_ret
      exact ⟨_, rfl, H.at_ .head, H.below⟩
end Go.Proofs.YthhbilkmdfdfiaaDoor.O
end

section
/- image.Sectors and the reference's, by what is owned. -/
set_option linter.unusedVariables false
set_option linter.unusedSimpArgs false
namespace Go.Proofs.YthhbilkmdfdfiaaDoor.O
open Go.RowKit Go.Proofs.YthhbilkmdfdfiaaDoorW.PrintWords Go.Proofs.YthhbilkmdfdfiaaDoorW.PrintLast Go.Proofs.YthhbilkmdfdfiaaDoorW.PrintMore Go.Proofs.YthhbilkmdfdfiaaDoor.F Go.Proofs.YthhbilkmdfdfiaaDoor.F.Nums Go.Proofs.YthhbilkmdfdfiaaDoor.Plain
set_option maxRecDepth 100000 in
set_option maxHeartbeats 4000000 in
theorem sectors_yes (e64 : Int) (l : List (List Int)) (A : Option Addr) (c : Nat) (w : World) (b : Nat) (h : Img.layAll e64 l = true) (ht : tch (cl 0) (cl (Img.laySt e64 l l.length).2) = (((0 : Nat) : Int), (b : Int))) (hb : b ≤ 16) (he : 0 ≤ e64 ∧ e64 ≤ 18446744073709551615) (hl : ∀ x ∈ l, Bytes x)
    (hll : ∀ x ∈ l, x.length < 140737488355328) (hn : l.length ≤ 1000000) (hC : (Kd.slice 5 (Kd.int .u8)).C w A l.length l) (hH : Half w) :
    Calls Tryd.prog 49 #[.int .u64 e64, .slice A l.length c] w fun e W => ∃ v, e = .returned (.tuple #[v, .bool true]) ∧ W.ownsRow w.heap.size 50 64 v 16 (nums .u8 (flatW e64 (Img.laySt e64 l l.length).1 b 16)) ∧ Below w.heap.size w W := by
  have H := Own.start w
  have BC := fun W h1 h2 => body_yes e64 l A c W h he hl hll hn h1 h2
  have hbl := Img.laySt_len e64 l l.length
  have WC := fun A1 W h1 => whole_calls e64 he.1 he.2 (Img.laySt e64 l l.length).1 (Img.laySt e64 l l.length).2 b ht hb A1 832 W h1 (by omega) (by omega)
  rw [hbl] at WC
  generalize flatW e64 (Img.laySt e64 l l.length).1 b 16 = fl at *
  clear ht h
  generalize (Img.laySt e64 l l.length).1 = body at *
  generalize (Img.laySt e64 l l.length).2 = en at *
  generalize l.length = n at *
  go_enter Tryd.func49, Tryd.ntmps49
  go_wp2_with (first
  | (go_at_call 46; (with_reducible refine (BC _ (Kd.C_below hC H.below) (hH.below H.below)).mono ?_); rintro e W ⟨g6, rfl, HO⟩; replace H := H.addK HO; clear HO; dsimp only [List.cons_append, List.nil_append] at H)
  | (go_at_call 70; (with_reducible refine (WC _ _ (by have q := H.C .head 0 832 (by omega) (by omega); rw [List.drop_zero, List.take_of_length_le (by omega)] at q; exact q)).mono ?_); rintro e W ⟨v4, rfl, ho, hb'⟩; replace H := H.addRow hb' ho; clear ho hb'))
  go_ret2
  exact ⟨_, rfl, H.at_ .head, H.below⟩
set_option maxRecDepth 100000 in
set_option maxHeartbeats 4000000 in
theorem sectors_nope (e64 : Int) (l : List (List Int)) (A : Option Addr) (c : Nat) (w : World) (h : Img.layAll e64 l = false) (he : 0 ≤ e64 ∧ e64 ≤ 18446744073709551615) (hl : ∀ x ∈ l, Bytes x)
    (hll : ∀ x ∈ l, x.length < 140737488355328) (hn : l.length ≤ 1000000) (hC : (Kd.slice 5 (Kd.int .u8)).C w A l.length l) (hH : Half w) :
    Calls Tryd.prog 49 #[.int .u64 e64, .slice A l.length c] w fun e W => e = .returned (.tuple #[.slice none 0 0, .bool false]) ∧ Below w.heap.size w W := by
  have H := Own.start w
  have BC := fun W h1 h2 => body_nope e64 l A c W h he hl hll hn h1 h2
  generalize l.length = n at *
  go_enter Tryd.func49, Tryd.ntmps49
  go_wp2_with (first
  | (go_at_call 46; (with_reducible refine (BC _ (Kd.C_below hC H.below) (hH.below H.below)).mono ?_); rintro e W ⟨rfl, hb⟩; replace H := H.to hb; clear hb))
  go_ret2
  exact ⟨rfl, H.below⟩
set_option maxRecDepth 100000 in
set_option maxHeartbeats 4000000 in
theorem rsectors_yes (e64 : Int) (l : List (List Int)) (A : Option Addr) (c : Nat) (w : World) (b : Nat) (h : Img.layAll e64 l = true) (ht : tch (cl 0) (cl (Img.laySt e64 l l.length).2) = (((0 : Nat) : Int), (b : Int))) (hb : b ≤ 16) (he : 0 ≤ e64 ∧ e64 ≤ 18446744073709551615) (hl : ∀ x ∈ l, Bytes x)
    (hll : ∀ x ∈ l, x.length ≤ 140737488355328) (hn : l.length ≤ 1000000) (hC : (Kd.slice 5 (Kd.int .u8)).C w A l.length l) (hc : l.length ≤ c) :
    Calls Tryd.prog 50 #[.int .u64 e64, .slice A l.length c] w fun e W => ∃ v, e = .returned (.tuple #[v, .bool true]) ∧ W.ownsRow w.heap.size 50 64 v 16 (nums .u8 (flatW e64 (Img.laySt e64 l l.length).1 b 16)) ∧ Below w.heap.size w W := by
  have H := Own.start w
  have hR := Img.rlay_eq (7000 + l.length) e64 l he.1 hl hll hn (Nat.le_refl _)
  unfold Img.layR at hR
  rw [if_pos h] at hR
  have BC := fun W h1 => strandlineref17_Lay.calls (7000 + l.length) e64 A c l _ _ _ _ W h1 hc hR
  have hbl := Img.laySt_len e64 l l.length
  have WC := fun A1 c1 W h1 (h2 : 832 ≤ c1) => rwhole_calls e64 he.1 he.2 (Img.laySt e64 l l.length).1 (Img.laySt e64 l l.length).2 b ht hb A1 c1 W h1 (by omega) (by omega)
  rw [hbl] at WC
  generalize flatW e64 (Img.laySt e64 l l.length).1 b 16 = fl at *
  clear ht h hR
  generalize Img.layPl e64 l l.length = pl at *
  generalize (Img.laySt e64 l l.length).1 = body at *
  generalize (Img.laySt e64 l l.length).2 = en at *
  generalize l.length = n at *
  go_enter Tryd.func50, Tryd.ntmps50
  go_wp2_with (first
  | (go_at_call 47; (with_reducible refine (BC _ (Kd.C_below hC H.below)).mono ?_); rintro e W ⟨v6, v7, rfl, hR6, hR7, hb⟩; replace H := H.to hb; obtain ⟨A6, c6, rfl, hl6, C6⟩ := Kd.R_reads hR6; rw [hbl] at hl6 C6 ⊢; clear hb hR6 hR7)
  | (go_at_call 71; (with_reducible refine (WC _ _ _ C6 hl6).mono ?_); rintro e W ⟨v4, rfl, ho, hb'⟩; replace H := H.addRow hb' ho; clear ho hb'))
  go_ret2
  exact ⟨_, rfl, H.at_ .head, H.below⟩
set_option maxRecDepth 100000 in
set_option maxHeartbeats 4000000 in
theorem rsectors_nope (e64 : Int) (l : List (List Int)) (A : Option Addr) (c : Nat) (w : World) (h : Img.layAll e64 l = false) (he : 0 ≤ e64 ∧ e64 ≤ 18446744073709551615) (hl : ∀ x ∈ l, Bytes x)
    (hll : ∀ x ∈ l, x.length ≤ 140737488355328) (hn : l.length ≤ 1000000) (hC : (Kd.slice 5 (Kd.int .u8)).C w A l.length l) (hc : l.length ≤ c) :
    Calls Tryd.prog 50 #[.int .u64 e64, .slice A l.length c] w fun e W => e = .returned (.tuple #[.slice none 0 0, .bool false]) ∧ Below w.heap.size w W := by
  have H := Own.start w
  have hR := Img.rlay_eq (7000 + l.length) e64 l he.1 hl hll hn (Nat.le_refl _)
  unfold Img.layR at hR
  rw [if_neg (by rw [h]; decide)] at hR
  have BC := fun W h1 => strandlineref17_Lay.calls (7000 + l.length) e64 A c l _ _ _ _ W h1 hc hR
  clear hR h
  generalize l.length = n at *
  go_enter Tryd.func50, Tryd.ntmps50
  go_wp2_with (first
  | (go_at_call 47; (with_reducible refine (BC _ (Kd.C_below hC H.below)).mono ?_); rintro e W ⟨v6, v7, rfl, hR6, hR7, hb⟩; replace H := H.to hb; obtain ⟨A6, c6, rfl, hl6, C6⟩ := Kd.R_reads hR6; clear hb hR6 hR7))
  go_ret2
  exact ⟨rfl, H.below⟩
end Go.Proofs.YthhbilkmdfdfiaaDoor.O
end

section
/- strandlinelaw17.ImageBodies: the statement's function. -/
set_option linter.unusedVariables false
set_option linter.unusedSimpArgs false
namespace Go.Proofs.YthhbilkmdfdfiaaDoor.O
open Go.RowKit Go.Proofs.YthhbilkmdfdfiaaDoorW.PrintWords Go.Proofs.YthhbilkmdfdfiaaDoorW.PrintLast Go.Proofs.YthhbilkmdfdfiaaDoorW.PrintMore Go.Proofs.YthhbilkmdfdfiaaDoor.F Go.Proofs.YthhbilkmdfdfiaaDoor.F.Nums Go.Proofs.YthhbilkmdfdfiaaDoor.Plain
theorem C_nil {w : World} {k : IntKind} : (Kd.int k).C w none 0 [] := ⟨rfl, by decide, fun h => absurd h (by decide)⟩
theorem places_yes (e64 : Int) (l : List (List Int)) (A : Option Addr) (c : Nat) (w : World) (h : Img.layAll e64 l = true) (hl : ∀ x ∈ l, Bytes x) (hll : ∀ x ∈ l, x.length < 140737488355328) (hn : l.length ≤ 1000000)
    (hC : (Kd.slice 5 (Kd.int .u8)).C w A l.length l) (hH : Half w) : Calls Tryd.prog 48 #[.slice A l.length c] w fun e W => ∃ v, e = .returned (.tuple #[v, .bool true]) ∧ Own w F0 [.row v 3 1 l.length (nums .i64 (Img.layPl e64 l l.length))] W :=
  (places_calls l A c w hl hll hn hC hH).mono (by
    rintro e W (⟨-, v, rfl, H⟩ | ⟨h2, -⟩)
    · exact ⟨v, rfl, by rw [layPl_any e64 0]; exact H⟩
    · rw [layAll_any 0 e64, h] at h2; cases h2)
theorem places_nope (e64 : Int) (l : List (List Int)) (A : Option Addr) (c : Nat) (w : World) (h : Img.layAll e64 l = false) (hl : ∀ x ∈ l, Bytes x) (hll : ∀ x ∈ l, x.length < 140737488355328) (hn : l.length ≤ 1000000)
    (hC : (Kd.slice 5 (Kd.int .u8)).C w A l.length l) (hH : Half w) : Calls Tryd.prog 48 #[.slice A l.length c] w fun e W => e = .returned (.tuple #[.slice none 0 0, .bool false]) ∧ Below w.heap.size w W :=
  (places_calls l A c w hl hll hn hC hH).mono (by
    rintro e W (⟨h2, -⟩ | ⟨-, rfl, hb⟩)
    · rw [layAll_any 0 e64, h] at h2; cases h2
    · exact ⟨rfl, hb⟩)
theorem same_self (fl : List Int) (n : Nat) (hf : fl.length = 64 * n) (hb : Bytes fl) (hn : n ≤ 9223372036854775807) (A B : Option Addr) (c d : Nat) (w : World) (hA : Rd w A (nums .u8 fl)) (hB : Rd w B (nums .u8 fl)) (hc : n ≤ c) (hd : n ≤ d) :
    Calls Tryd.prog 51 #[.slice A n c, .slice B n d] w fun e w' => e = .returned (.bool true) ∧ Below w.heap.size w w' := by
  have := same_calls fl fl n n hf hf hb hb A B c d w hA hB hc hd hn hn
  unfold sameB at this
  simpa using this
set_option maxRecDepth 100000 in
set_option maxHeartbeats 8000000 in
theorem imageBodies_law (e64 : Int) (l : List (List Int)) (A : Option Addr) (c : Nat) (w : World) (he : 0 ≤ e64 ∧ e64 ≤ 18446744073709551615) (hC : (Kd.slice 5 (Kd.int .u8)).C w A l.length l) (hc : l.length ≤ c) (hl : ∀ x ∈ l, Bytes x) (hll : ∀ x ∈ l, x.length < 140737488355328) (hH : Half w) :
    Calls Tryd.prog 14 #[.int .u64 e64, .slice A l.length c] w fun e W => e = .returned (.bool true) ∧ Below w.heap.size w W := by
  have H := Own.start w
  have AW := awake17_calls
  have FW := fun W h => few17_calls l A c W h hc
  cases q1 : decide ((l.length : Int) ≤ 100) with
  | false =>
    rw [q1] at FW
    generalize l.length = n at *
    go_enter Tryd.func14, Tryd.ntmps14
    go_wp2_with (first
    | (go_at_call 45; (with_reducible refine (FW _ (Kd.C_below hC H.below)).mono ?_); rintro e W ⟨rfl, hb⟩; replace H := H.to hb; clear hb)
    | (go_at_call 42; (with_reducible refine (AW _ (hH.below H.below)).mono ?_); rintro e W ⟨rfl, hb⟩; replace H := H.to hb; clear hb))
    go_ret
    exact ⟨rfl, H.below⟩
  | true =>
    rw [q1] at FW
    have hn : l.length ≤ 100 := by have := of_decide_eq_true q1; omega
    have hll2 : ∀ x ∈ l, x.length ≤ 140737488355328 := fun x hx => Nat.le_of_lt (hll x hx)
    have hR := Img.rlay_eq (7000 + l.length) e64 l he.1 hl hll2 (by omega) (Nat.le_refl _)
    unfold Img.layR at hR
    cases hok : Img.layAll e64 l with
    | false =>
      rw [if_neg (by rw [hok]; decide)] at hR
      have BC := fun W h1 h2 => body_nope e64 l A c W hok he hl hll (by omega) h1 h2
      have RC := fun W h1 => strandlineref17_Lay.calls (7000 + l.length) e64 A c l _ _ _ _ W h1 hc hR
      have PC := fun W h1 h2 => places_nope e64 l A c W hok hl hll (by omega) h1 h2
      have SC := fun W h1 h2 => sectors_nope e64 l A c W hok he hl hll (by omega) h1 h2
      have TC := fun W h1 => rsectors_nope e64 l A c W hok he hl hll2 (by omega) h1 hc
      have EC := fun W => same_self [] 0 rfl (fun _ h => by cases h) (by decide) none none 0 0 W (Rd.nil _ _) (Rd.nil _ _) (Nat.le_refl _) (Nat.le_refl _)
      clear hR hok
      generalize l.length = n at *
      go_enter Tryd.func14, Tryd.ntmps14
      go_wp2_with (first
      | ((with_reducible refine gate_dst (N := 39) rfl ?_); refine l_strC rfl 23 9 5 _ rfl rfl C_nil Tryd.underlying23 Tryd.underlying5 Tryd.underlying9 ?_)
      | ((with_reducible refine gate_dst (N := 41) rfl ?_); refine l_strC rfl 23 9 5 _ rfl rfl C8 Tryd.underlying23 Tryd.underlying5 Tryd.underlying9 ?_)
      | (go_at_call 45; (with_reducible refine (FW _ (Kd.C_below hC H.below)).mono ?_); rintro e W ⟨rfl, hb⟩; replace H := H.to hb; clear hb)
      | (go_at_call 46; (with_reducible refine (BC _ (Kd.C_below hC H.below) (hH.below H.below)).mono ?_); rintro e W ⟨rfl, hb⟩; replace H := H.to hb; clear hb)
      | (go_at_call 47; (with_reducible refine (RC _ (Kd.C_below hC H.below)).mono ?_); rintro e W ⟨v8, v9, rfl, hR8, hR9, hb⟩; replace H := H.to hb; obtain ⟨A8, c8, rfl, hl8, C8⟩ := Kd.R_reads hR8; obtain ⟨A9, c9, rfl, hl9, C9⟩ := Kd.R_reads hR9; clear hb hR8 hR9)
      | (go_at_call 48; (with_reducible refine (PC _ (Kd.C_below hC H.below) (hH.below H.below)).mono ?_); rintro e W ⟨rfl, hb⟩; replace H := H.to hb; clear hb))
      clear C8 C9
      go_loopg [14] 0 (fun gq v14 w' => v14 = .int .i64 0 ∧ Own w F0 [] w')
      case atStart => exact ⟨rfl, H⟩
      case round =>
        clear H
        obtain ⟨rfl, H⟩ := hrel
        go_wp2_with (first
        | (go_at_call 49; (with_reducible refine (SC _ (Kd.C_below hC H.below) (hH.below H.below)).mono ?_); rintro e W ⟨rfl, hb⟩; replace H := H.to hb; clear hb)
        | (go_at_call 50; (with_reducible refine (TC _ (Kd.C_below hC H.below)).mono ?_); rintro e W ⟨rfl, hb⟩; replace H := H.to hb; clear hb)
        | (go_at_call 51; (with_reducible refine (EC _).mono ?_); rintro e W ⟨rfl, hb⟩; replace H := H.to hb; clear hb)
        | (go_at_call 42; (with_reducible refine (AW _ (hH.below H.below)).mono ?_); rintro e W ⟨rfl, hb⟩; replace H := H.to hb; clear hb))
        go_ret
        exact ⟨rfl, H.below⟩
    | true =>
      rw [if_pos hok] at hR
      obtain ⟨b, ht, hb⟩ := touch0 (Img.laySt e64 l l.length).2
      have BC := fun W h1 h2 => body_yes e64 l A c W hok he hl hll (by omega) h1 h2
      have RC := fun W h1 => strandlineref17_Lay.calls (7000 + l.length) e64 A c l _ _ _ _ W h1 hc hR
      have PC := fun W h1 h2 => places_yes e64 l A c W hok hl hll (by omega) h1 h2
      have SC := fun W h1 h2 => sectors_yes e64 l A c W b hok ht hb he hl hll (by omega) h1 h2
      have TC := fun W h1 => rsectors_yes e64 l A c W b hok ht hb he hl hll2 (by omega) h1 hc
      have EC := fun A1 B1 c1 d1 W h1 h2 h3 h4 => same_self (flatW e64 (Img.laySt e64 l l.length).1 b 16) 16 (flatW_len _ _ _ _) (flatW_bytes (Img.laySt_bytes e64 l hl _) _ _ _) (by decide) A1 B1 c1 d1 W h1 h2 h3 h4
      have hpl := Img.layPl_len e64 l l.length
      have hbl := Img.laySt_len e64 l l.length
      clear hR hok ht
      generalize Img.layPl e64 l l.length = pl at *
      generalize flatW e64 (Img.laySt e64 l l.length).1 b 16 = fl at *
      generalize (Img.laySt e64 l l.length).1 = body at *
      generalize (Img.laySt e64 l l.length).2 = en at *
      generalize l.length = n at *
      go_enter Tryd.func14, Tryd.ntmps14
      go_wp2_with (first
      | ((with_reducible refine gate_dst (N := 39) rfl ?_); refine l_strC rfl 23 9 5 _ rfl rfl (by have q := H.C (.tail .head) 0 832 (by omega) (by omega); rw [List.drop_zero, List.take_of_length_le (by omega)] at q; exact q) Tryd.underlying23 Tryd.underlying5 Tryd.underlying9 ?_)
      | ((with_reducible refine gate_dst (N := 41) rfl ?_); refine l_strC rfl 23 9 5 _ rfl rfl C8 Tryd.underlying23 Tryd.underlying5 Tryd.underlying9 ?_)
      | (go_at_call 45; (with_reducible refine (FW _ (Kd.C_below hC H.below)).mono ?_); rintro e W ⟨rfl, hb⟩; replace H := H.to hb; clear hb)
      | (go_at_call 46; (with_reducible refine (BC _ (Kd.C_below hC H.below) (hH.below H.below)).mono ?_); rintro e W ⟨g5, rfl, HO⟩; replace H := H.addK HO; clear HO; dsimp only [List.cons_append, List.nil_append] at H)
      | (go_at_call 47; (with_reducible refine (RC _ (Kd.C_below hC H.below)).mono ?_); rintro e W ⟨v8, v9, rfl, hR8, hR9, hb⟩; obtain ⟨A8, c8, rfl, hl8, C8⟩ := Kd.R_reads hR8; rw [hbl] at hl8 C8 ⊢; replace H := H.addR hb hR9; rw [hpl] at H; obtain ⟨A9, c9, rfl⟩ := H.row_slice .head; clear hb hR8 hR9)
      | (go_at_call 48; (with_reducible refine (PC _ (Kd.C_below hC H.below) (hH.below H.below)).mono ?_); rintro e W ⟨v12, rfl, HO⟩; replace H := H.addK HO; clear HO C8; dsimp only [List.cons_append, List.nil_append] at H; obtain ⟨A12, c12, rfl⟩ := H.row_slice .head))
      go_loopg [14] n (fun gq v14 w' => ∃ k : Nat, v14 = .int .i64 (k : Int) ∧ k + gq = n ∧ Own w F0 [.row (.slice A12 n c12) 3 1 n (nums .i64 pl), .row (.slice A9 n c9) 3 1 n (nums .i64 pl), .blk g5 5 (nums .u8 body)] w')
      case atStart => exact ⟨0, rfl, by omega, H⟩
      case round =>
        clear H
        obtain ⟨k, rfl, hk, H⟩ := hrel
        by_cases ck : k < n
        · obtain ⟨gk', rfl⟩ : ∃ q, gk = q + 1 := ⟨gk - 1, by omega⟩
          have q2 : decide (k < n) = true := decide_eq_true ck
          have p0 : ((0 : Int) ≤ (k : Int)) = True := eq_true (by omega)
          have p1 : ((k : Int) < (n : Int)) = True := eq_true (by omega)
          have hz : (nums .i64 pl)[k]? = some (.int .i64 (pl.getD k 0)) := nums_at k (by omega)
          have hkb : k ≤ 100 := by omega
          generalize pl.getD k 0 = z at hz
          obtain ⟨a12, rfl⟩ := (H.rd .head).1.some_ (by rw [nums_length]; omega)
          obtain ⟨a9, rfl⟩ := (H.rd (.tail .head)).1.some_ (by rw [nums_length]; omega)
          go_wp2_with fail
          refine start_ (n := 9) (S := Own _ _ _) (ds := []) #[false, false, false, false, false, false, false, false, false] (by kernel_rfl) rfl rfl H.drew (fun hHeld => ?_)
          replace H := H.drew
          generalize World.drew _ = W at H hHeld ⊢
          refine pure_ (i := 0) (N := some 74) (v := ?_) (a' := ?_) #[true, false, false, false, false, false, false, false, false] rfl rfl (by kernel_rfl) (fun _ _ _ h => h) (Or.inl ⟨by rfl, ?_⟩) ?_ ?_
          rotate_left
          · intro w'
            go_simp
            with_reducible rfl
          rotate_left
          · simp only [Act.put, List.setIfInBounds_toArray, List.set_cons_zero, List.set_cons_succ, i64_w, i32_w]
            rfl
          refine pure_ (i := 1) (N := some 75) (v := ?_) (a' := ?_) #[true, true, false, false, false, false, false, false, false] rfl rfl (by kernel_rfl) (fun _ _ _ h => h) (Or.inl ⟨by rfl, ?_⟩) ?_ ?_
          rotate_left
          · intro w'
            go_simp
            with_reducible rfl
          rotate_left
          · simp only [Act.put, List.setIfInBounds_toArray, List.set_cons_zero, List.set_cons_succ, i64_w, i32_w]
            rfl
          refine pure_ (i := 2) (N := some 76) (v := ?_) (a' := ?_) #[true, true, true, false, false, false, false, false, false] rfl rfl (by kernel_rfl) (fun _ _ _ h => h) (Or.inl ⟨by rfl, ?_⟩) ?_ ?_
          rotate_left
          · intro w'
            go_simp
            with_reducible rfl
          rotate_left
          · simp only [Act.put, List.setIfInBounds_toArray, List.set_cons_zero, List.set_cons_succ, i64_w, i32_w]
            rfl
          refine pure_ (i := 4) (N := some 78) (v := ?_) (a' := ?_) #[true, true, true, false, true, false, false, false, false] rfl rfl (by kernel_rfl) (fun _ _ _ h => h) (Or.inl ⟨by rfl, ?_⟩) ?_ ?_
          rotate_left
          · intro w'
            go_simp
            with_reducible rfl
          rotate_left
          · simp only [Act.put, List.setIfInBounds_toArray, List.set_cons_zero, List.set_cons_succ, i64_w, i32_w]
            rfl
          refine pure_ (i := 5) (N := some 79) (v := ?_) (a' := ?_) #[true, true, true, false, true, true, false, false, false] rfl rfl (by kernel_rfl) (fun _ _ _ h => h) (Or.inl ⟨by rfl, ?_⟩) ?_ ?_
          rotate_left
          · intro w'
            go_simp
            with_reducible rfl
          rotate_left
          · simp only [Act.put, List.setIfInBounds_toArray, List.set_cons_zero, List.set_cons_succ, i64_w, i32_w]
            rfl
          refine pure_ (i := 6) (N := some 80) (v := ?_) (a' := ?_) #[true, true, true, false, true, true, true, false, false] rfl rfl (by kernel_rfl) (fun _ _ _ h => h) (Or.inl ⟨by rfl, ?_⟩) ?_ ?_
          rotate_left
          · intro w'
            go_simp
            with_reducible rfl
          rotate_left
          · simp only [Act.put, List.setIfInBounds_toArray, List.set_cons_zero, List.set_cons_succ, i64_w, i32_w]
            rfl
          refine take_run (i := 3) (N := some 77) (a' := ?_) #[true, true, true, true, true, true, true, false, false] rfl rfl (by kernel_rfl) (fun _ _ _ _ h => h) (by rfl) hHeld (.int .i64 z) (fun X HX => r_loadRd1 3 _ rfl k rfl (HX.rd .head).1 _ Tryd.underlying3 rfl _ hz) ?_ ?_
          rotate_left
          · simp only [Act.put, List.setIfInBounds_toArray, List.set_cons_zero, List.set_cons_succ, i64_w, i32_w]
            rfl
          refine take_run (i := 7) (N := some 81) (a' := ?_) #[true, true, true, true, true, true, true, true, false] rfl rfl (by kernel_rfl) (fun _ _ _ _ h => h) (by rfl) hHeld (.int .i64 z) (fun X HX => r_loadRd1 3 _ rfl k rfl (HX.rd (.tail .head)).1 _ Tryd.underlying3 rfl _ hz) ?_ ?_
          rotate_left
          · simp only [Act.put, List.setIfInBounds_toArray, List.set_cons_zero, List.set_cons_succ, i64_w, i32_w]
            rfl
          refine pure_ (i := 8) (N := some 82) (v := ?_) (a' := ?_) #[true, true, true, true, true, true, true, true, true] rfl rfl (by kernel_rfl) (fun _ _ _ h => h) (Or.inl ⟨by rfl, ?_⟩) ?_ ?_
          rotate_left
          · intro w'
            go_simp
            with_reducible rfl
          rotate_left
          · simp only [Act.put, List.setIfInBounds_toArray, List.set_cons_zero, List.set_cons_succ, i64_w, i32_w]
            rfl
          refine done_ (by kernel_rfl) ?_
          clear hHeld
          go_wp2_with fail
          go_roundg gk'
          case measure => omega
          case rel => exact ⟨k + 1, by go_num, by omega, H⟩
        · have q2 : decide (k < n) = false := decide_eq_false ck
          obtain rfl : k = n := by omega
          go_wp2_with (first
          | (go_at_call 49; (with_reducible refine (SC _ (Kd.C_below hC H.below) (hH.below H.below)).mono ?_); rintro e W ⟨v15, rfl, ho, hb'⟩; replace H := H.addRow hb' ho; clear ho hb'; obtain ⟨A15, c15, rfl⟩ := H.row_slice .head)
          | (go_at_call 50; (with_reducible refine (TC _ (Kd.C_below hC H.below)).mono ?_); rintro e W ⟨v17, rfl, ho, hb'⟩; replace H := H.addRow hb' ho; clear ho hb'; obtain ⟨A17, c17, rfl⟩ := H.row_slice .head)
          | (go_at_call 51; (with_reducible refine (EC _ _ _ _ _ (H.rd (.tail .head)).1 (H.rd .head).1 (H.rd (.tail .head)).2.1 (H.rd .head).2.1).mono ?_); rintro e W ⟨rfl, hb'⟩; replace H := H.to hb'; clear hb')
          | (go_at_call 42; (with_reducible refine (AW _ (hH.below H.below)).mono ?_); rintro e W ⟨rfl, hb⟩; replace H := H.to hb; clear hb))
          go_ret
          exact ⟨rfl, H.below⟩
end Go.Proofs.YthhbilkmdfdfiaaDoor.O
end

section
/- 'strandlinelaw17.ImageBodies': whatever the input: true; the input reads as it did; the listed table tied to the program's text. -/
namespace Go.Proofs.YthhbilkmdfdfiaaDoor.imageBodies
open Go.ChangeShapes Go.WideShapes Go.ChangeAt Go.RowKit Go.Joins Go.Proofs.YthhbilkmdfdfiaaDoor.Door Go.Proofs.YthhbilkmdfdfiaaDoorW.PrintWords
open Go.ChangeMaps (open_string shut_string)
set_option linter.unusedVariables false
set_option maxRecDepth 100000 in
set_option maxHeartbeats 4000000 in
theorem lifted (os : Os) (started : os.Started) (H : Type) (enc : TypeId × Value → H) :
    ReturnsInHanded {} Tryd.checked os 14 .any (fun w args => (Rows.imageBodiesSpec.pre enc Tryd.prog Tryd.f14 [] false w args ∧ laidMetH Tryd.prog laid1 w) ∧ sizedMet enc Tryd.prog Tryd.f14 (OpenSpec.ofChange Rows.imageBodiesSpec) false w args)
      (Rows.imageBodiesSpec.post enc Tryd.prog Tryd.f14 false true false false) := by
  refine returnsInHanded_of_change_and (C := Tryd.checked) (X := fun w _ => laidMetH Tryd.prog laid1 w) (fun _ _ _ hh h => h.of_heap hh) own started (by kernel_rfl) Tryd.func14
    (ChangeSpec.witness_shaped (enc := enc) (C := Tryd.checked) (os := os) (X := fun w _ => laidMetH Tryd.prog laid1 w) false (World.doorLaid Tryd.prog 400 os) #[.int .u64 0, .slice none 0 0] 8 rfl (World.shaped_of_RefB (by kernel_rfl) (by kernel_rfl)) (by kernel_rfl) (by kernel_rfl) (by kernel_rfl) (door_met os _)) ?_
  intro W base args ds gs before hval0 hW _ hsz0 hL _
  have hsz : (DataW.weightsEach Tryd.prog (Tryd.f14.params.toList ++ Rows.imageBodiesSpec.plain.varTypes Tryd.prog) (ds ++ gs)).all (· ≤ reachBytes) = true := hsz0
  have hval : ∀ (j : Nat) t v, Tryd.f14.params[j]? = some t → args[j]? = some v → Value.okWide Tryd.prog W .any base t v := hval0
  have hW' := hW
  obtain ⟨p, q, hA0, hV, rfl, hfz, hnd⟩ := hW
  have hA : DataW.TrodAll enc Tryd.prog W 0 (fun _ => true) true Tryd.f14.params.toList args.toList ds p := hA0
  rw [Tryd.params14] at hA hval hsz
  obtain ⟨v0, vs0, d0, ds0, p0, q0, hargs, rfl, rfl, h0, r0⟩ := trodAll_cons hA
  obtain ⟨v1, vs1, d1, ds1, p1, q1, rfl, rfl, rfl, h1, r1⟩ := trodAll_cons r0
  obtain ⟨rfl, rfl, rfl⟩ := trodAll_nil r1
  obtain rfl : args = #[v0, v1] := by cases args; simp_all
  obtain ⟨rfl, rfl⟩ := trodVars_none hV
  obtain ⟨a0, rfl, rfl, rfl, w0⟩ := open_int Tryd.underlying51 (hval 0 51 v0 rfl rfl) h0
  have k1 := h1
  have lt1 : ∀ x ∈ p1, x.block < W.heap.size := by obtain ⟨m, hm⟩ := k1; exact DataW.trod_lt m _ _ _ hm
  obtain ⟨b1, len1, cap1, rfl⟩ := okWide_slice Tryd.underlying67 (hval 1 67 v1 rfl rfl)
  obtain ⟨m1, hm1⟩ := h1
  obtain ⟨A1, l1, c1, e1, hc1, hC1, hB1, hr1⟩ := F.open_C_rows 5 Tryd.underlying67 Tryd.underlying23 Tryd.underlying5 (by kernel_rfl) (by kernel_rfl) hm1 (F.fit_arg hsz 1 (t := 67) (d := d1) rfl rfl)
  simp [Value.cells] at e1
  obtain ⟨rfl, rfl, rfl⟩ := e1
  clear hA0 hval0 hsz0
  have y0 := F.wf_u64 w0
  have z2 : Tryd.prog.bytesOf 5 = 1 := by kernel_rfl
  have z3 : reachBytes = 140737488351232 := by decide
  refine (O.imageBodies_law a0 l1 _ _ W y0 hC1 hc1 (fun x hx => O.bytes_of_wf (hB1 x hx).1) (fun x hx => by have := (hB1 x hx).2; rw [z2, z3] at this; omega) (half_of hL)).mono fun e W' ⟨he, bel⟩ => ?_
  subst he
  exact ⟨_, rfl, _, _, _, [], _, [], hW', trodAll_mk1 (shut_bool Tryd.underlying4 _), (trodAll_cons_mk (shut_int Tryd.underlying51 w0) (trodAll_cons_mk (Below.trod laidOut (by kernel_rfl) (of_decide_eq_true (by kernel_rfl)) k1 bel lt1) trodAll_mk0)), rfl, bel.frame _, fun h => by cases h⟩
theorem over : Rows.ImageBodiesSaid :=
  OpenClaim.holds_of_wide 14 Tryd.f14 rfl rfl rfl rfl rfl rfl rfl ⟨rfl, rfl, rfl, rfl, rfl⟩ rfl rfl rfl rfl rfl (by kernel_rfl) Tryd.func14 (by kernel_rfl)
    (of_decide_eq_true (by kernel_rfl)) (by unfold Func.isWrapper; first | (rw [if_pos (by decide +kernel)]; kernel_rfl) | (rw [if_neg (by decide +kernel)]; exact ⟨rfl, rfl⟩))
    (fun os started H enc _ => lifted os started H enc)
theorem card : Rows.ImageBodiesCardSaid :=
  Claim7.holds_tied_plain_at .later [] [.data] true Rows.imageBodiesCard.stood.harness false
    over (fun _ h => by cases h) (by kernel_rfl) (fun _ h => by cases h) imageBodies_row_tie rfl ⟨rfl, rfl⟩ (by kernel_rfl) rfl
    (fun f fn hf hfn => by
      obtain rfl : f = 14 := Option.some.inj ((show Tryd.prog.funcNamed "strandline/strandlinelaw17.ImageBodies" = some 14 by kernel_rfl).symm.trans hf) |>.symm
      obtain rfl : fn = Tryd.f14 := (Option.some.inj (Tryd.func14.symm.trans hfn)).symm
      exact ⟨by kernel_rfl, fun j t ht => by
        rw [Tryd.params14] at ht
        have hm : t ∈ [51, 67] := by simpa using Array.mem_of_getElem? ht
        have hall : ([51, 67].all fun u => !Tryd.prog.wantsStandIn u) = true := by kernel_rfl
        exact (show Tryd.prog.wantsStandIn t = false by simpa using List.all_eq_true.1 hall t hm)⟩)
    (by kernel_rfl)
end Go.Proofs.YthhbilkmdfdfiaaDoor.imageBodies
namespace Go.Proofs.YthhbilkmdfdfiaaDoor
/-- The row, under a short name, for the claim. -/
theorem imageBodiesCard_holds : Rows.ImageBodiesCardSaid := imageBodies.card
#print axioms imageBodiesCard_holds
end Go.Proofs.YthhbilkmdfdfiaaDoor
end
