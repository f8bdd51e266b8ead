/- PlanBack: the statement's function. -/
import Derived.Test.YthlpimojojofbaaPlanAwake
import Derived.Test.YthlpimojojofbaaPlanBackM
namespace Go.Proofs.Ythlpimojojofbaa.O
open Go.RowKit Go.Proofs.YthlpimojojofbaaW.PrintWords Go.Proofs.YthlpimojojofbaaW.PrintLast Go.Proofs.YthlpimojojofbaaW.PrintMore Go.Proofs.Ythlpimojojofbaa.F Go.Proofs.Ythlpimojojofbaa.F.Nums Go.Proofs.Ythlpimojojofbaa.Plain
set_option linter.unusedVariables false
set_option linter.unusedSimpArgs false
set_option maxRecDepth 100000 in
set_option maxHeartbeats 4000000 in
theorem planBack_law (e : Int) (h0 : 0 ≤ e) (h1 : e ≤ 18446744073709551615) (body : List Int) (bb : Bytes body) (y : Int) (A : Option Addr) (c : Nat) (w : World) (hr : Kd.C (Kd.int .u8) w A body.length body) (hc : body.length ≤ c) (hl : body.length ≤ 140737488351232) :
    Calls Try.prog 16 #[.int .u64 e, .slice A body.length c, .int .i64 y] w fun en w' => en = .returned (.bool true) ∧ Below w.heap.size w w' := by
  have H := Own.start w
  by_cases h5 : 2000 < body.length
  · have q1 : decide (2000 < (body.length : Int)) = true := decide_eq_true (by omega)
    go_enter Try.func16, Try.ntmps16
    go_wp2_with (first
    | (go_at_call 64; (with_reducible refine (awake16 _).mono ?_); rintro e W ⟨rfl, hb⟩; replace H := H.to hb; clear hb))
    go_ret
    exact ⟨rfl, H.below⟩
  · have q1 : decide (2000 < (body.length : Int)) = false := decide_eq_false (by omega)
    by_cases he : e = 0
    · have q2 : (e == 0) = true := by simp [he]
      clear he
      go_enter Try.func16, Try.ntmps16
      go_wp2_with (first
    | (go_at_call 64; (with_reducible refine (awake16 _).mono ?_); rintro e W ⟨rfl, hb⟩; replace H := H.to hb; clear hb))
      go_ret
      exact ⟨rfl, H.below⟩
    · have q2 : (e == 0) = false := by simp [he]
      obtain ⟨b, ht, hb16⟩ := touch0 y
      have S3 := fun W (hb : Below w.heap.size w W) => whole_calls e h0 h1 body y b ht hb16 A c W (Kd.C_below hr hb) hc hl
      have T1 := fun W => rtouch_c 0 y 0 b ht W
      have F1 := fun A' c' W h1 h2 => flat_calls e (flatW e body b 16) 16 (flatW_len e body b 16) (flatW_bytes bb e b 16) A' c' W h1 h2 (by decide)
      have hB := bodyF_W e h0 h1 he body b hb16 16 (Nat.le_refl _)
      have hO := oksF_W e h0 h1 he body b hb16 16 (Nat.le_refl _)
      have lB : (bodyF e (flatW e body b 16) 16 16).length = 832 := bodyF_len (flatW_len e body b 16) 16
      have lO : (oksF e (flatW e body b 16) 16 16).length = 16 := oksF_len 16
      generalize bodyF e (flatW e body b 16) 16 16 = B at *
      generalize oksF e (flatW e body b 16) 16 16 = O at *
      generalize flatW e body b 16 = fw at *
      have HR := Rd.of_C hr
      have hnn : (nums .u8 body).length = body.length := nums_length _ _
      obtain ⟨n, hn⟩ : ∃ n, body.length = n := ⟨_, rfl⟩
      have hcell := fun i (hi : i < n) => (show (nums .u8 body)[i]? = some (.int .u8 (body.getD i 0)) from nums_at i (by omega))
      rw [hn] at S3 hB q1 hnn ⊢
      obtain ⟨mb, hmb⟩ : ∃ mb, 52 * b = mb := ⟨_, rfl⟩
      rw [hmb] at hB
      have i1 : IntKind.i64.wrap (52 * (b : Int)) = (mb : Int) := by rw [IntKind.wrap_i64]; omega
      have HN := Lib.hid hn
      have HMB := Lib.hid hmb
      clear hn hmb ht he hr bb h0 h1
      go_enter Try.func16, Try.ntmps16
      go_wp2_with (first
    | (go_at_call 67; (with_reducible refine (S3 _ H.below).mono ?_); rintro e W ⟨v, rfl, ho, hb⟩; replace H := H.addRow hb ho; clear hb ho; obtain ⟨A3, c3, rfl⟩ := H.row_slice .head)
    | (go_at_call 69; (with_reducible refine (F1 _ _ _ (H.rd .head).1 (H.rd .head).2.1).mono ?_); rintro e W ⟨v1, v2, rfl, K⟩; replace H := H.addOwn K; clear K; dsimp only [List.cons_append, List.nil_append] at H; obtain ⟨A7, c7, rfl⟩ := H.row_slice .head; obtain ⟨A8, c8, rfl⟩ := H.row_slice (.tail .head))
    | (go_at_call 70; (with_reducible refine (T1 _).mono ?_); rintro e W ⟨rfl, hb⟩; replace H := H.to hb; clear hb))
      clear S3 T1 F1
      obtain ⟨ad7, rfl⟩ := (H.rd .head).1.some_ (by rw [nums_length, lB]; decide)
      obtain ⟨ad8, rfl⟩ := (H.rd (.tail .head)).1.some_ (by rw [bools_len, lO]; decide)
      have HB := Lib.hid hB
      have HO := Lib.hid hO
      have HC := Lib.hid hcell
      clear hB hO hcell
      go_loopg [11] 832 (fun gq v11 w' => ∃ k : Nat, v11 = .int .i64 (k : Int) ∧ k + gq = 832 ∧ Own w F0 [.row (.slice (some ad7) 832 c7) 5 1 832 (nums .u8 B), .row (.slice (some ad8) 16 c8) 4 1 16 (bools O), .row (.slice A3 16 c3) 43 64 16 (nums .u8 fw)] w')
      case atStart => exact ⟨0, rfl, rfl, H⟩
      case round =>
        clear H
        obtain ⟨k, rfl, hk, H⟩ := hrel
        by_cases ck : k < 832
        · obtain ⟨gk', rfl⟩ : ∃ q, gk = q + 1 := ⟨gk - 1, by omega⟩
          have q3 : decide ((k : Int) < 832) = true := decide_eq_true (by omega)
          have p0 : ((0 : Int) ≤ (k : Int)) = True := eq_true (by omega)
          have p1 : ((k : Int) < 832) = True := eq_true (by omega)
          have hBk := HB.out k ck
          have hcB : (nums .u8 B)[k]? = some (.int .u8 (B.getD k 0)) := nums_at k (by omega)
          rw [hBk] at hcB
          clear hBk
          by_cases c1 : k < mb
          · have q4 : decide (k < mb) = true := decide_eq_true c1
            by_cases c2 : k < n
            · have q5 : decide (k < n) = true := decide_eq_true c2
              have p2 : ((k : Int) < (n : Int)) = True := eq_true (by omega)
              rw [if_pos ⟨c1, c2⟩] at hcB
              have hcb := HC.out k c2
              obtain ⟨ad, rfl⟩ := HR.some_ (by omega)
              generalize body.getD k 0 = z at hcB hcb
              go_wp2_with (first
    | ((with_reducible refine gate_dst (N := 53) rfl ?_); refine l_loadRd1 rfl 5 _ rfl k rfl (HR.below H.below) _ Try.underlying5 rfl _ hcb ?_)
    | ((with_reducible refine gate_dst (N := 61) rfl ?_); first | refine l_loadRd1 rfl 5 _ rfl k rfl (H.rd .head).1 _ Try.underlying5 rfl _ hcB ?_ | (refine gate_guard (by rfl) ?_; refine l_loadRd1 rfl 5 _ rfl k rfl (H.rd .head).1 _ Try.underlying5 rfl _ hcB ?_)))
              go_roundg gk'
              case measure => omega
              case rel => exact ⟨k + 1, by go_num, by omega, H⟩
            · have q5 : decide (k < n) = false := decide_eq_false c2
              rw [if_neg (fun h => c2 h.2)] at hcB
              go_wp2_with (first
    | ((with_reducible refine gate_dst (N := 61) rfl ?_); first | refine l_loadRd1 rfl 5 _ rfl k rfl (H.rd .head).1 _ Try.underlying5 rfl _ hcB ?_ | (refine gate_guard (by rfl) ?_; refine l_loadRd1 rfl 5 _ rfl k rfl (H.rd .head).1 _ Try.underlying5 rfl _ hcB ?_)))
              go_roundg gk'
              case measure => omega
              case rel => exact ⟨k + 1, by go_num, by omega, H⟩
          · have q4 : decide (k < mb) = false := decide_eq_false c1
            rw [if_neg (fun h => c1 h.1)] at hcB
            go_wp2_with (first
    | ((with_reducible refine gate_dst (N := 61) rfl ?_); first | refine l_loadRd1 rfl 5 _ rfl k rfl (H.rd .head).1 _ Try.underlying5 rfl _ hcB ?_ | (refine gate_guard (by rfl) ?_; refine l_loadRd1 rfl 5 _ rfl k rfl (H.rd .head).1 _ Try.underlying5 rfl _ hcB ?_)))
            go_roundg gk'
            case measure => omega
            case rel => exact ⟨k + 1, by go_num, by omega, H⟩
        · have q3 : decide ((k : Int) < 832) = false := decide_eq_false (by omega)
          go_wp2
          go_loopg [13] 16 (fun gq v13 w' => ∃ k : Nat, v13 = .int .i64 (k : Int) ∧ k + gq = 16 ∧ Own w F0 [.row (.slice (some ad7) 832 c7) 5 1 832 (nums .u8 B), .row (.slice (some ad8) 16 c8) 4 1 16 (bools O), .row (.slice A3 16 c3) 43 64 16 (nums .u8 fw)] w')
          case atStart => exact ⟨0, rfl, rfl, H⟩
          case round =>
            clear H q3
            obtain ⟨j, rfl, hj, H⟩ := hrel
            by_cases cj : j < 16
            · obtain ⟨gj', rfl⟩ : ∃ q, gk = q + 1 := ⟨gk - 1, by omega⟩
              have q3 : decide ((j : Int) < 16) = true := decide_eq_true (by omega)
              have p0 : ((0 : Int) ≤ (j : Int)) = True := eq_true (by omega)
              have p1 : ((j : Int) < 16) = True := eq_true (by omega)
              have hOk := HO.out j cj
              have hcO : (bools O)[j]? = some (.bool (O.getD j false)) := bools_at j (by omega)
              rw [hOk] at hcO
              clear hOk
              by_cases c3 : j < b
              · have q4 : decide (j < b) = true := decide_eq_true c3
                rw [q4] at hcO
                go_wp2_with (first
    | ((with_reducible refine gate_dst (N := 76) rfl ?_); first | refine l_loadRd1 rfl 4 _ rfl j rfl (H.rd (.tail .head)).1 _ Try.underlying4 rfl _ hcO ?_ | (refine gate_guard (by rfl) ?_; refine l_loadRd1 rfl 4 _ rfl j rfl (H.rd (.tail .head)).1 _ Try.underlying4 rfl _ hcO ?_)))
                go_roundg gj'
                case measure => omega
                case rel => exact ⟨j + 1, by go_num, by omega, H⟩
              · have q4 : decide (j < b) = false := decide_eq_false c3
                rw [q4] at hcO
                go_wp2_with (first
    | ((with_reducible refine gate_dst (N := 76) rfl ?_); first | refine l_loadRd1 rfl 4 _ rfl j rfl (H.rd (.tail .head)).1 _ Try.underlying4 rfl _ hcO ?_ | (refine gate_guard (by rfl) ?_; refine l_loadRd1 rfl 4 _ rfl j rfl (H.rd (.tail .head)).1 _ Try.underlying4 rfl _ hcO ?_)))
                go_roundg gj'
                case measure => omega
                case rel => exact ⟨j + 1, by go_num, by omega, H⟩
            · have q3 : decide ((j : Int) < 16) = false := decide_eq_false (by omega)
              go_wp2_with (first
    | (go_at_call 64; (with_reducible refine (awake16 _).mono ?_); rintro e W ⟨rfl, hb⟩; replace H := H.to hb; clear hb))
              go_ret
              exact ⟨rfl, H.below⟩
end Go.Proofs.Ythlpimojojofbaa.O
