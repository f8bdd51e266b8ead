/- All and Tears: the lists of crashes; what the reference answers; how they are read. -/
import Derived.Test.YthlpimojojofbaaCrashTears
import Derived.Test.YthlpimojojofbaaFkStrandlineref09
import Derived.Test.YthlpimojojofbaaCrashKept
set_option linter.unusedVariables false
set_option linter.unusedSimpArgs false
namespace Go.Proofs.Ythlpimojojofbaa.O
open Go.RowKit Go.Proofs.Ythlpimojojofbaa.F Go.Proofs.YthlpimojojofbaaW.PrintWords Go.Proofs.YthlpimojojofbaaW.PrintLast Go.Proofs.YthlpimojojofbaaW.PrintMore Go.Proofs.Ythlpimojojofbaa.Plain
def allX (n : Nat) : List S37 := (List.range n).map fun k : Nat => ⟨[(k : Int)], -1, 0⟩
theorem allX_succ (n : Nat) : allX (n + 1) = allX n ++ [⟨[(n : Int)], -1, 0⟩] := by unfold allX; rw [List.range_succ, List.map_append]; rfl
theorem allX_len (n : Nat) : (allX n).length = n := by simp [allX]
theorem allX_at (n i : Nat) (h : i < n) : rd_T37 (allX n) (i : Int) = ⟨[(i : Int)], -1, 0⟩ := by
  unfold rd_T37 allX
  rw [List.getD_eq_getElem?_getD, Int.toNat_natCast, List.getElem?_map, List.getElem?_range h]
  rfl
def specT (l : List (Int × Int × Int)) : List S37 := (l.map fun x => (⟨[x.1], x.2.1, x.2.2⟩ : S37)).reverse
theorem specT_cons (x : Int × Int × Int) (l : List (Int × Int × Int)) : specT (x :: l) = specT l ++ [⟨[x.1], x.2.1, x.2.2⟩] := by simp [specT]
theorem specT_len (l : List (Int × Int × Int)) : (specT l).length = l.length := by simp [specT]
theorem reps_all {w0 W : World} {F : Nat → Option Obj} {L : List Res} (H : Own w0 F L W) : ∀ gs : List Nat, (∀ r ∈ blks gs, r ∈ L) → Reps (k37.K W) 3 (allX gs.length) (ccells gs)
  | [], _ => Reps.none _ _
  | g :: gs, h => by
    have ih := reps_all H gs (fun r hr => h r (List.mem_cons_of_mem _ hr))
    have hg := H.ats _ (h _ List.mem_cons_self)
    have hC : (Kd.int .u8).C W (some ⟨g, 0, none⟩) 1 [(gs.length : Int)] := by
      have := Own.C (xs := [(gs.length : Int)]) (L := [.blk g 5 [.int .u8 (gs.length : Int)]]) ⟨H.below, fun _ _ hF => H.holds _ _ hF, fun y hy => by rw [List.mem_singleton.1 hy]; exact hg, fun y hy k hk => H.apart y (by rw [List.mem_singleton.1 hy]; exact h _ List.mem_cons_self) k hk, List.pairwise_singleton _ _⟩ .head 0 1 (by simp) (by decide)
      exact this
    rw [List.length_cons, allX_succ]
    exact ih.snoc (k37_mk W ⟨[(gs.length : Int)], -1, 0⟩ (c0 := 1) (Nat.le_refl 1) hC) rfl
theorem reps_tears {w0 W : World} {F : Nat → Option Obj} {L : List Res} (H : Own w0 F L W) : ∀ xs : List (Value × Int × Int × Int), (∀ r ∈ tblks xs, r ∈ L) → Reps (k37.K W) 3 (specT (xs.map (·.2))) (tcells xs)
  | [], _ => Reps.none _ _
  | x :: xs, h => by
    have ih := reps_tears H xs (fun r hr => h r (List.mem_cons_of_mem _ hr))
    have hg := H.ats _ (h _ List.mem_cons_self)
    obtain ⟨v, b, t, c⟩ := x
    have hR := Kd.R_reads (Kd.R_of_own (enc := Value.int .u8) (h1 := fun _ => rfl) (xs := [b]) hg (ok := fun _ => True) (fun _ _ => trivial))
    obtain ⟨A, cc, rfl, hl, hC⟩ := hR
    rw [List.map_cons, specT_cons]
    exact ih.snoc (k37_mk W ⟨[b], t, c⟩ hl hC) rfl
/-- a row of crashes is read -/
theorem crash_C {w0 W : World} {F : Nat → Option Obj} {L : List Res} {v : Value} {n : Nat} {cells : List Value} {xs : List S37} (H : Own w0 F L W) {c : Res → List Res} (hI : In L (.row v 37 3 n cells) c) (hr : Reps (k37.K W) 3 xs cells) (hn : xs.length = n) :
    ∃ A c, v = .slice A n c ∧ n ≤ c ∧ Kd.C k37 W A n xs := by
  subst hn
  obtain ⟨A, c, e1, h1, h2⟩ := OwnRow.reads (R := k37.K W) (ps := xs) ⟨cells, H.at_ hI, hr⟩
  exact ⟨A, c, e1, h1, h2⟩
theorem all_C (n : Int) (m N : Nat) (hn : mx 0 (mn n 8) = (m : Int)) (hm : m ≤ 8) (hN : N = 2 ^ m) (w : World) :
    Calls Try.prog 24 #[.int .i64 n] w fun e W => ∃ A c, e = .returned (.slice A N c) ∧ N ≤ c ∧ Kd.C k37 W A N (allX N) ∧ Below w.heap.size w W := by
  refine (all_calls n m N hn hm hN w).mono ?_
  rintro e W ⟨gs, v, hl, rfl, H⟩
  have hr := reps_all H gs (fun r hr => List.mem_cons_of_mem _ hr)
  rw [hl] at hr
  obtain ⟨A, c, rfl, h1, h2⟩ := crash_C H .head hr (allX_len N)
  exact ⟨A, c, rfl, h1, h2, H.below⟩
theorem tears_C (n cut : Int) (m N : Nat) (hn : mx 0 (mn n 6) = (m : Int)) (hm : m ≤ 6) (hN : N = 2 ^ m) (w : World) :
    Calls Try.prog 27 #[.int .i64 n, .int .i64 cut] w fun e W => ∃ A c, e = .returned (.slice A (N * m) c) ∧ N * m ≤ c ∧ Kd.C k37 W A (N * m) (specT (tall cut m N)) ∧ Below w.heap.size w W := by
  refine (tears_calls n cut m N hn hm hN w).mono ?_
  rintro e W ⟨xs, v, hl, rfl, H⟩
  have hr := reps_tears H xs (fun r hr => List.mem_cons_of_mem _ hr)
  rw [hl] at hr
  rw [tall_len] at H
  obtain ⟨A, c, rfl, h1, h2⟩ := crash_C H .head hr (by rw [specT_len, tall_len])
  exact ⟨A, c, rfl, h1, h2, H.below⟩
/-! ### the reference -/
theorem limit_eq (n most : Int) (m : Nat) (hn : mx 0 (mn n most) = (m : Int)) (hm : 0 ≤ most) : strandlineref09_Limit.f n most = some (m : Int) := by
  unfold strandlineref09_Limit.f
  unfold mx mn at hn
  by_cases h1 : n < 0
  · rw [if_pos h1]
    congr 1
    split at hn <;> split at hn <;> omega
  · rw [if_neg h1]
    by_cases h2 : n > most
    · rw [if_pos h2]
      congr 1
      split at hn <;> split at hn <;> omega
    · rw [if_neg h2]
      congr 1
      split at hn <;> split at hn <;> omega
theorem rall_l (N : Nat) (hN : N ≤ 256) (d : Nat) : ∀ (k i : Nat), i + d = N → d < k → strandlineref09_All.l0 k (allX i) (N : Int) (i : Int) = some (allX N) := by
  induction d with
  | zero =>
    intro k i hi hk
    obtain ⟨k, rfl⟩ : ∃ j, k = j + 1 := ⟨k - 1, by omega⟩
    obtain rfl : i = N := by omega
    simp only [strandlineref09_All.l0]
    rw [if_neg (by omega)]
  | succ d ih =>
    intro k i hi hk
    obtain ⟨k, rfl⟩ : ∃ j, k = j + 1 := ⟨k - 1, by omega⟩
    simp only [strandlineref09_All.l0]
    rw [if_pos (by omega), if_pos (by rw [allX_len]; omega), w64 (n := (i : Int) + 1) (by omega) (by omega), show (i : Int) % 256 = (i : Int) by omega, ← allX_succ]
    exact ih k (i + 1) (by omega) (by omega)
theorem pow_le (m N : Nat) (hm : m ≤ 8) (hN : N = 2 ^ m) : 1 ≤ N ∧ N ≤ 256 := by
  subst hN
  exact ⟨Nat.one_le_two_pow, Nat.le_trans (Nat.pow_le_pow_right (by decide) hm) (by decide)⟩
theorem rall_eq (n : Int) (m N k : Nat) (hn : mx 0 (mn n 8) = (m : Int)) (hm : m ≤ 8) (hN : N = 2 ^ m) (hk : 300 < k) : strandlineref09_All.f k n = some (allX N) := by
  obtain ⟨p1, p2⟩ := pow_le m N hm hN
  unfold strandlineref09_All.f
  rw [limit_eq n 8 m hn (by decide), Option.bind_some, KB.two_eq k (m : Int) (by omega) (by omega) (by omega), Option.bind_some, Int.toNat_natCast, show ((2 : Int) ^ m) = (N : Int) by rw [hN]; simp, w64 (by omega) (by omega)]
  exact rall_l N p2 N k 0 (by omega) (by omega)
end Go.Proofs.Ythlpimojojofbaa.O
