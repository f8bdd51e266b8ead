/- stamp: Seal by hand. -/
import Derived.Test.YthlpimojojofbaaArr
import Derived.Test.YthlpimojojofbaaHand
import Derived.Test.YthlpimojojofbaaFkWord
import Derived.Test.YthlpimojojofbaaPlain
namespace Go.Proofs.Ythlpimojojofbaa.F
open Go.RowKit Go.Proofs.YthlpimojojofbaaW.PrintWords Go.Proofs.YthlpimojojofbaaW.PrintLast Go.Proofs.YthlpimojojofbaaW.PrintMore
set_option linter.unusedVariables false
set_option linter.unusedSimpArgs false
namespace Nums
open Go.Proofs.Ythlpimojojofbaa.Plain
theorem wnear_eq (n lo hi : Int) (h : lo ≤ hi) : word_near.f n lo hi = some (if n < lo then lo else if hi < n then hi else n) := by
  unfold word_near.f mx mn
  congr 1
  by_cases h1 : n < lo <;> by_cases h2 : hi < n <;> simp [h1, h2] <;> omega
/-- The bytes of a number, from the lowest on. -/
def putl (n : Nat) : Nat → List Int
  | 0 => []
  | i + 1 => putl n i ++ [((n / 256 ^ i % 256 : Nat) : Int)]
theorem putl_len (n i : Nat) : (putl n i).length = i := by
  induction i with
  | zero => rfl
  | succ i ih => simp [putl, ih]
theorem put_l (n : Nat) (hn : n < 18446744073709551616) (hi : Nat) (hhi : hi ≤ 8) (d : Nat) : ∀ (k i : Nat), i ≤ hi → hi - i = d → d < k →
    word_Put.l0 k n (putl n i) hi i = some (putl n hi) := by
  induction d with
  | zero =>
    intro k i h1 hd hk
    obtain ⟨k, rfl⟩ : ∃ m, k = m + 1 := ⟨k - 1, by omega⟩
    simp only [word_Put.l0]
    obtain rfl : i = hi := by omega
    rw [if_neg (by omega)]
  | succ d ih =>
    intro k i h1 hd hk
    obtain ⟨k, rfl⟩ : ∃ m, k = m + 1 := ⟨k - 1, by omega⟩
    simp only [word_Put.l0]
    have hr := ih k (i + 1) (by omega) (by omega) (by omega)
    rw [if_pos (by omega), w64 (n := 8 * (i : Int)) (by omega) (by omega), if_pos (by omega), putl_len, if_pos (by omega), w64 (n := (i : Int) + 1) (by omega) (by omega)]
    have e : (shr .u64 n (8 * (i : Int))) % 256 = ((n / 256 ^ i % 256 : Nat) : Int) := by
      unfold shr
      have e2 : ((n : Int) / 2 ^ (8 * i)) = ((n / 2 ^ (8 * i) : Nat) : Int) := by simp
      rw [show (8 * (i : Int)).toNat = 8 * i by omega, show min (8 * i) IntKind.u64.bits = 8 * i from Nat.min_eq_left (by simp [IntKind.bits]; omega), e2, show (256 : Nat) ^ i = 2 ^ (8 * i) by rw [Nat.pow_mul], Int.natCast_emod]
      rfl
    rw [e]
    exact hr
def cl8 (a : Int) : Int := if a < 0 then 0 else if 8 < a then 8 else a
theorem put_eq (k : Nat) (hk : 8 < k) (n : Nat) (hn : n < 18446744073709551616) (w : Int) : word_Put.f k n w = some (putl n (cl8 w).toNat) := by
  unfold word_Put.f
  rw [wnear_eq _ _ _ (by decide)]
  simp only [Option.bind_some]
  have h : 0 ≤ cl8 w ∧ cl8 w ≤ 8 := by unfold cl8; split <;> (try split) <;> omega
  rw [show (if w < 0 then 0 else if 8 < w then 8 else w) = (((cl8 w).toNat : Nat) : Int) by unfold cl8 at h ⊢; omega]
  exact put_l n hn (cl8 w).toNat (by omega) (cl8 w).toNat k 0 (by omega) rfl (by omega)
/-- The number of the first i bytes. -/
def getn (l : List Int) : Nat → Nat
  | 0 => 0
  | i + 1 => getn l i + (rd l i).toNat * 256 ^ i
theorem getn_lt {l : List Int} (hl : ∀ x ∈ l, (Lit.int .u8 x).wf = true) (i : Nat) : getn l i < 256 ^ i := by
  induction i with
  | zero => exact Nat.one_pos
  | succ i ih =>
    unfold getn
    obtain ⟨r0, r1⟩ := rd_u8 hl i
    have h1 : (rd l i).toNat * 256 ^ i ≤ 255 * 256 ^ i := Nat.mul_le_mul_right _ (by omega)
    rw [Nat.pow_succ]
    omega
theorem p256 (i : Nat) : (256 : Nat) ^ i = 2 ^ (8 * i) := by rw [Nat.pow_mul]
theorem get_l {l : List Int} (hl : ∀ x ∈ l, (Lit.int .u8 x).wf = true) (m : Nat) (hm : m ≤ 8) (hm2 : m ≤ l.length) (d : Nat) : ∀ (k i : Nat), i ≤ m → m - i = d → d < k →
    word_Get.l0 k l (getn l i) m i = some ((getn l m : Nat) : Int) := by
  induction d with
  | zero =>
    intro k i h1 hd hk
    obtain ⟨k, rfl⟩ : ∃ m, k = m + 1 := ⟨k - 1, by omega⟩
    simp only [word_Get.l0]
    obtain rfl : i = m := by omega
    rw [if_neg (by omega)]
  | succ d ih =>
    intro k i h1 hd hk
    obtain ⟨k, rfl⟩ : ∃ m, k = m + 1 := ⟨k - 1, by omega⟩
    simp only [word_Get.l0]
    have hr := ih k (i + 1) (by omega) (by omega) (by omega)
    obtain ⟨r0, r1⟩ := rd_u8 hl i
    rw [if_pos (by omega), if_pos (by omega), if_pos (by omega), w64 (n := 8 * (i : Int)) (by omega) (by omega), if_pos (by omega), wu64 (n := rd l i) (by omega) (by omega), w64 (n := (i : Int) + 1) (by omega) (by omega)]
    have h2 := getn_lt hl i
    have h3 := getn_lt hl (i + 1)
    have h4 : (256 : Nat) ^ (i + 1) ≤ 18446744073709551616 := by
      have := Nat.pow_le_pow_right (show 0 < 256 by decide) (show i + 1 ≤ 8 by omega)
      simpa using this
    have e0 : getn l (i + 1) = getn l i + (rd l i).toNat * 256 ^ i := rfl
    obtain ⟨b, hb⟩ : ∃ b : Nat, rd l i = (b : Int) := ⟨(rd l i).toNat, by omega⟩
    rw [hb, Int.toNat_natCast] at e0
    have e : shl .u64 (rd l i) (8 * (i : Int)) = ((b * 256 ^ i : Nat) : Int) := by
      unfold shl
      rw [hb, show (8 * (i : Int)).toNat = 8 * i by omega, show min (8 * i) IntKind.u64.bits = 8 * i from Nat.min_eq_left (by simp [IntKind.bits]; omega), ← pow_cast, ← Int.natCast_mul, ← p256]
      exact wu64 (by omega) (by omega)
    rw [e, u64_or_nat _ _ (by omega) (by omega), Nat.or_comm, nat_join (8 * i) _ _ (by rw [p256]; exact Nat.mul_mod_left _ _) (by rw [← p256]; exact h2), Nat.add_comm, ← e0]
    exact hr
theorem get_eq {l : List Int} (hl : ∀ x ∈ l, (Lit.int .u8 x).wf = true) (k : Nat) (hk : 8 < k) : word_Get.f k l = some ((getn l (min l.length 8) : Nat) : Int) := by
  unfold word_Get.f
  have e : mn (l.length : Int) 8 = ((min l.length 8 : Nat) : Int) := by
    unfold mn
    split <;> omega
  rw [e]
  exact get_l hl (min l.length 8) (by omega) (by omega) (min l.length 8) k 0 (by omega) rfl (by omega)
end Nums
open Nums
theorem take_min (l : List Int) (n : Nat) : l.take (min l.length n) = l.take n := by
  by_cases h : l.length ≤ n
  · rw [Nat.min_eq_left h, List.take_of_length_le (Nat.le_refl _), List.take_of_length_le h]
  · rw [Nat.min_eq_right (by omega)]
theorem infoSec {xs : List Int} (h : xs.length = 64) : (Try.prog.info? 43).map (·.size) = some (vals xs).toArray.size := by
  have e : (Try.prog.info? 43).map (·.size) = some 64 := by kernel_rfl
  rw [e]
  simp [vals, h]
theorem vals_all (xs : List Int) : (vals xs).toArray.all (·.oneCell') = true := by
  rw [Array.all_eq_true]
  intro i hi
  exact vals_one (xs := xs) _ (by simp)
def z64b : List Int := List.replicate 64 0
def sealF (e i : Int) (room : List Int) : List Int := splice (splice (splice z64b 0 (putl (e.toNat) 8)) 8 (putl (IntKind.u64.wrap i).toNat 4)) 12 (room.take 52)
theorem sealF_len (e i : Int) (room : List Int) : (sealF e i room).length = 64 := by
  unfold sealF
  have h1 : (splice z64b 0 (putl e.toNat 8)).length = 64 := by rw [length_splice _ _ _ (by rw [putl_len]; decide)]; rfl
  have h2 : (splice (splice z64b 0 (putl e.toNat 8)) 8 (putl (IntKind.u64.wrap i).toNat 4)).length = 64 := by rw [length_splice _ _ _ (by rw [putl_len, h1]; decide), h1]
  rw [length_splice _ _ _ (by rw [List.length_take, h2]; omega), h2]
set_option maxHeartbeats 4000000 in
set_option maxRecDepth 100000 in
theorem seal_calls (e i : Int) (room : List Int) (A : Option Addr) (c : Nat) (w : World) (hr : Kd.C (Kd.int .u8) w A room.length room) (hc : room.length ≤ c) (h0 : 0 ≤ e) (h1 : e ≤ 18446744073709551615) :
    Calls Try.prog 30 #[.int .u64 e, .int .i64 i, .slice A room.length c] w fun en w' => en = .returned (.agg (vals (sealF e i room)).toArray) ∧ Below w.heap.size w w' := by
  obtain ⟨n, rfl⟩ := Int.eq_ofNat_of_zero_le h0
  have hn : n < 18446744073709551616 := by omega
  obtain ⟨m, hm⟩ : ∃ m : Nat, IntKind.u64.wrap i = m := ⟨(IntKind.u64.wrap i).toNat, by rw [IntKind.wrap_u64]; omega⟩
  have hm2 : m < 18446744073709551616 := by rw [IntKind.wrap_u64] at hm; omega
  obtain ⟨k, hk⟩ : ∃ k : Nat, 8 < k := ⟨9, by decide⟩
  have P1 := put_eq k hk n hn 8
  have P2 := put_eq k hk m hm2 4
  rw [show (cl8 8).toNat = 8 from rfl] at P1
  rw [show (cl8 4).toNat = 4 from rfl] at P2
  have L1 := putl_len n 8
  have L2 := putl_len m 4
  obtain ⟨s1, hs1⟩ : ∃ s1, splice z64b 0 (putl n 8) = s1 := ⟨_, rfl⟩
  have hl1 : s1.length = 64 := by rw [← hs1, length_splice _ _ _ (by rw [L1]; decide)]; rfl
  obtain ⟨s2, hs2⟩ : ∃ s2, splice s1 8 (putl m 4) = s2 := ⟨_, rfl⟩
  have hl2 : s2.length = 64 := by rw [← hs2, length_splice _ _ _ (by rw [L2, hl1]; decide), hl1]
  obtain ⟨s3, hs3⟩ : ∃ s3, splice s2 12 (room.take 52) = s3 := ⟨_, rfl⟩
  have hl3 : s3.length = 64 := by rw [← hs3, length_splice _ _ _ (by rw [List.length_take, hl2]; omega), hl2]
  have hfin : sealF n i room = s3 := by unfold sealF; rw [Int.toNat_natCast, hm, Int.toNat_natCast, hs1, hs2, hs3]
  rw [hfin]
  replace P1 := Aside0.mk P1
  replace P2 := Aside0.mk P2
  replace hs1 := Aside0.mk hs1
  replace hs2 := Aside0.mk hs2
  replace hs3 := Aside0.mk hs3
  replace hr := Aside0.mk hr
  replace hc := Aside0.mk hc
  have hz : z64b.length = 64 := rfl
  clear hfin
  go_enter Try.func30, Try.ntmps30
  go_wp2_with fail
  generalize hW : (w.alloc (.cells _ 43)).alloc (.cells _ 43) = W1
  have FS : Byt W1 (w.heap.size + 1) 43 z64b := by rw [← hW]; have := blk_new (w.alloc (.cells (vals z64b).toArray 43)) (.cells (vals z64b).toArray 43); rw [World.size_alloc] at this; exact this
  have FR : Byt W1 w.heap.size 43 z64b := by rw [← hW]; exact blk_alloc (blk_new w (.cells (vals z64b).toArray 43)) _
  have FB : Below w.heap.size w W1 := by rw [← hW]; exact below_alloc (below_alloc (Below.refl _ _) _) _
  clear hW
  refine start_ (n := 4) (S := fun _ => True) (ds := []) #[false, false, false, false] (by kernel_rfl) rfl rfl trivial (fun hHeld => ?_)
  replace FS := FS.below (below_drew1 (Below.refl _ _))
  replace FR := FR.below (below_drew1 (Below.refl _ _))
  replace FB := below_drew1 FB
  generalize W1.drew = W1a at FS FR FB hHeld ⊢
  refine pure_ (i := 0) (N := some 8) (v := ?_) (a' := ?_) #[true, false, false, false] rfl rfl (by kernel_rfl) (fun _ _ _ h => h) (Or.inl ⟨by rfl, ?_⟩) ?_ ?_
  rotate_left
  · intro w'
    go_simp
    with_reducible rfl
  rotate_left
  · simp only [Act.put, List.setIfInBounds_toArray, List.set_cons_zero, List.set_cons_succ, i64_w, i32_w]
    rfl
  refine pure_ (i := 1) (N := some 9) (v := ?_) (a' := ?_) #[true, true, false, false] rfl rfl (by kernel_rfl) (fun _ _ _ h => h) (Or.inl ⟨by rfl, ?_⟩) ?_ ?_
  rotate_left
  · intro w'
    go_simp
    with_reducible rfl
  rotate_left
  · simp only [Act.put, List.setIfInBounds_toArray, List.set_cons_zero, List.set_cons_succ, i64_w, i32_w]
    rfl
  refine one_ (i := 2) (N := some 10) #[true, true, true, false] rfl rfl (by kernel_rfl) (by decide) (fun K hK => ?_)
  refine goes_ Try.func83 (by kernel_rfl) rfl #[.int .u64 n, .int .i64 8] (by rfl) rfl rfl (by (try simp only [List.map_toArray, List.map_cons, List.map_nil]); first | done | rfl) ?_
  refine (word_Put.calls k n 8 (putl n 8) _ P1.out).mono ?_
  rintro en W1b ⟨v, rfl, ho, hb⟩
  refine ⟨_, rfl, ?_⟩
  replace FS := FS.below hb
  replace FR := FR.below hb
  replace FB := below_step FB hb
  obtain ⟨Av, cv, ev⟩ := Kd.R_slice ho
  subst ev
  have hC := (Kd.R_reads' ho).2.2
  rw [L1] at hC ⊢
  clear ho hb
  refine hK.out _ _ trivial (fun hHeld => ?_)
  clear hK K
  refine norm_ (a' := ?_) ?_ ?_
  rotate_left
  · show Act.put _ (some 10) _ = _
    simp only [Act.put, List.setIfInBounds_toArray, List.set_cons_zero, List.set_cons_succ, i64_w, i32_w]
    rfl
  refine one_ (i := 3) (N := some 11) #[true, true, true, true] rfl rfl (by kernel_rfl) (by decide) (fun K hK => ?_)
  refine copy_step rfl (.tmp 8) (.tmp 10) 35 35 rfl 5 Try.underlying35 (by kernel_rfl) (w.heap.size + 1) 0 Av 64 64 8 cv rfl rfl z64b 43 FS (putl n 8) hC (by rw [hz]; decide) ?_
  intro W2 h1 h2
  replace FR : Byt W2 w.heap.size 43 z64b := (h2.block _ (by omega)).trans FR
  replace FB := FB.trans (h2.mono (by omega))
  replace FS := h1
  rw [List.take_of_length_le (by rw [L1]; decide)] at FS
  clear h1 h2 hC
  refine hK.out _ _ trivial (fun hHeld => ?_)
  clear hK K
  refine norm_ (a' := ?_) ?_ ?_
  rotate_left
  · show Act.put _ (some 11) _ = _
    simp only [Act.put, List.setIfInBounds_toArray, List.set_cons_zero, List.set_cons_succ, i64_w, i32_w]
    rfl
  refine done_ (by kernel_rfl) ?_
  clear hHeld
  rw [hs1.out] at FS
  go_wp2_with fail
  refine start_ (n := 5) (S := fun _ => True) (ds := []) #[false, false, false, false, false] (by kernel_rfl) rfl rfl trivial (fun hHeld => ?_)
  replace FS := FS.below (below_drew1 (Below.refl _ _))
  replace FR := FR.below (below_drew1 (Below.refl _ _))
  replace FB := below_drew1 FB
  generalize W2.drew = W2a at FS FR FB hHeld ⊢
  refine pure_ (i := 0) (N := some 12) (v := ?_) (a' := ?_) #[true, false, false, false, false] rfl rfl (by kernel_rfl) (fun _ _ _ h => h) (Or.inl ⟨by rfl, ?_⟩) ?_ ?_
  rotate_left
  · intro w'
    go_simp
    with_reducible rfl
  rotate_left
  · simp only [Act.put, List.setIfInBounds_toArray, List.set_cons_zero, List.set_cons_succ, i64_w, i32_w]
    rfl
  refine pure_ (i := 1) (N := some 13) (v := ?_) (a' := ?_) #[true, true, false, false, false] rfl rfl (by kernel_rfl) (fun _ _ _ h => h) (Or.inl ⟨by rfl, ?_⟩) ?_ ?_
  rotate_left
  · intro w'
    go_simp
    with_reducible rfl
  rotate_left
  · simp only [Act.put, List.setIfInBounds_toArray, List.set_cons_zero, List.set_cons_succ, i64_w, i32_w]
    rfl
  refine pure_ (i := 2) (N := some 14) (v := ?_) (a' := ?_) #[true, true, true, false, false] rfl rfl (by kernel_rfl) (fun _ _ _ h => h) (Or.inl ⟨by rfl, ?_⟩) ?_ ?_
  rotate_left
  · intro w'
    go_simp
    with_reducible rfl
  rotate_left
  · simp only [Act.put, List.setIfInBounds_toArray, List.set_cons_zero, List.set_cons_succ, i64_w, i32_w]
    rfl
  refine one_ (i := 3) (N := some 15) #[true, true, true, true, false] rfl rfl (by kernel_rfl) (by decide) (fun K hK => ?_)
  refine goes_ Try.func83 (by kernel_rfl) rfl #[.int .u64 m, .int .i64 4] (by rfl) rfl rfl (by (try simp only [List.map_toArray, List.map_cons, List.map_nil]); first | done | rfl) ?_
  refine (word_Put.calls k m 4 (putl m 4) _ P2.out).mono ?_
  rintro en W2b ⟨v, rfl, ho, hb⟩
  refine ⟨_, rfl, ?_⟩
  replace FS := FS.below hb
  replace FR := FR.below hb
  replace FB := below_step FB hb
  obtain ⟨Av, cv, ev⟩ := Kd.R_slice ho
  subst ev
  have hC := (Kd.R_reads' ho).2.2
  rw [L2] at hC ⊢
  clear ho hb
  refine hK.out _ _ trivial (fun hHeld => ?_)
  clear hK K
  refine norm_ (a' := ?_) ?_ ?_
  rotate_left
  · show Act.put _ (some 15) _ = _
    simp only [Act.put, List.setIfInBounds_toArray, List.set_cons_zero, List.set_cons_succ, i64_w, i32_w]
    rfl
  refine one_ (i := 4) (N := some 16) #[true, true, true, true, true] rfl rfl (by kernel_rfl) (by decide) (fun K hK => ?_)
  refine copy_step rfl (.tmp 12) (.tmp 15) 35 35 rfl 5 Try.underlying35 (by kernel_rfl) (w.heap.size + 1) 8 Av 56 56 4 cv rfl rfl s1 43 FS (putl m 4) hC (by rw [hl1]; decide) ?_
  intro W3 h1 h2
  replace FR : Byt W3 w.heap.size 43 z64b := (h2.block _ (by omega)).trans FR
  replace FB := FB.trans (h2.mono (by omega))
  replace FS := h1
  rw [List.take_of_length_le (by rw [L2]; decide)] at FS
  clear h1 h2 hC
  refine hK.out _ _ trivial (fun hHeld => ?_)
  clear hK K
  refine norm_ (a' := ?_) ?_ ?_
  rotate_left
  · show Act.put _ (some 16) _ = _
    simp only [Act.put, List.setIfInBounds_toArray, List.set_cons_zero, List.set_cons_succ, i64_w, i32_w]
    rfl
  refine done_ (by kernel_rfl) ?_
  clear hHeld
  rw [hs2.out] at FS
  go_wp2_with (first
    | ((with_reducible refine gate_builtin (b := .copy) (xs := #[.tmp 17, .tmp 18]) rfl ?_)
       refine copy_plain rfl (.tmp 17) (.tmp 18) 35 35 rfl 5 Try.underlying35 (by kernel_rfl) (w.heap.size + 1) 12 A 52 52 room.length c rfl rfl s2 43 FS room (Kd.C_below hr.out FB) (by rw [hl2]; omega) ?_
       intro W4 h1 h2
       replace FR : Byt W4 w.heap.size 43 z64b := (h2.block _ (by omega)).trans FR
       replace FB := FB.trans (h2.mono (by omega))
       replace FS := h1
       rw [take_min, hs3.out] at FS
       clear h1 h2)
    | ((with_reducible refine gate_dst (N := 20) rfl ?_)
       refine wpList_load_row rfl 43 (.tmp 7) rfl (w.heap.size + 1) rfl 43 (vals s3).toArray (0, 0) _ FS Try.underlying43 rfl (infoSec hl3) ?_)
    | ((with_reducible refine gate_store (t := 43) (p := 6) rfl ?_)
       refine wpList_store_row rfl 43 (.tmp 6) (.tmp 20) rfl w.heap.size (vals s3).toArray rfl rfl 43 (vals z64b).toArray FR (infoSec hl3) (by simp [vals, hl3, hz]) (vals_all s3) ?_
       have FE : Byt (World.setRow W4 w.heap.size (vals s3).toArray) w.heap.size 43 s3 := setRow_heap W4 w.heap.size _ _ _ _ FR
       replace FB := below_setRow FB (Nat.le_refl _) (vals s3).toArray
       generalize World.setRow W4 w.heap.size (vals s3).toArray = W5 at FE FB ⊢
       clear FS FR))
  refine bodyPost_ret (results_cell_row (p := 6) (ty := 43) rfl _ _ w.heap.size 43 (vals s3).toArray (0, 0) _ rfl FE Try.underlying43 rfl (infoSec hl3)) rfl ?_
  exact ⟨rfl, FB⟩
end Go.Proofs.Ythlpimojojofbaa.F
