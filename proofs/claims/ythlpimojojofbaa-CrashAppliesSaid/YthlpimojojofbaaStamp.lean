/- stamp and its reference by hand: Empty, Room, Read, Open, the reference's Seal and Open. -/
import Derived.Test.YthlpimojojofbaaArrEq
import Derived.Test.YthlpimojojofbaaSeal
import Derived.Test.YthlpimojojofbaaFkStrandlineref06
namespace Go.Proofs.Ythlpimojojofbaa.F
open Go.RowKit Go.Proofs.YthlpimojojofbaaW.PrintWords Go.Proofs.YthlpimojojofbaaW.PrintLast Go.Proofs.YthlpimojojofbaaW.PrintMore Nums
set_option linter.unusedVariables false
set_option linter.unusedSimpArgs false
theorem z64_bytes : Bytes z64b := fun c hc => by have := List.eq_of_mem_replicate hc; omega
theorem eq64 {xs ys : List Int} (hx : xs.length = 64) (hy : ys.length = 64) (bx : Bytes xs) (by' : Bytes ys) (w : World) :
    (Op.equalIn 10000 43 (.agg (vals xs).toArray) (.agg (vals ys).toArray)).run Try.prog w = .ok (xs == ys) w := equalB 9998 w 43 64 Try.underlying43 hx hy bx by'
set_option maxRecDepth 100000 in
theorem empty_calls (xs : List Int) (hx : xs.length = 64) (bx : Bytes xs) (w : World) :
    Calls Try.prog 37 #[.agg (vals xs).toArray] w fun e w' => e = .returned (.bool (xs == z64b)) ∧ Below w.heap.size w w' := by
  have hq := eq64 hx (by rfl : z64b.length = 64) bx z64_bytes
  rw [show (vals z64b).toArray = #[.int .u8 0, .int .u8 0, .int .u8 0, .int .u8 0, .int .u8 0, .int .u8 0, .int .u8 0, .int .u8 0, .int .u8 0, .int .u8 0, .int .u8 0, .int .u8 0, .int .u8 0, .int .u8 0, .int .u8 0, .int .u8 0, .int .u8 0, .int .u8 0, .int .u8 0, .int .u8 0, .int .u8 0, .int .u8 0, .int .u8 0, .int .u8 0, .int .u8 0, .int .u8 0, .int .u8 0, .int .u8 0, .int .u8 0, .int .u8 0, .int .u8 0, .int .u8 0, .int .u8 0, .int .u8 0, .int .u8 0, .int .u8 0, .int .u8 0, .int .u8 0, .int .u8 0, .int .u8 0, .int .u8 0, .int .u8 0, .int .u8 0, .int .u8 0, .int .u8 0, .int .u8 0, .int .u8 0, .int .u8 0, .int .u8 0, .int .u8 0, .int .u8 0, .int .u8 0, .int .u8 0, .int .u8 0, .int .u8 0, .int .u8 0, .int .u8 0, .int .u8 0, .int .u8 0, .int .u8 0, .int .u8 0, .int .u8 0, .int .u8 0, .int .u8 0] from rfl] at hq
  have FB : Byt (w.alloc (.cells (vals xs).toArray 43)) w.heap.size 43 xs := blk_new w _
  have HB := below_alloc (Below.refl w.heap.size w) (.cells (vals xs).toArray 43)
  go_enter Try.func37, Try.ntmps37
  go_wp2_with (first
    | ((with_reducible refine gate_dst (N := 3) rfl ?_)
       refine wpList_load_row rfl 43 (.tmp 1) rfl w.heap.size rfl 43 (vals xs).toArray (0, 0) _ FB Try.underlying43 rfl (infoSec hx) ?_
       generalize w.alloc (.cells (vals xs).toArray 43) = W1 at FB HB ⊢))
  go_ret
  exact ⟨rfl, HB⟩
set_option maxRecDepth 100000 in
set_option maxHeartbeats 1000000 in
theorem refRoom_calls (xs : List Int) (hx : xs.length = 64) (w : World) :
    Calls Try.prog 33 #[.agg (vals xs).toArray] w fun e w' => ∃ v, e = .returned v ∧ Kd.R (Kd.int .u8) 5 w' w.heap.size (fun _ => True) v (xs.drop 12) ∧ Below w.heap.size w w' := by
  go_enter Try.func33, Try.ntmps33
  go_wp2_with fail
  have FB0 := Aside0.mk (show Byt (w.alloc (.cells (vals xs).toArray 43)) w.heap.size 43 xs from blk_new w _)
  have HB0 := Aside0.mk (below_alloc (Below.refl w.heap.size w) (.cells (vals xs).toArray 43))
  generalize w.alloc (.cells (vals xs).toArray 43) = W1 at FB0 HB0 ⊢
  go_loopg [3, 4] 52 (fun gq v3 v4 w' => ∃ i : Nat, v4 = .int .i64 ((12 + i : Nat) : Int) ∧ Aside0 (i + gq = 52) ∧ Aside0 (Kd.R (Kd.int .u8) 5 w' w.heap.size (fun _ => True) v3 ((xs.drop 12).take i)) ∧ Aside0 (Byt w' w.heap.size 43 xs) ∧ Aside0 (Below w.heap.size w w'))
  case atStart => exact ⟨0, rfl, ⟨rfl⟩, ⟨by rw [List.take_zero]; exact Kd.R_nil _ _ _ _ _⟩, FB0, HB0⟩
  case round =>
    clear FB0 HB0
    obtain ⟨i, rfl, HQ, HO, FB, HB⟩ := hrel
    by_cases ci : i < 52
    · obtain ⟨gk', rfl⟩ : ∃ q, gk = q + 1 := ⟨gk - 1, by have := HQ.out; omega⟩
      have q1 : decide (((12 + i : Nat) : Int) < 64) = true := decide_eq_true (by omega)
      have p0 : ((0 : Int) ≤ ((12 + i : Nat) : Int)) = True := eq_true (by omega)
      have p1 : (((12 + i : Nat) : Int) < 64) = True := eq_true (by omega)
      have hi : 12 + i < xs.length := by omega
      have y0 : wr.cell? ⟨w.heap.size, 12 + i, none⟩ = some (.int .u8 xs[12 + i]) := by rw [FB.out.cell, List.getElem?_eq_getElem hi]; rfl
      have hnext : (xs.drop 12).take (i + 1) = (xs.drop 12).take i ++ [xs[12 + i]] := by
        rw [List.take_add_one, List.getElem?_drop, List.getElem?_eq_getElem hi]; rfl
      have hlen : ((xs.drop 12).take i).length = i := by rw [List.length_take, List.length_drop]; omega
      generalize xs[12 + i] = z at y0 hnext
      go_wp2_with (first
        | ((with_reducible refine gate_builtin (b := .append) (xs := #[.tmp 9, .tmp 13]) rfl ?_); at_builtin
           refine Kd.R_append (Kd.int .u8) (w0 := w) w.heap.size rfl (.tmp 9) (.tmp 13) 35 5 (.int .u8 0) 1 rfl Try.underlying35 info5 rfl (by decide) (by omega) _ ((xs.drop 12).take i) z [.int .u8 z] (fun _ => True) (fun _ => False) rfl rfl rfl (fun _ h => h.elim) (fun _ _ => trivial) HO.out HB.out HB.out.size (by rw [hlen]; omega) ?_
           intro v1 w1 ho hb hg hat
           have FB2 := Aside0.mk (show Byt w1 w.heap.size 43 xs from blk_grown FB.out hg (Kd.R_ne HO.out FB.out (by decide)))
           have HB2 := Aside0.mk hb
           rw [← hnext] at ho
           have HO2 := Aside0.mk ho
           clear ho hb hg hat HO FB HB y0))
      go_roundg gk'
      case measure => omega
      case rel => exact ⟨i + 1, by go_num, ⟨by have := HQ.out; omega⟩, HO2, FB2, HB2⟩
    · have hi : i = 52 := by have := HQ.out; omega
      subst hi
      have q1 : decide (((12 + 52 : Nat) : Int) < 64) = false := by decide
      go_wp2
      go_ret
      refine ⟨_, rfl, ?_, HB.out⟩
      have := HO.out
      rwa [List.take_of_length_le (by rw [List.length_drop]; omega)] at this
set_option maxRecDepth 100000 in
set_option maxHeartbeats 2000000 in
theorem refSeal_calls (k : Nat) (e i : Int) (room : List Int) (A : Option Addr) (c : Nat) (out : List Int) (w : World) (hr : Kd.C (Kd.int .u8) w A room.length room) (hc : room.length ≤ c) (ho : out.length = 64)
    (hB : ∀ j : Nat, j < 64 → strandlineref06_Byte.f k e i room (j : Int) = some (out.getD j 0)) :
    Calls Try.prog 31 #[.int .u64 e, .int .i64 i, .slice A room.length c] w fun en w' => en = .returned (.agg (vals out).toArray) ∧ Below w.heap.size w w' := by
  have HR := Aside0.mk hr
  have HC := Aside0.mk hc
  have HBy := Aside0.mk hB
  clear hr hc hB
  have hz : z64b.length = 64 := rfl
  have FR0 : Byt ((w.alloc (.cells (vals z64b).toArray 43)).alloc (.cells (vals z64b).toArray 43)) w.heap.size 43 z64b := blk_alloc (blk_new w (.cells (vals z64b).toArray 43)) _
  have FS0 : Byt ((w.alloc (.cells (vals z64b).toArray 43)).alloc (.cells (vals z64b).toArray 43)) (w.heap.size + 1) 43 z64b := by
    have := blk_new (w.alloc (.cells (vals z64b).toArray 43)) (.cells (vals z64b).toArray 43)
    rw [World.size_alloc] at this
    exact this
  have FB0 : Below w.heap.size w ((w.alloc (.cells (vals z64b).toArray 43)).alloc (.cells (vals z64b).toArray 43)) := below_alloc (below_alloc (Below.refl _ _) _) _
  have hW0 : ∃ W0, (w.alloc (.cells (vals z64b).toArray 43)).alloc (.cells (vals z64b).toArray 43) = W0 := ⟨_, rfl⟩
  obtain ⟨W0, hW0⟩ := hW0
  rw [hW0] at FR0 FS0 FB0
  rw [show (vals z64b).toArray = #[.int .u8 0, .int .u8 0, .int .u8 0, .int .u8 0, .int .u8 0, .int .u8 0, .int .u8 0, .int .u8 0, .int .u8 0, .int .u8 0, .int .u8 0, .int .u8 0, .int .u8 0, .int .u8 0, .int .u8 0, .int .u8 0, .int .u8 0, .int .u8 0, .int .u8 0, .int .u8 0, .int .u8 0, .int .u8 0, .int .u8 0, .int .u8 0, .int .u8 0, .int .u8 0, .int .u8 0, .int .u8 0, .int .u8 0, .int .u8 0, .int .u8 0, .int .u8 0, .int .u8 0, .int .u8 0, .int .u8 0, .int .u8 0, .int .u8 0, .int .u8 0, .int .u8 0, .int .u8 0, .int .u8 0, .int .u8 0, .int .u8 0, .int .u8 0, .int .u8 0, .int .u8 0, .int .u8 0, .int .u8 0, .int .u8 0, .int .u8 0, .int .u8 0, .int .u8 0, .int .u8 0, .int .u8 0, .int .u8 0, .int .u8 0, .int .u8 0, .int .u8 0, .int .u8 0, .int .u8 0, .int .u8 0, .int .u8 0, .int .u8 0, .int .u8 0] from rfl] at hW0
  go_enter Try.func31, Try.ntmps31
  go_wp2_with (first
    | ((with_reducible refine gate_store (t := 43) (p := 7) rfl ?_)
       (try rw [hW0])
       refine wpList_store_row rfl 43 (.tmp 7) (.tmp 9) rfl (w.heap.size + 1) (vals z64b).toArray rfl rfl 43 (vals z64b).toArray FS0 (infoSec hz) rfl (vals_all z64b) ?_
       have FS1 : Byt (World.setRow W0 (w.heap.size + 1) (vals z64b).toArray) (w.heap.size + 1) 43 z64b := setRow_heap W0 (w.heap.size + 1) _ _ _ _ FS0
       have FR1 : Byt (World.setRow W0 (w.heap.size + 1) (vals z64b).toArray) w.heap.size 43 z64b := (setRow_other W0 (w.heap.size + 1) w.heap.size _ (by omega)).trans FR0
       have FB1 := below_setRow FB0 (show w.heap.size ≤ w.heap.size + 1 by omega) (vals z64b).toArray
       generalize World.setRow W0 (w.heap.size + 1) (vals z64b).toArray = W1 at FS1 FR1 FB1 ⊢
       clear FS0 FR0 FB0 hW0))
  have HR1 := Aside0.mk (Kd.C_below HR.out FB1)
  replace FS1 := Aside0.mk FS1
  replace FR1 := Aside0.mk FR1
  replace FB1 := Aside0.mk FB1
  go_loopg [8] 64 (fun gq v8 w' => ∃ j : Nat, v8 = .int .i64 j ∧ Aside0 (j + gq = 64) ∧ Aside0 (Byt w' (w.heap.size + 1) 43 (fillB out j z64b)) ∧ Aside0 (Byt w' w.heap.size 43 z64b) ∧ Aside0 (Below w.heap.size w w'))
  case atStart => exact ⟨0, rfl, ⟨rfl⟩, FS1, FR1, FB1⟩
  case round =>
    clear FS1 FR1 FB1
    obtain ⟨j, rfl, HQ, FS, FR, FB⟩ := hrel
    by_cases cj : j < 64
    · obtain ⟨gk', rfl⟩ : ∃ q, gk = q + 1 := ⟨gk - 1, by have := HQ.out; omega⟩
      have q1 : decide ((j : Int) < 64) = true := decide_eq_true (by omega)
      have p0 : ((0 : Int) ≤ (j : Int)) = True := eq_true (by omega)
      have p1 : ((j : Int) < 64) = True := eq_true (by omega)
      have hfl := fillB_len out z64b j
      go_wp2_with fail
      refine (strandlineref06_Byte.calls k e i A c room j (out.getD j 0) _ (Kd.C_below HR.out FB.out) HC.out (HBy.out j cj)).mono ?_
      rintro en w2 ⟨rfl, hb2⟩
      have FS2 := FS.out.below hb2
      have FR2 := FR.out.below hb2
      have FB2 := below_step FB.out hb2
      have y1 : w2.cell? ⟨w.heap.size + 1, j, none⟩ = some (.int .u8 ((fillB out j z64b).getD j 0)) := by
        rw [FS2.cell, List.getElem?_eq_getElem (by rw [hfl]; exact cj), List.getD_eq_getElem?_getD, List.getElem?_eq_getElem (by rw [hfl]; exact cj)]
        rfl
      have y2 := blk_frozen FS2 j
      have FS3 := Aside0.mk (show Byt (w2.setCell ⟨w.heap.size + 1, j, none⟩ (.int .u8 (out.getD j 0))) (w.heap.size + 1) 43 (fillB out (j + 1) z64b) from FS2.set j (out.getD j 0))
      have FR3 := Aside0.mk (show Byt (w2.setCell ⟨w.heap.size + 1, j, none⟩ (.int .u8 (out.getD j 0))) w.heap.size 43 z64b from (Below.heap_setCell w2 ⟨w.heap.size + 1, j, none⟩ _ _ (by show w.heap.size ≠ w.heap.size + 1; omega)).trans FR2)
      have FB3 := Aside0.mk (Below.setCell FB2 (p := ⟨w.heap.size + 1, j, none⟩) (by show w.heap.size ≤ w.heap.size + 1; omega) (.int .u8 (out.getD j 0)))
      clear FS2 FR2 FB2 FS FR FB hb2
      generalize out.getD j 0 = z at FS3 FR3 FB3 ⊢
      go_wp2_with fail
      go_roundg gk'
      case measure => omega
      case rel => exact ⟨j + 1, by go_num, ⟨by have := HQ.out; omega⟩, FS3, FR3, FB3⟩
    · have hj : j = 64 := by have := HQ.out; omega
      subst hj
      have q1 : decide (((64 : Nat) : Int) < 64) = false := by decide
      have hfa : fillB out 64 z64b = out := by have := fillB_all out z64b (by rw [ho]; rfl); rwa [ho] at this
      rw [hfa] at FS
      go_wp2_with (first
        | ((with_reducible refine gate_dst (N := 21) rfl ?_)
           refine wpList_load_row rfl 43 (.tmp 7) rfl (w.heap.size + 1) rfl 43 (vals out).toArray (0, 0) _ FS.out Try.underlying43 rfl (infoSec ho) ?_)
        | ((with_reducible refine gate_store (t := 43) (p := 6) rfl ?_)
           refine wpList_store_row rfl 43 (.tmp 6) (.tmp 21) rfl w.heap.size (vals out).toArray rfl rfl 43 (vals z64b).toArray FR.out (infoSec ho) (by simp [vals, ho, hz]) (vals_all out) ?_
           have FE : Byt (World.setRow wr w.heap.size (vals out).toArray) w.heap.size 43 out := setRow_heap wr w.heap.size _ _ _ _ FR.out
           have FB2 := below_setRow FB.out (Nat.le_refl _) (vals out).toArray
           generalize World.setRow wr w.heap.size (vals out).toArray = W5 at FE FB2 ⊢
           clear FS FR FB))
      refine bodyPost_ret (results_cell_row (p := 6) (ty := 43) rfl _ _ w.heap.size 43 (vals out).toArray (0, 0) _ rfl FE Try.underlying43 rfl (infoSec ho)) rfl ?_
      exact ⟨rfl, FB2⟩
theorem getn_take (l : List Int) (n i : Nat) (h : i ≤ n) : getn (l.take n) i = getn l i := by
  induction i with
  | zero => rfl
  | succ i ih =>
    unfold getn
    rw [ih (by omega)]
    congr 3
    unfold rd
    rw [List.getD_eq_getElem?_getD, List.getD_eq_getElem?_getD, List.getElem?_take_of_lt (by omega)]
theorem wf_of {xs : List Int} (h : Bytes xs) : ∀ x ∈ xs, (Lit.int .u8 x).wf = true := fun x hx => by
  have := h x hx
  simp [Lit.wf, IntKind.min, IntKind.max, IntKind.signed, IntKind.bits]
  omega
set_option maxRecDepth 100000 in
set_option maxHeartbeats 2000000 in
theorem read_calls (xs : List Int) (hx : xs.length = 64) (bx : Bytes xs) (w : World) :
    Calls Try.prog 35 #[.agg (vals xs).toArray] w fun e w' => ∃ v, e = .returned (.tuple #[.int .u64 ((getn xs 8 : Nat) : Int), .int .i64 ((getn (xs.drop 8) 4 : Nat) : Int), v]) ∧ Kd.R (Kd.int .u8) 5 w' w.heap.size (fun _ => True) v (xs.drop 12) ∧ Below w.heap.size w w' := by
  obtain ⟨k, hk⟩ : ∃ k : Nat, 8 < k := ⟨9, by decide⟩
  have gA : ∀ W' : World, Byt W' w.heap.size 43 xs → Calls Try.prog 85 #[.slice (some ⟨w.heap.size, 0, none⟩) 8 64] W' fun e w2 => e = .returned (.int .u64 ((getn xs 8 : Nat) : Int)) ∧ Below W'.heap.size W' w2 := by
    intro W' h
    have hC := h.C 0 8 (by omega) (by decide)
    have hl : ((xs.drop 0).take 8).length = 8 := by rw [List.length_take, List.length_drop]; omega
    have hg := get_eq (l := (xs.drop 0).take 8) (fun x hx => wf_of bx x (List.mem_of_mem_drop (List.mem_of_mem_take hx))) k hk
    rw [hl, show min 8 8 = 8 from rfl, getn_take _ _ _ (Nat.le_refl 8), List.drop_zero] at hg
    rw [List.drop_zero] at hC hl
    have := word_Get.calls k (some ⟨w.heap.size, 0, none⟩) 64 (xs.take 8) _ W' (by rw [hl]; exact hC) (by rw [hl]; decide) hg
    rwa [hl] at this
  have gB : ∀ W' : World, Byt W' w.heap.size 43 xs → Calls Try.prog 85 #[.slice (some ⟨w.heap.size, 8, none⟩) 4 56] W' fun e w2 => e = .returned (.int .u64 ((getn (xs.drop 8) 4 : Nat) : Int)) ∧ Below W'.heap.size W' w2 := by
    intro W' h
    have hC := h.C 8 4 (by omega) (by decide)
    have hl : ((xs.drop 8).take 4).length = 4 := by rw [List.length_take, List.length_drop]; omega
    have hg := get_eq (l := (xs.drop 8).take 4) (fun x hx => wf_of bx x (List.mem_of_mem_drop (List.mem_of_mem_take hx))) k hk
    rw [hl, show min 4 8 = 4 from rfl, getn_take _ _ _ (Nat.le_refl 4)] at hg
    have := word_Get.calls k (some ⟨w.heap.size, 8, none⟩) 56 ((xs.drop 8).take 4) _ W' (by rw [hl]; exact hC) (by rw [hl]; decide) hg
    rwa [hl] at this
  have hlt : getn (xs.drop 8) 4 < 4294967296 := getn_lt (l := xs.drop 8) (fun x hx => wf_of bx x (List.mem_of_mem_drop hx)) 4
  generalize getn xs 8 = n8 at gA ⊢
  generalize getn (xs.drop 8) 4 = n4 at gB hlt ⊢
  have hw4 : wrap64 (n4 : Int) = n4 := by unfold wrap64; omega
  have FB0 := Aside0.mk (show Byt (w.alloc (.cells (vals xs).toArray 43)) w.heap.size 43 xs from blk_new w _)
  have HB0 := Aside0.mk (below_alloc (Below.refl w.heap.size w) (.cells (vals xs).toArray 43))
  have hd : (xs.drop 12).length = 52 := by rw [List.length_drop]; omega
  have hdt : (xs.drop 12).take 52 = xs.drop 12 := List.take_of_length_le (by omega)
  go_enter Try.func35, Try.ntmps35
  go_wp2_with (first
    | ((with_reducible refine gate_dst (N := 6) rfl ?_)
       generalize w.alloc (.cells (vals xs).toArray 43) = W1 at FB0 HB0 ⊢
       refine Kd.R_make (Kd.int .u8) (w0 := w) w.heap.size 5 rfl rfl 35 (.const (.int .i64 52)) (.const (.int .i64 52)) rfl 52 rfl rfl Try.underlying35 (.int .u8 0) 1 info5 rfl (by decide) (by decide) 0 (ok := fun _ => True) (okp := fun _ => True) rfl (fun _ h => h) trivial (by decide) (by decide) HB0.out HB0.out.size ?_
       intro v1 W2 ho hb hg hat
       have FB1 := Aside0.mk (show Byt W2 w.heap.size 43 xs from blk_grown FB0.out hg (by simp))
       have HO1 := Aside0.mk ho
       have HB1 := Aside0.mk hb
       clear ho hb hg hat FB0 HB0)
    | ((with_reducible refine gate_builtin (b := .copy) (xs := #[.tmp 7, .tmp 8]) rfl ?_)
       refine Kd.R_copy (0 : Int) (w0 := w) w.heap.size rfl (.tmp 7) (.tmp 8) 35 35 5 rfl Try.underlying35 (by kernel_rfl) v1 (List.replicate (52 : Int).toNat 0) (xs.drop 12) (some ⟨w.heap.size, 12, none⟩) 52 52 (fun _ => True) rfl rfl HO1.out (by have := FB1.out.C 12 52 (by omega) (by decide); rwa [hdt] at this) HB1.out HB1.out.size ?_
       intro W3 ho hb hg
       have FB2 := Aside0.mk (show Byt W3 w.heap.size 43 xs from blk_grown FB1.out hg (Kd.R_ne HO1.out FB1.out (by decide)))
       rw [show min 52 (List.replicate (52 : Int).toNat (0 : Int)).length = 52 from rfl, hdt, show (List.replicate (52 : Int).toNat (0 : Int)).drop 52 = [] from rfl, List.append_nil] at ho
       have HO2 := Aside0.mk ho
       have HB2 := Aside0.mk hb
       clear ho hb hg FB1 HO1 HB1))
  refine start_ (n := 9) (S := fun _ => True) (ds := []) #[false, false, false, false, false, false, false, false, false] (by kernel_rfl) rfl rfl trivial (fun hHeld => ?_)
  have FB3 := FB2.out.below (below_drew1 (Below.refl _ _))
  have HO3 := Kd.R_drew HO2.out
  have HB3 := below_drew1 HB2.out
  clear FB2 HO2 HB2
  generalize W3.drew = W4 at FB3 HO3 HB3 hHeld ⊢
  refine pure_ (i := 0) (N := some 10) (v := ?_) (a' := ?_) #[true, false, false, false, false, false, false, false, false] rfl rfl (by kernel_rfl) (fun _ _ _ h => h) (Or.inl ⟨by rfl, ?_⟩) ?_ ?_
  rotate_left
  · intro w'
    go_simp
    with_reducible rfl
  rotate_left
  · simp only [Act.put, List.setIfInBounds_toArray, List.set_cons_zero, List.set_cons_succ, i64_w, i32_w]
    rfl
  refine pure_ (i := 2) (N := some 12) (v := ?_) (a' := ?_) #[true, false, true, false, false, false, false, false, false] rfl rfl (by kernel_rfl) (fun _ _ _ h => h) (Or.inl ⟨by rfl, ?_⟩) ?_ ?_
  rotate_left
  · intro w'
    go_simp
    with_reducible rfl
  rotate_left
  · simp only [Act.put, List.setIfInBounds_toArray, List.set_cons_zero, List.set_cons_succ, i64_w, i32_w]
    rfl
  refine pure_ (i := 5) (N := some 15) (v := ?_) (a' := ?_) #[true, false, true, false, false, true, false, false, false] rfl rfl (by kernel_rfl) (fun _ _ _ h => h) (Or.inl ⟨by rfl, ?_⟩) ?_ ?_
  rotate_left
  · intro w'
    go_simp
    with_reducible rfl
  rotate_left
  · simp only [Act.put, List.setIfInBounds_toArray, List.set_cons_zero, List.set_cons_succ, i64_w, i32_w]
    rfl
  refine one_ (i := 1) (N := some 11) #[true, true, true, false, false, true, false, false, false] rfl rfl (by kernel_rfl) (by decide) (fun K hK => ?_)
  refine goes_ Try.func85 (by kernel_rfl) rfl #[.slice (some ⟨w.heap.size, 0, none⟩) 8 64] (by rfl) rfl rfl (by (try simp only [List.map_toArray, List.map_cons, List.map_nil]); first | done | rfl) ?_
  refine (gA W4 FB3).mono ?_
  rintro en W5 ⟨rfl, hb⟩
  refine ⟨_, rfl, ?_⟩
  replace FB3 := FB3.below hb
  replace HO3 := Kd.R_below HO3 hb
  replace HB3 := below_step HB3 hb
  clear hb
  refine hK.out _ _ trivial (fun hHeld => ?_)
  clear hK K
  refine norm_ (a' := ?_) ?_ ?_
  rotate_left
  · show Act.put _ (some 11) _ = _
    simp only [Act.put, List.setIfInBounds_toArray, List.set_cons_zero, List.set_cons_succ, i64_w, i32_w]
    rfl
  refine one_ (i := 3) (N := some 13) #[true, true, true, true, false, true, false, false, false] rfl rfl (by kernel_rfl) (by decide) (fun K hK => ?_)
  refine goes_ Try.func85 (by kernel_rfl) rfl #[.slice (some ⟨w.heap.size, 8, none⟩) 4 56] (by rfl) rfl rfl (by (try simp only [List.map_toArray, List.map_cons, List.map_nil]); first | done | rfl) ?_
  refine (gB W5 FB3).mono ?_
  rintro en W6 ⟨rfl, hb⟩
  refine ⟨_, rfl, ?_⟩
  replace FB3 := FB3.below hb
  replace HO3 := Kd.R_below HO3 hb
  replace HB3 := below_step HB3 hb
  clear hb
  refine hK.out _ _ trivial (fun hHeld => ?_)
  clear hK K
  refine norm_ (a' := ?_) ?_ ?_
  rotate_left
  · show Act.put _ (some 13) _ = _
    simp only [Act.put, List.setIfInBounds_toArray, List.set_cons_zero, List.set_cons_succ, i64_w, i32_w]
    rfl
  refine pure_ (i := 4) (N := some 14) (v := ?_) (a' := ?_) #[true, true, true, true, true, true, false, false, false] rfl rfl (by kernel_rfl) (fun _ _ _ h => h) (Or.inl ⟨by rfl, ?_⟩) ?_ ?_
  rotate_left
  · intro w'
    go_simp
    with_reducible rfl
  rotate_left
  · simp only [Act.put, List.setIfInBounds_toArray, List.set_cons_zero, List.set_cons_succ, i64_w, i32_w]
    rfl
  refine pure_ (i := 6) (N := some 2) (v := ?_) (a' := ?_) #[true, true, true, true, true, true, true, false, false] rfl rfl (by kernel_rfl) (fun _ _ _ h => h) (Or.inl ⟨by rfl, ?_⟩) ?_ ?_
  rotate_left
  · intro w'
    go_simp
    with_reducible rfl
  rotate_left
  · simp only [Act.put, List.setIfInBounds_toArray, List.set_cons_zero, List.set_cons_succ, i64_w, i32_w]
    rfl
  refine pure_ (i := 7) (N := some 3) (v := ?_) (a' := ?_) #[true, true, true, true, true, true, true, true, false] rfl rfl (by kernel_rfl) (fun _ _ _ h => h) (Or.inl ⟨by rfl, ?_⟩) ?_ ?_
  rotate_left
  · intro w'
    go_simp
    with_reducible rfl
  rotate_left
  · simp only [Act.put, List.setIfInBounds_toArray, List.set_cons_zero, List.set_cons_succ, i64_w, i32_w]
    rfl
  refine pure_ (i := 8) (N := some 4) (v := ?_) (a' := ?_) #[true, true, true, true, true, true, true, true, true] rfl rfl (by kernel_rfl) (fun _ _ _ h => h) (Or.inl ⟨by rfl, ?_⟩) ?_ ?_
  rotate_left
  · intro w'
    go_simp
    with_reducible rfl
  rotate_left
  · simp only [Act.put, List.setIfInBounds_toArray, List.set_cons_zero, List.set_cons_succ, i64_w, i32_w]
    rfl
  refine done_ (by kernel_rfl) ?_
  clear hHeld
  go_wp2
  go_ret3
  exact ⟨_, rfl, HO3, HB3⟩
-- end of read
def openF (xs : List Int) (e i : Int) : Bool := ((getn xs 8 : Nat) : Int) == e && ((getn (xs.drop 8) 4 : Nat) : Int) == i % 4294967296
set_option maxRecDepth 100000 in
set_option maxHeartbeats 2000000 in
theorem open_calls (xs : List Int) (hx : xs.length = 64) (bx : Bytes xs) (e i : Int) (w : World) :
    Calls Try.prog 32 #[.agg (vals xs).toArray, .int .u64 e, .int .i64 i] w fun en w' => ∃ v, en = .returned (.tuple #[v, .bool (openF xs e i)]) ∧ Kd.R (Kd.int .u8) 5 w' w.heap.size (fun _ => True) v (if openF xs e i = true then xs.drop 12 else []) ∧ Below w.heap.size w w' := by
  have FB0 := Aside0.mk (show Byt (w.alloc (.cells (vals xs).toArray 43)) w.heap.size 43 xs from blk_new w _)
  have HB0 := Aside0.mk (below_alloc (Below.refl w.heap.size w) (.cells (vals xs).toArray 43))
  have RC := fun W => read_calls xs hx bx W
  have hF : openF xs e i = (((getn xs 8 : Nat) : Int) == e && ((getn (xs.drop 8) 4 : Nat) : Int) == i % 4294967296) := rfl
  generalize openF xs e i = o at hF ⊢
  generalize getn xs 8 = n8 at RC hF
  generalize getn (xs.drop 8) 4 = n4 at RC hF
  have hm0 : 0 ≤ i % 4294967296 := by omega
  have hm1 : i % 4294967296 < 4294967296 := by omega
  have hw : wrap64 (i % 4294967296) = i % 4294967296 := by unfold wrap64; omega
  cases h8 : ((n8 : Int) == e) with
  | false =>
    have h8' : ((n8 : Int) != e) = true := by rw [bne, h8]; rfl
    rw [h8] at hF
    have ho : o = false := by rw [hF]; rfl
    clear hF
    subst ho
    rw [if_neg (by decide)]
    go_enter Try.func32, Try.ntmps32
    go_wp2_with (first
      | ((with_reducible refine gate_dst (N := 12) rfl ?_)
         generalize w.alloc (.cells (vals xs).toArray 43) = W1 at FB0 HB0 ⊢
         refine wpList_load_row rfl 43 (.tmp 3) rfl w.heap.size rfl 43 (vals xs).toArray (0, 0) _ FB0.out Try.underlying43 rfl (infoSec hx) ?_))
    refine (RC _).mono ?_
    rintro en w2 ⟨v, rfl, hR, hb⟩
    have HB2 := Aside0.mk (HB0.out.trans (hb.mono HB0.out.size))
    clear hR hb RC FB0 HB0
    go_wp2_with fail
    go_ret2
    exact ⟨_, rfl, Kd.R_nil _ _ _ _ _, HB2.out⟩
  | true =>
    have h8' : ((n8 : Int) != e) = false := by rw [bne, h8]; rfl
    rw [h8, Bool.true_and] at hF
    cases h4 : ((n4 : Int) == i % 4294967296) with
    | false =>
      have h4' : ((n4 : Int) != i % 4294967296) = true := by rw [bne, h4]; rfl
      rw [h4] at hF
      subst hF
      rw [if_neg (by decide)]
      go_enter Try.func32, Try.ntmps32
      go_wp2_with (first
        | ((with_reducible refine gate_dst (N := 12) rfl ?_)
           generalize w.alloc (.cells (vals xs).toArray 43) = W1 at FB0 HB0 ⊢
           refine wpList_load_row rfl 43 (.tmp 3) rfl w.heap.size rfl 43 (vals xs).toArray (0, 0) _ FB0.out Try.underlying43 rfl (infoSec hx) ?_))
      refine (RC _).mono ?_
      rintro en w2 ⟨v, rfl, hR, hb⟩
      have HB2 := Aside0.mk (HB0.out.trans (hb.mono HB0.out.size))
      clear hR hb RC FB0 HB0
      go_wp2_with fail
      go_ret2
      exact ⟨_, rfl, Kd.R_nil _ _ _ _ _, HB2.out⟩
    | true =>
      have h4' : ((n4 : Int) != i % 4294967296) = false := by rw [bne, h4]; rfl
      rw [h4] at hF
      subst hF
      rw [if_pos rfl]
      go_enter Try.func32, Try.ntmps32
      go_wp2_with (first
        | ((with_reducible refine gate_dst (N := 12) rfl ?_)
           generalize w.alloc (.cells (vals xs).toArray 43) = W1 at FB0 HB0 ⊢
           refine wpList_load_row rfl 43 (.tmp 3) rfl w.heap.size rfl 43 (vals xs).toArray (0, 0) _ FB0.out Try.underlying43 rfl (infoSec hx) ?_))
      refine (RC _).mono ?_
      rintro en w2 ⟨v, rfl, hR, hb⟩
      have HB2 := Aside0.mk (HB0.out.trans (hb.mono HB0.out.size))
      have HR2 := Aside0.mk (Kd.R_lower hR HB0.out.size)
      clear hR hb RC FB0 HB0
      go_wp2_with fail
      go_ret2
      exact ⟨_, rfl, HR2.out, HB2.out⟩
def pickB (b : Bool) (l : List Int) : List Int := cond b l []
set_option maxRecDepth 100000 in
set_option maxHeartbeats 2000000 in
theorem refOpen_calls (k : Nat) (xs : List Int) (hx : xs.length = 64) (bx : Bytes xs) (e i : Int) (out : List Int) (ho : out.length = 64) (hbo : Bytes out) (hB : ∀ j : Nat, j < 64 → strandlineref06_Byte.f k e i (xs.drop 12) (j : Int) = some (out.getD j 0)) (w : World) :
    Calls Try.prog 36 #[.agg (vals xs).toArray, .int .u64 e, .int .i64 i] w fun en w' => ∃ v, en = .returned (.tuple #[v, .bool (out == xs)]) ∧ Kd.R (Kd.int .u8) 5 w' w.heap.size (fun _ => True) v (pickB (out == xs) (xs.drop 12)) ∧ Below w.heap.size w w' := by
  have FB0 := Aside0.mk (show Byt (w.alloc (.cells (vals xs).toArray 43)) w.heap.size 43 xs from blk_new w _)
  have HB0 := Aside0.mk (below_alloc (Below.refl w.heap.size w) (.cells (vals xs).toArray 43))
  have HBy := Aside0.mk hB
  clear hB
  have hq := eq64 ho hx hbo bx
  go_enter Try.func36, Try.ntmps36
  go_wp2_with fail
  generalize w.alloc (.cells (vals xs).toArray 43) = W1 at FB0 HB0 ⊢
  refine start_ (n := 7) (S := fun w' => Byt w' w.heap.size 43 xs) (ds := []) #[false, false, false, false, false, false, false] (by kernel_rfl) rfl rfl FB0.out (fun hHeld => ?_)
  have FB := FB0.out.below (below_drew1 (Below.refl _ _))
  have HB := below_drew1 HB0.out
  generalize W1.drew = W2 at FB HB hHeld ⊢
  refine pure_ (i := 0) (N := some 8) (v := ?_) (a' := ?_) #[true, false, false, false, false, false, false] rfl rfl (by kernel_rfl) (fun _ _ _ h => h) (Or.inl ⟨by rfl, ?_⟩) ?_ ?_
  rotate_left
  · intro w'
    go_simp
    with_reducible rfl
  rotate_left
  · simp only [Act.put, List.setIfInBounds_toArray, List.set_cons_zero, List.set_cons_succ, i64_w, i32_w]
    rfl
  refine pure_ (i := 1) (N := some 9) (v := ?_) (a' := ?_) #[true, true, false, false, false, false, false] rfl rfl (by kernel_rfl) (fun _ _ _ h => h) (Or.inl ⟨by rfl, ?_⟩) ?_ ?_
  rotate_left
  · intro w'
    go_simp
    with_reducible rfl
  rotate_left
  · simp only [Act.put, List.setIfInBounds_toArray, List.set_cons_zero, List.set_cons_succ, i64_w, i32_w]
    rfl
  refine take_ (i := 2) (N := some 10) (v := ?_) (a' := ?_) #[true, true, true, false, false, false, false] rfl rfl (by kernel_rfl) (fun _ _ _ h => h) (Or.inl ⟨by rfl, ?_⟩) hHeld ?_ ?_
  rotate_left
  · intro w' s0
    refine (exec_load_row 43 (.tmp 3) ?_ w.heap.size ?_ 43 (vals xs).toArray (0, 0) _ s0 Try.underlying43 rfl (infoSec hx)).trans ?_
    all_goals rfl
  rotate_left
  · simp only [Act.put, List.setIfInBounds_toArray, List.set_cons_zero, List.set_cons_succ, i64_w, i32_w]
    rfl
  refine take_ (i := 5) (N := some 13) (v := ?_) (a' := ?_) #[true, true, true, false, false, true, false] rfl rfl (by kernel_rfl) (fun _ _ _ h => h) (Or.inl ⟨by rfl, ?_⟩) hHeld ?_ ?_
  rotate_left
  · intro w' s0
    refine (exec_load_row 43 (.tmp 3) ?_ w.heap.size ?_ 43 (vals xs).toArray (0, 0) _ s0 Try.underlying43 rfl (infoSec hx)).trans ?_
    all_goals rfl
  rotate_left
  · simp only [Act.put, List.setIfInBounds_toArray, List.set_cons_zero, List.set_cons_succ, i64_w, i32_w]
    rfl
  refine one_ (i := 3) (N := some 11) #[true, true, true, true, false, true, false] rfl rfl (by kernel_rfl) (by decide) (fun K hK => ?_)
  refine goes_ Try.func33 (by kernel_rfl) rfl #[.agg (vals xs).toArray] (by rfl) rfl rfl (by (try simp only [List.map_toArray, List.map_cons, List.map_nil]); first | done | rfl) ?_
  refine (refRoom_calls xs hx W2).mono ?_
  rintro en W3 ⟨v, rfl, hR, hb⟩
  refine ⟨_, rfl, ?_⟩
  replace FB := FB.below hb
  replace HB := below_step HB hb
  obtain ⟨Av, cv, ev⟩ := Kd.R_slice hR
  subst ev
  have hcv := (Kd.R_reads' hR).2.1
  have hCv := (Kd.R_reads' hR).2.2
  clear hR
  clear hb
  refine hK.out _ _ FB (fun hHeld => ?_)
  clear hK K
  refine norm_ (a' := ?_) ?_ ?_
  rotate_left
  · show Act.put _ (some 11) _ = _
    simp only [Act.put, List.setIfInBounds_toArray, List.set_cons_zero, List.set_cons_succ, i64_w, i32_w]
    rfl
  refine one_ (i := 4) (N := some 12) #[true, true, true, true, true, true, false] rfl rfl (by kernel_rfl) (by decide) (fun K hK => ?_)
  refine goes_ Try.func31 (by kernel_rfl) rfl #[.int .u64 e, .int .i64 i, .slice Av (xs.drop 12).length cv] (by rfl) rfl rfl (by (try simp only [List.map_toArray, List.map_cons, List.map_nil]); first | done | rfl) ?_
  refine (refSeal_calls k e i (xs.drop 12) Av cv out W3 hCv hcv ho HBy.out).mono ?_
  rintro en W4 ⟨rfl, hb⟩
  refine ⟨_, rfl, ?_⟩
  replace FB := FB.below hb
  replace HB := below_step HB hb
  clear hb
  refine hK.out _ _ FB (fun hHeld => ?_)
  clear hK K
  refine norm_ (a' := ?_) ?_ ?_
  rotate_left
  · show Act.put _ (some 12) _ = _
    simp only [Act.put, List.setIfInBounds_toArray, List.set_cons_zero, List.set_cons_succ, i64_w, i32_w]
    rfl
  refine pure_ (i := 6) (N := some 14) (v := ?_) (a' := ?_) #[true, true, true, true, true, true, true] rfl rfl (by kernel_rfl) (fun _ _ _ h => h) (Or.inl ⟨by rfl, ?_⟩) ?_ ?_
  rotate_left
  · intro w'
    go_simp
    with_reducible rfl
  rotate_left
  · simp only [Act.put, List.setIfInBounds_toArray, List.set_cons_zero, List.set_cons_succ, i64_w, i32_w]
    rfl
  refine done_ (by kernel_rfl) ?_
  clear hHeld hCv hcv
  replace FB := Aside0.mk FB
  replace HB := Aside0.mk HB
  cases hc : (out == xs) with
  | false =>
    rw [Bool.not_false]
    go_wp2_with fail
    go_ret2
    rw [hc]
    exact ⟨_, rfl, Kd.R_nil _ _ _ _ _, HB.out⟩
  | true =>
    rw [Bool.not_true]
    go_wp2_with (first
      | ((with_reducible refine gate_dst (N := 15) rfl ?_)
         refine wpList_load_row rfl 43 (.tmp 3) rfl w.heap.size rfl 43 (vals xs).toArray (0, 0) _ FB.out Try.underlying43 rfl (infoSec hx) ?_))
    refine (refRoom_calls xs hx _).mono ?_
    rintro en w5 ⟨v2, rfl, hR, hb⟩
    have HB2 := Aside0.mk (HB.out.trans (hb.mono HB.out.size))
    have HR2 := Aside0.mk (Kd.R_lower hR HB.out.size)
    clear hR hb FB HB
    go_wp2_with fail
    go_ret2
    rw [hc]
    exact ⟨_, rfl, HR2.out, HB2.out⟩
-- end of ropen
end Go.Proofs.Ythlpimojojofbaa.F
