/- Texts of mine put together: CrcOwn, FkFrag, FragEnc, ImgAdd. -/
import Derived.Test.YthhbilkmdfdfiaaDoorPkImageMore4
import Derived.Test.YthhbilkmdfdfiaaDoorPkImageMore6
import Derived.Test.YthhbilkmdfdfiaaDoorPkImageMore5
import Derived.Test.YthhbilkmdfdfiaaDoorPkImageMore1
section
/- word and crc by what is owned; reading of slices. -/
set_option linter.unusedVariables false
set_option linter.unusedSimpArgs false
namespace Go.Proofs.YthhbilkmdfdfiaaDoor.O
open Go.RowKit Go.Proofs.YthhbilkmdfdfiaaDoorW.PrintWords Go.Proofs.YthhbilkmdfdfiaaDoorW.PrintLast Go.Proofs.YthhbilkmdfdfiaaDoorW.PrintMore Go.Proofs.YthhbilkmdfdfiaaDoor.F Go.Proofs.YthhbilkmdfdfiaaDoor.F.Nums Go.Proofs.YthhbilkmdfdfiaaDoor.Plain
theorem put_own {w0 W : World} {F : Nat → Option Obj} {L : List Res} (H : Own w0 F L W) (n : Nat) (hn : n < 18446744073709551616) (wi : Int) (i : Nat) (hw : wi = (i : Int)) (hi : i ≤ 8) :
    Calls Tryd.prog 60 #[.int .u64 (n : Int), .int .i64 wi] W fun e W' => ∃ A c, e = .returned (.slice A i c) ∧ i ≤ c ∧ (Kd.int .u8).C W' A i (putl n i) ∧ Own w0 F L W' := by
  subst hw
  have hc : (cl8 (i : Int)).toNat = i := by unfold cl8; split <;> (try split) <;> omega
  have he := put_eq 9 (by decide) n hn (i : Int)
  rw [hc] at he
  refine (word_Put.calls 9 n (i : Int) _ W he).mono ?_
  rintro e W' ⟨v, rfl, hR, hb⟩
  obtain ⟨A, c, rfl, hl, hC⟩ := Kd.R_reads hR
  rw [putl_len] at hl hC ⊢
  exact ⟨A, c, rfl, hl, hC, H.to hb⟩
theorem of_own {w0 W : World} {F : Nat → Option Obj} {L : List Res} (H : Own w0 F L W) (hH : Half w0) (A : Option Addr) (n c : Nat) (xs : List Int) (hC : (Kd.int .u8).C W A n xs) (hc : n ≤ c) (hb : Bytes xs) :
    Calls Tryd.prog 16 #[.slice A n c] W fun e W' => e = .returned (.int .u32 (moreI 0 xs)) ∧ Own w0 F L W' := by
  have hn : xs.length = n := hC.1
  subst hn
  refine (of_calls A c xs W hC hc hb (hH.below H.below)).mono ?_
  rintro e W' ⟨rfl, hd⟩
  exact ⟨rfl, H.to hd.below⟩
theorem mask_own {w0 W : World} {F : Nat → Option Obj} {L : List Res} (H : Own w0 F L W) (xs : List Int) :
    Calls Tryd.prog 20 #[.int .u32 (moreI 0 xs)] W fun e W' => e = .returned (.int .u32 (sumN xs : Int)) ∧ Own w0 F L W' := by
  refine (crc_Mask.calls (moreI 0 xs) _ W (crc_sum xs)).mono ?_
  rintro e W' ⟨rfl, hd⟩
  exact ⟨rfl, H.to hd.below⟩
theorem drop_C {w : World} {A : Option Addr} {n : Nat} {xs : List Int} (h : (Kd.int .u8).C w A n xs) (lo c : Nat) (h1 : lo ≤ n) (hc : n ≤ c) : (Kd.int .u8).C w (dropA A lo c 1) (n - lo) (xs.drop lo) := by
  have hl := h.1
  have hm := h.2.1
  have hR := (Rd.of_C h).dropA lo c 1 (fun e => by rw [nums_length]; omega)
  rw [Nat.mul_one, nums_drop] at hR
  exact hR.C (by rw [List.length_drop]; omega) (by omega)
theorem getn_pre {l m : List Int} (i : Nat) (h : ∀ j, j < i → l[j]? = m[j]?) : getn l i = getn m i := by
  induction i with
  | zero => rfl
  | succ i ih =>
    unfold getn
    rw [ih (fun j hj => h j (by omega))]
    congr 3
    unfold rd
    rw [Int.toNat_natCast, List.getD_eq_getElem?_getD, List.getD_eq_getElem?_getD, h i (by omega)]
theorem get_own {w0 W : World} {F : Nat → Option Obj} {L : List Res} (H : Own w0 F L W) (A : Option Addr) (n c : Nat) (xs : List Int) (hC : (Kd.int .u8).C W A n xs) (hc : n ≤ c) (hb : Bytes xs) (h8 : n ≤ 8) :
    Calls Tryd.prog 57 #[.slice A n c] W fun e W' => e = .returned (.int .u64 (getn xs n : Nat)) ∧ Own w0 F L W' := by
  have hn : xs.length = n := hC.1
  subst hn
  have he := get_eq (l := xs) (wf_of_bytes hb) 9 (by decide)
  rw [Nat.min_eq_left h8] at he
  refine (word_Get.calls 9 A c xs _ W hC hc he).mono ?_
  rintro e W' ⟨rfl, hb⟩
  exact ⟨rfl, H.to hb⟩
theorem cut_C {w : World} {A : Option Addr} {n : Nat} {xs : List Int} (h : (Kd.int .u8).C w A n xs) (lo hi c : Nat) (h1 : lo ≤ hi) (h2 : hi ≤ n) (hc : n ≤ c) : (Kd.int .u8).C w (dropA A lo c 1) (hi - lo) ((xs.take hi).drop lo) := by
  have hm := h.2.1
  have hl : xs.length = n := h.1
  have hR := ((Rd.of_C h).take hi).dropA lo c 1 (fun e => by rw [List.length_take, nums_length]; omega)
  rw [nums_take, Nat.mul_one, nums_drop] at hR
  exact hR.C (by rw [List.length_drop, List.length_take]; omega) (by omega)
theorem r_loadRd0 {P : Program} {o : Oper} {a : Act} {W : World} {p : Addr} {cs : List Value} (ty : TypeId) (x : Operand) (ho : o.op = .load ty x) (hx : a.eval x = .pointer (some p)) (hR : Rd W (some p) cs)
    (n : Nat) (d : TypeDesc) (hu : P.underlying ty = some d) (hd : d.isRow = true) (hi : (P.info? ty).map (·.size) = some n) (hn : 0 < n) (hl : cs.length = n) :
    (execOp a.eval o).run P W = .ok (.value (.agg cs.toArray)) W := by
  have h := r_loadRd (P := P) (o := o) (a := a) ty x ho 0 (ad := p) (cs := cs) (by rw [hx]; congr 2) hR n d hu hd hi hn (by omega)
  rwa [List.drop_zero, List.take_of_length_le (by omega)] at h
theorem rget_own {w0 W : World} {F : Nat → Option Obj} {L : List Res} (H : Own w0 F L W) (A : Option Addr) (n c : Nat) (xs : List Int) (hC : (Kd.int .u8).C W A n xs) (hc : n ≤ c) (hb : Bytes xs) (h8 : n ≤ 8) :
    Calls Tryd.prog 59 #[.slice A n c] W fun e W' => e = .returned (.int .u64 (getn xs n : Nat)) ∧ Own w0 F L W' := by
  have hn : xs.length = n := hC.1
  subst hn
  have he := rget_eq (l := xs) (wf_of_bytes hb) 81 (by decide)
  rw [Nat.min_eq_left h8] at he
  refine (strandlineref01_Get.calls 81 A c xs _ W hC hc he).mono ?_
  rintro e W' ⟨rfl, hb⟩
  exact ⟨rfl, H.to hb.below⟩
end Go.Proofs.YthhbilkmdfdfiaaDoor.O
end

section
/- Functions of frag: what each answers, as a Lean function, and that the call answers just this. Turned out of what the kit's print told for this seat. -/
namespace Go.Proofs.YthhbilkmdfdfiaaDoor.F
open Go.RowKit Go.Proofs.YthhbilkmdfdfiaaDoorW.PrintWords Go.Proofs.YthhbilkmdfdfiaaDoorW.PrintLast Go.Proofs.YthhbilkmdfdfiaaDoorW.PrintMore
attribute [local go_sem high] eqA120
attribute [local go_sem] field120_0
attribute [local go_sem] field120_1
attribute [local go_sem] max2_int min2_int max_two min_two max_three min_three max_four min_four
set_option linter.unusedVariables false
set_option linter.unusedSimpArgs false

/-! ### frag_right: function 58 -/
def frag_right.f (a0_0 : Int) (a0_1 : Int) (l0_2 : List Int) : Option (Bool) := if a0_0 ≥ 1 then (if a0_0 ≤ 4 then (some (decide ((l0_2.length : Int) ≤ 197))) else (some false)) else (some false)
set_option maxHeartbeats 8000000 in
set_option maxRecDepth 100000 in
theorem frag_right.calls (a0_0 : Int) (a0_1 : Int) (A0_2 : Option Addr) (c0_2 : Nat) (l0_2 : List Int) (r : Bool) (w : World) (hr0_2 : Kd.C (Kd.int .u8) w A0_2 l0_2.length l0_2) (hc0_2 : l0_2.length ≤ c0_2) (h : frag_right.f a0_0 a0_1 l0_2 = some r) :
    Calls Tryd.prog 58 #[.agg #[.int .i64 a0_0, .int .u32 a0_1, .slice A0_2 l0_2.length c0_2]] w fun e w' => e = .returned (.bool r) ∧ Below w.heap.size w w' := by
  have hu99 := Tryd.underlying99
  have hu120 := Tryd.underlying120
  have hu37 := Tryd.underlying37
  have HR0_2 := Aside0.mk hr0_2
  have HC0_2 := Aside0.mk hc0_2
  clear hr0_2 hc0_2
  have HB := Aside0.mk (Below.refl w.heap.size w)
  have H : (if a0_0 ≥ 1 then (if a0_0 ≤ 4 then (some (decide ((l0_2.length : Int) ≤ 197))) else (some false)) else (some false)) = some r := h
  clear h
  by_cases c2 : a0_0 ≥ 1
  · rw [if_pos c2] at H
    have c2b0 : decide (1 ≤ a0_0) = true := decide_eq_true c2
    clear c2
    by_cases c3 : a0_0 ≤ 4
    · rw [if_pos c3] at H
      have c3b0 : decide (a0_0 ≤ 4) = true := decide_eq_true c3
      clear c3
      obtain rfl := Option.some.inj H
      go_enter Tryd.func58, Tryd.ntmps58
      go_wp2_with (first | ((with_reducible refine gate_dst (N := 1) rfl ?_); (try (refine gate_guard (by rfl) ?_; dsimp only)); refine box_event ?hg (N := 1) ?hd (cs := #[.int .i64 a0_0, .int .u32 a0_1, .slice A0_2 l0_2.length c0_2]) (t := 37) ?hr ?_; (case hd => rfl); (case hg => rfl); (case hr => first | (go_simp; done) | (go_simp; rfl)); intro gb102 hg w4 hbox hb; have n0_ := Aside0.mk (below_step (by repeat (first | (with_reducible first | exact HB.out | apply below_alloc | apply pw_below_drewN | apply below_drew1) | exact HB.out)) hb); have n1_ := Aside0.mk (hbox); have n2_ := Aside0.mk ((by rw [hg]; exact (below_size (by repeat (first | (with_reducible first | exact HB.out | apply below_alloc | apply pw_below_drewN | apply below_drew1) | exact HB.out))) : w.heap.size ≤ gb102)); have n3_ := Aside0.mk ((by rw [hg]; exact (below_size (by repeat (first | (with_reducible first | exact HB.out | apply below_alloc | apply pw_below_drewN | apply below_drew1) | exact HB.out))) : w.heap.size ≤ gb102)); clear HB; have HB := n0_; have BK102 := n1_; have GW102 := n2_; have GE102 := n3_; clear n0_ n1_ n2_ n3_; clear hb hbox hg; have hcz5_0 : w4.cell? ⟨gb102, 0, none⟩ = some (.int .i64 a0_0) := (blk_cell BK102.out 0).trans rfl; have hcz5_1 : w4.cell? ⟨gb102, 1, none⟩ = some (.int .u32 a0_1) := (blk_cell BK102.out 1).trans rfl; have hcz5_2 : w4.cell? ⟨gb102, 2, none⟩ = some (.slice A0_2 l0_2.length c0_2) := (blk_cell BK102.out 2).trans rfl; have hfz5_0 := blk_frozen BK102.out 0; have hfz5_1 := blk_frozen BK102.out 1; have hfz5_2 := blk_frozen BK102.out 2))
      go_ret
      exact ⟨by first | rfl | (simp [errW_none, errW_some] <;> rfl) | (simp [*, errW_none, errW_some] <;> rfl), by repeat (first | (with_reducible first | exact HB.out | apply below_alloc | apply pw_below_drewN | apply below_drew1 | refine below_set ?_ GE102.out) | exact HB.out)⟩
    · rw [if_neg c3] at H
      have c3b0 : decide (a0_0 ≤ 4) = false := decide_eq_false c3
      clear c3
      obtain rfl := Option.some.inj H
      go_enter Tryd.func58, Tryd.ntmps58
      go_wp2_with (first | ((with_reducible refine gate_dst (N := 1) rfl ?_); (try (refine gate_guard (by rfl) ?_; dsimp only)); refine box_event ?hg (N := 1) ?hd (cs := #[.int .i64 a0_0, .int .u32 a0_1, .slice A0_2 l0_2.length c0_2]) (t := 37) ?hr ?_; (case hd => rfl); (case hg => rfl); (case hr => first | (go_simp; done) | (go_simp; rfl)); intro gb102 hg w6 hbox hb; have n0_ := Aside0.mk (below_step (by repeat (first | (with_reducible first | exact HB.out | apply below_alloc | apply pw_below_drewN | apply below_drew1) | exact HB.out)) hb); have n1_ := Aside0.mk (hbox); have n2_ := Aside0.mk ((by rw [hg]; exact (below_size (by repeat (first | (with_reducible first | exact HB.out | apply below_alloc | apply pw_below_drewN | apply below_drew1) | exact HB.out))) : w.heap.size ≤ gb102)); have n3_ := Aside0.mk ((by rw [hg]; exact (below_size (by repeat (first | (with_reducible first | exact HB.out | apply below_alloc | apply pw_below_drewN | apply below_drew1) | exact HB.out))) : w.heap.size ≤ gb102)); clear HB; have HB := n0_; have BK102 := n1_; have GW102 := n2_; have GE102 := n3_; clear n0_ n1_ n2_ n3_; clear hb hbox hg; have hcz7_0 : w6.cell? ⟨gb102, 0, none⟩ = some (.int .i64 a0_0) := (blk_cell BK102.out 0).trans rfl; have hcz7_1 : w6.cell? ⟨gb102, 1, none⟩ = some (.int .u32 a0_1) := (blk_cell BK102.out 1).trans rfl; have hcz7_2 : w6.cell? ⟨gb102, 2, none⟩ = some (.slice A0_2 l0_2.length c0_2) := (blk_cell BK102.out 2).trans rfl; have hfz7_0 := blk_frozen BK102.out 0; have hfz7_1 := blk_frozen BK102.out 1; have hfz7_2 := blk_frozen BK102.out 2))
      go_ret
      exact ⟨by first | rfl | (simp [errW_none, errW_some] <;> rfl) | (simp [*, errW_none, errW_some] <;> rfl), by repeat (first | (with_reducible first | exact HB.out | apply below_alloc | apply pw_below_drewN | apply below_drew1 | refine below_set ?_ GE102.out) | exact HB.out)⟩
  · rw [if_neg c2] at H
    have c2b0 : decide (1 ≤ a0_0) = false := decide_eq_false c2
    clear c2
    obtain rfl := Option.some.inj H
    go_enter Tryd.func58, Tryd.ntmps58
    go_wp2_with (first | ((with_reducible refine gate_dst (N := 1) rfl ?_); (try (refine gate_guard (by rfl) ?_; dsimp only)); refine box_event ?hg (N := 1) ?hd (cs := #[.int .i64 a0_0, .int .u32 a0_1, .slice A0_2 l0_2.length c0_2]) (t := 37) ?hr ?_; (case hd => rfl); (case hg => rfl); (case hr => first | (go_simp; done) | (go_simp; rfl)); intro gb102 hg w8 hbox hb; have n0_ := Aside0.mk (below_step (by repeat (first | (with_reducible first | exact HB.out | apply below_alloc | apply pw_below_drewN | apply below_drew1) | exact HB.out)) hb); have n1_ := Aside0.mk (hbox); have n2_ := Aside0.mk ((by rw [hg]; exact (below_size (by repeat (first | (with_reducible first | exact HB.out | apply below_alloc | apply pw_below_drewN | apply below_drew1) | exact HB.out))) : w.heap.size ≤ gb102)); have n3_ := Aside0.mk ((by rw [hg]; exact (below_size (by repeat (first | (with_reducible first | exact HB.out | apply below_alloc | apply pw_below_drewN | apply below_drew1) | exact HB.out))) : w.heap.size ≤ gb102)); clear HB; have HB := n0_; have BK102 := n1_; have GW102 := n2_; have GE102 := n3_; clear n0_ n1_ n2_ n3_; clear hb hbox hg; have hcz9_0 : w8.cell? ⟨gb102, 0, none⟩ = some (.int .i64 a0_0) := (blk_cell BK102.out 0).trans rfl; have hcz9_1 : w8.cell? ⟨gb102, 1, none⟩ = some (.int .u32 a0_1) := (blk_cell BK102.out 1).trans rfl; have hcz9_2 : w8.cell? ⟨gb102, 2, none⟩ = some (.slice A0_2 l0_2.length c0_2) := (blk_cell BK102.out 2).trans rfl; have hfz9_0 := blk_frozen BK102.out 0; have hfz9_1 := blk_frozen BK102.out 1; have hfz9_2 := blk_frozen BK102.out 2))
    go_ret
    exact ⟨by first | rfl | (simp [errW_none, errW_some] <;> rfl) | (simp [*, errW_none, errW_some] <;> rfl), by repeat (first | (with_reducible first | exact HB.out | apply below_alloc | apply pw_below_drewN | apply below_drew1 | refine below_set ?_ GE102.out) | exact HB.out)⟩

-- NOT PRINTED: function 26 (frag_Decode)

/-! ### frag_Same: function 33 -/
def frag_Same.f (a0_0 : Int) (a0_1 : Int) (l0_2 : List Int) (a1_0 : Int) (a1_1 : Int) (l1_2 : List Int) : Option (Bool) := if a0_0 = a1_0 then (if a0_1 = a1_1 then (some ((strOfNums l0_2).toList == (strOfNums l1_2).toList)) else (some false)) else (some false)
set_option maxHeartbeats 8000000 in
set_option maxRecDepth 100000 in
theorem frag_Same.calls (a0_0 : Int) (a0_1 : Int) (A0_2 : Option Addr) (c0_2 : Nat) (l0_2 : List Int) (a1_0 : Int) (a1_1 : Int) (A1_2 : Option Addr) (c1_2 : Nat) (l1_2 : List Int) (r : Bool) (w : World) (hr0_2 : Kd.C (Kd.int .u8) w A0_2 l0_2.length l0_2) (hc0_2 : l0_2.length ≤ c0_2) (hr1_2 : Kd.C (Kd.int .u8) w A1_2 l1_2.length l1_2) (hc1_2 : l1_2.length ≤ c1_2) (h : frag_Same.f a0_0 a0_1 l0_2 a1_0 a1_1 l1_2 = some r) :
    Calls Tryd.prog 33 #[.agg #[.int .i64 a0_0, .int .u32 a0_1, .slice A0_2 l0_2.length c0_2], .agg #[.int .i64 a1_0, .int .u32 a1_1, .slice A1_2 l1_2.length c1_2]] w fun e w' => e = .returned (.bool r) ∧ Below w.heap.size w w' := by
  have hu99 := Tryd.underlying99
  have hu120 := Tryd.underlying120
  have hu37 := Tryd.underlying37
  have HR0_2 := Aside0.mk hr0_2
  have HC0_2 := Aside0.mk hc0_2
  clear hr0_2 hc0_2
  have HR1_2 := Aside0.mk hr1_2
  have HC1_2 := Aside0.mk hc1_2
  clear hr1_2 hc1_2
  have HB := Aside0.mk (Below.refl w.heap.size w)
  have H : (if a0_0 = a1_0 then (if a0_1 = a1_1 then (some ((strOfNums l0_2).toList == (strOfNums l1_2).toList)) else (some false)) else (some false)) = some r := h
  clear h
  by_cases c3 : a0_0 = a1_0
  · rw [if_pos c3] at H
    have c3b0 : (a0_0 == a1_0) = true := beq_iff_eq.mpr c3
    have c3b1 : (a0_0 != a1_0) = false := bne_eq_false_iff_eq.mpr c3
    clear c3
    by_cases c4 : a0_1 = a1_1
    · rw [if_pos c4] at H
      have c4b0 : (a0_1 == a1_1) = true := beq_iff_eq.mpr c4
      have c4b1 : (a0_1 != a1_1) = false := bne_eq_false_iff_eq.mpr c4
      clear c4
      obtain rfl := Option.some.inj H
      go_enter Tryd.func33, Tryd.ntmps33
      go_wp2_with (first | ((with_reducible refine gate_dst (N := 2) rfl ?_); refine box_event ?hg (N := 2) ?hd (cs := #[.int .i64 a0_0, .int .u32 a0_1, .slice A0_2 l0_2.length c0_2]) (t := 37) ?hr ?_; (case hd => rfl); (case hg => rfl); (case hr => first | (go_simp; done) | (go_simp; rfl)); intro gb147 hg w5 hbox hb; have n0_ := Aside0.mk (below_step (by repeat (first | (with_reducible first | exact HB.out | apply below_alloc | apply pw_below_drewN | apply below_drew1) | exact HB.out)) hb); have n1_ := Aside0.mk (hbox); have n2_ := Aside0.mk ((by rw [hg]; exact (below_size (by repeat (first | (with_reducible first | exact HB.out | apply below_alloc | apply pw_below_drewN | apply below_drew1) | exact HB.out))) : w.heap.size ≤ gb147)); have n3_ := Aside0.mk ((by rw [hg]; exact (below_size (by repeat (first | (with_reducible first | exact HB.out | apply below_alloc | apply pw_below_drewN | apply below_drew1) | exact HB.out))) : w.heap.size ≤ gb147)); clear HB; have HB := n0_; have BK147 := n1_; have GW147 := n2_; have GE147 := n3_; clear n0_ n1_ n2_ n3_; clear hb hbox hg) | ((with_reducible refine gate_dst (N := 3) rfl ?_); refine box_event ?hg (N := 3) ?hd (cs := #[.int .i64 a1_0, .int .u32 a1_1, .slice A1_2 l1_2.length c1_2]) (t := 37) ?hr ?_; (case hd => rfl); (case hg => rfl); (case hr => first | (go_simp; done) | (go_simp; rfl)); intro gb148 hg w6 hbox hb; have n0_ := Aside0.mk (blk_below (g := gb147) (o := .cells #[.int .i64 a0_0, .int .u32 a0_1, .slice A0_2 l0_2.length c0_2] 37 (0, 0)) (by (with_reducible repeat (first | refine blk_drewN ?_ _ | refine blk_drew ?_ | refine blk_alloc ?_ _)); exact BK147.out) hb); have n1_ := Aside0.mk (below_step (by repeat (first | (with_reducible first | exact HB.out | apply below_alloc | apply pw_below_drewN | apply below_drew1 | refine below_set ?_ GE147.out) | exact HB.out)) hb); have n2_ := Aside0.mk (hbox); have n3_ := Aside0.mk ((by rw [hg]; exact (below_size (by repeat (first | (with_reducible first | exact HB.out | apply below_alloc | apply pw_below_drewN | apply below_drew1 | refine below_set ?_ GE147.out) | exact HB.out))) : w.heap.size ≤ gb148)); have n4_ := Aside0.mk ((by rw [hg]; exact (below_size (by repeat (first | (with_reducible first | exact HB.out | apply below_alloc | apply pw_below_drewN | apply below_drew1 | refine below_set ?_ GE147.out) | exact HB.out))) : w.heap.size ≤ gb148)); have n5_ := Aside0.mk ((by rw [hg]; exact Nat.ne_of_lt (blk_lt (g := gb147) (o := .cells #[.int .i64 a0_0, .int .u32 a0_1, .slice A0_2 l0_2.length c0_2] 37 (0, 0)) (by (with_reducible repeat (first | refine blk_drewN ?_ _ | refine blk_drew ?_ | refine blk_alloc ?_ _)); exact BK147.out)) : gb147 ≠ gb148)); have n6_ := Aside0.mk ((by rw [hg]; exact Nat.ne_of_gt (blk_lt (g := gb147) (o := .cells #[.int .i64 a0_0, .int .u32 a0_1, .slice A0_2 l0_2.length c0_2] 37 (0, 0)) (by (with_reducible repeat (first | refine blk_drewN ?_ _ | refine blk_drew ?_ | refine blk_alloc ?_ _)); exact BK147.out)) : gb148 ≠ gb147)); clear BK147; clear HB; have BK147 := n0_; have HB := n1_; have BK148 := n2_; have GW148 := n3_; have GE148 := n4_; have NB147_148 := n5_; have NB148_147 := n6_; clear n0_ n1_ n2_ n3_ n4_ n5_ n6_; clear hb hbox hg; have hnb7 := NB147_148.out; have hnc7 := NB148_147.out; have hcz8_0 : w6.cell? ⟨gb147, 0, none⟩ = some (.int .i64 a0_0) := (blk_cell BK147.out 0).trans rfl; have hcz8_1 : w6.cell? ⟨gb147, 1, none⟩ = some (.int .u32 a0_1) := (blk_cell BK147.out 1).trans rfl; have hcz8_2 : w6.cell? ⟨gb147, 2, none⟩ = some (.slice A0_2 l0_2.length c0_2) := (blk_cell BK147.out 2).trans rfl; have hfz8_0 := blk_frozen BK147.out 0; have hfz8_1 := blk_frozen BK147.out 1; have hfz8_2 := blk_frozen BK147.out 2; have hcz9_0 : w6.cell? ⟨gb148, 0, none⟩ = some (.int .i64 a1_0) := (blk_cell BK148.out 0).trans rfl; have hcz9_1 : w6.cell? ⟨gb148, 1, none⟩ = some (.int .u32 a1_1) := (blk_cell BK148.out 1).trans rfl; have hcz9_2 : w6.cell? ⟨gb148, 2, none⟩ = some (.slice A1_2 l1_2.length c1_2) := (blk_cell BK148.out 2).trans rfl; have hfz9_0 := blk_frozen BK148.out 0; have hfz9_1 := blk_frozen BK148.out 1; have hfz9_2 := blk_frozen BK148.out 2; have hcv10 := Kd.C_string (P := Tryd.prog) (A := A0_2) (c := c0_2) Tryd.underlying23 Tryd.underlying5 Tryd.underlying9 (Kd.C_below HR0_2.out HB.out); have hcv11 := Kd.C_string (P := Tryd.prog) (A := A1_2) (c := c1_2) Tryd.underlying23 Tryd.underlying5 Tryd.underlying9 (Kd.C_below HR1_2.out HB.out)))
      go_ret
      exact ⟨by first | rfl | (simp [errW_none, errW_some] <;> rfl) | (simp [*, errW_none, errW_some] <;> rfl), by repeat (first | (with_reducible first | exact HB.out | apply below_alloc | apply pw_below_drewN | apply below_drew1 | refine below_set ?_ GE147.out | refine below_set ?_ GE148.out) | exact HB.out)⟩
    · rw [if_neg c4] at H
      have c4b0 : (a0_1 == a1_1) = false := beq_eq_false_iff_ne.mpr c4
      have c4b1 : (a0_1 != a1_1) = true := bne_iff_ne.mpr c4
      obtain rfl := Option.some.inj H
      go_enter Tryd.func33, Tryd.ntmps33
      go_wp2_with (first | ((with_reducible refine gate_dst (N := 2) rfl ?_); refine box_event ?hg (N := 2) ?hd (cs := #[.int .i64 a0_0, .int .u32 a0_1, .slice A0_2 l0_2.length c0_2]) (t := 37) ?hr ?_; (case hd => rfl); (case hg => rfl); (case hr => first | (go_simp; done) | (go_simp; rfl)); intro gb147 hg w12 hbox hb; have n0_ := Aside0.mk (below_step (by repeat (first | (with_reducible first | exact HB.out | apply below_alloc | apply pw_below_drewN | apply below_drew1) | exact HB.out)) hb); have n1_ := Aside0.mk (hbox); have n2_ := Aside0.mk ((by rw [hg]; exact (below_size (by repeat (first | (with_reducible first | exact HB.out | apply below_alloc | apply pw_below_drewN | apply below_drew1) | exact HB.out))) : w.heap.size ≤ gb147)); have n3_ := Aside0.mk ((by rw [hg]; exact (below_size (by repeat (first | (with_reducible first | exact HB.out | apply below_alloc | apply pw_below_drewN | apply below_drew1) | exact HB.out))) : w.heap.size ≤ gb147)); clear HB; have HB := n0_; have BK147 := n1_; have GW147 := n2_; have GE147 := n3_; clear n0_ n1_ n2_ n3_; clear hb hbox hg) | ((with_reducible refine gate_dst (N := 3) rfl ?_); refine box_event ?hg (N := 3) ?hd (cs := #[.int .i64 a1_0, .int .u32 a1_1, .slice A1_2 l1_2.length c1_2]) (t := 37) ?hr ?_; (case hd => rfl); (case hg => rfl); (case hr => first | (go_simp; done) | (go_simp; rfl)); intro gb148 hg w13 hbox hb; have n0_ := Aside0.mk (blk_below (g := gb147) (o := .cells #[.int .i64 a0_0, .int .u32 a0_1, .slice A0_2 l0_2.length c0_2] 37 (0, 0)) (by (with_reducible repeat (first | refine blk_drewN ?_ _ | refine blk_drew ?_ | refine blk_alloc ?_ _)); exact BK147.out) hb); have n1_ := Aside0.mk (below_step (by repeat (first | (with_reducible first | exact HB.out | apply below_alloc | apply pw_below_drewN | apply below_drew1 | refine below_set ?_ GE147.out) | exact HB.out)) hb); have n2_ := Aside0.mk (hbox); have n3_ := Aside0.mk ((by rw [hg]; exact (below_size (by repeat (first | (with_reducible first | exact HB.out | apply below_alloc | apply pw_below_drewN | apply below_drew1 | refine below_set ?_ GE147.out) | exact HB.out))) : w.heap.size ≤ gb148)); have n4_ := Aside0.mk ((by rw [hg]; exact (below_size (by repeat (first | (with_reducible first | exact HB.out | apply below_alloc | apply pw_below_drewN | apply below_drew1 | refine below_set ?_ GE147.out) | exact HB.out))) : w.heap.size ≤ gb148)); have n5_ := Aside0.mk ((by rw [hg]; exact Nat.ne_of_lt (blk_lt (g := gb147) (o := .cells #[.int .i64 a0_0, .int .u32 a0_1, .slice A0_2 l0_2.length c0_2] 37 (0, 0)) (by (with_reducible repeat (first | refine blk_drewN ?_ _ | refine blk_drew ?_ | refine blk_alloc ?_ _)); exact BK147.out)) : gb147 ≠ gb148)); have n6_ := Aside0.mk ((by rw [hg]; exact Nat.ne_of_gt (blk_lt (g := gb147) (o := .cells #[.int .i64 a0_0, .int .u32 a0_1, .slice A0_2 l0_2.length c0_2] 37 (0, 0)) (by (with_reducible repeat (first | refine blk_drewN ?_ _ | refine blk_drew ?_ | refine blk_alloc ?_ _)); exact BK147.out)) : gb148 ≠ gb147)); clear BK147; clear HB; have BK147 := n0_; have HB := n1_; have BK148 := n2_; have GW148 := n3_; have GE148 := n4_; have NB147_148 := n5_; have NB148_147 := n6_; clear n0_ n1_ n2_ n3_ n4_ n5_ n6_; clear hb hbox hg; have hnb14 := NB147_148.out; have hnc14 := NB148_147.out; have hcz15_0 : w13.cell? ⟨gb147, 0, none⟩ = some (.int .i64 a0_0) := (blk_cell BK147.out 0).trans rfl; have hcz15_1 : w13.cell? ⟨gb147, 1, none⟩ = some (.int .u32 a0_1) := (blk_cell BK147.out 1).trans rfl; have hcz15_2 : w13.cell? ⟨gb147, 2, none⟩ = some (.slice A0_2 l0_2.length c0_2) := (blk_cell BK147.out 2).trans rfl; have hfz15_0 := blk_frozen BK147.out 0; have hfz15_1 := blk_frozen BK147.out 1; have hfz15_2 := blk_frozen BK147.out 2; have hcz16_0 : w13.cell? ⟨gb148, 0, none⟩ = some (.int .i64 a1_0) := (blk_cell BK148.out 0).trans rfl; have hcz16_1 : w13.cell? ⟨gb148, 1, none⟩ = some (.int .u32 a1_1) := (blk_cell BK148.out 1).trans rfl; have hcz16_2 : w13.cell? ⟨gb148, 2, none⟩ = some (.slice A1_2 l1_2.length c1_2) := (blk_cell BK148.out 2).trans rfl; have hfz16_0 := blk_frozen BK148.out 0; have hfz16_1 := blk_frozen BK148.out 1; have hfz16_2 := blk_frozen BK148.out 2))
      go_ret
      exact ⟨by first | rfl | (simp [errW_none, errW_some] <;> rfl) | (simp [*, errW_none, errW_some] <;> rfl), by repeat (first | (with_reducible first | exact HB.out | apply below_alloc | apply pw_below_drewN | apply below_drew1 | refine below_set ?_ GE147.out | refine below_set ?_ GE148.out) | exact HB.out)⟩
  · rw [if_neg c3] at H
    have c3b0 : (a0_0 == a1_0) = false := beq_eq_false_iff_ne.mpr c3
    have c3b1 : (a0_0 != a1_0) = true := bne_iff_ne.mpr c3
    obtain rfl := Option.some.inj H
    go_enter Tryd.func33, Tryd.ntmps33
    go_wp2_with (first | ((with_reducible refine gate_dst (N := 2) rfl ?_); refine box_event ?hg (N := 2) ?hd (cs := #[.int .i64 a0_0, .int .u32 a0_1, .slice A0_2 l0_2.length c0_2]) (t := 37) ?hr ?_; (case hd => rfl); (case hg => rfl); (case hr => first | (go_simp; done) | (go_simp; rfl)); intro gb147 hg w17 hbox hb; have n0_ := Aside0.mk (below_step (by repeat (first | (with_reducible first | exact HB.out | apply below_alloc | apply pw_below_drewN | apply below_drew1) | exact HB.out)) hb); have n1_ := Aside0.mk (hbox); have n2_ := Aside0.mk ((by rw [hg]; exact (below_size (by repeat (first | (with_reducible first | exact HB.out | apply below_alloc | apply pw_below_drewN | apply below_drew1) | exact HB.out))) : w.heap.size ≤ gb147)); have n3_ := Aside0.mk ((by rw [hg]; exact (below_size (by repeat (first | (with_reducible first | exact HB.out | apply below_alloc | apply pw_below_drewN | apply below_drew1) | exact HB.out))) : w.heap.size ≤ gb147)); clear HB; have HB := n0_; have BK147 := n1_; have GW147 := n2_; have GE147 := n3_; clear n0_ n1_ n2_ n3_; clear hb hbox hg) | ((with_reducible refine gate_dst (N := 3) rfl ?_); refine box_event ?hg (N := 3) ?hd (cs := #[.int .i64 a1_0, .int .u32 a1_1, .slice A1_2 l1_2.length c1_2]) (t := 37) ?hr ?_; (case hd => rfl); (case hg => rfl); (case hr => first | (go_simp; done) | (go_simp; rfl)); intro gb148 hg w18 hbox hb; have n0_ := Aside0.mk (blk_below (g := gb147) (o := .cells #[.int .i64 a0_0, .int .u32 a0_1, .slice A0_2 l0_2.length c0_2] 37 (0, 0)) (by (with_reducible repeat (first | refine blk_drewN ?_ _ | refine blk_drew ?_ | refine blk_alloc ?_ _)); exact BK147.out) hb); have n1_ := Aside0.mk (below_step (by repeat (first | (with_reducible first | exact HB.out | apply below_alloc | apply pw_below_drewN | apply below_drew1 | refine below_set ?_ GE147.out) | exact HB.out)) hb); have n2_ := Aside0.mk (hbox); have n3_ := Aside0.mk ((by rw [hg]; exact (below_size (by repeat (first | (with_reducible first | exact HB.out | apply below_alloc | apply pw_below_drewN | apply below_drew1 | refine below_set ?_ GE147.out) | exact HB.out))) : w.heap.size ≤ gb148)); have n4_ := Aside0.mk ((by rw [hg]; exact (below_size (by repeat (first | (with_reducible first | exact HB.out | apply below_alloc | apply pw_below_drewN | apply below_drew1 | refine below_set ?_ GE147.out) | exact HB.out))) : w.heap.size ≤ gb148)); have n5_ := Aside0.mk ((by rw [hg]; exact Nat.ne_of_lt (blk_lt (g := gb147) (o := .cells #[.int .i64 a0_0, .int .u32 a0_1, .slice A0_2 l0_2.length c0_2] 37 (0, 0)) (by (with_reducible repeat (first | refine blk_drewN ?_ _ | refine blk_drew ?_ | refine blk_alloc ?_ _)); exact BK147.out)) : gb147 ≠ gb148)); have n6_ := Aside0.mk ((by rw [hg]; exact Nat.ne_of_gt (blk_lt (g := gb147) (o := .cells #[.int .i64 a0_0, .int .u32 a0_1, .slice A0_2 l0_2.length c0_2] 37 (0, 0)) (by (with_reducible repeat (first | refine blk_drewN ?_ _ | refine blk_drew ?_ | refine blk_alloc ?_ _)); exact BK147.out)) : gb148 ≠ gb147)); clear BK147; clear HB; have BK147 := n0_; have HB := n1_; have BK148 := n2_; have GW148 := n3_; have GE148 := n4_; have NB147_148 := n5_; have NB148_147 := n6_; clear n0_ n1_ n2_ n3_ n4_ n5_ n6_; clear hb hbox hg; have hnb19 := NB147_148.out; have hnc19 := NB148_147.out; have hcz20_0 : w18.cell? ⟨gb147, 0, none⟩ = some (.int .i64 a0_0) := (blk_cell BK147.out 0).trans rfl; have hcz20_1 : w18.cell? ⟨gb147, 1, none⟩ = some (.int .u32 a0_1) := (blk_cell BK147.out 1).trans rfl; have hcz20_2 : w18.cell? ⟨gb147, 2, none⟩ = some (.slice A0_2 l0_2.length c0_2) := (blk_cell BK147.out 2).trans rfl; have hfz20_0 := blk_frozen BK147.out 0; have hfz20_1 := blk_frozen BK147.out 1; have hfz20_2 := blk_frozen BK147.out 2; have hcz21_0 : w18.cell? ⟨gb148, 0, none⟩ = some (.int .i64 a1_0) := (blk_cell BK148.out 0).trans rfl; have hcz21_1 : w18.cell? ⟨gb148, 1, none⟩ = some (.int .u32 a1_1) := (blk_cell BK148.out 1).trans rfl; have hcz21_2 : w18.cell? ⟨gb148, 2, none⟩ = some (.slice A1_2 l1_2.length c1_2) := (blk_cell BK148.out 2).trans rfl; have hfz21_0 := blk_frozen BK148.out 0; have hfz21_1 := blk_frozen BK148.out 1; have hfz21_2 := blk_frozen BK148.out 2))
    go_ret
    exact ⟨by first | rfl | (simp [errW_none, errW_some] <;> rfl) | (simp [*, errW_none, errW_some] <;> rfl), by repeat (first | (with_reducible first | exact HB.out | apply below_alloc | apply pw_below_drewN | apply below_drew1 | refine below_set ?_ GE147.out | refine below_set ?_ GE148.out) | exact HB.out)⟩

-- NOT PRINTED: function 8 (strandlinelaw13_FragEncodes)


end Go.Proofs.YthhbilkmdfdfiaaDoor.F
end

section
/- frag.Encode, by what is owned. -/
set_option linter.unusedVariables false
set_option linter.unusedSimpArgs false
namespace Go.Proofs.YthhbilkmdfdfiaaDoor.O
open Go.RowKit Go.Proofs.YthhbilkmdfdfiaaDoorW.PrintWords Go.Proofs.YthhbilkmdfdfiaaDoorW.PrintLast Go.Proofs.YthhbilkmdfdfiaaDoorW.PrintMore Go.Proofs.YthhbilkmdfdfiaaDoor.F Go.Proofs.YthhbilkmdfdfiaaDoor.F.Nums Go.Proofs.YthhbilkmdfdfiaaDoor.Plain
theorem right_eq (kind ep : Int) (data : List Int) : frag_right.f kind ep data = some (rightF kind data.length) := by
  unfold frag_right.f rightF
  by_cases h1 : kind ≥ 1
  · by_cases h2 : kind ≤ 4
    · rw [if_pos h1, if_pos h2, decide_eq_true (show 1 ≤ kind from h1), decide_eq_true h2]
      simp only [Bool.true_and, Option.some.injEq]
      rw [decide_eq_decide]
      omega
    · rw [if_pos h1, if_neg h2, decide_eq_false h2]; simp
  · rw [if_neg h1, decide_eq_false (show ¬ 1 ≤ kind from h1)]; simp
theorem right_parts {kind : Int} {n : Nat} (h : rightF kind n = true) : 1 ≤ kind ∧ kind ≤ 4 ∧ n ≤ 197 := by
  unfold rightF at h
  simp at h
  omega
/-- the head, its sum not yet laid -/
def headL (n : Nat) (kind ep : Int) : List Int := zs 4 ++ (putl n 2 ++ (kind :: putl ep.toNat 4))
theorem headL_len (n : Nat) (kind ep : Int) : (headL n kind ep).length = 11 := by simp [headL, putl_len, zs]
theorem head_of (n : Nat) (kind ep : Int) : splice ((splice (zs 11) 4 (putl n 2)).set 6 kind) 7 (putl ep.toNat 4) = headL n kind ep := by
  obtain ⟨a, b, hp⟩ : ∃ a b, putl n 2 = [a, b] := by
    match h : putl n 2, putl_len n 2 with
    | [a, b], _ => exact ⟨a, b, rfl⟩
  obtain ⟨c, d, e, f, hq⟩ : ∃ c d e f, putl ep.toNat 4 = [c, d, e, f] := by
    match h : putl ep.toNat 4, putl_len ep.toNat 4 with
    | [c, d, e, f], _ => exact ⟨c, d, e, f, rfl⟩
  unfold headL
  rw [hp, hq]
  rfl
theorem head_body (kind ep : Int) (data : List Int) : (headL data.length kind ep ++ data).drop 4 = bodyL kind ep data := by
  unfold headL bodyL
  rw [List.append_assoc, List.drop_append_of_le_length (by simp [zs]), List.drop_of_length_le (by simp [zs]), List.nil_append]
  simp
theorem head_enc (kind ep : Int) (data : List Int) : splice (headL data.length kind ep ++ data) 0 (putl (sumN (bodyL kind ep data)) 4) = encL kind ep data := by
  unfold splice encL
  rw [List.take_zero, List.nil_append, putl_len, Nat.zero_add, head_body]
set_option maxRecDepth 100000 in
set_option maxHeartbeats 4000000 in
theorem encode_no (kind ep : Int) (data : List Int) (A : Option Addr) (c : Nat) (w : World) (hC : (Kd.int .u8).C w A data.length data) (hc : data.length ≤ c) (hr : rightF kind data.length = false) :
    Calls Tryd.prog 29 #[.agg #[.int .i64 kind, .int .u32 ep, .slice A data.length c]] w fun e W => e = .returned (.tuple #[.slice none 0 0, .int .i64 13]) ∧ Below w.heap.size w W := by
  have H := Own.start w
  have FR := fun W (hb : Below w.heap.size w W) => frag_right.calls kind ep A c data _ W (Kd.C_below hC hb) hc (right_eq kind ep data)
  rw [hr] at FR
  generalize data.length = n at *
  go_enter Tryd.func29, Tryd.ntmps29
  go_wp2_with (first
    | ((with_reducible refine gate_dst (N := 1) rfl ?_); refine l_boxA rfl H 37 _ rfl _ rfl ?_; clear H; intro g1 W H)
    | ((with_reducible refine gate_dst (N := 6) rfl ?_); refine l_loadA rfl H 37 _ rfl _ rfl (by (repeat (first | exact In.head | apply In.tail))) _ _ Tryd.underlying37 rfl size37 (by (first | rfl | assumption | omega | (simp only [nums_length]; omega) | (simp [nums_length, zs]; done) | (simp [nums_length, zs]; omega))) ?_)
    | (go_at_call 58; (with_reducible refine (FR _ H.below).mono ?_); rintro e W ⟨rfl, hb⟩; replace H := H.to hb; clear hb))
  go_ret2
  exact ⟨rfl, H.below⟩
set_option maxRecDepth 100000 in
set_option maxHeartbeats 4000000 in
theorem encode_ok (kind ep : Int) (data : List Int) (A : Option Addr) (c : Nat) (w : World) (hC : (Kd.int .u8).C w A data.length data) (hc : data.length ≤ c) (hd : Bytes data) (he : 0 ≤ ep ∧ ep ≤ 4294967295) (hH : Half w) (hr : rightF kind data.length = true) :
    Calls Tryd.prog 29 #[.agg #[.int .i64 kind, .int .u32 ep, .slice A data.length c]] w fun e W => ∃ A' c', e = .returned (.tuple #[.slice A' (11 + data.length) c', .int .i64 0]) ∧ 11 + data.length ≤ c' ∧ (Kd.int .u8).C W A' (11 + data.length) (encL kind ep data) ∧ Below w.heap.size w W := by
  have H := Own.start w
  have FR := fun W (hb : Below w.heap.size w W) => frag_right.calls kind ep A c data _ W (Kd.C_below hC hb) hc (right_eq kind ep data)
  rw [hr] at FR
  obtain ⟨k1, k2, k3⟩ := right_parts hr
  obtain ⟨e, rfl⟩ := Int.eq_ofNat_of_zero_le he.1
  have P1 := fun {W : World} {L : List Res} (H : Own w F0 L W) => put_own H data.length (by omega) 2 2 rfl (by decide)
  have P2 := fun {W : World} {L : List Res} (H : Own w F0 L W) => put_own H e (by omega) 4 4 rfl (by decide)
  have hu1 : IntKind.u64.wrap (data.length : Int) = (data.length : Int) := wu64 (by omega) (by omega)
  have hu2 : IntKind.u64.wrap (e : Int) = (e : Int) := wu64 (by omega) (by omega)
  have hu3 : IntKind.u8.wrap kind = kind := by rw [IntKind.wrap_u8]; omega
  have hho := head_of data.length kind (e : Int)
  rw [Int.toNat_natCast] at hho
  generalize hN : data.length = n at *
  go_enter Tryd.func29, Tryd.ntmps29
  go_wp2_with (first
    | ((with_reducible refine gate_dst (N := 1) rfl ?_); refine l_boxA rfl H 37 _ rfl _ rfl ?_; clear H; intro g1 W H)
    | ((with_reducible refine gate_dst (N := 6) rfl ?_); refine l_loadA rfl H 37 _ rfl _ rfl (by (repeat (first | exact In.head | apply In.tail))) _ _ Tryd.underlying37 rfl size37 (by (first | rfl | assumption | omega | (simp only [nums_length]; omega) | (simp [nums_length, zs]; done) | (simp [nums_length, zs]; omega))) ?_)
    | ((with_reducible refine gate_dst (N := 4) rfl ?_); refine l_allocA rfl H 84 rfl _ zero84 ?_; clear H; intro g4 W H)
    | (go_at_call 58; (with_reducible refine (FR _ H.below).mono ?_); rintro e W ⟨rfl, hb⟩; replace H := H.to hb; clear hb))
  refine start_ (n := 7) (S := Own _ _ _) (ds := [6]) #[false, false, false, false, false, false, false] (by kernel_rfl) rfl rfl H.drew (fun hHeld => ?_)
  replace H := H.drew
  generalize World.drew _ = W at H hHeld ⊢
  refine pure_ (i := 0) (N := some 9) (v := ?_) (a' := ?_) #[true, false, false, false, false, false, false] rfl rfl (by kernel_rfl) (fun _ _ _ h => h) (Or.inl ⟨by rfl, ?_⟩) ?_ ?_
  rotate_left
  · intro w'
    go_simp
    with_reducible rfl
  rotate_left
  · simp only [Act.put, List.setIfInBounds_toArray, List.set_cons_zero, List.set_cons_succ, i64_w, i32_w]
    rfl
  refine pure_ (i := 1) (N := some 10) (v := ?_) (a' := ?_) #[true, true, false, false, false, false, false] rfl rfl (by kernel_rfl) (fun _ _ _ h => h) (Or.inl ⟨by rfl, ?_⟩) ?_ ?_
  rotate_left
  · intro w'
    go_simp
    with_reducible rfl
  rotate_left
  · simp only [Act.put, List.setIfInBounds_toArray, List.set_cons_zero, List.set_cons_succ, i64_w, i32_w]
    rfl
  refine one_ (i := 2) (N := some 11) #[true, true, true, false, false, false, false] rfl rfl (by kernel_rfl) (by decide) (fun K hK => ?_)
  refine wanted_ rfl ?_
  refine w_load1 H 23 _ rfl _ _ rfl (by (repeat (first | exact In.head | apply In.tail))) _ Tryd.underlying23 rfl _ (by first | rfl | assumption | exact nums_at _ (by omega)) ?_
  refine hK.out _ _ ?_ (fun hHeld => ?_)
  · first | trivial | exact H | exact H.del .head | exact (H.del .head).del .head
  clear hK K
  refine norm_ (a' := ?_) ?_ ?_
  rotate_left
  · show Act.put _ (some 11) _ = _
    simp only [Act.put, List.setIfInBounds_toArray, List.set_cons_zero, List.set_cons_succ, i64_w, i32_w]
    rfl
  refine pure_ (i := 3) (N := some 12) (v := ?_) (a' := ?_) #[true, true, true, true, false, false, false] rfl rfl (by kernel_rfl) (fun _ _ _ h => h) (Or.inl ⟨by rfl, ?_⟩) ?_ ?_
  rotate_left
  · intro w'
    go_simp
    with_reducible rfl
  rotate_left
  · simp only [Act.put, List.setIfInBounds_toArray, List.set_cons_zero, List.set_cons_succ, i64_w, i32_w]
    rfl
  refine pure_ (i := 4) (N := some 13) (v := ?_) (a' := ?_) #[true, true, true, true, true, false, false] rfl rfl (by kernel_rfl) (fun _ _ _ h => h) (Or.inl ⟨by rfl, ?_⟩) ?_ ?_
  rotate_left
  · intro w'
    go_simp
    with_reducible rfl
  rotate_left
  · simp only [Act.put, List.setIfInBounds_toArray, List.set_cons_zero, List.set_cons_succ, i64_w, i32_w]
    rfl
  refine one_ (i := 5) (N := some 14) #[true, true, true, true, true, true, false] rfl rfl (by kernel_rfl) (by decide) (fun K hK => ?_)
  refine callK_ (P1 H) Tryd.func60 (by kernel_rfl) rfl (by rfl) rfl rfl (by (try simp only [List.map_toArray, List.map_cons, List.map_nil]); first | done | rfl) ?_
  rintro e W ⟨A14, c14, rfl, h14, C14, H'⟩
  refine ⟨_, rfl, ?_⟩
  replace H := H'
  clear H'
  refine hK.out _ _ ?_ (fun hHeld => ?_)
  · first | trivial | exact H | exact H.del .head | exact (H.del .head).del .head
  clear hK K
  refine norm_ (a' := ?_) ?_ ?_
  rotate_left
  · show Act.put _ (some 14) _ = _
    simp only [Act.put, List.setIfInBounds_toArray, List.set_cons_zero, List.set_cons_succ, i64_w, i32_w]
    rfl
  refine last_ (i := 6) (N := some 15) #[true, true, true, true, true, true, true] rfl rfl (by kernel_rfl) (by decide) (fun K hK => ?_)
  refine wanted_ rfl ?_
  refine w_copyC H _ _ _ _ rfl 5 Tryd.underlying23 size5 _ _ _ _ rfl (by (repeat (first | exact In.head | apply In.tail))) _ _ _ rfl ((putl n 2)) ?_ (by (first | rfl | assumption | omega | (simp only [nums_length]; omega) | (simp [nums_length, zs]; done) | (simp [nums_length, zs]; omega))) ?_
  · exact C14
  clear H; intro W H
  refine hK.out _ _ ?_
  clear hK K
  refine norm_ (a' := ?_) ?_ ?_
  rotate_left
  · show Act.put _ (some 15) _ = _
    simp only [Act.put, List.setIfInBounds_toArray, List.set_cons_zero, List.set_cons_succ, i64_w, i32_w]
    rfl
  refine done_ (by kernel_rfl) ?_
  clear hHeld
  rw [show (putl n 2).take (min 2 2) = putl n 2 from List.take_of_length_le (by rw [putl_len]; decide)] at H
  have hsl : (splice (zs 11) 4 (putl n 2)).length = 11 := by
    unfold splice zs
    simp [putl_len]
  generalize splice (zs 11) 4 (putl n 2) = h1 at H hsl hho
  go_wp2_with (first
    | ((with_reducible refine gate_dst (N := 17) rfl ?_); refine l_load1 rfl H 3 _ rfl _ _ rfl (by (repeat (first | exact In.head | apply In.tail))) _ Tryd.underlying3 rfl _ (by first | rfl | assumption | exact nums_at _ (by omega)) ?_)
    | ((with_reducible refine gate_store (t := 5) (p := 19) rfl ?_); refine l_store1 rfl H 5 _ _ rfl _ _ rfl _ (by first | (go_simp; done) | (go_simp; with_reducible rfl)) (by (repeat (first | exact In.head | apply In.tail))) rfl rfl size5 (by (first | rfl | assumption | omega | (simp only [nums_length]; omega) | (simp [nums_length, zs]; done) | (simp [nums_length, zs]; omega))) ?_; clear H; intro W H))
  rw [nums_set] at H
  have hsl2 : (h1.set 6 kind).length = 11 := by rw [List.length_set, hsl]
  generalize h1.set 6 kind = h2 at H hsl2 hho
  refine start_ (n := 6) (S := Own _ _ _) (ds := [5]) #[false, false, false, false, false, false] (by kernel_rfl) rfl rfl H.drew (fun hHeld => ?_)
  replace H := H.drew
  generalize World.drew _ = W at H hHeld ⊢
  refine pure_ (i := 0) (N := some 20) (v := ?_) (a' := ?_) #[true, false, false, false, false, false] rfl rfl (by kernel_rfl) (fun _ _ _ h => h) (Or.inl ⟨by rfl, ?_⟩) ?_ ?_
  rotate_left
  · intro w'
    go_simp
    with_reducible rfl
  rotate_left
  · simp only [Act.put, List.setIfInBounds_toArray, List.set_cons_zero, List.set_cons_succ, i64_w, i32_w]
    rfl
  refine pure_ (i := 1) (N := some 21) (v := ?_) (a' := ?_) #[true, true, false, false, false, false] rfl rfl (by kernel_rfl) (fun _ _ _ h => h) (Or.inl ⟨by rfl, ?_⟩) ?_ ?_
  rotate_left
  · intro w'
    go_simp
    with_reducible rfl
  rotate_left
  · simp only [Act.put, List.setIfInBounds_toArray, List.set_cons_zero, List.set_cons_succ, i64_w, i32_w]
    rfl
  refine one_ (i := 2) (N := some 22) #[true, true, true, false, false, false] rfl rfl (by kernel_rfl) (by decide) (fun K hK => ?_)
  refine wanted_ rfl ?_
  refine w_load1 H 22 _ rfl _ _ rfl (by (repeat (first | exact In.head | apply In.tail))) _ Tryd.underlying22 rfl _ (by first | rfl | assumption | exact nums_at _ (by omega)) ?_
  refine hK.out _ _ ?_ (fun hHeld => ?_)
  · first | trivial | exact H | exact H.del .head | exact (H.del .head).del .head
  clear hK K
  refine norm_ (a' := ?_) ?_ ?_
  rotate_left
  · show Act.put _ (some 22) _ = _
    simp only [Act.put, List.setIfInBounds_toArray, List.set_cons_zero, List.set_cons_succ, i64_w, i32_w]
    rfl
  refine pure_ (i := 3) (N := some 23) (v := ?_) (a' := ?_) #[true, true, true, true, false, false] rfl rfl (by kernel_rfl) (fun _ _ _ h => h) (Or.inl ⟨by rfl, ?_⟩) ?_ ?_
  rotate_left
  · intro w'
    go_simp
    with_reducible rfl
  rotate_left
  · simp only [Act.put, List.setIfInBounds_toArray, List.set_cons_zero, List.set_cons_succ, i64_w, i32_w]
    rfl
  refine one_ (i := 4) (N := some 24) #[true, true, true, true, true, false] rfl rfl (by kernel_rfl) (by decide) (fun K hK => ?_)
  refine callK_ (P2 H) Tryd.func60 (by kernel_rfl) rfl (by rfl) rfl rfl (by (try simp only [List.map_toArray, List.map_cons, List.map_nil]); first | done | rfl) ?_
  rintro e W ⟨A24, c24, rfl, h24, C24, H'⟩
  refine ⟨_, rfl, ?_⟩
  replace H := H'
  clear H'
  refine hK.out _ _ ?_ (fun hHeld => ?_)
  · first | trivial | exact H | exact H.del .head | exact (H.del .head).del .head
  clear hK K
  refine norm_ (a' := ?_) ?_ ?_
  rotate_left
  · show Act.put _ (some 24) _ = _
    simp only [Act.put, List.setIfInBounds_toArray, List.set_cons_zero, List.set_cons_succ, i64_w, i32_w]
    rfl
  refine last_ (i := 5) (N := some 25) #[true, true, true, true, true, true] rfl rfl (by kernel_rfl) (by decide) (fun K hK => ?_)
  refine wanted_ rfl ?_
  refine w_copyC H _ _ _ _ rfl 5 Tryd.underlying23 size5 _ _ _ _ rfl (by (repeat (first | exact In.head | apply In.tail))) _ _ _ rfl ((putl e 4)) ?_ (by (first | rfl | assumption | omega | (simp only [nums_length]; omega) | (simp [nums_length, zs]; done) | (simp [nums_length, zs]; omega))) ?_
  · exact C24
  clear H; intro W H
  refine hK.out _ _ ?_
  clear hK K
  refine norm_ (a' := ?_) ?_ ?_
  rotate_left
  · show Act.put _ (some 25) _ = _
    simp only [Act.put, List.setIfInBounds_toArray, List.set_cons_zero, List.set_cons_succ, i64_w, i32_w]
    rfl
  refine done_ (by kernel_rfl) ?_
  clear hHeld
  rw [show (putl e 4).take (min 4 4) = putl e 4 from List.take_of_length_le (by rw [putl_len]; decide), hho] at H
  have hbb : Bytes (bodyL kind (e : Int) data) := bodyL_bytes (by omega) hd
  have hhb := head_body kind (e : Int) data
  have hhe := head_enc kind (e : Int) data
  have hel := encL_len kind (e : Int) data
  have hhl := headL_len n kind (e : Int)
  have hs4 : sumN (bodyL kind (e : Int) data) < 18446744073709551616 := by have := sumN_lt (bodyL kind (e : Int) data); omega
  have OF := fun {W : World} {L : List Res} (H : Own w F0 L W) A n c hC hc => of_own H hH A n c (bodyL kind (e : Int) data) hC hc hbb
  have MF := fun {W : World} {L : List Res} (H : Own w F0 L W) => mask_own H (bodyL kind (e : Int) data)
  have PF := fun {W : World} {L : List Res} (H : Own w F0 L W) => put_own H (sumN (bodyL kind (e : Int) data)) hs4 4 4 rfl (by decide)
  have hu4 : IntKind.u64.wrap (sumN (bodyL kind (e : Int) data) : Int) = (sumN (bodyL kind (e : Int) data) : Int) := wu64 (by omega) (by omega)
  rw [hN] at hhb hhe hel
  generalize bodyL kind (e : Int) data = BL at *
  generalize hEL : encL kind (e : Int) data = EL at *
  generalize headL n kind (e : Int) = HL at *
  have hmo := moreI_lo BL
  generalize moreI 0 BL = mo at OF MF hmo
  generalize sumN BL = sm at *
  clear hho P1 P2 FR hbb
  rcases Nat.eq_zero_or_pos n with h0 | h0
  · subst h0
    obtain rfl : data = [] := List.eq_nil_of_length_eq_zero hN
    rw [List.append_nil] at hhb hhe
    go_wp2
    refine start_ (n := 5) (S := Own _ _ _) (ds := []) #[false, false, false, false, false] (by kernel_rfl) rfl rfl H.drew (fun hHeld => ?_)
    replace H := H.drew
    generalize World.drew _ = W at H hHeld ⊢
    refine pure_ (i := 0) (N := some 26) (v := ?_) (a' := ?_) #[true, false, false, false, false] rfl rfl (by kernel_rfl) (fun _ _ _ h => h) (Or.inl ⟨by rfl, ?_⟩) ?_ ?_
    rotate_left
    · intro w'
      go_simp
      with_reducible rfl
    rotate_left
    · simp only [Act.put, List.setIfInBounds_toArray, List.set_cons_zero, List.set_cons_succ, i64_w, i32_w]
      rfl
    refine pure_ (i := 1) (N := some 27) (v := ?_) (a' := ?_) #[true, true, false, false, false] rfl rfl (by kernel_rfl) (fun _ _ _ h => h) (Or.inl ⟨by rfl, ?_⟩) ?_ ?_
    rotate_left
    · intro w'
      go_simp
      with_reducible rfl
    rotate_left
    · simp only [Act.put, List.setIfInBounds_toArray, List.set_cons_zero, List.set_cons_succ, i64_w, i32_w]
      rfl
    refine one_ (i := 2) (N := some 28) #[true, true, true, false, false] rfl rfl (by kernel_rfl) (by decide) (fun K hK => ?_)
    refine wanted_ rfl ?_
    refine w_load1 H 23 _ rfl _ _ rfl (by (repeat (first | exact In.head | apply In.tail))) _ Tryd.underlying23 rfl _ (by first | rfl | assumption | exact nums_at _ (by omega)) ?_
    refine hK.out _ _ ?_ (fun hHeld => ?_)
    · first | trivial | exact H | exact H.del .head | exact (H.del .head).del .head
    clear hK K
    refine norm_ (a' := ?_) ?_ ?_
    rotate_left
    · show Act.put _ (some 28) _ = _
      simp only [Act.put, List.setIfInBounds_toArray, List.set_cons_zero, List.set_cons_succ, i64_w, i32_w]
      rfl
    refine one_ (i := 3) (N := some 29) #[true, true, true, true, false] rfl rfl (by kernel_rfl) (by decide) (fun K hK => ?_)
    refine wanted_ rfl ?_
    refine w_append0 _ _ 23 5 rfl Tryd.underlying23 (by kernel_rfl) ⟨g4, 0, none⟩ 11 11 (Nat.le_refl _) rfl A c rfl ?_
    refine hK.out _ _ ?_ (fun hHeld => ?_)
    · first | trivial | exact H | exact H.del .head | exact (H.del .head).del .head
    clear hK K
    refine norm_ (a' := ?_) ?_ ?_
    rotate_left
    · show Act.put _ (some 29) _ = _
      simp only [Act.put, List.setIfInBounds_toArray, List.set_cons_zero, List.set_cons_succ, i64_w, i32_w]
      rfl
    refine pure_ (i := 4) (N := some 5) (v := ?_) (a' := ?_) #[true, true, true, true, true] rfl rfl (by kernel_rfl) (fun _ _ _ h => h) (Or.inl ⟨by rfl, ?_⟩) ?_ ?_
    rotate_left
    · intro w'
      go_simp
      with_reducible rfl
    rotate_left
    · simp only [Act.put, List.setIfInBounds_toArray, List.set_cons_zero, List.set_cons_succ, i64_w, i32_w]
      rfl
    refine done_ (by kernel_rfl) ?_
    clear hHeld
    go_wp2
    have C4 : ∀ {W : World}, Own w F0 [.blk g4 84 (nums .u8 HL), .blk g1 37 [.int .i64 kind, .int .u32 (e : Int), .slice A 0 c]] W → (Kd.int .u8).C W (some ⟨g4, 4, none⟩) 7 BL := fun H => by
      have := H.C .head 4 7 (by omega) (by decide)
      rw [hhb, List.take_of_length_le (by rw [← hhb, List.length_drop]; omega)] at this
      exact this
    refine start_ (n := 9) (S := Own _ _ _) (ds := [8]) #[false, false, false, false, false, false, false, false, false] (by kernel_rfl) rfl rfl H.drew (fun hHeld => ?_)
    replace H := H.drew
    generalize World.drew _ = W at H hHeld ⊢
    refine pure_ (i := 0) (N := some 30) (v := ?_) (a' := ?_) #[true, false, false, false, false, false, false, false, false] rfl rfl (by kernel_rfl) (fun _ _ _ h => h) (Or.inl ⟨by rfl, ?_⟩) ?_ ?_
    rotate_left
    · intro w'
      go_simp
      with_reducible rfl
    rotate_left
    · simp only [Act.put, List.setIfInBounds_toArray, List.set_cons_zero, List.set_cons_succ, i64_w, i32_w]
      rfl
    refine pure_ (i := 1) (N := some 31) (v := ?_) (a' := ?_) #[true, true, false, false, false, false, false, false, false] rfl rfl (by kernel_rfl) (fun _ _ _ h => h) (Or.inl ⟨by rfl, ?_⟩) ?_ ?_
    rotate_left
    · intro w'
      go_simp
      with_reducible rfl
    rotate_left
    · simp only [Act.put, List.setIfInBounds_toArray, List.set_cons_zero, List.set_cons_succ, i64_w, i32_w]
      rfl
    refine pure_ (i := 2) (N := some 32) (v := ?_) (a' := ?_) #[true, true, true, false, false, false, false, false, false] rfl rfl (by kernel_rfl) (fun _ _ _ h => h) (Or.inl ⟨by rfl, ?_⟩) ?_ ?_
    rotate_left
    · intro w'
      go_simp
      with_reducible rfl
    rotate_left
    · simp only [Act.put, List.setIfInBounds_toArray, List.set_cons_zero, List.set_cons_succ, i64_w, i32_w]
      rfl
    refine pure_ (i := 3) (N := some 33) (v := ?_) (a' := ?_) #[true, true, true, true, false, false, false, false, false] rfl rfl (by kernel_rfl) (fun _ _ _ h => h) (Or.inl ⟨by rfl, ?_⟩) ?_ ?_
    rotate_left
    · intro w'
      go_simp
      with_reducible rfl
    rotate_left
    · simp only [Act.put, List.setIfInBounds_toArray, List.set_cons_zero, List.set_cons_succ, i64_w, i32_w]
      rfl
    refine one_ (i := 4) (N := some 34) #[true, true, true, true, true, false, false, false, false] rfl rfl (by kernel_rfl) (by decide) (fun K hK => ?_)
    refine callK_ (OF H (some ⟨g4, 4, none⟩) 7 7 (C4 H) (by decide)) Tryd.func16 (by kernel_rfl) rfl (by rfl) rfl rfl (by (try simp only [List.map_toArray, List.map_cons, List.map_nil]); first | done | rfl) ?_
    rintro e W ⟨rfl, H'⟩
    refine ⟨_, rfl, ?_⟩
    replace H := H'
    clear H'
    refine hK.out _ _ ?_ (fun hHeld => ?_)
    · first | trivial | exact H | exact H.del .head | exact (H.del .head).del .head
    clear hK K
    refine norm_ (a' := ?_) ?_ ?_
    rotate_left
    · show Act.put _ (some 34) _ = _
      simp only [Act.put, List.setIfInBounds_toArray, List.set_cons_zero, List.set_cons_succ, i64_w, i32_w]
      rfl
    refine one_ (i := 5) (N := some 35) #[true, true, true, true, true, true, false, false, false] rfl rfl (by kernel_rfl) (by decide) (fun K hK => ?_)
    refine callK_ (MF H) Tryd.func20 (by kernel_rfl) rfl (by rfl) rfl rfl (by (try simp only [List.map_toArray, List.map_cons, List.map_nil]); first | done | rfl) ?_
    rintro e W ⟨rfl, H'⟩
    refine ⟨_, rfl, ?_⟩
    replace H := H'
    clear H'
    refine hK.out _ _ ?_ (fun hHeld => ?_)
    · first | trivial | exact H | exact H.del .head | exact (H.del .head).del .head
    clear hK K
    refine norm_ (a' := ?_) ?_ ?_
    rotate_left
    · show Act.put _ (some 35) _ = _
      simp only [Act.put, List.setIfInBounds_toArray, List.set_cons_zero, List.set_cons_succ, i64_w, i32_w]
      rfl
    refine pure_ (i := 6) (N := some 36) (v := ?_) (a' := ?_) #[true, true, true, true, true, true, true, false, false] rfl rfl (by kernel_rfl) (fun _ _ _ h => h) (Or.inl ⟨by rfl, ?_⟩) ?_ ?_
    rotate_left
    · intro w'
      go_simp
      with_reducible rfl
    rotate_left
    · simp only [Act.put, List.setIfInBounds_toArray, List.set_cons_zero, List.set_cons_succ, i64_w, i32_w]
      rfl
    refine one_ (i := 7) (N := some 37) #[true, true, true, true, true, true, true, true, false] rfl rfl (by kernel_rfl) (by decide) (fun K hK => ?_)
    refine callK_ (PF H) Tryd.func60 (by kernel_rfl) rfl (by rfl) rfl rfl (by (try simp only [List.map_toArray, List.map_cons, List.map_nil]); first | done | rfl) ?_
    rintro e W ⟨A37, c37, rfl, h37, C37, H'⟩
    refine ⟨_, rfl, ?_⟩
    replace H := H'
    clear H'
    refine hK.out _ _ ?_ (fun hHeld => ?_)
    · first | trivial | exact H | exact H.del .head | exact (H.del .head).del .head
    clear hK K
    refine norm_ (a' := ?_) ?_ ?_
    rotate_left
    · show Act.put _ (some 37) _ = _
      simp only [Act.put, List.setIfInBounds_toArray, List.set_cons_zero, List.set_cons_succ, i64_w, i32_w]
      rfl
    refine last_ (i := 8) (N := some 38) #[true, true, true, true, true, true, true, true, true] rfl rfl (by kernel_rfl) (by decide) (fun K hK => ?_)
    refine wanted_ rfl ?_
    refine w_copyC H _ _ _ _ rfl 5 Tryd.underlying23 size5 _ _ _ _ rfl (by (repeat (first | exact In.head | apply In.tail))) _ _ _ rfl ((putl sm 4)) ?_ (by (first | rfl | assumption | omega | (simp only [nums_length]; omega) | (simp [nums_length, zs]; done) | (simp [nums_length, zs]; omega))) ?_
    · exact C37
    clear H; intro W H
    refine hK.out _ _ ?_
    clear hK K
    refine norm_ (a' := ?_) ?_ ?_
    rotate_left
    · show Act.put _ (some 38) _ = _
      simp only [Act.put, List.setIfInBounds_toArray, List.set_cons_zero, List.set_cons_succ, i64_w, i32_w]
      rfl
    refine done_ (by kernel_rfl) ?_
    clear hHeld
    rw [show (putl sm 4).take (min 4 4) = putl sm 4 from List.take_of_length_le (by rw [putl_len]; decide), hhe] at H
    go_wp2
    go_ret2
    refine ⟨_, _, rfl, by omega, ?_, H.below⟩
    have := H.C .head 0 11 (by omega) (by decide)
    rw [List.drop_zero, List.take_of_length_le (by omega)] at this
    rw [hEL]
    exact this
  · go_wp2
    refine start_ (n := 5) (S := Own _ _ _) (ds := []) #[false, false, false, false, false] (by kernel_rfl) rfl rfl H.drew (fun hHeld => ?_)
    replace H := H.drew
    generalize World.drew _ = W at H hHeld ⊢
    refine pure_ (i := 0) (N := some 26) (v := ?_) (a' := ?_) #[true, false, false, false, false] rfl rfl (by kernel_rfl) (fun _ _ _ h => h) (Or.inl ⟨by rfl, ?_⟩) ?_ ?_
    rotate_left
    · intro w'
      go_simp
      with_reducible rfl
    rotate_left
    · simp only [Act.put, List.setIfInBounds_toArray, List.set_cons_zero, List.set_cons_succ, i64_w, i32_w]
      rfl
    refine pure_ (i := 1) (N := some 27) (v := ?_) (a' := ?_) #[true, true, false, false, false] rfl rfl (by kernel_rfl) (fun _ _ _ h => h) (Or.inl ⟨by rfl, ?_⟩) ?_ ?_
    rotate_left
    · intro w'
      go_simp
      with_reducible rfl
    rotate_left
    · simp only [Act.put, List.setIfInBounds_toArray, List.set_cons_zero, List.set_cons_succ, i64_w, i32_w]
      rfl
    refine one_ (i := 2) (N := some 28) #[true, true, true, false, false] rfl rfl (by kernel_rfl) (by decide) (fun K hK => ?_)
    refine wanted_ rfl ?_
    refine w_load1 H 23 _ rfl _ _ rfl (by (repeat (first | exact In.head | apply In.tail))) _ Tryd.underlying23 rfl _ (by first | rfl | assumption | exact nums_at _ (by omega)) ?_
    refine hK.out _ _ ?_ (fun hHeld => ?_)
    · first | trivial | exact H | exact H.del .head | exact (H.del .head).del .head
    clear hK K
    refine norm_ (a' := ?_) ?_ ?_
    rotate_left
    · show Act.put _ (some 28) _ = _
      simp only [Act.put, List.setIfInBounds_toArray, List.set_cons_zero, List.set_cons_succ, i64_w, i32_w]
      rfl
    refine one_ (i := 3) (N := some 29) #[true, true, true, true, false] rfl rfl (by kernel_rfl) (by decide) (fun K hK => ?_)
    refine wanted_ rfl ?_
    refine w_appendFull H _ _ 23 5 rfl Tryd.underlying23 _ _ _ inf5 rfl (by decide) (by decide) ⟨g4, 0, none⟩ 11 (nums .u8 HL) rfl (by rw [nums_length, hhl]) (fun j u hj => by rw [addr_add, H.cell .head, Nat.zero_add]; exact hj) A n c (nums .u8 data) rfl h0 (by rw [nums_length, hN, Nat.mul_one]) (Rd.of_C (Kd.C_below hC H.below)) (by omega) ?_
    clear H
    intro v29 W H
    obtain ⟨A29, c29, rfl⟩ := H.row_slice .head
    rw [nums_app] at H
    refine hK.out _ _ ?_ (fun hHeld => ?_)
    · first | trivial | exact H | exact H.del .head | exact (H.del .head).del .head
    clear hK K
    refine norm_ (a' := ?_) ?_ ?_
    rotate_left
    · show Act.put _ (some 29) _ = _
      simp only [Act.put, List.setIfInBounds_toArray, List.set_cons_zero, List.set_cons_succ, i64_w, i32_w]
      rfl
    refine pure_ (i := 4) (N := some 5) (v := ?_) (a' := ?_) #[true, true, true, true, true] rfl rfl (by kernel_rfl) (fun _ _ _ h => h) (Or.inl ⟨by rfl, ?_⟩) ?_ ?_
    rotate_left
    · intro w'
      go_simp
      with_reducible rfl
    rotate_left
    · simp only [Act.put, List.setIfInBounds_toArray, List.set_cons_zero, List.set_cons_succ, i64_w, i32_w]
      rfl
    refine done_ (by kernel_rfl) ?_
    clear hHeld
    go_wp2
    have hnc := (H.rowC .head).1
    have C4 : ∀ {W : World}, Own w F0 [.row (.slice A29 (11 + n) c29) 5 1 (11 + n) (nums .u8 (HL ++ data)), .blk g4 84 (nums .u8 HL), .blk g1 37 [.int .i64 kind, .int .u32 (e : Int), .slice A n c]] W → (Kd.int .u8).C W (dropA A29 4 c29 1) (11 + n - 4) BL := fun H => by
      have := drop_C (H.rowC .head).2.2 4 c29 (by omega) hnc
      rw [hhb] at this
      exact this
    refine start_ (n := 9) (S := Own _ _ _) (ds := [8]) #[false, false, false, false, false, false, false, false, false] (by kernel_rfl) rfl rfl H.drew (fun hHeld => ?_)
    replace H := H.drew
    generalize World.drew _ = W at H hHeld ⊢
    refine pure_ (i := 0) (N := some 30) (v := ?_) (a' := ?_) #[true, false, false, false, false, false, false, false, false] rfl rfl (by kernel_rfl) (fun _ _ _ h => h) (Or.inl ⟨by rfl, ?_⟩) ?_ ?_
    rotate_left
    · intro w'
      go_simp
      with_reducible rfl
    rotate_left
    · simp only [Act.put, List.setIfInBounds_toArray, List.set_cons_zero, List.set_cons_succ, i64_w, i32_w]
      rfl
    refine take_run (i := 1) (N := some 31) (a' := ?_) #[true, true, false, false, false, false, false, false, false] rfl rfl (by kernel_rfl) (fun _ _ _ _ h => h) (by rfl) hHeld (.slice A29 4 c29) (fun X HX => x_slice_to _ _ rfl rfl Tryd.underlying23 size5 4 rfl (by omega) X) ?_ ?_
    rotate_left
    · simp only [Act.put, List.setIfInBounds_toArray, List.set_cons_zero, List.set_cons_succ, i64_w, i32_w]
      rfl
    refine pure_ (i := 2) (N := some 32) (v := ?_) (a' := ?_) #[true, true, true, false, false, false, false, false, false] rfl rfl (by kernel_rfl) (fun _ _ _ h => h) (Or.inl ⟨by rfl, ?_⟩) ?_ ?_
    rotate_left
    · intro w'
      go_simp
      with_reducible rfl
    rotate_left
    · simp only [Act.put, List.setIfInBounds_toArray, List.set_cons_zero, List.set_cons_succ, i64_w, i32_w]
      rfl
    refine take_run (i := 3) (N := some 33) (a' := ?_) #[true, true, true, true, false, false, false, false, false] rfl rfl (by kernel_rfl) (fun _ _ _ _ h => h) (by rfl) hHeld (.slice (dropA A29 4 c29 1) (11 + n - 4) (c29 - 4)) (fun X HX => x_slice_lo _ _ rfl rfl Tryd.underlying23 size5 4 rfl (by omega) X) ?_ ?_
    rotate_left
    · simp only [Act.put, List.setIfInBounds_toArray, List.set_cons_zero, List.set_cons_succ, i64_w, i32_w]
      rfl
    refine one_ (i := 4) (N := some 34) #[true, true, true, true, true, false, false, false, false] rfl rfl (by kernel_rfl) (by decide) (fun K hK => ?_)
    refine callK_ (OF H (dropA A29 4 c29 1) (11 + n - 4) (c29 - 4) (C4 H) (by omega)) Tryd.func16 (by kernel_rfl) rfl (by rfl) rfl rfl (by (try simp only [List.map_toArray, List.map_cons, List.map_nil]); first | done | rfl) ?_
    rintro e W ⟨rfl, H'⟩
    refine ⟨_, rfl, ?_⟩
    replace H := H'
    clear H'
    refine hK.out _ _ ?_ (fun hHeld => ?_)
    · first | trivial | exact H | exact H.del .head | exact (H.del .head).del .head
    clear hK K
    refine norm_ (a' := ?_) ?_ ?_
    rotate_left
    · show Act.put _ (some 34) _ = _
      simp only [Act.put, List.setIfInBounds_toArray, List.set_cons_zero, List.set_cons_succ, i64_w, i32_w]
      rfl
    refine one_ (i := 5) (N := some 35) #[true, true, true, true, true, true, false, false, false] rfl rfl (by kernel_rfl) (by decide) (fun K hK => ?_)
    refine callK_ (MF H) Tryd.func20 (by kernel_rfl) rfl (by rfl) rfl rfl (by (try simp only [List.map_toArray, List.map_cons, List.map_nil]); first | done | rfl) ?_
    rintro e W ⟨rfl, H'⟩
    refine ⟨_, rfl, ?_⟩
    replace H := H'
    clear H'
    refine hK.out _ _ ?_ (fun hHeld => ?_)
    · first | trivial | exact H | exact H.del .head | exact (H.del .head).del .head
    clear hK K
    refine norm_ (a' := ?_) ?_ ?_
    rotate_left
    · show Act.put _ (some 35) _ = _
      simp only [Act.put, List.setIfInBounds_toArray, List.set_cons_zero, List.set_cons_succ, i64_w, i32_w]
      rfl
    refine pure_ (i := 6) (N := some 36) (v := ?_) (a' := ?_) #[true, true, true, true, true, true, true, false, false] rfl rfl (by kernel_rfl) (fun _ _ _ h => h) (Or.inl ⟨by rfl, ?_⟩) ?_ ?_
    rotate_left
    · intro w'
      go_simp
      with_reducible rfl
    rotate_left
    · simp only [Act.put, List.setIfInBounds_toArray, List.set_cons_zero, List.set_cons_succ, i64_w, i32_w]
      rfl
    refine one_ (i := 7) (N := some 37) #[true, true, true, true, true, true, true, true, false] rfl rfl (by kernel_rfl) (by decide) (fun K hK => ?_)
    refine callK_ (PF H) Tryd.func60 (by kernel_rfl) rfl (by rfl) rfl rfl (by (try simp only [List.map_toArray, List.map_cons, List.map_nil]); first | done | rfl) ?_
    rintro e W ⟨A37, c37, rfl, h37, C37, H'⟩
    refine ⟨_, rfl, ?_⟩
    replace H := H'
    clear H'
    refine hK.out _ _ ?_ (fun hHeld => ?_)
    · first | trivial | exact H | exact H.del .head | exact (H.del .head).del .head
    clear hK K
    refine norm_ (a' := ?_) ?_ ?_
    rotate_left
    · show Act.put _ (some 37) _ = _
      simp only [Act.put, List.setIfInBounds_toArray, List.set_cons_zero, List.set_cons_succ, i64_w, i32_w]
      rfl
    refine last_ (i := 8) (N := some 38) #[true, true, true, true, true, true, true, true, true] rfl rfl (by kernel_rfl) (by decide) (fun K hK => ?_)
    refine wanted_ rfl ?_
    refine w_copyRow H _ _ _ _ rfl 5 Tryd.underlying23 size5 A29 4 c29 (11 + n) c29 5 rfl .head (by omega) A37 4 c37 rfl (putl sm 4) C37 (by omega) ?_
    clear H
    intro W H
    refine hK.out _ _ ?_
    clear hK K
    refine norm_ (a' := ?_) ?_ ?_
    rotate_left
    · show Act.put _ (some 38) _ = _
      simp only [Act.put, List.setIfInBounds_toArray, List.set_cons_zero, List.set_cons_succ, i64_w, i32_w]
      rfl
    refine done_ (by kernel_rfl) ?_
    clear hHeld
    rw [show (putl sm 4).take (min 4 4) = putl sm 4 from List.take_of_length_le (by rw [putl_len]; decide), hhe] at H
    go_wp2
    go_ret2
    refine ⟨A29, c29, rfl, hnc, ?_, H.below⟩
    rw [hEL]
    exact (H.rowC .head).2.2
end Go.Proofs.YthhbilkmdfdfiaaDoor.O
end

section
/- image.Add, by what is owned. -/
set_option linter.unusedVariables false
set_option linter.unusedSimpArgs false
namespace Go.Proofs.YthhbilkmdfdfiaaDoor.O
open Go.RowKit Go.Proofs.YthhbilkmdfdfiaaDoorW.PrintWords Go.Proofs.YthhbilkmdfdfiaaDoorW.PrintLast Go.Proofs.YthhbilkmdfdfiaaDoorW.PrintMore Go.Proofs.YthhbilkmdfdfiaaDoor.F Go.Proofs.YthhbilkmdfdfiaaDoor.F.Nums Go.Proofs.YthhbilkmdfdfiaaDoor.Plain Go.Proofs.YthhbilkmdfdfiaaDoor.Img
theorem r_loadC {P : Program} {o : Oper} {a : Act} {W : World} {p : Addr} {v : Value} (ty : TypeId) (x : Operand) (ho : o.op = .load ty x) (hx : a.eval x = .pointer (some p)) (hc : W.cell? p = some v) (d : TypeDesc) (hu : P.underlying ty = some d) (hd : d.isRow = false) :
    (execOp a.eval o).run P W = .ok (.value v) W := by
  have hag : (isAgg ty).run P W = .ok false W := by
    unfold isAgg
    rw [Sem.run_bind, run_underlying hu W]
    cases d <;> simp_all
  unfold execOp
  simp [ho, hx, Instr.loadAt, Instr.sureAddr, loadVar, hag, hc]
theorem l_runV {P : Program} {ops : Array Oper} {rest : List Oper} {o : Oper} {a : Act} {Q : Exit → Act → World → Prop} {W : World} (hgd : o.guard = none) {u : Value} (v : Value) (hr : (execOp a.eval o).run P W = .ok (.value u) W) (he : u = v) (h : wpList P ops Q rest (a.put o.dst v) W) : wpList P ops Q (o :: rest) a W := by
  subst he
  exact l_run hgd _ hr h
theorem Own.slack {w0 W : World} {F F' : Nat → Option Obj} {L : List Res} (H : Own w0 F' L W) (h : Fle F F') : Own w0 F L W :=
  ⟨H.below, fun g o hg => H.holds g o (h g o hg), H.ats, fun y hy k hk => by
    cases hF : F k with
    | none => rfl
    | some o => have := H.apart y hy k hk; rw [h k o hF] at this; exact this, H.sep⟩
/-- element k of a row of fragments -/
theorem fr_at {w : World} {A : Option Addr} {n : Nat} {l : List S37} (h : Kd.C k37 w A n l) (k : Nat) (hk : k < n) :
    ∃ ad A2 c2, A = some ad ∧ Rd w (some (ad.add (k * 3))) [.int .i64 (rd_T37 l k).f0, .int .u32 (rd_T37 l k).f1, .slice A2 (rd_T37 l k).f2.length c2] ∧ (rd_T37 l k).f2.length ≤ c2 ∧ (Kd.int .u8).C w A2 (rd_T37 l k).f2.length (rd_T37 l k).f2 := by
  obtain ⟨ad, c, e, _, hK, hc0⟩ := Kd.C_get h z37 (k : Int) (by omega) (by omega)
  have hc : ∀ j u, c[j]? = some u → w.cell? (ad.add (k * 3 + j)) = some u := hc0
  obtain ⟨A2, c2, rfl, l2, g2⟩ := k37_open hK
  exact ⟨ad, A2, c2, e, fun _ => ⟨_, rfl, fun j v hj => by rw [add_add']; exact hc j v hj⟩, l2, g2⟩
/-- what is read of a row of fragments that stands for good -/
theorem fr_stands {W W' : World} {F : Nat → Option Obj} {ok : Nat → Prop} {l : List S37} {ad : Addr} {n cap : Nat} (h : Kd.R k37 37 W' W.heap.size ok (.slice (some ad) n cap) l) (j : Nat) (hj : j < n) :
    ∃ A2 c2, Stands (fn F W W') (fun X => Rd X (some (ad.add (j * 3))) [.int .i64 (rd_T37 l j).f0, .int .u32 (rd_T37 l j).f1, .slice A2 (rd_T37 l j).f2.length c2]) ∧ (rd_T37 l j).f2.length ≤ c2 ∧
      Stands (fn F W W') (fun X => (Kd.int .u8).C X A2 (rd_T37 l j).f2.length (rd_T37 l j).f2) := by
  have hb := Kd.R_bound h
  obtain ⟨g, rfl⟩ := Kd.R_head hb
  obtain ⟨c, hcl, hM, hcc⟩ := Kd.R_get hb z37 (j : Int) (by omega) (by omega)
  obtain ⟨v2, rfl, g2⟩ := k37_openM hM
  obtain ⟨A2, c2, rfl, l2, C2⟩ := Kd.R_reads g2
  have hg := hb.1 g rfl
  have same : ∀ X : World, (∀ g o, fn F W W' g = some o → X.heap[g]? = some o) → ∀ k, W.heap.size ≤ k → k < W'.heap.size → X.heap[k]? = W'.heap[k]? := fun X hX k h1 h2 => by
    have := hX k (W'.heap[k]) (by unfold fn; rw [if_pos ⟨h1, h2⟩]; exact Array.getElem?_eq_getElem h2)
    rw [this, Array.getElem?_eq_getElem h2]
  refine ⟨A2, c2, fun X hX => ?_, l2, fun X hX => ?_⟩
  · intro hp
    refine ⟨_, rfl, fun i u hu => ?_⟩
    rw [add_add', addr_add]
    have h1 := hcc i u hu
    rw [Int.toNat_natCast, show k37.sz = 3 from rfl, addr_add] at h1
    rw [← h1]
    unfold World.cell?
    rw [same X hX g hg.2.1 hg.2.2.1]
  · obtain ⟨A3, c3, e3, l3, C3⟩ := Kd.R_reads (Kd.R_move g2 (w1 := X) (fun k hk => same X hX k hk.1.2.1 hk.1.2.2.1))
    injection e3 with e3 e4 e5
    subst e3
    exact C3
theorem fr_stands' {W W' : World} {F : Nat → Option Obj} {ok : Nat → Prop} {l : List S37} {A : Option Addr} {cap : Nat} (h : Kd.R k37 37 W' W.heap.size ok (.slice A l.length cap) l) (j : Nat) (hj : j < l.length) :
    ∃ ad A2 c2, A = some ad ∧ Stands (fn F W W') (fun X => Rd X (some (ad.add (j * 3))) [.int .i64 (rd_T37 l j).f0, .int .u32 (rd_T37 l j).f1, .slice A2 (rd_T37 l j).f2.length c2]) ∧ (rd_T37 l j).f2.length ≤ c2 ∧
      Stands (fn F W W') (fun X => (Kd.int .u8).C X A2 (rd_T37 l j).f2.length (rd_T37 l j).f2) := by
  obtain ⟨A9, c9, e9, l9, C9⟩ := Kd.R_reads h
  injection e9 with e1 e2 e3
  subst e1
  obtain ⟨ad, rfl, -⟩ := C9.2.2 (by omega)
  obtain ⟨A2, c2, h1, h2, h3⟩ := fr_stands (F := F) h j hj
  exact ⟨ad, A2, c2, rfl, h1, h2, h3⟩
theorem pc_at {w : World} {A : Option Addr} {n : Nat} {ps : List S99} (h : Kd.C k99 w A n ps) (j : Nat) (hj : j < n) :
    ∃ ad, A = some ad ∧ w.cell? (ad.add (j * 4)) = some (.int .i64 (rd_T99 ps j).f0) := by
  obtain ⟨ad', e, x0, x1, x2, x3⟩ := at_T99 h (j : Int) (by omega) (by omega)
  rw [Int.toNat_natCast] at x0
  exact ⟨ad', e, x0⟩
theorem drop_blk (g lo hi : Nat) (h : lo ≠ hi) : dropA (some ⟨g, 0, none⟩) lo hi 1 = some ⟨g, lo, none⟩ := by
  unfold dropA
  rw [if_neg (by omega)]
  simp [addr_add]
set_option maxRecDepth 100000 in
set_option maxHeartbeats 8000000 in
theorem add_no (e64 : Int) (body data : List Int) (A B : Option Addr) (cA cB : Nat) (at_ : Int) (w : World) (hok : (cutP at_ (data.length : Int)).2.2 = false) :
    Calls Tryd.prog 43 #[.int .u64 e64, .slice A body.length cA, .int .i64 at_, .slice B data.length cB] w fun e W => e = .returned (.tuple #[.slice none 0 0, .int .i64 0, .bool false]) ∧ Below w.heap.size w W := by
  have H := Own.start w
  have hcut : cut_Cut.f 7 at_ (data.length : Int) = some ((cutP at_ (data.length : Int)).1, (cutP at_ (data.length : Int)).2.1, (cutP at_ (data.length : Int)).2.2) := cut_eq 7 (by decide) at_ (data.length : Int)
  have FC := fun (W : World) => cut_Cut.calls 7 at_ (data.length : Int) (cutP at_ (data.length : Int)).1 (cutP at_ (data.length : Int)).2.1 (cutP at_ (data.length : Int)).2.2 W hcut
  rw [hok] at FC
  generalize (cutP at_ (data.length : Int)).2.1 = en at *
  generalize (cutP at_ (data.length : Int)).1 = ps at *
  generalize data.length = nd at *
  generalize body.length = nb at *
  clear hcut hok
  go_enter Tryd.func43, Tryd.ntmps43
  go_wp2_with (first
    | (go_at_call 65; (with_reducible refine (FC _).mono ?_); rintro e W ⟨v0, rfl, hR, hb⟩; obtain ⟨Ap, cp, rfl⟩ := Kd.R_slice hR; replace H := H.to hb; clear hb hR))
  go_ret3
  exact ⟨rfl, H.below⟩
set_option maxRecDepth 100000 in
set_option maxHeartbeats 8000000 in
theorem add_ok (e64 : Int) (body data : List Int) (A B : Option Addr) (cA cB : Nat) (at_ : Int) (w : World) (hok : (cutP at_ (data.length : Int)).2.2 = true)
    (hCb : (Kd.int .u8).C w A body.length body) (hcb : body.length ≤ cA) (hbb : Bytes body) (hCd : (Kd.int .u8).C w B data.length data) (hcd : data.length ≤ cB) (hbd : Bytes data) (hld : data.length < 140737488355328) (hH : Half w) :
    Calls Tryd.prog 43 #[.int .u64 e64, .slice A body.length cA, .int .i64 at_, .slice B data.length cB] w fun e W => ∃ g, e = .returned (.tuple #[.slice (some ⟨g, 0, none⟩) 832 832, .int .i64 (cutP at_ (data.length : Int)).2.1, .bool true]) ∧ Own w F0 [.blk g 5 (nums .u8 (addB e64 body at_ data))] W := by
  have H := Own.start w
  have hcut : cut_Cut.f 7 at_ (data.length : Int) = some ((cutP at_ (data.length : Int)).1, (cutP at_ (data.length : Int)).2.1, (cutP at_ (data.length : Int)).2.2) := cut_eq 7 (by decide) at_ (data.length : Int)
  have FC := fun (W : World) => cut_Cut.calls 7 at_ (data.length : Int) (cutP at_ (data.length : Int)).1 (cutP at_ (data.length : Int)).2.1 (cutP at_ (data.length : Int)).2.2 W hcut
  have hfr : cut_Frags.f 20 (e64 % 4294967296) at_ data = some ((cutP at_ (data.length : Int)).1.map (fragP (e64 % 4294967296) data), (cutP at_ (data.length : Int)).2.2) := frags_eq 20 (by decide) (e64 % 4294967296) at_ data hld
  have FF := fun (W : World) (hC : (Kd.int .u8).C W B data.length data) => cut_Frags.calls 20 (e64 % 4294967296) at_ B cB data ((cutP at_ (data.length : Int)).1.map (fragP (e64 % 4294967296) data)) (cutP at_ (data.length : Int)).2.2 W hC hcd hfr
  rw [hok] at FC FF
  have hbase := base_copy body
  have hadd : addB e64 body at_ data = layA (e64 % 4294967296) data (cutP at_ (data.length : Int)).1 (base body) := rfl
  have hps := cutP_pcs at_ data
  have hpl := cutP_len at_ (data.length : Int)
  have he0 : 0 ≤ e64 % 4294967296 ∧ e64 % 4294967296 ≤ 4294967295 := by omega
  have hbl := base_len body
  generalize addB e64 body at_ data = out at *
  generalize hen : (cutP at_ (data.length : Int)).2.1 = en at *
  generalize (cutP at_ (data.length : Int)).1 = ps at *
  generalize base body = bs at *
  have hzl : (zs 832).length = 832 := by simp [zs]
  have hul : IntKind.u32.wrap e64 = e64 % 4294967296 := by rw [IntKind.wrap_u32]
  generalize e64 % 4294967296 = ep at *
  generalize hnd : data.length = nd at *
  generalize hnb : body.length = nb at *
  clear hcut hfr hok
  go_enter Tryd.func43, Tryd.ntmps43
  go_wp2_with (first

    | ((with_reducible refine gate_dst (N := 31) rfl ?_); refine l_make1 rfl H 23 5 _ _ rfl 832 rfl rfl Tryd.underlying23 _ rfl _ inf5 (by decide) (by decide) ?_; clear H; intro g14 W H; rw [show List.replicate 832 (Value.int .u8 0) = nums .u8 (zs 832) by simp [nums, zs]] at H)
    | ((with_reducible refine gate_dst (N := 34) rfl ?_); refine l_copyC rfl H _ _ _ _ rfl 5 Tryd.underlying23 size5 g14 0 832 832 rfl .head A nb cA rfl body (Kd.C_below hCb H.below) (by rw [hzl]; omega) ?_; clear H; intro W H; rw [hbase] at H)
    | (go_at_call 65; (with_reducible refine (FC _).mono ?_); rintro e W ⟨v0, rfl, hR, hb⟩; obtain ⟨Ap, cp, rfl⟩ := Kd.R_slice hR; have HF := H.freezeNew hb; have hSt := Stands.R (F := F0) hR; clear hR hb H; obtain ⟨H, hF⟩ := HF; generalize fn F0 w W = F1 at H hF hSt)
    | (go_at_call 66; (with_reducible refine (FF _ (Kd.C_below hCd H.below)).mono ?_); rintro e W ⟨v1, rfl, hS, hb⟩; obtain ⟨Af, cf, rfl⟩ := Kd.R_slice (Kd.S_R hS); have HF2 := H.freezeNew hb; have hSt2 := fun j hj => fr_stands' (F := F1) (Kd.S_R hS) j hj; clear hS hb H; obtain ⟨H, hF2⟩ := HF2; generalize fn F1 _ W = F2 at H hF2 hSt2))
  have hSp := hSt.mono hF2
  clear hSt FC FF hCb hCd
  have hrf : ∀ j, j < ps.length → rd_T37 (ps.map (fragP ep data)) (j : Int) = fragP ep data (rd_T99 ps j) := fun j hj => by
    unfold rd_T37
    rw [List.getD_eq_getElem?_getD, Int.toNat_natCast, List.getElem?_map, List.getElem?_eq_getElem hj, rd_at ps j hj]
    rfl
  generalize hpn : ps.length = n at *
  go_loopg [45] n (fun gq v45 w' => ∃ j : Nat, v45 = .int .i64 (j : Int) ∧ j + gq = n ∧ Own w F2 [.blk g14 5 (nums .u8 (layA ep data (ps.take j) bs))] w')
  case atStart => exact ⟨0, rfl, by omega, H⟩
  case round =>
    clear H
    obtain ⟨j, rfl, hj, H⟩ := hrel
    by_cases cj : j < n
    · obtain ⟨gk', rfl⟩ : ∃ q, gk = q + 1 := ⟨gk - 1, by omega⟩
      have q0 : decide (j < n) = true := decide_eq_true cj
      have q1 : ((0 : Int) ≤ (j : Int)) = True := eq_true (by omega)
      have q2 : ((j : Int) < (n : Int)) = True := eq_true (by omega)
      obtain ⟨adf, A2, c2, rfl, hRd, l2, C2⟩ := hSt2 j (by rw [List.length_map]; omega)
      rw [hrf j cj] at hRd l2 C2
      have hpc := hps _ (List.getElem_mem (show j < ps.length by omega))
      rw [rd_at ps j (by omega)] at hpc
      have hstep := layA_take (ep := ep) (data := data) ps bs j (by omega)
      rw [rd_at ps j (by omega)] at hstep
      have hll := layA_len (ep := ep) (data := data) (ps.take j) bs (fun q hq => hps q (List.mem_of_mem_take hq)) hbl
      have hSq : ∀ (X : World) (L : List Res), Own w F2 L X → ∃ ad, Ap = some ad ∧ X.cell? (ad.add (j * 4)) = some (.int .i64 (rd_T99 ps j).f0) := fun X L HX => by
        obtain ⟨Aq, cq, eq, lq, Cq⟩ := Kd.R_reads (HX.use hSp)
        injection eq with eq1 eq2 eq3
        subst eq1
        rw [hpn] at Cq
        exact pc_at Cq j cj
      obtain ⟨adp, rfl, -⟩ := hSq _ _ H
      have hPC : ∀ (X : World) (L : List Res), Own w F2 L X → X.cell? (adp.add (j * 4)) = some (.int .i64 (rd_T99 ps j).f0) := fun X L HX => by
        obtain ⟨ad, e, h⟩ := hSq X L HX
        obtain rfl := Option.some.inj e
        exact h
      have hpl2 := pcE_len (ep := ep) hpc
      have hlay : layP ep data (layA ep data (ps.take j) bs) (rd_T99 ps j) = splice (layA ep data (ps.take j) bs) (rd_T99 ps j).f0.toNat (pcE ep data (rd_T99 ps j)) := rfl
      rw [hlay] at hstep
      generalize rd_T99 ps (j : Int) = p at *
      obtain ⟨pa, pk, pf, pt⟩ := p
      obtain ⟨h1, h2, h3, h4, h5, h6, h7, h8⟩ := hpc
      simp only at h1 h2 h3 h4 h5 h6 h7 h8 hPC hpl2
      obtain ⟨at0, rfl⟩ := Int.eq_ofNat_of_zero_le h1
      simp only [fragP] at hRd l2 C2
      have hdl : ((data.take pt.toNat).drop pf.toNat).length = (pt - pf).toNat := by rw [List.length_drop, List.length_take]; omega
      have hpcE : pcE ep data ⟨(at0 : Int), pk, pf, pt⟩ = encL pk ep ((data.take pt.toNat).drop pf.toNat) := rfl
      rw [hpcE] at hstep hpl2
      have hrr : rightF pk ((data.take pt.toNat).drop pf.toNat).length = true := by
        unfold rightF
        rw [hdl, decide_eq_true h3.1, decide_eq_true h3.2, decide_eq_true (show (pt - pf).toNat ≤ 197 by omega)]
        rfl
      have hbs := bytes_drop (bytes_take hbd pt.toNat) pf.toNat
      have EN := fun W hC h => encode_ok pk ep ((data.take pt.toNat).drop pf.toNat) A2 c2 W hC l2 hbs he0 h hrr
      have hel := encL_len pk ep ((data.take pt.toNat).drop pf.toNat)
      have hfit : at0 + min (11 + ((data.take pt.toNat).drop pf.toNat).length) (832 - at0) ≤ 832 := by omega
      have hmn : min (11 + ((data.take pt.toNat).drop pf.toNat).length) (832 - at0) = 11 + ((data.take pt.toNat).drop pf.toNat).length := by rw [hdl]; omega
      simp only [Int.toNat_natCast] at hstep
      have hat832 : at0 < 832 := by omega
      clear hlay hpcE hrr hbs hpl2 h1 h2 h3 h4 h5 h6 h7 h8 hSq
      generalize encL pk ep ((data.take pt.toNat).drop pf.toNat) = EL at *
      generalize hsl : (data.take pt.toNat).drop pf.toNat = sl at *
      generalize hsn : sl.length = sn at *
      generalize layA ep data (ps.take j) bs = cu at *
      have HST := Aside0.mk hstep
      have HDR := Aside0.mk (drop_blk g14 at0 832 (by omega))
      have HK := Aside0.mk hj
      clear hstep hj hdl hsl
      have hll' : at0 + min (11 + sn) (832 - at0) ≤ cu.length := by rw [hll]; exact hfit
      have hEl : EL.length = min (11 + sn) (832 - at0) := by rw [hmn, hel]
      clear hSt2 hrf hps hfit hmn
      go_wp2_with (first
    | ((with_reducible refine gate_dst (N := 18) rfl ?_); refine l_allocA rfl H 37 rfl _ zero37 ?_; clear H; intro g18 W H)
    | ((with_reducible refine gate_store (t := 37) (p := 18) rfl ?_); refine l_storeW rfl H 37 _ _ rfl _ rfl _ rfl (by (repeat (first | exact In.head | apply In.tail))) _ size37 (by (first | rfl | assumption | omega | (simp only [nums_length]; omega) | (simp [nums_length, zs]; done) | (simp [nums_length, zs]; omega))) (by (first | rfl | assumption | omega | (simp only [nums_length]; omega) | (simp [nums_length, zs]; done) | (simp [nums_length, zs]; omega))) (by (first | exact nums_one | assumption | (intro u hu; simp at hu; subst hu; rfl) | (intro u hu; simp at hu; rcases hu with rfl | rfl | rfl | rfl | rfl | rfl | rfl <;> rfl) | (intro u hu; simp at hu; rcases hu with rfl | rfl | rfl | rfl <;> rfl) | (intro u hu; simp at hu; rcases hu with rfl | rfl | rfl <;> rfl) | (intro u hu; simp at hu; rcases hu with rfl | rfl <;> rfl))) ?_; clear H; intro W H)
    | ((with_reducible refine gate_dst (N := 51) rfl ?_); refine l_loadA rfl H 37 _ rfl _ rfl (by (repeat (first | exact In.head | apply In.tail))) _ _ Tryd.underlying37 rfl size37 (by (first | rfl | assumption | omega | (simp only [nums_length]; omega) | (simp [nums_length, zs]; done) | (simp [nums_length, zs]; omega))) ?_)
      | ((with_reducible refine gate_dst (N := 49) rfl ?_); refine l_run rfl (.agg #[.int .i64 pk, .int .u32 ep, .slice A2 sn c2]) (r_loadRd0 37 _ rfl rfl (H.use hRd) 3 _ Tryd.underlying37 rfl size37 (by decide) rfl) ?_)
      | (go_at_call 29; (with_reducible refine (EN _ (H.use C2) (hH.below H.below)).mono ?_); rintro e W ⟨A5, c5, rfl, l5, C5, hb⟩; replace H := H.to hb; clear hb)
      | ((with_reducible refine gate_dst (N := 60) rfl ?_); refine l_run rfl (.int .i64 (at0 : Int)) (r_loadC 3 _ rfl rfl (hPC _ _ H) _ Tryd.underlying3 rfl) ?_)
      | ((with_reducible refine gate_dst (N := 61) rfl ?_); refine l_runV rfl (.slice (some ⟨g14, at0, none⟩) (832 - at0) (832 - at0)) (x_slice_lo _ _ rfl rfl Tryd.underlying23 size5 at0 rfl (Nat.le_of_lt hat832) _) (by rw [HDR.out]) ?_)
      | ((with_reducible refine gate_dst (N := 63) rfl ?_); refine l_copyC rfl H _ _ _ _ rfl 5 Tryd.underlying23 size5 g14 at0 (832 - at0) (832 - at0) rfl (.tail .head) A5 (11 + sn) c5 rfl EL (Kd.C_below C5 (Below.refl _ _)) hll' ?_; clear H; intro W H; rw [List.take_of_length_le (Nat.le_of_eq hEl), ← HST.out] at H))
      go_roundg gk'
      case measure => have := HK.out; omega
      case rel =>
        have hk := HK.out
        exact ⟨j + 1, congrArg (Value.int .i64) (by omega), by omega, H.del .head⟩
    · obtain rfl : j = n := by omega
      rw [← hpn, List.take_length] at H
      clear hj cj
      go_wp2
      go_ret3
      exact ⟨g14, rfl, by rw [hadd]; exact (H.slack hF2).slack hF⟩
end Go.Proofs.YthhbilkmdfdfiaaDoor.O
end
