/- Texts of mine put together: FkCutH, ImgM, Own2. -/
import Derived.Test.YthhbilkmdfdfiaaDoorPkImageMore1
import Derived.Test.YthhbilkmdfdfiaaDoorPkImageMore5
import Derived.Test.YthhbilkmdfdfiaaDoorPkImageMore4
import Derived.Test.YthhbilkmdfdfiaaDoorPkImageMore2
import Derived.Test.YthhbilkmdfdfiaaDoorPkImageMore3
import Derived.Great.BuildSlice
import Derived.Lib.LazyBuf
import Derived.ArgAppend
section
/- Functions of cutH: what each answers, as a Lean function, and that the call answers just this. Turned out of what the kit's print told for this seat. -/
namespace Go.Proofs.YthhbilkmdfdfiaaDoor.F
open Go.RowKit Go.Proofs.YthhbilkmdfdfiaaDoorW.PrintWords Go.Proofs.YthhbilkmdfdfiaaDoorW.PrintLast Go.Proofs.YthhbilkmdfdfiaaDoorW.PrintMore
attribute [local go_sem high] eqA120
attribute [local go_sem] field120_0
attribute [local go_sem] field120_1
attribute [local go_sem] max2_int min2_int max_two min_two max_three min_three max_four min_four
set_option linter.unusedVariables false
set_option linter.unusedSimpArgs false

/-! ### cut_Frags: function 66 -/
def cut_Frags.l0 : Nat → Int → List Int → List (S37) → List (S99) → Int → Int → Option ((List (S37)) × Bool)
  | 0, _, _, _, _, _, _ => none
  | k + 1, x0, x2, x11, x24, x25, x26 => if x26 < x25 then (if 0 ≤ x26 then (if x26 < (x24.length : Int) then ((some (([] : List Int) : List Int)).bind fun y124 => (if 0 ≤ ((rd_T99 x24 x26).f2) then (if ((rd_T99 x24 x26).f2) ≤ ((rd_T99 x24 x26).f3) then (if ((rd_T99 x24 x26).f3) ≤ (x2.length : Int) then (if y124.length + ((x2.take (((rd_T99 x24 x26).f3) : Int).toNat).drop (((rd_T99 x24 x26).f2) : Int).toNat).length < 140737488355328 then (if x11.length < 3518437208883 then (cut_Frags.l0 k x0 x2 (x11 ++ [(⟨(rd_T99 x24 x26).f1, x0, (y124 ++ ((x2.take (((rd_T99 x24 x26).f3) : Int).toNat).drop (((rd_T99 x24 x26).f2) : Int).toNat))⟩ : S37)]) x24 x25 (wrap64 (x26 + 1))) else (none)) else (none)) else (none)) else (none)) else (none))) else (none)) else (none)) else (some (x11, true))
def cut_Frags.f (k : Nat) (a0 : Int) (a1 : Int) (l2 : List Int) : Option ((List (S37)) × Bool) := (cut_Cut.f k a1 (l2.length : Int)).bind fun bt117 => (if bt117.2.2 = true then (cut_Frags.l0 k a0 l2 ([] : List (S37)) bt117.1 (bt117.1.length : Int) 0) else (some (([] : List (S37)), false)))
theorem cut_Frags.mono_l : ∀ k, (∀ y0 y1 y2 y3 y4 y5, LeO (cut_Frags.l0 k y0 y1 y2 y3 y4 y5) (cut_Frags.l0 (k + 1) y0 y1 y2 y3 y4 y5))
  | 0 => fun _ _ _ _ _ _ r h => by simp [cut_Frags.l0] at h
  | k + 1 => by
    have ih0 := cut_Frags.mono_l k
    · intro y0 y1 y2 y3 y4 y5
      unfold cut_Frags.l0
      repeat' first
      | (with_reducible exact ih0 _ _ _ _ _ _)
      | (with_reducible exact cut_Cut.mono _ _ _)
      | (with_reducible exact LeO.refl _)
      | (with_reducible exact LeO.none _)
      | (with_reducible refine LeO.ite ?_ ?_)
      | (with_reducible refine LeO.bind ?_ (fun _ => ?_))
      | exact ih0 _ _ _ _ _ _
      | exact cut_Cut.mono _ _ _
      | exact LeO.none _
      | refine LeO.ite ?_ ?_
      | refine LeO.bind ?_ (fun _ => ?_)
theorem cut_Frags.mono : ∀ a0 a1 a2 k, LeO (cut_Frags.f k a0 a1 a2) (cut_Frags.f (k + 1) a0 a1 a2) := by
  intro a0 a1 a2 k
  have ih0 := cut_Frags.mono_l k
  unfold cut_Frags.f
  repeat' first
      | (with_reducible exact ih0 _ _ _ _ _ _)
      | (with_reducible exact cut_Cut.mono _ _ _)
      | (with_reducible exact LeO.refl _)
      | (with_reducible exact LeO.none _)
      | (with_reducible refine LeO.ite ?_ ?_)
      | (with_reducible refine LeO.bind ?_ (fun _ => ?_))
      | exact ih0 _ _ _ _ _ _
      | exact cut_Cut.mono _ _ _
      | exact LeO.none _
      | refine LeO.ite ?_ ?_
      | refine LeO.bind ?_ (fun _ => ?_)
def cut_Frags.T8 : Bool × List (List Nat × List Nat) := (true, [([], []), ([], []), ([1], [1]), ([], []), ([], []), ([], []), ([], []), ([6], [6]), ([], []), ([8], [8]), ([5, 7, 9], [5, 7, 9]), ([4, 10], [4, 10]), ([2, 3, 11], [2, 3, 11]), ([12], [12]), ([0, 13, 11], [0, 13]), ([14, 14, 0, 1, 2, 3, 4, 5, 6, 7, 8, 9, 10, 11, 12, 13, 14], [0, 14])])
def cut_Frags.B8 : List Nat := [0, 0, 2, 0, 0, 0, 0, 64, 0, 256, 992, 2032, 4094, 8190, 16383, 32767]
theorem cut_Frags.tab8 : rtab .any (opsOf Tryd.f66 8) = cut_Frags.T8 := by kernel_rfl
theorem cut_Frags.bits8 : waitsOk cut_Frags.T8.2 cut_Frags.B8 = true := by kernel_rfl
set_option maxHeartbeats 8000000 in
set_option maxRecDepth 100000 in
theorem cut_Frags.calls (k : Nat) (a0 : Int) (a1 : Int) (A2 : Option Addr) (c2 : Nat) (l2 : List Int) (r1 : List (S37)) (r2 : Bool) (w : World) (hr2 : Kd.C (Kd.int .u8) w A2 l2.length l2) (hc2 : l2.length ≤ c2) (h : cut_Frags.f k a0 a1 l2 = some (r1, r2)) :
    Calls Tryd.prog 66 #[.int .u32 a0, .int .i64 a1, .slice A2 l2.length c2] w fun e w' => ∃ v0_ : Value, e = .returned (.tuple #[v0_, .bool r2]) ∧ Kd.S k37 37 w' w.heap.size (fun _ => True) v0_ r1 ∧ Below w.heap.size w w' := by
  have hu120 := Tryd.underlying120
  have hu99 := Tryd.underlying99
  have hu37 := Tryd.underlying37
  have HR2 := Aside0.mk hr2
  have HC2 := Aside0.mk hc2
  clear hr2 hc2
  have HB := Aside0.mk (Below.refl w.heap.size w)
  have H : ((cut_Cut.f k a1 (l2.length : Int)).bind fun bt117 => (if bt117.2.2 = true then (cut_Frags.l0 k a0 l2 ([] : List (S37)) bt117.1 (bt117.1.length : Int) 0) else (some (([] : List (S37)), false)))) = some (r1, r2) := h
  clear h
  replace H := Option.bind_eq_some_iff.mp H
  obtain ⟨⟨t117, t118, t119⟩, A40, H⟩ := H
  replace H : (if t119 = true then (cut_Frags.l0 k a0 l2 ([] : List (S37)) t117 (t117.length : Int) 0) else (some (([] : List (S37)), false))) = some (r1, r2) := H
  have A4 := Aside0.mk A40
  clear A40
  by_cases c5 : t119 = true
  · subst c5
    have H1 : (cut_Frags.l0 k a0 l2 ([] : List (S37)) t117 (t117.length : Int) 0) = some (r1, r2) := by rw [if_pos rfl] at H; exact H
    clear H
    have H := H1
    clear H1
    have H' := Aside0.mk H
    clear H
    go_enter Tryd.func66, Tryd.ntmps66
    go_wp2_with (first | ((with_reducible refine gate_callee (f := 65) rfl ?_); refine goesL_ (some 18) rfl rfl Tryd.func65 (by kernel_rfl) rfl #[.int .i64 a1, .int .i64 (l2.length : Int)] rfl (by (try simp only [List.map_toArray, List.map_cons, List.map_nil]); first | done | rfl | (simp only [List.length_drop, List.length_take]; rfl)) ?_; (with_reducible refine (cut_Cut.calls k a1 (l2.length : Int) t117 t118 true _ A4.out).mono ?_); rintro e w6 ⟨v120, rfl, ho0, hb⟩; refine ⟨_, rfl, ?_⟩; have n0_ := Aside0.mk (Kd.R_lower ho0 (below_size (by repeat (first | (with_reducible first | exact HB.out | apply below_alloc | apply pw_below_drewN | apply below_drew1) | exact HB.out)))); have n1_ := Aside0.mk (below_step (by repeat (first | (with_reducible first | exact HB.out | apply below_alloc | apply pw_below_drewN | apply below_drew1) | exact HB.out)) hb); clear HB; have HO121 := n0_; have HB := n1_; clear n0_ n1_; (try clear hb); (try clear hb2); (try clear hk); (try clear hi); (try clear ho0); obtain ⟨Ao7, co7, eo7⟩ := Kd.R_slice HO121.out; subst eo7))
    go_loopg [11, 26] k (fun kq v11 v26 w' => ∃ (x11_1 : List (S37)) (x26_1 : Int), v26 = .int .i64 x26_1 ∧ Aside0 (cut_Frags.l0 kq a0 l2 x11_1 t117 (t117.length : Int) x26_1 = some (r1, r2)) ∧ Aside0 (kq ≤ k) ∧ Aside0 (Kd.S k37 37 w' w.heap.size (fun _ => True) v11 x11_1) ∧ Aside0 (Kd.R k99 99 w' w.heap.size (fun _ => True) (.slice Ao7 t117.length co7) t117) ∧ Aside0 (Below w.heap.size w w'))
    case atStart => exact ⟨(([] : List (S37))), (0), (by first | rfl | (simp; done) | (simp [*]; done)), H', ⟨Nat.le_refl _⟩, ⟨by first | exact Kd.S_nil _ _ _ _ _ | exact Kd.N_nil _ _ _ _ _ | exact Kd.V_nil _ _ _ _ _ | exact Kd.Q_nil _ _ _ _ _ | exact Kd.R_nil _ _ _ _ _⟩, ⟨by (with_reducible repeat (first | apply Kd.R_alloc | apply Kd.R_drewN | apply Kd.R_drew)); exact HO121.out⟩, ⟨by repeat (first | (with_reducible first | exact HB.out | apply below_alloc | apply pw_below_drewN | apply below_drew1) | exact HB.out)⟩⟩
    case round =>
      clear H'
      try clear c2
      try clear p2
      try clear c5
      try clear c6
      obtain ⟨x11_1, x26_1, rfl, HA, HK1, HO_11, HO_24, HB⟩ := hrel
      cases gk with
      | zero => exact absurd HA.out (by simp [cut_Frags.l0])
      | succ k1 =>
        have H := HA.out
        clear HA
        simp only [cut_Frags.l0] at H
        by_cases c8 : x26_1 < (t117.length : Int)
        · rw [if_pos c8] at H
          have c8b0 : decide (x26_1 < (t117.length : Int)) = true := decide_eq_true c8
          clear c8
          by_cases c9 : 0 ≤ x26_1
          · rw [if_pos c9] at H
            have c9b0 : decide (0 ≤ x26_1) = true := decide_eq_true c9
            clear c9
            by_cases c10 : x26_1 < (t117.length : Int)
            · rw [if_pos c10] at H
              have c10b0 : decide (x26_1 < (t117.length : Int)) = true := decide_eq_true c10
              clear c10
              obtain ⟨y124, hy124⟩ : ∃ y_ : List Int, y_ = (([] : List Int)) := ⟨_, rfl⟩
              replace H : (if 0 ≤ ((rd_T99 t117 x26_1).f2) then (if ((rd_T99 t117 x26_1).f2) ≤ ((rd_T99 t117 x26_1).f3) then (if ((rd_T99 t117 x26_1).f3) ≤ (l2.length : Int) then (if y124.length + ((l2.take (((rd_T99 t117 x26_1).f3) : Int).toNat).drop (((rd_T99 t117 x26_1).f2) : Int).toNat).length < 140737488355328 then (if x11_1.length < 3518437208883 then (cut_Frags.l0 k1 a0 l2 (x11_1 ++ [(⟨(rd_T99 t117 x26_1).f1, a0, (y124 ++ ((l2.take (((rd_T99 t117 x26_1).f3) : Int).toNat).drop (((rd_T99 t117 x26_1).f2) : Int).toNat))⟩ : S37)]) t117 (t117.length : Int) (wrap64 (x26_1 + 1))) else (none)) else (none)) else (none)) else (none)) else (none)) = some (r1, r2) := by first | (rw [hy124]; with_reducible exact H) | (have H2_ := (Option.bind_some _ _).symm.trans H; rw [hy124]; with_reducible exact H2_) | (have H2_ := (Option.bind_some _ _).symm.trans H; with_reducible exact H2_) | with_reducible exact H | (rw [hy124]; exact H) | exact H
              have Ny124 := Aside0.mk hy124
              clear hy124
              by_cases c11 : 0 ≤ ((rd_T99 t117 x26_1).f2)
              · rw [if_pos c11] at H
                have c11b0 := eq_true c11
                have c11b1 : decide (0 ≤ ((rd_T99 t117 x26_1).f2)) = true := decide_eq_true c11
                clear c11
                by_cases c12 : ((rd_T99 t117 x26_1).f2) ≤ ((rd_T99 t117 x26_1).f3)
                · rw [if_pos c12] at H
                  have c12b0 := eq_true c12
                  have c12b1 : decide (((rd_T99 t117 x26_1).f2) ≤ ((rd_T99 t117 x26_1).f3)) = true := decide_eq_true c12
                  clear c12
                  by_cases c13 : ((rd_T99 t117 x26_1).f3) ≤ (l2.length : Int)
                  · rw [if_pos c13] at H
                    have c13b0 := eq_true c13
                    have c13b1 : decide (((rd_T99 t117 x26_1).f3) ≤ (l2.length : Int)) = true := decide_eq_true c13
                    clear c13
                    by_cases c14 : y124.length + ((l2.take (((rd_T99 t117 x26_1).f3) : Int).toNat).drop (((rd_T99 t117 x26_1).f2) : Int).toNat).length < 140737488355328
                    · rw [if_pos c14] at H
                      have LMc14 := Aside0.mk c14
                      clear c14
                      obtain ⟨y128, hy128⟩ : ∃ y_ : List Int, y_ = (y124 ++ ((l2.take (((rd_T99 t117 x26_1).f3) : Int).toNat).drop (((rd_T99 t117 x26_1).f2) : Int).toNat)) := ⟨_, rfl⟩
                      replace H : (if x11_1.length < 3518437208883 then (cut_Frags.l0 k1 a0 l2 (x11_1 ++ [(⟨(rd_T99 t117 x26_1).f1, a0, y128⟩ : S37)]) t117 (t117.length : Int) (wrap64 (x26_1 + 1))) else (none)) = some (r1, r2) := by first | (rw [hy128]; with_reducible exact H) | (have H2_ := (Option.bind_some _ _).symm.trans H; rw [hy128]; with_reducible exact H2_) | (have H2_ := (Option.bind_some _ _).symm.trans H; with_reducible exact H2_) | with_reducible exact H | (rw [hy128]; exact H) | exact H
                      have Ny128 := Aside0.mk hy128
                      clear hy128
                      by_cases c15 : x11_1.length < 3518437208883
                      · rw [if_pos c15] at H
                        have LMc15 := Aside0.mk c15
                        clear c15
                        obtain ⟨y131, hy131⟩ : ∃ y_ : List (S37), y_ = (x11_1 ++ [(⟨(rd_T99 t117 x26_1).f1, a0, y128⟩ : S37)]) := ⟨_, rfl⟩
                        replace H : (cut_Frags.l0 k1 a0 l2 y131 t117 (t117.length : Int) (wrap64 (x26_1 + 1))) = some (r1, r2) := by first | (rw [hy131]; with_reducible exact H) | (have H2_ := (Option.bind_some _ _).symm.trans H; rw [hy131]; with_reducible exact H2_) | (have H2_ := (Option.bind_some _ _).symm.trans H; with_reducible exact H2_) | with_reducible exact H | (rw [hy131]; exact H) | exact H
                        have Ny131 := Aside0.mk hy131
                        clear hy131
                        have H' := Aside0.mk H
                        clear H
                        have p122 : 0 ≤ (x26_1 : Int) := of_decide_eq_true (by first | (with_reducible assumption) | assumption)
                        have q122 : x26_1 < (t117.length : Int) := of_decide_eq_true (by first | (with_reducible assumption) | assumption)
                        obtain ⟨ad122, e122, hx122_0, hx122_1, hx122_2, hx122_3⟩ := at_T99 (Kd.R_reads' HO_24.out).2.2 x26_1 p122 q122
                        cases e122
                        replace p122 := eq_true p122
                        replace q122 := eq_true q122
                        try go_wp2_with (first | ((with_reducible refine gate_dst (N := 13) rfl ?_); refine box_event ?hg (N := 13) ?hd (cs := #[.int .i64 0, .int .i64 0, .int .i64 0, .int .i64 0]) (t := 99) ?hr ?_; (case hd => rfl); (case hg => rfl); (case hr => first | (go_simp; done) | (go_simp; rfl)); intro gb123 hg w16 hbox hb; have n0_ := Aside0.mk (Kd.S_below (by (with_reducible repeat (first | apply Kd.S_alloc | apply Kd.S_drewN | apply Kd.S_drew)); exact HO_11.out) hb); have n1_ := Aside0.mk (Kd.R_below (Kd.R_elderB (by (with_reducible repeat (first | apply Kd.R_alloc | apply Kd.R_drewN | apply Kd.R_drew)); exact HO_24.out) gb123 (Nat.le_of_eq hg.symm)) hb); have n2_ := Aside0.mk (below_step (by repeat (first | (with_reducible first | exact HB.out | apply below_alloc | apply pw_below_drewN | apply below_drew1) | exact HB.out)) hb); have n3_ := Aside0.mk (hbox); have n4_ := Aside0.mk ((by rw [hg]; exact (below_size (by repeat (first | (with_reducible first | exact HB.out | apply below_alloc | apply pw_below_drewN | apply below_drew1) | exact HB.out))) : w.heap.size ≤ gb123)); have n5_ := Aside0.mk ((by rw [hg]; exact (below_size (by repeat (first | (with_reducible first | exact HB.out | apply below_alloc | apply pw_below_drewN | apply below_drew1) | exact HB.out))) : w.heap.size ≤ gb123)); clear HO_11; clear HO_24; clear HB; have HO_11 := n0_; have HO_24 := n1_; have HB := n2_; have BK123 := n3_; have GW123 := n4_; have GE123 := n5_; clear n0_ n1_ n2_ n3_ n4_ n5_; clear hb hbox hg; have hcz17_0 : w16.cell? ⟨gb123, 0, none⟩ = some (.int .i64 0) := (blk_cell BK123.out 0).trans rfl; have hcz17_1 : w16.cell? ⟨gb123, 1, none⟩ = some (.int .i64 0) := (blk_cell BK123.out 1).trans rfl; have hcz17_2 : w16.cell? ⟨gb123, 2, none⟩ = some (.int .i64 0) := (blk_cell BK123.out 2).trans rfl; have hcz17_3 : w16.cell? ⟨gb123, 3, none⟩ = some (.int .i64 0) := (blk_cell BK123.out 3).trans rfl; have hfz17_0 := blk_frozen BK123.out 0; have hfz17_1 := blk_frozen BK123.out 1; have hfz17_2 := blk_frozen BK123.out 2; have hfz17_3 := blk_frozen BK123.out 3))
                        have n0_ : Aside0 (Kd.S k37 37 ((((w16.setCell ⟨gb123, 0, none⟩ (.int .i64 ((rd_T99 t117 x26_1).f0))).setCell ⟨gb123, 1, none⟩ (.int .i64 ((rd_T99 t117 x26_1).f1))).setCell ⟨gb123, 2, none⟩ (.int .i64 ((rd_T99 t117 x26_1).f2))).setCell ⟨gb123, 3, none⟩ (.int .i64 ((rd_T99 t117 x26_1).f3))) w.heap.size (fun _ => True) u11 x11_1) := ⟨by (with_reducible repeat (first | apply Kd.S_alloc | apply Kd.S_drewN | apply Kd.S_drew)); exact Kd.S_mono (Kd.S_far (p := ⟨gb123, 3, none⟩) (Kd.S_far (p := ⟨gb123, 2, none⟩) (Kd.S_far (p := ⟨gb123, 1, none⟩) (Kd.S_far (p := ⟨gb123, 0, none⟩) (Kd.S_types HO_11.out BK123.out (by decide)) (fun _ hk => hk.2) (.int .i64 ((rd_T99 t117 x26_1).f0))) (fun _ hk => hk.2) (.int .i64 ((rd_T99 t117 x26_1).f1))) (fun _ hk => hk.2) (.int .i64 ((rd_T99 t117 x26_1).f2))) (fun _ hk => hk.2) (.int .i64 ((rd_T99 t117 x26_1).f3))) (fun _ hk => trivial)⟩
                        have n1_ : Aside0 (Kd.R k99 99 ((((w16.setCell ⟨gb123, 0, none⟩ (.int .i64 ((rd_T99 t117 x26_1).f0))).setCell ⟨gb123, 1, none⟩ (.int .i64 ((rd_T99 t117 x26_1).f1))).setCell ⟨gb123, 2, none⟩ (.int .i64 ((rd_T99 t117 x26_1).f2))).setCell ⟨gb123, 3, none⟩ (.int .i64 ((rd_T99 t117 x26_1).f3))) w.heap.size (fun k_ => k_ ≠ gb123) (.slice (some ad122) t117.length co7) t117) := ⟨by (with_reducible repeat (first | apply Kd.R_alloc | apply Kd.R_drewN | apply Kd.R_drew)); exact Kd.R_mono (Kd.R_far (p := ⟨gb123, 3, none⟩) (Kd.R_far (p := ⟨gb123, 2, none⟩) (Kd.R_far (p := ⟨gb123, 1, none⟩) (Kd.R_far (p := ⟨gb123, 0, none⟩) (Kd.R_mono HO_24.out (fun k_ hk => (⟨hk, hk.2⟩ : _ ∧ k_ ≠ gb123))) (fun _ hk => hk.2) (.int .i64 ((rd_T99 t117 x26_1).f0))) (fun _ hk => hk.2) (.int .i64 ((rd_T99 t117 x26_1).f1))) (fun _ hk => hk.2) (.int .i64 ((rd_T99 t117 x26_1).f2))) (fun _ hk => hk.2) (.int .i64 ((rd_T99 t117 x26_1).f3))) (fun _ hk => hk.1.2)⟩
                        have n2_ : Aside0 (((((w16.setCell ⟨gb123, 0, none⟩ (.int .i64 ((rd_T99 t117 x26_1).f0))).setCell ⟨gb123, 1, none⟩ (.int .i64 ((rd_T99 t117 x26_1).f1))).setCell ⟨gb123, 2, none⟩ (.int .i64 ((rd_T99 t117 x26_1).f2))).setCell ⟨gb123, 3, none⟩ (.int .i64 ((rd_T99 t117 x26_1).f3))).heap[gb123]? = some (.cells #[.int .i64 ((rd_T99 t117 x26_1).f0), .int .i64 ((rd_T99 t117 x26_1).f1), .int .i64 ((rd_T99 t117 x26_1).f2), .int .i64 ((rd_T99 t117 x26_1).f3)] 99 (0, 0))) := ⟨by (with_reducible repeat (first | refine blk_drewN ?_ _ | refine blk_drew ?_ | refine blk_alloc ?_ _)); refine blk_put (cs := #[.int .i64 ((rd_T99 t117 x26_1).f0), .int .i64 ((rd_T99 t117 x26_1).f1), .int .i64 ((rd_T99 t117 x26_1).f2), .int .i64 0]) ?_ 3 _ rfl; (with_reducible repeat (first | refine blk_drewN ?_ _ | refine blk_drew ?_ | refine blk_alloc ?_ _)); refine blk_put (cs := #[.int .i64 ((rd_T99 t117 x26_1).f0), .int .i64 ((rd_T99 t117 x26_1).f1), .int .i64 0, .int .i64 0]) ?_ 2 _ rfl; (with_reducible repeat (first | refine blk_drewN ?_ _ | refine blk_drew ?_ | refine blk_alloc ?_ _)); refine blk_put (cs := #[.int .i64 ((rd_T99 t117 x26_1).f0), .int .i64 0, .int .i64 0, .int .i64 0]) ?_ 1 _ rfl; (with_reducible repeat (first | refine blk_drewN ?_ _ | refine blk_drew ?_ | refine blk_alloc ?_ _)); refine blk_put (cs := #[.int .i64 0, .int .i64 0, .int .i64 0, .int .i64 0]) ?_ 0 _ rfl; (with_reducible repeat (first | refine blk_drewN ?_ _ | refine blk_drew ?_ | refine blk_alloc ?_ _)); exact BK123.out⟩
                        have n3_ : Aside0 (Below w.heap.size w ((((w16.setCell ⟨gb123, 0, none⟩ (.int .i64 ((rd_T99 t117 x26_1).f0))).setCell ⟨gb123, 1, none⟩ (.int .i64 ((rd_T99 t117 x26_1).f1))).setCell ⟨gb123, 2, none⟩ (.int .i64 ((rd_T99 t117 x26_1).f2))).setCell ⟨gb123, 3, none⟩ (.int .i64 ((rd_T99 t117 x26_1).f3)))) := ⟨by repeat (first | (with_reducible first | exact HB.out | apply below_alloc | apply pw_below_drewN | apply below_drew1 | refine below_set ?_ GE123.out) | exact HB.out)⟩
                        (try clear HO_11)
                        (try clear HO_24)
                        (try clear BK123)
                        (try clear HB)
                        generalize ((((w16.setCell ⟨gb123, 0, none⟩ (.int .i64 ((rd_T99 t117 x26_1).f0))).setCell ⟨gb123, 1, none⟩ (.int .i64 ((rd_T99 t117 x26_1).f1))).setCell ⟨gb123, 2, none⟩ (.int .i64 ((rd_T99 t117 x26_1).f2))).setCell ⟨gb123, 3, none⟩ (.int .i64 ((rd_T99 t117 x26_1).f3))) = w18 at n0_ n1_ n2_ n3_ ⊢
                        have HO_11 := n0_
                        have HO_24 := n1_
                        have BK123 := n2_
                        have HB := n3_
                        clear n0_ n1_ n2_ n3_
                        have n0_ := Aside0.mk (Kd.S_drew HO_11.out)
                        have n1_ := Aside0.mk (Kd.R_drew HO_24.out)
                        have n2_ := Aside0.mk (blk_drew BK123.out)
                        have n3_ := Aside0.mk (below_drew1 HB.out)
                        clear HO_11
                        clear HO_24
                        clear BK123
                        clear HB
                        have HO_11 := n0_
                        have HO_24 := n1_
                        have BK123 := n2_
                        have HB := n3_
                        clear n0_ n1_ n2_ n3_
                        obtain ⟨i020, hi020, _, hsz20, _⟩ := info_parts info5
                        obtain ⟨A20, hcut20, hA20, hC20⟩ := print_mid_of (P := Tryd.prog) (Value.int .u8) 0 23 5 .i64 .i64 Tryd.underlying23 hi020 hsz20 A2 c2 l2 ((rd_T99 t117 x26_1).f2) ((rd_T99 t117 x26_1).f3) (of_decide_eq_true (by first | (with_reducible assumption) | assumption)) (by first | omega | exact of_decide_eq_true (by first | (with_reducible assumption) | assumption)) (of_decide_eq_true (by first | (with_reducible assumption) | assumption)) HC2.out
                        have HR127 := Aside0.mk (Kd.C_of_reads (h1 := fun _ => rfl) (hA20 _ (Kd.reads_of_C HR2.out)))
                        have HC127 := Aside0.mk hC20
                        clear hA20 hC20 hi020 hsz20
                        refine start_ (n := 16) (S := fun w' => w'.cell? ⟨gb123, 0, none⟩ = some (.int .i64 ((rd_T99 t117 x26_1).f0)) ∧ w'.cell? ⟨gb123, 1, none⟩ = some (.int .i64 ((rd_T99 t117 x26_1).f1)) ∧ w'.cell? ⟨gb123, 2, none⟩ = some (.int .i64 ((rd_T99 t117 x26_1).f2)) ∧ w'.cell? ⟨gb123, 3, none⟩ = some (.int .i64 ((rd_T99 t117 x26_1).f3))) (ds := []) #[false, false, false, false, false, false, false, false, false, false, false, false, false, false, false, false] (by kernel_rfl) rfl rfl ⟨(blk_cell BK123.out 0).trans rfl, (blk_cell BK123.out 1).trans rfl, (blk_cell BK123.out 2).trans rfl, (blk_cell BK123.out 3).trans rfl⟩ (fun hHeld => ?_); refine with_tabW cut_Frags.tab8 cut_Frags.bits8 (fun HT_ HW_ => ?_)
                        generalize w18.drew = w19 at HO_11 HO_24 BK123 HB HR127 hHeld ⊢
                        refine pure_ (i := 0) (N := some 30) (v := ?_) (a' := ?_) #[true, false, false, false, false, false, false, false, false, false, false, false, false, false, false, false] rfl rfl (any_of HT_.out (by kernel_rfl)) (fun _ _ _ h => h) (Or.inl ⟨by rfl, ?_⟩) ?_ ?_
                        rotate_left
                        · intro w'
                          go_simp
                          with_reducible rfl
                        rotate_left
                        · simp only [Act.put, List.setIfInBounds_toArray, List.set_cons_zero, List.set_cons_succ, i64_w, i32_w]
                          rfl
                        refine pure_ (i := 1) (N := some 31) (v := ?_) (a' := ?_) #[true, true, false, false, false, false, false, false, false, false, false, false, false, false, false, false] rfl rfl (any_of HT_.out (by kernel_rfl)) (fun _ _ _ h => h) (Or.inl ⟨by rfl, ?_⟩) ?_ ?_
                        rotate_left
                        · intro w'
                          go_simp
                          with_reducible rfl
                        rotate_left
                        · simp only [Act.put, List.setIfInBounds_toArray, List.set_cons_zero, List.set_cons_succ, i64_w, i32_w]
                          rfl
                        refine pure_ (i := 3) (N := some 33) (v := ?_) (a' := ?_) #[true, true, false, true, false, false, false, false, false, false, false, false, false, false, false, false] rfl rfl (any_of HT_.out (by kernel_rfl)) (fun _ _ _ h => h) (Or.inl ⟨by rfl, ?_⟩) ?_ ?_
                        rotate_left
                        · intro w'
                          go_simp
                          with_reducible rfl
                        rotate_left
                        · simp only [Act.put, List.setIfInBounds_toArray, List.set_cons_zero, List.set_cons_succ, i64_w, i32_w]
                          rfl
                        refine pure_ (i := 5) (N := some 35) (v := ?_) (a' := ?_) #[true, true, false, true, false, true, false, false, false, false, false, false, false, false, false, false] rfl rfl (any_of HT_.out (by kernel_rfl)) (fun _ _ _ h => h) (Or.inl ⟨by rfl, ?_⟩) ?_ ?_
                        rotate_left
                        · intro w'
                          go_simp
                          with_reducible rfl
                        rotate_left
                        · simp only [Act.put, List.setIfInBounds_toArray, List.set_cons_zero, List.set_cons_succ, i64_w, i32_w]
                          rfl
                        refine pure_ (i := 6) (N := some 36) (v := ?_) (a' := ?_) #[true, true, false, true, false, true, true, false, false, false, false, false, false, false, false, false] rfl rfl (any_of HT_.out (by kernel_rfl)) (fun _ _ _ h => h) (Or.inl ⟨by rfl, ?_⟩) ?_ ?_
                        rotate_left
                        · intro w'
                          go_simp
                          with_reducible rfl
                        rotate_left
                        · simp only [Act.put, List.setIfInBounds_toArray, List.set_cons_zero, List.set_cons_succ, i64_w, i32_w]
                          rfl
                        refine pure_ (i := 8) (N := some 38) (v := ?_) (a' := ?_) #[true, true, false, true, false, true, true, false, true, false, false, false, false, false, false, false] rfl rfl (any_of HT_.out (by kernel_rfl)) (fun _ _ _ h => h) (Or.inl ⟨by rfl, ?_⟩) ?_ ?_
                        rotate_left
                        · intro w'
                          go_simp
                          with_reducible rfl
                        rotate_left
                        · simp only [Act.put, List.setIfInBounds_toArray, List.set_cons_zero, List.set_cons_succ, i64_w, i32_w]
                          rfl
                        refine take_ (i := 2) (N := some 32) (v := ?_) (a' := ?_) #[true, true, true, true, false, true, true, false, true, false, false, false, false, false, false, false] rfl rfl (take_ofW HT_.out HW_.out (by kernel_rfl)) (fun _ _ _ h => h) (Or.inl ⟨by rfl, ?_⟩) hHeld ?_ ?_
                        rotate_left
                        · rintro w' ⟨s0, s1, s2, s3⟩
                          go_simp
                          with_reducible rfl
                        rotate_left
                        · simp only [Act.put, List.setIfInBounds_toArray, List.set_cons_zero, List.set_cons_succ, i64_w, i32_w]
                          rfl
                        refine take_ (i := 7) (N := some 37) (v := ?_) (a' := ?_) #[true, true, true, true, false, true, true, true, true, false, false, false, false, false, false, false] rfl rfl (take_ofW HT_.out HW_.out (by kernel_rfl)) (fun _ _ _ h => h) (Or.inl ⟨by rfl, ?_⟩) hHeld ?_ ?_
                        rotate_left
                        · rintro w' ⟨s0, s1, s2, s3⟩
                          go_simp
                          with_reducible rfl
                        rotate_left
                        · simp only [Act.put, List.setIfInBounds_toArray, List.set_cons_zero, List.set_cons_succ, i64_w, i32_w]
                          rfl
                        refine take_ (i := 9) (N := some 39) (v := ?_) (a' := ?_) #[true, true, true, true, false, true, true, true, true, true, false, false, false, false, false, false] rfl rfl (take_ofW HT_.out HW_.out (by kernel_rfl)) (fun _ _ _ h => h) (Or.inl ⟨by rfl, ?_⟩) hHeld ?_ ?_
                        rotate_left
                        · rintro w' ⟨s0, s1, s2, s3⟩
                          go_simp
                          with_reducible rfl
                        rotate_left
                        · simp only [Act.put, List.setIfInBounds_toArray, List.set_cons_zero, List.set_cons_succ, i64_w, i32_w]
                          rfl
                        refine pure_ (i := 10) (N := some 40) (v := ?_) (a' := ?_) #[true, true, true, true, false, true, true, true, true, true, true, false, false, false, false, false] rfl rfl (any_of HT_.out (by kernel_rfl)) (fun _ _ _ h => h) (Or.inl ⟨by rfl, ?_⟩) ?_ ?_
                        rotate_left
                        · intro w'
                          go_simp
                          with_reducible rfl
                        rotate_left
                        · simp only [Act.put, List.setIfInBounds_toArray, List.set_cons_zero, List.set_cons_succ, i64_w, i32_w]
                          rfl
                        refine one_ (i := 4) (N := some 34) #[true, true, true, true, true, true, true, true, true, true, true, false, false, false, false, false] rfl rfl (one_of HT_.out (by kernel_rfl)) (by decide) (fun K hK => ?_)
                        refine Kd.R_lit_step (Kd.int .u8) _ 5 ?hg (N := 34) ?hd (xs := ([] : List Int)) (inner := []) (ok := fun _ => True) (okp := fun _ => True) ?hr ?hp (fun _ hk => hk) trivial (Below.refl _ _) (Nat.le_refl _) (by simp) ?_; (case hd => rfl); (case hg => rfl); (case hr => first | (go_simp; done) | (go_simp; rfl)); (case hp => exact (Reps.none _ _))
                        intro v125 w21 ho22 hb hg_ hnew_
                        clear hg_ hnew_
                        (first | rw [← Ny124.out] at ho22 | (simp only [Int.reduceToNat] at ho22; rw [← Ny124.out] at ho22))
                        have n0_ := Aside0.mk (Kd.S_elder' (by (with_reducible repeat (first | apply Kd.S_alloc | apply Kd.S_drewN | apply Kd.S_drew)); exact HO_11.out) (Kd.R_base ho22) hb)
                        have n1_ := Aside0.mk (Kd.R_below (by (with_reducible repeat (first | apply Kd.R_alloc | apply Kd.R_drewN | apply Kd.R_drew)); exact HO_24.out) hb)
                        have n2_ := Aside0.mk (Kd.R_lower ho22 (below_size (by repeat (first | (with_reducible first | exact HB.out | apply below_alloc | apply pw_below_drewN | apply below_drew1 | refine below_set ?_ GE123.out) | exact HB.out))))
                        have n3_ := Aside0.mk (blk_below (g := gb123) (o := .cells #[.int .i64 ((rd_T99 t117 x26_1).f0), .int .i64 ((rd_T99 t117 x26_1).f1), .int .i64 ((rd_T99 t117 x26_1).f2), .int .i64 ((rd_T99 t117 x26_1).f3)] 99 (0, 0)) (by (with_reducible repeat (first | refine blk_drewN ?_ _ | refine blk_drew ?_ | refine blk_alloc ?_ _)); exact BK123.out) hb)
                        have n4_ := Aside0.mk (below_step (by repeat (first | (with_reducible first | exact HB.out | apply below_alloc | apply pw_below_drewN | apply below_drew1 | refine below_set ?_ GE123.out) | exact HB.out)) hb)
                        clear HO_11
                        clear HO_24
                        clear BK123
                        clear HB
                        have HO_11 := n0_
                        have HO_24 := n1_
                        have HO126 := n2_
                        have BK123 := n3_
                        have HB := n4_
                        clear n0_ n1_ n2_ n3_ n4_
                        clear hb ho22
                        refine hK.out _ _ ⟨(blk_cell BK123.out 0).trans rfl, (blk_cell BK123.out 1).trans rfl, (blk_cell BK123.out 2).trans rfl, (blk_cell BK123.out 3).trans rfl⟩ (fun hHeld => ?_)
                        clear hK K
                        refine norm_ (a' := ?_) ?_ ?_
                        rotate_left
                        · show Act.put _ (some 34) _ = _
                          simp only [Act.put, List.setIfInBounds_toArray, List.set_cons_zero, List.set_cons_succ, i64_w, i32_w]
                          rfl
                        refine one_ (i := 11) (N := some 41) #[true, true, true, true, true, true, true, true, true, true, true, true, false, false, false, false] rfl rfl (one_of HT_.out (by kernel_rfl)) (by decide) (fun K hK => ?_)
                        refine Kd.R_append_rows_step (Kd.int .u8) (w0 := w) w.heap.size (by rfl) (.tmp 34) (.tmp 40) 23 5 (.int .u8 0) 1 rfl Tryd.underlying23 info5 rfl (by decide) (by omega) v125 y124 ((l2.take (((rd_T99 t117 x26_1).f3) : Int).toNat).drop (((rd_T99 t117 x26_1).f2) : Int).toNat) _ _ _ (fun _ => True) (fun _ => False) rfl rfl ?aO ?aR (fun _ _ h => h) (fun _ h => h.elim) ?aF ?aB ?aS ?aL ?_
                        (case aR => first | (rw [← show ((l2.take (((rd_T99 t117 x26_1).f3) : Int).toNat).drop (((rd_T99 t117 x26_1).f2) : Int).toNat).length = (((rd_T99 t117 x26_1).f3).toNat - ((rd_T99 t117 x26_1).f2).toNat) from (by rw [List.length_drop, List.length_take]; have h_ : (((rd_T99 t117 x26_1).f3) : Int) ≤ (l2.length : Int) := of_decide_eq_true (by first | (with_reducible assumption) | assumption); omega)]; repeat (first | exact (Kd.C_below HR127.out HB.out) | (with_reducible refine Kd.C_alloc ?_ _) | (with_reducible refine Kd.C_drewN ?_ _) | (with_reducible refine Kd.C_drew ?_))) | (repeat (first | exact (Kd.C_below HR127.out HB.out) | (with_reducible refine Kd.C_alloc ?_ _) | (with_reducible refine Kd.C_drewN ?_ _) | (with_reducible refine Kd.C_drew ?_))))
                        (case aB => exact (by repeat (first | (with_reducible first | exact HB.out | apply below_alloc | apply pw_below_drewN | apply below_drew1 | refine below_set ?_ GE123.out) | exact HB.out)))
                        (case aF => exact (fun _ _ => trivial))
                        (case aO => exact (by (with_reducible repeat (first | apply Kd.R_alloc | apply Kd.R_drewN | apply Kd.R_drew)); exact HO126.out))
                        (case aS => exact (below_size (by repeat (first | (with_reducible first | exact HB.out | apply below_alloc | apply pw_below_drewN | apply below_drew1 | refine below_set ?_ GE123.out) | exact HB.out))))
                        (case aL => have := LMc14.out; have hlx_ := (show ((l2.take (((rd_T99 t117 x26_1).f3) : Int).toNat).drop (((rd_T99 t117 x26_1).f2) : Int).toNat).length = (((rd_T99 t117 x26_1).f3).toNat - ((rd_T99 t117 x26_1).f2).toNat) from (by rw [List.length_drop, List.length_take]; have h_ : (((rd_T99 t117 x26_1).f3) : Int) ≤ (l2.length : Int) := of_decide_eq_true (by first | (with_reducible assumption) | assumption); omega)); omega)
                        intro v129 w23 ho hb hg hat
                        rw [← Ny128.out] at ho
                        have n0_ := Aside0.mk (Kd.S_after (ok := (fun _ => True)) (by (with_reducible repeat (first | apply Kd.S_alloc | apply Kd.S_drewN | apply Kd.S_drew)); exact HO_11.out) hg hat)
                        have n1_ := Aside0.mk (Kd.R_over' (by (with_reducible repeat (first | apply Kd.R_alloc | apply Kd.R_drewN | apply Kd.R_drew)); exact HO_24.out) (Kd.R_typed (by (with_reducible repeat (first | apply Kd.R_alloc | apply Kd.R_drewN | apply Kd.R_drew)); exact HO126.out)) (by decide) hg)
                        have n2_ := Aside0.mk (blk_grown (g := gb123) (o := .cells #[.int .i64 ((rd_T99 t117 x26_1).f0), .int .i64 ((rd_T99 t117 x26_1).f1), .int .i64 ((rd_T99 t117 x26_1).f2), .int .i64 ((rd_T99 t117 x26_1).f3)] 99 (0, 0)) (by (with_reducible repeat (first | refine blk_drewN ?_ _ | refine blk_drew ?_ | refine blk_alloc ?_ _)); exact BK123.out) hg (Kd.R_ne HO126.out BK123.out (by decide)))
                        have n3_ := Aside0.mk (hb)
                        have n4_ := Aside0.mk (ho)
                        clear HO_11
                        clear HO_24
                        clear BK123
                        clear HB
                        clear HO126
                        have HO_11 := n0_
                        have HO_24 := n1_
                        have BK123 := n2_
                        have HB := n3_
                        have HO130 := n4_
                        clear n0_ n1_ n2_ n3_ n4_
                        clear ho hb hg hat
                        obtain ⟨Ao24, co24, eo24⟩ := Kd.R_slice HO130.out
                        (first | subst eo24 | (injection eo24 with f1_ f2_ f3_; have f4_ := f1_.symm; have f5_ := f3_.symm; clear f1_ f2_ f3_; subst f4_; subst f5_))
                        refine hK.out _ _ ⟨(blk_cell BK123.out 0).trans rfl, (blk_cell BK123.out 1).trans rfl, (blk_cell BK123.out 2).trans rfl, (blk_cell BK123.out 3).trans rfl⟩ (fun hHeld => ?_)
                        clear hK K
                        refine norm_ (a' := ?_) ?_ ?_
                        rotate_left
                        · show Act.put _ (some 41) _ = _
                          simp only [Act.put, List.setIfInBounds_toArray, List.set_cons_zero, List.set_cons_succ, i64_w, i32_w]
                          rfl
                        refine pure_ (i := 12) (N := some 42) (v := ?_) (a' := ?_) #[true, true, true, true, true, true, true, true, true, true, true, true, true, false, false, false] rfl rfl (any_of HT_.out (by kernel_rfl)) (fun _ _ _ h => h) (Or.inl ⟨by rfl, ?_⟩) ?_ ?_
                        rotate_left
                        · intro w'
                          go_simp
                          with_reducible rfl
                        rotate_left
                        · simp only [Act.put, List.setIfInBounds_toArray, List.set_cons_zero, List.set_cons_succ, i64_w, i32_w]
                          rfl
                        refine one_ (i := 13) (N := some 43) #[true, true, true, true, true, true, true, true, true, true, true, true, true, true, false, false] rfl rfl (one_of HT_.out (by kernel_rfl)) (by decide) (fun K hK => ?_)
                        refine value_ (w1 := ?_) (v := ?_) (by rfl) rfl ?_ ?_
                        rotate_left 2
                        · go_simp
                          constructor
                          · rfl
                          · rfl
                        refine hK.out _ _ ⟨(blk_cell (blk_alloc BK123.out _) 0).trans rfl, (blk_cell (blk_alloc BK123.out _) 1).trans rfl, (blk_cell (blk_alloc BK123.out _) 2).trans rfl, (blk_cell (blk_alloc BK123.out _) 3).trans rfl⟩ (fun hHeld => ?_)
                        clear hK K
                        refine norm_ (a' := ?_) ?_ ?_
                        rotate_left
                        · show Act.put _ (some 43) _ = _
                          simp only [Act.put, List.setIfInBounds_toArray, List.set_cons_zero, List.set_cons_succ, i64_w, i32_w]
                          rfl
                        refine one_ (i := 14) (N := some 44) #[true, true, true, true, true, true, true, true, true, true, true, true, true, true, true, false] rfl rfl (one_of HT_.out (by kernel_rfl)) (by decide) (fun K hK => ?_)
                        refine Kd.S_append_step k37 (w0 := w) w.heap.size (by rfl) (.tmp 30) (.tmp 43) 95 37 (.agg #[(.int .i64 0), (.int .u32 0), (.slice none 0 0)]) 40 rfl Tryd.underlying95 info37 rfl (by decide) (by omega) u11 x11_1 (⟨(rd_T99 t117 x26_1).f1, a0, y128⟩ : S37) [.int .i64 ((rd_T99 t117 x26_1).f1), .int .u32 a0, .slice Ao24 y128.length co24] (fun _ => True) (fun k_ => some k_ = (.slice Ao24 y128.length co24 : Value).ownBlock) rfl rfl ?aP (fun k_ hk_ => ((Kd.R_mono (ok' := fun k_ => ((fun _ => True)) k_ ∧ some k_ ≠ (u11 : Value).ownBlock) (Kd.R_apart' (HO130.out) (Kd.S_typed HO_11.out) (by decide)) (fun k_ hk => ⟨trivial, hk.2⟩))).1 k_ hk_.symm) ?aF ?aO ?aB ?aS ?aL ?_
                        (case aP => exact k37_mkM _ _ _ (⟨(rd_T99 t117 x26_1).f1, a0, y128⟩ : S37) (Kd.R_mono (Kd.R_tight rfl (Kd.R_mono (ok' := fun k_ => ((fun _ => True)) k_ ∧ some k_ ≠ (u11 : Value).ownBlock) (Kd.R_apart' (HO130.out) (Kd.S_typed HO_11.out) (by decide)) (fun k_ hk => ⟨trivial, hk.2⟩))) (fun _ h_ => h_)))
                        (case aB => exact (by repeat (first | (with_reducible first | exact HB.out | apply below_alloc | apply pw_below_drewN | apply below_drew1 | refine below_set ?_ GE123.out) | exact HB.out)))
                        (case aF => exact (fun _ _ => trivial))
                        (case aO => exact (by (with_reducible repeat (first | apply Kd.S_alloc | apply Kd.S_drewN | apply Kd.S_drew)); exact Kd.S_mono HO_11.out (fun k_ hk => ⟨trivial, fun e_ => hk.2 e_⟩)))
                        (case aS => exact (below_size (by repeat (first | (with_reducible first | exact HB.out | apply below_alloc | apply pw_below_drewN | apply below_drew1 | refine below_set ?_ GE123.out) | exact HB.out))))
                        (case aL => have := LMc15.out; omega)
                        intro v132 w25 ho hb hg hat
                        rw [← Ny131.out] at ho
                        have n0_ := Aside0.mk (Kd.R_over' (by (with_reducible repeat (first | apply Kd.R_alloc | apply Kd.R_drewN | apply Kd.R_drew)); exact HO_24.out) (Kd.S_typed (by (with_reducible repeat (first | apply Kd.S_alloc | apply Kd.S_drewN | apply Kd.S_drew)); exact HO_11.out)) (by decide) hg)
                        have n1_ := Aside0.mk (blk_grown (g := gb123) (o := .cells #[.int .i64 ((rd_T99 t117 x26_1).f0), .int .i64 ((rd_T99 t117 x26_1).f1), .int .i64 ((rd_T99 t117 x26_1).f2), .int .i64 ((rd_T99 t117 x26_1).f3)] 99 (0, 0)) (by (with_reducible repeat (first | refine blk_drewN ?_ _ | refine blk_drew ?_ | refine blk_alloc ?_ _)); exact BK123.out) hg (Kd.S_ne HO_11.out BK123.out (by decide)))
                        have n2_ := Aside0.mk (hb)
                        have n3_ := Aside0.mk (ho)
                        clear HO_24
                        clear BK123
                        clear HB
                        clear HO_11
                        clear HO130
                        have HO_24 := n0_
                        have BK123 := n1_
                        have HB := n2_
                        have HO133 := n3_
                        clear n0_ n1_ n2_ n3_
                        clear ho hb hg hat
                        refine hK.out _ _ ⟨(blk_cell BK123.out 0).trans rfl, (blk_cell BK123.out 1).trans rfl, (blk_cell BK123.out 2).trans rfl, (blk_cell BK123.out 3).trans rfl⟩ (fun hHeld => ?_)
                        clear hK K
                        refine norm_ (a' := ?_) ?_ ?_
                        rotate_left
                        · show Act.put _ (some 44) _ = _
                          simp only [Act.put, List.setIfInBounds_toArray, List.set_cons_zero, List.set_cons_succ, i64_w, i32_w]
                          rfl
                        refine pure_ (i := 15) (N := some 11) (v := ?_) (a' := ?_) #[true, true, true, true, true, true, true, true, true, true, true, true, true, true, true, true] rfl rfl (any_of HT_.out (by kernel_rfl)) (fun _ _ _ h => h) (Or.inl ⟨by rfl, ?_⟩) ?_ ?_
                        rotate_left
                        · intro w'
                          go_simp
                          with_reducible rfl
                        rotate_left
                        · simp only [Act.put, List.setIfInBounds_toArray, List.set_cons_zero, List.set_cons_succ, i64_w, i32_w]
                          rfl
                        refine done_ (done_of HT_.out (by kernel_rfl)) ?_
                        try go_wp2
                        go_roundg k1
                        case measure => have := HK1.out; omega
                        case rel => exact ⟨(y131), (wrap64 (x26_1 + 1)), (by first | rfl | (simp; done) | (simp [*]; done)), H', ⟨by have := HK1.out; omega⟩, ⟨by (with_reducible repeat (first | apply Kd.S_alloc | apply Kd.S_drewN | apply Kd.S_drew)); exact HO133.out⟩, ⟨by (with_reducible repeat (first | apply Kd.R_alloc | apply Kd.R_drewN | apply Kd.R_drew)); exact Kd.R_mono HO_24.out (fun _ hk => trivial)⟩, ⟨by repeat (first | (with_reducible first | exact HB.out | apply below_alloc | apply pw_below_drewN | apply below_drew1 | refine below_set ?_ GE123.out) | exact HB.out)⟩⟩
                      · rw [if_neg c15] at H
                        exact absurd H (by simp)
                    · rw [if_neg c14] at H
                      exact absurd H (by simp)
                  · rw [if_neg c13] at H
                    exact absurd H (by simp)
                · rw [if_neg c12] at H
                  exact absurd H (by simp)
              · rw [if_neg c11] at H
                exact absurd H (by simp)
            · rw [if_neg c10] at H
              exact absurd H (by simp)
          · rw [if_neg c9] at H
            exact absurd H (by simp)
        · rw [if_neg c8] at H
          have c8b0 : decide (x26_1 < (t117.length : Int)) = false := decide_eq_false c8
          clear c8
          simp only [Option.some.injEq, Prod.mk.injEq] at H
          obtain ⟨rfl, rfl⟩ := H
          go_wp2
          go_ret2
          exact ⟨_, by first | rfl | (simp [errW_none, errW_some] <;> rfl) | (simp [*, errW_none, errW_some] <;> rfl), by (with_reducible repeat (first | apply Kd.S_alloc | apply Kd.S_drewN | apply Kd.S_drew)); exact HO_11.out, by repeat (first | (with_reducible first | exact HB.out | apply below_alloc | apply pw_below_drewN | apply below_drew1) | exact HB.out)⟩
  · replace c5 := Bool.eq_false_iff.mpr c5
    subst c5
    have H1 : (some (([] : List (S37)), false)) = some (r1, r2) := by rw [if_neg (show ¬ (false = true) by decide)] at H; exact H
    clear H
    have H := H1
    clear H1
    simp only [Option.some.injEq, Prod.mk.injEq] at H
    obtain ⟨rfl, rfl⟩ := H
    go_enter Tryd.func66, Tryd.ntmps66
    go_wp2_with (first | ((with_reducible refine gate_callee (f := 65) rfl ?_); refine goesL_ (some 18) rfl rfl Tryd.func65 (by kernel_rfl) rfl #[.int .i64 a1, .int .i64 (l2.length : Int)] rfl (by (try simp only [List.map_toArray, List.map_cons, List.map_nil]); first | done | rfl | (simp only [List.length_drop, List.length_take]; rfl)) ?_; (with_reducible refine (cut_Cut.calls k a1 (l2.length : Int) t117 t118 false _ A4.out).mono ?_); rintro e w26 ⟨v120, rfl, ho0, hb⟩; refine ⟨_, rfl, ?_⟩; have n0_ := Aside0.mk (Kd.R_lower ho0 (below_size (by repeat (first | (with_reducible first | exact HB.out | apply below_alloc | apply pw_below_drewN | apply below_drew1) | exact HB.out)))); have n1_ := Aside0.mk (below_step (by repeat (first | (with_reducible first | exact HB.out | apply below_alloc | apply pw_below_drewN | apply below_drew1) | exact HB.out)) hb); clear HB; have HO121 := n0_; have HB := n1_; clear n0_ n1_; (try clear hb); (try clear hb2); (try clear hk); (try clear hi); (try clear ho0)))
    go_ret2
    exact ⟨_, by first | rfl | (simp [errW_none, errW_some] <;> rfl) | (simp [*, errW_none, errW_some] <;> rfl), by first | exact Kd.S_nil _ _ _ _ _ | exact Kd.N_nil _ _ _ _ _ | exact Kd.V_nil _ _ _ _ _ | exact Kd.Q_nil _ _ _ _ _ | exact Kd.R_nil _ _ _ _ _, by repeat (first | (with_reducible first | exact HB.out | apply below_alloc | apply pw_below_drewN | apply below_drew1) | exact HB.out)⟩

-- NOT PRINTED: function 43 (image_Add)


end Go.Proofs.YthhbilkmdfdfiaaDoor.F
end

section
/- What image.Add lays: plain. -/
set_option linter.unusedVariables false
set_option linter.unusedSimpArgs false
namespace Go.Proofs.YthhbilkmdfdfiaaDoor.Img
open Go.RowKit Go.Proofs.YthhbilkmdfdfiaaDoor.F Go.Proofs.YthhbilkmdfdfiaaDoor.F.Nums Go.Proofs.YthhbilkmdfdfiaaDoor.O Go.Proofs.YthhbilkmdfdfiaaDoorW.PrintWords Go.Proofs.YthhbilkmdfdfiaaDoorW.PrintLast Go.Proofs.YthhbilkmdfdfiaaDoorW.PrintMore Go.Proofs.YthhbilkmdfdfiaaDoor.Plain
theorem near_eq (a : Int) : span_near.f a 832 = some (cl a) := by unfold span_near.f; rw [near_cl]
theorem where_eq (a : Int) : span_Where.f a = some (cl a / 52, cl a % 52) := by
  have h0 := cl_lo a
  have h1 := cl_hi a
  unfold span_Where.f
  rw [near_eq]
  simp only [Option.bind_some]
  rw [td h0, tm h0, w64 (by omega) (by omega)]
theorem begin_eq (a : Int) : span_Begin.f a = some (bg (cl a)) := by
  have h0 := cl_lo a
  have h1 := cl_hi a
  unfold span_Begin.f
  rw [near_eq]
  simp only [Option.bind_some]
  rw [where_eq, cl_cl]
  simp only [Option.bind_some]
  rw [w64 (n := 52 - cl a % 52) (by omega) (by omega)]
  unfold bg
  by_cases h : 41 < cl a % 52
  · rw [if_pos (by omega), if_pos h, w64 (by omega) (by omega)]
  · rw [if_neg (by omega), if_neg h]
theorem left_eq (a : Int) : span_Left.f a = some (lf (cl a)) := by
  have h0 := cl_lo a
  have h1 := cl_hi a
  unfold span_Left.f
  rw [near_eq]
  simp only [Option.bind_some]
  rw [where_eq, cl_cl]
  simp only [Option.bind_some]
  unfold lf
  by_cases h : cl a = 832
  · rw [if_pos h, h, if_pos (by decide)]
  · rw [if_neg (by simp only [Bool.and_eq_true, beq_iff_eq]; omega), if_neg h, tm h0, w64 (by omega) (by omega)]
/-! ### the pieces, in plain words -/
def cutS : Nat → Int → Int → Int → Option (List (Int × Int × Int) × Int)
  | 0, _, _, _ => none
  | m + 1, at_, n, from_ => if bg (cl at_) = 832 then none else
      if n ≤ from_ + (lf (bg (cl at_)) - 11) then some ([(bg (cl at_), from_, n)], bg (cl at_) + 11 + (n - from_)) else
        (cutS m (bg (cl at_) + lf (bg (cl at_))) n (from_ + (lf (bg (cl at_)) - 11))).map fun p => ((bg (cl at_), from_, from_ + (lf (bg (cl at_)) - 11)) :: p.1, p.2)
theorem lf_ge {b : Int} (h0 : 0 ≤ b) (h1 : b ≤ 832) (hm : b % 52 ≤ 41) (h : b ≠ 832) : 11 ≤ lf b ∧ lf b ≤ 208 ∧ b + lf b ≤ 832 ∧ (b + lf b) % 208 = 0 := by
  unfold lf
  rw [if_neg h]
  omega
theorem bg_block {b : Int} (h : b % 208 = 0) : bg b = b := by
  unfold bg
  rw [if_neg (by omega)]
def pc (f l : Bool) : Int := if f then (if l then 1 else 2) else (if l then 4 else 3)
def mkP : Bool → List (Int × Int × Int) → List S99
  | _, [] => []
  | f, [t] => [⟨t.1, pc f true, t.2.1, t.2.2⟩]
  | f, t :: u :: rest => ⟨t.1, pc f false, t.2.1, t.2.2⟩ :: mkP false (u :: rest)
def Chain : List (Int × Int × Int) → Int → Int → Prop
  | [], from_, n => from_ = n
  | t :: rest, from_, n => t.2.1 = from_ ∧ from_ ≤ t.2.2 ∧ t.2.2 ≤ n ∧ 0 ≤ t.1 ∧ t.1 < 832 ∧ 11 + (t.2.2 - from_) ≤ lf t.1 ∧ Chain rest t.2.2 n
theorem cutS_ne {m : Nat} {at_ n from_ : Int} {p : List (Int × Int × Int) × Int} (h : cutS m at_ n from_ = some p) : p.1 ≠ [] := by
  cases m with
  | zero => cases h
  | succ m =>
    unfold cutS at h
    split at h
    · cases h
    · split at h
      · obtain rfl := Option.some.inj h
        simp
      · obtain ⟨q, _, rfl⟩ := Option.map_eq_some_iff.mp h
        simp
theorem cutS_len {m : Nat} : ∀ {at_ n from_ : Int} {p : List (Int × Int × Int) × Int}, cutS m at_ n from_ = some p → p.1.length ≤ m := by
  induction m with
  | zero => intro _ _ _ _ h; cases h
  | succ m ih =>
    intro at_ n from_ p h
    unfold cutS at h
    split at h
    · cases h
    · split at h
      · obtain rfl := Option.some.inj h
        simp
      · obtain ⟨q, hq, rfl⟩ := Option.map_eq_some_iff.mp h
        have := ih hq
        simp
        omega
theorem cutS_chain {m : Nat} : ∀ {at_ n from_ : Int} {p : List (Int × Int × Int) × Int}, from_ ≤ n → cutS m at_ n from_ = some p → Chain p.1 from_ n := by
  induction m with
  | zero => intro _ _ _ _ _ h; cases h
  | succ m ih =>
    intro at_ n from_ p hn h
    have h0 := cl_lo at_
    have h1 := cl_hi at_
    have hb0 := bg_lo h0
    have hb1 := bg_hi h1
    have hbm := bg_mod (cl at_)
    unfold cutS at h
    split at h
    · cases h
    · rename_i h8
      obtain ⟨l1, l2, l3, l4⟩ := lf_ge hb0 hb1 hbm h8
      split at h
      · obtain rfl := Option.some.inj h
        simp only [Chain]
        refine ⟨trivial, hn, Int.le_refl _, hb0, by omega, by omega, trivial⟩
      · obtain ⟨q, hq, rfl⟩ := Option.map_eq_some_iff.mp h
        simp only [Chain]
        exact ⟨trivial, by omega, by omega, hb0, by omega, by omega, ih (by omega) hq⟩
theorem cutS_bound {m : Nat} : ∀ {at_ n from_ : Int} {p : List (Int × Int × Int) × Int}, from_ ≤ cl at_ → from_ ≤ n → cutS m at_ n from_ = some p → n ≤ 821 ∧ 0 ≤ p.2 ∧ p.2 ≤ 832 := by
  induction m with
  | zero => intro _ _ _ _ _ _ h; cases h
  | succ m ih =>
    intro at_ n from_ p hf hn h
    have h0 := cl_lo at_
    have h1 := cl_hi at_
    have hb0 := bg_lo h0
    have hb1 := bg_hi h1
    have hbm := bg_mod (cl at_)
    have hbg := bg_ge (cl at_)
    unfold cutS at h
    split at h
    · cases h
    · rename_i h8
      obtain ⟨l1, l2, l3, l4⟩ := lf_ge hb0 hb1 hbm h8
      split at h
      · obtain rfl := Option.some.inj h
        simp only
        omega
      · obtain ⟨q, hq, rfl⟩ := Option.map_eq_some_iff.mp h
        exact ih (at_ := bg (cl at_) + lf (bg (cl at_))) (from_ := from_ + (lf (bg (cl at_)) - 11)) (p := q) (by rw [cl_in (by omega) l3]; omega) (by omega) hq
def rm : Nat → Int → Int
  | 0, _ => 0
  | m + 1, b => if b = 832 then 0 else lf b - 11 + rm m (b + lf b)
theorem rm_lo (m : Nat) : ∀ b : Int, 0 ≤ b → b ≤ 832 → b % 52 ≤ 41 → 0 ≤ rm m b ∧ rm m b ≤ 832 - b := by
  induction m with
  | zero => intro b h0 h1 h2; unfold rm; omega
  | succ m ih =>
    intro b h0 h1 h2
    unfold rm
    split
    · omega
    · rename_i h8
      obtain ⟨l1, l2, l3, l4⟩ := lf_ge h0 h1 h2 h8
      have := ih (b + lf b) (by omega) l3 (by omega)
      omega
theorem cutS_some (m : Nat) : ∀ (at_ n from_ : Int), from_ ≤ n → (cutS m at_ n from_).isSome = decide (0 < m ∧ bg (cl at_) ≠ 832 ∧ n - from_ ≤ rm m (bg (cl at_))) := by
  induction m with
  | zero => intro at_ n from_ _; simp [cutS]
  | succ m ih =>
    intro at_ n from_ hn
    have h0 := cl_lo at_
    have h1 := cl_hi at_
    have hb0 := bg_lo h0
    have hb1 := bg_hi h1
    have hbm := bg_mod (cl at_)
    unfold cutS rm
    by_cases h8 : bg (cl at_) = 832
    · rw [if_pos h8]
      simp [h8]
    · obtain ⟨l1, l2, l3, l4⟩ := lf_ge hb0 hb1 hbm h8
      have hr := rm_lo m (bg (cl at_) + lf (bg (cl at_))) (by omega) l3 (by omega)
      rw [if_neg h8, if_neg h8]
      by_cases hc : n ≤ from_ + (lf (bg (cl at_)) - 11)
      · rw [if_pos hc]
        simp only [Option.isSome_some]
        symm
        apply decide_eq_true
        exact ⟨by omega, h8, by omega⟩
      · rw [if_neg hc, Option.isSome_map, ih _ _ _ (by omega)]
        rw [cl_in (a := bg (cl at_) + lf (bg (cl at_))) (by omega) l3, bg_block l4]
        rw [decide_eq_decide]
        constructor
        · rintro ⟨h2, h3, h4⟩
          exact ⟨by omega, h8, by omega⟩
        · rintro ⟨h2, h3, h4⟩
          cases m with
          | zero => unfold rm at h4; omega
          | succ m =>
            by_cases h9 : bg (cl at_) + lf (bg (cl at_)) = 832
            · unfold rm at h4
              rw [if_pos h9] at h4
              omega
            · exact ⟨by omega, h9, by omega⟩
theorem kind_eq (k : Nat) (hk : 1 < k) (f l : Bool) : cut_kind.f k f l = some (pc f l) := by
  obtain ⟨k, rfl⟩ : ∃ m, k = m + 2 := ⟨k - 2, by omega⟩
  unfold cut_kind.f pc
  cases f <;> cases l <;> simp [cut_kind.j0]
theorem next_eq (k : Nat) (hk : 1 < k) (at_ n from_ : Int) (out : List S99) (hn0 : 0 ≤ from_) (hn : from_ ≤ n) (hn2 : n ≤ 832) (ho : out.length < 1000) :
    cut_next.f k at_ n from_ out = some (if bg (cl at_) = 832 then none else
      if n ≤ from_ + (lf (bg (cl at_)) - 11) then some (bg (cl at_) + 11 + (n - from_), n, out ++ [⟨bg (cl at_), pc ((out.length : Int) == 0) true, from_, n⟩])
      else some (bg (cl at_) + lf (bg (cl at_)), from_ + (lf (bg (cl at_)) - 11), out ++ [⟨bg (cl at_), pc ((out.length : Int) == 0) false, from_, from_ + (lf (bg (cl at_)) - 11)⟩])) := by
  have h0 := cl_lo at_
  have h1 := cl_hi at_
  have hb0 := bg_lo h0
  have hb1 := bg_hi h1
  have hbm := bg_mod (cl at_)
  unfold cut_next.f
  rw [begin_eq]
  simp only [Option.bind_some]
  rw [left_eq, cl_in hb0 hb1]
  simp only [Option.bind_some]
  by_cases h8 : bg (cl at_) = 832
  · rw [if_pos h8, h8, show lf 832 = 0 from rfl, if_pos (by rw [w64 (by decide) (by decide)]; decide)]
  · obtain ⟨l1, l2, l3, l4⟩ := lf_ge hb0 hb1 hbm h8
    rw [if_neg h8, w64 (n := lf (bg (cl at_)) - 11) (by omega) (by omega), if_neg (by omega), w64 (n := from_ + (lf (bg (cl at_)) - 11)) (by omega) (by omega), kind_eq k hk]
    simp only [Option.bind_some]
    rw [if_pos (by omega)]
    by_cases hc : n ≤ from_ + (lf (bg (cl at_)) - 11)
    · have e : mn n (from_ + (lf (bg (cl at_)) - 11)) = n := by unfold mn; rw [if_neg (by omega)]
      rw [if_pos hc, e, show (n == n) = true by simp, w64 (n := bg (cl at_) + 11) (by omega) (by omega), w64 (n := bg (cl at_) + 11 + n) (by omega) (by omega), w64 (by omega) (by omega), show bg (cl at_) + 11 + n - from_ = bg (cl at_) + 11 + (n - from_) by omega]
    · have e : mn n (from_ + (lf (bg (cl at_)) - 11)) = from_ + (lf (bg (cl at_)) - 11) := by unfold mn; rw [if_pos (by omega)]
      rw [if_neg hc, e, show (from_ + (lf (bg (cl at_)) - 11) == n) = false by rw [beq_eq_false_iff_ne]; omega, w64 (n := bg (cl at_) + 11) (by omega) (by omega), w64 (n := bg (cl at_) + 11 + (from_ + (lf (bg (cl at_)) - 11))) (by omega) (by omega), w64 (by omega) (by omega), show bg (cl at_) + 11 + (from_ + (lf (bg (cl at_)) - 11)) - from_ = bg (cl at_) + lf (bg (cl at_)) by omega]
def cutR (out : List S99) : Option (List (Int × Int × Int) × Int) → List S99 × Int × Bool
  | none => ([], 0, false)
  | some p => (out ++ mkP ((out.length : Int) == 0) p.1, p.2, true)
theorem cut_l (m : Nat) : ∀ (k : Nat) (at_ n from_ : Int) (out : List S99), m + 2 < k → 0 ≤ from_ → from_ ≤ n → n ≤ 832 → out.length + m < 1000 → 832 - bg (cl at_) ≤ 208 * m → (out = [] ∨ from_ < n) →
    cut_Cut.l0 k at_ n from_ out = some (cutR out (cutS m at_ n from_)) := by
  induction m with
  | zero =>
    intro k at_ n from_ out hk h0 hn hn2 ho hm hor
    have h1 := cl_hi at_
    have hb1 := bg_hi h1
    obtain ⟨k, rfl⟩ : ∃ j, k = j + 1 := ⟨k - 1, by omega⟩
    simp only [cut_Cut.l0]
    rw [if_pos (by rcases hor with rfl | h <;> simp [*]), next_eq k (by omega) at_ n from_ out h0 hn hn2 (by omega), if_pos (by omega)]
    simp only [Option.bind_some, Option.elim_none]
    rfl
  | succ m ih =>
    intro k at_ n from_ out hk h0 hn hn2 ho hm hor
    have c0 := cl_lo at_
    have c1 := cl_hi at_
    have hb0 := bg_lo c0
    have hb1 := bg_hi c1
    have hbm := bg_mod (cl at_)
    obtain ⟨k, rfl⟩ : ∃ j, k = j + 1 := ⟨k - 1, by omega⟩
    simp only [cut_Cut.l0]
    rw [if_pos (by rcases hor with rfl | h <;> simp [*]), next_eq k (by omega) at_ n from_ out h0 hn hn2 (by omega)]
    unfold cutS
    by_cases h8 : bg (cl at_) = 832
    · rw [if_pos h8, if_pos h8]
      rfl
    · obtain ⟨l1, l2, l3, l4⟩ := lf_ge hb0 hb1 hbm h8
      rw [if_neg h8, if_neg h8]
      by_cases hc : n ≤ from_ + (lf (bg (cl at_)) - 11)
      · rw [if_pos hc, if_pos hc]
        simp only [Option.bind_some, Option.elim_some]
        obtain ⟨k, rfl⟩ : ∃ j, k = j + 1 := ⟨k - 1, by omega⟩
        simp only [cut_Cut.l0]
        rw [if_neg (by simp; omega)]
        rfl
      · rw [if_neg hc, if_neg hc]
        simp only [Option.bind_some, Option.elim_some]
        rw [ih k _ n _ _ (by omega) (by omega) (by omega) hn2 (by simp; omega) (by rw [cl_in (by omega) l3, bg_block l4]; omega) (.inr (by omega))]
        cases hs : cutS m (bg (cl at_) + lf (bg (cl at_))) n (from_ + (lf (bg (cl at_)) - 11)) with
        | none => rfl
        | some p =>
          simp only [Option.map_some, cutR]
          obtain ⟨t, rest, ht⟩ : ∃ t rest, p.1 = t :: rest := by
            cases hp : p.1 with
            | nil => exact absurd hp (cutS_ne hs)
            | cons t rest => exact ⟨t, rest, rfl⟩
          rw [ht, show (((out ++ [(⟨bg (cl at_), pc ((out.length : Int) == 0) false, from_, from_ + (lf (bg (cl at_)) - 11)⟩ : S99)]).length : Int) == 0) = false by rw [beq_eq_false_iff_ne]; simp; omega]
          simp [mkP]
/-- What cut.Cut answers. -/
def cutP (at_ n : Int) : List S99 × Int × Bool := if n < 0 ∨ 832 < n then ([], 0, false) else cutR [] (cutS 4 at_ n 0)
theorem cut_eq (k : Nat) (hk : 6 < k) (at_ n : Int) : cut_Cut.f k at_ n = some (cutP at_ n) := by
  have c0 := cl_lo at_
  have hb0 := bg_lo c0
  unfold cut_Cut.f cutP
  by_cases h1 : n < 0
  · rw [if_pos h1, if_pos (.inl h1)]
  · by_cases h2 : 832 < n
    · rw [if_neg h1, if_pos h2, if_pos (.inr h2)]
    · rw [if_neg h1, if_neg (by omega), if_neg (by omega)]
      exact cut_l 4 k at_ n 0 [] (by omega) (by omega) (by omega) (by omega) (by simp) (by omega) (.inl rfl)
theorem mkP_len (f : Bool) (ps : List (Int × Int × Int)) : (mkP f ps).length = ps.length := by
  induction ps generalizing f with
  | nil => cases f <;> rfl
  | cons t rest ih =>
    cases rest with
    | nil => rfl
    | cons u rest => simp only [mkP, List.length_cons]; rw [ih]; rfl
theorem mkP_drop (ps : List (Int × Int × Int)) : ∀ (f : Bool) (i : Nat) (h : i < ps.length), ∃ kd : Int, (mkP f ps)[i]? = some ⟨(ps[i]).1, kd, (ps[i]).2.1, (ps[i]).2.2⟩ := by
  induction ps with
  | nil => intro f i h; simp at h
  | cons t rest ih =>
    intro f i h
    cases rest with
    | nil =>
      have : i = 0 := by simp at h; omega
      subst this
      exact ⟨_, rfl⟩
    | cons u rest =>
      cases i with
      | zero => exact ⟨_, rfl⟩
      | succ i =>
        obtain ⟨kd, hk⟩ := ih false i (by simpa using h)
        exact ⟨kd, by simpa [mkP] using hk⟩
def fragP (e : Int) (data : List Int) (p : S99) : S37 := ⟨p.f1, e, (data.take p.f3.toNat).drop p.f2.toNat⟩
def Fit (data : List Int) (l : List S99) : Prop := ∀ i : Nat, i < l.length → 0 ≤ (rd_T99 l i).f2 ∧ (rd_T99 l i).f2 ≤ (rd_T99 l i).f3 ∧ (rd_T99 l i).f3 ≤ (data.length : Int)
theorem rd_at (l : List S99) (i : Nat) (h : i < l.length) : l[i] = rd_T99 l i := by
  unfold rd_T99
  rw [List.getD_eq_getElem?_getD, Int.toNat_natCast, List.getElem?_eq_getElem h]
  rfl
theorem frags_l (e : Int) (data : List Int) (l : List S99) (hd : data.length < 140737488355328) (hl : l.length < 1000) (hf : Fit data l) (d : Nat) : ∀ (k i : Nat) (acc : List S37), i ≤ l.length → acc.length = i → l.length - i = d → d < k →
    cut_Frags.l0 k e data acc l (l.length : Int) i = some (acc ++ (l.drop i).map (fragP e data), true) := by
  induction d with
  | zero =>
    intro k i acc h1 ha hd hk
    obtain ⟨k, rfl⟩ : ∃ j, k = j + 1 := ⟨k - 1, by omega⟩
    simp only [cut_Frags.l0]
    rw [if_neg (by omega), List.drop_eq_nil_of_le (by omega)]
    simp
  | succ d ih =>
    intro k i acc h1 ha hd2 hk
    obtain ⟨k, rfl⟩ : ∃ j, k = j + 1 := ⟨k - 1, by omega⟩
    simp only [cut_Frags.l0]
    have hlt : i < l.length := by omega
    obtain ⟨f1, f2, f3⟩ := hf i hlt
    rw [if_pos (by omega), if_pos (by omega), if_pos (by omega)]
    simp only [Option.bind_some, List.nil_append, List.length_nil, Nat.zero_add]
    rw [if_pos f1, if_pos f2, if_pos f3, if_pos (by simp; omega), if_pos (by omega), w64 (n := (i : Int) + 1) (by omega) (by omega)]
    have hr := ih k (i + 1) (acc ++ [fragP e data (rd_T99 l i)]) (by omega) (by simp [ha]) (by omega) (by omega)
    rw [List.drop_eq_getElem_cons hlt, List.map_cons, rd_at l i hlt]
    rw [List.append_assoc] at hr
    exact hr
theorem chain_all (n : Int) : ∀ (ps : List (Int × Int × Int)) (from_ : Int), 0 ≤ from_ → Chain ps from_ n → ∀ t ∈ ps, 0 ≤ t.2.1 ∧ t.2.1 ≤ t.2.2 ∧ t.2.2 ≤ n := by
  intro ps
  induction ps with
  | nil => intro _ _ _ t ht; cases ht
  | cons u rest ih =>
    intro from_ h0 hc t ht
    obtain ⟨h1, h2, h3, h4, h5, h6, h7⟩ := hc
    rcases List.mem_cons.1 ht with rfl | ht
    · exact ⟨by omega, by omega, h3⟩
    · exact ih u.2.2 (by omega) h7 t ht
theorem cutP_fit (at_ : Int) (data : List Int) : Fit data (cutP at_ (data.length : Int)).1 := by
  intro i hi
  revert hi
  unfold cutP
  split
  · intro hi; simp at hi
  · cases hs : cutS 4 at_ (data.length : Int) 0 with
    | none => intro hi; simp [cutR] at hi
    | some p =>
      simp only [cutR, List.nil_append]
      intro hi
      rw [mkP_len] at hi
      have hc := chain_all _ p.1 0 (Int.le_refl _) (cutS_chain (by omega) hs) _ (List.getElem_mem hi)
      obtain ⟨kd, hk⟩ := mkP_drop p.1 ((([] : List S99).length : Int) == 0) i hi
      have e : rd_T99 (mkP ((([] : List S99).length : Int) == 0) p.1) (i : Int) = ⟨(p.1[i]).1, kd, (p.1[i]).2.1, (p.1[i]).2.2⟩ := by
        unfold rd_T99
        rw [List.getD_eq_getElem?_getD, Int.toNat_natCast, hk]
        rfl
      rw [e]
      exact hc
theorem cutP_len (at_ n : Int) : (cutP at_ n).1.length ≤ 4 := by
  unfold cutP
  split
  · simp
  · cases hs : cutS 4 at_ n 0 with
    | none => simp [cutR]
    | some p =>
      have := cutS_len hs
      simp only [cutR, List.nil_append, mkP_len]
      exact this
/-- What cut.Frags answers. -/
def fragsP (e at_ : Int) (data : List Int) : List S37 × Bool := ((cutP at_ (data.length : Int)).1.map (fragP e data), (cutP at_ (data.length : Int)).2.2)
theorem cutP_no (at_ n : Int) (h : (cutP at_ n).2.2 = false) : (cutP at_ n).1 = [] := by
  revert h
  unfold cutP
  split
  · intro _; rfl
  · cases hs : cutS 4 at_ n 0 with
    | none => intro _; rfl
    | some p => intro h; cases h
theorem frags_eq (k : Nat) (hk : 10 < k) (e at_ : Int) (data : List Int) (hd : data.length < 140737488355328) : cut_Frags.f k e at_ data = some (fragsP e at_ data) := by
  unfold cut_Frags.f fragsP
  rw [cut_eq k (by omega)]
  simp only [Option.bind_some]
  have hl := cutP_len at_ (data.length : Int)
  by_cases h : (cutP at_ (data.length : Int)).2.2 = true
  · rw [if_pos h, h]
    have := frags_l e data (cutP at_ (data.length : Int)).1 hd (by omega) (cutP_fit at_ data) (cutP at_ (data.length : Int)).1.length k 0 [] (by omega) rfl (by omega) (by omega)
    simpa using this
  · have h2 : (cutP at_ (data.length : Int)).2.2 = false := by simpa using h
    rw [if_neg h, h2, cutP_no at_ _ h2]
    rfl
abbrev Pc := S99
/-- one piece is right: it lies in the body, its fragment is one -/
def PcOk (data : List Int) (p : Pc) : Prop := 0 ≤ p.f0 ∧ p.f0 < 832 ∧ (1 ≤ p.f1 ∧ p.f1 ≤ 4) ∧ 0 ≤ p.f2 ∧ p.f2 ≤ p.f3 ∧ p.f3 ≤ data.length ∧ p.f3 - p.f2 ≤ 197 ∧ p.f0 + 11 + (p.f3 - p.f2) ≤ 832
theorem pc_kind (f l : Bool) : 1 ≤ pc f l ∧ pc f l ≤ 4 := by cases f <;> cases l <;> decide
theorem lf_fit {b : Int} (h0 : 0 ≤ b) (h1 : b < 832) : lf b ≤ 208 ∧ b + lf b ≤ 832 := by
  unfold lf
  rw [if_neg (by omega)]
  omega
theorem chain_ok (n : Int) (data : List Int) (hn : n ≤ data.length) : ∀ (ps : List (Int × Int × Int)) (from_ : Int) (f : Bool), 0 ≤ from_ → Chain ps from_ n → ∀ p ∈ mkP f ps, PcOk data p := by
  intro ps
  induction ps with
  | nil => intro _ _ _ _ p hp; cases hp
  | cons t rest ih =>
    intro from_ f h0 hc p hp
    obtain ⟨h1, h2, h3, h4, h5, h6, h7⟩ := hc
    obtain ⟨l1, l2⟩ := lf_fit h4 h5
    cases rest with
    | nil =>
      simp only [mkP, List.mem_singleton] at hp
      subst hp
      exact ⟨h4, h5, pc_kind _ _, by simp only; omega, by simp only; omega, by simp only; omega, by simp only; omega, by simp only; omega⟩
    | cons u rest =>
      simp only [mkP, List.mem_cons] at hp
      rcases hp with rfl | hp
      · exact ⟨h4, h5, pc_kind _ _, by simp only; omega, by simp only; omega, by simp only; omega, by simp only; omega, by simp only; omega⟩
      · exact ih t.2.2 false (by omega) h7 p hp
theorem cutP_pcs (at_ : Int) (data : List Int) : ∀ p ∈ (cutP at_ (data.length : Int)).1, PcOk data p := by
  unfold cutP
  split
  · intro p hp; simp at hp
  · cases hs : cutS 4 at_ (data.length : Int) 0 with
    | none => intro p hp; simp [cutR] at hp
    | some q =>
      simp only [cutR, List.nil_append]
      exact chain_ok _ data (Int.le_refl _) q.1 0 _ (Int.le_refl _) (cutS_chain (by omega) hs)
/-- the bytes of a piece's fragment -/
def pcE (ep : Int) (data : List Int) (p : Pc) : List Int := encL p.f1 ep ((data.take p.f3.toNat).drop p.f2.toNat)
theorem pcE_len {ep : Int} {data : List Int} {p : Pc} (h : PcOk data p) : (pcE ep data p).length = 11 + (p.f3 - p.f2).toNat := by
  obtain ⟨h1, h2, h3, h4, h5, h6, h7, h8⟩ := h
  unfold pcE
  rw [encL_len, List.length_drop, List.length_take]
  omega
/-- a piece laid into the body -/
def layP (ep : Int) (data : List Int) (cur : List Int) (p : Pc) : List Int := splice cur p.f0.toNat (pcE ep data p)
def layA (ep : Int) (data : List Int) (ps : List Pc) (cur : List Int) : List Int := ps.foldl (layP ep data) cur
theorem layP_len {ep : Int} {data cur : List Int} {p : Pc} (h : PcOk data p) (hc : cur.length = 832) : (layP ep data cur p).length = 832 := by
  have hl := pcE_len (ep := ep) h
  obtain ⟨h1, h2, h3, h4, h5, h6, h7, h8⟩ := h
  unfold layP splice
  simp [hl]
  omega
theorem layA_len {ep : Int} {data : List Int} : ∀ (ps : List Pc) (cur : List Int), (∀ p ∈ ps, PcOk data p) → cur.length = 832 → (layA ep data ps cur).length = 832 := by
  intro ps
  induction ps with
  | nil => intro cur _ hc; exact hc
  | cons p ps ih => intro cur hp hc; exact ih _ (fun q hq => hp q (List.mem_cons_of_mem _ hq)) (layP_len (hp p (List.mem_cons_self ..)) hc)
theorem layA_take {ep : Int} {data : List Int} (ps : List Pc) (cur : List Int) (i : Nat) (h : i < ps.length) : layA ep data (ps.take (i + 1)) cur = layP ep data (layA ep data (ps.take i) cur) ps[i] := by
  unfold layA
  rw [List.take_add_one, List.foldl_append, List.getElem?_eq_getElem h]
  rfl
theorem bytes_splice {cur ys : List Int} (o : Nat) (hc : Bytes cur) (hy : Bytes ys) : Bytes (splice cur o ys) := bytes_append (bytes_take hc _) (bytes_append hy (bytes_drop hc _))
theorem layA_bytes {ep : Int} {data : List Int} (hd : Bytes data) : ∀ (ps : List Pc) (cur : List Int), (∀ p ∈ ps, PcOk data p) → Bytes cur → Bytes (layA ep data ps cur) := by
  intro ps
  induction ps with
  | nil => intro cur _ hc; exact hc
  | cons p ps ih =>
    intro cur hp hc
    have h := hp p (List.mem_cons_self ..)
    exact ih _ (fun q hq => hp q (List.mem_cons_of_mem _ hq)) (bytes_splice _ hc (encL_bytes (by have := h.2.2.1; omega) (bytes_drop (bytes_take hd _) _)))
/-- a body of 832 bytes out of any bytes -/
def base (b : List Int) : List Int := b.take 832 ++ zs (832 - b.length)
theorem base_len (b : List Int) : (base b).length = 832 := by
  unfold base zs
  rw [List.length_append, List.length_take, List.length_replicate]
  omega
theorem base_bytes {b : List Int} (h : Bytes b) : Bytes (base b) := bytes_append (bytes_take h _) (bytes_zs _)
theorem base_id {b : List Int} (h : b.length = 832) : base b = b := by
  unfold base
  rw [List.take_of_length_le (by omega), h]
  simp [zs]
/-- What image.Add answers: body, end, whether it fits. -/
def addB (e64 : Int) (body : List Int) (at_ : Int) (data : List Int) : List Int := layA (e64 % 4294967296) data (cutP at_ (data.length : Int)).1 (base body)
theorem addB_len (e64 : Int) (body : List Int) (at_ : Int) (data : List Int) : (addB e64 body at_ data).length = 832 := layA_len _ _ (cutP_pcs at_ data) (base_len body)
theorem addB_bytes (e64 : Int) {body : List Int} (at_ : Int) {data : List Int} (hb : Bytes body) (hd : Bytes data) : Bytes (addB e64 body at_ data) := layA_bytes hd _ _ (cutP_pcs at_ data) (base_bytes hb)
theorem base_copy (b : List Int) : splice (zs 832) 0 (b.take (min b.length 832)) = base b := by
  unfold splice base zs
  have hl : (b.take (min b.length 832)).length = min b.length 832 := by rw [List.length_take]; omega
  rw [List.take_zero, List.nil_append, Nat.zero_add, hl, List.drop_replicate]
  congr 1
  · by_cases h : b.length ≤ 832
    · rw [Nat.min_eq_left h, List.take_of_length_le (Nat.le_refl _), List.take_of_length_le h]
    · rw [Nat.min_eq_right (by omega)]
  · congr 1
    omega
end Go.Proofs.YthhbilkmdfdfiaaDoor.Img
end

section
/- append onto a full slice that is no row of one's own; nothing appended; what is restarted. -/
namespace Go.Proofs.YthhbilkmdfdfiaaDoor.O
open Go.RowKit Go.Proofs.YthhbilkmdfdfiaaDoorW.PrintWords Go.Proofs.YthhbilkmdfdfiaaDoorW.PrintLast Go.Proofs.YthhbilkmdfdfiaaDoorW.PrintMore Go.Proofs.YthhbilkmdfdfiaaDoor.F
set_option linter.unusedVariables false
set_option linter.unusedSimpArgs false
section
variable {P : Program} {o : Oper} {a : Act} {K : Act → World → Prop} {Q : Exit → Act → World → Prop} {w0 W : World} {F : Nat → Option Obj} {L : List Res} {c : Res → List Res} {ops : Array Oper} {rest : List Oper}
/-- onto a full slice: a new row -/
theorem w_appendFull (H : Own w0 F L W) (s x : Operand) (t e : TypeId) (ho : o.op = .call { callee := .builtin .append, args := #[s, x], argTypes := #[t, t] }) (ht : P.underlying t = some (.slice e)) (z : Value) (size bytes : Nat)
    (hinfo : (P.info? e).map (fun i => (i.zero, i.size, i.bytes)) = some (some z, size, bytes)) (hz : z.cells.size = size) (hs0 : 0 < size) (hb0 : 0 < bytes) (b : Addr) (n : Nat) (olds : List Value) (hs : a.eval s = .slice (some b) n n) (hlo : olds.length = n * size) (holds : ∀ j u, olds[j]? = some u → W.cell? (b.add j) = some u)
    (A : Option Addr) (m cc : Nat) (news : List Value) (hx : a.eval x = .slice A m cc) (hm : 0 < m) (hl : news.length = m * size) (hR : Rd W A news) (hbytes : (n + m) * bytes ≤ 140737488355328)
    (h : ∀ v' W', Own w0 F (.row v' e size (n + m) (olds ++ news) :: L) W' → K (a.put o.dst v') W') : o.wp P a W K Q := by
  obtain ⟨i, hi, hzz⟩ := Option.map_eq_some_iff.1 hinfo
  simp only [Prod.mk.injEq] at hzz
  obtain ⟨hz0, hz1, hz2⟩ := hzz
  have hlen : n + m ≤ 140737488355328 := Nat.le_trans (Nat.le_mul_of_pos_right _ hb0) hbytes
  obtain ⟨ad, rfl, hc⟩ := hR (by rw [hl]; exact Nat.mul_pos hm hs0)
  obtain ⟨v1, w1, hrun, h2, hg⟩ := run_append_arg_grows (P := P) W t o.type e i z size bytes ht hi hz0 hz1 hz2 hz hs0 b n n olds hlo holds ad m cc news hl (fun j u hj => hc j u hj) (by omega) (by simp only [maxLen]; omega) hbytes
  unfold Oper.wp execOp
  simp only [ho, resolve, invoke, builtin, Sem.run_bind, Sem.run_pure, Result.andThen_ok, List.map_toArray, List.map_cons, List.map_nil, hs, hx, hrun]
  exact h _ _ (H.cons ⟨hg.os, hg.tape, hg.output, hg.size, fun k hk => hg.block k hk (by simp)⟩ (own_weaken h2 H.size) (fun k hk => own_base h2 k hk))
theorem l_appendFull (hgd : o.guard = none) (H : Own w0 F L W) (s x : Operand) (t e : TypeId) (ho : o.op = .call { callee := .builtin .append, args := #[s, x], argTypes := #[t, t] }) (ht : P.underlying t = some (.slice e)) (z : Value) (size bytes : Nat)
    (hinfo : (P.info? e).map (fun i => (i.zero, i.size, i.bytes)) = some (some z, size, bytes)) (hz : z.cells.size = size) (hs0 : 0 < size) (hb0 : 0 < bytes) (b : Addr) (n : Nat) (olds : List Value) (hs : a.eval s = .slice (some b) n n) (hlo : olds.length = n * size) (holds : ∀ j u, olds[j]? = some u → W.cell? (b.add j) = some u)
    (A : Option Addr) (m cc : Nat) (news : List Value) (hx : a.eval x = .slice A m cc) (hm : 0 < m) (hl : news.length = m * size) (hR : Rd W A news) (hbytes : (n + m) * bytes ≤ 140737488355328)
    (h : ∀ v' W', Own w0 F (.row v' e size (n + m) (olds ++ news) :: L) W' → wpList P ops Q rest (a.put o.dst v') W') : wpList P ops Q (o :: rest) a W :=
  wpList_plain hgd fun K hK => w_appendFull H s x t e ho ht z size bytes hinfo hz hs0 hb0 b n olds hs hlo holds A m cc news hx hm hl hR hbytes (fun v' W' H' => hK _ _ (h v' W' H'))
/-- nothing is appended: the slice as it was -/
theorem w_append0 (s x : Operand) (t e : TypeId) (ho : o.op = .call { callee := .builtin .append, args := #[s, x], argTypes := #[t, t] }) (ht : P.underlying t = some (.slice e)) (hinfo : ((P.info? e).map (·.size)).isSome = true) (b : Addr) (n cap : Nat) (hnc : n ≤ cap) (hs : a.eval s = .slice (some b) n cap) (A : Option Addr) (cc : Nat) (hx : a.eval x = .slice A 0 cc)
    (h : K (a.put o.dst (.slice (some b) n cap)) W) : o.wp P a W K Q := by
  obtain ⟨q, hq⟩ := Option.isSome_iff_exists.1 hinfo
  obtain ⟨i, hi, hq2⟩ := Option.map_eq_some_iff.1 hq
  have hrun : (Builtin.append_ #[t, t] o.type #[.slice (some b) n cap, .slice A 0 cc]).run P W = .ok (.slice (some b) n cap) W := by
    cases A <;> simp [Builtin.append_, run_underlying ht, sizeOf, typeInfo, hi, Builtin.lenOf, Builtin.firstCells, hnc, storeCells, loadCells, loadCellsFrom]
  unfold Oper.wp execOp
  simp only [ho, resolve, invoke, builtin, Sem.run_bind, Sem.run_pure, Result.andThen_ok, List.map_toArray, List.map_cons, List.map_nil, hs, hx, hrun]
  exact h
theorem l_append0 (hgd : o.guard = none) (s x : Operand) (t e : TypeId) (ho : o.op = .call { callee := .builtin .append, args := #[s, x], argTypes := #[t, t] }) (ht : P.underlying t = some (.slice e)) (hinfo : ((P.info? e).map (·.size)).isSome = true) (b : Addr) (n cap : Nat) (hnc : n ≤ cap) (hs : a.eval s = .slice (some b) n cap) (A : Option Addr) (cc : Nat) (hx : a.eval x = .slice A 0 cc)
    (h : wpList P ops Q rest (a.put o.dst (.slice (some b) n cap)) W) : wpList P ops Q (o :: rest) a W :=
  wpList_plain hgd fun K hK => w_append0 s x t e ho ht hinfo b n cap hnc hs A cc hx (hK _ _ h)
theorem In.to {L : List Res} {r : Res} {c : Res → List Res} (h : In L r c) (r' : Res) : In (c r') r' c := by
  induction h with
  | head => exact .head
  | tail h ih => exact .tail ih
theorem splice_take {α : Type} (cur ys : List α) (n : Nat) (h : ys.length ≤ n) (hn : n ≤ cur.length) : (splice cur 0 ys).take n = splice (cur.take n) 0 ys := by
  unfold splice
  simp only [List.take_zero, List.nil_append, Nat.zero_add]
  rw [List.take_append, List.drop_take, List.take_of_length_le h]
/-- copy into the beginning of a row of one's own -/
theorem w_copyRow (H : Own w0 F L W) (d s : Operand) (dT sT : TypeId) (ho : o.op = .call { callee := .builtin .copy, args := #[d, s], argTypes := #[dT, sT] }) (elem : TypeId) (hu : P.underlying dT = some (.slice elem)) (hsz : (P.info? elem).map (·.size) = some 1)
    (A0 : Option Addr) (dLen dCap n cap e : Nat) (hd : a.eval d = .slice A0 dLen dCap) {xs : List Int} (hI : In L (.row (.slice A0 n cap) e 1 n (nums .u8 xs)) c) (h0 : 0 < n) (A : Option Addr) (sLen sCap : Nat) (hs : a.eval s = .slice A sLen sCap) (ys : List Int) (hy : (Kd.int .u8).C W A sLen ys) (hfit : min sLen dLen ≤ n)
    (h : ∀ W', Own w0 F (c (.row (.slice A0 n cap) e 1 n (nums .u8 (splice xs 0 (ys.take (min sLen dLen)))))) W' → K (a.put o.dst (goInt (min sLen dLen : Nat))) W') : o.wp P a W K Q := by
  obtain ⟨g, cap', cur, e1, hnc, hm, hl, ht, H1⟩ := H.row_blk hI h0
  injection e1 with e1 e2 e3
  subst e1 e3
  have hyl : ys.length = sLen := hy.1
  refine w_copy H1 d s dT sT ho elem hu hsz g 0 dLen dCap hd (hI.to _) A sLen sCap hs (nums .u8 (ys.take (min sLen dLen))) (by rw [nums_length, List.length_take]; omega) ?_ ?_ (by omega) ?_
  · intro hp
    obtain ⟨ad, e, hc⟩ := (Rd.of_C hy) (by rw [nums_length]; omega)
    refine ⟨ad, e, fun j u hj => hc j u ?_⟩
    rw [← nums_take] at hj
    have := (List.getElem?_eq_some_iff.1 hj).1
    rw [List.length_take] at this
    rwa [List.getElem?_take_of_lt (by omega)] at hj
  · exact nums_one
  · intro W' H'
    refine h W' ?_
    refine H'.blk_row (hI.to _) hnc hm ?_ ?_
    · rw [← hl]
      have : ∀ (l : List Value) (ys : List Value), ys.length ≤ l.length → (splice l 0 ys).length = l.length := fun l ys h => by unfold splice; simp; omega
      exact this _ _ (by rw [nums_length, List.length_take]; omega)
    · rw [splice_take _ _ _ (by rw [nums_length, List.length_take]; omega) (by omega), ht]
      simp [splice, nums, List.map_take, List.map_drop]
end
section
variable {P : Program} {o : Oper} {a : Act}
theorem r_index1 (t : TypeId) (x i : Operand) (ho : o.op = .index t x i) (cs : List Value) (hx : a.eval x = .agg cs.toArray) (k : Nat) (hi : a.eval i = .int .i64 (k : Int)) {n : Nat} {e : TypeId} (hu : P.underlying t = some (.array n e)) {d : TypeDesc} (he : P.underlying e = some d) (hd : d.isRow = false)
    (hs : (P.info? e).map (·.size) = some 1) (hk : k < n) (v : Value) (hv : cs[k]? = some v) (W : World) : (execOp a.eval o).run P W = .ok (.value v) W := by
  obtain ⟨q, hq, hs⟩ := Option.map_eq_some_iff.1 hs
  have hag : (isAgg e).run P W = .ok false W := by
    unfold isAgg
    rw [Sem.run_bind, run_underlying he W]
    cases d <;> simp_all
  unfold execOp
  simp [ho, hx, hi, Instr.index, asIntOf, run_underlying hu, part, hag, sizeOf, typeInfo, hq, hs, hk, hv]
end
section
variable {P : Program} {o : Oper} {a : Act} {K : Act → World → Prop} {Q : Exit → Act → World → Prop} {w0 W : World} {F : Nat → Option Obj} {L : List Res} {c : Res → List Res} {ops : Array Oper} {rest : List Oper}
/-- a slice literal -/
theorem w_buildN (H : Own w0 F L W) (t e : TypeId) (n : Nat) (parts : Array (Nat × Operand)) (ho : o.op = .buildSlice t n parts) (ht : P.underlying t = some (.slice e)) (z : Value) (size : Nat)
    (hinfo : (P.info? e).map (fun i => (i.zero, i.size)) = some (some z, size)) (hs0 : 0 < size) (hn0 : 0 < n) (hsm : n * size ≤ 16777216) (vs : List Value) (hp : parts.toList.map (fun p => (p.1, a.eval p.2)) = (vs.zipIdx 0).map fun x => (x.2, x.1)) (hl : vs.length = n) (hv : ∀ v ∈ vs, v.cells.size = size)
    (cs : List Value) (hc : (vs.flatMap fun v => v.cells.toList) = cs)
    (h : ∀ g W', Own w0 F (.blk g e cs :: L) W' → K (a.put o.dst (.slice (some ⟨g, 0, none⟩) n n)) W') : o.wp P a W K Q := by
  obtain ⟨i, hi, hzz⟩ := Option.map_eq_some_iff.1 hinfo
  simp only [Prod.mk.injEq] at hzz
  obtain ⟨hz0, hsz⟩ := hzz
  subst hsz hc
  have hpos : 0 < n * i.size := Nat.mul_pos hn0 hs0
  refine wp_buildSlice t e n parts ho (vs.flatMap fun v => v.cells.toList).toArray i z ht hi hz0 (by omega) (by omega) ?_ (h _ _ (H.alloc e _))
  have hp' : (parts.map fun (i, x) => (i, a.eval x)).toList = (vs.zipIdx 0).map fun x => (x.2, x.1) := by
    rw [Array.toList_map]
    exact hp
  rw [hp']
  exact Great.fill_whole hs0 vs _ hv (by rw [hl]; simp)
theorem l_buildN (hgd : o.guard = none) (H : Own w0 F L W) (t e : TypeId) (n : Nat) (parts : Array (Nat × Operand)) (ho : o.op = .buildSlice t n parts) (ht : P.underlying t = some (.slice e)) (z : Value) (size : Nat)
    (hinfo : (P.info? e).map (fun i => (i.zero, i.size)) = some (some z, size)) (hs0 : 0 < size) (hn0 : 0 < n) (hsm : n * size ≤ 16777216) (vs : List Value) (hp : parts.toList.map (fun p => (p.1, a.eval p.2)) = (vs.zipIdx 0).map fun x => (x.2, x.1)) (hl : vs.length = n) (hv : ∀ v ∈ vs, v.cells.size = size)
    (cs : List Value) (hc : (vs.flatMap fun v => v.cells.toList) = cs)
    (h : ∀ g W', Own w0 F (.blk g e cs :: L) W' → wpList P ops Q rest (a.put o.dst (.slice (some ⟨g, 0, none⟩) n n)) W') : wpList P ops Q (o :: rest) a W :=
  wpList_plain hgd fun K hK => w_buildN H t e n parts ho ht z size hinfo hs0 hn0 hsm vs hp hl hv cs hc (fun g W' H' => hK _ _ (h g W' H'))
/-- copy from a string that fits -/
theorem w_copyStr (H : Own w0 F L W) (d s : Operand) (dT sT : TypeId) (ho : o.op = .call { callee := .builtin .copy, args := #[d, s], argTypes := #[dT, sT] }) (elem : TypeId) (hu : P.underlying dT = some (.slice elem)) (hsz : (P.info? elem).map (·.size) = some 1)
    (g off dLen dCap : Nat) (hd : a.eval d = .slice (some ⟨g, off, none⟩) dLen dCap) {t : TypeId} {zs : List Int} (hI : In L (.blk g t (nums .u8 zs)) c) (b : ByteArray) (hs : a.eval s = .string b) (ys : List Int) (hy : (b.data.toList.map fun x => Value.int .u8 (x.toNat : Int)) = nums .u8 ys) (hle : b.size ≤ dLen) (hfit : off + b.size ≤ zs.length)
    (h : ∀ W', Own w0 F (c (.blk g t (nums .u8 (splice zs off ys)))) W' → K (a.put o.dst (goInt (b.size : Nat))) W') : o.wp P a W K Q := by
  have hyl : ys.length = b.size := by
    have := congrArg List.length hy
    rw [List.length_map, nums_length, ← Lib.size_eq] at this
    exact this.symm
  obtain ⟨q, hq, hq2⟩ := Option.map_eq_some_iff.1 hsz
  have hth := H.there hI off b.size (by rw [nums_length]; omega)
  have hrun := run_copy_string (P := P) W dT sT o.type elem g off dLen dCap b hu (fun w => by simp [sizeOf, typeInfo, hq, hq2]) hle (fun j hj => (hth j hj).1) (fun j hj => (hth j hj).2)
  rw [hy] at hrun
  unfold Oper.wp execOp
  simp only [ho, resolve, invoke, builtin, Sem.run_bind, Sem.run_pure, Result.andThen_ok, List.map_toArray, List.map_cons, List.map_nil, hd, hs, hrun]
  refine h _ ?_
  have := H.setCells hI off (nums .u8 ys) (by rw [nums_length, nums_length]; omega)
  rw [show splice (nums .u8 zs) off (nums .u8 ys) = nums .u8 (splice zs off ys) by simp [splice, nums, List.map_take, List.map_drop]] at this
  exact this
theorem l_copyStr (hgd : o.guard = none) (H : Own w0 F L W) (d s : Operand) (dT sT : TypeId) (ho : o.op = .call { callee := .builtin .copy, args := #[d, s], argTypes := #[dT, sT] }) (elem : TypeId) (hu : P.underlying dT = some (.slice elem)) (hsz : (P.info? elem).map (·.size) = some 1)
    (g off dLen dCap : Nat) (hd : a.eval d = .slice (some ⟨g, off, none⟩) dLen dCap) {t : TypeId} {zs : List Int} (hI : In L (.blk g t (nums .u8 zs)) c) (b : ByteArray) (hs : a.eval s = .string b) (ys : List Int) (hy : (b.data.toList.map fun x => Value.int .u8 (x.toNat : Int)) = nums .u8 ys) (hle : b.size ≤ dLen) (hfit : off + b.size ≤ zs.length)
    (h : ∀ W', Own w0 F (c (.blk g t (nums .u8 (splice zs off ys)))) W' → wpList P ops Q rest (a.put o.dst (goInt (b.size : Nat))) W') : wpList P ops Q (o :: rest) a W :=
  wpList_plain hgd fun K hK => w_copyStr H d s dT sT ho elem hu hsz g off dLen dCap hd hI b hs ys hy hle hfit (fun W' H' => hK _ _ (h W' H'))
end
end Go.Proofs.YthhbilkmdfdfiaaDoor.O
end
