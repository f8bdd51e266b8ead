/- Texts of mine put together: FkSpan, Hand, Hcut. -/
import Derived.Test.YthhbilkmdfdfiaaDoorPkImageMore1
import Derived.Test.YthhbilkmdfdfiaaDoorPkImageMore4
section
/- Functions of span: what each answers, as a Lean function, and that the call answers just this. Turned out of what the kit's print told for this seat. -/
namespace Go.Proofs.YthhbilkmdfdfiaaDoor.F
open Go.RowKit Go.Proofs.YthhbilkmdfdfiaaDoorW.PrintWords Go.Proofs.YthhbilkmdfdfiaaDoorW.PrintLast Go.Proofs.YthhbilkmdfdfiaaDoorW.PrintMore
attribute [local go_sem high] eqA120
attribute [local go_sem] field120_0
attribute [local go_sem] field120_1
attribute [local go_sem] max2_int min2_int max_two min_two max_three min_three max_four min_four
set_option linter.unusedVariables false
set_option linter.unusedSimpArgs false

/-! ### span_near: function 85 -/
def span_near.f (a0 : Int) (a1 : Int) : Option (Int) := some (mx 0 (mn a0 a1))
set_option maxHeartbeats 8000000 in
set_option maxRecDepth 100000 in
theorem span_near.calls (a0 : Int) (a1 : Int) (r : Int) (w : World) (h : span_near.f a0 a1 = some r) :
    Calls Tryd.prog 85 #[.int .i64 a0, .int .i64 a1] w fun e w' => e = .returned (.int .i64 r) ∧ Below w.heap.size w w' := by
  have hu37 := Tryd.underlying37
  have hu99 := Tryd.underlying99
  have hu120 := Tryd.underlying120
  have HB := Aside0.mk (Below.refl w.heap.size w)
  have H : (some (mx 0 (mn a0 a1))) = some r := h
  clear h
  obtain ⟨ji3, hji3⟩ : ∃ j_ : Int, (mn a0 a1) = j_ := ⟨_, rfl⟩
  replace H : (some (mx 0 (ji3))) = some r := by first | (rw [hji3] at H; exact H) | (simp only [hji3] at H ⊢; exact H)
  have hji3_ : (if a1 < a0 then a1 else a0) = ji3 := hji3
  obtain ⟨ji4, hji4⟩ : ∃ j_ : Int, (mx 0 (ji3)) = j_ := ⟨_, rfl⟩
  replace H : (some ji4) = some r := by first | (rw [hji4] at H; exact H) | (simp only [hji4] at H ⊢; exact H)
  have hji4_ : (if 0 < (ji3) then (ji3) else 0) = ji4 := hji4
  obtain rfl := Option.some.inj H
  go_enter Tryd.func85, Tryd.ntmps85
  go_wp2
  go_ret
  exact ⟨by first | rfl | (simp [errW_none, errW_some] <;> rfl) | (simp only [← hji3, ← hji4]; first | rfl | (simp [errW_none, errW_some] <;> rfl)) | (simp [*, errW_none, errW_some] <;> rfl), by repeat (first | (with_reducible first | exact HB.out | apply below_alloc | apply pw_below_drewN | apply below_drew1) | exact HB.out)⟩

/-! ### span_Where: function 86 -/
def span_Where.f (a0 : Int) : Option (Int × Int) := (span_near.f a0 832).bind fun t195 => (some (wrap64 (Int.tdiv t195 52), Int.tmod t195 52))
set_option maxHeartbeats 8000000 in
set_option maxRecDepth 100000 in
theorem span_Where.calls (a0 : Int) (r1 : Int) (r2 : Int) (w : World) (h : span_Where.f a0 = some (r1, r2)) :
    Calls Tryd.prog 86 #[.int .i64 a0] w fun e w' => e = .returned (.agg #[.int .i64 r1, .int .i64 r2]) ∧ Below w.heap.size w w' := by
  have hu37 := Tryd.underlying37
  have hu99 := Tryd.underlying99
  have hu120 := Tryd.underlying120
  have HB := Aside0.mk (Below.refl w.heap.size w)
  have H : ((span_near.f a0 832).bind fun t195 => (some (wrap64 (Int.tdiv t195 52), Int.tmod t195 52))) = some (r1, r2) := h
  clear h
  replace H := Option.bind_eq_some_iff.mp H
  obtain ⟨t195, A20, H⟩ := H
  replace H : (some (wrap64 (Int.tdiv t195 52), Int.tmod t195 52)) = some (r1, r2) := H
  have A2 := Aside0.mk A20
  clear A20
  simp only [Option.some.injEq, Prod.mk.injEq] at H
  obtain ⟨rfl, rfl⟩ := H
  go_enter Tryd.func86, Tryd.ntmps86
  go_wp2_with (first | ((with_reducible refine gate_dst (N := 2) rfl ?_); refine box_event ?hg (N := 2) ?hd (cs := #[.int .i64 0, .int .i64 0]) (t := 120) ?hr ?_; (case hd => rfl); (case hg => rfl); (case hr => first | (go_simp; done) | (go_simp; rfl)); intro gb194 hg w3 hbox hb; have n0_ := Aside0.mk (below_step (by repeat (first | (with_reducible first | exact HB.out | apply below_alloc | apply pw_below_drewN | apply below_drew1) | exact HB.out)) hb); have n1_ := Aside0.mk (hbox); have n2_ := Aside0.mk ((by rw [hg]; exact (below_size (by repeat (first | (with_reducible first | exact HB.out | apply below_alloc | apply pw_below_drewN | apply below_drew1) | exact HB.out))) : w.heap.size ≤ gb194)); have n3_ := Aside0.mk ((by rw [hg]; exact (below_size (by repeat (first | (with_reducible first | exact HB.out | apply below_alloc | apply pw_below_drewN | apply below_drew1) | exact HB.out))) : w.heap.size ≤ gb194)); clear HB; have HB := n0_; have BK194 := n1_; have GW194 := n2_; have GE194 := n3_; clear n0_ n1_ n2_ n3_; clear hb hbox hg) | ((with_reducible refine gate_callee (f := 85) rfl ?_); refine goesL_ (some 4) rfl rfl Tryd.func85 (by kernel_rfl) rfl #[.int .i64 a0, .int .i64 832] rfl (by (try simp only [List.map_toArray, List.map_cons, List.map_nil]); first | done | rfl | (simp only [List.length_drop, List.length_take]; rfl)) ?_; (with_reducible refine (span_near.calls a0 832 t195 _ A2.out).mono ?_); rintro e w4 ⟨rfl, hb⟩; refine ⟨_, rfl, ?_⟩; have n0_ := Aside0.mk (blk_below (g := gb194) (o := .cells #[.int .i64 0, .int .i64 0] 120 (0, 0)) (by (with_reducible repeat (first | refine blk_drewN ?_ _ | refine blk_drew ?_ | refine blk_alloc ?_ _)); exact BK194.out) hb); have n1_ := Aside0.mk (below_step (by repeat (first | (with_reducible first | exact HB.out | apply below_alloc | apply pw_below_drewN | apply below_drew1 | refine below_set ?_ GE194.out) | exact HB.out)) hb); clear BK194; clear HB; have BK194 := n0_; have HB := n1_; clear n0_ n1_; (try clear hb); (try clear hb2); (try clear hk); (try clear hi); have hcz5_0 : w4.cell? ⟨gb194, 0, none⟩ = some (.int .i64 0) := (blk_cell BK194.out 0).trans rfl; have hcz5_1 : w4.cell? ⟨gb194, 1, none⟩ = some (.int .i64 0) := (blk_cell BK194.out 1).trans rfl; have hfz5_0 := blk_frozen BK194.out 0; have hfz5_1 := blk_frozen BK194.out 1))
  refine bodyPost_ret (results_cell_row rfl _ _ gb194 120 #[.int .i64 (wrap64 (Int.tdiv t195 52)), .int .i64 (Int.tmod t195 52)] (0, 0) _ rfl (by (with_reducible repeat (first | refine blk_drewN ?_ _ | refine blk_drew ?_ | refine blk_alloc ?_ _)); refine blk_put (cs := #[.int .i64 (wrap64 (Int.tdiv t195 52)), .int .i64 0]) ?_ 1 _ rfl; (with_reducible repeat (first | refine blk_drewN ?_ _ | refine blk_drew ?_ | refine blk_alloc ?_ _)); refine blk_put (cs := #[.int .i64 0, .int .i64 0]) ?_ 0 _ rfl; (with_reducible repeat (first | refine blk_drewN ?_ _ | refine blk_drew ?_ | refine blk_alloc ?_ _)); exact BK194.out) Tryd.underlying120 rfl (by kernel_rfl)) rfl ?_
  exact ⟨by first | rfl | (simp [errW_none, errW_some] <;> rfl) | (simp [*, errW_none, errW_some] <;> rfl), by repeat (first | (with_reducible first | exact HB.out | apply below_alloc | apply pw_below_drewN | apply below_drew1 | refine below_set ?_ GE194.out) | exact HB.out)⟩

/-! ### span_Touch: function 87 -/
def span_Touch.f (a0 : Int) (a1 : Int) : Option (Int × Int) := (span_near.f a0 832).bind fun t196 => ((span_near.f a1 832).bind fun t197 => (if t196 ≥ t197 then (some (0, 0)) else ((span_Where.f t196).bind fun bt198 => ((span_Where.f (wrap64 (t197 - 1))).bind fun bt200 => (some (bt198.1, wrap64 (bt200.1 + 1)))))))
set_option maxHeartbeats 8000000 in
set_option maxRecDepth 100000 in
theorem span_Touch.calls (a0 : Int) (a1 : Int) (r1 : Int) (r2 : Int) (w : World) (h : span_Touch.f a0 a1 = some (r1, r2)) :
    Calls Tryd.prog 87 #[.int .i64 a0, .int .i64 a1] w fun e w' => e = .returned (.tuple #[.int .i64 r1, .int .i64 r2]) ∧ Below w.heap.size w w' := by
  have hu37 := Tryd.underlying37
  have hu99 := Tryd.underlying99
  have hu120 := Tryd.underlying120
  have HB := Aside0.mk (Below.refl w.heap.size w)
  have H : ((span_near.f a0 832).bind fun t196 => ((span_near.f a1 832).bind fun t197 => (if t196 ≥ t197 then (some (0, 0)) else ((span_Where.f t196).bind fun bt198 => ((span_Where.f (wrap64 (t197 - 1))).bind fun bt200 => (some (bt198.1, wrap64 (bt200.1 + 1)))))))) = some (r1, r2) := h
  clear h
  replace H := Option.bind_eq_some_iff.mp H
  obtain ⟨t196, A30, H⟩ := H
  replace H : ((span_near.f a1 832).bind fun t197 => (if t196 ≥ t197 then (some (0, 0)) else ((span_Where.f t196).bind fun bt198 => ((span_Where.f (wrap64 (t197 - 1))).bind fun bt200 => (some (bt198.1, wrap64 (bt200.1 + 1))))))) = some (r1, r2) := H
  have A3 := Aside0.mk A30
  clear A30
  replace H := Option.bind_eq_some_iff.mp H
  obtain ⟨t197, A40, H⟩ := H
  replace H : (if t196 ≥ t197 then (some (0, 0)) else ((span_Where.f t196).bind fun bt198 => ((span_Where.f (wrap64 (t197 - 1))).bind fun bt200 => (some (bt198.1, wrap64 (bt200.1 + 1)))))) = some (r1, r2) := H
  have A4 := Aside0.mk A40
  clear A40
  by_cases c5 : t196 ≥ t197
  · rw [if_pos c5] at H
    have c5b0 : decide (t197 ≤ t196) = true := decide_eq_true c5
    clear c5
    simp only [Option.some.injEq, Prod.mk.injEq] at H
    obtain ⟨rfl, rfl⟩ := H
    go_enter Tryd.func87, Tryd.ntmps87
    go_wp2_with (first | ((with_reducible refine gate_callee (f := 85) rfl ?_); refine goesL_ (some 7) rfl rfl Tryd.func85 (by kernel_rfl) rfl #[.int .i64 a0, .int .i64 832] rfl (by (try simp only [List.map_toArray, List.map_cons, List.map_nil]); first | done | rfl | (simp only [List.length_drop, List.length_take]; rfl)) ?_; (with_reducible refine (span_near.calls a0 832 t196 _ A3.out).mono ?_); rintro e w6 ⟨rfl, hb⟩; refine ⟨_, rfl, ?_⟩; have n0_ := Aside0.mk (below_step (by repeat (first | (with_reducible first | exact HB.out | apply below_alloc | apply pw_below_drewN | apply below_drew1) | exact HB.out)) hb); clear HB; have HB := n0_; clear n0_; (try clear hb); (try clear hb2); (try clear hk); (try clear hi)) | ((with_reducible refine gate_callee (f := 85) rfl ?_); refine goesL_ (some 9) rfl rfl Tryd.func85 (by kernel_rfl) rfl #[.int .i64 a1, .int .i64 832] rfl (by (try simp only [List.map_toArray, List.map_cons, List.map_nil]); first | done | rfl | (simp only [List.length_drop, List.length_take]; rfl)) ?_; (with_reducible refine (span_near.calls a1 832 t197 _ A4.out).mono ?_); rintro e w7 ⟨rfl, hb⟩; refine ⟨_, rfl, ?_⟩; have n0_ := Aside0.mk (below_step (by repeat (first | (with_reducible first | exact HB.out | apply below_alloc | apply pw_below_drewN | apply below_drew1) | exact HB.out)) hb); clear HB; have HB := n0_; clear n0_; (try clear hb); (try clear hb2); (try clear hk); (try clear hi)))
    go_ret2
    exact ⟨by first | rfl | (simp [errW_none, errW_some] <;> rfl) | (simp [*, errW_none, errW_some] <;> rfl), by repeat (first | (with_reducible first | exact HB.out | apply below_alloc | apply pw_below_drewN | apply below_drew1) | exact HB.out)⟩
  · rw [if_neg c5] at H
    have c5b0 : decide (t197 ≤ t196) = false := decide_eq_false c5
    clear c5
    replace H := Option.bind_eq_some_iff.mp H
    obtain ⟨⟨t198, t199⟩, A80, H⟩ := H
    replace H : ((span_Where.f (wrap64 (t197 - 1))).bind fun bt200 => (some (t198, wrap64 (bt200.1 + 1)))) = some (r1, r2) := H
    have A8 := Aside0.mk A80
    clear A80
    replace H := Option.bind_eq_some_iff.mp H
    obtain ⟨⟨t200, t201⟩, A90, H⟩ := H
    replace H : (some (t198, wrap64 (t200 + 1))) = some (r1, r2) := H
    have A9 := Aside0.mk A90
    clear A90
    simp only [Option.some.injEq, Prod.mk.injEq] at H
    obtain ⟨rfl, rfl⟩ := H
    go_enter Tryd.func87, Tryd.ntmps87
    go_wp2_with (first | ((with_reducible refine gate_callee (f := 85) rfl ?_); refine goesL_ (some 7) rfl rfl Tryd.func85 (by kernel_rfl) rfl #[.int .i64 a0, .int .i64 832] rfl (by (try simp only [List.map_toArray, List.map_cons, List.map_nil]); first | done | rfl | (simp only [List.length_drop, List.length_take]; rfl)) ?_; (with_reducible refine (span_near.calls a0 832 t196 _ A3.out).mono ?_); rintro e w10 ⟨rfl, hb⟩; refine ⟨_, rfl, ?_⟩; have n0_ := Aside0.mk (below_step (by repeat (first | (with_reducible first | exact HB.out | apply below_alloc | apply pw_below_drewN | apply below_drew1) | exact HB.out)) hb); clear HB; have HB := n0_; clear n0_; (try clear hb); (try clear hb2); (try clear hk); (try clear hi)) | ((with_reducible refine gate_callee (f := 85) rfl ?_); refine goesL_ (some 9) rfl rfl Tryd.func85 (by kernel_rfl) rfl #[.int .i64 a1, .int .i64 832] rfl (by (try simp only [List.map_toArray, List.map_cons, List.map_nil]); first | done | rfl | (simp only [List.length_drop, List.length_take]; rfl)) ?_; (with_reducible refine (span_near.calls a1 832 t197 _ A4.out).mono ?_); rintro e w11 ⟨rfl, hb⟩; refine ⟨_, rfl, ?_⟩; have n0_ := Aside0.mk (below_step (by repeat (first | (with_reducible first | exact HB.out | apply below_alloc | apply pw_below_drewN | apply below_drew1) | exact HB.out)) hb); clear HB; have HB := n0_; clear n0_; (try clear hb); (try clear hb2); (try clear hk); (try clear hi)) | ((with_reducible refine gate_callee (f := 86) rfl ?_); refine goesL_ (some 14) rfl rfl Tryd.func86 (by kernel_rfl) rfl #[.int .i64 t196] rfl (by (try simp only [List.map_toArray, List.map_cons, List.map_nil]); first | done | rfl | (simp only [List.length_drop, List.length_take]; rfl)) ?_; (with_reducible refine (span_Where.calls t196 t198 t199 _ A8.out).mono ?_); rintro e w12 ⟨rfl, hb⟩; refine ⟨_, rfl, ?_⟩; have n0_ := Aside0.mk (below_step (by repeat (first | (with_reducible first | exact HB.out | apply below_alloc | apply pw_below_drewN | apply below_drew1) | exact HB.out)) hb); clear HB; have HB := n0_; clear n0_; (try clear hb); (try clear hb2); (try clear hk); (try clear hi)) | ((with_reducible refine gate_callee (f := 86) rfl ?_); refine goesL_ (some 18) rfl rfl Tryd.func86 (by kernel_rfl) rfl #[.int .i64 (wrap64 (t197 - 1))] rfl (by (try simp only [List.map_toArray, List.map_cons, List.map_nil]); first | done | rfl | (simp only [List.length_drop, List.length_take]; rfl)) ?_; (with_reducible refine (span_Where.calls (wrap64 (t197 - 1)) t200 t201 _ A9.out).mono ?_); rintro e w13 ⟨rfl, hb⟩; refine ⟨_, rfl, ?_⟩; have n0_ := Aside0.mk (below_step (by repeat (first | (with_reducible first | exact HB.out | apply below_alloc | apply pw_below_drewN | apply below_drew1) | exact HB.out)) hb); clear HB; have HB := n0_; clear n0_; (try clear hb); (try clear hb2); (try clear hk); (try clear hi)))
    go_ret2
    exact ⟨by first | rfl | (simp [errW_none, errW_some] <;> rfl) | (simp [*, errW_none, errW_some] <;> rfl), by repeat (first | (with_reducible first | exact HB.out | apply below_alloc | apply pw_below_drewN | apply below_drew1) | exact HB.out)⟩

/-! ### span_Begin: function 75 -/
def span_Begin.f (a0 : Int) : Option (Int) := (span_near.f a0 832).bind fun t103 => ((span_Where.f t103).bind fun bt104 => (if (wrap64 (52 - bt104.2)) < 11 then (some (wrap64 (t103 + (wrap64 (52 - bt104.2))))) else (some t103)))
set_option maxHeartbeats 8000000 in
set_option maxRecDepth 100000 in
theorem span_Begin.calls (a0 : Int) (r : Int) (w : World) (h : span_Begin.f a0 = some r) :
    Calls Tryd.prog 75 #[.int .i64 a0] w fun e w' => e = .returned (.int .i64 r) ∧ Below w.heap.size w w' := by
  have hu37 := Tryd.underlying37
  have hu99 := Tryd.underlying99
  have hu120 := Tryd.underlying120
  have HB := Aside0.mk (Below.refl w.heap.size w)
  have H : ((span_near.f a0 832).bind fun t103 => ((span_Where.f t103).bind fun bt104 => (if (wrap64 (52 - bt104.2)) < 11 then (some (wrap64 (t103 + (wrap64 (52 - bt104.2))))) else (some t103)))) = some r := h
  clear h
  replace H := Option.bind_eq_some_iff.mp H
  obtain ⟨t103, A20, H⟩ := H
  replace H : ((span_Where.f t103).bind fun bt104 => (if (wrap64 (52 - bt104.2)) < 11 then (some (wrap64 (t103 + (wrap64 (52 - bt104.2))))) else (some t103))) = some r := H
  have A2 := Aside0.mk A20
  clear A20
  replace H := Option.bind_eq_some_iff.mp H
  obtain ⟨⟨t104, t105⟩, A30, H⟩ := H
  replace H : (if (wrap64 (52 - t105)) < 11 then (some (wrap64 (t103 + (wrap64 (52 - t105))))) else (some t103)) = some r := H
  have A3 := Aside0.mk A30
  clear A30
  by_cases c4 : (wrap64 (52 - t105)) < 11
  · rw [if_pos c4] at H
    have c4b0 : decide ((wrap64 (52 - t105)) < 11) = true := decide_eq_true c4
    clear c4
    obtain rfl := Option.some.inj H
    go_enter Tryd.func75, Tryd.ntmps75
    go_wp2_with (first | ((with_reducible refine gate_callee (f := 85) rfl ?_); refine goesL_ (some 5) rfl rfl Tryd.func85 (by kernel_rfl) rfl #[.int .i64 a0, .int .i64 832] rfl (by (try simp only [List.map_toArray, List.map_cons, List.map_nil]); first | done | rfl | (simp only [List.length_drop, List.length_take]; rfl)) ?_; (with_reducible refine (span_near.calls a0 832 t103 _ A2.out).mono ?_); rintro e w5 ⟨rfl, hb⟩; refine ⟨_, rfl, ?_⟩; have n0_ := Aside0.mk (below_step (by repeat (first | (with_reducible first | exact HB.out | apply below_alloc | apply pw_below_drewN | apply below_drew1) | exact HB.out)) hb); clear HB; have HB := n0_; clear n0_; (try clear hb); (try clear hb2); (try clear hk); (try clear hi)) | ((with_reducible refine gate_callee (f := 86) rfl ?_); refine goesL_ (some 7) rfl rfl Tryd.func86 (by kernel_rfl) rfl #[.int .i64 t103] rfl (by (try simp only [List.map_toArray, List.map_cons, List.map_nil]); first | done | rfl | (simp only [List.length_drop, List.length_take]; rfl)) ?_; (with_reducible refine (span_Where.calls t103 t104 t105 _ A3.out).mono ?_); rintro e w6 ⟨rfl, hb⟩; refine ⟨_, rfl, ?_⟩; have n0_ := Aside0.mk (below_step (by repeat (first | (with_reducible first | exact HB.out | apply below_alloc | apply pw_below_drewN | apply below_drew1) | exact HB.out)) hb); clear HB; have HB := n0_; clear n0_; (try clear hb); (try clear hb2); (try clear hk); (try clear hi)))
    go_ret
    exact ⟨by first | rfl | (simp [errW_none, errW_some] <;> rfl) | (simp [*, errW_none, errW_some] <;> rfl), by repeat (first | (with_reducible first | exact HB.out | apply below_alloc | apply pw_below_drewN | apply below_drew1) | exact HB.out)⟩
  · rw [if_neg c4] at H
    have c4b0 : decide ((wrap64 (52 - t105)) < 11) = false := decide_eq_false c4
    clear c4
    obtain rfl := Option.some.inj H
    go_enter Tryd.func75, Tryd.ntmps75
    go_wp2_with (first | ((with_reducible refine gate_callee (f := 85) rfl ?_); refine goesL_ (some 5) rfl rfl Tryd.func85 (by kernel_rfl) rfl #[.int .i64 a0, .int .i64 832] rfl (by (try simp only [List.map_toArray, List.map_cons, List.map_nil]); first | done | rfl | (simp only [List.length_drop, List.length_take]; rfl)) ?_; (with_reducible refine (span_near.calls a0 832 t103 _ A2.out).mono ?_); rintro e w7 ⟨rfl, hb⟩; refine ⟨_, rfl, ?_⟩; have n0_ := Aside0.mk (below_step (by repeat (first | (with_reducible first | exact HB.out | apply below_alloc | apply pw_below_drewN | apply below_drew1) | exact HB.out)) hb); clear HB; have HB := n0_; clear n0_; (try clear hb); (try clear hb2); (try clear hk); (try clear hi)) | ((with_reducible refine gate_callee (f := 86) rfl ?_); refine goesL_ (some 7) rfl rfl Tryd.func86 (by kernel_rfl) rfl #[.int .i64 t103] rfl (by (try simp only [List.map_toArray, List.map_cons, List.map_nil]); first | done | rfl | (simp only [List.length_drop, List.length_take]; rfl)) ?_; (with_reducible refine (span_Where.calls t103 t104 t105 _ A3.out).mono ?_); rintro e w8 ⟨rfl, hb⟩; refine ⟨_, rfl, ?_⟩; have n0_ := Aside0.mk (below_step (by repeat (first | (with_reducible first | exact HB.out | apply below_alloc | apply pw_below_drewN | apply below_drew1) | exact HB.out)) hb); clear HB; have HB := n0_; clear n0_; (try clear hb); (try clear hb2); (try clear hk); (try clear hi)))
    go_ret
    exact ⟨by first | rfl | (simp [errW_none, errW_some] <;> rfl) | (simp [*, errW_none, errW_some] <;> rfl), by repeat (first | (with_reducible first | exact HB.out | apply below_alloc | apply pw_below_drewN | apply below_drew1) | exact HB.out)⟩

/-! ### span_Left: function 76 -/
def span_Left.f (a0 : Int) : Option (Int) := (span_near.f a0 832).bind fun t103 => ((span_Where.f t103).bind fun bt104 => (if (bt104.1 == 16 && (bt104.2 == 0)) = true then (some 0) else (some (wrap64 (208 - (Int.tmod t103 208))))))
set_option maxHeartbeats 8000000 in
set_option maxRecDepth 100000 in
theorem span_Left.calls (a0 : Int) (r : Int) (w : World) (h : span_Left.f a0 = some r) :
    Calls Tryd.prog 76 #[.int .i64 a0] w fun e w' => e = .returned (.int .i64 r) ∧ Below w.heap.size w w' := by
  have hu37 := Tryd.underlying37
  have hu99 := Tryd.underlying99
  have hu120 := Tryd.underlying120
  have HB := Aside0.mk (Below.refl w.heap.size w)
  have H : ((span_near.f a0 832).bind fun t103 => ((span_Where.f t103).bind fun bt104 => (if (bt104.1 == 16 && (bt104.2 == 0)) = true then (some 0) else (some (wrap64 (208 - (Int.tmod t103 208))))))) = some r := h
  clear h
  replace H := Option.bind_eq_some_iff.mp H
  obtain ⟨t103, A20, H⟩ := H
  replace H : ((span_Where.f t103).bind fun bt104 => (if (bt104.1 == 16 && (bt104.2 == 0)) = true then (some 0) else (some (wrap64 (208 - (Int.tmod t103 208)))))) = some r := H
  have A2 := Aside0.mk A20
  clear A20
  replace H := Option.bind_eq_some_iff.mp H
  obtain ⟨⟨t104, t105⟩, A30, H⟩ := H
  replace H : (if (t104 == 16 && (t105 == 0)) = true then (some 0) else (some (wrap64 (208 - (Int.tmod t103 208))))) = some r := H
  have A3 := Aside0.mk A30
  clear A30
  by_cases c4 : (t104 == 16 && (t105 == 0)) = true
  · rw [if_pos c4] at H
    have c4b0 : (t104 == 16 && (t105 == 0)) = true := c4
    (try (have c4b1 : decide (t104 = 16 && (t105 == 0)) = true := by simpa using c4))
    (try (have c4b2 : (t104 == 16 && (t105 == 0)) = true := by simpa using c4))
    clear c4
    obtain rfl := Option.some.inj H
    go_enter Tryd.func76, Tryd.ntmps76
    go_wp2_with (first | ((with_reducible refine gate_callee (f := 85) rfl ?_); refine goesL_ (some 4) rfl rfl Tryd.func85 (by kernel_rfl) rfl #[.int .i64 a0, .int .i64 832] rfl (by (try simp only [List.map_toArray, List.map_cons, List.map_nil]); first | done | rfl | (simp only [List.length_drop, List.length_take]; rfl)) ?_; (with_reducible refine (span_near.calls a0 832 t103 _ A2.out).mono ?_); rintro e w5 ⟨rfl, hb⟩; refine ⟨_, rfl, ?_⟩; have n0_ := Aside0.mk (below_step (by repeat (first | (with_reducible first | exact HB.out | apply below_alloc | apply pw_below_drewN | apply below_drew1) | exact HB.out)) hb); clear HB; have HB := n0_; clear n0_; (try clear hb); (try clear hb2); (try clear hk); (try clear hi)) | ((with_reducible refine gate_callee (f := 86) rfl ?_); refine goesL_ (some 6) rfl rfl Tryd.func86 (by kernel_rfl) rfl #[.int .i64 t103] rfl (by (try simp only [List.map_toArray, List.map_cons, List.map_nil]); first | done | rfl | (simp only [List.length_drop, List.length_take]; rfl)) ?_; (with_reducible refine (span_Where.calls t103 t104 t105 _ A3.out).mono ?_); rintro e w6 ⟨rfl, hb⟩; refine ⟨_, rfl, ?_⟩; have n0_ := Aside0.mk (below_step (by repeat (first | (with_reducible first | exact HB.out | apply below_alloc | apply pw_below_drewN | apply below_drew1) | exact HB.out)) hb); clear HB; have HB := n0_; clear n0_; (try clear hb); (try clear hb2); (try clear hk); (try clear hi)))
    go_ret
    exact ⟨by first | rfl | (simp [errW_none, errW_some] <;> rfl) | (simp [*, errW_none, errW_some] <;> rfl), by repeat (first | (with_reducible first | exact HB.out | apply below_alloc | apply pw_below_drewN | apply below_drew1) | exact HB.out)⟩
  · rw [if_neg c4] at H
    have c4b0 : (t104 == 16 && (t105 == 0)) = false := by simpa using c4
    (try (have c4b1 : decide (t104 = 16 && (t105 == 0)) = false := by simpa using c4))
    (try (have c4b2 : (t104 == 16 && (t105 == 0)) = false := by simpa using c4))
    (try (have c4b3 : ¬ (t104 = 16 && (t105 == 0)) := by simpa using c4))
    clear c4
    obtain rfl := Option.some.inj H
    go_enter Tryd.func76, Tryd.ntmps76
    go_wp2_with (first | ((with_reducible refine gate_callee (f := 85) rfl ?_); refine goesL_ (some 4) rfl rfl Tryd.func85 (by kernel_rfl) rfl #[.int .i64 a0, .int .i64 832] rfl (by (try simp only [List.map_toArray, List.map_cons, List.map_nil]); first | done | rfl | (simp only [List.length_drop, List.length_take]; rfl)) ?_; (with_reducible refine (span_near.calls a0 832 t103 _ A2.out).mono ?_); rintro e w7 ⟨rfl, hb⟩; refine ⟨_, rfl, ?_⟩; have n0_ := Aside0.mk (below_step (by repeat (first | (with_reducible first | exact HB.out | apply below_alloc | apply pw_below_drewN | apply below_drew1) | exact HB.out)) hb); clear HB; have HB := n0_; clear n0_; (try clear hb); (try clear hb2); (try clear hk); (try clear hi)) | ((with_reducible refine gate_callee (f := 86) rfl ?_); refine goesL_ (some 6) rfl rfl Tryd.func86 (by kernel_rfl) rfl #[.int .i64 t103] rfl (by (try simp only [List.map_toArray, List.map_cons, List.map_nil]); first | done | rfl | (simp only [List.length_drop, List.length_take]; rfl)) ?_; (with_reducible refine (span_Where.calls t103 t104 t105 _ A3.out).mono ?_); rintro e w8 ⟨rfl, hb⟩; refine ⟨_, rfl, ?_⟩; have n0_ := Aside0.mk (below_step (by repeat (first | (with_reducible first | exact HB.out | apply below_alloc | apply pw_below_drewN | apply below_drew1) | exact HB.out)) hb); clear HB; have HB := n0_; clear n0_; (try clear hb); (try clear hb2); (try clear hk); (try clear hi)))
    go_ret
    exact ⟨by first | rfl | (simp [errW_none, errW_some] <;> rfl) | (simp [*, errW_none, errW_some] <;> rfl), by repeat (first | (with_reducible first | exact HB.out | apply below_alloc | apply pw_below_drewN | apply below_drew1) | exact HB.out)⟩


end Go.Proofs.YthhbilkmdfdfiaaDoor.F
end

section
/- Small words for texts made by hand: a wanted operation of a region that draws its order. -/
namespace Go.Proofs.YthhbilkmdfdfiaaDoor.F
open Go.RowKit Go.Proofs.YthhbilkmdfdfiaaDoorW.PrintWords Go.Proofs.YthhbilkmdfdfiaaDoorW.PrintLast Go.Proofs.YthhbilkmdfdfiaaDoorW.PrintMore
theorem wanted_ {P : Program} {ops : Array Oper} {Q : Exit → Act → World → Prop} {K : Act → World → Prop} {o : Oper} {N : Option Tmp} {a : Act} {w : World} (hw : Region.wanted o (yielded ops a.tmps) = true) (h : Oper.wp P o a w K Q) :
    if Region.wanted o (yielded ops a.tmps) = true then Oper.wp P o a w K Q else K (a.put N undef) w := by
  rw [if_pos hw]
  exact h
end Go.Proofs.YthhbilkmdfdfiaaDoor.F
end

section
/- cut.Cut and the function in it that goes on from one piece to the next: what they answer, as Lean functions, and that the calls answer just this. -/
namespace Go.Proofs.YthhbilkmdfdfiaaDoor.F
open Go.RowKit Go.Proofs.YthhbilkmdfdfiaaDoorW.PrintWords Go.Proofs.YthhbilkmdfdfiaaDoorW.PrintLast Go.Proofs.YthhbilkmdfdfiaaDoorW.PrintMore
attribute [local go_sem] max2_int min2_int max_two min_two max_three min_three max_four min_four
set_option linter.unusedVariables false
set_option linter.unusedSimpArgs false

def cut_next.f (k : Nat) (at_ n from_ : Int) (out : List S99) : Option (Option (Int × Int × List S99)) :=
  (span_Begin.f at_).bind fun b => (span_Left.f b).bind fun l => if wrap64 (l - 11) < 0 then some none else
    (cut_kind.f k ((out.length : Int) == 0) (mn n (wrap64 (from_ + wrap64 (l - 11))) == n)).bind fun kd =>
      if out.length < 4398046511104 then some (some (wrap64 (wrap64 (wrap64 (b + 11) + mn n (wrap64 (from_ + wrap64 (l - 11)))) - from_), mn n (wrap64 (from_ + wrap64 (l - 11))), out ++ [⟨b, kd, from_, mn n (wrap64 (from_ + wrap64 (l - 11)))⟩])) else none

set_option maxHeartbeats 1000000 in
set_option maxRecDepth 100000 in
theorem cut_next.calls (k : Nat) (at_ n from_ : Int) (out : List S99) (r : Option (Int × Int × List S99)) (h : cut_next.f k at_ n from_ out = some r) (w : World) (base gA gN gF gO : Nat) (v : Value)
    (hA : w.heap[gA]? = some (.cells #[.int .i64 at_] 3 (0, 0))) (hN : w.heap[gN]? = some (.cells #[.int .i64 n] 3 (0, 0))) (hF : w.heap[gF]? = some (.cells #[.int .i64 from_] 3 (0, 0))) (hO : w.heap[gO]? = some (.cells #[v] 92 (0, 0)))
    (nAN : gA ≠ gN) (nAF : gA ≠ gF) (nNF : gN ≠ gF) (bA : base ≤ gA) (bN : base ≤ gN) (bF : base ≤ gF) (bO : base ≤ gO)
    (hR : Kd.R k99 99 w base (fun _ => True) v out) :
    Calls Tryd.prog 74 #[.pointer (some ⟨gA, 0, none⟩), .pointer (some ⟨gN, 0, none⟩), .pointer (some ⟨gF, 0, none⟩), .pointer (some ⟨gO, 0, none⟩)] w fun e w' => e = .returned (.bool r.isSome) ∧ Below base w w' ∧
      ∀ s, r = some s → w'.heap[gA]? = some (.cells #[.int .i64 s.1] 3 (0, 0)) ∧ w'.heap[gN]? = some (.cells #[.int .i64 n] 3 (0, 0)) ∧ w'.heap[gF]? = some (.cells #[.int .i64 s.2.1] 3 (0, 0)) ∧
        ∃ v', w'.heap[gO]? = some (.cells #[v'] 92 (0, 0)) ∧ Kd.R k99 99 w' base (fun _ => True) v' s.2.2 := by
  unfold cut_next.f at h
  obtain ⟨b, hb, h⟩ := Option.bind_eq_some_iff.mp h
  obtain ⟨l, hl, h⟩ := Option.bind_eq_some_iff.mp h
  have HB := Aside0.mk hb
  have HL := Aside0.mk hl
  clear hb hl
  replace h := Aside0.mk h
  have cA : w.cell? ⟨gA, 0, none⟩ = some (.int .i64 at_) := blk_cell hA 0
  have fA := blk_frozen hA 0
  go_enter Tryd.func74, Tryd.ntmps74
  go_wp2_with fail
  refine (span_Begin.calls at_ b _ HB.out).mono ?_
  rintro e w1 ⟨rfl, hb1⟩
  have hA1 := blk_below hA hb1
  have hN1 := blk_below hN hb1
  have hF1 := blk_below hF hb1
  have hO1 := blk_below hO hb1
  have hR1 := Kd.R_below hR hb1
  have B1 : Below base w w1 := hb1.mono (by have := blk_lt hA; omega)
  clear hA hN hF hO hR cA fA hb1
  have cA1 : w1.cell? ⟨gA, 0, none⟩ = some (.int .i64 at_) := blk_cell hA1 0
  have fA1 := blk_frozen hA1 0
  have oA : gO ≠ gA := blk_ne hO1 hA1 (by decide)
  have oF : gO ≠ gF := blk_ne hO1 hF1 (by decide)
  have oN : gO ≠ gN := blk_ne hO1 hN1 (by decide)
  go_wp2_with fail
  obtain ⟨W2, hW2⟩ : ∃ W2, w1.setCell ⟨gA, 0, none⟩ (.int .i64 b) = W2 := ⟨_, rfl⟩
  have hA2 : W2.heap[gA]? = some (.cells #[.int .i64 b] 3 (0, 0)) := by rw [← hW2]; exact blk_put hA1 0 _ rfl
  have hN2 : W2.heap[gN]? = some (.cells #[.int .i64 n] 3 (0, 0)) := by rw [← hW2]; exact blk_far hN1 (p := ⟨gA, 0, none⟩) nAN.symm _
  have hF2 : W2.heap[gF]? = some (.cells #[.int .i64 from_] 3 (0, 0)) := by rw [← hW2]; exact blk_far hF1 (p := ⟨gA, 0, none⟩) nAF.symm _
  have hO2 : W2.heap[gO]? = some (.cells #[v] 92 (0, 0)) := by rw [← hW2]; exact blk_far hO1 (p := ⟨gA, 0, none⟩) oA _
  have hR2 : Kd.R k99 99 W2 base (fun _ => True) v out := by rw [← hW2]; exact Kd.R_set hR1 hA1 (by decide) 0 _
  have B2 : Below base w W2 := by rw [← hW2]; exact B1.setCell (p := ⟨gA, 0, none⟩) bA _
  rw [hW2]
  clear hW2 hA1 hN1 hF1 hO1 hR1 B1 cA1 fA1
  refine (span_Left.calls b l _ HL.out).mono ?_
  rintro e w3 ⟨rfl, hb3⟩
  have hA3 := blk_below hA2 hb3
  have hN3 := blk_below hN2 hb3
  have hF3 := blk_below hF2 hb3
  have hO3 := blk_below hO2 hb3
  have hR3 := Kd.R_below hR2 hb3
  have B3 : Below base w w3 := B2.trans (hb3.mono (by have := blk_lt hA2; omega))
  clear hA2 hN2 hF2 hO2 hR2 B2 hb3
  have cA3 : w3.cell? ⟨gA, 0, none⟩ = some (.int .i64 b) := blk_cell hA3 0
  have cN3 : w3.cell? ⟨gN, 0, none⟩ = some (.int .i64 n) := blk_cell hN3 0
  have cF3 : w3.cell? ⟨gF, 0, none⟩ = some (.int .i64 from_) := blk_cell hF3 0
  have cO3 : w3.cell? ⟨gO, 0, none⟩ = some v := blk_cell hO3 0
  have hw : ∀ x : Int, IntKind.i64.wrap x = wrap64 x := i64_w
  by_cases c : wrap64 (l - 11) < 0
  · have h2 := h.out
    rw [if_pos c] at h2
    obtain rfl := Option.some.inj h2
    clear h h2
    have c1 : decide (wrap64 (l - 11) < 0) = true := decide_eq_true c
    clear c
    go_wp2
    go_ret
    exact ⟨rfl, B3, fun s hs => by cases hs⟩
  · have h2 := h.out
    rw [if_neg c] at h2
    obtain ⟨kd, hk, h2⟩ := Option.bind_eq_some_iff.mp h2
    obtain ⟨t, ht⟩ : ∃ t : Int, mn n (wrap64 (from_ + wrap64 (l - 11))) = t := ⟨_, rfl⟩
    rw [ht] at h2 hk
    have HK := Aside0.mk hk
    clear h hk
    have c1 : decide (wrap64 (l - 11) < 0) = false := decide_eq_false c
    clear c
    have ht' : (if wrap64 (from_ + wrap64 (l - 11)) < n then wrap64 (from_ + wrap64 (l - 11)) else n) = t := ht
    clear ht
    by_cases c : out.length < 4398046511104
    · rw [if_pos c] at h2
      obtain rfl := Option.some.inj h2
      clear h2
      obtain ⟨Av, cv, ev⟩ := Kd.R_slice hR3
      subst ev
      go_wp2
      refine start_ (n := 15) (S := fun w' => w'.cell? ⟨gA, 0, none⟩ = some (.int .i64 b) ∧ w'.cell? ⟨gN, 0, none⟩ = some (.int .i64 n) ∧ w'.cell? ⟨gF, 0, none⟩ = some (.int .i64 from_) ∧ w'.cell? ⟨gO, 0, none⟩ = some (.slice Av out.length cv)) (ds := [14])
        #[false, false, false, false, false, false, false, false, false, false, false, false, false, false, false] (by kernel_rfl) rfl rfl ⟨cA3, cN3, cF3, cO3⟩ (fun hHeld => ?_)
      refine take_ (i := 0) (N := some 19) (v := .slice Av out.length cv) (a' := ?_) #[true, false, false, false, false, false, false, false, false, false, false, false, false, false, false] rfl rfl (by kernel_rfl) (fun _ _ _ h => h) (Or.inl ⟨by rfl, ?_⟩) hHeld ?_ ?_
      · intro w' hSw
        obtain ⟨s1, s2, s3, s4⟩ := hSw
        go_simp
      rotate_left
      · simp only [Act.put, List.setIfInBounds_toArray, List.set_cons_zero, List.set_cons_succ, i64_w, i32_w]
        rfl
      refine take_ (i := 1) (N := some 20) (v := .int .i64 b) (a' := ?_) #[true, true, false, false, false, false, false, false, false, false, false, false, false, false, false] rfl rfl (by kernel_rfl) (fun _ _ _ h => h) (Or.inl ⟨by rfl, ?_⟩) hHeld ?_ ?_
      · intro w' hSw
        obtain ⟨s1, s2, s3, s4⟩ := hSw
        go_simp
      rotate_left
      · simp only [Act.put, List.setIfInBounds_toArray, List.set_cons_zero, List.set_cons_succ, i64_w, i32_w]
        rfl
      refine take_ (i := 2) (N := some 21) (v := .slice Av out.length cv) (a' := ?_) #[true, true, true, false, false, false, false, false, false, false, false, false, false, false, false] rfl rfl (by kernel_rfl) (fun _ _ _ h => h) (Or.inl ⟨by rfl, ?_⟩) hHeld ?_ ?_
      · intro w' hSw
        obtain ⟨s1, s2, s3, s4⟩ := hSw
        go_simp
      rotate_left
      · simp only [Act.put, List.setIfInBounds_toArray, List.set_cons_zero, List.set_cons_succ, i64_w, i32_w]
        rfl
      refine pure_ (i := 3) (N := some 22) (v := ?_) (a' := ?_) #[true, true, true, true, false, false, false, false, false, false, false, false, false, false, false] rfl rfl (by kernel_rfl) (fun _ _ _ h => h) (Or.inl ⟨by rfl, ?_⟩) ?_ ?_
      rotate_left
      · intro w'
        go_simp
        with_reducible rfl
      rotate_left
      · simp only [Act.put, List.setIfInBounds_toArray, List.set_cons_zero, List.set_cons_succ, i64_w, i32_w]
        rfl
      refine pure_ (i := 4) (N := some 23) (v := ?_) (a' := ?_) #[true, true, true, true, true, false, false, false, false, false, false, false, false, false, false] rfl rfl (by kernel_rfl) (fun _ _ _ h => h) (Or.inl ⟨by rfl, ?_⟩) ?_ ?_
      rotate_left
      · intro w'
        go_simp
        with_reducible rfl
      rotate_left
      · simp only [Act.put, List.setIfInBounds_toArray, List.set_cons_zero, List.set_cons_succ, i64_w, i32_w]
        rfl
      refine pure_ (i := 5) (N := some 24) (v := ?_) (a' := ?_) #[true, true, true, true, true, true, false, false, false, false, false, false, false, false, false] rfl rfl (by kernel_rfl) (fun _ _ _ h => h) (Or.inl ⟨by rfl, ?_⟩) ?_ ?_
      rotate_left
      · intro w'
        go_simp
        with_reducible rfl
      rotate_left
      · simp only [Act.put, List.setIfInBounds_toArray, List.set_cons_zero, List.set_cons_succ, i64_w, i32_w]
        rfl
      refine take_ (i := 6) (N := some 25) (v := .int .i64 n) (a' := ?_) #[true, true, true, true, true, true, true, false, false, false, false, false, false, false, false] rfl rfl (by kernel_rfl) (fun _ _ _ h => h) (Or.inl ⟨by rfl, ?_⟩) hHeld ?_ ?_
      · intro w' hSw
        obtain ⟨s1, s2, s3, s4⟩ := hSw
        go_simp
      rotate_left
      · simp only [Act.put, List.setIfInBounds_toArray, List.set_cons_zero, List.set_cons_succ, i64_w, i32_w]
        rfl
      refine pure_ (i := 7) (N := some 26) (v := ?_) (a' := ?_) #[true, true, true, true, true, true, true, true, false, false, false, false, false, false, false] rfl rfl (by kernel_rfl) (fun _ _ _ h => h) (Or.inl ⟨by rfl, ?_⟩) ?_ ?_
      rotate_left
      · intro w'
        go_simp
        with_reducible rfl
      rotate_left
      · simp only [Act.put, List.setIfInBounds_toArray, List.set_cons_zero, List.set_cons_succ, i64_w, i32_w]
        rfl
      refine take_ (i := 9) (N := some 28) (v := .int .i64 from_) (a' := ?_) #[true, true, true, true, true, true, true, true, false, true, false, false, false, false, false] rfl rfl (by kernel_rfl) (fun _ _ _ h => h) (Or.inl ⟨by rfl, ?_⟩) hHeld ?_ ?_
      · intro w' hSw
        obtain ⟨s1, s2, s3, s4⟩ := hSw
        go_simp
      rotate_left
      · simp only [Act.put, List.setIfInBounds_toArray, List.set_cons_zero, List.set_cons_succ, i64_w, i32_w]
        rfl
      refine pure_ (i := 10) (N := some 29) (v := ?_) (a' := ?_) #[true, true, true, true, true, true, true, true, false, true, true, false, false, false, false] rfl rfl (by kernel_rfl) (fun _ _ _ h => h) (Or.inl ⟨by rfl, ?_⟩) ?_ ?_
      rotate_left
      · intro w'
        go_simp
        with_reducible rfl
      rotate_left
      · simp only [Act.put, List.setIfInBounds_toArray, List.set_cons_zero, List.set_cons_succ, i64_w, i32_w]
        rfl
      refine one_ (i := 8) (N := some 27) #[true, true, true, true, true, true, true, true, true, true, true, false, false, false, false] rfl rfl (by kernel_rfl) (by decide) (fun K hK => ?_)
      refine goes_ Tryd.func77 (by kernel_rfl) rfl #[.bool ((out.length : Int) == 0), .bool (t == n)] (by rfl) rfl rfl (by (try simp only [List.map_toArray, List.map_cons, List.map_nil]); first | done | rfl) ?_
      with_reducible refine (cut_kind.calls k _ _ kd _ HK.out).mono ?_
      rintro e w' ⟨rfl, ⟨nd, rfl⟩⟩
      refine ⟨_, rfl, ?_⟩
      refine hK.out _ _ hHeld (fun hHeld => ?_)
      clear hK K
      refine norm_ (a' := ?_) ?_ ?_
      rotate_left
      · show Act.put _ (some 27) _ = _
        simp only [Act.put, List.setIfInBounds_toArray, List.set_cons_zero, List.set_cons_succ, i64_w, i32_w]
        rfl
      refine pure_ (i := 11) (N := some 30) (v := ?_) (a' := ?_) #[true, true, true, true, true, true, true, true, true, true, true, true, false, false, false] rfl rfl (by kernel_rfl) (fun _ _ _ h => h) (Or.inl ⟨by rfl, ?_⟩) ?_ ?_
      rotate_left
      · intro w'
        go_simp
        with_reducible rfl
      rotate_left
      · simp only [Act.put, List.setIfInBounds_toArray, List.set_cons_zero, List.set_cons_succ, i64_w, i32_w]
        rfl
      refine one_ (i := 12) (N := some 31) #[true, true, true, true, true, true, true, true, true, true, true, true, true, false, false] rfl rfl (by kernel_rfl) (by decide) (fun K hK => ?_)
      refine wanted_ (by rfl) ?_
      unfold Oper.wp
      go_simp
      refine hK.out _ _ ⟨blk_cell (blk_alloc (blk_drewN hA3 _) _) 0, blk_cell (blk_alloc (blk_drewN hN3 _) _) 0, blk_cell (blk_alloc (blk_drewN hF3 _) _) 0, blk_cell (blk_alloc (blk_drewN hO3 _) _) 0⟩ (fun hHeld => ?_)
      clear hK K
      refine one_ (i := 13) (N := some 32) #[true, true, true, true, true, true, true, true, true, true, true, true, true, true, false] rfl rfl (by kernel_rfl) (by decide) (fun K hK => ?_)
      refine Kd.R_append_step k99 (w0 := w) base (by rfl) (.tmp 19) (.tmp 31) 92 99 (.agg #[(.int .i64 0), (.int .i64 0), (.int .i64 0), (.int .i64 0)]) 32 rfl Tryd.underlying92 info99 rfl (by decide) (by decide) (.slice Av out.length cv) out (⟨b, kd, from_, t⟩ : S99) [.int .i64 b, .int .i64 kd, .int .i64 from_, .int .i64 t] (fun _ => True) (fun _ => False) rfl rfl (k99_mkM _ _ _ ⟨b, kd, from_, t⟩) (fun _ hk => hk.elim) (fun _ _ => trivial) (Kd.R_drewN hR3 _) (pw_below_drewN B3 _) (by have := blk_lt hA3; exact Nat.le_of_lt (Nat.lt_of_le_of_lt bA this)) (by omega) ?_
      intro v1 w4 hR4 B4 hg4 hat4
      have nA : some gA ≠ (Value.slice Av out.length cv).ownBlock := Kd.R_ne hR3 hA3 (by decide)
      have nN : some gN ≠ (Value.slice Av out.length cv).ownBlock := Kd.R_ne hR3 hN3 (by decide)
      have nF : some gF ≠ (Value.slice Av out.length cv).ownBlock := Kd.R_ne hR3 hF3 (by decide)
      have nO : some gO ≠ (Value.slice Av out.length cv).ownBlock := Kd.R_ne hR3 hO3 (by decide)
      have hA4 := blk_grown (blk_drewN hA3 _) hg4 nA
      have hN4 := blk_grown (blk_drewN hN3 _) hg4 nN
      have hF4 := blk_grown (blk_drewN hF3 _) hg4 nF
      have hO4 := blk_grown (blk_drewN hO3 _) hg4 nO
      clear nA nN nF nO hg4 hat4
      have cA4 : w4.cell? ⟨gA, 0, none⟩ = some (.int .i64 b) := blk_cell hA4 0
      have cN4 : w4.cell? ⟨gN, 0, none⟩ = some (.int .i64 n) := blk_cell hN4 0
      have cF4 : w4.cell? ⟨gF, 0, none⟩ = some (.int .i64 from_) := blk_cell hF4 0
      have cO4 : w4.cell? ⟨gO, 0, none⟩ = some (.slice Av out.length cv) := blk_cell hO4 0
      have fO4 := blk_frozen hO4 0
      refine hK.out _ _ ⟨cA4, cN4, cF4, cO4⟩ (fun hHeld => ?_)
      clear hK K hHeld
      refine norm_ (a' := ?_) ?_ ?_
      rotate_left
      · show Act.put _ (some 32) _ = _
        simp only [Act.put, List.setIfInBounds_toArray, List.set_cons_zero, List.set_cons_succ, i64_w, i32_w]
        rfl
      obtain ⟨A4, c4, e4⟩ := Kd.R_slice hR4
      subst e4
      refine last_ (i := 14) (N := none) #[true, true, true, true, true, true, true, true, true, true, true, true, true, true, true] rfl rfl (by kernel_rfl) (by decide) (fun K hK => ?_)
      refine wanted_ (by rfl) ?_
      unfold Oper.wp
      go_simp
      refine hK.out _ _ ?_
      clear hK K
      refine done_ (by kernel_rfl) ?_
      have oA : gO ≠ gA := blk_ne hO4 hA4 (by decide)
      have oF : gO ≠ gF := blk_ne hO4 hF4 (by decide)
      have oN : gO ≠ gN := blk_ne hO4 hN4 (by decide)
      rw [show (out ++ [(⟨b, kd, from_, t⟩ : S99)]).length = out.length + 1 by simp] at hR4
      obtain ⟨W5, hW5⟩ : ∃ W5, w4.setCell ⟨gO, 0, none⟩ (.slice A4 (out.length + 1) c4) = W5 := ⟨_, rfl⟩
      rw [hW5]
      have hA5 : W5.heap[gA]? = some (.cells #[.int .i64 b] 3 (0, 0)) := by rw [← hW5]; exact blk_far hA4 (p := ⟨gO, 0, none⟩) oA.symm _
      have hN5 : W5.heap[gN]? = some (.cells #[.int .i64 n] 3 (0, 0)) := by rw [← hW5]; exact blk_far hN4 (p := ⟨gO, 0, none⟩) oN.symm _
      have hF5 : W5.heap[gF]? = some (.cells #[.int .i64 from_] 3 (0, 0)) := by rw [← hW5]; exact blk_far hF4 (p := ⟨gO, 0, none⟩) oF.symm _
      have hO5 : W5.heap[gO]? = some (.cells #[.slice A4 (out.length + 1) c4] 92 (0, 0)) := by rw [← hW5]; exact blk_put hO4 0 _ rfl
      have hR5 : Kd.R k99 99 W5 base (fun _ => True) (.slice A4 (out.length + 1) c4) (out ++ [⟨b, kd, from_, t⟩]) := by rw [← hW5]; exact Kd.R_set hR4 hO4 (by decide) 0 _
      have B5 : Below base w W5 := by rw [← hW5]; exact B4.setCell (p := ⟨gO, 0, none⟩) bO _
      clear hW5 hA4 hN4 hF4 hO4 hR4 B4 cA4 cN4 cF4 cO4 fO4
      have cA5 : W5.cell? ⟨gA, 0, none⟩ = some (.int .i64 b) := blk_cell hA5 0
      have fA5 := blk_frozen hA5 0
      have cF5 : W5.cell? ⟨gF, 0, none⟩ = some (.int .i64 from_) := blk_cell hF5 0
      have fF5 := blk_frozen hF5 0
      go_wp2
      go_ret
      have hA6 := blk_put hA5 0 (.int .i64 (wrap64 (wrap64 (wrap64 (b + 11) + t) - from_))) rfl
      have hF6 := blk_far hF5 (p := ⟨gA, 0, none⟩) nAF.symm (.int .i64 (wrap64 (wrap64 (wrap64 (b + 11) + t) - from_)))
      have hN6 := blk_far hN5 (p := ⟨gA, 0, none⟩) nAN.symm (.int .i64 (wrap64 (wrap64 (wrap64 (b + 11) + t) - from_)))
      have hO6 := blk_far hO5 (p := ⟨gA, 0, none⟩) oA (.int .i64 (wrap64 (wrap64 (wrap64 (b + 11) + t) - from_)))
      have hR6 := Kd.R_set hR5 hA5 (by decide) 0 (.int .i64 (wrap64 (wrap64 (wrap64 (b + 11) + t) - from_)))
      refine ⟨rfl, (B5.setCell (p := ⟨gA, 0, none⟩) bA _).setCell (p := ⟨gF, 0, none⟩) bF _, fun s hs => ?_⟩
      obtain rfl := Option.some.inj hs
      exact ⟨blk_far hA6 (p := ⟨gF, 0, none⟩) nAF _, blk_far hN6 (p := ⟨gF, 0, none⟩) nNF _, blk_put hF6 0 _ rfl, _, blk_far hO6 (p := ⟨gF, 0, none⟩) oF _, Kd.R_set hR6 hF6 (by decide) 0 _⟩
    · rw [if_neg c] at h2
      cases h2

theorem cut_next.mono (at_ n from_ : Int) (out : List S99) (k : Nat) : LeO (cut_next.f k at_ n from_ out) (cut_next.f (k + 1) at_ n from_ out) := by
  unfold cut_next.f
  refine LeO.bind (LeO.refl _) (fun _ => LeO.bind (LeO.refl _) (fun _ => LeO.ite (LeO.refl _) (LeO.bind (cut_kind.mono _ _ _) (fun _ => LeO.refl _))))
def cut_Cut.l0 : Nat → Int → Int → Int → List S99 → Option (List S99 × Int × Bool)
  | 0, _, _, _, _ => none
  | k + 1, at_, n, from_, out => if ((out.length : Int) == 0 || decide (from_ < n)) = true then (cut_next.f k at_ n from_ out).bind (fun r => r.elim (some ([], 0, false)) (fun s => cut_Cut.l0 k s.1 n s.2.1 s.2.2)) else some (out, at_, true)
def cut_Cut.f (k : Nat) (a0 : Int) (a1 : Int) : Option (List S99 × Int × Bool) := if a1 < 0 then some ([], 0, false) else if a1 > 832 then some ([], 0, false) else cut_Cut.l0 k a0 a1 0 []
theorem cut_Cut.mono_l (k : Nat) : ∀ at_ n from_ out, LeO (cut_Cut.l0 k at_ n from_ out) (cut_Cut.l0 (k + 1) at_ n from_ out) := by
  induction k with
  | zero => intro _ _ _ _ r h; simp [cut_Cut.l0] at h
  | succ k ih =>
    intro at_ n from_ out
    unfold cut_Cut.l0
    refine LeO.ite (LeO.bind (cut_next.mono _ _ _ _ _) (fun r => ?_)) (LeO.refl _)
    cases r with
    | none => exact LeO.refl _
    | some s => exact ih _ _ _ _
theorem cut_Cut.mono : ∀ a0 a1 k, LeO (cut_Cut.f k a0 a1) (cut_Cut.f (k + 1) a0 a1) := by
  intro a0 a1 k
  unfold cut_Cut.f
  exact LeO.ite (LeO.refl _) (LeO.ite (LeO.refl _) (cut_Cut.mono_l k _ _ _ _))
set_option maxHeartbeats 1000000 in
set_option maxRecDepth 100000 in
theorem cut_Cut.calls (k : Nat) (a0 : Int) (a1 : Int) (r1 : List S99) (r2 : Int) (r3 : Bool) (w : World) (h : cut_Cut.f k a0 a1 = some (r1, r2, r3)) :
    Calls Tryd.prog 65 #[.int .i64 a0, .int .i64 a1] w fun e w' => ∃ v0_ : Value, e = .returned (.tuple #[v0_, .int .i64 r2, .bool r3]) ∧ Kd.R k99 99 w' w.heap.size (fun _ => True) v0_ r1 ∧ Below w.heap.size w w' := by
  unfold cut_Cut.f at h
  have B0 := Below.refl w.heap.size w
  by_cases c1 : a1 < 0
  · rw [if_pos c1] at h
    simp only [Option.some.injEq, Prod.mk.injEq] at h
    obtain ⟨rfl, rfl, rfl⟩ := h
    have d1 : decide (a1 < 0) = true := decide_eq_true c1
    clear c1
    go_enter Tryd.func65, Tryd.ntmps65
    go_wp2
    go_ret3
    exact ⟨_, rfl, Kd.R_nil _ _ _ _ _, below_alloc (below_alloc B0 _) _⟩
  · rw [if_neg c1] at h
    have d1 : decide (a1 < 0) = false := decide_eq_false c1
    clear c1
    by_cases c2 : a1 > 832
    · rw [if_pos c2] at h
      simp only [Option.some.injEq, Prod.mk.injEq] at h
      obtain ⟨rfl, rfl, rfl⟩ := h
      have d2 : decide (832 < a1) = true := decide_eq_true c2
      clear c2
      go_enter Tryd.func65, Tryd.ntmps65
      go_wp2
      go_ret3
      exact ⟨_, rfl, Kd.R_nil _ _ _ _ _, below_alloc (below_alloc B0 _) _⟩
    · rw [if_neg c2] at h
      have d2 : decide (832 < a1) = false := decide_eq_false c2
      clear c2
      replace h := Aside0.mk h
      go_enter Tryd.func65, Tryd.ntmps65
      go_wp2_with fail
      obtain ⟨W, hW⟩ : ∃ W, (((w.alloc (.cells #[.int .i64 a0] 3)).alloc (.cells #[.int .i64 a1] 3)).alloc (.cells #[.slice none 0 0] 92)).alloc (.cells #[.int .i64 0] 3) = W := ⟨_, rfl⟩
      have hA : W.heap[w.heap.size]? = some (.cells #[.int .i64 a0] 3 (0, 0)) := by rw [← hW]; exact blk_alloc (blk_alloc (blk_alloc (blk_new w _) _) _) _
      have hN : W.heap[w.heap.size + 1]? = some (.cells #[.int .i64 a1] 3 (0, 0)) := by
        rw [← hW]
        have := blk_new (w.alloc (.cells #[.int .i64 a0] 3)) (.cells #[.int .i64 a1] 3)
        rw [World.size_alloc] at this
        exact blk_alloc (blk_alloc this _) _
      have hO : W.heap[w.heap.size + 1 + 1]? = some (.cells #[.slice none 0 0] 92 (0, 0)) := by
        rw [← hW]
        have := blk_new ((w.alloc (.cells #[.int .i64 a0] 3)).alloc (.cells #[.int .i64 a1] 3)) (.cells #[.slice none 0 0] 92)
        rw [World.size_alloc, World.size_alloc] at this
        exact blk_alloc this _
      have hF : W.heap[w.heap.size + 1 + 1 + 1]? = some (.cells #[.int .i64 0] 3 (0, 0)) := by
        rw [← hW]
        have := blk_new (((w.alloc (.cells #[.int .i64 a0] 3)).alloc (.cells #[.int .i64 a1] 3)).alloc (.cells #[.slice none 0 0] 92)) (.cells #[.int .i64 0] 3)
        rw [World.size_alloc, World.size_alloc, World.size_alloc] at this
        exact this
      have BW : Below w.heap.size w W := by rw [← hW]; exact below_alloc (below_alloc (below_alloc (below_alloc B0 _) _) _) _
      rw [hW]
      clear hW B0
      replace hA := Aside0.mk hA
      replace hN := Aside0.mk hN
      replace hO := Aside0.mk hO
      replace hF := Aside0.mk hF
      replace BW := Aside0.mk BW
      go_loopg [] k (fun kq w' => ∃ (x_at x_from : Int) (x_out : List S99) (xv : Value), Aside0 (w'.heap[w.heap.size]? = some (.cells #[.int .i64 x_at] 3 (0, 0))) ∧ Aside0 (w'.heap[w.heap.size + 1]? = some (.cells #[.int .i64 a1] 3 (0, 0))) ∧ Aside0 (w'.heap[w.heap.size + 1 + 1]? = some (.cells #[xv] 92 (0, 0))) ∧ Aside0 (w'.heap[w.heap.size + 1 + 1 + 1]? = some (.cells #[.int .i64 x_from] 3 (0, 0))) ∧ Aside0 (cut_Cut.l0 kq x_at a1 x_from x_out = some (r1, r2, r3)) ∧ Aside0 (kq ≤ k) ∧ Aside0 (Kd.R k99 99 w' w.heap.size (fun _ => True) xv x_out) ∧ Aside0 (Below w.heap.size w w'))
      case atStart => exact ⟨a0, 0, [], _, hA, hN, hO, hF, h, ⟨Nat.le_refl _⟩, ⟨Kd.R_nil _ _ _ _ _⟩, BW⟩
      case round =>
        clear hA hN hO hF BW h d1 d2
        obtain ⟨x_at, x_from, x_out, xv, hA, hN, hO, hF, HA, HK1, HO_, HB⟩ := hrel
        cases gk with
        | zero => exact absurd HA.out (by simp [cut_Cut.l0])
        | succ k1 =>
          have H := HA.out
          clear HA
          simp only [cut_Cut.l0] at H
          obtain ⟨Av, cv, ev⟩ := Kd.R_slice HO_.out
          subst ev
          have cN : wr.cell? ⟨w.heap.size + 1, 0, none⟩ = some (.int .i64 a1) := blk_cell hN.out 0
          have cO : wr.cell? ⟨w.heap.size + 1 + 1, 0, none⟩ = some (.slice Av x_out.length cv) := blk_cell hO.out 0
          have cF : wr.cell? ⟨w.heap.size + 1 + 1 + 1, 0, none⟩ = some (.int .i64 x_from) := blk_cell hF.out 0
          by_cases c : ((x_out.length : Int) == 0 || decide (x_from < a1)) = true
          · rw [if_pos c] at H
            obtain ⟨s, hs, H⟩ := Option.bind_eq_some_iff.mp H
            have HS := Aside0.mk hs
            have H' := Aside0.mk H
            clear hs H
            by_cases e1 : ((x_out.length : Int) == 0) = true
            all_goals
              first
              | (have e2 : ((x_out.length : Int) == 0) = false := by simpa using e1)
              | skip
              first
              | (have e3 : decide (x_from < a1) = true := by rw [e2] at c; simpa using c)
              | skip
              clear c
              go_wp2_with fail
              refine (cut_next.calls k1 x_at a1 x_from x_out s HS.out wr w.heap.size w.heap.size (w.heap.size + 1) (w.heap.size + 1 + 1 + 1) (w.heap.size + 1 + 1) _ hA.out hN.out hF.out hO.out (by omega) (by omega) (by omega) (by omega) (by omega) (by omega) (by omega) HO_.out).mono ?_
              rintro e w5 ⟨rfl, b5, hs5⟩
              have HB5 := Aside0.mk (HB.out.trans b5)
              clear b5
              cases s with
              | none =>
                have H2 := H'.out
                simp only [Option.elim_none, Option.some.injEq, Prod.mk.injEq] at H2
                obtain ⟨rfl, rfl, rfl⟩ := H2
                clear hs5 H' HS
                simp only [Option.isSome_none]
                go_wp2
                go_ret3
                exact ⟨_, rfl, Kd.R_nil _ _ _ _ _, HB5.out⟩
              | some s =>
                obtain ⟨hA5, hN5, hF5, v5, hO5, hR5⟩ := hs5 s rfl
                have H2 := Aside0.mk H'.out
                simp only [Option.elim_some] at H2
                replace hA5 := Aside0.mk hA5
                replace hN5 := Aside0.mk hN5
                replace hF5 := Aside0.mk hF5
                replace hO5 := Aside0.mk hO5
                replace hR5 := Aside0.mk hR5
                clear hs5 H' HS hA hN hO hF HB HO_ cN cO cF
                simp only [Option.isSome_some]
                go_wp2
                go_roundg k1
                case measure => have := HK1.out; omega
                case rel => exact ⟨s.1, s.2.1, s.2.2, v5, hA5, hN5, hO5, hF5, H2, ⟨by have := HK1.out; omega⟩, hR5, HB5⟩
          · rw [if_neg c] at H
            simp only [Option.some.injEq, Prod.mk.injEq] at H
            obtain ⟨rfl, rfl, rfl⟩ := H
            have e1 : ((x_out.length : Int) == 0) = false := by cases e : ((x_out.length : Int) == 0) <;> simp_all
            have e2 : decide (x_from < a1) = false := by cases e : decide (x_from < a1) <;> simp_all
            have cA : wr.cell? ⟨w.heap.size, 0, none⟩ = some (.int .i64 x_at) := blk_cell hA.out 0
            clear c
            go_wp2
            go_quiet (fail)
            go_wp2
            go_ret3
            exact ⟨_, rfl, by first | exact HO_.out | exact Kd.R_drewN HO_.out _ | exact Kd.R_drew HO_.out, by first | exact HB.out | exact pw_below_drewN HB.out _⟩
end Go.Proofs.YthhbilkmdfdfiaaDoor.F
end
