/- JoinFeeds: the statement's function. -/
import Derived.Test.YthlpimojojofbaaFeed
import Derived.Test.YthlpimojojofbaaAwake15
namespace Go.Proofs.Ythlpimojojofbaa.O
open Go.RowKit Go.Proofs.YthlpimojojofbaaW.PrintWords Go.Proofs.YthlpimojojofbaaW.PrintLast Go.Proofs.YthlpimojojofbaaW.PrintMore Go.Proofs.Ythlpimojojofbaa.F Go.Proofs.Ythlpimojojofbaa.F.Nums Go.Proofs.Ythlpimojojofbaa.Plain
set_option linter.unusedVariables false
set_option linter.unusedSimpArgs false
theorem awake15 (w : World) : Calls Try.prog 41 #[] w fun e w' => e = .returned (.bool true) ∧ Below w.heap.size w w' := strandlinelaw15_awake.calls true w rfl
theorem new_own {w0 W : World} {F : Nat → Option Obj} {L : List Res} (H : Own w0 F L W) : Calls Try.prog 42 #[] W fun e W' => ∃ g, e = .returned (.pointer (some ⟨g, 0, none⟩)) ∧ Own w0 F (.blk g 116 [.bool false, .slice none 0 0] :: L) W' := by
  refine (joinNew_calls W).mono ?_
  rintro e W' ⟨rfl, rfl⟩
  exact ⟨_, rfl, H.cons (below_alloc (Below.refl _ _) _) ⟨H.size, blk_new _ _⟩ (fun k hk => by simp [Res.block] at hk; omega)⟩
theorem idle_own {w0 W : World} {F : Nat → Option Obj} {L : List Res} {c : Res → List Res} {op : Bool} {v : Value} {g : Nat} (H : Own w0 F L W) (hI : In L (.blk g 116 [.bool op, v]) c) : Calls Try.prog 45 #[.pointer (some ⟨g, 0, none⟩)] W fun e W' => e = .returned (.bool (!op)) ∧ W = W' :=
  joinIdle_calls op v W g (H.at_ hI).2
set_option maxRecDepth 100000 in
set_option maxHeartbeats 4000000 in
theorem feed_nil (kind : Int) (w : World) : Calls Try.prog 43 #[.pointer none, .agg #[.int .i64 kind, .int .u32 0, .slice none 0 0]] w fun e w' => e = .returned (.tuple #[.slice none 0 0, .bool false, .int .i64 11]) ∧ Below w.heap.size w w' := by
  have H := Own.start w
  go_enter Try.func43, Try.ntmps43
  go_wp2_with (first
    | ((with_reducible refine gate_dst (N := 3) rfl ?_); refine l_boxA rfl H 66 _ rfl _ rfl ?_; clear H; intro g3 W H))
  go_ret3
  exact ⟨rfl, H.below⟩
theorem r_loadRd0 {P : Program} {o : Oper} {a : Act} {W : World} {p : Addr} {cs : List Value} (ty : TypeId) (x : Operand) (ho : o.op = .load ty x) (hx : a.eval x = .pointer (some p)) (hR : Rd W (some p) cs)
    (n : Nat) (d : TypeDesc) (hu : P.underlying ty = some d) (hd : d.isRow = true) (hi : (P.info? ty).map (·.size) = some n) (hn : 0 < n) (hl : cs.length = n) :
    (execOp a.eval o).run P W = .ok (.value (.agg cs.toArray)) W := by
  have h := r_loadRd (P := P) (o := o) (a := a) ty x ho 0 (ad := p) (cs := cs) (by rw [hx]; congr 2) hR n d hu hd hi hn (by omega)
  rwa [List.drop_zero, List.take_of_length_le (by omega)] at h
/-- element k of a row of fragments -/
theorem frag_at {w : World} {A : Option Addr} {n : Nat} {l : List S66} (h : Kd.C k66 w A n l) (k : Nat) (hk : k < n) :
    ∃ ad A2 c2, A = some ad ∧ Rd w (some (ad.add (k * 3))) [.int .i64 (rd_T66 l k).f0, .int .u32 (rd_T66 l k).f1, .slice A2 (rd_T66 l k).f2.length c2] ∧ (rd_T66 l k).f2.length ≤ c2 ∧ (Kd.int .u8).C w A2 (rd_T66 l k).f2.length (rd_T66 l k).f2 := by
  obtain ⟨ad, c, e, _, hK, hc0⟩ := Kd.C_get h z66 (k : Int) (by omega) (by omega)
  have hc : ∀ j u, c[j]? = some u → w.cell? (ad.add (k * 3 + j)) = some u := hc0
  obtain ⟨A2, c2, rfl, l2, g2⟩ := k66_open hK
  exact ⟨ad, A2, c2, e, fun _ => ⟨_, rfl, fun j v hj => by rw [add_add']; exact hc j v hj⟩, l2, g2⟩
theorem feedF_len1 (op : Bool) (b : List Int) (kind : Int) (data : List Int) : (feedF op b kind data).1.1.length ≤ 512 := by
  unfold feedF
  split
  · simp
  · split
    · simp
    · split
      · simp only [List.length_append]; omega
      · simp
set_option maxRecDepth 100000 in
set_option maxHeartbeats 4000000 in
theorem joinFeeds_law (l : List S66) (A : Option Addr) (c : Nat) (w : World) (hr : Kd.C k66 w A l.length l) (hc : l.length ≤ c) (hl : ∀ k, (rd_T66 l k).f2.length ≤ 140737488351232) :
    Calls Try.prog 8 #[.slice A l.length c] w fun e w' => e = .returned (.bool true) ∧ Below w.heap.size w w' := by
  have H := Own.start w
  by_cases h5 : 200 < l.length
  · have q1 : decide (200 < (l.length : Int)) = true := decide_eq_true (by omega)
    go_enter Try.func8, Try.ntmps8
    go_wp2_with (first
    | (go_at_call 41; (with_reducible refine (awake15 _).mono ?_); rintro e W ⟨rfl, hb⟩; replace H := H.to hb; clear hb))
    go_ret
    exact ⟨rfl, H.below⟩
  · have q1 : decide (200 < (l.length : Int)) = false := decide_eq_false (by omega)
    have HFr := fun k (hk : k < l.length) => frag_at hr k hk
    have hnn : l.length ≤ 200 := by omega
    generalize l.length = n at *
    clear hr h5
    go_enter Try.func8, Try.ntmps8
    go_wp2_with (first
    | ((with_reducible refine gate_dst (N := 4) rfl ?_); refine l_allocA rfl H 61 rfl _ zero61 ?_; clear H; intro g4 W H)
    | ((with_reducible refine gate_store (t := 61) (p := 4) rfl ?_); refine l_storeW rfl H 61 _ _ rfl _ rfl _ rfl (by (repeat (first | exact In.head | apply In.tail))) _ size61 (by (first | rfl | assumption | omega | (simp only [nums_length]; omega) | (simp [nums_length, zs]; done) | (simp [nums_length, zs]; omega))) (by (first | rfl | assumption | omega | (simp only [nums_length]; omega) | (simp [nums_length, zs]; done) | (simp [nums_length, zs]; omega))) (by (first | exact nums_one | (intro u hu; simp at hu; subst hu; rfl) | (intro u hu; simp at hu; rcases hu with rfl | rfl | rfl | rfl | rfl | rfl | rfl <;> rfl) | (intro u hu; simp at hu; rcases hu with rfl | rfl | rfl | rfl <;> rfl) | (intro u hu; simp at hu; rcases hu with rfl | rfl | rfl <;> rfl) | (intro u hu; simp at hu; rcases hu with rfl | rfl <;> rfl))) ?_; clear H; intro W H)
    | (go_at_call 42; (with_reducible refine (new_own H).mono ?_); clear H; rintro e W ⟨g3, rfl, H⟩))
    have H1 := (H.cons (r := .row (.slice none 0 0) 5 1 0 []) (Below.refl _ _) (own_nil _ _ _ _) (fun k hk => by cases hk))
    have H2 := (H1.cons (r := .row (.slice none 0 0) 5 1 0 []) (Below.refl _ _) (own_nil _ _ _ _) (fun k hk => by cases hk))
    clear H H1
    go_loopg [5] n (fun gq v5 w' => ∃ (k : Nat) (op : Bool) (b : List Int) (Av Au : Option Addr) (cv cu : Nat) (x y : Value), v5 = .int .i64 (k : Int) ∧ k + gq = n ∧ b.length ≤ 512 ∧ b.length ≤ cv ∧ b.length ≤ cu ∧ (b ≠ [] → .slice Av b.length cv = x) ∧ (b ≠ [] → .slice Au b.length cu = y) ∧ Own w F0 [.row x 5 1 b.length (nums .u8 b), .row y 5 1 b.length (nums .u8 b), .blk g4 61 [.bool op, .slice Au b.length cu], .blk g3 116 [.bool op, .slice Av b.length cv]] w')
    case atStart => exact ⟨0, false, [], none, none, 0, 0, _, _, rfl, by omega, by simp, by simp, by simp, fun h => absurd rfl h, fun h => absurd rfl h, H2⟩
    case round =>
      clear H2
      obtain ⟨k, op, b, Av, Au, cv, cu, x, y, rfl, hk, hb5, hbv, hbu, hxv, hyu, H⟩ := hrel
      by_cases ck : k < n
      · obtain ⟨gk', rfl⟩ : ∃ q, gk = q + 1 := ⟨gk - 1, by omega⟩
        have q3 : decide (k < n) = true := decide_eq_true ck
        have p0 : ((0 : Int) ≤ (k : Int)) = True := eq_true (by omega)
        have p1 : ((k : Int) < (n : Int)) = True := eq_true (by omega)
        obtain ⟨ad, A2, c2, rfl, hRf, hl2, hCd⟩ := HFr k ck
        have hld := hl (k : Int)
        generalize rd_T66 l (k : Int) = f at hRf hl2 hCd hld
        obtain ⟨fk, fe, fd⟩ := f
        dsimp only at hRf hl2 hCd hld
        have FO := fun W (H : Own w F0 [.row x 5 1 b.length (nums .u8 b), .row y 5 1 b.length (nums .u8 b), .blk g4 61 [.bool op, .slice Au b.length cu], .blk g3 116 [.bool op, .slice Av b.length cv]] W) => feed_own op b fk fe fd g3 Av A2 cv c2 x H (.tail (.tail .head)) hxv hbv (by omega) (Kd.C_below hCd H.below) hld hl2
        have RO := fun W L (H : Own w F0 L W) hb => rfeed_own op b fk fe fd Au A2 cu c2 H hb hbu hb5 (Kd.C_below hCd H.below) hld hl2
        have r1 := feedF_one op b fk fd
        have r2 := feedF_len op b fk fd
        have r3 := feedF_len1 op b fk fd
        generalize feedF op b fk fd = r at FO RO r1 r2 r3
        obtain ⟨⟨ra, dn, er⟩, op', rb⟩ := r
        dsimp only at FO RO r1 r2 r3
        clear hl HFr hld
        obtain ⟨pp, ee, hcell⟩ := (hRf.below H.below) (by simp)
        obtain rfl := Option.some.inj ee
        have m0 : wr.cell? (ad.add (k * 3)) = some (.int .i64 fk) := by have := hcell 0 _ rfl; rwa [add_add', Nat.add_zero] at this
        have m1 : wr.cell? ⟨(ad.add (k * 3)).block, (ad.add (k * 3)).off + 1, none⟩ = some (.int .u32 fe) := by rw [← add_field _ _ 1 (by omega), ← add_add']; exact hcell 1 _ rfl
        have m2 : wr.cell? ⟨(ad.add (k * 3)).block, (ad.add (k * 3)).off + 2, none⟩ = some (.slice A2 fd.length c2) := by rw [← add_field _ _ 2 (by omega), ← add_add']; exact hcell 2 _ rfl
        clear hcell
        go_wp2_with (first
    | (go_at_call 43; (with_reducible refine (FO _ H).mono ?_); clear H; rintro e W ⟨rv, v', x', rfl, ⟨A6, c6, rfl, k6⟩, ⟨A3, c3, rfl, k3⟩, h6, h3, H⟩))
        refine start_ (n := 16) (S := Own _ _ _) (ds := []) #[false, false, false, false, false, false, false, false, false, false, false, false, false, false, false, false] (by kernel_rfl) rfl rfl H.drew (fun hHeld => ?_)
        replace H := H.drew
        generalize World.drew _ = W at H hHeld ⊢
        refine pure_ (i := 1) (N := some 41) (v := ?_) (a' := ?_) #[false, true, false, false, false, false, false, false, false, false, false, false, false, false, false, false] rfl rfl (by kernel_rfl) (fun _ _ _ h => h) (Or.inl ⟨by rfl, ?_⟩) ?_ ?_
        rotate_left
        · intro w'
          go_simp
          with_reducible rfl
        rotate_left
        · simp only [Act.put, List.setIfInBounds_toArray, List.set_cons_zero, List.set_cons_succ, i64_w, i32_w]
          rfl
        refine pure_ (i := 2) (N := some 42) (v := ?_) (a' := ?_) #[false, true, true, false, false, false, false, false, false, false, false, false, false, false, false, false] rfl rfl (by kernel_rfl) (fun _ _ _ h => h) (Or.inl ⟨by rfl, ?_⟩) ?_ ?_
        rotate_left
        · intro w'
          go_simp
          with_reducible rfl
        rotate_left
        · simp only [Act.put, List.setIfInBounds_toArray, List.set_cons_zero, List.set_cons_succ, i64_w, i32_w]
          rfl
        refine pure_ (i := 3) (N := some 43) (v := ?_) (a' := ?_) #[false, true, true, true, false, false, false, false, false, false, false, false, false, false, false, false] rfl rfl (by kernel_rfl) (fun _ _ _ h => h) (Or.inl ⟨by rfl, ?_⟩) ?_ ?_
        rotate_left
        · intro w'
          go_simp
          with_reducible rfl
        rotate_left
        · simp only [Act.put, List.setIfInBounds_toArray, List.set_cons_zero, List.set_cons_succ, i64_w, i32_w]
          rfl
        refine take_loadA (i := 0) (N := some 40) (a' := ?_) #[true, true, true, true, false, false, false, false, false, false, false, false, false, false, false, false] rfl rfl (by kernel_rfl) (fun _ _ _ _ h => h) (by rfl) hHeld 61 _ rfl _ rfl (by (repeat (first | exact In.head | apply In.tail))) _ _ Try.underlying61 rfl size61 (by (first | rfl | assumption | omega | (simp only [nums_length]; omega) | (simp [nums_length, zs]; done) | (simp [nums_length, zs]; omega))) ?_ ?_
        rotate_left
        · simp only [Act.put, List.setIfInBounds_toArray, List.set_cons_zero, List.set_cons_succ, i64_w, i32_w]
          rfl
        refine take_run (i := 4) (N := some 44) (a' := ?_) #[true, true, true, true, true, false, false, false, false, false, false, false, false, false, false, false] rfl rfl (by kernel_rfl) (fun _ _ _ _ h => h) (by rfl) hHeld (.agg #[.int .i64 fk, .int .u32 fe, .slice A2 fd.length c2]) (fun X HX => r_loadRd0 66 _ rfl rfl (hRf.below HX.below) _ _ Try.underlying66 rfl size66 (by decide) rfl) ?_ ?_
        rotate_left
        · simp only [Act.put, List.setIfInBounds_toArray, List.set_cons_zero, List.set_cons_succ, i64_w, i32_w]
          rfl
        refine two_ (i := 5) (j := 11) (Ni := some 45) (Nj := some 9) #[true, true, true, true, true, true, false, false, false, false, false, false, false, false, false, false] #[true, true, true, true, true, false, false, false, false, false, false, true, false, false, false, false] rfl rfl rfl rfl (by kernel_rfl) (by decide) (by decide) (fun K hK => ?_) (fun K hK => ?_)
        focus
          refine callK_ (RO W _ H (by first|exact own_C H (.tail .head) hyu (fun _ => ⟨rfl, rfl⟩) (by omega)|exact own_C H (.tail (.tail .head)) hyu (fun _ => ⟨rfl, rfl⟩) (by omega))) Try.func44 (by kernel_rfl) rfl (by rfl) rfl rfl (by (try simp only [List.map_toArray, List.map_cons, List.map_nil]); first | done | rfl) ?_
          rintro e W ⟨rv4, v4, y', rfl, ⟨A10, c10, rfl, k10⟩, ⟨A4, c4, rfl, k4⟩, h10, h4, H'⟩
          refine ⟨_, rfl, ?_⟩
          replace H := H'
          clear H'
          refine hK.out _ _ ?_ (fun hHeld => ?_)
          · first | trivial | exact H | exact H.del .head | exact (H.del .head).del .head
          clear hK K
          refine norm_ (a' := ?_) ?_ ?_
          rotate_left
          · show Act.put _ (some 45) _ = _
            simp only [Act.put, List.setIfInBounds_toArray, List.set_cons_zero, List.set_cons_succ, i64_w, i32_w]
            rfl
          refine pure_ (i := 6) (N := some 39) (v := ?_) (a' := ?_) #[true, true, true, true, true, true, true, false, false, false, false, false, false, false, false, false] rfl rfl (by kernel_rfl) (fun _ _ _ h => h) (Or.inl ⟨by rfl, ?_⟩) ?_ ?_
          rotate_left
          · intro w'
            go_simp
            with_reducible rfl
          rotate_left
          · simp only [Act.put, List.setIfInBounds_toArray, List.set_cons_zero, List.set_cons_succ, i64_w, i32_w]
            rfl
          refine pure_ (i := 7) (N := some 46) (v := ?_) (a' := ?_) #[true, true, true, true, true, true, true, true, false, false, false, false, false, false, false, false] rfl rfl (by kernel_rfl) (fun _ _ _ h => h) (Or.inl ⟨by rfl, ?_⟩) ?_ ?_
          rotate_left
          · intro w'
            go_simp
            with_reducible rfl
          rotate_left
          · simp only [Act.put, List.setIfInBounds_toArray, List.set_cons_zero, List.set_cons_succ, i64_w, i32_w]
            rfl
          refine pure_ (i := 8) (N := some 47) (v := ?_) (a' := ?_) #[true, true, true, true, true, true, true, true, true, false, false, false, false, false, false, false] rfl rfl (by kernel_rfl) (fun _ _ _ h => h) (Or.inl ⟨by rfl, ?_⟩) ?_ ?_
          rotate_left
          · intro w'
            go_simp
            with_reducible rfl
          rotate_left
          · simp only [Act.put, List.setIfInBounds_toArray, List.set_cons_zero, List.set_cons_succ, i64_w, i32_w]
            rfl
          refine pure_ (i := 9) (N := some 48) (v := ?_) (a' := ?_) #[true, true, true, true, true, true, true, true, true, true, false, false, false, false, false, false] rfl rfl (by kernel_rfl) (fun _ _ _ h => h) (Or.inl ⟨by rfl, ?_⟩) ?_ ?_
          rotate_left
          · intro w'
            go_simp
            with_reducible rfl
          rotate_left
          · simp only [Act.put, List.setIfInBounds_toArray, List.set_cons_zero, List.set_cons_succ, i64_w, i32_w]
            rfl
          refine pure_ (i := 10) (N := some 49) (v := ?_) (a' := ?_) #[true, true, true, true, true, true, true, true, true, true, true, false, false, false, false, false] rfl rfl (by kernel_rfl) (fun _ _ _ h => h) (Or.inl ⟨by rfl, ?_⟩) ?_ ?_
          rotate_left
          · intro w'
            go_simp
            with_reducible rfl
          rotate_left
          · simp only [Act.put, List.setIfInBounds_toArray, List.set_cons_zero, List.set_cons_succ, i64_w, i32_w]
            rfl
          refine one_ (i := 11) (N := some 9) #[true, true, true, true, true, true, true, true, true, true, true, true, false, false, false, false] rfl rfl (by kernel_rfl) (by decide) (fun K hK => ?_)
          refine wanted_ rfl ?_
          refine w_allocA H 61 rfl _ zero61 ?_
          clear H
          intro g9 W H
          refine hK.out _ _ ?_ (fun hHeld => ?_)
          · first | trivial | exact H | exact H.del .head | exact (H.del .head).del .head
          clear hK K
          refine norm_ (a' := ?_) ?_ ?_
          rotate_left
          · show Act.put _ (some 9) _ = _
            simp only [Act.put, List.setIfInBounds_toArray, List.set_cons_zero, List.set_cons_succ, i64_w, i32_w]
            rfl
        rotate_left
        focus
          refine wanted_ rfl ?_
          refine w_allocA H 61 rfl _ zero61 ?_
          clear H
          intro g9 W H
          refine hK.out _ _ ?_ (fun hHeld => ?_)
          · first | trivial | exact H | exact H.del .head | exact (H.del .head).del .head
          clear hK K
          refine norm_ (a' := ?_) ?_ ?_
          rotate_left
          · show Act.put _ (some 9) _ = _
            simp only [Act.put, List.setIfInBounds_toArray, List.set_cons_zero, List.set_cons_succ, i64_w, i32_w]
            rfl
          refine one_ (i := 5) (N := some 45) #[true, true, true, true, true, true, false, false, false, false, false, true, false, false, false, false] rfl rfl (by kernel_rfl) (by decide) (fun K hK => ?_)
          refine callK_ (RO W _ H (by first|exact own_C H (.tail .head) hyu (fun _ => ⟨rfl, rfl⟩) (by omega)|exact own_C H (.tail (.tail .head)) hyu (fun _ => ⟨rfl, rfl⟩) (by omega))) Try.func44 (by kernel_rfl) rfl (by rfl) rfl rfl (by (try simp only [List.map_toArray, List.map_cons, List.map_nil]); first | done | rfl) ?_
          rintro e W ⟨rv4, v4, y', rfl, ⟨A10, c10, rfl, k10⟩, ⟨A4, c4, rfl, k4⟩, h10, h4, H'⟩
          refine ⟨_, rfl, ?_⟩
          replace H := H'
          clear H'
          refine hK.out _ _ ?_ (fun hHeld => ?_)
          · first | trivial | exact H | exact H.del .head | exact (H.del .head).del .head
          clear hK K
          refine norm_ (a' := ?_) ?_ ?_
          rotate_left
          · show Act.put _ (some 45) _ = _
            simp only [Act.put, List.setIfInBounds_toArray, List.set_cons_zero, List.set_cons_succ, i64_w, i32_w]
            rfl
          refine pure_ (i := 6) (N := some 39) (v := ?_) (a' := ?_) #[true, true, true, true, true, true, true, false, false, false, false, true, false, false, false, false] rfl rfl (by kernel_rfl) (fun _ _ _ h => h) (Or.inl ⟨by rfl, ?_⟩) ?_ ?_
          rotate_left
          · intro w'
            go_simp
            with_reducible rfl
          rotate_left
          · simp only [Act.put, List.setIfInBounds_toArray, List.set_cons_zero, List.set_cons_succ, i64_w, i32_w]
            rfl
          refine pure_ (i := 7) (N := some 46) (v := ?_) (a' := ?_) #[true, true, true, true, true, true, true, true, false, false, false, true, false, false, false, false] rfl rfl (by kernel_rfl) (fun _ _ _ h => h) (Or.inl ⟨by rfl, ?_⟩) ?_ ?_
          rotate_left
          · intro w'
            go_simp
            with_reducible rfl
          rotate_left
          · simp only [Act.put, List.setIfInBounds_toArray, List.set_cons_zero, List.set_cons_succ, i64_w, i32_w]
            rfl
          refine pure_ (i := 8) (N := some 47) (v := ?_) (a' := ?_) #[true, true, true, true, true, true, true, true, true, false, false, true, false, false, false, false] rfl rfl (by kernel_rfl) (fun _ _ _ h => h) (Or.inl ⟨by rfl, ?_⟩) ?_ ?_
          rotate_left
          · intro w'
            go_simp
            with_reducible rfl
          rotate_left
          · simp only [Act.put, List.setIfInBounds_toArray, List.set_cons_zero, List.set_cons_succ, i64_w, i32_w]
            rfl
          refine pure_ (i := 9) (N := some 48) (v := ?_) (a' := ?_) #[true, true, true, true, true, true, true, true, true, true, false, true, false, false, false, false] rfl rfl (by kernel_rfl) (fun _ _ _ h => h) (Or.inl ⟨by rfl, ?_⟩) ?_ ?_
          rotate_left
          · intro w'
            go_simp
            with_reducible rfl
          rotate_left
          · simp only [Act.put, List.setIfInBounds_toArray, List.set_cons_zero, List.set_cons_succ, i64_w, i32_w]
            rfl
          refine pure_ (i := 10) (N := some 49) (v := ?_) (a' := ?_) #[true, true, true, true, true, true, true, true, true, true, true, true, false, false, false, false] rfl rfl (by kernel_rfl) (fun _ _ _ h => h) (Or.inl ⟨by rfl, ?_⟩) ?_ ?_
          rotate_left
          · intro w'
            go_simp
            with_reducible rfl
          rotate_left
          · simp only [Act.put, List.setIfInBounds_toArray, List.set_cons_zero, List.set_cons_succ, i64_w, i32_w]
            rfl
          replace H := H.perm (List.Perm.swap _ _ _)
        all_goals
          refine one_ (i := 12) (N := none) #[true, true, true, true, true, true, true, true, true, true, true, true, true, false, false, false] rfl rfl (by kernel_rfl) (by decide) (fun K hK => ?_)
          refine wanted_ rfl ?_
          refine w_storeW H 61 _ _ rfl _ rfl _ rfl (by (repeat (first | exact In.head | apply In.tail))) _ size61 (by (first | rfl | assumption | omega | (simp only [nums_length]; omega) | (simp [nums_length, zs]; done) | (simp [nums_length, zs]; omega))) (by (first | rfl | assumption | omega | (simp only [nums_length]; omega) | (simp [nums_length, zs]; done) | (simp [nums_length, zs]; omega))) (by (first | exact nums_one | (intro u hu; simp at hu; subst hu; rfl) | (intro u hu; simp at hu; rcases hu with rfl | rfl | rfl | rfl | rfl | rfl | rfl <;> rfl) | (intro u hu; simp at hu; rcases hu with rfl | rfl | rfl | rfl <;> rfl) | (intro u hu; simp at hu; rcases hu with rfl | rfl | rfl <;> rfl) | (intro u hu; simp at hu; rcases hu with rfl | rfl <;> rfl))) ?_
          clear H
          intro W H
          refine hK.out _ _ ?_ (fun hHeld => ?_)
          · first | trivial | exact H | exact H.del .head | exact (H.del .head).del .head
          clear hK K
          refine pure_ (i := 13) (N := some 10) (v := ?_) (a' := ?_) #[true, true, true, true, true, true, true, true, true, true, true, true, true, true, false, false] rfl rfl (by kernel_rfl) (fun _ _ _ h => h) (Or.inl ⟨by rfl, ?_⟩) ?_ ?_
          rotate_left
          · intro w'
            go_simp
            with_reducible rfl
          rotate_left
          · simp only [Act.put, List.setIfInBounds_toArray, List.set_cons_zero, List.set_cons_succ, i64_w, i32_w]
            rfl
          refine pure_ (i := 14) (N := some 11) (v := ?_) (a' := ?_) #[true, true, true, true, true, true, true, true, true, true, true, true, true, true, true, false] rfl rfl (by kernel_rfl) (fun _ _ _ h => h) (Or.inl ⟨by rfl, ?_⟩) ?_ ?_
          rotate_left
          · intro w'
            go_simp
            with_reducible rfl
          rotate_left
          · simp only [Act.put, List.setIfInBounds_toArray, List.set_cons_zero, List.set_cons_succ, i64_w, i32_w]
            rfl
          refine pure_ (i := 15) (N := some 12) (v := ?_) (a' := ?_) #[true, true, true, true, true, true, true, true, true, true, true, true, true, true, true, true] rfl rfl (by kernel_rfl) (fun _ _ _ h => h) (Or.inl ⟨by rfl, ?_⟩) ?_ ?_
          rotate_left
          · intro w'
            go_simp
            with_reducible rfl
          rotate_left
          · simp only [Act.put, List.setIfInBounds_toArray, List.set_cons_zero, List.set_cons_succ, i64_w, i32_w]
            rfl
          refine done_ (by kernel_rfl) ?_
          clear hHeld
        all_goals
          go_wp2_with (first
    | ((with_reducible refine gate_dst (N := 50) rfl ?_); refine l_loadA rfl H 61 _ rfl _ rfl (by (repeat (first | exact In.head | apply In.tail))) _ _ Try.underlying61 rfl size61 (by (first | rfl | assumption | omega | (simp only [nums_length]; omega) | (simp [nums_length, zs]; done) | (simp [nums_length, zs]; omega))) ?_)
    | ((with_reducible refine gate_store (t := 61) (p := 4) rfl ?_); refine l_storeW rfl H 61 _ _ rfl _ rfl _ rfl (by (repeat (first | exact In.head | apply In.tail))) _ size61 (by (first | rfl | assumption | omega | (simp only [nums_length]; omega) | (simp [nums_length, zs]; done) | (simp [nums_length, zs]; omega))) (by (first | rfl | assumption | omega | (simp only [nums_length]; omega) | (simp [nums_length, zs]; done) | (simp [nums_length, zs]; omega))) (by (first | exact nums_one | (intro u hu; simp at hu; subst hu; rfl) | (intro u hu; simp at hu; rcases hu with rfl | rfl | rfl | rfl | rfl | rfl | rfl <;> rfl) | (intro u hu; simp at hu; rcases hu with rfl | rfl | rfl | rfl <;> rfl) | (intro u hu; simp at hu; rcases hu with rfl | rfl | rfl <;> rfl) | (intro u hu; simp at hu; rcases hu with rfl | rfl <;> rfl))) ?_; clear H; intro W H))
          have CY : ra ≠ [] → ra ++ rb = ra ∧ (ra ++ rb).length = ra.length := fun hn => by
            rcases r1 with h | h
            · exact absurd h hn
            · subst h; exact ⟨List.append_nil _, by rw [List.append_nil]⟩
          rcases dn with _ | _ <;> rcases op' with _ | _
        all_goals
          refine start_ (n := 22) (S := Own _ _ _) (ds := []) #[false, false, false, false, false, false, false, false, false, false, false, false, false, false, false, false, false, false, false, false, false, false] (by kernel_rfl) rfl rfl H.drew (fun hHeld => ?_)
          replace H := H.drew
          generalize World.drew _ = W at H hHeld ⊢
          refine pure_ (i := 0) (N := some 51) (v := ?_) (a' := ?_) #[true, false, false, false, false, false, false, false, false, false, false, false, false, false, false, false, false, false, false, false, false, false] rfl rfl (by kernel_rfl) (fun _ _ _ h => h) (Or.inl ⟨by rfl, ?_⟩) ?_ ?_
          rotate_left
          · intro w'
            go_simp
            with_reducible rfl
          rotate_left
          · simp only [Act.put, List.setIfInBounds_toArray, List.set_cons_zero, List.set_cons_succ, i64_w, i32_w]
            rfl
          refine pure_ (i := 2) (N := some 53) (v := ?_) (a' := ?_) #[true, false, true, false, false, false, false, false, false, false, false, false, false, false, false, false, false, false, false, false, false, false] rfl rfl (by kernel_rfl) (fun _ _ _ h => h) (Or.inl ⟨by rfl, ?_⟩) ?_ ?_
          rotate_left
          · intro w'
            go_simp
            with_reducible rfl
          rotate_left
          · simp only [Act.put, List.setIfInBounds_toArray, List.set_cons_zero, List.set_cons_succ, i64_w, i32_w]
            rfl
          refine take_run (i := 1) (N := some 52) (a' := ?_) #[true, true, true, false, false, false, false, false, false, false, false, false, false, false, false, false, false, false, false, false, false, false] rfl rfl (by kernel_rfl) (fun _ _ _ _ h => h) (by rfl) hHeld (.string (strOfNums ra)) (fun X HX => r_strC 35 9 5 _ rfl rfl (own_C HX (.tail (.tail .head)) h6 CY (by omega)) Try.underlying35 Try.underlying5 Try.underlying9) ?_ ?_
          rotate_left
          · simp only [Act.put, List.setIfInBounds_toArray, List.set_cons_zero, List.set_cons_succ, i64_w, i32_w]
            rfl
          refine take_run (i := 3) (N := some 54) (a' := ?_) #[true, true, true, true, false, false, false, false, false, false, false, false, false, false, false, false, false, false, false, false, false, false] rfl rfl (by kernel_rfl) (fun _ _ _ _ h => h) (by rfl) hHeld (.string (strOfNums ra)) (fun X HX => r_strC 35 9 5 _ rfl rfl (own_C HX (.tail .head) h10 CY (by omega)) Try.underlying35 Try.underlying5 Try.underlying9) ?_ ?_
          rotate_left
          · simp only [Act.put, List.setIfInBounds_toArray, List.set_cons_zero, List.set_cons_succ, i64_w, i32_w]
            rfl
          refine pure_ (i := 4) (N := some 55) (v := ?_) (a' := ?_) #[true, true, true, true, true, false, false, false, false, false, false, false, false, false, false, false, false, false, false, false, false, false] rfl rfl (by kernel_rfl) (fun _ _ _ h => h) (Or.inl ⟨by rfl, ?_⟩) ?_ ?_
          rotate_left
          · intro w'
            go_simp
            with_reducible rfl
          rotate_left
          · simp only [Act.put, List.setIfInBounds_toArray, List.set_cons_zero, List.set_cons_succ, i64_w, i32_w]
            rfl
          refine pure_ (i := 5) (N := some 56) (v := ?_) (a' := ?_) #[true, true, true, true, true, true, false, false, false, false, false, false, false, false, false, false, false, false, false, false, false, false] rfl rfl (by kernel_rfl) (fun _ _ _ h => h) (Or.inl ⟨by rfl, ?_⟩) ?_ ?_
          rotate_left
          · intro w'
            go_simp
            with_reducible rfl
          rotate_left
          · simp only [Act.put, List.setIfInBounds_toArray, List.set_cons_zero, List.set_cons_succ, i64_w, i32_w]
            rfl
          refine pure_ (i := 6) (N := some 57) (v := ?_) (a' := ?_) #[true, true, true, true, true, true, true, false, false, false, false, false, false, false, false, false, false, false, false, false, false, false] rfl rfl (by kernel_rfl) (fun _ _ _ h => h) (Or.inl ⟨by rfl, ?_⟩) ?_ ?_
          rotate_left
          · intro w'
            go_simp
            with_reducible rfl
          rotate_left
          · simp only [Act.put, List.setIfInBounds_toArray, List.set_cons_zero, List.set_cons_succ, i64_w, i32_w]
            rfl
          refine pure_ (i := 7) (N := some 58) (v := ?_) (a' := ?_) #[true, true, true, true, true, true, true, true, false, false, false, false, false, false, false, false, false, false, false, false, false, false] rfl rfl (by kernel_rfl) (fun _ _ _ h => h) (Or.inl ⟨by rfl, ?_⟩) ?_ ?_
          rotate_left
          · intro w'
            go_simp
            with_reducible rfl
          rotate_left
          · simp only [Act.put, List.setIfInBounds_toArray, List.set_cons_zero, List.set_cons_succ, i64_w, i32_w]
            rfl
          refine pure_ (i := 8) (N := some 59) (v := ?_) (a' := ?_) #[true, true, true, true, true, true, true, true, true, false, false, false, false, false, false, false, false, false, false, false, false, false] rfl rfl (by kernel_rfl) (fun _ _ _ h => h) (Or.inl ⟨by rfl, ?_⟩) ?_ ?_
          rotate_left
          · intro w'
            go_simp
            with_reducible rfl
          rotate_left
          · simp only [Act.put, List.setIfInBounds_toArray, List.set_cons_zero, List.set_cons_succ, i64_w, i32_w]
            rfl
          refine pure_ (i := 9) (N := some 60) (v := ?_) (a' := ?_) #[true, true, true, true, true, true, true, true, true, true, false, false, false, false, false, false, false, false, false, false, false, false] rfl rfl (by kernel_rfl) (fun _ _ _ h => h) (Or.inl ⟨by rfl, ?_⟩) ?_ ?_
          rotate_left
          · intro w'
            go_simp
            with_reducible rfl
          rotate_left
          · simp only [Act.put, List.setIfInBounds_toArray, List.set_cons_zero, List.set_cons_succ, i64_w, i32_w]
            rfl
          refine pure_ (i := 10) (N := some 61) (v := ?_) (a' := ?_) #[true, true, true, true, true, true, true, true, true, true, true, false, false, false, false, false, false, false, false, false, false, false] rfl rfl (by kernel_rfl) (fun _ _ _ h => h) (Or.inl ⟨by rfl, ?_⟩) ?_ ?_
          rotate_left
          · intro w'
            go_simp
            with_reducible rfl
          rotate_left
          · simp only [Act.put, List.setIfInBounds_toArray, List.set_cons_zero, List.set_cons_succ, i64_w, i32_w]
            rfl
          refine pure_ (i := 11) (N := some 62) (v := ?_) (a' := ?_) #[true, true, true, true, true, true, true, true, true, true, true, true, false, false, false, false, false, false, false, false, false, false] rfl rfl (by kernel_rfl) (fun _ _ _ h => h) (Or.inl ⟨by rfl, ?_⟩) ?_ ?_
          rotate_left
          · intro w'
            go_simp
            with_reducible rfl
          rotate_left
          · simp only [Act.put, List.setIfInBounds_toArray, List.set_cons_zero, List.set_cons_succ, i64_w, i32_w]
            rfl
          refine pure_ (i := 12) (N := some 63) (v := ?_) (a' := ?_) #[true, true, true, true, true, true, true, true, true, true, true, true, true, false, false, false, false, false, false, false, false, false] rfl rfl (by kernel_rfl) (fun _ _ _ h => h) (Or.inl ⟨by rfl, ?_⟩) ?_ ?_
          rotate_left
          · intro w'
            go_simp
            with_reducible rfl
          rotate_left
          · simp only [Act.put, List.setIfInBounds_toArray, List.set_cons_zero, List.set_cons_succ, i64_w, i32_w]
            rfl
          refine pure_ (i := 13) (N := some 64) (v := ?_) (a' := ?_) #[true, true, true, true, true, true, true, true, true, true, true, true, true, true, false, false, false, false, false, false, false, false] rfl rfl (by kernel_rfl) (fun _ _ _ h => h) (Or.inl ⟨by rfl, ?_⟩) ?_ ?_
          rotate_left
          · intro w'
            go_simp
            with_reducible rfl
          rotate_left
          · simp only [Act.put, List.setIfInBounds_toArray, List.set_cons_zero, List.set_cons_succ, i64_w, i32_w]
            rfl
          refine pure_ (i := 14) (N := some 65) (v := ?_) (a' := ?_) #[true, true, true, true, true, true, true, true, true, true, true, true, true, true, true, false, false, false, false, false, false, false] rfl rfl (by kernel_rfl) (fun _ _ _ h => h) (Or.inl ⟨by rfl, ?_⟩) ?_ ?_
          rotate_left
          · intro w'
            go_simp
            with_reducible rfl
          rotate_left
          · simp only [Act.put, List.setIfInBounds_toArray, List.set_cons_zero, List.set_cons_succ, i64_w, i32_w]
            rfl
          refine pure_ (i := 15) (N := some 66) (v := ?_) (a' := ?_) #[true, true, true, true, true, true, true, true, true, true, true, true, true, true, true, true, false, false, false, false, false, false] rfl rfl (by kernel_rfl) (fun _ _ _ h => h) (Or.inl ⟨by rfl, ?_⟩) ?_ ?_
          rotate_left
          · intro w'
            go_simp
            with_reducible rfl
          rotate_left
          · simp only [Act.put, List.setIfInBounds_toArray, List.set_cons_zero, List.set_cons_succ, i64_w, i32_w]
            rfl
          refine pure_ (i := 16) (N := some 67) (v := ?_) (a' := ?_) #[true, true, true, true, true, true, true, true, true, true, true, true, true, true, true, true, true, false, false, false, false, false] rfl rfl (by kernel_rfl) (fun _ _ _ h => h) (Or.inl ⟨by rfl, ?_⟩) ?_ ?_
          rotate_left
          · intro w'
            go_simp
            with_reducible rfl
          rotate_left
          · simp only [Act.put, List.setIfInBounds_toArray, List.set_cons_zero, List.set_cons_succ, i64_w, i32_w]
            rfl
          refine pure_ (i := 18) (N := some 69) (v := ?_) (a' := ?_) #[true, true, true, true, true, true, true, true, true, true, true, true, true, true, true, true, true, false, true, false, false, false] rfl rfl (by kernel_rfl) (fun _ _ _ h => h) (Or.inl ⟨by rfl, ?_⟩) ?_ ?_
          rotate_left
          · intro w'
            go_simp
            with_reducible rfl
          rotate_left
          · simp only [Act.put, List.setIfInBounds_toArray, List.set_cons_zero, List.set_cons_succ, i64_w, i32_w]
            rfl
          refine take_load1 (i := 19) (N := some 70) (a' := ?_) #[true, true, true, true, true, true, true, true, true, true, true, true, true, true, true, true, true, false, true, true, false, false] rfl rfl (by kernel_rfl) (fun _ _ _ _ h => h) (by rfl) hHeld 4 _ rfl _ _ rfl (by (repeat (first | exact In.head | apply In.tail))) _ Try.underlying4 rfl _ (by first | rfl | assumption | exact nums_at _ (by omega)) ?_ ?_
          rotate_left
          · simp only [Act.put, List.setIfInBounds_toArray, List.set_cons_zero, List.set_cons_succ, i64_w, i32_w]
            rfl
          refine one_ (i := 17) (N := some 68) #[true, true, true, true, true, true, true, true, true, true, true, true, true, true, true, true, true, true, true, true, false, false] rfl rfl (by kernel_rfl) (by decide) (fun K hK => ?_)
          refine callK_ (idle_own H (.tail (.tail (.tail (.tail (.tail .head)))))) Try.func45 (by kernel_rfl) rfl (by rfl) rfl rfl (by (try simp only [List.map_toArray, List.map_cons, List.map_nil]); first | done | rfl) ?_
          rintro e W ⟨rfl, rfl⟩
          refine ⟨_, rfl, ?_⟩
          skip
          refine hK.out _ _ ?_ (fun hHeld => ?_)
          · first | trivial | exact H | exact H.del .head | exact (H.del .head).del .head
          clear hK K
          refine norm_ (a' := ?_) ?_ ?_
          rotate_left
          · show Act.put _ (some 68) _ = _
            simp only [Act.put, List.setIfInBounds_toArray, List.set_cons_zero, List.set_cons_succ, i64_w, i32_w]
            rfl
          refine pure_ (i := 20) (N := some 71) (v := ?_) (a' := ?_) #[true, true, true, true, true, true, true, true, true, true, true, true, true, true, true, true, true, true, true, true, true, false] rfl rfl (by kernel_rfl) (fun _ _ _ h => h) (Or.inl ⟨by rfl, ?_⟩) ?_ ?_
          rotate_left
          · intro w'
            go_simp
            with_reducible rfl
          rotate_left
          · simp only [Act.put, List.setIfInBounds_toArray, List.set_cons_zero, List.set_cons_succ, i64_w, i32_w]
            rfl
          refine pure_ (i := 21) (N := some 72) (v := ?_) (a' := ?_) #[true, true, true, true, true, true, true, true, true, true, true, true, true, true, true, true, true, true, true, true, true, true] rfl rfl (by kernel_rfl) (fun _ _ _ h => h) (Or.inl ⟨by rfl, ?_⟩) ?_ ?_
          rotate_left
          · intro w'
            go_simp
            with_reducible rfl
          rotate_left
          · simp only [Act.put, List.setIfInBounds_toArray, List.set_cons_zero, List.set_cons_succ, i64_w, i32_w]
            rfl
          refine done_ (by kernel_rfl) ?_
          clear hHeld
          go_wp2
          go_roundg gk'
          case measure => omega
          case rel =>
            clear FO RO
            rcases r1 with rfl | rfl
            · rw [List.nil_append] at H
              have H9 := (H.del .head).del (.tail (.tail .head))
              have H10 := H9.perm (List.Perm.swap _ _ _)
              exact ⟨k + 1, _, rb, A3, A4, c3, c4, x', y', by go_num, by omega, r2, k3, k4, h3, h4, H10⟩
            · have H1 := ((((H.del .head).del .head).del .head).del .head)
              have H2 := (H1.cons (r := .row (.slice none 0 0) 5 1 0 []) (Below.refl _ _) (own_nil _ _ _ _) (fun k hk => by cases hk))
              have H3 := (H2.cons (r := .row (.slice none 0 0) 5 1 0 []) (Below.refl _ _) (own_nil _ _ _ _) (fun k hk => by cases hk))
              exact ⟨k + 1, _, ([] : List Int), A3, A4, c3, c4, .slice none 0 0, .slice none 0 0, by go_num, by omega, by simp, k3, k4, fun h => absurd rfl h, fun h => absurd rfl h, H3⟩
      · have q3 : decide (k < n) = false := decide_eq_false ck
        go_wp2_with (first
    | (go_at_call 43; (with_reducible refine (feed_nil _ _).mono ?_); rintro e W ⟨rfl, hb⟩; replace H := H.to hb; clear hb)
    | (go_at_call 45; (with_reducible refine (joinIdle_nil _).mono ?_); rintro e W ⟨rfl, rfl⟩)
    | (go_at_call 41; (with_reducible refine (awake15 _).mono ?_); rintro e W ⟨rfl, hb⟩; replace H := H.to hb; clear hb))
        go_ret
        exact ⟨rfl, H.below⟩
end Go.Proofs.Ythlpimojojofbaa.O
