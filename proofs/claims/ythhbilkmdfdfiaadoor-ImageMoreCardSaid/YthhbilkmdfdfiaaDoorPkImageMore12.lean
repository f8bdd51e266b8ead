/- Texts of mine put together: Places, Awake17, ImgMore, FkStrandlinelaw17, ImageMore. -/
import Derived.Test.YthhbilkmdfdfiaaDoorPkImageMore11
import Derived.Test.YthhbilkmdfdfiaaDoorWGuard
import Derived.Test.YthhbilkmdfdfiaaDoorPkImageMore1
section
/- image.Places, by what is owned. -/
set_option linter.unusedVariables false
set_option linter.unusedSimpArgs false
namespace Go.Proofs.YthhbilkmdfdfiaaDoor.O
open Go.RowKit Go.Proofs.YthhbilkmdfdfiaaDoorW.PrintWords Go.Proofs.YthhbilkmdfdfiaaDoorW.PrintLast Go.Proofs.YthhbilkmdfdfiaaDoorW.PrintMore Go.Proofs.YthhbilkmdfdfiaaDoor.F Go.Proofs.YthhbilkmdfdfiaaDoor.F.Nums Go.Proofs.YthhbilkmdfdfiaaDoor.Plain Go.Proofs.YthhbilkmdfdfiaaDoor.Img
attribute [local go_sem] Oper.semAt_some
theorem loadVar_cell {P : Program} {W : World} {ty : TypeId} {p : Addr} {v : Value} {d : TypeDesc} (hu : P.underlying ty = some d) (hd : d.isRow = false) (hc : W.cell? p = some v) : (loadVar ty p).run P W = .ok v W := by
  have hag : (isAgg ty).run P W = .ok false W := by
    unfold isAgg
    rw [Sem.run_bind, run_underlying hu W]
    cases d <;> simp_all
  simp [loadVar, hag, hc]
theorem results_cell2 {fn : Func} {p q : Tmp} {tp tq : TypeId} (h : fn.results = #[.cell p tp, .cell q tq]) (tmps : Array Value) (P : Program) (W : World) {ap aq : Addr} {vp vq : Value} {dp dq : TypeDesc}
    (hp : tmps.getD p undef = .pointer (some ap)) (hq : tmps.getD q undef = .pointer (some aq)) (up : P.underlying tp = some dp) (ip : dp.isRow = false) (uq : P.underlying tq = some dq) (iq : dq.isRow = false) (cp : W.cell? ap = some vp) (cq : W.cell? aq = some vq) :
    (results fn tmps).run P W = .ok (.tuple #[vp, vq]) W := by
  have hp' : tmps[p]?.getD undef = .pointer (some ap) := by rw [← hp]; simp
  have hq' : tmps[q]?.getD undef = .pointer (some aq) := by rw [← hq]; simp
  simp only [results, h]
  simp [Sem.run_bind, asAddr, hp', hq', loadVar_cell up ip cp, loadVar_cell uq iq cq, -Option.getD_some]
theorem laySt_end_any (e f : Int) (l : List (List Int)) (k : Nat) : (laySt e l k).2 = (laySt f l k).2 := by
  induction k with
  | zero => rfl
  | succ k ih =>
    show (cutP (laySt e l k).2 ((l.getD k []).length : Int)).2.1 = (cutP (laySt f l k).2 ((l.getD k []).length : Int)).2.1
    rw [ih]
theorem layAt_any (e f : Int) (l : List (List Int)) (k : Nat) : layAt e l k = layAt f l k := by unfold layAt; rw [laySt_end_any e f]
theorem layOk_any (e f : Int) (l : List (List Int)) (k : Nat) : layOk e l k = layOk f l k := by unfold layOk; rw [laySt_end_any e f]
theorem layPl_any (e f : Int) (l : List (List Int)) (k : Nat) : layPl e l k = layPl f l k := by
  unfold layPl
  exact congrArg (fun g => (List.range k).map g) (funext (layAt_any e f l))
theorem layAll_any (e f : Int) (l : List (List Int)) : layAll e l = layAll f l := by
  unfold layAll
  exact congrArg (fun g => (List.range l.length).all g) (funext (layOk_any e f l))
set_option maxRecDepth 100000 in
set_option maxHeartbeats 8000000 in
theorem places_calls (l : List (List Int)) (A : Option Addr) (c : Nat) (w : World) (hl : ∀ x ∈ l, Bytes x) (hll : ∀ x ∈ l, x.length < 140737488355328) (hn : l.length ≤ 1000000)
    (hC : (Kd.slice 5 (Kd.int .u8)).C w A l.length l) (hH : Half w) :
    Calls Tryd.prog 48 #[.slice A l.length c] w fun e W => (layAll 0 l = true ∧ ∃ v, e = .returned (.tuple #[v, .bool true]) ∧ Own w F0 [.row v 3 1 l.length (nums .i64 (layPl 0 l l.length))] W) ∨
      (layAll 0 l = false ∧ e = .returned (.tuple #[.slice none 0 0, .bool false]) ∧ Below w.heap.size w W) := by
  obtain ⟨N, hN1, hN2, hN3⟩ := first_bad 0 l
  rw [bad_all hN1 hN2 hN3]
  have H := Own.start w
  refine (callsIn_wide (n := 9)).1 (callsIn_of_wp_marks Tryd.func48 rfl trivial ?_ rfl)
  simp only [Tryd.ntmps48, List.size_toArray, List.length_cons, List.length_nil, Nat.reduceAdd, Nat.reduceSub, Array.replicate_succ, Array.replicate_zero, List.push_toArray, List.append_toArray, List.nil_append, List.cons_append]
  refine wpIn_seq_k (fun K hK => ?_)
  refine wpIn_wide.2 ?_
  go_wp2_with (first
    | ((with_reducible refine gate_dst (N := 2) rfl ?_); refine l_alloc1 rfl H 71 rfl _ zero71 rfl ?_; clear H; intro g2 W H)
    | ((with_reducible refine gate_dst (N := 3) rfl ?_); refine l_alloc1 rfl H 4 rfl _ zero4 rfl ?_; clear H; intro g3 W H))
  refine wpIn_seq_k (fun K1 hK1 => ?_)
  refine wpIn_wide.2 ?_
  go_wp2_with (first
    | ((with_reducible refine gate_dst (N := 4) rfl ?_); refine l_alloc1 rfl H 71 rfl _ zero71 rfl ?_; clear H; intro g4 W H))
  refine wpIn_seq_k (fun K2 hK2 => ?_)
  refine wpIn_seq_k (fun K3 hK3 => ?_)
  refine wpIn_wide.2 ?_
  go_wp2_with (first
    | (go_at_call 68; (refine (image_each_own H 0 A l.length c).mono ?_); clear H; rintro e W ⟨ge, gl, rfl, H⟩))
  refine wpIn_block ?_
  obtain ⟨LST, hLST⟩ : ∃ LST : Nat → Value → List Res, LST = fun k v4 => [.blk g4 71 [v4], .row v4 3 1 k (nums .i64 (layPl 0 l k)), .blk g3 4 [.bool false], .blk g2 71 [.slice none 0 0]] := ⟨_, rfl⟩
  have H0 : Own w F0 (.blk gl 67 [.slice A l.length c] :: .blk ge 51 [.int .u64 0] :: LST 0 (.slice none 0 0)) W := by
    have H1 := (H.cons (r := .row (.slice none 0 0) 3 1 0 (nums .i64 (layPl 0 l 0))) (Below.refl _ _) (own_nil _ _ _ _) (fun k hk => by cases hk))
    rw [hLST]
    exact H1.perm ((List.Perm.swap _ _ _).trans (.cons _ ((List.Perm.swap _ _ _).trans (.cons _ (List.Perm.swap _ _ _)))))
  clear H
  obtain ⟨vsOf, hvs⟩ : ∃ vsOf : Bool → Nat → Value, vsOf = fun b g => if b = true then sl832 g else .slice none 0 0 := ⟨_, rfl⟩
  refine rf_gen (ι := List Res × Nat × Bool) (n := 8) rfl (Go.Proofs.enters_of Tryd.func79 (by kernel_rfl) rfl) rfl H0
    (fun i v L => i.2.1 < l.length ∧ ∃ vb gb v4, v = .agg #[.int .i64 (layAt 0 l i.2.1), .int .i64 vb, vsOf i.2.2 gb] ∧ L = i.1 ++ LST i.2.1 v4)
    (fun i v L => i.2.2 = true ∧ ∃ v4, L = i.1 ++ LST (i.2.1 + 1) v4)
    (fun i v a1 L => i.2.1 < l.length ∧ ∃ vb gb v4 g5, v = .agg #[.int .i64 (layAt 0 l i.2.1), .int .i64 vb, vsOf i.2.2 gb] ∧ a1 = { tmps := #[.slice A l.length c, undef, .pointer (some ⟨g2, 0, none⟩), .pointer (some ⟨g3, 0, none⟩), .pointer (some ⟨g4, 0, none⟩), .pointer (some ⟨g5, 0, none⟩), .slice A l.length c, .func (.func 79) #[] #[.pointer (some ⟨gl, 0, none⟩), .pointer (some ⟨ge, 0, none⟩)], .agg #[.int .i64 (layAt 0 l i.2.1), .int .i64 vb, vsOf i.2.2 gb], undef, undef, undef, undef, undef, undef, undef, undef, undef], defers := [] } ∧ L = .blk g5 101 [.int .i64 (layAt 0 l i.2.1), .int .i64 vb, vsOf i.2.2 gb] :: (LST i.2.1 v4 ++ i.1))
    (fun i v L => i.2.2 = false ∧ ∃ v4, L = LST i.2.1 v4 ++ i.1)
    (fun L => N = l.length ∧ ∃ gx gb a gq v4, L = EIt 0 l A c gl ge gx gb a (laySt 0 l N).2 (laySt 0 l N).1 (LST N v4) ∧ gq = gb) (fun L => N < l.length ∧ ∃ P v4, L = LST N v4 ++ P) ?hseq ?assign ?body ?done ?left
  case hseq =>
    intro F1 F2 lp W1 H1 hY
    have CN := Kd.C_below hC (Below.refl w.heap.size w)
    refine (each1_in 0 l A c 8 lp gl ge N (w0 := w) (F1 := F1) (by decide) hl hll hn hC hH hN2 hN1 hN3 (fun k gb L => ∃ v4, L = LST k v4) (fun W' => ∃ P v4, Own w F2 (LST N v4 ++ P) W') (fun gb => ⟨_, rfl⟩) ?_ ?_ H1).mono ?_
    · rintro k gx gb gb1 L W2 hk ⟨v4, rfl⟩ HX
      obtain ⟨fn, tmps, assign, body, hy, hR⟩ := hY (EIt 0 l A c gl ge gx gb1 (layAt 0 l k) (laySt 0 l (k + 1)).2 (laySt 0 l (k + 1)).1 [], k, true) (.agg #[.int .i64 (layAt 0 l k), .int .i64 (laySt 0 l (k + 1)).2, sl832 gb1]) _ W2 ⟨by show k < l.length; omega, (laySt 0 l (k + 1)).2, gb1, v4, by rw [hvs]; rfl, rfl⟩ HX
      refine ⟨fn, tmps, assign, body, hy, RoundIn.mono hR ?_⟩
      rintro e W3 (⟨rfl, L', ⟨-, v4', rfl⟩, HO⟩ | ⟨-, L', ⟨hF, -⟩, -⟩)
      · exact ⟨rfl, LST (k + 1) v4', ⟨v4', rfl⟩, HO⟩
      · cases hF
    · rintro hlt gx gb L W2 ⟨v4, rfl⟩ HX
      obtain ⟨fn, tmps, assign, body, hy, hR⟩ := hY ([.blk gx 101 [.int .i64 (layAt 0 l N), .int .i64 0, .slice none 0 0], .blk gl 67 [.slice A l.length c], .blk ge 51 [.int .u64 0]], N, false) (.agg #[.int .i64 (layAt 0 l N), .int .i64 0, .slice none 0 0]) _ W2 ⟨hlt, 0, 0, v4, by rw [hvs]; rfl, rfl⟩ HX
      refine ⟨fn, tmps, assign, body, hy, RoundIn.mono hR ?_⟩
      rintro e W3 (⟨rfl, L', ⟨hF, -⟩, -⟩ | ⟨rfl, L', ⟨-, v4', rfl⟩, HO⟩)
      · cases hF
      · exact ⟨⟨false, rfl⟩, _, v4', HO⟩
    · rintro e W3 ⟨hv, h⟩
      refine ⟨hv, ?_⟩
      rcases h with ⟨hN, gx, gb, a, L, ⟨v4, rfl⟩, HO⟩ | ⟨hN, P, v4, HO⟩
      · exact .inl ⟨_, ⟨hN, gx, gb, a, gb, v4, rfl, rfl⟩, HO⟩
      · exact .inr ⟨_, ⟨hN, P, v4, rfl⟩, HO⟩
  case assign =>
    rintro F1 lp ⟨P, k, b⟩ v L W ⟨hk, vb, gb, v4, rfl, rfl⟩ H1
    simp only at hk H1 ⊢
    refine regIn_lit rfl (fun ⟨_, _, h⟩ => h) ?_
    simp only [List.zip_toArray, List.zip_cons_cons, List.zip_nil_right, List.zip_nil_left, List.foldl_toArray, List.foldl_cons, List.foldl_nil, List.setIfInBounds_toArray, List.set_cons_zero, List.set_cons_succ]
    have H := H1.perm List.perm_append_comm
    clear H1
    obtain ⟨vs, hvv⟩ : ∃ vs, vsOf b gb = vs := ⟨_, rfl⟩
    have h1 : vs.oneCell' = true := by rw [← hvv, hvs]; cases b <;> rfl
    have hO : ∀ u ∈ [Value.int .i64 (layAt 0 l k), Value.int .i64 vb, vs], u.oneCell' = true := by intro u hu; simp at hu; rcases hu with rfl | rfl | rfl <;> first | rfl | exact h1
    rw [hvv]
    go_wp2_with (first
    | ((with_reducible refine gate_dst (N := 5) rfl ?_); refine l_allocA rfl H 101 rfl _ zero101 ?_; clear H; intro g5 W H)
    | ((with_reducible refine gate_store (t := 101) (p := 5) rfl ?_); refine l_storeW rfl H 101 _ _ rfl _ rfl _ rfl (by (repeat (first | exact In.head | apply In.tail))) _ size101 (by (first | rfl | assumption | omega | (simp only [nums_length]; omega) | (simp [nums_length, zs]; done) | (simp [nums_length, zs]; omega))) (by (first | rfl | assumption | omega | (simp only [nums_length]; omega) | (simp [nums_length, zs]; done) | (simp [nums_length, zs]; omega))) (by (first | exact nums_one | assumption | (intro u hu; simp at hu; subst hu; rfl) | (intro u hu; simp at hu; rcases hu with rfl | rfl | rfl | rfl | rfl | rfl | rfl <;> rfl) | (intro u hu; simp at hu; rcases hu with rfl | rfl | rfl | rfl <;> rfl) | (intro u hu; simp at hu; rcases hu with rfl | rfl | rfl <;> rfl) | (intro u hu; simp at hu; rcases hu with rfl | rfl <;> rfl))) ?_; clear H; intro W H))
    exact ⟨_, ⟨hk, vb, gb, v4, g5, by rw [hvv], by rw [hvv]; rfl, by rw [hvv]⟩, H⟩
  case body =>
    rintro F1 lp ⟨P, k, b⟩ v a1 L W ⟨hk, vb, gb, v4, g5, rfl, rfl, rfl⟩ H
    simp only at hk H ⊢
    refine wpIn_block ?_
    refine wpIn_seq_k (fun K5 hK5 => ?_)
    refine wpIn_seq_k (fun K6 hK6 => ?_)
    refine regIn_lit rfl (fun ⟨_, _, h⟩ => h) ?_
    have hl1 : vsOf true gb = sl832 gb := by rw [hvs]; rfl
    have hl0 : vsOf false gb = .slice none 0 0 := by rw [hvs]; rfl
    rw [hLST] at H ⊢
    simp only [List.cons_append, List.nil_append] at H
    cases b
    · rw [hl0] at H ⊢
      go_wp2_with (first
    | ((with_reducible refine gate_dst (N := 10) rfl ?_); refine l_load1 rfl H 23 _ rfl _ _ rfl (by (repeat (first | exact In.head | apply In.tail))) _ Tryd.underlying23 rfl _ (by first | rfl | assumption | exact nums_at _ (by omega)) ?_)
        | ((with_reducible refine gate_dst (N := 11) rfl ?_); refine l_run rfl (.bool true) (by go_simp; rw [run_eql_slice_nil _ 23 5 none 0 0 Tryd.underlying23]; rfl) ?_))
      refine wpIn_cond_true rfl ?_
      refine wpIn_seq_k (fun K7 hK7 => ?_)
      refine regIn_lit rfl (fun ⟨_, _, h⟩ => h) ?_
      go_wp2_with (first
    | ((with_reducible refine gate_store (t := 71) (p := 2) rfl ?_); refine l_store1 rfl H 71 _ _ rfl _ _ rfl _ (by first | (go_simp; done) | (go_simp; with_reducible rfl)) (by (repeat (first | exact In.head | apply In.tail))) rfl rfl size71 (by (first | rfl | assumption | omega | (simp only [nums_length]; omega) | (simp [nums_length, zs]; done) | (simp [nums_length, zs]; omega))) ?_; clear H; intro W H)
    | ((with_reducible refine gate_store (t := 4) (p := 3) rfl ?_); refine l_store1 rfl H 4 _ _ rfl _ _ rfl _ (by first | (go_simp; done) | (go_simp; with_reducible rfl)) (by (repeat (first | exact In.head | apply In.tail))) rfl rfl size4 (by (first | rfl | assumption | omega | (simp only [nums_length]; omega) | (simp [nums_length, zs]; done) | (simp [nums_length, zs]; omega))) ?_; clear H; intro W H))
      refine wpIn_ret ?_
      exact ⟨_, ⟨v4, rfl⟩, H.del .head⟩
    · rw [hl1] at H ⊢
      go_wp2_with (first
    | ((with_reducible refine gate_dst (N := 10) rfl ?_); refine l_load1 rfl H 23 _ rfl _ _ rfl (by (repeat (first | exact In.head | apply In.tail))) _ Tryd.underlying23 rfl _ (by first | rfl | assumption | exact nums_at _ (by omega)) ?_)
        | ((with_reducible refine gate_dst (N := 11) rfl ?_); refine l_run rfl (.bool false) (by go_simp; rw [run_eql_slice_nil _ 23 5 _ _ _ Tryd.underlying23]; rfl) ?_))
      refine wpIn_cond_false rfl ?_
      refine wpIn_skip (hK5 _ _ ?_)
      refine regIn_lit rfl (fun ⟨_, _, h⟩ => h) ?_
      have hbd : (k + 1) * 8 ≤ 140737488355328 := by omega
      have hpl : nums .i64 (layPl 0 l (k + 1)) = nums .i64 (layPl 0 l k) ++ [.int .i64 (layAt 0 l k)] := by rw [layPl_succ]; simp [nums]
      go_wp2_with (first
    | ((with_reducible refine gate_dst (N := 12) rfl ?_); refine l_load1 rfl H 71 _ rfl _ _ rfl (by (repeat (first | exact In.head | apply In.tail))) _ Tryd.underlying71 rfl _ (by first | rfl | assumption | exact nums_at _ (by omega)) ?_)
    | ((with_reducible refine gate_dst (N := 14) rfl ?_); refine l_load1 rfl H 3 _ rfl _ _ rfl (by (repeat (first | exact In.head | apply In.tail))) _ Tryd.underlying3 rfl _ (by first | rfl | assumption | exact nums_at _ (by omega)) ?_)
    | ((with_reducible refine gate_dst (N := 15) rfl ?_); refine l_build11 rfl H 71 3 _ rfl Tryd.underlying71 _ rfl _ zs3 rfl rfl ?_; clear H; intro g15 W H)
    | ((with_reducible refine gate_dst (N := 16) rfl ?_); refine l_append1 rfl H _ _ 71 3 rfl Tryd.underlying71 _ _ _ inf3 rfl (by decide) (by decide) _ _ _ rfl (by (repeat (first | exact In.head | apply In.tail))) _ _ rfl (by (repeat (first | exact In.head | apply In.tail))) (by (first | rfl | assumption | omega | (simp only [nums_length]; omega) | (simp [nums_length, zs]; done) | (simp [nums_length, zs]; omega))) (by (first | exact nums_one | assumption | (intro u hu; simp at hu; subst hu; rfl) | (intro u hu; simp at hu; rcases hu with rfl | rfl | rfl | rfl | rfl | rfl | rfl <;> rfl) | (intro u hu; simp at hu; rcases hu with rfl | rfl | rfl | rfl <;> rfl) | (intro u hu; simp at hu; rcases hu with rfl | rfl | rfl <;> rfl) | (intro u hu; simp at hu; rcases hu with rfl | rfl <;> rfl))) (by omega) ?_; clear H; intro v16 W H; obtain ⟨A16, c16, rfl⟩ := H.row_slice (.tail (.tail (.tail .head))))
    | ((with_reducible refine gate_store (t := 71) (p := 4) rfl ?_); refine l_store1 rfl H 71 _ _ rfl _ _ rfl _ (by first | (go_simp; done) | (go_simp; with_reducible rfl)) (by (repeat (first | exact In.head | apply In.tail))) rfl rfl size71 (by (first | rfl | assumption | omega | (simp only [nums_length]; omega) | (simp [nums_length, zs]; done) | (simp [nums_length, zs]; omega))) ?_; clear H; intro W H))
      exact ⟨_, ⟨_, rfl⟩, ((H.del .head).del .head).perm (List.perm_append_comm (l₁ := [_, _, _, _]) (l₂ := P))⟩
  case done =>
    rintro F1 D L W ⟨hN, gx, gb, a, gq, v4, rfl, -⟩ H hF hD
    refine hK2 _ _ ?_
    rw [hLST] at H
    unfold EIt at H
    obtain ⟨A4, c4, rfl⟩ := H.row_slice (.tail (.tail (.tail (.tail (.tail .head)))))
    refine wpIn_seq_k (fun K5 hK5 => ?_)
    refine wpIn_mono (Q := Exit.then K5 (fun _ _ _ => False)) ?_ (fun e a w h => by cases e <;> first | exact h | exact h.elim)
    refine wpIn_wide.2 ?_
    go_wp2_with (first
    | ((with_reducible refine gate_dst (N := 17) rfl ?_); refine l_load1 rfl H 71 _ rfl _ _ rfl (by (repeat (first | exact In.head | apply In.tail))) _ Tryd.underlying71 rfl _ (by first | rfl | assumption | exact nums_at _ (by omega)) ?_)
    | ((with_reducible refine gate_store (t := 71) (p := 2) rfl ?_); refine l_store1 rfl H 71 _ _ rfl _ _ rfl _ (by first | (go_simp; done) | (go_simp; with_reducible rfl)) (by (repeat (first | exact In.head | apply In.tail))) rfl rfl size71 (by (first | rfl | assumption | omega | (simp only [nums_length]; omega) | (simp [nums_length, zs]; done) | (simp [nums_length, zs]; omega))) ?_; clear H; intro W H)
    | ((with_reducible refine gate_store (t := 4) (p := 3) rfl ?_); refine l_store1 rfl H 4 _ _ rfl _ _ rfl _ (by first | (go_simp; done) | (go_simp; with_reducible rfl)) (by (repeat (first | exact In.head | apply In.tail))) rfl rfl size4 (by (first | rfl | assumption | omega | (simp only [nums_length]; omega) | (simp [nums_length, zs]; done) | (simp [nums_length, zs]; omega))) ?_; clear H; intro W H))
    gi_wp2
    refine ⟨by simp, .inl ⟨_, _, rfl, run_takeDeferred (H.holds D _ hF), ?_⟩⟩
    have H1 := H.putF D _ (.deferred none) hF hD
    have c1 := H1.cell (.tail (.tail (.tail (.tail (.tail (.tail (.tail .head))))))) 0
    have c2 := H1.cell (.tail (.tail (.tail (.tail (.tail (.tail .head)))))) 0
    refine ⟨_, results_cell2 rfl _ _ _ rfl rfl Tryd.underlying71 rfl Tryd.underlying4 rfl c1 c2, .inl ⟨decide_eq_true hN, _, rfl, ?_⟩⟩
    rw [← hN]
    have H2 := (((((((H1.del .head).del .head).del .head).del .head).del .head).del (.tail .head)).del (.tail .head))
    exact H2.slack (fun g o h => by cases h)
  case left =>
    rintro F1 D L W ⟨hN, P, v4, rfl⟩ H hF hD
    rw [hLST] at H
    gi_wp2
    refine ⟨by simp, .inl ⟨_, _, rfl, run_takeDeferred (H.holds D _ hF), ?_⟩⟩
    have H1 := H.putF D _ (.deferred none) hF hD
    have c1 := H1.cell (.tail (.tail (.tail .head))) 0
    have c2 := H1.cell (.tail (.tail .head)) 0
    refine ⟨_, results_cell2 rfl _ _ _ rfl rfl Tryd.underlying71 rfl Tryd.underlying4 rfl c1 c2, .inr ⟨by omega, rfl, H1.below⟩⟩
end Go.Proofs.YthhbilkmdfdfiaaDoor.O
end

section
/- strandlinelaw17's awake, by what is owned; a row of byte slices out of its cells. -/
set_option linter.unusedVariables false
set_option linter.unusedSimpArgs false
namespace Go.Proofs.YthhbilkmdfdfiaaDoor.O
open Go.RowKit Go.Proofs.YthhbilkmdfdfiaaDoorW.PrintWords Go.Proofs.YthhbilkmdfdfiaaDoorW.PrintLast Go.Proofs.YthhbilkmdfdfiaaDoorW.PrintMore Go.Proofs.YthhbilkmdfdfiaaDoor.F Go.Proofs.YthhbilkmdfdfiaaDoor.F.Nums Go.Proofs.YthhbilkmdfdfiaaDoor.Plain Go.Proofs.YthhbilkmdfdfiaaDoor.Img
theorem C_rows {w : World} {ad : Addr} (xs : List (List Int)) (hm : xs.length ≤ 9223372036854775807) (h : ∀ j, j < xs.length → ∃ A c, w.cell? (ad.add j) = some (.slice A (xs.getD j []).length c) ∧ (xs.getD j []).length ≤ c ∧ (Kd.int .u8).C w A (xs.getD j []).length (xs.getD j [])) :
    (Kd.slice 5 (Kd.int .u8)).C w (some ad) xs.length xs := by
  refine ⟨rfl, hm, fun _ => ⟨ad, rfl, fun j p hj => ?_⟩⟩
  have hlt := (List.getElem?_eq_some_iff.1 hj).1
  obtain ⟨A, c, h1, h2, h3⟩ := h j hlt
  have hp : xs.getD j [] = p := by rw [List.getD_eq_getElem?_getD, hj]; rfl
  rw [hp] at h1 h2 h3
  refine ⟨[.slice A p.length c], rfl, ⟨A, c, rfl, h2, h3⟩, fun i u hu => ?_⟩
  have hi : i = 0 := by have := (List.getElem?_eq_some_iff.1 hu).1; simpa using this
  subst hi
  simp at hu
  subst hu
  show w.cell? (ad.add (j * 1 + 0)) = _
  rw [Nat.mul_one, Nat.add_zero]
  exact h1
/-- what a call owns behind another one's end is owned with what was owned ahead of it -/
theorem Own.addK {w0 W W' : World} {F : Nat → Option Obj} {L L' : List Res} (H : Own w0 F L W) (K : Own W F0 L' W') : Own w0 F (L' ++ L) W' := by
  have H' := H.to K.below
  refine ⟨H'.below, H'.holds, ?_, ?_, ?_⟩
  · intro r hr
    rcases List.mem_append.1 hr with hr | hr
    · have h := K.ats r hr
      cases r with
      | blk g t c => exact ⟨Nat.le_trans H.size h.1, h.2⟩
      | row v e sz n xs => exact own_weaken h H.size
    · exact H'.ats r hr
  · intro r hr k hk
    rcases List.mem_append.1 hr with hr | hr
    · cases hF : F k with
      | none => rfl
      | some o =>
        have h1 := obj_lt (H.holds k o hF)
        have h2 := (K.ats r hr).base hk
        omega
    · exact H'.apart r hr k hk
  · rw [List.pairwise_append]
    refine ⟨K.sep, H.sep, fun x hx y hy k h1 h2 => ?_⟩
    have h3 := (K.ats x hx).base h1
    have h4 := (H.ats y hy).lt h2
    omega
theorem two_C {w0 W : World} {F : Nat → Option Obj} {L : List Res} {c1 c2 c3 : Res → List Res} {g1 g2 g3 : Nat} {t : TypeId} (H : Own w0 F L W) (h1 : In L (.blk g1 5 (nums .u8 (zs 10))) c1) (h2 : In L (.blk g2 5 (nums .u8 (zs 10))) c2)
    (h3 : In L (.blk g3 t [.slice (some ⟨g1, 0, none⟩) 10 10, .slice (some ⟨g2, 0, none⟩) 10 10]) c3) : (Kd.slice 5 (Kd.int .u8)).C W (some ⟨g3, 0, none⟩) 2 [zs 10, zs 10] := by
  refine C_rows [zs 10, zs 10] (by decide) (fun j hj => ?_)
  have hj2 : j = 0 ∨ j = 1 := by simp at hj; omega
  rcases hj2 with rfl | rfl
  · exact ⟨_, 10, by rw [addr_add]; exact H.cell h3 0, by decide, H.C h1 0 10 (by decide) (by decide)⟩
  · exact ⟨_, 10, by rw [addr_add]; exact H.cell h3 1, by decide, H.C h2 0 10 (by decide) (by decide)⟩
theorem lay_two : layAll 0 [zs 10, zs 10] = true ∧ layPl 0 [zs 10, zs 10] 2 = [0, 21] := by constructor <;> decide +kernel
set_option maxRecDepth 100000 in
set_option maxHeartbeats 4000000 in
theorem awake17_calls (w : World) (hH : Half w) : Calls Tryd.prog 42 #[] w fun e W => e = .returned (.bool true) ∧ Below w.heap.size w W := by
  have H := Own.start w
  have PC : ∀ (A : Option Addr) (c : Nat) (W : World), (Kd.slice 5 (Kd.int .u8)).C W A 2 [zs 10, zs 10] → Half W → Calls Tryd.prog 48 #[.slice A 2 c] W fun e W' => ∃ v, e = .returned (.tuple #[v, .bool true]) ∧ Own W F0 [.row v 3 1 2 (nums .i64 [0, 21])] W' := fun A c W hC h =>
    (places_calls [zs 10, zs 10] A c W (fun x hx => by simp at hx; subst hx; exact bytes_zs 10) (fun x hx => by simp at hx; subst hx; decide) (by decide) hC h).mono (by
      rintro e W' (⟨-, v, rfl, HO⟩ | ⟨h, -⟩)
      · exact ⟨v, rfl, by rw [← lay_two.2]; exact HO⟩
      · rw [lay_two.1] at h; cases h)
  go_enter Tryd.func42, Tryd.ntmps42
  go_wp2_with fail
  refine start_ (n := 9) (S := fun _ => True) (ds := []) #[false, false, false, false, false, false, false, false, false] (by kernel_rfl) rfl rfl trivial (fun hHeld => ?_)
  replace H := H.drew
  generalize World.drew _ = W at H hHeld ⊢
  refine two_ (i := 0) (j := 1) (Ni := some 4) (Nj := some 5) #[true, false, false, false, false, false, false, false, false] #[false, true, false, false, false, false, false, false, false] rfl rfl rfl rfl (by kernel_rfl) (by decide) (by decide) (fun K hK => ?_) (fun K hK => ?_)
  focus
    refine wanted_ rfl ?_
    refine w_make1 H 23 5 _ _ rfl _ rfl rfl Tryd.underlying23 _ rfl _ inf5 (by decide) (by decide) ?_
    clear H
    intro g4 W H
    refine hK.out _ _ ?_ (fun hHeld => ?_)
    · first | trivial | exact H | exact H.del .head | exact (H.del .head).del .head
    clear hK K
    refine norm_ (a' := ?_) ?_ ?_
    rotate_left
    · show Act.put _ (some 4) _ = _
      simp only [Act.put, List.setIfInBounds_toArray, List.set_cons_zero, List.set_cons_succ, i64_w, i32_w]
      rfl
    refine one_ (i := 1) (N := some 5) #[true, true, false, false, false, false, false, false, false] rfl rfl (by kernel_rfl) (by decide) (fun K hK => ?_)
    refine wanted_ rfl ?_
    refine w_make1 H 23 5 _ _ rfl _ rfl rfl Tryd.underlying23 _ rfl _ inf5 (by decide) (by decide) ?_
    clear H
    intro g5 W H
    refine hK.out _ _ ?_ (fun hHeld => ?_)
    · first | trivial | exact H | exact H.del .head | exact (H.del .head).del .head
    clear hK K
    refine norm_ (a' := ?_) ?_ ?_
    rotate_left
    · show Act.put _ (some 5) _ = _
      simp only [Act.put, List.setIfInBounds_toArray, List.set_cons_zero, List.set_cons_succ, i64_w, i32_w]
      rfl
  rotate_left 1
  focus
    refine wanted_ rfl ?_
    refine w_make1 H 23 5 _ _ rfl _ rfl rfl Tryd.underlying23 _ rfl _ inf5 (by decide) (by decide) ?_
    clear H
    intro g5 W H
    refine hK.out _ _ ?_ (fun hHeld => ?_)
    · first | trivial | exact H | exact H.del .head | exact (H.del .head).del .head
    clear hK K
    refine norm_ (a' := ?_) ?_ ?_
    rotate_left
    · show Act.put _ (some 5) _ = _
      simp only [Act.put, List.setIfInBounds_toArray, List.set_cons_zero, List.set_cons_succ, i64_w, i32_w]
      rfl
    refine one_ (i := 0) (N := some 4) #[true, true, false, false, false, false, false, false, false] rfl rfl (by kernel_rfl) (by decide) (fun K hK => ?_)
    refine wanted_ rfl ?_
    refine w_make1 H 23 5 _ _ rfl _ rfl rfl Tryd.underlying23 _ rfl _ inf5 (by decide) (by decide) ?_
    clear H
    intro g4 W H
    refine hK.out _ _ ?_ (fun hHeld => ?_)
    · first | trivial | exact H | exact H.del .head | exact (H.del .head).del .head
    clear hK K
    refine norm_ (a' := ?_) ?_ ?_
    rotate_left
    · show Act.put _ (some 4) _ = _
      simp only [Act.put, List.setIfInBounds_toArray, List.set_cons_zero, List.set_cons_succ, i64_w, i32_w]
      rfl
  rotate_left 1
  all_goals
    refine one_ (i := 2) (N := some 6) #[true, true, true, false, false, false, false, false, false] rfl rfl (by kernel_rfl) (by decide) (fun K hK => ?_)
    refine w_buildN H _ 23 2 _ rfl Tryd.underlying67 (.slice none 0 0) 1 (by kernel_rfl) (by decide) (by decide) (by decide) [.slice (some ⟨g4, 0, none⟩) 10 10, .slice (some ⟨g5, 0, none⟩) 10 10] rfl rfl (by intro v hv; simp at hv; rcases hv with rfl | rfl <;> rfl) [.slice (some ⟨g4, 0, none⟩) 10 10, .slice (some ⟨g5, 0, none⟩) 10 10] rfl ?_
    clear H
    intro g6 W H
    have hC2 : (Kd.slice 5 (Kd.int .u8)).C W (some ⟨g6, 0, none⟩) 2 [zs 10, zs 10] := two_C H (by (repeat (first | exact In.head | apply In.tail))) (by (repeat (first | exact In.head | apply In.tail))) .head
    refine hK.out _ _ ?_ (fun hHeld => ?_)
    · first | trivial | exact H | exact H.del .head | exact (H.del .head).del .head
    clear hK K
    refine norm_ (a' := ?_) ?_ ?_
    rotate_left
    · show Act.put _ (some 6) _ = _
      simp only [Act.put, List.setIfInBounds_toArray, List.set_cons_zero, List.set_cons_succ, i64_w, i32_w]
      rfl
    refine one_ (i := 3) (N := some 7) #[true, true, true, true, false, false, false, false, false] rfl rfl (by kernel_rfl) (by decide) (fun K hK => ?_)
    refine callK_ (PC _ _ W hC2 (hH.below H.below)) Tryd.func48 (by kernel_rfl) rfl (by rfl) rfl rfl (by (try simp only [List.map_toArray, List.map_cons, List.map_nil]); first | done | rfl) ?_
    rintro e W ⟨v7, rfl, HO⟩
    refine ⟨_, rfl, ?_⟩
    replace H := H.addK HO
    clear HO
    dsimp only [List.cons_append, List.nil_append] at H
    obtain ⟨A7, c7, rfl⟩ := H.row_slice .head
    refine hK.out _ _ ?_ (fun hHeld => ?_)
    · first | trivial | exact H | exact H.del .head | exact (H.del .head).del .head
    clear hK K
    refine norm_ (a' := ?_) ?_ ?_
    rotate_left
    · show Act.put _ (some 7) _ = _
      simp only [Act.put, List.setIfInBounds_toArray, List.set_cons_zero, List.set_cons_succ, i64_w, i32_w]
      rfl
    refine pure_ (i := 4) (N := some 3) (v := ?_) (a' := ?_) #[true, true, true, true, true, false, false, false, false] rfl rfl (by kernel_rfl) (fun _ _ _ h => h) (Or.inl ⟨by rfl, ?_⟩) ?_ ?_
    rotate_left
    · intro w'
      go_simp
      with_reducible rfl
    rotate_left
    · simp only [Act.put, List.setIfInBounds_toArray, List.set_cons_zero, List.set_cons_succ, i64_w, i32_w]
      rfl
    refine pure_ (i := 5) (N := some 8) (v := ?_) (a' := ?_) #[true, true, true, true, true, true, false, false, false] rfl rfl (by kernel_rfl) (fun _ _ _ h => h) (Or.inl ⟨by rfl, ?_⟩) ?_ ?_
    rotate_left
    · intro w'
      go_simp
      with_reducible rfl
    rotate_left
    · simp only [Act.put, List.setIfInBounds_toArray, List.set_cons_zero, List.set_cons_succ, i64_w, i32_w]
      rfl
    refine pure_ (i := 6) (N := some 9) (v := ?_) (a' := ?_) #[true, true, true, true, true, true, true, false, false] rfl rfl (by kernel_rfl) (fun _ _ _ h => h) (Or.inl ⟨by rfl, ?_⟩) ?_ ?_
    rotate_left
    · intro w'
      go_simp
      with_reducible rfl
    rotate_left
    · simp only [Act.put, List.setIfInBounds_toArray, List.set_cons_zero, List.set_cons_succ, i64_w, i32_w]
      rfl
    refine pure_ (i := 7) (N := some 1) (v := ?_) (a' := ?_) #[true, true, true, true, true, true, true, true, false] rfl rfl (by kernel_rfl) (fun _ _ _ h => h) (Or.inl ⟨by rfl, ?_⟩) ?_ ?_
    rotate_left
    · intro w'
      go_simp
      with_reducible rfl
    rotate_left
    · simp only [Act.put, List.setIfInBounds_toArray, List.set_cons_zero, List.set_cons_succ, i64_w, i32_w]
      rfl
    refine pure_ (i := 8) (N := some 2) (v := ?_) (a' := ?_) #[true, true, true, true, true, true, true, true, true] rfl rfl (by kernel_rfl) (fun _ _ _ h => h) (Or.inl ⟨by rfl, ?_⟩) ?_ ?_
    rotate_left
    · intro w'
      go_simp
      with_reducible rfl
    rotate_left
    · simp only [Act.put, List.setIfInBounds_toArray, List.set_cons_zero, List.set_cons_succ, i64_w, i32_w]
      rfl
    refine done_ (by kernel_rfl) ?_
    clear hHeld
  all_goals
    obtain ⟨g7, cap7, cur, e7, hn7, hm7, hl7, ht7, H2⟩ := H.row_blk .head (by decide)
    clear H
    have H := H2
    clear H2
    injection e7 with e7 _ e8
    subst e7 e8
    have c1 : cur[1]? = some (.int .i64 21) := by
      have := congrArg (fun l => l[1]?) ht7
      simpa [nums] using this
    go_wp2_with (first
    | ((with_reducible refine gate_dst (N := 19) rfl ?_); refine gate_guard (by rfl) ?_; refine l_load1 rfl H 3 _ rfl _ _ rfl (by (repeat (first | exact In.head | apply In.tail))) _ Tryd.underlying3 rfl _ (by first | rfl | assumption | exact nums_at _ (by omega)) ?_))
    go_ret
    exact ⟨rfl, H.below⟩
end Go.Proofs.YthhbilkmdfdfiaaDoor.O
end

section
/- What a record more does to what is laid: plain. -/
set_option linter.unusedVariables false
set_option linter.unusedSimpArgs false
namespace Go.Proofs.YthhbilkmdfdfiaaDoor.Img
open Go.RowKit Go.Proofs.YthhbilkmdfdfiaaDoor.F Go.Proofs.YthhbilkmdfdfiaaDoor.F.Nums Go.Proofs.YthhbilkmdfdfiaaDoor.O Go.Proofs.YthhbilkmdfdfiaaDoorW.PrintWords Go.Proofs.YthhbilkmdfdfiaaDoorW.PrintLast Go.Proofs.YthhbilkmdfdfiaaDoorW.PrintMore Go.Proofs.YthhbilkmdfdfiaaDoor.Plain
theorem getD_app {l : List (List Int)} {m : List Int} {k : Nat} (h : k < l.length) : (l ++ [m]).getD k [] = l.getD k [] := by
  rw [List.getD_eq_getElem?_getD, List.getD_eq_getElem?_getD, List.getElem?_append_left h]
theorem getD_end (l : List (List Int)) (m : List Int) : (l ++ [m]).getD l.length [] = m := by
  rw [List.getD_eq_getElem?_getD, List.getElem?_append_right (Nat.le_refl _), Nat.sub_self]
  rfl
theorem laySt_app (e64 : Int) (l : List (List Int)) (m : List Int) (k : Nat) (h : k ≤ l.length) : laySt e64 (l ++ [m]) k = laySt e64 l k := by
  induction k with
  | zero => rfl
  | succ k ih => simp only [laySt, ih (by omega), getD_app (m := m) (show k < l.length by omega)]
theorem layOk_app (e64 : Int) (l : List (List Int)) (m : List Int) (k : Nat) (h : k < l.length) : layOk e64 (l ++ [m]) k = layOk e64 l k := by
  unfold layOk
  rw [laySt_app e64 l m k (by omega), getD_app h]
theorem layAll_app (e64 : Int) (l : List (List Int)) (m : List Int) : layAll e64 (l ++ [m]) = (layAll e64 l && (cutP (laySt e64 l l.length).2 (m.length : Int)).2.2) := by
  rw [Bool.eq_iff_iff, Bool.and_eq_true, layAll_iff, layAll_iff]
  have hend : layOk e64 (l ++ [m]) l.length = (cutP (laySt e64 l l.length).2 (m.length : Int)).2.2 := by
    unfold layOk
    rw [laySt_app e64 l m _ (Nat.le_refl _), getD_end]
  have hlen : (l ++ [m]).length = l.length + 1 := by simp
  constructor
  · intro h
    exact ⟨fun k hk => by rw [← layOk_app e64 l m k hk]; exact h k (by omega), by rw [← hend]; exact h _ (by omega)⟩
  · rintro ⟨h1, h2⟩ k hk
    by_cases e : k = l.length
    · rw [e, hend]; exact h2
    · rw [layOk_app e64 l m k (by omega)]; exact h1 k (by omega)
theorem laySt_more (e64 : Int) (l : List (List Int)) (m : List Int) : laySt e64 (l ++ [m]) (l ++ [m]).length = (addB e64 (laySt e64 l l.length).1 (laySt e64 l l.length).2 m, (cutP (laySt e64 l l.length).2 (m.length : Int)).2.1) := by
  rw [List.length_append, List.length_singleton]
  simp only [laySt, laySt_app e64 l m _ (Nat.le_refl _), getD_end]
theorem cutS_low {m : Nat} : ∀ {at_ n from_ : Int} {p : List (Int × Int × Int) × Int}, from_ ≤ n → cutS m at_ n from_ = some p → bg (cl at_) + 11 ≤ p.2 ∧ ∀ t ∈ p.1, bg (cl at_) ≤ t.1 := by
  induction m with
  | zero => intro _ _ _ _ _ h; cases h
  | succ m ih =>
    intro at_ n from_ p hn h
    have h0 := cl_lo at_
    have h1 := cl_hi at_
    have hb0 := bg_lo h0
    have hb1 := bg_hi h1
    have hbm := bg_mod (cl at_)
    unfold cutS at h
    split at h
    · cases h
    · rename_i h8
      obtain ⟨l1, l2, l3, l4⟩ := lf_ge hb0 hb1 hbm h8
      split at h
      · obtain rfl := Option.some.inj h
        refine ⟨by simp only; omega, fun t ht => ?_⟩
        rw [List.mem_singleton] at ht
        subst ht
        exact Int.le_refl _
      · obtain ⟨q, hq, rfl⟩ := Option.map_eq_some_iff.mp h
        obtain ⟨i1, i2⟩ := ih (by omega) hq
        rw [cl_in (by omega) l3, bg_block l4] at i1 i2
        refine ⟨by simp only; omega, fun t ht => ?_⟩
        rcases List.mem_cons.1 ht with rfl | ht
        · exact Int.le_refl _
        · have := i2 t ht; omega
theorem mkP_mem : ∀ (ts : List (Int × Int × Int)) (f : Bool) (p : Pc), p ∈ mkP f ts → ∃ t ∈ ts, p.f0 = t.1 := by
  intro ts
  induction ts with
  | nil => intro f p hp; simp [mkP] at hp
  | cons t rest ih =>
    intro f p hp
    cases rest with
    | nil =>
      simp only [mkP, List.mem_singleton] at hp
      subst hp
      exact ⟨t, List.mem_cons_self .., rfl⟩
    | cons u rest =>
      simp only [mkP, List.mem_cons] at hp
      rcases hp with rfl | hp
      · exact ⟨t, List.mem_cons_self .., rfl⟩
      · obtain ⟨t', ht, e⟩ := ih false p hp
        exact ⟨t', List.mem_cons_of_mem _ ht, e⟩
theorem cutP_low (at_ n : Int) (hn : 0 ≤ n) : ((cutP at_ n).2.2 = true → bg (cl at_) + 11 ≤ (cutP at_ n).2.1) ∧ ∀ p ∈ (cutP at_ n).1, bg (cl at_) ≤ p.f0 := by
  unfold cutP
  split
  · exact ⟨fun h => (by cases h), fun p hp => (by cases hp)⟩
  · cases hs : cutS 4 at_ n 0 with
    | none => exact ⟨fun h => (by cases h), fun p hp => (by cases hp)⟩
    | some q =>
      obtain ⟨i1, i2⟩ := cutS_low hn hs
      refine ⟨fun _ => i1, fun p hp => ?_⟩
      simp only [cutR, List.nil_append] at hp
      obtain ⟨t, ht, e⟩ := mkP_mem _ _ _ hp
      rw [e]
      exact i2 t ht
theorem layA_keep {ep : Int} {data : List Int} (k : Nat) : ∀ (ps : List Pc) (cur : List Int), (∀ p ∈ ps, PcOk data p ∧ (k : Int) ≤ p.f0) → cur.length = 832 → (layA ep data ps cur).take k = cur.take k := by
  intro ps
  induction ps with
  | nil => intro cur _ _; rfl
  | cons p ps ih =>
    intro cur hp hc
    obtain ⟨h1, h2⟩ := hp p (List.mem_cons_self ..)
    show (layA ep data ps (layP ep data cur p)).take k = _
    rw [ih _ (fun q hq => hp q (List.mem_cons_of_mem _ hq)) (layP_len h1 hc)]
    unfold layP splice
    obtain ⟨g1, g2, -⟩ := h1
    rw [List.take_append_of_le_length (by rw [List.length_take]; omega), List.take_take, Nat.min_eq_left (by omega)]
theorem addB_keep (e64 : Int) (body : List Int) (e : Nat) (data : List Int) (hb : body.length = 832) (he : e ≤ 832) : (addB e64 body (e : Int) data).take e = body.take e := by
  unfold addB
  rw [base_id hb]
  refine layA_keep e _ body (fun p hp => ⟨cutP_pcs (e : Int) data p hp, ?_⟩) hb
  have := (cutP_low (e : Int) (data.length : Int) (by omega)).2 p hp
  have h1 := bg_ge (cl (e : Int))
  rw [cl_in (a := (e : Int)) (by omega) (by omega)] at this h1
  omega
theorem end_more (e : Int) (h0 : 0 ≤ e) (h1 : e ≤ 832) (n : Int) (hn : 0 ≤ n) (h : (cutP e n).2.2 = true) : e < (cutP e n).2.1 := by
  have := (cutP_low e n hn).1 h
  have h2 := bg_ge (cl e)
  rw [cl_in h0 h1] at this h2
  omega
end Go.Proofs.YthhbilkmdfdfiaaDoor.Img
end

section
/- Functions of strandlinelaw17: what each answers, as a Lean function, and that the call answers just this. Turned out of what the kit's print told for this seat. -/
namespace Go.Proofs.YthhbilkmdfdfiaaDoor.F
open Go.RowKit Go.Proofs.YthhbilkmdfdfiaaDoorW.PrintWords Go.Proofs.YthhbilkmdfdfiaaDoorW.PrintLast Go.Proofs.YthhbilkmdfdfiaaDoorW.PrintMore
attribute [local go_sem high] eqA120
attribute [local go_sem] field120_0
attribute [local go_sem] field120_1
attribute [local go_sem] max2_int min2_int max_two min_two max_three min_three max_four min_four
set_option linter.unusedVariables false
set_option linter.unusedSimpArgs false

/-! ### strandlinelaw17_few: function 45 -/
def strandlinelaw17_few.f (l0 : List (List Int)) : Option (Bool) := some (decide ((l0.length : Int) ≤ 100))
set_option maxHeartbeats 8000000 in
set_option maxRecDepth 100000 in
theorem strandlinelaw17_few.calls (A0 : Option Addr) (c0 : Nat) (l0 : List (List Int)) (r : Bool) (w : World) (hr0 : Kd.C (Kd.slice 5 (Kd.int .u8)) w A0 l0.length l0) (hc0 : l0.length ≤ c0) (h : strandlinelaw17_few.f l0 = some r) :
    Calls Tryd.prog 45 #[.slice A0 l0.length c0] w fun e w' => e = .returned (.bool r) ∧ Drawn0 w w' := by
  have hu37 := Tryd.underlying37
  have hu99 := Tryd.underlying99
  have hu120 := Tryd.underlying120
  have HR0 := Aside0.mk hr0
  have HC0 := Aside0.mk hc0
  clear hr0 hc0
  have H : (some (decide ((l0.length : Int) ≤ 100))) = some r := h
  clear h
  obtain rfl := Option.some.inj H
  go_enter Tryd.func45, Tryd.ntmps45
  go_wp2
  go_ret
  exact ⟨by first | rfl | (simp; done) | (simp [*]; done), by repeat (first | exact Drawn0.refl _ | apply Drawn0.step)⟩

-- NOT PRINTED: function 46 (image_Body)

-- NOT PRINTED: function 13 (strandlinelaw17_ImageMore)


end Go.Proofs.YthhbilkmdfdfiaaDoor.F
end

section
/- strandlinelaw17.ImageMore: the statement's function. -/
set_option linter.unusedVariables false
set_option linter.unusedSimpArgs false
namespace Go.Proofs.YthhbilkmdfdfiaaDoor.O
open Go.RowKit Go.Proofs.YthhbilkmdfdfiaaDoorW.PrintWords Go.Proofs.YthhbilkmdfdfiaaDoorW.PrintLast Go.Proofs.YthhbilkmdfdfiaaDoorW.PrintMore Go.Proofs.YthhbilkmdfdfiaaDoor.F Go.Proofs.YthhbilkmdfdfiaaDoor.F.Nums Go.Proofs.YthhbilkmdfdfiaaDoor.Plain Go.Proofs.YthhbilkmdfdfiaaDoor.Img
/-- a row of byte slices out of what its cells read -/
theorem rows_C {w : World} {A : Option Addr} {cs : List Value} (xs : List (List Int)) (hl : cs.length = xs.length) (hm : xs.length ≤ 9223372036854775807) (hR : Rd w A cs)
    (h : ∀ j, j < xs.length → ∃ A2 c, cs[j]? = some (.slice A2 (xs.getD j []).length c) ∧ (xs.getD j []).length ≤ c ∧ (Kd.int .u8).C w A2 (xs.getD j []).length (xs.getD j [])) : (Kd.slice 5 (Kd.int .u8)).C w A xs.length xs := by
  by_cases h0 : xs.length = 0
  · obtain rfl : xs = [] := List.eq_nil_of_length_eq_zero h0
    exact ⟨rfl, hm, fun hp => absurd hp (by simp)⟩
  · obtain ⟨ad, rfl, hc⟩ := hR (by omega)
    refine C_rows xs hm (fun j hj => ?_)
    obtain ⟨A2, c, h1, h2, h3⟩ := h j hj
    exact ⟨A2, c, hc j _ h1, h2, h3⟩
theorem C_rows_at {w : World} {A : Option Addr} {n : Nat} {l : List (List Int)} (h : Kd.C (Kd.slice 5 (Kd.int .u8)) w A n l) (k : Nat) (hk : k < n) :
    ∃ ad A2 c2, A = some ad ∧ w.cell? (ad.add k) = some (.slice A2 (l.getD k []).length c2) ∧ (l.getD k []).length ≤ c2 ∧ (Kd.int .u8).C w A2 (l.getD k []).length (l.getD k []) := by
  obtain ⟨ad, c, e, _, hK, hc0⟩ := Kd.C_get h [] (k : Int) (by omega) (by omega)
  obtain ⟨A2, c2, rfl, l2, g2⟩ := hK
  have := hc0 0 _ rfl
  rw [Int.toNat_natCast] at this l2 g2
  simp only [Kd.slice, Nat.mul_one, Nat.add_zero] at this
  exact ⟨ad, A2, c2, e, by simpa using this, l2, g2⟩
/-- the cells of a row of byte slices -/
theorem rows_cells {w : World} {A : Option Addr} {n : Nat} {l : List (List Int)} (h : Kd.C (Kd.slice 5 (Kd.int .u8)) w A n l) :
    ∃ cs : List Value, cs.length = n ∧ Rd w A cs ∧ ∀ j, j < n → ∃ A2 c, cs[j]? = some (.slice A2 (l.getD j []).length c) ∧ (l.getD j []).length ≤ c ∧ (Kd.int .u8).C w A2 (l.getD j []).length (l.getD j []) := by
  by_cases h0 : n = 0
  · exact ⟨[], h0.symm, Rd.nil _ _, fun j hj => by omega⟩
  · obtain ⟨ad, A0, c0, rfl, -, -, -⟩ := C_rows_at h 0 (by omega)
    refine ⟨(List.range n).map (fun j => (w.cell? (ad.add j)).getD undef), by simp, fun _ => ⟨ad, rfl, fun j v hj => ?_⟩, fun j hj => ?_⟩
    · have hlt : j < n := by have := (List.getElem?_eq_some_iff.1 hj).1; simpa using this
      obtain ⟨ad', A2, c2, e, x0, -, -⟩ := C_rows_at h j hlt
      obtain rfl := Option.some.inj e
      simp [List.getElem?_range hlt, x0] at hj
      rw [x0]
      exact congrArg some (by rw [List.getD_eq_getElem?_getD]; exact hj)
    · obtain ⟨ad', A2, c2, e, x0, x1, x2⟩ := C_rows_at h j hj
      obtain rfl := Option.some.inj e
      exact ⟨A2, c2, by simp [List.getElem?_range hj, x0], x1, x2⟩
/-- a row of one's own: what was read of another world's, and one slice more -/
theorem more_C {w0 W : World} {F : Nat → Option Obj} {L : List Res} {c : Res → List Res} {A B : Option Addr} {n cc cB : Nat} {t : TypeId} {cs : List Value} {l : List (List Int)} {m : List Int} {nm : Nat} (H : Own w0 F L W) (hI : In L (.row (.slice A (n + 1) cc) t 1 (n + 1) (cs ++ [.slice B nm cB])) c)
    (hn : l.length = n) (hnm : m.length = nm) (hm : n < 9223372036854775807) (hcs : cs.length = n) (hc : ∀ j, j < n → ∃ A2 c, cs[j]? = some (.slice A2 (l.getD j []).length c) ∧ (l.getD j []).length ≤ c ∧ (Kd.int .u8).C w0 A2 (l.getD j []).length (l.getD j []))
    (hcB : nm ≤ cB) (hB : (Kd.int .u8).C w0 B nm m) : (Kd.slice 5 (Kd.int .u8)).C W A (n + 1) (l ++ [m]) := by
  subst hnm
  have hlen : (l ++ [m]).length = n + 1 := by simp [hn]
  have := rows_C (w := W) (A := A) (cs := cs ++ [.slice B m.length cB]) (l ++ [m]) (by simp [hcs, hn]) (by omega) (H.rd hI).1 (fun j hj => by
    by_cases e : j = n
    · have e2 : (l ++ [m]).getD j [] = m := by rw [e, ← hn]; exact getD_end l m
      rw [e2]
      refine ⟨B, cB, ?_, hcB, Kd.C_below hB H.below⟩
      rw [e, ← hcs, List.getElem?_append_right (Nat.le_refl _), Nat.sub_self]
      rfl
    · have hj2 : j < n := by omega
      obtain ⟨A2, c2, h1, h2, h3⟩ := hc j hj2
      rw [getD_app (by omega)]
      exact ⟨A2, c2, by rw [List.getElem?_append_left (by omega)]; exact h1, h2, Kd.C_below h3 H.below⟩)
  rwa [hlen] at this
theorem body_yes (e64 : Int) (l : List (List Int)) (A : Option Addr) (c : Nat) (w : World) (h : layAll e64 l = true) (he : 0 ≤ e64 ∧ e64 ≤ 18446744073709551615) (hl : ∀ x ∈ l, Bytes x) (hll : ∀ x ∈ l, x.length < 140737488355328) (hn : l.length ≤ 1000000)
    (hC : (Kd.slice 5 (Kd.int .u8)).C w A l.length l) (hH : Half w) :
    Calls Tryd.prog 46 #[.int .u64 e64, .slice A l.length c] w fun e W => ∃ g, e = .returned (.tuple #[.slice (some ⟨g, 0, none⟩) 832 832, .int .i64 (laySt e64 l l.length).2, .bool true]) ∧ Own w F0 [.blk g 5 (nums .u8 (laySt e64 l l.length).1)] W :=
  (body_calls e64 l A c w he hl hll hn hC hH).mono (by
    rintro e W (⟨-, g, rfl, H⟩ | ⟨h2, -⟩)
    · exact ⟨g, rfl, H⟩
    · rw [h] at h2; cases h2)
theorem body_nope (e64 : Int) (l : List (List Int)) (A : Option Addr) (c : Nat) (w : World) (h : layAll e64 l = false) (he : 0 ≤ e64 ∧ e64 ≤ 18446744073709551615) (hl : ∀ x ∈ l, Bytes x) (hll : ∀ x ∈ l, x.length < 140737488355328) (hn : l.length ≤ 1000000)
    (hC : (Kd.slice 5 (Kd.int .u8)).C w A l.length l) (hH : Half w) :
    Calls Tryd.prog 46 #[.int .u64 e64, .slice A l.length c] w fun e W => e = .returned (.tuple #[.slice none 0 0, .int .i64 0, .bool false]) ∧ Below w.heap.size w W :=
  (body_calls e64 l A c w he hl hll hn hC hH).mono (by
    rintro e W (⟨h2, -⟩ | ⟨-, rfl, hb⟩)
    · rw [h] at h2; cases h2
    · exact ⟨rfl, hb⟩)
theorem few17_calls (l : List (List Int)) (A : Option Addr) (c : Nat) (w : World) (hC : (Kd.slice 5 (Kd.int .u8)).C w A l.length l) (hc : l.length ≤ c) :
    Calls Tryd.prog 45 #[.slice A l.length c] w fun e W => e = .returned (.bool (decide ((l.length : Int) ≤ 100))) ∧ Below w.heap.size w W :=
  (strandlinelaw17_few.calls A c l _ w hC hc rfl).mono (by rintro e W ⟨rfl, hd⟩; exact ⟨rfl, hd.below⟩)
set_option maxRecDepth 100000 in
set_option maxHeartbeats 8000000 in
theorem imageMore_law (e64 : Int) (l : List (List Int)) (m : List Int) (A B : Option Addr) (c cB : Nat) (w : World) (he : 0 ≤ e64 ∧ e64 ≤ 18446744073709551615) (hC : (Kd.slice 5 (Kd.int .u8)).C w A l.length l) (hc : l.length ≤ c) (hl : ∀ x ∈ l, Bytes x) (hll : ∀ x ∈ l, x.length < 140737488355328)
    (hCm : (Kd.int .u8).C w B m.length m) (hcm : m.length ≤ cB) (hbm : Bytes m) (hml : m.length < 140737488355328) (hH : Half w) :
    Calls Tryd.prog 13 #[.int .u64 e64, .slice A l.length c, .slice B m.length cB] w fun e W => e = .returned (.bool true) ∧ Below w.heap.size w W := by
  have H := Own.start w
  have AW := awake17_calls
  have FW := fun W h => few17_calls l A c W h hc
  cases q1 : decide ((l.length : Int) ≤ 100) with
  | false =>
    rw [q1] at FW
    generalize l.length = n at *
    generalize m.length = nm at *
    go_enter Tryd.func13, Tryd.ntmps13
    go_wp2_with (first
    | (go_at_call 45; (with_reducible refine (FW _ (Kd.C_below hC H.below)).mono ?_); rintro e W ⟨rfl, hb⟩; replace H := H.to hb; clear hb)
    | (go_at_call 42; (with_reducible refine (AW _ (hH.below H.below)).mono ?_); rintro e W ⟨rfl, hb⟩; replace H := H.to hb; clear hb))
    go_ret
    exact ⟨rfl, H.below⟩
  | true =>
    rw [q1] at FW
    have hn : l.length ≤ 100 := by have := of_decide_eq_true q1; omega
    obtain ⟨cs, hcs, hRd, hcc⟩ := rows_cells hC
    have hl2 : ∀ x ∈ l ++ [m], Bytes x := fun x hx => (List.mem_append.1 hx).elim (hl x) (fun h => by rw [List.mem_singleton.1 h]; exact hbm)
    have hll2 : ∀ x ∈ l ++ [m], x.length < 140737488355328 := fun x hx => (List.mem_append.1 hx).elim (hll x) (fun h => by rw [List.mem_singleton.1 h]; exact hml)
    have hlen : (l ++ [m]).length = l.length + 1 := by simp
    have hone : ∀ u ∈ cs, u.oneCell' = true := fun u hu => by
      obtain ⟨j, hj, e⟩ := List.getElem_of_mem hu
      obtain ⟨A2, c2, h1, -, -⟩ := hcc j (by omega)
      rw [List.getElem?_eq_getElem hj, e] at h1
      obtain rfl := Option.some.inj h1
      rfl
    have hsrc : ∀ W, Below w.heap.size w W → 0 < l.length → ∃ ad, A = some ad ∧ ∀ j u, cs[j]? = some u → W.cell? (ad.add j) = some u := fun W hb hp => by
      obtain ⟨ad, e, h⟩ := (hRd.below hb) (by omega)
      exact ⟨ad, e, h⟩
    have hall := layAll_app e64 l m
    have hst := laySt_more e64 l m
    have hend := laySt_end e64 l l.length
    have hbl := laySt_len e64 l l.length
    have hbb := laySt_bytes e64 l hl l.length
    cases hok : layAll e64 l with
    | false =>
      have his : layAll e64 (l ++ [m]) = false := by rw [hall, hok]; rfl
      have B1 := fun W h1 h2 => body_nope e64 l A c W hok he hl hll (by omega) h1 h2
      have B2 := fun A2 c2 W h1 h2 => body_nope e64 (l ++ [m]) A2 c2 W his he hl2 hll2 (by omega) h1 h2
      rw [hlen] at B2
      clear hall hst hend hbl hbb hok his hl2 hll2 hlen
      generalize hnl : l.length = n at *
      generalize hnm : m.length = nm at *
      go_enter Tryd.func13, Tryd.ntmps13
      go_wp2_with (first
    | ((with_reducible refine gate_dst (N := 29) rfl ?_); refine l_build0 rfl H 67 23 rfl Tryd.underlying67 (by kernel_rfl) ?_; clear H; intro g29 W H)
    | ((with_reducible refine gate_dst (N := 33) rfl ?_); refine l_build11 rfl H 67 23 _ rfl Tryd.underlying67 _ rfl _ zs23 rfl rfl ?_; clear H; intro g33 W H)
    | ((with_reducible refine gate_dst (N := 34) rfl ?_); refine l_append1 rfl H _ _ 67 23 rfl Tryd.underlying67 _ _ _ inf23 rfl (by decide) (by decide) _ _ _ rfl (by (repeat (first | exact In.head | apply In.tail))) _ _ rfl (by (repeat (first | exact In.head | apply In.tail))) (by (first | rfl | assumption | omega | (simp only [nums_length]; omega) | (simp [nums_length, zs]; done) | (simp [nums_length, zs]; omega))) (by (first | exact nums_one | assumption | (intro u hu; simp at hu; subst hu; rfl) | (intro u hu; simp at hu; rcases hu with rfl | rfl | rfl | rfl | rfl | rfl | rfl <;> rfl) | (intro u hu; simp at hu; rcases hu with rfl | rfl | rfl | rfl <;> rfl) | (intro u hu; simp at hu; rcases hu with rfl | rfl | rfl <;> rfl) | (intro u hu; simp at hu; rcases hu with rfl | rfl <;> rfl))) (by omega) ?_; clear H; intro v34 W H; obtain ⟨A34, c34, rfl⟩ := H.row_slice (.tail .head))
      | ((with_reducible refine gate_dst (N := 31) rfl ?_); refine l_append rfl H _ _ 67 23 rfl Tryd.underlying67 _ _ _ inf23 rfl (by decide) (by decide) _ 0 [] rfl .head A n c cs rfl (by omega) (hsrc _ H.below) hone (by omega) ?_; clear H; intro v31 W H; rw [List.nil_append, Nat.zero_add] at H)
      | (go_at_call 45; (with_reducible refine (FW _ (Kd.C_below hC H.below)).mono ?_); rintro e W ⟨rfl, hb⟩; replace H := H.to hb; clear hb)
      | (go_at_call 46; (with_reducible refine (B1 _ (Kd.C_below hC H.below) (hH.below H.below)).mono ?_); rintro e W ⟨rfl, hb⟩; replace H := H.to hb; clear hb B1)
      | (go_at_call 46; (with_reducible refine (B2 _ _ _ (more_C H (.tail .head) hnl hnm (by omega) hcs hcc hcm hCm) (hH.below H.below)).mono ?_); rintro e W ⟨rfl, hb⟩; replace H := H.to hb; clear hb)
      | (go_at_call 42; (with_reducible refine (AW _ (hH.below H.below)).mono ?_); rintro e W ⟨rfl, hb⟩; replace H := H.to hb; clear hb))
      go_ret
      exact ⟨rfl, H.below⟩
    | true =>
      have B1 := fun W h1 h2 => body_yes e64 l A c W hok he hl hll (by omega) h1 h2
      cases hx : (cutP (laySt e64 l l.length).2 (m.length : Int)).2.2 with
      | false =>
        have his : layAll e64 (l ++ [m]) = false := by rw [hall, hok, hx]; rfl
        have B2 := fun A2 c2 W h1 h2 => body_nope e64 (l ++ [m]) A2 c2 W his he hl2 hll2 (by omega) h1 h2
        rw [hlen] at B2
        clear hall hst hbl hbb hok his hl2 hll2 hlen hx
        generalize (laySt e64 l l.length).1 = body at *
        generalize (laySt e64 l l.length).2 = en at *
        generalize hnl : l.length = n at *
        generalize hnm : m.length = nm at *
        go_enter Tryd.func13, Tryd.ntmps13
        go_wp2_with (first
    | ((with_reducible refine gate_dst (N := 29) rfl ?_); refine l_build0 rfl H 67 23 rfl Tryd.underlying67 (by kernel_rfl) ?_; clear H; intro g29 W H)
    | ((with_reducible refine gate_dst (N := 33) rfl ?_); refine l_build11 rfl H 67 23 _ rfl Tryd.underlying67 _ rfl _ zs23 rfl rfl ?_; clear H; intro g33 W H)
    | ((with_reducible refine gate_dst (N := 34) rfl ?_); refine l_append1 rfl H _ _ 67 23 rfl Tryd.underlying67 _ _ _ inf23 rfl (by decide) (by decide) _ _ _ rfl (by (repeat (first | exact In.head | apply In.tail))) _ _ rfl (by (repeat (first | exact In.head | apply In.tail))) (by (first | rfl | assumption | omega | (simp only [nums_length]; omega) | (simp [nums_length, zs]; done) | (simp [nums_length, zs]; omega))) (by (first | exact nums_one | assumption | (intro u hu; simp at hu; subst hu; rfl) | (intro u hu; simp at hu; rcases hu with rfl | rfl | rfl | rfl | rfl | rfl | rfl <;> rfl) | (intro u hu; simp at hu; rcases hu with rfl | rfl | rfl | rfl <;> rfl) | (intro u hu; simp at hu; rcases hu with rfl | rfl | rfl <;> rfl) | (intro u hu; simp at hu; rcases hu with rfl | rfl <;> rfl))) (by omega) ?_; clear H; intro v34 W H; obtain ⟨A34, c34, rfl⟩ := H.row_slice (.tail .head))
        | ((with_reducible refine gate_dst (N := 31) rfl ?_); refine l_append rfl H _ _ 67 23 rfl Tryd.underlying67 _ _ _ inf23 rfl (by decide) (by decide) _ 0 [] rfl .head A n c cs rfl (by omega) (hsrc _ H.below) hone (by omega) ?_; clear H; intro v31 W H; rw [List.nil_append, Nat.zero_add] at H)
        | (go_at_call 45; (with_reducible refine (FW _ (Kd.C_below hC H.below)).mono ?_); rintro e W ⟨rfl, hb⟩; replace H := H.to hb; clear hb)
        | (go_at_call 46; (with_reducible refine (B1 _ (Kd.C_below hC H.below) (hH.below H.below)).mono ?_); rintro e W ⟨ga, rfl, HO⟩; replace H := H.addK HO; clear HO B1; dsimp only [List.cons_append, List.nil_append] at H)
        | (go_at_call 46; (with_reducible refine (B2 _ _ _ (more_C H (.tail .head) hnl hnm (by omega) hcs hcc hcm hCm) (hH.below H.below)).mono ?_); rintro e W ⟨rfl, hb⟩; replace H := H.to hb; clear hb)
        | (go_at_call 42; (with_reducible refine (AW _ (hH.below H.below)).mono ?_); rintro e W ⟨rfl, hb⟩; replace H := H.to hb; clear hb))
        go_ret
        exact ⟨rfl, H.below⟩
      | true =>
        have his : layAll e64 (l ++ [m]) = true := by rw [hall, hok, hx]; rfl
        have B2 := fun A2 c2 W h1 h2 => body_yes e64 (l ++ [m]) A2 c2 W his he hl2 hll2 (by omega) h1 h2
        rw [hst, hlen] at B2
        have AC := fun A1 W h1 h2 h3 => add_ok e64 (laySt e64 l l.length).1 m A1 B 832 cB (laySt e64 l l.length).2 W hx h1 (by omega) hbb h2 hcm hbm hml h3
        rw [hbl] at AC
        have hgt := end_more (laySt e64 l l.length).2 hend.1 hend.2 (m.length : Int) (by omega) hx
        have hol := addB_len e64 (laySt e64 l l.length).1 (laySt e64 l l.length).2 m
        have hen3 := hend.2
        have hen0 := hend.1
        clear hend hall hst
        generalize (laySt e64 l l.length).2 = E at *
        obtain ⟨en, rfl⟩ := Int.eq_ofNat_of_zero_le hen0
        have hkeep := addB_keep e64 (laySt e64 l l.length).1 en m hbl (by omega)
        generalize (cutP (en : Int) (m.length : Int)).2.1 = E2 at *
        obtain ⟨en2, rfl⟩ := Int.eq_ofNat_of_zero_le (show 0 ≤ E2 by omega)
        have q2 : decide (en < en2) = true := decide_eq_true (by omega)
        have hen4 : en ≤ 832 := by omega
        clear hok his hl2 hll2 hlen hx hbb hgt hen3 hen0
        generalize addB e64 (laySt e64 l l.length).1 (en : Int) m = out at *
        generalize (laySt e64 l l.length).1 = body at *
        obtain ⟨K9, hK9⟩ : ∃ k, body.take en = k := ⟨_, rfl⟩
        rw [hK9] at hkeep
        generalize hnl : l.length = n at *
        generalize hnm : m.length = nm at *
        go_enter Tryd.func13, Tryd.ntmps13
        go_wp2_with (first
    | ((with_reducible refine gate_dst (N := 29) rfl ?_); refine l_build0 rfl H 67 23 rfl Tryd.underlying67 (by kernel_rfl) ?_; clear H; intro g29 W H)
    | ((with_reducible refine gate_dst (N := 33) rfl ?_); refine l_build11 rfl H 67 23 _ rfl Tryd.underlying67 _ rfl _ zs23 rfl rfl ?_; clear H; intro g33 W H)
    | ((with_reducible refine gate_dst (N := 34) rfl ?_); refine l_append1 rfl H _ _ 67 23 rfl Tryd.underlying67 _ _ _ inf23 rfl (by decide) (by decide) _ _ _ rfl (by (repeat (first | exact In.head | apply In.tail))) _ _ rfl (by (repeat (first | exact In.head | apply In.tail))) (by (first | rfl | assumption | omega | (simp only [nums_length]; omega) | (simp [nums_length, zs]; done) | (simp [nums_length, zs]; omega))) (by (first | exact nums_one | assumption | (intro u hu; simp at hu; subst hu; rfl) | (intro u hu; simp at hu; rcases hu with rfl | rfl | rfl | rfl | rfl | rfl | rfl <;> rfl) | (intro u hu; simp at hu; rcases hu with rfl | rfl | rfl | rfl <;> rfl) | (intro u hu; simp at hu; rcases hu with rfl | rfl | rfl <;> rfl) | (intro u hu; simp at hu; rcases hu with rfl | rfl <;> rfl))) (by omega) ?_; clear H; intro v34 W H; obtain ⟨A34, c34, rfl⟩ := H.row_slice (.tail .head))
        | ((with_reducible refine gate_dst (N := 31) rfl ?_); refine l_append rfl H _ _ 67 23 rfl Tryd.underlying67 _ _ _ inf23 rfl (by decide) (by decide) _ 0 [] rfl .head A n c cs rfl (by omega) (hsrc _ H.below) hone (by omega) ?_; clear H; intro v31 W H; rw [List.nil_append, Nat.zero_add] at H)
        | (go_at_call 45; (with_reducible refine (FW _ (Kd.C_below hC H.below)).mono ?_); rintro e W ⟨rfl, hb⟩; replace H := H.to hb; clear hb)
        | (go_at_call 46; (with_reducible refine (B1 _ (Kd.C_below hC H.below) (hH.below H.below)).mono ?_); rintro e W ⟨ga, rfl, HO⟩; replace H := H.addK HO; clear HO B1; dsimp only [List.cons_append, List.nil_append] at H)
        | (go_at_call 46; (with_reducible refine (B2 _ _ _ (more_C H (.tail .head) hnl hnm (by omega) hcs hcc hcm hCm) (hH.below H.below)).mono ?_); rintro e W ⟨gb, rfl, HO⟩; replace H := H.addK HO; clear HO; dsimp only [List.cons_append, List.nil_append] at H)
        | (go_at_call 43; (with_reducible refine (AC _ _ (by have q := H.C (.tail (.tail (.tail .head))) 0 832 (by omega) (by omega); rw [List.drop_zero, List.take_of_length_le (by omega)] at q; exact q) (Kd.C_below hCm H.below) (hH.below H.below)).mono ?_); rintro e W ⟨gc, rfl, HO⟩; replace H := H.addK HO; clear HO; dsimp only [List.cons_append, List.nil_append] at H))
        refine start_ (n := 43) (S := Own _ _ _) (ds := []) #[false, false, false, false, false, false, false, false, false, false, false, false, false, false, false, false, false, false, false, false, false, false, false, false, false, false, false, false, false, false, false, false, false, false, false, false, false, false, false, false, false, false, false] (by kernel_rfl) rfl rfl H.drew (fun hHeld => ?_)
        replace H := H.drew
        generalize World.drew _ = W at H hHeld ⊢
        refine pure_ (i := 0) (N := some 62) (v := ?_) (a' := ?_) #[true, false, false, false, false, false, false, false, false, false, false, false, false, false, false, false, false, false, false, false, false, false, false, false, false, false, false, false, false, false, false, false, false, false, false, false, false, false, false, false, false, false, false] rfl rfl (by kernel_rfl) (fun _ _ _ h => h) (Or.inl ⟨by rfl, ?_⟩) ?_ ?_
        rotate_left
        · intro w'
          go_simp
          with_reducible rfl
        rotate_left
        · simp only [Act.put, List.setIfInBounds_toArray, List.set_cons_zero, List.set_cons_succ, i64_w, i32_w]
          rfl
        refine pure_ (i := 1) (N := some 63) (v := ?_) (a' := ?_) #[true, true, false, false, false, false, false, false, false, false, false, false, false, false, false, false, false, false, false, false, false, false, false, false, false, false, false, false, false, false, false, false, false, false, false, false, false, false, false, false, false, false, false] rfl rfl (by kernel_rfl) (fun _ _ _ h => h) (Or.inl ⟨by rfl, ?_⟩) ?_ ?_
        rotate_left
        · intro w'
          go_simp
          with_reducible rfl
        rotate_left
        · simp only [Act.put, List.setIfInBounds_toArray, List.set_cons_zero, List.set_cons_succ, i64_w, i32_w]
          rfl
        refine pure_ (i := 2) (N := some 64) (v := ?_) (a' := ?_) #[true, true, true, false, false, false, false, false, false, false, false, false, false, false, false, false, false, false, false, false, false, false, false, false, false, false, false, false, false, false, false, false, false, false, false, false, false, false, false, false, false, false, false] rfl rfl (by kernel_rfl) (fun _ _ _ h => h) (Or.inl ⟨by rfl, ?_⟩) ?_ ?_
        rotate_left
        · intro w'
          go_simp
          with_reducible rfl
        rotate_left
        · simp only [Act.put, List.setIfInBounds_toArray, List.set_cons_zero, List.set_cons_succ, i64_w, i32_w]
          rfl
        refine pure_ (i := 3) (N := some 65) (v := ?_) (a' := ?_) #[true, true, true, true, false, false, false, false, false, false, false, false, false, false, false, false, false, false, false, false, false, false, false, false, false, false, false, false, false, false, false, false, false, false, false, false, false, false, false, false, false, false, false] rfl rfl (by kernel_rfl) (fun _ _ _ h => h) (Or.inl ⟨by rfl, ?_⟩) ?_ ?_
        rotate_left
        · intro w'
          go_simp
          with_reducible rfl
        rotate_left
        · simp only [Act.put, List.setIfInBounds_toArray, List.set_cons_zero, List.set_cons_succ, i64_w, i32_w]
          rfl
        refine pure_ (i := 4) (N := some 66) (v := ?_) (a' := ?_) #[true, true, true, true, true, false, false, false, false, false, false, false, false, false, false, false, false, false, false, false, false, false, false, false, false, false, false, false, false, false, false, false, false, false, false, false, false, false, false, false, false, false, false] rfl rfl (by kernel_rfl) (fun _ _ _ h => h) (Or.inl ⟨by rfl, ?_⟩) ?_ ?_
        rotate_left
        · intro w'
          go_simp
          with_reducible rfl
        rotate_left
        · simp only [Act.put, List.setIfInBounds_toArray, List.set_cons_zero, List.set_cons_succ, i64_w, i32_w]
          rfl
        refine pure_ (i := 5) (N := some 67) (v := ?_) (a' := ?_) #[true, true, true, true, true, true, false, false, false, false, false, false, false, false, false, false, false, false, false, false, false, false, false, false, false, false, false, false, false, false, false, false, false, false, false, false, false, false, false, false, false, false, false] rfl rfl (by kernel_rfl) (fun _ _ _ h => h) (Or.inl ⟨by rfl, ?_⟩) ?_ ?_
        rotate_left
        · intro w'
          go_simp
          with_reducible rfl
        rotate_left
        · simp only [Act.put, List.setIfInBounds_toArray, List.set_cons_zero, List.set_cons_succ, i64_w, i32_w]
          rfl
        refine pure_ (i := 6) (N := some 68) (v := ?_) (a' := ?_) #[true, true, true, true, true, true, true, false, false, false, false, false, false, false, false, false, false, false, false, false, false, false, false, false, false, false, false, false, false, false, false, false, false, false, false, false, false, false, false, false, false, false, false] rfl rfl (by kernel_rfl) (fun _ _ _ h => h) (Or.inl ⟨by rfl, ?_⟩) ?_ ?_
        rotate_left
        · intro w'
          go_simp
          with_reducible rfl
        rotate_left
        · simp only [Act.put, List.setIfInBounds_toArray, List.set_cons_zero, List.set_cons_succ, i64_w, i32_w]
          rfl
        refine pure_ (i := 7) (N := some 69) (v := ?_) (a' := ?_) #[true, true, true, true, true, true, true, true, false, false, false, false, false, false, false, false, false, false, false, false, false, false, false, false, false, false, false, false, false, false, false, false, false, false, false, false, false, false, false, false, false, false, false] rfl rfl (by kernel_rfl) (fun _ _ _ h => h) (Or.inl ⟨by rfl, ?_⟩) ?_ ?_
        rotate_left
        · intro w'
          go_simp
          with_reducible rfl
        rotate_left
        · simp only [Act.put, List.setIfInBounds_toArray, List.set_cons_zero, List.set_cons_succ, i64_w, i32_w]
          rfl
        refine pure_ (i := 8) (N := some 70) (v := ?_) (a' := ?_) #[true, true, true, true, true, true, true, true, true, false, false, false, false, false, false, false, false, false, false, false, false, false, false, false, false, false, false, false, false, false, false, false, false, false, false, false, false, false, false, false, false, false, false] rfl rfl (by kernel_rfl) (fun _ _ _ h => h) (Or.inl ⟨by rfl, ?_⟩) ?_ ?_
        rotate_left
        · intro w'
          go_simp
          with_reducible rfl
        rotate_left
        · simp only [Act.put, List.setIfInBounds_toArray, List.set_cons_zero, List.set_cons_succ, i64_w, i32_w]
          rfl
        refine pure_ (i := 9) (N := some 71) (v := ?_) (a' := ?_) #[true, true, true, true, true, true, true, true, true, true, false, false, false, false, false, false, false, false, false, false, false, false, false, false, false, false, false, false, false, false, false, false, false, false, false, false, false, false, false, false, false, false, false] rfl rfl (by kernel_rfl) (fun _ _ _ h => h) (Or.inl ⟨by rfl, ?_⟩) ?_ ?_
        rotate_left
        · intro w'
          go_simp
          with_reducible rfl
        rotate_left
        · simp only [Act.put, List.setIfInBounds_toArray, List.set_cons_zero, List.set_cons_succ, i64_w, i32_w]
          rfl
        refine pure_ (i := 10) (N := some 72) (v := ?_) (a' := ?_) #[true, true, true, true, true, true, true, true, true, true, true, false, false, false, false, false, false, false, false, false, false, false, false, false, false, false, false, false, false, false, false, false, false, false, false, false, false, false, false, false, false, false, false] rfl rfl (by kernel_rfl) (fun _ _ _ h => h) (Or.inl ⟨by rfl, ?_⟩) ?_ ?_
        rotate_left
        · intro w'
          go_simp
          with_reducible rfl
        rotate_left
        · simp only [Act.put, List.setIfInBounds_toArray, List.set_cons_zero, List.set_cons_succ, i64_w, i32_w]
          rfl
        refine pure_ (i := 11) (N := some 73) (v := ?_) (a' := ?_) #[true, true, true, true, true, true, true, true, true, true, true, true, false, false, false, false, false, false, false, false, false, false, false, false, false, false, false, false, false, false, false, false, false, false, false, false, false, false, false, false, false, false, false] rfl rfl (by kernel_rfl) (fun _ _ _ h => h) (Or.inl ⟨by rfl, ?_⟩) ?_ ?_
        rotate_left
        · intro w'
          go_simp
          with_reducible rfl
        rotate_left
        · simp only [Act.put, List.setIfInBounds_toArray, List.set_cons_zero, List.set_cons_succ, i64_w, i32_w]
          rfl
        refine pure_ (i := 12) (N := some 74) (v := ?_) (a' := ?_) #[true, true, true, true, true, true, true, true, true, true, true, true, true, false, false, false, false, false, false, false, false, false, false, false, false, false, false, false, false, false, false, false, false, false, false, false, false, false, false, false, false, false, false] rfl rfl (by kernel_rfl) (fun _ _ _ h => h) (Or.inl ⟨by rfl, ?_⟩) ?_ ?_
        rotate_left
        · intro w'
          go_simp
          with_reducible rfl
        rotate_left
        · simp only [Act.put, List.setIfInBounds_toArray, List.set_cons_zero, List.set_cons_succ, i64_w, i32_w]
          rfl
        refine pure_ (i := 13) (N := some 75) (v := ?_) (a' := ?_) #[true, true, true, true, true, true, true, true, true, true, true, true, true, true, false, false, false, false, false, false, false, false, false, false, false, false, false, false, false, false, false, false, false, false, false, false, false, false, false, false, false, false, false] rfl rfl (by kernel_rfl) (fun _ _ _ h => h) (Or.inl ⟨by rfl, ?_⟩) ?_ ?_
        rotate_left
        · intro w'
          go_simp
          with_reducible rfl
        rotate_left
        · simp only [Act.put, List.setIfInBounds_toArray, List.set_cons_zero, List.set_cons_succ, i64_w, i32_w]
          rfl
        refine pure_ (i := 14) (N := some 76) (v := ?_) (a' := ?_) #[true, true, true, true, true, true, true, true, true, true, true, true, true, true, true, false, false, false, false, false, false, false, false, false, false, false, false, false, false, false, false, false, false, false, false, false, false, false, false, false, false, false, false] rfl rfl (by kernel_rfl) (fun _ _ _ h => h) (Or.inl ⟨by rfl, ?_⟩) ?_ ?_
        rotate_left
        · intro w'
          go_simp
          with_reducible rfl
        rotate_left
        · simp only [Act.put, List.setIfInBounds_toArray, List.set_cons_zero, List.set_cons_succ, i64_w, i32_w]
          rfl
        refine pure_ (i := 15) (N := some 77) (v := ?_) (a' := ?_) #[true, true, true, true, true, true, true, true, true, true, true, true, true, true, true, true, false, false, false, false, false, false, false, false, false, false, false, false, false, false, false, false, false, false, false, false, false, false, false, false, false, false, false] rfl rfl (by kernel_rfl) (fun _ _ _ h => h) (Or.inl ⟨by rfl, ?_⟩) ?_ ?_
        rotate_left
        · intro w'
          go_simp
          with_reducible rfl
        rotate_left
        · simp only [Act.put, List.setIfInBounds_toArray, List.set_cons_zero, List.set_cons_succ, i64_w, i32_w]
          rfl
        refine take_run (i := 16) (N := some 78) (a' := ?_) #[true, true, true, true, true, true, true, true, true, true, true, true, true, true, true, true, true, false, false, false, false, false, false, false, false, false, false, false, false, false, false, false, false, false, false, false, false, false, false, false, false, false, false] rfl rfl (by kernel_rfl) (fun _ _ _ _ h => h) (by rfl) hHeld (.slice (some ⟨ga, 0, none⟩) en 832) (fun X HX => x_slice_to _ _ rfl rfl Tryd.underlying23 size5 en rfl (by omega) X) ?_ ?_
        rotate_left
        · simp only [Act.put, List.setIfInBounds_toArray, List.set_cons_zero, List.set_cons_succ, i64_w, i32_w]
          rfl
        refine pure_ (i := 18) (N := some 80) (v := ?_) (a' := ?_) #[true, true, true, true, true, true, true, true, true, true, true, true, true, true, true, true, true, false, true, false, false, false, false, false, false, false, false, false, false, false, false, false, false, false, false, false, false, false, false, false, false, false, false] rfl rfl (by kernel_rfl) (fun _ _ _ h => h) (Or.inl ⟨by rfl, ?_⟩) ?_ ?_
        rotate_left
        · intro w'
          go_simp
          with_reducible rfl
        rotate_left
        · simp only [Act.put, List.setIfInBounds_toArray, List.set_cons_zero, List.set_cons_succ, i64_w, i32_w]
          rfl
        refine pure_ (i := 19) (N := some 81) (v := ?_) (a' := ?_) #[true, true, true, true, true, true, true, true, true, true, true, true, true, true, true, true, true, false, true, true, false, false, false, false, false, false, false, false, false, false, false, false, false, false, false, false, false, false, false, false, false, false, false] rfl rfl (by kernel_rfl) (fun _ _ _ h => h) (Or.inl ⟨by rfl, ?_⟩) ?_ ?_
        rotate_left
        · intro w'
          go_simp
          with_reducible rfl
        rotate_left
        · simp only [Act.put, List.setIfInBounds_toArray, List.set_cons_zero, List.set_cons_succ, i64_w, i32_w]
          rfl
        refine take_run (i := 20) (N := some 82) (a' := ?_) #[true, true, true, true, true, true, true, true, true, true, true, true, true, true, true, true, true, false, true, true, true, false, false, false, false, false, false, false, false, false, false, false, false, false, false, false, false, false, false, false, false, false, false] rfl rfl (by kernel_rfl) (fun _ _ _ _ h => h) (by rfl) hHeld (.slice (some ⟨gb, 0, none⟩) en 832) (fun X HX => x_slice_to _ _ rfl rfl Tryd.underlying23 size5 en rfl (by omega) X) ?_ ?_
        rotate_left
        · simp only [Act.put, List.setIfInBounds_toArray, List.set_cons_zero, List.set_cons_succ, i64_w, i32_w]
          rfl
        refine take_run (i := 17) (N := some 79) (a' := ?_) #[true, true, true, true, true, true, true, true, true, true, true, true, true, true, true, true, true, true, true, true, true, false, false, false, false, false, false, false, false, false, false, false, false, false, false, false, false, false, false, false, false, false, false] rfl rfl (by kernel_rfl) (fun _ _ _ _ h => h) (by rfl) hHeld (.string (strOfNums K9)) (fun X HX => r_strC 23 9 5 _ rfl rfl (by have q := HX.C (.tail (.tail (.tail (.tail .head)))) 0 en (by omega) (by omega); rw [List.drop_zero, hK9] at q; exact q) Tryd.underlying23 Tryd.underlying5 Tryd.underlying9) ?_ ?_
        rotate_left
        · simp only [Act.put, List.setIfInBounds_toArray, List.set_cons_zero, List.set_cons_succ, i64_w, i32_w]
          rfl
        refine take_run (i := 21) (N := some 83) (a' := ?_) #[true, true, true, true, true, true, true, true, true, true, true, true, true, true, true, true, true, true, true, true, true, true, false, false, false, false, false, false, false, false, false, false, false, false, false, false, false, false, false, false, false, false, false] rfl rfl (by kernel_rfl) (fun _ _ _ _ h => h) (by rfl) hHeld (.string (strOfNums K9)) (fun X HX => r_strC 23 9 5 _ rfl rfl (by have q := HX.C (.tail .head) 0 en (by omega) (by omega); rw [List.drop_zero, hkeep] at q; exact q) Tryd.underlying23 Tryd.underlying5 Tryd.underlying9) ?_ ?_
        rotate_left
        · simp only [Act.put, List.setIfInBounds_toArray, List.set_cons_zero, List.set_cons_succ, i64_w, i32_w]
          rfl
        refine pure_ (i := 22) (N := some 84) (v := ?_) (a' := ?_) #[true, true, true, true, true, true, true, true, true, true, true, true, true, true, true, true, true, true, true, true, true, true, true, false, false, false, false, false, false, false, false, false, false, false, false, false, false, false, false, false, false, false, false] rfl rfl (by kernel_rfl) (fun _ _ _ h => h) (Or.inl ⟨by rfl, ?_⟩) ?_ ?_
        rotate_left
        · intro w'
          go_simp
          with_reducible rfl
        rotate_left
        · simp only [Act.put, List.setIfInBounds_toArray, List.set_cons_zero, List.set_cons_succ, i64_w, i32_w]
          rfl
        refine pure_ (i := 23) (N := some 85) (v := ?_) (a' := ?_) #[true, true, true, true, true, true, true, true, true, true, true, true, true, true, true, true, true, true, true, true, true, true, true, true, false, false, false, false, false, false, false, false, false, false, false, false, false, false, false, false, false, false, false] rfl rfl (by kernel_rfl) (fun _ _ _ h => h) (Or.inl ⟨by rfl, ?_⟩) ?_ ?_
        rotate_left
        · intro w'
          go_simp
          with_reducible rfl
        rotate_left
        · simp only [Act.put, List.setIfInBounds_toArray, List.set_cons_zero, List.set_cons_succ, i64_w, i32_w]
          rfl
        refine pure_ (i := 24) (N := some 86) (v := ?_) (a' := ?_) #[true, true, true, true, true, true, true, true, true, true, true, true, true, true, true, true, true, true, true, true, true, true, true, true, true, false, false, false, false, false, false, false, false, false, false, false, false, false, false, false, false, false, false] rfl rfl (by kernel_rfl) (fun _ _ _ h => h) (Or.inl ⟨by rfl, ?_⟩) ?_ ?_
        rotate_left
        · intro w'
          go_simp
          with_reducible rfl
        rotate_left
        · simp only [Act.put, List.setIfInBounds_toArray, List.set_cons_zero, List.set_cons_succ, i64_w, i32_w]
          rfl
        refine pure_ (i := 25) (N := some 87) (v := ?_) (a' := ?_) #[true, true, true, true, true, true, true, true, true, true, true, true, true, true, true, true, true, true, true, true, true, true, true, true, true, true, false, false, false, false, false, false, false, false, false, false, false, false, false, false, false, false, false] rfl rfl (by kernel_rfl) (fun _ _ _ h => h) (Or.inl ⟨by rfl, ?_⟩) ?_ ?_
        rotate_left
        · intro w'
          go_simp
          with_reducible rfl
        rotate_left
        · simp only [Act.put, List.setIfInBounds_toArray, List.set_cons_zero, List.set_cons_succ, i64_w, i32_w]
          rfl
        refine pure_ (i := 26) (N := some 88) (v := ?_) (a' := ?_) #[true, true, true, true, true, true, true, true, true, true, true, true, true, true, true, true, true, true, true, true, true, true, true, true, true, true, true, false, false, false, false, false, false, false, false, false, false, false, false, false, false, false, false] rfl rfl (by kernel_rfl) (fun _ _ _ h => h) (Or.inl ⟨by rfl, ?_⟩) ?_ ?_
        rotate_left
        · intro w'
          go_simp
          with_reducible rfl
        rotate_left
        · simp only [Act.put, List.setIfInBounds_toArray, List.set_cons_zero, List.set_cons_succ, i64_w, i32_w]
          rfl
        refine pure_ (i := 27) (N := some 89) (v := ?_) (a' := ?_) #[true, true, true, true, true, true, true, true, true, true, true, true, true, true, true, true, true, true, true, true, true, true, true, true, true, true, true, true, false, false, false, false, false, false, false, false, false, false, false, false, false, false, false] rfl rfl (by kernel_rfl) (fun _ _ _ h => h) (Or.inl ⟨by rfl, ?_⟩) ?_ ?_
        rotate_left
        · intro w'
          go_simp
          with_reducible rfl
        rotate_left
        · simp only [Act.put, List.setIfInBounds_toArray, List.set_cons_zero, List.set_cons_succ, i64_w, i32_w]
          rfl
        refine pure_ (i := 28) (N := some 90) (v := ?_) (a' := ?_) #[true, true, true, true, true, true, true, true, true, true, true, true, true, true, true, true, true, true, true, true, true, true, true, true, true, true, true, true, true, false, false, false, false, false, false, false, false, false, false, false, false, false, false] rfl rfl (by kernel_rfl) (fun _ _ _ h => h) (Or.inl ⟨by rfl, ?_⟩) ?_ ?_
        rotate_left
        · intro w'
          go_simp
          with_reducible rfl
        rotate_left
        · simp only [Act.put, List.setIfInBounds_toArray, List.set_cons_zero, List.set_cons_succ, i64_w, i32_w]
          rfl
        refine pure_ (i := 29) (N := some 91) (v := ?_) (a' := ?_) #[true, true, true, true, true, true, true, true, true, true, true, true, true, true, true, true, true, true, true, true, true, true, true, true, true, true, true, true, true, true, false, false, false, false, false, false, false, false, false, false, false, false, false] rfl rfl (by kernel_rfl) (fun _ _ _ h => h) (Or.inl ⟨by rfl, ?_⟩) ?_ ?_
        rotate_left
        · intro w'
          go_simp
          with_reducible rfl
        rotate_left
        · simp only [Act.put, List.setIfInBounds_toArray, List.set_cons_zero, List.set_cons_succ, i64_w, i32_w]
          rfl
        refine pure_ (i := 30) (N := some 92) (v := ?_) (a' := ?_) #[true, true, true, true, true, true, true, true, true, true, true, true, true, true, true, true, true, true, true, true, true, true, true, true, true, true, true, true, true, true, true, false, false, false, false, false, false, false, false, false, false, false, false] rfl rfl (by kernel_rfl) (fun _ _ _ h => h) (Or.inl ⟨by rfl, ?_⟩) ?_ ?_
        rotate_left
        · intro w'
          go_simp
          with_reducible rfl
        rotate_left
        · simp only [Act.put, List.setIfInBounds_toArray, List.set_cons_zero, List.set_cons_succ, i64_w, i32_w]
          rfl
        refine pure_ (i := 31) (N := some 93) (v := ?_) (a' := ?_) #[true, true, true, true, true, true, true, true, true, true, true, true, true, true, true, true, true, true, true, true, true, true, true, true, true, true, true, true, true, true, true, true, false, false, false, false, false, false, false, false, false, false, false] rfl rfl (by kernel_rfl) (fun _ _ _ h => h) (Or.inl ⟨by rfl, ?_⟩) ?_ ?_
        rotate_left
        · intro w'
          go_simp
          with_reducible rfl
        rotate_left
        · simp only [Act.put, List.setIfInBounds_toArray, List.set_cons_zero, List.set_cons_succ, i64_w, i32_w]
          rfl
        refine pure_ (i := 32) (N := some 94) (v := ?_) (a' := ?_) #[true, true, true, true, true, true, true, true, true, true, true, true, true, true, true, true, true, true, true, true, true, true, true, true, true, true, true, true, true, true, true, true, true, false, false, false, false, false, false, false, false, false, false] rfl rfl (by kernel_rfl) (fun _ _ _ h => h) (Or.inl ⟨by rfl, ?_⟩) ?_ ?_
        rotate_left
        · intro w'
          go_simp
          with_reducible rfl
        rotate_left
        · simp only [Act.put, List.setIfInBounds_toArray, List.set_cons_zero, List.set_cons_succ, i64_w, i32_w]
          rfl
        refine pure_ (i := 33) (N := some 95) (v := ?_) (a' := ?_) #[true, true, true, true, true, true, true, true, true, true, true, true, true, true, true, true, true, true, true, true, true, true, true, true, true, true, true, true, true, true, true, true, true, true, false, false, false, false, false, false, false, false, false] rfl rfl (by kernel_rfl) (fun _ _ _ h => h) (Or.inl ⟨by rfl, ?_⟩) ?_ ?_
        rotate_left
        · intro w'
          go_simp
          with_reducible rfl
        rotate_left
        · simp only [Act.put, List.setIfInBounds_toArray, List.set_cons_zero, List.set_cons_succ, i64_w, i32_w]
          rfl
        refine pure_ (i := 35) (N := some 97) (v := ?_) (a' := ?_) #[true, true, true, true, true, true, true, true, true, true, true, true, true, true, true, true, true, true, true, true, true, true, true, true, true, true, true, true, true, true, true, true, true, true, false, true, false, false, false, false, false, false, false] rfl rfl (by kernel_rfl) (fun _ _ _ h => h) (Or.inl ⟨by rfl, ?_⟩) ?_ ?_
        rotate_left
        · intro w'
          go_simp
          with_reducible rfl
        rotate_left
        · simp only [Act.put, List.setIfInBounds_toArray, List.set_cons_zero, List.set_cons_succ, i64_w, i32_w]
          rfl
        refine take_run (i := 34) (N := some 96) (a' := ?_) #[true, true, true, true, true, true, true, true, true, true, true, true, true, true, true, true, true, true, true, true, true, true, true, true, true, true, true, true, true, true, true, true, true, true, true, true, false, false, false, false, false, false, false] rfl rfl (by kernel_rfl) (fun _ _ _ _ h => h) (by rfl) hHeld (.string (strOfNums out)) (fun X HX => r_strC 23 9 5 _ rfl rfl (by have q := HX.C (.head) 0 832 (by omega) (by omega); rw [List.drop_zero, List.take_of_length_le (by omega)] at q; exact q) Tryd.underlying23 Tryd.underlying5 Tryd.underlying9) ?_ ?_
        rotate_left
        · simp only [Act.put, List.setIfInBounds_toArray, List.set_cons_zero, List.set_cons_succ, i64_w, i32_w]
          rfl
        refine take_run (i := 36) (N := some 98) (a' := ?_) #[true, true, true, true, true, true, true, true, true, true, true, true, true, true, true, true, true, true, true, true, true, true, true, true, true, true, true, true, true, true, true, true, true, true, true, true, true, false, false, false, false, false, false] rfl rfl (by kernel_rfl) (fun _ _ _ _ h => h) (by rfl) hHeld (.string (strOfNums out)) (fun X HX => r_strC 23 9 5 _ rfl rfl (by have q := HX.C (.tail .head) 0 832 (by omega) (by omega); rw [List.drop_zero, List.take_of_length_le (by omega)] at q; exact q) Tryd.underlying23 Tryd.underlying5 Tryd.underlying9) ?_ ?_
        rotate_left
        · simp only [Act.put, List.setIfInBounds_toArray, List.set_cons_zero, List.set_cons_succ, i64_w, i32_w]
          rfl
        refine pure_ (i := 37) (N := some 99) (v := ?_) (a' := ?_) #[true, true, true, true, true, true, true, true, true, true, true, true, true, true, true, true, true, true, true, true, true, true, true, true, true, true, true, true, true, true, true, true, true, true, true, true, true, true, false, false, false, false, false] rfl rfl (by kernel_rfl) (fun _ _ _ h => h) (Or.inl ⟨by rfl, ?_⟩) ?_ ?_
        rotate_left
        · intro w'
          go_simp
          with_reducible rfl
        rotate_left
        · simp only [Act.put, List.setIfInBounds_toArray, List.set_cons_zero, List.set_cons_succ, i64_w, i32_w]
          rfl
        refine pure_ (i := 38) (N := some 100) (v := ?_) (a' := ?_) #[true, true, true, true, true, true, true, true, true, true, true, true, true, true, true, true, true, true, true, true, true, true, true, true, true, true, true, true, true, true, true, true, true, true, true, true, true, true, true, false, false, false, false] rfl rfl (by kernel_rfl) (fun _ _ _ h => h) (Or.inl ⟨by rfl, ?_⟩) ?_ ?_
        rotate_left
        · intro w'
          go_simp
          with_reducible rfl
        rotate_left
        · simp only [Act.put, List.setIfInBounds_toArray, List.set_cons_zero, List.set_cons_succ, i64_w, i32_w]
          rfl
        refine pure_ (i := 39) (N := some 101) (v := ?_) (a' := ?_) #[true, true, true, true, true, true, true, true, true, true, true, true, true, true, true, true, true, true, true, true, true, true, true, true, true, true, true, true, true, true, true, true, true, true, true, true, true, true, true, true, false, false, false] rfl rfl (by kernel_rfl) (fun _ _ _ h => h) (Or.inl ⟨by rfl, ?_⟩) ?_ ?_
        rotate_left
        · intro w'
          go_simp
          with_reducible rfl
        rotate_left
        · simp only [Act.put, List.setIfInBounds_toArray, List.set_cons_zero, List.set_cons_succ, i64_w, i32_w]
          rfl
        refine one_ (i := 40) (N := some 102) #[true, true, true, true, true, true, true, true, true, true, true, true, true, true, true, true, true, true, true, true, true, true, true, true, true, true, true, true, true, true, true, true, true, true, true, true, true, true, true, true, true, false, false] rfl rfl (by kernel_rfl) (by decide) (fun K hK => ?_)
        refine callK_ (AW W (hH.below H.below)) Tryd.func42 (by kernel_rfl) rfl (by rfl) rfl rfl (by (try simp only [List.map_toArray, List.map_cons, List.map_nil]); first | done | rfl) ?_
        rintro e W ⟨rfl, hb⟩
        refine ⟨_, rfl, ?_⟩
        replace H := H.to hb
        clear hb
        refine hK.out _ _ ?_ (fun hHeld => ?_)
        · first | trivial | exact H | exact H.del .head | exact (H.del .head).del .head
        clear hK K
        refine norm_ (a' := ?_) ?_ ?_
        rotate_left
        · show Act.put _ (some 102) _ = _
          simp only [Act.put, List.setIfInBounds_toArray, List.set_cons_zero, List.set_cons_succ, i64_w, i32_w]
          rfl
        refine pure_ (i := 41) (N := some 103) (v := ?_) (a' := ?_) #[true, true, true, true, true, true, true, true, true, true, true, true, true, true, true, true, true, true, true, true, true, true, true, true, true, true, true, true, true, true, true, true, true, true, true, true, true, true, true, true, true, true, false] rfl rfl (by kernel_rfl) (fun _ _ _ h => h) (Or.inl ⟨by rfl, ?_⟩) ?_ ?_
        rotate_left
        · intro w'
          go_simp
          with_reducible rfl
        rotate_left
        · simp only [Act.put, List.setIfInBounds_toArray, List.set_cons_zero, List.set_cons_succ, i64_w, i32_w]
          rfl
        refine pure_ (i := 42) (N := some 6) (v := ?_) (a' := ?_) #[true, true, true, true, true, true, true, true, true, true, true, true, true, true, true, true, true, true, true, true, true, true, true, true, true, true, true, true, true, true, true, true, true, true, true, true, true, true, true, true, true, true, true] rfl rfl (by kernel_rfl) (fun _ _ _ h => h) (Or.inl ⟨by rfl, ?_⟩) ?_ ?_
        rotate_left
        · intro w'
          go_simp
          with_reducible rfl
        rotate_left
        · simp only [Act.put, List.setIfInBounds_toArray, List.set_cons_zero, List.set_cons_succ, i64_w, i32_w]
          rfl
        refine done_ (by kernel_rfl) ?_
        clear hHeld
        go_wp2
        go_ret
        exact ⟨rfl, H.below⟩
end Go.Proofs.YthhbilkmdfdfiaaDoor.O
end
