/- Texts of mine put together: Places, Awake17, ImageAdds, OpenTwo, RowImageAdds. -/
import Derived.Test.YthhbilkmdfdfiaaDoorPkImageAdds11
import Derived.Test.YthhbilkmdfdfiaaDoorWGuard
import Derived.Test.YthhbilkmdfdfiaaDoorPkImageAdds1
import Derived.Test.YthhbilkmdfdfiaaDoorCards
import Derived.Test.YthhbilkmdfdfiaaDoorTie
import Derived.SevenTiedAt
import Derived.WalkKit
import Derived.ProofKit
import Derived.OpenShut
import Derived.ShutString
import Derived.ChangeOld
import Derived.Below
import Derived.SizedLaws
import Derived.Lib.SmallJoins
section
/- image.Places, by what is owned. -/
set_option linter.unusedVariables false
set_option linter.unusedSimpArgs false
namespace Go.Proofs.YthhbilkmdfdfiaaDoor.O
open Go.RowKit Go.Proofs.YthhbilkmdfdfiaaDoorW.PrintWords Go.Proofs.YthhbilkmdfdfiaaDoorW.PrintLast Go.Proofs.YthhbilkmdfdfiaaDoorW.PrintMore Go.Proofs.YthhbilkmdfdfiaaDoor.F Go.Proofs.YthhbilkmdfdfiaaDoor.F.Nums Go.Proofs.YthhbilkmdfdfiaaDoor.Plain Go.Proofs.YthhbilkmdfdfiaaDoor.Img
attribute [local go_sem] Oper.semAt_some
theorem loadVar_cell {P : Program} {W : World} {ty : TypeId} {p : Addr} {v : Value} {d : TypeDesc} (hu : P.underlying ty = some d) (hd : d.isRow = false) (hc : W.cell? p = some v) : (loadVar ty p).run P W = .ok v W := by
  have hag : (isAgg ty).run P W = .ok false W := by
    unfold isAgg
    rw [Sem.run_bind, run_underlying hu W]
    cases d <;> simp_all
  simp [loadVar, hag, hc]
theorem results_cell2 {fn : Func} {p q : Tmp} {tp tq : TypeId} (h : fn.results = #[.cell p tp, .cell q tq]) (tmps : Array Value) (P : Program) (W : World) {ap aq : Addr} {vp vq : Value} {dp dq : TypeDesc}
    (hp : tmps.getD p undef = .pointer (some ap)) (hq : tmps.getD q undef = .pointer (some aq)) (up : P.underlying tp = some dp) (ip : dp.isRow = false) (uq : P.underlying tq = some dq) (iq : dq.isRow = false) (cp : W.cell? ap = some vp) (cq : W.cell? aq = some vq) :
    (results fn tmps).run P W = .ok (.tuple #[vp, vq]) W := by
  have hp' : tmps[p]?.getD undef = .pointer (some ap) := by rw [← hp]; simp
  have hq' : tmps[q]?.getD undef = .pointer (some aq) := by rw [← hq]; simp
  simp only [results, h]
  simp [Sem.run_bind, asAddr, hp', hq', loadVar_cell up ip cp, loadVar_cell uq iq cq, -Option.getD_some]
theorem laySt_end_any (e f : Int) (l : List (List Int)) (k : Nat) : (laySt e l k).2 = (laySt f l k).2 := by
  induction k with
  | zero => rfl
  | succ k ih =>
    show (cutP (laySt e l k).2 ((l.getD k []).length : Int)).2.1 = (cutP (laySt f l k).2 ((l.getD k []).length : Int)).2.1
    rw [ih]
theorem layAt_any (e f : Int) (l : List (List Int)) (k : Nat) : layAt e l k = layAt f l k := by unfold layAt; rw [laySt_end_any e f]
theorem layOk_any (e f : Int) (l : List (List Int)) (k : Nat) : layOk e l k = layOk f l k := by unfold layOk; rw [laySt_end_any e f]
theorem layPl_any (e f : Int) (l : List (List Int)) (k : Nat) : layPl e l k = layPl f l k := by
  unfold layPl
  exact congrArg (fun g => (List.range k).map g) (funext (layAt_any e f l))
theorem layAll_any (e f : Int) (l : List (List Int)) : layAll e l = layAll f l := by
  unfold layAll
  exact congrArg (fun g => (List.range l.length).all g) (funext (layOk_any e f l))
set_option maxRecDepth 100000 in
set_option maxHeartbeats 8000000 in
theorem places_calls (l : List (List Int)) (A : Option Addr) (c : Nat) (w : World) (hl : ∀ x ∈ l, Bytes x) (hll : ∀ x ∈ l, x.length < 140737488355328) (hn : l.length ≤ 1000000)
    (hC : (Kd.slice 5 (Kd.int .u8)).C w A l.length l) (hH : Half w) :
    Calls Tryd.prog 48 #[.slice A l.length c] w fun e W => (layAll 0 l = true ∧ ∃ v, e = .returned (.tuple #[v, .bool true]) ∧ Own w F0 [.row v 3 1 l.length (nums .i64 (layPl 0 l l.length))] W) ∨
      (layAll 0 l = false ∧ e = .returned (.tuple #[.slice none 0 0, .bool false]) ∧ Below w.heap.size w W) := by
  obtain ⟨N, hN1, hN2, hN3⟩ := first_bad 0 l
  rw [bad_all hN1 hN2 hN3]
  have H := Own.start w
  refine (callsIn_wide (n := 9)).1 (callsIn_of_wp_marks Tryd.func48 rfl trivial ?_ rfl)
  simp only [Tryd.ntmps48, List.size_toArray, List.length_cons, List.length_nil, Nat.reduceAdd, Nat.reduceSub, Array.replicate_succ, Array.replicate_zero, List.push_toArray, List.append_toArray, List.nil_append, List.cons_append]
  refine wpIn_seq_k (fun K hK => ?_)
  refine wpIn_wide.2 ?_
  go_wp2_with (first
    | ((with_reducible refine gate_dst (N := 2) rfl ?_); refine l_alloc1 rfl H 71 rfl _ zero71 rfl ?_; clear H; intro g2 W H)
    | ((with_reducible refine gate_dst (N := 3) rfl ?_); refine l_alloc1 rfl H 4 rfl _ zero4 rfl ?_; clear H; intro g3 W H))
  refine wpIn_seq_k (fun K1 hK1 => ?_)
  refine wpIn_wide.2 ?_
  go_wp2_with (first
    | ((with_reducible refine gate_dst (N := 4) rfl ?_); refine l_alloc1 rfl H 71 rfl _ zero71 rfl ?_; clear H; intro g4 W H))
  refine wpIn_seq_k (fun K2 hK2 => ?_)
  refine wpIn_seq_k (fun K3 hK3 => ?_)
  refine wpIn_wide.2 ?_
  go_wp2_with (first
    | (go_at_call 68; (refine (image_each_own H 0 A l.length c).mono ?_); clear H; rintro e W ⟨ge, gl, rfl, H⟩))
  refine wpIn_block ?_
  obtain ⟨LST, hLST⟩ : ∃ LST : Nat → Value → List Res, LST = fun k v4 => [.blk g4 71 [v4], .row v4 3 1 k (nums .i64 (layPl 0 l k)), .blk g3 4 [.bool false], .blk g2 71 [.slice none 0 0]] := ⟨_, rfl⟩
  have H0 : Own w F0 (.blk gl 67 [.slice A l.length c] :: .blk ge 51 [.int .u64 0] :: LST 0 (.slice none 0 0)) W := by
    have H1 := (H.cons (r := .row (.slice none 0 0) 3 1 0 (nums .i64 (layPl 0 l 0))) (Below.refl _ _) (own_nil _ _ _ _) (fun k hk => by cases hk))
    rw [hLST]
    exact H1.perm ((List.Perm.swap _ _ _).trans (.cons _ ((List.Perm.swap _ _ _).trans (.cons _ (List.Perm.swap _ _ _)))))
  clear H
  obtain ⟨vsOf, hvs⟩ : ∃ vsOf : Bool → Nat → Value, vsOf = fun b g => if b = true then sl832 g else .slice none 0 0 := ⟨_, rfl⟩
  refine rf_gen (ι := List Res × Nat × Bool) (n := 8) rfl (Go.Proofs.enters_of Tryd.func79 (by kernel_rfl) rfl) rfl H0
    (fun i v L => i.2.1 < l.length ∧ ∃ vb gb v4, v = .agg #[.int .i64 (layAt 0 l i.2.1), .int .i64 vb, vsOf i.2.2 gb] ∧ L = i.1 ++ LST i.2.1 v4)
    (fun i v L => i.2.2 = true ∧ ∃ v4, L = i.1 ++ LST (i.2.1 + 1) v4)
    (fun i v a1 L => i.2.1 < l.length ∧ ∃ vb gb v4 g5, v = .agg #[.int .i64 (layAt 0 l i.2.1), .int .i64 vb, vsOf i.2.2 gb] ∧ a1 = { tmps := #[.slice A l.length c, undef, .pointer (some ⟨g2, 0, none⟩), .pointer (some ⟨g3, 0, none⟩), .pointer (some ⟨g4, 0, none⟩), .pointer (some ⟨g5, 0, none⟩), .slice A l.length c, .func (.func 79) #[] #[.pointer (some ⟨gl, 0, none⟩), .pointer (some ⟨ge, 0, none⟩)], .agg #[.int .i64 (layAt 0 l i.2.1), .int .i64 vb, vsOf i.2.2 gb], undef, undef, undef, undef, undef, undef, undef, undef, undef], defers := [] } ∧ L = .blk g5 101 [.int .i64 (layAt 0 l i.2.1), .int .i64 vb, vsOf i.2.2 gb] :: (LST i.2.1 v4 ++ i.1))
    (fun i v L => i.2.2 = false ∧ ∃ v4, L = LST i.2.1 v4 ++ i.1)
    (fun L => N = l.length ∧ ∃ gx gb a gq v4, L = EIt 0 l A c gl ge gx gb a (laySt 0 l N).2 (laySt 0 l N).1 (LST N v4) ∧ gq = gb) (fun L => N < l.length ∧ ∃ P v4, L = LST N v4 ++ P) ?hseq ?assign ?body ?done ?left
  case hseq =>
    intro F1 F2 lp W1 H1 hY
    have CN := Kd.C_below hC (Below.refl w.heap.size w)
    refine (each1_in 0 l A c 8 lp gl ge N (w0 := w) (F1 := F1) (by decide) hl hll hn hC hH hN2 hN1 hN3 (fun k gb L => ∃ v4, L = LST k v4) (fun W' => ∃ P v4, Own w F2 (LST N v4 ++ P) W') (fun gb => ⟨_, rfl⟩) ?_ ?_ H1).mono ?_
    · rintro k gx gb gb1 L W2 hk ⟨v4, rfl⟩ HX
      obtain ⟨fn, tmps, assign, body, hy, hR⟩ := hY (EIt 0 l A c gl ge gx gb1 (layAt 0 l k) (laySt 0 l (k + 1)).2 (laySt 0 l (k + 1)).1 [], k, true) (.agg #[.int .i64 (layAt 0 l k), .int .i64 (laySt 0 l (k + 1)).2, sl832 gb1]) _ W2 ⟨by show k < l.length; omega, (laySt 0 l (k + 1)).2, gb1, v4, by rw [hvs]; rfl, rfl⟩ HX
      refine ⟨fn, tmps, assign, body, hy, RoundIn.mono hR ?_⟩
      rintro e W3 (⟨rfl, L', ⟨-, v4', rfl⟩, HO⟩ | ⟨-, L', ⟨hF, -⟩, -⟩)
      · exact ⟨rfl, LST (k + 1) v4', ⟨v4', rfl⟩, HO⟩
      · cases hF
    · rintro hlt gx gb L W2 ⟨v4, rfl⟩ HX
      obtain ⟨fn, tmps, assign, body, hy, hR⟩ := hY ([.blk gx 101 [.int .i64 (layAt 0 l N), .int .i64 0, .slice none 0 0], .blk gl 67 [.slice A l.length c], .blk ge 51 [.int .u64 0]], N, false) (.agg #[.int .i64 (layAt 0 l N), .int .i64 0, .slice none 0 0]) _ W2 ⟨hlt, 0, 0, v4, by rw [hvs]; rfl, rfl⟩ HX
      refine ⟨fn, tmps, assign, body, hy, RoundIn.mono hR ?_⟩
      rintro e W3 (⟨rfl, L', ⟨hF, -⟩, -⟩ | ⟨rfl, L', ⟨-, v4', rfl⟩, HO⟩)
      · cases hF
      · exact ⟨⟨false, rfl⟩, _, v4', HO⟩
    · rintro e W3 ⟨hv, h⟩
      refine ⟨hv, ?_⟩
      rcases h with ⟨hN, gx, gb, a, L, ⟨v4, rfl⟩, HO⟩ | ⟨hN, P, v4, HO⟩
      · exact .inl ⟨_, ⟨hN, gx, gb, a, gb, v4, rfl, rfl⟩, HO⟩
      · exact .inr ⟨_, ⟨hN, P, v4, rfl⟩, HO⟩
  case assign =>
    rintro F1 lp ⟨P, k, b⟩ v L W ⟨hk, vb, gb, v4, rfl, rfl⟩ H1
    simp only at hk H1 ⊢
    refine regIn_lit rfl (fun ⟨_, _, h⟩ => h) ?_
    simp only [List.zip_toArray, List.zip_cons_cons, List.zip_nil_right, List.zip_nil_left, List.foldl_toArray, List.foldl_cons, List.foldl_nil, List.setIfInBounds_toArray, List.set_cons_zero, List.set_cons_succ]
    have H := H1.perm List.perm_append_comm
    clear H1
    obtain ⟨vs, hvv⟩ : ∃ vs, vsOf b gb = vs := ⟨_, rfl⟩
    have h1 : vs.oneCell' = true := by rw [← hvv, hvs]; cases b <;> rfl
    have hO : ∀ u ∈ [Value.int .i64 (layAt 0 l k), Value.int .i64 vb, vs], u.oneCell' = true := by intro u hu; simp at hu; rcases hu with rfl | rfl | rfl <;> first | rfl | exact h1
    rw [hvv]
    go_wp2_with (first
    | ((with_reducible refine gate_dst (N := 5) rfl ?_); refine l_allocA rfl H 101 rfl _ zero101 ?_; clear H; intro g5 W H)
    | ((with_reducible refine gate_store (t := 101) (p := 5) rfl ?_); refine l_storeW rfl H 101 _ _ rfl _ rfl _ rfl (by (repeat (first | exact In.head | apply In.tail))) _ size101 (by (first | rfl | assumption | omega | (simp only [nums_length]; omega) | (simp [nums_length, zs]; done) | (simp [nums_length, zs]; omega))) (by (first | rfl | assumption | omega | (simp only [nums_length]; omega) | (simp [nums_length, zs]; done) | (simp [nums_length, zs]; omega))) (by (first | exact nums_one | assumption | (intro u hu; simp at hu; subst hu; rfl) | (intro u hu; simp at hu; rcases hu with rfl | rfl | rfl | rfl | rfl | rfl | rfl <;> rfl) | (intro u hu; simp at hu; rcases hu with rfl | rfl | rfl | rfl <;> rfl) | (intro u hu; simp at hu; rcases hu with rfl | rfl | rfl <;> rfl) | (intro u hu; simp at hu; rcases hu with rfl | rfl <;> rfl))) ?_; clear H; intro W H))
    exact ⟨_, ⟨hk, vb, gb, v4, g5, by rw [hvv], by rw [hvv]; rfl, by rw [hvv]⟩, H⟩
  case body =>
    rintro F1 lp ⟨P, k, b⟩ v a1 L W ⟨hk, vb, gb, v4, g5, rfl, rfl, rfl⟩ H
    simp only at hk H ⊢
    refine wpIn_block ?_
    refine wpIn_seq_k (fun K5 hK5 => ?_)
    refine wpIn_seq_k (fun K6 hK6 => ?_)
    refine regIn_lit rfl (fun ⟨_, _, h⟩ => h) ?_
    have hl1 : vsOf true gb = sl832 gb := by rw [hvs]; rfl
    have hl0 : vsOf false gb = .slice none 0 0 := by rw [hvs]; rfl
    rw [hLST] at H ⊢
    simp only [List.cons_append, List.nil_append] at H
    cases b
    · rw [hl0] at H ⊢
      go_wp2_with (first
    | ((with_reducible refine gate_dst (N := 10) rfl ?_); refine l_load1 rfl H 23 _ rfl _ _ rfl (by (repeat (first | exact In.head | apply In.tail))) _ Tryd.underlying23 rfl _ (by first | rfl | assumption | exact nums_at _ (by omega)) ?_)
        | ((with_reducible refine gate_dst (N := 11) rfl ?_); refine l_run rfl (.bool true) (by go_simp; rw [run_eql_slice_nil _ 23 5 none 0 0 Tryd.underlying23]; rfl) ?_))
      refine wpIn_cond_true rfl ?_
      refine wpIn_seq_k (fun K7 hK7 => ?_)
      refine regIn_lit rfl (fun ⟨_, _, h⟩ => h) ?_
      go_wp2_with (first
    | ((with_reducible refine gate_store (t := 71) (p := 2) rfl ?_); refine l_store1 rfl H 71 _ _ rfl _ _ rfl _ (by first | (go_simp; done) | (go_simp; with_reducible rfl)) (by (repeat (first | exact In.head | apply In.tail))) rfl rfl size71 (by (first | rfl | assumption | omega | (simp only [nums_length]; omega) | (simp [nums_length, zs]; done) | (simp [nums_length, zs]; omega))) ?_; clear H; intro W H)
    | ((with_reducible refine gate_store (t := 4) (p := 3) rfl ?_); refine l_store1 rfl H 4 _ _ rfl _ _ rfl _ (by first | (go_simp; done) | (go_simp; with_reducible rfl)) (by (repeat (first | exact In.head | apply In.tail))) rfl rfl size4 (by (first | rfl | assumption | omega | (simp only [nums_length]; omega) | (simp [nums_length, zs]; done) | (simp [nums_length, zs]; omega))) ?_; clear H; intro W H))
      refine wpIn_ret ?_
      exact ⟨_, ⟨v4, rfl⟩, H.del .head⟩
    · rw [hl1] at H ⊢
      go_wp2_with (first
    | ((with_reducible refine gate_dst (N := 10) rfl ?_); refine l_load1 rfl H 23 _ rfl _ _ rfl (by (repeat (first | exact In.head | apply In.tail))) _ Tryd.underlying23 rfl _ (by first | rfl | assumption | exact nums_at _ (by omega)) ?_)
        | ((with_reducible refine gate_dst (N := 11) rfl ?_); refine l_run rfl (.bool false) (by go_simp; rw [run_eql_slice_nil _ 23 5 _ _ _ Tryd.underlying23]; rfl) ?_))
      refine wpIn_cond_false rfl ?_
      refine wpIn_skip (hK5 _ _ ?_)
      refine regIn_lit rfl (fun ⟨_, _, h⟩ => h) ?_
      have hbd : (k + 1) * 8 ≤ 140737488355328 := by omega
      have hpl : nums .i64 (layPl 0 l (k + 1)) = nums .i64 (layPl 0 l k) ++ [.int .i64 (layAt 0 l k)] := by rw [layPl_succ]; simp [nums]
      go_wp2_with (first
    | ((with_reducible refine gate_dst (N := 12) rfl ?_); refine l_load1 rfl H 71 _ rfl _ _ rfl (by (repeat (first | exact In.head | apply In.tail))) _ Tryd.underlying71 rfl _ (by first | rfl | assumption | exact nums_at _ (by omega)) ?_)
    | ((with_reducible refine gate_dst (N := 14) rfl ?_); refine l_load1 rfl H 3 _ rfl _ _ rfl (by (repeat (first | exact In.head | apply In.tail))) _ Tryd.underlying3 rfl _ (by first | rfl | assumption | exact nums_at _ (by omega)) ?_)
    | ((with_reducible refine gate_dst (N := 15) rfl ?_); refine l_build11 rfl H 71 3 _ rfl Tryd.underlying71 _ rfl _ zs3 rfl rfl ?_; clear H; intro g15 W H)
    | ((with_reducible refine gate_dst (N := 16) rfl ?_); refine l_append1 rfl H _ _ 71 3 rfl Tryd.underlying71 _ _ _ inf3 rfl (by decide) (by decide) _ _ _ rfl (by (repeat (first | exact In.head | apply In.tail))) _ _ rfl (by (repeat (first | exact In.head | apply In.tail))) (by (first | rfl | assumption | omega | (simp only [nums_length]; omega) | (simp [nums_length, zs]; done) | (simp [nums_length, zs]; omega))) (by (first | exact nums_one | assumption | (intro u hu; simp at hu; subst hu; rfl) | (intro u hu; simp at hu; rcases hu with rfl | rfl | rfl | rfl | rfl | rfl | rfl <;> rfl) | (intro u hu; simp at hu; rcases hu with rfl | rfl | rfl | rfl <;> rfl) | (intro u hu; simp at hu; rcases hu with rfl | rfl | rfl <;> rfl) | (intro u hu; simp at hu; rcases hu with rfl | rfl <;> rfl))) (by omega) ?_; clear H; intro v16 W H; obtain ⟨A16, c16, rfl⟩ := H.row_slice (.tail (.tail (.tail .head))))
    | ((with_reducible refine gate_store (t := 71) (p := 4) rfl ?_); refine l_store1 rfl H 71 _ _ rfl _ _ rfl _ (by first | (go_simp; done) | (go_simp; with_reducible rfl)) (by (repeat (first | exact In.head | apply In.tail))) rfl rfl size71 (by (first | rfl | assumption | omega | (simp only [nums_length]; omega) | (simp [nums_length, zs]; done) | (simp [nums_length, zs]; omega))) ?_; clear H; intro W H))
      exact ⟨_, ⟨_, rfl⟩, ((H.del .head).del .head).perm (List.perm_append_comm (l₁ := [_, _, _, _]) (l₂ := P))⟩
  case done =>
    rintro F1 D L W ⟨hN, gx, gb, a, gq, v4, rfl, -⟩ H hF hD
    refine hK2 _ _ ?_
    rw [hLST] at H
    unfold EIt at H
    obtain ⟨A4, c4, rfl⟩ := H.row_slice (.tail (.tail (.tail (.tail (.tail .head)))))
    refine wpIn_seq_k (fun K5 hK5 => ?_)
    refine wpIn_mono (Q := Exit.then K5 (fun _ _ _ => False)) ?_ (fun e a w h => by cases e <;> first | exact h | exact h.elim)
    refine wpIn_wide.2 ?_
    go_wp2_with (first
    | ((with_reducible refine gate_dst (N := 17) rfl ?_); refine l_load1 rfl H 71 _ rfl _ _ rfl (by (repeat (first | exact In.head | apply In.tail))) _ Tryd.underlying71 rfl _ (by first | rfl | assumption | exact nums_at _ (by omega)) ?_)
    | ((with_reducible refine gate_store (t := 71) (p := 2) rfl ?_); refine l_store1 rfl H 71 _ _ rfl _ _ rfl _ (by first | (go_simp; done) | (go_simp; with_reducible rfl)) (by (repeat (first | exact In.head | apply In.tail))) rfl rfl size71 (by (first | rfl | assumption | omega | (simp only [nums_length]; omega) | (simp [nums_length, zs]; done) | (simp [nums_length, zs]; omega))) ?_; clear H; intro W H)
    | ((with_reducible refine gate_store (t := 4) (p := 3) rfl ?_); refine l_store1 rfl H 4 _ _ rfl _ _ rfl _ (by first | (go_simp; done) | (go_simp; with_reducible rfl)) (by (repeat (first | exact In.head | apply In.tail))) rfl rfl size4 (by (first | rfl | assumption | omega | (simp only [nums_length]; omega) | (simp [nums_length, zs]; done) | (simp [nums_length, zs]; omega))) ?_; clear H; intro W H))
    gi_wp2
    refine ⟨by simp, .inl ⟨_, _, rfl, run_takeDeferred (H.holds D _ hF), ?_⟩⟩
    have H1 := H.putF D _ (.deferred none) hF hD
    have c1 := H1.cell (.tail (.tail (.tail (.tail (.tail (.tail (.tail .head))))))) 0
    have c2 := H1.cell (.tail (.tail (.tail (.tail (.tail (.tail .head)))))) 0
    refine ⟨_, results_cell2 rfl _ _ _ rfl rfl Tryd.underlying71 rfl Tryd.underlying4 rfl c1 c2, .inl ⟨decide_eq_true hN, _, rfl, ?_⟩⟩
    rw [← hN]
    have H2 := (((((((H1.del .head).del .head).del .head).del .head).del .head).del (.tail .head)).del (.tail .head))
    exact H2.slack (fun g o h => by cases h)
  case left =>
    rintro F1 D L W ⟨hN, P, v4, rfl⟩ H hF hD
    rw [hLST] at H
    gi_wp2
    refine ⟨by simp, .inl ⟨_, _, rfl, run_takeDeferred (H.holds D _ hF), ?_⟩⟩
    have H1 := H.putF D _ (.deferred none) hF hD
    have c1 := H1.cell (.tail (.tail (.tail .head))) 0
    have c2 := H1.cell (.tail (.tail .head)) 0
    refine ⟨_, results_cell2 rfl _ _ _ rfl rfl Tryd.underlying71 rfl Tryd.underlying4 rfl c1 c2, .inr ⟨by omega, rfl, H1.below⟩⟩
end Go.Proofs.YthhbilkmdfdfiaaDoor.O
end

section
/- strandlinelaw17's awake, by what is owned; a row of byte slices out of its cells. -/
set_option linter.unusedVariables false
set_option linter.unusedSimpArgs false
namespace Go.Proofs.YthhbilkmdfdfiaaDoor.O
open Go.RowKit Go.Proofs.YthhbilkmdfdfiaaDoorW.PrintWords Go.Proofs.YthhbilkmdfdfiaaDoorW.PrintLast Go.Proofs.YthhbilkmdfdfiaaDoorW.PrintMore Go.Proofs.YthhbilkmdfdfiaaDoor.F Go.Proofs.YthhbilkmdfdfiaaDoor.F.Nums Go.Proofs.YthhbilkmdfdfiaaDoor.Plain Go.Proofs.YthhbilkmdfdfiaaDoor.Img
theorem C_rows {w : World} {ad : Addr} (xs : List (List Int)) (hm : xs.length ≤ 9223372036854775807) (h : ∀ j, j < xs.length → ∃ A c, w.cell? (ad.add j) = some (.slice A (xs.getD j []).length c) ∧ (xs.getD j []).length ≤ c ∧ (Kd.int .u8).C w A (xs.getD j []).length (xs.getD j [])) :
    (Kd.slice 5 (Kd.int .u8)).C w (some ad) xs.length xs := by
  refine ⟨rfl, hm, fun _ => ⟨ad, rfl, fun j p hj => ?_⟩⟩
  have hlt := (List.getElem?_eq_some_iff.1 hj).1
  obtain ⟨A, c, h1, h2, h3⟩ := h j hlt
  have hp : xs.getD j [] = p := by rw [List.getD_eq_getElem?_getD, hj]; rfl
  rw [hp] at h1 h2 h3
  refine ⟨[.slice A p.length c], rfl, ⟨A, c, rfl, h2, h3⟩, fun i u hu => ?_⟩
  have hi : i = 0 := by have := (List.getElem?_eq_some_iff.1 hu).1; simpa using this
  subst hi
  simp at hu
  subst hu
  show w.cell? (ad.add (j * 1 + 0)) = _
  rw [Nat.mul_one, Nat.add_zero]
  exact h1
/-- what a call owns behind another one's end is owned with what was owned ahead of it -/
theorem Own.addK {w0 W W' : World} {F : Nat → Option Obj} {L L' : List Res} (H : Own w0 F L W) (K : Own W F0 L' W') : Own w0 F (L' ++ L) W' := by
  have H' := H.to K.below
  refine ⟨H'.below, H'.holds, ?_, ?_, ?_⟩
  · intro r hr
    rcases List.mem_append.1 hr with hr | hr
    · have h := K.ats r hr
      cases r with
      | blk g t c => exact ⟨Nat.le_trans H.size h.1, h.2⟩
      | row v e sz n xs => exact own_weaken h H.size
    · exact H'.ats r hr
  · intro r hr k hk
    rcases List.mem_append.1 hr with hr | hr
    · cases hF : F k with
      | none => rfl
      | some o =>
        have h1 := obj_lt (H.holds k o hF)
        have h2 := (K.ats r hr).base hk
        omega
    · exact H'.apart r hr k hk
  · rw [List.pairwise_append]
    refine ⟨K.sep, H.sep, fun x hx y hy k h1 h2 => ?_⟩
    have h3 := (K.ats x hx).base h1
    have h4 := (H.ats y hy).lt h2
    omega
theorem two_C {w0 W : World} {F : Nat → Option Obj} {L : List Res} {c1 c2 c3 : Res → List Res} {g1 g2 g3 : Nat} {t : TypeId} (H : Own w0 F L W) (h1 : In L (.blk g1 5 (nums .u8 (zs 10))) c1) (h2 : In L (.blk g2 5 (nums .u8 (zs 10))) c2)
    (h3 : In L (.blk g3 t [.slice (some ⟨g1, 0, none⟩) 10 10, .slice (some ⟨g2, 0, none⟩) 10 10]) c3) : (Kd.slice 5 (Kd.int .u8)).C W (some ⟨g3, 0, none⟩) 2 [zs 10, zs 10] := by
  refine C_rows [zs 10, zs 10] (by decide) (fun j hj => ?_)
  have hj2 : j = 0 ∨ j = 1 := by simp at hj; omega
  rcases hj2 with rfl | rfl
  · exact ⟨_, 10, by rw [addr_add]; exact H.cell h3 0, by decide, H.C h1 0 10 (by decide) (by decide)⟩
  · exact ⟨_, 10, by rw [addr_add]; exact H.cell h3 1, by decide, H.C h2 0 10 (by decide) (by decide)⟩
theorem lay_two : layAll 0 [zs 10, zs 10] = true ∧ layPl 0 [zs 10, zs 10] 2 = [0, 21] := by constructor <;> decide +kernel
set_option maxRecDepth 100000 in
set_option maxHeartbeats 4000000 in
theorem awake17_calls (w : World) (hH : Half w) : Calls Tryd.prog 42 #[] w fun e W => e = .returned (.bool true) ∧ Below w.heap.size w W := by
  have H := Own.start w
  have PC : ∀ (A : Option Addr) (c : Nat) (W : World), (Kd.slice 5 (Kd.int .u8)).C W A 2 [zs 10, zs 10] → Half W → Calls Tryd.prog 48 #[.slice A 2 c] W fun e W' => ∃ v, e = .returned (.tuple #[v, .bool true]) ∧ Own W F0 [.row v 3 1 2 (nums .i64 [0, 21])] W' := fun A c W hC h =>
    (places_calls [zs 10, zs 10] A c W (fun x hx => by simp at hx; subst hx; exact bytes_zs 10) (fun x hx => by simp at hx; subst hx; decide) (by decide) hC h).mono (by
      rintro e W' (⟨-, v, rfl, HO⟩ | ⟨h, -⟩)
      · exact ⟨v, rfl, by rw [← lay_two.2]; exact HO⟩
      · rw [lay_two.1] at h; cases h)
  go_enter Tryd.func42, Tryd.ntmps42
  go_wp2_with fail
  refine start_ (n := 9) (S := fun _ => True) (ds := []) #[false, false, false, false, false, false, false, false, false] (by kernel_rfl) rfl rfl trivial (fun hHeld => ?_)
  replace H := H.drew
  generalize World.drew _ = W at H hHeld ⊢
  refine two_ (i := 0) (j := 1) (Ni := some 4) (Nj := some 5) #[true, false, false, false, false, false, false, false, false] #[false, true, false, false, false, false, false, false, false] rfl rfl rfl rfl (by kernel_rfl) (by decide) (by decide) (fun K hK => ?_) (fun K hK => ?_)
  focus
    refine wanted_ rfl ?_
    refine w_make1 H 23 5 _ _ rfl _ rfl rfl Tryd.underlying23 _ rfl _ inf5 (by decide) (by decide) ?_
    clear H
    intro g4 W H
    refine hK.out _ _ ?_ (fun hHeld => ?_)
    · first | trivial | exact H | exact H.del .head | exact (H.del .head).del .head
    clear hK K
    refine norm_ (a' := ?_) ?_ ?_
    rotate_left
    · show Act.put _ (some 4) _ = _
      simp only [Act.put, List.setIfInBounds_toArray, List.set_cons_zero, List.set_cons_succ, i64_w, i32_w]
      rfl
    refine one_ (i := 1) (N := some 5) #[true, true, false, false, false, false, false, false, false] rfl rfl (by kernel_rfl) (by decide) (fun K hK => ?_)
    refine wanted_ rfl ?_
    refine w_make1 H 23 5 _ _ rfl _ rfl rfl Tryd.underlying23 _ rfl _ inf5 (by decide) (by decide) ?_
    clear H
    intro g5 W H
    refine hK.out _ _ ?_ (fun hHeld => ?_)
    · first | trivial | exact H | exact H.del .head | exact (H.del .head).del .head
    clear hK K
    refine norm_ (a' := ?_) ?_ ?_
    rotate_left
    · show Act.put _ (some 5) _ = _
      simp only [Act.put, List.setIfInBounds_toArray, List.set_cons_zero, List.set_cons_succ, i64_w, i32_w]
      rfl
  rotate_left 1
  focus
    refine wanted_ rfl ?_
    refine w_make1 H 23 5 _ _ rfl _ rfl rfl Tryd.underlying23 _ rfl _ inf5 (by decide) (by decide) ?_
    clear H
    intro g5 W H
    refine hK.out _ _ ?_ (fun hHeld => ?_)
    · first | trivial | exact H | exact H.del .head | exact (H.del .head).del .head
    clear hK K
    refine norm_ (a' := ?_) ?_ ?_
    rotate_left
    · show Act.put _ (some 5) _ = _
      simp only [Act.put, List.setIfInBounds_toArray, List.set_cons_zero, List.set_cons_succ, i64_w, i32_w]
      rfl
    refine one_ (i := 0) (N := some 4) #[true, true, false, false, false, false, false, false, false] rfl rfl (by kernel_rfl) (by decide) (fun K hK => ?_)
    refine wanted_ rfl ?_
    refine w_make1 H 23 5 _ _ rfl _ rfl rfl Tryd.underlying23 _ rfl _ inf5 (by decide) (by decide) ?_
    clear H
    intro g4 W H
    refine hK.out _ _ ?_ (fun hHeld => ?_)
    · first | trivial | exact H | exact H.del .head | exact (H.del .head).del .head
    clear hK K
    refine norm_ (a' := ?_) ?_ ?_
    rotate_left
    · show Act.put _ (some 4) _ = _
      simp only [Act.put, List.setIfInBounds_toArray, List.set_cons_zero, List.set_cons_succ, i64_w, i32_w]
      rfl
  rotate_left 1
  all_goals
    refine one_ (i := 2) (N := some 6) #[true, true, true, false, false, false, false, false, false] rfl rfl (by kernel_rfl) (by decide) (fun K hK => ?_)
    refine w_buildN H _ 23 2 _ rfl Tryd.underlying67 (.slice none 0 0) 1 (by kernel_rfl) (by decide) (by decide) (by decide) [.slice (some ⟨g4, 0, none⟩) 10 10, .slice (some ⟨g5, 0, none⟩) 10 10] rfl rfl (by intro v hv; simp at hv; rcases hv with rfl | rfl <;> rfl) [.slice (some ⟨g4, 0, none⟩) 10 10, .slice (some ⟨g5, 0, none⟩) 10 10] rfl ?_
    clear H
    intro g6 W H
    have hC2 : (Kd.slice 5 (Kd.int .u8)).C W (some ⟨g6, 0, none⟩) 2 [zs 10, zs 10] := two_C H (by (repeat (first | exact In.head | apply In.tail))) (by (repeat (first | exact In.head | apply In.tail))) .head
    refine hK.out _ _ ?_ (fun hHeld => ?_)
    · first | trivial | exact H | exact H.del .head | exact (H.del .head).del .head
    clear hK K
    refine norm_ (a' := ?_) ?_ ?_
    rotate_left
    · show Act.put _ (some 6) _ = _
      simp only [Act.put, List.setIfInBounds_toArray, List.set_cons_zero, List.set_cons_succ, i64_w, i32_w]
      rfl
    refine one_ (i := 3) (N := some 7) #[true, true, true, true, false, false, false, false, false] rfl rfl (by kernel_rfl) (by decide) (fun K hK => ?_)
    refine callK_ (PC _ _ W hC2 (hH.below H.below)) Tryd.func48 (by kernel_rfl) rfl (by rfl) rfl rfl (by (try simp only [List.map_toArray, List.map_cons, List.map_nil]); first | done | rfl) ?_
    rintro e W ⟨v7, rfl, HO⟩
    refine ⟨_, rfl, ?_⟩
    replace H := H.addK HO
    clear HO
    dsimp only [List.cons_append, List.nil_append] at H
    obtain ⟨A7, c7, rfl⟩ := H.row_slice .head
    refine hK.out _ _ ?_ (fun hHeld => ?_)
    · first | trivial | exact H | exact H.del .head | exact (H.del .head).del .head
    clear hK K
    refine norm_ (a' := ?_) ?_ ?_
    rotate_left
    · show Act.put _ (some 7) _ = _
      simp only [Act.put, List.setIfInBounds_toArray, List.set_cons_zero, List.set_cons_succ, i64_w, i32_w]
      rfl
    refine pure_ (i := 4) (N := some 3) (v := ?_) (a' := ?_) #[true, true, true, true, true, false, false, false, false] rfl rfl (by kernel_rfl) (fun _ _ _ h => h) (Or.inl ⟨by rfl, ?_⟩) ?_ ?_
    rotate_left
    · intro w'
      go_simp
      with_reducible rfl
    rotate_left
    · simp only [Act.put, List.setIfInBounds_toArray, List.set_cons_zero, List.set_cons_succ, i64_w, i32_w]
      rfl
    refine pure_ (i := 5) (N := some 8) (v := ?_) (a' := ?_) #[true, true, true, true, true, true, false, false, false] rfl rfl (by kernel_rfl) (fun _ _ _ h => h) (Or.inl ⟨by rfl, ?_⟩) ?_ ?_
    rotate_left
    · intro w'
      go_simp
      with_reducible rfl
    rotate_left
    · simp only [Act.put, List.setIfInBounds_toArray, List.set_cons_zero, List.set_cons_succ, i64_w, i32_w]
      rfl
    refine pure_ (i := 6) (N := some 9) (v := ?_) (a' := ?_) #[true, true, true, true, true, true, true, false, false] rfl rfl (by kernel_rfl) (fun _ _ _ h => h) (Or.inl ⟨by rfl, ?_⟩) ?_ ?_
    rotate_left
    · intro w'
      go_simp
      with_reducible rfl
    rotate_left
    · simp only [Act.put, List.setIfInBounds_toArray, List.set_cons_zero, List.set_cons_succ, i64_w, i32_w]
      rfl
    refine pure_ (i := 7) (N := some 1) (v := ?_) (a' := ?_) #[true, true, true, true, true, true, true, true, false] rfl rfl (by kernel_rfl) (fun _ _ _ h => h) (Or.inl ⟨by rfl, ?_⟩) ?_ ?_
    rotate_left
    · intro w'
      go_simp
      with_reducible rfl
    rotate_left
    · simp only [Act.put, List.setIfInBounds_toArray, List.set_cons_zero, List.set_cons_succ, i64_w, i32_w]
      rfl
    refine pure_ (i := 8) (N := some 2) (v := ?_) (a' := ?_) #[true, true, true, true, true, true, true, true, true] rfl rfl (by kernel_rfl) (fun _ _ _ h => h) (Or.inl ⟨by rfl, ?_⟩) ?_ ?_
    rotate_left
    · intro w'
      go_simp
      with_reducible rfl
    rotate_left
    · simp only [Act.put, List.setIfInBounds_toArray, List.set_cons_zero, List.set_cons_succ, i64_w, i32_w]
      rfl
    refine done_ (by kernel_rfl) ?_
    clear hHeld
  all_goals
    obtain ⟨g7, cap7, cur, e7, hn7, hm7, hl7, ht7, H2⟩ := H.row_blk .head (by decide)
    clear H
    have H := H2
    clear H2
    injection e7 with e7 _ e8
    subst e7 e8
    have c1 : cur[1]? = some (.int .i64 21) := by
      have := congrArg (fun l => l[1]?) ht7
      simpa [nums] using this
    go_wp2_with (first
    | ((with_reducible refine gate_dst (N := 19) rfl ?_); refine gate_guard (by rfl) ?_; refine l_load1 rfl H 3 _ rfl _ _ rfl (by (repeat (first | exact In.head | apply In.tail))) _ Tryd.underlying3 rfl _ (by first | rfl | assumption | exact nums_at _ (by omega)) ?_))
    go_ret
    exact ⟨rfl, H.below⟩
end Go.Proofs.YthhbilkmdfdfiaaDoor.O
end

section
/- strandlinelaw17.ImageAdds: the statement's function. -/
set_option linter.unusedVariables false
set_option linter.unusedSimpArgs false
namespace Go.Proofs.YthhbilkmdfdfiaaDoor.O
open Go.RowKit Go.Proofs.YthhbilkmdfdfiaaDoorW.PrintWords Go.Proofs.YthhbilkmdfdfiaaDoorW.PrintLast Go.Proofs.YthhbilkmdfdfiaaDoorW.PrintMore Go.Proofs.YthhbilkmdfdfiaaDoor.F Go.Proofs.YthhbilkmdfdfiaaDoor.F.Nums Go.Proofs.YthhbilkmdfdfiaaDoor.Plain Go.Proofs.YthhbilkmdfdfiaaDoor.Img
theorem C_none {w : World} {k : IntKind} : (Kd.int k).C w none 0 [] := ⟨rfl, by decide, fun h => absurd h (by decide)⟩
set_option maxRecDepth 100000 in
set_option maxHeartbeats 8000000 in
theorem imageAdds_law (body data : List Int) (A B : Option Addr) (cA cB : Nat) (e64 at_ : Int) (w : World) (he : 0 ≤ e64 ∧ e64 ≤ 18446744073709551615) (hCb : (Kd.int .u8).C w A body.length body) (hcb : body.length ≤ cA) (hbb : Bytes body)
    (hCd : (Kd.int .u8).C w B data.length data) (hcd : data.length ≤ cB) (hbd : Bytes data) (hH : Half w) :
    Calls Tryd.prog 12 #[.agg #[.slice A body.length cA, .slice B data.length cB], .int .u64 e64, .int .i64 at_] w fun e W => e = .returned (.bool true) ∧ Below w.heap.size w W := by
  have H := Own.start w
  have AW := awake17_calls
  have three : decide ((body.length : Int) > 2000) = true ∨ (decide ((body.length : Int) > 2000) = false ∧ decide ((data.length : Int) > 2000) = true) ∨ (decide ((body.length : Int) > 2000) = false ∧ decide ((data.length : Int) > 2000) = false) := by
    cases decide ((body.length : Int) > 2000) <;> cases decide ((data.length : Int) > 2000) <;> simp
  rcases three with q1 | ⟨q1, q2⟩ | ⟨q1, q2⟩
  · clear hCb hcb hbb hCd hcd hbd
    generalize body.length = na at *
    generalize data.length = nb at *
    go_enter Tryd.func12, Tryd.ntmps12
    go_wp2_with (first
    | ((with_reducible refine gate_dst (N := 3) rfl ?_); refine l_boxA rfl H 32 _ rfl _ rfl ?_; clear H; intro g3 W H))
    refine start_ (n := 6) (S := Own _ _ _) (ds := []) #[false, false, false, false, false, false] (by kernel_rfl) rfl rfl H.drew (fun hHeld => ?_)
    replace H := H.drew
    generalize World.drew _ = W at H hHeld ⊢
    refine pure_ (i := 0) (N := some 16) (v := ?_) (a' := ?_) #[true, false, false, false, false, false] rfl rfl (by kernel_rfl) (fun _ _ _ h => h) (Or.inl ⟨by rfl, ?_⟩) ?_ ?_
    rotate_left
    · intro w'
      go_simp
      with_reducible rfl
    rotate_left
    · simp only [Act.put, List.setIfInBounds_toArray, List.set_cons_zero, List.set_cons_succ, i64_w, i32_w]
      rfl
    refine pure_ (i := 2) (N := some 18) (v := ?_) (a' := ?_) #[true, false, true, false, false, false] rfl rfl (by kernel_rfl) (fun _ _ _ h => h) (Or.inl ⟨by rfl, ?_⟩) ?_ ?_
    rotate_left
    · intro w'
      go_simp
      with_reducible rfl
    rotate_left
    · simp only [Act.put, List.setIfInBounds_toArray, List.set_cons_zero, List.set_cons_succ, i64_w, i32_w]
      rfl
    refine take_load1 (i := 1) (N := some 17) (a' := ?_) #[true, true, true, false, false, false] rfl rfl (by kernel_rfl) (fun _ _ _ _ h => h) (by rfl) hHeld 23 _ rfl _ _ rfl (by (repeat (first | exact In.head | apply In.tail))) _ Tryd.underlying23 rfl _ (by first | rfl | assumption | exact nums_at _ (by omega)) ?_ ?_
    rotate_left
    · simp only [Act.put, List.setIfInBounds_toArray, List.set_cons_zero, List.set_cons_succ, i64_w, i32_w]
      rfl
    refine pure_ (i := 4) (N := some 7) (v := ?_) (a' := ?_) #[true, true, true, false, true, false] rfl rfl (by kernel_rfl) (fun _ _ _ h => h) (Or.inl ⟨by rfl, ?_⟩) ?_ ?_
    rotate_left
    · intro w'
      go_simp
      with_reducible rfl
    rotate_left
    · simp only [Act.put, List.setIfInBounds_toArray, List.set_cons_zero, List.set_cons_succ, i64_w, i32_w]
      rfl
    refine one_ (i := 3) (N := some 19) #[true, true, true, true, true, false] rfl rfl (by kernel_rfl) (by decide) (fun K hK => ?_)
    refine wanted_ rfl ?_
    refine w_load1 H 23 _ rfl _ _ rfl (by (repeat (first | exact In.head | apply In.tail))) _ Tryd.underlying23 rfl _ (by first | rfl | assumption | exact nums_at _ (by omega)) ?_
    refine hK.out _ _ ?_ (fun hHeld => ?_)
    · first | trivial | exact H | exact H.del .head | exact (H.del .head).del .head
    clear hK K
    refine norm_ (a' := ?_) ?_ ?_
    rotate_left
    · show Act.put _ (some 19) _ = _
      simp only [Act.put, List.setIfInBounds_toArray, List.set_cons_zero, List.set_cons_succ, i64_w, i32_w]
      rfl
    refine pure_ (i := 5) (N := some 8) (v := ?_) (a' := ?_) #[true, true, true, true, true, true] rfl rfl (by kernel_rfl) (fun _ _ _ h => h) (Or.inl ⟨by rfl, ?_⟩) ?_ ?_
    rotate_left
    · intro w'
      go_simp
      with_reducible rfl
    rotate_left
    · simp only [Act.put, List.setIfInBounds_toArray, List.set_cons_zero, List.set_cons_succ, i64_w, i32_w]
      rfl
    refine done_ (by kernel_rfl) ?_
    clear hHeld
    go_wp2_with (first
    | (go_at_call 42; (with_reducible refine (AW _ (hH.below H.below)).mono ?_); rintro e W ⟨rfl, hb⟩; replace H := H.to hb; clear hb))
    go_ret
    exact ⟨rfl, H.below⟩
  · clear hCb hcb hbb hCd hcd hbd
    generalize body.length = na at *
    generalize data.length = nb at *
    go_enter Tryd.func12, Tryd.ntmps12
    go_wp2_with (first
    | ((with_reducible refine gate_dst (N := 3) rfl ?_); refine l_boxA rfl H 32 _ rfl _ rfl ?_; clear H; intro g3 W H))
    refine start_ (n := 6) (S := Own _ _ _) (ds := []) #[false, false, false, false, false, false] (by kernel_rfl) rfl rfl H.drew (fun hHeld => ?_)
    replace H := H.drew
    generalize World.drew _ = W at H hHeld ⊢
    refine pure_ (i := 0) (N := some 16) (v := ?_) (a' := ?_) #[true, false, false, false, false, false] rfl rfl (by kernel_rfl) (fun _ _ _ h => h) (Or.inl ⟨by rfl, ?_⟩) ?_ ?_
    rotate_left
    · intro w'
      go_simp
      with_reducible rfl
    rotate_left
    · simp only [Act.put, List.setIfInBounds_toArray, List.set_cons_zero, List.set_cons_succ, i64_w, i32_w]
      rfl
    refine pure_ (i := 2) (N := some 18) (v := ?_) (a' := ?_) #[true, false, true, false, false, false] rfl rfl (by kernel_rfl) (fun _ _ _ h => h) (Or.inl ⟨by rfl, ?_⟩) ?_ ?_
    rotate_left
    · intro w'
      go_simp
      with_reducible rfl
    rotate_left
    · simp only [Act.put, List.setIfInBounds_toArray, List.set_cons_zero, List.set_cons_succ, i64_w, i32_w]
      rfl
    refine take_load1 (i := 1) (N := some 17) (a' := ?_) #[true, true, true, false, false, false] rfl rfl (by kernel_rfl) (fun _ _ _ _ h => h) (by rfl) hHeld 23 _ rfl _ _ rfl (by (repeat (first | exact In.head | apply In.tail))) _ Tryd.underlying23 rfl _ (by first | rfl | assumption | exact nums_at _ (by omega)) ?_ ?_
    rotate_left
    · simp only [Act.put, List.setIfInBounds_toArray, List.set_cons_zero, List.set_cons_succ, i64_w, i32_w]
      rfl
    refine pure_ (i := 4) (N := some 7) (v := ?_) (a' := ?_) #[true, true, true, false, true, false] rfl rfl (by kernel_rfl) (fun _ _ _ h => h) (Or.inl ⟨by rfl, ?_⟩) ?_ ?_
    rotate_left
    · intro w'
      go_simp
      with_reducible rfl
    rotate_left
    · simp only [Act.put, List.setIfInBounds_toArray, List.set_cons_zero, List.set_cons_succ, i64_w, i32_w]
      rfl
    refine one_ (i := 3) (N := some 19) #[true, true, true, true, true, false] rfl rfl (by kernel_rfl) (by decide) (fun K hK => ?_)
    refine wanted_ rfl ?_
    refine w_load1 H 23 _ rfl _ _ rfl (by (repeat (first | exact In.head | apply In.tail))) _ Tryd.underlying23 rfl _ (by first | rfl | assumption | exact nums_at _ (by omega)) ?_
    refine hK.out _ _ ?_ (fun hHeld => ?_)
    · first | trivial | exact H | exact H.del .head | exact (H.del .head).del .head
    clear hK K
    refine norm_ (a' := ?_) ?_ ?_
    rotate_left
    · show Act.put _ (some 19) _ = _
      simp only [Act.put, List.setIfInBounds_toArray, List.set_cons_zero, List.set_cons_succ, i64_w, i32_w]
      rfl
    refine pure_ (i := 5) (N := some 8) (v := ?_) (a' := ?_) #[true, true, true, true, true, true] rfl rfl (by kernel_rfl) (fun _ _ _ h => h) (Or.inl ⟨by rfl, ?_⟩) ?_ ?_
    rotate_left
    · intro w'
      go_simp
      with_reducible rfl
    rotate_left
    · simp only [Act.put, List.setIfInBounds_toArray, List.set_cons_zero, List.set_cons_succ, i64_w, i32_w]
      rfl
    refine done_ (by kernel_rfl) ?_
    clear hHeld
    go_wp2_with (first
    | (go_at_call 42; (with_reducible refine (AW _ (hH.below H.below)).mono ?_); rintro e W ⟨rfl, hb⟩; replace H := H.to hb; clear hb))
    go_ret
    exact ⟨rfl, H.below⟩
  · have n1 : body.length ≤ 2000 := by have := of_decide_eq_false q1; omega
    have n2 : data.length ≤ 2000 := by have := of_decide_eq_false q2; omega
    have hR := radd_eq 6000 (by omega) e64 body at_ data he.1 hbd (by omega) (by omega)
    unfold addR at hR
    have hol := addB_len e64 body at_ data
    cases hok : (cutP at_ (data.length : Int)).2.2 with
    | false =>
      rw [hok, if_neg (by decide)] at hR
      have AN := fun W => add_no e64 body data A B cA cB at_ W hok
      have RA := fun W h1 h3 => strandlineref17_Add.calls 6000 e64 A cA body at_ B cB data [] 0 false W h1 hcb h3 hcd hR
      clear hR hol hok
      generalize body.length = na at *
      generalize data.length = nb at *
      go_enter Tryd.func12, Tryd.ntmps12
      go_wp2_with (first
    | ((with_reducible refine gate_dst (N := 3) rfl ?_); refine l_boxA rfl H 32 _ rfl _ rfl ?_; clear H; intro g3 W H))
      refine start_ (n := 6) (S := Own _ _ _) (ds := []) #[false, false, false, false, false, false] (by kernel_rfl) rfl rfl H.drew (fun hHeld => ?_)
      replace H := H.drew
      generalize World.drew _ = W at H hHeld ⊢
      refine pure_ (i := 0) (N := some 16) (v := ?_) (a' := ?_) #[true, false, false, false, false, false] rfl rfl (by kernel_rfl) (fun _ _ _ h => h) (Or.inl ⟨by rfl, ?_⟩) ?_ ?_
      rotate_left
      · intro w'
        go_simp
        with_reducible rfl
      rotate_left
      · simp only [Act.put, List.setIfInBounds_toArray, List.set_cons_zero, List.set_cons_succ, i64_w, i32_w]
        rfl
      refine pure_ (i := 2) (N := some 18) (v := ?_) (a' := ?_) #[true, false, true, false, false, false] rfl rfl (by kernel_rfl) (fun _ _ _ h => h) (Or.inl ⟨by rfl, ?_⟩) ?_ ?_
      rotate_left
      · intro w'
        go_simp
        with_reducible rfl
      rotate_left
      · simp only [Act.put, List.setIfInBounds_toArray, List.set_cons_zero, List.set_cons_succ, i64_w, i32_w]
        rfl
      refine take_load1 (i := 1) (N := some 17) (a' := ?_) #[true, true, true, false, false, false] rfl rfl (by kernel_rfl) (fun _ _ _ _ h => h) (by rfl) hHeld 23 _ rfl _ _ rfl (by (repeat (first | exact In.head | apply In.tail))) _ Tryd.underlying23 rfl _ (by first | rfl | assumption | exact nums_at _ (by omega)) ?_ ?_
      rotate_left
      · simp only [Act.put, List.setIfInBounds_toArray, List.set_cons_zero, List.set_cons_succ, i64_w, i32_w]
        rfl
      refine pure_ (i := 4) (N := some 7) (v := ?_) (a' := ?_) #[true, true, true, false, true, false] rfl rfl (by kernel_rfl) (fun _ _ _ h => h) (Or.inl ⟨by rfl, ?_⟩) ?_ ?_
      rotate_left
      · intro w'
        go_simp
        with_reducible rfl
      rotate_left
      · simp only [Act.put, List.setIfInBounds_toArray, List.set_cons_zero, List.set_cons_succ, i64_w, i32_w]
        rfl
      refine one_ (i := 3) (N := some 19) #[true, true, true, true, true, false] rfl rfl (by kernel_rfl) (by decide) (fun K hK => ?_)
      refine wanted_ rfl ?_
      refine w_load1 H 23 _ rfl _ _ rfl (by (repeat (first | exact In.head | apply In.tail))) _ Tryd.underlying23 rfl _ (by first | rfl | assumption | exact nums_at _ (by omega)) ?_
      refine hK.out _ _ ?_ (fun hHeld => ?_)
      · first | trivial | exact H | exact H.del .head | exact (H.del .head).del .head
      clear hK K
      refine norm_ (a' := ?_) ?_ ?_
      rotate_left
      · show Act.put _ (some 19) _ = _
        simp only [Act.put, List.setIfInBounds_toArray, List.set_cons_zero, List.set_cons_succ, i64_w, i32_w]
        rfl
      refine pure_ (i := 5) (N := some 8) (v := ?_) (a' := ?_) #[true, true, true, true, true, true] rfl rfl (by kernel_rfl) (fun _ _ _ h => h) (Or.inl ⟨by rfl, ?_⟩) ?_ ?_
      rotate_left
      · intro w'
        go_simp
        with_reducible rfl
      rotate_left
      · simp only [Act.put, List.setIfInBounds_toArray, List.set_cons_zero, List.set_cons_succ, i64_w, i32_w]
        rfl
      refine done_ (by kernel_rfl) ?_
      clear hHeld
      go_wp2_with (first
    | ((with_reducible refine gate_dst (N := 52) rfl ?_); refine l_strR rfl H 23 9 5 _ rfl _ rfl (by (repeat (first | exact In.head | apply In.tail))) Tryd.underlying23 Tryd.underlying5 Tryd.underlying9 ?_)
      | ((with_reducible refine gate_dst (N := 30) rfl ?_); refine l_strC rfl 23 9 5 _ rfl rfl (Kd.C_below hCb H.below) Tryd.underlying23 Tryd.underlying5 Tryd.underlying9 ?_)
      | ((with_reducible refine gate_dst (N := 50) rfl ?_); refine l_strC rfl 23 9 5 _ rfl rfl C_none Tryd.underlying23 Tryd.underlying5 Tryd.underlying9 ?_)
      | ((with_reducible refine gate_dst (N := 66) rfl ?_); refine gate_guard (by rfl) ?_; refine l_strC rfl 23 9 5 _ rfl rfl (Kd.C_below hCb H.below) Tryd.underlying23 Tryd.underlying5 Tryd.underlying9 ?_)
      | (go_at_call 43; (with_reducible refine (AN _).mono ?_); rintro e W ⟨rfl, hb⟩; replace H := H.to hb; clear hb)
      | (go_at_call 44; (with_reducible refine (RA _ (Kd.C_below hCb H.below) (Kd.C_below hCd H.below)).mono ?_); rintro e W ⟨v13, rfl, hR, hb⟩; replace H := H.addR hb hR; clear hb hR; obtain ⟨A13, c13, rfl⟩ := H.row_slice .head)
      | (go_at_call 42; (with_reducible refine (AW _ (hH.below H.below)).mono ?_); rintro e W ⟨rfl, hb⟩; replace H := H.to hb; clear hb))
      go_ret
      exact ⟨rfl, H.below⟩
    | true =>
      rw [hok, if_pos rfl] at hR
      have AN := fun W h1 h2 h3 => add_ok e64 body data A B cA cB at_ W hok h1 hcb hbb h2 hcd hbd (by omega) h3
      have RA := fun W h1 h3 => strandlineref17_Add.calls 6000 e64 A cA body at_ B cB data _ _ _ W h1 hcb h3 hcd hR
      clear hR hok
      generalize addB e64 body at_ data = out at *
      generalize (cutP at_ (data.length : Int)).2.1 = en at *
      generalize body.length = na at *
      generalize data.length = nb at *
      go_enter Tryd.func12, Tryd.ntmps12
      go_wp2_with (first
    | ((with_reducible refine gate_dst (N := 3) rfl ?_); refine l_boxA rfl H 32 _ rfl _ rfl ?_; clear H; intro g3 W H))
      refine start_ (n := 6) (S := Own _ _ _) (ds := []) #[false, false, false, false, false, false] (by kernel_rfl) rfl rfl H.drew (fun hHeld => ?_)
      replace H := H.drew
      generalize World.drew _ = W at H hHeld ⊢
      refine pure_ (i := 0) (N := some 16) (v := ?_) (a' := ?_) #[true, false, false, false, false, false] rfl rfl (by kernel_rfl) (fun _ _ _ h => h) (Or.inl ⟨by rfl, ?_⟩) ?_ ?_
      rotate_left
      · intro w'
        go_simp
        with_reducible rfl
      rotate_left
      · simp only [Act.put, List.setIfInBounds_toArray, List.set_cons_zero, List.set_cons_succ, i64_w, i32_w]
        rfl
      refine pure_ (i := 2) (N := some 18) (v := ?_) (a' := ?_) #[true, false, true, false, false, false] rfl rfl (by kernel_rfl) (fun _ _ _ h => h) (Or.inl ⟨by rfl, ?_⟩) ?_ ?_
      rotate_left
      · intro w'
        go_simp
        with_reducible rfl
      rotate_left
      · simp only [Act.put, List.setIfInBounds_toArray, List.set_cons_zero, List.set_cons_succ, i64_w, i32_w]
        rfl
      refine take_load1 (i := 1) (N := some 17) (a' := ?_) #[true, true, true, false, false, false] rfl rfl (by kernel_rfl) (fun _ _ _ _ h => h) (by rfl) hHeld 23 _ rfl _ _ rfl (by (repeat (first | exact In.head | apply In.tail))) _ Tryd.underlying23 rfl _ (by first | rfl | assumption | exact nums_at _ (by omega)) ?_ ?_
      rotate_left
      · simp only [Act.put, List.setIfInBounds_toArray, List.set_cons_zero, List.set_cons_succ, i64_w, i32_w]
        rfl
      refine pure_ (i := 4) (N := some 7) (v := ?_) (a' := ?_) #[true, true, true, false, true, false] rfl rfl (by kernel_rfl) (fun _ _ _ h => h) (Or.inl ⟨by rfl, ?_⟩) ?_ ?_
      rotate_left
      · intro w'
        go_simp
        with_reducible rfl
      rotate_left
      · simp only [Act.put, List.setIfInBounds_toArray, List.set_cons_zero, List.set_cons_succ, i64_w, i32_w]
        rfl
      refine one_ (i := 3) (N := some 19) #[true, true, true, true, true, false] rfl rfl (by kernel_rfl) (by decide) (fun K hK => ?_)
      refine wanted_ rfl ?_
      refine w_load1 H 23 _ rfl _ _ rfl (by (repeat (first | exact In.head | apply In.tail))) _ Tryd.underlying23 rfl _ (by first | rfl | assumption | exact nums_at _ (by omega)) ?_
      refine hK.out _ _ ?_ (fun hHeld => ?_)
      · first | trivial | exact H | exact H.del .head | exact (H.del .head).del .head
      clear hK K
      refine norm_ (a' := ?_) ?_ ?_
      rotate_left
      · show Act.put _ (some 19) _ = _
        simp only [Act.put, List.setIfInBounds_toArray, List.set_cons_zero, List.set_cons_succ, i64_w, i32_w]
        rfl
      refine pure_ (i := 5) (N := some 8) (v := ?_) (a' := ?_) #[true, true, true, true, true, true] rfl rfl (by kernel_rfl) (fun _ _ _ h => h) (Or.inl ⟨by rfl, ?_⟩) ?_ ?_
      rotate_left
      · intro w'
        go_simp
        with_reducible rfl
      rotate_left
      · simp only [Act.put, List.setIfInBounds_toArray, List.set_cons_zero, List.set_cons_succ, i64_w, i32_w]
        rfl
      refine done_ (by kernel_rfl) ?_
      clear hHeld
      go_wp2_with (first
    | ((with_reducible refine gate_dst (N := 52) rfl ?_); refine l_strR rfl H 23 9 5 _ rfl _ rfl (by (repeat (first | exact In.head | apply In.tail))) Tryd.underlying23 Tryd.underlying5 Tryd.underlying9 ?_)
      | ((with_reducible refine gate_dst (N := 30) rfl ?_); refine l_strC rfl 23 9 5 _ rfl rfl (Kd.C_below hCb H.below) Tryd.underlying23 Tryd.underlying5 Tryd.underlying9 ?_)
      | ((with_reducible refine gate_dst (N := 50) rfl ?_); refine l_strC rfl 23 9 5 _ rfl rfl (by have q := H.C (.tail .head) 0 832 (by omega) (by omega); rw [List.drop_zero, List.take_of_length_le (by omega)] at q; exact q) Tryd.underlying23 Tryd.underlying5 Tryd.underlying9 ?_)
      | ((with_reducible refine gate_dst (N := 66) rfl ?_); refine gate_guard (by rfl) ?_; refine l_strC rfl 23 9 5 _ rfl rfl (Kd.C_below hCb H.below) Tryd.underlying23 Tryd.underlying5 Tryd.underlying9 ?_)
      | (go_at_call 43; (with_reducible refine (AN _ (Kd.C_below hCb H.below) (Kd.C_below hCd H.below) (hH.below H.below)).mono ?_); rintro e W ⟨g10, rfl, HO⟩; replace H := H.addK HO; clear HO; dsimp only [List.cons_append, List.nil_append] at H)
      | (go_at_call 44; (with_reducible refine (RA _ (Kd.C_below hCb H.below) (Kd.C_below hCd H.below)).mono ?_); rintro e W ⟨v13, rfl, hR, hb⟩; replace H := H.addR hb hR; clear hb hR; rw [hol] at H; obtain ⟨A13, c13, rfl⟩ := H.row_slice .head)
      | (go_at_call 42; (with_reducible refine (AW _ (hH.below H.below)).mono ?_); rintro e W ⟨rfl, hb⟩; replace H := H.to hb; clear hb))
      go_ret
      exact ⟨rfl, H.below⟩
end Go.Proofs.YthhbilkmdfdfiaaDoor.O
end

section
/- An argument [2][]uint8 by value. -/
namespace Go.Proofs.YthhbilkmdfdfiaaDoor.F
open Go.ChangeShapes Go.WideShapes Go.ChangeAt Go.RowKit Go.Joins Go.Deep Go.Proofs.YthhbilkmdfdfiaaDoorW.PrintWords
set_option linter.unusedVariables false
section
variable {H : Type} {enc : TypeId × Value → H} {W : World} {held : Bool}
set_option maxRecDepth 100000 in
theorem open_two {r : Reach} {b0 : Nat} {v : Value} {d : DataW H} {p : List MemPlace} (hv : Value.okWide Tryd.prog W r b0 32 v) (h : DataW.Trod enc Tryd.prog W 0 (fun _ => true) held 32 v d p) (hw : Fit Tryd.prog 32 d) :
    ∃ (A B : Option Addr) (xs ys : List Int) (c e : Nat), v = .agg #[.slice A xs.length c, .slice B ys.length e] ∧ xs.length ≤ c ∧ ys.length ≤ e ∧ (Kd.int .u8).C W A xs.length xs ∧ (Kd.int .u8).C W B ys.length ys ∧ (∀ x ∈ xs, (Lit.int .u8 x).wf = true) ∧ (∀ x ∈ ys, (Lit.int .u8 x).wf = true) ∧ xs.length ≤ reachBytes ∧ ys.length ≤ reachBytes := by
  simp only [Value.okWide, Tryd.underlying32] at hv
  obtain ⟨cs, rfl, -, -⟩ := hv
  obtain ⟨fuel, hf⟩ := h
  obtain ⟨zs, m1, rfl, hx1, hlen, hn, hel⟩ := DataW.trod_array Tryd.underlying32 hf
  have hl2 : (Value.agg cs).cells.toList.length = 2 := hlen.trans (by kernel_rfl)
  obtain ⟨c0, c1, hcs⟩ : ∃ a b, (Value.agg cs).cells.toList = [a, b] := by
    match h9 : (Value.agg cs).cells.toList, hl2 with
    | [a, b], _ => exact ⟨a, b, rfl⟩
  obtain ⟨y0, y1, rfl⟩ : ∃ a b, zs = [a, b] := by
    match zs, hn with
    | [a, b], _ => exact ⟨a, b, rfl⟩
  have h0 := hel 0 (by decide)
  have h1 := hel 1 (by decide)
  rw [hcs, show Tryd.prog.cellsOf 23 = 1 by kernel_rfl] at h0 h1
  injection hx1 with hx1 hx2
  subst hx1
  have fit : ∀ y ∈ [y0.1, y1.1], Fit Tryd.prog 23 y := by
    intro y hy q hq
    refine hw q ?_
    simp only [DataW.weights, Tryd.underlying32]
    exact weightsAll_mem hy q hq
  obtain ⟨A, xs, c, e0, l0, g0, b0, n0⟩ := open_C_ints Tryd.underlying23 Tryd.underlying5 (by kernel_rfl) h0 (fit _ (by simp))
  obtain ⟨B, ys, e, e1, l1, g1, b1, n1⟩ := open_C_ints Tryd.underlying23 Tryd.underlying5 (by kernel_rfl) h1 (fit _ (by simp))
  rw [show Tryd.prog.bytesOf 5 = 1 by kernel_rfl, Nat.mul_one] at n0 n1
  simp at e0 e1
  subst e0 e1
  refine ⟨A, B, xs, ys, c, e, ?_, l0, l1, g0, g1, b0, b1, n0, n1⟩
  have : cs.toList = [.slice A xs.length c, .slice B ys.length e] := hcs
  have e9 : cs = [Value.slice A xs.length c, .slice B ys.length e].toArray := by rw [← this]
  rw [e9]
end
end Go.Proofs.YthhbilkmdfdfiaaDoor.F
end

section
/- 'strandlinelaw17.ImageAdds': whatever the input: true; the input reads as it did; the listed table tied to the program's text. -/
namespace Go.Proofs.YthhbilkmdfdfiaaDoor.imageAdds
open Go.ChangeShapes Go.WideShapes Go.ChangeAt Go.RowKit Go.Joins Go.Proofs.YthhbilkmdfdfiaaDoor.Door Go.Proofs.YthhbilkmdfdfiaaDoorW.PrintWords
open Go.ChangeMaps (open_string shut_string)
set_option linter.unusedVariables false
set_option maxRecDepth 100000 in
set_option maxHeartbeats 4000000 in
theorem lifted (os : Os) (started : os.Started) (H : Type) (enc : TypeId × Value → H) :
    ReturnsInHanded {} Tryd.checked os 12 .any (fun w args => (Rows.imageAddsSpec.pre enc Tryd.prog Tryd.f12 [] false w args ∧ laidMetH Tryd.prog laid1 w) ∧ sizedMet enc Tryd.prog Tryd.f12 (OpenSpec.ofChange Rows.imageAddsSpec) false w args)
      (Rows.imageAddsSpec.post enc Tryd.prog Tryd.f12 false true false false) := by
  refine returnsInHanded_of_change_and (C := Tryd.checked) (X := fun w _ => laidMetH Tryd.prog laid1 w) (fun _ _ _ hh h => h.of_heap hh) own started (by kernel_rfl) Tryd.func12
    (ChangeSpec.witness_shaped (enc := enc) (C := Tryd.checked) (os := os) (X := fun w _ => laidMetH Tryd.prog laid1 w) false (World.doorLaid Tryd.prog 400 os) #[(.agg #[.slice none 0 0, .slice none 0 0]), .int .u64 0, .int .i64 0] 8 rfl (World.shaped_of_RefB (by kernel_rfl) (by kernel_rfl)) (by kernel_rfl) (by kernel_rfl) (by kernel_rfl) (door_met os _)) ?_
  intro W base args ds gs before hval0 hW _ hsz0 hL _
  have hsz : (DataW.weightsEach Tryd.prog (Tryd.f12.params.toList ++ Rows.imageAddsSpec.plain.varTypes Tryd.prog) (ds ++ gs)).all (· ≤ reachBytes) = true := hsz0
  have hval : ∀ (j : Nat) t v, Tryd.f12.params[j]? = some t → args[j]? = some v → Value.okWide Tryd.prog W .any base t v := hval0
  have hW' := hW
  obtain ⟨p, q, hA0, hV, rfl, hfz, hnd⟩ := hW
  have hA : DataW.TrodAll enc Tryd.prog W 0 (fun _ => true) true Tryd.f12.params.toList args.toList ds p := hA0
  rw [Tryd.params12] at hA hval hsz
  obtain ⟨v0, vs0, d0, ds0, p0, q0, hargs, rfl, rfl, h0, r0⟩ := trodAll_cons hA
  obtain ⟨v1, vs1, d1, ds1, p1, q1, rfl, rfl, rfl, h1, r1⟩ := trodAll_cons r0
  obtain ⟨v2, vs2, d2, ds2, p2, q2, rfl, rfl, rfl, h2, r2⟩ := trodAll_cons r1
  obtain ⟨rfl, rfl, rfl⟩ := trodAll_nil r2
  obtain rfl : args = #[v0, v1, v2] := by cases args; simp_all
  obtain ⟨rfl, rfl⟩ := trodVars_none hV
  have k0 := h0
  have lt0 : ∀ x ∈ p0, x.block < W.heap.size := by obtain ⟨m, hm⟩ := k0; exact DataW.trod_lt m _ _ _ hm
  obtain ⟨A0, B0, l0, m0, c0, e0, rfl, hc0, he0, hC0, hD0, hB0, hE0, hr0, hs0⟩ := F.open_two (hval 0 32 v0 rfl rfl) h0 (F.fit_arg hsz 0 (t := 32) (d := d0) rfl rfl)
  obtain ⟨a1, rfl, rfl, rfl, w1⟩ := open_int Tryd.underlying51 (hval 1 51 v1 rfl rfl) h1
  obtain ⟨a2, rfl, rfl, rfl, w2⟩ := open_int Tryd.underlying3 (hval 2 3 v2 rfl rfl) h2
  clear hA0 hval0 hsz0
  have y1 := F.wf_u64 w1
  refine (O.imageAdds_law l0 m0 _ _ _ _ a1 a2 W y1 hC0 hc0 (O.bytes_of_wf hB0) hD0 he0 (O.bytes_of_wf hE0) (half_of hL)).mono fun e W' ⟨he, bel⟩ => ?_
  subst he
  exact ⟨_, rfl, _, _, _, [], _, [], hW', trodAll_mk1 (shut_bool Tryd.underlying4 _), (trodAll_cons_mk (Below.trod laidOut (by kernel_rfl) (of_decide_eq_true (by kernel_rfl)) k0 bel lt0) (trodAll_cons_mk (shut_int Tryd.underlying51 w1) (trodAll_cons_mk (shut_int Tryd.underlying3 w2) trodAll_mk0))), rfl, bel.frame _, fun h => by cases h⟩
theorem over : Rows.ImageAddsSaid :=
  OpenClaim.holds_of_wide 12 Tryd.f12 rfl rfl rfl rfl rfl rfl rfl ⟨rfl, rfl, rfl, rfl, rfl⟩ rfl rfl rfl rfl rfl (by kernel_rfl) Tryd.func12 (by kernel_rfl)
    (of_decide_eq_true (by kernel_rfl)) (by unfold Func.isWrapper; first | (rw [if_pos (by decide +kernel)]; kernel_rfl) | (rw [if_neg (by decide +kernel)]; exact ⟨rfl, rfl⟩))
    (fun os started H enc _ => lifted os started H enc)
theorem card : Rows.ImageAddsCardSaid :=
  Claim7.holds_tied_plain_at .later [] [.data] true Rows.imageAddsCard.stood.harness false
    over (fun _ h => by cases h) (by kernel_rfl) (fun _ h => by cases h) imageAdds_row_tie rfl ⟨rfl, rfl⟩ (by kernel_rfl) rfl
    (fun f fn hf hfn => by
      obtain rfl : f = 12 := Option.some.inj ((show Tryd.prog.funcNamed "strandline/strandlinelaw17.ImageAdds" = some 12 by kernel_rfl).symm.trans hf) |>.symm
      obtain rfl : fn = Tryd.f12 := (Option.some.inj (Tryd.func12.symm.trans hfn)).symm
      exact ⟨by kernel_rfl, fun j t ht => by
        rw [Tryd.params12] at ht
        have hm : t ∈ [32, 51, 3] := by simpa using Array.mem_of_getElem? ht
        have hall : ([32, 51, 3].all fun u => !Tryd.prog.wantsStandIn u) = true := by kernel_rfl
        exact (show Tryd.prog.wantsStandIn t = false by simpa using List.all_eq_true.1 hall t hm)⟩)
    (by kernel_rfl)
end Go.Proofs.YthhbilkmdfdfiaaDoor.imageAdds
namespace Go.Proofs.YthhbilkmdfdfiaaDoor
/-- The row, under a short name, for the claim. -/
theorem imageAddsCard_holds : Rows.ImageAddsCardSaid := imageAdds.card
#print axioms imageAddsCard_holds
end Go.Proofs.YthhbilkmdfdfiaaDoor
end
