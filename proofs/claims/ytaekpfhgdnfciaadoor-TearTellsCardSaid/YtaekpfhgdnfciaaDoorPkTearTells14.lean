/- Texts of mine put together: Places, StepEE, StepYY, Step, PlanBackM, FragRDec, ScanX, ScanL, RestM, ArrX, ScanRest, Scan, RSectors, FlFew, ScanB. -/
import Derived.Test.YtaekpfhgdnfciaaDoorPkTearTells13
import Derived.Test.YtaekpfhgdnfciaaDoorPkTearTells8
import Derived.Test.YtaekpfhgdnfciaaDoorPkTearTells6
import Derived.Test.YtaekpfhgdnfciaaDoorPkTearTells12
import Derived.Test.YtaekpfhgdnfciaaDoorPkTearTells7
import Derived.Test.YtaekpfhgdnfciaaDoorPkTearTells5
import Derived.Test.YtaekpfhgdnfciaaDoorPkTearTells3
import Derived.Test.YtaekpfhgdnfciaaDoorPkTearTells2
section
/- image.Places, by what is owned. -/
set_option linter.unusedVariables false
set_option linter.unusedSimpArgs false
namespace Go.Proofs.YtaekpfhgdnfciaaDoor.O
open Go.RowKit Go.Proofs.YtaekpfhgdnfciaaDoorW.PrintWords Go.Proofs.YtaekpfhgdnfciaaDoorW.PrintLast Go.Proofs.YtaekpfhgdnfciaaDoorW.PrintMore Go.Proofs.YtaekpfhgdnfciaaDoor.F Go.Proofs.YtaekpfhgdnfciaaDoor.F.Nums Go.Proofs.YtaekpfhgdnfciaaDoor.Plain Go.Proofs.YtaekpfhgdnfciaaDoor.Img
attribute [local go_sem] Oper.semAt_some
theorem loadVar_cell {P : Program} {W : World} {ty : TypeId} {p : Addr} {v : Value} {d : TypeDesc} (hu : P.underlying ty = some d) (hd : d.isRow = false) (hc : W.cell? p = some v) : (loadVar ty p).run P W = .ok v W := by
 have hag : (isAgg ty).run P W = .ok false W := by
  unfold isAgg
  rw [Sem.run_bind,run_underlying hu W]
  cases d <;> simp_all
 simp [loadVar,hag,hc]
theorem results_cell2 {fn : Func} {p q : Tmp} {tp tq : TypeId} (h : fn.results = #[.cell p tp,.cell q tq]) (tmps : Array Value) (P : Program) (W : World) {ap aq : Addr} {vp vq : Value} {dp dq : TypeDesc}
  (hp : tmps.getD p undef = .pointer (some ap)) (hq : tmps.getD q undef = .pointer (some aq)) (up : P.underlying tp = some dp) (ip : dp.isRow = false) (uq : P.underlying tq = some dq) (iq : dq.isRow = false) (cp : W.cell? ap = some vp) (cq : W.cell? aq = some vq) :
  (results fn tmps).run P W = .ok (.tuple #[vp,vq]) W := by
 have hp' : tmps[p]?.getD undef = .pointer (some ap) := by rw [← hp];simp
 have hq' : tmps[q]?.getD undef = .pointer (some aq) := by rw [← hq];simp
 simp only [results,h]
 simp [Sem.run_bind,asAddr,hp',hq',loadVar_cell up ip cp,loadVar_cell uq iq cq,-Option.getD_some]
theorem laySt_end_any (e f : Int) (l : List (List Int)) (k : Nat) : (laySt e l k).2 = (laySt f l k).2 := by
 induction k with
 |zero => rfl
 |succ k ih =>
  show (cutP (laySt e l k).2 ((l.getD k []).length : Int)).2.1 = (cutP (laySt f l k).2 ((l.getD k []).length : Int)).2.1
  rw [ih]
theorem layAt_any (e f : Int) (l : List (List Int)) (k : Nat) : layAt e l k = layAt f l k := by unfold layAt;rw [laySt_end_any e f]
theorem layOk_any (e f : Int) (l : List (List Int)) (k : Nat) : layOk e l k = layOk f l k := by unfold layOk;rw [laySt_end_any e f]
theorem layPl_any (e f : Int) (l : List (List Int)) (k : Nat) : layPl e l k = layPl f l k := by
 unfold layPl
 exact congrArg (fun g => (List.range k).map g) (funext (layAt_any e f l))
theorem layAll_any (e f : Int) (l : List (List Int)) : layAll e l = layAll f l := by
 unfold layAll
 exact congrArg (fun g => (List.range l.length).all g) (funext (layOk_any e f l))
set_option maxRecDepth 100000 in
set_option maxHeartbeats 8000000 in
theorem places_calls (l : List (List Int)) (A : Option Addr) (c : Nat) (w : World) (hl : ∀ x ∈ l,Bytes x) (hll : ∀ x ∈ l,x.length < 140737488355328) (hn : l.length ≤ 1000000)
  (hC : (Kd.slice 5 (Kd.int .u8)).C w A l.length l) (hH : Half w) :
  Calls Tryd.prog 39 #[.slice A l.length c] w fun e W => (layAll 0 l = true ∧ ∃ v,e = .returned (.tuple #[v,.bool true]) ∧ Own w F0 [.row v 3 1 l.length (nums .i64 (layPl 0 l l.length))] W) ∨
   (layAll 0 l = false ∧ e = .returned (.tuple #[.slice none 0 0,.bool false]) ∧ Below w.heap.size w W) := by
 obtain ⟨N,hN1,hN2,hN3⟩ := first_bad 0 l
 rw [bad_all hN1 hN2 hN3]
 have H := Own.start w
 refine (callsIn_wide (n := 9)).1 (callsIn_of_wp_marks Tryd.func39 rfl trivial ?_ rfl)
 simp only [Tryd.ntmps39,List.size_toArray,List.length_cons,List.length_nil,Nat.reduceAdd,Nat.reduceSub,Array.replicate_succ,Array.replicate_zero,List.push_toArray,List.append_toArray,List.nil_append,List.cons_append]
 refine wpIn_seq_k (fun K hK => ?_)
 refine wpIn_wide.2 ?_
 go_wp2_with (first
  |((with_reducible refine gate_dst (N := 2) rfl ?_);refine l_alloc1 rfl H 26 rfl _ zero26 rfl ?_;clear H;intro g2 W H)
  |((with_reducible refine gate_dst (N := 3) rfl ?_);refine l_alloc1 rfl H 4 rfl _ zero4 rfl ?_;clear H;intro g3 W H))
 refine wpIn_seq_k (fun K1 hK1 => ?_)
 refine wpIn_wide.2 ?_
 go_wp2_with (first
  |((with_reducible refine gate_dst (N := 4) rfl ?_);refine l_alloc1 rfl H 26 rfl _ zero26 rfl ?_;clear H;intro g4 W H))
 refine wpIn_seq_k (fun K2 hK2 => ?_)
 refine wpIn_seq_k (fun K3 hK3 => ?_)
 refine wpIn_wide.2 ?_
 go_wp2_with (first
  |(go_at_call 64;(refine (image_each_own H 0 A l.length c).mono ?_);clear H;rintro e W ⟨ge,gl,rfl,H⟩))
 refine wpIn_block ?_
 obtain ⟨LST,hLST⟩ : ∃ LST : Nat → Value → List Res,LST = fun k v4 => [.blk g4 26 [v4],.row v4 3 1 k (nums .i64 (layPl 0 l k)),.blk g3 4 [.bool false],.blk g2 26 [.slice none 0 0]] := ⟨_,rfl⟩
 have H0 : Own w F0 (.blk gl 25 [.slice A l.length c] :: .blk ge 22 [.int .u64 0] :: LST 0 (.slice none 0 0)) W := by
  have H1 := (H.cons (r := .row (.slice none 0 0) 3 1 0 (nums .i64 (layPl 0 l 0))) (Below.refl _ _) (own_nil _ _ _ _) (fun k hk => by cases hk))
  rw [hLST]
  exact H1.perm ((List.Perm.swap _ _ _).trans (.cons _ ((List.Perm.swap _ _ _).trans (.cons _ (List.Perm.swap _ _ _)))))
 clear H
 obtain ⟨vsOf,hvs⟩ : ∃ vsOf : Bool → Nat → Value,vsOf = fun b g => if b = true then sl832 g else .slice none 0 0 := ⟨_,rfl⟩
 refine rf_gen (ι := List Res × Nat × Bool) (n := 8) rfl (Go.Proofs.enters_of Tryd.func80 (by kernel_rfl) rfl) rfl H0
  (fun i v L => i.2.1 < l.length ∧ ∃ vb gb v4,v = .agg #[.int .i64 (layAt 0 l i.2.1),.int .i64 vb,vsOf i.2.2 gb] ∧ L = i.1 ++ LST i.2.1 v4)
  (fun i v L => i.2.2 = true ∧ ∃ v4,L = i.1 ++ LST (i.2.1 + 1) v4)
  (fun i v a1 L => i.2.1 < l.length ∧ ∃ vb gb v4 g5,v = .agg #[.int .i64 (layAt 0 l i.2.1),.int .i64 vb,vsOf i.2.2 gb] ∧ a1 = { tmps := #[.slice A l.length c,undef,.pointer (some ⟨g2,0,none⟩),.pointer (some ⟨g3,0,none⟩),.pointer (some ⟨g4,0,none⟩),.pointer (some ⟨g5,0,none⟩),.slice A l.length c,.func (.func 80) #[] #[.pointer (some ⟨gl,0,none⟩),.pointer (some ⟨ge,0,none⟩)],.agg #[.int .i64 (layAt 0 l i.2.1),.int .i64 vb,vsOf i.2.2 gb],undef,undef,undef,undef,undef,undef,undef,undef,undef],defers := [] } ∧ L = .blk g5 123 [.int .i64 (layAt 0 l i.2.1),.int .i64 vb,vsOf i.2.2 gb] :: (LST i.2.1 v4 ++ i.1))
  (fun i v L => i.2.2 = false ∧ ∃ v4,L = LST i.2.1 v4 ++ i.1)
  (fun L => N = l.length ∧ ∃ gx gb a gq v4,L = EIt 0 l A c gl ge gx gb a (laySt 0 l N).2 (laySt 0 l N).1 (LST N v4) ∧ gq = gb) (fun L => N < l.length ∧ ∃ P v4,L = LST N v4 ++ P) ?hseq ?assign ?body ?done ?left
 case hseq =>
  intro F1 F2 lp W1 H1 hY
  have CN := Kd.C_below hC (Below.refl w.heap.size w)
  refine (each1_in 0 l A c 8 lp gl ge N (w0 := w) (F1 := F1) (by decide) hl hll hn hC hH hN2 hN1 hN3 (fun k gb L => ∃ v4,L = LST k v4) (fun W' => ∃ P v4,Own w F2 (LST N v4 ++ P) W') (fun gb => ⟨_,rfl⟩) ?_ ?_ H1).mono ?_
  ·rintro k gx gb gb1 L W2 hk ⟨v4,rfl⟩ HX
   obtain ⟨fn,tmps,assign,body,hy,hR⟩ := hY (EIt 0 l A c gl ge gx gb1 (layAt 0 l k) (laySt 0 l (k + 1)).2 (laySt 0 l (k + 1)).1 [],k,true) (.agg #[.int .i64 (layAt 0 l k),.int .i64 (laySt 0 l (k + 1)).2,sl832 gb1]) _ W2 ⟨by show k < l.length;omega,(laySt 0 l (k + 1)).2,gb1,v4,by rw [hvs];rfl,rfl⟩ HX
   refine ⟨fn,tmps,assign,body,hy,RoundIn.mono hR ?_⟩
   rintro e W3 (⟨rfl,L',⟨-,v4',rfl⟩,HO⟩|⟨-,L',⟨hF,-⟩,-⟩)
   ·exact ⟨rfl,LST (k + 1) v4',⟨v4',rfl⟩,HO⟩
   ·cases hF
  ·rintro hlt gx gb L W2 ⟨v4,rfl⟩ HX
   obtain ⟨fn,tmps,assign,body,hy,hR⟩ := hY ([.blk gx 123 [.int .i64 (layAt 0 l N),.int .i64 0,.slice none 0 0],.blk gl 25 [.slice A l.length c],.blk ge 22 [.int .u64 0]],N,false) (.agg #[.int .i64 (layAt 0 l N),.int .i64 0,.slice none 0 0]) _ W2 ⟨hlt,0,0,v4,by rw [hvs];rfl,rfl⟩ HX
   refine ⟨fn,tmps,assign,body,hy,RoundIn.mono hR ?_⟩
   rintro e W3 (⟨rfl,L',⟨hF,-⟩,-⟩|⟨rfl,L',⟨-,v4',rfl⟩,HO⟩)
   ·cases hF
   ·exact ⟨⟨false,rfl⟩,_,v4',HO⟩
  ·rintro e W3 ⟨hv,h⟩
   refine ⟨hv,?_⟩
   rcases h with ⟨hN,gx,gb,a,L,⟨v4,rfl⟩,HO⟩|⟨hN,P,v4,HO⟩
   ·exact .inl ⟨_,⟨hN,gx,gb,a,gb,v4,rfl,rfl⟩,HO⟩
   ·exact .inr ⟨_,⟨hN,P,v4,rfl⟩,HO⟩
 case assign =>
  rintro F1 lp ⟨P,k,b⟩ v L W ⟨hk,vb,gb,v4,rfl,rfl⟩ H1
  simp only at hk H1 ⊢
  refine regIn_lit rfl (fun ⟨_,_,h⟩ => h) ?_
  simp only [List.zip_toArray,List.zip_cons_cons,List.zip_nil_right,List.zip_nil_left,List.foldl_toArray,List.foldl_cons,List.foldl_nil,List.setIfInBounds_toArray,List.set_cons_zero,List.set_cons_succ]
  have H := H1.perm List.perm_append_comm
  clear H1
  obtain ⟨vs,hvv⟩ : ∃ vs,vsOf b gb = vs := ⟨_,rfl⟩
  have h1 : vs.oneCell' = true := by rw [← hvv,hvs];cases b <;> rfl
  have hO : ∀ u ∈ [Value.int .i64 (layAt 0 l k),Value.int .i64 vb,vs],u.oneCell' = true := by intro u hu;simp at hu;rcases hu with rfl|rfl|rfl <;> first|rfl|exact h1
  rw [hvv]
  go_wp2_with (first
  |((with_reducible refine gate_dst (N := 5) rfl ?_);refine l_allocA rfl H 123 rfl _ zero123 ?_;clear H;intro g5 W H)
  |((with_reducible refine gate_store (t := 123) (p := 5) rfl ?_);refine l_storeW rfl H 123 _ _ rfl _ rfl _ rfl (by (repeat (first|exact In.head|apply In.tail))) _ size123 (by (first|rfl|assumption|omega|(simp only [nums_length];omega)|(simp [nums_length,zs];done)|(simp [nums_length,zs];omega))) (by (first|rfl|assumption|omega|(simp only [nums_length];omega)|(simp [nums_length,zs];done)|(simp [nums_length,zs];omega))) (by (first|exact nums_one|assumption|(intro u hu;simp at hu;subst hu;rfl)|(intro u hu;simp at hu;rcases hu with rfl|rfl|rfl|rfl|rfl|rfl|rfl <;> rfl)|(intro u hu;simp at hu;rcases hu with rfl|rfl|rfl|rfl <;> rfl)|(intro u hu;simp at hu;rcases hu with rfl|rfl|rfl <;> rfl)|(intro u hu;simp at hu;rcases hu with rfl|rfl <;> rfl))) ?_;clear H;intro W H))
  exact ⟨_,⟨hk,vb,gb,v4,g5,by rw [hvv],by rw [hvv];rfl,by rw [hvv]⟩,H⟩
 case body =>
  rintro F1 lp ⟨P,k,b⟩ v a1 L W ⟨hk,vb,gb,v4,g5,rfl,rfl,rfl⟩ H
  simp only at hk H ⊢
  refine wpIn_block ?_
  refine wpIn_seq_k (fun K5 hK5 => ?_)
  refine wpIn_seq_k (fun K6 hK6 => ?_)
  refine regIn_lit rfl (fun ⟨_,_,h⟩ => h) ?_
  have hl1 : vsOf true gb = sl832 gb := by rw [hvs];rfl
  have hl0 : vsOf false gb = .slice none 0 0 := by rw [hvs];rfl
  rw [hLST] at H ⊢
  simp only [List.cons_append,List.nil_append] at H
  cases b
  ·rw [hl0] at H ⊢
   go_wp2_with (first
  |((with_reducible refine gate_dst (N := 10) rfl ?_);refine l_load1 rfl H 38 _ rfl _ _ rfl (by (repeat (first|exact In.head|apply In.tail))) _ Tryd.underlying38 rfl _ (by first|rfl|assumption|exact nums_at _ (by omega)) ?_)
    |((with_reducible refine gate_dst (N := 11) rfl ?_);refine l_run rfl (.bool true) (by go_simp;rw [run_eql_slice_nil _ 38 5 none 0 0 Tryd.underlying38];rfl) ?_))
   refine wpIn_cond_true rfl ?_
   refine wpIn_seq_k (fun K7 hK7 => ?_)
   refine regIn_lit rfl (fun ⟨_,_,h⟩ => h) ?_
   go_wp2_with (first
  |((with_reducible refine gate_store (t := 26) (p := 2) rfl ?_);refine l_store1 rfl H 26 _ _ rfl _ _ rfl _ (by first|(go_simp;done)|(go_simp;with_reducible rfl)) (by (repeat (first|exact In.head|apply In.tail))) rfl rfl size26 (by (first|rfl|assumption|omega|(simp only [nums_length];omega)|(simp [nums_length,zs];done)|(simp [nums_length,zs];omega))) ?_;clear H;intro W H)
  |((with_reducible refine gate_store (t := 4) (p := 3) rfl ?_);refine l_store1 rfl H 4 _ _ rfl _ _ rfl _ (by first|(go_simp;done)|(go_simp;with_reducible rfl)) (by (repeat (first|exact In.head|apply In.tail))) rfl rfl size4 (by (first|rfl|assumption|omega|(simp only [nums_length];omega)|(simp [nums_length,zs];done)|(simp [nums_length,zs];omega))) ?_;clear H;intro W H))
   refine wpIn_ret ?_
   exact ⟨_,⟨v4,rfl⟩,H.del .head⟩
  ·rw [hl1] at H ⊢
   go_wp2_with (first
  |((with_reducible refine gate_dst (N := 10) rfl ?_);refine l_load1 rfl H 38 _ rfl _ _ rfl (by (repeat (first|exact In.head|apply In.tail))) _ Tryd.underlying38 rfl _ (by first|rfl|assumption|exact nums_at _ (by omega)) ?_)
    |((with_reducible refine gate_dst (N := 11) rfl ?_);refine l_run rfl (.bool false) (by go_simp;rw [run_eql_slice_nil _ 38 5 _ _ _ Tryd.underlying38];rfl) ?_))
   refine wpIn_cond_false rfl ?_
   refine wpIn_skip (hK5 _ _ ?_)
   refine regIn_lit rfl (fun ⟨_,_,h⟩ => h) ?_
   have hbd : (k + 1) * 8 ≤ 140737488355328 := by omega
   have hpl : nums .i64 (layPl 0 l (k + 1)) = nums .i64 (layPl 0 l k) ++ [.int .i64 (layAt 0 l k)] := by rw [layPl_succ];simp [nums]
   go_wp2_with (first
  |((with_reducible refine gate_dst (N := 12) rfl ?_);refine l_load1 rfl H 26 _ rfl _ _ rfl (by (repeat (first|exact In.head|apply In.tail))) _ Tryd.underlying26 rfl _ (by first|rfl|assumption|exact nums_at _ (by omega)) ?_)
  |((with_reducible refine gate_dst (N := 14) rfl ?_);refine l_load1 rfl H 3 _ rfl _ _ rfl (by (repeat (first|exact In.head|apply In.tail))) _ Tryd.underlying3 rfl _ (by first|rfl|assumption|exact nums_at _ (by omega)) ?_)
  |((with_reducible refine gate_dst (N := 15) rfl ?_);refine l_build11 rfl H 26 3 _ rfl Tryd.underlying26 _ rfl _ zs3 rfl rfl ?_;clear H;intro g15 W H)
  |((with_reducible refine gate_dst (N := 16) rfl ?_);refine l_append1 rfl H _ _ 26 3 rfl Tryd.underlying26 _ _ _ inf3 rfl (by decide) (by decide) _ _ _ rfl (by (repeat (first|exact In.head|apply In.tail))) _ _ rfl (by (repeat (first|exact In.head|apply In.tail))) (by (first|rfl|assumption|omega|(simp only [nums_length];omega)|(simp [nums_length,zs];done)|(simp [nums_length,zs];omega))) (by (first|exact nums_one|assumption|(intro u hu;simp at hu;subst hu;rfl)|(intro u hu;simp at hu;rcases hu with rfl|rfl|rfl|rfl|rfl|rfl|rfl <;> rfl)|(intro u hu;simp at hu;rcases hu with rfl|rfl|rfl|rfl <;> rfl)|(intro u hu;simp at hu;rcases hu with rfl|rfl|rfl <;> rfl)|(intro u hu;simp at hu;rcases hu with rfl|rfl <;> rfl))) (by omega) ?_;clear H;intro v16 W H;obtain ⟨A16,c16,rfl⟩ := H.row_slice (.tail (.tail (.tail .head))))
  |((with_reducible refine gate_store (t := 26) (p := 4) rfl ?_);refine l_store1 rfl H 26 _ _ rfl _ _ rfl _ (by first|(go_simp;done)|(go_simp;with_reducible rfl)) (by (repeat (first|exact In.head|apply In.tail))) rfl rfl size26 (by (first|rfl|assumption|omega|(simp only [nums_length];omega)|(simp [nums_length,zs];done)|(simp [nums_length,zs];omega))) ?_;clear H;intro W H))
   exact ⟨_,⟨_,rfl⟩,((H.del .head).del .head).perm (List.perm_append_comm (l₁ := [_,_,_,_]) (l₂ := P))⟩
 case done =>
  rintro F1 D L W ⟨hN,gx,gb,a,gq,v4,rfl,-⟩ H hF hD
  refine hK2 _ _ ?_
  rw [hLST] at H
  unfold EIt at H
  obtain ⟨A4,c4,rfl⟩ := H.row_slice (.tail (.tail (.tail (.tail (.tail .head)))))
  refine wpIn_seq_k (fun K5 hK5 => ?_)
  refine wpIn_mono (Q := Exit.then K5 (fun _ _ _ => False)) ?_ (fun e a w h => by cases e <;> first|exact h|exact h.elim)
  refine wpIn_wide.2 ?_
  go_wp2_with (first
  |((with_reducible refine gate_dst (N := 17) rfl ?_);refine l_load1 rfl H 26 _ rfl _ _ rfl (by (repeat (first|exact In.head|apply In.tail))) _ Tryd.underlying26 rfl _ (by first|rfl|assumption|exact nums_at _ (by omega)) ?_)
  |((with_reducible refine gate_store (t := 26) (p := 2) rfl ?_);refine l_store1 rfl H 26 _ _ rfl _ _ rfl _ (by first|(go_simp;done)|(go_simp;with_reducible rfl)) (by (repeat (first|exact In.head|apply In.tail))) rfl rfl size26 (by (first|rfl|assumption|omega|(simp only [nums_length];omega)|(simp [nums_length,zs];done)|(simp [nums_length,zs];omega))) ?_;clear H;intro W H)
  |((with_reducible refine gate_store (t := 4) (p := 3) rfl ?_);refine l_store1 rfl H 4 _ _ rfl _ _ rfl _ (by first|(go_simp;done)|(go_simp;with_reducible rfl)) (by (repeat (first|exact In.head|apply In.tail))) rfl rfl size4 (by (first|rfl|assumption|omega|(simp only [nums_length];omega)|(simp [nums_length,zs];done)|(simp [nums_length,zs];omega))) ?_;clear H;intro W H))
  gi_wp2
  refine ⟨by simp,.inl ⟨_,_,rfl,run_takeDeferred (H.holds D _ hF),?_⟩⟩
  have H1 := H.putF D _ (.deferred none) hF hD
  have c1 := H1.cell (.tail (.tail (.tail (.tail (.tail (.tail (.tail .head))))))) 0
  have c2 := H1.cell (.tail (.tail (.tail (.tail (.tail (.tail .head)))))) 0
  refine ⟨_,results_cell2 rfl _ _ _ rfl rfl Tryd.underlying26 rfl Tryd.underlying4 rfl c1 c2,.inl ⟨decide_eq_true hN,_,rfl,?_⟩⟩
  rw [← hN]
  have H2 := (((((((H1.del .head).del .head).del .head).del .head).del .head).del (.tail .head)).del (.tail .head))
  exact H2.slack (fun g o h => by cases h)
 case left =>
  rintro F1 D L W ⟨hN,P,v4,rfl⟩ H hF hD
  rw [hLST] at H
  gi_wp2
  refine ⟨by simp,.inl ⟨_,_,rfl,run_takeDeferred (H.holds D _ hF),?_⟩⟩
  have H1 := H.putF D _ (.deferred none) hF hD
  have c1 := H1.cell (.tail (.tail (.tail .head))) 0
  have c2 := H1.cell (.tail (.tail .head)) 0
  refine ⟨_,results_cell2 rfl _ _ _ rfl rfl Tryd.underlying26 rfl Tryd.underlying4 rfl c1 c2,.inr ⟨by omega,rfl,H1.below⟩⟩
end Go.Proofs.YtaekpfhgdnfciaaDoor.O
end

section
/- scan's step: one way it goes. -/
set_option linter.unusedVariables false
set_option linter.unusedSimpArgs false
namespace Go.Proofs.YtaekpfhgdnfciaaDoor.O
open Go.RowKit Go.Proofs.YtaekpfhgdnfciaaDoorW.PrintWords Go.Proofs.YtaekpfhgdnfciaaDoorW.PrintLast Go.Proofs.YtaekpfhgdnfciaaDoorW.PrintMore Go.Proofs.YtaekpfhgdnfciaaDoor.F Go.Proofs.YtaekpfhgdnfciaaDoor.F.Nums Go.Proofs.YtaekpfhgdnfciaaDoor.Plain
attribute [local go_sem] Oper.semAt_some
end Go.Proofs.YtaekpfhgdnfciaaDoor.O
end

section
/- scan's step: one way it goes. -/
set_option linter.unusedVariables false
set_option linter.unusedSimpArgs false
namespace Go.Proofs.YtaekpfhgdnfciaaDoor.O
open Go.RowKit Go.Proofs.YtaekpfhgdnfciaaDoorW.PrintWords Go.Proofs.YtaekpfhgdnfciaaDoorW.PrintLast Go.Proofs.YtaekpfhgdnfciaaDoorW.PrintMore Go.Proofs.YtaekpfhgdnfciaaDoor.F Go.Proofs.YtaekpfhgdnfciaaDoor.F.Nums Go.Proofs.YtaekpfhgdnfciaaDoor.Plain
attribute [local go_sem] Oper.semAt_some
end Go.Proofs.YtaekpfhgdnfciaaDoor.O
end

section
/- scan's step, by what is owned: all its ways. -/
set_option linter.unusedVariables false
set_option linter.unusedSimpArgs false
namespace Go.Proofs.YtaekpfhgdnfciaaDoor.O
open Go.RowKit Go.Proofs.YtaekpfhgdnfciaaDoorW.PrintWords Go.Proofs.YtaekpfhgdnfciaaDoorW.PrintLast Go.Proofs.YtaekpfhgdnfciaaDoorW.PrintMore Go.Proofs.YtaekpfhgdnfciaaDoor.F Go.Proofs.YtaekpfhgdnfciaaDoor.F.Nums Go.Proofs.YtaekpfhgdnfciaaDoor.Plain
end Go.Proofs.YtaekpfhgdnfciaaDoor.O
end

section
/- PlanBack: what Flat makes of what Whole made. -/
namespace Go.Proofs.YtaekpfhgdnfciaaDoor.O
open Go.RowKit Go.Proofs.YtaekpfhgdnfciaaDoorW.PrintWords Go.Proofs.YtaekpfhgdnfciaaDoorW.PrintLast Go.Proofs.YtaekpfhgdnfciaaDoorW.PrintMore Go.Proofs.YtaekpfhgdnfciaaDoor.F Go.Proofs.YtaekpfhgdnfciaaDoor.F.Nums Go.Proofs.YtaekpfhgdnfciaaDoor.Plain
set_option linter.unusedVariables false
set_option linter.unusedSimpArgs false
end Go.Proofs.YtaekpfhgdnfciaaDoor.O
end

section
/- the reference's Decode, by what is owned. -/
set_option linter.unusedVariables false
set_option linter.unusedSimpArgs false
namespace Go.Proofs.YtaekpfhgdnfciaaDoor.O
open Go.RowKit Go.Proofs.YtaekpfhgdnfciaaDoorW.PrintWords Go.Proofs.YtaekpfhgdnfciaaDoorW.PrintLast Go.Proofs.YtaekpfhgdnfciaaDoorW.PrintMore Go.Proofs.YtaekpfhgdnfciaaDoor.F Go.Proofs.YtaekpfhgdnfciaaDoor.F.Nums Go.Proofs.YtaekpfhgdnfciaaDoor.Plain
def anyN (b : List Int) (i : Nat) : Bool := (b.take i).any (· != 0)
theorem anyN_succ (b : List Int) (i : Nat) (h : i < b.length) : anyN b (i + 1) = (anyN b i ||(b.getD i 0 != 0)) := by
 unfold anyN
 rw [List.take_add_one,List.any_append,List.getD_eq_getElem?_getD,List.getElem?_eq_getElem h]
 simp
theorem anyN_zs (b : List Int) (h : 11 ≤ b.length) : (anyN b 11 = false) ↔ b.take 11 = zs 11 := by
 unfold anyN
 rw [List.any_eq_false]
 constructor
 ·intro h0
  refine List.eq_replicate_iff.2 ⟨by rw [List.length_take];omega,fun x hx => ?_⟩
  have := h0 x hx
  simpa using this
 ·intro h0 x hx
  rw [h0] at hx
  rw [List.eq_of_mem_replicate hx]
  decide
theorem r_loadIx {P : Program} {o : Oper} {a : Act} {W : World} {ad : Addr} {cs : List Value} (ty : TypeId) (x : Operand) (ho : o.op = .load ty x) (off : Nat) (hx : a.eval x = .pointer (some (ad.add off))) (hR : Rd W (some ad) cs)
  (d : TypeDesc) (hu : P.underlying ty = some d) (hd : d.isRow = false) (v : Value) (hv : cs[off]? = some v) : (execOp a.eval o).run P W = .ok (.value v) W := r_loadRd1 ty x ho off hx hR d hu hd v hv
theorem nOf_eq {b : List Int} (hb : Bytes b) (h : 6 ≤ b.length) : (nOf b : Int) = b.getD 4 0 + 256 * b.getD 5 0 := by
 have h4 := hb _ (List.getElem_mem (show 4 < b.length by omega))
 have h5 := hb _ (List.getElem_mem (show 5 < b.length by omega))
 have g4 : b.getD 4 0 = b[4]'(by omega) := by rw [List.getD_eq_getElem?_getD,List.getElem?_eq_getElem];rfl
 have g5 : b.getD 5 0 = b[5]'(by omega) := by rw [List.getD_eq_getElem?_getD,List.getElem?_eq_getElem];rfl
 have r0 : rd (b.drop 4) ((0 : Nat) : Int) = b.getD 4 0 := by unfold rd;rw [List.getD_eq_getElem?_getD,List.getD_eq_getElem?_getD,List.getElem?_drop];rfl
 have r1 : rd (b.drop 4) ((1 : Nat) : Int) = b.getD 5 0 := by unfold rd;rw [List.getD_eq_getElem?_getD,List.getD_eq_getElem?_getD,List.getElem?_drop];rfl
 have e : nOf b = (0 + (rd (b.drop 4) ((0 : Nat) : Int)).toNat * 256 ^ 0) + (rd (b.drop 4) ((1 : Nat) : Int)).toNat * 256 ^ 1 := rfl
 rw [e,r0,r1,g4,g5]
 omega
/-- by the sum, as strings of bytes: the decoded parts' bytes -/
theorem dec_parts {b : List Int} (hb : Bytes b) : 11 + nOf b ≤ b.length → ((decD b).length = nOf b ∧ (encL (kOf b) (eOf b) (decD b) = b.take (11 + nOf b) ↔ sOf b = sumN ((b.take (11 + nOf b)).drop 4))) := fun h => ⟨by unfold decD;rw [List.length_drop,List.length_take];omega,enc_dec hb h⟩
set_option maxRecDepth 100000 in
set_option maxHeartbeats 8000000 in
theorem rdecode_calls (b : List Int) (ep : Int) (A : Option Addr) (c : Nat) (w : World) (hC : (Kd.int .u8).C w A b.length b) (hc : b.length ≤ c) (bb : Bytes b) :
  Calls Tryd.prog 56 #[.slice A b.length c,.int .u32 ep] w fun e W => Below w.heap.size w W ∧
   ((decE b ep ≠ 0 ∧ e = .returned (.tuple #[.agg #[.int .i64 0,.int .u32 0,.slice none 0 0],.int .i64 0,.int .i64 (decE b ep)])) ∨
    (decE b ep = 0 ∧ ∃ A' c',e = .returned (.tuple #[.agg #[.int .i64 (kOf b),.int .u32 (eOf b),.slice A' (nOf b) c'],.int .i64 (11 + (nOf b : Int)),.int .i64 0]) ∧ nOf b ≤ c' ∧ (Kd.int .u8).C W A' (nOf b) (decD b) ∧ W.ownsRow w.heap.size 5 1 (.slice A' (nOf b) c') (nOf b) (nums .u8 (decD b)))) := by
 have H := Own.start w
 by_cases h11 : b.length < 11
 ·have hE : decE b ep = 1 := by unfold decE;rw [if_pos h11]
  rw [hE]
  have q1 : decide ((b.length : Int) < 11) = true := decide_eq_true (by omega)
  generalize b.length = n at *
  go_enter Tryd.func56,Tryd.ntmps56
  go_wp2_with (first
  |((with_reducible refine gate_dst (N := 4) rfl ?_);refine l_allocA rfl H 76 rfl _ zero76 ?_;clear H;intro g4 W H)
  |((with_reducible refine gate_store (t := 76) (p := 4) rfl ?_);refine l_storeW rfl H 76 _ _ rfl _ rfl _ rfl (by (repeat (first|exact In.head|apply In.tail))) _ size76 (by (first|rfl|assumption|omega|(simp only [nums_length];omega)|(simp [nums_length,zs];done)|(simp [nums_length,zs];omega))) (by (first|rfl|assumption|omega|(simp only [nums_length];omega)|(simp [nums_length,zs];done)|(simp [nums_length,zs];omega))) (by (first|exact nums_one|assumption|(intro u hu;simp at hu;subst hu;rfl)|(intro u hu;simp at hu;rcases hu with rfl|rfl|rfl|rfl|rfl|rfl|rfl <;> rfl)|(intro u hu;simp at hu;rcases hu with rfl|rfl|rfl|rfl <;> rfl)|(intro u hu;simp at hu;rcases hu with rfl|rfl|rfl <;> rfl)|(intro u hu;simp at hu;rcases hu with rfl|rfl <;> rfl))) ?_;clear H;intro W H))
  refine bodyPost_ret (results_ctt (p := 4) (ty := 76) rfl _ _ g4 76 _ (0,0) _ rfl (H.heap .head) Tryd.underlying76 rfl size76) rfl ?_
  exact ⟨H.below,.inl ⟨by decide,rfl⟩⟩
 have hE0 : decE b ep = if b.take 11 = zs 11 then 7 else if rightF (kOf b) 0 = false ∨ 197 < nOf b ∨ eOf b ≠ ep then 2 else if b.length < 11 + nOf b then 1 else if sOf b ≠ sumN ((b.take (11 + nOf b)).drop 4) then 3 else 0 := by unfold decE;rw [if_neg h11]
 have q1 : decide ((b.length : Int) < 11) = false := decide_eq_false (by omega)
 obtain ⟨ad,rfl⟩ := (Rd.of_C hC).some_ (by rw [nums_length];omega)
 have hat : ∀ i,i < 11 → (nums .u8 b)[i]? = some (.int .u8 (b.getD i 0)) := fun i hi => nums_at i (by omega)
 have hRb := Rd.of_C hC
 have hany := anyN_succ b
 have hz := anyN_zs b (by omega)
 obtain ⟨bl,hbl⟩ : ∃ x,b.length = x := ⟨_,rfl⟩
 rw [hbl] at hC hc hE0 q1 h11 hany ⊢
 have hlt := nOf_lt bb
 have het := eOf_lt bb
 have hx4 := bb _ (List.getElem_mem (show 4 < b.length by omega))
 have hx5 := bb _ (List.getElem_mem (show 5 < b.length by omega))
 have hkt := bb _ (List.getElem_mem (show 6 < b.length by omega))
 have g6 : kOf b = b[6]'(by omega) := by unfold kOf;rw [List.getD_eq_getElem?_getD,List.getElem?_eq_getElem];rfl
 have a4 := hat 4 (by decide)
 have a5 := hat 5 (by decide)
 have a6 := hat 6 (by decide)
 have g4' : b.getD 4 0 = b[4]'(by omega) := by rw [List.getD_eq_getElem?_getD,List.getElem?_eq_getElem];rfl
 have g5' : b.getD 5 0 = b[5]'(by omega) := by rw [List.getD_eq_getElem?_getD,List.getElem?_eq_getElem];rfl
 have hn45 := nOf_eq bb (by omega)
 rw [← g4'] at hx4
 rw [← g5'] at hx5
 rw [← g6] at hkt
 rw [show b.getD 6 0 = kOf b from rfl] at a6
 have hn2 : ((getn ((b.take 11).drop 7) 4 : Nat) : Int) = eOf b := by unfold eOf;exact congrArg _ (getn_pre 4 (fun j hj => by rw [List.getElem?_drop,List.getElem?_drop,List.getElem?_take_of_lt (by omega)]))
 have hbh : Bytes ((b.take 11).drop 7) := bytes_drop (bytes_take bb 11) 7
 have h117 := cut_C hC 7 11 c (by decide) (by omega) hc
 have hc11 : 11 ≤ c := by omega
 have hdl := dec_parts bb
 obtain ⟨n,hn⟩ : ∃ x,nOf b = x := ⟨_,rfl⟩
 obtain ⟨kk,hkk⟩ : ∃ x,kOf b = x := ⟨_,rfl⟩
 obtain ⟨ee,hee⟩ : ∃ x,eOf b = x := ⟨_,rfl⟩
 obtain ⟨ss,hss⟩ : ∃ x,sOf b = x := ⟨_,rfl⟩
 obtain ⟨dE,hdE⟩ : ∃ x,decE b ep = x := ⟨_,rfl⟩
 have hdd : decD b = (b.take (11 + n)).drop 11 := by unfold decD;rw [hn]
 rw [hn] at hn45 hlt hE0 hdl ⊢
 rw [hkk] at hkt hE0 a6 hdl ⊢
 rw [hee] at het hE0 hn2 hdl ⊢
 rw [hss] at hE0 hdl
 rw [hdE] at hE0 ⊢
 rw [hbl] at hdl
 rw [hdd] at hdl ⊢
 generalize b.getD 4 0 = x4 at hx4 hn45 a4
 generalize b.getD 5 0 = x5 at hx5 hn45 a5
 obtain ⟨D7,hD7⟩ : ∃ D,dropA (some ad) 7 c 1 = D := ⟨_,rfl⟩
 rw [hD7] at h117
 replace hD7 := Aside0.mk hD7
 have HC := Aside0.mk (And.intro hx4 (And.intro hx5 (And.intro hn45 (And.intro hlt (And.intro hkt het)))))
 clear hx4 hx5 hn45 hlt hkt het
 replace hE0 := Aside0.mk hE0
 go_enter Tryd.func56,Tryd.ntmps56
 go_wp2_with (first
  |((with_reducible refine gate_dst (N := 4) rfl ?_);refine l_allocA rfl H 76 rfl _ zero76 ?_;clear H;intro g4 W H))
 go_loopg [7,8] 11 (fun gq v7 v8 w' => ∃ i : Nat,v8 = .int .i64 (i : Int) ∧ v7 = .bool (anyN b i) ∧ i + gq = 11 ∧ Own w F0 [.blk g4 76 [.int .i64 0,.int .u32 0,.slice none 0 0]] w')
 case atStart => exact ⟨0,rfl,rfl,by omega,H⟩
 case round =>
  clear H
  obtain ⟨i,rfl,rfl,hi,H⟩ := hrel
  by_cases ci : i < 11
  ·obtain ⟨gk',rfl⟩ : ∃ q,gk = q + 1 := ⟨gk - 1,by omega⟩
   have q2 : decide ((i : Int) < 11) = true := decide_eq_true (by omega)
   have q3 : ((0 : Int) ≤ (i : Int)) = True := eq_true (by omega)
   have q4 : ((i : Int) < (bl : Int)) = True := eq_true (by omega)
   have hv := hat i ci
   have ha := hany i (by omega)
   have HI := Aside0.mk (And.intro hi ci)
   clear hi ci
   generalize b.getD i 0 = x at hv ha
   cases h0 : anyN b i with
   |true =>
    rw [h0,Bool.true_or] at ha
    go_wp2
    go_roundg gk'
    case measure => have := HI.out.1;omega
    case rel => exact ⟨i + 1,by have h4 := HI.out.2;rw [w64 (by omega) (by omega)];rfl,by rw [ha],by have := HI.out.1;omega,H⟩
   |false =>
    rw [h0,Bool.false_or] at ha
    go_wp2_with (first
  |((with_reducible refine gate_dst (N := 24) rfl ?_);refine gate_guard (by rfl) ?_;refine l_run rfl _ (r_loadIx 5 _ rfl i rfl (hRb.below H.below) _ Tryd.underlying5 rfl _ hv) ?_))
    go_roundg gk'
    case measure => have := HI.out.1;omega
    case rel => exact ⟨i + 1,by have h4 := HI.out.2;rw [w64 (by omega) (by omega)];rfl,by rw [ha],by have := HI.out.1;omega,H⟩
  ·have hi11 : i = 11 := by omega
   rw [← hi11] at hz
   have q2 : decide ((i : Int) < 11) = false := decide_eq_false (by omega)
   clear hi ci hany
   cases h0 : anyN b i with
   |false =>
    have hE0 := hE0.out
    rw [if_pos (by rw [← hi11];exact hz.1 h0)] at hE0
    subst hE0
    clear hi11 hz
    go_wp2_with (first
  |((with_reducible refine gate_store (t := 76) (p := 4) rfl ?_);refine l_storeW rfl H 76 _ _ rfl _ rfl _ rfl (by (repeat (first|exact In.head|apply In.tail))) _ size76 (by (first|rfl|assumption|omega|(simp only [nums_length];omega)|(simp [nums_length,zs];done)|(simp [nums_length,zs];omega))) (by (first|rfl|assumption|omega|(simp only [nums_length];omega)|(simp [nums_length,zs];done)|(simp [nums_length,zs];omega))) (by (first|exact nums_one|assumption|(intro u hu;simp at hu;subst hu;rfl)|(intro u hu;simp at hu;rcases hu with rfl|rfl|rfl|rfl|rfl|rfl|rfl <;> rfl)|(intro u hu;simp at hu;rcases hu with rfl|rfl|rfl|rfl <;> rfl)|(intro u hu;simp at hu;rcases hu with rfl|rfl|rfl <;> rfl)|(intro u hu;simp at hu;rcases hu with rfl|rfl <;> rfl))) ?_;clear H;intro W H))
    refine bodyPost_ret (results_ctt (p := 4) (ty := 76) rfl _ _ g4 76 _ (0,0) _ rfl (H.heap .head) Tryd.underlying76 rfl size76) rfl ?_
    exact ⟨H.below,.inl ⟨by decide,rfl⟩⟩
   |true =>
    have hnz : ¬ b.take 11 = zs 11 := fun h => by rw [← hi11] at h;rw [hz.2 h] at h0;cases h0
    replace hE0 := hE0.out
    rw [if_neg hnz] at hE0
    clear hnz hz
    obtain ⟨hx4,hx5,hn45,hlt,hkt,het⟩ := HC.out
    have b4 : ((4 : Int) < (bl : Int)) = True := eq_true (by omega)
    have b5 : ((5 : Int) < (bl : Int)) = True := eq_true (by omega)
    have b6 : ((6 : Int) < (bl : Int)) = True := eq_true (by omega)
    have c1 : wrap64 x4 = x4 := w64 (by omega) (by omega)
    have c2 : wrap64 x5 = x5 := w64 (by omega) (by omega)
    have c3 : wrap64 (256 * x5) = 256 * x5 := w64 (by omega) (by omega)
    have c4 : wrap64 (x4 + 256 * x5) = (n : Int) := by rw [← hn45];exact w64 (by omega) (by omega)
    have c5 : wrap64 kk = kk := w64 (by omega) (by omega)
    have c6 : IntKind.u32.wrap ee = ee := wu32 het.1 het.2
    have c1' := (i64_w _).trans c1
    have c2' := (i64_w _).trans c2
    have c3' := (i64_w _).trans c3
    have c4' := (i64_w _).trans c4
    have c5' := (i64_w _).trans c5
    clear hx4 hx5 hn45 hlt hkt het g6 g4' g5' hi11 hn hkk hee hss hdE hdd
    go_wp2
    refine start_ (n := 11) (S := Own _ _ _) (ds := []) #[f_,f_,f_,f_,f_,f_,f_,f_,f_,f_,f_] (by kernel_rfl) rfl rfl H.drew (fun hHeld => ?_)
    replace H := H.drew
    generalize World.drew _ = W at H hHeld ⊢
    refine pure_ (i := 0) (N := some 30) (v := ?_) (a' := ?_) #[t_,f_,f_,f_,f_,f_,f_,f_,f_,f_,f_] rfl rfl (by kernel_rfl) (fun _ _ _ h => h) (Or.inl ⟨by rfl,?_⟩) ?_ ?_
    rotate_left
    ·intro w'
     go_simp
     with_reducible rfl
    rotate_left
    ·simp only [ps_]
     rfl
    refine pure_ (i := 1) (N := some 31) (v := ?_) (a' := ?_) #[t_,t_,f_,f_,f_,f_,f_,f_,f_,f_,f_] rfl rfl (by kernel_rfl) (fun _ _ _ h => h) (Or.inl ⟨by rfl,?_⟩) ?_ ?_
    rotate_left
    ·intro w'
     go_simp
     with_reducible rfl
    rotate_left
    ·simp only [ps_]
     rfl
    refine pure_ (i := 4) (N := some 34) (v := ?_) (a' := ?_) #[t_,t_,f_,f_,t_,f_,f_,f_,f_,f_,f_] rfl rfl (by kernel_rfl) (fun _ _ _ h => h) (Or.inl ⟨by rfl,?_⟩) ?_ ?_
    rotate_left
    ·intro w'
     go_simp
     with_reducible rfl
    rotate_left
    ·simp only [ps_]
     rfl
    refine pure_ (i := 5) (N := some 35) (v := ?_) (a' := ?_) #[t_,t_,f_,f_,t_,t_,f_,f_,f_,f_,f_] rfl rfl (by kernel_rfl) (fun _ _ _ h => h) (Or.inl ⟨by rfl,?_⟩) ?_ ?_
    rotate_left
    ·intro w'
     go_simp
     with_reducible rfl
    rotate_left
    ·simp only [ps_]
     rfl
    refine take_run (i := 2) (N := some 32) (a' := ?_) #[t_,t_,t_,f_,t_,t_,f_,f_,f_,f_,f_] rfl rfl (by kernel_rfl) (fun _ _ _ _ h => h) (by rfl) hHeld (.int .u8 x4) (fun X HX => r_loadIx 5 _ rfl 4 rfl (hRb.below HX.below) _ Tryd.underlying5 rfl _ a4) ?_ ?_
    rotate_left
    ·simp only [ps_]
     rfl
    refine pure_ (i := 3) (N := some 33) (v := ?_) (a' := ?_) #[t_,t_,t_,t_,t_,t_,f_,f_,f_,f_,f_] rfl rfl (by kernel_rfl) (fun _ _ _ h => h) (Or.inl ⟨by rfl,?_⟩) ?_ ?_
    rotate_left
    ·intro w'
     go_simp
     with_reducible rfl
    rotate_left
    ·simp only [ps_]
     rfl
    refine take_run (i := 6) (N := some 36) (a' := ?_) #[t_,t_,t_,t_,t_,t_,t_,f_,f_,f_,f_] rfl rfl (by kernel_rfl) (fun _ _ _ _ h => h) (by rfl) hHeld (.int .u8 x5) (fun X HX => r_loadIx 5 _ rfl 5 rfl (hRb.below HX.below) _ Tryd.underlying5 rfl _ a5) ?_ ?_
    rotate_left
    ·simp only [ps_]
     rfl
    refine pure_ (i := 7) (N := some 37) (v := ?_) (a' := ?_) #[t_,t_,t_,t_,t_,t_,t_,t_,f_,f_,f_] rfl rfl (by kernel_rfl) (fun _ _ _ h => h) (Or.inl ⟨by rfl,?_⟩) ?_ ?_
    rotate_left
    ·intro w'
     go_simp
     with_reducible rfl
    rotate_left
    ·simp only [ps_]
     rfl
    refine pure_ (i := 8) (N := some 38) (v := ?_) (a' := ?_) #[t_,t_,t_,t_,t_,t_,t_,t_,t_,f_,f_] rfl rfl (by kernel_rfl) (fun _ _ _ h => h) (Or.inl ⟨by rfl,?_⟩) ?_ ?_
    rotate_left
    ·intro w'
     go_simp
     with_reducible rfl
    rotate_left
    ·simp only [ps_]
     rfl
    refine pure_ (i := 9) (N := some 39) (v := ?_) (a' := ?_) #[t_,t_,t_,t_,t_,t_,t_,t_,t_,t_,f_] rfl rfl (by kernel_rfl) (fun _ _ _ h => h) (Or.inl ⟨by rfl,?_⟩) ?_ ?_
    rotate_left
    ·intro w'
     go_simp
     with_reducible rfl
    rotate_left
    ·simp only [ps_]
     rfl
    refine pure_ (i := 10) (N := some 9) (v := ?_) (a' := ?_) #[t_,t_,t_,t_,t_,t_,t_,t_,t_,t_,t_] rfl rfl (by kernel_rfl) (fun _ _ _ h => h) (Or.inl ⟨by rfl,?_⟩) ?_ ?_
    rotate_left
    ·intro w'
     go_simp
     with_reducible rfl
    rotate_left
    ·simp only [ps_]
     rfl
    refine done_ (by kernel_rfl) ?_
    clear hHeld
    go_wp2
    refine start_ (n := 11) (S := Own _ _ _) (ds := [10]) #[f_,f_,f_,f_,f_,f_,f_,f_,f_,f_,f_] (by kernel_rfl) rfl rfl H.drew (fun hHeld => ?_)
    replace H := H.drew
    generalize World.drew _ = W at H hHeld ⊢
    refine pure_ (i := 0) (N := some 40) (v := ?_) (a' := ?_) #[t_,f_,f_,f_,f_,f_,f_,f_,f_,f_,f_] rfl rfl (by kernel_rfl) (fun _ _ _ h => h) (Or.inl ⟨by rfl,?_⟩) ?_ ?_
    rotate_left
    ·intro w'
     go_simp
     with_reducible rfl
    rotate_left
    ·simp only [ps_]
     rfl
    refine pure_ (i := 1) (N := some 41) (v := ?_) (a' := ?_) #[t_,t_,f_,f_,f_,f_,f_,f_,f_,f_,f_] rfl rfl (by kernel_rfl) (fun _ _ _ h => h) (Or.inl ⟨by rfl,?_⟩) ?_ ?_
    rotate_left
    ·intro w'
     go_simp
     with_reducible rfl
    rotate_left
    ·simp only [ps_]
     rfl
    refine pure_ (i := 4) (N := some 44) (v := ?_) (a' := ?_) #[t_,t_,f_,f_,t_,f_,f_,f_,f_,f_,f_] rfl rfl (by kernel_rfl) (fun _ _ _ h => h) (Or.inl ⟨by rfl,?_⟩) ?_ ?_
    rotate_left
    ·intro w'
     go_simp
     with_reducible rfl
    rotate_left
    ·simp only [ps_]
     rfl
    refine take_run (i := 5) (N := some 45) (a' := ?_) #[t_,t_,f_,f_,t_,t_,f_,f_,f_,f_,f_] rfl rfl (by kernel_rfl) (fun _ _ _ _ h => h) (by rfl) hHeld (.slice D7 (11 - 7) (c - 7)) (fun X HX => by rw [← hD7.out];exact x_slice_lohi _ _ _ rfl rfl Tryd.underlying38 size5 7 11 rfl rfl (by decide) hc11 X) ?_ ?_
    rotate_left
    ·simp only [ps_]
     rfl
    refine take_run (i := 2) (N := some 42) (a' := ?_) #[t_,t_,t_,f_,t_,t_,f_,f_,f_,f_,f_] rfl rfl (by kernel_rfl) (fun _ _ _ _ h => h) (by rfl) hHeld (.int .u8 kk) (fun X HX => r_loadIx 5 _ rfl 6 rfl (hRb.below HX.below) _ Tryd.underlying5 rfl _ a6) ?_ ?_
    rotate_left
    ·simp only [ps_]
     rfl
    refine pure_ (i := 3) (N := some 43) (v := ?_) (a' := ?_) #[t_,t_,t_,t_,t_,t_,f_,f_,f_,f_,f_] rfl rfl (by kernel_rfl) (fun _ _ _ h => h) (Or.inl ⟨by rfl,?_⟩) ?_ ?_
    rotate_left
    ·intro w'
     go_simp
     with_reducible rfl
    rotate_left
    ·simp only [ps_]
     rfl
    refine two_ (i := 6) (j := 9) (Ni := some 46) (Nj := some 10) #[t_,t_,t_,t_,t_,t_,t_,f_,f_,f_,f_] #[t_,t_,t_,t_,t_,t_,f_,f_,f_,t_,f_] rfl rfl rfl rfl (by kernel_rfl) (by decide) (by decide) (fun K hK => ?_) (fun K hK => ?_)
    focus
     refine callK_ (rget_own H D7 (11 - 7) (c - 7) _ (Kd.C_below h117 H.below) (Nat.sub_le_sub_right hc11 7) hbh (by decide)) Tryd.func75 (by kernel_rfl) rfl (by rfl) rfl rfl (by (try simp only [List.map_toArray,List.map_cons,List.map_nil]);first|done|rfl) ?_
     rintro e W ⟨rfl,H'⟩
     refine ⟨_,rfl,?_⟩
     replace H := H'
     clear H'
     rw [hn2]
     refine hK.out _ _ ?_ (fun hHeld => ?_)
     ·first|trivial|exact H|exact H.del .head|exact (H.del .head).del .head|exact H.heap (by (repeat (first|exact In.head|apply In.tail)))
     clear hK K
     refine norm_ (a' := ?_) ?_ ?_
     rotate_left
     ·show Act.put _ (some 46) _ = _
      simp only [ps_]
      rfl
     refine pure_ (i := 7) (N := some 47) (v := ?_) (a' := ?_) #[t_,t_,t_,t_,t_,t_,t_,t_,f_,f_,f_] rfl rfl (by kernel_rfl) (fun _ _ _ h => h) (Or.inl ⟨by rfl,?_⟩) ?_ ?_
     rotate_left
     ·intro w'
      go_simp
      with_reducible rfl
     rotate_left
     ·simp only [ps_]
      rfl
     refine pure_ (i := 8) (N := some 48) (v := ?_) (a' := ?_) #[t_,t_,t_,t_,t_,t_,t_,t_,t_,f_,f_] rfl rfl (by kernel_rfl) (fun _ _ _ h => h) (Or.inl ⟨by rfl,?_⟩) ?_ ?_
     rotate_left
     ·intro w'
      go_simp
      with_reducible rfl
     rotate_left
     ·simp only [ps_]
      rfl
     refine one_ (i := 9) (N := some 10) #[t_,t_,t_,t_,t_,t_,t_,t_,t_,t_,f_] rfl rfl (by kernel_rfl) (by decide) (fun K hK => ?_)
     refine wanted_ rfl ?_
     refine w_allocA H 76 rfl _ zero76 ?_
     clear H
     intro g10 W H
     refine hK.out _ _ ?_ (fun hHeld => ?_)
     ·first|trivial|exact H|exact H.del .head|exact (H.del .head).del .head|exact H.heap (by (repeat (first|exact In.head|apply In.tail)))
     clear hK K
     refine norm_ (a' := ?_) ?_ ?_
     rotate_left
     ·show Act.put _ (some 10) _ = _
      simp only [ps_]
      rfl
    rotate_left
    focus
     refine wanted_ rfl ?_
     refine w_allocA H 76 rfl _ zero76 ?_
     clear H
     intro g10 W H
     refine hK.out _ _ ?_ (fun hHeld => ?_)
     ·first|trivial|exact H|exact H.del .head|exact (H.del .head).del .head|exact H.heap (by (repeat (first|exact In.head|apply In.tail)))
     clear hK K
     refine norm_ (a' := ?_) ?_ ?_
     rotate_left
     ·show Act.put _ (some 10) _ = _
      simp only [ps_]
      rfl
     refine one_ (i := 6) (N := some 46) #[t_,t_,t_,t_,t_,t_,t_,f_,f_,t_,f_] rfl rfl (by kernel_rfl) (by decide) (fun K hK => ?_)
     refine callK_ (rget_own H D7 (11 - 7) (c - 7) _ (Kd.C_below h117 H.below) (Nat.sub_le_sub_right hc11 7) hbh (by decide)) Tryd.func75 (by kernel_rfl) rfl (by rfl) rfl rfl (by (try simp only [List.map_toArray,List.map_cons,List.map_nil]);first|done|rfl) ?_
     rintro e W ⟨rfl,H'⟩
     refine ⟨_,rfl,?_⟩
     replace H := H'
     clear H'
     rw [hn2]
     refine hK.out _ _ ?_ (fun hHeld => ?_)
     ·first|trivial|exact H|exact H.del .head|exact (H.del .head).del .head|exact H.heap (by (repeat (first|exact In.head|apply In.tail)))
     clear hK K
     refine norm_ (a' := ?_) ?_ ?_
     rotate_left
     ·show Act.put _ (some 46) _ = _
      simp only [ps_]
      rfl
     refine pure_ (i := 7) (N := some 47) (v := ?_) (a' := ?_) #[t_,t_,t_,t_,t_,t_,t_,t_,f_,t_,f_] rfl rfl (by kernel_rfl) (fun _ _ _ h => h) (Or.inl ⟨by rfl,?_⟩) ?_ ?_
     rotate_left
     ·intro w'
      go_simp
      with_reducible rfl
     rotate_left
     ·simp only [ps_]
      rfl
     refine pure_ (i := 8) (N := some 48) (v := ?_) (a' := ?_) #[t_,t_,t_,t_,t_,t_,t_,t_,t_,t_,f_] rfl rfl (by kernel_rfl) (fun _ _ _ h => h) (Or.inl ⟨by rfl,?_⟩) ?_ ?_
     rotate_left
     ·intro w'
      go_simp
      with_reducible rfl
     rotate_left
     ·simp only [ps_]
      rfl
     skip
    all_goals
     refine last_ (i := 10) (N := none) #[t_,t_,t_,t_,t_,t_,t_,t_,t_,t_,t_] rfl rfl (by kernel_rfl) (by decide) (fun K hK => ?_)
     refine wanted_ rfl ?_
     refine w_storeW H 76 _ _ rfl _ rfl _ rfl (by (repeat (first|exact In.head|apply In.tail))) _ size76 (by (first|rfl|assumption|omega|(simp only [nums_length];omega)|(simp [nums_length,zs];done)|(simp [nums_length,zs];omega))) (by (first|rfl|assumption|omega|(simp only [nums_length];omega)|(simp [nums_length,zs];done)|(simp [nums_length,zs];omega))) (by (first|exact nums_one|assumption|(intro u hu;simp at hu;subst hu;rfl)|(intro u hu;simp at hu;rcases hu with rfl|rfl|rfl|rfl|rfl|rfl|rfl <;> rfl)|(intro u hu;simp at hu;rcases hu with rfl|rfl|rfl|rfl <;> rfl)|(intro u hu;simp at hu;rcases hu with rfl|rfl|rfl <;> rfl)|(intro u hu;simp at hu;rcases hu with rfl|rfl <;> rfl))) ?_
     clear H
     intro W H
     refine hK.out _ _ ?_
     clear hK K
     refine done_ (by kernel_rfl) ?_
     clear hHeld
    all_goals
     clear c1 c2 c3 c4 c5 c6 c1' c2' c3' c4' c5' a4 a5 a6 b4 b5 b6 hn2 hbh h117 q1 h0
     obtain ⟨-,-,-,hlt,hkt,het⟩ := HC.out
     replace hE0 := Aside0.mk hE0
     obtain ⟨m,hm⟩ : ∃ m,11 + n = m := ⟨_,rfl⟩
     have hmi : 11 + (n : Int) = (m : Int) := by omega
     have hw5 : Aside0 (wrap64 (11 + (n : Int)) = (m : Int)) := ⟨by rw [hmi];exact w64 (by omega) (by omega)⟩
     by_cases hbad : rightF kk 0 = false ∨ 197 < n ∨ ee ≠ ep
     ·have hb4 : (decide (197 < (n : Int)) = true) ∨ (decide (197 < (n : Int)) = false ∧ decide (kk < 1) = true) ∨ (decide (197 < (n : Int)) = false ∧ decide (kk < 1) = false ∧ decide (4 < kk) = true) ∨ (decide (197 < (n : Int)) = false ∧ decide (kk < 1) = false ∧ decide (4 < kk) = false ∧ (ee != ep) = true) := by
       by_cases h1 : 197 < n
       ·exact .inl (decide_eq_true (by omega))
       have f1 : decide (197 < (n : Int)) = false := decide_eq_false (by omega)
       by_cases h2 : kk < 1
       ·exact .inr (.inl ⟨f1,decide_eq_true h2⟩)
       have f2 : decide (kk < 1) = false := decide_eq_false h2
       by_cases h3 : 4 < kk
       ·exact .inr (.inr (.inl ⟨f1,f2,decide_eq_true h3⟩))
       have f3 : decide (4 < kk) = false := decide_eq_false h3
       refine .inr (.inr (.inr ⟨f1,f2,f3,?_⟩))
       rcases hbad with h|h|h
       ·unfold rightF at h
        simp at h
        omega
       ·exact absurd h h1
       ·simp [h]
      replace hE0 := hE0.out
      rw [if_pos hbad] at hE0
      subst hE0
      clear hbad hlt hkt het hm hmi
      rcases hb4 with q5|⟨q5,q6⟩|⟨q5,q6,q7⟩|⟨q5,q6,q7,q8⟩
      all_goals
       go_wp2_with (first
  |((with_reducible refine gate_dst (N := 53) rfl ?_);refine gate_guard (by rfl) ?_;refine l_load1 rfl H 3 _ rfl _ _ rfl (by (repeat (first|exact In.head|apply In.tail))) _ Tryd.underlying3 rfl _ (by first|rfl|assumption|exact nums_at _ (by omega)) ?_)
  |((with_reducible refine gate_dst (N := 58) rfl ?_);refine gate_guard (by rfl) ?_;refine l_load1 rfl H 3 _ rfl _ _ rfl (by (repeat (first|exact In.head|apply In.tail))) _ Tryd.underlying3 rfl _ (by first|rfl|assumption|exact nums_at _ (by omega)) ?_)
  |((with_reducible refine gate_dst (N := 63) rfl ?_);refine gate_guard (by rfl) ?_;refine l_load1 rfl H 67 _ rfl _ _ rfl (by (repeat (first|exact In.head|apply In.tail))) _ Tryd.underlying67 rfl _ (by first|rfl|assumption|exact nums_at _ (by omega)) ?_)
  |((with_reducible refine gate_store (t := 76) (p := 4) rfl ?_);refine l_storeW rfl H 76 _ _ rfl _ rfl _ rfl (by (repeat (first|exact In.head|apply In.tail))) _ size76 (by (first|rfl|assumption|omega|(simp only [nums_length];omega)|(simp [nums_length,zs];done)|(simp [nums_length,zs];omega))) (by (first|rfl|assumption|omega|(simp only [nums_length];omega)|(simp [nums_length,zs];done)|(simp [nums_length,zs];omega))) (by (first|exact nums_one|assumption|(intro u hu;simp at hu;subst hu;rfl)|(intro u hu;simp at hu;rcases hu with rfl|rfl|rfl|rfl|rfl|rfl|rfl <;> rfl)|(intro u hu;simp at hu;rcases hu with rfl|rfl|rfl|rfl <;> rfl)|(intro u hu;simp at hu;rcases hu with rfl|rfl|rfl <;> rfl)|(intro u hu;simp at hu;rcases hu with rfl|rfl <;> rfl))) ?_;clear H;intro W H))
       refine bodyPost_ret (results_ctt (p := 4) (ty := 76) rfl _ _ g4 76 _ (0,0) _ rfl (H.heap (.tail .head)) Tryd.underlying76 rfl size76) rfl ?_
       exact ⟨H.below,.inl ⟨by decide,rfl⟩⟩
     replace hE0 := hE0.out
     rw [if_neg hbad] at hE0
     replace hE0 := Aside0.mk hE0
     have hgood : 1 ≤ kk ∧ kk ≤ 4 ∧ n ≤ 197 ∧ ee = ep := by
      refine ⟨?_,?_,?_,?_⟩
      ·exact Decidable.byContradiction fun h => hbad (.inl (by unfold rightF;simp;omega))
      ·exact Decidable.byContradiction fun h => hbad (.inl (by unfold rightF;simp;omega))
      ·exact Decidable.byContradiction fun h => hbad (.inr (.inl (by omega)))
      ·exact Decidable.byContradiction fun h => hbad (.inr (.inr h))
     obtain ⟨k1,k2,k3,k4⟩ := hgood
     have q5 : decide (197 < (n : Int)) = false := decide_eq_false (by omega)
     have q6 : decide (kk < 1) = false := decide_eq_false (by omega)
     have q7 : decide (4 < kk) = false := decide_eq_false (by omega)
     have q8 : (ee != ep) = false := by simp [k4]
     clear hbad hlt hkt
     have hw5 := hw5.out
     have hw5' := (i64_w _).trans hw5
     have hDm : (b.take (11 + n)).drop 11 = (b.take m).drop 11 := by rw [hm]
     rw [hm] at hE0 hdl
     by_cases g3 : bl < m
     ·have hE0 := hE0.out
      rw [if_pos g3] at hE0
      subst hE0
      have q9 : decide (bl < m) = true := decide_eq_true g3
      clear g3 k1 k2 k3 k4 hm hmi hdl het
      go_wp2_with (first
  |((with_reducible refine gate_dst (N := 53) rfl ?_);refine gate_guard (by rfl) ?_;refine l_load1 rfl H 3 _ rfl _ _ rfl (by (repeat (first|exact In.head|apply In.tail))) _ Tryd.underlying3 rfl _ (by first|rfl|assumption|exact nums_at _ (by omega)) ?_)
  |((with_reducible refine gate_dst (N := 58) rfl ?_);refine gate_guard (by rfl) ?_;refine l_load1 rfl H 3 _ rfl _ _ rfl (by (repeat (first|exact In.head|apply In.tail))) _ Tryd.underlying3 rfl _ (by first|rfl|assumption|exact nums_at _ (by omega)) ?_)
  |((with_reducible refine gate_dst (N := 63) rfl ?_);refine gate_guard (by rfl) ?_;refine l_load1 rfl H 67 _ rfl _ _ rfl (by (repeat (first|exact In.head|apply In.tail))) _ Tryd.underlying67 rfl _ (by first|rfl|assumption|exact nums_at _ (by omega)) ?_)
  |((with_reducible refine gate_store (t := 76) (p := 4) rfl ?_);refine l_storeW rfl H 76 _ _ rfl _ rfl _ rfl (by (repeat (first|exact In.head|apply In.tail))) _ size76 (by (first|rfl|assumption|omega|(simp only [nums_length];omega)|(simp [nums_length,zs];done)|(simp [nums_length,zs];omega))) (by (first|rfl|assumption|omega|(simp only [nums_length];omega)|(simp [nums_length,zs];done)|(simp [nums_length,zs];omega))) (by (first|exact nums_one|assumption|(intro u hu;simp at hu;subst hu;rfl)|(intro u hu;simp at hu;rcases hu with rfl|rfl|rfl|rfl|rfl|rfl|rfl <;> rfl)|(intro u hu;simp at hu;rcases hu with rfl|rfl|rfl|rfl <;> rfl)|(intro u hu;simp at hu;rcases hu with rfl|rfl|rfl <;> rfl)|(intro u hu;simp at hu;rcases hu with rfl|rfl <;> rfl))) ?_;clear H;intro W H))
      refine bodyPost_ret (results_ctt (p := 4) (ty := 76) rfl _ _ g4 76 _ (0,0) _ rfl (H.heap (.tail .head)) Tryd.underlying76 rfl size76) rfl ?_
      exact ⟨H.below,.inl ⟨by decide,rfl⟩⟩
     replace hE0 := hE0.out
     rw [if_neg g3] at hE0
     replace hE0 := Aside0.mk hE0
     have q9 : decide (bl < m) = false := decide_eq_false g3
     have hmb : m ≤ bl := Nat.le_of_not_lt g3
     obtain ⟨hDl,hEq⟩ := hdl hmb
     have h11m : 11 ≤ m := by rw [← hm];exact Nat.le_add_right 11 n
     have hmn : m - 11 = n := by rw [← hm];exact Nat.add_sub_cancel_left 11 n
     have hmc : m ≤ c := Nat.le_trans hmb hc
     have hcut2 := cut_C hC 11 m c h11m hmb hc
     rw [hmn] at hcut2
     obtain ⟨D11,hD11⟩ : ∃ D,dropA (some ad) 11 c 1 = D := ⟨_,rfl⟩
     rw [hD11] at hcut2
     replace hD11 := Aside0.mk hD11
     have hCm : (Kd.int .u8).C w (some ad) m (b.take m) := by
      have := (Rd.of_C hC).take m
      rw [nums_take] at this
      exact this.C (by rw [List.length_take,hbl];exact Nat.min_eq_left hmb) (by have := hC.2.1;omega)
     have hDb : Bytes ((b.take m).drop 11) := bytes_drop (bytes_take bb m) 11
     have hrr : rightF kk ((b.take m).drop 11).length = true := by rw [hDl];unfold rightF;simp;omega
     have hrb := rbytes_eq kk ee ((b.take m).drop 11) hrr (by omega) hDb
     have heb : Bytes (encL kk ee ((b.take m).drop 11)) := encL_bytes (by omega) hDb
     have hinj : (strOfNums (encL kk ee ((b.take m).drop 11))).toList = (strOfNums (b.take m)).toList → encL kk ee ((b.take m).drop 11) = b.take m := CrcMath.strOfNums_inj heb (bytes_take bb m)
     have RB : ∀ W A c,(Kd.int .u8).C W A n ((b.take m).drop 11) → n ≤ c → Calls Tryd.prog 61 #[.agg #[.int .i64 kk,.int .u32 ee,.slice A n c]] W fun e w' => ∃ v0_ : Value,e = .returned v0_ ∧ Kd.R (Kd.int .u8) 5 w' W.heap.size (fun _ => True) v0_ (encL kk ee ((b.take m).drop 11)) ∧ Below W.heap.size W w' := fun W A c h1 h2 => by
      rw [← hDl] at h1 h2 ⊢
      exact strandlineref13_Bytes.calls _ kk ee A c _ _ W h1 h2 hrb
     clear g3 k1 k4 hm het hrb hrr heb hDb hdl
     replace hDl := Aside0.mk hDl
     replace hDm := Aside0.mk hDm
     replace hmi := Aside0.mk hmi
     have K3 := Aside0.mk k3
     clear k2 k3
     generalize encL kk ee ((b.take m).drop 11) = EL at *
     generalize hDL : (b.take m).drop 11 = DL at *
     generalize hBM : b.take m = BM at *
     go_wp2_with (first
  |((with_reducible refine gate_dst (N := 53) rfl ?_);refine gate_guard (by rfl) ?_;refine l_load1 rfl H 3 _ rfl _ _ rfl (by (repeat (first|exact In.head|apply In.tail))) _ Tryd.underlying3 rfl _ (by first|rfl|assumption|exact nums_at _ (by omega)) ?_)
  |((with_reducible refine gate_dst (N := 58) rfl ?_);refine gate_guard (by rfl) ?_;refine l_load1 rfl H 3 _ rfl _ _ rfl (by (repeat (first|exact In.head|apply In.tail))) _ Tryd.underlying3 rfl _ (by first|rfl|assumption|exact nums_at _ (by omega)) ?_)
  |((with_reducible refine gate_dst (N := 63) rfl ?_);refine gate_guard (by rfl) ?_;refine l_load1 rfl H 67 _ rfl _ _ rfl (by (repeat (first|exact In.head|apply In.tail))) _ Tryd.underlying67 rfl _ (by first|rfl|assumption|exact nums_at _ (by omega)) ?_)
  |((with_reducible refine gate_dst (N := 74) rfl ?_);refine l_build0 rfl H 38 5 rfl Tryd.underlying38 (by kernel_rfl) ?_;clear H;intro g74 W H)
  |((with_reducible refine gate_store (t := 38) (p := 80) rfl ?_);refine l_store1 rfl H 38 _ _ rfl _ _ rfl _ (by first|(go_simp;done)|(go_simp;with_reducible rfl)) (by (repeat (first|exact In.head|apply In.tail))) rfl rfl size38 (by (first|rfl|assumption|omega|(simp only [nums_length];omega)|(simp [nums_length,zs];done)|(simp [nums_length,zs];omega))) ?_;clear H;intro W H)
  |((with_reducible refine gate_dst (N := 78) rfl ?_);refine l_run rfl (.slice D11 n (c - 11)) (by rw [← hmn,← hD11.out];exact x_slice_lohi _ _ _ rfl rfl Tryd.underlying38 size5 11 m rfl rfl h11m hmc _) ?_)
  |((with_reducible refine gate_dst (N := 79) rfl ?_);refine l_append rfl H _ _ 38 5 rfl Tryd.underlying38 _ _ _ inf5 rfl (by decide) (by decide) _ 0 [] rfl .head D11 n (c - 11) (nums .u8 DL) rfl (by rw [nums_length,hcut2.1,Nat.mul_one]) (fun hp => ((Rd.of_C hcut2).below H.below) (by rw [nums_length,hcut2.1];exact hp)) nums_one (by rw [Nat.zero_add,Nat.mul_one];exact Nat.le_trans K3.out (by decide)) ?_;clear H;intro v79 W H;obtain ⟨A79,c79,e79⟩ := H.row_slice .head;rw [Nat.zero_add] at e79 H;rw [List.nil_append] at H;subst e79))
     replace H := (show Own w F0 [.row (.slice A79 n c79) 5 1 n (nums .u8 DL),.blk g10 76 [.int .i64 kk,.int .u32 ee,.slice A79 n c79],.blk g4 76 [.int .i64 0,.int .u32 0,.slice none 0 0]] _ from H)
     by_cases g5 : ss = sumN (BM.drop 4)
     ·have hE0 := hE0.out
      rw [if_neg (fun h => h g5)] at hE0
      subst hE0
      have hEL := hEq.2 g5
      subst hEL
      clear g5 hEq hinj
      refine start_ (n := 9) (S := Own _ _ _) (ds := []) #[f_,f_,f_,f_,f_,f_,f_,f_,f_] (by kernel_rfl) rfl rfl H.drew (fun hHeld => ?_)
      replace H := H.drew
      generalize World.drew _ = W at H hHeld ⊢
      refine pure_ (i := 3) (N := some 84) (v := ?_) (a' := ?_) #[f_,f_,f_,t_,f_,f_,f_,f_,f_] rfl rfl (by kernel_rfl) (fun _ _ _ h => h) (Or.inl ⟨by rfl,?_⟩) ?_ ?_
      rotate_left
      ·intro w'
       go_simp
       with_reducible rfl
      rotate_left
      ·simp only [ps_]
       rfl
      refine pure_ (i := 4) (N := some 85) (v := ?_) (a' := ?_) #[f_,f_,f_,t_,t_,f_,f_,f_,f_] rfl rfl (by kernel_rfl) (fun _ _ _ h => h) (Or.inl ⟨by rfl,?_⟩) ?_ ?_
      rotate_left
      ·intro w'
       go_simp
       with_reducible rfl
      rotate_left
      ·simp only [ps_]
       rfl
      refine pure_ (i := 5) (N := some 86) (v := ?_) (a' := ?_) #[f_,f_,f_,t_,t_,t_,f_,f_,f_] rfl rfl (by kernel_rfl) (fun _ _ _ h => h) (Or.inl ⟨by rfl,?_⟩) ?_ ?_
      rotate_left
      ·intro w'
       go_simp
       with_reducible rfl
      rotate_left
      ·simp only [ps_]
       rfl
      refine take_run (i := 6) (N := some 87) (a' := ?_) #[f_,f_,f_,t_,t_,t_,t_,f_,f_] rfl rfl (by kernel_rfl) (fun _ _ _ _ h => h) (by rfl) hHeld (.slice (some ad) m c) (fun X HX => x_slice_to _ _ rfl rfl Tryd.underlying38 size5 m rfl hmc X) ?_ ?_
      rotate_left
      ·simp only [ps_]
       rfl
      refine take_loadA (i := 0) (N := some 81) (a' := ?_) #[t_,f_,f_,t_,t_,t_,t_,f_,f_] rfl rfl (by kernel_rfl) (fun _ _ _ _ h => h) (by rfl) hHeld 76 _ rfl _ rfl (by (repeat (first|exact In.head|apply In.tail))) _ _ Tryd.underlying76 rfl size76 (by (first|rfl|assumption|omega|(simp only [nums_length];omega)|(simp [nums_length,zs];done)|(simp [nums_length,zs];omega))) ?_ ?_
      rotate_left
      ·simp only [ps_]
       rfl
      refine take_run (i := 7) (N := some 88) (a' := ?_) #[t_,f_,f_,t_,t_,t_,t_,t_,f_] rfl rfl (by kernel_rfl) (fun _ _ _ _ h => h) (by rfl) hHeld (.string (strOfNums EL)) (fun X HX => r_strC 38 9 5 _ rfl rfl (Kd.C_below hCm HX.below) Tryd.underlying38 Tryd.underlying5 Tryd.underlying9) ?_ ?_
      rotate_left
      ·simp only [ps_]
       rfl
      refine one_ (i := 1) (N := some 82) #[t_,t_,f_,t_,t_,t_,t_,t_,f_] rfl rfl (by kernel_rfl) (by decide) (fun K hK => ?_)
      refine callK_ (RB _ A79 c79 (H.rowC .head).2.2 (H.rowC .head).1) Tryd.func61 (by kernel_rfl) rfl (by rfl) rfl rfl (by (try simp only [List.map_toArray,List.map_cons,List.map_nil]);first|done|rfl) ?_
      rintro e W ⟨v82,rfl,hR,hb⟩
      refine ⟨_,rfl,?_⟩
      replace H := H.addR hb hR
      clear hR hb
      obtain ⟨A82,c82,rfl⟩ := H.row_slice .head
      refine hK.out _ _ ?_ (fun hHeld => ?_)
      ·first|trivial|exact H|exact H.del .head|exact (H.del .head).del .head|exact H.heap (by (repeat (first|exact In.head|apply In.tail)))
      clear hK K
      refine norm_ (a' := ?_) ?_ ?_
      rotate_left
      ·show Act.put _ (some 82) _ = _
       simp only [ps_]
       rfl
      refine one_ (i := 2) (N := some 83) #[t_,t_,t_,t_,t_,t_,t_,t_,f_] rfl rfl (by kernel_rfl) (by decide) (fun K hK => ?_)
      refine wanted_ rfl ?_
      refine w_strR H 38 9 5 _ rfl _ rfl (by (repeat (first|exact In.head|apply In.tail))) Tryd.underlying38 Tryd.underlying5 Tryd.underlying9 ?_
      refine hK.out _ _ ?_ (fun hHeld => ?_)
      ·first|trivial|exact H|exact H.del .head|exact (H.del .head).del .head|exact H.heap (by (repeat (first|exact In.head|apply In.tail)))
      clear hK K
      refine norm_ (a' := ?_) ?_ ?_
      rotate_left
      ·show Act.put _ (some 83) _ = _
       simp only [ps_]
       rfl
      refine pure_ (i := 8) (N := some 89) (v := ?_) (a' := ?_) #[t_,t_,t_,t_,t_,t_,t_,t_,t_] rfl rfl (by kernel_rfl) (fun _ _ _ h => h) (Or.inl ⟨by rfl,?_⟩) ?_ ?_
      rotate_left
      ·intro w'
       go_simp
       with_reducible rfl
      rotate_left
      ·simp only [ps_]
       rfl
      refine done_ (by kernel_rfl) ?_
      clear hHeld
      go_wp2_with (first
  |((with_reducible refine gate_dst (N := 91) rfl ?_);refine l_loadA rfl H 76 _ rfl _ rfl (by (repeat (first|exact In.head|apply In.tail))) _ _ Tryd.underlying76 rfl size76 (by (first|rfl|assumption|omega|(simp only [nums_length];omega)|(simp [nums_length,zs];done)|(simp [nums_length,zs];omega))) ?_)
  |((with_reducible refine gate_store (t := 76) (p := 4) rfl ?_);refine l_storeW rfl H 76 _ _ rfl _ rfl _ rfl (by (repeat (first|exact In.head|apply In.tail))) _ size76 (by (first|rfl|assumption|omega|(simp only [nums_length];omega)|(simp [nums_length,zs];done)|(simp [nums_length,zs];omega))) (by (first|rfl|assumption|omega|(simp only [nums_length];omega)|(simp [nums_length,zs];done)|(simp [nums_length,zs];omega))) (by (first|exact nums_one|assumption|(intro u hu;simp at hu;subst hu;rfl)|(intro u hu;simp at hu;rcases hu with rfl|rfl|rfl|rfl|rfl|rfl|rfl <;> rfl)|(intro u hu;simp at hu;rcases hu with rfl|rfl|rfl|rfl <;> rfl)|(intro u hu;simp at hu;rcases hu with rfl|rfl|rfl <;> rfl)|(intro u hu;simp at hu;rcases hu with rfl|rfl <;> rfl))) ?_;clear H;intro W H))
      refine bodyPost_ret (results_ctt (p := 4) (ty := 76) rfl _ _ g4 76 _ (0,0) _ rfl (H.heap (.tail (.tail (.tail .head)))) Tryd.underlying76 rfl size76) rfl ?_
      refine ⟨H.below,A79,c79,?_,(H.rowC (.tail .head)).1,?_,?_⟩
      ·rw [hmi.out]
       rfl
      ·rw [hDm.out]
       exact (H.rowC (.tail .head)).2.2
      ·rw [hDm.out]
       exact H.at_ (.tail .head)
     ·have hE0 := hE0.out
      rw [if_pos g5] at hE0
      subst hE0
      have hns : ((strOfNums EL).toList == (strOfNums BM).toList) = false := beq_eq_false_iff_ne.2 (fun h => g5 (hEq.1 (hinj h)))
      clear g5 hEq hinj
      refine start_ (n := 9) (S := Own _ _ _) (ds := []) #[f_,f_,f_,f_,f_,f_,f_,f_,f_] (by kernel_rfl) rfl rfl H.drew (fun hHeld => ?_)
      replace H := H.drew
      generalize World.drew _ = W at H hHeld ⊢
      refine pure_ (i := 3) (N := some 84) (v := ?_) (a' := ?_) #[f_,f_,f_,t_,f_,f_,f_,f_,f_] rfl rfl (by kernel_rfl) (fun _ _ _ h => h) (Or.inl ⟨by rfl,?_⟩) ?_ ?_
      rotate_left
      ·intro w'
       go_simp
       with_reducible rfl
      rotate_left
      ·simp only [ps_]
       rfl
      refine pure_ (i := 4) (N := some 85) (v := ?_) (a' := ?_) #[f_,f_,f_,t_,t_,f_,f_,f_,f_] rfl rfl (by kernel_rfl) (fun _ _ _ h => h) (Or.inl ⟨by rfl,?_⟩) ?_ ?_
      rotate_left
      ·intro w'
       go_simp
       with_reducible rfl
      rotate_left
      ·simp only [ps_]
       rfl
      refine pure_ (i := 5) (N := some 86) (v := ?_) (a' := ?_) #[f_,f_,f_,t_,t_,t_,f_,f_,f_] rfl rfl (by kernel_rfl) (fun _ _ _ h => h) (Or.inl ⟨by rfl,?_⟩) ?_ ?_
      rotate_left
      ·intro w'
       go_simp
       with_reducible rfl
      rotate_left
      ·simp only [ps_]
       rfl
      refine take_run (i := 6) (N := some 87) (a' := ?_) #[f_,f_,f_,t_,t_,t_,t_,f_,f_] rfl rfl (by kernel_rfl) (fun _ _ _ _ h => h) (by rfl) hHeld (.slice (some ad) m c) (fun X HX => x_slice_to _ _ rfl rfl Tryd.underlying38 size5 m rfl hmc X) ?_ ?_
      rotate_left
      ·simp only [ps_]
       rfl
      refine take_loadA (i := 0) (N := some 81) (a' := ?_) #[t_,f_,f_,t_,t_,t_,t_,f_,f_] rfl rfl (by kernel_rfl) (fun _ _ _ _ h => h) (by rfl) hHeld 76 _ rfl _ rfl (by (repeat (first|exact In.head|apply In.tail))) _ _ Tryd.underlying76 rfl size76 (by (first|rfl|assumption|omega|(simp only [nums_length];omega)|(simp [nums_length,zs];done)|(simp [nums_length,zs];omega))) ?_ ?_
      rotate_left
      ·simp only [ps_]
       rfl
      refine take_run (i := 7) (N := some 88) (a' := ?_) #[t_,f_,f_,t_,t_,t_,t_,t_,f_] rfl rfl (by kernel_rfl) (fun _ _ _ _ h => h) (by rfl) hHeld (.string (strOfNums BM)) (fun X HX => r_strC 38 9 5 _ rfl rfl (Kd.C_below hCm HX.below) Tryd.underlying38 Tryd.underlying5 Tryd.underlying9) ?_ ?_
      rotate_left
      ·simp only [ps_]
       rfl
      refine one_ (i := 1) (N := some 82) #[t_,t_,f_,t_,t_,t_,t_,t_,f_] rfl rfl (by kernel_rfl) (by decide) (fun K hK => ?_)
      refine callK_ (RB _ A79 c79 (H.rowC .head).2.2 (H.rowC .head).1) Tryd.func61 (by kernel_rfl) rfl (by rfl) rfl rfl (by (try simp only [List.map_toArray,List.map_cons,List.map_nil]);first|done|rfl) ?_
      rintro e W ⟨v82,rfl,hR,hb⟩
      refine ⟨_,rfl,?_⟩
      replace H := H.addR hb hR
      clear hR hb
      obtain ⟨A82,c82,rfl⟩ := H.row_slice .head
      refine hK.out _ _ ?_ (fun hHeld => ?_)
      ·first|trivial|exact H|exact H.del .head|exact (H.del .head).del .head|exact H.heap (by (repeat (first|exact In.head|apply In.tail)))
      clear hK K
      refine norm_ (a' := ?_) ?_ ?_
      rotate_left
      ·show Act.put _ (some 82) _ = _
       simp only [ps_]
       rfl
      refine one_ (i := 2) (N := some 83) #[t_,t_,t_,t_,t_,t_,t_,t_,f_] rfl rfl (by kernel_rfl) (by decide) (fun K hK => ?_)
      refine wanted_ rfl ?_
      refine w_strR H 38 9 5 _ rfl _ rfl (by (repeat (first|exact In.head|apply In.tail))) Tryd.underlying38 Tryd.underlying5 Tryd.underlying9 ?_
      refine hK.out _ _ ?_ (fun hHeld => ?_)
      ·first|trivial|exact H|exact H.del .head|exact (H.del .head).del .head|exact H.heap (by (repeat (first|exact In.head|apply In.tail)))
      clear hK K
      refine norm_ (a' := ?_) ?_ ?_
      rotate_left
      ·show Act.put _ (some 83) _ = _
       simp only [ps_]
       rfl
      refine pure_ (i := 8) (N := some 89) (v := ?_) (a' := ?_) #[t_,t_,t_,t_,t_,t_,t_,t_,t_] rfl rfl (by kernel_rfl) (fun _ _ _ h => h) (Or.inl ⟨by rfl,?_⟩) ?_ ?_
      rotate_left
      ·intro w'
       go_simp
       with_reducible rfl
      rotate_left
      ·simp only [ps_]
       rfl
      refine done_ (by kernel_rfl) ?_
      clear hHeld
      go_wp2_with (first
  |((with_reducible refine gate_store (t := 76) (p := 4) rfl ?_);refine l_storeW rfl H 76 _ _ rfl _ rfl _ rfl (by (repeat (first|exact In.head|apply In.tail))) _ size76 (by (first|rfl|assumption|omega|(simp only [nums_length];omega)|(simp [nums_length,zs];done)|(simp [nums_length,zs];omega))) (by (first|rfl|assumption|omega|(simp only [nums_length];omega)|(simp [nums_length,zs];done)|(simp [nums_length,zs];omega))) (by (first|exact nums_one|assumption|(intro u hu;simp at hu;subst hu;rfl)|(intro u hu;simp at hu;rcases hu with rfl|rfl|rfl|rfl|rfl|rfl|rfl <;> rfl)|(intro u hu;simp at hu;rcases hu with rfl|rfl|rfl|rfl <;> rfl)|(intro u hu;simp at hu;rcases hu with rfl|rfl|rfl <;> rfl)|(intro u hu;simp at hu;rcases hu with rfl|rfl <;> rfl))) ?_;clear H;intro W H))
      refine bodyPost_ret (results_ctt (p := 4) (ty := 76) rfl _ _ g4 76 _ (0,0) _ rfl (H.heap (.tail (.tail (.tail .head)))) Tryd.underlying76 rfl size76) rfl ?_
      exact ⟨H.below,.inl ⟨by decide,rfl⟩⟩
end Go.Proofs.YtaekpfhgdnfciaaDoor.O
end

section
/- Scanning sectors each of which is of what was laid first, or of what was laid last. Plain. -/
set_option linter.unusedVariables false
set_option linter.unusedSimpArgs false
namespace Go.Proofs.YtaekpfhgdnfciaaDoor.Img
open Go.RowKit Go.Proofs.YtaekpfhgdnfciaaDoor.F Go.Proofs.YtaekpfhgdnfciaaDoor.F.Nums Go.Proofs.YtaekpfhgdnfciaaDoor.O Go.Proofs.YtaekpfhgdnfciaaDoorW.PrintWords Go.Proofs.YtaekpfhgdnfciaaDoorW.PrintLast Go.Proofs.YtaekpfhgdnfciaaDoorW.PrintMore Go.Proofs.YtaekpfhgdnfciaaDoor.Plain
/-! ### pieces lie one behind another -/
def Asc : Int → Int → List Pc → Prop
 |lo,hi,[] => lo ≤ hi
 |lo,hi,p :: ps => lo ≤ p.f0 ∧ 0 ≤ p.f3 - p.f2 ∧ 11 + (p.f3 - p.f2) ≤ lf p.f0 ∧ p.f0 % 52 ≤ 41 ∧ p.f0 < 832 ∧ Asc (p.f0 + 11 + (p.f3 - p.f2)) hi ps
theorem Asc.mem : ∀ {ps : List Pc} {lo hi : Int},Asc lo hi ps → ∀ p ∈ ps,lo ≤ p.f0 ∧ 0 ≤ p.f3 - p.f2 ∧ 11 + (p.f3 - p.f2) ≤ lf p.f0 ∧ p.f0 % 52 ≤ 41 ∧ p.f0 < 832 ∧ p.f0 + 11 + (p.f3 - p.f2) ≤ hi := by
 intro ps
 induction ps with
 |nil => intro _ _ _ p hp;cases hp
 |cons q ps ih =>
  intro lo hi h p hp
  simp only [Asc] at h
  obtain ⟨a1,a2,a3,a4,a5,a6⟩ := h
  have hlast : q.f0 + 11 + (q.f3 - q.f2) ≤ hi := by
   clear ih hp a1 a2 a3 a4 a5
   generalize q.f0 + 11 + (q.f3 - q.f2) = lo2 at a6 ⊢
   induction ps generalizing lo2 with
   |nil => simpa only [Asc] using a6
   |cons r rs ih2 =>
    simp only [Asc] at a6
    have := ih2 _ a6.2.2.2.2.2
    omega
  rcases List.mem_cons.1 hp with rfl|hp
  ·exact ⟨a1,a2,a3,a4,a5,hlast⟩
  ·have := ih a6 p hp
   exact ⟨by omega,this.2⟩
/-! ### what is laid stands -/
/-! ### what is told at a place -/
end Go.Proofs.YtaekpfhgdnfciaaDoor.Img
end

section
/- Scanning sectors each of which is of what was laid first (some first records), or of what was laid last (all of them). Plain. -/
set_option linter.unusedVariables false
set_option linter.unusedSimpArgs false
namespace Go.Proofs.YtaekpfhgdnfciaaDoor.Img
open Go.RowKit Go.Proofs.YtaekpfhgdnfciaaDoor.F Go.Proofs.YtaekpfhgdnfciaaDoor.F.Nums Go.Proofs.YtaekpfhgdnfciaaDoor.O Go.Proofs.YtaekpfhgdnfciaaDoorW.PrintWords Go.Proofs.YtaekpfhgdnfciaaDoorW.PrintLast Go.Proofs.YtaekpfhgdnfciaaDoorW.PrintMore Go.Proofs.YtaekpfhgdnfciaaDoor.Plain
end Go.Proofs.YtaekpfhgdnfciaaDoor.Img
end

section
/- Whether sectors have nothing behind an end. Plain. -/
set_option linter.unusedVariables false
set_option linter.unusedSimpArgs false
namespace Go.Proofs.YtaekpfhgdnfciaaDoor.Img
open Go.RowKit Go.Proofs.YtaekpfhgdnfciaaDoor.F Go.Proofs.YtaekpfhgdnfciaaDoor.F.Nums Go.Proofs.YtaekpfhgdnfciaaDoor.O Go.Proofs.YtaekpfhgdnfciaaDoorW.PrintWords Go.Proofs.YtaekpfhgdnfciaaDoorW.PrintLast Go.Proofs.YtaekpfhgdnfciaaDoorW.PrintMore Go.Proofs.YtaekpfhgdnfciaaDoor.Plain
end Go.Proofs.YtaekpfhgdnfciaaDoor.Img
end

section
/- The operation that slices an array in memory. -/
set_option linter.unusedVariables false
set_option linter.unusedSimpArgs false
namespace Go.Proofs.YtaekpfhgdnfciaaDoor.O
open Go.RowKit Go.Proofs.YtaekpfhgdnfciaaDoorW.PrintWords Go.Proofs.YtaekpfhgdnfciaaDoorW.PrintLast Go.Proofs.YtaekpfhgdnfciaaDoorW.PrintMore Go.Proofs.YtaekpfhgdnfciaaDoor.F Go.Proofs.YtaekpfhgdnfciaaDoor.F.Nums Go.Proofs.YtaekpfhgdnfciaaDoor.Plain
section
variable {P : Program} {o : Oper} {a : Act} {t e : TypeId} {N g : Nat}
end
end Go.Proofs.YtaekpfhgdnfciaaDoor.O
end

section
/- scan.Rest, by what is owned. -/
set_option linter.unusedVariables false
set_option linter.unusedSimpArgs false
namespace Go.Proofs.YtaekpfhgdnfciaaDoor.O
open Go.RowKit Go.Proofs.YtaekpfhgdnfciaaDoorW.PrintWords Go.Proofs.YtaekpfhgdnfciaaDoorW.PrintLast Go.Proofs.YtaekpfhgdnfciaaDoorW.PrintMore Go.Proofs.YtaekpfhgdnfciaaDoor.F Go.Proofs.YtaekpfhgdnfciaaDoor.F.Nums Go.Proofs.YtaekpfhgdnfciaaDoor.Plain
attribute [local go_sem] max2_int min2_int max_two min_two max_three min_three max_four min_four
end Go.Proofs.YtaekpfhgdnfciaaDoor.O
end

section
/- scan.Scan, by what is owned. -/
set_option linter.unusedVariables false
set_option linter.unusedSimpArgs false
namespace Go.Proofs.YtaekpfhgdnfciaaDoor.O
open Go.RowKit Go.Proofs.YtaekpfhgdnfciaaDoorW.PrintWords Go.Proofs.YtaekpfhgdnfciaaDoorW.PrintLast Go.Proofs.YtaekpfhgdnfciaaDoorW.PrintMore Go.Proofs.YtaekpfhgdnfciaaDoor.F Go.Proofs.YtaekpfhgdnfciaaDoor.F.Nums Go.Proofs.YtaekpfhgdnfciaaDoor.Plain
attribute [local go_sem] max2_int min2_int max_two min_two max_three min_three max_four min_four
theorem Drs.rd {w W : World} {F : Nat → Option Obj} {L D : List Res} {recs : List (List Int)} {cells : List Value} (h : Drs recs cells D) (H : Own w F L W) (hD : ∀ r ∈ D,r ∈ L) (j : Nat) (hlt : j < recs.length) :
  ∃ A2 c2,cells[j]? = some (.slice A2 (recs.getD j []).length c2) ∧ (recs.getD j []).length ≤ c2 ∧ (∀ W,Own w F L W → (Kd.int .u8).C W A2 (recs.getD j []).length (recs.getD j [])) := by
 obtain ⟨A2,c2,h1,h2,h3⟩ := h.2 j hlt
 refine ⟨A2,c2,h1,h2,fun W H => ?_⟩
 generalize recs.getD j [] = p at *
 by_cases h0 : 0 < p.length
 ·have hat := H.ats _ (hD _ (h3 h0))
  have hR : Kd.R (Kd.int .u8) 5 W w.heap.size (fun _ => True) (.slice A2 p.length c2) p := Kd.R_of_own hat (fun _ _ => trivial)
  obtain ⟨A6,c6,e6,l6,C6⟩ := Kd.R_reads hR
  injection e6 with e7
  rw [e7]
  exact C6
 ·obtain rfl : p = [] := List.eq_nil_of_length_eq_zero (by omega)
  exact ⟨rfl,by simp,fun h => absurd h (by simp)⟩
/-- what is read of the records -/
theorem Drs.C {w W : World} {F : Nat → Option Obj} {L D : List Res} {recs : List (List Int)} {cells : List Value} {A : Option Addr} {cr : Nat} {c : Res → List Res} (h : Drs recs cells D) (H : Own w F L W) (hI : In L (.row (.slice A recs.length cr) 38 1 recs.length cells) c) (hD : ∀ r ∈ D,r ∈ L) (hm : recs.length ≤ 1000) :
  (Kd.slice 5 (Kd.int .u8)).C W A recs.length recs := by
 refine ⟨rfl,by omega,fun hp => ?_⟩
 obtain ⟨ad,rfl,hc⟩ := (H.rd hI).1 (by rw [h.1];exact hp)
 refine ⟨ad,rfl,fun j p hj => ?_⟩
 have hlt := (List.getElem?_eq_some_iff.1 hj).1
 obtain ⟨A2,c2,h1,h2,h3⟩ := h.rd H hD j hlt
 have hpp : recs.getD j [] = p := by rw [List.getD_eq_getElem?_getD,hj];rfl
 rw [hpp] at h1 h2 h3
 refine ⟨[.slice A2 p.length c2],rfl,⟨A2,c2,rfl,h2,h3 W H⟩,fun i u hu => ?_⟩
 have hi : i = 0 := by have := (List.getElem?_eq_some_iff.1 hu).1;simpa using this
 subst hi
 simp at hu
 subst hu
 show W.cell? (ad.add (j * 1 + 0)) = _
 rw [Nat.mul_one,Nat.add_zero]
 exact hc j _ h1
end Go.Proofs.YtaekpfhgdnfciaaDoor.O
end

section
/- The reference's Sectors, by what is owned. -/
set_option linter.unusedVariables false
set_option linter.unusedSimpArgs false
namespace Go.Proofs.YtaekpfhgdnfciaaDoor.O
open Go.RowKit Go.Proofs.YtaekpfhgdnfciaaDoorW.PrintWords Go.Proofs.YtaekpfhgdnfciaaDoorW.PrintLast Go.Proofs.YtaekpfhgdnfciaaDoorW.PrintMore Go.Proofs.YtaekpfhgdnfciaaDoor.F Go.Proofs.YtaekpfhgdnfciaaDoor.F.Nums Go.Proofs.YtaekpfhgdnfciaaDoor.Plain
set_option maxRecDepth 100000 in
set_option maxHeartbeats 4000000 in
theorem rsectors_yes (e64 : Int) (l : List (List Int)) (A : Option Addr) (c : Nat) (w : World) (b : Nat) (h : Img.layAll e64 l = true) (ht : tch (cl 0) (cl (Img.laySt e64 l l.length).2) = (((0 : Nat) : Int),(b : Int))) (hb : b ≤ 16) (he : 0 ≤ e64 ∧ e64 ≤ 18446744073709551615) (hl : ∀ x ∈ l,Bytes x)
  (hll : ∀ x ∈ l,x.length ≤ 140737488355328) (hn : l.length ≤ 9000000000000) (hC : (Kd.slice 5 (Kd.int .u8)).C w A l.length l) (hc : l.length ≤ c) :
  Calls Tryd.prog 15 #[.int .u64 e64,.slice A l.length c] w fun e W => ∃ v,e = .returned (.tuple #[v,.bool true]) ∧ W.ownsRow w.heap.size 51 64 v 16 (nums .u8 (flatW e64 (Img.laySt e64 l l.length).1 b 16)) ∧ Below w.heap.size w W := by
 have H := Own.start w
 have hR := Img.rlay_eq (7000 + l.length) e64 l he.1 hl hll hn (Nat.le_refl _)
 unfold Img.layR at hR
 rw [if_pos h] at hR
 have BC := fun W h1 => strandlineref17_Lay.calls (7000 + l.length) e64 A c l _ _ _ _ W h1 hc hR
 have hbl := Img.laySt_len e64 l l.length
 have WC := fun A1 c1 W h1 (h2 : 832 ≤ c1) => rwhole_calls e64 he.1 he.2 (Img.laySt e64 l l.length).1 (Img.laySt e64 l l.length).2 b ht hb A1 c1 W h1 (by omega) (by omega)
 rw [hbl] at WC
 generalize flatW e64 (Img.laySt e64 l l.length).1 b 16 = fl at *
 clear ht h hR
 generalize Img.layPl e64 l l.length = pl at *
 generalize (Img.laySt e64 l l.length).1 = body at *
 generalize (Img.laySt e64 l l.length).2 = en at *
 generalize l.length = n at *
 go_enter Tryd.func15,Tryd.ntmps15
 go_wp2_with (first
 |(go_at_call 17;(with_reducible refine (BC _ (Kd.C_below hC H.below)).mono ?_);rintro e W ⟨v6,v7,rfl,hR6,hR7,hb⟩;replace H := H.to hb;obtain ⟨A6,c6,rfl,hl6,C6⟩ := Kd.R_reads hR6;rw [hbl] at hl6 C6 ⊢;clear hb hR6 hR7)
 |(go_at_call 35;(with_reducible refine (WC _ _ _ C6 hl6).mono ?_);rintro e W ⟨v4,rfl,ho,hb'⟩;replace H := H.addRow hb' ho;clear ho hb'))
 go_ret2
 exact ⟨_,rfl,H.at_ .head,H.below⟩
end Go.Proofs.YtaekpfhgdnfciaaDoor.O
end

section
/- The statement's own function. Turned out of what the kit's print told for this seat. -/
namespace Go.Proofs.YtaekpfhgdnfciaaDoor.F
open Go.RowKit Go.Proofs.YtaekpfhgdnfciaaDoorW.PrintWords Go.Proofs.YtaekpfhgdnfciaaDoorW.PrintLast Go.Proofs.YtaekpfhgdnfciaaDoorW.PrintMore
attribute [local go_sem high] eqA83
attribute [local go_sem] field83_0
attribute [local go_sem] field83_1
attribute [local go_sem] max2_int min2_int max_two min_two max_three min_three max_four min_four
set_option linter.unusedVariables false
set_option linter.unusedSimpArgs false
/-! ### strandlinelaw19_Few: function 16 -/
def strandlinelaw19_Few.l0 : Nat → List (List Int) → Int → Option (Bool)
 |0,_,_ => none
 |k + 1,x0,x3 => if x3 < (x0.length : Int) then (if 0 ≤ x3 then (if ((rd_L3 x0 x3).length : Int) > 512 then (some false) else (strandlinelaw19_Few.l0 k x0 (wrap64 (x3 + 1)))) else (none)) else (some (decide ((x0.length : Int) ≤ 100)))
def strandlinelaw19_Few.f (k : Nat) (l0 : List (List Int)) : Option (Bool) := strandlinelaw19_Few.l0 k l0 0
set_option maxHeartbeats 8000000 in
set_option maxRecDepth 100000 in
theorem strandlinelaw19_Few.calls (k : Nat) (A0 : Option Addr) (c0 : Nat) (l0 : List (List Int)) (r : Bool) (w : World) (hr0 : Kd.C (Kd.slice 5 (Kd.int .u8)) w A0 l0.length l0) (hc0 : l0.length ≤ c0) (h : strandlinelaw19_Few.f k l0 = some r) :
  Calls Tryd.prog 16 #[.slice A0 l0.length c0] w fun e w' => e = .returned (.bool r) ∧ Drawn0 w w' := by
 have hu73 := Tryd.underlying73
 have hu76 := Tryd.underlying76
 have hu83 := Tryd.underlying83
 have hu94 := Tryd.underlying94
 have hu106 := Tryd.underlying106
 have HR0 := Aside0.mk hr0
 have HC0 := Aside0.mk hc0
 clear hr0 hc0
 have H : (strandlinelaw19_Few.l0 k l0 0) = some r := h
 clear h
 have H' := Aside0.mk H
 clear H
 go_enter Tryd.func16,Tryd.ntmps16
 go_wp2
 go_loopg [3] k (fun kq v3 w' => ∃ (x3_1 : Int),v3 = .int .i64 x3_1 ∧ Aside0 (strandlinelaw19_Few.l0 kq l0 x3_1 = some r) ∧ Aside0 (kq ≤ k) ∧ Drawn0 w w')
 case atStart => exact ⟨(0),(by first|rfl|(simp;done)|(simp [*];done)),H',⟨Nat.le_refl _⟩,by repeat (first|exact Drawn0.refl _|apply Drawn0.step)⟩
 case round =>
  clear H'
  try clear c1
  obtain ⟨x3_1,rfl,HA,HK1,⟨m1,rfl⟩⟩ := hrel
  cases gk with
  |zero => exact absurd HA.out (by simp [strandlinelaw19_Few.l0])
  |succ k1 =>
   have H := HA.out
   clear HA
   simp only [strandlinelaw19_Few.l0] at H
   by_cases c2 : x3_1 < (l0.length : Int)
   ·rw [if_pos c2] at H
    have c2b0 : decide (x3_1 < (l0.length : Int)) = true := decide_eq_true c2
    clear c2
    by_cases c3 : 0 ≤ x3_1
    ·rw [if_pos c3] at H
     have c3b0 : decide (0 ≤ x3_1) = true := decide_eq_true c3
     clear c3
     by_cases c4 : ((rd_L3 l0 x3_1).length : Int) > 512
     ·rw [if_pos c4] at H
      have c4b0 : decide (512 < ((rd_L3 l0 x3_1).length : Int)) = true := decide_eq_true c4
      have c4b1 : decide (512 < (rd_L3 l0 x3_1).length) = true := decide_eq_true (by omega)
      clear c4
      obtain rfl := Option.some.inj H
      have p207 : 0 ≤ (x3_1 : Int) := of_decide_eq_true (by first|(with_reducible assumption)|assumption)
      have q207 : x3_1 < (l0.length : Int) := of_decide_eq_true (by first|(with_reducible assumption)|assumption)
      obtain ⟨ad207,A207_0,c207_0,e207,hx207_0,hl207_0,hi207_0⟩ := at_L3 HR0.out x3_1 p207 q207
      cases e207
      have HR207_0 := Aside0.mk hi207_0
      have HC207_0 := Aside0.mk hl207_0
      clear hi207_0 hl207_0
      replace p207 := eq_true p207
      replace q207 := eq_true q207
      go_wp2
      go_ret
      exact ⟨by first|rfl|(simp;done)|(simp [*];done),by repeat (first|exact Drawn0.refl _|apply Drawn0.step)⟩
     ·rw [if_neg c4] at H
      have c4b0 : decide (512 < ((rd_L3 l0 x3_1).length : Int)) = false := decide_eq_false c4
      have c4b1 : decide (512 < (rd_L3 l0 x3_1).length) = false := decide_eq_false (by omega)
      clear c4
      have H' := Aside0.mk H
      clear H
      have p207 : 0 ≤ (x3_1 : Int) := of_decide_eq_true (by first|(with_reducible assumption)|assumption)
      have q207 : x3_1 < (l0.length : Int) := of_decide_eq_true (by first|(with_reducible assumption)|assumption)
      obtain ⟨ad207,A207_0,c207_0,e207,hx207_0,hl207_0,hi207_0⟩ := at_L3 HR0.out x3_1 p207 q207
      cases e207
      have HR207_0 := Aside0.mk hi207_0
      have HC207_0 := Aside0.mk hl207_0
      clear hi207_0 hl207_0
      replace p207 := eq_true p207
      replace q207 := eq_true q207
      go_wp2
      go_roundg k1
      case measure => have := HK1.out;omega
      case rel => exact ⟨(wrap64 (x3_1 + 1)),(by first|rfl|(simp;done)|(simp [*];done)),H',⟨by have := HK1.out;omega⟩,by repeat (first|exact Drawn0.refl _|apply Drawn0.step)⟩
    ·rw [if_neg c3] at H
     exact absurd H (by simp)
   ·rw [if_neg c2] at H
    have c2b0 : decide (x3_1 < (l0.length : Int)) = false := decide_eq_false c2
    clear c2
    obtain rfl := Option.some.inj H
    go_wp2
    go_ret
    exact ⟨by first|rfl|(simp;done)|(simp [*];done),by repeat (first|exact Drawn0.refl _|apply Drawn0.step)⟩
-- NOT PRINTED: function 4 (strandlinelaw19_ScanBack)
end Go.Proofs.YtaekpfhgdnfciaaDoor.F
end

section
/- What ScanBack and ScanLost share: few, what is scanned of what was laid; awake19. -/
set_option linter.unusedVariables false
set_option linter.unusedSimpArgs false
namespace Go.Proofs.YtaekpfhgdnfciaaDoor.O
open Go.RowKit Go.Proofs.YtaekpfhgdnfciaaDoorW.PrintWords Go.Proofs.YtaekpfhgdnfciaaDoorW.PrintLast Go.Proofs.YtaekpfhgdnfciaaDoorW.PrintMore Go.Proofs.YtaekpfhgdnfciaaDoor.F Go.Proofs.YtaekpfhgdnfciaaDoor.F.Nums Go.Proofs.YtaekpfhgdnfciaaDoor.Plain
theorem few_l (l : List (List Int)) (hl : l.length ≤ 9000000000000) (d : Nat) : ∀ (k i : Nat),i + d = l.length → d < k → strandlinelaw19_Few.l0 k l (i : Int) = some ((l.drop i).all (fun x => decide (x.length ≤ 512)) && decide (l.length ≤ 100)) := by
 induction d with
 |zero =>
  intro k i h hk
  obtain ⟨k,rfl⟩ : ∃ j,k = j + 1 := ⟨k - 1,by omega⟩
  simp only [strandlinelaw19_Few.l0]
  rw [if_neg (by omega),List.drop_of_length_le (by omega)]
  have : decide ((l.length : Int) ≤ 100) = decide (l.length ≤ 100) := by rw [decide_eq_decide];omega
  rw [this]
  rfl
 |succ d ih =>
  intro k i h hk
  obtain ⟨k,rfl⟩ : ∃ j,k = j + 1 := ⟨k - 1,by omega⟩
  have hlt : i < l.length := by omega
  have hx : rd_L3 l (i : Int) = l[i] := by unfold rd_L3;rw [Int.toNat_natCast,List.getD_eq_getElem?_getD,List.getElem?_eq_getElem hlt];rfl
  simp only [strandlinelaw19_Few.l0]
  rw [if_pos (by omega),if_pos (by omega),hx,List.drop_eq_getElem_cons hlt,List.all_cons]
  by_cases h5 : l[i].length ≤ 512
  ·rw [if_neg (by omega),w64 (by omega) (by omega),decide_eq_true h5,Bool.true_and]
   exact ih k (i + 1) (by omega) (by omega)
  ·rw [if_pos (by omega),decide_eq_false h5]
   rfl
theorem few19_calls (l : List (List Int)) (A : Option Addr) (c : Nat) (w : World) (hC : (Kd.slice 5 (Kd.int .u8)).C w A l.length l) (hc : l.length ≤ c) (hl : l.length ≤ 9000000000000) :
  Calls Tryd.prog 16 #[.slice A l.length c] w fun e W => e = .returned (.bool (l.all (fun x => decide (x.length ≤ 512)) && decide (l.length ≤ 100))) ∧ Below w.heap.size w W :=
 (strandlinelaw19_Few.calls (l.length + 1) A c l _ w hC hc (by have := few_l l hl l.length (l.length + 1) 0 (by omega) (by omega);rwa [List.drop_zero] at this)).mono (by rintro e W ⟨rfl,hd⟩;exact ⟨rfl,hd.below⟩)
theorem C_rows_at {w : World} {A : Option Addr} {n : Nat} {l : List (List Int)} (h : Kd.C (Kd.slice 5 (Kd.int .u8)) w A n l) (k : Nat) (hk : k < n) :
  ∃ ad A2 c2,A = some ad ∧ w.cell? (ad.add k) = some (.slice A2 (l.getD k []).length c2) ∧ (l.getD k []).length ≤ c2 ∧ (Kd.int .u8).C w A2 (l.getD k []).length (l.getD k []) := by
 obtain ⟨ad,c,e,_,hK,hc0⟩ := Kd.C_get h [] (k : Int) (by omega) (by omega)
 obtain ⟨A2,c2,rfl,l2,g2⟩ := hK
 have := hc0 0 _ rfl
 rw [Int.toNat_natCast] at this l2 g2
 simp only [Kd.slice,Nat.mul_one,Nat.add_zero] at this
 exact ⟨ad,A2,c2,e,by simpa using this,l2,g2⟩
theorem r_loadCell4 {P : Program} {o : Oper} {a : Act} {W : World} {p : Addr} {v : Value} (ty : TypeId) (x : Operand) (ho : o.op = .load ty x) (hx : a.eval x = .pointer (some p)) (hc : W.cell? p = some v) (d : TypeDesc) (hu : P.underlying ty = some d) (hd : d.isRow = false) :
  (execOp a.eval o).run P W = .ok (.value v) W := by
 have hag : (isAgg ty).run P W = .ok false W := by
  unfold isAgg
  rw [Sem.run_bind,run_underlying hu W]
  cases d <;> simp_all
 unfold execOp
 simp [ho,hx,Instr.loadAt,Instr.sureAddr,loadVar,hag,hc]
end Go.Proofs.YtaekpfhgdnfciaaDoor.O
end
