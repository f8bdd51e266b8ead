/- Texts of mine put together: Each, BodyP, Places, Clash, Free, Awake20, TearScans, TearNearM. -/
import Derived.Test.YtaekpfhgdnfciaaDoorPkTearNear15
import Derived.Test.YtaekpfhgdnfciaaDoorPkTearNear11
import Derived.Shelf.Abstract
import Derived.Test.YtaekpfhgdnfciaaDoorPkTearNear14
import Derived.Test.YtaekpfhgdnfciaaDoorPkTearNear13
set_option linter.unusedVariables false
set_option linter.unusedSimpArgs false
open Go.RowKit Go.Proofs.YtaekpfhgdnfciaaDoorW.PrintWords Go.Proofs.YtaekpfhgdnfciaaDoorW.PrintLast Go.Proofs.YtaekpfhgdnfciaaDoorW.PrintMore

section
namespace Go.Proofs.YtaekpfhgdnfciaaDoor.O
open Go.Proofs.YtaekpfhgdnfciaaDoor.F Go.Proofs.YtaekpfhgdnfciaaDoor.F.Nums Go.Proofs.YtaekpfhgdnfciaaDoor.Plain Go.Proofs.YtaekpfhgdnfciaaDoor.Img
attribute [local go_sem] Oper.semAt_some
section
variable {P : Program} {n : Nat} {ops : Array Oper} {Q : Exit → Act → World → Prop}
end
theorem image_each_own {w0 W : World} {F : Nat → Option Obj} {L : List Res} (H : Own w0 F L W) (e64 : Int) (A : Option Addr) (m c : Nat) :
  Calls Tryd.prog 64 #[.int .u64 e64,.slice A m c] W fun e W' => ∃ ge gl,e = .returned (.func (.func 80) #[] #[.pointer (some ⟨gl,0,none⟩),.pointer (some ⟨ge,0,none⟩)]) ∧ Own w0 F (.blk gl 25 [.slice A m c] :: .blk ge 22 [.int .u64 e64] :: L) W' := by
 go_enter Tryd.func64,Tryd.ntmps64
 go_wp2_with (first
  |((with_reducible refine gate_dst (N := 2) rfl ?_);refine l_box1 rfl H 22 _ rfl _ rfl rfl ?_;clear H;intro g2 W H)
  |((with_reducible refine gate_dst (N := 3) rfl ?_);refine l_box1 rfl H 25 _ rfl _ rfl rfl ?_;clear H;intro g3 W H))
 go_ret
 exact ⟨_,_,rfl,H⟩
theorem Own.join1 {w0 W W' : World} {F : Nat → Option Obj} {L : List Res} {r : Res} (H : Own w0 F L W) (h : Own W F0 [r] W') : Own w0 F (r :: L) W' := by
 have ha := h.ats r (by simp)
 refine H.cons h.below ?_ (fun k hk => ha.base hk)
 cases r with
 |blk g t c => exact ⟨Nat.le_trans H.size ha.1,ha.2⟩
 |row v e sz n xs => exact own_weaken ha H.size
theorem rec_at {w : World} {A : Option Addr} {n : Nat} {l : List (List Int)} (h : Kd.C (Kd.slice 5 (Kd.int .u8)) w A n l) (k : Nat) (hk : k < n) :
  ∃ ad A2 c2,A = some ad ∧ w.cell? (ad.add k) = some (.slice A2 (l.getD k []).length c2) ∧ (l.getD k []).length ≤ c2 ∧ (Kd.int .u8).C w A2 (l.getD k []).length (l.getD k []) := by
 obtain ⟨ad,c,e,_,hK,hc0⟩ := Kd.C_get h [] (k : Int) (by omega) (by omega)
 obtain ⟨A2,c2,rfl,l2,g2⟩ := hK
 have := hc0 0 _ rfl
 rw [Int.toNat_natCast] at this l2 g2
 exact ⟨ad,A2,c2,e,by rw [show (Kd.slice 5 (Kd.int .u8)).sz = 1 from rfl,Nat.mul_one,Nat.add_zero] at this;exact this,l2,g2⟩
abbrev sl832 (g : Nat) : Value := .slice (some ⟨g,0,none⟩) 832 832
def EIt (e64 : Int) (l : List (List Int)) (A : Option Addr) (c gl ge gx gb : Nat) (a b : Int) (body : List Int) (L : List Res) : List Res :=
 .blk gx 123 [.int .i64 a,.int .i64 b,sl832 gb] :: .blk gb 5 (nums .u8 body) :: .blk gl 25 [.slice A l.length c] :: .blk ge 22 [.int .u64 e64] :: L
set_option maxRecDepth 100000 in
set_option maxHeartbeats 8000000 in
theorem each1_in (e64 : Int) (l : List (List Int)) (A : Option Addr) (c n lp gl ge N : Nat) {w0 W : World} {F1 : Nat → Option Obj} {L0 : List Res} (he : 0 ≤ e64 ∧ e64 ≤ 18446744073709551615) (hl : ∀ x ∈ l,Bytes x) (hll : ∀ x ∈ l,x.length < 140737488355328) (hn : l.length ≤ 1000000)
  (hC : (Kd.slice 5 (Kd.int .u8)).C w0 A l.length l) (hH : Half w0) (hN : ∀ k,k < N → layOk e64 l k = true) (hNl : N ≤ l.length) (hstop : N = l.length ∨ layOk e64 l N = false)
  (RC : Nat → Nat → List Res → Prop) (KF : World → Prop) (h0 : ∀ gb,RC 0 gb L0)
  (hY : ∀ k gx gb gb' L W,k < N → RC k gb L → Own w0 F1 (EIt e64 l A c gl ge gx gb' (layAt e64 l k) (laySt e64 l (k + 1)).2 (laySt e64 l (k + 1)).1 L) W →
   YieldAt Fence.wide n Tryd.prog lp #[.agg #[.int .i64 (layAt e64 l k),.int .i64 (laySt e64 l (k + 1)).2,sl832 gb']] W fun e W' => e = .returned (.bool true) ∧ ∃ L',RC (k + 1) gb' L' ∧ Own w0 F1 (EIt e64 l A c gl ge gx gb' (layAt e64 l k) (laySt e64 l (k + 1)).2 (laySt e64 l (k + 1)).1 L') W')
  (hYF : N < l.length → ∀ gx gb L W,RC N gb L → Own w0 F1 (.blk gx 123 [.int .i64 (layAt e64 l N),.int .i64 0,.slice none 0 0] :: .blk gl 25 [.slice A l.length c] :: .blk ge 22 [.int .u64 e64] :: L) W →
   YieldAt Fence.wide n Tryd.prog lp #[.agg #[.int .i64 (layAt e64 l N),.int .i64 0,.slice none 0 0]] W fun e W' => (∃ b,e = .returned (.bool b)) ∧ KF W')
  (H : Own w0 F1 (.blk gl 25 [.slice A l.length c] :: .blk ge 22 [.int .u64 e64] :: L0) W) :
  CallsIn Fence.wide n Tryd.prog 80 #[.func (.yield lp) #[] #[],.pointer (some ⟨gl,0,none⟩),.pointer (some ⟨ge,0,none⟩)] W fun e W' => (∃ v,e = .returned v) ∧
   ((N = l.length ∧ ∃ gx gb a L,RC N gb L ∧ Own w0 F1 (EIt e64 l A c gl ge gx gb a (laySt e64 l N).2 (laySt e64 l N).1 L) W') ∨ (N < l.length ∧ KF W')) := by
 refine callsIn_of_wp Tryd.func80 rfl trivial ?_ rfl
 simp only [Tryd.ntmps80,List.size_toArray,List.length_cons,List.length_nil,Nat.reduceAdd,Nat.reduceSub,Array.replicate_succ,Array.replicate_zero,List.push_toArray,List.append_toArray,List.nil_append,List.cons_append]
 refine wpIn_seq_k (fun K hK => ?_)
 refine wpIn_wide.2 ?_
 go_wp2_with (first
  |((with_reducible refine gate_dst (N := 4) rfl ?_);refine l_allocA rfl H 123 rfl _ zero123 ?_;clear H;intro g4 W H)
  |((with_reducible refine gate_store (t := 123) (p := 4) rfl ?_);refine l_storeW rfl H 123 _ _ rfl _ rfl _ rfl (by repeat constructor) _ size123 (by first|rfl|assumption|omega|(simp only [nums_length];omega)|simp [nums_length,zs] <;> omega) (by first|rfl|assumption|omega|(simp only [nums_length];omega)|simp [nums_length,zs] <;> omega) (by first|exact nums_one|assumption|exact on1_ rfl) ?_;clear H;intro W H)
  |((with_reducible refine gate_dst (N := 11) rfl ?_);refine l_make1 rfl H 38 5 _ _ rfl 832 rfl rfl Tryd.underlying38 _ rfl _ inf5 (by decide) (by decide) ?_;clear H;intro gb W H;rw [show List.replicate 832 (Value.int .u8 0) = nums .u8 (zs 832) by simp [nums,zs]] at H))
 simp only [Act.put,List.setIfInBounds_toArray,List.set_cons_zero,List.set_cons_succ]
 refine wpIn_seq_k (fun K2 hK2 => ?_)
 refine wpIn_wide.2 ?_
 go_wp2_with (first
  |((with_reducible refine gate_dst (N := 13) rfl ?_);refine l_load1 rfl H 25 _ rfl _ _ rfl (by repeat constructor) _ Tryd.underlying25 rfl _ (by first|rfl|assumption|exact nums_at _ (by omega)) ?_))
 generalize g4 = gx at H ⊢
 have HE : Own w0 F1 (EIt e64 l A c gl ge gx gb 0 (laySt e64 l 0).2 (laySt e64 l 0).1 L0) W := H
 clear H
 refine wpIn_block ?_
 gi_loopw [15] (fun p wr => ∃ (k gb : Nat) (a : Int) (L : List Res),p = .int .i64 (k : Int) ∧ k ≤ N ∧ RC k gb L ∧ Own w0 F1 (EIt e64 l A c gl ge gx gb a (laySt e64 l k).2 (laySt e64 l k).1 L) wr) (fun p _ => l.length - (intOf p).toNat)
 case atStart => exact ⟨0,gb,0,L0,rfl,Nat.zero_le _,h0 gb,HE⟩
 case round =>
  clear HE
  obtain ⟨k,gb,a,L,rfl,hk,hRC,H⟩ := hrel
  unfold EIt at H
  by_cases ck : k < l.length
  ·have q1 : decide (k < l.length) = true := decide_eq_true (by omega)
   have p1 : ((0 : Int) ≤ (k : Int)) = True := eq_true (by omega)
   have p2 : ((k : Int) < (l.length : Int)) = True := eq_true (by omega)
   obtain ⟨ad,A2,c2,rfl,hcell,l2,C2⟩ := rec_at hC k ck
   have hmem : l.getD k [] ∈ l := by rw [List.getD_eq_getElem?_getD,List.getElem?_eq_getElem ck];exact List.getElem_mem ck
   obtain ⟨rk,hrk⟩ : ∃ r,l.getD k [] = r := ⟨_,rfl⟩
   rw [hrk] at hcell l2 C2 hmem
   have hcl : ∀ X : World,Below w0.heap.size w0 X → X.cell? (ad.add k) = some (.slice A2 rk.length c2) := fun X hb => (hb.cell (World.block_lt_of_cell? w0 _ hcell)).trans hcell
   have hbg := begin_eq (laySt e64 l k).2
   have hbl := laySt_len e64 l k
   have hbb := laySt_bytes e64 l hl k
   refine wpIn_seq_k (fun K3 hK3 => ?_)
   refine wpIn_wide.2 ?_
   go_wp2
   refine wpIn_seq_k (fun K4 hK4 => ?_)
   refine wpIn_cond_true rfl ?_
   refine wpIn_skip (hK4 _ _ ?_)
   refine wpIn_seq_k (fun K5 hK5 => ?_)
   refine wpIn_block ?_
   refine wpIn_seq_k (fun K6 hK6 => ?_)
   refine wpIn_wide.2 ?_
   go_wp2_with (first
    |((with_reducible refine gate_dst (N := 18) rfl ?_);refine l_run rfl (.slice A2 rk.length c2) (r_loadC 38 _ rfl rfl (hcl _ H.below) _ Tryd.underlying38 rfl) ?_))
   refine wpIn_seq_k (fun K7 hK7 => ?_)
   refine wpIn_wide.2 ?_
   go_wp2_with (first
  |((with_reducible refine gate_dst (N := 20) rfl ?_);refine l_load1 rfl H 3 _ rfl _ _ rfl (by repeat constructor) _ Tryd.underlying3 rfl _ (by first|rfl|assumption|exact nums_at _ (by omega)) ?_)
    |(go_at_call 47;(with_reducible refine (span_Begin.calls _ _ _ hbg).mono ?_);rintro e W ⟨rfl,hb⟩;replace H := H.to hb;clear hb))
   refine wpIn_seq_k (fun K8 hK8 => ?_)
   refine wpIn_wide.2 ?_
   by_cases cN : k < N
   ·have hok := hN k cN
    unfold layOk at hok
    rw [← cutP_begin,hrk] at hok
    have hst1 : (laySt e64 l (k + 1)).1 = addB e64 (laySt e64 l k).1 (bg (cl (laySt e64 l k).2)) rk := by rw [← hrk];exact (addB_begin _ _ _ _).symm
    have hst2 : (laySt e64 l (k + 1)).2 = (cutP (bg (cl (laySt e64 l k).2)) (rk.length : Int)).2.1 := by rw [cutP_begin,← hrk];rfl
    have AD := fun (X : World) (hCb : (Kd.int .u8).C X (some ⟨gb,0,none⟩) (laySt e64 l k).1.length (laySt e64 l k).1) (hb : Below w0.heap.size w0 X) => add_ok e64 (laySt e64 l k).1 rk (some ⟨gb,0,none⟩) A2 832 c2 (bg (cl (laySt e64 l k).2)) X hok hCb (by rw [hbl];decide) hbb (Kd.C_below C2 hb) l2 (hl _ hmem) (hll _ hmem) (hH.below hb)
    rw [← hst1,← hst2,hbl] at AD
    have hCb : ∀ {X : World} {L' : List Res} {cc : Res → List Res},Own w0 F1 L' X → In L' (.blk gb 5 (nums .u8 (laySt e64 l k).1)) cc → (Kd.int .u8).C X (some ⟨gb,0,none⟩) 832 (laySt e64 l k).1 := fun HX hI => by
     have := HX.C hI 0 832 (by rw [hbl];decide) (by decide)
     rwa [List.drop_zero,List.take_of_length_le (by rw [hbl];decide)] at this
    have hYk := hY k gx gb
    rw [show layAt e64 l k = bg (cl (laySt e64 l k).2) from rfl] at hYk
    have HREL : ∀ (X : World) (gb1 : Nat) (a : Int) (L' : List Res),RC (k + 1) gb1 L' → Own w0 F1 (EIt e64 l (some ad) c gl ge gx gb1 a (laySt e64 l (k + 1)).2 (laySt e64 l (k + 1)).1 L') X → ∃ (k' gb : Nat) (a : Int) (L : List Res),Value.int .i64 ((k + 1 : Nat) : Int) = .int .i64 (k' : Int) ∧ k' ≤ N ∧ RC k' gb L ∧ Own w0 F1 (EIt e64 l (some ad) c gl ge gx gb a (laySt e64 l k').2 (laySt e64 l k').1 L) X := fun X gb1 a L' hR HX => ⟨k + 1,gb1,a,L',rfl,cN,hR,HX⟩
    clear hstop hcl hok hbg hN
    generalize bg (cl (laySt e64 l k).2) = atk at *
    generalize hen1 : (laySt e64 l (k + 1)).2 = en1 at *
    generalize hB1 : (laySt e64 l (k + 1)).1 = bd1 at *
    generalize (laySt e64 l k).2 = en0 at *
    generalize (laySt e64 l k).1 = bd0 at *
    generalize hln : rk.length = nk at *
    clear hrk hst1 hst2 hen1 hB1 hln
    go_wp2_with (first
  |((with_reducible refine gate_dst (N := 23) rfl ?_);refine l_load1 rfl H 22 _ rfl _ _ rfl (by repeat constructor) _ Tryd.underlying22 rfl _ (by first|rfl|assumption|exact nums_at _ (by omega)) ?_)
  |((with_reducible refine gate_dst (N := 25) rfl ?_);refine l_load1 rfl H 38 _ rfl _ _ rfl (by repeat constructor) _ Tryd.underlying38 rfl _ (by first|rfl|assumption|exact nums_at _ (by omega)) ?_)
    |(go_at_call 81;(with_reducible refine (AD _ (hCb H (.tail .head)) H.below).mono ?_);rintro e W ⟨gb1,rfl,hO⟩;replace H := H.join1 hO;clear hO))
    refine wpIn_seq_k (fun K9 hK9 => ?_)
    refine wpIn_wide.2 ?_
    go_wp2_with (first
  |((with_reducible refine gate_store (t := 123) (p := 4) rfl ?_);refine l_storeW rfl H 123 _ _ rfl _ rfl _ rfl (by repeat constructor) _ size123 (by first|rfl|assumption|omega|(simp only [nums_length];omega)|simp [nums_length,zs] <;> omega) (by first|rfl|assumption|omega|(simp only [nums_length];omega)|simp [nums_length,zs] <;> omega) (by first|exact nums_one|assumption|exact on1_ rfl) ?_;clear H;intro W H))
    simp only [Act.put,List.setIfInBounds_toArray,List.set_cons_zero,List.set_cons_succ]
    have H1 := (H.del (.tail (.tail .head))).perm (List.Perm.swap _ _ _)
    have H2 : Own w0 F1 (EIt e64 l (some ad) c gl ge gx gb1 atk en1 bd1 L) W := H1
    clear H H1 AD hCb
    have hyl := hYk gb1 L W cN hRC H2
    have c0 := H2.cell .head 0
    have c1 := H2.cell .head 1
    have c2 := H2.cell .head 2
    obtain ⟨fn,tmps,assign,body,hy,hR⟩ := hyl
    refine wpIn_seq_k (fun K10 hK10 => ?_)
    gi_wp2
    refine ⟨fun h => by simp [Fence.wide] at h,(RoundIn.mono (⟨hR.1,fun c cs _ => hR.2 c cs (room_wide _)⟩ : RoundIn Fence.wide (n - 1) Tryd.prog lp fn tmps assign body _ _) ?_)⟩
    rintro e W3 ⟨rfl,L',hRC',H3⟩
    gi_wp2
    refine ⟨HREL _ _ _ _ hRC' H3,?_⟩
    have := ck
    simp [intOf]
    omega
   ·obtain rfl : k = N := by omega
    have hno : layOk e64 l k = false := hstop.resolve_left (by omega)
    unfold layOk at hno
    rw [← cutP_begin,hrk] at hno
    have AD := fun (X : World) => add_no e64 (laySt e64 l k).1 rk (some ⟨gb,0,none⟩) A2 832 c2 (bg (cl (laySt e64 l k).2)) X hno
    rw [hbl] at AD
    have hYk := hYF ck gx gb
    rw [show layAt e64 l k = bg (cl (laySt e64 l k).2) from rfl] at hYk
    clear hstop hcl hno hbg hN hrk hY
    generalize bg (cl (laySt e64 l k).2) = atk at *
    generalize (laySt e64 l k).2 = en0 at *
    generalize (laySt e64 l k).1 = bd0 at *
    generalize hln : rk.length = nk at *
    clear hln
    go_wp2_with (first
  |((with_reducible refine gate_dst (N := 23) rfl ?_);refine l_load1 rfl H 22 _ rfl _ _ rfl (by repeat constructor) _ Tryd.underlying22 rfl _ (by first|rfl|assumption|exact nums_at _ (by omega)) ?_)
  |((with_reducible refine gate_dst (N := 25) rfl ?_);refine l_load1 rfl H 38 _ rfl _ _ rfl (by repeat constructor) _ Tryd.underlying38 rfl _ (by first|rfl|assumption|exact nums_at _ (by omega)) ?_)
    |(go_at_call 81;(with_reducible refine (AD _).mono ?_);rintro e W ⟨rfl,hb⟩;replace H := H.to hb;clear hb))
    refine wpIn_seq_k (fun K9 hK9 => ?_)
    refine wpIn_wide.2 ?_
    go_wp2_with (first
  |((with_reducible refine gate_store (t := 123) (p := 4) rfl ?_);refine l_storeW rfl H 123 _ _ rfl _ rfl _ rfl (by repeat constructor) _ size123 (by first|rfl|assumption|omega|(simp only [nums_length];omega)|simp [nums_length,zs] <;> omega) (by first|rfl|assumption|omega|(simp only [nums_length];omega)|simp [nums_length,zs] <;> omega) (by first|exact nums_one|assumption|exact on1_ rfl) ?_;clear H;intro W H))
    simp only [Act.put,List.setIfInBounds_toArray,List.set_cons_zero,List.set_cons_succ]
    have H1 := H.del (.tail .head)
    have hyl := hYk L W hRC H1
    have c0 := H1.cell .head 0
    have c1 := H1.cell .head 1
    have c2 := H1.cell .head 2
    obtain ⟨fn,tmps,assign,body,hy,hR⟩ := hyl
    refine wpIn_seq_k (fun K10 hK10 => ?_)
    gi_wp2
    refine ⟨fun h => by simp [Fence.wide] at h,(RoundIn.mono (⟨hR.1,fun c cs _ => hR.2 c cs (room_wide _)⟩ : RoundIn Fence.wide (n - 1) Tryd.prog lp fn tmps assign body _ _) ?_)⟩
    rintro e W3 ⟨⟨b,rfl⟩,hKF⟩
    cases b
    all_goals
     gi_wp2
     refine bodyPost_ret (results_none rfl _ _ _) rfl ?_
     exact ⟨⟨_,rfl⟩,.inr ⟨ck,hKF⟩⟩
  ·have ek : k = l.length := by omega
   subst ek
   have eN : N = l.length := by omega
   have q1 : decide ((l.length : Int) < (l.length : Int)) = false := decide_eq_false (by omega)
   gi_wp2
   go_end0
   exact ⟨⟨_,rfl⟩,.inl ⟨eN,gx,gb,a,L,by rw [eN];exact hRC,by rw [eN];exact H⟩⟩
theorem first_bad (e64 : Int) (l : List (List Int)) : ∃ N,N ≤ l.length ∧ (∀ k,k < N → layOk e64 l k = true) ∧ (N = l.length ∨ layOk e64 l N = false) := by
 have key : ∀ m,m ≤ l.length → (∀ k,k < m → layOk e64 l k = true) ∨ ∃ N,N < m ∧ (∀ k,k < N → layOk e64 l k = true) ∧ layOk e64 l N = false := by
  intro m
  induction m with
  |zero => exact fun _ => .inl fun k hk => absurd hk (Nat.not_lt_zero k)
  |succ m ih =>
   intro hm
   rcases ih (by omega) with h|⟨N,h1,h2,h3⟩
   ·cases hc : layOk e64 l m with
    |true =>
     left
     intro k hk
     by_cases e : k = m
     ·subst e;exact hc
     ·exact h k (by omega)
    |false => exact .inr ⟨m,by omega,h,hc⟩
   ·exact .inr ⟨N,by omega,h2,h3⟩
 rcases key l.length (Nat.le_refl _) with h|⟨N,h1,h2,h3⟩
 ·exact ⟨l.length,Nat.le_refl _,h,.inl rfl⟩
 ·exact ⟨N,by omega,h2,.inr h3⟩
theorem bad_all {e64 : Int} {l : List (List Int)} {N : Nat} (h1 : N ≤ l.length) (h2 : ∀ k,k < N → layOk e64 l k = true) (h3 : N = l.length ∨ layOk e64 l N = false) : layAll e64 l = decide (N = l.length) := by
 by_cases h : N = l.length
 ·rw [decide_eq_true h]
  exact (layAll_iff e64 l).2 (fun k hk => h2 k (by omega))
 ·rw [decide_eq_false h]
  cases ha : layAll e64 l with
  |false => rfl
  |true =>
   have := (layAll_iff e64 l).1 ha N (by omega)
   rw [h3.resolve_left h] at this
   cases this
theorem loadVar_cell {P : Program} {W : World} {ty : TypeId} {p : Addr} {v : Value} {d : TypeDesc} (hu : P.underlying ty = some d) (hd : d.isRow = false) (hc : W.cell? p = some v) : (loadVar ty p).run P W = .ok v W := by
 have hag : (isAgg ty).run P W = .ok false W := by
  unfold isAgg
  rw [Sem.run_bind,run_underlying hu W]
  cases d <;> simp_all
 simp [loadVar,hag,hc]
theorem results_cell2 {fn : Func} {p q : Tmp} {tp tq : TypeId} (h : fn.results = #[.cell p tp,.cell q tq]) (tmps : Array Value) (P : Program) (W : World) {ap aq : Addr} {vp vq : Value} {dp dq : TypeDesc}
  (hp : tmps.getD p undef = .pointer (some ap)) (hq : tmps.getD q undef = .pointer (some aq)) (up : P.underlying tp = some dp) (ip : dp.isRow = false) (uq : P.underlying tq = some dq) (iq : dq.isRow = false) (cp : W.cell? ap = some vp) (cq : W.cell? aq = some vq) :
  (results fn tmps).run P W = .ok (.tuple #[vp,vq]) W := by
 have hp' : tmps[p]?.getD undef = .pointer (some ap) := by rw [← hp];simp
 have hq' : tmps[q]?.getD undef = .pointer (some aq) := by rw [← hq];simp
 simp only [results,h]
 simp [Sem.run_bind,asAddr,hp',hq',loadVar_cell up ip cp,loadVar_cell uq iq cq,-Option.getD_some]
theorem laySt_end_any (e f : Int) (l : List (List Int)) (k : Nat) : (laySt e l k).2 = (laySt f l k).2 := by
 induction k with
 |zero => rfl
 |succ k ih =>
  show (cutP (laySt e l k).2 ((l.getD k []).length : Int)).2.1 = (cutP (laySt f l k).2 ((l.getD k []).length : Int)).2.1
  rw [ih]
theorem layOk_any (e f : Int) (l : List (List Int)) (k : Nat) : layOk e l k = layOk f l k := by unfold layOk;rw [laySt_end_any e f]
theorem layAll_any (e f : Int) (l : List (List Int)) : layAll e l = layAll f l := by
 unfold layAll
 exact congrArg (fun g => (List.range l.length).all g) (funext (layOk_any e f l))
set_option maxRecDepth 100000 in
set_option maxHeartbeats 8000000 in
theorem places_calls (l : List (List Int)) (A : Option Addr) (c : Nat) (w : World) (hl : ∀ x ∈ l,Bytes x) (hll : ∀ x ∈ l,x.length < 140737488355328) (hn : l.length ≤ 1000000)
  (hC : (Kd.slice 5 (Kd.int .u8)).C w A l.length l) (hH : Half w) :
  Calls Tryd.prog 39 #[.slice A l.length c] w fun e W => (layAll 0 l = true ∧ ∃ v,e = .returned (.tuple #[v,.bool true]) ∧ Own w F0 [.row v 3 1 l.length (nums .i64 (layPl 0 l l.length))] W) ∨
   (layAll 0 l = false ∧ e = .returned (.tuple #[.slice none 0 0,.bool false]) ∧ Below w.heap.size w W) := by
 obtain ⟨N,hN1,hN2,hN3⟩ := first_bad 0 l
 rw [bad_all hN1 hN2 hN3]
 have H := Own.start w
 refine (callsIn_wide (n := 9)).1 (callsIn_of_wp_marks Tryd.func39 rfl trivial ?_ rfl)
 simp only [Tryd.ntmps39,List.size_toArray,List.length_cons,List.length_nil,Nat.reduceAdd,Nat.reduceSub,Array.replicate_succ,Array.replicate_zero,List.push_toArray,List.append_toArray,List.nil_append,List.cons_append]
 refine wpIn_seq_k (fun K hK => ?_)
 refine wpIn_wide.2 ?_
 go_wp2_with (first
  |((with_reducible refine gate_dst (N := 2) rfl ?_);refine l_alloc1 rfl H 26 rfl _ zero26 rfl ?_;clear H;intro g2 W H)
  |((with_reducible refine gate_dst (N := 3) rfl ?_);refine l_alloc1 rfl H 4 rfl _ zero4 rfl ?_;clear H;intro g3 W H))
 refine wpIn_seq_k (fun K1 hK1 => ?_)
 refine wpIn_wide.2 ?_
 go_wp2_with (first
  |((with_reducible refine gate_dst (N := 4) rfl ?_);refine l_alloc1 rfl H 26 rfl _ zero26 rfl ?_;clear H;intro g4 W H))
 refine wpIn_seq_k (fun K2 hK2 => ?_)
 refine wpIn_seq_k (fun K3 hK3 => ?_)
 refine wpIn_wide.2 ?_
 go_wp2_with (first
  |(go_at_call 64;(refine (image_each_own H 0 A l.length c).mono ?_);clear H;rintro e W ⟨ge,gl,rfl,H⟩))
 refine wpIn_block ?_
 obtain ⟨LST,hLST⟩ : ∃ LST : Nat → Value → List Res,LST = fun k v4 => [.blk g4 26 [v4],.row v4 3 1 k (nums .i64 (layPl 0 l k)),.blk g3 4 [.bool false],.blk g2 26 [.slice none 0 0]] := ⟨_,rfl⟩
 have H0 : Own w F0 (.blk gl 25 [.slice A l.length c] :: .blk ge 22 [.int .u64 0] :: LST 0 (.slice none 0 0)) W := by
  have H1 := (H.cons (r := .row (.slice none 0 0) 3 1 0 (nums .i64 (layPl 0 l 0))) (Below.refl _ _) (own_nil _ _ _ _) (fun k hk => by cases hk))
  rw [hLST]
  exact H1.perm ((List.Perm.swap _ _ _).trans (.cons _ ((List.Perm.swap _ _ _).trans (.cons _ (List.Perm.swap _ _ _)))))
 clear H
 obtain ⟨vsOf,hvs⟩ : ∃ vsOf : Bool → Nat → Value,vsOf = fun b g => if b = true then sl832 g else .slice none 0 0 := ⟨_,rfl⟩
 refine rf_gen (ι := List Res × Nat × Bool) (n := 8) rfl (Go.Proofs.enters_of Tryd.func80 (by kernel_rfl) rfl) rfl H0
  (fun i v L => i.2.1 < l.length ∧ ∃ vb gb v4,v = .agg #[.int .i64 (layAt 0 l i.2.1),.int .i64 vb,vsOf i.2.2 gb] ∧ L = i.1 ++ LST i.2.1 v4)
  (fun i v L => i.2.2 = true ∧ ∃ v4,L = i.1 ++ LST (i.2.1 + 1) v4)
  (fun i v a1 L => i.2.1 < l.length ∧ ∃ vb gb v4 g5,v = .agg #[.int .i64 (layAt 0 l i.2.1),.int .i64 vb,vsOf i.2.2 gb] ∧ a1 = { tmps := #[.slice A l.length c,undef,.pointer (some ⟨g2,0,none⟩),.pointer (some ⟨g3,0,none⟩),.pointer (some ⟨g4,0,none⟩),.pointer (some ⟨g5,0,none⟩),.slice A l.length c,.func (.func 80) #[] #[.pointer (some ⟨gl,0,none⟩),.pointer (some ⟨ge,0,none⟩)],.agg #[.int .i64 (layAt 0 l i.2.1),.int .i64 vb,vsOf i.2.2 gb],undef,undef,undef,undef,undef,undef,undef,undef,undef],defers := [] } ∧ L = .blk g5 123 [.int .i64 (layAt 0 l i.2.1),.int .i64 vb,vsOf i.2.2 gb] :: (LST i.2.1 v4 ++ i.1))
  (fun i v L => i.2.2 = false ∧ ∃ v4,L = LST i.2.1 v4 ++ i.1)
  (fun L => N = l.length ∧ ∃ gx gb a gq v4,L = EIt 0 l A c gl ge gx gb a (laySt 0 l N).2 (laySt 0 l N).1 (LST N v4) ∧ gq = gb) (fun L => N < l.length ∧ ∃ P v4,L = LST N v4 ++ P) ?hseq ?assign ?body ?done ?left
 case hseq =>
  intro F1 F2 lp W1 H1 hY
  have CN := Kd.C_below hC (Below.refl w.heap.size w)
  refine (each1_in 0 l A c 8 lp gl ge N (w0 := w) (F1 := F1) (by decide) hl hll hn hC hH hN2 hN1 hN3 (fun k gb L => ∃ v4,L = LST k v4) (fun W' => ∃ P v4,Own w F2 (LST N v4 ++ P) W') (fun gb => ⟨_,rfl⟩) ?_ ?_ H1).mono ?_
  ·rintro k gx gb gb1 L W2 hk ⟨v4,rfl⟩ HX
   obtain ⟨fn,tmps,assign,body,hy,hR⟩ := hY (EIt 0 l A c gl ge gx gb1 (layAt 0 l k) (laySt 0 l (k + 1)).2 (laySt 0 l (k + 1)).1 [],k,true) (.agg #[.int .i64 (layAt 0 l k),.int .i64 (laySt 0 l (k + 1)).2,sl832 gb1]) _ W2 ⟨by show k < l.length;omega,(laySt 0 l (k + 1)).2,gb1,v4,by rw [hvs];rfl,rfl⟩ HX
   refine ⟨fn,tmps,assign,body,hy,RoundIn.mono hR ?_⟩
   rintro e W3 (⟨rfl,L',⟨-,v4',rfl⟩,HO⟩|⟨-,L',⟨hF,-⟩,-⟩)
   ·exact ⟨rfl,LST (k + 1) v4',⟨v4',rfl⟩,HO⟩
   ·cases hF
  ·rintro hlt gx gb L W2 ⟨v4,rfl⟩ HX
   obtain ⟨fn,tmps,assign,body,hy,hR⟩ := hY ([.blk gx 123 [.int .i64 (layAt 0 l N),.int .i64 0,.slice none 0 0],.blk gl 25 [.slice A l.length c],.blk ge 22 [.int .u64 0]],N,false) (.agg #[.int .i64 (layAt 0 l N),.int .i64 0,.slice none 0 0]) _ W2 ⟨hlt,0,0,v4,by rw [hvs];rfl,rfl⟩ HX
   refine ⟨fn,tmps,assign,body,hy,RoundIn.mono hR ?_⟩
   rintro e W3 (⟨rfl,L',⟨hF,-⟩,-⟩|⟨rfl,L',⟨-,v4',rfl⟩,HO⟩)
   ·cases hF
   ·exact ⟨⟨false,rfl⟩,_,v4',HO⟩
  ·rintro e W3 ⟨hv,h⟩
   refine ⟨hv,?_⟩
   rcases h with ⟨hN,gx,gb,a,L,⟨v4,rfl⟩,HO⟩|⟨hN,P,v4,HO⟩
   ·exact .inl ⟨_,⟨hN,gx,gb,a,gb,v4,rfl,rfl⟩,HO⟩
   ·exact .inr ⟨_,⟨hN,P,v4,rfl⟩,HO⟩
 case assign =>
  rintro F1 lp ⟨P,k,b⟩ v L W ⟨hk,vb,gb,v4,rfl,rfl⟩ H1
  simp only at hk H1 ⊢
  refine regIn_lit rfl (fun ⟨_,_,h⟩ => h) ?_
  simp only [List.zip_toArray,List.zip_cons_cons,List.zip_nil_right,List.zip_nil_left,List.foldl_toArray,List.foldl_cons,List.foldl_nil,List.setIfInBounds_toArray,List.set_cons_zero,List.set_cons_succ]
  have H := H1.perm List.perm_append_comm
  clear H1
  obtain ⟨vs,hvv⟩ : ∃ vs,vsOf b gb = vs := ⟨_,rfl⟩
  have h1 : vs.oneCell' = true := by rw [← hvv,hvs];cases b <;> rfl
  have hO : ∀ u ∈ [Value.int .i64 (layAt 0 l k),Value.int .i64 vb,vs],u.oneCell' = true := by intro u hu;simp at hu;rcases hu with rfl|rfl|rfl <;> first|rfl|exact h1
  rw [hvv]
  go_wp2_with (first
  |((with_reducible refine gate_dst (N := 5) rfl ?_);refine l_allocA rfl H 123 rfl _ zero123 ?_;clear H;intro g5 W H)
  |((with_reducible refine gate_store (t := 123) (p := 5) rfl ?_);refine l_storeW rfl H 123 _ _ rfl _ rfl _ rfl (by repeat constructor) _ size123 (by first|rfl|assumption|omega|(simp only [nums_length];omega)|simp [nums_length,zs] <;> omega) (by first|rfl|assumption|omega|(simp only [nums_length];omega)|simp [nums_length,zs] <;> omega) (by first|exact nums_one|assumption|exact on1_ rfl) ?_;clear H;intro W H))
  exact ⟨_,⟨hk,vb,gb,v4,g5,by rw [hvv],by rw [hvv];rfl,by rw [hvv]⟩,H⟩
 case body =>
  rintro F1 lp ⟨P,k,b⟩ v a1 L W ⟨hk,vb,gb,v4,g5,rfl,rfl,rfl⟩ H
  simp only at hk H ⊢
  refine wpIn_block ?_
  refine wpIn_seq_k (fun K5 hK5 => ?_)
  refine wpIn_seq_k (fun K6 hK6 => ?_)
  refine regIn_lit rfl (fun ⟨_,_,h⟩ => h) ?_
  have hl1 : vsOf true gb = sl832 gb := by rw [hvs];rfl
  have hl0 : vsOf false gb = .slice none 0 0 := by rw [hvs];rfl
  rw [hLST] at H ⊢
  simp only [List.cons_append,List.nil_append] at H
  cases b
  ·rw [hl0] at H ⊢
   go_wp2_with (first
  |((with_reducible refine gate_dst (N := 10) rfl ?_);refine l_load1 rfl H 38 _ rfl _ _ rfl (by repeat constructor) _ Tryd.underlying38 rfl _ (by first|rfl|assumption|exact nums_at _ (by omega)) ?_)
    |((with_reducible refine gate_dst (N := 11) rfl ?_);refine l_run rfl (.bool true) (by go_simp;rw [run_eql_slice_nil _ 38 5 none 0 0 Tryd.underlying38];rfl) ?_))
   refine wpIn_cond_true rfl ?_
   refine wpIn_seq_k (fun K7 hK7 => ?_)
   refine regIn_lit rfl (fun ⟨_,_,h⟩ => h) ?_
   go_wp2_with (first
  |((with_reducible refine gate_store (t := 26) (p := 2) rfl ?_);refine l_store1 rfl H 26 _ _ rfl _ _ rfl _ (by first|(go_simp;done)|(go_simp;with_reducible rfl)) (by repeat constructor) rfl rfl size26 (by first|rfl|assumption|omega|(simp only [nums_length];omega)|simp [nums_length,zs] <;> omega) ?_;clear H;intro W H)
  |((with_reducible refine gate_store (t := 4) (p := 3) rfl ?_);refine l_store1 rfl H 4 _ _ rfl _ _ rfl _ (by first|(go_simp;done)|(go_simp;with_reducible rfl)) (by repeat constructor) rfl rfl size4 (by first|rfl|assumption|omega|(simp only [nums_length];omega)|simp [nums_length,zs] <;> omega) ?_;clear H;intro W H))
   refine wpIn_ret ?_
   exact ⟨_,⟨v4,rfl⟩,H.del .head⟩
  ·rw [hl1] at H ⊢
   go_wp2_with (first
  |((with_reducible refine gate_dst (N := 10) rfl ?_);refine l_load1 rfl H 38 _ rfl _ _ rfl (by repeat constructor) _ Tryd.underlying38 rfl _ (by first|rfl|assumption|exact nums_at _ (by omega)) ?_)
    |((with_reducible refine gate_dst (N := 11) rfl ?_);refine l_run rfl (.bool false) (by go_simp;rw [run_eql_slice_nil _ 38 5 _ _ _ Tryd.underlying38];rfl) ?_))
   refine wpIn_cond_false rfl ?_
   refine wpIn_skip (hK5 _ _ ?_)
   refine regIn_lit rfl (fun ⟨_,_,h⟩ => h) ?_
   have hbd : (k + 1) * 8 ≤ 140737488355328 := by omega
   have hpl : nums .i64 (layPl 0 l (k + 1)) = nums .i64 (layPl 0 l k) ++ [.int .i64 (layAt 0 l k)] := by rw [layPl_succ];simp [nums]
   go_wp2_with (first
  |((with_reducible refine gate_dst (N := 12) rfl ?_);refine l_load1 rfl H 26 _ rfl _ _ rfl (by repeat constructor) _ Tryd.underlying26 rfl _ (by first|rfl|assumption|exact nums_at _ (by omega)) ?_)
  |((with_reducible refine gate_dst (N := 14) rfl ?_);refine l_load1 rfl H 3 _ rfl _ _ rfl (by repeat constructor) _ Tryd.underlying3 rfl _ (by first|rfl|assumption|exact nums_at _ (by omega)) ?_)
  |((with_reducible refine gate_dst (N := 15) rfl ?_);refine l_build11 rfl H 26 3 _ rfl Tryd.underlying26 _ rfl _ zs3 rfl rfl ?_;clear H;intro g15 W H)
  |((with_reducible refine gate_dst (N := 16) rfl ?_);refine l_append1 rfl H _ _ 26 3 rfl Tryd.underlying26 _ _ _ inf3 rfl (by decide) (by decide) _ _ _ rfl (by repeat constructor) _ _ rfl (by repeat constructor) (by first|rfl|assumption|omega|(simp only [nums_length];omega)|simp [nums_length,zs] <;> omega) (by first|exact nums_one|assumption|exact on1_ rfl) (by omega) ?_;clear H;intro v16 W H;obtain ⟨A16,c16,rfl⟩ := H.row_slice (.tail (.tail (.tail .head))))
  |((with_reducible refine gate_store (t := 26) (p := 4) rfl ?_);refine l_store1 rfl H 26 _ _ rfl _ _ rfl _ (by first|(go_simp;done)|(go_simp;with_reducible rfl)) (by repeat constructor) rfl rfl size26 (by first|rfl|assumption|omega|(simp only [nums_length];omega)|simp [nums_length,zs] <;> omega) ?_;clear H;intro W H))
   exact ⟨_,⟨_,rfl⟩,((H.del .head).del .head).perm (List.perm_append_comm (l₁ := [_,_,_,_]) (l₂ := P))⟩
 case done =>
  rintro F1 D L W ⟨hN,gx,gb,a,gq,v4,rfl,-⟩ H hF hD
  refine hK2 _ _ ?_
  rw [hLST] at H
  unfold EIt at H
  obtain ⟨A4,c4,rfl⟩ := H.row_slice (.tail (.tail (.tail (.tail (.tail .head)))))
  refine wpIn_seq_k (fun K5 hK5 => ?_)
  refine wpIn_mono (Q := Exit.then K5 (fun _ _ _ => False)) ?_ (fun e a w h => by cases e <;> first|exact h|exact h.elim)
  refine wpIn_wide.2 ?_
  go_wp2_with (first
  |((with_reducible refine gate_dst (N := 17) rfl ?_);refine l_load1 rfl H 26 _ rfl _ _ rfl (by repeat constructor) _ Tryd.underlying26 rfl _ (by first|rfl|assumption|exact nums_at _ (by omega)) ?_)
  |((with_reducible refine gate_store (t := 26) (p := 2) rfl ?_);refine l_store1 rfl H 26 _ _ rfl _ _ rfl _ (by first|(go_simp;done)|(go_simp;with_reducible rfl)) (by repeat constructor) rfl rfl size26 (by first|rfl|assumption|omega|(simp only [nums_length];omega)|simp [nums_length,zs] <;> omega) ?_;clear H;intro W H)
  |((with_reducible refine gate_store (t := 4) (p := 3) rfl ?_);refine l_store1 rfl H 4 _ _ rfl _ _ rfl _ (by first|(go_simp;done)|(go_simp;with_reducible rfl)) (by repeat constructor) rfl rfl size4 (by first|rfl|assumption|omega|(simp only [nums_length];omega)|simp [nums_length,zs] <;> omega) ?_;clear H;intro W H))
  gi_wp2
  refine ⟨by simp,.inl ⟨_,_,rfl,run_takeDeferred (H.holds D _ hF),?_⟩⟩
  have H1 := H.putF D _ (.deferred none) hF hD
  have c1 := H1.cell (.tail (.tail (.tail (.tail (.tail (.tail (.tail .head))))))) 0
  have c2 := H1.cell (.tail (.tail (.tail (.tail (.tail (.tail .head)))))) 0
  refine ⟨_,results_cell2 rfl _ _ _ rfl rfl Tryd.underlying26 rfl Tryd.underlying4 rfl c1 c2,.inl ⟨decide_eq_true hN,_,rfl,?_⟩⟩
  rw [← hN]
  have H2 := (((((((H1.del .head).del .head).del .head).del .head).del .head).del (.tail .head)).del (.tail .head))
  exact H2.slack (fun g o h => by cases h)
 case left =>
  rintro F1 D L W ⟨hN,P,v4,rfl⟩ H hF hD
  rw [hLST] at H
  gi_wp2
  refine ⟨by simp,.inl ⟨_,_,rfl,run_takeDeferred (H.holds D _ hF),?_⟩⟩
  have H1 := H.putF D _ (.deferred none) hF hD
  have c1 := H1.cell (.tail (.tail (.tail .head))) 0
  have c2 := H1.cell (.tail (.tail .head)) 0
  refine ⟨_,results_cell2 rfl _ _ _ rfl rfl Tryd.underlying26 rfl Tryd.underlying4 rfl c1 c2,.inr ⟨by omega,rfl,H1.below⟩⟩
end Go.Proofs.YtaekpfhgdnfciaaDoor.O
end

section
namespace Go.Proofs.YtaekpfhgdnfciaaDoor.O
open Go.Proofs.YtaekpfhgdnfciaaDoor.F Go.Proofs.YtaekpfhgdnfciaaDoor.F.Nums Go.Proofs.YtaekpfhgdnfciaaDoor.Plain Go.Proofs.YtaekpfhgdnfciaaDoor.Img
attribute [local go_sem] max2_int min2_int max_two min_two
section
variable {P : Program} {ops : Array Oper} {Q : Exit → Act → World → Prop}
theorem callV_ {oi : Oper} {N : Option Tmp} {a : Act} {w : World} {K : Act → World → Prop} {f : FuncId} {fn : Func} {as_ : Array Operand} {ts : Array TypeId} {x : Operand} {caps args all : Array Value} {R : Ending → World → Prop} (hcall : Calls P f all w R) (hf : P.funcs[f]? = some fn)
  (hname : (fn.name == "runtime.NumGoroutine") = false) (hb : fn.body.isSome = true) (hw : Region.wanted oi (yielded ops a.tmps) = true) (hN : oi.dst = N) (hop : oi.op = .call { callee := .value x, args := as_, argTypes := ts }) (hx : a.eval x = .func (.func f) #[] caps) (hargs : as_.map a.eval = args) (hall : args ++ caps = all)
  (h : ∀ e w',R e w' → ∃ v,e = .returned v ∧ K (a.put N v) w') : if Region.wanted oi (yielded ops a.tmps) = true then Oper.wp P oi a w K Q else K (a.put N undef) w := by
 refine call_ f all hw hN ?_ (hcall.mono h)
 subst hall
 have he := enters_ hf hname hb (args ++ caps) w
 unfold execOp
 simp [hop,resolve,Deferred.ofValue,invoke,hx,hargs,he]
end
theorem pc_row {w : World} {A : Option Addr} {n : Nat} {ps : List S94} (h : Kd.C k94 w A n ps) (j : Nat) (hj : j < n) :
  ∃ ad,A = some ad ∧ Rd w (some (ad.add (j * 4))) [.int .i64 (rd_T94 ps j).f0,.int .i64 (rd_T94 ps j).f1,.int .i64 (rd_T94 ps j).f2,.int .i64 (rd_T94 ps j).f3] := by
 obtain ⟨ad,c,e,_,hK,hc0⟩ := Kd.C_get h z94 (j : Int) (by omega) (by omega)
 have hc : ∀ i u,c[i]? = some u → w.cell? (ad.add (j * 4 + i)) = some u := hc0
 rw [k94_open hK] at hc
 exact ⟨ad,e,fun _ => ⟨_,rfl,fun i v hi => by rw [add_add'];exact hc i v hi⟩⟩
set_option maxRecDepth 100000 in
set_option maxHeartbeats 16000000 in
theorem clashes_yes (e64 : Int) (l : List (List Int)) (A A2 : Option Addr) (c n2 c2 : Nat) (fl : List Int) (w : World) (he : 0 ≤ e64 ∧ e64 ≤ 18446744073709551615) (hok : layAll 0 l = true) (hl : ∀ x ∈ l,Bytes x) (hll : ∀ x ∈ l,x.length < 140737488355328) (hn : l.length ≤ 100)
  (hC : (Kd.slice 5 (Kd.int .u8)).C w A l.length l) (hf : fl.length = 64 * n2) (hb : Bytes fl) (hr : Rd w A2 (nums .u8 fl)) (hc2 : n2 ≤ c2) (hn2 : n2 ≤ 100) (hH : Half w) :
  Calls Tryd.prog 23 #[.int .u64 e64,.slice A l.length c,.slice A2 n2 c2] w fun e W => ∃ Ar cr,e = .returned (.slice Ar (badL e64 l (bodyF e64 fl n2 16) (oksF e64 fl n2 16) l.length).length cr) ∧
   Own w F0 [.row (.slice Ar (badL e64 l (bodyF e64 fl n2 16) (oksF e64 fl n2 16) l.length).length cr) 3 1 (badL e64 l (bodyF e64 fl n2 16) (oksF e64 fl n2 16) l.length).length (nums .i64 (badL e64 l (bodyF e64 fl n2 16) (oksF e64 fl n2 16) l.length))] W := by
 have H := Own.start w
 have PC : ∀ W,(Kd.slice 5 (Kd.int .u8)).C W A l.length l → Half W → Calls Tryd.prog 39 #[.slice A l.length c] W fun e W' => ∃ v,e = .returned (.tuple #[v,.bool true]) ∧ Own W F0 [.row v 3 1 l.length (nums .i64 (layPl 0 l l.length))] W' := fun W h1 h2 => (places_calls l A c W hl hll (by omega) h1 h2).mono (by
  rintro e W' (⟨-,h⟩|⟨h,-⟩)
  ·exact h
  ·rw [hok] at h;cases h)
 have FC := fun W h => flat_calls e64 fl n2 hf hb A2 c2 W h hc2 (by omega)
 have hFl : (bodyF e64 fl n2 16).length = 832 := bodyF_len hf 16
 have hFb : Bytes (bodyF e64 fl n2 16) := bodyF_bytes hb 16
 have hkl : (oksF e64 fl n2 16).length = 16 := oksF_len 16
 have hbl := fun k => badL_len e64 l (bodyF e64 fl n2 16) (oksF e64 fl n2 16) k
 have hbs := fun k => badL_succ e64 l (bodyF e64 fl n2 16) (oksF e64 fl n2 16) k
 have hb0 : badL e64 l (bodyF e64 fl n2 16) (oksF e64 fl n2 16) 0 = [] := rfl
 generalize bodyF e64 fl n2 16 = F at *
 generalize oksF e64 fl n2 16 = ok at *
 have hul : IntKind.u32.wrap e64 = e64 % 4294967296 := by rw [IntKind.wrap_u32]
 have he0 : 0 ≤ e64 % 4294967296 ∧ e64 % 4294967296 ≤ 4294967295 := by omega
 have HC := fun k (hk : k < l.length) => C_rows_at hC k hk
 have hpl : ∀ k,k < l.length → (nums .i64 (layPl 0 l l.length))[k]? = some (.int .i64 (layAt 0 l k)) := fun k hk => by
  have h := nums_at (k := .i64) (xs := layPl 0 l l.length) k (by rw [layPl_len];exact hk)
  have e : (layPl 0 l l.length).getD k 0 = layAt 0 l k := by
   unfold layPl
   rw [List.getD_eq_getElem?_getD,List.getElem?_map,List.getElem?_range hk]
   rfl
  rwa [e] at h
 have hbl2 : ∀ k,k < l.length → Bytes (l.getD k []) ∧ (l.getD k []).length < 140737488355328 := fun k hk => by
  have : l.getD k [] ∈ l := by rw [List.getD_eq_getElem?_getD,List.getElem?_eq_getElem hk];exact List.getElem_mem hk
  exact ⟨hl _ this,hll _ this⟩
 have hpcs : ∀ k,pcs e64 l k = (cutP (layAt 0 l k) ((l.getD k []).length : Int)).1 := fun k => by
  unfold pcs layAt
  rw [cutP_begin,laySt_end_any e64 0]
 clear hok hl hll
 generalize layPl 0 l l.length = pl at *
 generalize hnl : l.length = n at *
 go_enter Tryd.func23,Tryd.ntmps23
 go_wp2_with (first
  |((with_reducible refine gate_dst (N := 3) rfl ?_);refine l_box1 rfl H 22 _ rfl _ rfl rfl ?_;clear H;intro g3 W H)
  |((with_reducible refine gate_dst (N := 30) rfl ?_);refine l_load1 rfl H 22 _ rfl _ _ rfl (by repeat constructor) _ Tryd.underlying22 rfl _ (by first|rfl|assumption|exact nums_at _ (by omega)) ?_)
  |((with_reducible refine gate_dst (N := 9) rfl ?_);refine l_alloc1 rfl H 38 rfl _ zero38 rfl ?_;clear H;intro g9 W H)
  |((with_reducible refine gate_dst (N := 10) rfl ?_);refine l_alloc1 rfl H 63 rfl _ zero63 rfl ?_;clear H;intro g10 W H)
  |((with_reducible refine gate_store (t := 38) (p := 9) rfl ?_);refine l_store1 rfl H 38 _ _ rfl _ _ rfl _ (by first|(go_simp;done)|(go_simp;with_reducible rfl)) (by repeat constructor) rfl rfl size38 (by first|rfl|assumption|omega|(simp only [nums_length];omega)|simp [nums_length,zs] <;> omega) ?_;clear H;intro W H)
  |((with_reducible refine gate_store (t := 63) (p := 10) rfl ?_);refine l_store1 rfl H 63 _ _ rfl _ _ rfl _ (by first|(go_simp;done)|(go_simp;with_reducible rfl)) (by repeat constructor) rfl rfl size63 (by first|rfl|assumption|omega|(simp only [nums_length];omega)|simp [nums_length,zs] <;> omega) ?_;clear H;intro W H)
  |((with_reducible refine gate_dst (N := 11) rfl ?_);refine l_alloc1 rfl H 26 rfl _ zero26 rfl ?_;clear H;intro g11 W H)
  |(go_at_call 39;(with_reducible refine (PC _ (Kd.C_below hC H.below) (hH.below H.below)).mono ?_);rintro e W ⟨v7,rfl,HO⟩;replace H := H.addOwn HO;clear HO;dsimp only [List.cons_append,List.nil_append] at H;obtain ⟨A7,c7,rfl⟩ := H.row_slice .head)
  |(go_at_call 25;(with_reducible refine (FC _ (hr.below H.below)).mono ?_);rintro en W ⟨v5,v6,rfl,HO⟩;replace H := H.addOwn HO;clear HO;dsimp only [List.cons_append,List.nil_append] at H;obtain ⟨A5,c5,rfl⟩ := H.row_slice .head;obtain ⟨A6,c6,rfl⟩ := H.row_slice (.tail .head)))
 have hc5 : 832 ≤ c5 := (H.rd (A := A5) (by repeat constructor)).2.1
 have hc6 : 16 ≤ c6 := (H.rd (A := A6) (by repeat constructor)).2.1
 replace H := H.cons (r := .row (.slice none 0 0) 3 1 0 []) (Below.refl _ _) (own_nil _ _ _ _) (fun k hk => by cases hk)
 replace H := Own.front (r := .row (.slice A7 n c7) _ _ _ _) H (by repeat constructor)
 replace H := Own.front (r := .row (.slice A6 16 c6) _ _ _ _) H (by repeat constructor)
 replace H := Own.front (r := .row (.slice A5 832 c5) _ _ _ _) H (by repeat constructor)
 replace H := Own.front (r := .row (.slice none 0 0) _ _ _ _) H (by repeat constructor)
 replace H := Own.front (r := .blk g11 _ _) H (by repeat constructor)
 replace H := Own.front (r := .blk g10 _ _) H (by repeat constructor)
 replace H := Own.front (r := .blk g9 _ _) H (by repeat constructor)
 replace H := Own.front (r := .blk g3 _ _) H (by repeat constructor)
 go_loopg [38] n (fun gq v38 w' => ∃ (k : Nat) (Ar : Option Addr) (cr : Nat) (outs : List Int),v38 = .int .i64 (k : Int) ∧ k + gq = n ∧ outs = badL e64 l F ok k ∧
  Own w F0 (.blk g3 22 [.int .u64 e64] :: .blk g9 38 [.slice A5 832 c5] :: .blk g10 63 [.slice A6 16 c6] :: .blk g11 26 [.slice Ar outs.length cr] :: .row (.slice Ar outs.length cr) 3 1 outs.length (nums .i64 outs) :: .row (.slice A5 832 c5) 5 1 832 (nums .u8 F) :: .row (.slice A6 16 c6) 4 1 16 (bools ok) :: .row (.slice A7 n c7) 3 1 n (nums .i64 pl) :: []) w')
 case atStart => exact ⟨0,none,0,[],rfl,by omega,hb0.symm,H⟩
 case round =>
  clear H
  obtain ⟨k,Ar,cr,outs,rfl,hk,hout,H⟩ := hrel
  by_cases ck : k < n
  ·obtain ⟨gk',rfl⟩ : ∃ q,gk = q + 1 := ⟨gk - 1,by omega⟩
   have q0 : decide (k < n) = true := decide_eq_true ck
   have p0 : ((0 : Int) ≤ (k : Int)) = True := eq_true (by omega)
   have p1 : ((k : Int) < (n : Int)) = True := eq_true (by omega)
   obtain ⟨ad,A14,c14,rfl,x0,hc14,x2⟩ := HC k ck
   have hp := hpl k ck
   obtain ⟨hbd,hld⟩ := hbl2 k ck
   have hbk := hbl k
   have hbk1 := hbs k
   have hpk := hpcs k
   rw [hpk] at hbk1
   rw [← hout] at hbk hbk1
   generalize l.getD k [] = data at *
   generalize layAt 0 l k = at_ at *
   have hcut : cut_Cut.f 7 at_ (data.length : Int) = some ((cutP at_ (data.length : Int)).1,(cutP at_ (data.length : Int)).2.1,(cutP at_ (data.length : Int)).2.2) := cut_eq 7 (by decide) at_ (data.length : Int)
   have CC := fun (W : World) => cut_Cut.calls 7 at_ (data.length : Int) (cutP at_ (data.length : Int)).1 (cutP at_ (data.length : Int)).2.1 (cutP at_ (data.length : Int)).2.2 W hcut
   have hfr : cut_Frags.f 20 (e64 % 4294967296) at_ data = some ((cutP at_ (data.length : Int)).1.map (fragP (e64 % 4294967296) data),(cutP at_ (data.length : Int)).2.2) := frags_eq 20 (by decide) (e64 % 4294967296) at_ data hld
   have FF := fun (W : World) (hC : (Kd.int .u8).C W A14 data.length data) => cut_Frags.calls 20 (e64 % 4294967296) at_ A14 c14 data ((cutP at_ (data.length : Int)).1.map (fragP (e64 % 4294967296) data)) (cutP at_ (data.length : Int)).2.2 W hC hc14 hfr
   have hps := cutP_pcs at_ data
   have hpl9 := cutP_len at_ (data.length : Int)
   clear hcut hfr HC hpl hbl2 hbl hbs hpcs hpk hld hb0
   generalize (cutP at_ (data.length : Int)).2.1 = en1 at *
   generalize (cutP at_ (data.length : Int)).2.2 = bb at *
   generalize (cutP at_ (data.length : Int)).1 = ps at *
   generalize hnd : data.length = nd at *
   obtain ⟨a7,rfl⟩ : ∃ a,A7 = some a := (H.rd (A := A7) (by repeat constructor)).1.some_ (by have := (List.getElem?_eq_some_iff.1 hp).1;omega)
   go_wp2_with (first
    |((with_reducible refine gate_dst (N := 42) rfl ?_);refine l_run rfl (.slice A14 nd c14) (r_loadCell4 38 _ rfl rfl ((H.below.cell (World.block_lt_of_cell? w _ x0)).trans x0) _ Tryd.underlying38 rfl) ?_)
    |((with_reducible refine gate_dst (N := 47) rfl ?_);refine l_run rfl (.int .i64 at_) (r_loadRd1 3 _ rfl k rfl (H.rd (A := some a7) (by repeat constructor)).1 _ Tryd.underlying3 rfl _ hp) ?_)
    |(go_at_call 44;(with_reducible refine (CC _).mono ?_);rintro e W ⟨v0,rfl,hR,hbq⟩;obtain ⟨Ap,cp,rfl⟩ := Kd.R_slice hR;have HF := H.freezeNew hbq;have hSt := Stands.R (F := F0) hR;clear hR hbq H;obtain ⟨H,hF⟩ := HF;generalize fn F0 _ W = F1 at H hF hSt))
   refine start_ (n := 13) (S := Own _ _ _) (ds := [7]) #[f_,f_,f_,f_,f_,f_,f_,f_,f_,f_,f_,f_,f_] (by kernel_rfl) rfl rfl H.drew (fun hHeld => ?_)
   replace H := H.drew
   generalize World.drew _ = W at H hHeld ⊢
   refine pure_ (i := 2) (N := some 57) #[f_,f_,t_,f_,f_,f_,f_,f_,f_,f_,f_,f_,f_] rfl rfl (by kernel_rfl) (fun _ _ _ h => h) (Or.inl ⟨by rfl,by intro w';go_simp;with_reducible rfl⟩) (by simp only [ps_];rfl) ?_
   refine pure_ (i := 3) (N := some 58) #[f_,f_,t_,t_,f_,f_,f_,f_,f_,f_,f_,f_,f_] rfl rfl (by kernel_rfl) (fun _ _ _ h => h) (Or.inl ⟨by rfl,by intro w';go_simp;with_reducible rfl⟩) (by simp only [ps_];rfl) ?_
   refine pure_ (i := 4) (N := some 59) #[f_,f_,t_,t_,t_,f_,f_,f_,f_,f_,f_,f_,f_] rfl rfl (by kernel_rfl) (fun _ _ _ h => h) (Or.inl ⟨by rfl,by intro w';go_simp;with_reducible rfl⟩) (by simp only [ps_];rfl) ?_
   refine pure_ (i := 6) (N := some 61) #[f_,f_,t_,t_,t_,f_,t_,f_,f_,f_,f_,f_,f_] rfl rfl (by kernel_rfl) (fun _ _ _ h => h) (Or.inl ⟨by rfl,by intro w';go_simp;with_reducible rfl⟩) (by simp only [ps_];rfl) ?_
   refine take_run (i := 0) (N := some 55) #[t_,f_,t_,t_,t_,f_,t_,f_,f_,f_,f_,f_,f_] rfl rfl (by kernel_rfl) (fun _ _ _ _ h => h) (by rfl) hHeld (.int .u64 e64) (fun X HX => r_load1 HX 22 _ rfl g3 0 rfl (by repeat constructor) _ Tryd.underlying22 rfl _ rfl) (by simp only [ps_];rfl) ?_
   refine pure_ (i := 1) (N := some 56) #[t_,t_,t_,t_,t_,f_,t_,f_,f_,f_,f_,f_,f_] rfl rfl (by kernel_rfl) (fun _ _ _ h => h) (Or.inl ⟨by rfl,by intro w';go_simp;with_reducible rfl⟩) (by simp only [ps_];rfl) ?_
   refine take_run (i := 5) (N := some 60) #[t_,t_,t_,t_,t_,t_,t_,f_,f_,f_,f_,f_,f_] rfl rfl (by kernel_rfl) (fun _ _ _ _ h => h) (by rfl) hHeld (.int .i64 at_) (fun X HX => r_loadRd1 3 _ rfl k rfl (HX.rd (A := some a7) (by repeat constructor)).1 _ Tryd.underlying3 rfl _ hp) (by simp only [ps_];rfl) ?_
   refine last_ (i := 7) (N := some 62) #[t_,t_,t_,t_,t_,t_,t_,t_,f_,f_,f_,f_,f_] rfl rfl (by kernel_rfl) (by decide) (fun K hK => ?_)
   refine callK_ (FF _ (Kd.C_below x2 H.below)) Tryd.func45 (by kernel_rfl) rfl (by rfl) rfl rfl (by (try simp only [List.map_toArray,List.map_cons,List.map_nil]);first|done|rfl) ?_
   rintro e W ⟨v1,rfl,hS,hbq⟩
   refine ⟨_,rfl,?_⟩
   obtain ⟨Af,cf,rfl⟩ := Kd.R_slice (Kd.S_R hS)
   have HF2 := H.freezeNew hbq
   have hSt2 := fun j hj => fr_stands' (F := F1) (Kd.S_R hS) j hj
   clear hS hbq H
   obtain ⟨H,hF2⟩ := HF2
   generalize fn F1 _ W = F2 at H hF2 hSt2
   refine hK.out _ _ ?_
   clear hK K
   refine norm_ (by show Act.put _ (some 62) _ = _;simp only [ps_];rfl) ?_
   refine pure_ (i := 8) (N := some 54) #[t_,t_,t_,t_,t_,t_,t_,t_,t_,f_,f_,f_,f_] rfl rfl (by kernel_rfl) (fun _ _ _ h => h) (Or.inl ⟨by rfl,by intro w';go_simp;with_reducible rfl⟩) (by simp only [ps_];rfl) ?_
   refine pure_ (i := 9) (N := some 63) #[t_,t_,t_,t_,t_,t_,t_,t_,t_,t_,f_,f_,f_] rfl rfl (by kernel_rfl) (fun _ _ _ h => h) (Or.inl ⟨by rfl,by intro w';go_simp;with_reducible rfl⟩) (by simp only [ps_];rfl) ?_
   refine pure_ (i := 10) (N := some 64) #[t_,t_,t_,t_,t_,t_,t_,t_,t_,t_,t_,f_,f_] rfl rfl (by kernel_rfl) (fun _ _ _ h => h) (Or.inl ⟨by rfl,by intro w';go_simp;with_reducible rfl⟩) (by simp only [ps_];rfl) ?_
   refine pure_ (i := 11) (N := some 18) #[t_,t_,t_,t_,t_,t_,t_,t_,t_,t_,t_,t_,f_] rfl rfl (by kernel_rfl) (fun _ _ _ h => h) (Or.inl ⟨by rfl,by intro w';go_simp;with_reducible rfl⟩) (by simp only [ps_];rfl) ?_
   refine pure_ (i := 12) (N := some 19) #[t_,t_,t_,t_,t_,t_,t_,t_,t_,t_,t_,t_,t_] rfl rfl (by kernel_rfl) (fun _ _ _ h => h) (Or.inl ⟨by rfl,by intro w';go_simp;with_reducible rfl⟩) (by simp only [ps_];rfl) ?_
   refine done_ (by kernel_rfl) ?_
   clear hHeld
   have hSp := hSt.mono hF2
   clear hSt CC FF
   have hrf : ∀ j,j < ps.length → rd_T76 (ps.map (fragP (e64 % 4294967296) data)) (j : Int) = fragP (e64 % 4294967296) data (rd_T94 ps j) := fun j hj => by
    unfold rd_T76
    rw [List.getD_eq_getElem?_getD,Int.toNat_natCast,List.getElem?_map,List.getElem?_eq_getElem hj,rd_at ps j hj]
    rfl
   generalize hpn : ps.length = np at *
   try simp only [List.length_map,hpn]
   go_wp2_with fail
   go_loopg [67] np (fun gq v67 w' => ∃ (j : Nat) (Ar : Option Addr) (cr : Nat) (outs2 : List Int),v67 = .int .i64 (j : Int) ∧ j + gq = np ∧ outs2 = outs ++ badR (e64 % 4294967296) F ok data (ps.take j) ∧
    Own w F2 (.blk g3 22 [.int .u64 e64] :: .blk g9 38 [.slice A5 832 c5] :: .blk g10 63 [.slice A6 16 c6] :: .blk g11 26 [.slice Ar outs2.length cr] :: .row (.slice Ar outs2.length cr) 3 1 outs2.length (nums .i64 outs2) :: .row (.slice A5 832 c5) 5 1 832 (nums .u8 F) :: .row (.slice A6 16 c6) 4 1 16 (bools ok) :: .row (.slice (some a7) n c7) 3 1 n (nums .i64 pl) :: []) w')
   case atStart => exact ⟨0,Ar,cr,outs,rfl,by omega,by simp [badR],H⟩
   case round =>
    clear H
    obtain ⟨j,Ar,cr,outs2,rfl,hj,hout2,H⟩ := hrel
    by_cases cj : j < np
    ·obtain ⟨gj',rfl⟩ : ∃ q,gk = q + 1 := ⟨gk - 1,by omega⟩
     have q1 : decide (j < np) = true := decide_eq_true cj
     have r0 : ((0 : Int) ≤ (j : Int)) = True := eq_true (by omega)
     have r1 : ((j : Int) < (np : Int)) = True := eq_true (by omega)
     obtain ⟨adf,A2,c9,rfl,hRd,l2,C2⟩ := hSt2 j (by rw [List.length_map];omega)
     rw [hrf j cj] at hRd l2 C2
     have hjl : j < ps.length := by omega
     have hpc := hps _ (List.getElem_mem hjl)
     rw [rd_at ps j hjl] at hpc
     have hsn : badR (e64 % 4294967296) F ok data (ps.take (j + 1)) = if badP (e64 % 4294967296) F ok data (rd_T94 ps j) = true then badR (e64 % 4294967296) F ok data (ps.take j) ++ [(rd_T94 ps j).f0] else badR (e64 % 4294967296) F ok data (ps.take j) := by
      rw [← badR_snoc,← rd_at ps j hjl,List.take_succ_eq_append_getElem hjl]
     have hlo : outs2.length ≤ 10000 := by
      have h1 := badR_len (e64 % 4294967296) F ok data (ps.take j)
      rw [List.length_take] at h1
      rw [hout2,List.length_append]
      omega
     have hSq : ∀ (X : World) (L : List Res),Own w F2 L X → ∃ ad,Ap = some ad ∧ Rd X (some (ad.add (j * 4))) [.int .i64 (rd_T94 ps j).f0,.int .i64 (rd_T94 ps j).f1,.int .i64 (rd_T94 ps j).f2,.int .i64 (rd_T94 ps j).f3] := fun X L HX => by
      obtain ⟨Aq,cq,eq,lq,Cq⟩ := Kd.R_reads (HX.use hSp)
      injection eq with eq1 eq2 eq3
      subst eq1
      rw [hpn] at Cq
      exact pc_row Cq j cj
     obtain ⟨adp,rfl,-⟩ := hSq _ _ H
     have hPC : ∀ (X : World) (L : List Res),Own w F2 L X → Rd X (some (adp.add (j * 4))) [.int .i64 (rd_T94 ps j).f0,.int .i64 (rd_T94 ps j).f1,.int .i64 (rd_T94 ps j).f2,.int .i64 (rd_T94 ps j).f3] := fun X L HX => by
      obtain ⟨ad,e,h⟩ := hSq X L HX
      obtain rfl := Option.some.inj e
      exact h
     generalize rd_T94 ps (j : Int) = p at *
     obtain ⟨pa,pk,pf,pt⟩ := p
     obtain ⟨h1,h2,h3,h4,h5,h6,h7,h8⟩ := hpc
     simp only at h1 h2 h3 h4 h5 h6 h7 h8 hPC hsn
     obtain ⟨at0,rfl⟩ := Int.eq_ofNat_of_zero_le h1
     simp only [fragP] at hRd l2 C2
     have hp11 : at0 + 11 ≤ 832 := by omega
     have hwb := bytes_drop (bytes_take hbd pt.toNat) pf.toNat
     unfold badP at hsn
     simp only [Int.toNat_natCast] at hsn
     clear h1 h2 h3 h4 h5 h6 h7 h8 hSq hSt2 hrf hps
     generalize (data.take pt.toNat).drop pf.toNat = wd at *
     have ho' : outs ++ badR (e64 % 4294967296) F ok data (ps.take (j + 1)) = if badF (e64 % 4294967296) F ok at0 pk (e64 % 4294967296) wd = true then outs2 ++ [(at0 : Int)] else outs2 := by
      rw [hsn,hout2]
      split
      ·rw [List.append_assoc]
      ·rfl
     have HB := fun rest W (H : Own w F2 (.blk g3 22 [.int .u64 e64] :: .blk g9 38 [.slice A5 832 c5] :: .blk g10 63 [.slice A6 16 c6] :: .blk g11 26 [.slice Ar outs2.length cr] :: .row (.slice Ar outs2.length cr) 3 1 outs2.length (nums .i64 outs2) :: .row (.slice A5 832 c5) 5 1 832 (nums .u8 F) :: .row (.slice A6 16 c6) 4 1 16 (bools ok) :: rest) W) =>
      hold_own e64 F ok hFl hFb hkl at0 hp11 pk (e64 % 4294967296) wd A2 c9 l2 hwb A5 A6 Ar c5 c6 cr hc5 hc6 g3 g9 g10 g11 outs2 hlo rest _ ho' (fun X L' HX => HX.use C2) hH H
     clear ho' hsn hout2 hlo C2 hwb
     generalize hO3 : outs ++ badR (e64 % 4294967296) F ok data (ps.take (j + 1)) = outs3 at *
     generalize hwn : wd.length = wn at *
     generalize e64 % 4294967296 = ep at *
     have hj' := Aside0.mk hj
     have hnp9 : np ≤ 10000 := by omega
     clear hj hC hnl hn hk ck hout hbk hbk1 hpl9 hpn he he0
     go_wp2_with (first
  |((with_reducible refine gate_dst (N := 21) rfl ?_);refine l_allocA rfl H 94 rfl _ zero94 ?_;clear H;intro g21 W H)
  |((with_reducible refine gate_store (t := 94) (p := 21) rfl ?_);refine l_storeW rfl H 94 _ _ rfl _ rfl _ rfl (by repeat constructor) _ size94 (by first|rfl|assumption|omega|(simp only [nums_length];omega)|simp [nums_length,zs] <;> omega) (by first|rfl|assumption|omega|(simp only [nums_length];omega)|simp [nums_length,zs] <;> omega) (by first|exact nums_one|assumption|exact on1_ rfl) ?_;clear H;intro W H)
      |((with_reducible refine gate_dst (N := 71) rfl ?_);refine l_run rfl (.agg #[.int .i64 (at0 : Int),.int .i64 pk,.int .i64 pf,.int .i64 pt]) (r_loadRd0 94 _ rfl rfl (hPC _ _ H) 4 _ Tryd.underlying94 rfl size94 (by decide) rfl) ?_))
     replace H := H.perm (List.perm_append_singleton _ _).symm
     dsimp only [List.cons_append,List.nil_append] at H
     refine start_ (n := 8) (S := Own _ _ _) (ds := [7]) #[f_,f_,f_,f_,f_,f_,f_,f_] (by kernel_rfl) rfl rfl H.drew (fun hHeld => ?_)
     replace H := H.drew
     generalize World.drew _ = W at H hHeld ⊢
     refine pure_ (i := 0) (N := some 72) #[t_,f_,f_,f_,f_,f_,f_,f_] rfl rfl (by kernel_rfl) (fun _ _ _ h => h) (Or.inl ⟨by rfl,by intro w';go_simp;with_reducible rfl⟩) (by simp only [ps_];rfl) ?_
     refine pure_ (i := 1) (N := some 73) #[t_,t_,f_,f_,f_,f_,f_,f_] rfl rfl (by kernel_rfl) (fun _ _ _ h => h) (Or.inl ⟨by rfl,by intro w';go_simp;with_reducible rfl⟩) (by simp only [ps_];rfl) ?_
     refine pure_ (i := 3) (N := some 75) #[t_,t_,f_,t_,f_,f_,f_,f_] rfl rfl (by kernel_rfl) (fun _ _ _ h => h) (Or.inl ⟨by rfl,by intro w';go_simp;with_reducible rfl⟩) (by simp only [ps_];rfl) ?_
     refine pure_ (i := 4) (N := some 76) #[t_,t_,f_,t_,t_,f_,f_,f_] rfl rfl (by kernel_rfl) (fun _ _ _ h => h) (Or.inl ⟨by rfl,by intro w';go_simp;with_reducible rfl⟩) (by simp only [ps_];rfl) ?_
     refine pure_ (i := 5) (N := some 77) #[t_,t_,f_,t_,t_,t_,f_,f_] rfl rfl (by kernel_rfl) (fun _ _ _ h => h) (Or.inl ⟨by rfl,by intro w';go_simp;with_reducible rfl⟩) (by simp only [ps_];rfl) ?_
     refine take_run (i := 2) (N := some 74) #[t_,t_,t_,t_,t_,t_,f_,f_] rfl rfl (by kernel_rfl) (fun _ _ _ _ h => h) (by rfl) hHeld (.int .i64 (at0 : Int)) (fun X HX => r_load1 HX 3 _ rfl g21 0 rfl (by repeat constructor) _ Tryd.underlying3 rfl _ rfl) (by simp only [ps_];rfl) ?_
     refine take_run (i := 6) (N := some 78) #[t_,t_,t_,t_,t_,t_,t_,f_] rfl rfl (by kernel_rfl) (fun _ _ _ _ h => h) (by rfl) hHeld (.agg #[.int .i64 pk,.int .u32 ep,.slice A2 wn c9]) (fun X HX => r_loadRd0 76 _ rfl rfl (HX.use hRd) 3 _ Tryd.underlying76 rfl size76 (by decide) rfl) (by simp only [ps_];rfl) ?_
     refine last_ (i := 7) (N := some 79) #[t_,t_,t_,t_,t_,t_,t_,t_] rfl rfl (by kernel_rfl) (by decide) (fun K hK => ?_)
     refine callV_ (args := #[.int .i64 (at0 : Int),.agg #[.int .i64 pk,.int .u32 ep,.slice A2 wn c9]]) (HB _ _ H) Tryd.func41 (by kernel_rfl) rfl (by rfl) rfl rfl rfl (by (try simp only [List.map_toArray,List.map_cons,List.map_nil]);first|done|rfl) (by simp) ?_
     clear H HB
     rintro e W ⟨rfl,Ar3,cr3,H⟩
     refine ⟨_,rfl,?_⟩
     refine hK.out _ _ ?_
     clear hK K
     refine norm_ (by show Act.put _ (some 79) _ = _;simp only [ps_];rfl) ?_
     refine done_ (by kernel_rfl) ?_
     clear hHeld
     go_wp2_with fail
     go_roundg gj'
     case measure => have := hj'.out;omega
     case rel => exact ⟨j + 1,Ar3,cr3,outs3,by go_num,by have := hj'.out;omega,hO3.symm,H.del (r := .blk g21 _ _) (by repeat constructor)⟩
    ·obtain rfl : j = np := by omega
     have q1 : decide (j < j) = false := decide_eq_false (by omega)
     rw [← hpn,List.take_length,← hbk1] at hout2
     go_wp2_with fail
     go_roundg gk'
     case measure => omega
     case rel => exact ⟨k + 1,Ar,cr,outs2,by go_num,by omega,hout2,(H.slack hF2).slack hF⟩
  ·obtain rfl : k = n := by omega
   have q0 : decide (k < k) = false := decide_eq_false (by omega)
   subst hout
   go_wp2_with (first
  |((with_reducible refine gate_dst (N := 82) rfl ?_);refine l_load1 rfl H 26 _ rfl _ _ rfl (by repeat constructor) _ Tryd.underlying26 rfl _ (by first|rfl|assumption|exact nums_at _ (by omega)) ?_))
   go_ret
   replace H := H.del (r := .blk g3 _ _) (by repeat constructor)
   replace H := H.del (r := .blk g9 _ _) (by repeat constructor)
   replace H := H.del (r := .blk g10 _ _) (by repeat constructor)
   replace H := H.del (r := .blk g11 _ _) (by repeat constructor)
   replace H := H.del (r := .row (.slice A5 832 c5) _ _ _ _) (by repeat constructor)
   replace H := H.del (r := .row (.slice A6 16 c6) _ _ _ _) (by repeat constructor)
   replace H := H.del (r := .row (.slice A7 _ c7) _ _ _ _) (by repeat constructor)
   exact ⟨Ar,cr,rfl,H⟩
end Go.Proofs.YtaekpfhgdnfciaaDoor.O
end

section
namespace Go.Proofs.YtaekpfhgdnfciaaDoor.O
open Go.Proofs.YtaekpfhgdnfciaaDoor.F Go.Proofs.YtaekpfhgdnfciaaDoor.F.Nums Go.Proofs.YtaekpfhgdnfciaaDoor.Plain Go.Proofs.YtaekpfhgdnfciaaDoor.Img
set_option maxRecDepth 100000 in
set_option maxHeartbeats 8000000 in
theorem free_calls (e64 : Int) (l : List (List Int)) (A A2 : Option Addr) (c n2 c2 : Nat) (fl : List Int) (w : World) (he : 0 ≤ e64 ∧ e64 ≤ 18446744073709551615) (hl : ∀ x ∈ l,Bytes x) (hll : ∀ x ∈ l,x.length < 140737488355328) (hn : l.length ≤ 100)
  (hC : (Kd.slice 5 (Kd.int .u8)).C w A l.length l) (hf : fl.length = 64 * n2) (hb : Bytes fl) (hr : Rd w A2 (nums .u8 fl)) (hc2 : n2 ≤ c2) (hn2 : n2 ≤ 100) (hH : Half w) :
  Calls Tryd.prog 21 #[.int .u64 e64,.slice A l.length c,.slice A2 n2 c2] w fun e W => e = .returned (.bool (layAll 0 l && (badL e64 l (bodyF e64 fl n2 16) (oksF e64 fl n2 16) l.length).isEmpty)) ∧ Below w.heap.size w W := by
 have H := Own.start w
 cases hok : layAll 0 l with
 |false =>
  have PC : ∀ W,(Kd.slice 5 (Kd.int .u8)).C W A l.length l → Half W → Calls Tryd.prog 39 #[.slice A l.length c] W fun e W' => e = .returned (.tuple #[.slice none 0 0,.bool false]) ∧ Below W.heap.size W W' := fun W h1 h2 => (places_calls l A c W hl hll (by omega) h1 h2).mono (by
   rintro e W' (⟨h,-⟩|⟨-,rfl,h⟩)
   ·rw [hok] at h;cases h
   ·exact ⟨rfl,h⟩)
  rw [Bool.false_and]
  generalize l.length = n at *
  go_enter Tryd.func21,Tryd.ntmps21
  go_wp2_with (first
   |(go_at_call 39;(with_reducible refine (PC _ (Kd.C_below hC H.below) (hH.below H.below)).mono ?_);rintro e W ⟨rfl,hb⟩;replace H := H.to hb;clear hb))
  go_ret
  exact ⟨rfl,H.below⟩
 |true =>
  have PC : ∀ W,(Kd.slice 5 (Kd.int .u8)).C W A l.length l → Half W → Calls Tryd.prog 39 #[.slice A l.length c] W fun e W' => ∃ v,e = .returned (.tuple #[v,.bool true]) ∧ Own W F0 [.row v 3 1 l.length (nums .i64 (layPl 0 l l.length))] W' := fun W h1 h2 => (places_calls l A c W hl hll (by omega) h1 h2).mono (by
   rintro e W' (⟨-,h⟩|⟨h,-⟩)
   ·exact h
   ·rw [hok] at h;cases h)
  have CC := fun W h1 h2 h3 => clashes_yes e64 l A A2 c n2 c2 fl W he hok hl hll hn h1 hf hb h2 hc2 hn2 h3
  have hq : ((((badL e64 l (bodyF e64 fl n2 16) (oksF e64 fl n2 16) l.length).length : Nat) : Int) == 0) = (badL e64 l (bodyF e64 fl n2 16) (oksF e64 fl n2 16) l.length).isEmpty := by
   cases badL e64 l (bodyF e64 fl n2 16) (oksF e64 fl n2 16) l.length with
   |nil => rfl
   |cons a b => simp;omega
  rw [Bool.true_and,← hq]
  clear hq
  generalize badL e64 l (bodyF e64 fl n2 16) (oksF e64 fl n2 16) l.length = outs at *
  generalize outs.length = m at *
  generalize l.length = n at *
  generalize layPl 0 l n = pl at *
  go_enter Tryd.func21,Tryd.ntmps21
  go_wp2_with (first
   |(go_at_call 39;(with_reducible refine (PC _ (Kd.C_below hC H.below) (hH.below H.below)).mono ?_);rintro e W ⟨v7,rfl,HO⟩;replace H := H.addOwn HO;clear HO;dsimp only [List.cons_append,List.nil_append] at H;obtain ⟨A7,c7,rfl⟩ := H.row_slice .head)
   |(go_at_call 23;(with_reducible refine (CC _ (Kd.C_below hC H.below) (hr.below H.below) (hH.below H.below)).mono ?_);rintro e W ⟨Ar,cr,rfl,HO⟩;replace H := H.addOwn HO;clear HO))
  go_ret
  exact ⟨rfl,H.below⟩
end Go.Proofs.YtaekpfhgdnfciaaDoor.O
end

section
namespace Go.Proofs.YtaekpfhgdnfciaaDoor.O
open Go.Proofs.YtaekpfhgdnfciaaDoor.F Go.Proofs.YtaekpfhgdnfciaaDoor.F.Nums Go.Proofs.YtaekpfhgdnfciaaDoor.Plain
set_option maxRecDepth 100000 in
theorem bad_s : badL 3 [[97]] (bodyF 3 (flatW 3 (Img.laySt 3 [[97]] 1).1 1 16) 16 16) (oksF 3 (flatW 3 (Img.laySt 3 [[97]] 1).1 1 16) 16 16) 1 = [] := by decide +kernel
set_option maxRecDepth 100000 in
theorem bad_t : badL 3 [[97]] (bodyF 3 (flatW 3 (Img.laySt 3 [[98]] 1).1 1 16) 16 16) (oksF 3 (flatW 3 (Img.laySt 3 [[98]] 1).1 1 16) 16 16) 1 = [0] := by decide +kernel
theorem lay_a : Img.layAll 3 [[97]] = true ∧ Img.layAll 3 [[98]] = true ∧ Img.layAll 0 [[97]] = true ∧ (Img.laySt 3 [[97]] 1).2 = 12 ∧ (Img.laySt 3 [[98]] 1).2 = 12 := by refine ⟨?_,?_,?_,?_,?_⟩ <;> decide +kernel
theorem C_one {w : World} {g g' : Nat} {x : Int} {t : TypeId} {fr fr' : Nat × Nat} (h : w.heap[g]? = some (.cells #[.int .u8 x] t fr)) {t' : TypeId} (h' : w.heap[g']? = some (.cells #[.slice (some ⟨g,0,none⟩) 1 1] t' fr')) : (Kd.slice 5 (Kd.int .u8)).C w (some ⟨g',0,none⟩) 1 [[x]] := by
 refine C_rows [[x]] (by simp) (fun j hj => ?_)
 obtain rfl : j = 0 := by simp at hj;omega
 refine ⟨some ⟨g,0,none⟩,1,?_,Nat.le_refl _,C_cells19 (l := [x]) h (by simp)⟩
 rw [addr_add]
 have := cell_of_row w g' 0 _ _ _ h'
 simpa using this
set_option maxRecDepth 100000 in
set_option maxHeartbeats 4000000 in
theorem awake20_calls (w : World) (hH : Half w) : Calls Tryd.prog 19 #[] w fun e W => e = .returned (.bool true) ∧ Below w.heap.size w W := by
 have hB : ∀ y : Int,y = 97 ∨ y = 98 → ∀ x ∈ ([[y]] : List (List Int)),Bytes x := fun y hy x hx => by
  simp at hx
  subst hx
  intro c hc
  simp at hc
  omega
 have hL : ∀ y : Int,∀ x ∈ ([[y]] : List (List Int)),x.length < 140737488355328 := fun y x hx => by
  simp at hx
  subst hx
  simp
 have ht1 : tch (cl 0) (cl (Img.laySt 3 [[97]] 1).2) = (((0 : Nat) : Int),((1 : Nat) : Int)) := by rw [lay_a.2.2.2.1];decide +kernel
 have ht2 : tch (cl 0) (cl (Img.laySt 3 [[98]] 1).2) = (((0 : Nat) : Int),((1 : Nat) : Int)) := by rw [lay_a.2.2.2.2];decide +kernel
 have SC1 := fun A c W h (hc : 1 ≤ c) => rsectors_yes 3 [[97]] A c W 1 lay_a.1 ht1 (by decide) (by decide) (hB 97 (.inl rfl)) (fun x hx => Nat.le_of_lt (hL 97 x hx)) (by decide) h hc
 have SC2 := fun A c W h (hc : 1 ≤ c) => rsectors_yes 3 [[98]] A c W 1 lay_a.2.1 ht2 (by decide) (by decide) (hB 98 (.inr rfl)) (fun x hx => Nat.le_of_lt (hL 98 x hx)) (by decide) h hc
 have FR1 := fun A c A2 c2 W h1 h2 h3 h4 => free_calls 3 [[97]] A A2 c 16 c2 (flatW 3 (Img.laySt 3 [[97]] 1).1 1 16) W (by decide) (hB 97 (.inl rfl)) (hL 97) (by decide) h1 (flatW_len _ _ _ _) (flatW_bytes (Img.laySt_bytes 3 _ (hB 97 (.inl rfl)) _) _ _ _) h2 h3 (by decide) h4
 have FR2 := fun A c A2 c2 W h1 h2 h3 h4 => free_calls 3 [[97]] A A2 c 16 c2 (flatW 3 (Img.laySt 3 [[98]] 1).1 1 16) W (by decide) (hB 97 (.inl rfl)) (hL 97) (by decide) h1 (flatW_len _ _ _ _) (flatW_bytes (Img.laySt_bytes 3 _ (hB 98 (.inr rfl)) _) _ _ _) h2 h3 (by decide) h4
 simp only [List.length_cons,List.length_nil,Nat.zero_add,Nat.reduceAdd,bad_s,bad_t,lay_a.2.2.1,List.isEmpty_nil,List.isEmpty_cons,Bool.and_true,Bool.and_false] at SC1 SC2 FR1 FR2
 clear ht1 ht2
 generalize flatW 3 (Img.laySt 3 [[97]] 1).1 1 16 = f1 at *
 generalize flatW 3 (Img.laySt 3 [[98]] 1).1 1 16 = f2 at *
 have kc := fun (w : World) (C : Array Value) (n c : Nat) => Lib.run_convert_bytes_const (P := Tryd.prog) w 38 5 C n c Tryd.underlying38 Tryd.underlying5
 go_enter Tryd.func19,Tryd.ntmps19
 go_wp2_with fail
 obtain ⟨W1,hW1⟩ : ∃ W1,(w.alloc (.cells #[.int .u8 97] 5 (1,2))) = W1 := ⟨_,rfl⟩
 have a1 := blk_new w (.cells #[.int .u8 97] 5 (1,2))
 have z1 : W1.heap.size = w.heap.size + 1 := by rw [← hW1];simp
 have B1 : Below w.heap.size w W1 := by rw [← hW1];exact below_alloc (Below.refl _ _) _
 rw [hW1] at a1 ⊢
 clear hW1
 obtain ⟨o2,ho2⟩ : ∃ o2,(Obj.cells #[.slice (some ⟨w.heap.size,0,none⟩) 1 1] 38) = o2 := ⟨_,rfl⟩
 rw [ho2]
 have a2 := blk_new W1 o2
 replace a1 := blk_alloc a1 o2
 have B2 : Below w.heap.size w (W1.alloc o2) := below_alloc B1 _
 rw [z1] at a2
 generalize W1.alloc o2 = W2 at a1 a2 B2 ⊢
 rw [← ho2] at a2
 clear ho2 B1 z1
 have CL := C_one a1 a2
 have H := Own.start W2
 have hH2 := hH.below B2
 clear a1 a2
 refine (SC1 _ _ _ CL (by decide)).mono ?_
 rintro e W ⟨v1,rfl,ho,hb'⟩
 replace H := H.addRow hb' ho
 clear ho hb'
 obtain ⟨A1,c1,rfl⟩ := H.row_slice .head
 go_wp2_with fail
 obtain ⟨W3,hW3⟩ : ∃ W3,(W.alloc (.cells #[.int .u8 98] 5 (1,2))) = W3 := ⟨_,rfl⟩
 have a1 := blk_new W (.cells #[.int .u8 98] 5 (1,2))
 have z1 : W3.heap.size = W.heap.size + 1 := by rw [← hW3];simp
 have B3 : Below W.heap.size W W3 := by rw [← hW3];exact below_alloc (Below.refl _ _) _
 rw [hW3] at a1 ⊢
 clear hW3
 obtain ⟨o2,ho2⟩ : ∃ o2,(Obj.cells #[.slice (some ⟨W.heap.size,0,none⟩) 1 1] 38) = o2 := ⟨_,rfl⟩
 rw [ho2]
 have a2 := blk_new W3 o2
 replace a1 := blk_alloc a1 o2
 have B4 : Below W.heap.size W (W3.alloc o2) := below_alloc B3 _
 rw [z1] at a2
 generalize W3.alloc o2 = W4 at a1 a2 B4 ⊢
 rw [← ho2] at a2
 clear ho2 B3 z1
 have CL2 := C_one a1 a2
 replace H := H.to B4
 clear a1 a2 B4
 refine (SC2 _ _ _ CL2 (by decide)).mono ?_
 rintro e W5 ⟨v1,rfl,ho,hb'⟩
 replace H := H.addRow hb' ho
 clear ho hb' CL2
 obtain ⟨A4,c4,rfl⟩ := H.row_slice .head
 go_wp2_with (first
  |(go_at_call 21;(with_reducible refine (FR1 _ _ A1 c1 _ (Kd.C_below CL H.below) (H.rd (A := A1) (by repeat constructor)).1 (H.rd (A := A1) (by repeat constructor)).2.1 (hH2.below H.below)).mono ?_);rintro e W ⟨rfl,hb⟩;replace H := H.to hb;clear hb)
  |(go_at_call 21;(with_reducible refine (FR2 _ _ A4 c4 _ (Kd.C_below CL H.below) (H.rd (A := A4) (by repeat constructor)).1 (H.rd (A := A4) (by repeat constructor)).2.1 (hH2.below H.below)).mono ?_);rintro e W ⟨rfl,hb⟩;replace H := H.to hb;clear hb))
 go_ret
 exact ⟨rfl,B2.trans (H.below.mono (by have := B2.size;omega))⟩
theorem secAt_appF {fo fn keep : List Int} {torn cut : Int} {n : Nat} (ho : fo.length = 64 * n) (hn : fn.length = 64 * n) : ∀ m,m ≤ n → ∀ k,k < m → secAt (appF fo fn keep torn cut m) k = outAt fo fn keep torn cut k := by
 intro m
 induction m with
 |zero => intro _ k hk;omega
 |succ m ih =>
  intro hm k hk
  have hl := appF_len keep torn cut ho hn m (by omega) (by omega)
  by_cases e : k < m
  ·have e1 : secAt (appF fo fn keep torn cut (m + 1)) k = secAt (appF fo fn keep torn cut m) k := by
    show secAt (appF fo fn keep torn cut m ++ outAt fo fn keep torn cut m) k = _
    exact secAt_app _ _ k m hl e
   rw [e1]
   exact ih (by omega) k e
  ·obtain rfl : k = m := by omega
   have hol := outAt_len keep torn cut ho hn (show k < n by omega) (show k < n by omega)
   show secAt (appF fo fn keep torn cut k ++ outAt fo fn keep torn cut k) k = _
   have := secAt_end (appF fo fn keep torn cut k) (outAt fo fn keep torn cut k) k hl hol []
   rwa [List.append_nil] at this
theorem mixL_byte {xs ys : List Int} (hx : xs.length = 64) (hy : ys.length = 64) (c : Int) (j : Nat) (hj : j < 64) : (mixL xs ys c).getD j 0 = xs.getD j 0 ∨ (mixL xs ys c).getD j 0 = ys.getD j 0 := by
 have hc := nearN_le c
 unfold mixL
 generalize nearN c = m at *
 simp only [List.getD_eq_getElem?_getD]
 by_cases h : j < m
 ·right
  rw [List.getElem?_append_left (by rw [List.length_take];omega),List.getElem?_take_of_lt h]
 ·left
  rw [List.getElem?_append_right (by rw [List.length_take];omega),List.length_take,List.getElem?_drop,show m + (j - min m ys.length) = j by omega]
theorem byte_crash {fo fn keep : List Int} {torn cut : Int} {n : Nat} (ho : fo.length = 64 * n) (hn : fn.length = 64 * n) (k : Nat) (hk : k < n) (j : Nat) (hj : j < 64) : (secAt (appF fo fn keep torn cut n) k).getD j 0 = (secAt fo k).getD j 0 ∨ (secAt (appF fo fn keep torn cut n) k).getD j 0 = (secAt fn k).getD j 0 := by
 rw [secAt_appF ho hn n (Nat.le_refl _) k hk]
 exact mixL_byte (secAt_len ho hk) (secAt_len hn hk) _ j hj
end Go.Proofs.YtaekpfhgdnfciaaDoor.O
end

section
namespace Go.Proofs.YtaekpfhgdnfciaaDoor.O
open Go.Proofs.YtaekpfhgdnfciaaDoor.F Go.Proofs.YtaekpfhgdnfciaaDoor.F.Nums Go.Proofs.YtaekpfhgdnfciaaDoor.Plain Go.Proofs.YtaekpfhgdnfciaaDoor.Img
def NearP (xs ys : List Int) (i : Nat) (f t : Int) : Prop := (∀ k : Nat,k < i → xs.getD k 0 ≠ ys.getD k 0 → f ≤ (k : Int) ∧ (k : Int) ≤ t) ∧ ((f = -1 ∧ t = -1) ∨ (0 ≤ f ∧ f ≤ t ∧ t < (i : Int)))
theorem NearP.same {xs ys : List Int} {i : Nat} {f t : Int} (h : NearP xs ys i f t) (he : xs.getD i 0 = ys.getD i 0) : NearP xs ys (i + 1) f t := by
 refine ⟨fun k hk hne => ?_,?_⟩
 ·by_cases e : k = i
  ·subst e;exact absurd he hne
  ·exact h.1 k (by omega) hne
 ·rcases h.2 with h2|⟨h2,h3,h4⟩
  ·exact .inl h2
  ·exact .inr ⟨h2,h3,by omega⟩
theorem NearP.first {xs ys : List Int} {i : Nat} {f t : Int} (h : NearP xs ys i f t) (hf : f < 0) (he : xs.getD i 0 ≠ ys.getD i 0) : NearP xs ys (i + 1) (i : Int) (i : Int) := by
 refine ⟨fun k hk hne => ?_,.inr ⟨by omega,Int.le_refl _,by omega⟩⟩
 by_cases e : k = i
 ·omega
 ·have := h.1 k (by omega) hne
  rcases h.2 with h2|⟨h2,h3,h4⟩ <;> omega
theorem NearP.next {xs ys : List Int} {i : Nat} {f t : Int} (h : NearP xs ys i f t) (hf : 0 ≤ f) (he : xs.getD i 0 ≠ ys.getD i 0) : NearP xs ys (i + 1) f (i : Int) := by
 rcases h.2 with h2|⟨h2,h3,h4⟩
 ·omega
 ·refine ⟨fun k hk hne => ?_,.inr ⟨h2,by omega,by omega⟩⟩
  by_cases e : k = i
  ·omega
  ·have := h.1 k (by omega) hne;omega
theorem near_sec {e64 : Int} {l : List (List Int)} {xs ys : List Int} {T : Nat} {f t : Int} (hP : NearP xs ys 64 f t) (h3 : t - f ≤ 3) (hlen : ∀ q ∈ lensL l 0 l.length,¬ (q / 52 = (T : Int) ∧ f ≤ q - 52 * (T : Int) + 12 ∧ q - 52 * (T : Int) + 12 ≤ t)) (hall : layAll e64 l = true) : NearSec e64 l xs ys T := by
 have heq : ∀ k : Nat,k < 64 → ¬ (f ≤ (k : Int) ∧ (k : Int) ≤ t) → xs.getD k 0 = ys.getD k 0 := fun k hk h => by
  by_cases e : xs.getD k 0 = ys.getD k 0
  ·exact e
  ·exact absurd (hP.1 k hk e) h
 rcases hP.2 with ⟨rfl,rfl⟩|⟨h1,h2,h4⟩
 ·exact ⟨64,fun j hj _ => heq j hj (by omega),fun k hk p hp hq => .inl (fun j h1 hj => heq j hj (by omega))⟩
 ·refine ⟨f.toNat,fun j hj h => heq j hj (by omega),fun k hk p hp hq => ?_⟩
  have hok := (layAll_iff e64 l).1 hall k hk
  have ha := (pcs_asc hok).mem p hp
  have hpo := cutP_pcs (laySt e64 l k).2 (l.getD k []) p hp
  obtain ⟨a1,a2,a3,a4,a5,a6⟩ := ha
  obtain ⟨g1,-⟩ := hpo
  have hp1 : p ∈ pcs 1 l k := by rw [pcs_any 1 e64 l k (laySt_end_any 1 e64 l)];exact hp
  obtain ⟨m4,m5⟩ := lens_mem hp1 l.length 0 (Nat.zero_le _) (by omega)
  have n4 := hlen _ m4
  have n5 := hlen _ m5
  have hm : p.f0 % 52 ≤ 41 := by omega
  have hq4 : (p.f0 + 4) / 52 = (T : Int) := by omega
  have hq5 : (p.f0 + 5) / 52 = (T : Int) := by omega
  have n4' : ¬ (f ≤ p.f0 + 4 - 52 * (T : Int) + 12 ∧ p.f0 + 4 - 52 * (T : Int) + 12 ≤ t) := fun h => n4 ⟨hq4,h⟩
  have n5' : ¬ (f ≤ p.f0 + 5 - 52 * (T : Int) + 12 ∧ p.f0 + 5 - 52 * (T : Int) + 12 ≤ t) := fun h => n5 ⟨hq5,h⟩
  have hc : p.f0 - 52 * (T : Int) = ((p.f0.toNat % 52 : Nat) : Int) := by omega
  by_cases c : t < p.f0 + 4 - 52 * (T : Int) + 12
  ·left
   intro j h1 hj
   exact heq j hj (by omega)
  ·right
   intro j hj
   exact heq j (by omega) (by omega)
theorem near_core (e64 : Int) (h0 : 0 ≤ e64) (h1 : e64 ≤ 18446744073709551615) (he : e64 ≠ 0) (l : List (List Int)) (s : Nat) (hs : s ≤ l.length) (hall : layAll e64 l = true) (h512 : ∀ x ∈ l,x.length ≤ 512) (hlb : ∀ x ∈ l,Bytes x) (fo fn keep : List Int) (torn cut : Int)
  (hfo : fo = flatW e64 (laySt e64 l s).1 (secsOf (laySt e64 l s).2.toNat) 16) (hfn : fn = flatW e64 (laySt e64 l l.length).1 (secsOf (laySt e64 l l.length).2.toNat) 16)
  (hn : ∀ T : Nat,T < 16 → (T : Int) = torn → NearSec e64 l (secAt (appF fo fn keep torn cut 16) T) (secAt fn T) T) :
  (badL e64 l (bodyF e64 (appF fo fn keep torn cut 16) 16 16) (oksF e64 (appF fo fn keep torn cut 16) 16 16) l.length).isEmpty = true ∧ (scanM (e64 % 4294967296) (bodyF e64 (appF fo fn keep torn cut 16) 16 16) (oksF e64 (appF fo fn keep torn cut 16) 16 16)).recs.length ≤ l.length := by
 have hol : fo.length = 64 * 16 := by rw [hfo];exact flatW_len _ _ _ _
 have hnl : fn.length = 64 * 16 := by rw [hfn];exact flatW_len _ _ _ _
 have hob : Bytes fo := by rw [hfo];exact flatW_bytes (laySt_bytes e64 l hlb s) _ _ _
 have hnb : Bytes fn := by rw [hfn];exact flatW_bytes (laySt_bytes e64 l hlb _) _ _ _
 have hfl := appF_len keep torn cut hol hnl 16 (Nat.le_refl _) (Nat.le_refl _)
 have hfb := appF_bytes (keep := keep) (torn := torn) (cut := cut) hob hnb 16
 have hmx := fun k (hk : k < 16) j (hj : j < 64) => byte_crash (keep := keep) (torn := torn) (cut := cut) hol hnl k hk j hj
 have hsec : ∀ k,k < 16 → secAt (appF fo fn keep torn cut 16) k = secAt fo k ∨ secAt (appF fo fn keep torn cut 16) k = secAt fn k ∨ (k = torn.toNat ∧ NearSec e64 l (secAt (appF fo fn keep torn cut 16) k) (secAt fn k) torn.toNat) := fun k hk => by
  by_cases e : (k : Int) = torn
  ·right
   right
   have : torn.toNat = k := by omega
   rw [this]
   exact ⟨rfl,hn k hk e⟩
  ·rw [secAt_appF hol hnl 16 (Nat.le_refl _) k hk]
   unfold outAt cutAt
   rw [if_neg e]
   split
   ·right;left;exact mixL_64 (secAt_len hol hk) (secAt_len hnl hk)
   ·left;exact mixL_0 _ _
 generalize appF fo fn keep torn cut 16 = fl at *
 rw [hfo,hfn] at hmx hsec
 have hT := near_T e64 h0 h1 he l s hs hall hlb fl hfl hfb torn.toNat hmx hsec
 obtain ⟨m,hm1,hm2,hr⟩ := scan_tear e64 h0 h1 he l s hs hall h512 fl hfl hmx hT
 refine ⟨?_,by rw [hr,List.length_take];omega⟩
 have : badL e64 l (bodyF e64 fl 16 16) (oksF e64 fl 16 16) l.length = [] := badL_nil.2 (fun k hk p hp => badP_of (hT k hk p hp))
 rw [this]
 rfl
end Go.Proofs.YtaekpfhgdnfciaaDoor.O
end
