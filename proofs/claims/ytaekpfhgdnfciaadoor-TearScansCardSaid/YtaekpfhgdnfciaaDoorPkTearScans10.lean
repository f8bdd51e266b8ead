/- Texts of mine put together: StepYY. -/
import Derived.Test.YtaekpfhgdnfciaaDoorPkTearScans8
section
/- scan's step: one way it goes. -/
set_option linter.unusedVariables false
set_option linter.unusedSimpArgs false
namespace Go.Proofs.YtaekpfhgdnfciaaDoor.O
open Go.RowKit Go.Proofs.YtaekpfhgdnfciaaDoorW.PrintWords Go.Proofs.YtaekpfhgdnfciaaDoorW.PrintLast Go.Proofs.YtaekpfhgdnfciaaDoorW.PrintMore Go.Proofs.YtaekpfhgdnfciaaDoor.F Go.Proofs.YtaekpfhgdnfciaaDoor.F.Nums Go.Proofs.YtaekpfhgdnfciaaDoor.Plain
attribute [local go_sem] Oper.semAt_some
set_option maxRecDepth 100000 in
set_option maxHeartbeats 16000000 in
theorem step_YY {w W : World} {L : List Res} {gs gj : Nat} {ep : Int} {Ab Ao : Option Addr} {cb co : Nat} {F : List Int} {ok : List Bool} {E : List Res} {s : ScSt} (H : Own w F0 L W) (hS : Sc gs gj ep Ab Ao cb co F ok 0 E s L) (hat : s.at_ ≤ 832) (hrl : s.recs.length ≤ 1000)
  (hF : F.length = 832) (hFb : Bytes F) (hok : ok.length = 16) (hcb : 832 ≤ cb) (hco : 16 ≤ co) (hH : Half w) (hcls : scCls ep F ok s = 1) :
  Calls Tryd.prog 27 #[.pointer (some ⟨gs,0,none⟩)] W fun e W' =>
   (scStep (told ep F ok) s = none ∧ e = .returned (.bool false) ∧ ∃ s' L',Sc gs gj ep Ab Ao cb co F ok 0 E s' L' ∧ s'.recs = s.recs ∧ s'.places = s.places ∧ s'.en = s.en ∧ Own w F0 L' W') ∨
   (∃ s',scStep (told ep F ok) s = some s' ∧ e = .returned (.bool true) ∧ ∃ L',Sc gs gj ep Ab Ao cb co F ok 0 E s' L' ∧ Own w F0 L' W') := by
 obtain ⟨at0,op,b,fst,recs,places,en⟩ := s
 obtain ⟨Av,cv,x,vr,vp,cells,D,hx,hbc,hb5,hD,hpl,rfl⟩ := hS
 simp only at hat hrl hx hbc hb5 hD hpl H ⊢
 unfold scCls at hcls
 simp only at hcls
 have hvr : ∃ A c,vr = .slice A recs.length c := H.row_slice (.tail (.tail (.tail .head)))
 have hvp : ∃ A c,vp = .slice A recs.length c := H.row_slice (.tail (.tail (.tail (.tail .head))))
 obtain ⟨Ar0,cr0,rfl⟩ := hvr
 obtain ⟨Ap0,cp0,rfl⟩ := hvp
 have BG := fun W => begin_c at0 W
 have hp8 := bgN_le at0
 have hTn : told ep F ok (bgN at0) = none → scStep (told ep F ok) ⟨at0,op,b,fst,recs,places,en⟩ = none := fun h => scStep_none h
 have hTs : ∀ k d n,told ep F ok (bgN at0) = some (k,d,n) → scStep (told ep F ok) ⟨at0,op,b,fst,recs,places,en⟩ = scFed ⟨at0,op,b,fst,recs,places,en⟩ k d n := fun k d n h => scStep_some h
 have hfed : ∀ k d n,scFed ⟨at0,op,b,fst,recs,places,en⟩ k d n = if (feedF op b k d).1.2.2 ≠ 0 then none else if (feedF op b k d).1.2.1 = true then some ⟨bgN at0 + n,(feedF op b k d).2.1,(feedF op b k d).2.2,if op then fst else (bgN at0 : Int),recs ++ [(feedF op b k d).1.1],places ++ [if op then fst else (bgN at0 : Int)],bgN at0 + n⟩ else some ⟨bgN at0 + n,(feedF op b k d).2.1,(feedF op b k d).2.2,if op then fst else (bgN at0 : Int),recs,places,en⟩ := fun k d n => rfl
 generalize hpp : bgN at0 = p at *
 generalize hst : scStep (told ep F ok) ⟨at0,op,b,fst,recs,places,en⟩ = stp at *
 have C1 := fun W h => cov_own ok hok (p : Int) ((p : Int) + 11) Ao co hco W h
 have w1 : IntKind.i64.wrap ((p : Int) + 11) = (p : Int) + 11 := by rw [IntKind.wrap_i64];omega
 by_cases h832 : p = 832
 ·have hn : told ep F ok p = none := by unfold told;rw [if_pos h832]
  simp [hn] at hcls
 have q1 : ((p : Int) == 832) = false := by simp;omega
 have hplt : p < 832 := by omega
 cases hc1 : cov ok (p : Int) ((p : Int) + 11) with
 |false =>
  have hn : told ep F ok p = none := by unfold told;rw [if_neg h832,if_pos hc1]
  simp [hn] at hcls
 |true =>
  rw [hc1] at C1
  have LC := fun W => left_c (p : Int) W
  have hlf : lf (p : Int) = 208 - (p : Int) % 208 := by unfold lf;rw [if_neg (by omega)]
  rw [cl_in (a := (p : Int)) (by omega) (by omega)] at LC
  obtain ⟨lfn,hlfn⟩ : ∃ m,(lf (p : Int)).toNat = m := ⟨_,rfl⟩
  obtain ⟨hi,hhi⟩ : ∃ m,p + lfn = m := ⟨_,rfl⟩
  have hlc : lf (p : Int) = (lfn : Int) := by omega
  rw [hlc] at LC
  have hhl : hi - p = lfn := by omega
  have hh8 : p + lfn ≤ 832 := by omega
  have hph : p ≤ hi := by omega
  have hhc : hi ≤ cb := by omega
  have w2 : IntKind.i64.wrap ((p : Int) + (lfn : Int)) = (hi : Int) := by rw [IntKind.wrap_i64];omega
  have hfl : (frAt F p).length = lfn := by unfold frAt;rw [hlfn,List.length_take,List.length_drop];omega
  have hfb : Bytes (frAt F p) := bytes_take (bytes_drop hFb _) _
  have DC0 := fun W (hr : Rd W Ab (nums .u8 F)) h => decode_calls (frAt F p) ep (dropA Ab p cb 1) (cb - p) W (by rw [hfl];exact fr_C hr hF hcb hplt hlfn hh8) (by rw [hfl];omega) hfb h
  rw [hfl] at DC0
  have htold : told ep F ok p = if decE (frAt F p) ep ≠ 0 then none else if cov ok p (p + (11 + (nOf (frAt F p) : Int))) = false then none else some (kOf (frAt F p),decD (frAt F p),11 + nOf (frAt F p)) := by unfold told;rw [if_neg h832,if_neg (by rw [hc1];decide)]
  by_cases hdE : decE (frAt F p) ep ≠ 0
  ·have DC : ∀ W,Rd W Ab (nums .u8 F) → Half W → Calls Tryd.prog 49 #[.slice (dropA Ab p cb 1) lfn (cb - p),.int .u32 ep] W fun e W' => e = .returned (.tuple #[.agg #[.int .i64 0,.int .u32 0,.slice none 0 0],.int .i64 0,.int .i64 (decE (frAt F p) ep)]) ∧ Below W.heap.size W W' := fun W hr h => (DC0 W hr h).mono (by
    rintro e W' ⟨hb,⟨-,rfl⟩|⟨h0,-⟩⟩
    ·exact ⟨rfl,hb⟩
    ·exact absurd h0 hdE)
   rw [if_pos hdE] at htold
   simp [htold] at hcls
  ·have hdE0 : decE (frAt F p) ep = 0 := Decidable.of_not_not hdE
   have hdo := dec_ok hdE0
   rw [hfl] at hdo
   have hdl : (decD (frAt F p)).length = nOf (frAt F p) := by unfold decD;rw [List.length_drop,List.length_take];omega
   obtain ⟨m,hm⟩ : ∃ m,11 + nOf (frAt F p) = m := ⟨_,rfl⟩
   have DC : ∀ W,Rd W Ab (nums .u8 F) → Half W → Calls Tryd.prog 49 #[.slice (dropA Ab p cb 1) lfn (cb - p),.int .u32 ep] W fun e W' => ∃ A9 c9,e = .returned (.tuple #[.agg #[.int .i64 (kOf (frAt F p)),.int .u32 (eOf (frAt F p)),.slice A9 (nOf (frAt F p)) c9],.int .i64 (m : Int),.int .i64 0]) ∧ W'.ownsRow W.heap.size 5 1 (.slice A9 (nOf (frAt F p)) c9) (nOf (frAt F p)) (nums .u8 (decD (frAt F p))) ∧ Below W.heap.size W W' := fun W hr h => (DC0 W hr h).mono (by
    rintro e W' ⟨hb,⟨h0,-⟩|⟨-,A9,c9,rfl,-,-,ho⟩⟩
    ·exact absurd hdE0 h0
    ·exact ⟨A9,c9,by rw [← hm];rfl,ho,hb⟩)
   rw [if_neg hdE,show ((p : Int) + (11 + (nOf (frAt F p) : Int))) = (p : Int) + (m : Int) by omega,hm] at htold
   have hn197 := hdo.2.2.1
   have C2 := fun W h => cov_own ok hok (p : Int) ((p : Int) + (m : Int)) Ao co hco W h
   have w3 : IntKind.i64.wrap ((p : Int) + (m : Int)) = ((p + m : Nat) : Int) := by rw [IntKind.wrap_i64];omega
   have hpm : p + m ≤ 832 := by omega
   rw [show (p : Int) + (m : Int) = ((p + m : Nat) : Int) by omega] at C2 htold
   have hm4 : m ≤ 1000 := by omega
   clear DC0 hfl hfb hdo hm hdE hdE0
   generalize kOf (frAt F p) = kk at *
   generalize eOf (frAt F p) = ee at *
   generalize decD (frAt F p) = d at *
   generalize nOf (frAt F p) = nn at *
   clear hlf hlfn hhi hlc
   obtain ⟨pm,hpmm⟩ : ∃ y,p + m = y := ⟨_,rfl⟩
   rw [hpmm] at w3 C2 htold hpm
   cases hc2 : cov ok (p : Int) (pm : Int) with
   |false =>
    rw [hc2] at C2
    rw [if_pos hc2] at htold
    simp [htold] at hcls
   |true =>
    rw [hc2] at C2
    rw [if_neg (by rw [hc2];decide)] at htold
    have hst2 := hTs _ _ _ htold
    rw [hfed] at hst2
    have FD := fun (A9 : Option Addr) (c9 : Nat) (W : World) (L' : List Res) (c1 : Res → List Res) (H : Own w F0 (.row x 5 1 b.length (nums .u8 b) :: L') W) (hI : In L' (.blk gj 106 [.bool op,.slice Av b.length cv]) c1) (hd : Kd.C (Kd.int .u8) W A9 d.length d) (hdc : d.length ≤ c9) => feed_own op b kk ee d gj Av A9 cv c9 x H hI hx hbc (by omega) hd (by omega) hdc
    rw [hdl] at FD
    obtain ⟨r,hr⟩ : ∃ r,feedF op b kk d = r := ⟨_,rfl⟩
    have hb2l := feedF_len op b kk d
    rw [hr] at hst2 hb2l
    simp only [hr] at FD
    obtain ⟨⟨rd,dn,er⟩,⟨o2,b2⟩⟩ := r
    simp only at hst2 FD hb2l
    simp only [htold] at hcls
    rw [hpmm] at hst2
    clear hTn hTs hfed
    go_enter Tryd.func27,Tryd.ntmps27
    go_wp2_with (first
  |((with_reducible refine gate_dst (N := 12) rfl ?_);refine l_load1 rfl H 3 _ rfl _ _ rfl (by (repeat (first|exact In.head|apply In.tail))) _ Tryd.underlying3 rfl _ (by first|rfl|assumption|exact nums_at _ (by omega)) ?_)
  |((with_reducible refine gate_dst (N := 20) rfl ?_);refine gate_guard (by rfl) ?_;refine l_load1 rfl H 63 _ rfl _ _ rfl (by (repeat (first|exact In.head|apply In.tail))) _ Tryd.underlying63 rfl _ (by first|rfl|assumption|exact nums_at _ (by omega)) ?_)
    |(go_at_call 47;(with_reducible refine (BG _).mono ?_);rintro e W ⟨rfl,hb⟩;replace H := H.to hb;clear hb)
    |(go_at_call 48;(with_reducible refine (C1 _ (H.rd (by repeat (first|exact In.head|apply In.tail))).1).mono ?_);rintro e W ⟨rfl,hb⟩;replace H := H.to hb;clear hb))
    refine start_ (n := 23) (S := fun X => X.heap[gs]? = some (.cells #[.int .u32 ep,.slice Ab 832 cb,.slice Ao 16 co,.pointer (some ⟨gj,0,none⟩),.int .i64 (at0 : Int),.int .i64 fst,.slice Ar0 recs.length cr0,.slice Ap0 recs.length cp0,.int .i64 (en : Int),.int .i64 0] 71 (0,0))) (ds := []) #[f_,f_,f_,f_,f_,f_,f_,f_,f_,f_,f_,f_,f_,f_,f_,f_,f_,f_,f_,f_,f_,f_,f_] (by kernel_rfl) rfl rfl (H.drew.heap (by repeat (first|exact In.head|apply In.tail))) (fun hHeld => ?_)
    replace H := H.drew
    generalize World.drew _ = W at H hHeld ⊢
    refine pure_ (i := 0) (N := some 28) (v := ?_) (a' := ?_) #[t_,f_,f_,f_,f_,f_,f_,f_,f_,f_,f_,f_,f_,f_,f_,f_,f_,f_,f_,f_,f_,f_,f_] rfl rfl (by kernel_rfl) (fun _ _ _ h => h) (Or.inl ⟨by rfl,?_⟩) ?_ ?_
    rotate_left
    ·intro w'
     go_simp
     with_reducible rfl
    rotate_left
    ·simp only [ps_]
     rfl
    refine pure_ (i := 1) (N := some 29) (v := ?_) (a' := ?_) #[t_,t_,f_,f_,f_,f_,f_,f_,f_,f_,f_,f_,f_,f_,f_,f_,f_,f_,f_,f_,f_,f_,f_] rfl rfl (by kernel_rfl) (fun _ _ _ h => h) (Or.inl ⟨by rfl,?_⟩) ?_ ?_
    rotate_left
    ·intro w'
     go_simp
     with_reducible rfl
    rotate_left
    ·simp only [ps_]
     rfl
    refine pure_ (i := 2) (N := some 30) (v := ?_) (a' := ?_) #[t_,t_,t_,f_,f_,f_,f_,f_,f_,f_,f_,f_,f_,f_,f_,f_,f_,f_,f_,f_,f_,f_,f_] rfl rfl (by kernel_rfl) (fun _ _ _ h => h) (Or.inl ⟨by rfl,?_⟩) ?_ ?_
    rotate_left
    ·intro w'
     go_simp
     with_reducible rfl
    rotate_left
    ·simp only [ps_]
     rfl
    refine pure_ (i := 4) (N := some 32) (v := ?_) (a' := ?_) #[t_,t_,t_,f_,t_,f_,f_,f_,f_,f_,f_,f_,f_,f_,f_,f_,f_,f_,f_,f_,f_,f_,f_] rfl rfl (by kernel_rfl) (fun _ _ _ h => h) (Or.inl ⟨by rfl,?_⟩) ?_ ?_
    rotate_left
    ·intro w'
     go_simp
     with_reducible rfl
    rotate_left
    ·simp only [ps_]
     rfl
    refine pure_ (i := 5) (N := some 33) (v := ?_) (a' := ?_) #[t_,t_,t_,f_,t_,t_,f_,f_,f_,f_,f_,f_,f_,f_,f_,f_,f_,f_,f_,f_,f_,f_,f_] rfl rfl (by kernel_rfl) (fun _ _ _ h => h) (Or.inl ⟨by rfl,?_⟩) ?_ ?_
    rotate_left
    ·intro w'
     go_simp
     with_reducible rfl
    rotate_left
    ·simp only [ps_]
     rfl
    refine pure_ (i := 6) (N := some 34) (v := ?_) (a' := ?_) #[t_,t_,t_,f_,t_,t_,t_,f_,f_,f_,f_,f_,f_,f_,f_,f_,f_,f_,f_,f_,f_,f_,f_] rfl rfl (by kernel_rfl) (fun _ _ _ h => h) (Or.inl ⟨by rfl,?_⟩) ?_ ?_
    rotate_left
    ·intro w'
     go_simp
     with_reducible rfl
    rotate_left
    ·simp only [ps_]
     rfl
    refine pure_ (i := 10) (N := some 38) (v := ?_) (a' := ?_) #[t_,t_,t_,f_,t_,t_,t_,f_,f_,f_,t_,f_,f_,f_,f_,f_,f_,f_,f_,f_,f_,f_,f_] rfl rfl (by kernel_rfl) (fun _ _ _ h => h) (Or.inl ⟨by rfl,?_⟩) ?_ ?_
    rotate_left
    ·intro w'
     go_simp
     with_reducible rfl
    rotate_left
    ·simp only [ps_]
     rfl
    refine pure_ (i := 11) (N := some 39) (v := ?_) (a' := ?_) #[t_,t_,t_,f_,t_,t_,t_,f_,f_,f_,t_,t_,f_,f_,f_,f_,f_,f_,f_,f_,f_,f_,f_] rfl rfl (by kernel_rfl) (fun _ _ _ h => h) (Or.inl ⟨by rfl,?_⟩) ?_ ?_
    rotate_left
    ·intro w'
     go_simp
     with_reducible rfl
    rotate_left
    ·simp only [ps_]
     rfl
    refine pure_ (i := 12) (N := some 40) (v := ?_) (a' := ?_) #[t_,t_,t_,f_,t_,t_,t_,f_,f_,f_,t_,t_,t_,f_,f_,f_,f_,f_,f_,f_,f_,f_,f_] rfl rfl (by kernel_rfl) (fun _ _ _ h => h) (Or.inl ⟨by rfl,?_⟩) ?_ ?_
    rotate_left
    ·intro w'
     go_simp
     with_reducible rfl
    rotate_left
    ·simp only [ps_]
     rfl
    refine take_run (i := 3) (N := some 31) (a' := ?_) #[t_,t_,t_,t_,t_,t_,t_,f_,f_,f_,t_,t_,t_,f_,f_,f_,f_,f_,f_,f_,f_,f_,f_] rfl rfl (by kernel_rfl) (fun _ _ _ _ h => h) (by rfl) hHeld (.slice Ab 832 cb) (fun X HX => r_loadH 38 _ rfl rfl HX rfl Tryd.underlying38 rfl) ?_ ?_
    rotate_left
    ·simp only [ps_]
     rfl
    refine take_run (i := 13) (N := some 41) (a' := ?_) #[t_,t_,t_,t_,t_,t_,t_,f_,f_,f_,t_,t_,t_,t_,f_,f_,f_,f_,f_,f_,f_,f_,f_] rfl rfl (by kernel_rfl) (fun _ _ _ _ h => h) (by rfl) hHeld (.int .u32 ep) (fun X HX => r_loadH 67 _ rfl rfl HX rfl Tryd.underlying67 rfl) ?_ ?_
    rotate_left
    ·simp only [ps_]
     rfl
    refine join_ (σ := Nat × Option Addr × Nat) 3 #[t_,t_,t_,t_,t_,t_,t_,t_,t_,t_,t_,t_,t_,t_,t_,t_,t_,t_,t_,t_,f_,f_,f_] (fun (g4,A9,c9) => [(35,Value.int .i64 (lfn : Int)),(36,Value.int .i64 (hi : Int)),(37,Value.slice (dropA Ab p cb 1) lfn (cb - p)),(42,Value.tuple #[Value.agg #[.int .i64 kk,.int .u32 ee,.slice A9 nn c9],.int .i64 (m : Int),.int .i64 0]),(27,Value.tuple #[Value.agg #[.int .i64 kk,.int .u32 ee,.slice A9 nn c9],.int .i64 (m : Int),.int .i64 0]),(43,Value.agg #[.int .i64 kk,.int .u32 ee,.slice A9 nn c9]),(44,Value.int .i64 (m : Int)),(45,Value.int .i64 0),(4,Value.pointer (some ⟨g4,0,none⟩))]) (fun (g4,A9,c9) W => Own w F0 (.row (.slice A9 nn c9) 5 1 nn (nums .u8 d) :: .blk g4 76 [.int .i64 0,.int .u32 0,.slice none 0 0] :: .blk gs 71 [.int .u32 ep,.slice Ab 832 cb,.slice Ao 16 co,.pointer (some ⟨gj,0,none⟩),.int .i64 (at0 : Int),.int .i64 fst,.slice Ar0 recs.length cr0,.slice Ap0 recs.length cp0,.int .i64 (en : Int),.int .i64 0] :: .blk gj 106 [.bool op,.slice Av b.length cv] :: .row x 5 1 b.length (nums .u8 b) :: .row (.slice Ar0 recs.length cr0) 38 1 recs.length cells :: .row (.slice Ap0 recs.length cp0) 3 1 recs.length (nums .i64 places) :: .row (.slice Ab 832 cb) 5 1 832 (nums .u8 F) :: .row (.slice Ao 16 co) 4 1 16 (bools ok) :: (D ++ E)) W) ?_ (fun hC => ?_)
    rotate_left
    focus
     simp only [putAll,Act.put,List.setIfInBounds_toArray,List.set_cons_zero,List.set_cons_succ] at hC
     refine two_ (i := 7) (j := 19) (Ni := some 35) (Nj := some 4) #[t_,t_,t_,t_,t_,t_,t_,t_,f_,f_,t_,t_,t_,t_,f_,f_,f_,f_,f_,f_,f_,f_,f_] #[t_,t_,t_,t_,t_,t_,t_,f_,f_,f_,t_,t_,t_,t_,f_,f_,f_,f_,f_,t_,f_,f_,f_] rfl rfl rfl rfl (by kernel_rfl) (by decide) (by decide) (fun K hK => ?_) (fun K hK => ?_)
     focus
      refine callK_ (LC W) Tryd.func50 (by kernel_rfl) rfl (by rfl) rfl rfl (by (try simp only [List.map_toArray,List.map_cons,List.map_nil]);first|done|rfl) ?_
      rintro e W ⟨rfl,hb⟩
      refine ⟨_,rfl,?_⟩
      replace H := H.to hb
      clear hb
      refine hK.out _ _ ?_ (fun hHeld => ?_)
      ·first|trivial|exact H|exact H.del .head|exact (H.del .head).del .head|exact H.heap (by (repeat (first|exact In.head|apply In.tail)))
      clear hK K
      refine norm_ (a' := ?_) ?_ ?_
      rotate_left
      ·show Act.put _ (some 35) _ = _
       simp only [ps_]
       rfl
      refine pure_ (i := 8) (N := some 36) (v := ?_) (a' := ?_) #[t_,t_,t_,t_,t_,t_,t_,t_,t_,f_,t_,t_,t_,t_,f_,f_,f_,f_,f_,f_,f_,f_,f_] rfl rfl (by kernel_rfl) (fun _ _ _ h => h) (Or.inl ⟨by rfl,?_⟩) ?_ ?_
      rotate_left
      ·intro w'
       go_simp
       with_reducible rfl
      rotate_left
      ·simp only [ps_]
       rfl
      refine take_run (i := 9) (N := some 37) (a' := ?_) #[t_,t_,t_,t_,t_,t_,t_,t_,t_,t_,t_,t_,t_,t_,f_,f_,f_,f_,f_,f_,f_,f_,f_] rfl rfl (by kernel_rfl) (fun _ _ _ _ h => h) (by rfl) hHeld (.slice (dropA Ab p cb 1) lfn (cb - p)) (fun X HX => (by rw [← hhl];exact x_slice_lohi _ _ _ rfl rfl Tryd.underlying38 size5 p hi rfl rfl hph hhc X)) ?_ ?_
      rotate_left
      ·simp only [ps_]
       rfl
      refine two_ (i := 14) (j := 19) (Ni := some 42) (Nj := some 4) #[t_,t_,t_,t_,t_,t_,t_,t_,t_,t_,t_,t_,t_,t_,t_,f_,f_,f_,f_,f_,f_,f_,f_] #[t_,t_,t_,t_,t_,t_,t_,t_,t_,t_,t_,t_,t_,t_,f_,f_,f_,f_,f_,t_,f_,f_,f_] rfl rfl rfl rfl (by kernel_rfl) (by decide) (by decide) (fun K hK => ?_) (fun K hK => ?_)
      focus
       refine callK_ (DC _ (H.rd (by repeat (first|exact In.head|apply In.tail))).1 (hH.below H.below)) Tryd.func49 (by kernel_rfl) rfl (by rfl) rfl rfl (by (try simp only [List.map_toArray,List.map_cons,List.map_nil]);first|done|rfl) ?_
       rintro e W ⟨A9,c9,rfl,ho,hb⟩
       refine ⟨_,rfl,?_⟩
       replace H := H.addRow hb ho
       clear hb ho
       refine hK.out _ _ ?_ (fun hHeld => ?_)
       ·first|trivial|exact H|exact H.del .head|exact (H.del .head).del .head|exact H.heap (by (repeat (first|exact In.head|apply In.tail)))
       clear hK K
       refine norm_ (a' := ?_) ?_ ?_
       rotate_left
       ·show Act.put _ (some 42) _ = _
        simp only [ps_]
        rfl
       refine pure_ (i := 15) (N := some 27) (v := ?_) (a' := ?_) #[t_,t_,t_,t_,t_,t_,t_,t_,t_,t_,t_,t_,t_,t_,t_,t_,f_,f_,f_,f_,f_,f_,f_] rfl rfl (by kernel_rfl) (fun _ _ _ h => h) (Or.inl ⟨by rfl,?_⟩) ?_ ?_
       rotate_left
       ·intro w'
        go_simp
        with_reducible rfl
       rotate_left
       ·simp only [ps_]
        rfl
       refine pure_ (i := 16) (N := some 43) (v := ?_) (a' := ?_) #[t_,t_,t_,t_,t_,t_,t_,t_,t_,t_,t_,t_,t_,t_,t_,t_,t_,f_,f_,f_,f_,f_,f_] rfl rfl (by kernel_rfl) (fun _ _ _ h => h) (Or.inl ⟨by rfl,?_⟩) ?_ ?_
       rotate_left
       ·intro w'
        go_simp
        with_reducible rfl
       rotate_left
       ·simp only [ps_]
        rfl
       refine pure_ (i := 17) (N := some 44) (v := ?_) (a' := ?_) #[t_,t_,t_,t_,t_,t_,t_,t_,t_,t_,t_,t_,t_,t_,t_,t_,t_,t_,f_,f_,f_,f_,f_] rfl rfl (by kernel_rfl) (fun _ _ _ h => h) (Or.inl ⟨by rfl,?_⟩) ?_ ?_
       rotate_left
       ·intro w'
        go_simp
        with_reducible rfl
       rotate_left
       ·simp only [ps_]
        rfl
       refine pure_ (i := 18) (N := some 45) (v := ?_) (a' := ?_) #[t_,t_,t_,t_,t_,t_,t_,t_,t_,t_,t_,t_,t_,t_,t_,t_,t_,t_,t_,f_,f_,f_,f_] rfl rfl (by kernel_rfl) (fun _ _ _ h => h) (Or.inl ⟨by rfl,?_⟩) ?_ ?_
       rotate_left
       ·intro w'
        go_simp
        with_reducible rfl
       rotate_left
       ·simp only [ps_]
        rfl
       refine one_ (i := 19) (N := some 4) #[t_,t_,t_,t_,t_,t_,t_,t_,t_,t_,t_,t_,t_,t_,t_,t_,t_,t_,t_,t_,f_,f_,f_] rfl rfl (by kernel_rfl) (by decide) (fun K hK => ?_)
       refine wanted_ rfl ?_
       refine w_allocA H 76 rfl _ zero76 ?_
       clear H
       intro g4 W H
       refine hK.out _ _ ?_ (fun hHeld => ?_)
       ·first|trivial|exact H|exact H.del .head|exact (H.del .head).del .head|exact H.heap (by (repeat (first|exact In.head|apply In.tail)))
       clear hK K
       refine norm_ (a' := ?_) ?_ ?_
       rotate_left
       ·show Act.put _ (some 4) _ = _
        simp only [ps_]
        rfl
      rotate_left 1
      focus
       refine wanted_ rfl ?_
       refine w_allocA H 76 rfl _ zero76 ?_
       clear H
       intro g4 W H
       refine hK.out _ _ ?_ (fun hHeld => ?_)
       ·first|trivial|exact H|exact H.del .head|exact (H.del .head).del .head|exact H.heap (by (repeat (first|exact In.head|apply In.tail)))
       clear hK K
       refine norm_ (a' := ?_) ?_ ?_
       rotate_left
       ·show Act.put _ (some 4) _ = _
        simp only [ps_]
        rfl
       refine one_ (i := 14) (N := some 42) #[t_,t_,t_,t_,t_,t_,t_,t_,t_,t_,t_,t_,t_,t_,t_,f_,f_,f_,f_,t_,f_,f_,f_] rfl rfl (by kernel_rfl) (by decide) (fun K hK => ?_)
       refine callK_ (DC _ (H.rd (by repeat (first|exact In.head|apply In.tail))).1 (hH.below H.below)) Tryd.func49 (by kernel_rfl) rfl (by rfl) rfl rfl (by (try simp only [List.map_toArray,List.map_cons,List.map_nil]);first|done|rfl) ?_
       rintro e W ⟨A9,c9,rfl,ho,hb⟩
       refine ⟨_,rfl,?_⟩
       replace H := H.addRow hb ho
       clear hb ho
       refine hK.out _ _ ?_ (fun hHeld => ?_)
       ·first|trivial|exact H|exact H.del .head|exact (H.del .head).del .head|exact H.heap (by (repeat (first|exact In.head|apply In.tail)))
       clear hK K
       refine norm_ (a' := ?_) ?_ ?_
       rotate_left
       ·show Act.put _ (some 42) _ = _
        simp only [ps_]
        rfl
       refine pure_ (i := 15) (N := some 27) (v := ?_) (a' := ?_) #[t_,t_,t_,t_,t_,t_,t_,t_,t_,t_,t_,t_,t_,t_,t_,t_,f_,f_,f_,t_,f_,f_,f_] rfl rfl (by kernel_rfl) (fun _ _ _ h => h) (Or.inl ⟨by rfl,?_⟩) ?_ ?_
       rotate_left
       ·intro w'
        go_simp
        with_reducible rfl
       rotate_left
       ·simp only [ps_]
        rfl
       refine pure_ (i := 16) (N := some 43) (v := ?_) (a' := ?_) #[t_,t_,t_,t_,t_,t_,t_,t_,t_,t_,t_,t_,t_,t_,t_,t_,t_,f_,f_,t_,f_,f_,f_] rfl rfl (by kernel_rfl) (fun _ _ _ h => h) (Or.inl ⟨by rfl,?_⟩) ?_ ?_
       rotate_left
       ·intro w'
        go_simp
        with_reducible rfl
       rotate_left
       ·simp only [ps_]
        rfl
       refine pure_ (i := 17) (N := some 44) (v := ?_) (a' := ?_) #[t_,t_,t_,t_,t_,t_,t_,t_,t_,t_,t_,t_,t_,t_,t_,t_,t_,t_,f_,t_,f_,f_,f_] rfl rfl (by kernel_rfl) (fun _ _ _ h => h) (Or.inl ⟨by rfl,?_⟩) ?_ ?_
       rotate_left
       ·intro w'
        go_simp
        with_reducible rfl
       rotate_left
       ·simp only [ps_]
        rfl
       refine pure_ (i := 18) (N := some 45) (v := ?_) (a' := ?_) #[t_,t_,t_,t_,t_,t_,t_,t_,t_,t_,t_,t_,t_,t_,t_,t_,t_,t_,t_,t_,f_,f_,f_] rfl rfl (by kernel_rfl) (fun _ _ _ h => h) (Or.inl ⟨by rfl,?_⟩) ?_ ?_
       rotate_left
       ·intro w'
        go_simp
        with_reducible rfl
       rotate_left
       ·simp only [ps_]
        rfl
      rotate_left 1
     rotate_left 2
     focus
      refine wanted_ rfl ?_
      refine w_allocA H 76 rfl _ zero76 ?_
      clear H
      intro g4 W H
      refine hK.out _ _ ?_ (fun hHeld => ?_)
      ·first|trivial|exact H|exact H.del .head|exact (H.del .head).del .head|exact H.heap (by (repeat (first|exact In.head|apply In.tail)))
      clear hK K
      refine norm_ (a' := ?_) ?_ ?_
      rotate_left
      ·show Act.put _ (some 4) _ = _
       simp only [ps_]
       rfl
      refine one_ (i := 7) (N := some 35) #[t_,t_,t_,t_,t_,t_,t_,t_,f_,f_,t_,t_,t_,t_,f_,f_,f_,f_,f_,t_,f_,f_,f_] rfl rfl (by kernel_rfl) (by decide) (fun K hK => ?_)
      refine callK_ (LC W) Tryd.func50 (by kernel_rfl) rfl (by rfl) rfl rfl (by (try simp only [List.map_toArray,List.map_cons,List.map_nil]);first|done|rfl) ?_
      rintro e W ⟨rfl,hb⟩
      refine ⟨_,rfl,?_⟩
      replace H := H.to hb
      clear hb
      refine hK.out _ _ ?_ (fun hHeld => ?_)
      ·first|trivial|exact H|exact H.del .head|exact (H.del .head).del .head|exact H.heap (by (repeat (first|exact In.head|apply In.tail)))
      clear hK K
      refine norm_ (a' := ?_) ?_ ?_
      rotate_left
      ·show Act.put _ (some 35) _ = _
       simp only [ps_]
       rfl
      refine pure_ (i := 8) (N := some 36) (v := ?_) (a' := ?_) #[t_,t_,t_,t_,t_,t_,t_,t_,t_,f_,t_,t_,t_,t_,f_,f_,f_,f_,f_,t_,f_,f_,f_] rfl rfl (by kernel_rfl) (fun _ _ _ h => h) (Or.inl ⟨by rfl,?_⟩) ?_ ?_
      rotate_left
      ·intro w'
       go_simp
       with_reducible rfl
      rotate_left
      ·simp only [ps_]
       rfl
      refine take_run (i := 9) (N := some 37) (a' := ?_) #[t_,t_,t_,t_,t_,t_,t_,t_,t_,t_,t_,t_,t_,t_,f_,f_,f_,f_,f_,t_,f_,f_,f_] rfl rfl (by kernel_rfl) (fun _ _ _ _ h => h) (by rfl) hHeld (.slice (dropA Ab p cb 1) lfn (cb - p)) (fun X HX => (by rw [← hhl];exact x_slice_lohi _ _ _ rfl rfl Tryd.underlying38 size5 p hi rfl rfl hph hhc X)) ?_ ?_
      rotate_left
      ·simp only [ps_]
       rfl
      refine one_ (i := 14) (N := some 42) #[t_,t_,t_,t_,t_,t_,t_,t_,t_,t_,t_,t_,t_,t_,t_,f_,f_,f_,f_,t_,f_,f_,f_] rfl rfl (by kernel_rfl) (by decide) (fun K hK => ?_)
      refine callK_ (DC _ (H.rd (by repeat (first|exact In.head|apply In.tail))).1 (hH.below H.below)) Tryd.func49 (by kernel_rfl) rfl (by rfl) rfl rfl (by (try simp only [List.map_toArray,List.map_cons,List.map_nil]);first|done|rfl) ?_
      rintro e W ⟨A9,c9,rfl,ho,hb⟩
      refine ⟨_,rfl,?_⟩
      replace H := H.addRow hb ho
      clear hb ho
      refine hK.out _ _ ?_ (fun hHeld => ?_)
      ·first|trivial|exact H|exact H.del .head|exact (H.del .head).del .head|exact H.heap (by (repeat (first|exact In.head|apply In.tail)))
      clear hK K
      refine norm_ (a' := ?_) ?_ ?_
      rotate_left
      ·show Act.put _ (some 42) _ = _
       simp only [ps_]
       rfl
      refine pure_ (i := 15) (N := some 27) (v := ?_) (a' := ?_) #[t_,t_,t_,t_,t_,t_,t_,t_,t_,t_,t_,t_,t_,t_,t_,t_,f_,f_,f_,t_,f_,f_,f_] rfl rfl (by kernel_rfl) (fun _ _ _ h => h) (Or.inl ⟨by rfl,?_⟩) ?_ ?_
      rotate_left
      ·intro w'
       go_simp
       with_reducible rfl
      rotate_left
      ·simp only [ps_]
       rfl
      refine pure_ (i := 16) (N := some 43) (v := ?_) (a' := ?_) #[t_,t_,t_,t_,t_,t_,t_,t_,t_,t_,t_,t_,t_,t_,t_,t_,t_,f_,f_,t_,f_,f_,f_] rfl rfl (by kernel_rfl) (fun _ _ _ h => h) (Or.inl ⟨by rfl,?_⟩) ?_ ?_
      rotate_left
      ·intro w'
       go_simp
       with_reducible rfl
      rotate_left
      ·simp only [ps_]
       rfl
      refine pure_ (i := 17) (N := some 44) (v := ?_) (a' := ?_) #[t_,t_,t_,t_,t_,t_,t_,t_,t_,t_,t_,t_,t_,t_,t_,t_,t_,t_,f_,t_,f_,f_,f_] rfl rfl (by kernel_rfl) (fun _ _ _ h => h) (Or.inl ⟨by rfl,?_⟩) ?_ ?_
      rotate_left
      ·intro w'
       go_simp
       with_reducible rfl
      rotate_left
      ·simp only [ps_]
       rfl
      refine pure_ (i := 18) (N := some 45) (v := ?_) (a' := ?_) #[t_,t_,t_,t_,t_,t_,t_,t_,t_,t_,t_,t_,t_,t_,t_,t_,t_,t_,t_,t_,f_,f_,f_] rfl rfl (by kernel_rfl) (fun _ _ _ h => h) (Or.inl ⟨by rfl,?_⟩) ?_ ?_
      rotate_left
      ·intro w'
       go_simp
       with_reducible rfl
      rotate_left
      ·simp only [ps_]
       rfl
     rotate_left 1
     all_goals first|exact hC (g4,A9,c9) _ H|exact hC (g4,A9,c9) _ (H.perm (List.Perm.swap _ _ _))
    clear H hHeld
    rintro ⟨g4,A9,c9⟩ W H
    have hHeld := H
    refine norm_ (a' := ?_) ?_ ?_
    rotate_left
    ·simp only [putAll,Act.put,List.setIfInBounds_toArray,List.set_cons_zero,List.set_cons_succ,i64_w,i32_w]
     rfl
    refine one_ (i := 20) (N := none) #[t_,t_,t_,t_,t_,t_,t_,t_,t_,t_,t_,t_,t_,t_,t_,t_,t_,t_,t_,t_,t_,f_,f_] rfl rfl (by kernel_rfl) (by decide) (fun K hK => ?_)
    refine wanted_ rfl ?_
    refine w_storeW H 76 _ _ rfl _ rfl _ rfl (by (repeat (first|exact In.head|apply In.tail))) _ size76 (by (first|rfl|assumption|omega|(simp only [nums_length];omega)|(simp [nums_length,zs];done)|(simp [nums_length,zs];omega))) (by (first|rfl|assumption|omega|(simp only [nums_length];omega)|(simp [nums_length,zs];done)|(simp [nums_length,zs];omega))) (by (first|exact nums_one|assumption|(intro u hu;simp at hu;subst hu;rfl)|(intro u hu;simp at hu;rcases hu with rfl|rfl|rfl|rfl|rfl|rfl|rfl <;> rfl)|(intro u hu;simp at hu;rcases hu with rfl|rfl|rfl|rfl <;> rfl)|(intro u hu;simp at hu;rcases hu with rfl|rfl|rfl <;> rfl)|(intro u hu;simp at hu;rcases hu with rfl|rfl <;> rfl))) ?_
    clear H
    intro W H
    refine hK.out _ _ ?_ (fun hHeld => ?_)
    ·first|trivial|exact H|exact H.del .head|exact (H.del .head).del .head|exact H.heap (by (repeat (first|exact In.head|apply In.tail)))
    clear hK K
    refine pure_ (i := 21) (N := some 5) (v := ?_) (a' := ?_) #[t_,t_,t_,t_,t_,t_,t_,t_,t_,t_,t_,t_,t_,t_,t_,t_,t_,t_,t_,t_,t_,t_,f_] rfl rfl (by kernel_rfl) (fun _ _ _ h => h) (Or.inl ⟨by rfl,?_⟩) ?_ ?_
    rotate_left
    ·intro w'
     go_simp
     with_reducible rfl
    rotate_left
    ·simp only [ps_]
     rfl
    refine pure_ (i := 22) (N := some 6) (v := ?_) (a' := ?_) #[t_,t_,t_,t_,t_,t_,t_,t_,t_,t_,t_,t_,t_,t_,t_,t_,t_,t_,t_,t_,t_,t_,t_] rfl rfl (by kernel_rfl) (fun _ _ _ h => h) (Or.inl ⟨by rfl,?_⟩) ?_ ?_
    rotate_left
    ·intro w'
     go_simp
     with_reducible rfl
    rotate_left
    ·simp only [ps_]
     rfl
    refine done_ (by kernel_rfl) ?_
    clear hHeld
    cases op with
    |true =>
     go_wp2_with (first
  |((with_reducible refine gate_dst (N := 52) rfl ?_);refine gate_guard (by rfl) ?_;refine l_load1 rfl H 63 _ rfl _ _ rfl (by (repeat (first|exact In.head|apply In.tail))) _ Tryd.underlying63 rfl _ (by first|rfl|assumption|exact nums_at _ (by omega)) ?_)
  |((with_reducible refine gate_dst (N := 63) rfl ?_);refine l_load1 rfl H 68 _ rfl _ _ rfl (by (repeat (first|exact In.head|apply In.tail))) _ Tryd.underlying68 rfl _ (by first|rfl|assumption|exact nums_at _ (by omega)) ?_)
  |((with_reducible refine gate_store (t := 3) (p := 68) rfl ?_);refine l_store1 rfl H 3 _ _ rfl _ _ rfl _ (by first|(go_simp;done)|(go_simp;with_reducible rfl)) (by (repeat (first|exact In.head|apply In.tail))) rfl rfl size3 (by (first|rfl|assumption|omega|(simp only [nums_length];omega)|(simp [nums_length,zs];done)|(simp [nums_length,zs];omega))) ?_;clear H;intro W H)
      |(go_at_call 48;(with_reducible refine (C2 _ (H.rd (by repeat (first|exact In.head|apply In.tail))).1).mono ?_);rintro e W ⟨rfl,hb⟩;replace H := H.to hb;clear hb)
      |(go_at_call 51;(with_reducible refine (joinIdle_calls _ _ _ gj (H.heap (by repeat (first|exact In.head|apply In.tail)))).mono ?_);rintro e W ⟨rfl,rfl⟩))
     replace H := Own.front (r := .row x _ _ _ _) H (by repeat (first|exact Del.head|apply Del.tail))
     refine start_ (n := 13) (S := Own _ _ _) (ds := [5]) #[f_,f_,f_,f_,f_,f_,f_,f_,f_,f_,f_,f_,f_] (by kernel_rfl) rfl rfl H.drew (fun hHeld => ?_)
     replace H := H.drew
     generalize World.drew _ = W at H hHeld ⊢
     refine pure_ (i := 0) (N := some 70) (v := ?_) (a' := ?_) #[t_,f_,f_,f_,f_,f_,f_,f_,f_,f_,f_,f_,f_] rfl rfl (by kernel_rfl) (fun _ _ _ h => h) (Or.inl ⟨by rfl,?_⟩) ?_ ?_
     rotate_left
     ·intro w'
      go_simp
      with_reducible rfl
     rotate_left
     ·simp only [ps_]
      rfl
     refine pure_ (i := 1) (N := some 71) (v := ?_) (a' := ?_) #[t_,t_,f_,f_,f_,f_,f_,f_,f_,f_,f_,f_,f_] rfl rfl (by kernel_rfl) (fun _ _ _ h => h) (Or.inl ⟨by rfl,?_⟩) ?_ ?_
     rotate_left
     ·intro w'
      go_simp
      with_reducible rfl
     rotate_left
     ·simp only [ps_]
      rfl
     refine pure_ (i := 2) (N := some 72) (v := ?_) (a' := ?_) #[t_,t_,t_,f_,f_,f_,f_,f_,f_,f_,f_,f_,f_] rfl rfl (by kernel_rfl) (fun _ _ _ h => h) (Or.inl ⟨by rfl,?_⟩) ?_ ?_
     rotate_left
     ·intro w'
      go_simp
      with_reducible rfl
     rotate_left
     ·simp only [ps_]
      rfl
     refine take_load1 (i := 3) (N := some 73) (a' := ?_) #[t_,t_,t_,t_,f_,f_,f_,f_,f_,f_,f_,f_,f_] rfl rfl (by kernel_rfl) (fun _ _ _ _ h => h) (by rfl) hHeld 68 _ rfl _ _ rfl (by (repeat (first|exact In.head|apply In.tail))) _ Tryd.underlying68 rfl _ (by first|rfl|assumption|exact nums_at _ (by omega)) ?_ ?_
     rotate_left
     ·simp only [ps_]
      rfl
     refine one_ (i := 4) (N := some 74) #[t_,t_,t_,t_,t_,f_,f_,f_,f_,f_,f_,f_,f_] rfl rfl (by kernel_rfl) (by decide) (fun K hK => ?_)
     refine wanted_ rfl ?_
     refine w_loadA H 76 _ rfl _ rfl (by (repeat (first|exact In.head|apply In.tail))) _ _ Tryd.underlying76 rfl size76 (by (first|rfl|assumption|omega|(simp only [nums_length];omega)|(simp [nums_length,zs];done)|(simp [nums_length,zs];omega))) ?_
     refine hK.out _ _ ?_ (fun hHeld => ?_)
     ·first|trivial|exact H|exact H.del .head|exact (H.del .head).del .head|exact H.heap (by (repeat (first|exact In.head|apply In.tail)))
     clear hK K
     refine norm_ (a' := ?_) ?_ ?_
     rotate_left
     ·show Act.put _ (some 74) _ = _
      simp only [ps_]
      rfl
     refine last_ (i := 5) (N := some 75) #[t_,t_,t_,t_,t_,t_,f_,f_,f_,f_,f_,f_,f_] rfl rfl (by kernel_rfl) (by decide) (fun K hK => ?_)
     refine callK_ (FD A9 c9 W _ _ H (by repeat (first|exact In.head|apply In.tail)) (H.rowC (n := nn) (cc := c9) (by repeat (first|exact In.head|apply In.tail))).2.2 (H.rowC (n := nn) (cc := c9) (by repeat (first|exact In.head|apply In.tail))).1) Tryd.func52 (by kernel_rfl) rfl (by rfl) rfl rfl (by (try simp only [List.map_toArray,List.map_cons,List.map_nil]);first|done|rfl) ?_
     rintro e W ⟨rv,v9,x9,rfl,hs1,hs2,hx1,hx2,H'⟩
     refine ⟨_,rfl,?_⟩
     replace H := H'
     clear H'
     (try dsimp only at H)
     obtain ⟨Ar,cr,rfl,hcr⟩ := hs1
     obtain ⟨Av2,cv2,rfl,hcv2⟩ := hs2
     refine hK.out _ _ ?_
     clear hK K
     refine norm_ (a' := ?_) ?_ ?_
     rotate_left
     ·show Act.put _ (some 75) _ = _
      simp only [ps_]
      rfl
     refine pure_ (i := 6) (N := some 69) (v := ?_) (a' := ?_) #[t_,t_,t_,t_,t_,t_,t_,f_,f_,f_,f_,f_,f_] rfl rfl (by kernel_rfl) (fun _ _ _ h => h) (Or.inl ⟨by rfl,?_⟩) ?_ ?_
     rotate_left
     ·intro w'
      go_simp
      with_reducible rfl
     rotate_left
     ·simp only [ps_]
      rfl
     refine pure_ (i := 7) (N := some 76) (v := ?_) (a' := ?_) #[t_,t_,t_,t_,t_,t_,t_,t_,f_,f_,f_,f_,f_] rfl rfl (by kernel_rfl) (fun _ _ _ h => h) (Or.inl ⟨by rfl,?_⟩) ?_ ?_
     rotate_left
     ·intro w'
      go_simp
      with_reducible rfl
     rotate_left
     ·simp only [ps_]
      rfl
     refine pure_ (i := 8) (N := some 77) (v := ?_) (a' := ?_) #[t_,t_,t_,t_,t_,t_,t_,t_,t_,f_,f_,f_,f_] rfl rfl (by kernel_rfl) (fun _ _ _ h => h) (Or.inl ⟨by rfl,?_⟩) ?_ ?_
     rotate_left
     ·intro w'
      go_simp
      with_reducible rfl
     rotate_left
     ·simp only [ps_]
      rfl
     refine pure_ (i := 9) (N := some 78) (v := ?_) (a' := ?_) #[t_,t_,t_,t_,t_,t_,t_,t_,t_,t_,f_,f_,f_] rfl rfl (by kernel_rfl) (fun _ _ _ h => h) (Or.inl ⟨by rfl,?_⟩) ?_ ?_
     rotate_left
     ·intro w'
      go_simp
      with_reducible rfl
     rotate_left
     ·simp only [ps_]
      rfl
     refine pure_ (i := 10) (N := some 7) (v := ?_) (a' := ?_) #[t_,t_,t_,t_,t_,t_,t_,t_,t_,t_,t_,f_,f_] rfl rfl (by kernel_rfl) (fun _ _ _ h => h) (Or.inl ⟨by rfl,?_⟩) ?_ ?_
     rotate_left
     ·intro w'
      go_simp
      with_reducible rfl
     rotate_left
     ·simp only [ps_]
      rfl
     refine pure_ (i := 11) (N := some 8) (v := ?_) (a' := ?_) #[t_,t_,t_,t_,t_,t_,t_,t_,t_,t_,t_,t_,f_] rfl rfl (by kernel_rfl) (fun _ _ _ h => h) (Or.inl ⟨by rfl,?_⟩) ?_ ?_
     rotate_left
     ·intro w'
      go_simp
      with_reducible rfl
     rotate_left
     ·simp only [ps_]
      rfl
     refine pure_ (i := 12) (N := some 6) (v := ?_) (a' := ?_) #[t_,t_,t_,t_,t_,t_,t_,t_,t_,t_,t_,t_,t_] rfl rfl (by kernel_rfl) (fun _ _ _ h => h) (Or.inl ⟨by rfl,?_⟩) ?_ ?_
     rotate_left
     ·intro w'
      go_simp
      with_reducible rfl
     rotate_left
     ·simp only [ps_]
      rfl
     refine done_ (by kernel_rfl) ?_
     clear hHeld
     by_cases her : er ≠ 0
     ·obtain rfl := feedF_er hr her
      obtain rfl := feedF_nd hr
      rw [if_pos her] at hst2
      have q3 : (er != 0) = true := by simpa using her
      go_wp2
      go_ret
      replace H := H.del (r := .blk g4 _ _) (by repeat (first|exact Del.head|apply Del.tail))
      replace H := H.del (r := .row (.slice A9 nn c9) _ _ _ _) (by repeat (first|exact Del.head|apply Del.tail))
      replace H := Own.front (r := .row (.slice Ao 16 co) _ _ _ _) H (by repeat (first|exact Del.head|apply Del.tail))
      replace H := Own.front (r := .row (.slice Ab 832 cb) _ _ _ _) H (by repeat (first|exact Del.head|apply Del.tail))
      replace H := Own.front (r := .row (.slice Ap0 recs.length cp0) _ _ _ _) H (by repeat (first|exact Del.head|apply Del.tail))
      replace H := Own.front (r := .row (.slice Ar0 recs.length cr0) _ _ _ _) H (by repeat (first|exact Del.head|apply Del.tail))
      replace H := Own.front (r := .row x9 _ _ _ _) H (by repeat (first|exact Del.head|apply Del.tail))
      replace H := Own.front (r := .blk gj _ _) H (by repeat (first|exact Del.head|apply Del.tail))
      replace H := Own.front (r := .blk gs _ _) H (by repeat (first|exact Del.head|apply Del.tail))
      exact .inl ⟨hst2,rfl,⟨at0,o2,b2,fst,recs,places,en⟩,_,⟨Av2,cv2,x9,_,_,cells,D,hx2,hcv2,hb2l,hD,hpl,rfl⟩,rfl,rfl,rfl,H⟩
     ·obtain rfl : er = 0 := Decidable.of_not_not her
      rw [if_neg her] at hst2
      clear her
      cases dn with
      |false =>
       obtain rfl := feedF_nd hr
       rw [if_neg (by decide)] at hst2
       go_wp2_with (first
  |((with_reducible refine gate_store (t := 3) (p := 86) rfl ?_);refine l_store1 rfl H 3 _ _ rfl _ _ rfl _ (by first|(go_simp;done)|(go_simp;with_reducible rfl)) (by (repeat (first|exact In.head|apply In.tail))) rfl rfl size3 (by (first|rfl|assumption|omega|(simp only [nums_length];omega)|(simp [nums_length,zs];done)|(simp [nums_length,zs];omega))) ?_;clear H;intro W H))
       go_ret
       replace H := H.del (r := .blk g4 _ _) (by repeat (first|exact Del.head|apply Del.tail))
       replace H := H.del (r := .row (.slice A9 nn c9) _ _ _ _) (by repeat (first|exact Del.head|apply Del.tail))
       replace H := Own.front (r := .row (.slice Ao 16 co) _ _ _ _) H (by repeat (first|exact Del.head|apply Del.tail))
       replace H := Own.front (r := .row (.slice Ab 832 cb) _ _ _ _) H (by repeat (first|exact Del.head|apply Del.tail))
       replace H := Own.front (r := .row (.slice Ap0 recs.length cp0) _ _ _ _) H (by repeat (first|exact Del.head|apply Del.tail))
       replace H := Own.front (r := .row (.slice Ar0 recs.length cr0) _ _ _ _) H (by repeat (first|exact Del.head|apply Del.tail))
       replace H := Own.front (r := .row x9 _ _ _ _) H (by repeat (first|exact Del.head|apply Del.tail))
       replace H := Own.front (r := .blk gj _ _) H (by repeat (first|exact Del.head|apply Del.tail))
       replace H := Own.front (r := .blk gs _ _) H (by repeat (first|exact Del.head|apply Del.tail))
       exact .inr ⟨⟨pm,o2,b2,fst,recs,places,en⟩,hst2,rfl,_,⟨Av2,cv2,x9,_,_,cells,D,hx2,hcv2,hb2l,hD,hpl,rfl⟩,H⟩
      |true =>
       obtain rfl := feedF_d hr
       rw [if_pos rfl] at hst2
       rw [List.append_nil] at H
       go_wp2_with (first
  |((with_reducible refine gate_store (t := 3) (p := 86) rfl ?_);refine l_store1 rfl H 3 _ _ rfl _ _ rfl _ (by first|(go_simp;done)|(go_simp;with_reducible rfl)) (by (repeat (first|exact In.head|apply In.tail))) rfl rfl size3 (by (first|rfl|assumption|omega|(simp only [nums_length];omega)|(simp [nums_length,zs];done)|(simp [nums_length,zs];omega))) ?_;clear H;intro W H))
       replace H := Own.front (r := .blk gs _ _) H (by repeat (first|exact Del.head|apply Del.tail))
       replace H := (show Own w F0 (.blk gs 71 [.int .u32 ep,.slice Ab 832 cb,.slice Ao 16 co,.pointer (some ⟨gj,0,none⟩),.int .i64 (pm : Int),.int .i64 fst,.slice Ar0 recs.length cr0,.slice Ap0 recs.length cp0,.int .i64 (en : Int),.int .i64 0] :: _) W from H)
       refine start_ (n := 29) (S := fun X => X.heap[gs]? = some (.cells #[.int .u32 ep,.slice Ab 832 cb,.slice Ao 16 co,.pointer (some ⟨gj,0,none⟩),.int .i64 (pm : Int),.int .i64 fst,.slice Ar0 recs.length cr0,.slice Ap0 recs.length cp0,.int .i64 (en : Int),.int .i64 0] 71 (0,0))) (ds := [24,28]) #[f_,f_,f_,f_,f_,f_,f_,f_,f_,f_,f_,f_,f_,f_,f_,f_,f_,f_,f_,f_,f_,f_,f_,f_,f_,f_,f_,f_,f_] (by kernel_rfl) rfl rfl (H.drew.heap .head) (fun hHeld => ?_)
       replace H := H.drew
       generalize World.drew _ = W at H hHeld ⊢
       refine pure_ (i := 0) (N := some 88) (v := ?_) (a' := ?_) #[t_,f_,f_,f_,f_,f_,f_,f_,f_,f_,f_,f_,f_,f_,f_,f_,f_,f_,f_,f_,f_,f_,f_,f_,f_,f_,f_,f_,f_] rfl rfl (by kernel_rfl) (fun _ _ _ h => h) (Or.inl ⟨by rfl,?_⟩) ?_ ?_
       rotate_left
       ·intro w'
        go_simp
        with_reducible rfl
       rotate_left
       ·simp only [ps_]
        rfl
       refine pure_ (i := 1) (N := some 89) (v := ?_) (a' := ?_) #[t_,t_,f_,f_,f_,f_,f_,f_,f_,f_,f_,f_,f_,f_,f_,f_,f_,f_,f_,f_,f_,f_,f_,f_,f_,f_,f_,f_,f_] rfl rfl (by kernel_rfl) (fun _ _ _ h => h) (Or.inl ⟨by rfl,?_⟩) ?_ ?_
       rotate_left
       ·intro w'
        go_simp
        with_reducible rfl
       rotate_left
       ·simp only [ps_]
        rfl
       refine pure_ (i := 2) (N := some 90) (v := ?_) (a' := ?_) #[t_,t_,t_,f_,f_,f_,f_,f_,f_,f_,f_,f_,f_,f_,f_,f_,f_,f_,f_,f_,f_,f_,f_,f_,f_,f_,f_,f_,f_] rfl rfl (by kernel_rfl) (fun _ _ _ h => h) (Or.inl ⟨by rfl,?_⟩) ?_ ?_
       rotate_left
       ·intro w'
        go_simp
        with_reducible rfl
       rotate_left
       ·simp only [ps_]
        rfl
       refine pure_ (i := 3) (N := some 91) (v := ?_) (a' := ?_) #[t_,t_,t_,t_,f_,f_,f_,f_,f_,f_,f_,f_,f_,f_,f_,f_,f_,f_,f_,f_,f_,f_,f_,f_,f_,f_,f_,f_,f_] rfl rfl (by kernel_rfl) (fun _ _ _ h => h) (Or.inl ⟨by rfl,?_⟩) ?_ ?_
       rotate_left
       ·intro w'
        go_simp
        with_reducible rfl
       rotate_left
       ·simp only [ps_]
        rfl
       refine pure_ (i := 4) (N := some 92) (v := ?_) (a' := ?_) #[t_,t_,t_,t_,t_,f_,f_,f_,f_,f_,f_,f_,f_,f_,f_,f_,f_,f_,f_,f_,f_,f_,f_,f_,f_,f_,f_,f_,f_] rfl rfl (by kernel_rfl) (fun _ _ _ h => h) (Or.inl ⟨by rfl,?_⟩) ?_ ?_
       rotate_left
       ·intro w'
        go_simp
        with_reducible rfl
       rotate_left
       ·simp only [ps_]
        rfl
       refine pure_ (i := 5) (N := some 93) (v := ?_) (a' := ?_) #[t_,t_,t_,t_,t_,t_,f_,f_,f_,f_,f_,f_,f_,f_,f_,f_,f_,f_,f_,f_,f_,f_,f_,f_,f_,f_,f_,f_,f_] rfl rfl (by kernel_rfl) (fun _ _ _ h => h) (Or.inl ⟨by rfl,?_⟩) ?_ ?_
       rotate_left
       ·intro w'
        go_simp
        with_reducible rfl
       rotate_left
       ·simp only [ps_]
        rfl
       refine pure_ (i := 7) (N := some 95) (v := ?_) (a' := ?_) #[t_,t_,t_,t_,t_,t_,f_,t_,f_,f_,f_,f_,f_,f_,f_,f_,f_,f_,f_,f_,f_,f_,f_,f_,f_,f_,f_,f_,f_] rfl rfl (by kernel_rfl) (fun _ _ _ h => h) (Or.inl ⟨by rfl,?_⟩) ?_ ?_
       rotate_left
       ·intro w'
        go_simp
        with_reducible rfl
       rotate_left
       ·simp only [ps_]
        rfl
       refine pure_ (i := 10) (N := some 98) (v := ?_) (a' := ?_) #[t_,t_,t_,t_,t_,t_,f_,t_,f_,f_,t_,f_,f_,f_,f_,f_,f_,f_,f_,f_,f_,f_,f_,f_,f_,f_,f_,f_,f_] rfl rfl (by kernel_rfl) (fun _ _ _ h => h) (Or.inl ⟨by rfl,?_⟩) ?_ ?_
       rotate_left
       ·intro w'
        go_simp
        with_reducible rfl
       rotate_left
       ·simp only [ps_]
        rfl
       refine pure_ (i := 11) (N := some 99) (v := ?_) (a' := ?_) #[t_,t_,t_,t_,t_,t_,f_,t_,f_,f_,t_,t_,f_,f_,f_,f_,f_,f_,f_,f_,f_,f_,f_,f_,f_,f_,f_,f_,f_] rfl rfl (by kernel_rfl) (fun _ _ _ h => h) (Or.inl ⟨by rfl,?_⟩) ?_ ?_
       rotate_left
       ·intro w'
        go_simp
        with_reducible rfl
       rotate_left
       ·simp only [ps_]
        rfl
       refine pure_ (i := 12) (N := some 100) (v := ?_) (a' := ?_) #[t_,t_,t_,t_,t_,t_,f_,t_,f_,f_,t_,t_,t_,f_,f_,f_,f_,f_,f_,f_,f_,f_,f_,f_,f_,f_,f_,f_,f_] rfl rfl (by kernel_rfl) (fun _ _ _ h => h) (Or.inl ⟨by rfl,?_⟩) ?_ ?_
       rotate_left
       ·intro w'
        go_simp
        with_reducible rfl
       rotate_left
       ·simp only [ps_]
        rfl
       refine pure_ (i := 13) (N := some 101) (v := ?_) (a' := ?_) #[t_,t_,t_,t_,t_,t_,f_,t_,f_,f_,t_,t_,t_,t_,f_,f_,f_,f_,f_,f_,f_,f_,f_,f_,f_,f_,f_,f_,f_] rfl rfl (by kernel_rfl) (fun _ _ _ h => h) (Or.inl ⟨by rfl,?_⟩) ?_ ?_
       rotate_left
       ·intro w'
        go_simp
        with_reducible rfl
       rotate_left
       ·simp only [ps_]
        rfl
       refine pure_ (i := 15) (N := some 103) (v := ?_) (a' := ?_) #[t_,t_,t_,t_,t_,t_,f_,t_,f_,f_,t_,t_,t_,t_,f_,t_,f_,f_,f_,f_,f_,f_,f_,f_,f_,f_,f_,f_,f_] rfl rfl (by kernel_rfl) (fun _ _ _ h => h) (Or.inl ⟨by rfl,?_⟩) ?_ ?_
       rotate_left
       ·intro w'
        go_simp
        with_reducible rfl
       rotate_left
       ·simp only [ps_]
        rfl
       refine pure_ (i := 16) (N := some 104) (v := ?_) (a' := ?_) #[t_,t_,t_,t_,t_,t_,f_,t_,f_,f_,t_,t_,t_,t_,f_,t_,t_,f_,f_,f_,f_,f_,f_,f_,f_,f_,f_,f_,f_] rfl rfl (by kernel_rfl) (fun _ _ _ h => h) (Or.inl ⟨by rfl,?_⟩) ?_ ?_
       rotate_left
       ·intro w'
        go_simp
        with_reducible rfl
       rotate_left
       ·simp only [ps_]
        rfl
       refine pure_ (i := 17) (N := some 105) (v := ?_) (a' := ?_) #[t_,t_,t_,t_,t_,t_,f_,t_,f_,f_,t_,t_,t_,t_,f_,t_,t_,t_,f_,f_,f_,f_,f_,f_,f_,f_,f_,f_,f_] rfl rfl (by kernel_rfl) (fun _ _ _ h => h) (Or.inl ⟨by rfl,?_⟩) ?_ ?_
       rotate_left
       ·intro w'
        go_simp
        with_reducible rfl
       rotate_left
       ·simp only [ps_]
        rfl
       refine take_run (i := 6) (N := some 94) (a' := ?_) #[t_,t_,t_,t_,t_,t_,t_,t_,f_,f_,t_,t_,t_,t_,f_,t_,t_,t_,f_,f_,f_,f_,f_,f_,f_,f_,f_,f_,f_] rfl rfl (by kernel_rfl) (fun _ _ _ _ h => h) (by rfl) hHeld (.slice Ar0 recs.length cr0) (fun X HX => r_loadH 25 _ rfl rfl HX rfl Tryd.underlying25 rfl) ?_ ?_
       rotate_left
       ·simp only [ps_]
        rfl
       refine take_run (i := 14) (N := some 102) (a' := ?_) #[t_,t_,t_,t_,t_,t_,t_,t_,f_,f_,t_,t_,t_,t_,t_,t_,t_,t_,f_,f_,f_,f_,f_,f_,f_,f_,f_,f_,f_] rfl rfl (by kernel_rfl) (fun _ _ _ _ h => h) (by rfl) hHeld (.slice Ap0 recs.length cp0) (fun X HX => r_loadH 26 _ rfl rfl HX rfl Tryd.underlying26 rfl) ?_ ?_
       rotate_left
       ·simp only [ps_]
        rfl
       refine take_run (i := 18) (N := some 106) (a' := ?_) #[t_,t_,t_,t_,t_,t_,t_,t_,f_,f_,t_,t_,t_,t_,t_,t_,t_,t_,t_,f_,f_,f_,f_,f_,f_,f_,f_,f_,f_] rfl rfl (by kernel_rfl) (fun _ _ _ _ h => h) (by rfl) hHeld (.int .i64 fst) (fun X HX => r_loadH 3 _ rfl rfl HX rfl Tryd.underlying3 rfl) ?_ ?_
       rotate_left
       ·simp only [ps_]
        rfl
       refine join_ (σ := Nat × Nat × Option Addr × Nat) 9 #[t_,t_,t_,t_,t_,t_,t_,t_,t_,t_,t_,t_,t_,t_,t_,t_,t_,t_,t_,t_,f_,f_,f_,f_,f_,f_,f_,f_,f_] (fun (g96,g107,A97,c97) => [(96,Value.slice (some ⟨g96,0,none⟩) 1 1),(97,Value.slice A97 (recs.length + 1) c97),(107,Value.slice (some ⟨g107,0,none⟩) 1 1)]) (fun (g96,g107,A97,c97) W => Own w F0 (.blk g107 3 [.int .i64 fst] :: .blk g96 38 [.slice Ar rd.length cr] :: .blk gs 71 [.int .u32 ep,.slice Ab 832 cb,.slice Ao 16 co,.pointer (some ⟨gj,0,none⟩),.int .i64 (pm : Int),.int .i64 fst,.slice Ar0 recs.length cr0,.slice Ap0 recs.length cp0,.int .i64 (en : Int),.int .i64 0] :: .row x9 5 1 rd.length (nums .u8 rd) :: .row (.slice A9 nn c9) 5 1 nn (nums .u8 d) :: .blk g4 76 [.int .i64 kk,.int .u32 ee,.slice A9 nn c9] :: .blk gj 106 [.bool o2,.slice Av2 ([] : List Int).length cv2] :: .row (.slice A97 (recs.length + 1) c97) 38 1 (recs.length + 1) (cells ++ [.slice Ar rd.length cr]) :: .row (.slice Ap0 recs.length cp0) 3 1 recs.length (nums .i64 places) :: .row (.slice Ab 832 cb) 5 1 832 (nums .u8 F) :: .row (.slice Ao 16 co) 4 1 16 (bools ok) :: (D ++ E)) W) ?_ (fun hC => ?_)
       rotate_left
       focus
        simp only [putAll,Act.put,List.setIfInBounds_toArray,List.set_cons_zero,List.set_cons_succ] at hC
        refine two_ (i := 8) (j := 19) (Ni := some 96) (Nj := some 107) #[t_,t_,t_,t_,t_,t_,t_,t_,t_,f_,t_,t_,t_,t_,t_,t_,t_,t_,t_,f_,f_,f_,f_,f_,f_,f_,f_,f_,f_] #[t_,t_,t_,t_,t_,t_,t_,t_,f_,f_,t_,t_,t_,t_,t_,t_,t_,t_,t_,t_,f_,f_,f_,f_,f_,f_,f_,f_,f_] rfl rfl rfl rfl (by kernel_rfl) (by decide) (by decide) (fun K hK => ?_) (fun K hK => ?_)
        focus
         refine wanted_ rfl ?_
         refine w_build11 H 25 38 _ rfl Tryd.underlying25 _ rfl _ zs38 rfl rfl ?_
         clear H
         intro g96 W H
         refine hK.out _ _ ?_ (fun hHeld => ?_)
         ·first|trivial|exact H|exact H.del .head|exact (H.del .head).del .head|exact H.heap (by (repeat (first|exact In.head|apply In.tail)))
         clear hK K
         refine norm_ (a' := ?_) ?_ ?_
         rotate_left
         ·show Act.put _ (some 96) _ = _
          simp only [ps_]
          rfl
         refine two_ (i := 9) (j := 19) (Ni := some 97) (Nj := some 107) #[t_,t_,t_,t_,t_,t_,t_,t_,t_,t_,t_,t_,t_,t_,t_,t_,t_,t_,t_,f_,f_,f_,f_,f_,f_,f_,f_,f_,f_] #[t_,t_,t_,t_,t_,t_,t_,t_,t_,f_,t_,t_,t_,t_,t_,t_,t_,t_,t_,t_,f_,f_,f_,f_,f_,f_,f_,f_,f_] rfl rfl rfl rfl (by kernel_rfl) (by decide) (by decide) (fun K hK => ?_) (fun K hK => ?_)
         focus
          refine wanted_ rfl ?_
          refine w_append1 H _ _ 25 38 rfl Tryd.underlying25 _ _ _ inf38 rfl (by decide) (by decide) _ _ _ rfl (by (repeat (first|exact In.head|apply In.tail))) _ _ rfl (by (repeat (first|exact In.head|apply In.tail))) (by (first|rfl|assumption|omega|(simp only [nums_length];omega)|(simp [nums_length,zs];done)|(simp [nums_length,zs];omega))) (by (first|exact nums_one|assumption|(intro u hu;simp at hu;subst hu;rfl)|(intro u hu;simp at hu;rcases hu with rfl|rfl|rfl|rfl|rfl|rfl|rfl <;> rfl)|(intro u hu;simp at hu;rcases hu with rfl|rfl|rfl|rfl <;> rfl)|(intro u hu;simp at hu;rcases hu with rfl|rfl|rfl <;> rfl)|(intro u hu;simp at hu;rcases hu with rfl|rfl <;> rfl))) (by omega) ?_
          clear H
          intro v97 W H
          obtain ⟨A97,c97,rfl⟩ := H.row_slice (v := v97) (by repeat (first|exact In.head|apply In.tail))
          refine hK.out _ _ ?_ (fun hHeld => ?_)
          ·first|trivial|exact H|exact H.del .head|exact (H.del .head).del .head|exact H.heap (by (repeat (first|exact In.head|apply In.tail)))
          clear hK K
          refine norm_ (a' := ?_) ?_ ?_
          rotate_left
          ·show Act.put _ (some 97) _ = _
           simp only [ps_]
           rfl
          refine one_ (i := 19) (N := some 107) #[t_,t_,t_,t_,t_,t_,t_,t_,t_,t_,t_,t_,t_,t_,t_,t_,t_,t_,t_,t_,f_,f_,f_,f_,f_,f_,f_,f_,f_] rfl rfl (by kernel_rfl) (by decide) (fun K hK => ?_)
          refine wanted_ rfl ?_
          refine w_build11 H 26 3 _ rfl Tryd.underlying26 _ rfl _ zs3 rfl rfl ?_
          clear H
          intro g107 W H
          refine hK.out _ _ ?_ (fun hHeld => ?_)
          ·first|trivial|exact H|exact H.del .head|exact (H.del .head).del .head|exact H.heap (by (repeat (first|exact In.head|apply In.tail)))
          clear hK K
          refine norm_ (a' := ?_) ?_ ?_
          rotate_left
          ·show Act.put _ (some 107) _ = _
           simp only [ps_]
           rfl
         rotate_left 1
         focus
          refine wanted_ rfl ?_
          refine w_build11 H 26 3 _ rfl Tryd.underlying26 _ rfl _ zs3 rfl rfl ?_
          clear H
          intro g107 W H
          refine hK.out _ _ ?_ (fun hHeld => ?_)
          ·first|trivial|exact H|exact H.del .head|exact (H.del .head).del .head|exact H.heap (by (repeat (first|exact In.head|apply In.tail)))
          clear hK K
          refine norm_ (a' := ?_) ?_ ?_
          rotate_left
          ·show Act.put _ (some 107) _ = _
           simp only [ps_]
           rfl
          refine one_ (i := 9) (N := some 97) #[t_,t_,t_,t_,t_,t_,t_,t_,t_,t_,t_,t_,t_,t_,t_,t_,t_,t_,t_,t_,f_,f_,f_,f_,f_,f_,f_,f_,f_] rfl rfl (by kernel_rfl) (by decide) (fun K hK => ?_)
          refine wanted_ rfl ?_
          refine w_append1 H _ _ 25 38 rfl Tryd.underlying25 _ _ _ inf38 rfl (by decide) (by decide) _ _ _ rfl (by (repeat (first|exact In.head|apply In.tail))) _ _ rfl (by (repeat (first|exact In.head|apply In.tail))) (by (first|rfl|assumption|omega|(simp only [nums_length];omega)|(simp [nums_length,zs];done)|(simp [nums_length,zs];omega))) (by (first|exact nums_one|assumption|(intro u hu;simp at hu;subst hu;rfl)|(intro u hu;simp at hu;rcases hu with rfl|rfl|rfl|rfl|rfl|rfl|rfl <;> rfl)|(intro u hu;simp at hu;rcases hu with rfl|rfl|rfl|rfl <;> rfl)|(intro u hu;simp at hu;rcases hu with rfl|rfl|rfl <;> rfl)|(intro u hu;simp at hu;rcases hu with rfl|rfl <;> rfl))) (by omega) ?_
          clear H
          intro v97 W H
          obtain ⟨A97,c97,rfl⟩ := H.row_slice (v := v97) (by repeat (first|exact In.head|apply In.tail))
          refine hK.out _ _ ?_ (fun hHeld => ?_)
          ·first|trivial|exact H|exact H.del .head|exact (H.del .head).del .head|exact H.heap (by (repeat (first|exact In.head|apply In.tail)))
          clear hK K
          refine norm_ (a' := ?_) ?_ ?_
          rotate_left
          ·show Act.put _ (some 97) _ = _
           simp only [ps_]
           rfl
         rotate_left 1
        rotate_left 2
        focus
         refine wanted_ rfl ?_
         refine w_build11 H 26 3 _ rfl Tryd.underlying26 _ rfl _ zs3 rfl rfl ?_
         clear H
         intro g107 W H
         refine hK.out _ _ ?_ (fun hHeld => ?_)
         ·first|trivial|exact H|exact H.del .head|exact (H.del .head).del .head|exact H.heap (by (repeat (first|exact In.head|apply In.tail)))
         clear hK K
         refine norm_ (a' := ?_) ?_ ?_
         rotate_left
         ·show Act.put _ (some 107) _ = _
          simp only [ps_]
          rfl
         refine one_ (i := 8) (N := some 96) #[t_,t_,t_,t_,t_,t_,t_,t_,t_,f_,t_,t_,t_,t_,t_,t_,t_,t_,t_,t_,f_,f_,f_,f_,f_,f_,f_,f_,f_] rfl rfl (by kernel_rfl) (by decide) (fun K hK => ?_)
         refine wanted_ rfl ?_
         refine w_build11 H 25 38 _ rfl Tryd.underlying25 _ rfl _ zs38 rfl rfl ?_
         clear H
         intro g96 W H
         refine hK.out _ _ ?_ (fun hHeld => ?_)
         ·first|trivial|exact H|exact H.del .head|exact (H.del .head).del .head|exact H.heap (by (repeat (first|exact In.head|apply In.tail)))
         clear hK K
         refine norm_ (a' := ?_) ?_ ?_
         rotate_left
         ·show Act.put _ (some 96) _ = _
          simp only [ps_]
          rfl
         refine one_ (i := 9) (N := some 97) #[t_,t_,t_,t_,t_,t_,t_,t_,t_,t_,t_,t_,t_,t_,t_,t_,t_,t_,t_,t_,f_,f_,f_,f_,f_,f_,f_,f_,f_] rfl rfl (by kernel_rfl) (by decide) (fun K hK => ?_)
         refine wanted_ rfl ?_
         refine w_append1 H _ _ 25 38 rfl Tryd.underlying25 _ _ _ inf38 rfl (by decide) (by decide) _ _ _ rfl (by (repeat (first|exact In.head|apply In.tail))) _ _ rfl (by (repeat (first|exact In.head|apply In.tail))) (by (first|rfl|assumption|omega|(simp only [nums_length];omega)|(simp [nums_length,zs];done)|(simp [nums_length,zs];omega))) (by (first|exact nums_one|assumption|(intro u hu;simp at hu;subst hu;rfl)|(intro u hu;simp at hu;rcases hu with rfl|rfl|rfl|rfl|rfl|rfl|rfl <;> rfl)|(intro u hu;simp at hu;rcases hu with rfl|rfl|rfl|rfl <;> rfl)|(intro u hu;simp at hu;rcases hu with rfl|rfl|rfl <;> rfl)|(intro u hu;simp at hu;rcases hu with rfl|rfl <;> rfl))) (by omega) ?_
         clear H
         intro v97 W H
         obtain ⟨A97,c97,rfl⟩ := H.row_slice (v := v97) (by repeat (first|exact In.head|apply In.tail))
         refine hK.out _ _ ?_ (fun hHeld => ?_)
         ·first|trivial|exact H|exact H.del .head|exact (H.del .head).del .head|exact H.heap (by (repeat (first|exact In.head|apply In.tail)))
         clear hK K
         refine norm_ (a' := ?_) ?_ ?_
         rotate_left
         ·show Act.put _ (some 97) _ = _
          simp only [ps_]
          rfl
        rotate_left 1
        all_goals first|exact hC (g96,g107,A97,c97) _ H|exact hC (g96,g107,A97,c97) _ (H.perm (List.Perm.swap _ _ _))
       clear H hHeld
       rintro ⟨g96,g107,A97,c97⟩ W H
       have hHeld := H
       refine norm_ (a' := ?_) ?_ ?_
       rotate_left
       ·simp only [putAll,Act.put,List.setIfInBounds_toArray,List.set_cons_zero,List.set_cons_succ,i64_w,i32_w]
        rfl
       refine one_ (i := 20) (N := some 108) #[t_,t_,t_,t_,t_,t_,t_,t_,t_,t_,t_,t_,t_,t_,t_,t_,t_,t_,t_,t_,t_,f_,f_,f_,f_,f_,f_,f_,f_] rfl rfl (by kernel_rfl) (by decide) (fun K hK => ?_)
       refine wanted_ rfl ?_
       refine w_append1 H _ _ 26 3 rfl Tryd.underlying26 _ _ _ inf3 rfl (by decide) (by decide) _ _ _ rfl (by (repeat (first|exact In.head|apply In.tail))) _ _ rfl (by (repeat (first|exact In.head|apply In.tail))) (by (first|rfl|assumption|omega|(simp only [nums_length];omega)|(simp [nums_length,zs];done)|(simp [nums_length,zs];omega))) (by (first|exact nums_one|assumption|(intro u hu;simp at hu;subst hu;rfl)|(intro u hu;simp at hu;rcases hu with rfl|rfl|rfl|rfl|rfl|rfl|rfl <;> rfl)|(intro u hu;simp at hu;rcases hu with rfl|rfl|rfl|rfl <;> rfl)|(intro u hu;simp at hu;rcases hu with rfl|rfl|rfl <;> rfl)|(intro u hu;simp at hu;rcases hu with rfl|rfl <;> rfl))) (by omega) ?_
       clear H
       intro v108 W H
       obtain ⟨A108,c108,rfl⟩ := H.row_slice (v := v108) (by repeat (first|exact In.head|apply In.tail))
       refine hK.out _ _ ?_ (fun hHeld => ?_)
       ·first|trivial|exact H|exact H.del .head|exact (H.del .head).del .head|exact H.heap (by (repeat (first|exact In.head|apply In.tail)))
       clear hK K
       refine norm_ (a' := ?_) ?_ ?_
       rotate_left
       ·show Act.put _ (some 108) _ = _
        simp only [ps_]
        rfl
       refine pure_ (i := 21) (N := some 109) (v := ?_) (a' := ?_) #[t_,t_,t_,t_,t_,t_,t_,t_,t_,t_,t_,t_,t_,t_,t_,t_,t_,t_,t_,t_,t_,t_,f_,f_,f_,f_,f_,f_,f_] rfl rfl (by kernel_rfl) (fun _ _ _ h => h) (Or.inl ⟨by rfl,?_⟩) ?_ ?_
       rotate_left
       ·intro w'
        go_simp
        with_reducible rfl
       rotate_left
       ·simp only [ps_]
        rfl
       refine pure_ (i := 22) (N := some 110) (v := ?_) (a' := ?_) #[t_,t_,t_,t_,t_,t_,t_,t_,t_,t_,t_,t_,t_,t_,t_,t_,t_,t_,t_,t_,t_,t_,t_,f_,f_,f_,f_,f_,f_] rfl rfl (by kernel_rfl) (fun _ _ _ h => h) (Or.inl ⟨by rfl,?_⟩) ?_ ?_
       rotate_left
       ·intro w'
        go_simp
        with_reducible rfl
       rotate_left
       ·simp only [ps_]
        rfl
       refine pure_ (i := 23) (N := some 111) (v := ?_) (a' := ?_) #[t_,t_,t_,t_,t_,t_,t_,t_,t_,t_,t_,t_,t_,t_,t_,t_,t_,t_,t_,t_,t_,t_,t_,t_,f_,f_,f_,f_,f_] rfl rfl (by kernel_rfl) (fun _ _ _ h => h) (Or.inl ⟨by rfl,?_⟩) ?_ ?_
       rotate_left
       ·intro w'
        go_simp
        with_reducible rfl
       rotate_left
       ·simp only [ps_]
        rfl
       refine last_ (i := 24) (N := none) #[t_,t_,t_,t_,t_,t_,t_,t_,t_,t_,t_,t_,t_,t_,t_,t_,t_,t_,t_,t_,t_,t_,t_,t_,t_,f_,f_,f_,f_] rfl rfl (by kernel_rfl) (by decide) (fun K hK => ?_)
       refine wanted_ rfl ?_
       refine w_store1 H 25 _ _ rfl _ _ rfl _ (by first|(go_simp;done)|(go_simp;with_reducible rfl)) (by (repeat (first|exact In.head|apply In.tail))) rfl rfl size25 (by (first|rfl|assumption|omega|(simp only [nums_length];omega)|(simp [nums_length,zs];done)|(simp [nums_length,zs];omega))) ?_
       clear H
       intro W H
       refine hK.out _ _ ?_
       clear hK K
       refine pure_ (i := 25) (N := some 112) (v := ?_) (a' := ?_) #[t_,t_,t_,t_,t_,t_,t_,t_,t_,t_,t_,t_,t_,t_,t_,t_,t_,t_,t_,t_,t_,t_,t_,t_,t_,t_,f_,f_,f_] rfl rfl (by kernel_rfl) (fun _ _ _ h => h) (Or.inl ⟨by rfl,?_⟩) ?_ ?_
       rotate_left
       ·intro w'
        go_simp
        with_reducible rfl
       rotate_left
       ·simp only [ps_]
        rfl
       refine pure_ (i := 26) (N := some 113) (v := ?_) (a' := ?_) #[t_,t_,t_,t_,t_,t_,t_,t_,t_,t_,t_,t_,t_,t_,t_,t_,t_,t_,t_,t_,t_,t_,t_,t_,t_,t_,t_,f_,f_] rfl rfl (by kernel_rfl) (fun _ _ _ h => h) (Or.inl ⟨by rfl,?_⟩) ?_ ?_
       rotate_left
       ·intro w'
        go_simp
        with_reducible rfl
       rotate_left
       ·simp only [ps_]
        rfl
       refine pure_ (i := 27) (N := some 114) (v := ?_) (a' := ?_) #[t_,t_,t_,t_,t_,t_,t_,t_,t_,t_,t_,t_,t_,t_,t_,t_,t_,t_,t_,t_,t_,t_,t_,t_,t_,t_,t_,t_,f_] rfl rfl (by kernel_rfl) (fun _ _ _ h => h) (Or.inl ⟨by rfl,?_⟩) ?_ ?_
       rotate_left
       ·intro w'
        go_simp
        with_reducible rfl
       rotate_left
       ·simp only [ps_]
        rfl
       refine last_ (i := 28) (N := none) #[t_,t_,t_,t_,t_,t_,t_,t_,t_,t_,t_,t_,t_,t_,t_,t_,t_,t_,t_,t_,t_,t_,t_,t_,t_,t_,t_,t_,t_] rfl rfl (by kernel_rfl) (by decide) (fun K hK => ?_)
       refine wanted_ rfl ?_
       refine w_store1 H 26 _ _ rfl _ _ rfl _ (by first|(go_simp;done)|(go_simp;with_reducible rfl)) (by (repeat (first|exact In.head|apply In.tail))) rfl rfl size26 (by (first|rfl|assumption|omega|(simp only [nums_length];omega)|(simp [nums_length,zs];done)|(simp [nums_length,zs];omega))) ?_
       clear H
       intro W H
       refine hK.out _ _ ?_
       clear hK K
       refine done_ (by kernel_rfl) ?_
       clear hHeld
       all_goals
        go_wp2_with (first
  |((with_reducible refine gate_dst (N := 119) rfl ?_);refine l_load1 rfl H 3 _ rfl _ _ rfl (by (repeat (first|exact In.head|apply In.tail))) _ Tryd.underlying3 rfl _ (by first|rfl|assumption|exact nums_at _ (by omega)) ?_)
  |((with_reducible refine gate_store (t := 3) (p := 122) rfl ?_);refine l_store1 rfl H 3 _ _ rfl _ _ rfl _ (by first|(go_simp;done)|(go_simp;with_reducible rfl)) (by (repeat (first|exact In.head|apply In.tail))) rfl rfl size3 (by (first|rfl|assumption|omega|(simp only [nums_length];omega)|(simp [nums_length,zs];done)|(simp [nums_length,zs];omega))) ?_;clear H;intro W H))
        go_ret
        replace H := H.del (r := .blk g4 _ _) (by repeat (first|exact Del.head|apply Del.tail))
        replace H := H.del (r := .blk g96 _ _) (by repeat (first|exact Del.head|apply Del.tail))
        replace H := H.del (r := .blk g107 _ _) (by repeat (first|exact Del.head|apply Del.tail))
        replace H := H.del (r := .row (.slice A9 nn c9) _ _ _ _) (by repeat (first|exact Del.head|apply Del.tail))
        have hl1 : recs.length + 1 = (recs ++ [rd]).length := by simp
        have hnp : nums .i64 places ++ [.int .i64 fst] = nums .i64 (places ++ [fst]) := by simp [nums]
        rw [hl1,hnp] at H
        replace H := Own.front (r := .row x9 _ _ _ _) H (by repeat (first|exact Del.head|apply Del.tail))
        replace H := Own.front (r := .row (.slice Ao 16 co) _ _ _ _) H (by repeat (first|exact Del.head|apply Del.tail))
        replace H := Own.front (r := .row (.slice Ab 832 cb) _ _ _ _) H (by repeat (first|exact Del.head|apply Del.tail))
        replace H := Own.front (r := .row (.slice A108 _ c108) _ _ _ _) H (by repeat (first|exact Del.head|apply Del.tail))
        replace H := Own.front (r := .row (.slice A97 _ c97) _ _ _ _) H (by repeat (first|exact Del.head|apply Del.tail))
        replace H := H.cons (r := .row (.slice none 0 0) 5 1 0 []) (Below.refl _ _) (own_nil _ _ _ _) (fun k hk => by cases hk)
        replace H := Own.front (r := .blk gj _ _) H (by repeat (first|exact Del.head|apply Del.tail))
        replace H := Own.front (r := .blk gs _ _) H (by repeat (first|exact Del.head|apply Del.tail))
        replace H := (show Own w F0 (.blk gs 71 [.int .u32 ep,.slice Ab 832 cb,.slice Ao 16 co,.pointer (some ⟨gj,0,none⟩),.int .i64 (pm : Int),.int .i64 fst,.slice A97 (recs ++ [rd]).length c97,.slice A108 (recs ++ [rd]).length c108,.int .i64 (pm : Int),.int .i64 0] :: .blk gj 106 [.bool o2,.slice Av2 ([] : List Int).length cv2] :: .row (.slice none 0 0) 5 1 ([] : List Int).length (nums .u8 []) :: .row (.slice A97 (recs ++ [rd]).length c97) 38 1 (recs ++ [rd]).length (cells ++ [Value.slice Ar rd.length cr]) :: .row (.slice A108 (recs ++ [rd]).length c108) 3 1 (recs ++ [rd]).length (nums .i64 (places ++ [fst])) :: .row (.slice Ab 832 cb) 5 1 832 (nums .u8 F) :: .row (.slice Ao 16 co) 4 1 16 (bools ok) :: ((.row x9 5 1 rd.length (nums .u8 rd) :: D) ++ E)) W from H)
        first|exact .inr ⟨⟨pm,o2,[],fst,recs ++ [rd],places ++ [fst],pm⟩,hst2,rfl,_,⟨Av2,cv2,.slice none 0 0,.slice A97 (recs ++ [rd]).length c97,.slice A108 (recs ++ [rd]).length c108,cells ++ [Value.slice Ar rd.length cr],.row x9 5 1 rd.length (nums .u8 rd) :: D,fun h => absurd rfl h,hcv2,Nat.zero_le _,hD.snoc rd Ar cr x9 hcr hx1,by simp [hpl],rfl⟩,H⟩|exact ⟨rfl,_,⟨Av2,cv2,.slice none 0 0,.slice A97 (recs ++ [rd]).length c97,.slice A108 (recs ++ [rd]).length c108,cells ++ [Value.slice Ar rd.length cr],.row x9 5 1 rd.length (nums .u8 rd) :: D,fun h => absurd rfl h,hcv2,Nat.zero_le _,hD.snoc rd Ar cr x9 hcr hx1,by simp [hpl],rfl⟩,H⟩
    |false =>
     go_wp2_with (first
  |((with_reducible refine gate_dst (N := 52) rfl ?_);refine gate_guard (by rfl) ?_;refine l_load1 rfl H 63 _ rfl _ _ rfl (by (repeat (first|exact In.head|apply In.tail))) _ Tryd.underlying63 rfl _ (by first|rfl|assumption|exact nums_at _ (by omega)) ?_)
  |((with_reducible refine gate_dst (N := 63) rfl ?_);refine l_load1 rfl H 68 _ rfl _ _ rfl (by (repeat (first|exact In.head|apply In.tail))) _ Tryd.underlying68 rfl _ (by first|rfl|assumption|exact nums_at _ (by omega)) ?_)
  |((with_reducible refine gate_store (t := 3) (p := 68) rfl ?_);refine l_store1 rfl H 3 _ _ rfl _ _ rfl _ (by first|(go_simp;done)|(go_simp;with_reducible rfl)) (by (repeat (first|exact In.head|apply In.tail))) rfl rfl size3 (by (first|rfl|assumption|omega|(simp only [nums_length];omega)|(simp [nums_length,zs];done)|(simp [nums_length,zs];omega))) ?_;clear H;intro W H)
      |(go_at_call 48;(with_reducible refine (C2 _ (H.rd (by repeat (first|exact In.head|apply In.tail))).1).mono ?_);rintro e W ⟨rfl,hb⟩;replace H := H.to hb;clear hb)
      |(go_at_call 51;(with_reducible refine (joinIdle_calls _ _ _ gj (H.heap (by repeat (first|exact In.head|apply In.tail)))).mono ?_);rintro e W ⟨rfl,rfl⟩))
     replace H := Own.front (r := .row x _ _ _ _) H (by repeat (first|exact Del.head|apply Del.tail))
     refine start_ (n := 13) (S := Own _ _ _) (ds := [5]) #[f_,f_,f_,f_,f_,f_,f_,f_,f_,f_,f_,f_,f_] (by kernel_rfl) rfl rfl H.drew (fun hHeld => ?_)
     replace H := H.drew
     generalize World.drew _ = W at H hHeld ⊢
     refine pure_ (i := 0) (N := some 70) (v := ?_) (a' := ?_) #[t_,f_,f_,f_,f_,f_,f_,f_,f_,f_,f_,f_,f_] rfl rfl (by kernel_rfl) (fun _ _ _ h => h) (Or.inl ⟨by rfl,?_⟩) ?_ ?_
     rotate_left
     ·intro w'
      go_simp
      with_reducible rfl
     rotate_left
     ·simp only [ps_]
      rfl
     refine pure_ (i := 1) (N := some 71) (v := ?_) (a' := ?_) #[t_,t_,f_,f_,f_,f_,f_,f_,f_,f_,f_,f_,f_] rfl rfl (by kernel_rfl) (fun _ _ _ h => h) (Or.inl ⟨by rfl,?_⟩) ?_ ?_
     rotate_left
     ·intro w'
      go_simp
      with_reducible rfl
     rotate_left
     ·simp only [ps_]
      rfl
     refine pure_ (i := 2) (N := some 72) (v := ?_) (a' := ?_) #[t_,t_,t_,f_,f_,f_,f_,f_,f_,f_,f_,f_,f_] rfl rfl (by kernel_rfl) (fun _ _ _ h => h) (Or.inl ⟨by rfl,?_⟩) ?_ ?_
     rotate_left
     ·intro w'
      go_simp
      with_reducible rfl
     rotate_left
     ·simp only [ps_]
      rfl
     refine take_load1 (i := 3) (N := some 73) (a' := ?_) #[t_,t_,t_,t_,f_,f_,f_,f_,f_,f_,f_,f_,f_] rfl rfl (by kernel_rfl) (fun _ _ _ _ h => h) (by rfl) hHeld 68 _ rfl _ _ rfl (by (repeat (first|exact In.head|apply In.tail))) _ Tryd.underlying68 rfl _ (by first|rfl|assumption|exact nums_at _ (by omega)) ?_ ?_
     rotate_left
     ·simp only [ps_]
      rfl
     refine one_ (i := 4) (N := some 74) #[t_,t_,t_,t_,t_,f_,f_,f_,f_,f_,f_,f_,f_] rfl rfl (by kernel_rfl) (by decide) (fun K hK => ?_)
     refine wanted_ rfl ?_
     refine w_loadA H 76 _ rfl _ rfl (by (repeat (first|exact In.head|apply In.tail))) _ _ Tryd.underlying76 rfl size76 (by (first|rfl|assumption|omega|(simp only [nums_length];omega)|(simp [nums_length,zs];done)|(simp [nums_length,zs];omega))) ?_
     refine hK.out _ _ ?_ (fun hHeld => ?_)
     ·first|trivial|exact H|exact H.del .head|exact (H.del .head).del .head|exact H.heap (by (repeat (first|exact In.head|apply In.tail)))
     clear hK K
     refine norm_ (a' := ?_) ?_ ?_
     rotate_left
     ·show Act.put _ (some 74) _ = _
      simp only [ps_]
      rfl
     refine last_ (i := 5) (N := some 75) #[t_,t_,t_,t_,t_,t_,f_,f_,f_,f_,f_,f_,f_] rfl rfl (by kernel_rfl) (by decide) (fun K hK => ?_)
     refine callK_ (FD A9 c9 W _ _ H (by repeat (first|exact In.head|apply In.tail)) (H.rowC (n := nn) (cc := c9) (by repeat (first|exact In.head|apply In.tail))).2.2 (H.rowC (n := nn) (cc := c9) (by repeat (first|exact In.head|apply In.tail))).1) Tryd.func52 (by kernel_rfl) rfl (by rfl) rfl rfl (by (try simp only [List.map_toArray,List.map_cons,List.map_nil]);first|done|rfl) ?_
     rintro e W ⟨rv,v9,x9,rfl,hs1,hs2,hx1,hx2,H'⟩
     refine ⟨_,rfl,?_⟩
     replace H := H'
     clear H'
     (try dsimp only at H)
     obtain ⟨Ar,cr,rfl,hcr⟩ := hs1
     obtain ⟨Av2,cv2,rfl,hcv2⟩ := hs2
     refine hK.out _ _ ?_
     clear hK K
     refine norm_ (a' := ?_) ?_ ?_
     rotate_left
     ·show Act.put _ (some 75) _ = _
      simp only [ps_]
      rfl
     refine pure_ (i := 6) (N := some 69) (v := ?_) (a' := ?_) #[t_,t_,t_,t_,t_,t_,t_,f_,f_,f_,f_,f_,f_] rfl rfl (by kernel_rfl) (fun _ _ _ h => h) (Or.inl ⟨by rfl,?_⟩) ?_ ?_
     rotate_left
     ·intro w'
      go_simp
      with_reducible rfl
     rotate_left
     ·simp only [ps_]
      rfl
     refine pure_ (i := 7) (N := some 76) (v := ?_) (a' := ?_) #[t_,t_,t_,t_,t_,t_,t_,t_,f_,f_,f_,f_,f_] rfl rfl (by kernel_rfl) (fun _ _ _ h => h) (Or.inl ⟨by rfl,?_⟩) ?_ ?_
     rotate_left
     ·intro w'
      go_simp
      with_reducible rfl
     rotate_left
     ·simp only [ps_]
      rfl
     refine pure_ (i := 8) (N := some 77) (v := ?_) (a' := ?_) #[t_,t_,t_,t_,t_,t_,t_,t_,t_,f_,f_,f_,f_] rfl rfl (by kernel_rfl) (fun _ _ _ h => h) (Or.inl ⟨by rfl,?_⟩) ?_ ?_
     rotate_left
     ·intro w'
      go_simp
      with_reducible rfl
     rotate_left
     ·simp only [ps_]
      rfl
     refine pure_ (i := 9) (N := some 78) (v := ?_) (a' := ?_) #[t_,t_,t_,t_,t_,t_,t_,t_,t_,t_,f_,f_,f_] rfl rfl (by kernel_rfl) (fun _ _ _ h => h) (Or.inl ⟨by rfl,?_⟩) ?_ ?_
     rotate_left
     ·intro w'
      go_simp
      with_reducible rfl
     rotate_left
     ·simp only [ps_]
      rfl
     refine pure_ (i := 10) (N := some 7) (v := ?_) (a' := ?_) #[t_,t_,t_,t_,t_,t_,t_,t_,t_,t_,t_,f_,f_] rfl rfl (by kernel_rfl) (fun _ _ _ h => h) (Or.inl ⟨by rfl,?_⟩) ?_ ?_
     rotate_left
     ·intro w'
      go_simp
      with_reducible rfl
     rotate_left
     ·simp only [ps_]
      rfl
     refine pure_ (i := 11) (N := some 8) (v := ?_) (a' := ?_) #[t_,t_,t_,t_,t_,t_,t_,t_,t_,t_,t_,t_,f_] rfl rfl (by kernel_rfl) (fun _ _ _ h => h) (Or.inl ⟨by rfl,?_⟩) ?_ ?_
     rotate_left
     ·intro w'
      go_simp
      with_reducible rfl
     rotate_left
     ·simp only [ps_]
      rfl
     refine pure_ (i := 12) (N := some 6) (v := ?_) (a' := ?_) #[t_,t_,t_,t_,t_,t_,t_,t_,t_,t_,t_,t_,t_] rfl rfl (by kernel_rfl) (fun _ _ _ h => h) (Or.inl ⟨by rfl,?_⟩) ?_ ?_
     rotate_left
     ·intro w'
      go_simp
      with_reducible rfl
     rotate_left
     ·simp only [ps_]
      rfl
     refine done_ (by kernel_rfl) ?_
     clear hHeld
     by_cases her : er ≠ 0
     ·obtain rfl := feedF_er hr her
      obtain rfl := feedF_nd hr
      rw [if_pos her] at hst2
      have q3 : (er != 0) = true := by simpa using her
      go_wp2
      go_ret
      replace H := H.del (r := .blk g4 _ _) (by repeat (first|exact Del.head|apply Del.tail))
      replace H := H.del (r := .row (.slice A9 nn c9) _ _ _ _) (by repeat (first|exact Del.head|apply Del.tail))
      replace H := Own.front (r := .row (.slice Ao 16 co) _ _ _ _) H (by repeat (first|exact Del.head|apply Del.tail))
      replace H := Own.front (r := .row (.slice Ab 832 cb) _ _ _ _) H (by repeat (first|exact Del.head|apply Del.tail))
      replace H := Own.front (r := .row (.slice Ap0 recs.length cp0) _ _ _ _) H (by repeat (first|exact Del.head|apply Del.tail))
      replace H := Own.front (r := .row (.slice Ar0 recs.length cr0) _ _ _ _) H (by repeat (first|exact Del.head|apply Del.tail))
      replace H := Own.front (r := .row x9 _ _ _ _) H (by repeat (first|exact Del.head|apply Del.tail))
      replace H := Own.front (r := .blk gj _ _) H (by repeat (first|exact Del.head|apply Del.tail))
      replace H := Own.front (r := .blk gs _ _) H (by repeat (first|exact Del.head|apply Del.tail))
      exact .inl ⟨hst2,rfl,⟨at0,o2,b2,(p : Int),recs,places,en⟩,_,⟨Av2,cv2,x9,_,_,cells,D,hx2,hcv2,hb2l,hD,hpl,rfl⟩,rfl,rfl,rfl,H⟩
     ·obtain rfl : er = 0 := Decidable.of_not_not her
      rw [if_neg her] at hst2
      clear her
      cases dn with
      |false =>
       obtain rfl := feedF_nd hr
       rw [if_neg (by decide)] at hst2
       go_wp2_with (first
  |((with_reducible refine gate_store (t := 3) (p := 86) rfl ?_);refine l_store1 rfl H 3 _ _ rfl _ _ rfl _ (by first|(go_simp;done)|(go_simp;with_reducible rfl)) (by (repeat (first|exact In.head|apply In.tail))) rfl rfl size3 (by (first|rfl|assumption|omega|(simp only [nums_length];omega)|(simp [nums_length,zs];done)|(simp [nums_length,zs];omega))) ?_;clear H;intro W H))
       go_ret
       replace H := H.del (r := .blk g4 _ _) (by repeat (first|exact Del.head|apply Del.tail))
       replace H := H.del (r := .row (.slice A9 nn c9) _ _ _ _) (by repeat (first|exact Del.head|apply Del.tail))
       replace H := Own.front (r := .row (.slice Ao 16 co) _ _ _ _) H (by repeat (first|exact Del.head|apply Del.tail))
       replace H := Own.front (r := .row (.slice Ab 832 cb) _ _ _ _) H (by repeat (first|exact Del.head|apply Del.tail))
       replace H := Own.front (r := .row (.slice Ap0 recs.length cp0) _ _ _ _) H (by repeat (first|exact Del.head|apply Del.tail))
       replace H := Own.front (r := .row (.slice Ar0 recs.length cr0) _ _ _ _) H (by repeat (first|exact Del.head|apply Del.tail))
       replace H := Own.front (r := .row x9 _ _ _ _) H (by repeat (first|exact Del.head|apply Del.tail))
       replace H := Own.front (r := .blk gj _ _) H (by repeat (first|exact Del.head|apply Del.tail))
       replace H := Own.front (r := .blk gs _ _) H (by repeat (first|exact Del.head|apply Del.tail))
       exact .inr ⟨⟨pm,o2,b2,(p : Int),recs,places,en⟩,hst2,rfl,_,⟨Av2,cv2,x9,_,_,cells,D,hx2,hcv2,hb2l,hD,hpl,rfl⟩,H⟩
      |true =>
       obtain rfl := feedF_d hr
       rw [if_pos rfl] at hst2
       rw [List.append_nil] at H
       go_wp2_with (first
  |((with_reducible refine gate_store (t := 3) (p := 86) rfl ?_);refine l_store1 rfl H 3 _ _ rfl _ _ rfl _ (by first|(go_simp;done)|(go_simp;with_reducible rfl)) (by (repeat (first|exact In.head|apply In.tail))) rfl rfl size3 (by (first|rfl|assumption|omega|(simp only [nums_length];omega)|(simp [nums_length,zs];done)|(simp [nums_length,zs];omega))) ?_;clear H;intro W H))
       replace H := Own.front (r := .blk gs _ _) H (by repeat (first|exact Del.head|apply Del.tail))
       replace H := (show Own w F0 (.blk gs 71 [.int .u32 ep,.slice Ab 832 cb,.slice Ao 16 co,.pointer (some ⟨gj,0,none⟩),.int .i64 (pm : Int),.int .i64 (p : Int),.slice Ar0 recs.length cr0,.slice Ap0 recs.length cp0,.int .i64 (en : Int),.int .i64 0] :: _) W from H)
       refine start_ (n := 29) (S := fun X => X.heap[gs]? = some (.cells #[.int .u32 ep,.slice Ab 832 cb,.slice Ao 16 co,.pointer (some ⟨gj,0,none⟩),.int .i64 (pm : Int),.int .i64 (p : Int),.slice Ar0 recs.length cr0,.slice Ap0 recs.length cp0,.int .i64 (en : Int),.int .i64 0] 71 (0,0))) (ds := [24,28]) #[f_,f_,f_,f_,f_,f_,f_,f_,f_,f_,f_,f_,f_,f_,f_,f_,f_,f_,f_,f_,f_,f_,f_,f_,f_,f_,f_,f_,f_] (by kernel_rfl) rfl rfl (H.drew.heap .head) (fun hHeld => ?_)
       replace H := H.drew
       generalize World.drew _ = W at H hHeld ⊢
       refine pure_ (i := 0) (N := some 88) (v := ?_) (a' := ?_) #[t_,f_,f_,f_,f_,f_,f_,f_,f_,f_,f_,f_,f_,f_,f_,f_,f_,f_,f_,f_,f_,f_,f_,f_,f_,f_,f_,f_,f_] rfl rfl (by kernel_rfl) (fun _ _ _ h => h) (Or.inl ⟨by rfl,?_⟩) ?_ ?_
       rotate_left
       ·intro w'
        go_simp
        with_reducible rfl
       rotate_left
       ·simp only [ps_]
        rfl
       refine pure_ (i := 1) (N := some 89) (v := ?_) (a' := ?_) #[t_,t_,f_,f_,f_,f_,f_,f_,f_,f_,f_,f_,f_,f_,f_,f_,f_,f_,f_,f_,f_,f_,f_,f_,f_,f_,f_,f_,f_] rfl rfl (by kernel_rfl) (fun _ _ _ h => h) (Or.inl ⟨by rfl,?_⟩) ?_ ?_
       rotate_left
       ·intro w'
        go_simp
        with_reducible rfl
       rotate_left
       ·simp only [ps_]
        rfl
       refine pure_ (i := 2) (N := some 90) (v := ?_) (a' := ?_) #[t_,t_,t_,f_,f_,f_,f_,f_,f_,f_,f_,f_,f_,f_,f_,f_,f_,f_,f_,f_,f_,f_,f_,f_,f_,f_,f_,f_,f_] rfl rfl (by kernel_rfl) (fun _ _ _ h => h) (Or.inl ⟨by rfl,?_⟩) ?_ ?_
       rotate_left
       ·intro w'
        go_simp
        with_reducible rfl
       rotate_left
       ·simp only [ps_]
        rfl
       refine pure_ (i := 3) (N := some 91) (v := ?_) (a' := ?_) #[t_,t_,t_,t_,f_,f_,f_,f_,f_,f_,f_,f_,f_,f_,f_,f_,f_,f_,f_,f_,f_,f_,f_,f_,f_,f_,f_,f_,f_] rfl rfl (by kernel_rfl) (fun _ _ _ h => h) (Or.inl ⟨by rfl,?_⟩) ?_ ?_
       rotate_left
       ·intro w'
        go_simp
        with_reducible rfl
       rotate_left
       ·simp only [ps_]
        rfl
       refine pure_ (i := 4) (N := some 92) (v := ?_) (a' := ?_) #[t_,t_,t_,t_,t_,f_,f_,f_,f_,f_,f_,f_,f_,f_,f_,f_,f_,f_,f_,f_,f_,f_,f_,f_,f_,f_,f_,f_,f_] rfl rfl (by kernel_rfl) (fun _ _ _ h => h) (Or.inl ⟨by rfl,?_⟩) ?_ ?_
       rotate_left
       ·intro w'
        go_simp
        with_reducible rfl
       rotate_left
       ·simp only [ps_]
        rfl
       refine pure_ (i := 5) (N := some 93) (v := ?_) (a' := ?_) #[t_,t_,t_,t_,t_,t_,f_,f_,f_,f_,f_,f_,f_,f_,f_,f_,f_,f_,f_,f_,f_,f_,f_,f_,f_,f_,f_,f_,f_] rfl rfl (by kernel_rfl) (fun _ _ _ h => h) (Or.inl ⟨by rfl,?_⟩) ?_ ?_
       rotate_left
       ·intro w'
        go_simp
        with_reducible rfl
       rotate_left
       ·simp only [ps_]
        rfl
       refine pure_ (i := 7) (N := some 95) (v := ?_) (a' := ?_) #[t_,t_,t_,t_,t_,t_,f_,t_,f_,f_,f_,f_,f_,f_,f_,f_,f_,f_,f_,f_,f_,f_,f_,f_,f_,f_,f_,f_,f_] rfl rfl (by kernel_rfl) (fun _ _ _ h => h) (Or.inl ⟨by rfl,?_⟩) ?_ ?_
       rotate_left
       ·intro w'
        go_simp
        with_reducible rfl
       rotate_left
       ·simp only [ps_]
        rfl
       refine pure_ (i := 10) (N := some 98) (v := ?_) (a' := ?_) #[t_,t_,t_,t_,t_,t_,f_,t_,f_,f_,t_,f_,f_,f_,f_,f_,f_,f_,f_,f_,f_,f_,f_,f_,f_,f_,f_,f_,f_] rfl rfl (by kernel_rfl) (fun _ _ _ h => h) (Or.inl ⟨by rfl,?_⟩) ?_ ?_
       rotate_left
       ·intro w'
        go_simp
        with_reducible rfl
       rotate_left
       ·simp only [ps_]
        rfl
       refine pure_ (i := 11) (N := some 99) (v := ?_) (a' := ?_) #[t_,t_,t_,t_,t_,t_,f_,t_,f_,f_,t_,t_,f_,f_,f_,f_,f_,f_,f_,f_,f_,f_,f_,f_,f_,f_,f_,f_,f_] rfl rfl (by kernel_rfl) (fun _ _ _ h => h) (Or.inl ⟨by rfl,?_⟩) ?_ ?_
       rotate_left
       ·intro w'
        go_simp
        with_reducible rfl
       rotate_left
       ·simp only [ps_]
        rfl
       refine pure_ (i := 12) (N := some 100) (v := ?_) (a' := ?_) #[t_,t_,t_,t_,t_,t_,f_,t_,f_,f_,t_,t_,t_,f_,f_,f_,f_,f_,f_,f_,f_,f_,f_,f_,f_,f_,f_,f_,f_] rfl rfl (by kernel_rfl) (fun _ _ _ h => h) (Or.inl ⟨by rfl,?_⟩) ?_ ?_
       rotate_left
       ·intro w'
        go_simp
        with_reducible rfl
       rotate_left
       ·simp only [ps_]
        rfl
       refine pure_ (i := 13) (N := some 101) (v := ?_) (a' := ?_) #[t_,t_,t_,t_,t_,t_,f_,t_,f_,f_,t_,t_,t_,t_,f_,f_,f_,f_,f_,f_,f_,f_,f_,f_,f_,f_,f_,f_,f_] rfl rfl (by kernel_rfl) (fun _ _ _ h => h) (Or.inl ⟨by rfl,?_⟩) ?_ ?_
       rotate_left
       ·intro w'
        go_simp
        with_reducible rfl
       rotate_left
       ·simp only [ps_]
        rfl
       refine pure_ (i := 15) (N := some 103) (v := ?_) (a' := ?_) #[t_,t_,t_,t_,t_,t_,f_,t_,f_,f_,t_,t_,t_,t_,f_,t_,f_,f_,f_,f_,f_,f_,f_,f_,f_,f_,f_,f_,f_] rfl rfl (by kernel_rfl) (fun _ _ _ h => h) (Or.inl ⟨by rfl,?_⟩) ?_ ?_
       rotate_left
       ·intro w'
        go_simp
        with_reducible rfl
       rotate_left
       ·simp only [ps_]
        rfl
       refine pure_ (i := 16) (N := some 104) (v := ?_) (a' := ?_) #[t_,t_,t_,t_,t_,t_,f_,t_,f_,f_,t_,t_,t_,t_,f_,t_,t_,f_,f_,f_,f_,f_,f_,f_,f_,f_,f_,f_,f_] rfl rfl (by kernel_rfl) (fun _ _ _ h => h) (Or.inl ⟨by rfl,?_⟩) ?_ ?_
       rotate_left
       ·intro w'
        go_simp
        with_reducible rfl
       rotate_left
       ·simp only [ps_]
        rfl
       refine pure_ (i := 17) (N := some 105) (v := ?_) (a' := ?_) #[t_,t_,t_,t_,t_,t_,f_,t_,f_,f_,t_,t_,t_,t_,f_,t_,t_,t_,f_,f_,f_,f_,f_,f_,f_,f_,f_,f_,f_] rfl rfl (by kernel_rfl) (fun _ _ _ h => h) (Or.inl ⟨by rfl,?_⟩) ?_ ?_
       rotate_left
       ·intro w'
        go_simp
        with_reducible rfl
       rotate_left
       ·simp only [ps_]
        rfl
       refine take_run (i := 6) (N := some 94) (a' := ?_) #[t_,t_,t_,t_,t_,t_,t_,t_,f_,f_,t_,t_,t_,t_,f_,t_,t_,t_,f_,f_,f_,f_,f_,f_,f_,f_,f_,f_,f_] rfl rfl (by kernel_rfl) (fun _ _ _ _ h => h) (by rfl) hHeld (.slice Ar0 recs.length cr0) (fun X HX => r_loadH 25 _ rfl rfl HX rfl Tryd.underlying25 rfl) ?_ ?_
       rotate_left
       ·simp only [ps_]
        rfl
       refine take_run (i := 14) (N := some 102) (a' := ?_) #[t_,t_,t_,t_,t_,t_,t_,t_,f_,f_,t_,t_,t_,t_,t_,t_,t_,t_,f_,f_,f_,f_,f_,f_,f_,f_,f_,f_,f_] rfl rfl (by kernel_rfl) (fun _ _ _ _ h => h) (by rfl) hHeld (.slice Ap0 recs.length cp0) (fun X HX => r_loadH 26 _ rfl rfl HX rfl Tryd.underlying26 rfl) ?_ ?_
       rotate_left
       ·simp only [ps_]
        rfl
       refine take_run (i := 18) (N := some 106) (a' := ?_) #[t_,t_,t_,t_,t_,t_,t_,t_,f_,f_,t_,t_,t_,t_,t_,t_,t_,t_,t_,f_,f_,f_,f_,f_,f_,f_,f_,f_,f_] rfl rfl (by kernel_rfl) (fun _ _ _ _ h => h) (by rfl) hHeld (.int .i64 (p : Int)) (fun X HX => r_loadH 3 _ rfl rfl HX rfl Tryd.underlying3 rfl) ?_ ?_
       rotate_left
       ·simp only [ps_]
        rfl
       refine join_ (σ := Nat × Nat × Option Addr × Nat) 9 #[t_,t_,t_,t_,t_,t_,t_,t_,t_,t_,t_,t_,t_,t_,t_,t_,t_,t_,t_,t_,f_,f_,f_,f_,f_,f_,f_,f_,f_] (fun (g96,g107,A97,c97) => [(96,Value.slice (some ⟨g96,0,none⟩) 1 1),(97,Value.slice A97 (recs.length + 1) c97),(107,Value.slice (some ⟨g107,0,none⟩) 1 1)]) (fun (g96,g107,A97,c97) W => Own w F0 (.blk g107 3 [.int .i64 (p : Int)] :: .blk g96 38 [.slice Ar rd.length cr] :: .blk gs 71 [.int .u32 ep,.slice Ab 832 cb,.slice Ao 16 co,.pointer (some ⟨gj,0,none⟩),.int .i64 (pm : Int),.int .i64 (p : Int),.slice Ar0 recs.length cr0,.slice Ap0 recs.length cp0,.int .i64 (en : Int),.int .i64 0] :: .row x9 5 1 rd.length (nums .u8 rd) :: .row (.slice A9 nn c9) 5 1 nn (nums .u8 d) :: .blk g4 76 [.int .i64 kk,.int .u32 ee,.slice A9 nn c9] :: .blk gj 106 [.bool o2,.slice Av2 ([] : List Int).length cv2] :: .row (.slice A97 (recs.length + 1) c97) 38 1 (recs.length + 1) (cells ++ [.slice Ar rd.length cr]) :: .row (.slice Ap0 recs.length cp0) 3 1 recs.length (nums .i64 places) :: .row (.slice Ab 832 cb) 5 1 832 (nums .u8 F) :: .row (.slice Ao 16 co) 4 1 16 (bools ok) :: (D ++ E)) W) ?_ (fun hC => ?_)
       rotate_left
       focus
        simp only [putAll,Act.put,List.setIfInBounds_toArray,List.set_cons_zero,List.set_cons_succ] at hC
        refine two_ (i := 8) (j := 19) (Ni := some 96) (Nj := some 107) #[t_,t_,t_,t_,t_,t_,t_,t_,t_,f_,t_,t_,t_,t_,t_,t_,t_,t_,t_,f_,f_,f_,f_,f_,f_,f_,f_,f_,f_] #[t_,t_,t_,t_,t_,t_,t_,t_,f_,f_,t_,t_,t_,t_,t_,t_,t_,t_,t_,t_,f_,f_,f_,f_,f_,f_,f_,f_,f_] rfl rfl rfl rfl (by kernel_rfl) (by decide) (by decide) (fun K hK => ?_) (fun K hK => ?_)
        focus
         refine wanted_ rfl ?_
         refine w_build11 H 25 38 _ rfl Tryd.underlying25 _ rfl _ zs38 rfl rfl ?_
         clear H
         intro g96 W H
         refine hK.out _ _ ?_ (fun hHeld => ?_)
         ·first|trivial|exact H|exact H.del .head|exact (H.del .head).del .head|exact H.heap (by (repeat (first|exact In.head|apply In.tail)))
         clear hK K
         refine norm_ (a' := ?_) ?_ ?_
         rotate_left
         ·show Act.put _ (some 96) _ = _
          simp only [ps_]
          rfl
         refine two_ (i := 9) (j := 19) (Ni := some 97) (Nj := some 107) #[t_,t_,t_,t_,t_,t_,t_,t_,t_,t_,t_,t_,t_,t_,t_,t_,t_,t_,t_,f_,f_,f_,f_,f_,f_,f_,f_,f_,f_] #[t_,t_,t_,t_,t_,t_,t_,t_,t_,f_,t_,t_,t_,t_,t_,t_,t_,t_,t_,t_,f_,f_,f_,f_,f_,f_,f_,f_,f_] rfl rfl rfl rfl (by kernel_rfl) (by decide) (by decide) (fun K hK => ?_) (fun K hK => ?_)
         focus
          refine wanted_ rfl ?_
          refine w_append1 H _ _ 25 38 rfl Tryd.underlying25 _ _ _ inf38 rfl (by decide) (by decide) _ _ _ rfl (by (repeat (first|exact In.head|apply In.tail))) _ _ rfl (by (repeat (first|exact In.head|apply In.tail))) (by (first|rfl|assumption|omega|(simp only [nums_length];omega)|(simp [nums_length,zs];done)|(simp [nums_length,zs];omega))) (by (first|exact nums_one|assumption|(intro u hu;simp at hu;subst hu;rfl)|(intro u hu;simp at hu;rcases hu with rfl|rfl|rfl|rfl|rfl|rfl|rfl <;> rfl)|(intro u hu;simp at hu;rcases hu with rfl|rfl|rfl|rfl <;> rfl)|(intro u hu;simp at hu;rcases hu with rfl|rfl|rfl <;> rfl)|(intro u hu;simp at hu;rcases hu with rfl|rfl <;> rfl))) (by omega) ?_
          clear H
          intro v97 W H
          obtain ⟨A97,c97,rfl⟩ := H.row_slice (v := v97) (by repeat (first|exact In.head|apply In.tail))
          refine hK.out _ _ ?_ (fun hHeld => ?_)
          ·first|trivial|exact H|exact H.del .head|exact (H.del .head).del .head|exact H.heap (by (repeat (first|exact In.head|apply In.tail)))
          clear hK K
          refine norm_ (a' := ?_) ?_ ?_
          rotate_left
          ·show Act.put _ (some 97) _ = _
           simp only [ps_]
           rfl
          refine one_ (i := 19) (N := some 107) #[t_,t_,t_,t_,t_,t_,t_,t_,t_,t_,t_,t_,t_,t_,t_,t_,t_,t_,t_,t_,f_,f_,f_,f_,f_,f_,f_,f_,f_] rfl rfl (by kernel_rfl) (by decide) (fun K hK => ?_)
          refine wanted_ rfl ?_
          refine w_build11 H 26 3 _ rfl Tryd.underlying26 _ rfl _ zs3 rfl rfl ?_
          clear H
          intro g107 W H
          refine hK.out _ _ ?_ (fun hHeld => ?_)
          ·first|trivial|exact H|exact H.del .head|exact (H.del .head).del .head|exact H.heap (by (repeat (first|exact In.head|apply In.tail)))
          clear hK K
          refine norm_ (a' := ?_) ?_ ?_
          rotate_left
          ·show Act.put _ (some 107) _ = _
           simp only [ps_]
           rfl
         rotate_left 1
         focus
          refine wanted_ rfl ?_
          refine w_build11 H 26 3 _ rfl Tryd.underlying26 _ rfl _ zs3 rfl rfl ?_
          clear H
          intro g107 W H
          refine hK.out _ _ ?_ (fun hHeld => ?_)
          ·first|trivial|exact H|exact H.del .head|exact (H.del .head).del .head|exact H.heap (by (repeat (first|exact In.head|apply In.tail)))
          clear hK K
          refine norm_ (a' := ?_) ?_ ?_
          rotate_left
          ·show Act.put _ (some 107) _ = _
           simp only [ps_]
           rfl
          refine one_ (i := 9) (N := some 97) #[t_,t_,t_,t_,t_,t_,t_,t_,t_,t_,t_,t_,t_,t_,t_,t_,t_,t_,t_,t_,f_,f_,f_,f_,f_,f_,f_,f_,f_] rfl rfl (by kernel_rfl) (by decide) (fun K hK => ?_)
          refine wanted_ rfl ?_
          refine w_append1 H _ _ 25 38 rfl Tryd.underlying25 _ _ _ inf38 rfl (by decide) (by decide) _ _ _ rfl (by (repeat (first|exact In.head|apply In.tail))) _ _ rfl (by (repeat (first|exact In.head|apply In.tail))) (by (first|rfl|assumption|omega|(simp only [nums_length];omega)|(simp [nums_length,zs];done)|(simp [nums_length,zs];omega))) (by (first|exact nums_one|assumption|(intro u hu;simp at hu;subst hu;rfl)|(intro u hu;simp at hu;rcases hu with rfl|rfl|rfl|rfl|rfl|rfl|rfl <;> rfl)|(intro u hu;simp at hu;rcases hu with rfl|rfl|rfl|rfl <;> rfl)|(intro u hu;simp at hu;rcases hu with rfl|rfl|rfl <;> rfl)|(intro u hu;simp at hu;rcases hu with rfl|rfl <;> rfl))) (by omega) ?_
          clear H
          intro v97 W H
          obtain ⟨A97,c97,rfl⟩ := H.row_slice (v := v97) (by repeat (first|exact In.head|apply In.tail))
          refine hK.out _ _ ?_ (fun hHeld => ?_)
          ·first|trivial|exact H|exact H.del .head|exact (H.del .head).del .head|exact H.heap (by (repeat (first|exact In.head|apply In.tail)))
          clear hK K
          refine norm_ (a' := ?_) ?_ ?_
          rotate_left
          ·show Act.put _ (some 97) _ = _
           simp only [ps_]
           rfl
         rotate_left 1
        rotate_left 2
        focus
         refine wanted_ rfl ?_
         refine w_build11 H 26 3 _ rfl Tryd.underlying26 _ rfl _ zs3 rfl rfl ?_
         clear H
         intro g107 W H
         refine hK.out _ _ ?_ (fun hHeld => ?_)
         ·first|trivial|exact H|exact H.del .head|exact (H.del .head).del .head|exact H.heap (by (repeat (first|exact In.head|apply In.tail)))
         clear hK K
         refine norm_ (a' := ?_) ?_ ?_
         rotate_left
         ·show Act.put _ (some 107) _ = _
          simp only [ps_]
          rfl
         refine one_ (i := 8) (N := some 96) #[t_,t_,t_,t_,t_,t_,t_,t_,t_,f_,t_,t_,t_,t_,t_,t_,t_,t_,t_,t_,f_,f_,f_,f_,f_,f_,f_,f_,f_] rfl rfl (by kernel_rfl) (by decide) (fun K hK => ?_)
         refine wanted_ rfl ?_
         refine w_build11 H 25 38 _ rfl Tryd.underlying25 _ rfl _ zs38 rfl rfl ?_
         clear H
         intro g96 W H
         refine hK.out _ _ ?_ (fun hHeld => ?_)
         ·first|trivial|exact H|exact H.del .head|exact (H.del .head).del .head|exact H.heap (by (repeat (first|exact In.head|apply In.tail)))
         clear hK K
         refine norm_ (a' := ?_) ?_ ?_
         rotate_left
         ·show Act.put _ (some 96) _ = _
          simp only [ps_]
          rfl
         refine one_ (i := 9) (N := some 97) #[t_,t_,t_,t_,t_,t_,t_,t_,t_,t_,t_,t_,t_,t_,t_,t_,t_,t_,t_,t_,f_,f_,f_,f_,f_,f_,f_,f_,f_] rfl rfl (by kernel_rfl) (by decide) (fun K hK => ?_)
         refine wanted_ rfl ?_
         refine w_append1 H _ _ 25 38 rfl Tryd.underlying25 _ _ _ inf38 rfl (by decide) (by decide) _ _ _ rfl (by (repeat (first|exact In.head|apply In.tail))) _ _ rfl (by (repeat (first|exact In.head|apply In.tail))) (by (first|rfl|assumption|omega|(simp only [nums_length];omega)|(simp [nums_length,zs];done)|(simp [nums_length,zs];omega))) (by (first|exact nums_one|assumption|(intro u hu;simp at hu;subst hu;rfl)|(intro u hu;simp at hu;rcases hu with rfl|rfl|rfl|rfl|rfl|rfl|rfl <;> rfl)|(intro u hu;simp at hu;rcases hu with rfl|rfl|rfl|rfl <;> rfl)|(intro u hu;simp at hu;rcases hu with rfl|rfl|rfl <;> rfl)|(intro u hu;simp at hu;rcases hu with rfl|rfl <;> rfl))) (by omega) ?_
         clear H
         intro v97 W H
         obtain ⟨A97,c97,rfl⟩ := H.row_slice (v := v97) (by repeat (first|exact In.head|apply In.tail))
         refine hK.out _ _ ?_ (fun hHeld => ?_)
         ·first|trivial|exact H|exact H.del .head|exact (H.del .head).del .head|exact H.heap (by (repeat (first|exact In.head|apply In.tail)))
         clear hK K
         refine norm_ (a' := ?_) ?_ ?_
         rotate_left
         ·show Act.put _ (some 97) _ = _
          simp only [ps_]
          rfl
        rotate_left 1
        all_goals first|exact hC (g96,g107,A97,c97) _ H|exact hC (g96,g107,A97,c97) _ (H.perm (List.Perm.swap _ _ _))
       clear H hHeld
       rintro ⟨g96,g107,A97,c97⟩ W H
       have hHeld := H
       refine norm_ (a' := ?_) ?_ ?_
       rotate_left
       ·simp only [putAll,Act.put,List.setIfInBounds_toArray,List.set_cons_zero,List.set_cons_succ,i64_w,i32_w]
        rfl
       refine one_ (i := 20) (N := some 108) #[t_,t_,t_,t_,t_,t_,t_,t_,t_,t_,t_,t_,t_,t_,t_,t_,t_,t_,t_,t_,t_,f_,f_,f_,f_,f_,f_,f_,f_] rfl rfl (by kernel_rfl) (by decide) (fun K hK => ?_)
       refine wanted_ rfl ?_
       refine w_append1 H _ _ 26 3 rfl Tryd.underlying26 _ _ _ inf3 rfl (by decide) (by decide) _ _ _ rfl (by (repeat (first|exact In.head|apply In.tail))) _ _ rfl (by (repeat (first|exact In.head|apply In.tail))) (by (first|rfl|assumption|omega|(simp only [nums_length];omega)|(simp [nums_length,zs];done)|(simp [nums_length,zs];omega))) (by (first|exact nums_one|assumption|(intro u hu;simp at hu;subst hu;rfl)|(intro u hu;simp at hu;rcases hu with rfl|rfl|rfl|rfl|rfl|rfl|rfl <;> rfl)|(intro u hu;simp at hu;rcases hu with rfl|rfl|rfl|rfl <;> rfl)|(intro u hu;simp at hu;rcases hu with rfl|rfl|rfl <;> rfl)|(intro u hu;simp at hu;rcases hu with rfl|rfl <;> rfl))) (by omega) ?_
       clear H
       intro v108 W H
       obtain ⟨A108,c108,rfl⟩ := H.row_slice (v := v108) (by repeat (first|exact In.head|apply In.tail))
       refine hK.out _ _ ?_ (fun hHeld => ?_)
       ·first|trivial|exact H|exact H.del .head|exact (H.del .head).del .head|exact H.heap (by (repeat (first|exact In.head|apply In.tail)))
       clear hK K
       refine norm_ (a' := ?_) ?_ ?_
       rotate_left
       ·show Act.put _ (some 108) _ = _
        simp only [ps_]
        rfl
       refine pure_ (i := 21) (N := some 109) (v := ?_) (a' := ?_) #[t_,t_,t_,t_,t_,t_,t_,t_,t_,t_,t_,t_,t_,t_,t_,t_,t_,t_,t_,t_,t_,t_,f_,f_,f_,f_,f_,f_,f_] rfl rfl (by kernel_rfl) (fun _ _ _ h => h) (Or.inl ⟨by rfl,?_⟩) ?_ ?_
       rotate_left
       ·intro w'
        go_simp
        with_reducible rfl
       rotate_left
       ·simp only [ps_]
        rfl
       refine pure_ (i := 22) (N := some 110) (v := ?_) (a' := ?_) #[t_,t_,t_,t_,t_,t_,t_,t_,t_,t_,t_,t_,t_,t_,t_,t_,t_,t_,t_,t_,t_,t_,t_,f_,f_,f_,f_,f_,f_] rfl rfl (by kernel_rfl) (fun _ _ _ h => h) (Or.inl ⟨by rfl,?_⟩) ?_ ?_
       rotate_left
       ·intro w'
        go_simp
        with_reducible rfl
       rotate_left
       ·simp only [ps_]
        rfl
       refine pure_ (i := 23) (N := some 111) (v := ?_) (a' := ?_) #[t_,t_,t_,t_,t_,t_,t_,t_,t_,t_,t_,t_,t_,t_,t_,t_,t_,t_,t_,t_,t_,t_,t_,t_,f_,f_,f_,f_,f_] rfl rfl (by kernel_rfl) (fun _ _ _ h => h) (Or.inl ⟨by rfl,?_⟩) ?_ ?_
       rotate_left
       ·intro w'
        go_simp
        with_reducible rfl
       rotate_left
       ·simp only [ps_]
        rfl
       refine last_ (i := 24) (N := none) #[t_,t_,t_,t_,t_,t_,t_,t_,t_,t_,t_,t_,t_,t_,t_,t_,t_,t_,t_,t_,t_,t_,t_,t_,t_,f_,f_,f_,f_] rfl rfl (by kernel_rfl) (by decide) (fun K hK => ?_)
       refine wanted_ rfl ?_
       refine w_store1 H 25 _ _ rfl _ _ rfl _ (by first|(go_simp;done)|(go_simp;with_reducible rfl)) (by (repeat (first|exact In.head|apply In.tail))) rfl rfl size25 (by (first|rfl|assumption|omega|(simp only [nums_length];omega)|(simp [nums_length,zs];done)|(simp [nums_length,zs];omega))) ?_
       clear H
       intro W H
       refine hK.out _ _ ?_
       clear hK K
       refine pure_ (i := 25) (N := some 112) (v := ?_) (a' := ?_) #[t_,t_,t_,t_,t_,t_,t_,t_,t_,t_,t_,t_,t_,t_,t_,t_,t_,t_,t_,t_,t_,t_,t_,t_,t_,t_,f_,f_,f_] rfl rfl (by kernel_rfl) (fun _ _ _ h => h) (Or.inl ⟨by rfl,?_⟩) ?_ ?_
       rotate_left
       ·intro w'
        go_simp
        with_reducible rfl
       rotate_left
       ·simp only [ps_]
        rfl
       refine pure_ (i := 26) (N := some 113) (v := ?_) (a' := ?_) #[t_,t_,t_,t_,t_,t_,t_,t_,t_,t_,t_,t_,t_,t_,t_,t_,t_,t_,t_,t_,t_,t_,t_,t_,t_,t_,t_,f_,f_] rfl rfl (by kernel_rfl) (fun _ _ _ h => h) (Or.inl ⟨by rfl,?_⟩) ?_ ?_
       rotate_left
       ·intro w'
        go_simp
        with_reducible rfl
       rotate_left
       ·simp only [ps_]
        rfl
       refine pure_ (i := 27) (N := some 114) (v := ?_) (a' := ?_) #[t_,t_,t_,t_,t_,t_,t_,t_,t_,t_,t_,t_,t_,t_,t_,t_,t_,t_,t_,t_,t_,t_,t_,t_,t_,t_,t_,t_,f_] rfl rfl (by kernel_rfl) (fun _ _ _ h => h) (Or.inl ⟨by rfl,?_⟩) ?_ ?_
       rotate_left
       ·intro w'
        go_simp
        with_reducible rfl
       rotate_left
       ·simp only [ps_]
        rfl
       refine last_ (i := 28) (N := none) #[t_,t_,t_,t_,t_,t_,t_,t_,t_,t_,t_,t_,t_,t_,t_,t_,t_,t_,t_,t_,t_,t_,t_,t_,t_,t_,t_,t_,t_] rfl rfl (by kernel_rfl) (by decide) (fun K hK => ?_)
       refine wanted_ rfl ?_
       refine w_store1 H 26 _ _ rfl _ _ rfl _ (by first|(go_simp;done)|(go_simp;with_reducible rfl)) (by (repeat (first|exact In.head|apply In.tail))) rfl rfl size26 (by (first|rfl|assumption|omega|(simp only [nums_length];omega)|(simp [nums_length,zs];done)|(simp [nums_length,zs];omega))) ?_
       clear H
       intro W H
       refine hK.out _ _ ?_
       clear hK K
       refine done_ (by kernel_rfl) ?_
       clear hHeld
       all_goals
        go_wp2_with (first
  |((with_reducible refine gate_dst (N := 119) rfl ?_);refine l_load1 rfl H 3 _ rfl _ _ rfl (by (repeat (first|exact In.head|apply In.tail))) _ Tryd.underlying3 rfl _ (by first|rfl|assumption|exact nums_at _ (by omega)) ?_)
  |((with_reducible refine gate_store (t := 3) (p := 122) rfl ?_);refine l_store1 rfl H 3 _ _ rfl _ _ rfl _ (by first|(go_simp;done)|(go_simp;with_reducible rfl)) (by (repeat (first|exact In.head|apply In.tail))) rfl rfl size3 (by (first|rfl|assumption|omega|(simp only [nums_length];omega)|(simp [nums_length,zs];done)|(simp [nums_length,zs];omega))) ?_;clear H;intro W H))
        go_ret
        replace H := H.del (r := .blk g4 _ _) (by repeat (first|exact Del.head|apply Del.tail))
        replace H := H.del (r := .blk g96 _ _) (by repeat (first|exact Del.head|apply Del.tail))
        replace H := H.del (r := .blk g107 _ _) (by repeat (first|exact Del.head|apply Del.tail))
        replace H := H.del (r := .row (.slice A9 nn c9) _ _ _ _) (by repeat (first|exact Del.head|apply Del.tail))
        have hl1 : recs.length + 1 = (recs ++ [rd]).length := by simp
        have hnp : nums .i64 places ++ [.int .i64 (p : Int)] = nums .i64 (places ++ [(p : Int)]) := by simp [nums]
        rw [hl1,hnp] at H
        replace H := Own.front (r := .row x9 _ _ _ _) H (by repeat (first|exact Del.head|apply Del.tail))
        replace H := Own.front (r := .row (.slice Ao 16 co) _ _ _ _) H (by repeat (first|exact Del.head|apply Del.tail))
        replace H := Own.front (r := .row (.slice Ab 832 cb) _ _ _ _) H (by repeat (first|exact Del.head|apply Del.tail))
        replace H := Own.front (r := .row (.slice A108 _ c108) _ _ _ _) H (by repeat (first|exact Del.head|apply Del.tail))
        replace H := Own.front (r := .row (.slice A97 _ c97) _ _ _ _) H (by repeat (first|exact Del.head|apply Del.tail))
        replace H := H.cons (r := .row (.slice none 0 0) 5 1 0 []) (Below.refl _ _) (own_nil _ _ _ _) (fun k hk => by cases hk)
        replace H := Own.front (r := .blk gj _ _) H (by repeat (first|exact Del.head|apply Del.tail))
        replace H := Own.front (r := .blk gs _ _) H (by repeat (first|exact Del.head|apply Del.tail))
        replace H := (show Own w F0 (.blk gs 71 [.int .u32 ep,.slice Ab 832 cb,.slice Ao 16 co,.pointer (some ⟨gj,0,none⟩),.int .i64 (pm : Int),.int .i64 (p : Int),.slice A97 (recs ++ [rd]).length c97,.slice A108 (recs ++ [rd]).length c108,.int .i64 (pm : Int),.int .i64 0] :: .blk gj 106 [.bool o2,.slice Av2 ([] : List Int).length cv2] :: .row (.slice none 0 0) 5 1 ([] : List Int).length (nums .u8 []) :: .row (.slice A97 (recs ++ [rd]).length c97) 38 1 (recs ++ [rd]).length (cells ++ [Value.slice Ar rd.length cr]) :: .row (.slice A108 (recs ++ [rd]).length c108) 3 1 (recs ++ [rd]).length (nums .i64 (places ++ [(p : Int)])) :: .row (.slice Ab 832 cb) 5 1 832 (nums .u8 F) :: .row (.slice Ao 16 co) 4 1 16 (bools ok) :: ((.row x9 5 1 rd.length (nums .u8 rd) :: D) ++ E)) W from H)
        first|exact .inr ⟨⟨pm,o2,[],(p : Int),recs ++ [rd],places ++ [(p : Int)],pm⟩,hst2,rfl,_,⟨Av2,cv2,.slice none 0 0,.slice A97 (recs ++ [rd]).length c97,.slice A108 (recs ++ [rd]).length c108,cells ++ [Value.slice Ar rd.length cr],.row x9 5 1 rd.length (nums .u8 rd) :: D,fun h => absurd rfl h,hcv2,Nat.zero_le _,hD.snoc rd Ar cr x9 hcr hx1,by simp [hpl],rfl⟩,H⟩|exact ⟨rfl,_,⟨Av2,cv2,.slice none 0 0,.slice A97 (recs ++ [rd]).length c97,.slice A108 (recs ++ [rd]).length c108,cells ++ [Value.slice Ar rd.length cr],.row x9 5 1 rd.length (nums .u8 rd) :: D,fun h => absurd rfl h,hcv2,Nat.zero_le _,hD.snoc rd Ar cr x9 hcr hx1,by simp [hpl],rfl⟩,H⟩
end Go.Proofs.YtaekpfhgdnfciaaDoor.O
end
