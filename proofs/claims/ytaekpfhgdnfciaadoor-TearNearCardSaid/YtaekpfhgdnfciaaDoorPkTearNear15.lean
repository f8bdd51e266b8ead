/- Texts of mine put together: Told, FragSame, Hold, ClashM, In, In2, ImgAdd. -/
import Derived.Test.YtaekpfhgdnfciaaDoorPkTearNear14
import Derived.Test.YtaekpfhgdnfciaaDoorPkTearNear12
import Derived.Test.YtaekpfhgdnfciaaDoorPkTearNear8
import Derived.Test.YtaekpfhgdnfciaaDoorPkTearNear11
import Derived.Test.YtaekpfhgdnfciaaDoorPkTearNear4
import Derived.RangeFuncOwn
import Derived.RangeFuncLeaves
import Derived.RangeFuncCalls
import Derived.OwnWalkIn
import Derived.TacticsInMore
import Derived.LoopNIn
import Derived.LoopIn
set_option linter.unusedVariables false
set_option linter.unusedSimpArgs false
open Go.RowKit Go.Proofs.YtaekpfhgdnfciaaDoorW.PrintWords Go.Proofs.YtaekpfhgdnfciaaDoorW.PrintLast Go.Proofs.YtaekpfhgdnfciaaDoorW.PrintMore

section
namespace Go.Proofs.YtaekpfhgdnfciaaDoor.O
open Go.Proofs.YtaekpfhgdnfciaaDoor.F Go.Proofs.YtaekpfhgdnfciaaDoor.F.Nums Go.Proofs.YtaekpfhgdnfciaaDoor.Plain
attribute [local go_sem] Oper.semAt_some
theorem r_loadHA {P : Program} {o : Oper} {a : Act} {W : World} {g : Nat} {cs : Array Value} {t : TypeId} {fr : Nat × Nat} (ty : TypeId) (x : Operand) (ho : o.op = .load ty x) (hx : a.eval x = .pointer (some ⟨g,0,none⟩)) (hg : W.heap[g]? = some (.cells cs t fr)) {d : TypeDesc} (hu : P.underlying ty = some d) (hd : (match d with|.struct _|.array _ _ => true|_ => false) = true) (hi : (P.info? ty).map (·.size) = some cs.size) :
  (execOp a.eval o).run P W = .ok (.value (.agg cs)) W := by
 have := run_loadVar_row W g t ty cs fr d hg hu hd hi
 unfold execOp
 simp [ho,hx,Instr.loadAt,Instr.sureAddr,this]
def ToldQ (ep : Int) (T : Option (Int × List Int × Nat)) (base : Nat) (en : Ending) (W : World) : Prop :=
 ∃ k x A' n' c' d,en = .returned (.tuple #[.agg #[.int .i64 k,.int .u32 x,.slice A' n' c'],.bool T.isSome]) ∧ W.ownsRow base 5 1 (.slice A' n' c') n' (nums .u8 d) ∧ n' = d.length ∧
  ∀ y,T = some y → y = (k,d,11 + d.length) ∧ x = ep ∧ d.length ≤ 197
set_option maxRecDepth 100000 in
set_option maxHeartbeats 16000000 in
theorem ttold_calls (e64 : Int) (F : List Int) (ok : List Bool) (hF : F.length = 832) (hFb : Bytes F) (hok : ok.length = 16) (p : Nat) (hp : p + 11 ≤ 832) (Ab Ao : Option Addr) (cb co : Nat) (hcb : 832 ≤ cb) (hco : 16 ≤ co) (w : World) (hRb : Rd w Ab (nums .u8 F)) (hRo : Rd w Ao (bools ok)) (hH : Half w) :
  Calls Tryd.prog 42 #[.int .u64 e64,.slice Ab 832 cb,.slice Ao 16 co,.int .i64 (p : Int)] w fun en W => ToldQ (e64 % 4294967296) (told (e64 % 4294967296) F ok p) w.heap.size en W ∧ Below w.heap.size w W := by
 have H := Own.start w
 have C1 := fun W h => cov_own ok hok (p : Int) ((p : Int) + 11) Ao co hco W h
 have w1 : IntKind.i64.wrap ((p : Int) + 11) = (p : Int) + 11 := by rw [IntKind.wrap_i64];omega
 have w2 : IntKind.u32.wrap e64 = e64 % 4294967296 := by rw [IntKind.wrap_u32]
 obtain ⟨ep,hep⟩ : ∃ x,e64 % 4294967296 = x := ⟨_,rfl⟩
 rw [hep] at w2 ⊢
 clear hep
 have h832 : ¬ p = 832 := by omega
 cases hc1 : cov ok (p : Int) ((p : Int) + 11) with
 |false =>
  have hn : told ep F ok p = none := by unfold told;rw [if_neg h832,if_pos hc1]
  rw [hc1] at C1
  rw [hn]
  clear w2
  go_enter Tryd.func42,Tryd.ntmps42
  go_wp2_with (first
  |((with_reducible refine gate_dst (N := 8) rfl ?_);refine l_allocA rfl H 76 rfl _ zero76 ?_;clear H;intro g8 W H)
  |((with_reducible refine gate_store (t := 76) (p := 8) rfl ?_);refine l_storeW rfl H 76 _ _ rfl _ rfl _ rfl (by repeat constructor) _ size76 (by first|rfl|assumption|omega|(simp only [nums_length];omega)|simp [nums_length,zs] <;> omega) (by first|rfl|assumption|omega|(simp only [nums_length];omega)|simp [nums_length,zs] <;> omega) (by first|exact nums_one|assumption|exact on1_ rfl) ?_;clear H;intro W H)
  |(go_at_call 48;(with_reducible refine (C1 _ (hRo.below H.below)).mono ?_);rintro e W ⟨rfl,hb⟩;replace H := H.to hb;clear hb))
  refine bodyPost_ret (results_ct (p := 8) (ty := 76) rfl _ _ g8 76 _ (0,0) _ rfl (H.heap .head) Tryd.underlying76 rfl size76) rfl ?_
  exact ⟨⟨0,0,none,0,0,[],rfl,own_nil _ _ _ _,rfl,fun y hy => by cases hy⟩,H.below⟩
 |true =>
  rw [hc1] at C1
  have LC := fun W => left_c (p : Int) W
  have hlf : lf (p : Int) = 208 - (p : Int) % 208 := by unfold lf;rw [if_neg (by omega)]
  rw [cl_in (a := (p : Int)) (by omega) (by omega)] at LC
  obtain ⟨lfn,hlfn⟩ : ∃ m,(lf (p : Int)).toNat = m := ⟨_,rfl⟩
  obtain ⟨hi,hhi⟩ : ∃ m,p + lfn = m := ⟨_,rfl⟩
  have hlc : lf (p : Int) = (lfn : Int) := by omega
  rw [hlc] at LC
  have hhl : hi - p = lfn := by omega
  have hh8 : p + lfn ≤ 832 := by omega
  have hph : p ≤ hi := by omega
  have hhc : hi ≤ cb := by omega
  have w3 : IntKind.i64.wrap ((p : Int) + (lfn : Int)) = (hi : Int) := by rw [IntKind.wrap_i64];omega
  have hfl : (frAt F p).length = lfn := by unfold frAt;rw [hlfn,List.length_take,List.length_drop];omega
  have hfb : Bytes (frAt F p) := bytes_take (bytes_drop hFb _) _
  have DC0 := fun W (hr : Rd W Ab (nums .u8 F)) hH => decode_calls (frAt F p) ep (dropA Ab p cb 1) (cb - p) W (by rw [hfl];exact fr_C hr hF hcb (by omega) hlfn hh8) (by rw [hfl];omega) hfb hH
  rw [hfl] at DC0
  have htold : told ep F ok p = if decE (frAt F p) ep ≠ 0 then none else if cov ok p (p + (11 + (nOf (frAt F p) : Int))) = false then none else some (kOf (frAt F p),decD (frAt F p),11 + nOf (frAt F p)) := by unfold told;rw [if_neg h832,if_neg (by rw [hc1];decide)]
  by_cases hdE : decE (frAt F p) ep ≠ 0
  ·have DC : ∀ W,Rd W Ab (nums .u8 F) → Half W → Calls Tryd.prog 49 #[.slice (dropA Ab p cb 1) lfn (cb - p),.int .u32 ep] W fun e W' => e = .returned (.tuple #[.agg #[.int .i64 0,.int .u32 0,.slice none 0 0],.int .i64 0,.int .i64 (decE (frAt F p) ep)]) ∧ Below W.heap.size W W' := fun W hr hH => (DC0 W hr hH).mono (by
    rintro e W' ⟨hb,⟨-,rfl⟩|⟨h0,-⟩⟩
    ·exact ⟨rfl,hb⟩
    ·exact absurd h0 hdE)
   rw [if_pos hdE] at htold
   rw [htold]
   have q2 : (decE (frAt F p) ep == 0) = false := by simpa using hdE
   clear DC0 hfl hfb hdE hlf hlfn hhi hlc
   generalize decE (frAt F p) ep = dE at *
   go_enter Tryd.func42,Tryd.ntmps42
   go_wp2_with (first
  |((with_reducible refine gate_dst (N := 8) rfl ?_);refine l_allocA rfl H 76 rfl _ zero76 ?_;clear H;intro g8 W H)
  |((with_reducible refine gate_dst (N := 10) rfl ?_);refine l_allocA rfl H 76 rfl _ zero76 ?_;clear H;intro g10 W H)
  |((with_reducible refine gate_store (t := 76) (p := 10) rfl ?_);refine l_storeW rfl H 76 _ _ rfl _ rfl _ rfl (by repeat constructor) _ size76 (by first|rfl|assumption|omega|(simp only [nums_length];omega)|simp [nums_length,zs] <;> omega) (by first|rfl|assumption|omega|(simp only [nums_length];omega)|simp [nums_length,zs] <;> omega) (by first|exact nums_one|assumption|exact on1_ rfl) ?_;clear H;intro W H)
   |(go_at_call 48;(with_reducible refine (C1 _ (hRo.below H.below)).mono ?_);rintro e W ⟨rfl,hb⟩;replace H := H.to hb;clear hb)
   |(go_at_call 50;(with_reducible refine (LC _).mono ?_);rintro e W ⟨rfl,hb⟩;replace H := H.to hb;clear hb)
   |((with_reducible refine gate_dst (N := 27) rfl ?_);refine l_run rfl (.slice (dropA Ab p cb 1) lfn (cb - p)) (by rw [← hhl];exact x_slice_lohi _ _ _ rfl rfl Tryd.underlying38 size5 p hi rfl rfl hph hhc _) ?_)
   |(go_at_call 49;(with_reducible refine (DC _ (hRb.below H.below) (hH.below H.below)).mono ?_);rintro e W ⟨rfl,hb⟩;replace H := H.to hb;clear hb))
   refine start_ (n := 13) (S := Own _ _ _) (ds := []) #[f_,f_,f_,f_,f_,f_,f_,f_,f_,f_,f_,f_,f_] (by kernel_rfl) rfl rfl H.drew (fun hHeld => ?_)
   replace H := H.drew
   generalize World.drew _ = W at H hHeld ⊢
   refine pure_ (i := 1) (N := some 35) #[f_,t_,f_,f_,f_,f_,f_,f_,f_,f_,f_,f_,f_] rfl rfl (by kernel_rfl) (fun _ _ _ h => h) (Or.inl ⟨by rfl,by intro w';go_simp;with_reducible rfl⟩) (by simp only [ps_];rfl) ?_
   refine pure_ (i := 2) (N := some 36) #[f_,t_,t_,f_,f_,f_,f_,f_,f_,f_,f_,f_,f_] rfl rfl (by kernel_rfl) (fun _ _ _ h => h) (Or.inl ⟨by rfl,by intro w';go_simp;with_reducible rfl⟩) (by simp only [ps_];rfl) ?_
   refine pure_ (i := 3) (N := some 37) #[f_,t_,t_,t_,f_,f_,f_,f_,f_,f_,f_,f_,f_] rfl rfl (by kernel_rfl) (fun _ _ _ h => h) (Or.inl ⟨by rfl,by intro w';go_simp;with_reducible rfl⟩) (by simp only [ps_];rfl) ?_
   refine pure_ (i := 4) (N := some 38) (v := undef) #[f_,t_,t_,t_,t_,f_,f_,f_,f_,f_,f_,f_,f_] rfl rfl (by kernel_rfl) (fun _ _ _ h => h) (Or.inr ⟨by rfl,rfl⟩) (by simp only [ps_];rfl) ?_
   refine pure_ (i := 5) (N := some 39) (v := undef) #[f_,t_,t_,t_,t_,t_,f_,f_,f_,f_,f_,f_,f_] rfl rfl (by kernel_rfl) (fun _ _ _ h => h) (Or.inr ⟨by rfl,rfl⟩) (by simp only [ps_];rfl) ?_
   refine pure_ (i := 6) (N := some 40) (v := undef) #[f_,t_,t_,t_,t_,t_,t_,f_,f_,f_,f_,f_,f_] rfl rfl (by kernel_rfl) (fun _ _ _ h => h) (Or.inr ⟨by rfl,rfl⟩) (by simp only [ps_];rfl) ?_
   refine pure_ (i := 7) (N := some 41) (v := undef) #[f_,t_,t_,t_,t_,t_,t_,t_,f_,f_,f_,f_,f_] rfl rfl (by kernel_rfl) (fun _ _ _ h => h) (Or.inr ⟨by rfl,rfl⟩) (by simp only [ps_];rfl) ?_
   refine pure_ (i := 8) (N := some 42) (v := undef) #[f_,t_,t_,t_,t_,t_,t_,t_,t_,f_,f_,f_,f_] rfl rfl (by kernel_rfl) (fun _ _ _ h => h) (Or.inr ⟨by rfl,rfl⟩) (by simp only [ps_];rfl) ?_
   refine pure_ (i := 9) (N := some 43) (v := undef) #[f_,t_,t_,t_,t_,t_,t_,t_,t_,t_,f_,f_,f_] rfl rfl (by kernel_rfl) (fun _ _ _ h => h) (Or.inr ⟨by rfl,rfl⟩) (by simp only [ps_];rfl) ?_
   refine pure_ (i := 10) (N := some 44) #[f_,t_,t_,t_,t_,t_,t_,t_,t_,t_,t_,f_,f_] rfl rfl (by kernel_rfl) (fun _ _ _ h => h) (Or.inl ⟨by rfl,by intro w';go_simp;with_reducible rfl⟩) (by simp only [ps_];rfl) ?_
   refine take_run (i := 0) (N := some 34) #[t_,t_,t_,t_,t_,t_,t_,t_,t_,t_,t_,f_,f_] rfl rfl (by kernel_rfl) (fun _ _ _ _ h => h) (by rfl) hHeld (.agg #[.int .i64 0,.int .u32 0,.slice none 0 0]) (fun X HX => r_loadA HX 76 _ rfl g10 rfl (by repeat constructor) 3 _ Tryd.underlying76 rfl size76 rfl) (by simp only [ps_];rfl) ?_
   refine one_ (i := 11) (N := none) #[t_,t_,t_,t_,t_,t_,t_,t_,t_,t_,t_,t_,f_] rfl rfl (by kernel_rfl) (by decide) (fun K hK => ?_)
   refine wanted_ rfl ?_
   refine w_storeW H 76 _ _ rfl _ rfl _ rfl (by repeat constructor) _ size76 (by first|rfl|assumption|omega|(simp only [nums_length];omega)|simp [nums_length,zs] <;> omega) (by first|rfl|assumption|omega|(simp only [nums_length];omega)|simp [nums_length,zs] <;> omega) (by first|exact nums_one|assumption|exact on1_ rfl) ?_
   clear H
   intro W H
   refine hK.out _ _ ?_ (fun hHeld => ?_)
   ·first|trivial|exact H|exact H.del .head|exact (H.del .head).del .head|exact H.heap (by repeat constructor)
   clear hK K
   refine pure_ (i := 12) (N := some 9) #[t_,t_,t_,t_,t_,t_,t_,t_,t_,t_,t_,t_,t_] rfl rfl (by kernel_rfl) (fun _ _ _ h => h) (Or.inl ⟨by rfl,by intro w';go_simp;with_reducible rfl⟩) (by simp only [ps_];rfl) ?_
   refine done_ (by kernel_rfl) ?_
   clear hHeld
   go_wp2_with fail
   replace H := Own.front (r := .blk g8 _ _) H (by repeat constructor)
   refine bodyPost_ret (results_ct (p := 8) (ty := 76) rfl _ _ g8 76 _ (0,0) _ rfl (H.heap .head) Tryd.underlying76 rfl size76) rfl ?_
   exact ⟨⟨0,0,none,0,0,[],rfl,own_nil _ _ _ _,rfl,fun y hy => by cases hy⟩,H.below⟩
  ·have hdE0 : decE (frAt F p) ep = 0 := Decidable.of_not_not hdE
   have hdo := dec_ok hdE0
   rw [hfl] at hdo
   have hdl : (decD (frAt F p)).length = nOf (frAt F p) := by unfold decD;rw [List.length_drop,List.length_take];omega
   obtain ⟨m,hm⟩ : ∃ m,11 + nOf (frAt F p) = m := ⟨_,rfl⟩
   have hee2 : eOf (frAt F p) = ep := hdo.2.2.2.1
   have DC : ∀ W,Rd W Ab (nums .u8 F) → Half W → Calls Tryd.prog 49 #[.slice (dropA Ab p cb 1) lfn (cb - p),.int .u32 ep] W fun e W' => ∃ A9 c9,e = .returned (.tuple #[.agg #[.int .i64 (kOf (frAt F p)),.int .u32 ep,.slice A9 (nOf (frAt F p)) c9],.int .i64 (m : Int),.int .i64 0]) ∧ W'.ownsRow W.heap.size 5 1 (.slice A9 (nOf (frAt F p)) c9) (nOf (frAt F p)) (nums .u8 (decD (frAt F p))) ∧ Below W.heap.size W W' := fun W hr hH => (DC0 W hr hH).mono (by
    rintro e W' ⟨hb,⟨h0,-⟩|⟨-,A9,c9,rfl,-,-,ho⟩⟩
    ·exact absurd hdE0 h0
    ·exact ⟨A9,c9,by rw [← hm,hee2];rfl,ho,hb⟩)
   rw [if_neg hdE,show ((p : Int) + (11 + (nOf (frAt F p) : Int))) = (p : Int) + (m : Int) by omega,hm] at htold
   have hn197 := hdo.2.2.1
   have C2 := fun W h => cov_own ok hok (p : Int) ((p : Int) + (m : Int)) Ao co hco W h
   have w4 : IntKind.i64.wrap ((p : Int) + (m : Int)) = ((p + m : Nat) : Int) := by rw [IntKind.wrap_i64];omega
   have hpm : p + m ≤ 832 := by omega
   rw [show (p : Int) + (m : Int) = ((p + m : Nat) : Int) by omega] at C2 htold
   have hm4 : m ≤ 1000 := by omega
   clear DC0 hfl hfb hdo hdE hdE0 hee2
   generalize kOf (frAt F p) = kk at *
   generalize decD (frAt F p) = d at *
   generalize nOf (frAt F p) = nn at *
   clear hlf hlfn hhi hlc
   obtain ⟨pm,hpmm⟩ : ∃ y,p + m = y := ⟨_,rfl⟩
   rw [hpmm] at w4 C2 htold hpm
   have hTs : (told ep F ok p).isSome = cov ok (p : Int) (pm : Int) := by
    rw [htold]
    cases cov ok (p : Int) (pm : Int) <;> rfl
   have hTy : ∀ y,told ep F ok p = some y → y = (kk,d,m) := by
    intro y hy
    rw [htold] at hy
    split at hy
    ·cases hy
    ·exact (Option.some.inj hy).symm
   generalize told ep F ok p = T at *
   clear htold
   generalize cov ok (p : Int) (pm : Int) = bb at *
   go_enter Tryd.func42,Tryd.ntmps42
   go_wp2_with (first
  |((with_reducible refine gate_dst (N := 8) rfl ?_);refine l_allocA rfl H 76 rfl _ zero76 ?_;clear H;intro g8 W H)
  |((with_reducible refine gate_dst (N := 10) rfl ?_);refine l_allocA rfl H 76 rfl _ zero76 ?_;clear H;intro g10 W H)
  |((with_reducible refine gate_store (t := 76) (p := 10) rfl ?_);refine l_storeW rfl H 76 _ _ rfl _ rfl _ rfl (by repeat constructor) _ size76 (by first|rfl|assumption|omega|(simp only [nums_length];omega)|simp [nums_length,zs] <;> omega) (by first|rfl|assumption|omega|(simp only [nums_length];omega)|simp [nums_length,zs] <;> omega) (by first|exact nums_one|assumption|exact on1_ rfl) ?_;clear H;intro W H)
   |(go_at_call 48;(with_reducible refine (C1 _ (hRo.below H.below)).mono ?_);rintro e W ⟨rfl,hb⟩;replace H := H.to hb;clear hb)
   |(go_at_call 50;(with_reducible refine (LC _).mono ?_);rintro e W ⟨rfl,hb⟩;replace H := H.to hb;clear hb)
   |((with_reducible refine gate_dst (N := 27) rfl ?_);refine l_run rfl (.slice (dropA Ab p cb 1) lfn (cb - p)) (by rw [← hhl];exact x_slice_lohi _ _ _ rfl rfl Tryd.underlying38 size5 p hi rfl rfl hph hhc _) ?_)
   |(go_at_call 49;(with_reducible refine (DC _ (hRb.below H.below) (hH.below H.below)).mono ?_);rintro e W ⟨A9,c9,rfl,ho,hb⟩;replace H := H.addRow hb ho;clear hb ho))
   refine start_ (n := 13) (S := fun X => X.heap[g10]? = some (.cells #[.int .i64 kk,.int .u32 ep,.slice A9 nn c9] 76 (0,0))) (ds := []) #[f_,f_,f_,f_,f_,f_,f_,f_,f_,f_,f_,f_,f_] (by kernel_rfl) rfl rfl (H.drew.heap (by repeat constructor)) (fun hHeld => ?_)
   replace H := H.drew
   generalize World.drew _ = W at H hHeld ⊢
   refine pure_ (i := 1) (N := some 35) #[f_,t_,f_,f_,f_,f_,f_,f_,f_,f_,f_,f_,f_] rfl rfl (by kernel_rfl) (fun _ _ _ h => h) (Or.inl ⟨by rfl,by intro w';go_simp;with_reducible rfl⟩) (by simp only [ps_];rfl) ?_
   refine pure_ (i := 2) (N := some 36) #[f_,t_,t_,f_,f_,f_,f_,f_,f_,f_,f_,f_,f_] rfl rfl (by kernel_rfl) (fun _ _ _ h => h) (Or.inl ⟨by rfl,by intro w';go_simp;with_reducible rfl⟩) (by simp only [ps_];rfl) ?_
   refine pure_ (i := 3) (N := some 37) #[f_,t_,t_,t_,f_,f_,f_,f_,f_,f_,f_,f_,f_] rfl rfl (by kernel_rfl) (fun _ _ _ h => h) (Or.inl ⟨by rfl,by intro w';go_simp;with_reducible rfl⟩) (by simp only [ps_];rfl) ?_
   refine pure_ (i := 4) (N := some 38) #[f_,t_,t_,t_,t_,f_,f_,f_,f_,f_,f_,f_,f_] rfl rfl (by kernel_rfl) (fun _ _ _ h => h) (Or.inl ⟨by rfl,by intro w';go_simp;with_reducible rfl⟩) (by simp only [ps_];rfl) ?_
   refine pure_ (i := 5) (N := some 39) #[f_,t_,t_,t_,t_,t_,f_,f_,f_,f_,f_,f_,f_] rfl rfl (by kernel_rfl) (fun _ _ _ h => h) (Or.inl ⟨by rfl,by intro w';go_simp;with_reducible rfl⟩) (by simp only [ps_];rfl) ?_
   refine pure_ (i := 6) (N := some 40) #[f_,t_,t_,t_,t_,t_,t_,f_,f_,f_,f_,f_,f_] rfl rfl (by kernel_rfl) (fun _ _ _ h => h) (Or.inl ⟨by rfl,by intro w';go_simp;with_reducible rfl⟩) (by simp only [ps_];rfl) ?_
   refine pure_ (i := 7) (N := some 41) #[f_,t_,t_,t_,t_,t_,t_,t_,f_,f_,f_,f_,f_] rfl rfl (by kernel_rfl) (fun _ _ _ h => h) (Or.inl ⟨by rfl,by intro w';go_simp;with_reducible rfl⟩) (by simp only [ps_];rfl) ?_
   refine pure_ (i := 8) (N := some 42) #[f_,t_,t_,t_,t_,t_,t_,t_,t_,f_,f_,f_,f_] rfl rfl (by kernel_rfl) (fun _ _ _ h => h) (Or.inl ⟨by rfl,by intro w';go_simp;with_reducible rfl⟩) (by simp only [ps_];rfl) ?_
   refine take_run (i := 0) (N := some 34) #[t_,t_,t_,t_,t_,t_,t_,t_,t_,f_,f_,f_,f_] rfl rfl (by kernel_rfl) (fun _ _ _ _ h => h) (by rfl) hHeld (.agg #[.int .i64 kk,.int .u32 ep,.slice A9 nn c9]) (fun X HX => r_loadHA 76 _ rfl rfl HX Tryd.underlying76 rfl size76) (by simp only [ps_];rfl) ?_
   refine one_ (i := 9) (N := some 43) #[t_,t_,t_,t_,t_,t_,t_,t_,t_,t_,f_,f_,f_] rfl rfl (by kernel_rfl) (by decide) (fun K hK => ?_)
   refine callK_ (C2 _ (hRo.below H.below)) Tryd.func48 (by kernel_rfl) rfl (by rfl) rfl rfl (by (try simp only [List.map_toArray,List.map_cons,List.map_nil]);first|done|rfl) ?_
   rintro e W ⟨rfl,hb⟩
   refine ⟨_,rfl,?_⟩
   replace H := H.to hb
   clear hb
   refine hK.out _ _ ?_ (fun hHeld => ?_)
   ·first|trivial|exact H|exact H.del .head|exact (H.del .head).del .head|exact H.heap (by repeat constructor)
   clear hK K
   refine norm_ (by show Act.put _ (some 43) _ = _;simp only [ps_];rfl) ?_
   refine pure_ (i := 10) (N := some 44) #[t_,t_,t_,t_,t_,t_,t_,t_,t_,t_,t_,f_,f_] rfl rfl (by kernel_rfl) (fun _ _ _ h => h) (Or.inl ⟨by rfl,by intro w';go_simp;with_reducible rfl⟩) (by simp only [ps_];rfl) ?_
   refine one_ (i := 11) (N := none) #[t_,t_,t_,t_,t_,t_,t_,t_,t_,t_,t_,t_,f_] rfl rfl (by kernel_rfl) (by decide) (fun K hK => ?_)
   refine wanted_ rfl ?_
   refine w_storeW H 76 _ _ rfl _ rfl _ rfl (by repeat constructor) _ size76 (by first|rfl|assumption|omega|(simp only [nums_length];omega)|simp [nums_length,zs] <;> omega) (by first|rfl|assumption|omega|(simp only [nums_length];omega)|simp [nums_length,zs] <;> omega) (by first|exact nums_one|assumption|exact on1_ rfl) ?_
   clear H
   intro W H
   refine hK.out _ _ ?_ (fun hHeld => ?_)
   ·first|trivial|exact H|exact H.del .head|exact (H.del .head).del .head|exact H.heap (by repeat constructor)
   clear hK K
   refine pure_ (i := 12) (N := some 9) #[t_,t_,t_,t_,t_,t_,t_,t_,t_,t_,t_,t_,t_] rfl rfl (by kernel_rfl) (fun _ _ _ h => h) (Or.inl ⟨by rfl,by intro w';go_simp;with_reducible rfl⟩) (by simp only [ps_];rfl) ?_
   refine done_ (by kernel_rfl) ?_
   clear hHeld
   all_goals
    go_wp2_with fail
    replace H := Own.front (r := .blk g8 _ _) H (by repeat constructor)
    refine bodyPost_ret (results_ct (p := 8) (ty := 76) rfl _ _ g8 76 _ (0,0) _ rfl (H.heap .head) Tryd.underlying76 rfl size76) rfl ?_
    subst hdl
    exact ⟨⟨kk,ep,A9,d.length,c9,d,by rw [hTs];rfl,H.at_ (r := .row (.slice A9 d.length c9) 5 1 d.length (nums .u8 d)) (by repeat constructor),rfl,fun y hy => ⟨by rw [hTy y hy,← hm],rfl,hn197⟩⟩,H.below⟩
end Go.Proofs.YtaekpfhgdnfciaaDoor.O
end

section
namespace Go.Proofs.YtaekpfhgdnfciaaDoor.O
open Go.Proofs.YtaekpfhgdnfciaaDoor.F Go.Proofs.YtaekpfhgdnfciaaDoor.F.Nums Go.Proofs.YtaekpfhgdnfciaaDoor.Plain
theorem str_same {x y : List Int} (hx : Bytes x) (hy : Bytes y) : ((strOfNums x).toList == (strOfNums y).toList) = (x == y) := by
 by_cases h : x = y
 ·subst h
  simp
 ·rw [beq_eq_false_iff_ne.2 h]
  exact beq_eq_false_iff_ne.2 (fun e => h (CrcMath.strOfNums_inj hx hy e))
def sameFr (k1 x1 k2 x2 : Int) (d1 d2 : List Int) : Bool := k1 == k2 && (x1 == x2 && d1 == d2)
set_option maxRecDepth 100000 in
set_option maxHeartbeats 8000000 in
theorem fsame_calls (k1 x1 k2 x2 : Int) (d1 d2 : List Int) (A1 A2 : Option Addr) (c1 c2 : Nat) (w : World) (h1 : (Kd.int .u8).C w A1 d1.length d1) (hc1 : d1.length ≤ c1) (h2 : (Kd.int .u8).C w A2 d2.length d2) (hc2 : d2.length ≤ c2) (hb1 : Bytes d1) (hb2 : Bytes d2) :
  Calls Tryd.prog 43 #[.agg #[.int .i64 k1,.int .u32 x1,.slice A1 d1.length c1],.agg #[.int .i64 k2,.int .u32 x2,.slice A2 d2.length c2]] w fun e W => e = .returned (.bool (sameFr k1 x1 k2 x2 d1 d2)) ∧ Below w.heap.size w W := by
 have H := Own.start w
 have s1 := str_same hb1 hb2
 unfold sameFr
 cases e1 : (k1 == k2) with
 |false =>
  generalize d1.length = n1 at *
  generalize d2.length = n2 at *
  go_enter Tryd.func43,Tryd.ntmps43
  go_wp2_with (first
  |((with_reducible refine gate_dst (N := 2) rfl ?_);refine l_boxA rfl H 76 _ rfl _ rfl ?_;clear H;intro g2 W H)
  |((with_reducible refine gate_dst (N := 3) rfl ?_);refine l_boxA rfl H 76 _ rfl _ rfl ?_;clear H;intro g3 W H)
  |((with_reducible refine gate_dst (N := 6) rfl ?_);refine l_load1 rfl H 3 _ rfl _ _ rfl (by repeat constructor) _ Tryd.underlying3 rfl _ (by first|rfl|assumption|exact nums_at _ (by omega)) ?_)
  |((with_reducible refine gate_dst (N := 8) rfl ?_);refine l_load1 rfl H 3 _ rfl _ _ rfl (by repeat constructor) _ Tryd.underlying3 rfl _ (by first|rfl|assumption|exact nums_at _ (by omega)) ?_)
  |((with_reducible refine gate_dst (N := 12) rfl ?_);refine gate_guard (by rfl) ?_;refine l_load1 rfl H 67 _ rfl _ _ rfl (by repeat constructor) _ Tryd.underlying67 rfl _ (by first|rfl|assumption|exact nums_at _ (by omega)) ?_)
  |((with_reducible refine gate_dst (N := 14) rfl ?_);refine gate_guard (by rfl) ?_;refine l_load1 rfl H 67 _ rfl _ _ rfl (by repeat constructor) _ Tryd.underlying67 rfl _ (by first|rfl|assumption|exact nums_at _ (by omega)) ?_)
  |((with_reducible refine gate_dst (N := 19) rfl ?_);refine gate_guard (by rfl) ?_;refine l_load1 rfl H 38 _ rfl _ _ rfl (by repeat constructor) _ Tryd.underlying38 rfl _ (by first|rfl|assumption|exact nums_at _ (by omega)) ?_)
  |((with_reducible refine gate_dst (N := 20) rfl ?_);refine gate_guard (by rfl) ?_;refine l_strR rfl H 38 9 5 _ rfl _ rfl (by repeat constructor) Tryd.underlying38 Tryd.underlying5 Tryd.underlying9 ?_)
  |((with_reducible refine gate_dst (N := 22) rfl ?_);refine gate_guard (by rfl) ?_;refine l_load1 rfl H 38 _ rfl _ _ rfl (by repeat constructor) _ Tryd.underlying38 rfl _ (by first|rfl|assumption|exact nums_at _ (by omega)) ?_)
  |((with_reducible refine gate_dst (N := 23) rfl ?_);refine gate_guard (by rfl) ?_;refine l_strR rfl H 38 9 5 _ rfl _ rfl (by repeat constructor) Tryd.underlying38 Tryd.underlying5 Tryd.underlying9 ?_))
  go_ret
  exact ⟨rfl,H.below⟩
 |true =>
  cases e2 : (x1 == x2) with
  |false =>
   generalize d1.length = n1 at *
   generalize d2.length = n2 at *
   go_enter Tryd.func43,Tryd.ntmps43
   go_wp2_with (first
  |((with_reducible refine gate_dst (N := 2) rfl ?_);refine l_boxA rfl H 76 _ rfl _ rfl ?_;clear H;intro g2 W H)
  |((with_reducible refine gate_dst (N := 3) rfl ?_);refine l_boxA rfl H 76 _ rfl _ rfl ?_;clear H;intro g3 W H)
  |((with_reducible refine gate_dst (N := 6) rfl ?_);refine l_load1 rfl H 3 _ rfl _ _ rfl (by repeat constructor) _ Tryd.underlying3 rfl _ (by first|rfl|assumption|exact nums_at _ (by omega)) ?_)
  |((with_reducible refine gate_dst (N := 8) rfl ?_);refine l_load1 rfl H 3 _ rfl _ _ rfl (by repeat constructor) _ Tryd.underlying3 rfl _ (by first|rfl|assumption|exact nums_at _ (by omega)) ?_)
  |((with_reducible refine gate_dst (N := 12) rfl ?_);refine gate_guard (by rfl) ?_;refine l_load1 rfl H 67 _ rfl _ _ rfl (by repeat constructor) _ Tryd.underlying67 rfl _ (by first|rfl|assumption|exact nums_at _ (by omega)) ?_)
  |((with_reducible refine gate_dst (N := 14) rfl ?_);refine gate_guard (by rfl) ?_;refine l_load1 rfl H 67 _ rfl _ _ rfl (by repeat constructor) _ Tryd.underlying67 rfl _ (by first|rfl|assumption|exact nums_at _ (by omega)) ?_)
  |((with_reducible refine gate_dst (N := 19) rfl ?_);refine gate_guard (by rfl) ?_;refine l_load1 rfl H 38 _ rfl _ _ rfl (by repeat constructor) _ Tryd.underlying38 rfl _ (by first|rfl|assumption|exact nums_at _ (by omega)) ?_)
  |((with_reducible refine gate_dst (N := 20) rfl ?_);refine gate_guard (by rfl) ?_;refine l_strR rfl H 38 9 5 _ rfl _ rfl (by repeat constructor) Tryd.underlying38 Tryd.underlying5 Tryd.underlying9 ?_)
  |((with_reducible refine gate_dst (N := 22) rfl ?_);refine gate_guard (by rfl) ?_;refine l_load1 rfl H 38 _ rfl _ _ rfl (by repeat constructor) _ Tryd.underlying38 rfl _ (by first|rfl|assumption|exact nums_at _ (by omega)) ?_)
  |((with_reducible refine gate_dst (N := 23) rfl ?_);refine gate_guard (by rfl) ?_;refine l_strR rfl H 38 9 5 _ rfl _ rfl (by repeat constructor) Tryd.underlying38 Tryd.underlying5 Tryd.underlying9 ?_))
   go_ret
   exact ⟨rfl,H.below⟩
  |true =>
   cases e3 : (d1 == d2) with
   |false =>
    rw [e3] at s1
    generalize d1.length = n1 at *
    generalize d2.length = n2 at *
    go_enter Tryd.func43,Tryd.ntmps43
    go_wp2_with (first
  |((with_reducible refine gate_dst (N := 2) rfl ?_);refine l_boxA rfl H 76 _ rfl _ rfl ?_;clear H;intro g2 W H)
  |((with_reducible refine gate_dst (N := 3) rfl ?_);refine l_boxA rfl H 76 _ rfl _ rfl ?_;clear H;intro g3 W H)
  |((with_reducible refine gate_dst (N := 6) rfl ?_);refine l_load1 rfl H 3 _ rfl _ _ rfl (by repeat constructor) _ Tryd.underlying3 rfl _ (by first|rfl|assumption|exact nums_at _ (by omega)) ?_)
  |((with_reducible refine gate_dst (N := 8) rfl ?_);refine l_load1 rfl H 3 _ rfl _ _ rfl (by repeat constructor) _ Tryd.underlying3 rfl _ (by first|rfl|assumption|exact nums_at _ (by omega)) ?_)
  |((with_reducible refine gate_dst (N := 12) rfl ?_);refine gate_guard (by rfl) ?_;refine l_load1 rfl H 67 _ rfl _ _ rfl (by repeat constructor) _ Tryd.underlying67 rfl _ (by first|rfl|assumption|exact nums_at _ (by omega)) ?_)
  |((with_reducible refine gate_dst (N := 14) rfl ?_);refine gate_guard (by rfl) ?_;refine l_load1 rfl H 67 _ rfl _ _ rfl (by repeat constructor) _ Tryd.underlying67 rfl _ (by first|rfl|assumption|exact nums_at _ (by omega)) ?_)
  |((with_reducible refine gate_dst (N := 19) rfl ?_);refine gate_guard (by rfl) ?_;refine l_load1 rfl H 38 _ rfl _ _ rfl (by repeat constructor) _ Tryd.underlying38 rfl _ (by first|rfl|assumption|exact nums_at _ (by omega)) ?_)
  |((with_reducible refine gate_dst (N := 20) rfl ?_);refine gate_guard (by rfl) ?_;refine l_strR rfl H 38 9 5 _ rfl _ rfl (by repeat constructor) Tryd.underlying38 Tryd.underlying5 Tryd.underlying9 ?_)
  |((with_reducible refine gate_dst (N := 22) rfl ?_);refine gate_guard (by rfl) ?_;refine l_load1 rfl H 38 _ rfl _ _ rfl (by repeat constructor) _ Tryd.underlying38 rfl _ (by first|rfl|assumption|exact nums_at _ (by omega)) ?_)
  |((with_reducible refine gate_dst (N := 23) rfl ?_);refine gate_guard (by rfl) ?_;refine l_strR rfl H 38 9 5 _ rfl _ rfl (by repeat constructor) Tryd.underlying38 Tryd.underlying5 Tryd.underlying9 ?_)
    |((with_reducible refine gate_dst (N := 20) rfl ?_);refine gate_guard (by rfl) ?_;refine l_run rfl (.string (strOfNums d1)) (r_strC 38 9 5 _ rfl rfl (Kd.C_below h1 H.below) Tryd.underlying38 Tryd.underlying5 Tryd.underlying9) ?_)
    |((with_reducible refine gate_dst (N := 23) rfl ?_);refine gate_guard (by rfl) ?_;refine l_run rfl (.string (strOfNums d2)) (r_strC 38 9 5 _ rfl rfl (Kd.C_below h2 H.below) Tryd.underlying38 Tryd.underlying5 Tryd.underlying9) ?_))
    go_ret
    exact ⟨rfl,H.below⟩
   |true =>
    rw [e3] at s1
    generalize d1.length = n1 at *
    generalize d2.length = n2 at *
    go_enter Tryd.func43,Tryd.ntmps43
    go_wp2_with (first
  |((with_reducible refine gate_dst (N := 2) rfl ?_);refine l_boxA rfl H 76 _ rfl _ rfl ?_;clear H;intro g2 W H)
  |((with_reducible refine gate_dst (N := 3) rfl ?_);refine l_boxA rfl H 76 _ rfl _ rfl ?_;clear H;intro g3 W H)
  |((with_reducible refine gate_dst (N := 6) rfl ?_);refine l_load1 rfl H 3 _ rfl _ _ rfl (by repeat constructor) _ Tryd.underlying3 rfl _ (by first|rfl|assumption|exact nums_at _ (by omega)) ?_)
  |((with_reducible refine gate_dst (N := 8) rfl ?_);refine l_load1 rfl H 3 _ rfl _ _ rfl (by repeat constructor) _ Tryd.underlying3 rfl _ (by first|rfl|assumption|exact nums_at _ (by omega)) ?_)
  |((with_reducible refine gate_dst (N := 12) rfl ?_);refine gate_guard (by rfl) ?_;refine l_load1 rfl H 67 _ rfl _ _ rfl (by repeat constructor) _ Tryd.underlying67 rfl _ (by first|rfl|assumption|exact nums_at _ (by omega)) ?_)
  |((with_reducible refine gate_dst (N := 14) rfl ?_);refine gate_guard (by rfl) ?_;refine l_load1 rfl H 67 _ rfl _ _ rfl (by repeat constructor) _ Tryd.underlying67 rfl _ (by first|rfl|assumption|exact nums_at _ (by omega)) ?_)
  |((with_reducible refine gate_dst (N := 19) rfl ?_);refine gate_guard (by rfl) ?_;refine l_load1 rfl H 38 _ rfl _ _ rfl (by repeat constructor) _ Tryd.underlying38 rfl _ (by first|rfl|assumption|exact nums_at _ (by omega)) ?_)
  |((with_reducible refine gate_dst (N := 20) rfl ?_);refine gate_guard (by rfl) ?_;refine l_strR rfl H 38 9 5 _ rfl _ rfl (by repeat constructor) Tryd.underlying38 Tryd.underlying5 Tryd.underlying9 ?_)
  |((with_reducible refine gate_dst (N := 22) rfl ?_);refine gate_guard (by rfl) ?_;refine l_load1 rfl H 38 _ rfl _ _ rfl (by repeat constructor) _ Tryd.underlying38 rfl _ (by first|rfl|assumption|exact nums_at _ (by omega)) ?_)
  |((with_reducible refine gate_dst (N := 23) rfl ?_);refine gate_guard (by rfl) ?_;refine l_strR rfl H 38 9 5 _ rfl _ rfl (by repeat constructor) Tryd.underlying38 Tryd.underlying5 Tryd.underlying9 ?_)
    |((with_reducible refine gate_dst (N := 20) rfl ?_);refine gate_guard (by rfl) ?_;refine l_run rfl (.string (strOfNums d1)) (r_strC 38 9 5 _ rfl rfl (Kd.C_below h1 H.below) Tryd.underlying38 Tryd.underlying5 Tryd.underlying9) ?_)
    |((with_reducible refine gate_dst (N := 23) rfl ?_);refine gate_guard (by rfl) ?_;refine l_run rfl (.string (strOfNums d2)) (r_strC 38 9 5 _ rfl rfl (Kd.C_below h2 H.below) Tryd.underlying38 Tryd.underlying5 Tryd.underlying9) ?_))
    go_ret
    exact ⟨rfl,H.below⟩
def badF (ep : Int) (F : List Int) (ok : List Bool) (p : Nat) (wk wx : Int) (wd : List Int) : Bool :=
 match told ep F ok p with
 |none => false
 |some (k,d,_) => !(sameFr k ep wk wx d wd)
theorem told_bytes {ep : Int} {F : List Int} {ok : List Bool} (hb : Bytes F) {p : Nat} {k : Int} {d : List Int} {n : Nat} (h : told ep F ok p = some (k,d,n)) : Bytes d := by
 unfold told at h
 split at h
 ·cases h
 ·split at h
  ·cases h
  ·split at h
   ·cases h
   ·split at h
    ·cases h
    ·have := Option.some.inj h
     simp only [Prod.mk.injEq] at this
     obtain ⟨-,rfl,-⟩ := this
     unfold decD frAt
     exact bytes_drop (bytes_take (bytes_take (bytes_drop hb _) _) _) _
set_option maxRecDepth 100000 in
set_option maxHeartbeats 16000000 in
theorem hold_own (e64 : Int) (F : List Int) (ok : List Bool) (hF : F.length = 832) (hFb : Bytes F) (hok : ok.length = 16) (p : Nat) (hp : p + 11 ≤ 832) (wk wx : Int) (wd : List Int) (Aw : Option Addr) (cw : Nat) (hcw : wd.length ≤ cw) (hbw : Bytes wd)
  (Ab Ao Ar : Option Addr) (cb co cr : Nat) (hcb : 832 ≤ cb) (hco : 16 ≤ co) (g3 g9 g10 g11 : Nat) (outs : List Int) (hout : outs.length ≤ 10000) (rest : List Res) (outs' : List Int) (ho' : outs' = (if badF (e64 % 4294967296) F ok p wk wx wd = true then outs ++ [(p : Int)] else outs)) {w0 W : World} {FF : Nat → Option Obj}
  (hW : ∀ X L',Own w0 FF L' X → (Kd.int .u8).C X Aw wd.length wd) (hH0 : Half w0)
  (H : Own w0 FF (.blk g3 22 [.int .u64 e64] :: .blk g9 38 [.slice Ab 832 cb] :: .blk g10 63 [.slice Ao 16 co] :: .blk g11 26 [.slice Ar outs.length cr] :: .row (.slice Ar outs.length cr) 3 1 outs.length (nums .i64 outs) :: .row (.slice Ab 832 cb) 5 1 832 (nums .u8 F) :: .row (.slice Ao 16 co) 4 1 16 (bools ok) :: rest) W) :
  Calls Tryd.prog 41 #[.int .i64 (p : Int),.agg #[.int .i64 wk,.int .u32 wx,.slice Aw wd.length cw],.pointer (some ⟨g3,0,none⟩),.pointer (some ⟨g9,0,none⟩),.pointer (some ⟨g10,0,none⟩),.pointer (some ⟨g11,0,none⟩)] W fun e W' => e = .returned (.tuple #[]) ∧ ∃ Ar' cr',
   Own w0 FF (.blk g3 22 [.int .u64 e64] :: .blk g9 38 [.slice Ab 832 cb] :: .blk g10 63 [.slice Ao 16 co] :: .blk g11 26 [.slice Ar' outs'.length cr'] :: .row (.slice Ar' outs'.length cr') 3 1 outs'.length (nums .i64 outs') :: .row (.slice Ab 832 cb) 5 1 832 (nums .u8 F) :: .row (.slice Ao 16 co) 4 1 16 (bools ok) :: rest) W' := by
 have TC := fun W hb ho h => ttold_calls e64 F ok hF hFb hok p hp Ab Ao cb co hcb hco W hb ho h
 unfold badF at ho'
 generalize e64 % 4294967296 = ep at *
 cases hT : told ep F ok p with
 |none =>
  rw [hT] at TC ho'
  clear hT
  generalize wd.length = nw at *
  simp only [Bool.false_eq_true,if_false] at ho'
  rw [ho']
  clear ho'
  generalize hol : outs.length = m at *
  go_enter Tryd.func41,Tryd.ntmps41
  go_wp2_with (first
  |((with_reducible refine gate_dst (N := 7) rfl ?_);refine l_boxA rfl H 76 _ rfl _ rfl ?_;clear H;intro g7 W H)
  |((with_reducible refine gate_dst (N := 11) rfl ?_);refine l_load1 rfl H 22 _ rfl _ _ rfl (by repeat constructor) _ Tryd.underlying22 rfl _ (by first|rfl|assumption|exact nums_at _ (by omega)) ?_)
  |((with_reducible refine gate_dst (N := 12) rfl ?_);refine l_load1 rfl H 38 _ rfl _ _ rfl (by repeat constructor) _ Tryd.underlying38 rfl _ (by first|rfl|assumption|exact nums_at _ (by omega)) ?_)
  |((with_reducible refine gate_dst (N := 13) rfl ?_);refine l_load1 rfl H 63 _ rfl _ _ rfl (by repeat constructor) _ Tryd.underlying63 rfl _ (by first|rfl|assumption|exact nums_at _ (by omega)) ?_)
  |((with_reducible refine gate_dst (N := 8) rfl ?_);refine l_allocA rfl H 76 rfl _ zero76 ?_;clear H;intro g8 W H)
  |((with_reducible refine gate_store (t := 76) (p := 8) rfl ?_);refine l_storeW rfl H 76 _ _ rfl _ rfl _ rfl (by repeat constructor) _ size76 (by first|rfl|assumption|omega|(simp only [nums_length];omega)|simp [nums_length,zs] <;> omega) (by first|rfl|assumption|omega|(simp only [nums_length];omega)|simp [nums_length,zs] <;> omega) (by first|exact nums_one|assumption|exact on1_ rfl) ?_;clear H;intro W H)
  |((with_reducible refine gate_dst (N := 20) rfl ?_);refine gate_guard (by rfl) ?_;refine l_loadA rfl H 76 _ rfl _ rfl (by repeat constructor) _ _ Tryd.underlying76 rfl size76 (by first|rfl|assumption|omega|(simp only [nums_length];omega)|simp [nums_length,zs] <;> omega) ?_)
  |((with_reducible refine gate_dst (N := 21) rfl ?_);refine gate_guard (by rfl) ?_;refine l_loadA rfl H 76 _ rfl _ rfl (by repeat constructor) _ _ Tryd.underlying76 rfl size76 (by first|rfl|assumption|omega|(simp only [nums_length];omega)|simp [nums_length,zs] <;> omega) ?_)
  |(go_at_call 42;(with_reducible refine (TC _ (H.rd (A := Ab) (by repeat constructor)).1 (H.rd (A := Ao) (by repeat constructor)).1 (hH0.below H.below)).mono ?_);rintro e W ⟨⟨k1,x1,A1,n1,c1,d1,rfl,ho,-,-⟩,hb⟩;replace H := H.addRow hb ho;clear hb ho))
  go_end0
  replace H := H.del (r := .blk g8 _ _) (by repeat constructor)
  replace H := H.del (r := .blk g7 _ _) (by repeat constructor)
  replace H := H.del (r := .row (.slice A1 n1 c1) _ _ _ _) (by repeat constructor)
  first|exact ⟨rfl,Ar,cr,H⟩|exact ⟨Ar,cr,H⟩
 |some y =>
  obtain ⟨k,d,m'⟩ := y
  have hdb := told_bytes hFb hT
  have TC2 : ∀ W,Rd W Ab (nums .u8 F) → Rd W Ao (bools ok) → Half W → Calls Tryd.prog 42 #[.int .u64 e64,.slice Ab 832 cb,.slice Ao 16 co,.int .i64 (p : Int)] W fun en W' => ∃ A1 c1,en = .returned (.tuple #[.agg #[.int .i64 k,.int .u32 ep,.slice A1 d.length c1],.bool true]) ∧ W'.ownsRow W.heap.size 5 1 (.slice A1 d.length c1) d.length (nums .u8 d) ∧ Below W.heap.size W W' := fun W hb ho h => (TC W hb ho h).mono (by
   rintro e W' ⟨⟨k1,x1,A1,n1,c1,d1,rfl,ho,hn,hy⟩,hb⟩
   obtain ⟨e1,e2,-⟩ := hy _ hT
   simp only [Prod.mk.injEq] at e1
   obtain ⟨rfl,rfl,-⟩ := e1
   subst hn e2
   exact ⟨A1,c1,by rw [hT];rfl,ho,hb⟩)
  rw [hT] at ho'
  simp only at ho'
  clear TC hT
  have SC := fun A1 c1 W h1 h2 h3 => fsame_calls k ep wk wx d wd A1 Aw c1 cw W h1 h2 h3 hcw hdb hbw
  clear hdb hbw
  generalize hwl : wd.length = nw at *
  generalize hdl : d.length = nd at *
  generalize hol : outs.length = m at *
  cases hS : sameFr k ep wk wx d wd with
  |true =>
   rw [hS] at SC
   simp only [hS,Bool.not_true,Bool.false_eq_true,if_false] at ho'
   clear hS
   rw [ho',hol]
   clear ho'
   go_enter Tryd.func41,Tryd.ntmps41
   go_wp2_with (first
  |((with_reducible refine gate_dst (N := 7) rfl ?_);refine l_boxA rfl H 76 _ rfl _ rfl ?_;clear H;intro g7 W H)
  |((with_reducible refine gate_dst (N := 11) rfl ?_);refine l_load1 rfl H 22 _ rfl _ _ rfl (by repeat constructor) _ Tryd.underlying22 rfl _ (by first|rfl|assumption|exact nums_at _ (by omega)) ?_)
  |((with_reducible refine gate_dst (N := 12) rfl ?_);refine l_load1 rfl H 38 _ rfl _ _ rfl (by repeat constructor) _ Tryd.underlying38 rfl _ (by first|rfl|assumption|exact nums_at _ (by omega)) ?_)
  |((with_reducible refine gate_dst (N := 13) rfl ?_);refine l_load1 rfl H 63 _ rfl _ _ rfl (by repeat constructor) _ Tryd.underlying63 rfl _ (by first|rfl|assumption|exact nums_at _ (by omega)) ?_)
  |((with_reducible refine gate_dst (N := 8) rfl ?_);refine l_allocA rfl H 76 rfl _ zero76 ?_;clear H;intro g8 W H)
  |((with_reducible refine gate_store (t := 76) (p := 8) rfl ?_);refine l_storeW rfl H 76 _ _ rfl _ rfl _ rfl (by repeat constructor) _ size76 (by first|rfl|assumption|omega|(simp only [nums_length];omega)|simp [nums_length,zs] <;> omega) (by first|rfl|assumption|omega|(simp only [nums_length];omega)|simp [nums_length,zs] <;> omega) (by first|exact nums_one|assumption|exact on1_ rfl) ?_;clear H;intro W H)
  |((with_reducible refine gate_dst (N := 20) rfl ?_);refine gate_guard (by rfl) ?_;refine l_loadA rfl H 76 _ rfl _ rfl (by repeat constructor) _ _ Tryd.underlying76 rfl size76 (by first|rfl|assumption|omega|(simp only [nums_length];omega)|simp [nums_length,zs] <;> omega) ?_)
  |((with_reducible refine gate_dst (N := 21) rfl ?_);refine gate_guard (by rfl) ?_;refine l_loadA rfl H 76 _ rfl _ rfl (by repeat constructor) _ _ Tryd.underlying76 rfl size76 (by first|rfl|assumption|omega|(simp only [nums_length];omega)|simp [nums_length,zs] <;> omega) ?_)
   |(go_at_call 42;(with_reducible refine (TC2 _ (H.rd (A := Ab) (by repeat constructor)).1 (H.rd (A := Ao) (by repeat constructor)).1 (hH0.below H.below)).mono ?_);rintro e W ⟨A1,c1,rfl,ho,hb⟩;replace H := H.addRow hb ho;clear hb ho)
   |(go_at_call 43;(with_reducible refine (SC _ _ _ (H.rowC (A := A1) (cc := c1) (by repeat constructor)).2.2 (H.rowC (A := A1) (cc := c1) (by repeat constructor)).1 (hW _ _ H)).mono ?_);rintro e W ⟨rfl,hb⟩;replace H := H.to hb;clear hb))
   go_end0
   replace H := H.del (r := .blk g8 _ _) (by repeat constructor)
   replace H := H.del (r := .blk g7 _ _) (by repeat constructor)
   replace H := H.del (r := .row (.slice A1 nd c1) _ _ _ _) (by repeat constructor)
   first|exact ⟨rfl,Ar,cr,H⟩|exact ⟨Ar,cr,H⟩
  |false =>
   rw [hS] at SC
   simp only [hS,Bool.not_false,if_true] at ho'
   clear hS
   have hl1 : m + 1 = outs'.length := by rw [ho'];simp [hol]
   have hnp : nums .i64 outs ++ [.int .i64 (p : Int)] = nums .i64 outs' := by rw [ho'];simp [nums]
   rw [← hl1,← hnp]
   clear hl1 hnp ho'
   go_enter Tryd.func41,Tryd.ntmps41
   go_wp2_with (first
  |((with_reducible refine gate_dst (N := 7) rfl ?_);refine l_boxA rfl H 76 _ rfl _ rfl ?_;clear H;intro g7 W H)
  |((with_reducible refine gate_dst (N := 11) rfl ?_);refine l_load1 rfl H 22 _ rfl _ _ rfl (by repeat constructor) _ Tryd.underlying22 rfl _ (by first|rfl|assumption|exact nums_at _ (by omega)) ?_)
  |((with_reducible refine gate_dst (N := 12) rfl ?_);refine l_load1 rfl H 38 _ rfl _ _ rfl (by repeat constructor) _ Tryd.underlying38 rfl _ (by first|rfl|assumption|exact nums_at _ (by omega)) ?_)
  |((with_reducible refine gate_dst (N := 13) rfl ?_);refine l_load1 rfl H 63 _ rfl _ _ rfl (by repeat constructor) _ Tryd.underlying63 rfl _ (by first|rfl|assumption|exact nums_at _ (by omega)) ?_)
  |((with_reducible refine gate_dst (N := 8) rfl ?_);refine l_allocA rfl H 76 rfl _ zero76 ?_;clear H;intro g8 W H)
  |((with_reducible refine gate_store (t := 76) (p := 8) rfl ?_);refine l_storeW rfl H 76 _ _ rfl _ rfl _ rfl (by repeat constructor) _ size76 (by first|rfl|assumption|omega|(simp only [nums_length];omega)|simp [nums_length,zs] <;> omega) (by first|rfl|assumption|omega|(simp only [nums_length];omega)|simp [nums_length,zs] <;> omega) (by first|exact nums_one|assumption|exact on1_ rfl) ?_;clear H;intro W H)
  |((with_reducible refine gate_dst (N := 20) rfl ?_);refine gate_guard (by rfl) ?_;refine l_loadA rfl H 76 _ rfl _ rfl (by repeat constructor) _ _ Tryd.underlying76 rfl size76 (by first|rfl|assumption|omega|(simp only [nums_length];omega)|simp [nums_length,zs] <;> omega) ?_)
  |((with_reducible refine gate_dst (N := 21) rfl ?_);refine gate_guard (by rfl) ?_;refine l_loadA rfl H 76 _ rfl _ rfl (by repeat constructor) _ _ Tryd.underlying76 rfl size76 (by first|rfl|assumption|omega|(simp only [nums_length];omega)|simp [nums_length,zs] <;> omega) ?_)
  |((with_reducible refine gate_dst (N := 25) rfl ?_);refine l_load1 rfl H 26 _ rfl _ _ rfl (by repeat constructor) _ Tryd.underlying26 rfl _ (by first|rfl|assumption|exact nums_at _ (by omega)) ?_)
  |((with_reducible refine gate_dst (N := 27) rfl ?_);refine l_build11 rfl H 26 3 _ rfl Tryd.underlying26 _ rfl _ zs3 rfl rfl ?_;clear H;intro g27 W H)
  |((with_reducible refine gate_dst (N := 28) rfl ?_);refine l_append1 rfl H _ _ 26 3 rfl Tryd.underlying26 _ _ _ inf3 rfl (by decide) (by decide) _ _ _ rfl (by repeat constructor) _ _ rfl (by repeat constructor) (by first|rfl|assumption|omega|(simp only [nums_length];omega)|simp [nums_length,zs] <;> omega) (by first|exact nums_one|assumption|exact on1_ rfl) (by omega) ?_;clear H;intro v28 W H;obtain ⟨A28,c28,rfl⟩ : ∃ A c,v28 = .slice A (m + 1) c := H.row_slice (by repeat constructor))
  |((with_reducible refine gate_store (t := 26) (p := 5) rfl ?_);refine l_store1 rfl H 26 _ _ rfl _ _ rfl _ (by first|(go_simp;done)|(go_simp;with_reducible rfl)) (by repeat constructor) rfl rfl size26 (by first|rfl|assumption|omega|(simp only [nums_length];omega)|simp [nums_length,zs] <;> omega) ?_;clear H;intro W H)
   |(go_at_call 42;(with_reducible refine (TC2 _ (H.rd (A := Ab) (by repeat constructor)).1 (H.rd (A := Ao) (by repeat constructor)).1 (hH0.below H.below)).mono ?_);rintro e W ⟨A1,c1,rfl,ho,hb⟩;replace H := H.addRow hb ho;clear hb ho)
   |(go_at_call 43;(with_reducible refine (SC _ _ _ (H.rowC (A := A1) (cc := c1) (by repeat constructor)).2.2 (H.rowC (A := A1) (cc := c1) (by repeat constructor)).1 (hW _ _ H)).mono ?_);rintro e W ⟨rfl,hb⟩;replace H := H.to hb;clear hb))
   go_end0
   replace H := H.del (r := .blk g8 _ _) (by repeat constructor)
   replace H := H.del (r := .blk g7 _ _) (by repeat constructor)
   replace H := H.del (r := .blk g27 _ _) (by repeat constructor)
   replace H := H.del (r := .row (.slice A1 nd c1) _ _ _ _) (by repeat constructor)
   first|exact ⟨rfl,A28,c28,H⟩|exact ⟨A28,c28,H⟩
end Go.Proofs.YtaekpfhgdnfciaaDoor.O
end

section
namespace Go.Proofs.YtaekpfhgdnfciaaDoor.O
open Go.Proofs.YtaekpfhgdnfciaaDoor.F Go.Proofs.YtaekpfhgdnfciaaDoor.F.Nums Go.Proofs.YtaekpfhgdnfciaaDoor.Plain Go.Proofs.YtaekpfhgdnfciaaDoor.Img
def badP (ep : Int) (F : List Int) (ok : List Bool) (data : List Int) (p : Pc) : Bool := badF ep F ok p.f0.toNat p.f1 ep ((data.take p.f3.toNat).drop p.f2.toNat)
def badR (ep : Int) (F : List Int) (ok : List Bool) (data : List Int) (ps : List Pc) : List Int := (ps.filter (badP ep F ok data)).map fun p => p.f0
def badL (e64 : Int) (l : List (List Int)) (F : List Int) (ok : List Bool) (k : Nat) : List Int := (List.range k).flatMap fun i => badR (e64 % 4294967296) F ok (l.getD i []) (pcs e64 l i)
theorem badR_snoc (ep : Int) (F : List Int) (ok : List Bool) (data : List Int) (ps : List Pc) (p : Pc) : badR ep F ok data (ps ++ [p]) = if badP ep F ok data p = true then badR ep F ok data ps ++ [p.f0] else badR ep F ok data ps := by
 unfold badR
 rw [List.filter_append]
 by_cases h : badP ep F ok data p = true
 ·rw [if_pos h,List.filter_cons_of_pos h]
  simp
 ·rw [if_neg h,List.filter_cons_of_neg h]
  simp
theorem badR_len (ep : Int) (F : List Int) (ok : List Bool) (data : List Int) (ps : List Pc) : (badR ep F ok data ps).length ≤ ps.length := by
 unfold badR
 rw [List.length_map]
 exact List.length_filter_le ..
theorem badL_succ (e64 : Int) (l : List (List Int)) (F : List Int) (ok : List Bool) (k : Nat) : badL e64 l F ok (k + 1) = badL e64 l F ok k ++ badR (e64 % 4294967296) F ok (l.getD k []) (pcs e64 l k) := by
 unfold badL
 rw [List.range_succ,List.flatMap_append]
 simp
theorem badL_len (e64 : Int) (l : List (List Int)) (F : List Int) (ok : List Bool) (k : Nat) : (badL e64 l F ok k).length ≤ 10 * k := by
 induction k with
 |zero => exact Nat.le_refl _
 |succ k ih =>
  rw [badL_succ,List.length_append]
  have h1 := badR_len (e64 % 4294967296) F ok (l.getD k []) (pcs e64 l k)
  have h2 := cutP_len (laySt e64 l k).2 ((l.getD k []).length : Int)
  unfold pcs at h1 ⊢
  omega
theorem badP_of {ep : Int} {F : List Int} {ok : List Bool} {data : List Int} {p : Pc} (h : told ep F ok p.f0.toNat = some (wantT data p) ∨ told ep F ok p.f0.toNat = none) : badP ep F ok data p = false := by
 unfold badP badF
 rcases h with h|h
 ·rw [h]
  unfold wantT sameFr
  simp
 ·rw [h]
theorem badL_nil {e64 : Int} {l : List (List Int)} {F : List Int} {ok : List Bool} : badL e64 l F ok l.length = [] ↔ ∀ k,k < l.length → ∀ p ∈ pcs e64 l k,badP (e64 % 4294967296) F ok (l.getD k []) p = false := by
 unfold badL badR
 rw [List.flatMap_eq_nil_iff]
 constructor
 ·intro h k hk p hp
  have := h k (List.mem_range.2 hk)
  rw [List.map_eq_nil_iff,List.filter_eq_nil_iff] at this
  simpa using this p hp
 ·intro h k hk
  rw [List.map_eq_nil_iff,List.filter_eq_nil_iff]
  intro p hp
  rw [h k (List.mem_range.1 hk) p hp]
  decide
end Go.Proofs.YtaekpfhgdnfciaaDoor.O
end

section
namespace Go.Proofs.YtaekpfhgdnfciaaDoor.O
open Go.Proofs.YtaekpfhgdnfciaaDoor.F
section
variable {P : Program} {r n : Nat} {ops : Array Oper} {Q : Exit → Act → World → Prop}
theorem opIn_of_wp {o : Oper} {a : Act} {w : World} {K : Act → World → Prop} (hnd : ∀ c,o.op ≠ .defer c) (h : o.wp P a w K Q) : o.wpIn (Fence.wide.inRound r) n P a w K Q := by
 unfold Oper.wpIn
 refine ⟨fun _ _ => trivial,?_⟩
 rw [Oper.semAt_eq _ _ _ hnd]
 unfold Oper.wp at h
 generalize (execOp a.eval o).run P w = x at h ⊢
 cases x with
 |ok y w' =>
  cases y with
  |enter f args =>
   simp only [Oper.upon,Oper.uponIn] at h ⊢
   exact ⟨fun e => by simp [Fence.inRound,Fence.wide] at e,(CallsIn.inRound r (callsIn_wide.2 h)).mono (fun e w'' he => by cases e <;> exact he)⟩
  |row q args =>
   simp only [Oper.upon,Oper.uponIn] at h ⊢
   refine ⟨fun e => by simp [Fence.inRound,Fence.wide] at e,fun c cs _ => ?_⟩
   obtain ⟨v,w',hr,hs⟩ := h c cs
   exact ⟨v,w',hr,stepsIn_wide.2 hs⟩
  |value v => exact h
  |skip => exact h
  |«defer» d => exact h
  |_ => exact absurd h (by simp [Oper.upon])
 |halt y w' => cases y <;> exact h
def noDefer (o : Oper) : Bool := match o.op with|.defer _ => false|_ => true
theorem noDefer_ne {o : Oper} (h : noDefer o = true) (c : Call) : o.op ≠ .defer c := by
 intro e
 unfold noDefer at h
 rw [e] at h
 cases h
theorem listIn_of (hQ : ¬ LetsOut Q) : ∀ (l : List Oper) (a : Act) (w : World),l.all noDefer = true → wpList P ops Q l a w → wpListIn (Fence.wide.inRound r) n P ops Q l a w
 |[],_,_,_,h => h
 |o :: rest,a,w,hn,h => by
  rw [List.all_cons,Bool.and_eq_true] at hn
  simp only [wpList,wpListIn] at h ⊢
  split at h
  ·rename_i hw
   rw [if_pos hw]
   rcases h with h|h
   ·exact Oper.wpIn_mono (fun a w h => listIn_of hQ rest a w hn.2 h) (opIn_of_wp (fun c => noDefer_ne hn.1 c) h)
   ·exact absurd h.2 hQ
  ·rename_i hw
   rw [if_neg hw]
   exact ⟨fun _ _ => trivial,listIn_of hQ rest _ w hn.2 h⟩
theorem regIn_lit {id : Nat} {l : List Oper} {a : Act} {w : World} (hn : l.all noDefer = true) (hQ : ¬ LetsOut Q) (h : wpList P l.toArray Q l a w) : (Code.region id l.toArray false).wpIn (Fence.wide.inRound r) n P Q a w :=
 wpIn_region_lit (listIn_of hQ l a w hn h)
end
/-! ### a block that is no resource -/
theorem Own.putF {w0 W : World} {F : Nat → Option Obj} {L : List Res} (H : Own w0 F L W) (l : Nat) (o o' : Obj) (hF : F l = some o) (hl : w0.heap.size ≤ l) : Own w0 (fun g => if g = l then some o' else F g) L (W.putObj l o') := by
 have hlt : l < W.heap.size := obj_lt (H.holds l o hF)
 have hne : ∀ y ∈ L,∀ k,y.block = some k → k ≠ l := fun y hy k hk e => by
  subst e
  have := H.apart y hy k hk
  rw [hF] at this
  cases this
 refine ⟨?_,?_,?_,?_,H.sep⟩
 ·refine ⟨H.below.os,H.below.tape,H.below.output,?_,fun k hk => ?_⟩
  ·have := H.below.size
   simpa [World.putObj] using this
  ·exact (World.putObj_heap_other (by omega)).trans (H.below.block k hk)
 ·intro g q hg
  by_cases e : g = l
  ·subst e
   simp at hg
   subst hg
   exact World.putObj_heap_same hlt
  ·simp [e] at hg
   exact (World.putObj_heap_other e).trans (H.holds g q hg)
 ·intro y hy
  exact (H.ats y hy).move (fun k hk => World.putObj_heap_other (hne y hy k hk))
 ·intro y hy k hk
  simp [hne y hy k hk]
  exact H.apart y hy k hk
theorem Own.addF {w0 W : World} {F : Nat → Option Obj} {L : List Res} (H : Own w0 F L W) (o : Obj) : Own w0 (fun g => if g = W.heap.size then some o else F g) L (W.alloc o) := by
 have hb : Below W.heap.size W (W.alloc o) := below_alloc (Below.refl _ _) o
 have H1 := H.to hb
 refine ⟨H1.below,?_,H1.ats,?_,H1.sep⟩
 ·intro g q hg
  by_cases e : g = W.heap.size
  ·subst e
   simp at hg
   subst hg
   exact World.alloc_heap_new W o
  ·simp [e] at hg
   exact H1.holds g q hg
 ·intro y hy k hk
  have := (H.ats y hy).lt hk
  rw [if_neg (by omega)]
  exact H.apart y hy k hk
theorem Own.congrF {w0 W : World} {F F' : Nat → Option Obj} {L : List Res} (H : Own w0 F L W) (h : ∀ g,F g = F' g) : Own w0 F' L W := by
 obtain rfl : F = F' := funext h
 exact H
def bodyQ2 (K KR : World → Prop) : Exit → Act → World → Prop
 |.normal,_,w => K w
 |.ret,_,w => KR w
 |_,_,_ => False
def Yld (w0 : World) (F1 F2 : Nat → Option Obj) (RZ RX : List Res → Prop) (e : Ending) (W : World) : Prop :=
 (e = .returned (.bool true) ∧ ∃ L,RZ L ∧ Own w0 F1 L W) ∨ (e = .returned (.bool false) ∧ ∃ L,RX L ∧ Own w0 F2 L W)
def Fin2 (w0 : World) (F1 F2 : Nat → Option Obj) (RN RL : List Res → Prop) (e : Ending) (W : World) : Prop :=
 (∃ v,e = .returned v) ∧ ((∃ L,RN L ∧ Own w0 F1 L W) ∨ (∃ L,RL L ∧ Own w0 F2 L W))
theorem rf_gen {ι : Type} {P : Program} {w0 w : World} {F : Nat → Option Obj} {Q : Exit → Act → World → Prop} {a : Act} {g : Operand} {ps : Array Tmp} {assign body : Code} {gf : Nat} {lb : Array Value} {n : Nat}
  (hg : a.eval g = .func (.func gf) #[] lb) (eg : ∀ args w,(callFunc gf args).run P w = .ok (.enter gf args) w) (hps : ps.size = 1) {L0 : List Res} (H0 : Own w0 F L0 w)
  (RY RZ : ι → Value → List Res → Prop) (RM : ι → Value → Act → List Res → Prop) (RX : ι → Value → List Res → Prop) (RN RL : List Res → Prop)
  (hseq : ∀ (F1 F2 : Nat → Option Obj) l W,Own w0 F1 L0 W →
   (∀ k v L W,RY k v L → Own w0 F1 L W → YieldAt Fence.wide n P l #[v] W (Yld w0 F1 F2 (RZ k v) (RX k v))) →
   CallsIn Fence.wide n P gf (#[.func (.yield l) #[] #[]] ++ lb) W (Fin2 w0 F1 F2 RN RL))
  (hassign : ∀ F1 l k v L W,RY k v L → Own w0 F1 L W → assign.wpIn (Fence.wide.inRound l) n P (Exit.then (fun a1 W1 => ∃ L1,RM k v a1 L1 ∧ Own w0 F1 L1 W1) (fun _ _ _ => False)) { tmps := (ps.zip #[v]).foldl (fun t (p,v) => t.setIfInBounds p v) a.tmps,defers := [] } W)
  (hbody : ∀ F1 l k v a1 L W,RM k v a1 L → Own w0 F1 L W → body.wpIn (Fence.wide.inRound l) n P (bodyQ2 (fun W' => ∃ L',RZ k v L' ∧ Own w0 F1 L' W') (fun W' => ∃ L',RX k v L' ∧ Own w0 F1 L' W')) a1 W)
  (hdone : ∀ F1 D L W,RN L → Own w0 F1 L W → F1 D = some (.deferred (some [])) → w0.heap.size ≤ D → Q .normal { a with defers := { target := .collected D,args := #[] } :: a.defers } W)
  (hleft : ∀ F1 D L W,RL L → Own w0 F1 L W → F1 D = some (.deferred (some [])) → w0.heap.size ≤ D → Code.ret.wpIn Fence.wide (n + 1) P Q { a with defers := { target := .collected D,args := #[] } :: a.defers } W) :
  (Code.rangeFunc g ps assign body).wpIn Fence.wide (n + 1) P Q a w := by
 refine wpIn_rangeFunc ?_
 intro fn hfn
 obtain ⟨rec,hrec⟩ : ∃ rec : LoopState → Option Code → Loop,rec = fun st pe => { state := st,pending := pe,fn,tmps := a.tmps,params := ps,assign,body,defers := w.heap.size } := ⟨_,rfl⟩
 have hle := H0.size
 have H1 := H0.addF (.deferred (some []))
 have H2 := H1.addF (.loop (rec .ready none))
 rw [World.size_alloc] at H2
 obtain ⟨FF,hFF⟩ : ∃ FF : LoopState → Option Code → Nat → Option Obj,FF = fun st pe g => if g = w.heap.size + 1 then some (.loop (rec st pe)) else if g = w.heap.size then some (.deferred (some [])) else F g := ⟨_,rfl⟩
 have fl1 : ∀ st pe,FF st pe (w.heap.size + 1) = some (.loop (rec st pe)) := fun st pe => by rw [hFF];simp
 have fl2 : ∀ st pe,FF st pe w.heap.size = some (.deferred (some [])) := fun st pe => by rw [hFF];simp
 have fput : ∀ st pe st' pe' L W,Own w0 (FF st pe) L W → Own w0 (FF st' pe') L (W.putObj (w.heap.size + 1) (.loop (rec st' pe'))) := fun st pe st' pe' L W H => by
  refine (H.putF (w.heap.size + 1) _ (.loop (rec st' pe')) (fl1 st pe) (by omega)).congrF (fun g => ?_)
  rw [hFF]
  by_cases e : g = w.heap.size + 1
  ·simp [e]
  ·simp [e]
 have H2' : Own w0 (FF .ready none) L0 ((w.alloc (.deferred (some []))).alloc (.loop (rec .ready none))) := H2.congrF (fun g => by rw [hFF])
 generalize hW1 : (w.alloc (.deferred (some []))).alloc (.loop (rec .ready none)) = W1 at H2'
 refine ⟨w.heap.size + 1,[{ target := .collected w.heap.size,args := #[] }],W1,{ target := .fn (.func gf) lb,args := #[.func (.yield (w.heap.size + 1)) #[] #[]] },W1,gf,
  #[.func (.yield (w.heap.size + 1)) #[] #[]] ++ lb,W1,?_,?_,?_,?_,fun e => by simp [Fence.wide] at e,?_⟩
 ·rw [← hW1,hrec];exact run_enterLoop_outer _ _ _ _ _
 ·simp only [resolve,hg]
  simp [go_sem]
 ·intro f' hf';trivial
 ·simp [invoke,go_sem,eg]
 ·refine (hseq (FF .ready none) (FF .done (some .ret)) (w.heap.size + 1) W1 H2' ?_).mono ?_
  ·intro k v L W hR H
   have hl := H.holds _ _ (fl1 .ready none)
   have hy := run_yield (P := P) (args := #[v]) hl (by rw [hrec];simp [hps])
   rw [hrec] at hy
   refine ⟨fn,_,assign,body,hy,roundIn_of_wpIn hfn (wpIn_mono (hassign _ _ k v L W hR H) ?_)⟩
   intro e a1 W2 he
   cases e with
   |normal =>
    obtain ⟨L1,hM,H3⟩ := he
    have hl3 := H3.holds _ _ (fl1 .ready none)
    refine ⟨_,run_beginRound hl3 (by rw [hrec]),?_⟩
    have H4 := fput .ready none .busy none L1 W2 H3
    have e4 : W2.putObj (w.heap.size + 1) (.loop { rec .ready none with state := .busy }) = W2.putObj (w.heap.size + 1) (.loop (rec .busy none)) := by rw [hrec]
    rw [e4]
    refine wpIn_mono (hbody _ _ k v a1 L1 _ hM H4) ?_
    intro e a5 W5 he
    cases e with
    |normal =>
     obtain ⟨L5,hR5,H5⟩ := he
     have hl5 := H5.holds _ _ (fl1 .busy none)
     refine ⟨_,_,run_endRound none hl5,.inl ⟨rfl,L5,hR5,?_⟩⟩
     have H6 := fput .busy none .ready none L5 W5 H5
     have e6 : (W5.putObj (w.heap.size + 1) (.loop { rec .busy none with state := if (none : Option Code).isNone then .ready else .done,pending := none })) = W5.putObj (w.heap.size + 1) (.loop (rec .ready none)) := by rw [hrec];rfl
     rw [e6]
     exact H6
    |ret =>
     obtain ⟨L5,hR5,H5⟩ := he
     have hl5 := H5.holds _ _ (fl1 .busy none)
     refine ⟨_,_,run_endRound (some .ret) hl5,.inr ⟨rfl,L5,hR5,?_⟩⟩
     have H6 := fput .busy none .done (some .ret) L5 W5 H5
     have e6 : (W5.putObj (w.heap.size + 1) (.loop { rec .busy none with state := if (some Code.ret).isNone then .ready else .done,pending := some Code.ret })) = W5.putObj (w.heap.size + 1) (.loop (rec .done (some .ret))) := by rw [hrec];rfl
     rw [e6]
     exact H6
    |_ => exact he.elim
   |_ => exact he.elim
  ·rintro e W2 ⟨⟨v,rfl⟩,h⟩
   rcases h with ⟨L,hR,H⟩|⟨L,hR,H⟩
   ·have hl2 := H.holds _ _ (fl1 .ready none)
    refine ⟨none,_,by have := run_endLoop (P := P) hl2 (by rw [hrec];simp);rw [hrec] at this;exact this,?_⟩
    have H3 := fput .ready none .exhausted none L W2 H
    have e3 : (W2.putObj (w.heap.size + 1) (.loop (rec .exhausted none))) = W2.putObj (w.heap.size + 1) (.loop { state := .exhausted,pending := none,fn,tmps := a.tmps,params := ps,assign,body,defers := w.heap.size }) := by rw [hrec]
    rw [e3] at H3
    exact hdone _ w.heap.size L _ hR H3 (fl2 _ _) hle
   ·have hl2 := H.holds _ _ (fl1 .done (some .ret))
    refine ⟨some .ret,_,by have := run_endLoop (P := P) hl2 (by rw [hrec];simp);rw [hrec] at this;exact this,?_⟩
    have H3 := fput .done (some .ret) .exhausted (some .ret) L W2 H
    have e3 : (W2.putObj (w.heap.size + 1) (.loop (rec .exhausted (some .ret)))) = W2.putObj (w.heap.size + 1) (.loop { state := .exhausted,pending := some .ret,fn,tmps := a.tmps,params := ps,assign,body,defers := w.heap.size }) := by rw [hrec]
    rw [e3] at H3
    exact hleft _ w.heap.size L _ hR H3 (fl2 _ _) hle
end Go.Proofs.YtaekpfhgdnfciaaDoor.O
end

section
namespace Go.Proofs.YtaekpfhgdnfciaaDoor.O
open Go.Proofs.YtaekpfhgdnfciaaDoor.F Go.Proofs.YtaekpfhgdnfciaaDoor.F.Nums Go.Proofs.YtaekpfhgdnfciaaDoor.Plain Go.Proofs.YtaekpfhgdnfciaaDoor.Img
theorem r_loadC {P : Program} {o : Oper} {a : Act} {W : World} {p : Addr} {v : Value} (ty : TypeId) (x : Operand) (ho : o.op = .load ty x) (hx : a.eval x = .pointer (some p)) (hc : W.cell? p = some v) (d : TypeDesc) (hu : P.underlying ty = some d) (hd : d.isRow = false) :
  (execOp a.eval o).run P W = .ok (.value v) W := by
 have hag : (isAgg ty).run P W = .ok false W := by
  unfold isAgg
  rw [Sem.run_bind,run_underlying hu W]
  cases d <;> simp_all
 unfold execOp
 simp [ho,hx,Instr.loadAt,Instr.sureAddr,loadVar,hag,hc]
theorem l_runV {P : Program} {ops : Array Oper} {rest : List Oper} {o : Oper} {a : Act} {Q : Exit → Act → World → Prop} {W : World} (hgd : o.guard = none) {u : Value} (v : Value) (hr : (execOp a.eval o).run P W = .ok (.value u) W) (he : u = v) (h : wpList P ops Q rest (a.put o.dst v) W) : wpList P ops Q (o :: rest) a W := by
 subst he
 exact l_run hgd _ hr h
theorem Own.slack {w0 W : World} {F F' : Nat → Option Obj} {L : List Res} (H : Own w0 F' L W) (h : Fle F F') : Own w0 F L W :=
 ⟨H.below,fun g o hg => H.holds g o (h g o hg),H.ats,fun y hy k hk => by
  cases hF : F k with
  |none => rfl
  |some o => have := H.apart y hy k hk;rw [h k o hF] at this;exact this,H.sep⟩
theorem fr_stands {W W' : World} {F : Nat → Option Obj} {ok : Nat → Prop} {l : List S76} {ad : Addr} {n cap : Nat} (h : Kd.R k76 76 W' W.heap.size ok (.slice (some ad) n cap) l) (j : Nat) (hj : j < n) :
  ∃ A2 c2,Stands (fn F W W') (fun X => Rd X (some (ad.add (j * 3))) [.int .i64 (rd_T76 l j).f0,.int .u32 (rd_T76 l j).f1,.slice A2 (rd_T76 l j).f2.length c2]) ∧ (rd_T76 l j).f2.length ≤ c2 ∧
   Stands (fn F W W') (fun X => (Kd.int .u8).C X A2 (rd_T76 l j).f2.length (rd_T76 l j).f2) := by
 have hb := Kd.R_bound h
 obtain ⟨g,rfl⟩ := Kd.R_head hb
 obtain ⟨c,hcl,hM,hcc⟩ := Kd.R_get hb z76 (j : Int) (by omega) (by omega)
 obtain ⟨v2,rfl,g2⟩ := k76_openM hM
 obtain ⟨A2,c2,rfl,l2,C2⟩ := Kd.R_reads g2
 have hg := hb.1 g rfl
 have same : ∀ X : World,(∀ g o,fn F W W' g = some o → X.heap[g]? = some o) → ∀ k,W.heap.size ≤ k → k < W'.heap.size → X.heap[k]? = W'.heap[k]? := fun X hX k h1 h2 => by
  have := hX k (W'.heap[k]) (by unfold fn;rw [if_pos ⟨h1,h2⟩];exact Array.getElem?_eq_getElem h2)
  rw [this,Array.getElem?_eq_getElem h2]
 refine ⟨A2,c2,fun X hX => ?_,l2,fun X hX => ?_⟩
 ·intro hp
  refine ⟨_,rfl,fun i u hu => ?_⟩
  rw [add_add',addr_add]
  have h1 := hcc i u hu
  rw [Int.toNat_natCast,show k76.sz = 3 from rfl,addr_add] at h1
  rw [← h1]
  unfold World.cell?
  rw [same X hX g hg.2.1 hg.2.2.1]
 ·obtain ⟨A3,c3,e3,l3,C3⟩ := Kd.R_reads (Kd.R_move g2 (w1 := X) (fun k hk => same X hX k hk.1.2.1 hk.1.2.2.1))
  injection e3 with e3 e4 e5
  subst e3
  exact C3
theorem fr_stands' {W W' : World} {F : Nat → Option Obj} {ok : Nat → Prop} {l : List S76} {A : Option Addr} {cap : Nat} (h : Kd.R k76 76 W' W.heap.size ok (.slice A l.length cap) l) (j : Nat) (hj : j < l.length) :
  ∃ ad A2 c2,A = some ad ∧ Stands (fn F W W') (fun X => Rd X (some (ad.add (j * 3))) [.int .i64 (rd_T76 l j).f0,.int .u32 (rd_T76 l j).f1,.slice A2 (rd_T76 l j).f2.length c2]) ∧ (rd_T76 l j).f2.length ≤ c2 ∧
   Stands (fn F W W') (fun X => (Kd.int .u8).C X A2 (rd_T76 l j).f2.length (rd_T76 l j).f2) := by
 obtain ⟨A9,c9,e9,l9,C9⟩ := Kd.R_reads h
 injection e9 with e1 e2 e3
 subst e1
 obtain ⟨ad,rfl,-⟩ := C9.2.2 (by omega)
 obtain ⟨A2,c2,h1,h2,h3⟩ := fr_stands (F := F) h j hj
 exact ⟨ad,A2,c2,rfl,h1,h2,h3⟩
theorem pc_at {w : World} {A : Option Addr} {n : Nat} {ps : List S94} (h : Kd.C k94 w A n ps) (j : Nat) (hj : j < n) :
  ∃ ad,A = some ad ∧ w.cell? (ad.add (j * 4)) = some (.int .i64 (rd_T94 ps j).f0) := by
 obtain ⟨ad',e,x0,x1,x2,x3⟩ := at_T94 h (j : Int) (by omega) (by omega)
 rw [Int.toNat_natCast] at x0
 exact ⟨ad',e,x0⟩
theorem drop_blk (g lo hi : Nat) (h : lo ≠ hi) : dropA (some ⟨g,0,none⟩) lo hi 1 = some ⟨g,lo,none⟩ := by
 unfold dropA
 rw [if_neg (by omega)]
 simp [addr_add]
set_option maxRecDepth 100000 in
set_option maxHeartbeats 8000000 in
theorem add_no (e64 : Int) (body data : List Int) (A B : Option Addr) (cA cB : Nat) (at_ : Int) (w : World) (hok : (cutP at_ (data.length : Int)).2.2 = false) :
  Calls Tryd.prog 81 #[.int .u64 e64,.slice A body.length cA,.int .i64 at_,.slice B data.length cB] w fun e W => e = .returned (.tuple #[.slice none 0 0,.int .i64 0,.bool false]) ∧ Below w.heap.size w W := by
 have H := Own.start w
 have hcut : cut_Cut.f 7 at_ (data.length : Int) = some ((cutP at_ (data.length : Int)).1,(cutP at_ (data.length : Int)).2.1,(cutP at_ (data.length : Int)).2.2) := cut_eq 7 (by decide) at_ (data.length : Int)
 have FC := fun (W : World) => cut_Cut.calls 7 at_ (data.length : Int) (cutP at_ (data.length : Int)).1 (cutP at_ (data.length : Int)).2.1 (cutP at_ (data.length : Int)).2.2 W hcut
 rw [hok] at FC
 generalize (cutP at_ (data.length : Int)).2.1 = en at *
 generalize (cutP at_ (data.length : Int)).1 = ps at *
 generalize data.length = nd at *
 generalize body.length = nb at *
 clear hcut hok
 go_enter Tryd.func81,Tryd.ntmps81
 go_wp2_with (first
  |(go_at_call 44;(with_reducible refine (FC _).mono ?_);rintro e W ⟨v0,rfl,hR,hb⟩;obtain ⟨Ap,cp,rfl⟩ := Kd.R_slice hR;replace H := H.to hb;clear hb hR))
 go_ret3
 exact ⟨rfl,H.below⟩
set_option maxRecDepth 100000 in
set_option maxHeartbeats 8000000 in
theorem add_ok (e64 : Int) (body data : List Int) (A B : Option Addr) (cA cB : Nat) (at_ : Int) (w : World) (hok : (cutP at_ (data.length : Int)).2.2 = true)
  (hCb : (Kd.int .u8).C w A body.length body) (hcb : body.length ≤ cA) (hbb : Bytes body) (hCd : (Kd.int .u8).C w B data.length data) (hcd : data.length ≤ cB) (hbd : Bytes data) (hld : data.length < 140737488355328) (hH : Half w) :
  Calls Tryd.prog 81 #[.int .u64 e64,.slice A body.length cA,.int .i64 at_,.slice B data.length cB] w fun e W => ∃ g,e = .returned (.tuple #[.slice (some ⟨g,0,none⟩) 832 832,.int .i64 (cutP at_ (data.length : Int)).2.1,.bool true]) ∧ Own w F0 [.blk g 5 (nums .u8 (addB e64 body at_ data))] W := by
 have H := Own.start w
 have hcut : cut_Cut.f 7 at_ (data.length : Int) = some ((cutP at_ (data.length : Int)).1,(cutP at_ (data.length : Int)).2.1,(cutP at_ (data.length : Int)).2.2) := cut_eq 7 (by decide) at_ (data.length : Int)
 have FC := fun (W : World) => cut_Cut.calls 7 at_ (data.length : Int) (cutP at_ (data.length : Int)).1 (cutP at_ (data.length : Int)).2.1 (cutP at_ (data.length : Int)).2.2 W hcut
 have hfr : cut_Frags.f 20 (e64 % 4294967296) at_ data = some ((cutP at_ (data.length : Int)).1.map (fragP (e64 % 4294967296) data),(cutP at_ (data.length : Int)).2.2) := frags_eq 20 (by decide) (e64 % 4294967296) at_ data hld
 have FF := fun (W : World) (hC : (Kd.int .u8).C W B data.length data) => cut_Frags.calls 20 (e64 % 4294967296) at_ B cB data ((cutP at_ (data.length : Int)).1.map (fragP (e64 % 4294967296) data)) (cutP at_ (data.length : Int)).2.2 W hC hcd hfr
 rw [hok] at FC FF
 have hbase := base_copy body
 have hadd : addB e64 body at_ data = layA (e64 % 4294967296) data (cutP at_ (data.length : Int)).1 (base body) := rfl
 have hps := cutP_pcs at_ data
 have hpl := cutP_len at_ (data.length : Int)
 have he0 : 0 ≤ e64 % 4294967296 ∧ e64 % 4294967296 ≤ 4294967295 := by omega
 have hbl := base_len body
 generalize addB e64 body at_ data = out at *
 generalize hen : (cutP at_ (data.length : Int)).2.1 = en at *
 generalize (cutP at_ (data.length : Int)).1 = ps at *
 generalize base body = bs at *
 have hzl : (zs 832).length = 832 := by simp [zs]
 have hul : IntKind.u32.wrap e64 = e64 % 4294967296 := by rw [IntKind.wrap_u32]
 generalize e64 % 4294967296 = ep at *
 generalize hnd : data.length = nd at *
 generalize hnb : body.length = nb at *
 clear hcut hfr hok
 go_enter Tryd.func81,Tryd.ntmps81
 go_wp2_with (first
  |((with_reducible refine gate_dst (N := 31) rfl ?_);refine l_make1 rfl H 38 5 _ _ rfl 832 rfl rfl Tryd.underlying38 _ rfl _ inf5 (by decide) (by decide) ?_;clear H;intro g14 W H;rw [show List.replicate 832 (Value.int .u8 0) = nums .u8 (zs 832) by simp [nums,zs]] at H)
  |((with_reducible refine gate_dst (N := 34) rfl ?_);refine l_copyC rfl H _ _ _ _ rfl 5 Tryd.underlying38 size5 g14 0 832 832 rfl .head A nb cA rfl body (Kd.C_below hCb H.below) (by rw [hzl];omega) ?_;clear H;intro W H;rw [hbase] at H)
  |(go_at_call 44;(with_reducible refine (FC _).mono ?_);rintro e W ⟨v0,rfl,hR,hb⟩;obtain ⟨Ap,cp,rfl⟩ := Kd.R_slice hR;have HF := H.freezeNew hb;have hSt := Stands.R (F := F0) hR;clear hR hb H;obtain ⟨H,hF⟩ := HF;generalize fn F0 w W = F1 at H hF hSt)
  |(go_at_call 45;(with_reducible refine (FF _ (Kd.C_below hCd H.below)).mono ?_);rintro e W ⟨v1,rfl,hS,hb⟩;obtain ⟨Af,cf,rfl⟩ := Kd.R_slice (Kd.S_R hS);have HF2 := H.freezeNew hb;have hSt2 := fun j hj => fr_stands' (F := F1) (Kd.S_R hS) j hj;clear hS hb H;obtain ⟨H,hF2⟩ := HF2;generalize fn F1 _ W = F2 at H hF2 hSt2))
 have hSp := hSt.mono hF2
 clear hSt FC FF hCb hCd
 have hrf : ∀ j,j < ps.length → rd_T76 (ps.map (fragP ep data)) (j : Int) = fragP ep data (rd_T94 ps j) := fun j hj => by
  unfold rd_T76
  rw [List.getD_eq_getElem?_getD,Int.toNat_natCast,List.getElem?_map,List.getElem?_eq_getElem hj,rd_at ps j hj]
  rfl
 generalize hpn : ps.length = n at *
 go_loopg [45] n (fun gq v45 w' => ∃ j : Nat,v45 = .int .i64 (j : Int) ∧ j + gq = n ∧ Own w F2 [.blk g14 5 (nums .u8 (layA ep data (ps.take j) bs))] w')
 case atStart => exact ⟨0,rfl,by omega,H⟩
 case round =>
  clear H
  obtain ⟨j,rfl,hj,H⟩ := hrel
  by_cases cj : j < n
  ·obtain ⟨gk',rfl⟩ : ∃ q,gk = q + 1 := ⟨gk - 1,by omega⟩
   have q0 : decide (j < n) = true := decide_eq_true cj
   have q1 : ((0 : Int) ≤ (j : Int)) = True := eq_true (by omega)
   have q2 : ((j : Int) < (n : Int)) = True := eq_true (by omega)
   obtain ⟨adf,A2,c2,rfl,hRd,l2,C2⟩ := hSt2 j (by rw [List.length_map];omega)
   rw [hrf j cj] at hRd l2 C2
   have hpc := hps _ (List.getElem_mem (show j < ps.length by omega))
   rw [rd_at ps j (by omega)] at hpc
   have hstep := layA_take (ep := ep) (data := data) ps bs j (by omega)
   rw [rd_at ps j (by omega)] at hstep
   have hll := layA_len (ep := ep) (data := data) (ps.take j) bs (fun q hq => hps q (List.mem_of_mem_take hq)) hbl
   have hSq : ∀ (X : World) (L : List Res),Own w F2 L X → ∃ ad,Ap = some ad ∧ X.cell? (ad.add (j * 4)) = some (.int .i64 (rd_T94 ps j).f0) := fun X L HX => by
    obtain ⟨Aq,cq,eq,lq,Cq⟩ := Kd.R_reads (HX.use hSp)
    injection eq with eq1 eq2 eq3
    subst eq1
    rw [hpn] at Cq
    exact pc_at Cq j cj
   obtain ⟨adp,rfl,-⟩ := hSq _ _ H
   have hPC : ∀ (X : World) (L : List Res),Own w F2 L X → X.cell? (adp.add (j * 4)) = some (.int .i64 (rd_T94 ps j).f0) := fun X L HX => by
    obtain ⟨ad,e,h⟩ := hSq X L HX
    obtain rfl := Option.some.inj e
    exact h
   have hpl2 := pcE_len (ep := ep) hpc
   have hlay : layP ep data (layA ep data (ps.take j) bs) (rd_T94 ps j) = splice (layA ep data (ps.take j) bs) (rd_T94 ps j).f0.toNat (pcE ep data (rd_T94 ps j)) := rfl
   rw [hlay] at hstep
   generalize rd_T94 ps (j : Int) = p at *
   obtain ⟨pa,pk,pf,pt⟩ := p
   obtain ⟨h1,h2,h3,h4,h5,h6,h7,h8⟩ := hpc
   simp only at h1 h2 h3 h4 h5 h6 h7 h8 hPC hpl2
   obtain ⟨at0,rfl⟩ := Int.eq_ofNat_of_zero_le h1
   simp only [fragP] at hRd l2 C2
   have hdl : ((data.take pt.toNat).drop pf.toNat).length = (pt - pf).toNat := by rw [List.length_drop,List.length_take];omega
   have hpcE : pcE ep data ⟨(at0 : Int),pk,pf,pt⟩ = encL pk ep ((data.take pt.toNat).drop pf.toNat) := rfl
   rw [hpcE] at hstep hpl2
   have hrr : rightF pk ((data.take pt.toNat).drop pf.toNat).length = true := by
    unfold rightF
    rw [hdl,decide_eq_true h3.1,decide_eq_true h3.2,decide_eq_true (show (pt - pf).toNat ≤ 197 by omega)]
    rfl
   have hbs := bytes_drop (bytes_take hbd pt.toNat) pf.toNat
   have EN := fun W hC h => encode_ok pk ep ((data.take pt.toNat).drop pf.toNat) A2 c2 W hC l2 hbs he0 h hrr
   have hel := encL_len pk ep ((data.take pt.toNat).drop pf.toNat)
   have hfit : at0 + min (11 + ((data.take pt.toNat).drop pf.toNat).length) (832 - at0) ≤ 832 := by omega
   have hmn : min (11 + ((data.take pt.toNat).drop pf.toNat).length) (832 - at0) = 11 + ((data.take pt.toNat).drop pf.toNat).length := by rw [hdl];omega
   simp only [Int.toNat_natCast] at hstep
   have hat832 : at0 < 832 := by omega
   clear hlay hpcE hrr hbs hpl2 h1 h2 h3 h4 h5 h6 h7 h8 hSq
   generalize encL pk ep ((data.take pt.toNat).drop pf.toNat) = EL at *
   generalize hsl : (data.take pt.toNat).drop pf.toNat = sl at *
   generalize hsn : sl.length = sn at *
   generalize layA ep data (ps.take j) bs = cu at *
   have HST := Aside0.mk hstep
   have HDR := Aside0.mk (drop_blk g14 at0 832 (by omega))
   have HK := Aside0.mk hj
   clear hstep hj hdl hsl
   have hll' : at0 + min (11 + sn) (832 - at0) ≤ cu.length := by rw [hll];exact hfit
   have hEl : EL.length = min (11 + sn) (832 - at0) := by rw [hmn,hel]
   clear hSt2 hrf hps hfit hmn
   go_wp2_with (first
  |((with_reducible refine gate_dst (N := 18) rfl ?_);refine l_allocA rfl H 76 rfl _ zero76 ?_;clear H;intro g18 W H)
  |((with_reducible refine gate_store (t := 76) (p := 18) rfl ?_);refine l_storeW rfl H 76 _ _ rfl _ rfl _ rfl (by repeat constructor) _ size76 (by first|rfl|assumption|omega|(simp only [nums_length];omega)|simp [nums_length,zs] <;> omega) (by first|rfl|assumption|omega|(simp only [nums_length];omega)|simp [nums_length,zs] <;> omega) (by first|exact nums_one|assumption|exact on1_ rfl) ?_;clear H;intro W H)
  |((with_reducible refine gate_dst (N := 51) rfl ?_);refine l_loadA rfl H 76 _ rfl _ rfl (by repeat constructor) _ _ Tryd.underlying76 rfl size76 (by first|rfl|assumption|omega|(simp only [nums_length];omega)|simp [nums_length,zs] <;> omega) ?_)
   |((with_reducible refine gate_dst (N := 49) rfl ?_);refine l_run rfl (.agg #[.int .i64 pk,.int .u32 ep,.slice A2 sn c2]) (r_loadRd0 76 _ rfl rfl (H.use hRd) 3 _ Tryd.underlying76 rfl size76 (by decide) rfl) ?_)
   |(go_at_call 85;(with_reducible refine (EN _ (H.use C2) (hH.below H.below)).mono ?_);rintro e W ⟨A5,c5,rfl,l5,C5,hb⟩;replace H := H.to hb;clear hb)
   |((with_reducible refine gate_dst (N := 60) rfl ?_);refine l_run rfl (.int .i64 (at0 : Int)) (r_loadC 3 _ rfl rfl (hPC _ _ H) _ Tryd.underlying3 rfl) ?_)
   |((with_reducible refine gate_dst (N := 61) rfl ?_);refine l_runV rfl (.slice (some ⟨g14,at0,none⟩) (832 - at0) (832 - at0)) (x_slice_lo _ _ rfl rfl Tryd.underlying38 size5 at0 rfl (Nat.le_of_lt hat832) _) (by rw [HDR.out]) ?_)
   |((with_reducible refine gate_dst (N := 63) rfl ?_);refine l_copyC rfl H _ _ _ _ rfl 5 Tryd.underlying38 size5 g14 at0 (832 - at0) (832 - at0) rfl (.tail .head) A5 (11 + sn) c5 rfl EL (Kd.C_below C5 (Below.refl _ _)) hll' ?_;clear H;intro W H;rw [List.take_of_length_le (Nat.le_of_eq hEl),← HST.out] at H))
   go_roundg gk'
   case measure => have := HK.out;omega
   case rel =>
    have hk := HK.out
    exact ⟨j + 1,congrArg (Value.int .i64) (by omega),by omega,H.del .head⟩
  ·obtain rfl : j = n := by omega
   rw [← hpn,List.take_length] at H
   clear hj cj
   go_wp2
   go_ret3
   exact ⟨g14,rfl,by rw [hadd];exact (H.slack hF2).slack hF⟩
end Go.Proofs.YtaekpfhgdnfciaaDoor.O
end
