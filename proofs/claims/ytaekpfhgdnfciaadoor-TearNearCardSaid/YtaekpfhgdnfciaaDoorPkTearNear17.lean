/- Texts of mine put together: RAccepts, RRest, Rflat, RFeedO. -/
import Derived.Test.YtaekpfhgdnfciaaDoorPkTearNear14
import Derived.Test.YtaekpfhgdnfciaaDoorPkTearNear12
import Derived.Test.YtaekpfhgdnfciaaDoorPkTearNear6
set_option linter.unusedVariables false
set_option linter.unusedSimpArgs false
open Go.RowKit Go.Proofs.YtaekpfhgdnfciaaDoorW.PrintWords Go.Proofs.YtaekpfhgdnfciaaDoorW.PrintLast Go.Proofs.YtaekpfhgdnfciaaDoorW.PrintMore

section
namespace Go.Proofs.YtaekpfhgdnfciaaDoor.O
open Go.Proofs.YtaekpfhgdnfciaaDoor.F Go.Proofs.YtaekpfhgdnfciaaDoor.F.Nums Go.Proofs.YtaekpfhgdnfciaaDoor.Plain
attribute [local go_sem] Oper.semAt_some
theorem rleft_c (a : Int) (w : World) : Calls Tryd.prog 57 #[.int .i64 a] w fun e W => e = .returned (.int .i64 (lf (cl a))) ∧ Below w.heap.size w W := (strandlineref07_Left.calls 833 a _ w (SpanP.rleft_eq 833 (by decide) a)).mono fun e w' ⟨h1,h2⟩ => ⟨h1,by first|exact h2|exact h2.below⟩
theorem rbegin_c (a : Nat) (w : World) : Calls Tryd.prog 29 #[.int .i64 (a : Int)] w fun e W => e = .returned (.int .i64 ((bgN a : Nat) : Int)) ∧ Below w.heap.size w W := by
 rw [bgN_cast]
 exact (strandlineref07_Begin.calls 833 (a : Int) _ w (SpanP.rbegin_eq 833 (by decide) a)).mono fun e w' ⟨h1,h2⟩ => ⟨h1,by first|exact h2|exact h2.below⟩
theorem rcov_own (ok : List Bool) (hok : ok.length = 16) (f t : Int) (A : Option Addr) (c : Nat) (hc : 16 ≤ c) (w : World) (hr : Rd w A (bools ok)) :
  Calls Tryd.prog 55 #[.slice A 16 c,.int .i64 f,.int .i64 t] w fun e W => e = .returned (.bool (cov ok f t)) ∧ Below w.heap.size w W := by
 obtain ⟨a,b,h,hab,hb⟩ := touch_nat f t
 have := rcov_c ok f t a b h hab hb A c w hr (by omega) (by omega)
 unfold cov
 rw [h]
 simp only [Int.toNat_natCast]
 rwa [hok] at this
set_option maxRecDepth 100000 in
set_option maxHeartbeats 16000000 in
theorem raccepts_calls (e64 : Int) (he : 0 ≤ e64 ∧ e64 ≤ 18446744073709551615) (F : List Int) (ok : List Bool) (hF : F.length = 832) (hFb : Bytes F) (hok : ok.length = 16) (p : Nat) (hp : p + 11 ≤ 832 ∨ p = 832) (Ab Ao : Option Addr) (cb co : Nat) (hcb : 832 ≤ cb) (hco : 16 ≤ co) (w : World) (hRb : Rd w Ab (nums .u8 F)) (hRo : Rd w Ao (bools ok)) :
  Calls Tryd.prog 30 #[.int .u64 e64,.slice Ab 832 cb,.slice Ao 16 co,.int .i64 (p : Int)] w fun en W => Below w.heap.size w W ∧
   ((told (e64 % 4294967296) F ok p = none ∧ en = .returned (.tuple #[.agg #[.int .i64 0,.int .u32 0,.slice none 0 0],.int .i64 0])) ∨
    (∃ k d A' c',told (e64 % 4294967296) F ok p = some (k,d,11 + d.length) ∧ d.length ≤ 197 ∧ en = .returned (.tuple #[.agg #[.int .i64 k,.int .u32 (e64 % 4294967296),.slice A' d.length c'],.int .i64 ((11 + d.length : Nat) : Int)]) ∧ W.ownsRow w.heap.size 5 1 (.slice A' d.length c') d.length (nums .u8 d))) := by
 have H := Own.start w
 have C1 := fun W h => rcov_own ok hok (p : Int) ((p : Int) + 11) Ao co hco W h
 have w1 : IntKind.i64.wrap ((p : Int) + 11) = (p : Int) + 11 := by rw [IntKind.wrap_i64];omega
 have w2 : IntKind.u32.wrap (e64 % 4294967296) = e64 % 4294967296 := by rw [IntKind.wrap_u32];omega
 have hee : 0 ≤ e64 % 4294967296 ∧ e64 % 4294967296 ≤ 4294967295 := by omega
 have htm : e64.tmod 4294967296 = e64 % 4294967296 := Int.tmod_eq_emod_of_nonneg he.1
 obtain ⟨ep,hep⟩ : ∃ x,e64 % 4294967296 = x := ⟨_,rfl⟩
 rw [hep] at w2 hee htm ⊢
 by_cases h832 : p = 832
 ·have hn : told ep F ok p = none := by unfold told;rw [if_pos h832]
  subst h832
  clear w2 hee htm hep
  go_enter Tryd.func30,Tryd.ntmps30
  go_wp2_with (first
  |((with_reducible refine gate_dst (N := 8) rfl ?_);refine l_allocA rfl H 76 rfl _ zero76 ?_;clear H;intro g8 W H)
  |((with_reducible refine gate_store (t := 76) (p := 8) rfl ?_);refine l_storeW rfl H 76 _ _ rfl _ rfl _ rfl (by repeat constructor) _ size76 (by first|rfl|assumption|omega|(simp only [nums_length];omega)|simp [nums_length,zs] <;> omega) (by first|rfl|assumption|omega|(simp only [nums_length];omega)|simp [nums_length,zs] <;> omega) (by first|exact nums_one|assumption|exact on1_ rfl) ?_;clear H;intro W H))
  refine bodyPost_ret (results_ct (p := 8) (ty := 76) rfl _ _ g8 76 _ (0,0) _ rfl (H.heap .head) Tryd.underlying76 rfl size76) rfl ?_
  first|exact ⟨H.below,.inl ⟨hn,rfl⟩⟩|exact ⟨H.below,rfl⟩
 have hplt : p < 832 := by omega
 have q1 : decide ((p : Int) + 11 > 832) = false := decide_eq_false (by omega)
 have q1' : decide ((832 : Int) < (p : Int) + 11) = false := decide_eq_false (by omega)
 cases hc1 : cov ok (p : Int) ((p : Int) + 11) with
 |false =>
  have hn : told ep F ok p = none := by unfold told;rw [if_neg h832,if_pos hc1]
  rw [hc1] at C1
  clear w2 hee htm hep
  go_enter Tryd.func30,Tryd.ntmps30
  go_wp2_with (first
  |((with_reducible refine gate_dst (N := 8) rfl ?_);refine l_allocA rfl H 76 rfl _ zero76 ?_;clear H;intro g8 W H)
  |((with_reducible refine gate_store (t := 76) (p := 8) rfl ?_);refine l_storeW rfl H 76 _ _ rfl _ rfl _ rfl (by repeat constructor) _ size76 (by first|rfl|assumption|omega|(simp only [nums_length];omega)|simp [nums_length,zs] <;> omega) (by first|rfl|assumption|omega|(simp only [nums_length];omega)|simp [nums_length,zs] <;> omega) (by first|exact nums_one|assumption|exact on1_ rfl) ?_;clear H;intro W H)
  |(go_at_call 55;(with_reducible refine (C1 _ (hRo.below H.below)).mono ?_);rintro e W ⟨rfl,hb⟩;replace H := H.to hb;clear hb))
  refine bodyPost_ret (results_ct (p := 8) (ty := 76) rfl _ _ g8 76 _ (0,0) _ rfl (H.heap .head) Tryd.underlying76 rfl size76) rfl ?_
  first|exact ⟨H.below,.inl ⟨hn,rfl⟩⟩|exact ⟨H.below,rfl⟩
 |true =>
  rw [hc1] at C1
  have LC := fun W => rleft_c (p : Int) W
  have hlf : lf (p : Int) = 208 - (p : Int) % 208 := by unfold lf;rw [if_neg (by omega)]
  rw [cl_in (a := (p : Int)) (by omega) (by omega)] at LC
  obtain ⟨lfn,hlfn⟩ : ∃ m,(lf (p : Int)).toNat = m := ⟨_,rfl⟩
  obtain ⟨hi,hhi⟩ : ∃ m,p + lfn = m := ⟨_,rfl⟩
  have hlc : lf (p : Int) = (lfn : Int) := by omega
  rw [hlc] at LC
  have hhl : hi - p = lfn := by omega
  have hh8 : p + lfn ≤ 832 := by omega
  have hph : p ≤ hi := by omega
  have hhc : hi ≤ cb := by omega
  have w3 : IntKind.i64.wrap ((p : Int) + (lfn : Int)) = (hi : Int) := by rw [IntKind.wrap_i64];omega
  have hfl : (frAt F p).length = lfn := by unfold frAt;rw [hlfn,List.length_take,List.length_drop];omega
  have hfb : Bytes (frAt F p) := bytes_take (bytes_drop hFb _) _
  have DC0 := fun W (hr : Rd W Ab (nums .u8 F)) => rdecode_calls (frAt F p) ep (dropA Ab p cb 1) (cb - p) W (by rw [hfl];exact fr_C hr hF hcb hplt hlfn hh8) (by rw [hfl];omega) hfb
  rw [hfl] at DC0
  have htold : told ep F ok p = if decE (frAt F p) ep ≠ 0 then none else if cov ok p (p + (11 + (nOf (frAt F p) : Int))) = false then none else some (kOf (frAt F p),decD (frAt F p),11 + nOf (frAt F p)) := by unfold told;rw [if_neg h832,if_neg (by rw [hc1];decide)]
  by_cases hdE : decE (frAt F p) ep ≠ 0
  ·have DC : ∀ W,Rd W Ab (nums .u8 F) → Calls Tryd.prog 56 #[.slice (dropA Ab p cb 1) lfn (cb - p),.int .u32 ep] W fun e W' => e = .returned (.tuple #[.agg #[.int .i64 0,.int .u32 0,.slice none 0 0],.int .i64 0,.int .i64 (decE (frAt F p) ep)]) ∧ Below W.heap.size W W' := fun W hr => (DC0 W hr).mono (by
    rintro e W' ⟨hb,⟨-,rfl⟩|⟨h0,-⟩⟩
    ·exact ⟨rfl,hb⟩
    ·exact absurd h0 hdE)
   rw [if_pos hdE] at htold
   have q2 : (decE (frAt F p) ep == 0) = false := by simpa using hdE
   have q3 : (decE (frAt F p) ep != 0) = true := by simpa using hdE
   clear DC0 hfl hfb hdE hlf hlfn hhi hlc
   generalize decE (frAt F p) ep = dE at *
   go_enter Tryd.func30,Tryd.ntmps30
   go_wp2_with (first
  |((with_reducible refine gate_dst (N := 8) rfl ?_);refine l_allocA rfl H 76 rfl _ zero76 ?_;clear H;intro g8 W H)
  |((with_reducible refine gate_dst (N := 10) rfl ?_);refine l_allocA rfl H 76 rfl _ zero76 ?_;clear H;intro g10 W H)
  |((with_reducible refine gate_store (t := 76) (p := 10) rfl ?_);refine l_storeW rfl H 76 _ _ rfl _ rfl _ rfl (by repeat constructor) _ size76 (by first|rfl|assumption|omega|(simp only [nums_length];omega)|simp [nums_length,zs] <;> omega) (by first|rfl|assumption|omega|(simp only [nums_length];omega)|simp [nums_length,zs] <;> omega) (by first|exact nums_one|assumption|exact on1_ rfl) ?_;clear H;intro W H)
  |((with_reducible refine gate_store (t := 76) (p := 8) rfl ?_);refine l_storeW rfl H 76 _ _ rfl _ rfl _ rfl (by repeat constructor) _ size76 (by first|rfl|assumption|omega|(simp only [nums_length];omega)|simp [nums_length,zs] <;> omega) (by first|rfl|assumption|omega|(simp only [nums_length];omega)|simp [nums_length,zs] <;> omega) (by first|exact nums_one|assumption|exact on1_ rfl) ?_;clear H;intro W H)
   |(go_at_call 55;(with_reducible refine (C1 _ (hRo.below H.below)).mono ?_);rintro e W ⟨rfl,hb⟩;replace H := H.to hb;clear hb)
   |(go_at_call 57;(with_reducible refine (LC _).mono ?_);rintro e W ⟨rfl,hb⟩;replace H := H.to hb;clear hb)
   |((with_reducible refine gate_dst (N := 32) rfl ?_);refine l_run rfl (.slice (dropA Ab p cb 1) lfn (cb - p)) (by rw [← hhl];exact x_slice_lohi _ _ _ rfl rfl Tryd.underlying38 size5 p hi rfl rfl hph hhc _) ?_)
   |(go_at_call 56;(with_reducible refine (DC _ (hRb.below H.below)).mono ?_);rintro e W ⟨rfl,hb⟩;replace H := H.to hb;clear hb))
   replace H := Own.front (r := .blk g8 _ _) H (by repeat constructor)
   refine bodyPost_ret (results_ct (p := 8) (ty := 76) rfl _ _ g8 76 _ (0,0) _ rfl (H.heap .head) Tryd.underlying76 rfl size76) rfl ?_
   exact ⟨H.below,.inl ⟨htold,rfl⟩⟩
  ·have hdE0 : decE (frAt F p) ep = 0 := Decidable.of_not_not hdE
   have hdo := dec_ok hdE0
   rw [hfl] at hdo
   have hdl : (decD (frAt F p)).length = nOf (frAt F p) := by unfold decD;rw [List.length_drop,List.length_take];omega
   obtain ⟨m,hm⟩ : ∃ m,11 + nOf (frAt F p) = m := ⟨_,rfl⟩
   have hee2 : eOf (frAt F p) = ep := hdo.2.2.2.1
   have DC : ∀ W,Rd W Ab (nums .u8 F) → Calls Tryd.prog 56 #[.slice (dropA Ab p cb 1) lfn (cb - p),.int .u32 ep] W fun e W' => ∃ A9 c9,e = .returned (.tuple #[.agg #[.int .i64 (kOf (frAt F p)),.int .u32 ep,.slice A9 (nOf (frAt F p)) c9],.int .i64 (m : Int),.int .i64 0]) ∧ W'.ownsRow W.heap.size 5 1 (.slice A9 (nOf (frAt F p)) c9) (nOf (frAt F p)) (nums .u8 (decD (frAt F p))) ∧ Below W.heap.size W W' := fun W hr => (DC0 W hr).mono (by
    rintro e W' ⟨hb,⟨h0,-⟩|⟨-,A9,c9,rfl,-,-,ho⟩⟩
    ·exact absurd hdE0 h0
    ·exact ⟨A9,c9,by rw [← hm,hee2];rfl,ho,hb⟩)
   rw [if_neg hdE,show ((p : Int) + (11 + (nOf (frAt F p) : Int))) = (p : Int) + (m : Int) by omega,hm] at htold
   have hn197 := hdo.2.2.1
   have C2 := fun W h => rcov_own ok hok (p : Int) ((p : Int) + (m : Int)) Ao co hco W h
   have w4 : IntKind.i64.wrap ((p : Int) + (m : Int)) = ((p + m : Nat) : Int) := by rw [IntKind.wrap_i64];omega
   have hpm : p + m ≤ 832 := by omega
   rw [show (p : Int) + (m : Int) = ((p + m : Nat) : Int) by omega] at C2 htold
   have hm4 : m ≤ 1000 := by omega
   clear DC0 hfl hfb hdo hdE hdE0 hee2
   generalize kOf (frAt F p) = kk at *
   generalize decD (frAt F p) = d at *
   generalize nOf (frAt F p) = nn at *
   clear hlf hlfn hhi hlc
   obtain ⟨pm,hpmm⟩ : ∃ y,p + m = y := ⟨_,rfl⟩
   rw [hpmm] at w4 C2 htold hpm
   cases hc2 : cov ok (p : Int) (pm : Int) with
   |false =>
    rw [hc2] at C2
    rw [if_pos hc2] at htold
    go_enter Tryd.func30,Tryd.ntmps30
    go_wp2_with (first
  |((with_reducible refine gate_dst (N := 8) rfl ?_);refine l_allocA rfl H 76 rfl _ zero76 ?_;clear H;intro g8 W H)
  |((with_reducible refine gate_dst (N := 10) rfl ?_);refine l_allocA rfl H 76 rfl _ zero76 ?_;clear H;intro g10 W H)
  |((with_reducible refine gate_store (t := 76) (p := 10) rfl ?_);refine l_storeW rfl H 76 _ _ rfl _ rfl _ rfl (by repeat constructor) _ size76 (by first|rfl|assumption|omega|(simp only [nums_length];omega)|simp [nums_length,zs] <;> omega) (by first|rfl|assumption|omega|(simp only [nums_length];omega)|simp [nums_length,zs] <;> omega) (by first|exact nums_one|assumption|exact on1_ rfl) ?_;clear H;intro W H)
  |((with_reducible refine gate_store (t := 76) (p := 8) rfl ?_);refine l_storeW rfl H 76 _ _ rfl _ rfl _ rfl (by repeat constructor) _ size76 (by first|rfl|assumption|omega|(simp only [nums_length];omega)|simp [nums_length,zs] <;> omega) (by first|rfl|assumption|omega|(simp only [nums_length];omega)|simp [nums_length,zs] <;> omega) (by first|exact nums_one|assumption|exact on1_ rfl) ?_;clear H;intro W H)
    |(go_at_call 55;(with_reducible refine (C1 _ (hRo.below H.below)).mono ?_);rintro e W ⟨rfl,hb⟩;replace H := H.to hb;clear hb)
    |(go_at_call 55;(with_reducible refine (C2 _ (hRo.below H.below)).mono ?_);rintro e W ⟨rfl,hb⟩;replace H := H.to hb;clear hb)
    |(go_at_call 57;(with_reducible refine (LC _).mono ?_);rintro e W ⟨rfl,hb⟩;replace H := H.to hb;clear hb)
    |((with_reducible refine gate_dst (N := 32) rfl ?_);refine l_run rfl (.slice (dropA Ab p cb 1) lfn (cb - p)) (by rw [← hhl];exact x_slice_lohi _ _ _ rfl rfl Tryd.underlying38 size5 p hi rfl rfl hph hhc _) ?_)
    |(go_at_call 56;(with_reducible refine (DC _ (hRb.below H.below)).mono ?_);rintro e W ⟨A9,c9,rfl,ho,hb⟩;replace H := H.addRow hb ho;clear hb ho))
    replace H := Own.front (r := .blk g8 _ _) H (by repeat constructor)
    refine bodyPost_ret (results_ct (p := 8) (ty := 76) rfl _ _ g8 76 _ (0,0) _ rfl (H.heap .head) Tryd.underlying76 rfl size76) rfl ?_
    exact ⟨H.below,.inl ⟨htold,rfl⟩⟩
   |true =>
    rw [hc2] at C2
    rw [if_neg (by rw [hc2];decide)] at htold
    go_enter Tryd.func30,Tryd.ntmps30
    go_wp2_with (first
  |((with_reducible refine gate_dst (N := 8) rfl ?_);refine l_allocA rfl H 76 rfl _ zero76 ?_;clear H;intro g8 W H)
  |((with_reducible refine gate_dst (N := 10) rfl ?_);refine l_allocA rfl H 76 rfl _ zero76 ?_;clear H;intro g10 W H)
  |((with_reducible refine gate_store (t := 76) (p := 10) rfl ?_);refine l_storeW rfl H 76 _ _ rfl _ rfl _ rfl (by repeat constructor) _ size76 (by first|rfl|assumption|omega|(simp only [nums_length];omega)|simp [nums_length,zs] <;> omega) (by first|rfl|assumption|omega|(simp only [nums_length];omega)|simp [nums_length,zs] <;> omega) (by first|exact nums_one|assumption|exact on1_ rfl) ?_;clear H;intro W H)
  |((with_reducible refine gate_dst (N := 52) rfl ?_);refine l_loadA rfl H 76 _ rfl _ rfl (by repeat constructor) _ _ Tryd.underlying76 rfl size76 (by first|rfl|assumption|omega|(simp only [nums_length];omega)|simp [nums_length,zs] <;> omega) ?_)
  |((with_reducible refine gate_store (t := 76) (p := 8) rfl ?_);refine l_storeW rfl H 76 _ _ rfl _ rfl _ rfl (by repeat constructor) _ size76 (by first|rfl|assumption|omega|(simp only [nums_length];omega)|simp [nums_length,zs] <;> omega) (by first|rfl|assumption|omega|(simp only [nums_length];omega)|simp [nums_length,zs] <;> omega) (by first|exact nums_one|assumption|exact on1_ rfl) ?_;clear H;intro W H)
    |(go_at_call 55;(with_reducible refine (C1 _ (hRo.below H.below)).mono ?_);rintro e W ⟨rfl,hb⟩;replace H := H.to hb;clear hb)
    |(go_at_call 55;(with_reducible refine (C2 _ (hRo.below H.below)).mono ?_);rintro e W ⟨rfl,hb⟩;replace H := H.to hb;clear hb)
    |(go_at_call 57;(with_reducible refine (LC _).mono ?_);rintro e W ⟨rfl,hb⟩;replace H := H.to hb;clear hb)
    |((with_reducible refine gate_dst (N := 32) rfl ?_);refine l_run rfl (.slice (dropA Ab p cb 1) lfn (cb - p)) (by rw [← hhl];exact x_slice_lohi _ _ _ rfl rfl Tryd.underlying38 size5 p hi rfl rfl hph hhc _) ?_)
    |(go_at_call 56;(with_reducible refine (DC _ (hRb.below H.below)).mono ?_);rintro e W ⟨A9,c9,rfl,ho,hb⟩;replace H := H.addRow hb ho;clear hb ho))
    replace H := Own.front (r := .blk g8 _ _) H (by repeat constructor)
    refine bodyPost_ret (results_ct (p := 8) (ty := 76) rfl _ _ g8 76 _ (0,0) _ rfl (H.heap .head) Tryd.underlying76 rfl size76) rfl ?_
    exact ⟨H.below,.inr ⟨kk,d,A9,c9,by rw [hdl,hm];exact htold,by omega,by rw [hdl,hm];rfl,by rw [hdl];exact H.at_ (r := .row (.slice A9 nn c9) _ _ _ _) (by repeat constructor)⟩⟩
end Go.Proofs.YtaekpfhgdnfciaaDoor.O
end

section
namespace Go.Proofs.YtaekpfhgdnfciaaDoor.O
open Go.Proofs.YtaekpfhgdnfciaaDoor.F Go.Proofs.YtaekpfhgdnfciaaDoor.F.Nums Go.Proofs.YtaekpfhgdnfciaaDoor.Plain
theorem rnear_c (a : Int) (w : World) : Calls Tryd.prog 34 #[.int .i64 a] w fun e W => e = .returned (.int .i64 (cl a)) ∧ Below w.heap.size w W := (strandlineref07_Near.calls a _ w (SpanP.rnear_eq a)).mono fun e w' ⟨h1,h2⟩ => ⟨h1,by first|exact h2|exact h2.below⟩
theorem r_load64 {P : Program} {o : Oper} {a : Act} {W : World} {ad : Addr} {cs : List Value} (ty : TypeId) (x : Operand) (ho : o.op = .load ty x) (off k : Nat) (hx : a.eval x = .pointer (some ((ad.add off).add k))) (hR : Rd W (some ad) cs)
  (d : TypeDesc) (hu : P.underlying ty = some d) (hd : d.isRow = false) (v : Value) (hv : cs[off + k]? = some v) : (execOp a.eval o).run P W = .ok (.value v) W := r_loadRd1 ty x ho (off + k) (by rw [hx,Addr.add_add]) hR d hu hd v hv
set_option maxRecDepth 100000 in
set_option maxHeartbeats 8000000 in
theorem rrest_calls (fl : List Int) (n : Nat) (hf : fl.length = 64 * n) (hb : Bytes fl) (e : Int) (A : Option Addr) (c : Nat) (w : World) (hr : Rd w A (nums .u8 fl)) (hc : n ≤ c) (hn : n ≤ 100) :
  Calls Tryd.prog 14 #[.slice A n c,.int .i64 e] w fun en W => en = .returned (.bool (Img.restB fl n (cl e))) ∧ Below w.heap.size w W := by
 have H := Own.start w
 have NC := fun W => rnear_c e W
 have h0 := cl_lo e
 have h8 := cl_hi e
 rw [Img.restB_eq]
 obtain ⟨ce,hce⟩ : ∃ m : Nat,cl e = (m : Int) := ⟨(cl e).toNat,by omega⟩
 rw [hce] at NC ⊢
 have hce8 : ce ≤ 832 := by omega
 clear hce h0 h8
 obtain ⟨m,hm⟩ : ∃ m,min n 16 = m := ⟨_,rfl⟩
 rw [hm]
 go_enter Tryd.func14,Tryd.ntmps14
 go_wp2_with (first
  |(go_at_call 34;(with_reducible refine (NC _).mono ?_);rintro en W ⟨rfl,hb'⟩;replace H := H.to hb';clear hb'))
 go_loopg [5] m (fun gq v5 w' => ∃ k : Nat,v5 = .int .i64 (k : Int) ∧ k + gq = m ∧ Img.restU fl ce k = true ∧ Own w F0 [] w')
 case atStart => exact ⟨0,rfl,by omega,rfl,H⟩
 case round =>
  clear H
  obtain ⟨i,rfl,hi,hU,H⟩ := hrel
  by_cases ck : i < m
  ·obtain ⟨gk',rfl⟩ : ∃ q,gk = q + 1 := ⟨gk - 1,by omega⟩
   have q1 : decide (i < n) = true := decide_eq_true (by omega)
   have q2 : decide ((i : Int) < 16) = true := decide_eq_true (by omega)
   obtain ⟨ad,rfl⟩ := hr.some_ (by rw [nums_length];omega)
   replace hr := And.intro hr (show i * 64 + 64 ≤ (nums .u8 fl).length by rw [nums_length,hf];omega)
   have hsucc := Img.restU_succ fl ce i
   have hfalse : Img.secRest (secAt fl i) i ce = false → Img.restU fl ce m = false := fun h => Img.restU_false fl ce i m ck h
   have hz : ∀ k,k < 64 → (nums .u8 fl)[i * 64 + k]? = some (.int .u8 ((secAt fl i).getD k 0)) := fun k hk => by
    have := nums_at (xs := fl) (k := .u8) (i * 64 + k) (by rw [hf];omega)
    rw [this]
    have e2 : (secAt fl i).getD k 0 = fl.getD (i * 64 + k) 0 := by
     unfold secAt
     rw [List.getD_eq_getElem?_getD,List.getD_eq_getElem?_getD,List.getElem?_take_of_lt hk,List.getElem?_drop,Nat.mul_comm]
    rw [e2]
   have hiff := Img.secRest_iff (secAt fl i) i ce
   have p0 : ((0 : Int) ≤ (i : Int)) = True := eq_true (by omega)
   have p1 : ((i : Int) < (n : Int)) = True := eq_true (by omega)
   generalize secAt fl i = x at *
   go_wp2
   go_loopg [6] 64 (fun gq v6 w' => ∃ k : Nat,v6 = .int .i64 (k : Int) ∧ k + gq = 64 ∧ (∀ j : Nat,j < k → (ce ≤ 52 * (i : Int) ∨ (12 ≤ j ∧ ce ≤ 52 * (i : Int) + (j : Int) - 12)) → x.getD j 0 = 0) ∧ Own w F0 [] w')
   case atStart => exact ⟨0,rfl,by omega,fun j hj => by omega,H⟩
   case round =>
    clear H
    obtain ⟨k,rfl,hk,hV,H⟩ := hrel
    by_cases ck2 : k < 64
    ·obtain ⟨gk2,rfl⟩ : ∃ q,gk = q + 1 := ⟨gk - 1,by omega⟩
     have r1 : decide ((k : Int) < 64) = true := decide_eq_true (by omega)
     have p2 : ((0 : Int) ≤ (k : Int)) = True := eq_true (by omega)
     have p3 : ((k : Int) < 64) = True := eq_true (by omega)
     have hv := hz k ck2
     by_cases hx0 : x.getD k 0 = 0
     ·have r2 : (x.getD k 0 != 0) = false := by simpa using hx0
      go_wp2_with (first
       |((with_reducible refine gate_dst (N := 28) rfl ?_);refine l_run rfl _ (r_load64 5 _ rfl (i * 64) k rfl (hr.1.below H.below) _ Tryd.underlying5 rfl _ hv) ?_))
      go_roundg gk2
      case measure => omega
      case rel => exact ⟨k + 1,by go_num,by omega,fun j hj hcond => by
       rcases (show j < k ∨ j = k by omega) with h|rfl
       ·exact hV j h hcond
       ·exact hx0,H⟩
     ·have r2 : (x.getD k 0 != 0) = true := by simpa using hx0
      obtain ⟨lo,hlo⟩ : ∃ m,52 * i = m := ⟨_,rfl⟩
      have w1 : IntKind.i64.wrap (52 * (i : Int)) = (lo : Int) := by rw [IntKind.wrap_i64];omega
      by_cases h1 : ce ≤ lo
      ·have r3 : decide (ce ≤ lo) = true := decide_eq_true h1
       go_wp2_with (first
        |((with_reducible refine gate_dst (N := 28) rfl ?_);refine l_run rfl _ (r_load64 5 _ rfl (i * 64) k rfl (hr.1.below H.below) _ Tryd.underlying5 rfl _ hv) ?_))
       go_ret
       exact ⟨by rw [hfalse (by
        cases h : Img.secRest x i ce with
        |false => rfl
        |true => exact absurd (hiff.1 h k ck2 (.inl (by omega))) hx0)];rfl,H.below⟩
      ·have r3 : decide (ce ≤ lo) = false := decide_eq_false h1
       by_cases h2 : 12 ≤ k
       ·have r4 : decide ((12 : Int) ≤ (k : Int)) = true := decide_eq_true (by omega)
        obtain ⟨s1,hs1⟩ : ∃ m,lo + k = m := ⟨_,rfl⟩
        have w2 : IntKind.i64.wrap ((lo : Int) + (k : Int)) = (s1 : Int) := by rw [IntKind.wrap_i64];omega
        obtain ⟨s2,hs2⟩ : ∃ m,s1 - 12 = m := ⟨_,rfl⟩
        have w3 : IntKind.i64.wrap ((s1 : Int) - 12) = (s2 : Int) := by rw [IntKind.wrap_i64];omega
        by_cases h3 : ce ≤ s2
        ·have r5 : decide (ce ≤ s2) = true := decide_eq_true h3
         go_wp2_with (first
          |((with_reducible refine gate_dst (N := 28) rfl ?_);refine l_run rfl _ (r_load64 5 _ rfl (i * 64) k rfl (hr.1.below H.below) _ Tryd.underlying5 rfl _ hv) ?_))
         go_ret
         exact ⟨by rw [hfalse (by
          cases h : Img.secRest x i ce with
          |false => rfl
          |true => exact absurd (hiff.1 h k ck2 (.inr ⟨h2,by omega⟩)) hx0)];rfl,H.below⟩
        ·have r5 : decide (ce ≤ s2) = false := decide_eq_false h3
         go_wp2_with (first
          |((with_reducible refine gate_dst (N := 28) rfl ?_);refine l_run rfl _ (r_load64 5 _ rfl (i * 64) k rfl (hr.1.below H.below) _ Tryd.underlying5 rfl _ hv) ?_))
         go_roundg gk2
         case measure => omega
         case rel => exact ⟨k + 1,by go_num,by omega,fun j hj hcond => by
          rcases (show j < k ∨ j = k by omega) with h|rfl
          ·exact hV j h hcond
          ·exfalso;omega,H⟩
       ·have r4 : decide ((12 : Int) ≤ (k : Int)) = false := decide_eq_false (by omega)
        go_wp2_with (first
         |((with_reducible refine gate_dst (N := 28) rfl ?_);refine l_run rfl _ (r_load64 5 _ rfl (i * 64) k rfl (hr.1.below H.below) _ Tryd.underlying5 rfl _ hv) ?_))
        go_roundg gk2
        case measure => omega
        case rel => exact ⟨k + 1,by go_num,by omega,fun j hj hcond => by
         rcases (show j < k ∨ j = k by omega) with h|rfl
         ·exact hV j h hcond
         ·exfalso;omega,H⟩
    ·have r1 : decide ((k : Int) < 64) = false := decide_eq_false (by omega)
     obtain rfl : k = 64 := by omega
     have hs : Img.secRest x i ce = true := hiff.2 (fun j hj h => hV j hj h)
     rw [hs,hU] at hsucc
     go_wp2
     go_roundg gk'
     case measure => omega
     case rel => exact ⟨i + 1,by go_num,by omega,hsucc,H⟩
  ·obtain rfl : i = m := by omega
   rcases Nat.lt_or_ge i n with h|h
   ·have q1 : decide (i < n) = true := decide_eq_true h
    have q2 : decide ((i : Int) < 16) = false := decide_eq_false (by omega)
    go_wp2
    go_ret
    exact ⟨by rw [hU];rfl,H.below⟩
   ·have q1 : decide (i < n) = false := decide_eq_false (by omega)
    go_wp2
    go_ret
    exact ⟨by rw [hU];rfl,H.below⟩
set_option maxRecDepth 100000 in
set_option maxHeartbeats 4000000 in
theorem rflat_calls (e : Int) (h0 : 0 ≤ e) (h1 : e ≤ 18446744073709551615) (fl : List Int) (n : Nat) (hf : fl.length = 64 * n) (hb : Bytes fl) (A : Option Addr) (c : Nat) (w : World) (hr : Rd w A (nums .u8 fl)) (hc : n ≤ c) (hn : n ≤ 9223372036854775807) :
  Calls Tryd.prog 28 #[.int .u64 e,.slice A n c] w fun en w' => ∃ v1 v2,en = .returned (.tuple #[v1,v2]) ∧ Own w F0 [.row v1 5 1 832 (nums .u8 (bodyF e fl n 16)),.row v2 4 1 16 (bools (oksF e fl n 16))] w' := by
 have H0 := (show Own w F0 [.row (.slice none 0 0) 4 1 0 []] w from (Own.start w).cons (Below.refl _ _) (own_nil _ _ _ _) (fun k hk => by cases hk))
 have H := (show Own w F0 [.row (.slice none 0 0) 5 1 0 [],.row (.slice none 0 0) 4 1 0 []] w from H0.cons (Below.refl _ _) (own_nil _ _ _ _) (fun k hk => by cases hk))
 clear H0
 go_enter Tryd.func28,Tryd.ntmps28
 go_wp2
 go_loopg [6,7,8] 16 (fun gq v6 v7 v8 w' => ∃ k : Nat,v8 = .int .i64 (k : Int) ∧ k + gq = 16 ∧ Own w F0 [.row v6 5 1 (52 * k) (nums .u8 (bodyF e fl n k)),.row v7 4 1 k (bools (oksF e fl n k))] w')
 case atStart => exact ⟨0,rfl,rfl,H⟩
 case round =>
  clear H
  obtain ⟨k,rfl,hk,H⟩ := hrel
  by_cases ck : k < 16
  ·obtain ⟨gk',rfl⟩ : ∃ q,gk = q + 1 := ⟨gk - 1,by omega⟩
   have q1 : decide ((k : Int) < 16) = true := decide_eq_true (by omega)
   have hS : bodyF e fl n (k + 1) = bodyF e fl n k ++ roomAt e fl n k := rfl
   have hO : oksF e fl n (k + 1) = oksF e fl n k ++ [okAt e fl n k] := rfl
   have hlB : (bodyF e fl n k).length = 52 * k := bodyF_len hf k
   have hlO : (oksF e fl n k).length = k := oksF_len k
   have hp2 : 52 * (k + 1) = 52 * k + 52 := by omega
   have hbd : (k + 1) * 1 ≤ 140737488355328 := by omega
   unfold roomAt at hS
   obtain ⟨B',hB'⟩ : ∃ x,bodyF e fl n (k + 1) = x := ⟨_,rfl⟩
   obtain ⟨O',hO'⟩ : ∃ x,oksF e fl n (k + 1) = x := ⟨_,rfl⟩
   rw [hB'] at hS
   rw [hO'] at hO
   have HB' := Lib.hid hB'
   have HO' := Lib.hid hO'
   clear hB' hO'
   generalize bodyF e fl n k = B at *
   generalize oksF e fl n k = O at *
   obtain ⟨p,hp⟩ : ∃ p,52 * k = p := ⟨_,rfl⟩
   rw [hp] at H hlB hp2
   have hpb : (p + 52) * 1 ≤ 140737488355328 := by omega
   by_cases cn : k < n
   ·have q2 : decide (k < n) = true := decide_eq_true cn
    have q3 : ((0 : Int) ≤ (k : Int)) = True := eq_true (by omega)
    have q4 : ((k : Int) < (n : Int)) = True := eq_true (by omega)
    obtain ⟨ad,rfl⟩ := hr.some_ (by rw [nums_length];omega)
    have hsl := secAt_len hf cn
    have hbs : Bytes (secAt fl k) := bytes_take (bytes_drop hb _) _
    have hnu : ((nums .u8 fl).drop (k * 64)).take 64 = nums .u8 (secAt fl k) := by rw [nums_drop,nums_take,Nat.mul_comm];rfl
    have O1 := fun W => ropen_c (secAt fl k) hsl hbs e (k : Int) h0 h1 W
    have hok : okAt e fl n k = openF (secAt fl k) e (k : Int) := by unfold okAt;rw [decide_eq_true cn,Bool.true_and]
    rw [hok] at hS hO
    have hdl : ((secAt fl k).drop 12).length = 52 := by rw [List.length_drop,hsl]
    unfold openL at O1
    cases hq : openF (secAt fl k) e (k : Int) with
    |true =>
     simp only [hq,if_true] at O1 hS hO
     generalize (secAt fl k).drop 12 = rm at *
     generalize secAt fl k = sec at *
     have HD := Lib.hid hdl
     have HS := Lib.hid hS
     have HO := Lib.hid hO
     have HP := Lib.hid hp
     have HP2 := Lib.hid hp2
     clear hS hO hp hp2 hdl hq hok hlB hlO hbs
     go_wp2_with (first
  |((with_reducible refine gate_dst (N := 17) rfl ?_);refine l_make1 rfl H 38 5 _ _ rfl _ rfl rfl Tryd.underlying38 _ rfl _ inf5 (by decide) (by decide) ?_;clear H;intro g17 W H)
  |((with_reducible refine gate_dst (N := 40) rfl ?_);refine l_append1 rfl H _ _ 63 4 rfl Tryd.underlying63 _ _ _ inf4 rfl (by decide) (by decide) _ _ _ rfl (by repeat constructor) _ _ rfl (by repeat constructor) (by first|rfl|assumption|omega|(simp only [nums_length];omega)|simp [nums_length,zs] <;> omega) (by first|exact nums_one|assumption|exact on1_ rfl) (by omega) ?_;clear H;intro v40 W H)
  |((with_reducible refine gate_dst (N := 26) rfl ?_);refine l_loadRdS rfl 51 _ rfl (k * 64) rfl (hr.below H.below) 64 _ Tryd.underlying51 rfl size51 (by decide) _ hnu (by rw [nums_length];exact hsl) ?_)
  |(go_at_call 53;(with_reducible refine (O1 _).mono ?_);rintro e W ⟨v,rfl,hR,hb'⟩;replace H := H.addR hb' hR;clear hb' hR;rw [HD.out] at H;obtain ⟨Av,cv,rfl⟩ := H.row_slice .head)
  |((with_reducible refine gate_dst (N := 36) rfl ?_);refine l_append rfl H _ _ 38 5 rfl Tryd.underlying38 _ _ _ inf5 rfl (by decide) (by decide) _ _ _ rfl (.tail (.tail .head)) Av 52 cv (nums .u8 rm) rfl (by rw [nums_length,HD.out]) (fun h => (H.rd .head).1 (by rw [nums_length,HD.out];exact h)) nums_one hpb ?_;clear H;intro v36 W H)
  |((with_reducible refine gate_dst (N := 39) rfl ?_);refine l_build11 rfl H 63 4 _ rfl Tryd.underlying63 (.bool true) rfl _ zs4 rfl rfl ?_;clear H;intro g39 W H))
     rw [nums_app,← HS.out,← HP2.out,show ([Value.bool true] : List Value) = bools [true] from rfl,bools_app,← HO.out,← HB'.out,← HO'.out] at H
     go_roundg gk'
     case measure => omega
     case rel => exact ⟨k + 1,by go_num,by omega,((H.del .head).del .head).del .head⟩
    |false =>
     simp only [hq,Bool.false_eq_true,if_false] at O1 hS hO
     clear hdl hok
     generalize secAt fl k = sec at *
     have HS := Lib.hid hS
     have HO := Lib.hid hO
     have HP := Lib.hid hp
     have HP2 := Lib.hid hp2
     clear hS hO hp hp2 hq hlB hlO hbs
     go_wp2_with (first
  |((with_reducible refine gate_dst (N := 17) rfl ?_);refine l_make1 rfl H 38 5 _ _ rfl _ rfl rfl Tryd.underlying38 _ rfl _ inf5 (by decide) (by decide) ?_;clear H;intro g17 W H)
  |((with_reducible refine gate_dst (N := 40) rfl ?_);refine l_append1 rfl H _ _ 63 4 rfl Tryd.underlying63 _ _ _ inf4 rfl (by decide) (by decide) _ _ _ rfl (by repeat constructor) _ _ rfl (by repeat constructor) (by first|rfl|assumption|omega|(simp only [nums_length];omega)|simp [nums_length,zs] <;> omega) (by first|exact nums_one|assumption|exact on1_ rfl) (by omega) ?_;clear H;intro v40 W H)
  |((with_reducible refine gate_dst (N := 26) rfl ?_);refine l_loadRdS rfl 51 _ rfl (k * 64) rfl (hr.below H.below) 64 _ Tryd.underlying51 rfl size51 (by decide) _ hnu (by rw [nums_length];exact hsl) ?_)
  |(go_at_call 53;(with_reducible refine (O1 _).mono ?_);rintro e W ⟨v,rfl,hR,hb'⟩;replace H := H.addR hb' hR;clear hb' hR;obtain ⟨Av,cv,rfl⟩ := H.row_slice .head)
  |((with_reducible refine gate_dst (N := 36) rfl ?_);refine l_append rfl H _ _ 38 5 rfl Tryd.underlying38 _ _ _ inf5 rfl (by decide) (by decide) _ _ _ rfl (.tail (.tail .head)) (some ⟨g17,0,none⟩) 52 52 (nums .u8 (zs 52)) rfl rfl (fun _ => H.rdB (.tail .head) 0 (by decide)) nums_one hpb ?_;clear H;intro v36 W H)
  |((with_reducible refine gate_dst (N := 39) rfl ?_);refine l_build11 rfl H 63 4 _ rfl Tryd.underlying63 (.bool false) rfl _ zs4 rfl rfl ?_;clear H;intro g39 W H))
     rw [nums_app,← HS.out,← HP2.out,show ([Value.bool false] : List Value) = bools [false] from rfl,bools_app,← HO.out,← HB'.out,← HO'.out] at H
     go_roundg gk'
     case measure => omega
     case rel => exact ⟨k + 1,by go_num,by omega,((H.del .head).del .head).del .head⟩
   ·have q2 : decide (k < n) = false := decide_eq_false cn
    rw [okAt_out (by omega)] at hS hO
    simp only [Bool.false_eq_true,if_false] at hS hO
    have HS := Lib.hid hS
    have HO := Lib.hid hO
    have HP := Lib.hid hp
    have HP2 := Lib.hid hp2
    clear hS hO hp hp2 hlB hlO
    go_wp2_with (first
  |((with_reducible refine gate_dst (N := 17) rfl ?_);refine l_make1 rfl H 38 5 _ _ rfl _ rfl rfl Tryd.underlying38 _ rfl _ inf5 (by decide) (by decide) ?_;clear H;intro g17 W H)
  |((with_reducible refine gate_dst (N := 40) rfl ?_);refine l_append1 rfl H _ _ 63 4 rfl Tryd.underlying63 _ _ _ inf4 rfl (by decide) (by decide) _ _ _ rfl (by repeat constructor) _ _ rfl (by repeat constructor) (by first|rfl|assumption|omega|(simp only [nums_length];omega)|simp [nums_length,zs] <;> omega) (by first|exact nums_one|assumption|exact on1_ rfl) (by omega) ?_;clear H;intro v40 W H)
  |((with_reducible refine gate_dst (N := 36) rfl ?_);refine l_append rfl H _ _ 38 5 rfl Tryd.underlying38 _ _ _ inf5 rfl (by decide) (by decide) _ _ _ rfl (.tail .head) (some ⟨g17,0,none⟩) 52 52 (nums .u8 (zs 52)) rfl rfl (fun _ => H.rdB .head 0 (by decide)) nums_one hpb ?_;clear H;intro v36 W H)
  |((with_reducible refine gate_dst (N := 39) rfl ?_);refine l_build11 rfl H 63 4 _ rfl Tryd.underlying63 (.bool false) rfl _ zs4 rfl rfl ?_;clear H;intro g39 W H))
    rw [nums_app,← HS.out,← HP2.out,show ([Value.bool false] : List Value) = bools [false] from rfl,bools_app,← HO.out,← HB'.out,← HO'.out] at H
    go_roundg gk'
    case measure => omega
    case rel => exact ⟨k + 1,by go_num,by omega,(H.del .head).del .head⟩
  ·have q1 : decide ((k : Int) < 16) = false := decide_eq_false (by omega)
   obtain rfl : k = 16 := by omega
   go_wp2
   go_ret2
   exact ⟨_,_,rfl,H⟩
end Go.Proofs.YtaekpfhgdnfciaaDoor.O
end

section
namespace Go.Proofs.YtaekpfhgdnfciaaDoor.O
open Go.Proofs.YtaekpfhgdnfciaaDoor.F Go.Proofs.YtaekpfhgdnfciaaDoor.F.Nums Go.Proofs.YtaekpfhgdnfciaaDoor.Plain
attribute [local go_sem] Oper.semAt_some
theorem results_cttt {fn : Func} {p u v x : Tmp} {ty : TypeId} (h : fn.results = #[.cell p ty,.tmp u,.tmp v,.tmp x]) (tmps : Array Value) (P : Program) (w : World) (g : Nat) (t : TypeId) (cs : Array Value) (fr : Nat × Nat) (d : TypeDesc)
  (hp : tmps.getD p undef = .pointer (some ⟨g,0,none⟩)) (hg : w.heap[g]? = some (.cells cs t fr))
  (hd : (match d with|.struct _|.array _ _ => true|_ => false) = true) (hu : P.underlying ty = some d) (hi : (P.info? ty).map (·.size) = some cs.size) :
  (results fn tmps).run P w = .ok (.tuple #[.agg cs,tmps.getD u undef,tmps.getD v undef,tmps.getD x undef]) w := by
 have hp' : tmps[p]?.getD undef = .pointer (some ⟨g,0,none⟩) := by simpa using hp
 have hl := run_loadVar_row w g t ty cs fr d hg hu (by revert hu hd;cases d <;> intro hd hu <;> first|rfl|cases hd) hi
 simp [results,h,hp',asAddr,hl]
def RFeedQ (r : (List Int × Bool × Int) × (Bool × List Int)) (W : World) (e : Ending) (W' : World) : Prop :=
 ∃ rv v' x',e = .returned (.tuple #[.agg #[.bool r.2.1,v'],rv,.bool r.1.2.1,.int .i64 r.1.2.2]) ∧ IsSl rv r.1.1.length ∧ IsSl v' r.2.2.length ∧ (r.1.1 ≠ [] → rv = x') ∧ (r.2.2 ≠ [] → v' = x') ∧ Own W F0 [.row x' 5 1 (r.1.1 ++ r.2.2).length (nums .u8 (r.1.1 ++ r.2.2))] W'
theorem rfq0 {r : (List Int × Bool × Int) × (Bool × List Int)} {W W' : World} {e : Ending} (h1 : e = Ending.returned (.tuple #[.agg #[.bool r.2.1,.slice none 0 0],.slice none 0 0,.bool r.1.2.1,.int .i64 r.1.2.2])) (h2 : r.1.1 = []) (h3 : r.2.2 = []) (h4 : Below W.heap.size W W') : RFeedQ r W e W' :=
 ⟨.slice none 0 0,.slice none 0 0,.slice none 0 0,h1,by rw [h2];exact ⟨none,0,rfl,Nat.le_refl _⟩,by rw [h3];exact ⟨none,0,rfl,Nat.le_refl _⟩,fun h => absurd h2 h,fun h => absurd h3 h,by
  rw [h2,h3]
  exact ((Own.start W).to h4).cons (Below.refl _ _) (own_nil _ _ _ _) (fun k hk => by cases hk)⟩
theorem rfq1 {o2 : Bool} {dn : Bool} {er : Int} {bd : List Int} {nn : Nat} (hal : bd.length = nn) {W W' : World} {e : Ending} {A' : Option Addr} {c' : Nat} (hc' : nn ≤ c') (h1 : e = Ending.returned (.tuple #[.agg #[.bool o2,if dn = true then .slice none 0 0 else .slice A' nn c'],if dn = true then .slice A' nn c' else .slice none 0 0,.bool dn,.int .i64 er]))
  (h4 : Own W F0 [.row (.slice A' nn c') 5 1 nn (nums .u8 bd)] W') : RFeedQ ((if dn = true then bd else [],dn,er),(o2,if dn = true then [] else bd)) W e W' := by
 cases dn with
 |true =>
  refine ⟨.slice A' nn c',.slice none 0 0,.slice A' nn c',h1,by show IsSl _ bd.length;rw [hal];exact ⟨_,_,rfl,hc'⟩,⟨none,0,rfl,Nat.le_refl _⟩,fun _ => rfl,fun h => absurd rfl h,?_⟩
  show Own W F0 [.row _ _ 1 (bd ++ []).length (nums .u8 (bd ++ []))] W'
  rw [List.append_nil,hal]
  exact h4
 |false =>
  refine ⟨.slice none 0 0,.slice A' nn c',.slice A' nn c',h1,⟨none,0,rfl,Nat.le_refl _⟩,by show IsSl _ bd.length;rw [hal];exact ⟨_,_,rfl,hc'⟩,fun h => absurd rfl h,fun _ => rfl,?_⟩
  show Own W F0 [.row _ _ 1 ([] ++ bd).length (nums .u8 ([] ++ bd))] W'
  rw [List.nil_append,hal]
  exact h4
set_option maxRecDepth 100000 in
set_option maxHeartbeats 16000000 in
theorem rfeed_c (op : Bool) (b : List Int) (kind epoch : Int) (data : List Int) (Av A : Option Addr) (cv c : Nat) (W : World) (hb : Kd.C (Kd.int .u8) W Av b.length b) (hbc : b.length ≤ cv) (lb : b.length ≤ 512)
  (hd : Kd.C (Kd.int .u8) W A data.length data) (ld : data.length ≤ 140737488351232) (hdc : data.length ≤ c) :
  Calls Tryd.prog 31 #[.agg #[.bool op,.slice Av b.length cv],.agg #[.int .i64 kind,.int .u32 epoch,.slice A data.length c]] W fun e W' => RFeedQ (feedF op b kind data) W e W' := by
 have H := Own.start W
 obtain ⟨r,hr⟩ : ∃ r,feedF op b kind data = r := ⟨_,rfl⟩
 obtain ⟨nn,hnn⟩ : ∃ n,b.length + data.length = n := ⟨_,rfl⟩
 have hbn : (nums .u8 b).length = b.length * 1 := by rw [nums_length,Nat.mul_one]
 have hdn : (nums .u8 data).length = data.length * 1 := by rw [nums_length,Nat.mul_one]
 have happ : nums .u8 b ++ nums .u8 data = nums .u8 (b ++ data) := nums_app ..
 have hal : (b ++ data).length = nn := by rw [List.length_append];exact hnn
 have hnn2 : nn ≤ 140737488355328 := by omega
 have hnn1 : b.length ≤ 140737488355328 := by omega
 have hlt : decide ((b.length : Int) + data.length > 512) = decide ((nn : Int) > 512) := by congr 1;rw [← hnn];push_cast;rfl
 rw [hr]
 unfold feedF at hr
 rw [hal.symm] at hnn
 have hsum : ((b.length : Int) + data.length > 512) = ((nn : Int) > 512) := by rw [← hal,List.length_append];push_cast;rfl
 simp only [hsum] at hr
 generalize b ++ data = bd at *
 generalize b.length = nb at *
 generalize data.length = nd at *
 clear hlt hsum
 have hnn3 : nb + nd = nn := by omega
 clear hnn lb ld
 have bad : ((op != (kind == 3 ||kind == 4)) ||(op == (kind == 1 ||kind == 2))) = true ∨ ((op != (kind == 3 ||kind == 4)) ||(op == (kind == 1 ||kind == 2))) = false := by cases ((op != (kind == 3 ||kind == 4)) ||(op == (kind == 1 ||kind == 2))) <;> simp
 rcases bad with bad|bad
 ·rw [if_pos bad] at hr
  subst hr
  have cs : (op = true ∧ (kind != 3) = true ∧ (kind != 4) = true) ∨ (op = false ∧ (kind != 1) = true ∧ (kind != 2) = true) := by
   cases op
   ·right
    by_cases k1 : kind = 1
    ·subst k1;simp at bad
    ·by_cases k2 : kind = 2
     ·subst k2;simp at bad
     ·simp [k1,k2]
   ·left
    by_cases k3 : kind = 3
    ·subst k3;simp at bad
    ·by_cases k4 : kind = 4
     ·subst k4;simp at bad
     ·simp [k3,k4]
  clear bad
  rcases cs with ⟨rfl,k1,k2⟩|⟨rfl,k1,k2⟩
  all_goals
   go_enter Tryd.func31,Tryd.ntmps31
   go_wp2_with (first
  |((with_reducible refine gate_dst (N := 2) rfl ?_);refine l_boxA rfl H 73 _ rfl _ rfl ?_;clear H;intro g2 W H)
  |((with_reducible refine gate_dst (N := 3) rfl ?_);refine l_boxA rfl H 76 _ rfl _ rfl ?_;clear H;intro g3 W H)
  |((with_reducible refine gate_dst (N := 4) rfl ?_);refine l_allocA rfl H 73 rfl _ zero73 ?_;clear H;intro g4 W H)
  |((with_reducible refine gate_dst (N := 10) rfl ?_);refine l_load1 rfl H 4 _ rfl _ _ rfl (by repeat constructor) _ Tryd.underlying4 rfl _ (by first|rfl|assumption|exact nums_at _ (by omega)) ?_)
  |((with_reducible refine gate_dst (N := 13) rfl ?_);refine gate_guard (by rfl) ?_;refine l_load1 rfl H 3 _ rfl _ _ rfl (by repeat constructor) _ Tryd.underlying3 rfl _ (by first|rfl|assumption|exact nums_at _ (by omega)) ?_)
  |((with_reducible refine gate_dst (N := 18) rfl ?_);refine gate_guard (by rfl) ?_;refine l_load1 rfl H 3 _ rfl _ _ rfl (by repeat constructor) _ Tryd.underlying3 rfl _ (by first|rfl|assumption|exact nums_at _ (by omega)) ?_)
  |((with_reducible refine gate_dst (N := 23) rfl ?_);refine gate_guard (by rfl) ?_;refine l_load1 rfl H 4 _ rfl _ _ rfl (by repeat constructor) _ Tryd.underlying4 rfl _ (by first|rfl|assumption|exact nums_at _ (by omega)) ?_)
  |((with_reducible refine gate_dst (N := 27) rfl ?_);refine gate_guard (by rfl) ?_;refine l_load1 rfl H 3 _ rfl _ _ rfl (by repeat constructor) _ Tryd.underlying3 rfl _ (by first|rfl|assumption|exact nums_at _ (by omega)) ?_)
  |((with_reducible refine gate_dst (N := 32) rfl ?_);refine gate_guard (by rfl) ?_;refine l_load1 rfl H 3 _ rfl _ _ rfl (by repeat constructor) _ Tryd.underlying3 rfl _ (by first|rfl|assumption|exact nums_at _ (by omega)) ?_)
  |((with_reducible refine gate_store (t := 73) (p := 4) rfl ?_);refine l_storeW rfl H 73 _ _ rfl _ rfl _ rfl (by repeat constructor) _ size73 (by first|rfl|assumption|omega|(simp only [nums_length];omega)|simp [nums_length,zs] <;> omega) (by first|rfl|assumption|omega|(simp only [nums_length];omega)|simp [nums_length,zs] <;> omega) (by first|exact nums_one|assumption|exact on1_ rfl) ?_;clear H;intro W H))
   replace H := Own.front (r := .blk g4 _ _) H (by repeat constructor)
   refine bodyPost_ret (results_cttt (p := 4) (ty := 73) rfl _ _ _ g4 73 _ (0,0) _ rfl (H.heap .head) rfl Tryd.underlying73 size73) rfl ?_
   exact rfq0 rfl rfl rfl H.below
 ·rw [if_neg (by rw [bad];decide)] at hr
  have cs : (op = true ∧ (kind = 3 ∨ kind = 4)) ∨ (op = false ∧ (kind = 1 ∨ kind = 2)) := by
   cases op
   ·right
    by_cases k1 : kind = 1
    ·exact ⟨rfl,.inl k1⟩
    ·by_cases k2 : kind = 2
     ·exact ⟨rfl,.inr k2⟩
     ·simp [k1,k2] at bad
   ·left
    by_cases k3 : kind = 3
    ·exact ⟨rfl,.inl k3⟩
    ·by_cases k4 : kind = 4
     ·exact ⟨rfl,.inr k4⟩
     ·simp [k3,k4] at bad
  clear bad
  by_cases h5 : (nn : Int) > 512
  ·rw [if_pos h5] at hr
   have q1 : decide ((nn : Int) > 512) = true := decide_eq_true h5
   have q2 : decide ((512 : Int) < (nn : Int)) = true := decide_eq_true (by omega)
   clear h5
   subst hr
   rcases cs with ⟨rfl,rfl|rfl⟩|⟨rfl,rfl|rfl⟩
   all_goals
    go_enter Tryd.func31,Tryd.ntmps31
    go_wp2_with (first
  |((with_reducible refine gate_dst (N := 2) rfl ?_);refine l_boxA rfl H 73 _ rfl _ rfl ?_;clear H;intro g2 W H)
  |((with_reducible refine gate_dst (N := 3) rfl ?_);refine l_boxA rfl H 76 _ rfl _ rfl ?_;clear H;intro g3 W H)
  |((with_reducible refine gate_dst (N := 4) rfl ?_);refine l_allocA rfl H 73 rfl _ zero73 ?_;clear H;intro g4 W H)
  |((with_reducible refine gate_dst (N := 10) rfl ?_);refine l_load1 rfl H 4 _ rfl _ _ rfl (by repeat constructor) _ Tryd.underlying4 rfl _ (by first|rfl|assumption|exact nums_at _ (by omega)) ?_)
  |((with_reducible refine gate_dst (N := 13) rfl ?_);refine gate_guard (by rfl) ?_;refine l_load1 rfl H 3 _ rfl _ _ rfl (by repeat constructor) _ Tryd.underlying3 rfl _ (by first|rfl|assumption|exact nums_at _ (by omega)) ?_)
  |((with_reducible refine gate_dst (N := 18) rfl ?_);refine gate_guard (by rfl) ?_;refine l_load1 rfl H 3 _ rfl _ _ rfl (by repeat constructor) _ Tryd.underlying3 rfl _ (by first|rfl|assumption|exact nums_at _ (by omega)) ?_)
  |((with_reducible refine gate_dst (N := 23) rfl ?_);refine gate_guard (by rfl) ?_;refine l_load1 rfl H 4 _ rfl _ _ rfl (by repeat constructor) _ Tryd.underlying4 rfl _ (by first|rfl|assumption|exact nums_at _ (by omega)) ?_)
  |((with_reducible refine gate_dst (N := 27) rfl ?_);refine gate_guard (by rfl) ?_;refine l_load1 rfl H 3 _ rfl _ _ rfl (by repeat constructor) _ Tryd.underlying3 rfl _ (by first|rfl|assumption|exact nums_at _ (by omega)) ?_)
  |((with_reducible refine gate_dst (N := 32) rfl ?_);refine gate_guard (by rfl) ?_;refine l_load1 rfl H 3 _ rfl _ _ rfl (by repeat constructor) _ Tryd.underlying3 rfl _ (by first|rfl|assumption|exact nums_at _ (by omega)) ?_))
    refine start_ (n := 8) (S := Own _ _ _) (ds := []) #[f_,f_,f_,f_,f_,f_,f_,f_] (by kernel_rfl) rfl rfl H.drew (fun hHeld => ?_)
    replace H := H.drew
    generalize World.drew _ = W at H hHeld ⊢
    refine pure_ (i := 1) (N := some 38) #[f_,t_,f_,f_,f_,f_,f_,f_] rfl rfl (by kernel_rfl) (fun _ _ _ h => h) (Or.inl ⟨by rfl,by intro w';go_simp;with_reducible rfl⟩) (by simp only [ps_];rfl) ?_
    refine pure_ (i := 4) (N := some 41) #[f_,t_,f_,f_,t_,f_,f_,f_] rfl rfl (by kernel_rfl) (fun _ _ _ h => h) (Or.inl ⟨by rfl,by intro w';go_simp;with_reducible rfl⟩) (by simp only [ps_];rfl) ?_
    refine take_load1 (i := 2) (N := some 39) #[f_,t_,t_,f_,t_,f_,f_,f_] rfl rfl (by kernel_rfl) (fun _ _ _ _ h => h) (by rfl) hHeld 38 _ rfl _ _ rfl (by repeat constructor) _ Tryd.underlying38 rfl _ (by first|rfl|assumption|exact nums_at _ (by omega)) (by simp only [ps_];rfl) ?_
    refine take_load1 (i := 5) (N := some 42) #[f_,t_,t_,f_,t_,t_,f_,f_] rfl rfl (by kernel_rfl) (fun _ _ _ _ h => h) (by rfl) hHeld 38 _ rfl _ _ rfl (by repeat constructor) _ Tryd.underlying38 rfl _ (by first|rfl|assumption|exact nums_at _ (by omega)) (by simp only [ps_];rfl) ?_
    refine one_ (i := 0) (N := some 37) #[t_,t_,t_,f_,t_,t_,f_,f_] rfl rfl (by kernel_rfl) (by decide) (fun K hK => ?_)
    refine wanted_ rfl ?_
    refine w_build0 H 38 5 rfl Tryd.underlying38 (by kernel_rfl) ?_
    clear H
    intro g37 W H
    refine hK.out _ _ ?_ (fun hHeld => ?_)
    ·first|trivial|exact H|exact H.del .head|exact (H.del .head).del .head|exact H.heap (by repeat constructor)
    clear hK K
    refine norm_ (by show Act.put _ (some 37) _ = _;simp only [ps_];rfl) ?_
    refine one_ (i := 3) (N := some 40) #[t_,t_,t_,t_,t_,t_,f_,f_] rfl rfl (by kernel_rfl) (by decide) (fun K hK => ?_)
    refine wanted_ rfl ?_
    refine w_append H _ _ 38 5 rfl Tryd.underlying38 _ _ _ inf5 rfl (by decide) (by decide) _ 0 [] rfl (by repeat constructor) Av nb cv (nums .u8 b) rfl hbn (fun hq => (Rd.of_C (Kd.C_below hb H.below)) (by rw [hbn,Nat.mul_one];exact hq)) nums_one (by omega) ?_
    clear H
    intro v40 W H
    rw [Nat.zero_add,List.nil_append] at H
    obtain ⟨A40,c40,rfl⟩ := H.row_slice .head
    refine hK.out _ _ ?_ (fun hHeld => ?_)
    ·first|trivial|exact H|exact H.del .head|exact (H.del .head).del .head|exact H.heap (by repeat constructor)
    clear hK K
    refine norm_ (by show Act.put _ (some 40) _ = _;simp only [ps_];rfl) ?_
    refine one_ (i := 6) (N := some 43) #[t_,t_,t_,t_,t_,t_,t_,f_] rfl rfl (by kernel_rfl) (by decide) (fun K hK => ?_)
    refine wanted_ rfl ?_
    refine w_append H _ _ 38 5 rfl Tryd.underlying38 _ _ _ inf5 rfl (by decide) (by decide) _ nb (nums .u8 b) rfl .head A nd c (nums .u8 data) rfl hdn (fun hq => (Rd.of_C (Kd.C_below hd H.below)) (by rw [hdn,Nat.mul_one];exact hq)) nums_one (by omega) ?_
    clear H
    intro v43 W H
    rw [happ,hnn3] at H
    obtain ⟨A43,c43,rfl⟩ := H.row_slice .head
    refine hK.out _ _ ?_ (fun hHeld => ?_)
    ·first|trivial|exact H|exact H.del .head|exact (H.del .head).del .head|exact H.heap (by repeat constructor)
    clear hK K
    refine norm_ (by show Act.put _ (some 43) _ = _;simp only [ps_];rfl) ?_
    refine pure_ (i := 7) (N := some 8) #[t_,t_,t_,t_,t_,t_,t_,t_] rfl rfl (by kernel_rfl) (fun _ _ _ h => h) (Or.inl ⟨by rfl,by intro w';go_simp;with_reducible rfl⟩) (by simp only [ps_];rfl) ?_
    refine done_ (by kernel_rfl) ?_
    clear hHeld
    go_wp2_with (first
  |((with_reducible refine gate_store (t := 73) (p := 4) rfl ?_);refine l_storeW rfl H 73 _ _ rfl _ rfl _ rfl (by repeat constructor) _ size73 (by first|rfl|assumption|omega|(simp only [nums_length];omega)|simp [nums_length,zs] <;> omega) (by first|rfl|assumption|omega|(simp only [nums_length];omega)|simp [nums_length,zs] <;> omega) (by first|exact nums_one|assumption|exact on1_ rfl) ?_;clear H;intro W H))
    replace H := Own.front (r := .blk g4 _ _) H (by repeat constructor)
    refine bodyPost_ret (results_cttt (p := 4) (ty := 73) rfl _ _ _ g4 73 _ (0,0) _ rfl (H.heap .head) rfl Tryd.underlying73 size73) rfl ?_
    exact rfq0 rfl rfl rfl H.below
  ·rw [if_neg h5] at hr
   have q1 : decide ((nn : Int) > 512) = false := decide_eq_false h5
   have q2 : decide ((512 : Int) < (nn : Int)) = false := decide_eq_false (by omega)
   clear h5
   rcases cs with ⟨rfl,rfl|rfl⟩|⟨rfl,rfl|rfl⟩
   all_goals
    simp at hr
    subst hr
    go_enter Tryd.func31,Tryd.ntmps31
    go_wp2_with (first
  |((with_reducible refine gate_dst (N := 2) rfl ?_);refine l_boxA rfl H 73 _ rfl _ rfl ?_;clear H;intro g2 W H)
  |((with_reducible refine gate_dst (N := 3) rfl ?_);refine l_boxA rfl H 76 _ rfl _ rfl ?_;clear H;intro g3 W H)
  |((with_reducible refine gate_dst (N := 4) rfl ?_);refine l_allocA rfl H 73 rfl _ zero73 ?_;clear H;intro g4 W H)
  |((with_reducible refine gate_dst (N := 10) rfl ?_);refine l_load1 rfl H 4 _ rfl _ _ rfl (by repeat constructor) _ Tryd.underlying4 rfl _ (by first|rfl|assumption|exact nums_at _ (by omega)) ?_)
  |((with_reducible refine gate_dst (N := 13) rfl ?_);refine gate_guard (by rfl) ?_;refine l_load1 rfl H 3 _ rfl _ _ rfl (by repeat constructor) _ Tryd.underlying3 rfl _ (by first|rfl|assumption|exact nums_at _ (by omega)) ?_)
  |((with_reducible refine gate_dst (N := 18) rfl ?_);refine gate_guard (by rfl) ?_;refine l_load1 rfl H 3 _ rfl _ _ rfl (by repeat constructor) _ Tryd.underlying3 rfl _ (by first|rfl|assumption|exact nums_at _ (by omega)) ?_)
  |((with_reducible refine gate_dst (N := 23) rfl ?_);refine gate_guard (by rfl) ?_;refine l_load1 rfl H 4 _ rfl _ _ rfl (by repeat constructor) _ Tryd.underlying4 rfl _ (by first|rfl|assumption|exact nums_at _ (by omega)) ?_)
  |((with_reducible refine gate_dst (N := 27) rfl ?_);refine gate_guard (by rfl) ?_;refine l_load1 rfl H 3 _ rfl _ _ rfl (by repeat constructor) _ Tryd.underlying3 rfl _ (by first|rfl|assumption|exact nums_at _ (by omega)) ?_)
  |((with_reducible refine gate_dst (N := 32) rfl ?_);refine gate_guard (by rfl) ?_;refine l_load1 rfl H 3 _ rfl _ _ rfl (by repeat constructor) _ Tryd.underlying3 rfl _ (by first|rfl|assumption|exact nums_at _ (by omega)) ?_))
    refine start_ (n := 8) (S := Own _ _ _) (ds := []) #[f_,f_,f_,f_,f_,f_,f_,f_] (by kernel_rfl) rfl rfl H.drew (fun hHeld => ?_)
    replace H := H.drew
    generalize World.drew _ = W at H hHeld ⊢
    refine pure_ (i := 1) (N := some 38) #[f_,t_,f_,f_,f_,f_,f_,f_] rfl rfl (by kernel_rfl) (fun _ _ _ h => h) (Or.inl ⟨by rfl,by intro w';go_simp;with_reducible rfl⟩) (by simp only [ps_];rfl) ?_
    refine pure_ (i := 4) (N := some 41) #[f_,t_,f_,f_,t_,f_,f_,f_] rfl rfl (by kernel_rfl) (fun _ _ _ h => h) (Or.inl ⟨by rfl,by intro w';go_simp;with_reducible rfl⟩) (by simp only [ps_];rfl) ?_
    refine take_load1 (i := 2) (N := some 39) #[f_,t_,t_,f_,t_,f_,f_,f_] rfl rfl (by kernel_rfl) (fun _ _ _ _ h => h) (by rfl) hHeld 38 _ rfl _ _ rfl (by repeat constructor) _ Tryd.underlying38 rfl _ (by first|rfl|assumption|exact nums_at _ (by omega)) (by simp only [ps_];rfl) ?_
    refine take_load1 (i := 5) (N := some 42) #[f_,t_,t_,f_,t_,t_,f_,f_] rfl rfl (by kernel_rfl) (fun _ _ _ _ h => h) (by rfl) hHeld 38 _ rfl _ _ rfl (by repeat constructor) _ Tryd.underlying38 rfl _ (by first|rfl|assumption|exact nums_at _ (by omega)) (by simp only [ps_];rfl) ?_
    refine one_ (i := 0) (N := some 37) #[t_,t_,t_,f_,t_,t_,f_,f_] rfl rfl (by kernel_rfl) (by decide) (fun K hK => ?_)
    refine wanted_ rfl ?_
    refine w_build0 H 38 5 rfl Tryd.underlying38 (by kernel_rfl) ?_
    clear H
    intro g37 W H
    refine hK.out _ _ ?_ (fun hHeld => ?_)
    ·first|trivial|exact H|exact H.del .head|exact (H.del .head).del .head|exact H.heap (by repeat constructor)
    clear hK K
    refine norm_ (by show Act.put _ (some 37) _ = _;simp only [ps_];rfl) ?_
    refine one_ (i := 3) (N := some 40) #[t_,t_,t_,t_,t_,t_,f_,f_] rfl rfl (by kernel_rfl) (by decide) (fun K hK => ?_)
    refine wanted_ rfl ?_
    refine w_append H _ _ 38 5 rfl Tryd.underlying38 _ _ _ inf5 rfl (by decide) (by decide) _ 0 [] rfl (by repeat constructor) Av nb cv (nums .u8 b) rfl hbn (fun hq => (Rd.of_C (Kd.C_below hb H.below)) (by rw [hbn,Nat.mul_one];exact hq)) nums_one (by omega) ?_
    clear H
    intro v40 W H
    rw [Nat.zero_add,List.nil_append] at H
    obtain ⟨A40,c40,rfl⟩ := H.row_slice .head
    refine hK.out _ _ ?_ (fun hHeld => ?_)
    ·first|trivial|exact H|exact H.del .head|exact (H.del .head).del .head|exact H.heap (by repeat constructor)
    clear hK K
    refine norm_ (by show Act.put _ (some 40) _ = _;simp only [ps_];rfl) ?_
    refine one_ (i := 6) (N := some 43) #[t_,t_,t_,t_,t_,t_,t_,f_] rfl rfl (by kernel_rfl) (by decide) (fun K hK => ?_)
    refine wanted_ rfl ?_
    refine w_append H _ _ 38 5 rfl Tryd.underlying38 _ _ _ inf5 rfl (by decide) (by decide) _ nb (nums .u8 b) rfl .head A nd c (nums .u8 data) rfl hdn (fun hq => (Rd.of_C (Kd.C_below hd H.below)) (by rw [hdn,Nat.mul_one];exact hq)) nums_one (by omega) ?_
    clear H
    intro v43 W H
    rw [happ,hnn3] at H
    obtain ⟨A43,c43,rfl⟩ := H.row_slice .head
    refine hK.out _ _ ?_ (fun hHeld => ?_)
    ·first|trivial|exact H|exact H.del .head|exact (H.del .head).del .head|exact H.heap (by repeat constructor)
    clear hK K
    refine norm_ (by show Act.put _ (some 43) _ = _;simp only [ps_];rfl) ?_
    refine pure_ (i := 7) (N := some 8) #[t_,t_,t_,t_,t_,t_,t_,t_] rfl rfl (by kernel_rfl) (fun _ _ _ h => h) (Or.inl ⟨by rfl,by intro w';go_simp;with_reducible rfl⟩) (by simp only [ps_];rfl) ?_
    refine done_ (by kernel_rfl) ?_
    clear hHeld
    go_wp2_with (first
  |((with_reducible refine gate_dst (N := 49) rfl ?_);refine l_load1 rfl H 3 _ rfl _ _ rfl (by repeat constructor) _ Tryd.underlying3 rfl _ (by first|rfl|assumption|exact nums_at _ (by omega)) ?_)
  |((with_reducible refine gate_dst (N := 53) rfl ?_);refine gate_guard (by rfl) ?_;refine l_load1 rfl H 3 _ rfl _ _ rfl (by repeat constructor) _ Tryd.underlying3 rfl _ (by first|rfl|assumption|exact nums_at _ (by omega)) ?_)
  |((with_reducible refine gate_store (t := 73) (p := 4) rfl ?_);refine l_storeW rfl H 73 _ _ rfl _ rfl _ rfl (by repeat constructor) _ size73 (by first|rfl|assumption|omega|(simp only [nums_length];omega)|simp [nums_length,zs] <;> omega) (by first|rfl|assumption|omega|(simp only [nums_length];omega)|simp [nums_length,zs] <;> omega) (by first|exact nums_one|assumption|exact on1_ rfl) ?_;clear H;intro W H)
  |((with_reducible refine gate_store (t := 73) (p := 4) rfl ?_);refine l_storeW rfl H 73 _ _ rfl _ rfl _ rfl (by repeat constructor) _ size73 (by first|rfl|assumption|omega|(simp only [nums_length];omega)|simp [nums_length,zs] <;> omega) (by first|rfl|assumption|omega|(simp only [nums_length];omega)|simp [nums_length,zs] <;> omega) (by first|exact nums_one|assumption|exact on1_ rfl) ?_;clear H;intro W H))
    replace H := Own.front (r := .blk g4 _ _) H (by repeat constructor)
    refine bodyPost_ret (results_cttt (p := 4) (ty := 73) rfl _ _ _ g4 73 _ (0,0) _ rfl (H.heap .head) rfl Tryd.underlying73 size73) rfl ?_
    have hcc := (H.rd (A := A43) (by repeat constructor)).2.1
    replace H := H.del (r := .blk g4 _ _) (by repeat constructor)
    replace H := H.del (r := .blk g3 _ _) (by repeat constructor)
    replace H := H.del (r := .blk g2 _ _) (by repeat constructor)
    first|exact rfq1 (dn := true) hal hcc rfl H|exact rfq1 (dn := false) hal hcc rfl H
theorem rfeed_h {w0 W : World} {F : Nat → Option Obj} {L : List Res} (op : Bool) (b : List Int) (kind epoch : Int) (data : List Int) (Av A : Option Addr) (cv c : Nat)
  (H : Own w0 F L W) (hb : Kd.C (Kd.int .u8) W Av b.length b) (hbc : b.length ≤ cv) (lb : b.length ≤ 512)
  (hd : Kd.C (Kd.int .u8) W A data.length data) (ld : data.length ≤ 140737488351232) (hdc : data.length ≤ c) :
  Calls Tryd.prog 31 #[.agg #[.bool op,.slice Av b.length cv],.agg #[.int .i64 kind,.int .u32 epoch,.slice A data.length c]] W fun e W' =>
   ∃ rv v' x',e = .returned (.tuple #[.agg #[.bool (feedF op b kind data).2.1,v'],rv,.bool (feedF op b kind data).1.2.1,.int .i64 (feedF op b kind data).1.2.2]) ∧ IsSl rv (feedF op b kind data).1.1.length ∧ IsSl v' (feedF op b kind data).2.2.length ∧
    ((feedF op b kind data).1.1 ≠ [] → rv = x') ∧ ((feedF op b kind data).2.2 ≠ [] → v' = x') ∧
    Own w0 F (.row x' 5 1 ((feedF op b kind data).1.1 ++ (feedF op b kind data).2.2).length (nums .u8 ((feedF op b kind data).1.1 ++ (feedF op b kind data).2.2)) :: L) W' :=
 (rfeed_c op b kind epoch data Av A cv c W hb hbc lb hd ld hdc).mono (by
  rintro e W' ⟨rv,v',x',h1,h2,h3,h4,h5,h6⟩
  exact ⟨rv,v',x',h1,h2,h3,h4,h5,H.addOwn h6⟩)
end Go.Proofs.YtaekpfhgdnfciaaDoor.O
end
