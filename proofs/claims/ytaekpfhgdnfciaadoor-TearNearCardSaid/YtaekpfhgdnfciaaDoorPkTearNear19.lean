/- Texts of mine put together: TearNear, OpenSync, OpenCrash, RowTearNear. -/
import Derived.Test.YtaekpfhgdnfciaaDoorPkTearNear16
import Derived.Test.YtaekpfhgdnfciaaDoorPkTearNear18
import Derived.Test.YtaekpfhgdnfciaaDoorCards
import Derived.Test.YtaekpfhgdnfciaaDoorTie
import Derived.SevenTiedAt
import Derived.WalkKit
import Derived.ProofKit
import Derived.OpenShut
import Derived.ShutString
import Derived.ChangeOld
import Derived.Below
import Derived.SizedLaws
import Derived.Lib.SmallJoins

section
namespace Go.Proofs.YtaekpfhgdnfciaaDoor.O
open Go.RowKit Go.Proofs.YtaekpfhgdnfciaaDoorW.PrintWords Go.Proofs.YtaekpfhgdnfciaaDoorW.PrintLast Go.Proofs.YtaekpfhgdnfciaaDoorW.PrintMore Go.Proofs.YtaekpfhgdnfciaaDoor.F Go.Proofs.YtaekpfhgdnfciaaDoor.F.Nums Go.Proofs.YtaekpfhgdnfciaaDoor.Plain
set_option maxRecDepth 100000 in
set_option maxHeartbeats 16000000 in
theorem tearNear_law (e64 : Int) (N : Nat) (l : List (List Int)) (A Ak : Option Addr) (c ck : Nat) (keep : List Int) (torn cut : Int) (w : World) (he : 0 ≤ e64 ∧ e64 ≤ 18446744073709551615) (hN : N ≤ 18446744073709551615) (hC : (Kd.slice 5 (Kd.int .u8)).C w A l.length l) (hc : l.length ≤ c) (hl : ∀ x ∈ l,Bytes x) (hll : ∀ x ∈ l,x.length ≤ 140737488355328) (hn : l.length ≤ 9000000000000)
  (hk : (Kd.int .u8).C w Ak keep.length keep) (hck : keep.length ≤ ck) (hkw : ∀ x ∈ keep,(Lit.int .u8 x).wf = true) (hH : Half w) :
  Calls Tryd.prog 6 #[.agg #[.int .u64 e64,.slice A l.length c,.int .u64 (N : Int)],.agg #[.slice Ak keep.length ck,.int .i64 torn,.int .i64 cut]] w fun e W => e = .returned (.bool true) ∧ Below w.heap.size w W := by
 have H := Own.start w
 have AW := awake20_calls
 by_cases hno : Img.layAll e64 l = false ∨ (l.all (fun x => decide (x.length ≤ 512)) && decide (l.length ≤ 100)) = false ∨ e64 = 0
 ·have AC := fun W h => after_nope e64 N l A Ak c keep.length ck torn cut W he h hc hl hll hn hno
  clear hno
  generalize l.length = n at *
  generalize keep.length = lk at *
  go_enter Tryd.func6,Tryd.ntmps6
  go_wp2_with (first
  |((with_reducible refine gate_dst (N := 2) rfl ?_);refine l_boxA rfl H 44 _ rfl _ rfl ?_;clear H;intro g2 W H)
  |((with_reducible refine gate_dst (N := 3) rfl ?_);refine l_boxA rfl H 46 _ rfl _ rfl ?_;clear H;intro g3 W H)
  |((with_reducible refine gate_dst (N := 18) rfl ?_);refine l_loadA rfl H 44 _ rfl _ rfl (by repeat constructor) _ _ Tryd.underlying44 rfl size44 (by first|rfl|assumption|omega|(simp only [nums_length];omega)|simp [nums_length,zs] <;> omega) ?_)
  |((with_reducible refine gate_dst (N := 19) rfl ?_);refine l_loadA rfl H 46 _ rfl _ rfl (by repeat constructor) _ _ Tryd.underlying46 rfl size46 (by first|rfl|assumption|omega|(simp only [nums_length];omega)|simp [nums_length,zs] <;> omega) ?_)
  |(go_at_call 18;(with_reducible refine (AC _ (Kd.C_below hC H.below)).mono ?_);rintro e W ⟨rfl,hb⟩;replace H := H.to hb;clear hb)
  |(go_at_call 19;(with_reducible refine (AW _ (hH.below H.below)).mono ?_);rintro e W ⟨rfl,hb⟩;replace H := H.to hb;clear hb))
  go_ret
  exact ⟨rfl,H.below⟩
 ·have hok : Img.layAll e64 l = true := by
   cases h : Img.layAll e64 l with
   |true => rfl
   |false => exact absurd (.inl h) hno
  have hf : (l.all (fun x => decide (x.length ≤ 512)) && decide (l.length ≤ 100)) = true := by
   cases h : (l.all (fun x => decide (x.length ≤ 512)) && decide (l.length ≤ 100)) with
   |true => rfl
   |false => exact absurd (.inr (.inl h)) hno
  have h0 : e64 ≠ 0 := fun h => hno (.inr (.inr h))
  clear hno
  obtain ⟨s,hs⟩ : ∃ s,s = N % (l.length + 1) := ⟨_,rfl⟩
  have hsl : s ≤ l.length := by rw [hs];have := Nat.mod_lt N (show 0 < l.length + 1 by omega);omega
  obtain ⟨bO,htO,hbO⟩ := touch0 (Img.laySt e64 l s).2
  obtain ⟨bN,htN,hbN⟩ := touch0 (Img.laySt e64 l l.length).2
  have AC := fun W h h2 => after_yes e64 N l A Ak c ck keep torn cut W s bO bN he hN h hc hl hll hok hf h0 hs htO hbO htN hbN h2 hck hkw
  clear hs
  simp only [Bool.and_eq_true,List.all_eq_true,decide_eq_true_eq] at hf
  have hEs := Img.laySt_end e64 l s
  have hEn := Img.laySt_end e64 l l.length
  have hbo := Img.tch_secs hEs.1 hEs.2 htO
  have hbn := Img.tch_secs hEn.1 hEn.2 htN
  have hfl := appF_len keep torn cut (flatW_len e64 (Img.laySt e64 l s).1 bO 16) (flatW_len e64 (Img.laySt e64 l l.length).1 bN 16) 16 (Nat.le_refl _) (Nat.le_refl _)
  have hfnl := flatW_len e64 (Img.laySt e64 l l.length).1 bN 16
  have hfb := appF_bytes (keep := keep) (torn := torn) (cut := cut) (flatW_bytes (Img.laySt_bytes e64 l hl s) e64 bO 16) (flatW_bytes (Img.laySt_bytes e64 l hl l.length) e64 bN 16) 16
  have hok0 : Img.layAll 0 l = true := by rw [layAll_any 0 e64 l];exact hok
  have hok1 : Img.layAll 1 l = true := by rw [layAll_any 1 e64 l];exact hok
  have NC := near_core e64 he.1 he.2 h0 l s hsl hok hf.1 hl (flatW e64 (Img.laySt e64 l s).1 bO 16) (flatW e64 (Img.laySt e64 l l.length).1 bN 16) keep torn cut (by rw [hbo]) (by rw [hbn])
  have SC := fun W h => rsectors_yes e64 l A c W bN hok htN hbN he hl hll (by omega) h hc
  have hl512 : ∀ x ∈ l,x.length ≤ 140737488355328 := fun x hx => Nat.le_trans (hf.1 x hx) (by decide)
  have LC := fun W h => strandlineref20_Lengths.calls 8000 A c l _ W h hc (Img.lens_eq l hok1 hl hl512 hf.2)
  have hLn := Img.lensL_len l l.length 0
  have hLi := Img.lensL_in l l.length 0
  have NS : ∀ (T : Nat) (f t : Int),(T : Int) = torn → NearP (secAt (appF (flatW e64 (Img.laySt e64 l s).1 bO 16) (flatW e64 (Img.laySt e64 l l.length).1 bN 16) keep torn cut 16) T) (secAt (flatW e64 (Img.laySt e64 l l.length).1 bN 16) T) 64 f t → t - f ≤ 3 →
    (∀ q ∈ Img.lensL l 0 l.length,¬ (q / 52 = (T : Int) ∧ f ≤ q - 52 * (T : Int) + 12 ∧ q - 52 * (T : Int) + 12 ≤ t)) → _ := fun T f t hT hP h3 hq => NC (fun T' h1 h2 => by
   obtain rfl : T' = T := by omega
   exact near_sec hP h3 hq hok)
  generalize appF (flatW e64 (Img.laySt e64 l s).1 bO 16) (flatW e64 (Img.laySt e64 l l.length).1 bN 16) keep torn cut 16 = fl at *
  generalize flatW e64 (Img.laySt e64 l l.length).1 bN 16 = fn at *
  generalize flatW e64 (Img.laySt e64 l s).1 bO 16 = fo at *
  have FRC := fun A1 c1 W h1 h2 h3 h4 => free_calls e64 l A A1 c 16 c1 fl W he hl (fun x hx => Nat.lt_of_le_of_lt (hf.1 x hx) (by decide)) hf.2 h1 hfl hfb h2 h3 (by decide) h4
  rw [hok0] at FRC
  simp only [Bool.true_and] at FRC
  obtain ⟨S,hS⟩ : ∃ S,scanM (e64 % 4294967296) (bodyF e64 fl 16 16) (oksF e64 fl 16 16) = S := ⟨_,rfl⟩
  rw [hS] at NC NS
  obtain ⟨kd,hkd⟩ : ∃ kd : Int,(if Img.restB fl 16 (cl (S.en : Int)) = true then (1 : Int) else 2) = kd := ⟨_,rfl⟩
  have KR : ∀ A1 c1 W,Rd W A1 (nums .u8 fl) → 16 ≤ c1 → Calls Tryd.prog 11 #[.int .u64 e64,.slice A1 16 c1] W fun en W' => ∃ Ar cr Ap cp L9,en = .returned (.agg #[.slice Ar S.recs.length cr,.slice Ap S.recs.length cp,.int .i64 (S.en : Int),.int .i64 kd]) ∧ Own W F0 L9 W' := fun A1 c1 W h hc1 => (rscan_calls e64 he fl 16 (by decide) hfl hfb A1 c1 W h hc1).mono (by
   rintro en W' ⟨S',Ar,cr,Ap,cp,cells,D,rfl,h1,h3,h4,h5,h6⟩
   rw [hS,hkd] at h1
   exact ⟨Ar,cr,Ap,cp,_,h1,h6⟩)
  clear hS hkd hfb hok hok0 hok1 htO htN hbO hbN hbo hbn hEs hEn hl hll hl512
  generalize (badL e64 l (bodyF e64 fl 16 16) (oksF e64 fl 16 16) l.length).isEmpty = be at *
  generalize Img.lensL l 0 l.length = lens at *
  obtain ⟨s1,s2,s3,s4,rs,s6,se⟩ := S
  simp only at KR NC NS
  generalize rs.length = m at *
  have hn100 := hf.2
  clear hf
  generalize hnn : l.length = n at *
  generalize keep.length = lk at *
  by_cases ht : torn < 0 ∨ 16 ≤ torn
  ·obtain ⟨rfl,hmn⟩ := NC (fun T h1 h2 => by omega)
   have q9 : decide (m ≤ n) = true := decide_eq_true hmn
   clear NC NS SC LC
   by_cases ht0 : torn < 0
   ·have q3 : decide (torn ≥ 0) = false := decide_eq_false (by omega)
    have q4 : decide ((0 : Int) ≤ torn) = false := decide_eq_false (by omega)
    go_enter Tryd.func6,Tryd.ntmps6
    go_wp2_with (first
  |((with_reducible refine gate_dst (N := 2) rfl ?_);refine l_boxA rfl H 44 _ rfl _ rfl ?_;clear H;intro g2 W H)
  |((with_reducible refine gate_dst (N := 3) rfl ?_);refine l_boxA rfl H 46 _ rfl _ rfl ?_;clear H;intro g3 W H)
  |((with_reducible refine gate_dst (N := 18) rfl ?_);refine l_loadA rfl H 44 _ rfl _ rfl (by repeat constructor) _ _ Tryd.underlying44 rfl size44 (by first|rfl|assumption|omega|(simp only [nums_length];omega)|simp [nums_length,zs] <;> omega) ?_)
  |((with_reducible refine gate_dst (N := 19) rfl ?_);refine l_loadA rfl H 46 _ rfl _ rfl (by repeat constructor) _ _ Tryd.underlying46 rfl size46 (by first|rfl|assumption|omega|(simp only [nums_length];omega)|simp [nums_length,zs] <;> omega) ?_)
  |((with_reducible refine gate_dst (N := 28) rfl ?_);refine l_load1 rfl H 3 _ rfl _ _ rfl (by repeat constructor) _ Tryd.underlying3 rfl _ (by first|rfl|assumption|exact nums_at _ (by omega)) ?_)
  |((with_reducible refine gate_dst (N := 32) rfl ?_);refine gate_guard (by rfl) ?_;refine l_load1 rfl H 3 _ rfl _ _ rfl (by repeat constructor) _ Tryd.underlying3 rfl _ (by first|rfl|assumption|exact nums_at _ (by omega)) ?_)
  |((with_reducible refine gate_dst (N := 111) rfl ?_);refine l_load1 rfl H 22 _ rfl _ _ rfl (by repeat constructor) _ Tryd.underlying22 rfl _ (by first|rfl|assumption|exact nums_at _ (by omega)) ?_)
  |((with_reducible refine gate_dst (N := 16) rfl ?_);refine l_allocA rfl H 30 rfl _ zero30 ?_;clear H;intro g16 W H)
  |((with_reducible refine gate_store (t := 30) (p := 16) rfl ?_);refine l_storeW rfl H 30 _ _ rfl _ rfl _ rfl (by repeat constructor) _ size30 (by first|rfl|assumption|omega|(simp only [nums_length];omega)|simp [nums_length,zs] <;> omega) (by first|rfl|assumption|omega|(simp only [nums_length];omega)|simp [nums_length,zs] <;> omega) (by first|exact nums_one|assumption|exact on1_ rfl) ?_;clear H;intro W H)
  |((with_reducible refine gate_dst (N := 115) rfl ?_);refine l_load1 rfl H 22 _ rfl _ _ rfl (by repeat constructor) _ Tryd.underlying22 rfl _ (by first|rfl|assumption|exact nums_at _ (by omega)) ?_)
  |((with_reducible refine gate_dst (N := 117) rfl ?_);refine l_load1 rfl H 25 _ rfl _ _ rfl (by repeat constructor) _ Tryd.underlying25 rfl _ (by first|rfl|assumption|exact nums_at _ (by omega)) ?_)
  |((with_reducible refine gate_dst (N := 122) rfl ?_);refine gate_guard (by rfl) ?_;refine l_load1 rfl H 25 _ rfl _ _ rfl (by repeat constructor) _ Tryd.underlying25 rfl _ (by first|rfl|assumption|exact nums_at _ (by omega)) ?_)
  |((with_reducible refine gate_dst (N := 125) rfl ?_);refine gate_guard (by rfl) ?_;refine l_load1 rfl H 25 _ rfl _ _ rfl (by repeat constructor) _ Tryd.underlying25 rfl _ (by first|rfl|assumption|exact nums_at _ (by omega)) ?_)
    |(go_at_call 18;(with_reducible refine (AC _ (Kd.C_below hC H.below) (Kd.C_below hk H.below)).mono ?_);rintro e W ⟨v5,rfl,ho,hb⟩;replace H := H.addRow hb ho;clear ho hb;obtain ⟨A5,c5,rfl⟩ := H.row_slice .head)
    |(go_at_call 11;(with_reducible refine (KR _ _ _ (H.rd (A := A5) (by repeat constructor)).1 (H.rd (A := A5) (by repeat constructor)).2.1).mono ?_);rintro en W ⟨Ar,cr,Ap,cp,L9,rfl,HO⟩;replace H := (H.addOwn HO).perm List.perm_append_comm;clear HO;dsimp only [List.cons_append,List.nil_append] at H)
    |(go_at_call 21;(with_reducible refine (FRC A5 c5 _ (Kd.C_below hC H.below) (H.rd (A := A5) (by repeat constructor)).1 (H.rd (A := A5) (by repeat constructor)).2.1 (hH.below H.below)).mono ?_);rintro e W ⟨rfl,hb⟩;replace H := H.to hb;clear hb)
    |(go_at_call 19;(with_reducible refine (AW _ (hH.below H.below)).mono ?_);rintro e W ⟨rfl,hb⟩;replace H := H.to hb;clear hb))
    go_ret
    exact ⟨rfl,H.below⟩
   ·have q3 : decide (torn ≥ 0) = true := decide_eq_true (by omega)
    have q4 : decide ((0 : Int) ≤ torn) = true := decide_eq_true (by omega)
    have q5 : decide (torn < 16) = false := decide_eq_false (by omega)
    go_enter Tryd.func6,Tryd.ntmps6
    go_wp2_with (first
  |((with_reducible refine gate_dst (N := 2) rfl ?_);refine l_boxA rfl H 44 _ rfl _ rfl ?_;clear H;intro g2 W H)
  |((with_reducible refine gate_dst (N := 3) rfl ?_);refine l_boxA rfl H 46 _ rfl _ rfl ?_;clear H;intro g3 W H)
  |((with_reducible refine gate_dst (N := 18) rfl ?_);refine l_loadA rfl H 44 _ rfl _ rfl (by repeat constructor) _ _ Tryd.underlying44 rfl size44 (by first|rfl|assumption|omega|(simp only [nums_length];omega)|simp [nums_length,zs] <;> omega) ?_)
  |((with_reducible refine gate_dst (N := 19) rfl ?_);refine l_loadA rfl H 46 _ rfl _ rfl (by repeat constructor) _ _ Tryd.underlying46 rfl size46 (by first|rfl|assumption|omega|(simp only [nums_length];omega)|simp [nums_length,zs] <;> omega) ?_)
  |((with_reducible refine gate_dst (N := 28) rfl ?_);refine l_load1 rfl H 3 _ rfl _ _ rfl (by repeat constructor) _ Tryd.underlying3 rfl _ (by first|rfl|assumption|exact nums_at _ (by omega)) ?_)
  |((with_reducible refine gate_dst (N := 32) rfl ?_);refine gate_guard (by rfl) ?_;refine l_load1 rfl H 3 _ rfl _ _ rfl (by repeat constructor) _ Tryd.underlying3 rfl _ (by first|rfl|assumption|exact nums_at _ (by omega)) ?_)
  |((with_reducible refine gate_dst (N := 111) rfl ?_);refine l_load1 rfl H 22 _ rfl _ _ rfl (by repeat constructor) _ Tryd.underlying22 rfl _ (by first|rfl|assumption|exact nums_at _ (by omega)) ?_)
  |((with_reducible refine gate_dst (N := 16) rfl ?_);refine l_allocA rfl H 30 rfl _ zero30 ?_;clear H;intro g16 W H)
  |((with_reducible refine gate_store (t := 30) (p := 16) rfl ?_);refine l_storeW rfl H 30 _ _ rfl _ rfl _ rfl (by repeat constructor) _ size30 (by first|rfl|assumption|omega|(simp only [nums_length];omega)|simp [nums_length,zs] <;> omega) (by first|rfl|assumption|omega|(simp only [nums_length];omega)|simp [nums_length,zs] <;> omega) (by first|exact nums_one|assumption|exact on1_ rfl) ?_;clear H;intro W H)
  |((with_reducible refine gate_dst (N := 115) rfl ?_);refine l_load1 rfl H 22 _ rfl _ _ rfl (by repeat constructor) _ Tryd.underlying22 rfl _ (by first|rfl|assumption|exact nums_at _ (by omega)) ?_)
  |((with_reducible refine gate_dst (N := 117) rfl ?_);refine l_load1 rfl H 25 _ rfl _ _ rfl (by repeat constructor) _ Tryd.underlying25 rfl _ (by first|rfl|assumption|exact nums_at _ (by omega)) ?_)
  |((with_reducible refine gate_dst (N := 122) rfl ?_);refine gate_guard (by rfl) ?_;refine l_load1 rfl H 25 _ rfl _ _ rfl (by repeat constructor) _ Tryd.underlying25 rfl _ (by first|rfl|assumption|exact nums_at _ (by omega)) ?_)
  |((with_reducible refine gate_dst (N := 125) rfl ?_);refine gate_guard (by rfl) ?_;refine l_load1 rfl H 25 _ rfl _ _ rfl (by repeat constructor) _ Tryd.underlying25 rfl _ (by first|rfl|assumption|exact nums_at _ (by omega)) ?_)
    |(go_at_call 18;(with_reducible refine (AC _ (Kd.C_below hC H.below) (Kd.C_below hk H.below)).mono ?_);rintro e W ⟨v5,rfl,ho,hb⟩;replace H := H.addRow hb ho;clear ho hb;obtain ⟨A5,c5,rfl⟩ := H.row_slice .head)
    |(go_at_call 11;(with_reducible refine (KR _ _ _ (H.rd (A := A5) (by repeat constructor)).1 (H.rd (A := A5) (by repeat constructor)).2.1).mono ?_);rintro en W ⟨Ar,cr,Ap,cp,L9,rfl,HO⟩;replace H := (H.addOwn HO).perm List.perm_append_comm;clear HO;dsimp only [List.cons_append,List.nil_append] at H)
    |(go_at_call 21;(with_reducible refine (FRC A5 c5 _ (Kd.C_below hC H.below) (H.rd (A := A5) (by repeat constructor)).1 (H.rd (A := A5) (by repeat constructor)).2.1 (hH.below H.below)).mono ?_);rintro e W ⟨rfl,hb⟩;replace H := H.to hb;clear hb)
    |(go_at_call 19;(with_reducible refine (AW _ (hH.below H.below)).mono ?_);rintro e W ⟨rfl,hb⟩;replace H := H.to hb;clear hb))
    go_ret
    exact ⟨rfl,H.below⟩
  ·obtain ⟨T,rfl⟩ : ∃ T : Nat,torn = (T : Int) := ⟨torn.toNat,by omega⟩
   have hT : T < 16 := by omega
   have q5 : decide ((T : Int) < 16) = true := decide_eq_true (by omega)
   have t0 : ((0 : Int) ≤ (T : Int)) = True := eq_true (by omega)
   have t1 : ((T : Int) < 16) = True := eq_true (by omega)
   have q3 : decide ((T : Int) ≥ 0) = true := decide_eq_true (by omega)
   have q4 : decide ((0 : Int) ≤ (T : Int)) = true := decide_eq_true (by omega)
   clear ht NC
   have hx : ∀ i,i < 64 → (nums .u8 fl)[T * 64 + i]? = some (.int .u8 ((secAt fl T).getD i 0)) := fun i hi => by
    rw [nums_at (T * 64 + i) (by omega)]
    congr 2
    unfold secAt
    rw [Img.getD_take hi,Img.getD_drop,Nat.mul_comm]
   have hy : ∀ i,i < 64 → (nums .u8 fn)[T * 64 + i]? = some (.int .u8 ((secAt fn T).getD i 0)) := fun i hi => by
    rw [nums_at (T * 64 + i) (by omega)]
    congr 2
    unfold secAt
    rw [Img.getD_take hi,Img.getD_drop,Nat.mul_comm]
   have NS2 := fun f t => NS T f t rfl
   clear NS
   generalize secAt fl T = xs at *
   generalize secAt fn T = ys at *
   go_enter Tryd.func6,Tryd.ntmps6
   go_wp2_with (first
  |((with_reducible refine gate_dst (N := 2) rfl ?_);refine l_boxA rfl H 44 _ rfl _ rfl ?_;clear H;intro g2 W H)
  |((with_reducible refine gate_dst (N := 3) rfl ?_);refine l_boxA rfl H 46 _ rfl _ rfl ?_;clear H;intro g3 W H)
  |((with_reducible refine gate_dst (N := 18) rfl ?_);refine l_loadA rfl H 44 _ rfl _ rfl (by repeat constructor) _ _ Tryd.underlying44 rfl size44 (by first|rfl|assumption|omega|(simp only [nums_length];omega)|simp [nums_length,zs] <;> omega) ?_)
  |((with_reducible refine gate_dst (N := 19) rfl ?_);refine l_loadA rfl H 46 _ rfl _ rfl (by repeat constructor) _ _ Tryd.underlying46 rfl size46 (by first|rfl|assumption|omega|(simp only [nums_length];omega)|simp [nums_length,zs] <;> omega) ?_)
  |((with_reducible refine gate_dst (N := 28) rfl ?_);refine l_load1 rfl H 3 _ rfl _ _ rfl (by repeat constructor) _ Tryd.underlying3 rfl _ (by first|rfl|assumption|exact nums_at _ (by omega)) ?_)
  |((with_reducible refine gate_dst (N := 32) rfl ?_);refine gate_guard (by rfl) ?_;refine l_load1 rfl H 3 _ rfl _ _ rfl (by repeat constructor) _ Tryd.underlying3 rfl _ (by first|rfl|assumption|exact nums_at _ (by omega)) ?_)
  |((with_reducible refine gate_dst (N := 39) rfl ?_);refine l_load1 rfl H 22 _ rfl _ _ rfl (by repeat constructor) _ Tryd.underlying22 rfl _ (by first|rfl|assumption|exact nums_at _ (by omega)) ?_)
  |((with_reducible refine gate_dst (N := 41) rfl ?_);refine l_load1 rfl H 25 _ rfl _ _ rfl (by repeat constructor) _ Tryd.underlying25 rfl _ (by first|rfl|assumption|exact nums_at _ (by omega)) ?_)
    |(go_at_call 18;(with_reducible refine (AC _ (Kd.C_below hC H.below) (Kd.C_below hk H.below)).mono ?_);rintro e W ⟨v5,rfl,ho,hb⟩;replace H := H.addRow hb ho;clear ho hb;obtain ⟨A5,c5,rfl⟩ := H.row_slice .head)
    |(go_at_call 15;(with_reducible refine (SC _ (Kd.C_below hC H.below)).mono ?_);rintro e W ⟨v8,rfl,ho,hb⟩;replace H := H.addRow hb ho;clear ho hb;obtain ⟨A8,c8,rfl⟩ := H.row_slice .head)
    |(go_at_call 19;(with_reducible refine (AW _ (hH.below H.below)).mono ?_);rintro e W ⟨rfl,hb⟩;replace H := H.to hb;clear hb))
   obtain ⟨a8,rfl⟩ := (H.rd (A := A8) .head).1.some_ (by rw [nums_length,hfnl];decide)
   obtain ⟨a5,rfl⟩ := (H.rd (A := A5) (.tail .head)).1.some_ (by rw [nums_length,hfl];decide)
   go_loopg [10,11,12] 64 (fun gq v10 v11 v12 w' => ∃ (i : Nat) (f t : Int),v10 = .int .i64 f ∧ v11 = .int .i64 t ∧ v12 = .int .i64 (i : Int) ∧ i + gq = 64 ∧ NearP xs ys i f t ∧ Own w F0 (.row (.slice (some a8) 16 c8) 51 64 16 (nums .u8 fn) :: .row (.slice (some a5) 16 c5) 51 64 16 (nums .u8 fl) :: .blk g3 46 [.slice Ak lk ck,.int .i64 (T : Int),.int .i64 cut] :: .blk g2 44 [.int .u64 e64,.slice A n c,.int .u64 (N : Int)] :: []) w')
   case atStart => exact ⟨0,-1,-1,rfl,rfl,rfl,rfl,⟨fun k hk => absurd hk (by omega),.inl ⟨rfl,rfl⟩⟩,H⟩
   case round =>
    clear H
    obtain ⟨i,f,t,rfl,rfl,rfl,hi,hP,H⟩ := hrel
    by_cases ci : i < 64
    ·obtain ⟨gi',rfl⟩ : ∃ q,gk = q + 1 := ⟨gk - 1,by omega⟩
     have q6 : decide ((i : Int) < 64) = true := decide_eq_true (by omega)
     have p0 : ((0 : Int) ≤ (i : Int)) = True := eq_true (by omega)
     have p1 : ((i : Int) < 64) = True := eq_true (by omega)
     have hcx := hx i ci
     have hcy := hy i ci
     have w1' : wrap64 ((i : Int) + 1) = ((i + 1 : Nat) : Int) := by rw [w64 (by omega) (by omega)];omega
     by_cases hxy : xs.getD i 0 = ys.getD i 0
     ·have hP2 := hP.same hxy
      rw [← hxy] at hcy
      generalize xs.getD i 0 = z at hcx hcy
      clear hxy hP
      go_wp2_with fail
      refine start_ (n := 15) (S := Own _ _ _) (ds := []) #[f_,f_,f_,f_,f_,f_,f_,f_,f_,f_,f_,f_,f_,f_,f_] (by kernel_rfl) rfl rfl H.drew (fun hZ => ?_)
      replace H := H.drew
      generalize World.drew _ = W at H hZ ⊢
      refine pure_ (i := 0) (N := some 49) #[t_,f_,f_,f_,f_,f_,f_,f_,f_,f_,f_,f_,f_,f_,f_] rfl rfl (by kernel_rfl) (fun _ _ _ h => h) (Or.inl ⟨by rfl,by intro w';go_simp;with_reducible rfl⟩) (by simp only [ps_];rfl) ?_
      refine pure_ (i := 1) (N := some 50) #[t_,t_,f_,f_,f_,f_,f_,f_,f_,f_,f_,f_,f_,f_,f_] rfl rfl (by kernel_rfl) (fun _ _ _ h => h) (Or.inl ⟨by rfl,by intro w';go_simp;with_reducible rfl⟩) (by simp only [ps_];rfl) ?_
      refine pure_ (i := 3) (N := some 52) #[t_,t_,f_,t_,f_,f_,f_,f_,f_,f_,f_,f_,f_,f_,f_] rfl rfl (by kernel_rfl) (fun _ _ _ h => h) (Or.inl ⟨by rfl,by intro w';go_simp;with_reducible rfl⟩) (by simp only [ps_];rfl) ?_
      refine pure_ (i := 7) (N := some 56) #[t_,t_,f_,t_,f_,f_,f_,t_,f_,f_,f_,f_,f_,f_,f_] rfl rfl (by kernel_rfl) (fun _ _ _ h => h) (Or.inl ⟨by rfl,by intro w';go_simp;with_reducible rfl⟩) (by simp only [ps_];rfl) ?_
      refine pure_ (i := 8) (N := some 57) #[t_,t_,f_,t_,f_,f_,f_,t_,t_,f_,f_,f_,f_,f_,f_] rfl rfl (by kernel_rfl) (fun _ _ _ h => h) (Or.inl ⟨by rfl,by intro w';go_simp;with_reducible rfl⟩) (by simp only [ps_];rfl) ?_
      refine pure_ (i := 10) (N := some 59) #[t_,t_,f_,t_,f_,f_,f_,t_,t_,f_,t_,f_,f_,f_,f_] rfl rfl (by kernel_rfl) (fun _ _ _ h => h) (Or.inl ⟨by rfl,by intro w';go_simp;with_reducible rfl⟩) (by simp only [ps_];rfl) ?_
      refine take_run (i := 2) (N := some 51) #[t_,t_,t_,t_,f_,f_,f_,t_,t_,f_,t_,f_,f_,f_,f_] rfl rfl (by kernel_rfl) (fun _ _ _ _ h => h) (by rfl) hZ (.int .i64 (T : Int)) (fun X HX => r_load1 HX 3 _ rfl g3 1 rfl (by repeat constructor) _ Tryd.underlying3 rfl _ rfl) (by simp only [ps_];rfl) ?_
      refine pure_ (i := 4) (N := some 53) #[t_,t_,t_,t_,t_,f_,f_,t_,t_,f_,t_,f_,f_,f_,f_] rfl rfl (by kernel_rfl) (fun _ _ _ h => h) (Or.inl ⟨by rfl,by intro w';go_simp;with_reducible rfl⟩) (by simp only [ps_];rfl) ?_
      refine pure_ (i := 5) (N := some 54) #[t_,t_,t_,t_,t_,t_,f_,t_,t_,f_,t_,f_,f_,f_,f_] rfl rfl (by kernel_rfl) (fun _ _ _ h => h) (Or.inl ⟨by rfl,by intro w';go_simp;with_reducible rfl⟩) (by simp only [ps_];rfl) ?_
      refine take_run (i := 6) (N := some 55) #[t_,t_,t_,t_,t_,t_,t_,t_,t_,f_,t_,f_,f_,f_,f_] rfl rfl (by kernel_rfl) (fun _ _ _ _ h => h) (by rfl) hZ (.int .u8 z) (fun X HX => r_load64 5 _ rfl (T * 64) i rfl (HX.rd (A := some a5) (by repeat constructor)).1 _ Tryd.underlying5 rfl _ hcx) (by simp only [ps_];rfl) ?_
      refine take_run (i := 9) (N := some 58) #[t_,t_,t_,t_,t_,t_,t_,t_,t_,t_,t_,f_,f_,f_,f_] rfl rfl (by kernel_rfl) (fun _ _ _ _ h => h) (by rfl) hZ (.int .i64 (T : Int)) (fun X HX => r_load1 HX 3 _ rfl g3 1 rfl (by repeat constructor) _ Tryd.underlying3 rfl _ rfl) (by simp only [ps_];rfl) ?_
      refine pure_ (i := 11) (N := some 60) #[t_,t_,t_,t_,t_,t_,t_,t_,t_,t_,t_,t_,f_,f_,f_] rfl rfl (by kernel_rfl) (fun _ _ _ h => h) (Or.inl ⟨by rfl,by intro w';go_simp;with_reducible rfl⟩) (by simp only [ps_];rfl) ?_
      refine pure_ (i := 12) (N := some 61) #[t_,t_,t_,t_,t_,t_,t_,t_,t_,t_,t_,t_,t_,f_,f_] rfl rfl (by kernel_rfl) (fun _ _ _ h => h) (Or.inl ⟨by rfl,by intro w';go_simp;with_reducible rfl⟩) (by simp only [ps_];rfl) ?_
      refine take_run (i := 13) (N := some 62) #[t_,t_,t_,t_,t_,t_,t_,t_,t_,t_,t_,t_,t_,t_,f_] rfl rfl (by kernel_rfl) (fun _ _ _ _ h => h) (by rfl) hZ (.int .u8 z) (fun X HX => r_load64 5 _ rfl (T * 64) i rfl (HX.rd (A := some a8) (by repeat constructor)).1 _ Tryd.underlying5 rfl _ hcy) (by simp only [ps_];rfl) ?_
      refine pure_ (i := 14) (N := some 63) #[t_,t_,t_,t_,t_,t_,t_,t_,t_,t_,t_,t_,t_,t_,t_] rfl rfl (by kernel_rfl) (fun _ _ _ h => h) (Or.inl ⟨by rfl,by intro w';go_simp;with_reducible rfl⟩) (by simp only [ps_];rfl) ?_
      refine done_ (by kernel_rfl) ?_
      clear hZ
      go_wp2_with fail
      go_roundg gi'
      case measure => omega
      case rel => exact ⟨i + 1,f,t,rfl,rfl,by go_num,by omega,hP2,H⟩
     ·have q7 : (xs.getD i 0 != ys.getD i 0) = true := by simpa using hxy
      by_cases hf0 : f < 0
      ·have hP2 := hP.first hf0 hxy
       have q8 : decide (f < 0) = true := decide_eq_true hf0
       generalize xs.getD i 0 = z at *
       generalize ys.getD i 0 = y at *
       clear hxy hP
       go_wp2_with fail
       refine start_ (n := 15) (S := Own _ _ _) (ds := []) #[f_,f_,f_,f_,f_,f_,f_,f_,f_,f_,f_,f_,f_,f_,f_] (by kernel_rfl) rfl rfl H.drew (fun hZ => ?_)
       replace H := H.drew
       generalize World.drew _ = W at H hZ ⊢
       refine pure_ (i := 0) (N := some 49) #[t_,f_,f_,f_,f_,f_,f_,f_,f_,f_,f_,f_,f_,f_,f_] rfl rfl (by kernel_rfl) (fun _ _ _ h => h) (Or.inl ⟨by rfl,by intro w';go_simp;with_reducible rfl⟩) (by simp only [ps_];rfl) ?_
       refine pure_ (i := 1) (N := some 50) #[t_,t_,f_,f_,f_,f_,f_,f_,f_,f_,f_,f_,f_,f_,f_] rfl rfl (by kernel_rfl) (fun _ _ _ h => h) (Or.inl ⟨by rfl,by intro w';go_simp;with_reducible rfl⟩) (by simp only [ps_];rfl) ?_
       refine pure_ (i := 3) (N := some 52) #[t_,t_,f_,t_,f_,f_,f_,f_,f_,f_,f_,f_,f_,f_,f_] rfl rfl (by kernel_rfl) (fun _ _ _ h => h) (Or.inl ⟨by rfl,by intro w';go_simp;with_reducible rfl⟩) (by simp only [ps_];rfl) ?_
       refine pure_ (i := 7) (N := some 56) #[t_,t_,f_,t_,f_,f_,f_,t_,f_,f_,f_,f_,f_,f_,f_] rfl rfl (by kernel_rfl) (fun _ _ _ h => h) (Or.inl ⟨by rfl,by intro w';go_simp;with_reducible rfl⟩) (by simp only [ps_];rfl) ?_
       refine pure_ (i := 8) (N := some 57) #[t_,t_,f_,t_,f_,f_,f_,t_,t_,f_,f_,f_,f_,f_,f_] rfl rfl (by kernel_rfl) (fun _ _ _ h => h) (Or.inl ⟨by rfl,by intro w';go_simp;with_reducible rfl⟩) (by simp only [ps_];rfl) ?_
       refine pure_ (i := 10) (N := some 59) #[t_,t_,f_,t_,f_,f_,f_,t_,t_,f_,t_,f_,f_,f_,f_] rfl rfl (by kernel_rfl) (fun _ _ _ h => h) (Or.inl ⟨by rfl,by intro w';go_simp;with_reducible rfl⟩) (by simp only [ps_];rfl) ?_
       refine take_run (i := 2) (N := some 51) #[t_,t_,t_,t_,f_,f_,f_,t_,t_,f_,t_,f_,f_,f_,f_] rfl rfl (by kernel_rfl) (fun _ _ _ _ h => h) (by rfl) hZ (.int .i64 (T : Int)) (fun X HX => r_load1 HX 3 _ rfl g3 1 rfl (by repeat constructor) _ Tryd.underlying3 rfl _ rfl) (by simp only [ps_];rfl) ?_
       refine pure_ (i := 4) (N := some 53) #[t_,t_,t_,t_,t_,f_,f_,t_,t_,f_,t_,f_,f_,f_,f_] rfl rfl (by kernel_rfl) (fun _ _ _ h => h) (Or.inl ⟨by rfl,by intro w';go_simp;with_reducible rfl⟩) (by simp only [ps_];rfl) ?_
       refine pure_ (i := 5) (N := some 54) #[t_,t_,t_,t_,t_,t_,f_,t_,t_,f_,t_,f_,f_,f_,f_] rfl rfl (by kernel_rfl) (fun _ _ _ h => h) (Or.inl ⟨by rfl,by intro w';go_simp;with_reducible rfl⟩) (by simp only [ps_];rfl) ?_
       refine take_run (i := 6) (N := some 55) #[t_,t_,t_,t_,t_,t_,t_,t_,t_,f_,t_,f_,f_,f_,f_] rfl rfl (by kernel_rfl) (fun _ _ _ _ h => h) (by rfl) hZ (.int .u8 z) (fun X HX => r_load64 5 _ rfl (T * 64) i rfl (HX.rd (A := some a5) (by repeat constructor)).1 _ Tryd.underlying5 rfl _ hcx) (by simp only [ps_];rfl) ?_
       refine take_run (i := 9) (N := some 58) #[t_,t_,t_,t_,t_,t_,t_,t_,t_,t_,t_,f_,f_,f_,f_] rfl rfl (by kernel_rfl) (fun _ _ _ _ h => h) (by rfl) hZ (.int .i64 (T : Int)) (fun X HX => r_load1 HX 3 _ rfl g3 1 rfl (by repeat constructor) _ Tryd.underlying3 rfl _ rfl) (by simp only [ps_];rfl) ?_
       refine pure_ (i := 11) (N := some 60) #[t_,t_,t_,t_,t_,t_,t_,t_,t_,t_,t_,t_,f_,f_,f_] rfl rfl (by kernel_rfl) (fun _ _ _ h => h) (Or.inl ⟨by rfl,by intro w';go_simp;with_reducible rfl⟩) (by simp only [ps_];rfl) ?_
       refine pure_ (i := 12) (N := some 61) #[t_,t_,t_,t_,t_,t_,t_,t_,t_,t_,t_,t_,t_,f_,f_] rfl rfl (by kernel_rfl) (fun _ _ _ h => h) (Or.inl ⟨by rfl,by intro w';go_simp;with_reducible rfl⟩) (by simp only [ps_];rfl) ?_
       refine take_run (i := 13) (N := some 62) #[t_,t_,t_,t_,t_,t_,t_,t_,t_,t_,t_,t_,t_,t_,f_] rfl rfl (by kernel_rfl) (fun _ _ _ _ h => h) (by rfl) hZ (.int .u8 y) (fun X HX => r_load64 5 _ rfl (T * 64) i rfl (HX.rd (A := some a8) (by repeat constructor)).1 _ Tryd.underlying5 rfl _ hcy) (by simp only [ps_];rfl) ?_
       refine pure_ (i := 14) (N := some 63) #[t_,t_,t_,t_,t_,t_,t_,t_,t_,t_,t_,t_,t_,t_,t_] rfl rfl (by kernel_rfl) (fun _ _ _ h => h) (Or.inl ⟨by rfl,by intro w';go_simp;with_reducible rfl⟩) (by simp only [ps_];rfl) ?_
       refine done_ (by kernel_rfl) ?_
       clear hZ
       go_wp2_with fail
       go_roundg gi'
       case measure => omega
       case rel => exact ⟨i + 1,(i : Int),(i : Int),rfl,rfl,by go_num,by omega,hP2,H⟩
      ·have hP2 := hP.next (by omega) hxy
       have q8 : decide (f < 0) = false := decide_eq_false hf0
       generalize xs.getD i 0 = z at *
       generalize ys.getD i 0 = y at *
       clear hxy hP
       go_wp2_with fail
       refine start_ (n := 15) (S := Own _ _ _) (ds := []) #[f_,f_,f_,f_,f_,f_,f_,f_,f_,f_,f_,f_,f_,f_,f_] (by kernel_rfl) rfl rfl H.drew (fun hZ => ?_)
       replace H := H.drew
       generalize World.drew _ = W at H hZ ⊢
       refine pure_ (i := 0) (N := some 49) #[t_,f_,f_,f_,f_,f_,f_,f_,f_,f_,f_,f_,f_,f_,f_] rfl rfl (by kernel_rfl) (fun _ _ _ h => h) (Or.inl ⟨by rfl,by intro w';go_simp;with_reducible rfl⟩) (by simp only [ps_];rfl) ?_
       refine pure_ (i := 1) (N := some 50) #[t_,t_,f_,f_,f_,f_,f_,f_,f_,f_,f_,f_,f_,f_,f_] rfl rfl (by kernel_rfl) (fun _ _ _ h => h) (Or.inl ⟨by rfl,by intro w';go_simp;with_reducible rfl⟩) (by simp only [ps_];rfl) ?_
       refine pure_ (i := 3) (N := some 52) #[t_,t_,f_,t_,f_,f_,f_,f_,f_,f_,f_,f_,f_,f_,f_] rfl rfl (by kernel_rfl) (fun _ _ _ h => h) (Or.inl ⟨by rfl,by intro w';go_simp;with_reducible rfl⟩) (by simp only [ps_];rfl) ?_
       refine pure_ (i := 7) (N := some 56) #[t_,t_,f_,t_,f_,f_,f_,t_,f_,f_,f_,f_,f_,f_,f_] rfl rfl (by kernel_rfl) (fun _ _ _ h => h) (Or.inl ⟨by rfl,by intro w';go_simp;with_reducible rfl⟩) (by simp only [ps_];rfl) ?_
       refine pure_ (i := 8) (N := some 57) #[t_,t_,f_,t_,f_,f_,f_,t_,t_,f_,f_,f_,f_,f_,f_] rfl rfl (by kernel_rfl) (fun _ _ _ h => h) (Or.inl ⟨by rfl,by intro w';go_simp;with_reducible rfl⟩) (by simp only [ps_];rfl) ?_
       refine pure_ (i := 10) (N := some 59) #[t_,t_,f_,t_,f_,f_,f_,t_,t_,f_,t_,f_,f_,f_,f_] rfl rfl (by kernel_rfl) (fun _ _ _ h => h) (Or.inl ⟨by rfl,by intro w';go_simp;with_reducible rfl⟩) (by simp only [ps_];rfl) ?_
       refine take_run (i := 2) (N := some 51) #[t_,t_,t_,t_,f_,f_,f_,t_,t_,f_,t_,f_,f_,f_,f_] rfl rfl (by kernel_rfl) (fun _ _ _ _ h => h) (by rfl) hZ (.int .i64 (T : Int)) (fun X HX => r_load1 HX 3 _ rfl g3 1 rfl (by repeat constructor) _ Tryd.underlying3 rfl _ rfl) (by simp only [ps_];rfl) ?_
       refine pure_ (i := 4) (N := some 53) #[t_,t_,t_,t_,t_,f_,f_,t_,t_,f_,t_,f_,f_,f_,f_] rfl rfl (by kernel_rfl) (fun _ _ _ h => h) (Or.inl ⟨by rfl,by intro w';go_simp;with_reducible rfl⟩) (by simp only [ps_];rfl) ?_
       refine pure_ (i := 5) (N := some 54) #[t_,t_,t_,t_,t_,t_,f_,t_,t_,f_,t_,f_,f_,f_,f_] rfl rfl (by kernel_rfl) (fun _ _ _ h => h) (Or.inl ⟨by rfl,by intro w';go_simp;with_reducible rfl⟩) (by simp only [ps_];rfl) ?_
       refine take_run (i := 6) (N := some 55) #[t_,t_,t_,t_,t_,t_,t_,t_,t_,f_,t_,f_,f_,f_,f_] rfl rfl (by kernel_rfl) (fun _ _ _ _ h => h) (by rfl) hZ (.int .u8 z) (fun X HX => r_load64 5 _ rfl (T * 64) i rfl (HX.rd (A := some a5) (by repeat constructor)).1 _ Tryd.underlying5 rfl _ hcx) (by simp only [ps_];rfl) ?_
       refine take_run (i := 9) (N := some 58) #[t_,t_,t_,t_,t_,t_,t_,t_,t_,t_,t_,f_,f_,f_,f_] rfl rfl (by kernel_rfl) (fun _ _ _ _ h => h) (by rfl) hZ (.int .i64 (T : Int)) (fun X HX => r_load1 HX 3 _ rfl g3 1 rfl (by repeat constructor) _ Tryd.underlying3 rfl _ rfl) (by simp only [ps_];rfl) ?_
       refine pure_ (i := 11) (N := some 60) #[t_,t_,t_,t_,t_,t_,t_,t_,t_,t_,t_,t_,f_,f_,f_] rfl rfl (by kernel_rfl) (fun _ _ _ h => h) (Or.inl ⟨by rfl,by intro w';go_simp;with_reducible rfl⟩) (by simp only [ps_];rfl) ?_
       refine pure_ (i := 12) (N := some 61) #[t_,t_,t_,t_,t_,t_,t_,t_,t_,t_,t_,t_,t_,f_,f_] rfl rfl (by kernel_rfl) (fun _ _ _ h => h) (Or.inl ⟨by rfl,by intro w';go_simp;with_reducible rfl⟩) (by simp only [ps_];rfl) ?_
       refine take_run (i := 13) (N := some 62) #[t_,t_,t_,t_,t_,t_,t_,t_,t_,t_,t_,t_,t_,t_,f_] rfl rfl (by kernel_rfl) (fun _ _ _ _ h => h) (by rfl) hZ (.int .u8 y) (fun X HX => r_load64 5 _ rfl (T * 64) i rfl (HX.rd (A := some a8) (by repeat constructor)).1 _ Tryd.underlying5 rfl _ hcy) (by simp only [ps_];rfl) ?_
       refine pure_ (i := 14) (N := some 63) #[t_,t_,t_,t_,t_,t_,t_,t_,t_,t_,t_,t_,t_,t_,t_] rfl rfl (by kernel_rfl) (fun _ _ _ h => h) (Or.inl ⟨by rfl,by intro w';go_simp;with_reducible rfl⟩) (by simp only [ps_];rfl) ?_
       refine done_ (by kernel_rfl) ?_
       clear hZ
       go_wp2_with fail
       go_roundg gi'
       case measure => omega
       case rel => exact ⟨i + 1,f,(i : Int),rfl,rfl,by go_num,by omega,hP2,H⟩
    ·obtain rfl : i = 64 := by omega
     have q6 : decide ((64 : Int) < 64) = false := by decide
     clear hx hy
     have hft : -1 ≤ f ∧ f ≤ 63 ∧ -1 ≤ t ∧ t ≤ 63 := by rcases hP.2 with ⟨h1,h2⟩|⟨h1,h2,h3⟩ <;> omega
     have w2 : wrap64 (t - f) = t - f := w64 (by omega) (by omega)
     by_cases h3 : t - f ≤ 3
     ·have q7 : decide (t - f > 3) = false := decide_eq_false (by omega)
      have q8 : decide ((3 : Int) < t - f) = false := decide_eq_false (by omega)
      have NS3 := NS2 f t hP h3
      clear NS2 hP
      generalize hm2 : lens.length = m2 at *
      go_wp2_with (first
  |((with_reducible refine gate_dst (N := 74) rfl ?_);refine l_load1 rfl H 25 _ rfl _ _ rfl (by repeat constructor) _ Tryd.underlying25 rfl _ (by first|rfl|assumption|exact nums_at _ (by omega)) ?_)
       |(go_at_call 20;(with_reducible refine (LC _ (Kd.C_below hC H.below)).mono ?_);rintro e W ⟨v13,rfl,hR,hb⟩;replace H := H.addR hb hR;rw [hm2] at H;clear hb hR;obtain ⟨A13,c13,rfl⟩ := H.row_slice .head))
      go_loopg [14] m2 (fun gq v14 w' => ∃ j : Nat,v14 = .int .i64 (j : Int) ∧ j + gq = m2 ∧ (∀ i,i < j → ¬ (lens.getD i 0 / 52 = (T : Int) ∧ f ≤ lens.getD i 0 - 52 * (T : Int) + 12 ∧ lens.getD i 0 - 52 * (T : Int) + 12 ≤ t)) ∧ Own w F0 (.row (.slice A13 m2 c13) 3 1 m2 (nums .i64 lens) :: .row (.slice (some a8) 16 c8) 51 64 16 (nums .u8 fn) :: .row (.slice (some a5) 16 c5) 51 64 16 (nums .u8 fl) :: .blk g3 46 [.slice Ak lk ck,.int .i64 (T : Int),.int .i64 cut] :: .blk g2 44 [.int .u64 e64,.slice A n c,.int .u64 (N : Int)] :: []) w')
      case atStart => exact ⟨0,rfl,by omega,fun i hi => absurd hi (Nat.not_lt_zero i),H⟩
      case round =>
       clear H
       obtain ⟨j,rfl,hj,hOK,H⟩ := hrel
       by_cases cj : j < m2
       ·obtain ⟨gj',rfl⟩ : ∃ q,gk = q + 1 := ⟨gk - 1,by omega⟩
        have q9 : decide (j < m2) = true := decide_eq_true cj
        have r0 : ((0 : Int) ≤ (j : Int)) = True := eq_true (by omega)
        have r1 : ((j : Int) < (m2 : Int)) = True := eq_true (by omega)
        have hz : (nums .i64 lens)[j]? = some (.int .i64 (lens.getD j 0)) := nums_at j (by omega)
        have hlb := hLi (lens.getD j 0) (by rw [List.getD_eq_getElem?_getD,List.getElem?_eq_getElem (by omega)];exact List.getElem_mem _)
        have hnx : ¬ (lens.getD j 0 / 52 = (T : Int) ∧ f ≤ lens.getD j 0 - 52 * (T : Int) + 12 ∧ lens.getD j 0 - 52 * (T : Int) + 12 ≤ t) → ∀ i,i < j + 1 → ¬ (lens.getD i 0 / 52 = (T : Int) ∧ f ≤ lens.getD i 0 - 52 * (T : Int) + 12 ∧ lens.getD i 0 - 52 * (T : Int) + 12 ≤ t) := fun h i hi => by
         by_cases e : i = j
         ·subst e;exact h
         ·exact hOK i (by omega)
        clear hOK
        generalize lens.getD j 0 = q at hz hlb hnx
        obtain ⟨a13,rfl⟩ := (H.rd (A := A13) .head).1.some_ (by rw [nums_length];omega)
        obtain ⟨M,hM⟩ : ∃ M : Nat,52 * T = M := ⟨_,rfl⟩
        obtain ⟨v,hv⟩ : ∃ v : Int,q - 52 * (T : Int) + 12 = v := ⟨_,rfl⟩
        obtain ⟨d9,hd9⟩ : ∃ d : Int,q / 52 = d := ⟨_,rfl⟩
        rw [hv,hd9] at hnx
        have w3 : wrap64 (52 * (T : Int)) = (M : Int) := by rw [w64 (by omega) (by omega)];omega
        have w4 : wrap64 (q - (M : Int)) = q - (M : Int) := w64 (by omega) (by omega)
        have w5 : wrap64 (q - (M : Int) + 12) = v := by rw [w64 (by omega) (by omega)];omega
        have w6 : q.tdiv 52 = d9 := by rw [Int.tdiv_eq_ediv_of_nonneg (by omega)];exact hd9
        have w7 : wrap64 d9 = d9 := w64 (by omega) (by omega)
        have w8 : wrap64 (T : Int) = (T : Int) := w64 (by omega) (by omega)
        clear hM hv hd9
        go_wp2_with fail
        refine start_ (n := 10) (S := Own _ _ _) (ds := []) #[f_,f_,f_,f_,f_,f_,f_,f_,f_,f_] (by kernel_rfl) rfl rfl H.drew (fun hZ => ?_)
        replace H := H.drew
        generalize World.drew _ = W at H hZ ⊢
        refine pure_ (i := 0) (N := some 82) #[t_,f_,f_,f_,f_,f_,f_,f_,f_,f_] rfl rfl (by kernel_rfl) (fun _ _ _ h => h) (Or.inl ⟨by rfl,by intro w';go_simp;with_reducible rfl⟩) (by simp only [ps_];rfl) ?_
        refine pure_ (i := 1) (N := some 83) #[t_,t_,f_,f_,f_,f_,f_,f_,f_,f_] rfl rfl (by kernel_rfl) (fun _ _ _ h => h) (Or.inl ⟨by rfl,by intro w';go_simp;with_reducible rfl⟩) (by simp only [ps_];rfl) ?_
        refine pure_ (i := 2) (N := some 84) #[t_,t_,t_,f_,f_,f_,f_,f_,f_,f_] rfl rfl (by kernel_rfl) (fun _ _ _ h => h) (Or.inl ⟨by rfl,by intro w';go_simp;with_reducible rfl⟩) (by simp only [ps_];rfl) ?_
        refine pure_ (i := 4) (N := some 86) #[t_,t_,t_,f_,t_,f_,f_,f_,f_,f_] rfl rfl (by kernel_rfl) (fun _ _ _ h => h) (Or.inl ⟨by rfl,by intro w';go_simp;with_reducible rfl⟩) (by simp only [ps_];rfl) ?_
        refine take_run (i := 3) (N := some 85) #[t_,t_,t_,t_,t_,f_,f_,f_,f_,f_] rfl rfl (by kernel_rfl) (fun _ _ _ _ h => h) (by rfl) hZ (.int .i64 q) (fun X HX => r_loadRd1 3 _ rfl j rfl (HX.rd (A := some a13) .head).1 _ Tryd.underlying3 rfl _ hz) (by simp only [ps_];rfl) ?_
        refine take_run (i := 5) (N := some 87) #[t_,t_,t_,t_,t_,t_,f_,f_,f_,f_] rfl rfl (by kernel_rfl) (fun _ _ _ _ h => h) (by rfl) hZ (.int .i64 (T : Int)) (fun X HX => r_load1 HX 3 _ rfl g3 1 rfl (by repeat constructor) _ Tryd.underlying3 rfl _ rfl) (by simp only [ps_];rfl) ?_
        refine pure_ (i := 6) (N := some 88) #[t_,t_,t_,t_,t_,t_,t_,f_,f_,f_] rfl rfl (by kernel_rfl) (fun _ _ _ h => h) (Or.inl ⟨by rfl,by intro w';go_simp;with_reducible rfl⟩) (by simp only [ps_];rfl) ?_
        refine pure_ (i := 7) (N := some 89) #[t_,t_,t_,t_,t_,t_,t_,t_,f_,f_] rfl rfl (by kernel_rfl) (fun _ _ _ h => h) (Or.inl ⟨by rfl,by intro w';go_simp;with_reducible rfl⟩) (by simp only [ps_];rfl) ?_
        refine pure_ (i := 8) (N := some 90) #[t_,t_,t_,t_,t_,t_,t_,t_,t_,f_] rfl rfl (by kernel_rfl) (fun _ _ _ h => h) (Or.inl ⟨by rfl,by intro w';go_simp;with_reducible rfl⟩) (by simp only [ps_];rfl) ?_
        refine pure_ (i := 9) (N := some 15) #[t_,t_,t_,t_,t_,t_,t_,t_,t_,t_] rfl rfl (by kernel_rfl) (fun _ _ _ h => h) (Or.inl ⟨by rfl,by intro w';go_simp;with_reducible rfl⟩) (by simp only [ps_];rfl) ?_
        refine done_ (by kernel_rfl) ?_
        clear hZ
        by_cases c1 : d9 = (T : Int)
        ·have u1 : (d9 == (T : Int)) = true := by simpa using c1
         by_cases c2 : f ≤ v
         ·have u2 : decide (f ≤ v) = true := decide_eq_true c2
          have u3 : decide (v ≥ f) = true := decide_eq_true c2
          by_cases c3 : v ≤ t
          ·have u4 : decide (v ≤ t) = true := decide_eq_true c3
           clear hnx
           go_wp2_with fail
           refine start_ (n := 18) (S := Own _ _ _) (ds := []) #[f_,f_,f_,f_,f_,f_,f_,f_,f_,f_,f_,f_,f_,f_,f_,f_,f_,f_] (by kernel_rfl) rfl rfl H.drew (fun hZ => ?_)
           replace H := H.drew
           generalize World.drew _ = W at H hZ ⊢
           refine pure_ (i := 0) (N := some 91) #[t_,f_,f_,f_,f_,f_,f_,f_,f_,f_,f_,f_,f_,f_,f_,f_,f_,f_] rfl rfl (by kernel_rfl) (fun _ _ _ h => h) (Or.inl ⟨by rfl,by intro w';go_simp;with_reducible rfl⟩) (by simp only [ps_];rfl) ?_
           refine pure_ (i := 1) (N := some 92) #[t_,t_,f_,f_,f_,f_,f_,f_,f_,f_,f_,f_,f_,f_,f_,f_,f_,f_] rfl rfl (by kernel_rfl) (fun _ _ _ h => h) (Or.inl ⟨by rfl,by intro w';go_simp;with_reducible rfl⟩) (by simp only [ps_];rfl) ?_
           refine pure_ (i := 2) (N := some 93) #[t_,t_,t_,f_,f_,f_,f_,f_,f_,f_,f_,f_,f_,f_,f_,f_,f_,f_] rfl rfl (by kernel_rfl) (fun _ _ _ h => h) (Or.inl ⟨by rfl,by intro w';go_simp;with_reducible rfl⟩) (by simp only [ps_];rfl) ?_
           refine pure_ (i := 5) (N := some 96) #[t_,t_,t_,f_,f_,t_,f_,f_,f_,f_,f_,f_,f_,f_,f_,f_,f_,f_] rfl rfl (by kernel_rfl) (fun _ _ _ h => h) (Or.inl ⟨by rfl,by intro w';go_simp;with_reducible rfl⟩) (by simp only [ps_];rfl) ?_
           refine take_run (i := 3) (N := some 94) #[t_,t_,t_,t_,f_,t_,f_,f_,f_,f_,f_,f_,f_,f_,f_,f_,f_,f_] rfl rfl (by kernel_rfl) (fun _ _ _ _ h => h) (by rfl) hZ (.int .i64 q) (fun X HX => r_loadRd1 3 _ rfl j rfl (HX.rd (A := some a13) .head).1 _ Tryd.underlying3 rfl _ hz) (by simp only [ps_];rfl) ?_
           refine pure_ (i := 4) (N := some 95) #[t_,t_,t_,t_,t_,t_,f_,f_,f_,f_,f_,f_,f_,f_,f_,f_,f_,f_] rfl rfl (by kernel_rfl) (fun _ _ _ h => h) (Or.inl ⟨by rfl,by intro w';go_simp;with_reducible rfl⟩) (by simp only [ps_];rfl) ?_
           refine take_run (i := 6) (N := some 97) #[t_,t_,t_,t_,t_,t_,t_,f_,f_,f_,f_,f_,f_,f_,f_,f_,f_,f_] rfl rfl (by kernel_rfl) (fun _ _ _ _ h => h) (by rfl) hZ (.int .i64 (T : Int)) (fun X HX => r_load1 HX 3 _ rfl g3 1 rfl (by repeat constructor) _ Tryd.underlying3 rfl _ rfl) (by simp only [ps_];rfl) ?_
           refine pure_ (i := 7) (N := some 98) #[t_,t_,t_,t_,t_,t_,t_,t_,f_,f_,f_,f_,f_,f_,f_,f_,f_,f_] rfl rfl (by kernel_rfl) (fun _ _ _ h => h) (Or.inl ⟨by rfl,by intro w';go_simp;with_reducible rfl⟩) (by simp only [ps_];rfl) ?_
           refine pure_ (i := 8) (N := some 99) #[t_,t_,t_,t_,t_,t_,t_,t_,t_,f_,f_,f_,f_,f_,f_,f_,f_,f_] rfl rfl (by kernel_rfl) (fun _ _ _ h => h) (Or.inl ⟨by rfl,by intro w';go_simp;with_reducible rfl⟩) (by simp only [ps_];rfl) ?_
           refine pure_ (i := 9) (N := some 100) #[t_,t_,t_,t_,t_,t_,t_,t_,t_,t_,f_,f_,f_,f_,f_,f_,f_,f_] rfl rfl (by kernel_rfl) (fun _ _ _ h => h) (Or.inl ⟨by rfl,by intro w';go_simp;with_reducible rfl⟩) (by simp only [ps_];rfl) ?_
           refine pure_ (i := 10) (N := some 101) #[t_,t_,t_,t_,t_,t_,t_,t_,t_,t_,t_,f_,f_,f_,f_,f_,f_,f_] rfl rfl (by kernel_rfl) (fun _ _ _ h => h) (Or.inl ⟨by rfl,by intro w';go_simp;with_reducible rfl⟩) (by simp only [ps_];rfl) ?_
           refine pure_ (i := 11) (N := some 102) #[t_,t_,t_,t_,t_,t_,t_,t_,t_,t_,t_,t_,f_,f_,f_,f_,f_,f_] rfl rfl (by kernel_rfl) (fun _ _ _ h => h) (Or.inl ⟨by rfl,by intro w';go_simp;with_reducible rfl⟩) (by simp only [ps_];rfl) ?_
           refine pure_ (i := 12) (N := some 103) #[t_,t_,t_,t_,t_,t_,t_,t_,t_,t_,t_,t_,t_,f_,f_,f_,f_,f_] rfl rfl (by kernel_rfl) (fun _ _ _ h => h) (Or.inl ⟨by rfl,by intro w';go_simp;with_reducible rfl⟩) (by simp only [ps_];rfl) ?_
           refine pure_ (i := 13) (N := some 104) #[t_,t_,t_,t_,t_,t_,t_,t_,t_,t_,t_,t_,t_,t_,f_,f_,f_,f_] rfl rfl (by kernel_rfl) (fun _ _ _ h => h) (Or.inl ⟨by rfl,by intro w';go_simp;with_reducible rfl⟩) (by simp only [ps_];rfl) ?_
           refine pure_ (i := 14) (N := some 105) #[t_,t_,t_,t_,t_,t_,t_,t_,t_,t_,t_,t_,t_,t_,t_,f_,f_,f_] rfl rfl (by kernel_rfl) (fun _ _ _ h => h) (Or.inl ⟨by rfl,by intro w';go_simp;with_reducible rfl⟩) (by simp only [ps_];rfl) ?_
           refine pure_ (i := 15) (N := some 106) #[t_,t_,t_,t_,t_,t_,t_,t_,t_,t_,t_,t_,t_,t_,t_,t_,f_,f_] rfl rfl (by kernel_rfl) (fun _ _ _ h => h) (Or.inl ⟨by rfl,by intro w';go_simp;with_reducible rfl⟩) (by simp only [ps_];rfl) ?_
           refine pure_ (i := 16) (N := some 107) #[t_,t_,t_,t_,t_,t_,t_,t_,t_,t_,t_,t_,t_,t_,t_,t_,t_,f_] rfl rfl (by kernel_rfl) (fun _ _ _ h => h) (Or.inl ⟨by rfl,by intro w';go_simp;with_reducible rfl⟩) (by simp only [ps_];rfl) ?_
           refine pure_ (i := 17) (N := some 108) #[t_,t_,t_,t_,t_,t_,t_,t_,t_,t_,t_,t_,t_,t_,t_,t_,t_,t_] rfl rfl (by kernel_rfl) (fun _ _ _ h => h) (Or.inl ⟨by rfl,by intro w';go_simp;with_reducible rfl⟩) (by simp only [ps_];rfl) ?_
           refine done_ (by kernel_rfl) ?_
           clear hZ
           go_wp2_with (first
            |(go_at_call 19;(with_reducible refine (AW _ (hH.below H.below)).mono ?_);rintro e W ⟨rfl,hb⟩;replace H := H.to hb;clear hb))
           go_ret
           exact ⟨rfl,H.below⟩
          ·have u4 : decide (v ≤ t) = false := decide_eq_false c3
           have HOK := hnx (fun h => c3 h.2.2)
           clear hnx
           go_wp2_with fail
           refine start_ (n := 18) (S := Own _ _ _) (ds := []) #[f_,f_,f_,f_,f_,f_,f_,f_,f_,f_,f_,f_,f_,f_,f_,f_,f_,f_] (by kernel_rfl) rfl rfl H.drew (fun hZ => ?_)
           replace H := H.drew
           generalize World.drew _ = W at H hZ ⊢
           refine pure_ (i := 0) (N := some 91) #[t_,f_,f_,f_,f_,f_,f_,f_,f_,f_,f_,f_,f_,f_,f_,f_,f_,f_] rfl rfl (by kernel_rfl) (fun _ _ _ h => h) (Or.inl ⟨by rfl,by intro w';go_simp;with_reducible rfl⟩) (by simp only [ps_];rfl) ?_
           refine pure_ (i := 1) (N := some 92) #[t_,t_,f_,f_,f_,f_,f_,f_,f_,f_,f_,f_,f_,f_,f_,f_,f_,f_] rfl rfl (by kernel_rfl) (fun _ _ _ h => h) (Or.inl ⟨by rfl,by intro w';go_simp;with_reducible rfl⟩) (by simp only [ps_];rfl) ?_
           refine pure_ (i := 2) (N := some 93) #[t_,t_,t_,f_,f_,f_,f_,f_,f_,f_,f_,f_,f_,f_,f_,f_,f_,f_] rfl rfl (by kernel_rfl) (fun _ _ _ h => h) (Or.inl ⟨by rfl,by intro w';go_simp;with_reducible rfl⟩) (by simp only [ps_];rfl) ?_
           refine pure_ (i := 5) (N := some 96) #[t_,t_,t_,f_,f_,t_,f_,f_,f_,f_,f_,f_,f_,f_,f_,f_,f_,f_] rfl rfl (by kernel_rfl) (fun _ _ _ h => h) (Or.inl ⟨by rfl,by intro w';go_simp;with_reducible rfl⟩) (by simp only [ps_];rfl) ?_
           refine take_run (i := 3) (N := some 94) #[t_,t_,t_,t_,f_,t_,f_,f_,f_,f_,f_,f_,f_,f_,f_,f_,f_,f_] rfl rfl (by kernel_rfl) (fun _ _ _ _ h => h) (by rfl) hZ (.int .i64 q) (fun X HX => r_loadRd1 3 _ rfl j rfl (HX.rd (A := some a13) .head).1 _ Tryd.underlying3 rfl _ hz) (by simp only [ps_];rfl) ?_
           refine pure_ (i := 4) (N := some 95) #[t_,t_,t_,t_,t_,t_,f_,f_,f_,f_,f_,f_,f_,f_,f_,f_,f_,f_] rfl rfl (by kernel_rfl) (fun _ _ _ h => h) (Or.inl ⟨by rfl,by intro w';go_simp;with_reducible rfl⟩) (by simp only [ps_];rfl) ?_
           refine take_run (i := 6) (N := some 97) #[t_,t_,t_,t_,t_,t_,t_,f_,f_,f_,f_,f_,f_,f_,f_,f_,f_,f_] rfl rfl (by kernel_rfl) (fun _ _ _ _ h => h) (by rfl) hZ (.int .i64 (T : Int)) (fun X HX => r_load1 HX 3 _ rfl g3 1 rfl (by repeat constructor) _ Tryd.underlying3 rfl _ rfl) (by simp only [ps_];rfl) ?_
           refine pure_ (i := 7) (N := some 98) #[t_,t_,t_,t_,t_,t_,t_,t_,f_,f_,f_,f_,f_,f_,f_,f_,f_,f_] rfl rfl (by kernel_rfl) (fun _ _ _ h => h) (Or.inl ⟨by rfl,by intro w';go_simp;with_reducible rfl⟩) (by simp only [ps_];rfl) ?_
           refine pure_ (i := 8) (N := some 99) #[t_,t_,t_,t_,t_,t_,t_,t_,t_,f_,f_,f_,f_,f_,f_,f_,f_,f_] rfl rfl (by kernel_rfl) (fun _ _ _ h => h) (Or.inl ⟨by rfl,by intro w';go_simp;with_reducible rfl⟩) (by simp only [ps_];rfl) ?_
           refine pure_ (i := 9) (N := some 100) #[t_,t_,t_,t_,t_,t_,t_,t_,t_,t_,f_,f_,f_,f_,f_,f_,f_,f_] rfl rfl (by kernel_rfl) (fun _ _ _ h => h) (Or.inl ⟨by rfl,by intro w';go_simp;with_reducible rfl⟩) (by simp only [ps_];rfl) ?_
           refine pure_ (i := 10) (N := some 101) #[t_,t_,t_,t_,t_,t_,t_,t_,t_,t_,t_,f_,f_,f_,f_,f_,f_,f_] rfl rfl (by kernel_rfl) (fun _ _ _ h => h) (Or.inl ⟨by rfl,by intro w';go_simp;with_reducible rfl⟩) (by simp only [ps_];rfl) ?_
           refine pure_ (i := 11) (N := some 102) #[t_,t_,t_,t_,t_,t_,t_,t_,t_,t_,t_,t_,f_,f_,f_,f_,f_,f_] rfl rfl (by kernel_rfl) (fun _ _ _ h => h) (Or.inl ⟨by rfl,by intro w';go_simp;with_reducible rfl⟩) (by simp only [ps_];rfl) ?_
           refine pure_ (i := 12) (N := some 103) #[t_,t_,t_,t_,t_,t_,t_,t_,t_,t_,t_,t_,t_,f_,f_,f_,f_,f_] rfl rfl (by kernel_rfl) (fun _ _ _ h => h) (Or.inl ⟨by rfl,by intro w';go_simp;with_reducible rfl⟩) (by simp only [ps_];rfl) ?_
           refine pure_ (i := 13) (N := some 104) #[t_,t_,t_,t_,t_,t_,t_,t_,t_,t_,t_,t_,t_,t_,f_,f_,f_,f_] rfl rfl (by kernel_rfl) (fun _ _ _ h => h) (Or.inl ⟨by rfl,by intro w';go_simp;with_reducible rfl⟩) (by simp only [ps_];rfl) ?_
           refine pure_ (i := 14) (N := some 105) #[t_,t_,t_,t_,t_,t_,t_,t_,t_,t_,t_,t_,t_,t_,t_,f_,f_,f_] rfl rfl (by kernel_rfl) (fun _ _ _ h => h) (Or.inl ⟨by rfl,by intro w';go_simp;with_reducible rfl⟩) (by simp only [ps_];rfl) ?_
           refine pure_ (i := 15) (N := some 106) #[t_,t_,t_,t_,t_,t_,t_,t_,t_,t_,t_,t_,t_,t_,t_,t_,f_,f_] rfl rfl (by kernel_rfl) (fun _ _ _ h => h) (Or.inl ⟨by rfl,by intro w';go_simp;with_reducible rfl⟩) (by simp only [ps_];rfl) ?_
           refine pure_ (i := 16) (N := some 107) #[t_,t_,t_,t_,t_,t_,t_,t_,t_,t_,t_,t_,t_,t_,t_,t_,t_,f_] rfl rfl (by kernel_rfl) (fun _ _ _ h => h) (Or.inl ⟨by rfl,by intro w';go_simp;with_reducible rfl⟩) (by simp only [ps_];rfl) ?_
           refine pure_ (i := 17) (N := some 108) #[t_,t_,t_,t_,t_,t_,t_,t_,t_,t_,t_,t_,t_,t_,t_,t_,t_,t_] rfl rfl (by kernel_rfl) (fun _ _ _ h => h) (Or.inl ⟨by rfl,by intro w';go_simp;with_reducible rfl⟩) (by simp only [ps_];rfl) ?_
           refine done_ (by kernel_rfl) ?_
           clear hZ
           go_wp2_with fail
           go_roundg gj'
           case measure => omega
           case rel => exact ⟨j + 1,by go_num,by omega,HOK,H⟩
         ·have u2 : decide (f ≤ v) = false := decide_eq_false c2
          have u3 : decide (v ≥ f) = false := decide_eq_false c2
          have HOK := hnx (fun h => c2 h.2.1)
          clear hnx
          go_wp2_with fail
          refine start_ (n := 18) (S := Own _ _ _) (ds := []) #[f_,f_,f_,f_,f_,f_,f_,f_,f_,f_,f_,f_,f_,f_,f_,f_,f_,f_] (by kernel_rfl) rfl rfl H.drew (fun hZ => ?_)
          replace H := H.drew
          generalize World.drew _ = W at H hZ ⊢
          refine pure_ (i := 0) (N := some 91) #[t_,f_,f_,f_,f_,f_,f_,f_,f_,f_,f_,f_,f_,f_,f_,f_,f_,f_] rfl rfl (by kernel_rfl) (fun _ _ _ h => h) (Or.inl ⟨by rfl,by intro w';go_simp;with_reducible rfl⟩) (by simp only [ps_];rfl) ?_
          refine pure_ (i := 1) (N := some 92) #[t_,t_,f_,f_,f_,f_,f_,f_,f_,f_,f_,f_,f_,f_,f_,f_,f_,f_] rfl rfl (by kernel_rfl) (fun _ _ _ h => h) (Or.inl ⟨by rfl,by intro w';go_simp;with_reducible rfl⟩) (by simp only [ps_];rfl) ?_
          refine pure_ (i := 2) (N := some 93) #[t_,t_,t_,f_,f_,f_,f_,f_,f_,f_,f_,f_,f_,f_,f_,f_,f_,f_] rfl rfl (by kernel_rfl) (fun _ _ _ h => h) (Or.inl ⟨by rfl,by intro w';go_simp;with_reducible rfl⟩) (by simp only [ps_];rfl) ?_
          refine pure_ (i := 5) (N := some 96) #[t_,t_,t_,f_,f_,t_,f_,f_,f_,f_,f_,f_,f_,f_,f_,f_,f_,f_] rfl rfl (by kernel_rfl) (fun _ _ _ h => h) (Or.inl ⟨by rfl,by intro w';go_simp;with_reducible rfl⟩) (by simp only [ps_];rfl) ?_
          refine take_run (i := 3) (N := some 94) #[t_,t_,t_,t_,f_,t_,f_,f_,f_,f_,f_,f_,f_,f_,f_,f_,f_,f_] rfl rfl (by kernel_rfl) (fun _ _ _ _ h => h) (by rfl) hZ (.int .i64 q) (fun X HX => r_loadRd1 3 _ rfl j rfl (HX.rd (A := some a13) .head).1 _ Tryd.underlying3 rfl _ hz) (by simp only [ps_];rfl) ?_
          refine pure_ (i := 4) (N := some 95) #[t_,t_,t_,t_,t_,t_,f_,f_,f_,f_,f_,f_,f_,f_,f_,f_,f_,f_] rfl rfl (by kernel_rfl) (fun _ _ _ h => h) (Or.inl ⟨by rfl,by intro w';go_simp;with_reducible rfl⟩) (by simp only [ps_];rfl) ?_
          refine take_run (i := 6) (N := some 97) #[t_,t_,t_,t_,t_,t_,t_,f_,f_,f_,f_,f_,f_,f_,f_,f_,f_,f_] rfl rfl (by kernel_rfl) (fun _ _ _ _ h => h) (by rfl) hZ (.int .i64 (T : Int)) (fun X HX => r_load1 HX 3 _ rfl g3 1 rfl (by repeat constructor) _ Tryd.underlying3 rfl _ rfl) (by simp only [ps_];rfl) ?_
          refine pure_ (i := 7) (N := some 98) #[t_,t_,t_,t_,t_,t_,t_,t_,f_,f_,f_,f_,f_,f_,f_,f_,f_,f_] rfl rfl (by kernel_rfl) (fun _ _ _ h => h) (Or.inl ⟨by rfl,by intro w';go_simp;with_reducible rfl⟩) (by simp only [ps_];rfl) ?_
          refine pure_ (i := 8) (N := some 99) #[t_,t_,t_,t_,t_,t_,t_,t_,t_,f_,f_,f_,f_,f_,f_,f_,f_,f_] rfl rfl (by kernel_rfl) (fun _ _ _ h => h) (Or.inl ⟨by rfl,by intro w';go_simp;with_reducible rfl⟩) (by simp only [ps_];rfl) ?_
          refine pure_ (i := 9) (N := some 100) #[t_,t_,t_,t_,t_,t_,t_,t_,t_,t_,f_,f_,f_,f_,f_,f_,f_,f_] rfl rfl (by kernel_rfl) (fun _ _ _ h => h) (Or.inl ⟨by rfl,by intro w';go_simp;with_reducible rfl⟩) (by simp only [ps_];rfl) ?_
          refine pure_ (i := 10) (N := some 101) #[t_,t_,t_,t_,t_,t_,t_,t_,t_,t_,t_,f_,f_,f_,f_,f_,f_,f_] rfl rfl (by kernel_rfl) (fun _ _ _ h => h) (Or.inl ⟨by rfl,by intro w';go_simp;with_reducible rfl⟩) (by simp only [ps_];rfl) ?_
          refine pure_ (i := 11) (N := some 102) #[t_,t_,t_,t_,t_,t_,t_,t_,t_,t_,t_,t_,f_,f_,f_,f_,f_,f_] rfl rfl (by kernel_rfl) (fun _ _ _ h => h) (Or.inl ⟨by rfl,by intro w';go_simp;with_reducible rfl⟩) (by simp only [ps_];rfl) ?_
          refine pure_ (i := 12) (N := some 103) #[t_,t_,t_,t_,t_,t_,t_,t_,t_,t_,t_,t_,t_,f_,f_,f_,f_,f_] rfl rfl (by kernel_rfl) (fun _ _ _ h => h) (Or.inl ⟨by rfl,by intro w';go_simp;with_reducible rfl⟩) (by simp only [ps_];rfl) ?_
          refine pure_ (i := 13) (N := some 104) #[t_,t_,t_,t_,t_,t_,t_,t_,t_,t_,t_,t_,t_,t_,f_,f_,f_,f_] rfl rfl (by kernel_rfl) (fun _ _ _ h => h) (Or.inl ⟨by rfl,by intro w';go_simp;with_reducible rfl⟩) (by simp only [ps_];rfl) ?_
          refine pure_ (i := 14) (N := some 105) (v := undef) #[t_,t_,t_,t_,t_,t_,t_,t_,t_,t_,t_,t_,t_,t_,t_,f_,f_,f_] rfl rfl (by kernel_rfl) (fun _ _ _ h => h) (Or.inr ⟨by rfl,rfl⟩) (by simp only [ps_];rfl) ?_
          refine pure_ (i := 15) (N := some 106) (v := undef) #[t_,t_,t_,t_,t_,t_,t_,t_,t_,t_,t_,t_,t_,t_,t_,t_,f_,f_] rfl rfl (by kernel_rfl) (fun _ _ _ h => h) (Or.inr ⟨by rfl,rfl⟩) (by simp only [ps_];rfl) ?_
          refine pure_ (i := 16) (N := some 107) (v := undef) #[t_,t_,t_,t_,t_,t_,t_,t_,t_,t_,t_,t_,t_,t_,t_,t_,t_,f_] rfl rfl (by kernel_rfl) (fun _ _ _ h => h) (Or.inr ⟨by rfl,rfl⟩) (by simp only [ps_];rfl) ?_
          refine pure_ (i := 17) (N := some 108) #[t_,t_,t_,t_,t_,t_,t_,t_,t_,t_,t_,t_,t_,t_,t_,t_,t_,t_] rfl rfl (by kernel_rfl) (fun _ _ _ h => h) (Or.inl ⟨by rfl,by intro w';go_simp;with_reducible rfl⟩) (by simp only [ps_];rfl) ?_
          refine done_ (by kernel_rfl) ?_
          clear hZ
          go_wp2_with fail
          go_roundg gj'
          case measure => omega
          case rel => exact ⟨j + 1,by go_num,by omega,HOK,H⟩
        ·have u1 : (d9 == (T : Int)) = false := by simpa using c1
         have HOK := hnx (fun h => c1 h.1)
         clear hnx
         go_wp2_with fail
         refine start_ (n := 18) (S := Own _ _ _) (ds := []) #[f_,f_,f_,f_,f_,f_,f_,f_,f_,f_,f_,f_,f_,f_,f_,f_,f_,f_] (by kernel_rfl) rfl rfl H.drew (fun hZ => ?_)
         replace H := H.drew
         generalize World.drew _ = W at H hZ ⊢
         refine pure_ (i := 0) (N := some 91) #[t_,f_,f_,f_,f_,f_,f_,f_,f_,f_,f_,f_,f_,f_,f_,f_,f_,f_] rfl rfl (by kernel_rfl) (fun _ _ _ h => h) (Or.inl ⟨by rfl,by intro w';go_simp;with_reducible rfl⟩) (by simp only [ps_];rfl) ?_
         refine pure_ (i := 1) (N := some 92) #[t_,t_,f_,f_,f_,f_,f_,f_,f_,f_,f_,f_,f_,f_,f_,f_,f_,f_] rfl rfl (by kernel_rfl) (fun _ _ _ h => h) (Or.inl ⟨by rfl,by intro w';go_simp;with_reducible rfl⟩) (by simp only [ps_];rfl) ?_
         refine pure_ (i := 2) (N := some 93) #[t_,t_,t_,f_,f_,f_,f_,f_,f_,f_,f_,f_,f_,f_,f_,f_,f_,f_] rfl rfl (by kernel_rfl) (fun _ _ _ h => h) (Or.inl ⟨by rfl,by intro w';go_simp;with_reducible rfl⟩) (by simp only [ps_];rfl) ?_
         refine pure_ (i := 5) (N := some 96) #[t_,t_,t_,f_,f_,t_,f_,f_,f_,f_,f_,f_,f_,f_,f_,f_,f_,f_] rfl rfl (by kernel_rfl) (fun _ _ _ h => h) (Or.inl ⟨by rfl,by intro w';go_simp;with_reducible rfl⟩) (by simp only [ps_];rfl) ?_
         refine take_run (i := 3) (N := some 94) #[t_,t_,t_,t_,f_,t_,f_,f_,f_,f_,f_,f_,f_,f_,f_,f_,f_,f_] rfl rfl (by kernel_rfl) (fun _ _ _ _ h => h) (by rfl) hZ (.int .i64 q) (fun X HX => r_loadRd1 3 _ rfl j rfl (HX.rd (A := some a13) .head).1 _ Tryd.underlying3 rfl _ hz) (by simp only [ps_];rfl) ?_
         refine pure_ (i := 4) (N := some 95) #[t_,t_,t_,t_,t_,t_,f_,f_,f_,f_,f_,f_,f_,f_,f_,f_,f_,f_] rfl rfl (by kernel_rfl) (fun _ _ _ h => h) (Or.inl ⟨by rfl,by intro w';go_simp;with_reducible rfl⟩) (by simp only [ps_];rfl) ?_
         refine take_run (i := 6) (N := some 97) #[t_,t_,t_,t_,t_,t_,t_,f_,f_,f_,f_,f_,f_,f_,f_,f_,f_,f_] rfl rfl (by kernel_rfl) (fun _ _ _ _ h => h) (by rfl) hZ (.int .i64 (T : Int)) (fun X HX => r_load1 HX 3 _ rfl g3 1 rfl (by repeat constructor) _ Tryd.underlying3 rfl _ rfl) (by simp only [ps_];rfl) ?_
         refine pure_ (i := 7) (N := some 98) #[t_,t_,t_,t_,t_,t_,t_,t_,f_,f_,f_,f_,f_,f_,f_,f_,f_,f_] rfl rfl (by kernel_rfl) (fun _ _ _ h => h) (Or.inl ⟨by rfl,by intro w';go_simp;with_reducible rfl⟩) (by simp only [ps_];rfl) ?_
         refine pure_ (i := 8) (N := some 99) #[t_,t_,t_,t_,t_,t_,t_,t_,t_,f_,f_,f_,f_,f_,f_,f_,f_,f_] rfl rfl (by kernel_rfl) (fun _ _ _ h => h) (Or.inl ⟨by rfl,by intro w';go_simp;with_reducible rfl⟩) (by simp only [ps_];rfl) ?_
         refine pure_ (i := 9) (N := some 100) (v := undef) #[t_,t_,t_,t_,t_,t_,t_,t_,t_,t_,f_,f_,f_,f_,f_,f_,f_,f_] rfl rfl (by kernel_rfl) (fun _ _ _ h => h) (Or.inr ⟨by rfl,rfl⟩) (by simp only [ps_];rfl) ?_
         refine pure_ (i := 10) (N := some 101) (v := undef) #[t_,t_,t_,t_,t_,t_,t_,t_,t_,t_,t_,f_,f_,f_,f_,f_,f_,f_] rfl rfl (by kernel_rfl) (fun _ _ _ h => h) (Or.inr ⟨by rfl,rfl⟩) (by simp only [ps_];rfl) ?_
         refine pure_ (i := 11) (N := some 102) (v := undef) #[t_,t_,t_,t_,t_,t_,t_,t_,t_,t_,t_,t_,f_,f_,f_,f_,f_,f_] rfl rfl (by kernel_rfl) (fun _ _ _ h => h) (Or.inr ⟨by rfl,rfl⟩) (by simp only [ps_];rfl) ?_
         refine pure_ (i := 12) (N := some 103) #[t_,t_,t_,t_,t_,t_,t_,t_,t_,t_,t_,t_,t_,f_,f_,f_,f_,f_] rfl rfl (by kernel_rfl) (fun _ _ _ h => h) (Or.inl ⟨by rfl,by intro w';go_simp;with_reducible rfl⟩) (by simp only [ps_];rfl) ?_
         refine pure_ (i := 13) (N := some 104) #[t_,t_,t_,t_,t_,t_,t_,t_,t_,t_,t_,t_,t_,t_,f_,f_,f_,f_] rfl rfl (by kernel_rfl) (fun _ _ _ h => h) (Or.inl ⟨by rfl,by intro w';go_simp;with_reducible rfl⟩) (by simp only [ps_];rfl) ?_
         refine pure_ (i := 14) (N := some 105) (v := undef) #[t_,t_,t_,t_,t_,t_,t_,t_,t_,t_,t_,t_,t_,t_,t_,f_,f_,f_] rfl rfl (by kernel_rfl) (fun _ _ _ h => h) (Or.inr ⟨by rfl,rfl⟩) (by simp only [ps_];rfl) ?_
         refine pure_ (i := 15) (N := some 106) (v := undef) #[t_,t_,t_,t_,t_,t_,t_,t_,t_,t_,t_,t_,t_,t_,t_,t_,f_,f_] rfl rfl (by kernel_rfl) (fun _ _ _ h => h) (Or.inr ⟨by rfl,rfl⟩) (by simp only [ps_];rfl) ?_
         refine pure_ (i := 16) (N := some 107) (v := undef) #[t_,t_,t_,t_,t_,t_,t_,t_,t_,t_,t_,t_,t_,t_,t_,t_,t_,f_] rfl rfl (by kernel_rfl) (fun _ _ _ h => h) (Or.inr ⟨by rfl,rfl⟩) (by simp only [ps_];rfl) ?_
         refine pure_ (i := 17) (N := some 108) #[t_,t_,t_,t_,t_,t_,t_,t_,t_,t_,t_,t_,t_,t_,t_,t_,t_,t_] rfl rfl (by kernel_rfl) (fun _ _ _ h => h) (Or.inl ⟨by rfl,by intro w';go_simp;with_reducible rfl⟩) (by simp only [ps_];rfl) ?_
         refine done_ (by kernel_rfl) ?_
         clear hZ
         go_wp2_with fail
         go_roundg gj'
         case measure => omega
         case rel => exact ⟨j + 1,by go_num,by omega,HOK,H⟩
       ·obtain rfl : j = m2 := by omega
        have q9 : decide (j < j) = false := decide_eq_false (by omega)
        obtain ⟨rfl,hmn⟩ := NS3 (fun q hq => by
         obtain ⟨i,hi,rfl⟩ := List.getElem_of_mem hq
         have := hOK i (by omega)
         rwa [List.getD_eq_getElem?_getD,List.getElem?_eq_getElem hi] at this)
        have q10 : decide (m ≤ n) = true := decide_eq_true hmn
        clear NS3 hOK
        go_wp2_with (first
  |((with_reducible refine gate_dst (N := 111) rfl ?_);refine l_load1 rfl H 22 _ rfl _ _ rfl (by repeat constructor) _ Tryd.underlying22 rfl _ (by first|rfl|assumption|exact nums_at _ (by omega)) ?_)
  |((with_reducible refine gate_dst (N := 16) rfl ?_);refine l_allocA rfl H 30 rfl _ zero30 ?_;clear H;intro g16 W H)
  |((with_reducible refine gate_store (t := 30) (p := 16) rfl ?_);refine l_storeW rfl H 30 _ _ rfl _ rfl _ rfl (by repeat constructor) _ size30 (by first|rfl|assumption|omega|(simp only [nums_length];omega)|simp [nums_length,zs] <;> omega) (by first|rfl|assumption|omega|(simp only [nums_length];omega)|simp [nums_length,zs] <;> omega) (by first|exact nums_one|assumption|exact on1_ rfl) ?_;clear H;intro W H)
  |((with_reducible refine gate_dst (N := 115) rfl ?_);refine l_load1 rfl H 22 _ rfl _ _ rfl (by repeat constructor) _ Tryd.underlying22 rfl _ (by first|rfl|assumption|exact nums_at _ (by omega)) ?_)
  |((with_reducible refine gate_dst (N := 117) rfl ?_);refine l_load1 rfl H 25 _ rfl _ _ rfl (by repeat constructor) _ Tryd.underlying25 rfl _ (by first|rfl|assumption|exact nums_at _ (by omega)) ?_)
  |((with_reducible refine gate_dst (N := 122) rfl ?_);refine gate_guard (by rfl) ?_;refine l_load1 rfl H 25 _ rfl _ _ rfl (by repeat constructor) _ Tryd.underlying25 rfl _ (by first|rfl|assumption|exact nums_at _ (by omega)) ?_)
  |((with_reducible refine gate_dst (N := 125) rfl ?_);refine gate_guard (by rfl) ?_;refine l_load1 rfl H 25 _ rfl _ _ rfl (by repeat constructor) _ Tryd.underlying25 rfl _ (by first|rfl|assumption|exact nums_at _ (by omega)) ?_)
         |(go_at_call 11;(with_reducible refine (KR _ _ _ (H.rd (A := some a5) (by repeat constructor)).1 (H.rd (A := some a5) (by repeat constructor)).2.1).mono ?_);rintro en W ⟨Ar,cr,Ap,cp,L9,rfl,HO⟩;replace H := (H.addOwn HO).perm List.perm_append_comm;clear HO;dsimp only [List.cons_append,List.nil_append] at H)
         |(go_at_call 21;(with_reducible refine (FRC (some a5) c5 _ (Kd.C_below hC H.below) (H.rd (A := some a5) (by repeat constructor)).1 (H.rd (A := some a5) (by repeat constructor)).2.1 (hH.below H.below)).mono ?_);rintro e W ⟨rfl,hb⟩;replace H := H.to hb;clear hb)
         |(go_at_call 19;(with_reducible refine (AW _ (hH.below H.below)).mono ?_);rintro e W ⟨rfl,hb⟩;replace H := H.to hb;clear hb))
        go_ret
        exact ⟨rfl,H.below⟩
     ·have q7 : decide (t - f > 3) = true := decide_eq_true (by omega)
      have q8 : decide ((3 : Int) < t - f) = true := decide_eq_true (by omega)
      clear NS2 hP
      go_wp2_with (first
       |(go_at_call 19;(with_reducible refine (AW _ (hH.below H.below)).mono ?_);rintro e W ⟨rfl,hb⟩;replace H := H.to hb;clear hb))
      go_ret
      exact ⟨rfl,H.below⟩
end Go.Proofs.YtaekpfhgdnfciaaDoor.O
end

section
namespace Go.Proofs.YtaekpfhgdnfciaaDoor.F
open Go.ChangeShapes Go.WideShapes Go.ChangeAt Go.RowKit Go.Joins Go.Deep Go.Proofs.YtaekpfhgdnfciaaDoorW.PrintWords
section
variable {H : Type} {enc : TypeId × Value → H} {W : World} {held : Bool}
set_option maxRecDepth 100000 in
theorem open_synced {r : Reach} {b0 : Nat} {v : Value} {d : DataW H} {p : List MemPlace} (hv : Value.okWide Tryd.prog W r b0 44 v) (h : DataW.Trod enc Tryd.prog W 0 (fun _ => true) held 44 v d p) (hw : Fit Tryd.prog 44 d) :
  ∃ (t u : Int) (A : Option Addr) (xs : List (List Int)) (c : Nat),v = .agg #[.int .u64 t,.slice A xs.length c,.int .u64 u] ∧ xs.length ≤ c ∧ (Kd.slice 5 (Kd.int .u8)).C W A xs.length xs ∧ (∀ x ∈ xs,(∀ z ∈ x,(Lit.int .u8 z).wf = true) ∧ x.length * Tryd.prog.bytesOf 5 ≤ reachBytes) ∧ xs.length * Tryd.prog.bytesOf 38 ≤ reachBytes ∧ (Lit.int .u64 t).wf = true ∧ (Lit.int .u64 u).wf = true := by
 simp only [Value.okWide,Tryd.underlying44] at hv
 obtain ⟨cs,rfl,-,-⟩ := hv
 obtain ⟨fuel,hf⟩ := h
 obtain ⟨y0,y1,y2,m,hx,hl,h0,h1,h2⟩ := trod_struct3 Tryd.underlying44 hf
 have hl3 : (Value.agg cs).cells.toList.length = 3 := hl.trans (by kernel_rfl)
 obtain ⟨c0,c1,c2,hcs⟩ : ∃ a b c,(Value.agg cs).cells.toList = [a,b,c] := by
  match h9 : (Value.agg cs).cells.toList,hl3 with
  |[a,b,c],_ => exact ⟨a,b,c,rfl⟩
 rw [hcs] at h0 h1 h2
 rw [show Tryd.prog.cellsOf 22 = 1 by kernel_rfl] at h0
 rw [show Tryd.prog.cellsOf 25 = 1 by kernel_rfl] at h1
 rw [show Tryd.prog.cellsOf 42 = 1 by kernel_rfl] at h2
 obtain ⟨z0,e0,-,u0⟩ := DataW.trod_int Tryd.underlying22 h0
 obtain ⟨z2,e2,-,u2⟩ := DataW.trod_int Tryd.underlying42 h2
 injection hx with hx1 hx2
 subst hx1
 have hf1 : Fit Tryd.prog 25 y1.1 := by
  intro q hq
  refine hw q ?_
  simp only [DataW.weights,Tryd.underlying44]
  simp only [DataW.weightsEach,List.map_cons,List.map_nil,List.mem_append]
  exact Or.inr (Or.inl hq)
 obtain ⟨A,xs,c,e1,l1,g1,b1,n1⟩ := open_C_rows 5 Tryd.underlying25 Tryd.underlying38 Tryd.underlying5 (by kernel_rfl) (by kernel_rfl) h1 hf1
 simp at e0 e1 e2
 subst e0 e1 e2
 refine ⟨z0,z2,A,xs,c,?_,l1,g1,b1,n1,u0,u2⟩
 have : cs.toList = [.int .u64 z0,.slice A xs.length c,.int .u64 z2] := hcs
 have e9 : cs = [Value.int .u64 z0,.slice A xs.length c,.int .u64 z2].toArray := by rw [← this]
 rw [e9]
end
section
variable {H : Type} {enc : TypeId × Value → H} {W : World} {held : Bool}
set_option maxRecDepth 100000 in
theorem open_crash {r : Reach} {b0 : Nat} {v : Value} {d : DataW H} {p : List MemPlace} (hv : Value.okWide Tryd.prog W r b0 46 v) (h : DataW.Trod enc Tryd.prog W 0 (fun _ => true) held 46 v d p) (hw : Fit Tryd.prog 46 d) :
  ∃ (A : Option Addr) (xs : List Int) (c : Nat) (t u : Int),v = .agg #[.slice A xs.length c,.int .i64 t,.int .i64 u] ∧ xs.length ≤ c ∧ (Kd.int .u8).C W A xs.length xs ∧ (∀ x ∈ xs,(Lit.int .u8 x).wf = true) := by
 simp only [Value.okWide,Tryd.underlying46] at hv
 obtain ⟨cs,rfl,-,-⟩ := hv
 obtain ⟨fuel,hf⟩ := h
 obtain ⟨y0,y1,y2,m,hx,hl,h0,h1,h2⟩ := trod_struct3 Tryd.underlying46 hf
 have hl3 : (Value.agg cs).cells.toList.length = 3 := hl.trans (by kernel_rfl)
 obtain ⟨c0,c1,c2,hcs⟩ : ∃ a b c,(Value.agg cs).cells.toList = [a,b,c] := by
  match h9 : (Value.agg cs).cells.toList,hl3 with
  |[a,b,c],_ => exact ⟨a,b,c,rfl⟩
 rw [hcs] at h0 h1 h2
 rw [show Tryd.prog.cellsOf 3 = 1 by kernel_rfl] at h1 h2
 rw [show Tryd.prog.cellsOf 38 = 1 by kernel_rfl] at h0
 obtain ⟨z1,e1,-,-⟩ := DataW.trod_int Tryd.underlying3 h1
 obtain ⟨z2,e2,-,-⟩ := DataW.trod_int Tryd.underlying3 h2
 injection hx with hx1 hx2
 subst hx1
 have hf0 : Fit Tryd.prog 38 y0.1 := by
  intro q hq
  refine hw q ?_
  simp only [DataW.weights,Tryd.underlying46]
  simp only [DataW.weightsEach,List.map_cons,List.map_nil,List.mem_append]
  exact Or.inl hq
 obtain ⟨A,xs,c,e0,l0,g0,b0,-⟩ := open_C_ints Tryd.underlying38 Tryd.underlying5 (by kernel_rfl) h0 hf0
 simp at e0 e1 e2
 subst e0 e1 e2
 refine ⟨A,xs,c,z1,z2,?_,l0,g0,b0⟩
 have : cs.toList = [.slice A xs.length c,.int .i64 z1,.int .i64 z2] := hcs
 have e9 : cs = [.slice A xs.length c,.int .i64 z1,.int .i64 z2].toArray := by rw [← this]
 rw [e9]
end
end Go.Proofs.YtaekpfhgdnfciaaDoor.F
end

section
namespace Go.Proofs.YtaekpfhgdnfciaaDoor.tearNear
open Go.ChangeShapes Go.WideShapes Go.ChangeAt Go.RowKit Go.Joins Go.Proofs.YtaekpfhgdnfciaaDoor.Door Go.Proofs.YtaekpfhgdnfciaaDoorW.PrintWords
open Go.ChangeMaps (open_string shut_string)
set_option maxRecDepth 100000 in
set_option maxHeartbeats 4000000 in
theorem lifted (os : Os) (started : os.Started) (H : Type) (enc : TypeId × Value → H) :
  ReturnsInHanded {} Tryd.checked os 6 .any (fun w args => (Rows.tearNearSpec.pre enc Tryd.prog Tryd.f6 [] false w args ∧ laidMetH Tryd.prog laid1 w) ∧ sizedMet enc Tryd.prog Tryd.f6 (OpenSpec.ofChange Rows.tearNearSpec) false w args)
   (Rows.tearNearSpec.post enc Tryd.prog Tryd.f6 false true false false) := by
 refine returnsInHanded_of_change_and (C := Tryd.checked) (X := fun w _ => laidMetH Tryd.prog laid1 w) (fun _ _ _ hh h => h.of_heap hh) own started (by kernel_rfl) Tryd.func6
  (ChangeSpec.witness_shaped (enc := enc) (C := Tryd.checked) (os := os) (X := fun w _ => laidMetH Tryd.prog laid1 w) false (World.doorLaid Tryd.prog 400 os) #[(.agg #[.int .u64 0,.slice none 0 0,.int .u64 0]),(.agg #[.slice none 0 0,.int .i64 0,.int .i64 0])] 8 rfl (World.shaped_of_RefB (by kernel_rfl) (by kernel_rfl)) (by kernel_rfl) (by kernel_rfl) (by kernel_rfl) (door_met os _)) ?_
 intro W base args ds gs before hval0 hW _ hsz0 hL _
 have hsz : (DataW.weightsEach Tryd.prog (Tryd.f6.params.toList ++ Rows.tearNearSpec.plain.varTypes Tryd.prog) (ds ++ gs)).all (· ≤ reachBytes) = true := hsz0
 have hval : ∀ (j : Nat) t v,Tryd.f6.params[j]? = some t → args[j]? = some v → Value.okWide Tryd.prog W .any base t v := hval0
 have hW' := hW
 obtain ⟨p,q,hA0,hV,rfl,hfz,hnd⟩ := hW
 have hA : DataW.TrodAll enc Tryd.prog W 0 (fun _ => true) true Tryd.f6.params.toList args.toList ds p := hA0
 rw [Tryd.params6] at hA hval hsz
 obtain ⟨v0,vs0,d0,ds0,p0,q0,hargs,rfl,rfl,h0,r0⟩ := trodAll_cons hA
 obtain ⟨v1,vs1,d1,ds1,p1,q1,rfl,rfl,rfl,h1,r1⟩ := trodAll_cons r0
 obtain ⟨rfl,rfl,rfl⟩ := trodAll_nil r1
 obtain rfl : args = #[v0,v1] := by cases args;simp_all
 obtain ⟨rfl,rfl⟩ := trodVars_none hV
 have k0 := h0
 have lt0 : ∀ x ∈ p0,x.block < W.heap.size := by obtain ⟨m,hm⟩ := k0;exact DataW.trod_lt m _ _ _ hm
 obtain ⟨t0,u0,A0,l0,c0,rfl,hc0,hC0,hB0,hr0,y0,z0⟩ := F.open_synced (hval 0 44 v0 rfl rfl) h0 (F.fit_arg hsz 0 (t := 44) (d := d0) rfl rfl)
 have k1 := h1
 have lt1 : ∀ x ∈ p1,x.block < W.heap.size := by obtain ⟨m,hm⟩ := k1;exact DataW.trod_lt m _ _ _ hm
 obtain ⟨A1,l1,c1,t1,u1,rfl,hc1,hC1,hB1⟩ := F.open_crash (hval 1 46 v1 rfl rfl) h1 (F.fit_arg hsz 1 (t := 46) (d := d1) rfl rfl)
 clear hA0 hval0 hsz0
 have x0 := F.wf_u64 y0
 have x1 := F.wf_u64 z0
 obtain ⟨N0,rfl⟩ : ∃ N : Nat,u0 = (N : Int) := ⟨u0.toNat,by omega⟩
 have z2 : Tryd.prog.bytesOf 5 = 1 := by kernel_rfl
 have z3 : reachBytes = 140737488351232 := by decide
 have z4 : Tryd.prog.bytesOf 38 = 24 := by kernel_rfl
 rw [z4,z3] at hr0
 refine (O.tearNear_law t0 N0 l0 _ _ _ _ l1 t1 u1 W x0 (by omega) hC0 hc0 (fun x hx => O.bytes_of_wf (hB0 x hx).1) (fun x hx => by have := (hB0 x hx).2;rw [z2,z3] at this;omega) (by omega) hC1 hc1 hB1 (half_of hL)).mono fun e W' ⟨he,bel⟩ => ?_
 subst he
 exact ⟨_,rfl,_,_,_,[],_,[],hW',trodAll_mk1 (shut_bool Tryd.underlying4 _),(trodAll_cons_mk (Below.trod laidOut (by kernel_rfl) (of_decide_eq_true (by kernel_rfl)) k0 bel lt0) (trodAll_cons_mk (Below.trod laidOut (by kernel_rfl) (of_decide_eq_true (by kernel_rfl)) k1 bel lt1) trodAll_mk0)),rfl,bel.frame _,fun h => by cases h⟩
theorem over : Rows.TearNearSaid :=
 OpenClaim.holds_of_wide 6 Tryd.f6 rfl rfl rfl rfl rfl rfl rfl ⟨rfl,rfl,rfl,rfl,rfl⟩ rfl rfl rfl rfl rfl (by kernel_rfl) Tryd.func6 (by kernel_rfl)
  (of_decide_eq_true (by kernel_rfl)) (by unfold Func.isWrapper;first|(rw [if_pos (by decide +kernel)];kernel_rfl)|(rw [if_neg (by decide +kernel)];exact ⟨rfl,rfl⟩))
  (fun os started H enc _ => lifted os started H enc)
theorem card : Rows.TearNearCardSaid :=
 Claim7.holds_tied_plain_at .later [] [.data] true Rows.tearNearCard.stood.harness false
  over (fun _ h => by cases h) (by kernel_rfl) (fun _ h => by cases h) tearNear_row_tie rfl ⟨rfl,rfl⟩ (by kernel_rfl) rfl
  (fun f fn hf hfn => by
   obtain rfl : f = 6 := Option.some.inj ((show Tryd.prog.funcNamed "strandline/strandlinelaw20.TearNear" = some 6 by kernel_rfl).symm.trans hf) |>.symm
   obtain rfl : fn = Tryd.f6 := (Option.some.inj (Tryd.func6.symm.trans hfn)).symm
   exact ⟨by kernel_rfl,fun j t ht => by
    rw [Tryd.params6] at ht
    have hm : t ∈ [44,46] := by simpa using Array.mem_of_getElem? ht
    have hall : ([44,46].all fun u => !Tryd.prog.wantsStandIn u) = true := by kernel_rfl
    exact (show Tryd.prog.wantsStandIn t = false by simpa using List.all_eq_true.1 hall t hm)⟩)
  (by kernel_rfl)
end Go.Proofs.YtaekpfhgdnfciaaDoor.tearNear
namespace Go.Proofs.YtaekpfhgdnfciaaDoor
theorem tearNearCard_holds : Rows.TearNearCardSaid := tearNear.card
#print axioms tearNearCard_holds
end Go.Proofs.YtaekpfhgdnfciaaDoor
end
