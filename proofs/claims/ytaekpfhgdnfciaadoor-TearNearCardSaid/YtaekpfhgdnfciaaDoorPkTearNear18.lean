/- Texts of mine put together: RScan. -/
import Derived.Test.YtaekpfhgdnfciaaDoorPkTearNear17
import Derived.Test.YtaekpfhgdnfciaaDoorPkTearNear14
set_option linter.unusedVariables false
set_option linter.unusedSimpArgs false
open Go.RowKit Go.Proofs.YtaekpfhgdnfciaaDoorW.PrintWords Go.Proofs.YtaekpfhgdnfciaaDoorW.PrintLast Go.Proofs.YtaekpfhgdnfciaaDoorW.PrintMore

section
namespace Go.Proofs.YtaekpfhgdnfciaaDoor.O
open Go.Proofs.YtaekpfhgdnfciaaDoor.F Go.Proofs.YtaekpfhgdnfciaaDoor.F.Nums Go.Proofs.YtaekpfhgdnfciaaDoor.Plain
attribute [local go_sem] Oper.semAt_some
theorem bgN_room (a : Nat) : bgN a + 11 ≤ 832 ∨ bgN a = 832 := by
 have h1 := bgN_cast a
 have h2 := cl_hi (a : Int)
 have h3 := cl_lo (a : Int)
 have h4 := bgN_le a
 generalize cl (a : Int) = x at *
 unfold bg at h1
 split at h1 <;> omega
theorem bgN_ge (a : Nat) (h : a ≤ 832) : a ≤ bgN a := by
 have h1 := bgN_cast a
 rw [cl_in (by omega) (by omega)] at h1
 unfold bg at h1
 split at h1 <;> omega
set_option maxRecDepth 100000 in
set_option maxHeartbeats 16000000 in
theorem rscan_calls (e : Int) (he : 0 ≤ e ∧ e ≤ 18446744073709551615) (fl : List Int) (n : Nat) (hn : n ≤ 100) (hf : fl.length = 64 * n) (hb : Bytes fl) (A : Option Addr) (c : Nat) (w : World) (hr : Rd w A (nums .u8 fl)) (hc : n ≤ c) :
  Calls Tryd.prog 11 #[.int .u64 e,.slice A n c] w fun en W => ∃ S Ar cr Ap cp cells D,S = scanM (e % 4294967296) (bodyF e fl n 16) (oksF e fl n 16) ∧
   en = .returned (.agg #[.slice Ar S.recs.length cr,.slice Ap S.recs.length cp,.int .i64 (S.en : Int),.int .i64 (if Img.restB fl n (cl (S.en : Int)) = true then 1 else 2)]) ∧
   Drs S.recs cells D ∧ S.places.length = S.recs.length ∧ S.recs.length ≤ 100 ∧ Own w F0 (.row (.slice Ar S.recs.length cr) 38 1 S.recs.length cells :: .row (.slice Ap S.recs.length cp) 3 1 S.recs.length (nums .i64 S.places) :: D) W := by
 have H := Own.start w
 have FC := fun W h => rflat_calls e he.1 he.2 fl n hf hb A c W h hc (by omega)
 have hFl : (bodyF e fl n 16).length = 832 := bodyF_len hf 16
 have hFb : Bytes (bodyF e fl n 16) := bodyF_bytes hb 16
 have hkl : (oksF e fl n 16).length = 16 := oksF_len 16
 have RC := fun (z : Int) W h => rrest_calls fl n hf hb z A c W h hc (by omega)
 have AC0 := fun p hp Ab Ao cb co h1 h2 W h3 h4 => raccepts_calls e he (bodyF e fl n 16) (oksF e fl n 16) hFl hFb hkl p hp Ab Ao cb co h1 h2 W h3 h4
 unfold scanM
 obtain ⟨ep,hep⟩ : ∃ x,e % 4294967296 = x := ⟨_,rfl⟩
 rw [hep]
 simp only [hep] at AC0
 have AC := AC0
 clear AC0 hep
 generalize bodyF e fl n 16 = F at *
 generalize oksF e fl n 16 = ok at *
 obtain ⟨SS,hSS⟩ : ∃ x,scRun (told ep F ok) 76 ScSt0 = x := ⟨_,rfl⟩
 rw [hSS]
 go_enter Tryd.func11,Tryd.ntmps11
 go_wp2_with (first
  |((with_reducible refine gate_dst (N := 4) rfl ?_);refine l_allocA rfl H 30 rfl _ zero30 ?_;clear H;intro g4 W H)
  |((with_reducible refine gate_dst (N := 7) rfl ?_);refine l_allocA rfl H 30 rfl _ zero30 ?_;clear H;intro g7 W H)
  |((with_reducible refine gate_store (t := 30) (p := 7) rfl ?_);refine l_storeW rfl H 30 _ _ rfl _ rfl _ rfl (by repeat constructor) _ size30 (by first|rfl|assumption|omega|(simp only [nums_length];omega)|simp [nums_length,zs] <;> omega) (by first|rfl|assumption|omega|(simp only [nums_length];omega)|simp [nums_length,zs] <;> omega) (by first|exact nums_one|assumption|exact on1_ rfl) ?_;clear H;intro W H)
  |((with_reducible refine gate_dst (N := 8) rfl ?_);refine l_allocA rfl H 73 rfl _ zero73 ?_;clear H;intro g8 W H)
  |((with_reducible refine gate_store (t := 73) (p := 8) rfl ?_);refine l_storeW rfl H 73 _ _ rfl _ rfl _ rfl (by repeat constructor) _ size73 (by first|rfl|assumption|omega|(simp only [nums_length];omega)|simp [nums_length,zs] <;> omega) (by first|rfl|assumption|omega|(simp only [nums_length];omega)|simp [nums_length,zs] <;> omega) (by first|exact nums_one|assumption|exact on1_ rfl) ?_;clear H;intro W H)
  |(go_at_call 28;(with_reducible refine (FC _ (hr.below H.below)).mono ?_);rintro en W ⟨v5,v6,rfl,HO⟩;replace H := H.addOwn HO;clear HO;dsimp only [List.cons_append,List.nil_append] at H;obtain ⟨A5,c5,rfl⟩ := H.row_slice .head;obtain ⟨A6,c6,rfl⟩ := H.row_slice (.tail .head)))
 have hc5 : 832 ≤ c5 := (H.rd (A := A5) (by repeat constructor)).2.1
 have hc6 : 16 ≤ c6 := (H.rd (A := A6) (by repeat constructor)).2.1
 replace H := H.cons (r := .row (.slice none 0 0) 5 1 0 []) (Below.refl _ _) (own_nil _ _ _ _) (fun k hk => by cases hk)
 replace H := H.cons (r := .row (.slice none 0 0) 38 1 0 []) (Below.refl _ _) (own_nil _ _ _ _) (fun k hk => by cases hk)
 replace H := H.cons (r := .row (.slice none 0 0) 3 1 0 []) (Below.refl _ _) (own_nil _ _ _ _) (fun k hk => by cases hk)
 replace H := Own.front (r := .row (.slice A6 16 c6) _ _ _ _) H (by repeat constructor)
 replace H := Own.front (r := .row (.slice A5 832 c5) _ _ _ _) H (by repeat constructor)
 replace H := Own.front (r := .row _ 3 _ _ _) H (by repeat constructor)
 replace H := Own.front (r := .row _ 38 _ _ _) H (by repeat constructor)
 replace H := Own.front (r := .row (.slice none 0 0) 5 _ _ _) H (by repeat constructor)
 replace H := Own.front (r := .blk g8 _ _) H (by repeat constructor)
 replace H := Own.front (r := .blk g7 _ _) H (by repeat constructor)
 go_loopg [9,10] 76 (fun gq v9 v10 w' => ∃ (s : ScSt) (Av : Option Addr) (cv : Nat) (x : Value) (Ar0 : Option Addr) (cr0 : Nat) (Ap0 : Option Addr) (cp0 : Nat) (cells : List Value) (D : List Res),v9 = .int .i64 (s.at_ : Int) ∧ v10 = .int .i64 s.first ∧ (s.b ≠ [] → Value.slice Av s.b.length cv = x) ∧ s.b.length ≤ cv ∧ s.b.length ≤ 512 ∧ Drs s.recs cells D ∧ s.places.length = s.recs.length ∧ s.at_ ≤ 832 ∧ 832 ≤ s.at_ + 11 * gq + 10 ∧ scRun (told ep F ok) gq s = SS ∧ s.recs.length + gq ≤ 76 ∧
  Own w F0 (.blk g7 30 [.slice Ar0 s.recs.length cr0,.slice Ap0 s.recs.length cp0,.int .i64 (s.en : Int),.int .i64 0] :: .blk g8 73 [.bool s.op,.slice Av s.b.length cv] :: .row x 5 1 s.b.length (nums .u8 s.b) :: .row (.slice Ar0 s.recs.length cr0) 38 1 s.recs.length cells :: .row (.slice Ap0 s.recs.length cp0) 3 1 s.recs.length (nums .i64 s.places) :: .row (.slice A5 832 c5) 5 1 832 (nums .u8 F) :: .row (.slice A6 16 c6) 4 1 16 (bools ok) :: .blk g4 30 [.slice none 0 0,.slice none 0 0,.int .i64 0,.int .i64 0] :: D) w')
 case atStart => exact ⟨ScSt0,none,0,.slice none 0 0,none,0,none,0,[],[],rfl,rfl,fun h => absurd rfl h,Nat.le_refl _,Nat.zero_le _,⟨rfl,fun j hj => by simp [ScSt0] at hj⟩,rfl,by decide,by decide,hSS,by decide,H⟩
 case round =>
  clear H hSS
  obtain ⟨s,Av,cv,x,Ar0,cr0,Ap0,cp0,cells,D,rfl,rfl,hx,hbc,hb5,hD,hpl,hat,hm,hrun,hrl,H⟩ := hrel
  have BG := fun W => rbegin_c s.at_ W
  have hroom := bgN_room s.at_
  have AC1 := fun W h1 h2 => AC (bgN s.at_) hroom A5 A6 c5 c6 hc5 hc6 W h1 h2
  obtain ⟨at0,op,b,fst,recs,places,en⟩ := s
  simp only at *
  cases hT : told ep F ok (bgN at0) with
  |none =>
   have AC2 : ∀ W,Rd W A5 (nums .u8 F) → Rd W A6 (bools ok) → Calls Tryd.prog 30 #[.int .u64 e,.slice A5 832 c5,.slice A6 16 c6,.int .i64 ((bgN at0 : Nat) : Int)] W fun en W' => en = .returned (.tuple #[.agg #[.int .i64 0,.int .u32 0,.slice none 0 0],.int .i64 0]) ∧ Below W.heap.size W W' := fun W h1 h2 => (AC1 W h1 h2).mono (by
    rintro e W' ⟨hb,⟨-,rfl⟩|⟨k,d,A',c',h0,-⟩⟩
    ·exact ⟨rfl,hb⟩
    ·rw [hT] at h0;cases h0)
   rw [scRun_none (scStep_none hT)] at hrun
   subst hrun
   clear hT AC1 hroom
   generalize bgN at0 = p at *
   cases hB : Img.restB fl n (cl (en : Int)) with
   |true =>
    have RC2 := RC (en : Int)
    rw [hB] at RC2
    go_wp2_with (first
  |((with_reducible refine gate_dst (N := 11) rfl ?_);refine l_allocA rfl H 76 rfl _ zero76 ?_;clear H;intro g11 W H)
  |((with_reducible refine gate_store (t := 76) (p := 11) rfl ?_);refine l_storeW rfl H 76 _ _ rfl _ rfl _ rfl (by repeat constructor) _ size76 (by first|rfl|assumption|omega|(simp only [nums_length];omega)|simp [nums_length,zs] <;> omega) (by first|rfl|assumption|omega|(simp only [nums_length];omega)|simp [nums_length,zs] <;> omega) (by first|exact nums_one|assumption|exact on1_ rfl) ?_;clear H;intro W H)
  |((with_reducible refine gate_store (t := 3) (p := 70) rfl ?_);refine l_store1 rfl H 3 _ _ rfl _ _ rfl _ (by first|(go_simp;done)|(go_simp;with_reducible rfl)) (by repeat constructor) rfl rfl size3 (by first|rfl|assumption|omega|(simp only [nums_length];omega)|simp [nums_length,zs] <;> omega) ?_;clear H;intro W H)
  |((with_reducible refine gate_dst (N := 73) rfl ?_);refine l_load1 rfl H 3 _ rfl _ _ rfl (by repeat constructor) _ Tryd.underlying3 rfl _ (by first|rfl|assumption|exact nums_at _ (by omega)) ?_)
  |((with_reducible refine gate_store (t := 3) (p := 75) rfl ?_);refine l_store1 rfl H 3 _ _ rfl _ _ rfl _ (by first|(go_simp;done)|(go_simp;with_reducible rfl)) (by repeat constructor) rfl rfl size3 (by first|rfl|assumption|omega|(simp only [nums_length];omega)|simp [nums_length,zs] <;> omega) ?_;clear H;intro W H)
  |((with_reducible refine gate_dst (N := 76) rfl ?_);refine l_loadA rfl H 30 _ rfl _ rfl (by repeat constructor) _ _ Tryd.underlying30 rfl size30 (by first|rfl|assumption|omega|(simp only [nums_length];omega)|simp [nums_length,zs] <;> omega) ?_)
  |((with_reducible refine gate_store (t := 30) (p := 4) rfl ?_);refine l_storeW rfl H 30 _ _ rfl _ rfl _ rfl (by repeat constructor) _ size30 (by first|rfl|assumption|omega|(simp only [nums_length];omega)|simp [nums_length,zs] <;> omega) (by first|rfl|assumption|omega|(simp only [nums_length];omega)|simp [nums_length,zs] <;> omega) (by first|exact nums_one|assumption|exact on1_ rfl) ?_;clear H;intro W H)
     |(go_at_call 29;(with_reducible refine (BG _).mono ?_);rintro e W ⟨rfl,hb⟩;replace H := H.to hb;clear hb)
     |(go_at_call 30;(with_reducible refine (AC2 _ (H.rd (A := A5) (by repeat constructor)).1 (H.rd (A := A6) (by repeat constructor)).1).mono ?_);rintro e W ⟨rfl,hb⟩;replace H := H.to hb;clear hb)
     |(go_at_call 14;(with_reducible refine (RC2 _ (hr.below H.below)).mono ?_);rintro e W ⟨rfl,hb'⟩;replace H := H.to hb';clear hb'))
    replace H := Own.front (r := .blk g4 _ _) H (by repeat constructor)
    refine bodyPost_ret (results_cell_row (p := 4) (ty := 30) rfl _ _ g4 30 _ (0,0) _ rfl (H.heap .head) Tryd.underlying30 rfl size30) rfl ?_
    replace H := H.del (r := .blk g4 _ _) (by repeat constructor)
    replace H := H.del (r := .blk g7 _ _) (by repeat constructor)
    replace H := H.del (r := .blk g8 _ _) (by repeat constructor)
    replace H := H.del (r := .row (.slice A5 832 c5) _ _ _ _) (by repeat constructor)
    replace H := H.del (r := .row (.slice A6 16 c6) _ _ _ _) (by repeat constructor)
    replace H := H.del (r := .row x _ _ _ _) (by repeat constructor)
    replace H := H.del (r := .blk g11 _ _) (by repeat constructor)
    exact ⟨⟨at0,op,b,fst,recs,places,en⟩,Ar0,cr0,Ap0,cp0,cells,D,rfl,by rw [hB];rfl,hD,hpl,(by simp only;omega),H⟩
   |false =>
    have RC2 := RC (en : Int)
    rw [hB] at RC2
    go_wp2_with (first
  |((with_reducible refine gate_dst (N := 11) rfl ?_);refine l_allocA rfl H 76 rfl _ zero76 ?_;clear H;intro g11 W H)
  |((with_reducible refine gate_store (t := 76) (p := 11) rfl ?_);refine l_storeW rfl H 76 _ _ rfl _ rfl _ rfl (by repeat constructor) _ size76 (by first|rfl|assumption|omega|(simp only [nums_length];omega)|simp [nums_length,zs] <;> omega) (by first|rfl|assumption|omega|(simp only [nums_length];omega)|simp [nums_length,zs] <;> omega) (by first|exact nums_one|assumption|exact on1_ rfl) ?_;clear H;intro W H)
  |((with_reducible refine gate_store (t := 3) (p := 70) rfl ?_);refine l_store1 rfl H 3 _ _ rfl _ _ rfl _ (by first|(go_simp;done)|(go_simp;with_reducible rfl)) (by repeat constructor) rfl rfl size3 (by first|rfl|assumption|omega|(simp only [nums_length];omega)|simp [nums_length,zs] <;> omega) ?_;clear H;intro W H)
  |((with_reducible refine gate_dst (N := 73) rfl ?_);refine l_load1 rfl H 3 _ rfl _ _ rfl (by repeat constructor) _ Tryd.underlying3 rfl _ (by first|rfl|assumption|exact nums_at _ (by omega)) ?_)
  |((with_reducible refine gate_dst (N := 76) rfl ?_);refine l_loadA rfl H 30 _ rfl _ rfl (by repeat constructor) _ _ Tryd.underlying30 rfl size30 (by first|rfl|assumption|omega|(simp only [nums_length];omega)|simp [nums_length,zs] <;> omega) ?_)
  |((with_reducible refine gate_store (t := 30) (p := 4) rfl ?_);refine l_storeW rfl H 30 _ _ rfl _ rfl _ rfl (by repeat constructor) _ size30 (by first|rfl|assumption|omega|(simp only [nums_length];omega)|simp [nums_length,zs] <;> omega) (by first|rfl|assumption|omega|(simp only [nums_length];omega)|simp [nums_length,zs] <;> omega) (by first|exact nums_one|assumption|exact on1_ rfl) ?_;clear H;intro W H)
     |(go_at_call 29;(with_reducible refine (BG _).mono ?_);rintro e W ⟨rfl,hb⟩;replace H := H.to hb;clear hb)
     |(go_at_call 30;(with_reducible refine (AC2 _ (H.rd (A := A5) (by repeat constructor)).1 (H.rd (A := A6) (by repeat constructor)).1).mono ?_);rintro e W ⟨rfl,hb⟩;replace H := H.to hb;clear hb)
     |(go_at_call 14;(with_reducible refine (RC2 _ (hr.below H.below)).mono ?_);rintro e W ⟨rfl,hb'⟩;replace H := H.to hb';clear hb'))
    replace H := Own.front (r := .blk g4 _ _) H (by repeat constructor)
    refine bodyPost_ret (results_cell_row (p := 4) (ty := 30) rfl _ _ g4 30 _ (0,0) _ rfl (H.heap .head) Tryd.underlying30 rfl size30) rfl ?_
    replace H := H.del (r := .blk g4 _ _) (by repeat constructor)
    replace H := H.del (r := .blk g7 _ _) (by repeat constructor)
    replace H := H.del (r := .blk g8 _ _) (by repeat constructor)
    replace H := H.del (r := .row (.slice A5 832 c5) _ _ _ _) (by repeat constructor)
    replace H := H.del (r := .row (.slice A6 16 c6) _ _ _ _) (by repeat constructor)
    replace H := H.del (r := .row x _ _ _ _) (by repeat constructor)
    replace H := H.del (r := .blk g11 _ _) (by repeat constructor)
    exact ⟨⟨at0,op,b,fst,recs,places,en⟩,Ar0,cr0,Ap0,cp0,cells,D,rfl,by rw [hB];rfl,hD,hpl,(by simp only;omega),H⟩
  |some y =>
   obtain ⟨k,d,m⟩ := y
   have hadv := told_adv (bgN_le at0) hFl hT
   have AC2 : ∀ W,Rd W A5 (nums .u8 F) → Rd W A6 (bools ok) → Calls Tryd.prog 30 #[.int .u64 e,.slice A5 832 c5,.slice A6 16 c6,.int .i64 ((bgN at0 : Nat) : Int)] W fun en W' => ∃ A9 c9,m = 11 + d.length ∧ d.length ≤ 197 ∧ en = .returned (.tuple #[.agg #[.int .i64 k,.int .u32 ep,.slice A9 d.length c9],.int .i64 (m : Int)]) ∧ W'.ownsRow W.heap.size 5 1 (.slice A9 d.length c9) d.length (nums .u8 d) ∧ Below W.heap.size W W' := fun W h1 h2 => (AC1 W h1 h2).mono (by
    rintro e W' ⟨hb,⟨h0,-⟩|⟨k',d',A',c',h0,h197,rfl,ho⟩⟩
    ·rw [hT] at h0;cases h0
    ·rw [hT] at h0;cases h0;exact ⟨A',c',rfl,h197,rfl,ho,hb⟩)
   have hst := scStep_some (s := ⟨at0,op,b,fst,recs,places,en⟩) hT
   unfold scFed at hst
   simp only at hst
   have FD := fun (A9 : Option Addr) (c9 : Nat) (W : World) (L' : List Res) (H : Own w F0 (.row x 5 1 b.length (nums .u8 b) :: L') W) hd hdc (h197 : d.length ≤ 197) => rfeed_h op b k ep d Av A9 cv c9 H (own_C H .head hx (fun _ => ⟨rfl,rfl⟩) (by omega)) hbc hb5 hd (by omega) hdc
   obtain ⟨r,hr9⟩ : ∃ r,feedF op b k d = r := ⟨_,rfl⟩
   have hb2l := feedF_len op b k d
   rw [hr9] at hst hb2l
   simp only [hr9] at FD
   obtain ⟨⟨rd,dn,er⟩,⟨o2,b2⟩⟩ := r
   simp only at hst FD hb2l
   clear hT AC1 hroom
   obtain ⟨pm,hpm⟩ : ∃ y,bgN at0 + m = y := ⟨_,rfl⟩
   rw [hpm] at hst hadv
   have w1 : IntKind.i64.wrap ((bgN at0 : Nat) + (m : Int)) = (pm : Int) := by rw [IntKind.wrap_i64];omega
   have q0 : ((m : Int) == 0) = false := by simp;omega
   have hm9 : 11 ≤ m := hadv.2.1
   have hpm8 : pm ≤ 832 := hadv.2.2
   have hge : at0 ≤ bgN at0 := bgN_ge at0 hat
   have hpm1 : at0 + 11 ≤ pm := by omega
   clear hadv hpm hge
   generalize bgN at0 = p at *
   by_cases her : er ≠ 0
   ·obtain rfl := feedF_er hr9 her
    obtain rfl := feedF_nd hr9
    rw [if_pos her] at hst
    rw [scRun_none hst] at hrun
    subst hrun
    have q3 : (er != 0) = true := by simpa using her
    clear hst
    cases op with
    |true =>
     cases hB : Img.restB fl n (cl (en : Int)) with
     |true =>
      have RC2 := RC (en : Int)
      rw [hB] at RC2
      go_wp2_with (first
  |((with_reducible refine gate_dst (N := 11) rfl ?_);refine l_allocA rfl H 76 rfl _ zero76 ?_;clear H;intro g11 W H)
  |((with_reducible refine gate_store (t := 76) (p := 11) rfl ?_);refine l_storeW rfl H 76 _ _ rfl _ rfl _ rfl (by repeat constructor) _ size76 (by first|rfl|assumption|omega|(simp only [nums_length];omega)|simp [nums_length,zs] <;> omega) (by first|rfl|assumption|omega|(simp only [nums_length];omega)|simp [nums_length,zs] <;> omega) (by first|exact nums_one|assumption|exact on1_ rfl) ?_;clear H;intro W H)
  |((with_reducible refine gate_dst (N := 38) rfl ?_);refine l_load1 rfl H 4 _ rfl _ _ rfl (by repeat constructor) _ Tryd.underlying4 rfl _ (by first|rfl|assumption|exact nums_at _ (by omega)) ?_)
  |((with_reducible refine gate_dst (N := 42) rfl ?_);refine l_loadA rfl H 73 _ rfl _ rfl (by repeat constructor) _ _ Tryd.underlying73 rfl size73 (by first|rfl|assumption|omega|(simp only [nums_length];omega)|simp [nums_length,zs] <;> omega) ?_)
  |((with_reducible refine gate_dst (N := 43) rfl ?_);refine l_loadA rfl H 76 _ rfl _ rfl (by repeat constructor) _ _ Tryd.underlying76 rfl size76 (by first|rfl|assumption|omega|(simp only [nums_length];omega)|simp [nums_length,zs] <;> omega) ?_)
  |((with_reducible refine gate_dst (N := 13) rfl ?_);refine l_allocA rfl H 73 rfl _ zero73 ?_;clear H;intro g13 W H)
  |((with_reducible refine gate_store (t := 73) (p := 13) rfl ?_);refine l_storeW rfl H 73 _ _ rfl _ rfl _ rfl (by repeat constructor) _ size73 (by first|rfl|assumption|omega|(simp only [nums_length];omega)|simp [nums_length,zs] <;> omega) (by first|rfl|assumption|omega|(simp only [nums_length];omega)|simp [nums_length,zs] <;> omega) (by first|exact nums_one|assumption|exact on1_ rfl) ?_;clear H;intro W H)
  |((with_reducible refine gate_store (t := 3) (p := 70) rfl ?_);refine l_store1 rfl H 3 _ _ rfl _ _ rfl _ (by first|(go_simp;done)|(go_simp;with_reducible rfl)) (by repeat constructor) rfl rfl size3 (by first|rfl|assumption|omega|(simp only [nums_length];omega)|simp [nums_length,zs] <;> omega) ?_;clear H;intro W H)
  |((with_reducible refine gate_dst (N := 73) rfl ?_);refine l_load1 rfl H 3 _ rfl _ _ rfl (by repeat constructor) _ Tryd.underlying3 rfl _ (by first|rfl|assumption|exact nums_at _ (by omega)) ?_)
  |((with_reducible refine gate_store (t := 3) (p := 75) rfl ?_);refine l_store1 rfl H 3 _ _ rfl _ _ rfl _ (by first|(go_simp;done)|(go_simp;with_reducible rfl)) (by repeat constructor) rfl rfl size3 (by first|rfl|assumption|omega|(simp only [nums_length];omega)|simp [nums_length,zs] <;> omega) ?_;clear H;intro W H)
  |((with_reducible refine gate_dst (N := 76) rfl ?_);refine l_loadA rfl H 30 _ rfl _ rfl (by repeat constructor) _ _ Tryd.underlying30 rfl size30 (by first|rfl|assumption|omega|(simp only [nums_length];omega)|simp [nums_length,zs] <;> omega) ?_)
  |((with_reducible refine gate_store (t := 30) (p := 4) rfl ?_);refine l_storeW rfl H 30 _ _ rfl _ rfl _ rfl (by repeat constructor) _ size30 (by first|rfl|assumption|omega|(simp only [nums_length];omega)|simp [nums_length,zs] <;> omega) (by first|rfl|assumption|omega|(simp only [nums_length];omega)|simp [nums_length,zs] <;> omega) (by first|exact nums_one|assumption|exact on1_ rfl) ?_;clear H;intro W H)
       |(go_at_call 29;(with_reducible refine (BG _).mono ?_);rintro e W ⟨rfl,hb⟩;replace H := H.to hb;clear hb)
       |(go_at_call 30;(with_reducible refine (AC2 _ (H.rd (A := A5) (by repeat constructor)).1 (H.rd (A := A6) (by repeat constructor)).1).mono ?_);rintro e W ⟨A9,c9,-,hd197,rfl,ho,hb⟩;replace H := H.addRow hb ho;clear hb ho)
       |(go_at_call 31;replace H := Own.front (r := .row x _ _ _ _) H (by repeat constructor);(with_reducible refine (FD A9 c9 _ _ H (H.rowC (A := A9) (cc := c9) (by repeat constructor)).2.2 (H.rowC (A := A9) (cc := c9) (by repeat constructor)).1 hd197).mono ?_);clear H;rintro e W ⟨rv,v9,x9,rfl,hs1,hs2,hx1,hx2,H⟩;(try dsimp only at H);obtain ⟨Ar,cr,rfl,hcr⟩ := hs1;obtain ⟨Av2,cv2,rfl,hcv2⟩ := hs2)
       |(go_at_call 14;(with_reducible refine (RC2 _ (hr.below H.below)).mono ?_);rintro e W ⟨rfl,hb'⟩;replace H := H.to hb';clear hb'))
      replace H := Own.front (r := .blk g4 _ _) H (by repeat constructor)
      refine bodyPost_ret (results_cell_row (p := 4) (ty := 30) rfl _ _ g4 30 _ (0,0) _ rfl (H.heap .head) Tryd.underlying30 rfl size30) rfl ?_
      replace H := H.del (r := .blk g4 _ _) (by repeat constructor)
      replace H := H.del (r := .blk g7 _ _) (by repeat constructor)
      replace H := H.del (r := .blk g8 _ _) (by repeat constructor)
      replace H := H.del (r := .row (.slice A5 832 c5) _ _ _ _) (by repeat constructor)
      replace H := H.del (r := .row (.slice A6 16 c6) _ _ _ _) (by repeat constructor)
      replace H := H.del (r := .row x _ _ _ _) (by repeat constructor)
      replace H := H.del (r := .blk g11 _ _) (by repeat constructor)
      replace H := H.del (r := .blk g13 _ _) (by repeat constructor)
      replace H := H.del (r := .row (.slice A9 d.length c9) _ _ _ _) (by repeat constructor)
      replace H := H.del (r := .row x9 _ _ _ _) (by repeat constructor)
      exact ⟨⟨at0,true,b,fst,recs,places,en⟩,Ar0,cr0,Ap0,cp0,cells,D,rfl,by rw [hB];rfl,hD,hpl,(by simp only;omega),H⟩
     |false =>
      have RC2 := RC (en : Int)
      rw [hB] at RC2
      go_wp2_with (first
  |((with_reducible refine gate_dst (N := 11) rfl ?_);refine l_allocA rfl H 76 rfl _ zero76 ?_;clear H;intro g11 W H)
  |((with_reducible refine gate_store (t := 76) (p := 11) rfl ?_);refine l_storeW rfl H 76 _ _ rfl _ rfl _ rfl (by repeat constructor) _ size76 (by first|rfl|assumption|omega|(simp only [nums_length];omega)|simp [nums_length,zs] <;> omega) (by first|rfl|assumption|omega|(simp only [nums_length];omega)|simp [nums_length,zs] <;> omega) (by first|exact nums_one|assumption|exact on1_ rfl) ?_;clear H;intro W H)
  |((with_reducible refine gate_dst (N := 38) rfl ?_);refine l_load1 rfl H 4 _ rfl _ _ rfl (by repeat constructor) _ Tryd.underlying4 rfl _ (by first|rfl|assumption|exact nums_at _ (by omega)) ?_)
  |((with_reducible refine gate_dst (N := 42) rfl ?_);refine l_loadA rfl H 73 _ rfl _ rfl (by repeat constructor) _ _ Tryd.underlying73 rfl size73 (by first|rfl|assumption|omega|(simp only [nums_length];omega)|simp [nums_length,zs] <;> omega) ?_)
  |((with_reducible refine gate_dst (N := 43) rfl ?_);refine l_loadA rfl H 76 _ rfl _ rfl (by repeat constructor) _ _ Tryd.underlying76 rfl size76 (by first|rfl|assumption|omega|(simp only [nums_length];omega)|simp [nums_length,zs] <;> omega) ?_)
  |((with_reducible refine gate_dst (N := 13) rfl ?_);refine l_allocA rfl H 73 rfl _ zero73 ?_;clear H;intro g13 W H)
  |((with_reducible refine gate_store (t := 73) (p := 13) rfl ?_);refine l_storeW rfl H 73 _ _ rfl _ rfl _ rfl (by repeat constructor) _ size73 (by first|rfl|assumption|omega|(simp only [nums_length];omega)|simp [nums_length,zs] <;> omega) (by first|rfl|assumption|omega|(simp only [nums_length];omega)|simp [nums_length,zs] <;> omega) (by first|exact nums_one|assumption|exact on1_ rfl) ?_;clear H;intro W H)
  |((with_reducible refine gate_store (t := 3) (p := 70) rfl ?_);refine l_store1 rfl H 3 _ _ rfl _ _ rfl _ (by first|(go_simp;done)|(go_simp;with_reducible rfl)) (by repeat constructor) rfl rfl size3 (by first|rfl|assumption|omega|(simp only [nums_length];omega)|simp [nums_length,zs] <;> omega) ?_;clear H;intro W H)
  |((with_reducible refine gate_dst (N := 73) rfl ?_);refine l_load1 rfl H 3 _ rfl _ _ rfl (by repeat constructor) _ Tryd.underlying3 rfl _ (by first|rfl|assumption|exact nums_at _ (by omega)) ?_)
  |((with_reducible refine gate_dst (N := 76) rfl ?_);refine l_loadA rfl H 30 _ rfl _ rfl (by repeat constructor) _ _ Tryd.underlying30 rfl size30 (by first|rfl|assumption|omega|(simp only [nums_length];omega)|simp [nums_length,zs] <;> omega) ?_)
  |((with_reducible refine gate_store (t := 30) (p := 4) rfl ?_);refine l_storeW rfl H 30 _ _ rfl _ rfl _ rfl (by repeat constructor) _ size30 (by first|rfl|assumption|omega|(simp only [nums_length];omega)|simp [nums_length,zs] <;> omega) (by first|rfl|assumption|omega|(simp only [nums_length];omega)|simp [nums_length,zs] <;> omega) (by first|exact nums_one|assumption|exact on1_ rfl) ?_;clear H;intro W H)
       |(go_at_call 29;(with_reducible refine (BG _).mono ?_);rintro e W ⟨rfl,hb⟩;replace H := H.to hb;clear hb)
       |(go_at_call 30;(with_reducible refine (AC2 _ (H.rd (A := A5) (by repeat constructor)).1 (H.rd (A := A6) (by repeat constructor)).1).mono ?_);rintro e W ⟨A9,c9,-,hd197,rfl,ho,hb⟩;replace H := H.addRow hb ho;clear hb ho)
       |(go_at_call 31;replace H := Own.front (r := .row x _ _ _ _) H (by repeat constructor);(with_reducible refine (FD A9 c9 _ _ H (H.rowC (A := A9) (cc := c9) (by repeat constructor)).2.2 (H.rowC (A := A9) (cc := c9) (by repeat constructor)).1 hd197).mono ?_);clear H;rintro e W ⟨rv,v9,x9,rfl,hs1,hs2,hx1,hx2,H⟩;(try dsimp only at H);obtain ⟨Ar,cr,rfl,hcr⟩ := hs1;obtain ⟨Av2,cv2,rfl,hcv2⟩ := hs2)
       |(go_at_call 14;(with_reducible refine (RC2 _ (hr.below H.below)).mono ?_);rintro e W ⟨rfl,hb'⟩;replace H := H.to hb';clear hb'))
      replace H := Own.front (r := .blk g4 _ _) H (by repeat constructor)
      refine bodyPost_ret (results_cell_row (p := 4) (ty := 30) rfl _ _ g4 30 _ (0,0) _ rfl (H.heap .head) Tryd.underlying30 rfl size30) rfl ?_
      replace H := H.del (r := .blk g4 _ _) (by repeat constructor)
      replace H := H.del (r := .blk g7 _ _) (by repeat constructor)
      replace H := H.del (r := .blk g8 _ _) (by repeat constructor)
      replace H := H.del (r := .row (.slice A5 832 c5) _ _ _ _) (by repeat constructor)
      replace H := H.del (r := .row (.slice A6 16 c6) _ _ _ _) (by repeat constructor)
      replace H := H.del (r := .row x _ _ _ _) (by repeat constructor)
      replace H := H.del (r := .blk g11 _ _) (by repeat constructor)
      replace H := H.del (r := .blk g13 _ _) (by repeat constructor)
      replace H := H.del (r := .row (.slice A9 d.length c9) _ _ _ _) (by repeat constructor)
      replace H := H.del (r := .row x9 _ _ _ _) (by repeat constructor)
      exact ⟨⟨at0,true,b,fst,recs,places,en⟩,Ar0,cr0,Ap0,cp0,cells,D,rfl,by rw [hB];rfl,hD,hpl,(by simp only;omega),H⟩
    |false =>
     cases hB : Img.restB fl n (cl (en : Int)) with
     |true =>
      have RC2 := RC (en : Int)
      rw [hB] at RC2
      go_wp2_with (first
  |((with_reducible refine gate_dst (N := 11) rfl ?_);refine l_allocA rfl H 76 rfl _ zero76 ?_;clear H;intro g11 W H)
  |((with_reducible refine gate_store (t := 76) (p := 11) rfl ?_);refine l_storeW rfl H 76 _ _ rfl _ rfl _ rfl (by repeat constructor) _ size76 (by first|rfl|assumption|omega|(simp only [nums_length];omega)|simp [nums_length,zs] <;> omega) (by first|rfl|assumption|omega|(simp only [nums_length];omega)|simp [nums_length,zs] <;> omega) (by first|exact nums_one|assumption|exact on1_ rfl) ?_;clear H;intro W H)
  |((with_reducible refine gate_dst (N := 38) rfl ?_);refine l_load1 rfl H 4 _ rfl _ _ rfl (by repeat constructor) _ Tryd.underlying4 rfl _ (by first|rfl|assumption|exact nums_at _ (by omega)) ?_)
  |((with_reducible refine gate_dst (N := 42) rfl ?_);refine l_loadA rfl H 73 _ rfl _ rfl (by repeat constructor) _ _ Tryd.underlying73 rfl size73 (by first|rfl|assumption|omega|(simp only [nums_length];omega)|simp [nums_length,zs] <;> omega) ?_)
  |((with_reducible refine gate_dst (N := 43) rfl ?_);refine l_loadA rfl H 76 _ rfl _ rfl (by repeat constructor) _ _ Tryd.underlying76 rfl size76 (by first|rfl|assumption|omega|(simp only [nums_length];omega)|simp [nums_length,zs] <;> omega) ?_)
  |((with_reducible refine gate_dst (N := 13) rfl ?_);refine l_allocA rfl H 73 rfl _ zero73 ?_;clear H;intro g13 W H)
  |((with_reducible refine gate_store (t := 73) (p := 13) rfl ?_);refine l_storeW rfl H 73 _ _ rfl _ rfl _ rfl (by repeat constructor) _ size73 (by first|rfl|assumption|omega|(simp only [nums_length];omega)|simp [nums_length,zs] <;> omega) (by first|rfl|assumption|omega|(simp only [nums_length];omega)|simp [nums_length,zs] <;> omega) (by first|exact nums_one|assumption|exact on1_ rfl) ?_;clear H;intro W H)
  |((with_reducible refine gate_store (t := 3) (p := 70) rfl ?_);refine l_store1 rfl H 3 _ _ rfl _ _ rfl _ (by first|(go_simp;done)|(go_simp;with_reducible rfl)) (by repeat constructor) rfl rfl size3 (by first|rfl|assumption|omega|(simp only [nums_length];omega)|simp [nums_length,zs] <;> omega) ?_;clear H;intro W H)
  |((with_reducible refine gate_dst (N := 73) rfl ?_);refine l_load1 rfl H 3 _ rfl _ _ rfl (by repeat constructor) _ Tryd.underlying3 rfl _ (by first|rfl|assumption|exact nums_at _ (by omega)) ?_)
  |((with_reducible refine gate_store (t := 3) (p := 75) rfl ?_);refine l_store1 rfl H 3 _ _ rfl _ _ rfl _ (by first|(go_simp;done)|(go_simp;with_reducible rfl)) (by repeat constructor) rfl rfl size3 (by first|rfl|assumption|omega|(simp only [nums_length];omega)|simp [nums_length,zs] <;> omega) ?_;clear H;intro W H)
  |((with_reducible refine gate_dst (N := 76) rfl ?_);refine l_loadA rfl H 30 _ rfl _ rfl (by repeat constructor) _ _ Tryd.underlying30 rfl size30 (by first|rfl|assumption|omega|(simp only [nums_length];omega)|simp [nums_length,zs] <;> omega) ?_)
  |((with_reducible refine gate_store (t := 30) (p := 4) rfl ?_);refine l_storeW rfl H 30 _ _ rfl _ rfl _ rfl (by repeat constructor) _ size30 (by first|rfl|assumption|omega|(simp only [nums_length];omega)|simp [nums_length,zs] <;> omega) (by first|rfl|assumption|omega|(simp only [nums_length];omega)|simp [nums_length,zs] <;> omega) (by first|exact nums_one|assumption|exact on1_ rfl) ?_;clear H;intro W H)
       |(go_at_call 29;(with_reducible refine (BG _).mono ?_);rintro e W ⟨rfl,hb⟩;replace H := H.to hb;clear hb)
       |(go_at_call 30;(with_reducible refine (AC2 _ (H.rd (A := A5) (by repeat constructor)).1 (H.rd (A := A6) (by repeat constructor)).1).mono ?_);rintro e W ⟨A9,c9,-,hd197,rfl,ho,hb⟩;replace H := H.addRow hb ho;clear hb ho)
       |(go_at_call 31;replace H := Own.front (r := .row x _ _ _ _) H (by repeat constructor);(with_reducible refine (FD A9 c9 _ _ H (H.rowC (A := A9) (cc := c9) (by repeat constructor)).2.2 (H.rowC (A := A9) (cc := c9) (by repeat constructor)).1 hd197).mono ?_);clear H;rintro e W ⟨rv,v9,x9,rfl,hs1,hs2,hx1,hx2,H⟩;(try dsimp only at H);obtain ⟨Ar,cr,rfl,hcr⟩ := hs1;obtain ⟨Av2,cv2,rfl,hcv2⟩ := hs2)
       |(go_at_call 14;(with_reducible refine (RC2 _ (hr.below H.below)).mono ?_);rintro e W ⟨rfl,hb'⟩;replace H := H.to hb';clear hb'))
      replace H := Own.front (r := .blk g4 _ _) H (by repeat constructor)
      refine bodyPost_ret (results_cell_row (p := 4) (ty := 30) rfl _ _ g4 30 _ (0,0) _ rfl (H.heap .head) Tryd.underlying30 rfl size30) rfl ?_
      replace H := H.del (r := .blk g4 _ _) (by repeat constructor)
      replace H := H.del (r := .blk g7 _ _) (by repeat constructor)
      replace H := H.del (r := .blk g8 _ _) (by repeat constructor)
      replace H := H.del (r := .row (.slice A5 832 c5) _ _ _ _) (by repeat constructor)
      replace H := H.del (r := .row (.slice A6 16 c6) _ _ _ _) (by repeat constructor)
      replace H := H.del (r := .row x _ _ _ _) (by repeat constructor)
      replace H := H.del (r := .blk g11 _ _) (by repeat constructor)
      replace H := H.del (r := .blk g13 _ _) (by repeat constructor)
      replace H := H.del (r := .row (.slice A9 d.length c9) _ _ _ _) (by repeat constructor)
      replace H := H.del (r := .row x9 _ _ _ _) (by repeat constructor)
      exact ⟨⟨at0,false,b,fst,recs,places,en⟩,Ar0,cr0,Ap0,cp0,cells,D,rfl,by rw [hB];rfl,hD,hpl,(by simp only;omega),H⟩
     |false =>
      have RC2 := RC (en : Int)
      rw [hB] at RC2
      go_wp2_with (first
  |((with_reducible refine gate_dst (N := 11) rfl ?_);refine l_allocA rfl H 76 rfl _ zero76 ?_;clear H;intro g11 W H)
  |((with_reducible refine gate_store (t := 76) (p := 11) rfl ?_);refine l_storeW rfl H 76 _ _ rfl _ rfl _ rfl (by repeat constructor) _ size76 (by first|rfl|assumption|omega|(simp only [nums_length];omega)|simp [nums_length,zs] <;> omega) (by first|rfl|assumption|omega|(simp only [nums_length];omega)|simp [nums_length,zs] <;> omega) (by first|exact nums_one|assumption|exact on1_ rfl) ?_;clear H;intro W H)
  |((with_reducible refine gate_dst (N := 38) rfl ?_);refine l_load1 rfl H 4 _ rfl _ _ rfl (by repeat constructor) _ Tryd.underlying4 rfl _ (by first|rfl|assumption|exact nums_at _ (by omega)) ?_)
  |((with_reducible refine gate_dst (N := 42) rfl ?_);refine l_loadA rfl H 73 _ rfl _ rfl (by repeat constructor) _ _ Tryd.underlying73 rfl size73 (by first|rfl|assumption|omega|(simp only [nums_length];omega)|simp [nums_length,zs] <;> omega) ?_)
  |((with_reducible refine gate_dst (N := 43) rfl ?_);refine l_loadA rfl H 76 _ rfl _ rfl (by repeat constructor) _ _ Tryd.underlying76 rfl size76 (by first|rfl|assumption|omega|(simp only [nums_length];omega)|simp [nums_length,zs] <;> omega) ?_)
  |((with_reducible refine gate_dst (N := 13) rfl ?_);refine l_allocA rfl H 73 rfl _ zero73 ?_;clear H;intro g13 W H)
  |((with_reducible refine gate_store (t := 73) (p := 13) rfl ?_);refine l_storeW rfl H 73 _ _ rfl _ rfl _ rfl (by repeat constructor) _ size73 (by first|rfl|assumption|omega|(simp only [nums_length];omega)|simp [nums_length,zs] <;> omega) (by first|rfl|assumption|omega|(simp only [nums_length];omega)|simp [nums_length,zs] <;> omega) (by first|exact nums_one|assumption|exact on1_ rfl) ?_;clear H;intro W H)
  |((with_reducible refine gate_store (t := 3) (p := 70) rfl ?_);refine l_store1 rfl H 3 _ _ rfl _ _ rfl _ (by first|(go_simp;done)|(go_simp;with_reducible rfl)) (by repeat constructor) rfl rfl size3 (by first|rfl|assumption|omega|(simp only [nums_length];omega)|simp [nums_length,zs] <;> omega) ?_;clear H;intro W H)
  |((with_reducible refine gate_dst (N := 73) rfl ?_);refine l_load1 rfl H 3 _ rfl _ _ rfl (by repeat constructor) _ Tryd.underlying3 rfl _ (by first|rfl|assumption|exact nums_at _ (by omega)) ?_)
  |((with_reducible refine gate_dst (N := 76) rfl ?_);refine l_loadA rfl H 30 _ rfl _ rfl (by repeat constructor) _ _ Tryd.underlying30 rfl size30 (by first|rfl|assumption|omega|(simp only [nums_length];omega)|simp [nums_length,zs] <;> omega) ?_)
  |((with_reducible refine gate_store (t := 30) (p := 4) rfl ?_);refine l_storeW rfl H 30 _ _ rfl _ rfl _ rfl (by repeat constructor) _ size30 (by first|rfl|assumption|omega|(simp only [nums_length];omega)|simp [nums_length,zs] <;> omega) (by first|rfl|assumption|omega|(simp only [nums_length];omega)|simp [nums_length,zs] <;> omega) (by first|exact nums_one|assumption|exact on1_ rfl) ?_;clear H;intro W H)
       |(go_at_call 29;(with_reducible refine (BG _).mono ?_);rintro e W ⟨rfl,hb⟩;replace H := H.to hb;clear hb)
       |(go_at_call 30;(with_reducible refine (AC2 _ (H.rd (A := A5) (by repeat constructor)).1 (H.rd (A := A6) (by repeat constructor)).1).mono ?_);rintro e W ⟨A9,c9,-,hd197,rfl,ho,hb⟩;replace H := H.addRow hb ho;clear hb ho)
       |(go_at_call 31;replace H := Own.front (r := .row x _ _ _ _) H (by repeat constructor);(with_reducible refine (FD A9 c9 _ _ H (H.rowC (A := A9) (cc := c9) (by repeat constructor)).2.2 (H.rowC (A := A9) (cc := c9) (by repeat constructor)).1 hd197).mono ?_);clear H;rintro e W ⟨rv,v9,x9,rfl,hs1,hs2,hx1,hx2,H⟩;(try dsimp only at H);obtain ⟨Ar,cr,rfl,hcr⟩ := hs1;obtain ⟨Av2,cv2,rfl,hcv2⟩ := hs2)
       |(go_at_call 14;(with_reducible refine (RC2 _ (hr.below H.below)).mono ?_);rintro e W ⟨rfl,hb'⟩;replace H := H.to hb';clear hb'))
      replace H := Own.front (r := .blk g4 _ _) H (by repeat constructor)
      refine bodyPost_ret (results_cell_row (p := 4) (ty := 30) rfl _ _ g4 30 _ (0,0) _ rfl (H.heap .head) Tryd.underlying30 rfl size30) rfl ?_
      replace H := H.del (r := .blk g4 _ _) (by repeat constructor)
      replace H := H.del (r := .blk g7 _ _) (by repeat constructor)
      replace H := H.del (r := .blk g8 _ _) (by repeat constructor)
      replace H := H.del (r := .row (.slice A5 832 c5) _ _ _ _) (by repeat constructor)
      replace H := H.del (r := .row (.slice A6 16 c6) _ _ _ _) (by repeat constructor)
      replace H := H.del (r := .row x _ _ _ _) (by repeat constructor)
      replace H := H.del (r := .blk g11 _ _) (by repeat constructor)
      replace H := H.del (r := .blk g13 _ _) (by repeat constructor)
      replace H := H.del (r := .row (.slice A9 d.length c9) _ _ _ _) (by repeat constructor)
      replace H := H.del (r := .row x9 _ _ _ _) (by repeat constructor)
      exact ⟨⟨at0,false,b,fst,recs,places,en⟩,Ar0,cr0,Ap0,cp0,cells,D,rfl,by rw [hB];rfl,hD,hpl,(by simp only;omega),H⟩
   ·obtain rfl : er = 0 := Decidable.of_not_not her
    rw [if_neg her] at hst
    clear her
    obtain ⟨gk',rfl⟩ : ∃ q,gk = q + 1 := ⟨gk - 1,by omega⟩
    cases dn with
    |false =>
     obtain rfl := feedF_nd hr9
     rw [if_neg (by decide)] at hst
     rw [scRun_some hst] at hrun
     cases op with
     |true =>
      go_wp2_with (first
  |((with_reducible refine gate_dst (N := 11) rfl ?_);refine l_allocA rfl H 76 rfl _ zero76 ?_;clear H;intro g11 W H)
  |((with_reducible refine gate_store (t := 76) (p := 11) rfl ?_);refine l_storeW rfl H 76 _ _ rfl _ rfl _ rfl (by repeat constructor) _ size76 (by first|rfl|assumption|omega|(simp only [nums_length];omega)|simp [nums_length,zs] <;> omega) (by first|rfl|assumption|omega|(simp only [nums_length];omega)|simp [nums_length,zs] <;> omega) (by first|exact nums_one|assumption|exact on1_ rfl) ?_;clear H;intro W H)
  |((with_reducible refine gate_dst (N := 38) rfl ?_);refine l_load1 rfl H 4 _ rfl _ _ rfl (by repeat constructor) _ Tryd.underlying4 rfl _ (by first|rfl|assumption|exact nums_at _ (by omega)) ?_)
  |((with_reducible refine gate_dst (N := 42) rfl ?_);refine l_loadA rfl H 73 _ rfl _ rfl (by repeat constructor) _ _ Tryd.underlying73 rfl size73 (by first|rfl|assumption|omega|(simp only [nums_length];omega)|simp [nums_length,zs] <;> omega) ?_)
  |((with_reducible refine gate_dst (N := 43) rfl ?_);refine l_loadA rfl H 76 _ rfl _ rfl (by repeat constructor) _ _ Tryd.underlying76 rfl size76 (by first|rfl|assumption|omega|(simp only [nums_length];omega)|simp [nums_length,zs] <;> omega) ?_)
  |((with_reducible refine gate_dst (N := 13) rfl ?_);refine l_allocA rfl H 73 rfl _ zero73 ?_;clear H;intro g13 W H)
  |((with_reducible refine gate_store (t := 73) (p := 13) rfl ?_);refine l_storeW rfl H 73 _ _ rfl _ rfl _ rfl (by repeat constructor) _ size73 (by first|rfl|assumption|omega|(simp only [nums_length];omega)|simp [nums_length,zs] <;> omega) (by first|rfl|assumption|omega|(simp only [nums_length];omega)|simp [nums_length,zs] <;> omega) (by first|exact nums_one|assumption|exact on1_ rfl) ?_;clear H;intro W H)
  |((with_reducible refine gate_dst (N := 51) rfl ?_);refine l_loadA rfl H 73 _ rfl _ rfl (by repeat constructor) _ _ Tryd.underlying73 rfl size73 (by first|rfl|assumption|omega|(simp only [nums_length];omega)|simp [nums_length,zs] <;> omega) ?_)
  |((with_reducible refine gate_store (t := 73) (p := 8) rfl ?_);refine l_storeW rfl H 73 _ _ rfl _ rfl _ rfl (by repeat constructor) _ size73 (by first|rfl|assumption|omega|(simp only [nums_length];omega)|simp [nums_length,zs] <;> omega) (by first|rfl|assumption|omega|(simp only [nums_length];omega)|simp [nums_length,zs] <;> omega) (by first|exact nums_one|assumption|exact on1_ rfl) ?_;clear H;intro W H)
       |(go_at_call 29;(with_reducible refine (BG _).mono ?_);rintro e W ⟨rfl,hb⟩;replace H := H.to hb;clear hb)
       |(go_at_call 30;(with_reducible refine (AC2 _ (H.rd (A := A5) (by repeat constructor)).1 (H.rd (A := A6) (by repeat constructor)).1).mono ?_);rintro e W ⟨A9,c9,-,hd197,rfl,ho,hb⟩;replace H := H.addRow hb ho;clear hb ho)
       |(go_at_call 31;replace H := Own.front (r := .row x _ _ _ _) H (by repeat constructor);(with_reducible refine (FD A9 c9 _ _ H (H.rowC (A := A9) (cc := c9) (by repeat constructor)).2.2 (H.rowC (A := A9) (cc := c9) (by repeat constructor)).1 hd197).mono ?_);clear H;rintro e W ⟨rv,v9,x9,rfl,hs1,hs2,hx1,hx2,H⟩;(try dsimp only at H);obtain ⟨Ar,cr,rfl,hcr⟩ := hs1;obtain ⟨Av2,cv2,rfl,hcv2⟩ := hs2))
      go_roundg gk'
      case measure => omega
      case rel =>
       replace H := H.del (r := .blk g11 _ _) (by repeat constructor)
       replace H := H.del (r := .blk g13 _ _) (by repeat constructor)
       replace H := H.del (r := .row (.slice A9 d.length c9) _ _ _ _) (by repeat constructor)
       replace H := H.del (r := .row x _ _ _ _) (by repeat constructor)
       replace H := Own.front (r := .blk g4 _ _) H (by repeat constructor)
       replace H := Own.front (r := .row (.slice A6 16 c6) _ _ _ _) H (by repeat constructor)
       replace H := Own.front (r := .row (.slice A5 832 c5) _ _ _ _) H (by repeat constructor)
       replace H := Own.front (r := .row (.slice Ap0 recs.length cp0) _ _ _ _) H (by repeat constructor)
       replace H := Own.front (r := .row (.slice Ar0 recs.length cr0) _ _ _ _) H (by repeat constructor)
       replace H := Own.front (r := .row x9 _ _ _ _) H (by repeat constructor)
       replace H := Own.front (r := .blk g8 _ _) H (by repeat constructor)
       replace H := Own.front (r := .blk g7 _ _) H (by repeat constructor)
       exact ⟨⟨pm,o2,b2,fst,recs,places,en⟩,Av2,cv2,x9,Ar0,cr0,Ap0,cp0,cells,D,rfl,rfl,hx2,hcv2,hb2l,hD,hpl,hpm8,by simp only;omega,hrun,by simp only;omega,H⟩
     |false =>
      go_wp2_with (first
  |((with_reducible refine gate_dst (N := 11) rfl ?_);refine l_allocA rfl H 76 rfl _ zero76 ?_;clear H;intro g11 W H)
  |((with_reducible refine gate_store (t := 76) (p := 11) rfl ?_);refine l_storeW rfl H 76 _ _ rfl _ rfl _ rfl (by repeat constructor) _ size76 (by first|rfl|assumption|omega|(simp only [nums_length];omega)|simp [nums_length,zs] <;> omega) (by first|rfl|assumption|omega|(simp only [nums_length];omega)|simp [nums_length,zs] <;> omega) (by first|exact nums_one|assumption|exact on1_ rfl) ?_;clear H;intro W H)
  |((with_reducible refine gate_dst (N := 38) rfl ?_);refine l_load1 rfl H 4 _ rfl _ _ rfl (by repeat constructor) _ Tryd.underlying4 rfl _ (by first|rfl|assumption|exact nums_at _ (by omega)) ?_)
  |((with_reducible refine gate_dst (N := 42) rfl ?_);refine l_loadA rfl H 73 _ rfl _ rfl (by repeat constructor) _ _ Tryd.underlying73 rfl size73 (by first|rfl|assumption|omega|(simp only [nums_length];omega)|simp [nums_length,zs] <;> omega) ?_)
  |((with_reducible refine gate_dst (N := 43) rfl ?_);refine l_loadA rfl H 76 _ rfl _ rfl (by repeat constructor) _ _ Tryd.underlying76 rfl size76 (by first|rfl|assumption|omega|(simp only [nums_length];omega)|simp [nums_length,zs] <;> omega) ?_)
  |((with_reducible refine gate_dst (N := 13) rfl ?_);refine l_allocA rfl H 73 rfl _ zero73 ?_;clear H;intro g13 W H)
  |((with_reducible refine gate_store (t := 73) (p := 13) rfl ?_);refine l_storeW rfl H 73 _ _ rfl _ rfl _ rfl (by repeat constructor) _ size73 (by first|rfl|assumption|omega|(simp only [nums_length];omega)|simp [nums_length,zs] <;> omega) (by first|rfl|assumption|omega|(simp only [nums_length];omega)|simp [nums_length,zs] <;> omega) (by first|exact nums_one|assumption|exact on1_ rfl) ?_;clear H;intro W H)
  |((with_reducible refine gate_dst (N := 51) rfl ?_);refine l_loadA rfl H 73 _ rfl _ rfl (by repeat constructor) _ _ Tryd.underlying73 rfl size73 (by first|rfl|assumption|omega|(simp only [nums_length];omega)|simp [nums_length,zs] <;> omega) ?_)
  |((with_reducible refine gate_store (t := 73) (p := 8) rfl ?_);refine l_storeW rfl H 73 _ _ rfl _ rfl _ rfl (by repeat constructor) _ size73 (by first|rfl|assumption|omega|(simp only [nums_length];omega)|simp [nums_length,zs] <;> omega) (by first|rfl|assumption|omega|(simp only [nums_length];omega)|simp [nums_length,zs] <;> omega) (by first|exact nums_one|assumption|exact on1_ rfl) ?_;clear H;intro W H)
       |(go_at_call 29;(with_reducible refine (BG _).mono ?_);rintro e W ⟨rfl,hb⟩;replace H := H.to hb;clear hb)
       |(go_at_call 30;(with_reducible refine (AC2 _ (H.rd (A := A5) (by repeat constructor)).1 (H.rd (A := A6) (by repeat constructor)).1).mono ?_);rintro e W ⟨A9,c9,-,hd197,rfl,ho,hb⟩;replace H := H.addRow hb ho;clear hb ho)
       |(go_at_call 31;replace H := Own.front (r := .row x _ _ _ _) H (by repeat constructor);(with_reducible refine (FD A9 c9 _ _ H (H.rowC (A := A9) (cc := c9) (by repeat constructor)).2.2 (H.rowC (A := A9) (cc := c9) (by repeat constructor)).1 hd197).mono ?_);clear H;rintro e W ⟨rv,v9,x9,rfl,hs1,hs2,hx1,hx2,H⟩;(try dsimp only at H);obtain ⟨Ar,cr,rfl,hcr⟩ := hs1;obtain ⟨Av2,cv2,rfl,hcv2⟩ := hs2))
      go_roundg gk'
      case measure => omega
      case rel =>
       replace H := H.del (r := .blk g11 _ _) (by repeat constructor)
       replace H := H.del (r := .blk g13 _ _) (by repeat constructor)
       replace H := H.del (r := .row (.slice A9 d.length c9) _ _ _ _) (by repeat constructor)
       replace H := H.del (r := .row x _ _ _ _) (by repeat constructor)
       replace H := Own.front (r := .blk g4 _ _) H (by repeat constructor)
       replace H := Own.front (r := .row (.slice A6 16 c6) _ _ _ _) H (by repeat constructor)
       replace H := Own.front (r := .row (.slice A5 832 c5) _ _ _ _) H (by repeat constructor)
       replace H := Own.front (r := .row (.slice Ap0 recs.length cp0) _ _ _ _) H (by repeat constructor)
       replace H := Own.front (r := .row (.slice Ar0 recs.length cr0) _ _ _ _) H (by repeat constructor)
       replace H := Own.front (r := .row x9 _ _ _ _) H (by repeat constructor)
       replace H := Own.front (r := .blk g8 _ _) H (by repeat constructor)
       replace H := Own.front (r := .blk g7 _ _) H (by repeat constructor)
       exact ⟨⟨pm,o2,b2,(p : Int),recs,places,en⟩,Av2,cv2,x9,Ar0,cr0,Ap0,cp0,cells,D,rfl,rfl,hx2,hcv2,hb2l,hD,hpl,hpm8,by simp only;omega,hrun,by simp only;omega,H⟩
    |true =>
     obtain rfl := feedF_d hr9
     rw [if_pos rfl] at hst
     rw [scRun_some hst] at hrun
     simp only [List.append_nil] at FD
     cases op with
     |true =>
      go_wp2_with (first
  |((with_reducible refine gate_dst (N := 11) rfl ?_);refine l_allocA rfl H 76 rfl _ zero76 ?_;clear H;intro g11 W H)
  |((with_reducible refine gate_store (t := 76) (p := 11) rfl ?_);refine l_storeW rfl H 76 _ _ rfl _ rfl _ rfl (by repeat constructor) _ size76 (by first|rfl|assumption|omega|(simp only [nums_length];omega)|simp [nums_length,zs] <;> omega) (by first|rfl|assumption|omega|(simp only [nums_length];omega)|simp [nums_length,zs] <;> omega) (by first|exact nums_one|assumption|exact on1_ rfl) ?_;clear H;intro W H)
  |((with_reducible refine gate_dst (N := 38) rfl ?_);refine l_load1 rfl H 4 _ rfl _ _ rfl (by repeat constructor) _ Tryd.underlying4 rfl _ (by first|rfl|assumption|exact nums_at _ (by omega)) ?_)
  |((with_reducible refine gate_dst (N := 42) rfl ?_);refine l_loadA rfl H 73 _ rfl _ rfl (by repeat constructor) _ _ Tryd.underlying73 rfl size73 (by first|rfl|assumption|omega|(simp only [nums_length];omega)|simp [nums_length,zs] <;> omega) ?_)
  |((with_reducible refine gate_dst (N := 43) rfl ?_);refine l_loadA rfl H 76 _ rfl _ rfl (by repeat constructor) _ _ Tryd.underlying76 rfl size76 (by first|rfl|assumption|omega|(simp only [nums_length];omega)|simp [nums_length,zs] <;> omega) ?_)
  |((with_reducible refine gate_dst (N := 13) rfl ?_);refine l_allocA rfl H 73 rfl _ zero73 ?_;clear H;intro g13 W H)
  |((with_reducible refine gate_store (t := 73) (p := 13) rfl ?_);refine l_storeW rfl H 73 _ _ rfl _ rfl _ rfl (by repeat constructor) _ size73 (by first|rfl|assumption|omega|(simp only [nums_length];omega)|simp [nums_length,zs] <;> omega) (by first|rfl|assumption|omega|(simp only [nums_length];omega)|simp [nums_length,zs] <;> omega) (by first|exact nums_one|assumption|exact on1_ rfl) ?_;clear H;intro W H)
  |((with_reducible refine gate_dst (N := 51) rfl ?_);refine l_loadA rfl H 73 _ rfl _ rfl (by repeat constructor) _ _ Tryd.underlying73 rfl size73 (by first|rfl|assumption|omega|(simp only [nums_length];omega)|simp [nums_length,zs] <;> omega) ?_)
  |((with_reducible refine gate_store (t := 73) (p := 8) rfl ?_);refine l_storeW rfl H 73 _ _ rfl _ rfl _ rfl (by repeat constructor) _ size73 (by first|rfl|assumption|omega|(simp only [nums_length];omega)|simp [nums_length,zs] <;> omega) (by first|rfl|assumption|omega|(simp only [nums_length];omega)|simp [nums_length,zs] <;> omega) (by first|exact nums_one|assumption|exact on1_ rfl) ?_;clear H;intro W H)
  |((with_reducible refine gate_dst (N := 57) rfl ?_);refine l_load1 rfl H 25 _ rfl _ _ rfl (by repeat constructor) _ Tryd.underlying25 rfl _ (by first|rfl|assumption|exact nums_at _ (by omega)) ?_)
  |((with_reducible refine gate_dst (N := 59) rfl ?_);refine l_build11 rfl H 25 38 _ rfl Tryd.underlying25 _ rfl _ zs38 rfl rfl ?_;clear H;intro g59 W H)
  |((with_reducible refine gate_dst (N := 60) rfl ?_);refine l_append1 rfl H _ _ 25 38 rfl Tryd.underlying25 _ _ _ inf38 rfl (by decide) (by decide) _ _ _ rfl (by repeat constructor) _ _ rfl (by repeat constructor) (by first|rfl|assumption|omega|(simp only [nums_length];omega)|simp [nums_length,zs] <;> omega) (by first|exact nums_one|assumption|exact on1_ rfl) (by omega) ?_;clear H;intro v60 W H;obtain ⟨A60,c60,rfl⟩ : ∃ A c,v60 = .slice A (recs.length + 1) c := H.row_slice (by repeat constructor))
  |((with_reducible refine gate_store (t := 25) (p := 61) rfl ?_);refine l_store1 rfl H 25 _ _ rfl _ _ rfl _ (by first|(go_simp;done)|(go_simp;with_reducible rfl)) (by repeat constructor) rfl rfl size25 (by first|rfl|assumption|omega|(simp only [nums_length];omega)|simp [nums_length,zs] <;> omega) ?_;clear H;intro W H)
  |((with_reducible refine gate_dst (N := 63) rfl ?_);refine l_load1 rfl H 26 _ rfl _ _ rfl (by repeat constructor) _ Tryd.underlying26 rfl _ (by first|rfl|assumption|exact nums_at _ (by omega)) ?_)
  |((with_reducible refine gate_dst (N := 65) rfl ?_);refine l_build11 rfl H 26 3 _ rfl Tryd.underlying26 _ rfl _ zs3 rfl rfl ?_;clear H;intro g65 W H)
  |((with_reducible refine gate_dst (N := 66) rfl ?_);refine l_append1 rfl H _ _ 26 3 rfl Tryd.underlying26 _ _ _ inf3 rfl (by decide) (by decide) _ _ _ rfl (by repeat constructor) _ _ rfl (by repeat constructor) (by first|rfl|assumption|omega|(simp only [nums_length];omega)|simp [nums_length,zs] <;> omega) (by first|exact nums_one|assumption|exact on1_ rfl) (by omega) ?_;clear H;intro v66 W H;obtain ⟨A66,c66,rfl⟩ : ∃ A c,v66 = .slice A (recs.length + 1) c := H.row_slice (by repeat constructor))
  |((with_reducible refine gate_store (t := 26) (p := 67) rfl ?_);refine l_store1 rfl H 26 _ _ rfl _ _ rfl _ (by first|(go_simp;done)|(go_simp;with_reducible rfl)) (by repeat constructor) rfl rfl size26 (by first|rfl|assumption|omega|(simp only [nums_length];omega)|simp [nums_length,zs] <;> omega) ?_;clear H;intro W H)
  |((with_reducible refine gate_store (t := 3) (p := 69) rfl ?_);refine l_store1 rfl H 3 _ _ rfl _ _ rfl _ (by first|(go_simp;done)|(go_simp;with_reducible rfl)) (by repeat constructor) rfl rfl size3 (by first|rfl|assumption|omega|(simp only [nums_length];omega)|simp [nums_length,zs] <;> omega) ?_;clear H;intro W H)
       |(go_at_call 29;(with_reducible refine (BG _).mono ?_);rintro e W ⟨rfl,hb⟩;replace H := H.to hb;clear hb)
       |(go_at_call 30;(with_reducible refine (AC2 _ (H.rd (A := A5) (by repeat constructor)).1 (H.rd (A := A6) (by repeat constructor)).1).mono ?_);rintro e W ⟨A9,c9,-,hd197,rfl,ho,hb⟩;replace H := H.addRow hb ho;clear hb ho)
       |(go_at_call 31;replace H := Own.front (r := .row x _ _ _ _) H (by repeat constructor);(with_reducible refine (FD A9 c9 _ _ H (H.rowC (A := A9) (cc := c9) (by repeat constructor)).2.2 (H.rowC (A := A9) (cc := c9) (by repeat constructor)).1 hd197).mono ?_);clear H;rintro e W ⟨rv,v9,x9,rfl,hs1,hs2,hx1,hx2,H⟩;(try dsimp only at H);obtain ⟨Ar,cr,rfl,hcr⟩ := hs1;obtain ⟨Av2,cv2,rfl,hcv2⟩ := hs2))
      go_roundg gk'
      case measure => omega
      case rel =>
       replace H := H.del (r := .blk g11 _ _) (by repeat constructor)
       replace H := H.del (r := .blk g13 _ _) (by repeat constructor)
       replace H := H.del (r := .blk g59 _ _) (by repeat constructor)
       replace H := H.del (r := .blk g65 _ _) (by repeat constructor)
       replace H := H.del (r := .row (.slice A9 d.length c9) _ _ _ _) (by repeat constructor)
       replace H := H.del (r := .row x _ _ _ _) (by repeat constructor)
       have hl1 : recs.length + 1 = (recs ++ [rd]).length := by simp
       have hnp : nums .i64 (places ++ [fst]) = nums .i64 places ++ [.int .i64 fst] := by simp [nums]
       rw [hl1] at H
       replace H := Own.front (r := .row x9 _ _ _ _) H (by repeat constructor)
       replace H := Own.front (r := .blk g4 _ _) H (by repeat constructor)
       replace H := Own.front (r := .row (.slice A6 16 c6) _ _ _ _) H (by repeat constructor)
       replace H := Own.front (r := .row (.slice A5 832 c5) _ _ _ _) H (by repeat constructor)
       replace H := Own.front (r := .row (.slice A66 _ c66) _ _ _ _) H (by repeat constructor)
       replace H := Own.front (r := .row (.slice A60 _ c60) _ _ _ _) H (by repeat constructor)
       replace H := H.cons (r := .row (.slice none 0 0) 5 1 0 []) (Below.refl _ _) (own_nil _ _ _ _) (fun k hk => by cases hk)
       replace H := Own.front (r := .blk g8 _ _) H (by repeat constructor)
       replace H := Own.front (r := .blk g7 _ _) H (by repeat constructor)
       refine ⟨⟨pm,o2,[],fst,recs ++ [rd],places ++ [fst],pm⟩,Av2,cv2,.slice none 0 0,A60,c60,A66,c66,cells ++ [Value.slice Ar rd.length cr],.row x9 5 1 rd.length (nums .u8 rd) :: D,rfl,rfl,fun h => absurd rfl h,hcv2,Nat.zero_le _,hD.snoc rd Ar cr x9 hcr hx1,by simp [hpl],hpm8,by simp only;omega,hrun,by simp only [List.length_append,List.length_cons,List.length_nil];omega,?_⟩
       simp only [hnp]
       exact H
     |false =>
      go_wp2_with (first
  |((with_reducible refine gate_dst (N := 11) rfl ?_);refine l_allocA rfl H 76 rfl _ zero76 ?_;clear H;intro g11 W H)
  |((with_reducible refine gate_store (t := 76) (p := 11) rfl ?_);refine l_storeW rfl H 76 _ _ rfl _ rfl _ rfl (by repeat constructor) _ size76 (by first|rfl|assumption|omega|(simp only [nums_length];omega)|simp [nums_length,zs] <;> omega) (by first|rfl|assumption|omega|(simp only [nums_length];omega)|simp [nums_length,zs] <;> omega) (by first|exact nums_one|assumption|exact on1_ rfl) ?_;clear H;intro W H)
  |((with_reducible refine gate_dst (N := 38) rfl ?_);refine l_load1 rfl H 4 _ rfl _ _ rfl (by repeat constructor) _ Tryd.underlying4 rfl _ (by first|rfl|assumption|exact nums_at _ (by omega)) ?_)
  |((with_reducible refine gate_dst (N := 42) rfl ?_);refine l_loadA rfl H 73 _ rfl _ rfl (by repeat constructor) _ _ Tryd.underlying73 rfl size73 (by first|rfl|assumption|omega|(simp only [nums_length];omega)|simp [nums_length,zs] <;> omega) ?_)
  |((with_reducible refine gate_dst (N := 43) rfl ?_);refine l_loadA rfl H 76 _ rfl _ rfl (by repeat constructor) _ _ Tryd.underlying76 rfl size76 (by first|rfl|assumption|omega|(simp only [nums_length];omega)|simp [nums_length,zs] <;> omega) ?_)
  |((with_reducible refine gate_dst (N := 13) rfl ?_);refine l_allocA rfl H 73 rfl _ zero73 ?_;clear H;intro g13 W H)
  |((with_reducible refine gate_store (t := 73) (p := 13) rfl ?_);refine l_storeW rfl H 73 _ _ rfl _ rfl _ rfl (by repeat constructor) _ size73 (by first|rfl|assumption|omega|(simp only [nums_length];omega)|simp [nums_length,zs] <;> omega) (by first|rfl|assumption|omega|(simp only [nums_length];omega)|simp [nums_length,zs] <;> omega) (by first|exact nums_one|assumption|exact on1_ rfl) ?_;clear H;intro W H)
  |((with_reducible refine gate_dst (N := 51) rfl ?_);refine l_loadA rfl H 73 _ rfl _ rfl (by repeat constructor) _ _ Tryd.underlying73 rfl size73 (by first|rfl|assumption|omega|(simp only [nums_length];omega)|simp [nums_length,zs] <;> omega) ?_)
  |((with_reducible refine gate_store (t := 73) (p := 8) rfl ?_);refine l_storeW rfl H 73 _ _ rfl _ rfl _ rfl (by repeat constructor) _ size73 (by first|rfl|assumption|omega|(simp only [nums_length];omega)|simp [nums_length,zs] <;> omega) (by first|rfl|assumption|omega|(simp only [nums_length];omega)|simp [nums_length,zs] <;> omega) (by first|exact nums_one|assumption|exact on1_ rfl) ?_;clear H;intro W H)
  |((with_reducible refine gate_dst (N := 57) rfl ?_);refine l_load1 rfl H 25 _ rfl _ _ rfl (by repeat constructor) _ Tryd.underlying25 rfl _ (by first|rfl|assumption|exact nums_at _ (by omega)) ?_)
  |((with_reducible refine gate_dst (N := 59) rfl ?_);refine l_build11 rfl H 25 38 _ rfl Tryd.underlying25 _ rfl _ zs38 rfl rfl ?_;clear H;intro g59 W H)
  |((with_reducible refine gate_dst (N := 60) rfl ?_);refine l_append1 rfl H _ _ 25 38 rfl Tryd.underlying25 _ _ _ inf38 rfl (by decide) (by decide) _ _ _ rfl (by repeat constructor) _ _ rfl (by repeat constructor) (by first|rfl|assumption|omega|(simp only [nums_length];omega)|simp [nums_length,zs] <;> omega) (by first|exact nums_one|assumption|exact on1_ rfl) (by omega) ?_;clear H;intro v60 W H;obtain ⟨A60,c60,rfl⟩ : ∃ A c,v60 = .slice A (recs.length + 1) c := H.row_slice (by repeat constructor))
  |((with_reducible refine gate_store (t := 25) (p := 61) rfl ?_);refine l_store1 rfl H 25 _ _ rfl _ _ rfl _ (by first|(go_simp;done)|(go_simp;with_reducible rfl)) (by repeat constructor) rfl rfl size25 (by first|rfl|assumption|omega|(simp only [nums_length];omega)|simp [nums_length,zs] <;> omega) ?_;clear H;intro W H)
  |((with_reducible refine gate_dst (N := 63) rfl ?_);refine l_load1 rfl H 26 _ rfl _ _ rfl (by repeat constructor) _ Tryd.underlying26 rfl _ (by first|rfl|assumption|exact nums_at _ (by omega)) ?_)
  |((with_reducible refine gate_dst (N := 65) rfl ?_);refine l_build11 rfl H 26 3 _ rfl Tryd.underlying26 _ rfl _ zs3 rfl rfl ?_;clear H;intro g65 W H)
  |((with_reducible refine gate_dst (N := 66) rfl ?_);refine l_append1 rfl H _ _ 26 3 rfl Tryd.underlying26 _ _ _ inf3 rfl (by decide) (by decide) _ _ _ rfl (by repeat constructor) _ _ rfl (by repeat constructor) (by first|rfl|assumption|omega|(simp only [nums_length];omega)|simp [nums_length,zs] <;> omega) (by first|exact nums_one|assumption|exact on1_ rfl) (by omega) ?_;clear H;intro v66 W H;obtain ⟨A66,c66,rfl⟩ : ∃ A c,v66 = .slice A (recs.length + 1) c := H.row_slice (by repeat constructor))
  |((with_reducible refine gate_store (t := 26) (p := 67) rfl ?_);refine l_store1 rfl H 26 _ _ rfl _ _ rfl _ (by first|(go_simp;done)|(go_simp;with_reducible rfl)) (by repeat constructor) rfl rfl size26 (by first|rfl|assumption|omega|(simp only [nums_length];omega)|simp [nums_length,zs] <;> omega) ?_;clear H;intro W H)
  |((with_reducible refine gate_store (t := 3) (p := 69) rfl ?_);refine l_store1 rfl H 3 _ _ rfl _ _ rfl _ (by first|(go_simp;done)|(go_simp;with_reducible rfl)) (by repeat constructor) rfl rfl size3 (by first|rfl|assumption|omega|(simp only [nums_length];omega)|simp [nums_length,zs] <;> omega) ?_;clear H;intro W H)
       |(go_at_call 29;(with_reducible refine (BG _).mono ?_);rintro e W ⟨rfl,hb⟩;replace H := H.to hb;clear hb)
       |(go_at_call 30;(with_reducible refine (AC2 _ (H.rd (A := A5) (by repeat constructor)).1 (H.rd (A := A6) (by repeat constructor)).1).mono ?_);rintro e W ⟨A9,c9,-,hd197,rfl,ho,hb⟩;replace H := H.addRow hb ho;clear hb ho)
       |(go_at_call 31;replace H := Own.front (r := .row x _ _ _ _) H (by repeat constructor);(with_reducible refine (FD A9 c9 _ _ H (H.rowC (A := A9) (cc := c9) (by repeat constructor)).2.2 (H.rowC (A := A9) (cc := c9) (by repeat constructor)).1 hd197).mono ?_);clear H;rintro e W ⟨rv,v9,x9,rfl,hs1,hs2,hx1,hx2,H⟩;(try dsimp only at H);obtain ⟨Ar,cr,rfl,hcr⟩ := hs1;obtain ⟨Av2,cv2,rfl,hcv2⟩ := hs2))
      go_roundg gk'
      case measure => omega
      case rel =>
       replace H := H.del (r := .blk g11 _ _) (by repeat constructor)
       replace H := H.del (r := .blk g13 _ _) (by repeat constructor)
       replace H := H.del (r := .blk g59 _ _) (by repeat constructor)
       replace H := H.del (r := .blk g65 _ _) (by repeat constructor)
       replace H := H.del (r := .row (.slice A9 d.length c9) _ _ _ _) (by repeat constructor)
       replace H := H.del (r := .row x _ _ _ _) (by repeat constructor)
       have hl1 : recs.length + 1 = (recs ++ [rd]).length := by simp
       have hnp : nums .i64 (places ++ [(p : Int)]) = nums .i64 places ++ [.int .i64 (p : Int)] := by simp [nums]
       rw [hl1] at H
       replace H := Own.front (r := .row x9 _ _ _ _) H (by repeat constructor)
       replace H := Own.front (r := .blk g4 _ _) H (by repeat constructor)
       replace H := Own.front (r := .row (.slice A6 16 c6) _ _ _ _) H (by repeat constructor)
       replace H := Own.front (r := .row (.slice A5 832 c5) _ _ _ _) H (by repeat constructor)
       replace H := Own.front (r := .row (.slice A66 _ c66) _ _ _ _) H (by repeat constructor)
       replace H := Own.front (r := .row (.slice A60 _ c60) _ _ _ _) H (by repeat constructor)
       replace H := H.cons (r := .row (.slice none 0 0) 5 1 0 []) (Below.refl _ _) (own_nil _ _ _ _) (fun k hk => by cases hk)
       replace H := Own.front (r := .blk g8 _ _) H (by repeat constructor)
       replace H := Own.front (r := .blk g7 _ _) H (by repeat constructor)
       refine ⟨⟨pm,o2,[],(p : Int),recs ++ [rd],places ++ [(p : Int)],pm⟩,Av2,cv2,.slice none 0 0,A60,c60,A66,c66,cells ++ [Value.slice Ar rd.length cr],.row x9 5 1 rd.length (nums .u8 rd) :: D,rfl,rfl,fun h => absurd rfl h,hcv2,Nat.zero_le _,hD.snoc rd Ar cr x9 hcr hx1,by simp [hpl],hpm8,by simp only;omega,hrun,by simp only [List.length_append,List.length_cons,List.length_nil];omega,?_⟩
       simp only [hnp]
       exact H
end Go.Proofs.YtaekpfhgdnfciaaDoor.O
end
