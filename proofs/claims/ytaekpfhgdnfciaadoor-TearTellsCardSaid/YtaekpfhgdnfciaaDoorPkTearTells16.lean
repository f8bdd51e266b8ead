/- Texts of mine put together: RClash, Differ. -/
import Derived.Test.YtaekpfhgdnfciaaDoorPkTearTells15
import Derived.Test.YtaekpfhgdnfciaaDoorPkTearTells8
section
/- ref20.Clashes, by what is owned. -/
set_option linter.unusedVariables false
set_option linter.unusedSimpArgs false
namespace Go.Proofs.YtaekpfhgdnfciaaDoor.O
open Go.RowKit Go.Proofs.YtaekpfhgdnfciaaDoorW.PrintWords Go.Proofs.YtaekpfhgdnfciaaDoorW.PrintLast Go.Proofs.YtaekpfhgdnfciaaDoorW.PrintMore Go.Proofs.YtaekpfhgdnfciaaDoor.F Go.Proofs.YtaekpfhgdnfciaaDoor.F.Nums Go.Proofs.YtaekpfhgdnfciaaDoor.Plain Go.Proofs.YtaekpfhgdnfciaaDoor.Img
def Pc4 (w : World) (p : Addr) (x : S94) : Prop := w.cell? p = some (.int .i64 x.f0) ∧ w.cell? ⟨p.block,p.off + 1,none⟩ = some (.int .i64 x.f1) ∧ w.cell? ⟨p.block,p.off + 2,none⟩ = some (.int .i64 x.f2) ∧ w.cell? ⟨p.block,p.off + 3,none⟩ = some (.int .i64 x.f3)
theorem pc4 {w : World} {A : Option Addr} {n : Nat} {ps : List S94} (h : Kd.C k94 w A n ps) (j : Nat) (hj : j < n) : ∃ ad,A = some ad ∧ Pc4 w (ad.add (j * 4)) (rd_T94 ps j) := by
 obtain ⟨ad',e,x0,x1,x2,x3⟩ := at_T94 h (j : Int) (by omega) (by omega)
 rw [Int.toNat_natCast] at x0 x1 x2 x3
 exact ⟨ad',e,x0,x1,x2,x3⟩
set_option maxRecDepth 100000 in
set_option maxHeartbeats 16000000 in
theorem rclashes_no (e64 : Int) (l : List (List Int)) (A A2 : Option Addr) (c n2 c2 : Nat) (w : World) (he : 0 ≤ e64) (hok : layAll 0 l = false) (hl : ∀ x ∈ l,Bytes x) (hll : ∀ x ∈ l,x.length < 140737488355328) (hn : l.length ≤ 100)
  (hC : (Kd.slice 5 (Kd.int .u8)).C w A l.length l) (hc : l.length ≤ c) :
  Calls Tryd.prog 22 #[.int .u64 e64,.slice A l.length c,.slice A2 n2 c2] w fun e W => e = .returned (.tuple #[.slice none 0 0,.bool false]) ∧ Below w.heap.size w W := by
 have H := Own.start w
 have hR := rlay_eq (7000 + l.length) e64 l he hl (fun x hx => Nat.le_of_lt (hll x hx)) (by omega) (Nat.le_refl _)
 unfold layR at hR
 rw [if_neg (by rw [layAll_any e64 0,hok];decide)] at hR
 have RC := fun W h1 => strandlineref17_Lay.calls (7000 + l.length) e64 A c l _ _ _ _ W h1 hc hR
 clear hR
 generalize l.length = n at *
 go_enter Tryd.func22,Tryd.ntmps22
 go_wp2_with (first
  |(go_at_call 17;(with_reducible refine (RC _ (Kd.C_below hC H.below)).mono ?_);rintro e W ⟨v7,v8,rfl,-,-,hb⟩;replace H := H.to hb;clear hb))
 go_ret2
 exact ⟨rfl,H.below⟩
set_option maxRecDepth 100000 in
set_option maxHeartbeats 16000000 in
theorem rclashes_yes (e64 : Int) (l : List (List Int)) (A A2 : Option Addr) (c n2 c2 : Nat) (fl : List Int) (w : World) (he : 0 ≤ e64 ∧ e64 ≤ 18446744073709551615) (hok : layAll 0 l = true) (hl : ∀ x ∈ l,Bytes x) (hll : ∀ x ∈ l,x.length < 140737488355328) (hn : l.length ≤ 100)
  (hC : (Kd.slice 5 (Kd.int .u8)).C w A l.length l) (hc : l.length ≤ c) (hf : fl.length = 64 * n2) (hb : Bytes fl) (hr : Rd w A2 (nums .u8 fl)) (hc2 : n2 ≤ c2) (hn2 : n2 ≤ 100) :
  Calls Tryd.prog 22 #[.int .u64 e64,.slice A l.length c,.slice A2 n2 c2] w fun e W => ∃ Ar cr,e = .returned (.tuple #[.slice Ar (badL e64 l (bodyF e64 fl n2 16) (oksF e64 fl n2 16) l.length).length cr,.bool true]) ∧
   Own w F0 [.row (.slice Ar (badL e64 l (bodyF e64 fl n2 16) (oksF e64 fl n2 16) l.length).length cr) 3 1 (badL e64 l (bodyF e64 fl n2 16) (oksF e64 fl n2 16) l.length).length (nums .i64 (badL e64 l (bodyF e64 fl n2 16) (oksF e64 fl n2 16) l.length))] W := by
 have H := Own.start w
 have hR := rlay_eq (7000 + l.length) e64 l he.1 hl (fun x hx => Nat.le_of_lt (hll x hx)) (by omega) (Nat.le_refl _)
 unfold layR at hR
 rw [if_pos (by rw [layAll_any e64 0,hok])] at hR
 have RC := fun W h1 => strandlineref17_Lay.calls (7000 + l.length) e64 A c l _ _ _ _ W h1 hc hR
 rw [layPl_any e64 0] at RC
 clear hR
 have FC := fun W h => rflat_calls e64 he.1 he.2 fl n2 hf hb A2 c2 W h hc2 (by omega)
 have hFl : (bodyF e64 fl n2 16).length = 832 := bodyF_len hf 16
 have hFb : Bytes (bodyF e64 fl n2 16) := bodyF_bytes hb 16
 have hkl : (oksF e64 fl n2 16).length = 16 := oksF_len 16
 have hbl := fun k => badL_len e64 l (bodyF e64 fl n2 16) (oksF e64 fl n2 16) k
 have hbs := fun k => badL_succ e64 l (bodyF e64 fl n2 16) (oksF e64 fl n2 16) k
 have hb0 : badL e64 l (bodyF e64 fl n2 16) (oksF e64 fl n2 16) 0 = [] := rfl
 generalize bodyF e64 fl n2 16 = F at *
 generalize oksF e64 fl n2 16 = ok at *
 have htm : e64.tmod 4294967296 = e64 % 4294967296 := Int.tmod_eq_emod_of_nonneg he.1
 have hul : IntKind.u32.wrap (e64 % 4294967296) = e64 % 4294967296 := by rw [IntKind.wrap_u32];omega
 have HC := fun k (hk : k < l.length) => C_rows_at hC k hk
 have hplen := layPl_len 0 l l.length
 have hpl : ∀ k,k < l.length → (nums .i64 (layPl 0 l l.length))[k]? = some (.int .i64 (layAt 0 l k)) := fun k hk => by
  have h := nums_at (k := .i64) (xs := layPl 0 l l.length) k (by rw [layPl_len];exact hk)
  have e : (layPl 0 l l.length).getD k 0 = layAt 0 l k := by
   unfold layPl
   rw [List.getD_eq_getElem?_getD,List.getElem?_map,List.getElem?_range hk]
   rfl
  rwa [e] at h
 have hbl2 : ∀ k,k < l.length → Bytes (l.getD k []) ∧ (l.getD k []).length < 140737488355328 := fun k hk => by
  have : l.getD k [] ∈ l := by rw [List.getD_eq_getElem?_getD,List.getElem?_eq_getElem hk];exact List.getElem_mem hk
  exact ⟨hl _ this,hll _ this⟩
 have hpcs : ∀ k,pcs e64 l k = (cutP (layAt 0 l k) ((l.getD k []).length : Int)).1 := fun k => by
  unfold pcs layAt
  rw [cutP_begin,laySt_end_any e64 0]
 clear hok hl hll
 generalize layPl 0 l l.length = pl at *
 generalize (laySt e64 l l.length).1 = lb at *
 generalize (laySt e64 l l.length).2 = le at *
 generalize hnl : l.length = n at *
 go_enter Tryd.func22,Tryd.ntmps22
 go_wp2_with (first
  |(go_at_call 17;(with_reducible refine (RC _ (Kd.C_below hC H.below)).mono ?_);rintro e W ⟨v8,v9,rfl,-,hR9,hbq⟩;replace H := H.addR hbq hR9;rw [hplen] at H;obtain ⟨A7,c7,rfl⟩ := H.row_slice .head;clear hbq hR9)
  |(go_at_call 28;(with_reducible refine (FC _ (hr.below H.below)).mono ?_);rintro en W ⟨v5,v6,rfl,HO⟩;replace H := H.addOwn HO;clear HO;dsimp only [List.cons_append,List.nil_append] at H;obtain ⟨A5,c5,rfl⟩ := H.row_slice .head;obtain ⟨A6,c6,rfl⟩ := H.row_slice (.tail .head)))
 have hc5 : 832 ≤ c5 := (H.rd (A := A5) (by repeat (first|exact In.head|apply In.tail))).2.1
 have hc6 : 16 ≤ c6 := (H.rd (A := A6) (by repeat (first|exact In.head|apply In.tail))).2.1
 replace H := H.cons (r := .row (.slice none 0 0) 3 1 0 []) (Below.refl _ _) (own_nil _ _ _ _) (fun k hk => by cases hk)
 go_loopg [14,15] n (fun gq v14 v15 w' => ∃ (k : Nat) (Ar : Option Addr) (cr : Nat) (outs : List Int),v14 = .slice Ar outs.length cr ∧ v15 = .int .i64 (k : Int) ∧ k + gq = n ∧ outs = badL e64 l F ok k ∧
  Own w F0 (.row (.slice Ar outs.length cr) 3 1 outs.length (nums .i64 outs) :: .row (.slice A5 832 c5) 5 1 832 (nums .u8 F) :: .row (.slice A6 16 c6) 4 1 16 (bools ok) :: .row (.slice A7 n c7) 3 1 n (nums .i64 pl) :: []) w')
 case atStart => exact ⟨0,none,0,[],rfl,rfl,by omega,hb0.symm,H⟩
 case round =>
  clear H
  obtain ⟨k,Ar,cr,outs,rfl,rfl,hk,hout,H⟩ := hrel
  by_cases ck : k < n
  ·obtain ⟨gk',rfl⟩ : ∃ q,gk = q + 1 := ⟨gk - 1,by omega⟩
   have q0 : decide (k < n) = true := decide_eq_true ck
   have p0 : ((0 : Int) ≤ (k : Int)) = True := eq_true (by omega)
   have p1 : ((k : Int) < (n : Int)) = True := eq_true (by omega)
   obtain ⟨ad,A14,c14,rfl,x0,hc14,x2⟩ := HC k ck
   have hp := hpl k ck
   obtain ⟨hbd,hld⟩ := hbl2 k ck
   have hbk := hbl k
   have hbk1 := hbs k
   have hpk := hpcs k
   rw [hpk] at hbk1
   rw [← hout] at hbk hbk1
   generalize l.getD k [] = data at *
   generalize layAt 0 l k = at_ at *
   have hcut : strandlineref14_Cut.f 1101 at_ (data.length : Int) = some ((cutP at_ (data.length : Int)).1,(cutP at_ (data.length : Int)).2.1,(cutP at_ (data.length : Int)).2.2) := rcut_eq 1101 (by decide) at_ (data.length : Int) (by omega)
   have CC := fun (W : World) => strandlineref14_Cut.calls 1101 at_ (data.length : Int) (cutP at_ (data.length : Int)).1 (cutP at_ (data.length : Int)).2.1 (cutP at_ (data.length : Int)).2.2 W hcut
   have hps := cutP_pcs at_ data
   have hpl9 := cutP_len at_ (data.length : Int)
   clear hcut HC hpl hbl2 hbl hbs hpcs hpk hb0
   generalize (cutP at_ (data.length : Int)).2.1 = en1 at *
   generalize (cutP at_ (data.length : Int)).2.2 = bb at *
   generalize (cutP at_ (data.length : Int)).1 = ps at *
   generalize hnd : data.length = nd at *
   obtain ⟨a7,rfl⟩ : ∃ a,A7 = some a := (H.rd (A := A7) (by repeat (first|exact In.head|apply In.tail))).1.some_ (by have := (List.getElem?_eq_some_iff.1 hp).1;omega)
   go_wp2_with fail
   refine start_ (n := 17) (S := Own _ _ _) (ds := [9]) #[f_,f_,f_,f_,f_,f_,f_,f_,f_,f_,f_,f_,f_,f_,f_,f_,f_] (by kernel_rfl) rfl rfl H.drew (fun hHeld => ?_)
   replace H := H.drew
   generalize World.drew _ = W at H hHeld ⊢
   refine pure_ (i := 0) (N := some 46) (v := ?_) (a' := ?_) #[t_,f_,f_,f_,f_,f_,f_,f_,f_,f_,f_,f_,f_,f_,f_,f_,f_] rfl rfl (by kernel_rfl) (fun _ _ _ h => h) (Or.inl ⟨by rfl,?_⟩) ?_ ?_
   rotate_left
   ·intro w'
    go_simp
    with_reducible rfl
   rotate_left
   ·simp only [ps_]
    rfl
   refine pure_ (i := 1) (N := some 47) (v := ?_) (a' := ?_) #[t_,t_,f_,f_,f_,f_,f_,f_,f_,f_,f_,f_,f_,f_,f_,f_,f_] rfl rfl (by kernel_rfl) (fun _ _ _ h => h) (Or.inl ⟨by rfl,?_⟩) ?_ ?_
   rotate_left
   ·intro w'
    go_simp
    with_reducible rfl
   rotate_left
   ·simp only [ps_]
    rfl
   refine pure_ (i := 2) (N := some 48) (v := ?_) (a' := ?_) #[t_,t_,t_,f_,f_,f_,f_,f_,f_,f_,f_,f_,f_,f_,f_,f_,f_] rfl rfl (by kernel_rfl) (fun _ _ _ h => h) (Or.inl ⟨by rfl,?_⟩) ?_ ?_
   rotate_left
   ·intro w'
    go_simp
    with_reducible rfl
   rotate_left
   ·simp only [ps_]
    rfl
   refine pure_ (i := 4) (N := some 50) (v := ?_) (a' := ?_) #[t_,t_,t_,f_,t_,f_,f_,f_,f_,f_,f_,f_,f_,f_,f_,f_,f_] rfl rfl (by kernel_rfl) (fun _ _ _ h => h) (Or.inl ⟨by rfl,?_⟩) ?_ ?_
   rotate_left
   ·intro w'
    go_simp
    with_reducible rfl
   rotate_left
   ·simp only [ps_]
    rfl
   refine pure_ (i := 5) (N := some 51) (v := ?_) (a' := ?_) #[t_,t_,t_,f_,t_,t_,f_,f_,f_,f_,f_,f_,f_,f_,f_,f_,f_] rfl rfl (by kernel_rfl) (fun _ _ _ h => h) (Or.inl ⟨by rfl,?_⟩) ?_ ?_
   rotate_left
   ·intro w'
    go_simp
    with_reducible rfl
   rotate_left
   ·simp only [ps_]
    rfl
   refine pure_ (i := 6) (N := some 52) (v := ?_) (a' := ?_) #[t_,t_,t_,f_,t_,t_,t_,f_,f_,f_,f_,f_,f_,f_,f_,f_,f_] rfl rfl (by kernel_rfl) (fun _ _ _ h => h) (Or.inl ⟨by rfl,?_⟩) ?_ ?_
   rotate_left
   ·intro w'
    go_simp
    with_reducible rfl
   rotate_left
   ·simp only [ps_]
    rfl
   refine take_run (i := 3) (N := some 49) (a' := ?_) #[t_,t_,t_,t_,t_,t_,t_,f_,f_,f_,f_,f_,f_,f_,f_,f_,f_] rfl rfl (by kernel_rfl) (fun _ _ _ _ h => h) (by rfl) hHeld (.int .i64 at_) (fun X HX => r_loadRd1 3 _ rfl k rfl (HX.rd (A := some a7) (by repeat (first|exact In.head|apply In.tail))).1 _ Tryd.underlying3 rfl _ hp) ?_ ?_
   rotate_left
   ·simp only [ps_]
    rfl
   refine take_run (i := 7) (N := some 53) (a' := ?_) #[t_,t_,t_,t_,t_,t_,t_,t_,f_,f_,f_,f_,f_,f_,f_,f_,f_] rfl rfl (by kernel_rfl) (fun _ _ _ _ h => h) (by rfl) hHeld (.slice A14 nd c14) (fun X HX => r_loadCell4 38 _ rfl rfl ((HX.below.cell (World.block_lt_of_cell? w _ x0)).trans x0) _ Tryd.underlying38 rfl) ?_ ?_
   rotate_left
   ·simp only [ps_]
    rfl
   refine pure_ (i := 8) (N := some 54) (v := ?_) (a' := ?_) #[t_,t_,t_,t_,t_,t_,t_,t_,t_,f_,f_,f_,f_,f_,f_,f_,f_] rfl rfl (by kernel_rfl) (fun _ _ _ h => h) (Or.inl ⟨by rfl,?_⟩) ?_ ?_
   rotate_left
   ·intro w'
    go_simp
    with_reducible rfl
   rotate_left
   ·simp only [ps_]
    rfl
   refine last_ (i := 9) (N := some 55) #[t_,t_,t_,t_,t_,t_,t_,t_,t_,t_,f_,f_,f_,f_,f_,f_,f_] rfl rfl (by kernel_rfl) (by decide) (fun K hK => ?_)
   refine callK_ (CC _) Tryd.func38 (by kernel_rfl) rfl (by rfl) rfl rfl (by (try simp only [List.map_toArray,List.map_cons,List.map_nil]);first|done|rfl) ?_
   rintro e W ⟨v0,rfl,hR,hbq⟩
   refine ⟨_,rfl,?_⟩
   obtain ⟨Ap,cp,rfl⟩ := Kd.R_slice hR
   have HF := H.freezeNew hbq
   have hSp := Stands.R (F := F0) hR
   clear hR hbq H
   obtain ⟨H,hF⟩ := HF
   generalize fn F0 _ W = F1 at H hF hSp
   refine hK.out _ _ ?_
   clear hK K
   refine norm_ (a' := ?_) ?_ ?_
   rotate_left
   ·show Act.put _ (some 55) _ = _
    simp only [ps_]
    rfl
   refine pure_ (i := 10) (N := some 45) (v := ?_) (a' := ?_) #[t_,t_,t_,t_,t_,t_,t_,t_,t_,t_,t_,f_,f_,f_,f_,f_,f_] rfl rfl (by kernel_rfl) (fun _ _ _ h => h) (Or.inl ⟨by rfl,?_⟩) ?_ ?_
   rotate_left
   ·intro w'
    go_simp
    with_reducible rfl
   rotate_left
   ·simp only [ps_]
    rfl
   refine pure_ (i := 11) (N := some 56) (v := ?_) (a' := ?_) #[t_,t_,t_,t_,t_,t_,t_,t_,t_,t_,t_,t_,f_,f_,f_,f_,f_] rfl rfl (by kernel_rfl) (fun _ _ _ h => h) (Or.inl ⟨by rfl,?_⟩) ?_ ?_
   rotate_left
   ·intro w'
    go_simp
    with_reducible rfl
   rotate_left
   ·simp only [ps_]
    rfl
   refine pure_ (i := 12) (N := some 57) (v := ?_) (a' := ?_) #[t_,t_,t_,t_,t_,t_,t_,t_,t_,t_,t_,t_,t_,f_,f_,f_,f_] rfl rfl (by kernel_rfl) (fun _ _ _ h => h) (Or.inl ⟨by rfl,?_⟩) ?_ ?_
   rotate_left
   ·intro w'
    go_simp
    with_reducible rfl
   rotate_left
   ·simp only [ps_]
    rfl
   refine pure_ (i := 13) (N := some 58) (v := ?_) (a' := ?_) #[t_,t_,t_,t_,t_,t_,t_,t_,t_,t_,t_,t_,t_,t_,f_,f_,f_] rfl rfl (by kernel_rfl) (fun _ _ _ h => h) (Or.inl ⟨by rfl,?_⟩) ?_ ?_
   rotate_left
   ·intro w'
    go_simp
    with_reducible rfl
   rotate_left
   ·simp only [ps_]
    rfl
   refine pure_ (i := 14) (N := some 16) (v := ?_) (a' := ?_) #[t_,t_,t_,t_,t_,t_,t_,t_,t_,t_,t_,t_,t_,t_,t_,f_,f_] rfl rfl (by kernel_rfl) (fun _ _ _ h => h) (Or.inl ⟨by rfl,?_⟩) ?_ ?_
   rotate_left
   ·intro w'
    go_simp
    with_reducible rfl
   rotate_left
   ·simp only [ps_]
    rfl
   refine pure_ (i := 15) (N := some 17) (v := ?_) (a' := ?_) #[t_,t_,t_,t_,t_,t_,t_,t_,t_,t_,t_,t_,t_,t_,t_,t_,f_] rfl rfl (by kernel_rfl) (fun _ _ _ h => h) (Or.inl ⟨by rfl,?_⟩) ?_ ?_
   rotate_left
   ·intro w'
    go_simp
    with_reducible rfl
   rotate_left
   ·simp only [ps_]
    rfl
   refine pure_ (i := 16) (N := some 18) (v := ?_) (a' := ?_) #[t_,t_,t_,t_,t_,t_,t_,t_,t_,t_,t_,t_,t_,t_,t_,t_,t_] rfl rfl (by kernel_rfl) (fun _ _ _ h => h) (Or.inl ⟨by rfl,?_⟩) ?_ ?_
   rotate_left
   ·intro w'
    go_simp
    with_reducible rfl
   rotate_left
   ·simp only [ps_]
    rfl
   refine done_ (by kernel_rfl) ?_
   clear hHeld
   clear CC
   generalize hpn : ps.length = np at *
   go_wp2_with fail
   go_loopg [14,19] np (fun gq v14 v19 w' => ∃ (j : Nat) (Ar : Option Addr) (cr : Nat) (outs2 : List Int),v14 = .slice Ar outs2.length cr ∧ v19 = .int .i64 (j : Int) ∧ j + gq = np ∧ outs2 = outs ++ badR (e64 % 4294967296) F ok data (ps.take j) ∧
    Own w F1 (.row (.slice Ar outs2.length cr) 3 1 outs2.length (nums .i64 outs2) :: .row (.slice A5 832 c5) 5 1 832 (nums .u8 F) :: .row (.slice A6 16 c6) 4 1 16 (bools ok) :: .row (.slice (some a7) n c7) 3 1 n (nums .i64 pl) :: []) w')
   case atStart => exact ⟨0,Ar,cr,outs,rfl,rfl,by omega,by simp [badR],H⟩
   case round =>
    clear H
    obtain ⟨j,Ar,cr,outs2,rfl,rfl,hj,hout2,H⟩ := hrel
    by_cases cj : j < np
    ·obtain ⟨gj',rfl⟩ : ∃ q,gk = q + 1 := ⟨gk - 1,by omega⟩
     have q1 : decide (j < np) = true := decide_eq_true cj
     have r0 : ((0 : Int) ≤ (j : Int)) = True := eq_true (by omega)
     have r1 : ((j : Int) < (np : Int)) = True := eq_true (by omega)
     have hjl : j < ps.length := by omega
     have hpc := hps _ (List.getElem_mem hjl)
     rw [rd_at ps j hjl] at hpc
     have hsn : (badP (e64 % 4294967296) F ok data (rd_T94 ps j) = true → badR (e64 % 4294967296) F ok data (ps.take (j + 1)) = badR (e64 % 4294967296) F ok data (ps.take j) ++ [(rd_T94 ps j).f0]) ∧ (badP (e64 % 4294967296) F ok data (rd_T94 ps j) = false → badR (e64 % 4294967296) F ok data (ps.take (j + 1)) = badR (e64 % 4294967296) F ok data (ps.take j)) := by
      rw [List.take_succ_eq_append_getElem hjl,rd_at ps j hjl,badR_snoc]
      exact ⟨fun h => if_pos h,fun h => if_neg (by rw [h];decide)⟩
     have hlo : outs2.length ≤ 10000 := by
      have h1 := badR_len (e64 % 4294967296) F ok data (ps.take j)
      rw [List.length_take] at h1
      rw [hout2,List.length_append]
      omega
     have hSq : ∀ (X : World) (L : List Res),Own w F1 L X → ∃ ad,Ap = some ad ∧ Pc4 X (ad.add (j * 4)) (rd_T94 ps j) := fun X L HX => by
      obtain ⟨Aq,cq,eq,lq,Cq⟩ := Kd.R_reads (HX.use hSp)
      injection eq with eq1 eq2 eq3
      subst eq1
      rw [hpn] at Cq
      exact pc4 Cq j cj
     obtain ⟨adp,rfl,-⟩ := hSq _ _ H
     have hPC : ∀ (X : World) (L : List Res),Own w F1 L X → Pc4 X (adp.add (j * 4)) (rd_T94 ps j) := fun X L HX => by
      obtain ⟨ad,e,h⟩ := hSq X L HX
      obtain rfl := Option.some.inj e
      exact h
     generalize rd_T94 ps (j : Int) = p at *
     obtain ⟨pa,pk,pf,pt⟩ := p
     obtain ⟨h1,h2,h3,h4,h5,h6,h7,h8⟩ := hpc
     simp only at h1 h2 h3 h4 h5 h6 h7 h8 hsn
     obtain ⟨at0,rfl⟩ := Int.eq_ofNat_of_zero_le h1
     obtain ⟨f0,rfl⟩ := Int.eq_ofNat_of_zero_le h4
     obtain ⟨t0,rfl⟩ := Int.eq_ofNat_of_zero_le (show 0 ≤ pt by omega)
     have hp11 : at0 + 11 ≤ 832 := by omega
     have hft : f0 ≤ t0 := by omega
     have htc : t0 ≤ c14 := by omega
     have hwb := bytes_drop (bytes_take hbd t0) f0
     have hwC := cut_C x2 f0 t0 c14 hft (by omega) hc14
     have hwl : ((data.take t0).drop f0).length = t0 - f0 := by rw [List.length_drop,List.length_take];omega
     have hnp9 : np ≤ 10000 := by omega
     unfold badP at hsn
     simp only [Int.toNat_natCast] at hsn
     clear h1 h2 h3 h4 h5 h6 h7 h8 hSq hps
     generalize (data.take t0).drop f0 = wd at *
     have AC := fun W h1 h2 => raccepts_calls e64 he F ok hFl hFb hkl at0 (.inl hp11) A5 A6 c5 c6 hc5 hc6 W h1 h2
     have ho1 : badF (e64 % 4294967296) F ok at0 pk (e64 % 4294967296) wd = true → outs ++ badR (e64 % 4294967296) F ok data (ps.take (j + 1)) = outs2 ++ [(at0 : Int)] := fun h => by rw [hsn.1 h,hout2,List.append_assoc]
     have ho2 : badF (e64 % 4294967296) F ok at0 pk (e64 % 4294967296) wd = false → outs ++ badR (e64 % 4294967296) F ok data (ps.take (j + 1)) = outs2 := fun h => by rw [hsn.2 h,hout2]
     clear hsn hout2
     generalize hO3 : outs ++ badR (e64 % 4294967296) F ok data (ps.take (j + 1)) = outs3 at *
     generalize e64 % 4294967296 = ep at *
     have hj' := Aside0.mk hj
     have hwc : t0 - f0 ≤ c14 - f0 := by omega
     have hdn : wd.length = t0 - f0 := hwl
     clear hj hC hnl hn hk ck hout hbk hbk1 hpl9 hpn he hwl
     go_wp2_with fail
     refine start_ (n := 26) (S := Own _ _ _) (ds := []) #[f_,f_,f_,f_,f_,f_,f_,f_,f_,f_,f_,f_,f_,f_,f_,f_,f_,f_,f_,f_,f_,f_,f_,f_,f_,f_] (by kernel_rfl) rfl rfl H.drew (fun hHeld => ?_)
     replace H := H.drew
     generalize World.drew _ = W at H hHeld ⊢
     refine pure_ (i := 0) (N := some 65) (v := ?_) (a' := ?_) #[t_,f_,f_,f_,f_,f_,f_,f_,f_,f_,f_,f_,f_,f_,f_,f_,f_,f_,f_,f_,f_,f_,f_,f_,f_,f_] rfl rfl (by kernel_rfl) (fun _ _ _ h => h) (Or.inl ⟨by rfl,?_⟩) ?_ ?_
     rotate_left
     ·intro w'
      go_simp
      with_reducible rfl
     rotate_left
     ·simp only [ps_]
      rfl
     refine pure_ (i := 1) (N := some 66) (v := ?_) (a' := ?_) #[t_,t_,f_,f_,f_,f_,f_,f_,f_,f_,f_,f_,f_,f_,f_,f_,f_,f_,f_,f_,f_,f_,f_,f_,f_,f_] rfl rfl (by kernel_rfl) (fun _ _ _ h => h) (Or.inl ⟨by rfl,?_⟩) ?_ ?_
     rotate_left
     ·intro w'
      go_simp
      with_reducible rfl
     rotate_left
     ·simp only [ps_]
      rfl
     refine pure_ (i := 2) (N := some 67) (v := ?_) (a' := ?_) #[t_,t_,t_,f_,f_,f_,f_,f_,f_,f_,f_,f_,f_,f_,f_,f_,f_,f_,f_,f_,f_,f_,f_,f_,f_,f_] rfl rfl (by kernel_rfl) (fun _ _ _ h => h) (Or.inl ⟨by rfl,?_⟩) ?_ ?_
     rotate_left
     ·intro w'
      go_simp
      with_reducible rfl
     rotate_left
     ·simp only [ps_]
      rfl
     refine pure_ (i := 3) (N := some 68) (v := ?_) (a' := ?_) #[t_,t_,t_,t_,f_,f_,f_,f_,f_,f_,f_,f_,f_,f_,f_,f_,f_,f_,f_,f_,f_,f_,f_,f_,f_,f_] rfl rfl (by kernel_rfl) (fun _ _ _ h => h) (Or.inl ⟨by rfl,?_⟩) ?_ ?_
     rotate_left
     ·intro w'
      go_simp
      with_reducible rfl
     rotate_left
     ·simp only [ps_]
      rfl
     refine pure_ (i := 5) (N := some 70) (v := ?_) (a' := ?_) #[t_,t_,t_,t_,f_,t_,f_,f_,f_,f_,f_,f_,f_,f_,f_,f_,f_,f_,f_,f_,f_,f_,f_,f_,f_,f_] rfl rfl (by kernel_rfl) (fun _ _ _ h => h) (Or.inl ⟨by rfl,?_⟩) ?_ ?_
     rotate_left
     ·intro w'
      go_simp
      with_reducible rfl
     rotate_left
     ·simp only [ps_]
      rfl
     refine pure_ (i := 6) (N := some 71) (v := ?_) (a' := ?_) #[t_,t_,t_,t_,f_,t_,t_,f_,f_,f_,f_,f_,f_,f_,f_,f_,f_,f_,f_,f_,f_,f_,f_,f_,f_,f_] rfl rfl (by kernel_rfl) (fun _ _ _ h => h) (Or.inl ⟨by rfl,?_⟩) ?_ ?_
     rotate_left
     ·intro w'
      go_simp
      with_reducible rfl
     rotate_left
     ·simp only [ps_]
      rfl
     refine pure_ (i := 7) (N := some 72) (v := ?_) (a' := ?_) #[t_,t_,t_,t_,f_,t_,t_,t_,f_,f_,f_,f_,f_,f_,f_,f_,f_,f_,f_,f_,f_,f_,f_,f_,f_,f_] rfl rfl (by kernel_rfl) (fun _ _ _ h => h) (Or.inl ⟨by rfl,?_⟩) ?_ ?_
     rotate_left
     ·intro w'
      go_simp
      with_reducible rfl
     rotate_left
     ·simp only [ps_]
      rfl
     refine pure_ (i := 8) (N := some 73) (v := ?_) (a' := ?_) #[t_,t_,t_,t_,f_,t_,t_,t_,t_,f_,f_,f_,f_,f_,f_,f_,f_,f_,f_,f_,f_,f_,f_,f_,f_,f_] rfl rfl (by kernel_rfl) (fun _ _ _ h => h) (Or.inl ⟨by rfl,?_⟩) ?_ ?_
     rotate_left
     ·intro w'
      go_simp
      with_reducible rfl
     rotate_left
     ·simp only [ps_]
      rfl
     refine pure_ (i := 9) (N := some 74) (v := ?_) (a' := ?_) #[t_,t_,t_,t_,f_,t_,t_,t_,t_,t_,f_,f_,f_,f_,f_,f_,f_,f_,f_,f_,f_,f_,f_,f_,f_,f_] rfl rfl (by kernel_rfl) (fun _ _ _ h => h) (Or.inl ⟨by rfl,?_⟩) ?_ ?_
     rotate_left
     ·intro w'
      go_simp
      with_reducible rfl
     rotate_left
     ·simp only [ps_]
      rfl
     refine pure_ (i := 10) (N := some 75) (v := ?_) (a' := ?_) #[t_,t_,t_,t_,f_,t_,t_,t_,t_,t_,t_,f_,f_,f_,f_,f_,f_,f_,f_,f_,f_,f_,f_,f_,f_,f_] rfl rfl (by kernel_rfl) (fun _ _ _ h => h) (Or.inl ⟨by rfl,?_⟩) ?_ ?_
     rotate_left
     ·intro w'
      go_simp
      with_reducible rfl
     rotate_left
     ·simp only [ps_]
      rfl
     refine pure_ (i := 12) (N := some 77) (v := ?_) (a' := ?_) #[t_,t_,t_,t_,f_,t_,t_,t_,t_,t_,t_,f_,t_,f_,f_,f_,f_,f_,f_,f_,f_,f_,f_,f_,f_,f_] rfl rfl (by kernel_rfl) (fun _ _ _ h => h) (Or.inl ⟨by rfl,?_⟩) ?_ ?_
     rotate_left
     ·intro w'
      go_simp
      with_reducible rfl
     rotate_left
     ·simp only [ps_]
      rfl
     refine pure_ (i := 13) (N := some 78) (v := ?_) (a' := ?_) #[t_,t_,t_,t_,f_,t_,t_,t_,t_,t_,t_,f_,t_,t_,f_,f_,f_,f_,f_,f_,f_,f_,f_,f_,f_,f_] rfl rfl (by kernel_rfl) (fun _ _ _ h => h) (Or.inl ⟨by rfl,?_⟩) ?_ ?_
     rotate_left
     ·intro w'
      go_simp
      with_reducible rfl
     rotate_left
     ·simp only [ps_]
      rfl
     refine pure_ (i := 14) (N := some 79) (v := ?_) (a' := ?_) #[t_,t_,t_,t_,f_,t_,t_,t_,t_,t_,t_,f_,t_,t_,t_,f_,f_,f_,f_,f_,f_,f_,f_,f_,f_,f_] rfl rfl (by kernel_rfl) (fun _ _ _ h => h) (Or.inl ⟨by rfl,?_⟩) ?_ ?_
     rotate_left
     ·intro w'
      go_simp
      with_reducible rfl
     rotate_left
     ·simp only [ps_]
      rfl
     refine pure_ (i := 15) (N := some 80) (v := ?_) (a' := ?_) #[t_,t_,t_,t_,f_,t_,t_,t_,t_,t_,t_,f_,t_,t_,t_,t_,f_,f_,f_,f_,f_,f_,f_,f_,f_,f_] rfl rfl (by kernel_rfl) (fun _ _ _ h => h) (Or.inl ⟨by rfl,?_⟩) ?_ ?_
     rotate_left
     ·intro w'
      go_simp
      with_reducible rfl
     rotate_left
     ·simp only [ps_]
      rfl
     refine pure_ (i := 17) (N := some 82) (v := ?_) (a' := ?_) #[t_,t_,t_,t_,f_,t_,t_,t_,t_,t_,t_,f_,t_,t_,t_,t_,f_,t_,f_,f_,f_,f_,f_,f_,f_,f_] rfl rfl (by kernel_rfl) (fun _ _ _ h => h) (Or.inl ⟨by rfl,?_⟩) ?_ ?_
     rotate_left
     ·intro w'
      go_simp
      with_reducible rfl
     rotate_left
     ·simp only [ps_]
      rfl
     refine pure_ (i := 18) (N := some 83) (v := ?_) (a' := ?_) #[t_,t_,t_,t_,f_,t_,t_,t_,t_,t_,t_,f_,t_,t_,t_,t_,f_,t_,t_,f_,f_,f_,f_,f_,f_,f_] rfl rfl (by kernel_rfl) (fun _ _ _ h => h) (Or.inl ⟨by rfl,?_⟩) ?_ ?_
     rotate_left
     ·intro w'
      go_simp
      with_reducible rfl
     rotate_left
     ·simp only [ps_]
      rfl
     refine pure_ (i := 19) (N := some 84) (v := ?_) (a' := ?_) #[t_,t_,t_,t_,f_,t_,t_,t_,t_,t_,t_,f_,t_,t_,t_,t_,f_,t_,t_,t_,f_,f_,f_,f_,f_,f_] rfl rfl (by kernel_rfl) (fun _ _ _ h => h) (Or.inl ⟨by rfl,?_⟩) ?_ ?_
     rotate_left
     ·intro w'
      go_simp
      with_reducible rfl
     rotate_left
     ·simp only [ps_]
      rfl
     refine pure_ (i := 20) (N := some 85) (v := ?_) (a' := ?_) #[t_,t_,t_,t_,f_,t_,t_,t_,t_,t_,t_,f_,t_,t_,t_,t_,f_,t_,t_,t_,t_,f_,f_,f_,f_,f_] rfl rfl (by kernel_rfl) (fun _ _ _ h => h) (Or.inl ⟨by rfl,?_⟩) ?_ ?_
     rotate_left
     ·intro w'
      go_simp
      with_reducible rfl
     rotate_left
     ·simp only [ps_]
      rfl
     refine take_run (i := 4) (N := some 69) (a' := ?_) #[t_,t_,t_,t_,t_,t_,t_,t_,t_,t_,t_,f_,t_,t_,t_,t_,f_,t_,t_,t_,t_,f_,f_,f_,f_,f_] rfl rfl (by kernel_rfl) (fun _ _ _ _ h => h) (by rfl) hHeld (.int .i64 pk) (fun X HX => r_loadCell4 3 _ rfl rfl (hPC _ _ HX).2.1 _ Tryd.underlying3 rfl) ?_ ?_
     rotate_left
     ·simp only [ps_]
      rfl
     refine take_run (i := 11) (N := some 76) (a' := ?_) #[t_,t_,t_,t_,t_,t_,t_,t_,t_,t_,t_,t_,t_,t_,t_,t_,f_,t_,t_,t_,t_,f_,f_,f_,f_,f_] rfl rfl (by kernel_rfl) (fun _ _ _ _ h => h) (by rfl) hHeld (.slice A14 nd c14) (fun X HX => r_loadCell4 38 _ rfl rfl ((HX.below.cell (World.block_lt_of_cell? w _ x0)).trans x0) _ Tryd.underlying38 rfl) ?_ ?_
     rotate_left
     ·simp only [ps_]
      rfl
     refine take_run (i := 16) (N := some 81) (a' := ?_) #[t_,t_,t_,t_,t_,t_,t_,t_,t_,t_,t_,t_,t_,t_,t_,t_,t_,t_,t_,t_,t_,f_,f_,f_,f_,f_] rfl rfl (by kernel_rfl) (fun _ _ _ _ h => h) (by rfl) hHeld (.int .i64 (f0 : Int)) (fun X HX => r_loadCell4 3 _ rfl rfl (hPC _ _ HX).2.2.1 _ Tryd.underlying3 rfl) ?_ ?_
     rotate_left
     ·simp only [ps_]
      rfl
     refine take_run (i := 21) (N := some 86) (a' := ?_) #[t_,t_,t_,t_,t_,t_,t_,t_,t_,t_,t_,t_,t_,t_,t_,t_,t_,t_,t_,t_,t_,t_,f_,f_,f_,f_] rfl rfl (by kernel_rfl) (fun _ _ _ _ h => h) (by rfl) hHeld (.int .i64 (t0 : Int)) (fun X HX => r_loadCell4 3 _ rfl rfl (hPC _ _ HX).2.2.2 _ Tryd.underlying3 rfl) ?_ ?_
     rotate_left
     ·simp only [ps_]
      rfl
     refine take_run (i := 22) (N := some 87) (a' := ?_) #[t_,t_,t_,t_,t_,t_,t_,t_,t_,t_,t_,t_,t_,t_,t_,t_,t_,t_,t_,t_,t_,t_,t_,f_,f_,f_] rfl rfl (by kernel_rfl) (fun _ _ _ _ h => h) (by rfl) hHeld (.slice (dropA A14 f0 c14 1) (t0 - f0) (c14 - f0)) (fun X HX => x_slice_lohi _ _ _ rfl rfl Tryd.underlying38 size5 f0 t0 rfl rfl hft htc X) ?_ ?_
     rotate_left
     ·simp only [ps_]
      rfl
     refine pure_ (i := 23) (N := some 88) (v := ?_) (a' := ?_) #[t_,t_,t_,t_,t_,t_,t_,t_,t_,t_,t_,t_,t_,t_,t_,t_,t_,t_,t_,t_,t_,t_,t_,t_,f_,f_] rfl rfl (by kernel_rfl) (fun _ _ _ h => h) (Or.inl ⟨by rfl,?_⟩) ?_ ?_
     rotate_left
     ·intro w'
      go_simp
      with_reducible rfl
     rotate_left
     ·simp only [ps_]
      rfl
     refine one_ (i := 24) (N := some 20) #[t_,t_,t_,t_,t_,t_,t_,t_,t_,t_,t_,t_,t_,t_,t_,t_,t_,t_,t_,t_,t_,t_,t_,t_,t_,f_] rfl rfl (by kernel_rfl) (by decide) (fun K hK => ?_)
     refine wanted_ rfl ?_
     refine w_allocA H 76 rfl _ zero76 ?_
     clear H
     intro g20 W H
     refine hK.out _ _ ?_ (fun hHeld => ?_)
     ·first|trivial|exact H|exact H.del .head|exact (H.del .head).del .head|exact H.heap (by (repeat (first|exact In.head|apply In.tail)))
     clear hK K
     refine norm_ (a' := ?_) ?_ ?_
     rotate_left
     ·show Act.put _ (some 20) _ = _
      simp only [ps_]
      rfl
     refine one_ (i := 25) (N := none) #[t_,t_,t_,t_,t_,t_,t_,t_,t_,t_,t_,t_,t_,t_,t_,t_,t_,t_,t_,t_,t_,t_,t_,t_,t_,t_] rfl rfl (by kernel_rfl) (by decide) (fun K hK => ?_)
     refine wanted_ rfl ?_
     refine w_storeW H 76 _ _ rfl _ rfl _ rfl (by (repeat (first|exact In.head|apply In.tail))) _ size76 (by (first|rfl|assumption|omega|(simp only [nums_length];omega)|(simp [nums_length,zs];done)|(simp [nums_length,zs];omega))) (by (first|rfl|assumption|omega|(simp only [nums_length];omega)|(simp [nums_length,zs];done)|(simp [nums_length,zs];omega))) (by (first|exact nums_one|assumption|(intro u hu;simp at hu;subst hu;rfl)|(intro u hu;simp at hu;rcases hu with rfl|rfl|rfl|rfl|rfl|rfl|rfl <;> rfl)|(intro u hu;simp at hu;rcases hu with rfl|rfl|rfl|rfl <;> rfl)|(intro u hu;simp at hu;rcases hu with rfl|rfl|rfl <;> rfl)|(intro u hu;simp at hu;rcases hu with rfl|rfl <;> rfl))) ?_
     clear H
     intro W H
     refine hK.out _ _ ?_ (fun hHeld => ?_)
     ·first|trivial|exact H|exact H.del .head|exact (H.del .head).del .head|exact H.heap (by (repeat (first|exact In.head|apply In.tail)))
     clear hK K
     refine done_ (by kernel_rfl) ?_
     clear hHeld
     cases hT : told ep F ok at0 with
     |none =>
      have hO : outs3 = outs2 := ho2 (by unfold badF;rw [hT])
      have AC2 : ∀ W,Rd W A5 (nums .u8 F) → Rd W A6 (bools ok) → Calls Tryd.prog 30 #[.int .u64 e64,.slice A5 832 c5,.slice A6 16 c6,.int .i64 (at0 : Int)] W fun en W' => en = .returned (.tuple #[.agg #[.int .i64 0,.int .u32 0,.slice none 0 0],.int .i64 0]) ∧ Below W.heap.size W W' := fun W h1 h2 => (AC W h1 h2).mono (by
       rintro e W' ⟨hb,⟨-,rfl⟩|⟨k,d,A',c',h0,-⟩⟩
       ·exact ⟨rfl,hb⟩
       ·rw [hT] at h0;cases h0)
      clear hT AC ho1 ho2
      go_wp2_with (first
  |((with_reducible refine gate_dst (N := 21) rfl ?_);refine l_allocA rfl H 76 rfl _ zero76 ?_;clear H;intro g21 W H)
  |((with_reducible refine gate_store (t := 76) (p := 21) rfl ?_);refine l_storeW rfl H 76 _ _ rfl _ rfl _ rfl (by (repeat (first|exact In.head|apply In.tail))) _ size76 (by (first|rfl|assumption|omega|(simp only [nums_length];omega)|(simp [nums_length,zs];done)|(simp [nums_length,zs];omega))) (by (first|rfl|assumption|omega|(simp only [nums_length];omega)|(simp [nums_length,zs];done)|(simp [nums_length,zs];omega))) (by (first|exact nums_one|assumption|(intro u hu;simp at hu;subst hu;rfl)|(intro u hu;simp at hu;rcases hu with rfl|rfl|rfl|rfl|rfl|rfl|rfl <;> rfl)|(intro u hu;simp at hu;rcases hu with rfl|rfl|rfl|rfl <;> rfl)|(intro u hu;simp at hu;rcases hu with rfl|rfl|rfl <;> rfl)|(intro u hu;simp at hu;rcases hu with rfl|rfl <;> rfl))) ?_;clear H;intro W H)
       |((with_reducible refine gate_dst (N := 97) rfl ?_);refine l_run rfl (.int .i64 (at0 : Int)) (r_loadCell4 3 _ rfl rfl (hPC _ _ H).1 _ Tryd.underlying3 rfl) ?_)
       |(go_at_call 30;(with_reducible refine (AC2 _ (H.rd (A := A5) (by repeat (first|exact In.head|apply In.tail))).1 (H.rd (A := A6) (by repeat (first|exact In.head|apply In.tail))).1).mono ?_);rintro e W ⟨rfl,hb⟩;replace H := H.to hb;clear hb))
      go_roundg gj'
      case measure => have := hj'.out;omega
      case rel => exact ⟨j + 1,Ar,cr,outs3,by rw [hO],by go_num,by have := hj'.out;omega,hO3.symm,by rw [hO];exact (H.del (r := .blk g20 _ _) (by repeat (first|exact Del.head|apply Del.tail))).del (r := .blk g21 _ _) (by repeat (first|exact Del.head|apply Del.tail))⟩
     |some y =>
      obtain ⟨k',d,m'⟩ := y
      have hdb := told_bytes hFb hT
      have AC2 : ∀ W,Rd W A5 (nums .u8 F) → Rd W A6 (bools ok) → Calls Tryd.prog 30 #[.int .u64 e64,.slice A5 832 c5,.slice A6 16 c6,.int .i64 (at0 : Int)] W fun en W' => ∃ A9 c9 m9,m9 = 11 + d.length ∧ en = .returned (.tuple #[.agg #[.int .i64 k',.int .u32 ep,.slice A9 d.length c9],.int .i64 ((m9 : Nat) : Int)]) ∧ W'.ownsRow W.heap.size 5 1 (.slice A9 d.length c9) d.length (nums .u8 d) ∧ Below W.heap.size W W' := fun W h1 h2 => (AC W h1 h2).mono (by
       rintro e W' ⟨hb,⟨h0,-⟩|⟨k,d',A',c',h0,h197,rfl,ho⟩⟩
       ·rw [hT] at h0;cases h0
       ·rw [hT] at h0;cases h0;exact ⟨A',c',_,rfl,rfl,ho,hb⟩)
      have SM := fun A9 c9 W h1 h2 h3 => rsame_calls k' ep pk ep d wd A9 (dropA A14 f0 c14 1) c9 (c14 - f0) W h1 h2 h3 (hdn ▸ hwc) hdb hwb
      have hbF : badF ep F ok at0 pk ep wd = !(sameFr k' ep pk ep d wd) := by unfold badF;rw [hT]
      rw [hbF] at ho1 ho2
      rw [hdn] at SM
      clear hT AC hbF hdb hwb hdn
      cases hS : sameFr k' ep pk ep d wd with
      |true =>
       have hO : outs3 = outs2 := ho2 (by rw [hS];rfl)
       rw [hS] at SM
       clear ho1 ho2 hS
       go_wp2_with (first
  |((with_reducible refine gate_dst (N := 21) rfl ?_);refine l_allocA rfl H 76 rfl _ zero76 ?_;clear H;intro g21 W H)
  |((with_reducible refine gate_store (t := 76) (p := 21) rfl ?_);refine l_storeW rfl H 76 _ _ rfl _ rfl _ rfl (by (repeat (first|exact In.head|apply In.tail))) _ size76 (by (first|rfl|assumption|omega|(simp only [nums_length];omega)|(simp [nums_length,zs];done)|(simp [nums_length,zs];omega))) (by (first|rfl|assumption|omega|(simp only [nums_length];omega)|(simp [nums_length,zs];done)|(simp [nums_length,zs];omega))) (by (first|exact nums_one|assumption|(intro u hu;simp at hu;subst hu;rfl)|(intro u hu;simp at hu;rcases hu with rfl|rfl|rfl|rfl|rfl|rfl|rfl <;> rfl)|(intro u hu;simp at hu;rcases hu with rfl|rfl|rfl|rfl <;> rfl)|(intro u hu;simp at hu;rcases hu with rfl|rfl|rfl <;> rfl)|(intro u hu;simp at hu;rcases hu with rfl|rfl <;> rfl))) ?_;clear H;intro W H)
  |((with_reducible refine gate_dst (N := 104) rfl ?_);refine gate_guard (by rfl) ?_;refine l_loadA rfl H 76 _ rfl _ rfl (by (repeat (first|exact In.head|apply In.tail))) _ _ Tryd.underlying76 rfl size76 (by (first|rfl|assumption|omega|(simp only [nums_length];omega)|(simp [nums_length,zs];done)|(simp [nums_length,zs];omega))) ?_)
  |((with_reducible refine gate_dst (N := 105) rfl ?_);refine gate_guard (by rfl) ?_;refine l_loadA rfl H 76 _ rfl _ rfl (by (repeat (first|exact In.head|apply In.tail))) _ _ Tryd.underlying76 rfl size76 (by (first|rfl|assumption|omega|(simp only [nums_length];omega)|(simp [nums_length,zs];done)|(simp [nums_length,zs];omega))) ?_)
        |((with_reducible refine gate_dst (N := 97) rfl ?_);refine l_run rfl (.int .i64 (at0 : Int)) (r_loadCell4 3 _ rfl rfl (hPC _ _ H).1 _ Tryd.underlying3 rfl) ?_)
        |(go_at_call 30;(with_reducible refine (AC2 _ (H.rd (A := A5) (by repeat (first|exact In.head|apply In.tail))).1 (H.rd (A := A6) (by repeat (first|exact In.head|apply In.tail))).1).mono ?_);rintro e W ⟨A9,c9,m9,hm9,rfl,ho,hb⟩;replace H := H.addRow hb ho;clear hb ho;have q5 : decide ((0 : Int) < (m9 : Int)) = true := decide_eq_true (by omega);have q6 : decide ((m9 : Int) > 0) = true := decide_eq_true (by omega);have q7 : decide (0 < m9) = true := decide_eq_true (by omega);clear hm9)
        |(go_at_call 40;(with_reducible refine (SM A9 c9 _ (H.rowC (A := A9) (cc := c9) (by repeat (first|exact In.head|apply In.tail))).2.2 (H.rowC (A := A9) (cc := c9) (by repeat (first|exact In.head|apply In.tail))).1 (Kd.C_below hwC H.below)).mono ?_);rintro e W ⟨rfl,hb⟩;replace H := H.to hb;clear hb))
       go_roundg gj'
       case measure => have := hj'.out;omega
       case rel => exact ⟨j + 1,Ar,cr,outs3,by rw [hO],by go_num,by have := hj'.out;omega,hO3.symm,by rw [hO];exact ((H.del (r := .blk g20 _ _) (by repeat (first|exact Del.head|apply Del.tail))).del (r := .blk g21 _ _) (by repeat (first|exact Del.head|apply Del.tail))).del (r := .row (.slice A9 _ c9) _ _ _ _) (by repeat (first|exact Del.head|apply Del.tail))⟩
      |false =>
       have hO : outs3 = outs2 ++ [(at0 : Int)] := ho1 (by rw [hS];rfl)
       rw [hS] at SM
       clear ho1 ho2 hS
       have hl1 : outs2.length + 1 = outs3.length := by rw [hO];simp
       have hnp : nums .i64 outs3 = nums .i64 outs2 ++ [.int .i64 (at0 : Int)] := by rw [hO];simp [nums]
       clear hO
       go_wp2_with (first
  |((with_reducible refine gate_dst (N := 21) rfl ?_);refine l_allocA rfl H 76 rfl _ zero76 ?_;clear H;intro g21 W H)
  |((with_reducible refine gate_store (t := 76) (p := 21) rfl ?_);refine l_storeW rfl H 76 _ _ rfl _ rfl _ rfl (by (repeat (first|exact In.head|apply In.tail))) _ size76 (by (first|rfl|assumption|omega|(simp only [nums_length];omega)|(simp [nums_length,zs];done)|(simp [nums_length,zs];omega))) (by (first|rfl|assumption|omega|(simp only [nums_length];omega)|(simp [nums_length,zs];done)|(simp [nums_length,zs];omega))) (by (first|exact nums_one|assumption|(intro u hu;simp at hu;subst hu;rfl)|(intro u hu;simp at hu;rcases hu with rfl|rfl|rfl|rfl|rfl|rfl|rfl <;> rfl)|(intro u hu;simp at hu;rcases hu with rfl|rfl|rfl|rfl <;> rfl)|(intro u hu;simp at hu;rcases hu with rfl|rfl|rfl <;> rfl)|(intro u hu;simp at hu;rcases hu with rfl|rfl <;> rfl))) ?_;clear H;intro W H)
  |((with_reducible refine gate_dst (N := 104) rfl ?_);refine gate_guard (by rfl) ?_;refine l_loadA rfl H 76 _ rfl _ rfl (by (repeat (first|exact In.head|apply In.tail))) _ _ Tryd.underlying76 rfl size76 (by (first|rfl|assumption|omega|(simp only [nums_length];omega)|(simp [nums_length,zs];done)|(simp [nums_length,zs];omega))) ?_)
  |((with_reducible refine gate_dst (N := 105) rfl ?_);refine gate_guard (by rfl) ?_;refine l_loadA rfl H 76 _ rfl _ rfl (by (repeat (first|exact In.head|apply In.tail))) _ _ Tryd.underlying76 rfl size76 (by (first|rfl|assumption|omega|(simp only [nums_length];omega)|(simp [nums_length,zs];done)|(simp [nums_length,zs];omega))) ?_)
  |((with_reducible refine gate_dst (N := 115) rfl ?_);refine l_build11 rfl H 26 3 _ rfl Tryd.underlying26 _ rfl _ zs3 rfl rfl ?_;clear H;intro g115 W H)
  |((with_reducible refine gate_dst (N := 116) rfl ?_);refine l_append1 rfl H _ _ 26 3 rfl Tryd.underlying26 _ _ _ inf3 rfl (by decide) (by decide) _ _ _ rfl (by (repeat (first|exact In.head|apply In.tail))) _ _ rfl (by (repeat (first|exact In.head|apply In.tail))) (by (first|rfl|assumption|omega|(simp only [nums_length];omega)|(simp [nums_length,zs];done)|(simp [nums_length,zs];omega))) (by (first|exact nums_one|assumption|(intro u hu;simp at hu;subst hu;rfl)|(intro u hu;simp at hu;rcases hu with rfl|rfl|rfl|rfl|rfl|rfl|rfl <;> rfl)|(intro u hu;simp at hu;rcases hu with rfl|rfl|rfl|rfl <;> rfl)|(intro u hu;simp at hu;rcases hu with rfl|rfl|rfl <;> rfl)|(intro u hu;simp at hu;rcases hu with rfl|rfl <;> rfl))) (by omega) ?_;clear H;intro v116 W H;obtain ⟨A16,c16,rfl⟩ : ∃ A c,v116 = .slice A (outs2.length + 1) c := H.row_slice (by repeat (first|exact In.head|apply In.tail)))
        |((with_reducible refine gate_dst (N := 97) rfl ?_);refine l_run rfl (.int .i64 (at0 : Int)) (r_loadCell4 3 _ rfl rfl (hPC _ _ H).1 _ Tryd.underlying3 rfl) ?_)
        |((with_reducible refine gate_dst (N := 114) rfl ?_);refine l_run rfl (.int .i64 (at0 : Int)) (r_loadCell4 3 _ rfl rfl (hPC _ _ H).1 _ Tryd.underlying3 rfl) ?_)
        |(go_at_call 30;(with_reducible refine (AC2 _ (H.rd (A := A5) (by repeat (first|exact In.head|apply In.tail))).1 (H.rd (A := A6) (by repeat (first|exact In.head|apply In.tail))).1).mono ?_);rintro e W ⟨A9,c9,m9,hm9,rfl,ho,hb⟩;replace H := H.addRow hb ho;clear hb ho;have q5 : decide ((0 : Int) < (m9 : Int)) = true := decide_eq_true (by omega);have q6 : decide ((m9 : Int) > 0) = true := decide_eq_true (by omega);have q7 : decide (0 < m9) = true := decide_eq_true (by omega);clear hm9)
        |(go_at_call 40;(with_reducible refine (SM A9 c9 _ (H.rowC (A := A9) (cc := c9) (by repeat (first|exact In.head|apply In.tail))).2.2 (H.rowC (A := A9) (cc := c9) (by repeat (first|exact In.head|apply In.tail))).1 (Kd.C_below hwC H.below)).mono ?_);rintro e W ⟨rfl,hb⟩;replace H := H.to hb;clear hb))
       go_roundg gj'
       case measure => have := hj'.out;omega
       case rel => exact ⟨j + 1,A16,c16,outs3,by rw [← hl1],by go_num,by have := hj'.out;omega,hO3.symm,by rw [← hl1,hnp];exact (((H.del (r := .blk g20 _ _) (by repeat (first|exact Del.head|apply Del.tail))).del (r := .blk g21 _ _) (by repeat (first|exact Del.head|apply Del.tail))).del (r := .row (.slice A9 _ c9) _ _ _ _) (by repeat (first|exact Del.head|apply Del.tail))).del (r := .blk g115 _ _) (by repeat (first|exact Del.head|apply Del.tail))⟩
    ·obtain rfl : j = np := by omega
     have q1 : decide (j < j) = false := decide_eq_false (by omega)
     rw [← hpn,List.take_length,← hbk1] at hout2
     go_wp2_with fail
     go_roundg gk'
     case measure => omega
     case rel => exact ⟨k + 1,Ar,cr,outs2,rfl,by go_num,by omega,hout2,H.slack hF⟩
  ·obtain rfl : k = n := by omega
   have q0 : decide (k < k) = false := decide_eq_false (by omega)
   subst hout
   go_wp2_with fail
   go_ret2
   replace H := H.del (r := .row (.slice A5 832 c5) _ _ _ _) (by repeat (first|exact Del.head|apply Del.tail))
   replace H := H.del (r := .row (.slice A6 16 c6) _ _ _ _) (by repeat (first|exact Del.head|apply Del.tail))
   replace H := H.del (r := .row (.slice A7 _ c7) _ _ _ _) (by repeat (first|exact Del.head|apply Del.tail))
   exact ⟨Ar,cr,rfl,H⟩
end Go.Proofs.YtaekpfhgdnfciaaDoor.O
end

section
/- tear.Differ. -/
set_option linter.unusedVariables false
set_option linter.unusedSimpArgs false
namespace Go.Proofs.YtaekpfhgdnfciaaDoor.O
open Go.RowKit Go.Proofs.YtaekpfhgdnfciaaDoorW.PrintWords Go.Proofs.YtaekpfhgdnfciaaDoorW.PrintLast Go.Proofs.YtaekpfhgdnfciaaDoorW.PrintMore Go.Proofs.YtaekpfhgdnfciaaDoor.F Go.Proofs.YtaekpfhgdnfciaaDoor.F.Nums Go.Proofs.YtaekpfhgdnfciaaDoor.Plain
/-- f and t are the first place where the two differ, and one behind the last, below i (0 and 0: there is none) -/
def DifP (xs ys : List Int) (i f t : Nat) : Prop := (∀ k,k < i → xs.getD k 0 ≠ ys.getD k 0 → f ≤ k ∧ k < t) ∧ ((f = 0 ∧ t = 0) ∨ (f < t ∧ t ≤ i ∧ xs.getD f 0 ≠ ys.getD f 0 ∧ xs.getD (t - 1) 0 ≠ ys.getD (t - 1) 0))
theorem DifP.same {xs ys : List Int} {i f t : Nat} (h : DifP xs ys i f t) (he : xs.getD i 0 = ys.getD i 0) : DifP xs ys (i + 1) f t := by
 refine ⟨fun k hk hne => ?_,?_⟩
 ·by_cases e : k = i
  ·subst e;exact absurd he hne
  ·exact h.1 k (by omega) hne
 ·rcases h.2 with h2|⟨h2,h3,h4⟩
  ·exact .inl h2
  ·exact .inr ⟨h2,by omega,h4⟩
theorem DifP.first {xs ys : List Int} {i f : Nat} (h : DifP xs ys i f 0) (he : xs.getD i 0 ≠ ys.getD i 0) : DifP xs ys (i + 1) i (i + 1) := by
 refine ⟨fun k hk hne => ?_,.inr ⟨by omega,by omega,he,he⟩⟩
 by_cases e : k = i
 ·omega
 ·have := h.1 k (by omega) hne;omega
theorem DifP.next {xs ys : List Int} {i f t : Nat} (h : DifP xs ys i f t) (ht : t ≠ 0) (he : xs.getD i 0 ≠ ys.getD i 0) : DifP xs ys (i + 1) f (i + 1) := by
 rcases h.2 with h2|⟨h2,h3,h4,h5⟩
 ·exact absurd h2.2 ht
 ·refine ⟨fun k hk hne => ?_,.inr ⟨by omega,by omega,h4,he⟩⟩
  by_cases e : k = i
  ·omega
  ·have := h.1 k (by omega) hne;omega
set_option maxRecDepth 100000 in
set_option maxHeartbeats 8000000 in
theorem differ_calls (xs ys : List Int) (hx : xs.length = 64) (hy : ys.length = 64) (w : World) :
  Calls Tryd.prog 24 #[.agg (nums .u8 xs).toArray,.agg (nums .u8 ys).toArray] w fun e W => ∃ f t : Nat,e = .returned (.tuple #[.int .i64 (f : Int),.int .i64 (t : Int)]) ∧ DifP xs ys 64 f t ∧ Below w.heap.size w W := by
 have H := Own.start w
 go_enter Tryd.func24,Tryd.ntmps24
 go_wp2_with (first
  |((with_reducible refine gate_dst (N := 2) rfl ?_);refine l_boxA rfl H 51 _ rfl _ rfl ?_;clear H;intro g2 W H)
  |((with_reducible refine gate_dst (N := 3) rfl ?_);refine l_boxA rfl H 51 _ rfl _ rfl ?_;clear H;intro g3 W H))
 go_loopg [6,7,9] 64 (fun gq v6 v7 v9 w' => ∃ i f t : Nat,v6 = .int .i64 (f : Int) ∧ v7 = .int .i64 (t : Int) ∧ v9 = .int .i64 (i : Int) ∧ i + gq = 64 ∧ DifP xs ys i f t ∧ Own w F0 [.blk g3 51 (nums .u8 ys),.blk g2 51 (nums .u8 xs)] w')
 case atStart => exact ⟨0,0,0,rfl,rfl,rfl,rfl,⟨fun k hk => absurd hk (by omega),.inl ⟨rfl,rfl⟩⟩,H⟩
 case round =>
  clear H
  obtain ⟨i,f,t,rfl,rfl,rfl,hi,hD,H⟩ := hrel
  by_cases ci : i < 64
  ·obtain ⟨gk',rfl⟩ : ∃ q,gk = q + 1 := ⟨gk - 1,by omega⟩
   have q1 : decide ((i : Int) < 64) = true := decide_eq_true (by omega)
   have p0 : ((0 : Int) ≤ (i : Int)) = True := eq_true (by omega)
   have p1 : ((i : Int) < 64) = True := eq_true (by omega)
   have hcx : (nums .u8 xs)[i]? = some (.int .u8 (xs.getD i 0)) := nums_at i (by omega)
   have hcy : (nums .u8 ys)[i]? = some (.int .u8 (ys.getD i 0)) := nums_at i (by omega)
   have w1 : IntKind.i64.wrap ((i : Int) + 1) = ((i + 1 : Nat) : Int) := by rw [IntKind.wrap_i64];omega
   have w1' : wrap64 ((i : Int) + 1) = ((i + 1 : Nat) : Int) := w64 (by omega) (by omega)
   by_cases he : xs.getD i 0 = ys.getD i 0
   ·have hD2 := hD.same he
    rw [← he] at hcy
    generalize xs.getD i 0 = z at hcx hcy
    clear he hD
    go_wp2_with fail
    refine start_ (n := 7) (S := Own _ _ _) (ds := []) #[f_,f_,f_,f_,f_,f_,f_] (by kernel_rfl) rfl rfl H.drew (fun hHeld => ?_)
    replace H := H.drew
    generalize World.drew _ = W at H hHeld ⊢
    refine pure_ (i := 0) (N := some 12) (v := ?_) (a' := ?_) #[t_,f_,f_,f_,f_,f_,f_] rfl rfl (by kernel_rfl) (fun _ _ _ h => h) (Or.inl ⟨by rfl,?_⟩) ?_ ?_
    rotate_left
    ·intro w'
     go_simp
     with_reducible rfl
    rotate_left
    ·simp only [ps_]
     rfl
    refine pure_ (i := 1) (N := some 13) (v := ?_) (a' := ?_) #[t_,t_,f_,f_,f_,f_,f_] rfl rfl (by kernel_rfl) (fun _ _ _ h => h) (Or.inl ⟨by rfl,?_⟩) ?_ ?_
    rotate_left
    ·intro w'
     go_simp
     with_reducible rfl
    rotate_left
    ·simp only [ps_]
     rfl
    refine pure_ (i := 3) (N := some 15) (v := ?_) (a' := ?_) #[t_,t_,f_,t_,f_,f_,f_] rfl rfl (by kernel_rfl) (fun _ _ _ h => h) (Or.inl ⟨by rfl,?_⟩) ?_ ?_
    rotate_left
    ·intro w'
     go_simp
     with_reducible rfl
    rotate_left
    ·simp only [ps_]
     rfl
    refine pure_ (i := 4) (N := some 16) (v := ?_) (a' := ?_) #[t_,t_,f_,t_,t_,f_,f_] rfl rfl (by kernel_rfl) (fun _ _ _ h => h) (Or.inl ⟨by rfl,?_⟩) ?_ ?_
    rotate_left
    ·intro w'
     go_simp
     with_reducible rfl
    rotate_left
    ·simp only [ps_]
     rfl
    refine take_run (i := 2) (N := some 14) (a' := ?_) #[t_,t_,t_,t_,t_,f_,f_] rfl rfl (by kernel_rfl) (fun _ _ _ _ h => h) (by rfl) hHeld (.int .u8 z) (fun X HX => r_load1 HX 5 _ rfl g2 i rfl (by repeat (first|exact In.head|apply In.tail)) _ Tryd.underlying5 rfl _ hcx) ?_ ?_
    rotate_left
    ·simp only [ps_]
     rfl
    refine take_run (i := 5) (N := some 17) (a' := ?_) #[t_,t_,t_,t_,t_,t_,f_] rfl rfl (by kernel_rfl) (fun _ _ _ _ h => h) (by rfl) hHeld (.int .u8 z) (fun X HX => r_load1 HX 5 _ rfl g3 i rfl (by repeat (first|exact In.head|apply In.tail)) _ Tryd.underlying5 rfl _ hcy) ?_ ?_
    rotate_left
    ·simp only [ps_]
     rfl
    refine pure_ (i := 6) (N := some 18) (v := ?_) (a' := ?_) #[t_,t_,t_,t_,t_,t_,t_] rfl rfl (by kernel_rfl) (fun _ _ _ h => h) (Or.inl ⟨by rfl,?_⟩) ?_ ?_
    rotate_left
    ·intro w'
     go_simp
     with_reducible rfl
    rotate_left
    ·simp only [ps_]
     rfl
    refine done_ (by kernel_rfl) ?_
    clear hHeld
    go_wp2_with fail
    go_roundg gk'
    case measure => omega
    case rel => exact ⟨i + 1,f,t,rfl,rfl,by first|rfl|(rw [w1'])|(rw [w1]),by omega,hD2,H⟩
   ·have q2 : (xs.getD i 0 == ys.getD i 0) = false := beq_eq_false_iff_ne.2 he
    by_cases ht : t = 0
    ·subst ht
     have hD2 := hD.first he
     generalize xs.getD i 0 = z at *
     generalize ys.getD i 0 = y at *
     clear he hD
     go_wp2_with fail
     refine start_ (n := 7) (S := Own _ _ _) (ds := []) #[f_,f_,f_,f_,f_,f_,f_] (by kernel_rfl) rfl rfl H.drew (fun hHeld => ?_)
     replace H := H.drew
     generalize World.drew _ = W at H hHeld ⊢
     refine pure_ (i := 0) (N := some 12) (v := ?_) (a' := ?_) #[t_,f_,f_,f_,f_,f_,f_] rfl rfl (by kernel_rfl) (fun _ _ _ h => h) (Or.inl ⟨by rfl,?_⟩) ?_ ?_
     rotate_left
     ·intro w'
      go_simp
      with_reducible rfl
     rotate_left
     ·simp only [ps_]
      rfl
     refine pure_ (i := 1) (N := some 13) (v := ?_) (a' := ?_) #[t_,t_,f_,f_,f_,f_,f_] rfl rfl (by kernel_rfl) (fun _ _ _ h => h) (Or.inl ⟨by rfl,?_⟩) ?_ ?_
     rotate_left
     ·intro w'
      go_simp
      with_reducible rfl
     rotate_left
     ·simp only [ps_]
      rfl
     refine pure_ (i := 3) (N := some 15) (v := ?_) (a' := ?_) #[t_,t_,f_,t_,f_,f_,f_] rfl rfl (by kernel_rfl) (fun _ _ _ h => h) (Or.inl ⟨by rfl,?_⟩) ?_ ?_
     rotate_left
     ·intro w'
      go_simp
      with_reducible rfl
     rotate_left
     ·simp only [ps_]
      rfl
     refine pure_ (i := 4) (N := some 16) (v := ?_) (a' := ?_) #[t_,t_,f_,t_,t_,f_,f_] rfl rfl (by kernel_rfl) (fun _ _ _ h => h) (Or.inl ⟨by rfl,?_⟩) ?_ ?_
     rotate_left
     ·intro w'
      go_simp
      with_reducible rfl
     rotate_left
     ·simp only [ps_]
      rfl
     refine take_run (i := 2) (N := some 14) (a' := ?_) #[t_,t_,t_,t_,t_,f_,f_] rfl rfl (by kernel_rfl) (fun _ _ _ _ h => h) (by rfl) hHeld (.int .u8 z) (fun X HX => r_load1 HX 5 _ rfl g2 i rfl (by repeat (first|exact In.head|apply In.tail)) _ Tryd.underlying5 rfl _ hcx) ?_ ?_
     rotate_left
     ·simp only [ps_]
      rfl
     refine take_run (i := 5) (N := some 17) (a' := ?_) #[t_,t_,t_,t_,t_,t_,f_] rfl rfl (by kernel_rfl) (fun _ _ _ _ h => h) (by rfl) hHeld (.int .u8 y) (fun X HX => r_load1 HX 5 _ rfl g3 i rfl (by repeat (first|exact In.head|apply In.tail)) _ Tryd.underlying5 rfl _ hcy) ?_ ?_
     rotate_left
     ·simp only [ps_]
      rfl
     refine pure_ (i := 6) (N := some 18) (v := ?_) (a' := ?_) #[t_,t_,t_,t_,t_,t_,t_] rfl rfl (by kernel_rfl) (fun _ _ _ h => h) (Or.inl ⟨by rfl,?_⟩) ?_ ?_
     rotate_left
     ·intro w'
      go_simp
      with_reducible rfl
     rotate_left
     ·simp only [ps_]
      rfl
     refine done_ (by kernel_rfl) ?_
     clear hHeld
     go_wp2_with fail
     go_roundg gk'
     case measure => omega
     case rel => exact ⟨i + 1,i,i + 1,rfl,by first|rfl|(rw [w1'])|(rw [w1]),by first|rfl|(rw [w1'])|(rw [w1]),by omega,hD2,H⟩
    ·have hD2 := hD.next ht he
     have q3 : ((t : Int) == 0) = false := by simpa using ht
     generalize xs.getD i 0 = z at *
     generalize ys.getD i 0 = y at *
     clear he hD
     go_wp2_with fail
     refine start_ (n := 7) (S := Own _ _ _) (ds := []) #[f_,f_,f_,f_,f_,f_,f_] (by kernel_rfl) rfl rfl H.drew (fun hHeld => ?_)
     replace H := H.drew
     generalize World.drew _ = W at H hHeld ⊢
     refine pure_ (i := 0) (N := some 12) (v := ?_) (a' := ?_) #[t_,f_,f_,f_,f_,f_,f_] rfl rfl (by kernel_rfl) (fun _ _ _ h => h) (Or.inl ⟨by rfl,?_⟩) ?_ ?_
     rotate_left
     ·intro w'
      go_simp
      with_reducible rfl
     rotate_left
     ·simp only [ps_]
      rfl
     refine pure_ (i := 1) (N := some 13) (v := ?_) (a' := ?_) #[t_,t_,f_,f_,f_,f_,f_] rfl rfl (by kernel_rfl) (fun _ _ _ h => h) (Or.inl ⟨by rfl,?_⟩) ?_ ?_
     rotate_left
     ·intro w'
      go_simp
      with_reducible rfl
     rotate_left
     ·simp only [ps_]
      rfl
     refine pure_ (i := 3) (N := some 15) (v := ?_) (a' := ?_) #[t_,t_,f_,t_,f_,f_,f_] rfl rfl (by kernel_rfl) (fun _ _ _ h => h) (Or.inl ⟨by rfl,?_⟩) ?_ ?_
     rotate_left
     ·intro w'
      go_simp
      with_reducible rfl
     rotate_left
     ·simp only [ps_]
      rfl
     refine pure_ (i := 4) (N := some 16) (v := ?_) (a' := ?_) #[t_,t_,f_,t_,t_,f_,f_] rfl rfl (by kernel_rfl) (fun _ _ _ h => h) (Or.inl ⟨by rfl,?_⟩) ?_ ?_
     rotate_left
     ·intro w'
      go_simp
      with_reducible rfl
     rotate_left
     ·simp only [ps_]
      rfl
     refine take_run (i := 2) (N := some 14) (a' := ?_) #[t_,t_,t_,t_,t_,f_,f_] rfl rfl (by kernel_rfl) (fun _ _ _ _ h => h) (by rfl) hHeld (.int .u8 z) (fun X HX => r_load1 HX 5 _ rfl g2 i rfl (by repeat (first|exact In.head|apply In.tail)) _ Tryd.underlying5 rfl _ hcx) ?_ ?_
     rotate_left
     ·simp only [ps_]
      rfl
     refine take_run (i := 5) (N := some 17) (a' := ?_) #[t_,t_,t_,t_,t_,t_,f_] rfl rfl (by kernel_rfl) (fun _ _ _ _ h => h) (by rfl) hHeld (.int .u8 y) (fun X HX => r_load1 HX 5 _ rfl g3 i rfl (by repeat (first|exact In.head|apply In.tail)) _ Tryd.underlying5 rfl _ hcy) ?_ ?_
     rotate_left
     ·simp only [ps_]
      rfl
     refine pure_ (i := 6) (N := some 18) (v := ?_) (a' := ?_) #[t_,t_,t_,t_,t_,t_,t_] rfl rfl (by kernel_rfl) (fun _ _ _ h => h) (Or.inl ⟨by rfl,?_⟩) ?_ ?_
     rotate_left
     ·intro w'
      go_simp
      with_reducible rfl
     rotate_left
     ·simp only [ps_]
      rfl
     refine done_ (by kernel_rfl) ?_
     clear hHeld
     go_wp2_with fail
     go_roundg gk'
     case measure => omega
     case rel => exact ⟨i + 1,f,i + 1,rfl,by first|rfl|(rw [w1'])|(rw [w1]),by first|rfl|(rw [w1'])|(rw [w1]),by omega,hD2,H⟩
  ·obtain rfl : i = 64 := by omega
   go_wp2_with fail
   go_ret2
   exact ⟨f,t,rfl,hD,H.below⟩
end Go.Proofs.YtaekpfhgdnfciaaDoor.O
end
