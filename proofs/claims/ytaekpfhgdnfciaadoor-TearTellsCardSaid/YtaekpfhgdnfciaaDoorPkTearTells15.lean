/- Texts of mine put together: Clash, Free, Awake19, Awake20, RAccepts, Rflat. -/
import Derived.Test.YtaekpfhgdnfciaaDoorPkTearTells13
import Derived.Test.YtaekpfhgdnfciaaDoorPkTearTells14
import Derived.Lib.SlBytesConst
import Derived.Lib.SmallJoins
import Derived.Test.YtaekpfhgdnfciaaDoorPkTearTells8
import Derived.Test.YtaekpfhgdnfciaaDoorPkTearTells6
section
/- tear.Clashes and tear.Free, by what is owned. -/
set_option linter.unusedVariables false
set_option linter.unusedSimpArgs false
namespace Go.Proofs.YtaekpfhgdnfciaaDoor.O
open Go.RowKit Go.Proofs.YtaekpfhgdnfciaaDoorW.PrintWords Go.Proofs.YtaekpfhgdnfciaaDoorW.PrintLast Go.Proofs.YtaekpfhgdnfciaaDoorW.PrintMore Go.Proofs.YtaekpfhgdnfciaaDoor.F Go.Proofs.YtaekpfhgdnfciaaDoor.F.Nums Go.Proofs.YtaekpfhgdnfciaaDoor.Plain Go.Proofs.YtaekpfhgdnfciaaDoor.Img
attribute [local go_sem] max2_int min2_int max_two min_two
section
variable {P : Program} {ops : Array Oper} {Q : Exit → Act → World → Prop}
/-- a call of a function's value in a region that draws its order, by a contract -/
theorem callV_ {oi : Oper} {N : Option Tmp} {a : Act} {w : World} {K : Act → World → Prop} {f : FuncId} {fn : Func} {as_ : Array Operand} {ts : Array TypeId} {x : Operand} {caps args all : Array Value} {R : Ending → World → Prop} (hcall : Calls P f all w R) (hf : P.funcs[f]? = some fn)
  (hname : (fn.name == "runtime.NumGoroutine") = false) (hb : fn.body.isSome = true) (hw : Region.wanted oi (yielded ops a.tmps) = true) (hN : oi.dst = N) (hop : oi.op = .call { callee := .value x, args := as_, argTypes := ts }) (hx : a.eval x = .func (.func f) #[] caps) (hargs : as_.map a.eval = args) (hall : args ++ caps = all)
  (h : ∀ e w',R e w' → ∃ v,e = .returned v ∧ K (a.put N v) w') : if Region.wanted oi (yielded ops a.tmps) = true then Oper.wp P oi a w K Q else K (a.put N undef) w := by
 refine call_ f all hw hN ?_ (hcall.mono h)
 subst hall
 have he := enters_ hf hname hb (args ++ caps) w
 unfold execOp
 simp [hop,resolve,Deferred.ofValue,invoke,hx,hargs,he]
end
/-- a row of pieces -/
theorem pc_row {w : World} {A : Option Addr} {n : Nat} {ps : List S94} (h : Kd.C k94 w A n ps) (j : Nat) (hj : j < n) :
  ∃ ad,A = some ad ∧ Rd w (some (ad.add (j * 4))) [.int .i64 (rd_T94 ps j).f0,.int .i64 (rd_T94 ps j).f1,.int .i64 (rd_T94 ps j).f2,.int .i64 (rd_T94 ps j).f3] := by
 obtain ⟨ad,c,e,_,hK,hc0⟩ := Kd.C_get h z94 (j : Int) (by omega) (by omega)
 have hc : ∀ i u,c[i]? = some u → w.cell? (ad.add (j * 4 + i)) = some u := hc0
 rw [k94_open hK] at hc
 exact ⟨ad,e,fun _ => ⟨_,rfl,fun i v hi => by rw [add_add'];exact hc i v hi⟩⟩
set_option maxRecDepth 100000 in
set_option maxHeartbeats 16000000 in
theorem clashes_no (e64 : Int) (l : List (List Int)) (A A2 : Option Addr) (c n2 c2 : Nat) (w : World) (hok : layAll 0 l = false) (hl : ∀ x ∈ l,Bytes x) (hll : ∀ x ∈ l,x.length < 140737488355328) (hn : l.length ≤ 100)
  (hC : (Kd.slice 5 (Kd.int .u8)).C w A l.length l) (hH : Half w) :
  Calls Tryd.prog 23 #[.int .u64 e64,.slice A l.length c,.slice A2 n2 c2] w fun e W => e = .returned (.slice none 0 0) ∧ Below w.heap.size w W := by
 have H := Own.start w
 have PC : ∀ W,(Kd.slice 5 (Kd.int .u8)).C W A l.length l → Half W → Calls Tryd.prog 39 #[.slice A l.length c] W fun e W' => e = .returned (.tuple #[.slice none 0 0,.bool false]) ∧ Below W.heap.size W W' := fun W h1 h2 => (places_calls l A c W hl hll (by omega) h1 h2).mono (by
  rintro e W' (⟨h,-⟩|⟨-,rfl,h⟩)
  ·rw [hok] at h;cases h
  ·exact ⟨rfl,h⟩)
 generalize l.length = n at *
 go_enter Tryd.func23,Tryd.ntmps23
 go_wp2_with (first
  |((with_reducible refine gate_dst (N := 3) rfl ?_);refine l_box1 rfl H 22 _ rfl _ rfl rfl ?_;clear H;intro g3 W H)
  |(go_at_call 39;(with_reducible refine (PC _ (Kd.C_below hC H.below) (hH.below H.below)).mono ?_);rintro e W ⟨rfl,hb⟩;replace H := H.to hb;clear hb))
 go_ret
 exact ⟨rfl,H.below⟩
set_option maxRecDepth 100000 in
set_option maxHeartbeats 16000000 in
theorem clashes_yes (e64 : Int) (l : List (List Int)) (A A2 : Option Addr) (c n2 c2 : Nat) (fl : List Int) (w : World) (he : 0 ≤ e64 ∧ e64 ≤ 18446744073709551615) (hok : layAll 0 l = true) (hl : ∀ x ∈ l,Bytes x) (hll : ∀ x ∈ l,x.length < 140737488355328) (hn : l.length ≤ 100)
  (hC : (Kd.slice 5 (Kd.int .u8)).C w A l.length l) (hf : fl.length = 64 * n2) (hb : Bytes fl) (hr : Rd w A2 (nums .u8 fl)) (hc2 : n2 ≤ c2) (hn2 : n2 ≤ 100) (hH : Half w) :
  Calls Tryd.prog 23 #[.int .u64 e64,.slice A l.length c,.slice A2 n2 c2] w fun e W => ∃ Ar cr,e = .returned (.slice Ar (badL e64 l (bodyF e64 fl n2 16) (oksF e64 fl n2 16) l.length).length cr) ∧
   Own w F0 [.row (.slice Ar (badL e64 l (bodyF e64 fl n2 16) (oksF e64 fl n2 16) l.length).length cr) 3 1 (badL e64 l (bodyF e64 fl n2 16) (oksF e64 fl n2 16) l.length).length (nums .i64 (badL e64 l (bodyF e64 fl n2 16) (oksF e64 fl n2 16) l.length))] W := by
 have H := Own.start w
 have PC : ∀ W,(Kd.slice 5 (Kd.int .u8)).C W A l.length l → Half W → Calls Tryd.prog 39 #[.slice A l.length c] W fun e W' => ∃ v,e = .returned (.tuple #[v,.bool true]) ∧ Own W F0 [.row v 3 1 l.length (nums .i64 (layPl 0 l l.length))] W' := fun W h1 h2 => (places_calls l A c W hl hll (by omega) h1 h2).mono (by
  rintro e W' (⟨-,h⟩|⟨h,-⟩)
  ·exact h
  ·rw [hok] at h;cases h)
 have FC := fun W h => flat_calls e64 fl n2 hf hb A2 c2 W h hc2 (by omega)
 have hFl : (bodyF e64 fl n2 16).length = 832 := bodyF_len hf 16
 have hFb : Bytes (bodyF e64 fl n2 16) := bodyF_bytes hb 16
 have hkl : (oksF e64 fl n2 16).length = 16 := oksF_len 16
 have hbl := fun k => badL_len e64 l (bodyF e64 fl n2 16) (oksF e64 fl n2 16) k
 have hbs := fun k => badL_succ e64 l (bodyF e64 fl n2 16) (oksF e64 fl n2 16) k
 have hb0 : badL e64 l (bodyF e64 fl n2 16) (oksF e64 fl n2 16) 0 = [] := rfl
 generalize bodyF e64 fl n2 16 = F at *
 generalize oksF e64 fl n2 16 = ok at *
 have hul : IntKind.u32.wrap e64 = e64 % 4294967296 := by rw [IntKind.wrap_u32]
 have he0 : 0 ≤ e64 % 4294967296 ∧ e64 % 4294967296 ≤ 4294967295 := by omega
 have HC := fun k (hk : k < l.length) => C_rows_at hC k hk
 have hpl : ∀ k,k < l.length → (nums .i64 (layPl 0 l l.length))[k]? = some (.int .i64 (layAt 0 l k)) := fun k hk => by
  have h := nums_at (k := .i64) (xs := layPl 0 l l.length) k (by rw [layPl_len];exact hk)
  have e : (layPl 0 l l.length).getD k 0 = layAt 0 l k := by
   unfold layPl
   rw [List.getD_eq_getElem?_getD,List.getElem?_map,List.getElem?_range hk]
   rfl
  rwa [e] at h
 have hbl2 : ∀ k,k < l.length → Bytes (l.getD k []) ∧ (l.getD k []).length < 140737488355328 := fun k hk => by
  have : l.getD k [] ∈ l := by rw [List.getD_eq_getElem?_getD,List.getElem?_eq_getElem hk];exact List.getElem_mem hk
  exact ⟨hl _ this,hll _ this⟩
 have hpcs : ∀ k,pcs e64 l k = (cutP (layAt 0 l k) ((l.getD k []).length : Int)).1 := fun k => by
  unfold pcs layAt
  rw [cutP_begin,laySt_end_any e64 0]
 clear hok hl hll
 generalize layPl 0 l l.length = pl at *
 generalize hnl : l.length = n at *
 go_enter Tryd.func23,Tryd.ntmps23
 go_wp2_with (first
  |((with_reducible refine gate_dst (N := 3) rfl ?_);refine l_box1 rfl H 22 _ rfl _ rfl rfl ?_;clear H;intro g3 W H)
  |((with_reducible refine gate_dst (N := 30) rfl ?_);refine l_load1 rfl H 22 _ rfl _ _ rfl (by (repeat (first|exact In.head|apply In.tail))) _ Tryd.underlying22 rfl _ (by first|rfl|assumption|exact nums_at _ (by omega)) ?_)
  |((with_reducible refine gate_dst (N := 9) rfl ?_);refine l_alloc1 rfl H 38 rfl _ zero38 rfl ?_;clear H;intro g9 W H)
  |((with_reducible refine gate_dst (N := 10) rfl ?_);refine l_alloc1 rfl H 63 rfl _ zero63 rfl ?_;clear H;intro g10 W H)
  |((with_reducible refine gate_store (t := 38) (p := 9) rfl ?_);refine l_store1 rfl H 38 _ _ rfl _ _ rfl _ (by first|(go_simp;done)|(go_simp;with_reducible rfl)) (by (repeat (first|exact In.head|apply In.tail))) rfl rfl size38 (by (first|rfl|assumption|omega|(simp only [nums_length];omega)|(simp [nums_length,zs];done)|(simp [nums_length,zs];omega))) ?_;clear H;intro W H)
  |((with_reducible refine gate_store (t := 63) (p := 10) rfl ?_);refine l_store1 rfl H 63 _ _ rfl _ _ rfl _ (by first|(go_simp;done)|(go_simp;with_reducible rfl)) (by (repeat (first|exact In.head|apply In.tail))) rfl rfl size63 (by (first|rfl|assumption|omega|(simp only [nums_length];omega)|(simp [nums_length,zs];done)|(simp [nums_length,zs];omega))) ?_;clear H;intro W H)
  |((with_reducible refine gate_dst (N := 11) rfl ?_);refine l_alloc1 rfl H 26 rfl _ zero26 rfl ?_;clear H;intro g11 W H)
  |(go_at_call 39;(with_reducible refine (PC _ (Kd.C_below hC H.below) (hH.below H.below)).mono ?_);rintro e W ⟨v7,rfl,HO⟩;replace H := H.addOwn HO;clear HO;dsimp only [List.cons_append,List.nil_append] at H;obtain ⟨A7,c7,rfl⟩ := H.row_slice .head)
  |(go_at_call 25;(with_reducible refine (FC _ (hr.below H.below)).mono ?_);rintro en W ⟨v5,v6,rfl,HO⟩;replace H := H.addOwn HO;clear HO;dsimp only [List.cons_append,List.nil_append] at H;obtain ⟨A5,c5,rfl⟩ := H.row_slice .head;obtain ⟨A6,c6,rfl⟩ := H.row_slice (.tail .head)))
 have hc5 : 832 ≤ c5 := (H.rd (A := A5) (by repeat (first|exact In.head|apply In.tail))).2.1
 have hc6 : 16 ≤ c6 := (H.rd (A := A6) (by repeat (first|exact In.head|apply In.tail))).2.1
 replace H := H.cons (r := .row (.slice none 0 0) 3 1 0 []) (Below.refl _ _) (own_nil _ _ _ _) (fun k hk => by cases hk)
 replace H := Own.front (r := .row (.slice A7 n c7) _ _ _ _) H (by repeat (first|exact Del.head|apply Del.tail))
 replace H := Own.front (r := .row (.slice A6 16 c6) _ _ _ _) H (by repeat (first|exact Del.head|apply Del.tail))
 replace H := Own.front (r := .row (.slice A5 832 c5) _ _ _ _) H (by repeat (first|exact Del.head|apply Del.tail))
 replace H := Own.front (r := .row (.slice none 0 0) _ _ _ _) H (by repeat (first|exact Del.head|apply Del.tail))
 replace H := Own.front (r := .blk g11 _ _) H (by repeat (first|exact Del.head|apply Del.tail))
 replace H := Own.front (r := .blk g10 _ _) H (by repeat (first|exact Del.head|apply Del.tail))
 replace H := Own.front (r := .blk g9 _ _) H (by repeat (first|exact Del.head|apply Del.tail))
 replace H := Own.front (r := .blk g3 _ _) H (by repeat (first|exact Del.head|apply Del.tail))
 go_loopg [38] n (fun gq v38 w' => ∃ (k : Nat) (Ar : Option Addr) (cr : Nat) (outs : List Int),v38 = .int .i64 (k : Int) ∧ k + gq = n ∧ outs = badL e64 l F ok k ∧
  Own w F0 (.blk g3 22 [.int .u64 e64] :: .blk g9 38 [.slice A5 832 c5] :: .blk g10 63 [.slice A6 16 c6] :: .blk g11 26 [.slice Ar outs.length cr] :: .row (.slice Ar outs.length cr) 3 1 outs.length (nums .i64 outs) :: .row (.slice A5 832 c5) 5 1 832 (nums .u8 F) :: .row (.slice A6 16 c6) 4 1 16 (bools ok) :: .row (.slice A7 n c7) 3 1 n (nums .i64 pl) :: []) w')
 case atStart => exact ⟨0,none,0,[],rfl,by omega,hb0.symm,H⟩
 case round =>
  clear H
  obtain ⟨k,Ar,cr,outs,rfl,hk,hout,H⟩ := hrel
  by_cases ck : k < n
  ·obtain ⟨gk',rfl⟩ : ∃ q,gk = q + 1 := ⟨gk - 1,by omega⟩
   have q0 : decide (k < n) = true := decide_eq_true ck
   have p0 : ((0 : Int) ≤ (k : Int)) = True := eq_true (by omega)
   have p1 : ((k : Int) < (n : Int)) = True := eq_true (by omega)
   obtain ⟨ad,A14,c14,rfl,x0,hc14,x2⟩ := HC k ck
   have hp := hpl k ck
   obtain ⟨hbd,hld⟩ := hbl2 k ck
   have hbk := hbl k
   have hbk1 := hbs k
   have hpk := hpcs k
   rw [hpk] at hbk1
   rw [← hout] at hbk hbk1
   generalize l.getD k [] = data at *
   generalize layAt 0 l k = at_ at *
   have hcut : cut_Cut.f 7 at_ (data.length : Int) = some ((cutP at_ (data.length : Int)).1,(cutP at_ (data.length : Int)).2.1,(cutP at_ (data.length : Int)).2.2) := cut_eq 7 (by decide) at_ (data.length : Int)
   have CC := fun (W : World) => cut_Cut.calls 7 at_ (data.length : Int) (cutP at_ (data.length : Int)).1 (cutP at_ (data.length : Int)).2.1 (cutP at_ (data.length : Int)).2.2 W hcut
   have hfr : cut_Frags.f 20 (e64 % 4294967296) at_ data = some ((cutP at_ (data.length : Int)).1.map (fragP (e64 % 4294967296) data),(cutP at_ (data.length : Int)).2.2) := frags_eq 20 (by decide) (e64 % 4294967296) at_ data hld
   have FF := fun (W : World) (hC : (Kd.int .u8).C W A14 data.length data) => cut_Frags.calls 20 (e64 % 4294967296) at_ A14 c14 data ((cutP at_ (data.length : Int)).1.map (fragP (e64 % 4294967296) data)) (cutP at_ (data.length : Int)).2.2 W hC hc14 hfr
   have hps := cutP_pcs at_ data
   have hpl9 := cutP_len at_ (data.length : Int)
   clear hcut hfr HC hpl hbl2 hbl hbs hpcs hpk hld hb0
   generalize (cutP at_ (data.length : Int)).2.1 = en1 at *
   generalize (cutP at_ (data.length : Int)).2.2 = bb at *
   generalize (cutP at_ (data.length : Int)).1 = ps at *
   generalize hnd : data.length = nd at *
   obtain ⟨a7,rfl⟩ : ∃ a,A7 = some a := (H.rd (A := A7) (by repeat (first|exact In.head|apply In.tail))).1.some_ (by have := (List.getElem?_eq_some_iff.1 hp).1;omega)
   go_wp2_with (first
    |((with_reducible refine gate_dst (N := 42) rfl ?_);refine l_run rfl (.slice A14 nd c14) (r_loadCell4 38 _ rfl rfl ((H.below.cell (World.block_lt_of_cell? w _ x0)).trans x0) _ Tryd.underlying38 rfl) ?_)
    |((with_reducible refine gate_dst (N := 47) rfl ?_);refine l_run rfl (.int .i64 at_) (r_loadRd1 3 _ rfl k rfl (H.rd (A := some a7) (by repeat (first|exact In.head|apply In.tail))).1 _ Tryd.underlying3 rfl _ hp) ?_)
    |(go_at_call 44;(with_reducible refine (CC _).mono ?_);rintro e W ⟨v0,rfl,hR,hbq⟩;obtain ⟨Ap,cp,rfl⟩ := Kd.R_slice hR;have HF := H.freezeNew hbq;have hSt := Stands.R (F := F0) hR;clear hR hbq H;obtain ⟨H,hF⟩ := HF;generalize fn F0 _ W = F1 at H hF hSt))
   refine start_ (n := 13) (S := Own _ _ _) (ds := [7]) #[f_,f_,f_,f_,f_,f_,f_,f_,f_,f_,f_,f_,f_] (by kernel_rfl) rfl rfl H.drew (fun hHeld => ?_)
   replace H := H.drew
   generalize World.drew _ = W at H hHeld ⊢
   refine pure_ (i := 2) (N := some 57) (v := ?_) (a' := ?_) #[f_,f_,t_,f_,f_,f_,f_,f_,f_,f_,f_,f_,f_] rfl rfl (by kernel_rfl) (fun _ _ _ h => h) (Or.inl ⟨by rfl,?_⟩) ?_ ?_
   rotate_left
   ·intro w'
    go_simp
    with_reducible rfl
   rotate_left
   ·simp only [ps_]
    rfl
   refine pure_ (i := 3) (N := some 58) (v := ?_) (a' := ?_) #[f_,f_,t_,t_,f_,f_,f_,f_,f_,f_,f_,f_,f_] rfl rfl (by kernel_rfl) (fun _ _ _ h => h) (Or.inl ⟨by rfl,?_⟩) ?_ ?_
   rotate_left
   ·intro w'
    go_simp
    with_reducible rfl
   rotate_left
   ·simp only [ps_]
    rfl
   refine pure_ (i := 4) (N := some 59) (v := ?_) (a' := ?_) #[f_,f_,t_,t_,t_,f_,f_,f_,f_,f_,f_,f_,f_] rfl rfl (by kernel_rfl) (fun _ _ _ h => h) (Or.inl ⟨by rfl,?_⟩) ?_ ?_
   rotate_left
   ·intro w'
    go_simp
    with_reducible rfl
   rotate_left
   ·simp only [ps_]
    rfl
   refine pure_ (i := 6) (N := some 61) (v := ?_) (a' := ?_) #[f_,f_,t_,t_,t_,f_,t_,f_,f_,f_,f_,f_,f_] rfl rfl (by kernel_rfl) (fun _ _ _ h => h) (Or.inl ⟨by rfl,?_⟩) ?_ ?_
   rotate_left
   ·intro w'
    go_simp
    with_reducible rfl
   rotate_left
   ·simp only [ps_]
    rfl
   refine take_run (i := 0) (N := some 55) (a' := ?_) #[t_,f_,t_,t_,t_,f_,t_,f_,f_,f_,f_,f_,f_] rfl rfl (by kernel_rfl) (fun _ _ _ _ h => h) (by rfl) hHeld (.int .u64 e64) (fun X HX => r_load1 HX 22 _ rfl g3 0 rfl (by repeat (first|exact In.head|apply In.tail)) _ Tryd.underlying22 rfl _ rfl) ?_ ?_
   rotate_left
   ·simp only [ps_]
    rfl
   refine pure_ (i := 1) (N := some 56) (v := ?_) (a' := ?_) #[t_,t_,t_,t_,t_,f_,t_,f_,f_,f_,f_,f_,f_] rfl rfl (by kernel_rfl) (fun _ _ _ h => h) (Or.inl ⟨by rfl,?_⟩) ?_ ?_
   rotate_left
   ·intro w'
    go_simp
    with_reducible rfl
   rotate_left
   ·simp only [ps_]
    rfl
   refine take_run (i := 5) (N := some 60) (a' := ?_) #[t_,t_,t_,t_,t_,t_,t_,f_,f_,f_,f_,f_,f_] rfl rfl (by kernel_rfl) (fun _ _ _ _ h => h) (by rfl) hHeld (.int .i64 at_) (fun X HX => r_loadRd1 3 _ rfl k rfl (HX.rd (A := some a7) (by repeat (first|exact In.head|apply In.tail))).1 _ Tryd.underlying3 rfl _ hp) ?_ ?_
   rotate_left
   ·simp only [ps_]
    rfl
   refine last_ (i := 7) (N := some 62) #[t_,t_,t_,t_,t_,t_,t_,t_,f_,f_,f_,f_,f_] rfl rfl (by kernel_rfl) (by decide) (fun K hK => ?_)
   refine callK_ (FF _ (Kd.C_below x2 H.below)) Tryd.func45 (by kernel_rfl) rfl (by rfl) rfl rfl (by (try simp only [List.map_toArray,List.map_cons,List.map_nil]);first|done|rfl) ?_
   rintro e W ⟨v1,rfl,hS,hbq⟩
   refine ⟨_,rfl,?_⟩
   obtain ⟨Af,cf,rfl⟩ := Kd.R_slice (Kd.S_R hS)
   have HF2 := H.freezeNew hbq
   have hSt2 := fun j hj => fr_stands' (F := F1) (Kd.S_R hS) j hj
   clear hS hbq H
   obtain ⟨H,hF2⟩ := HF2
   generalize fn F1 _ W = F2 at H hF2 hSt2
   refine hK.out _ _ ?_
   clear hK K
   refine norm_ (a' := ?_) ?_ ?_
   rotate_left
   ·show Act.put _ (some 62) _ = _
    simp only [ps_]
    rfl
   refine pure_ (i := 8) (N := some 54) (v := ?_) (a' := ?_) #[t_,t_,t_,t_,t_,t_,t_,t_,t_,f_,f_,f_,f_] rfl rfl (by kernel_rfl) (fun _ _ _ h => h) (Or.inl ⟨by rfl,?_⟩) ?_ ?_
   rotate_left
   ·intro w'
    go_simp
    with_reducible rfl
   rotate_left
   ·simp only [ps_]
    rfl
   refine pure_ (i := 9) (N := some 63) (v := ?_) (a' := ?_) #[t_,t_,t_,t_,t_,t_,t_,t_,t_,t_,f_,f_,f_] rfl rfl (by kernel_rfl) (fun _ _ _ h => h) (Or.inl ⟨by rfl,?_⟩) ?_ ?_
   rotate_left
   ·intro w'
    go_simp
    with_reducible rfl
   rotate_left
   ·simp only [ps_]
    rfl
   refine pure_ (i := 10) (N := some 64) (v := ?_) (a' := ?_) #[t_,t_,t_,t_,t_,t_,t_,t_,t_,t_,t_,f_,f_] rfl rfl (by kernel_rfl) (fun _ _ _ h => h) (Or.inl ⟨by rfl,?_⟩) ?_ ?_
   rotate_left
   ·intro w'
    go_simp
    with_reducible rfl
   rotate_left
   ·simp only [ps_]
    rfl
   refine pure_ (i := 11) (N := some 18) (v := ?_) (a' := ?_) #[t_,t_,t_,t_,t_,t_,t_,t_,t_,t_,t_,t_,f_] rfl rfl (by kernel_rfl) (fun _ _ _ h => h) (Or.inl ⟨by rfl,?_⟩) ?_ ?_
   rotate_left
   ·intro w'
    go_simp
    with_reducible rfl
   rotate_left
   ·simp only [ps_]
    rfl
   refine pure_ (i := 12) (N := some 19) (v := ?_) (a' := ?_) #[t_,t_,t_,t_,t_,t_,t_,t_,t_,t_,t_,t_,t_] rfl rfl (by kernel_rfl) (fun _ _ _ h => h) (Or.inl ⟨by rfl,?_⟩) ?_ ?_
   rotate_left
   ·intro w'
    go_simp
    with_reducible rfl
   rotate_left
   ·simp only [ps_]
    rfl
   refine done_ (by kernel_rfl) ?_
   clear hHeld
   have hSp := hSt.mono hF2
   clear hSt CC FF
   have hrf : ∀ j,j < ps.length → rd_T76 (ps.map (fragP (e64 % 4294967296) data)) (j : Int) = fragP (e64 % 4294967296) data (rd_T94 ps j) := fun j hj => by
    unfold rd_T76
    rw [List.getD_eq_getElem?_getD,Int.toNat_natCast,List.getElem?_map,List.getElem?_eq_getElem hj,rd_at ps j hj]
    rfl
   generalize hpn : ps.length = np at *
   try simp only [List.length_map,hpn]
   go_wp2_with fail
   go_loopg [67] np (fun gq v67 w' => ∃ (j : Nat) (Ar : Option Addr) (cr : Nat) (outs2 : List Int),v67 = .int .i64 (j : Int) ∧ j + gq = np ∧ outs2 = outs ++ badR (e64 % 4294967296) F ok data (ps.take j) ∧
    Own w F2 (.blk g3 22 [.int .u64 e64] :: .blk g9 38 [.slice A5 832 c5] :: .blk g10 63 [.slice A6 16 c6] :: .blk g11 26 [.slice Ar outs2.length cr] :: .row (.slice Ar outs2.length cr) 3 1 outs2.length (nums .i64 outs2) :: .row (.slice A5 832 c5) 5 1 832 (nums .u8 F) :: .row (.slice A6 16 c6) 4 1 16 (bools ok) :: .row (.slice (some a7) n c7) 3 1 n (nums .i64 pl) :: []) w')
   case atStart => exact ⟨0,Ar,cr,outs,rfl,by omega,by simp [badR],H⟩
   case round =>
    clear H
    obtain ⟨j,Ar,cr,outs2,rfl,hj,hout2,H⟩ := hrel
    by_cases cj : j < np
    ·obtain ⟨gj',rfl⟩ : ∃ q,gk = q + 1 := ⟨gk - 1,by omega⟩
     have q1 : decide (j < np) = true := decide_eq_true cj
     have r0 : ((0 : Int) ≤ (j : Int)) = True := eq_true (by omega)
     have r1 : ((j : Int) < (np : Int)) = True := eq_true (by omega)
     obtain ⟨adf,A2,c9,rfl,hRd,l2,C2⟩ := hSt2 j (by rw [List.length_map];omega)
     rw [hrf j cj] at hRd l2 C2
     have hjl : j < ps.length := by omega
     have hpc := hps _ (List.getElem_mem hjl)
     rw [rd_at ps j hjl] at hpc
     have hsn : badR (e64 % 4294967296) F ok data (ps.take (j + 1)) = if badP (e64 % 4294967296) F ok data (rd_T94 ps j) = true then badR (e64 % 4294967296) F ok data (ps.take j) ++ [(rd_T94 ps j).f0] else badR (e64 % 4294967296) F ok data (ps.take j) := by
      rw [← badR_snoc,← rd_at ps j hjl,List.take_succ_eq_append_getElem hjl]
     have hlo : outs2.length ≤ 10000 := by
      have h1 := badR_len (e64 % 4294967296) F ok data (ps.take j)
      rw [List.length_take] at h1
      rw [hout2,List.length_append]
      omega
     have hSq : ∀ (X : World) (L : List Res),Own w F2 L X → ∃ ad,Ap = some ad ∧ Rd X (some (ad.add (j * 4))) [.int .i64 (rd_T94 ps j).f0,.int .i64 (rd_T94 ps j).f1,.int .i64 (rd_T94 ps j).f2,.int .i64 (rd_T94 ps j).f3] := fun X L HX => by
      obtain ⟨Aq,cq,eq,lq,Cq⟩ := Kd.R_reads (HX.use hSp)
      injection eq with eq1 eq2 eq3
      subst eq1
      rw [hpn] at Cq
      exact pc_row Cq j cj
     obtain ⟨adp,rfl,-⟩ := hSq _ _ H
     have hPC : ∀ (X : World) (L : List Res),Own w F2 L X → Rd X (some (adp.add (j * 4))) [.int .i64 (rd_T94 ps j).f0,.int .i64 (rd_T94 ps j).f1,.int .i64 (rd_T94 ps j).f2,.int .i64 (rd_T94 ps j).f3] := fun X L HX => by
      obtain ⟨ad,e,h⟩ := hSq X L HX
      obtain rfl := Option.some.inj e
      exact h
     generalize rd_T94 ps (j : Int) = p at *
     obtain ⟨pa,pk,pf,pt⟩ := p
     obtain ⟨h1,h2,h3,h4,h5,h6,h7,h8⟩ := hpc
     simp only at h1 h2 h3 h4 h5 h6 h7 h8 hPC hsn
     obtain ⟨at0,rfl⟩ := Int.eq_ofNat_of_zero_le h1
     simp only [fragP] at hRd l2 C2
     have hp11 : at0 + 11 ≤ 832 := by omega
     have hwb := bytes_drop (bytes_take hbd pt.toNat) pf.toNat
     unfold badP at hsn
     simp only [Int.toNat_natCast] at hsn
     clear h1 h2 h3 h4 h5 h6 h7 h8 hSq hSt2 hrf hps
     generalize (data.take pt.toNat).drop pf.toNat = wd at *
     have ho' : outs ++ badR (e64 % 4294967296) F ok data (ps.take (j + 1)) = if badF (e64 % 4294967296) F ok at0 pk (e64 % 4294967296) wd = true then outs2 ++ [(at0 : Int)] else outs2 := by
      rw [hsn,hout2]
      split
      ·rw [List.append_assoc]
      ·rfl
     have HB := fun rest W (H : Own w F2 (.blk g3 22 [.int .u64 e64] :: .blk g9 38 [.slice A5 832 c5] :: .blk g10 63 [.slice A6 16 c6] :: .blk g11 26 [.slice Ar outs2.length cr] :: .row (.slice Ar outs2.length cr) 3 1 outs2.length (nums .i64 outs2) :: .row (.slice A5 832 c5) 5 1 832 (nums .u8 F) :: .row (.slice A6 16 c6) 4 1 16 (bools ok) :: rest) W) =>
      hold_own e64 F ok hFl hFb hkl at0 hp11 pk (e64 % 4294967296) wd A2 c9 l2 hwb A5 A6 Ar c5 c6 cr hc5 hc6 g3 g9 g10 g11 outs2 hlo rest _ ho' (fun X L' HX => HX.use C2) hH H
     clear ho' hsn hout2 hlo C2 hwb
     generalize hO3 : outs ++ badR (e64 % 4294967296) F ok data (ps.take (j + 1)) = outs3 at *
     generalize hwn : wd.length = wn at *
     generalize e64 % 4294967296 = ep at *
     have hj' := Aside0.mk hj
     have hnp9 : np ≤ 10000 := by omega
     clear hj hC hnl hn hk ck hout hbk hbk1 hpl9 hpn he he0
     go_wp2_with (first
  |((with_reducible refine gate_dst (N := 21) rfl ?_);refine l_allocA rfl H 94 rfl _ zero94 ?_;clear H;intro g21 W H)
  |((with_reducible refine gate_store (t := 94) (p := 21) rfl ?_);refine l_storeW rfl H 94 _ _ rfl _ rfl _ rfl (by (repeat (first|exact In.head|apply In.tail))) _ size94 (by (first|rfl|assumption|omega|(simp only [nums_length];omega)|(simp [nums_length,zs];done)|(simp [nums_length,zs];omega))) (by (first|rfl|assumption|omega|(simp only [nums_length];omega)|(simp [nums_length,zs];done)|(simp [nums_length,zs];omega))) (by (first|exact nums_one|assumption|(intro u hu;simp at hu;subst hu;rfl)|(intro u hu;simp at hu;rcases hu with rfl|rfl|rfl|rfl|rfl|rfl|rfl <;> rfl)|(intro u hu;simp at hu;rcases hu with rfl|rfl|rfl|rfl <;> rfl)|(intro u hu;simp at hu;rcases hu with rfl|rfl|rfl <;> rfl)|(intro u hu;simp at hu;rcases hu with rfl|rfl <;> rfl))) ?_;clear H;intro W H)
      |((with_reducible refine gate_dst (N := 71) rfl ?_);refine l_run rfl (.agg #[.int .i64 (at0 : Int),.int .i64 pk,.int .i64 pf,.int .i64 pt]) (r_loadRd0 94 _ rfl rfl (hPC _ _ H) 4 _ Tryd.underlying94 rfl size94 (by decide) rfl) ?_))
     replace H := H.perm (List.perm_append_singleton _ _).symm
     dsimp only [List.cons_append,List.nil_append] at H
     refine start_ (n := 8) (S := Own _ _ _) (ds := [7]) #[f_,f_,f_,f_,f_,f_,f_,f_] (by kernel_rfl) rfl rfl H.drew (fun hHeld => ?_)
     replace H := H.drew
     generalize World.drew _ = W at H hHeld ⊢
     refine pure_ (i := 0) (N := some 72) (v := ?_) (a' := ?_) #[t_,f_,f_,f_,f_,f_,f_,f_] rfl rfl (by kernel_rfl) (fun _ _ _ h => h) (Or.inl ⟨by rfl,?_⟩) ?_ ?_
     rotate_left
     ·intro w'
      go_simp
      with_reducible rfl
     rotate_left
     ·simp only [ps_]
      rfl
     refine pure_ (i := 1) (N := some 73) (v := ?_) (a' := ?_) #[t_,t_,f_,f_,f_,f_,f_,f_] rfl rfl (by kernel_rfl) (fun _ _ _ h => h) (Or.inl ⟨by rfl,?_⟩) ?_ ?_
     rotate_left
     ·intro w'
      go_simp
      with_reducible rfl
     rotate_left
     ·simp only [ps_]
      rfl
     refine pure_ (i := 3) (N := some 75) (v := ?_) (a' := ?_) #[t_,t_,f_,t_,f_,f_,f_,f_] rfl rfl (by kernel_rfl) (fun _ _ _ h => h) (Or.inl ⟨by rfl,?_⟩) ?_ ?_
     rotate_left
     ·intro w'
      go_simp
      with_reducible rfl
     rotate_left
     ·simp only [ps_]
      rfl
     refine pure_ (i := 4) (N := some 76) (v := ?_) (a' := ?_) #[t_,t_,f_,t_,t_,f_,f_,f_] rfl rfl (by kernel_rfl) (fun _ _ _ h => h) (Or.inl ⟨by rfl,?_⟩) ?_ ?_
     rotate_left
     ·intro w'
      go_simp
      with_reducible rfl
     rotate_left
     ·simp only [ps_]
      rfl
     refine pure_ (i := 5) (N := some 77) (v := ?_) (a' := ?_) #[t_,t_,f_,t_,t_,t_,f_,f_] rfl rfl (by kernel_rfl) (fun _ _ _ h => h) (Or.inl ⟨by rfl,?_⟩) ?_ ?_
     rotate_left
     ·intro w'
      go_simp
      with_reducible rfl
     rotate_left
     ·simp only [ps_]
      rfl
     refine take_run (i := 2) (N := some 74) (a' := ?_) #[t_,t_,t_,t_,t_,t_,f_,f_] rfl rfl (by kernel_rfl) (fun _ _ _ _ h => h) (by rfl) hHeld (.int .i64 (at0 : Int)) (fun X HX => r_load1 HX 3 _ rfl g21 0 rfl (by repeat (first|exact In.head|apply In.tail)) _ Tryd.underlying3 rfl _ rfl) ?_ ?_
     rotate_left
     ·simp only [ps_]
      rfl
     refine take_run (i := 6) (N := some 78) (a' := ?_) #[t_,t_,t_,t_,t_,t_,t_,f_] rfl rfl (by kernel_rfl) (fun _ _ _ _ h => h) (by rfl) hHeld (.agg #[.int .i64 pk,.int .u32 ep,.slice A2 wn c9]) (fun X HX => r_loadRd0 76 _ rfl rfl (HX.use hRd) 3 _ Tryd.underlying76 rfl size76 (by decide) rfl) ?_ ?_
     rotate_left
     ·simp only [ps_]
      rfl
     refine last_ (i := 7) (N := some 79) #[t_,t_,t_,t_,t_,t_,t_,t_] rfl rfl (by kernel_rfl) (by decide) (fun K hK => ?_)
     refine callV_ (args := #[.int .i64 (at0 : Int),.agg #[.int .i64 pk,.int .u32 ep,.slice A2 wn c9]]) (HB _ _ H) Tryd.func41 (by kernel_rfl) rfl (by rfl) rfl rfl rfl (by (try simp only [List.map_toArray,List.map_cons,List.map_nil]);first|done|rfl) (by simp) ?_
     clear H HB
     rintro e W ⟨rfl,Ar3,cr3,H⟩
     refine ⟨_,rfl,?_⟩
     refine hK.out _ _ ?_
     clear hK K
     refine norm_ (a' := ?_) ?_ ?_
     rotate_left
     ·show Act.put _ (some 79) _ = _
      simp only [ps_]
      rfl
     refine done_ (by kernel_rfl) ?_
     clear hHeld
     go_wp2_with fail
     go_roundg gj'
     case measure => have := hj'.out;omega
     case rel => exact ⟨j + 1,Ar3,cr3,outs3,by go_num,by have := hj'.out;omega,hO3.symm,H.del (r := .blk g21 _ _) (by repeat (first|exact Del.head|apply Del.tail))⟩
    ·obtain rfl : j = np := by omega
     have q1 : decide (j < j) = false := decide_eq_false (by omega)
     rw [← hpn,List.take_length,← hbk1] at hout2
     go_wp2_with fail
     go_roundg gk'
     case measure => omega
     case rel => exact ⟨k + 1,Ar,cr,outs2,by go_num,by omega,hout2,(H.slack hF2).slack hF⟩
  ·obtain rfl : k = n := by omega
   have q0 : decide (k < k) = false := decide_eq_false (by omega)
   subst hout
   go_wp2_with (first
  |((with_reducible refine gate_dst (N := 82) rfl ?_);refine l_load1 rfl H 26 _ rfl _ _ rfl (by (repeat (first|exact In.head|apply In.tail))) _ Tryd.underlying26 rfl _ (by first|rfl|assumption|exact nums_at _ (by omega)) ?_))
   go_ret
   replace H := H.del (r := .blk g3 _ _) (by repeat (first|exact Del.head|apply Del.tail))
   replace H := H.del (r := .blk g9 _ _) (by repeat (first|exact Del.head|apply Del.tail))
   replace H := H.del (r := .blk g10 _ _) (by repeat (first|exact Del.head|apply Del.tail))
   replace H := H.del (r := .blk g11 _ _) (by repeat (first|exact Del.head|apply Del.tail))
   replace H := H.del (r := .row (.slice A5 832 c5) _ _ _ _) (by repeat (first|exact Del.head|apply Del.tail))
   replace H := H.del (r := .row (.slice A6 16 c6) _ _ _ _) (by repeat (first|exact Del.head|apply Del.tail))
   replace H := H.del (r := .row (.slice A7 _ c7) _ _ _ _) (by repeat (first|exact Del.head|apply Del.tail))
   exact ⟨Ar,cr,rfl,H⟩
end Go.Proofs.YtaekpfhgdnfciaaDoor.O
end

section
/- tear.Free. -/
set_option linter.unusedVariables false
set_option linter.unusedSimpArgs false
namespace Go.Proofs.YtaekpfhgdnfciaaDoor.O
open Go.RowKit Go.Proofs.YtaekpfhgdnfciaaDoorW.PrintWords Go.Proofs.YtaekpfhgdnfciaaDoorW.PrintLast Go.Proofs.YtaekpfhgdnfciaaDoorW.PrintMore Go.Proofs.YtaekpfhgdnfciaaDoor.F Go.Proofs.YtaekpfhgdnfciaaDoor.F.Nums Go.Proofs.YtaekpfhgdnfciaaDoor.Plain Go.Proofs.YtaekpfhgdnfciaaDoor.Img
set_option maxRecDepth 100000 in
set_option maxHeartbeats 8000000 in
theorem free_calls (e64 : Int) (l : List (List Int)) (A A2 : Option Addr) (c n2 c2 : Nat) (fl : List Int) (w : World) (he : 0 ≤ e64 ∧ e64 ≤ 18446744073709551615) (hl : ∀ x ∈ l,Bytes x) (hll : ∀ x ∈ l,x.length < 140737488355328) (hn : l.length ≤ 100)
  (hC : (Kd.slice 5 (Kd.int .u8)).C w A l.length l) (hf : fl.length = 64 * n2) (hb : Bytes fl) (hr : Rd w A2 (nums .u8 fl)) (hc2 : n2 ≤ c2) (hn2 : n2 ≤ 100) (hH : Half w) :
  Calls Tryd.prog 21 #[.int .u64 e64,.slice A l.length c,.slice A2 n2 c2] w fun e W => e = .returned (.bool (layAll 0 l && (badL e64 l (bodyF e64 fl n2 16) (oksF e64 fl n2 16) l.length).isEmpty)) ∧ Below w.heap.size w W := by
 have H := Own.start w
 cases hok : layAll 0 l with
 |false =>
  have PC : ∀ W,(Kd.slice 5 (Kd.int .u8)).C W A l.length l → Half W → Calls Tryd.prog 39 #[.slice A l.length c] W fun e W' => e = .returned (.tuple #[.slice none 0 0,.bool false]) ∧ Below W.heap.size W W' := fun W h1 h2 => (places_calls l A c W hl hll (by omega) h1 h2).mono (by
   rintro e W' (⟨h,-⟩|⟨-,rfl,h⟩)
   ·rw [hok] at h;cases h
   ·exact ⟨rfl,h⟩)
  rw [Bool.false_and]
  generalize l.length = n at *
  go_enter Tryd.func21,Tryd.ntmps21
  go_wp2_with (first
   |(go_at_call 39;(with_reducible refine (PC _ (Kd.C_below hC H.below) (hH.below H.below)).mono ?_);rintro e W ⟨rfl,hb⟩;replace H := H.to hb;clear hb))
  go_ret
  exact ⟨rfl,H.below⟩
 |true =>
  have PC : ∀ W,(Kd.slice 5 (Kd.int .u8)).C W A l.length l → Half W → Calls Tryd.prog 39 #[.slice A l.length c] W fun e W' => ∃ v,e = .returned (.tuple #[v,.bool true]) ∧ Own W F0 [.row v 3 1 l.length (nums .i64 (layPl 0 l l.length))] W' := fun W h1 h2 => (places_calls l A c W hl hll (by omega) h1 h2).mono (by
   rintro e W' (⟨-,h⟩|⟨h,-⟩)
   ·exact h
   ·rw [hok] at h;cases h)
  have CC := fun W h1 h2 h3 => clashes_yes e64 l A A2 c n2 c2 fl W he hok hl hll hn h1 hf hb h2 hc2 hn2 h3
  have hq : ((((badL e64 l (bodyF e64 fl n2 16) (oksF e64 fl n2 16) l.length).length : Nat) : Int) == 0) = (badL e64 l (bodyF e64 fl n2 16) (oksF e64 fl n2 16) l.length).isEmpty := by
   cases badL e64 l (bodyF e64 fl n2 16) (oksF e64 fl n2 16) l.length with
   |nil => rfl
   |cons a b => simp;omega
  rw [Bool.true_and,← hq]
  clear hq
  generalize badL e64 l (bodyF e64 fl n2 16) (oksF e64 fl n2 16) l.length = outs at *
  generalize outs.length = m at *
  generalize l.length = n at *
  generalize layPl 0 l n = pl at *
  go_enter Tryd.func21,Tryd.ntmps21
  go_wp2_with (first
   |(go_at_call 39;(with_reducible refine (PC _ (Kd.C_below hC H.below) (hH.below H.below)).mono ?_);rintro e W ⟨v7,rfl,HO⟩;replace H := H.addOwn HO;clear HO;dsimp only [List.cons_append,List.nil_append] at H;obtain ⟨A7,c7,rfl⟩ := H.row_slice .head)
   |(go_at_call 23;(with_reducible refine (CC _ (Kd.C_below hC H.below) (hr.below H.below) (hH.below H.below)).mono ?_);rintro e W ⟨Ar,cr,rfl,HO⟩;replace H := H.addOwn HO;clear HO))
  go_ret
  exact ⟨rfl,H.below⟩
end Go.Proofs.YtaekpfhgdnfciaaDoor.O
end

section
/- strandlinelaw19's awake, by what is owned. -/
set_option linter.unusedVariables false
set_option linter.unusedSimpArgs false
namespace Go.Proofs.YtaekpfhgdnfciaaDoor.O
open Go.RowKit Go.Proofs.YtaekpfhgdnfciaaDoorW.PrintWords Go.Proofs.YtaekpfhgdnfciaaDoorW.PrintLast Go.Proofs.YtaekpfhgdnfciaaDoorW.PrintMore Go.Proofs.YtaekpfhgdnfciaaDoor.F Go.Proofs.YtaekpfhgdnfciaaDoor.F.Nums Go.Proofs.YtaekpfhgdnfciaaDoor.Plain
theorem C_rows {w : World} {ad : Addr} (xs : List (List Int)) (hm : xs.length ≤ 9223372036854775807) (h : ∀ j,j < xs.length → ∃ A c,w.cell? (ad.add j) = some (.slice A (xs.getD j []).length c) ∧ (xs.getD j []).length ≤ c ∧ (Kd.int .u8).C w A (xs.getD j []).length (xs.getD j [])) :
  (Kd.slice 5 (Kd.int .u8)).C w (some ad) xs.length xs := by
 refine ⟨rfl,hm,fun _ => ⟨ad,rfl,fun j p hj => ?_⟩⟩
 have hlt := (List.getElem?_eq_some_iff.1 hj).1
 obtain ⟨A,c,h1,h2,h3⟩ := h j hlt
 have hp : xs.getD j [] = p := by rw [List.getD_eq_getElem?_getD,hj];rfl
 rw [hp] at h1 h2 h3
 refine ⟨[.slice A p.length c],rfl,⟨A,c,rfl,h2,h3⟩,fun i u hu => ?_⟩
 have hi : i = 0 := by have := (List.getElem?_eq_some_iff.1 hu).1;simpa using this
 subst hi
 simp at hu
 subst hu
 show w.cell? (ad.add (j * 1 + 0)) = _
 rw [Nat.mul_one,Nat.add_zero]
 exact h1
theorem C_cells19 {w : World} {g : Nat} {k : IntKind} {l : List Int} {t : TypeId} {fr : Nat × Nat} (h : w.heap[g]? = some (.cells (l.map (Value.int k)).toArray t fr)) (hl : l.length ≤ 9223372036854775807) : (Kd.int k).C w (some ⟨g,0,none⟩) l.length l := by
 refine ⟨rfl,hl,fun _ => ⟨_,rfl,fun j p hj => ⟨[.int k p],rfl,rfl,fun i u hu => ?_⟩⟩⟩
 have hi0 : i = 0 := by have := (List.getElem?_eq_some_iff.1 hu).1;simpa using this
 subst hi0
 have e1 := cell_of_row w g j _ _ _ h
 simp at hu
 subst hu
 have e2 : (Addr.add ⟨g,0,none⟩ (j * (Kd.int k).sz + 0)) = ⟨g,j,none⟩ := by
  rw [show (Kd.int k).sz = 1 from rfl]
  unfold Addr.add
  by_cases hj0 : j = 0
  ·subst hj0;rfl
  ·simp [hj0]
 rw [e2,e1]
 simp [hj]
end Go.Proofs.YtaekpfhgdnfciaaDoor.O
end

section
/- strandlinelaw20's awake, by what is owned. -/
set_option linter.unusedVariables false
set_option linter.unusedSimpArgs false
namespace Go.Proofs.YtaekpfhgdnfciaaDoor.O
open Go.RowKit Go.Proofs.YtaekpfhgdnfciaaDoorW.PrintWords Go.Proofs.YtaekpfhgdnfciaaDoorW.PrintLast Go.Proofs.YtaekpfhgdnfciaaDoorW.PrintMore Go.Proofs.YtaekpfhgdnfciaaDoor.F Go.Proofs.YtaekpfhgdnfciaaDoor.F.Nums Go.Proofs.YtaekpfhgdnfciaaDoor.Plain
set_option maxRecDepth 100000 in
theorem bad_s : badL 3 [[97]] (bodyF 3 (flatW 3 (Img.laySt 3 [[97]] 1).1 1 16) 16 16) (oksF 3 (flatW 3 (Img.laySt 3 [[97]] 1).1 1 16) 16 16) 1 = [] := by decide +kernel
set_option maxRecDepth 100000 in
theorem bad_t : badL 3 [[97]] (bodyF 3 (flatW 3 (Img.laySt 3 [[98]] 1).1 1 16) 16 16) (oksF 3 (flatW 3 (Img.laySt 3 [[98]] 1).1 1 16) 16 16) 1 = [0] := by decide +kernel
theorem lay_a : Img.layAll 3 [[97]] = true ∧ Img.layAll 3 [[98]] = true ∧ Img.layAll 0 [[97]] = true ∧ (Img.laySt 3 [[97]] 1).2 = 12 ∧ (Img.laySt 3 [[98]] 1).2 = 12 := by refine ⟨?_,?_,?_,?_,?_⟩ <;> decide +kernel
theorem C_one {w : World} {g g' : Nat} {x : Int} {t : TypeId} {fr fr' : Nat × Nat} (h : w.heap[g]? = some (.cells #[.int .u8 x] t fr)) {t' : TypeId} (h' : w.heap[g']? = some (.cells #[.slice (some ⟨g,0,none⟩) 1 1] t' fr')) : (Kd.slice 5 (Kd.int .u8)).C w (some ⟨g',0,none⟩) 1 [[x]] := by
 refine C_rows [[x]] (by simp) (fun j hj => ?_)
 obtain rfl : j = 0 := by simp at hj;omega
 refine ⟨some ⟨g,0,none⟩,1,?_,Nat.le_refl _,C_cells19 (l := [x]) h (by simp)⟩
 rw [addr_add]
 have := cell_of_row w g' 0 _ _ _ h'
 simpa using this
set_option maxRecDepth 100000 in
set_option maxHeartbeats 4000000 in
theorem awake20_calls (w : World) (hH : Half w) : Calls Tryd.prog 19 #[] w fun e W => e = .returned (.bool true) ∧ Below w.heap.size w W := by
 have hB : ∀ y : Int,y = 97 ∨ y = 98 → ∀ x ∈ ([[y]] : List (List Int)),Bytes x := fun y hy x hx => by
  simp at hx
  subst hx
  intro c hc
  simp at hc
  omega
 have hL : ∀ y : Int,∀ x ∈ ([[y]] : List (List Int)),x.length < 140737488355328 := fun y x hx => by
  simp at hx
  subst hx
  simp
 have ht1 : tch (cl 0) (cl (Img.laySt 3 [[97]] 1).2) = (((0 : Nat) : Int),((1 : Nat) : Int)) := by rw [lay_a.2.2.2.1];decide +kernel
 have ht2 : tch (cl 0) (cl (Img.laySt 3 [[98]] 1).2) = (((0 : Nat) : Int),((1 : Nat) : Int)) := by rw [lay_a.2.2.2.2];decide +kernel
 have SC1 := fun A c W h (hc : 1 ≤ c) => rsectors_yes 3 [[97]] A c W 1 lay_a.1 ht1 (by decide) (by decide) (hB 97 (.inl rfl)) (fun x hx => Nat.le_of_lt (hL 97 x hx)) (by decide) h hc
 have SC2 := fun A c W h (hc : 1 ≤ c) => rsectors_yes 3 [[98]] A c W 1 lay_a.2.1 ht2 (by decide) (by decide) (hB 98 (.inr rfl)) (fun x hx => Nat.le_of_lt (hL 98 x hx)) (by decide) h hc
 have FR1 := fun A c A2 c2 W h1 h2 h3 h4 => free_calls 3 [[97]] A A2 c 16 c2 (flatW 3 (Img.laySt 3 [[97]] 1).1 1 16) W (by decide) (hB 97 (.inl rfl)) (hL 97) (by decide) h1 (flatW_len _ _ _ _) (flatW_bytes (Img.laySt_bytes 3 _ (hB 97 (.inl rfl)) _) _ _ _) h2 h3 (by decide) h4
 have FR2 := fun A c A2 c2 W h1 h2 h3 h4 => free_calls 3 [[97]] A A2 c 16 c2 (flatW 3 (Img.laySt 3 [[98]] 1).1 1 16) W (by decide) (hB 97 (.inl rfl)) (hL 97) (by decide) h1 (flatW_len _ _ _ _) (flatW_bytes (Img.laySt_bytes 3 _ (hB 98 (.inr rfl)) _) _ _ _) h2 h3 (by decide) h4
 simp only [List.length_cons,List.length_nil,Nat.zero_add,Nat.reduceAdd,bad_s,bad_t,lay_a.2.2.1,List.isEmpty_nil,List.isEmpty_cons,Bool.and_true,Bool.and_false] at SC1 SC2 FR1 FR2
 clear ht1 ht2
 generalize flatW 3 (Img.laySt 3 [[97]] 1).1 1 16 = f1 at *
 generalize flatW 3 (Img.laySt 3 [[98]] 1).1 1 16 = f2 at *
 have kc := fun (w : World) (C : Array Value) (n c : Nat) => Lib.run_convert_bytes_const (P := Tryd.prog) w 38 5 C n c Tryd.underlying38 Tryd.underlying5
 go_enter Tryd.func19,Tryd.ntmps19
 go_wp2_with fail
 obtain ⟨W1,hW1⟩ : ∃ W1,(w.alloc (.cells #[.int .u8 97] 5 (1,2))) = W1 := ⟨_,rfl⟩
 have a1 := blk_new w (.cells #[.int .u8 97] 5 (1,2))
 have z1 : W1.heap.size = w.heap.size + 1 := by rw [← hW1];simp
 have B1 : Below w.heap.size w W1 := by rw [← hW1];exact below_alloc (Below.refl _ _) _
 rw [hW1] at a1 ⊢
 clear hW1
 obtain ⟨o2,ho2⟩ : ∃ o2,(Obj.cells #[.slice (some ⟨w.heap.size,0,none⟩) 1 1] 38) = o2 := ⟨_,rfl⟩
 rw [ho2]
 have a2 := blk_new W1 o2
 replace a1 := blk_alloc a1 o2
 have B2 : Below w.heap.size w (W1.alloc o2) := below_alloc B1 _
 rw [z1] at a2
 generalize W1.alloc o2 = W2 at a1 a2 B2 ⊢
 rw [← ho2] at a2
 clear ho2 B1 z1
 have CL := C_one a1 a2
 have H := Own.start W2
 have hH2 := hH.below B2
 clear a1 a2
 refine (SC1 _ _ _ CL (by decide)).mono ?_
 rintro e W ⟨v1,rfl,ho,hb'⟩
 replace H := H.addRow hb' ho
 clear ho hb'
 obtain ⟨A1,c1,rfl⟩ := H.row_slice .head
 go_wp2_with fail
 obtain ⟨W3,hW3⟩ : ∃ W3,(W.alloc (.cells #[.int .u8 98] 5 (1,2))) = W3 := ⟨_,rfl⟩
 have a1 := blk_new W (.cells #[.int .u8 98] 5 (1,2))
 have z1 : W3.heap.size = W.heap.size + 1 := by rw [← hW3];simp
 have B3 : Below W.heap.size W W3 := by rw [← hW3];exact below_alloc (Below.refl _ _) _
 rw [hW3] at a1 ⊢
 clear hW3
 obtain ⟨o2,ho2⟩ : ∃ o2,(Obj.cells #[.slice (some ⟨W.heap.size,0,none⟩) 1 1] 38) = o2 := ⟨_,rfl⟩
 rw [ho2]
 have a2 := blk_new W3 o2
 replace a1 := blk_alloc a1 o2
 have B4 : Below W.heap.size W (W3.alloc o2) := below_alloc B3 _
 rw [z1] at a2
 generalize W3.alloc o2 = W4 at a1 a2 B4 ⊢
 rw [← ho2] at a2
 clear ho2 B3 z1
 have CL2 := C_one a1 a2
 replace H := H.to B4
 clear a1 a2 B4
 refine (SC2 _ _ _ CL2 (by decide)).mono ?_
 rintro e W5 ⟨v1,rfl,ho,hb'⟩
 replace H := H.addRow hb' ho
 clear ho hb' CL2
 obtain ⟨A4,c4,rfl⟩ := H.row_slice .head
 go_wp2_with (first
  |(go_at_call 21;(with_reducible refine (FR1 _ _ A1 c1 _ (Kd.C_below CL H.below) (H.rd (A := A1) (by repeat (first|exact In.head|apply In.tail))).1 (H.rd (A := A1) (by repeat (first|exact In.head|apply In.tail))).2.1 (hH2.below H.below)).mono ?_);rintro e W ⟨rfl,hb⟩;replace H := H.to hb;clear hb)
  |(go_at_call 21;(with_reducible refine (FR2 _ _ A4 c4 _ (Kd.C_below CL H.below) (H.rd (A := A4) (by repeat (first|exact In.head|apply In.tail))).1 (H.rd (A := A4) (by repeat (first|exact In.head|apply In.tail))).2.1 (hH2.below H.below)).mono ?_);rintro e W ⟨rfl,hb⟩;replace H := H.to hb;clear hb))
 go_ret
 exact ⟨rfl,B2.trans (H.below.mono (by have := B2.size;omega))⟩
end Go.Proofs.YtaekpfhgdnfciaaDoor.O
end

section
/- ref19.Accepts: the fragment told at a place. -/
set_option linter.unusedVariables false
set_option linter.unusedSimpArgs false
namespace Go.Proofs.YtaekpfhgdnfciaaDoor.O
open Go.RowKit Go.Proofs.YtaekpfhgdnfciaaDoorW.PrintWords Go.Proofs.YtaekpfhgdnfciaaDoorW.PrintLast Go.Proofs.YtaekpfhgdnfciaaDoorW.PrintMore Go.Proofs.YtaekpfhgdnfciaaDoor.F Go.Proofs.YtaekpfhgdnfciaaDoor.F.Nums Go.Proofs.YtaekpfhgdnfciaaDoor.Plain
attribute [local go_sem] Oper.semAt_some
theorem rleft_c (a : Int) (w : World) : Calls Tryd.prog 57 #[.int .i64 a] w fun e W => e = .returned (.int .i64 (lf (cl a))) ∧ Below w.heap.size w W := (strandlineref07_Left.calls 833 a _ w (SpanP.rleft_eq 833 (by decide) a)).mono fun e w' ⟨h1,h2⟩ => ⟨h1,by first|exact h2|exact h2.below⟩
theorem rcov_own (ok : List Bool) (hok : ok.length = 16) (f t : Int) (A : Option Addr) (c : Nat) (hc : 16 ≤ c) (w : World) (hr : Rd w A (bools ok)) :
  Calls Tryd.prog 55 #[.slice A 16 c,.int .i64 f,.int .i64 t] w fun e W => e = .returned (.bool (cov ok f t)) ∧ Below w.heap.size w W := by
 obtain ⟨a,b,h,hab,hb⟩ := touch_nat f t
 have := rcov_c ok f t a b h hab hb A c w hr (by omega) (by omega)
 unfold cov
 rw [h]
 simp only [Int.toNat_natCast]
 rwa [hok] at this
set_option maxRecDepth 100000 in
set_option maxHeartbeats 16000000 in
theorem raccepts_calls (e64 : Int) (he : 0 ≤ e64 ∧ e64 ≤ 18446744073709551615) (F : List Int) (ok : List Bool) (hF : F.length = 832) (hFb : Bytes F) (hok : ok.length = 16) (p : Nat) (hp : p + 11 ≤ 832 ∨ p = 832) (Ab Ao : Option Addr) (cb co : Nat) (hcb : 832 ≤ cb) (hco : 16 ≤ co) (w : World) (hRb : Rd w Ab (nums .u8 F)) (hRo : Rd w Ao (bools ok)) :
  Calls Tryd.prog 30 #[.int .u64 e64,.slice Ab 832 cb,.slice Ao 16 co,.int .i64 (p : Int)] w fun en W => Below w.heap.size w W ∧
   ((told (e64 % 4294967296) F ok p = none ∧ en = .returned (.tuple #[.agg #[.int .i64 0,.int .u32 0,.slice none 0 0],.int .i64 0])) ∨
    (∃ k d A' c',told (e64 % 4294967296) F ok p = some (k,d,11 + d.length) ∧ d.length ≤ 197 ∧ en = .returned (.tuple #[.agg #[.int .i64 k,.int .u32 (e64 % 4294967296),.slice A' d.length c'],.int .i64 ((11 + d.length : Nat) : Int)]) ∧ W.ownsRow w.heap.size 5 1 (.slice A' d.length c') d.length (nums .u8 d))) := by
 have H := Own.start w
 have C1 := fun W h => rcov_own ok hok (p : Int) ((p : Int) + 11) Ao co hco W h
 have w1 : IntKind.i64.wrap ((p : Int) + 11) = (p : Int) + 11 := by rw [IntKind.wrap_i64];omega
 have w2 : IntKind.u32.wrap (e64 % 4294967296) = e64 % 4294967296 := by rw [IntKind.wrap_u32];omega
 have hee : 0 ≤ e64 % 4294967296 ∧ e64 % 4294967296 ≤ 4294967295 := by omega
 have htm : e64.tmod 4294967296 = e64 % 4294967296 := Int.tmod_eq_emod_of_nonneg he.1
 obtain ⟨ep,hep⟩ : ∃ x,e64 % 4294967296 = x := ⟨_,rfl⟩
 rw [hep] at w2 hee htm ⊢
 by_cases h832 : p = 832
 ·have hn : told ep F ok p = none := by unfold told;rw [if_pos h832]
  subst h832
  clear w2 hee htm hep
  go_enter Tryd.func30,Tryd.ntmps30
  go_wp2_with (first
  |((with_reducible refine gate_dst (N := 8) rfl ?_);refine l_allocA rfl H 76 rfl _ zero76 ?_;clear H;intro g8 W H)
  |((with_reducible refine gate_store (t := 76) (p := 8) rfl ?_);refine l_storeW rfl H 76 _ _ rfl _ rfl _ rfl (by (repeat (first|exact In.head|apply In.tail))) _ size76 (by (first|rfl|assumption|omega|(simp only [nums_length];omega)|(simp [nums_length,zs];done)|(simp [nums_length,zs];omega))) (by (first|rfl|assumption|omega|(simp only [nums_length];omega)|(simp [nums_length,zs];done)|(simp [nums_length,zs];omega))) (by (first|exact nums_one|assumption|(intro u hu;simp at hu;subst hu;rfl)|(intro u hu;simp at hu;rcases hu with rfl|rfl|rfl|rfl|rfl|rfl|rfl <;> rfl)|(intro u hu;simp at hu;rcases hu with rfl|rfl|rfl|rfl <;> rfl)|(intro u hu;simp at hu;rcases hu with rfl|rfl|rfl <;> rfl)|(intro u hu;simp at hu;rcases hu with rfl|rfl <;> rfl))) ?_;clear H;intro W H))
  refine bodyPost_ret (results_ct (p := 8) (ty := 76) rfl _ _ g8 76 _ (0,0) _ rfl (H.heap .head) Tryd.underlying76 rfl size76) rfl ?_
  first|exact ⟨H.below,.inl ⟨hn,rfl⟩⟩|exact ⟨H.below,rfl⟩
 have hplt : p < 832 := by omega
 have q1 : decide ((p : Int) + 11 > 832) = false := decide_eq_false (by omega)
 have q1' : decide ((832 : Int) < (p : Int) + 11) = false := decide_eq_false (by omega)
 cases hc1 : cov ok (p : Int) ((p : Int) + 11) with
 |false =>
  have hn : told ep F ok p = none := by unfold told;rw [if_neg h832,if_pos hc1]
  rw [hc1] at C1
  clear w2 hee htm hep
  go_enter Tryd.func30,Tryd.ntmps30
  go_wp2_with (first
  |((with_reducible refine gate_dst (N := 8) rfl ?_);refine l_allocA rfl H 76 rfl _ zero76 ?_;clear H;intro g8 W H)
  |((with_reducible refine gate_store (t := 76) (p := 8) rfl ?_);refine l_storeW rfl H 76 _ _ rfl _ rfl _ rfl (by (repeat (first|exact In.head|apply In.tail))) _ size76 (by (first|rfl|assumption|omega|(simp only [nums_length];omega)|(simp [nums_length,zs];done)|(simp [nums_length,zs];omega))) (by (first|rfl|assumption|omega|(simp only [nums_length];omega)|(simp [nums_length,zs];done)|(simp [nums_length,zs];omega))) (by (first|exact nums_one|assumption|(intro u hu;simp at hu;subst hu;rfl)|(intro u hu;simp at hu;rcases hu with rfl|rfl|rfl|rfl|rfl|rfl|rfl <;> rfl)|(intro u hu;simp at hu;rcases hu with rfl|rfl|rfl|rfl <;> rfl)|(intro u hu;simp at hu;rcases hu with rfl|rfl|rfl <;> rfl)|(intro u hu;simp at hu;rcases hu with rfl|rfl <;> rfl))) ?_;clear H;intro W H)
  |(go_at_call 55;(with_reducible refine (C1 _ (hRo.below H.below)).mono ?_);rintro e W ⟨rfl,hb⟩;replace H := H.to hb;clear hb))
  refine bodyPost_ret (results_ct (p := 8) (ty := 76) rfl _ _ g8 76 _ (0,0) _ rfl (H.heap .head) Tryd.underlying76 rfl size76) rfl ?_
  first|exact ⟨H.below,.inl ⟨hn,rfl⟩⟩|exact ⟨H.below,rfl⟩
 |true =>
  rw [hc1] at C1
  have LC := fun W => rleft_c (p : Int) W
  have hlf : lf (p : Int) = 208 - (p : Int) % 208 := by unfold lf;rw [if_neg (by omega)]
  rw [cl_in (a := (p : Int)) (by omega) (by omega)] at LC
  obtain ⟨lfn,hlfn⟩ : ∃ m,(lf (p : Int)).toNat = m := ⟨_,rfl⟩
  obtain ⟨hi,hhi⟩ : ∃ m,p + lfn = m := ⟨_,rfl⟩
  have hlc : lf (p : Int) = (lfn : Int) := by omega
  rw [hlc] at LC
  have hhl : hi - p = lfn := by omega
  have hh8 : p + lfn ≤ 832 := by omega
  have hph : p ≤ hi := by omega
  have hhc : hi ≤ cb := by omega
  have w3 : IntKind.i64.wrap ((p : Int) + (lfn : Int)) = (hi : Int) := by rw [IntKind.wrap_i64];omega
  have hfl : (frAt F p).length = lfn := by unfold frAt;rw [hlfn,List.length_take,List.length_drop];omega
  have hfb : Bytes (frAt F p) := bytes_take (bytes_drop hFb _) _
  have DC0 := fun W (hr : Rd W Ab (nums .u8 F)) => rdecode_calls (frAt F p) ep (dropA Ab p cb 1) (cb - p) W (by rw [hfl];exact fr_C hr hF hcb hplt hlfn hh8) (by rw [hfl];omega) hfb
  rw [hfl] at DC0
  have htold : told ep F ok p = if decE (frAt F p) ep ≠ 0 then none else if cov ok p (p + (11 + (nOf (frAt F p) : Int))) = false then none else some (kOf (frAt F p),decD (frAt F p),11 + nOf (frAt F p)) := by unfold told;rw [if_neg h832,if_neg (by rw [hc1];decide)]
  by_cases hdE : decE (frAt F p) ep ≠ 0
  ·have DC : ∀ W,Rd W Ab (nums .u8 F) → Calls Tryd.prog 56 #[.slice (dropA Ab p cb 1) lfn (cb - p),.int .u32 ep] W fun e W' => e = .returned (.tuple #[.agg #[.int .i64 0,.int .u32 0,.slice none 0 0],.int .i64 0,.int .i64 (decE (frAt F p) ep)]) ∧ Below W.heap.size W W' := fun W hr => (DC0 W hr).mono (by
    rintro e W' ⟨hb,⟨-,rfl⟩|⟨h0,-⟩⟩
    ·exact ⟨rfl,hb⟩
    ·exact absurd h0 hdE)
   rw [if_pos hdE] at htold
   have q2 : (decE (frAt F p) ep == 0) = false := by simpa using hdE
   have q3 : (decE (frAt F p) ep != 0) = true := by simpa using hdE
   clear DC0 hfl hfb hdE hlf hlfn hhi hlc
   generalize decE (frAt F p) ep = dE at *
   go_enter Tryd.func30,Tryd.ntmps30
   go_wp2_with (first
  |((with_reducible refine gate_dst (N := 8) rfl ?_);refine l_allocA rfl H 76 rfl _ zero76 ?_;clear H;intro g8 W H)
  |((with_reducible refine gate_dst (N := 10) rfl ?_);refine l_allocA rfl H 76 rfl _ zero76 ?_;clear H;intro g10 W H)
  |((with_reducible refine gate_store (t := 76) (p := 10) rfl ?_);refine l_storeW rfl H 76 _ _ rfl _ rfl _ rfl (by (repeat (first|exact In.head|apply In.tail))) _ size76 (by (first|rfl|assumption|omega|(simp only [nums_length];omega)|(simp [nums_length,zs];done)|(simp [nums_length,zs];omega))) (by (first|rfl|assumption|omega|(simp only [nums_length];omega)|(simp [nums_length,zs];done)|(simp [nums_length,zs];omega))) (by (first|exact nums_one|assumption|(intro u hu;simp at hu;subst hu;rfl)|(intro u hu;simp at hu;rcases hu with rfl|rfl|rfl|rfl|rfl|rfl|rfl <;> rfl)|(intro u hu;simp at hu;rcases hu with rfl|rfl|rfl|rfl <;> rfl)|(intro u hu;simp at hu;rcases hu with rfl|rfl|rfl <;> rfl)|(intro u hu;simp at hu;rcases hu with rfl|rfl <;> rfl))) ?_;clear H;intro W H)
  |((with_reducible refine gate_store (t := 76) (p := 8) rfl ?_);refine l_storeW rfl H 76 _ _ rfl _ rfl _ rfl (by (repeat (first|exact In.head|apply In.tail))) _ size76 (by (first|rfl|assumption|omega|(simp only [nums_length];omega)|(simp [nums_length,zs];done)|(simp [nums_length,zs];omega))) (by (first|rfl|assumption|omega|(simp only [nums_length];omega)|(simp [nums_length,zs];done)|(simp [nums_length,zs];omega))) (by (first|exact nums_one|assumption|(intro u hu;simp at hu;subst hu;rfl)|(intro u hu;simp at hu;rcases hu with rfl|rfl|rfl|rfl|rfl|rfl|rfl <;> rfl)|(intro u hu;simp at hu;rcases hu with rfl|rfl|rfl|rfl <;> rfl)|(intro u hu;simp at hu;rcases hu with rfl|rfl|rfl <;> rfl)|(intro u hu;simp at hu;rcases hu with rfl|rfl <;> rfl))) ?_;clear H;intro W H)
   |(go_at_call 55;(with_reducible refine (C1 _ (hRo.below H.below)).mono ?_);rintro e W ⟨rfl,hb⟩;replace H := H.to hb;clear hb)
   |(go_at_call 57;(with_reducible refine (LC _).mono ?_);rintro e W ⟨rfl,hb⟩;replace H := H.to hb;clear hb)
   |((with_reducible refine gate_dst (N := 32) rfl ?_);refine l_run rfl (.slice (dropA Ab p cb 1) lfn (cb - p)) (by rw [← hhl];exact x_slice_lohi _ _ _ rfl rfl Tryd.underlying38 size5 p hi rfl rfl hph hhc _) ?_)
   |(go_at_call 56;(with_reducible refine (DC _ (hRb.below H.below)).mono ?_);rintro e W ⟨rfl,hb⟩;replace H := H.to hb;clear hb))
   replace H := Own.front (r := .blk g8 _ _) H (by repeat (first|exact Del.head|apply Del.tail))
   refine bodyPost_ret (results_ct (p := 8) (ty := 76) rfl _ _ g8 76 _ (0,0) _ rfl (H.heap .head) Tryd.underlying76 rfl size76) rfl ?_
   exact ⟨H.below,.inl ⟨htold,rfl⟩⟩
  ·have hdE0 : decE (frAt F p) ep = 0 := Decidable.of_not_not hdE
   have hdo := dec_ok hdE0
   rw [hfl] at hdo
   have hdl : (decD (frAt F p)).length = nOf (frAt F p) := by unfold decD;rw [List.length_drop,List.length_take];omega
   obtain ⟨m,hm⟩ : ∃ m,11 + nOf (frAt F p) = m := ⟨_,rfl⟩
   have hee2 : eOf (frAt F p) = ep := hdo.2.2.2.1
   have DC : ∀ W,Rd W Ab (nums .u8 F) → Calls Tryd.prog 56 #[.slice (dropA Ab p cb 1) lfn (cb - p),.int .u32 ep] W fun e W' => ∃ A9 c9,e = .returned (.tuple #[.agg #[.int .i64 (kOf (frAt F p)),.int .u32 ep,.slice A9 (nOf (frAt F p)) c9],.int .i64 (m : Int),.int .i64 0]) ∧ W'.ownsRow W.heap.size 5 1 (.slice A9 (nOf (frAt F p)) c9) (nOf (frAt F p)) (nums .u8 (decD (frAt F p))) ∧ Below W.heap.size W W' := fun W hr => (DC0 W hr).mono (by
    rintro e W' ⟨hb,⟨h0,-⟩|⟨-,A9,c9,rfl,-,-,ho⟩⟩
    ·exact absurd hdE0 h0
    ·exact ⟨A9,c9,by rw [← hm,hee2];rfl,ho,hb⟩)
   rw [if_neg hdE,show ((p : Int) + (11 + (nOf (frAt F p) : Int))) = (p : Int) + (m : Int) by omega,hm] at htold
   have hn197 := hdo.2.2.1
   have C2 := fun W h => rcov_own ok hok (p : Int) ((p : Int) + (m : Int)) Ao co hco W h
   have w4 : IntKind.i64.wrap ((p : Int) + (m : Int)) = ((p + m : Nat) : Int) := by rw [IntKind.wrap_i64];omega
   have hpm : p + m ≤ 832 := by omega
   rw [show (p : Int) + (m : Int) = ((p + m : Nat) : Int) by omega] at C2 htold
   have hm4 : m ≤ 1000 := by omega
   clear DC0 hfl hfb hdo hdE hdE0 hee2
   generalize kOf (frAt F p) = kk at *
   generalize decD (frAt F p) = d at *
   generalize nOf (frAt F p) = nn at *
   clear hlf hlfn hhi hlc
   obtain ⟨pm,hpmm⟩ : ∃ y,p + m = y := ⟨_,rfl⟩
   rw [hpmm] at w4 C2 htold hpm
   cases hc2 : cov ok (p : Int) (pm : Int) with
   |false =>
    rw [hc2] at C2
    rw [if_pos hc2] at htold
    go_enter Tryd.func30,Tryd.ntmps30
    go_wp2_with (first
  |((with_reducible refine gate_dst (N := 8) rfl ?_);refine l_allocA rfl H 76 rfl _ zero76 ?_;clear H;intro g8 W H)
  |((with_reducible refine gate_dst (N := 10) rfl ?_);refine l_allocA rfl H 76 rfl _ zero76 ?_;clear H;intro g10 W H)
  |((with_reducible refine gate_store (t := 76) (p := 10) rfl ?_);refine l_storeW rfl H 76 _ _ rfl _ rfl _ rfl (by (repeat (first|exact In.head|apply In.tail))) _ size76 (by (first|rfl|assumption|omega|(simp only [nums_length];omega)|(simp [nums_length,zs];done)|(simp [nums_length,zs];omega))) (by (first|rfl|assumption|omega|(simp only [nums_length];omega)|(simp [nums_length,zs];done)|(simp [nums_length,zs];omega))) (by (first|exact nums_one|assumption|(intro u hu;simp at hu;subst hu;rfl)|(intro u hu;simp at hu;rcases hu with rfl|rfl|rfl|rfl|rfl|rfl|rfl <;> rfl)|(intro u hu;simp at hu;rcases hu with rfl|rfl|rfl|rfl <;> rfl)|(intro u hu;simp at hu;rcases hu with rfl|rfl|rfl <;> rfl)|(intro u hu;simp at hu;rcases hu with rfl|rfl <;> rfl))) ?_;clear H;intro W H)
  |((with_reducible refine gate_store (t := 76) (p := 8) rfl ?_);refine l_storeW rfl H 76 _ _ rfl _ rfl _ rfl (by (repeat (first|exact In.head|apply In.tail))) _ size76 (by (first|rfl|assumption|omega|(simp only [nums_length];omega)|(simp [nums_length,zs];done)|(simp [nums_length,zs];omega))) (by (first|rfl|assumption|omega|(simp only [nums_length];omega)|(simp [nums_length,zs];done)|(simp [nums_length,zs];omega))) (by (first|exact nums_one|assumption|(intro u hu;simp at hu;subst hu;rfl)|(intro u hu;simp at hu;rcases hu with rfl|rfl|rfl|rfl|rfl|rfl|rfl <;> rfl)|(intro u hu;simp at hu;rcases hu with rfl|rfl|rfl|rfl <;> rfl)|(intro u hu;simp at hu;rcases hu with rfl|rfl|rfl <;> rfl)|(intro u hu;simp at hu;rcases hu with rfl|rfl <;> rfl))) ?_;clear H;intro W H)
    |(go_at_call 55;(with_reducible refine (C1 _ (hRo.below H.below)).mono ?_);rintro e W ⟨rfl,hb⟩;replace H := H.to hb;clear hb)
    |(go_at_call 55;(with_reducible refine (C2 _ (hRo.below H.below)).mono ?_);rintro e W ⟨rfl,hb⟩;replace H := H.to hb;clear hb)
    |(go_at_call 57;(with_reducible refine (LC _).mono ?_);rintro e W ⟨rfl,hb⟩;replace H := H.to hb;clear hb)
    |((with_reducible refine gate_dst (N := 32) rfl ?_);refine l_run rfl (.slice (dropA Ab p cb 1) lfn (cb - p)) (by rw [← hhl];exact x_slice_lohi _ _ _ rfl rfl Tryd.underlying38 size5 p hi rfl rfl hph hhc _) ?_)
    |(go_at_call 56;(with_reducible refine (DC _ (hRb.below H.below)).mono ?_);rintro e W ⟨A9,c9,rfl,ho,hb⟩;replace H := H.addRow hb ho;clear hb ho))
    replace H := Own.front (r := .blk g8 _ _) H (by repeat (first|exact Del.head|apply Del.tail))
    refine bodyPost_ret (results_ct (p := 8) (ty := 76) rfl _ _ g8 76 _ (0,0) _ rfl (H.heap .head) Tryd.underlying76 rfl size76) rfl ?_
    exact ⟨H.below,.inl ⟨htold,rfl⟩⟩
   |true =>
    rw [hc2] at C2
    rw [if_neg (by rw [hc2];decide)] at htold
    go_enter Tryd.func30,Tryd.ntmps30
    go_wp2_with (first
  |((with_reducible refine gate_dst (N := 8) rfl ?_);refine l_allocA rfl H 76 rfl _ zero76 ?_;clear H;intro g8 W H)
  |((with_reducible refine gate_dst (N := 10) rfl ?_);refine l_allocA rfl H 76 rfl _ zero76 ?_;clear H;intro g10 W H)
  |((with_reducible refine gate_store (t := 76) (p := 10) rfl ?_);refine l_storeW rfl H 76 _ _ rfl _ rfl _ rfl (by (repeat (first|exact In.head|apply In.tail))) _ size76 (by (first|rfl|assumption|omega|(simp only [nums_length];omega)|(simp [nums_length,zs];done)|(simp [nums_length,zs];omega))) (by (first|rfl|assumption|omega|(simp only [nums_length];omega)|(simp [nums_length,zs];done)|(simp [nums_length,zs];omega))) (by (first|exact nums_one|assumption|(intro u hu;simp at hu;subst hu;rfl)|(intro u hu;simp at hu;rcases hu with rfl|rfl|rfl|rfl|rfl|rfl|rfl <;> rfl)|(intro u hu;simp at hu;rcases hu with rfl|rfl|rfl|rfl <;> rfl)|(intro u hu;simp at hu;rcases hu with rfl|rfl|rfl <;> rfl)|(intro u hu;simp at hu;rcases hu with rfl|rfl <;> rfl))) ?_;clear H;intro W H)
  |((with_reducible refine gate_dst (N := 52) rfl ?_);refine l_loadA rfl H 76 _ rfl _ rfl (by (repeat (first|exact In.head|apply In.tail))) _ _ Tryd.underlying76 rfl size76 (by (first|rfl|assumption|omega|(simp only [nums_length];omega)|(simp [nums_length,zs];done)|(simp [nums_length,zs];omega))) ?_)
  |((with_reducible refine gate_store (t := 76) (p := 8) rfl ?_);refine l_storeW rfl H 76 _ _ rfl _ rfl _ rfl (by (repeat (first|exact In.head|apply In.tail))) _ size76 (by (first|rfl|assumption|omega|(simp only [nums_length];omega)|(simp [nums_length,zs];done)|(simp [nums_length,zs];omega))) (by (first|rfl|assumption|omega|(simp only [nums_length];omega)|(simp [nums_length,zs];done)|(simp [nums_length,zs];omega))) (by (first|exact nums_one|assumption|(intro u hu;simp at hu;subst hu;rfl)|(intro u hu;simp at hu;rcases hu with rfl|rfl|rfl|rfl|rfl|rfl|rfl <;> rfl)|(intro u hu;simp at hu;rcases hu with rfl|rfl|rfl|rfl <;> rfl)|(intro u hu;simp at hu;rcases hu with rfl|rfl|rfl <;> rfl)|(intro u hu;simp at hu;rcases hu with rfl|rfl <;> rfl))) ?_;clear H;intro W H)
    |(go_at_call 55;(with_reducible refine (C1 _ (hRo.below H.below)).mono ?_);rintro e W ⟨rfl,hb⟩;replace H := H.to hb;clear hb)
    |(go_at_call 55;(with_reducible refine (C2 _ (hRo.below H.below)).mono ?_);rintro e W ⟨rfl,hb⟩;replace H := H.to hb;clear hb)
    |(go_at_call 57;(with_reducible refine (LC _).mono ?_);rintro e W ⟨rfl,hb⟩;replace H := H.to hb;clear hb)
    |((with_reducible refine gate_dst (N := 32) rfl ?_);refine l_run rfl (.slice (dropA Ab p cb 1) lfn (cb - p)) (by rw [← hhl];exact x_slice_lohi _ _ _ rfl rfl Tryd.underlying38 size5 p hi rfl rfl hph hhc _) ?_)
    |(go_at_call 56;(with_reducible refine (DC _ (hRb.below H.below)).mono ?_);rintro e W ⟨A9,c9,rfl,ho,hb⟩;replace H := H.addRow hb ho;clear hb ho))
    replace H := Own.front (r := .blk g8 _ _) H (by repeat (first|exact Del.head|apply Del.tail))
    refine bodyPost_ret (results_ct (p := 8) (ty := 76) rfl _ _ g8 76 _ (0,0) _ rfl (H.heap .head) Tryd.underlying76 rfl size76) rfl ?_
    exact ⟨H.below,.inr ⟨kk,d,A9,c9,by rw [hdl,hm];exact htold,by omega,by rw [hdl,hm];rfl,by rw [hdl];exact H.at_ (r := .row (.slice A9 nn c9) _ _ _ _) (by repeat (first|exact In.head|apply In.tail))⟩⟩
end Go.Proofs.YtaekpfhgdnfciaaDoor.O
end

section
/- the reference's Flat. -/
namespace Go.Proofs.YtaekpfhgdnfciaaDoor.O
open Go.RowKit Go.Proofs.YtaekpfhgdnfciaaDoorW.PrintWords Go.Proofs.YtaekpfhgdnfciaaDoorW.PrintLast Go.Proofs.YtaekpfhgdnfciaaDoorW.PrintMore Go.Proofs.YtaekpfhgdnfciaaDoor.F Go.Proofs.YtaekpfhgdnfciaaDoor.F.Nums Go.Proofs.YtaekpfhgdnfciaaDoor.Plain
set_option linter.unusedVariables false
set_option linter.unusedSimpArgs false
set_option maxRecDepth 100000 in
set_option maxHeartbeats 4000000 in
theorem rflat_calls (e : Int) (h0 : 0 ≤ e) (h1 : e ≤ 18446744073709551615) (fl : List Int) (n : Nat) (hf : fl.length = 64 * n) (hb : Bytes fl) (A : Option Addr) (c : Nat) (w : World) (hr : Rd w A (nums .u8 fl)) (hc : n ≤ c) (hn : n ≤ 9223372036854775807) :
  Calls Tryd.prog 28 #[.int .u64 e,.slice A n c] w fun en w' => ∃ v1 v2,en = .returned (.tuple #[v1,v2]) ∧ Own w F0 [.row v1 5 1 832 (nums .u8 (bodyF e fl n 16)),.row v2 4 1 16 (bools (oksF e fl n 16))] w' := by
 have H0 := (show Own w F0 [.row (.slice none 0 0) 4 1 0 []] w from (Own.start w).cons (Below.refl _ _) (own_nil _ _ _ _) (fun k hk => by cases hk))
 have H := (show Own w F0 [.row (.slice none 0 0) 5 1 0 [],.row (.slice none 0 0) 4 1 0 []] w from H0.cons (Below.refl _ _) (own_nil _ _ _ _) (fun k hk => by cases hk))
 clear H0
 go_enter Tryd.func28,Tryd.ntmps28
 go_wp2
 go_loopg [6,7,8] 16 (fun gq v6 v7 v8 w' => ∃ k : Nat,v8 = .int .i64 (k : Int) ∧ k + gq = 16 ∧ Own w F0 [.row v6 5 1 (52 * k) (nums .u8 (bodyF e fl n k)),.row v7 4 1 k (bools (oksF e fl n k))] w')
 case atStart => exact ⟨0,rfl,rfl,H⟩
 case round =>
  clear H
  obtain ⟨k,rfl,hk,H⟩ := hrel
  by_cases ck : k < 16
  ·obtain ⟨gk',rfl⟩ : ∃ q,gk = q + 1 := ⟨gk - 1,by omega⟩
   have q1 : decide ((k : Int) < 16) = true := decide_eq_true (by omega)
   have hS : bodyF e fl n (k + 1) = bodyF e fl n k ++ roomAt e fl n k := rfl
   have hO : oksF e fl n (k + 1) = oksF e fl n k ++ [okAt e fl n k] := rfl
   have hlB : (bodyF e fl n k).length = 52 * k := bodyF_len hf k
   have hlO : (oksF e fl n k).length = k := oksF_len k
   have hp2 : 52 * (k + 1) = 52 * k + 52 := by omega
   have hbd : (k + 1) * 1 ≤ 140737488355328 := by omega
   unfold roomAt at hS
   obtain ⟨B',hB'⟩ : ∃ x,bodyF e fl n (k + 1) = x := ⟨_,rfl⟩
   obtain ⟨O',hO'⟩ : ∃ x,oksF e fl n (k + 1) = x := ⟨_,rfl⟩
   rw [hB'] at hS
   rw [hO'] at hO
   have HB' := Lib.hid hB'
   have HO' := Lib.hid hO'
   clear hB' hO'
   generalize bodyF e fl n k = B at *
   generalize oksF e fl n k = O at *
   obtain ⟨p,hp⟩ : ∃ p,52 * k = p := ⟨_,rfl⟩
   rw [hp] at H hlB hp2
   have hpb : (p + 52) * 1 ≤ 140737488355328 := by omega
   by_cases cn : k < n
   ·have q2 : decide (k < n) = true := decide_eq_true cn
    have q3 : ((0 : Int) ≤ (k : Int)) = True := eq_true (by omega)
    have q4 : ((k : Int) < (n : Int)) = True := eq_true (by omega)
    obtain ⟨ad,rfl⟩ := hr.some_ (by rw [nums_length];omega)
    have hsl := secAt_len hf cn
    have hbs : Bytes (secAt fl k) := bytes_take (bytes_drop hb _) _
    have hnu : ((nums .u8 fl).drop (k * 64)).take 64 = nums .u8 (secAt fl k) := by rw [nums_drop,nums_take,Nat.mul_comm];rfl
    have O1 := fun W => ropen_c (secAt fl k) hsl hbs e (k : Int) h0 h1 W
    have hok : okAt e fl n k = openF (secAt fl k) e (k : Int) := by unfold okAt;rw [decide_eq_true cn,Bool.true_and]
    rw [hok] at hS hO
    have hdl : ((secAt fl k).drop 12).length = 52 := by rw [List.length_drop,hsl]
    unfold openL at O1
    cases hq : openF (secAt fl k) e (k : Int) with
    |true =>
     simp only [hq,if_true] at O1 hS hO
     generalize (secAt fl k).drop 12 = rm at *
     generalize secAt fl k = sec at *
     have HD := Lib.hid hdl
     have HS := Lib.hid hS
     have HO := Lib.hid hO
     have HP := Lib.hid hp
     have HP2 := Lib.hid hp2
     clear hS hO hp hp2 hdl hq hok hlB hlO hbs
     go_wp2_with (first
  |((with_reducible refine gate_dst (N := 17) rfl ?_);refine l_make1 rfl H 38 5 _ _ rfl _ rfl rfl Tryd.underlying38 _ rfl _ inf5 (by decide) (by decide) ?_;clear H;intro g17 W H)
  |((with_reducible refine gate_dst (N := 40) rfl ?_);refine l_append1 rfl H _ _ 63 4 rfl Tryd.underlying63 _ _ _ inf4 rfl (by decide) (by decide) _ _ _ rfl (by (repeat (first|exact In.head|apply In.tail))) _ _ rfl (by (repeat (first|exact In.head|apply In.tail))) (by (first|rfl|assumption|omega|(simp only [nums_length];omega)|(simp [nums_length,zs];done)|(simp [nums_length,zs];omega))) (by (first|exact nums_one|assumption|(intro u hu;simp at hu;subst hu;rfl)|(intro u hu;simp at hu;rcases hu with rfl|rfl|rfl|rfl|rfl|rfl|rfl <;> rfl)|(intro u hu;simp at hu;rcases hu with rfl|rfl|rfl|rfl <;> rfl)|(intro u hu;simp at hu;rcases hu with rfl|rfl|rfl <;> rfl)|(intro u hu;simp at hu;rcases hu with rfl|rfl <;> rfl))) (by omega) ?_;clear H;intro v40 W H)
  |((with_reducible refine gate_dst (N := 26) rfl ?_);refine l_loadRdS rfl 51 _ rfl (k * 64) rfl (hr.below H.below) 64 _ Tryd.underlying51 rfl size51 (by decide) _ hnu (by rw [nums_length];exact hsl) ?_)
  |(go_at_call 53;(with_reducible refine (O1 _).mono ?_);rintro e W ⟨v,rfl,hR,hb'⟩;replace H := H.addR hb' hR;clear hb' hR;rw [HD.out] at H;obtain ⟨Av,cv,rfl⟩ := H.row_slice .head)
  |((with_reducible refine gate_dst (N := 36) rfl ?_);refine l_append rfl H _ _ 38 5 rfl Tryd.underlying38 _ _ _ inf5 rfl (by decide) (by decide) _ _ _ rfl (.tail (.tail .head)) Av 52 cv (nums .u8 rm) rfl (by rw [nums_length,HD.out]) (fun h => (H.rd .head).1 (by rw [nums_length,HD.out];exact h)) nums_one hpb ?_;clear H;intro v36 W H)
  |((with_reducible refine gate_dst (N := 39) rfl ?_);refine l_build11 rfl H 63 4 _ rfl Tryd.underlying63 (.bool true) rfl _ zs4 rfl rfl ?_;clear H;intro g39 W H))
     rw [nums_app,← HS.out,← HP2.out,show ([Value.bool true] : List Value) = bools [true] from rfl,bools_app,← HO.out,← HB'.out,← HO'.out] at H
     go_roundg gk'
     case measure => omega
     case rel => exact ⟨k + 1,by go_num,by omega,((H.del .head).del .head).del .head⟩
    |false =>
     simp only [hq,Bool.false_eq_true,if_false] at O1 hS hO
     clear hdl hok
     generalize secAt fl k = sec at *
     have HS := Lib.hid hS
     have HO := Lib.hid hO
     have HP := Lib.hid hp
     have HP2 := Lib.hid hp2
     clear hS hO hp hp2 hq hlB hlO hbs
     go_wp2_with (first
  |((with_reducible refine gate_dst (N := 17) rfl ?_);refine l_make1 rfl H 38 5 _ _ rfl _ rfl rfl Tryd.underlying38 _ rfl _ inf5 (by decide) (by decide) ?_;clear H;intro g17 W H)
  |((with_reducible refine gate_dst (N := 40) rfl ?_);refine l_append1 rfl H _ _ 63 4 rfl Tryd.underlying63 _ _ _ inf4 rfl (by decide) (by decide) _ _ _ rfl (by (repeat (first|exact In.head|apply In.tail))) _ _ rfl (by (repeat (first|exact In.head|apply In.tail))) (by (first|rfl|assumption|omega|(simp only [nums_length];omega)|(simp [nums_length,zs];done)|(simp [nums_length,zs];omega))) (by (first|exact nums_one|assumption|(intro u hu;simp at hu;subst hu;rfl)|(intro u hu;simp at hu;rcases hu with rfl|rfl|rfl|rfl|rfl|rfl|rfl <;> rfl)|(intro u hu;simp at hu;rcases hu with rfl|rfl|rfl|rfl <;> rfl)|(intro u hu;simp at hu;rcases hu with rfl|rfl|rfl <;> rfl)|(intro u hu;simp at hu;rcases hu with rfl|rfl <;> rfl))) (by omega) ?_;clear H;intro v40 W H)
  |((with_reducible refine gate_dst (N := 26) rfl ?_);refine l_loadRdS rfl 51 _ rfl (k * 64) rfl (hr.below H.below) 64 _ Tryd.underlying51 rfl size51 (by decide) _ hnu (by rw [nums_length];exact hsl) ?_)
  |(go_at_call 53;(with_reducible refine (O1 _).mono ?_);rintro e W ⟨v,rfl,hR,hb'⟩;replace H := H.addR hb' hR;clear hb' hR;obtain ⟨Av,cv,rfl⟩ := H.row_slice .head)
  |((with_reducible refine gate_dst (N := 36) rfl ?_);refine l_append rfl H _ _ 38 5 rfl Tryd.underlying38 _ _ _ inf5 rfl (by decide) (by decide) _ _ _ rfl (.tail (.tail .head)) (some ⟨g17,0,none⟩) 52 52 (nums .u8 (zs 52)) rfl rfl (fun _ => H.rdB (.tail .head) 0 (by decide)) nums_one hpb ?_;clear H;intro v36 W H)
  |((with_reducible refine gate_dst (N := 39) rfl ?_);refine l_build11 rfl H 63 4 _ rfl Tryd.underlying63 (.bool false) rfl _ zs4 rfl rfl ?_;clear H;intro g39 W H))
     rw [nums_app,← HS.out,← HP2.out,show ([Value.bool false] : List Value) = bools [false] from rfl,bools_app,← HO.out,← HB'.out,← HO'.out] at H
     go_roundg gk'
     case measure => omega
     case rel => exact ⟨k + 1,by go_num,by omega,((H.del .head).del .head).del .head⟩
   ·have q2 : decide (k < n) = false := decide_eq_false cn
    rw [okAt_out (by omega)] at hS hO
    simp only [Bool.false_eq_true,if_false] at hS hO
    have HS := Lib.hid hS
    have HO := Lib.hid hO
    have HP := Lib.hid hp
    have HP2 := Lib.hid hp2
    clear hS hO hp hp2 hlB hlO
    go_wp2_with (first
  |((with_reducible refine gate_dst (N := 17) rfl ?_);refine l_make1 rfl H 38 5 _ _ rfl _ rfl rfl Tryd.underlying38 _ rfl _ inf5 (by decide) (by decide) ?_;clear H;intro g17 W H)
  |((with_reducible refine gate_dst (N := 40) rfl ?_);refine l_append1 rfl H _ _ 63 4 rfl Tryd.underlying63 _ _ _ inf4 rfl (by decide) (by decide) _ _ _ rfl (by (repeat (first|exact In.head|apply In.tail))) _ _ rfl (by (repeat (first|exact In.head|apply In.tail))) (by (first|rfl|assumption|omega|(simp only [nums_length];omega)|(simp [nums_length,zs];done)|(simp [nums_length,zs];omega))) (by (first|exact nums_one|assumption|(intro u hu;simp at hu;subst hu;rfl)|(intro u hu;simp at hu;rcases hu with rfl|rfl|rfl|rfl|rfl|rfl|rfl <;> rfl)|(intro u hu;simp at hu;rcases hu with rfl|rfl|rfl|rfl <;> rfl)|(intro u hu;simp at hu;rcases hu with rfl|rfl|rfl <;> rfl)|(intro u hu;simp at hu;rcases hu with rfl|rfl <;> rfl))) (by omega) ?_;clear H;intro v40 W H)
  |((with_reducible refine gate_dst (N := 36) rfl ?_);refine l_append rfl H _ _ 38 5 rfl Tryd.underlying38 _ _ _ inf5 rfl (by decide) (by decide) _ _ _ rfl (.tail .head) (some ⟨g17,0,none⟩) 52 52 (nums .u8 (zs 52)) rfl rfl (fun _ => H.rdB .head 0 (by decide)) nums_one hpb ?_;clear H;intro v36 W H)
  |((with_reducible refine gate_dst (N := 39) rfl ?_);refine l_build11 rfl H 63 4 _ rfl Tryd.underlying63 (.bool false) rfl _ zs4 rfl rfl ?_;clear H;intro g39 W H))
    rw [nums_app,← HS.out,← HP2.out,show ([Value.bool false] : List Value) = bools [false] from rfl,bools_app,← HO.out,← HB'.out,← HO'.out] at H
    go_roundg gk'
    case measure => omega
    case rel => exact ⟨k + 1,by go_num,by omega,(H.del .head).del .head⟩
  ·have q1 : decide ((k : Int) < 16) = false := decide_eq_false (by omega)
   obtain rfl : k = 16 := by omega
   go_wp2
   go_ret2
   exact ⟨_,_,rfl,H⟩
end Go.Proofs.YtaekpfhgdnfciaaDoor.O
end
