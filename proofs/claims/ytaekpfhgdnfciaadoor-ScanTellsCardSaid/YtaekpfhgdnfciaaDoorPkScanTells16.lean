/- Texts of mine put together: FragRDec, ScanX, ScanL, RestM, ArrX. -/
import Derived.Test.YtaekpfhgdnfciaaDoorPkScanTells14
import Derived.Test.YtaekpfhgdnfciaaDoorPkScanTells9
import Derived.Test.YtaekpfhgdnfciaaDoorPkScanTells15
import Derived.Test.YtaekpfhgdnfciaaDoorPkScanTells8
section
/- the reference's Decode, by what is owned. -/
set_option linter.unusedVariables false
set_option linter.unusedSimpArgs false
namespace Go.Proofs.YtaekpfhgdnfciaaDoor.O
open Go.RowKit Go.Proofs.YtaekpfhgdnfciaaDoorW.PrintWords Go.Proofs.YtaekpfhgdnfciaaDoorW.PrintLast Go.Proofs.YtaekpfhgdnfciaaDoorW.PrintMore Go.Proofs.YtaekpfhgdnfciaaDoor.F Go.Proofs.YtaekpfhgdnfciaaDoor.F.Nums Go.Proofs.YtaekpfhgdnfciaaDoor.Plain
def anyN (b : List Int) (i : Nat) : Bool := (b.take i).any (· != 0)
theorem anyN_succ (b : List Int) (i : Nat) (h : i < b.length) : anyN b (i + 1) = (anyN b i ||(b.getD i 0 != 0)) := by
 unfold anyN
 rw [List.take_add_one,List.any_append,List.getD_eq_getElem?_getD,List.getElem?_eq_getElem h]
 simp
theorem anyN_zs (b : List Int) (h : 11 ≤ b.length) : (anyN b 11 = false) ↔ b.take 11 = zs 11 := by
 unfold anyN
 rw [List.any_eq_false]
 constructor
 ·intro h0
  refine List.eq_replicate_iff.2 ⟨by rw [List.length_take];omega,fun x hx => ?_⟩
  have := h0 x hx
  simpa using this
 ·intro h0 x hx
  rw [h0] at hx
  rw [List.eq_of_mem_replicate hx]
  decide
theorem r_loadIx {P : Program} {o : Oper} {a : Act} {W : World} {ad : Addr} {cs : List Value} (ty : TypeId) (x : Operand) (ho : o.op = .load ty x) (off : Nat) (hx : a.eval x = .pointer (some (ad.add off))) (hR : Rd W (some ad) cs)
  (d : TypeDesc) (hu : P.underlying ty = some d) (hd : d.isRow = false) (v : Value) (hv : cs[off]? = some v) : (execOp a.eval o).run P W = .ok (.value v) W := r_loadRd1 ty x ho off hx hR d hu hd v hv
theorem nOf_eq {b : List Int} (hb : Bytes b) (h : 6 ≤ b.length) : (nOf b : Int) = b.getD 4 0 + 256 * b.getD 5 0 := by
 have h4 := hb _ (List.getElem_mem (show 4 < b.length by omega))
 have h5 := hb _ (List.getElem_mem (show 5 < b.length by omega))
 have g4 : b.getD 4 0 = b[4]'(by omega) := by rw [List.getD_eq_getElem?_getD,List.getElem?_eq_getElem];rfl
 have g5 : b.getD 5 0 = b[5]'(by omega) := by rw [List.getD_eq_getElem?_getD,List.getElem?_eq_getElem];rfl
 have r0 : rd (b.drop 4) ((0 : Nat) : Int) = b.getD 4 0 := by unfold rd;rw [List.getD_eq_getElem?_getD,List.getD_eq_getElem?_getD,List.getElem?_drop];rfl
 have r1 : rd (b.drop 4) ((1 : Nat) : Int) = b.getD 5 0 := by unfold rd;rw [List.getD_eq_getElem?_getD,List.getD_eq_getElem?_getD,List.getElem?_drop];rfl
 have e : nOf b = (0 + (rd (b.drop 4) ((0 : Nat) : Int)).toNat * 256 ^ 0) + (rd (b.drop 4) ((1 : Nat) : Int)).toNat * 256 ^ 1 := rfl
 rw [e,r0,r1,g4,g5]
 omega
/-- by the sum, as strings of bytes: the decoded parts' bytes -/
theorem dec_parts {b : List Int} (hb : Bytes b) : 11 + nOf b ≤ b.length → ((decD b).length = nOf b ∧ (encL (kOf b) (eOf b) (decD b) = b.take (11 + nOf b) ↔ sOf b = sumN ((b.take (11 + nOf b)).drop 4))) := fun h => ⟨by unfold decD;rw [List.length_drop,List.length_take];omega,enc_dec hb h⟩
set_option maxRecDepth 100000 in
set_option maxHeartbeats 8000000 in
theorem rdecode_calls (b : List Int) (ep : Int) (A : Option Addr) (c : Nat) (w : World) (hC : (Kd.int .u8).C w A b.length b) (hc : b.length ≤ c) (bb : Bytes b) :
  Calls Tryd.prog 56 #[.slice A b.length c,.int .u32 ep] w fun e W => Below w.heap.size w W ∧
   ((decE b ep ≠ 0 ∧ e = .returned (.tuple #[.agg #[.int .i64 0,.int .u32 0,.slice none 0 0],.int .i64 0,.int .i64 (decE b ep)])) ∨
    (decE b ep = 0 ∧ ∃ A' c',e = .returned (.tuple #[.agg #[.int .i64 (kOf b),.int .u32 (eOf b),.slice A' (nOf b) c'],.int .i64 (11 + (nOf b : Int)),.int .i64 0]) ∧ nOf b ≤ c' ∧ (Kd.int .u8).C W A' (nOf b) (decD b) ∧ W.ownsRow w.heap.size 5 1 (.slice A' (nOf b) c') (nOf b) (nums .u8 (decD b)))) := by
 have H := Own.start w
 by_cases h11 : b.length < 11
 ·have hE : decE b ep = 1 := by unfold decE;rw [if_pos h11]
  rw [hE]
  have q1 : decide ((b.length : Int) < 11) = true := decide_eq_true (by omega)
  generalize b.length = n at *
  go_enter Tryd.func56,Tryd.ntmps56
  go_wp2_with (first
  |((with_reducible refine gate_dst (N := 4) rfl ?_);refine l_allocA rfl H 76 rfl _ zero76 ?_;clear H;intro g4 W H)
  |((with_reducible refine gate_store (t := 76) (p := 4) rfl ?_);refine l_storeW rfl H 76 _ _ rfl _ rfl _ rfl (by (repeat (first|exact In.head|apply In.tail))) _ size76 (by (first|rfl|assumption|omega|(simp only [nums_length];omega)|(simp [nums_length,zs];done)|(simp [nums_length,zs];omega))) (by (first|rfl|assumption|omega|(simp only [nums_length];omega)|(simp [nums_length,zs];done)|(simp [nums_length,zs];omega))) (by (first|exact nums_one|assumption|(intro u hu;simp at hu;subst hu;rfl)|(intro u hu;simp at hu;rcases hu with rfl|rfl|rfl|rfl|rfl|rfl|rfl <;> rfl)|(intro u hu;simp at hu;rcases hu with rfl|rfl|rfl|rfl <;> rfl)|(intro u hu;simp at hu;rcases hu with rfl|rfl|rfl <;> rfl)|(intro u hu;simp at hu;rcases hu with rfl|rfl <;> rfl))) ?_;clear H;intro W H))
  refine bodyPost_ret (results_ctt (p := 4) (ty := 76) rfl _ _ g4 76 _ (0,0) _ rfl (H.heap .head) Tryd.underlying76 rfl size76) rfl ?_
  exact ⟨H.below,.inl ⟨by decide,rfl⟩⟩
 have hE0 : decE b ep = if b.take 11 = zs 11 then 7 else if rightF (kOf b) 0 = false ∨ 197 < nOf b ∨ eOf b ≠ ep then 2 else if b.length < 11 + nOf b then 1 else if sOf b ≠ sumN ((b.take (11 + nOf b)).drop 4) then 3 else 0 := by unfold decE;rw [if_neg h11]
 have q1 : decide ((b.length : Int) < 11) = false := decide_eq_false (by omega)
 obtain ⟨ad,rfl⟩ := (Rd.of_C hC).some_ (by rw [nums_length];omega)
 have hat : ∀ i,i < 11 → (nums .u8 b)[i]? = some (.int .u8 (b.getD i 0)) := fun i hi => nums_at i (by omega)
 have hRb := Rd.of_C hC
 have hany := anyN_succ b
 have hz := anyN_zs b (by omega)
 obtain ⟨bl,hbl⟩ : ∃ x,b.length = x := ⟨_,rfl⟩
 rw [hbl] at hC hc hE0 q1 h11 hany ⊢
 have hlt := nOf_lt bb
 have het := eOf_lt bb
 have hx4 := bb _ (List.getElem_mem (show 4 < b.length by omega))
 have hx5 := bb _ (List.getElem_mem (show 5 < b.length by omega))
 have hkt := bb _ (List.getElem_mem (show 6 < b.length by omega))
 have g6 : kOf b = b[6]'(by omega) := by unfold kOf;rw [List.getD_eq_getElem?_getD,List.getElem?_eq_getElem];rfl
 have a4 := hat 4 (by decide)
 have a5 := hat 5 (by decide)
 have a6 := hat 6 (by decide)
 have g4' : b.getD 4 0 = b[4]'(by omega) := by rw [List.getD_eq_getElem?_getD,List.getElem?_eq_getElem];rfl
 have g5' : b.getD 5 0 = b[5]'(by omega) := by rw [List.getD_eq_getElem?_getD,List.getElem?_eq_getElem];rfl
 have hn45 := nOf_eq bb (by omega)
 rw [← g4'] at hx4
 rw [← g5'] at hx5
 rw [← g6] at hkt
 rw [show b.getD 6 0 = kOf b from rfl] at a6
 have hn2 : ((getn ((b.take 11).drop 7) 4 : Nat) : Int) = eOf b := by unfold eOf;exact congrArg _ (getn_pre 4 (fun j hj => by rw [List.getElem?_drop,List.getElem?_drop,List.getElem?_take_of_lt (by omega)]))
 have hbh : Bytes ((b.take 11).drop 7) := bytes_drop (bytes_take bb 11) 7
 have h117 := cut_C hC 7 11 c (by decide) (by omega) hc
 have hc11 : 11 ≤ c := by omega
 have hdl := dec_parts bb
 obtain ⟨n,hn⟩ : ∃ x,nOf b = x := ⟨_,rfl⟩
 obtain ⟨kk,hkk⟩ : ∃ x,kOf b = x := ⟨_,rfl⟩
 obtain ⟨ee,hee⟩ : ∃ x,eOf b = x := ⟨_,rfl⟩
 obtain ⟨ss,hss⟩ : ∃ x,sOf b = x := ⟨_,rfl⟩
 obtain ⟨dE,hdE⟩ : ∃ x,decE b ep = x := ⟨_,rfl⟩
 have hdd : decD b = (b.take (11 + n)).drop 11 := by unfold decD;rw [hn]
 rw [hn] at hn45 hlt hE0 hdl ⊢
 rw [hkk] at hkt hE0 a6 hdl ⊢
 rw [hee] at het hE0 hn2 hdl ⊢
 rw [hss] at hE0 hdl
 rw [hdE] at hE0 ⊢
 rw [hbl] at hdl
 rw [hdd] at hdl ⊢
 generalize b.getD 4 0 = x4 at hx4 hn45 a4
 generalize b.getD 5 0 = x5 at hx5 hn45 a5
 obtain ⟨D7,hD7⟩ : ∃ D,dropA (some ad) 7 c 1 = D := ⟨_,rfl⟩
 rw [hD7] at h117
 replace hD7 := Aside0.mk hD7
 have HC := Aside0.mk (And.intro hx4 (And.intro hx5 (And.intro hn45 (And.intro hlt (And.intro hkt het)))))
 clear hx4 hx5 hn45 hlt hkt het
 replace hE0 := Aside0.mk hE0
 go_enter Tryd.func56,Tryd.ntmps56
 go_wp2_with (first
  |((with_reducible refine gate_dst (N := 4) rfl ?_);refine l_allocA rfl H 76 rfl _ zero76 ?_;clear H;intro g4 W H))
 go_loopg [7,8] 11 (fun gq v7 v8 w' => ∃ i : Nat,v8 = .int .i64 (i : Int) ∧ v7 = .bool (anyN b i) ∧ i + gq = 11 ∧ Own w F0 [.blk g4 76 [.int .i64 0,.int .u32 0,.slice none 0 0]] w')
 case atStart => exact ⟨0,rfl,rfl,by omega,H⟩
 case round =>
  clear H
  obtain ⟨i,rfl,rfl,hi,H⟩ := hrel
  by_cases ci : i < 11
  ·obtain ⟨gk',rfl⟩ : ∃ q,gk = q + 1 := ⟨gk - 1,by omega⟩
   have q2 : decide ((i : Int) < 11) = true := decide_eq_true (by omega)
   have q3 : ((0 : Int) ≤ (i : Int)) = True := eq_true (by omega)
   have q4 : ((i : Int) < (bl : Int)) = True := eq_true (by omega)
   have hv := hat i ci
   have ha := hany i (by omega)
   have HI := Aside0.mk (And.intro hi ci)
   clear hi ci
   generalize b.getD i 0 = x at hv ha
   cases h0 : anyN b i with
   |true =>
    rw [h0,Bool.true_or] at ha
    go_wp2
    go_roundg gk'
    case measure => have := HI.out.1;omega
    case rel => exact ⟨i + 1,by have h4 := HI.out.2;rw [w64 (by omega) (by omega)];rfl,by rw [ha],by have := HI.out.1;omega,H⟩
   |false =>
    rw [h0,Bool.false_or] at ha
    go_wp2_with (first
  |((with_reducible refine gate_dst (N := 24) rfl ?_);refine gate_guard (by rfl) ?_;refine l_run rfl _ (r_loadIx 5 _ rfl i rfl (hRb.below H.below) _ Tryd.underlying5 rfl _ hv) ?_))
    go_roundg gk'
    case measure => have := HI.out.1;omega
    case rel => exact ⟨i + 1,by have h4 := HI.out.2;rw [w64 (by omega) (by omega)];rfl,by rw [ha],by have := HI.out.1;omega,H⟩
  ·have hi11 : i = 11 := by omega
   rw [← hi11] at hz
   have q2 : decide ((i : Int) < 11) = false := decide_eq_false (by omega)
   clear hi ci hany
   cases h0 : anyN b i with
   |false =>
    have hE0 := hE0.out
    rw [if_pos (by rw [← hi11];exact hz.1 h0)] at hE0
    subst hE0
    clear hi11 hz
    go_wp2_with (first
  |((with_reducible refine gate_store (t := 76) (p := 4) rfl ?_);refine l_storeW rfl H 76 _ _ rfl _ rfl _ rfl (by (repeat (first|exact In.head|apply In.tail))) _ size76 (by (first|rfl|assumption|omega|(simp only [nums_length];omega)|(simp [nums_length,zs];done)|(simp [nums_length,zs];omega))) (by (first|rfl|assumption|omega|(simp only [nums_length];omega)|(simp [nums_length,zs];done)|(simp [nums_length,zs];omega))) (by (first|exact nums_one|assumption|(intro u hu;simp at hu;subst hu;rfl)|(intro u hu;simp at hu;rcases hu with rfl|rfl|rfl|rfl|rfl|rfl|rfl <;> rfl)|(intro u hu;simp at hu;rcases hu with rfl|rfl|rfl|rfl <;> rfl)|(intro u hu;simp at hu;rcases hu with rfl|rfl|rfl <;> rfl)|(intro u hu;simp at hu;rcases hu with rfl|rfl <;> rfl))) ?_;clear H;intro W H))
    refine bodyPost_ret (results_ctt (p := 4) (ty := 76) rfl _ _ g4 76 _ (0,0) _ rfl (H.heap .head) Tryd.underlying76 rfl size76) rfl ?_
    exact ⟨H.below,.inl ⟨by decide,rfl⟩⟩
   |true =>
    have hnz : ¬ b.take 11 = zs 11 := fun h => by rw [← hi11] at h;rw [hz.2 h] at h0;cases h0
    replace hE0 := hE0.out
    rw [if_neg hnz] at hE0
    clear hnz hz
    obtain ⟨hx4,hx5,hn45,hlt,hkt,het⟩ := HC.out
    have b4 : ((4 : Int) < (bl : Int)) = True := eq_true (by omega)
    have b5 : ((5 : Int) < (bl : Int)) = True := eq_true (by omega)
    have b6 : ((6 : Int) < (bl : Int)) = True := eq_true (by omega)
    have c1 : wrap64 x4 = x4 := w64 (by omega) (by omega)
    have c2 : wrap64 x5 = x5 := w64 (by omega) (by omega)
    have c3 : wrap64 (256 * x5) = 256 * x5 := w64 (by omega) (by omega)
    have c4 : wrap64 (x4 + 256 * x5) = (n : Int) := by rw [← hn45];exact w64 (by omega) (by omega)
    have c5 : wrap64 kk = kk := w64 (by omega) (by omega)
    have c6 : IntKind.u32.wrap ee = ee := wu32 het.1 het.2
    have c1' := (i64_w _).trans c1
    have c2' := (i64_w _).trans c2
    have c3' := (i64_w _).trans c3
    have c4' := (i64_w _).trans c4
    have c5' := (i64_w _).trans c5
    clear hx4 hx5 hn45 hlt hkt het g6 g4' g5' hi11 hn hkk hee hss hdE hdd
    go_wp2
    refine start_ (n := 11) (S := Own _ _ _) (ds := []) #[f_,f_,f_,f_,f_,f_,f_,f_,f_,f_,f_] (by kernel_rfl) rfl rfl H.drew (fun hHeld => ?_)
    replace H := H.drew
    generalize World.drew _ = W at H hHeld ⊢
    refine pure_ (i := 0) (N := some 30) (v := ?_) (a' := ?_) #[t_,f_,f_,f_,f_,f_,f_,f_,f_,f_,f_] rfl rfl (by kernel_rfl) (fun _ _ _ h => h) (Or.inl ⟨by rfl,?_⟩) ?_ ?_
    rotate_left
    ·intro w'
     go_simp
     with_reducible rfl
    rotate_left
    ·simp only [ps_]
     rfl
    refine pure_ (i := 1) (N := some 31) (v := ?_) (a' := ?_) #[t_,t_,f_,f_,f_,f_,f_,f_,f_,f_,f_] rfl rfl (by kernel_rfl) (fun _ _ _ h => h) (Or.inl ⟨by rfl,?_⟩) ?_ ?_
    rotate_left
    ·intro w'
     go_simp
     with_reducible rfl
    rotate_left
    ·simp only [ps_]
     rfl
    refine pure_ (i := 4) (N := some 34) (v := ?_) (a' := ?_) #[t_,t_,f_,f_,t_,f_,f_,f_,f_,f_,f_] rfl rfl (by kernel_rfl) (fun _ _ _ h => h) (Or.inl ⟨by rfl,?_⟩) ?_ ?_
    rotate_left
    ·intro w'
     go_simp
     with_reducible rfl
    rotate_left
    ·simp only [ps_]
     rfl
    refine pure_ (i := 5) (N := some 35) (v := ?_) (a' := ?_) #[t_,t_,f_,f_,t_,t_,f_,f_,f_,f_,f_] rfl rfl (by kernel_rfl) (fun _ _ _ h => h) (Or.inl ⟨by rfl,?_⟩) ?_ ?_
    rotate_left
    ·intro w'
     go_simp
     with_reducible rfl
    rotate_left
    ·simp only [ps_]
     rfl
    refine take_run (i := 2) (N := some 32) (a' := ?_) #[t_,t_,t_,f_,t_,t_,f_,f_,f_,f_,f_] rfl rfl (by kernel_rfl) (fun _ _ _ _ h => h) (by rfl) hHeld (.int .u8 x4) (fun X HX => r_loadIx 5 _ rfl 4 rfl (hRb.below HX.below) _ Tryd.underlying5 rfl _ a4) ?_ ?_
    rotate_left
    ·simp only [ps_]
     rfl
    refine pure_ (i := 3) (N := some 33) (v := ?_) (a' := ?_) #[t_,t_,t_,t_,t_,t_,f_,f_,f_,f_,f_] rfl rfl (by kernel_rfl) (fun _ _ _ h => h) (Or.inl ⟨by rfl,?_⟩) ?_ ?_
    rotate_left
    ·intro w'
     go_simp
     with_reducible rfl
    rotate_left
    ·simp only [ps_]
     rfl
    refine take_run (i := 6) (N := some 36) (a' := ?_) #[t_,t_,t_,t_,t_,t_,t_,f_,f_,f_,f_] rfl rfl (by kernel_rfl) (fun _ _ _ _ h => h) (by rfl) hHeld (.int .u8 x5) (fun X HX => r_loadIx 5 _ rfl 5 rfl (hRb.below HX.below) _ Tryd.underlying5 rfl _ a5) ?_ ?_
    rotate_left
    ·simp only [ps_]
     rfl
    refine pure_ (i := 7) (N := some 37) (v := ?_) (a' := ?_) #[t_,t_,t_,t_,t_,t_,t_,t_,f_,f_,f_] rfl rfl (by kernel_rfl) (fun _ _ _ h => h) (Or.inl ⟨by rfl,?_⟩) ?_ ?_
    rotate_left
    ·intro w'
     go_simp
     with_reducible rfl
    rotate_left
    ·simp only [ps_]
     rfl
    refine pure_ (i := 8) (N := some 38) (v := ?_) (a' := ?_) #[t_,t_,t_,t_,t_,t_,t_,t_,t_,f_,f_] rfl rfl (by kernel_rfl) (fun _ _ _ h => h) (Or.inl ⟨by rfl,?_⟩) ?_ ?_
    rotate_left
    ·intro w'
     go_simp
     with_reducible rfl
    rotate_left
    ·simp only [ps_]
     rfl
    refine pure_ (i := 9) (N := some 39) (v := ?_) (a' := ?_) #[t_,t_,t_,t_,t_,t_,t_,t_,t_,t_,f_] rfl rfl (by kernel_rfl) (fun _ _ _ h => h) (Or.inl ⟨by rfl,?_⟩) ?_ ?_
    rotate_left
    ·intro w'
     go_simp
     with_reducible rfl
    rotate_left
    ·simp only [ps_]
     rfl
    refine pure_ (i := 10) (N := some 9) (v := ?_) (a' := ?_) #[t_,t_,t_,t_,t_,t_,t_,t_,t_,t_,t_] rfl rfl (by kernel_rfl) (fun _ _ _ h => h) (Or.inl ⟨by rfl,?_⟩) ?_ ?_
    rotate_left
    ·intro w'
     go_simp
     with_reducible rfl
    rotate_left
    ·simp only [ps_]
     rfl
    refine done_ (by kernel_rfl) ?_
    clear hHeld
    go_wp2
    refine start_ (n := 11) (S := Own _ _ _) (ds := [10]) #[f_,f_,f_,f_,f_,f_,f_,f_,f_,f_,f_] (by kernel_rfl) rfl rfl H.drew (fun hHeld => ?_)
    replace H := H.drew
    generalize World.drew _ = W at H hHeld ⊢
    refine pure_ (i := 0) (N := some 40) (v := ?_) (a' := ?_) #[t_,f_,f_,f_,f_,f_,f_,f_,f_,f_,f_] rfl rfl (by kernel_rfl) (fun _ _ _ h => h) (Or.inl ⟨by rfl,?_⟩) ?_ ?_
    rotate_left
    ·intro w'
     go_simp
     with_reducible rfl
    rotate_left
    ·simp only [ps_]
     rfl
    refine pure_ (i := 1) (N := some 41) (v := ?_) (a' := ?_) #[t_,t_,f_,f_,f_,f_,f_,f_,f_,f_,f_] rfl rfl (by kernel_rfl) (fun _ _ _ h => h) (Or.inl ⟨by rfl,?_⟩) ?_ ?_
    rotate_left
    ·intro w'
     go_simp
     with_reducible rfl
    rotate_left
    ·simp only [ps_]
     rfl
    refine pure_ (i := 4) (N := some 44) (v := ?_) (a' := ?_) #[t_,t_,f_,f_,t_,f_,f_,f_,f_,f_,f_] rfl rfl (by kernel_rfl) (fun _ _ _ h => h) (Or.inl ⟨by rfl,?_⟩) ?_ ?_
    rotate_left
    ·intro w'
     go_simp
     with_reducible rfl
    rotate_left
    ·simp only [ps_]
     rfl
    refine take_run (i := 5) (N := some 45) (a' := ?_) #[t_,t_,f_,f_,t_,t_,f_,f_,f_,f_,f_] rfl rfl (by kernel_rfl) (fun _ _ _ _ h => h) (by rfl) hHeld (.slice D7 (11 - 7) (c - 7)) (fun X HX => by rw [← hD7.out];exact x_slice_lohi _ _ _ rfl rfl Tryd.underlying38 size5 7 11 rfl rfl (by decide) hc11 X) ?_ ?_
    rotate_left
    ·simp only [ps_]
     rfl
    refine take_run (i := 2) (N := some 42) (a' := ?_) #[t_,t_,t_,f_,t_,t_,f_,f_,f_,f_,f_] rfl rfl (by kernel_rfl) (fun _ _ _ _ h => h) (by rfl) hHeld (.int .u8 kk) (fun X HX => r_loadIx 5 _ rfl 6 rfl (hRb.below HX.below) _ Tryd.underlying5 rfl _ a6) ?_ ?_
    rotate_left
    ·simp only [ps_]
     rfl
    refine pure_ (i := 3) (N := some 43) (v := ?_) (a' := ?_) #[t_,t_,t_,t_,t_,t_,f_,f_,f_,f_,f_] rfl rfl (by kernel_rfl) (fun _ _ _ h => h) (Or.inl ⟨by rfl,?_⟩) ?_ ?_
    rotate_left
    ·intro w'
     go_simp
     with_reducible rfl
    rotate_left
    ·simp only [ps_]
     rfl
    refine two_ (i := 6) (j := 9) (Ni := some 46) (Nj := some 10) #[t_,t_,t_,t_,t_,t_,t_,f_,f_,f_,f_] #[t_,t_,t_,t_,t_,t_,f_,f_,f_,t_,f_] rfl rfl rfl rfl (by kernel_rfl) (by decide) (by decide) (fun K hK => ?_) (fun K hK => ?_)
    focus
     refine callK_ (rget_own H D7 (11 - 7) (c - 7) _ (Kd.C_below h117 H.below) (Nat.sub_le_sub_right hc11 7) hbh (by decide)) Tryd.func75 (by kernel_rfl) rfl (by rfl) rfl rfl (by (try simp only [List.map_toArray,List.map_cons,List.map_nil]);first|done|rfl) ?_
     rintro e W ⟨rfl,H'⟩
     refine ⟨_,rfl,?_⟩
     replace H := H'
     clear H'
     rw [hn2]
     refine hK.out _ _ ?_ (fun hHeld => ?_)
     ·first|trivial|exact H|exact H.del .head|exact (H.del .head).del .head|exact H.heap (by (repeat (first|exact In.head|apply In.tail)))
     clear hK K
     refine norm_ (a' := ?_) ?_ ?_
     rotate_left
     ·show Act.put _ (some 46) _ = _
      simp only [ps_]
      rfl
     refine pure_ (i := 7) (N := some 47) (v := ?_) (a' := ?_) #[t_,t_,t_,t_,t_,t_,t_,t_,f_,f_,f_] rfl rfl (by kernel_rfl) (fun _ _ _ h => h) (Or.inl ⟨by rfl,?_⟩) ?_ ?_
     rotate_left
     ·intro w'
      go_simp
      with_reducible rfl
     rotate_left
     ·simp only [ps_]
      rfl
     refine pure_ (i := 8) (N := some 48) (v := ?_) (a' := ?_) #[t_,t_,t_,t_,t_,t_,t_,t_,t_,f_,f_] rfl rfl (by kernel_rfl) (fun _ _ _ h => h) (Or.inl ⟨by rfl,?_⟩) ?_ ?_
     rotate_left
     ·intro w'
      go_simp
      with_reducible rfl
     rotate_left
     ·simp only [ps_]
      rfl
     refine one_ (i := 9) (N := some 10) #[t_,t_,t_,t_,t_,t_,t_,t_,t_,t_,f_] rfl rfl (by kernel_rfl) (by decide) (fun K hK => ?_)
     refine wanted_ rfl ?_
     refine w_allocA H 76 rfl _ zero76 ?_
     clear H
     intro g10 W H
     refine hK.out _ _ ?_ (fun hHeld => ?_)
     ·first|trivial|exact H|exact H.del .head|exact (H.del .head).del .head|exact H.heap (by (repeat (first|exact In.head|apply In.tail)))
     clear hK K
     refine norm_ (a' := ?_) ?_ ?_
     rotate_left
     ·show Act.put _ (some 10) _ = _
      simp only [ps_]
      rfl
    rotate_left
    focus
     refine wanted_ rfl ?_
     refine w_allocA H 76 rfl _ zero76 ?_
     clear H
     intro g10 W H
     refine hK.out _ _ ?_ (fun hHeld => ?_)
     ·first|trivial|exact H|exact H.del .head|exact (H.del .head).del .head|exact H.heap (by (repeat (first|exact In.head|apply In.tail)))
     clear hK K
     refine norm_ (a' := ?_) ?_ ?_
     rotate_left
     ·show Act.put _ (some 10) _ = _
      simp only [ps_]
      rfl
     refine one_ (i := 6) (N := some 46) #[t_,t_,t_,t_,t_,t_,t_,f_,f_,t_,f_] rfl rfl (by kernel_rfl) (by decide) (fun K hK => ?_)
     refine callK_ (rget_own H D7 (11 - 7) (c - 7) _ (Kd.C_below h117 H.below) (Nat.sub_le_sub_right hc11 7) hbh (by decide)) Tryd.func75 (by kernel_rfl) rfl (by rfl) rfl rfl (by (try simp only [List.map_toArray,List.map_cons,List.map_nil]);first|done|rfl) ?_
     rintro e W ⟨rfl,H'⟩
     refine ⟨_,rfl,?_⟩
     replace H := H'
     clear H'
     rw [hn2]
     refine hK.out _ _ ?_ (fun hHeld => ?_)
     ·first|trivial|exact H|exact H.del .head|exact (H.del .head).del .head|exact H.heap (by (repeat (first|exact In.head|apply In.tail)))
     clear hK K
     refine norm_ (a' := ?_) ?_ ?_
     rotate_left
     ·show Act.put _ (some 46) _ = _
      simp only [ps_]
      rfl
     refine pure_ (i := 7) (N := some 47) (v := ?_) (a' := ?_) #[t_,t_,t_,t_,t_,t_,t_,t_,f_,t_,f_] rfl rfl (by kernel_rfl) (fun _ _ _ h => h) (Or.inl ⟨by rfl,?_⟩) ?_ ?_
     rotate_left
     ·intro w'
      go_simp
      with_reducible rfl
     rotate_left
     ·simp only [ps_]
      rfl
     refine pure_ (i := 8) (N := some 48) (v := ?_) (a' := ?_) #[t_,t_,t_,t_,t_,t_,t_,t_,t_,t_,f_] rfl rfl (by kernel_rfl) (fun _ _ _ h => h) (Or.inl ⟨by rfl,?_⟩) ?_ ?_
     rotate_left
     ·intro w'
      go_simp
      with_reducible rfl
     rotate_left
     ·simp only [ps_]
      rfl
     skip
    all_goals
     refine last_ (i := 10) (N := none) #[t_,t_,t_,t_,t_,t_,t_,t_,t_,t_,t_] rfl rfl (by kernel_rfl) (by decide) (fun K hK => ?_)
     refine wanted_ rfl ?_
     refine w_storeW H 76 _ _ rfl _ rfl _ rfl (by (repeat (first|exact In.head|apply In.tail))) _ size76 (by (first|rfl|assumption|omega|(simp only [nums_length];omega)|(simp [nums_length,zs];done)|(simp [nums_length,zs];omega))) (by (first|rfl|assumption|omega|(simp only [nums_length];omega)|(simp [nums_length,zs];done)|(simp [nums_length,zs];omega))) (by (first|exact nums_one|assumption|(intro u hu;simp at hu;subst hu;rfl)|(intro u hu;simp at hu;rcases hu with rfl|rfl|rfl|rfl|rfl|rfl|rfl <;> rfl)|(intro u hu;simp at hu;rcases hu with rfl|rfl|rfl|rfl <;> rfl)|(intro u hu;simp at hu;rcases hu with rfl|rfl|rfl <;> rfl)|(intro u hu;simp at hu;rcases hu with rfl|rfl <;> rfl))) ?_
     clear H
     intro W H
     refine hK.out _ _ ?_
     clear hK K
     refine done_ (by kernel_rfl) ?_
     clear hHeld
    all_goals
     clear c1 c2 c3 c4 c5 c6 c1' c2' c3' c4' c5' a4 a5 a6 b4 b5 b6 hn2 hbh h117 q1 h0
     obtain ⟨-,-,-,hlt,hkt,het⟩ := HC.out
     replace hE0 := Aside0.mk hE0
     obtain ⟨m,hm⟩ : ∃ m,11 + n = m := ⟨_,rfl⟩
     have hmi : 11 + (n : Int) = (m : Int) := by omega
     have hw5 : Aside0 (wrap64 (11 + (n : Int)) = (m : Int)) := ⟨by rw [hmi];exact w64 (by omega) (by omega)⟩
     by_cases hbad : rightF kk 0 = false ∨ 197 < n ∨ ee ≠ ep
     ·have hb4 : (decide (197 < (n : Int)) = true) ∨ (decide (197 < (n : Int)) = false ∧ decide (kk < 1) = true) ∨ (decide (197 < (n : Int)) = false ∧ decide (kk < 1) = false ∧ decide (4 < kk) = true) ∨ (decide (197 < (n : Int)) = false ∧ decide (kk < 1) = false ∧ decide (4 < kk) = false ∧ (ee != ep) = true) := by
       by_cases h1 : 197 < n
       ·exact .inl (decide_eq_true (by omega))
       have f1 : decide (197 < (n : Int)) = false := decide_eq_false (by omega)
       by_cases h2 : kk < 1
       ·exact .inr (.inl ⟨f1,decide_eq_true h2⟩)
       have f2 : decide (kk < 1) = false := decide_eq_false h2
       by_cases h3 : 4 < kk
       ·exact .inr (.inr (.inl ⟨f1,f2,decide_eq_true h3⟩))
       have f3 : decide (4 < kk) = false := decide_eq_false h3
       refine .inr (.inr (.inr ⟨f1,f2,f3,?_⟩))
       rcases hbad with h|h|h
       ·unfold rightF at h
        simp at h
        omega
       ·exact absurd h h1
       ·simp [h]
      replace hE0 := hE0.out
      rw [if_pos hbad] at hE0
      subst hE0
      clear hbad hlt hkt het hm hmi
      rcases hb4 with q5|⟨q5,q6⟩|⟨q5,q6,q7⟩|⟨q5,q6,q7,q8⟩
      all_goals
       go_wp2_with (first
  |((with_reducible refine gate_dst (N := 53) rfl ?_);refine gate_guard (by rfl) ?_;refine l_load1 rfl H 3 _ rfl _ _ rfl (by (repeat (first|exact In.head|apply In.tail))) _ Tryd.underlying3 rfl _ (by first|rfl|assumption|exact nums_at _ (by omega)) ?_)
  |((with_reducible refine gate_dst (N := 58) rfl ?_);refine gate_guard (by rfl) ?_;refine l_load1 rfl H 3 _ rfl _ _ rfl (by (repeat (first|exact In.head|apply In.tail))) _ Tryd.underlying3 rfl _ (by first|rfl|assumption|exact nums_at _ (by omega)) ?_)
  |((with_reducible refine gate_dst (N := 63) rfl ?_);refine gate_guard (by rfl) ?_;refine l_load1 rfl H 67 _ rfl _ _ rfl (by (repeat (first|exact In.head|apply In.tail))) _ Tryd.underlying67 rfl _ (by first|rfl|assumption|exact nums_at _ (by omega)) ?_)
  |((with_reducible refine gate_store (t := 76) (p := 4) rfl ?_);refine l_storeW rfl H 76 _ _ rfl _ rfl _ rfl (by (repeat (first|exact In.head|apply In.tail))) _ size76 (by (first|rfl|assumption|omega|(simp only [nums_length];omega)|(simp [nums_length,zs];done)|(simp [nums_length,zs];omega))) (by (first|rfl|assumption|omega|(simp only [nums_length];omega)|(simp [nums_length,zs];done)|(simp [nums_length,zs];omega))) (by (first|exact nums_one|assumption|(intro u hu;simp at hu;subst hu;rfl)|(intro u hu;simp at hu;rcases hu with rfl|rfl|rfl|rfl|rfl|rfl|rfl <;> rfl)|(intro u hu;simp at hu;rcases hu with rfl|rfl|rfl|rfl <;> rfl)|(intro u hu;simp at hu;rcases hu with rfl|rfl|rfl <;> rfl)|(intro u hu;simp at hu;rcases hu with rfl|rfl <;> rfl))) ?_;clear H;intro W H))
       refine bodyPost_ret (results_ctt (p := 4) (ty := 76) rfl _ _ g4 76 _ (0,0) _ rfl (H.heap (.tail .head)) Tryd.underlying76 rfl size76) rfl ?_
       exact ⟨H.below,.inl ⟨by decide,rfl⟩⟩
     replace hE0 := hE0.out
     rw [if_neg hbad] at hE0
     replace hE0 := Aside0.mk hE0
     have hgood : 1 ≤ kk ∧ kk ≤ 4 ∧ n ≤ 197 ∧ ee = ep := by
      refine ⟨?_,?_,?_,?_⟩
      ·exact Decidable.byContradiction fun h => hbad (.inl (by unfold rightF;simp;omega))
      ·exact Decidable.byContradiction fun h => hbad (.inl (by unfold rightF;simp;omega))
      ·exact Decidable.byContradiction fun h => hbad (.inr (.inl (by omega)))
      ·exact Decidable.byContradiction fun h => hbad (.inr (.inr h))
     obtain ⟨k1,k2,k3,k4⟩ := hgood
     have q5 : decide (197 < (n : Int)) = false := decide_eq_false (by omega)
     have q6 : decide (kk < 1) = false := decide_eq_false (by omega)
     have q7 : decide (4 < kk) = false := decide_eq_false (by omega)
     have q8 : (ee != ep) = false := by simp [k4]
     clear hbad hlt hkt
     have hw5 := hw5.out
     have hw5' := (i64_w _).trans hw5
     have hDm : (b.take (11 + n)).drop 11 = (b.take m).drop 11 := by rw [hm]
     rw [hm] at hE0 hdl
     by_cases g3 : bl < m
     ·have hE0 := hE0.out
      rw [if_pos g3] at hE0
      subst hE0
      have q9 : decide (bl < m) = true := decide_eq_true g3
      clear g3 k1 k2 k3 k4 hm hmi hdl het
      go_wp2_with (first
  |((with_reducible refine gate_dst (N := 53) rfl ?_);refine gate_guard (by rfl) ?_;refine l_load1 rfl H 3 _ rfl _ _ rfl (by (repeat (first|exact In.head|apply In.tail))) _ Tryd.underlying3 rfl _ (by first|rfl|assumption|exact nums_at _ (by omega)) ?_)
  |((with_reducible refine gate_dst (N := 58) rfl ?_);refine gate_guard (by rfl) ?_;refine l_load1 rfl H 3 _ rfl _ _ rfl (by (repeat (first|exact In.head|apply In.tail))) _ Tryd.underlying3 rfl _ (by first|rfl|assumption|exact nums_at _ (by omega)) ?_)
  |((with_reducible refine gate_dst (N := 63) rfl ?_);refine gate_guard (by rfl) ?_;refine l_load1 rfl H 67 _ rfl _ _ rfl (by (repeat (first|exact In.head|apply In.tail))) _ Tryd.underlying67 rfl _ (by first|rfl|assumption|exact nums_at _ (by omega)) ?_)
  |((with_reducible refine gate_store (t := 76) (p := 4) rfl ?_);refine l_storeW rfl H 76 _ _ rfl _ rfl _ rfl (by (repeat (first|exact In.head|apply In.tail))) _ size76 (by (first|rfl|assumption|omega|(simp only [nums_length];omega)|(simp [nums_length,zs];done)|(simp [nums_length,zs];omega))) (by (first|rfl|assumption|omega|(simp only [nums_length];omega)|(simp [nums_length,zs];done)|(simp [nums_length,zs];omega))) (by (first|exact nums_one|assumption|(intro u hu;simp at hu;subst hu;rfl)|(intro u hu;simp at hu;rcases hu with rfl|rfl|rfl|rfl|rfl|rfl|rfl <;> rfl)|(intro u hu;simp at hu;rcases hu with rfl|rfl|rfl|rfl <;> rfl)|(intro u hu;simp at hu;rcases hu with rfl|rfl|rfl <;> rfl)|(intro u hu;simp at hu;rcases hu with rfl|rfl <;> rfl))) ?_;clear H;intro W H))
      refine bodyPost_ret (results_ctt (p := 4) (ty := 76) rfl _ _ g4 76 _ (0,0) _ rfl (H.heap (.tail .head)) Tryd.underlying76 rfl size76) rfl ?_
      exact ⟨H.below,.inl ⟨by decide,rfl⟩⟩
     replace hE0 := hE0.out
     rw [if_neg g3] at hE0
     replace hE0 := Aside0.mk hE0
     have q9 : decide (bl < m) = false := decide_eq_false g3
     have hmb : m ≤ bl := Nat.le_of_not_lt g3
     obtain ⟨hDl,hEq⟩ := hdl hmb
     have h11m : 11 ≤ m := by rw [← hm];exact Nat.le_add_right 11 n
     have hmn : m - 11 = n := by rw [← hm];exact Nat.add_sub_cancel_left 11 n
     have hmc : m ≤ c := Nat.le_trans hmb hc
     have hcut2 := cut_C hC 11 m c h11m hmb hc
     rw [hmn] at hcut2
     obtain ⟨D11,hD11⟩ : ∃ D,dropA (some ad) 11 c 1 = D := ⟨_,rfl⟩
     rw [hD11] at hcut2
     replace hD11 := Aside0.mk hD11
     have hCm : (Kd.int .u8).C w (some ad) m (b.take m) := by
      have := (Rd.of_C hC).take m
      rw [nums_take] at this
      exact this.C (by rw [List.length_take,hbl];exact Nat.min_eq_left hmb) (by have := hC.2.1;omega)
     have hDb : Bytes ((b.take m).drop 11) := bytes_drop (bytes_take bb m) 11
     have hrr : rightF kk ((b.take m).drop 11).length = true := by rw [hDl];unfold rightF;simp;omega
     have hrb := rbytes_eq kk ee ((b.take m).drop 11) hrr (by omega) hDb
     have heb : Bytes (encL kk ee ((b.take m).drop 11)) := encL_bytes (by omega) hDb
     have hinj : (strOfNums (encL kk ee ((b.take m).drop 11))).toList = (strOfNums (b.take m)).toList → encL kk ee ((b.take m).drop 11) = b.take m := CrcMath.strOfNums_inj heb (bytes_take bb m)
     have RB : ∀ W A c,(Kd.int .u8).C W A n ((b.take m).drop 11) → n ≤ c → Calls Tryd.prog 61 #[.agg #[.int .i64 kk,.int .u32 ee,.slice A n c]] W fun e w' => ∃ v0_ : Value,e = .returned v0_ ∧ Kd.R (Kd.int .u8) 5 w' W.heap.size (fun _ => True) v0_ (encL kk ee ((b.take m).drop 11)) ∧ Below W.heap.size W w' := fun W A c h1 h2 => by
      rw [← hDl] at h1 h2 ⊢
      exact strandlineref13_Bytes.calls _ kk ee A c _ _ W h1 h2 hrb
     clear g3 k1 k4 hm het hrb hrr heb hDb hdl
     replace hDl := Aside0.mk hDl
     replace hDm := Aside0.mk hDm
     replace hmi := Aside0.mk hmi
     have K3 := Aside0.mk k3
     clear k2 k3
     generalize encL kk ee ((b.take m).drop 11) = EL at *
     generalize hDL : (b.take m).drop 11 = DL at *
     generalize hBM : b.take m = BM at *
     go_wp2_with (first
  |((with_reducible refine gate_dst (N := 53) rfl ?_);refine gate_guard (by rfl) ?_;refine l_load1 rfl H 3 _ rfl _ _ rfl (by (repeat (first|exact In.head|apply In.tail))) _ Tryd.underlying3 rfl _ (by first|rfl|assumption|exact nums_at _ (by omega)) ?_)
  |((with_reducible refine gate_dst (N := 58) rfl ?_);refine gate_guard (by rfl) ?_;refine l_load1 rfl H 3 _ rfl _ _ rfl (by (repeat (first|exact In.head|apply In.tail))) _ Tryd.underlying3 rfl _ (by first|rfl|assumption|exact nums_at _ (by omega)) ?_)
  |((with_reducible refine gate_dst (N := 63) rfl ?_);refine gate_guard (by rfl) ?_;refine l_load1 rfl H 67 _ rfl _ _ rfl (by (repeat (first|exact In.head|apply In.tail))) _ Tryd.underlying67 rfl _ (by first|rfl|assumption|exact nums_at _ (by omega)) ?_)
  |((with_reducible refine gate_dst (N := 74) rfl ?_);refine l_build0 rfl H 38 5 rfl Tryd.underlying38 (by kernel_rfl) ?_;clear H;intro g74 W H)
  |((with_reducible refine gate_store (t := 38) (p := 80) rfl ?_);refine l_store1 rfl H 38 _ _ rfl _ _ rfl _ (by first|(go_simp;done)|(go_simp;with_reducible rfl)) (by (repeat (first|exact In.head|apply In.tail))) rfl rfl size38 (by (first|rfl|assumption|omega|(simp only [nums_length];omega)|(simp [nums_length,zs];done)|(simp [nums_length,zs];omega))) ?_;clear H;intro W H)
  |((with_reducible refine gate_dst (N := 78) rfl ?_);refine l_run rfl (.slice D11 n (c - 11)) (by rw [← hmn,← hD11.out];exact x_slice_lohi _ _ _ rfl rfl Tryd.underlying38 size5 11 m rfl rfl h11m hmc _) ?_)
  |((with_reducible refine gate_dst (N := 79) rfl ?_);refine l_append rfl H _ _ 38 5 rfl Tryd.underlying38 _ _ _ inf5 rfl (by decide) (by decide) _ 0 [] rfl .head D11 n (c - 11) (nums .u8 DL) rfl (by rw [nums_length,hcut2.1,Nat.mul_one]) (fun hp => ((Rd.of_C hcut2).below H.below) (by rw [nums_length,hcut2.1];exact hp)) nums_one (by rw [Nat.zero_add,Nat.mul_one];exact Nat.le_trans K3.out (by decide)) ?_;clear H;intro v79 W H;obtain ⟨A79,c79,e79⟩ := H.row_slice .head;rw [Nat.zero_add] at e79 H;rw [List.nil_append] at H;subst e79))
     replace H := (show Own w F0 [.row (.slice A79 n c79) 5 1 n (nums .u8 DL),.blk g10 76 [.int .i64 kk,.int .u32 ee,.slice A79 n c79],.blk g4 76 [.int .i64 0,.int .u32 0,.slice none 0 0]] _ from H)
     by_cases g5 : ss = sumN (BM.drop 4)
     ·have hE0 := hE0.out
      rw [if_neg (fun h => h g5)] at hE0
      subst hE0
      have hEL := hEq.2 g5
      subst hEL
      clear g5 hEq hinj
      refine start_ (n := 9) (S := Own _ _ _) (ds := []) #[f_,f_,f_,f_,f_,f_,f_,f_,f_] (by kernel_rfl) rfl rfl H.drew (fun hHeld => ?_)
      replace H := H.drew
      generalize World.drew _ = W at H hHeld ⊢
      refine pure_ (i := 3) (N := some 84) (v := ?_) (a' := ?_) #[f_,f_,f_,t_,f_,f_,f_,f_,f_] rfl rfl (by kernel_rfl) (fun _ _ _ h => h) (Or.inl ⟨by rfl,?_⟩) ?_ ?_
      rotate_left
      ·intro w'
       go_simp
       with_reducible rfl
      rotate_left
      ·simp only [ps_]
       rfl
      refine pure_ (i := 4) (N := some 85) (v := ?_) (a' := ?_) #[f_,f_,f_,t_,t_,f_,f_,f_,f_] rfl rfl (by kernel_rfl) (fun _ _ _ h => h) (Or.inl ⟨by rfl,?_⟩) ?_ ?_
      rotate_left
      ·intro w'
       go_simp
       with_reducible rfl
      rotate_left
      ·simp only [ps_]
       rfl
      refine pure_ (i := 5) (N := some 86) (v := ?_) (a' := ?_) #[f_,f_,f_,t_,t_,t_,f_,f_,f_] rfl rfl (by kernel_rfl) (fun _ _ _ h => h) (Or.inl ⟨by rfl,?_⟩) ?_ ?_
      rotate_left
      ·intro w'
       go_simp
       with_reducible rfl
      rotate_left
      ·simp only [ps_]
       rfl
      refine take_run (i := 6) (N := some 87) (a' := ?_) #[f_,f_,f_,t_,t_,t_,t_,f_,f_] rfl rfl (by kernel_rfl) (fun _ _ _ _ h => h) (by rfl) hHeld (.slice (some ad) m c) (fun X HX => x_slice_to _ _ rfl rfl Tryd.underlying38 size5 m rfl hmc X) ?_ ?_
      rotate_left
      ·simp only [ps_]
       rfl
      refine take_loadA (i := 0) (N := some 81) (a' := ?_) #[t_,f_,f_,t_,t_,t_,t_,f_,f_] rfl rfl (by kernel_rfl) (fun _ _ _ _ h => h) (by rfl) hHeld 76 _ rfl _ rfl (by (repeat (first|exact In.head|apply In.tail))) _ _ Tryd.underlying76 rfl size76 (by (first|rfl|assumption|omega|(simp only [nums_length];omega)|(simp [nums_length,zs];done)|(simp [nums_length,zs];omega))) ?_ ?_
      rotate_left
      ·simp only [ps_]
       rfl
      refine take_run (i := 7) (N := some 88) (a' := ?_) #[t_,f_,f_,t_,t_,t_,t_,t_,f_] rfl rfl (by kernel_rfl) (fun _ _ _ _ h => h) (by rfl) hHeld (.string (strOfNums EL)) (fun X HX => r_strC 38 9 5 _ rfl rfl (Kd.C_below hCm HX.below) Tryd.underlying38 Tryd.underlying5 Tryd.underlying9) ?_ ?_
      rotate_left
      ·simp only [ps_]
       rfl
      refine one_ (i := 1) (N := some 82) #[t_,t_,f_,t_,t_,t_,t_,t_,f_] rfl rfl (by kernel_rfl) (by decide) (fun K hK => ?_)
      refine callK_ (RB _ A79 c79 (H.rowC .head).2.2 (H.rowC .head).1) Tryd.func61 (by kernel_rfl) rfl (by rfl) rfl rfl (by (try simp only [List.map_toArray,List.map_cons,List.map_nil]);first|done|rfl) ?_
      rintro e W ⟨v82,rfl,hR,hb⟩
      refine ⟨_,rfl,?_⟩
      replace H := H.addR hb hR
      clear hR hb
      obtain ⟨A82,c82,rfl⟩ := H.row_slice .head
      refine hK.out _ _ ?_ (fun hHeld => ?_)
      ·first|trivial|exact H|exact H.del .head|exact (H.del .head).del .head|exact H.heap (by (repeat (first|exact In.head|apply In.tail)))
      clear hK K
      refine norm_ (a' := ?_) ?_ ?_
      rotate_left
      ·show Act.put _ (some 82) _ = _
       simp only [ps_]
       rfl
      refine one_ (i := 2) (N := some 83) #[t_,t_,t_,t_,t_,t_,t_,t_,f_] rfl rfl (by kernel_rfl) (by decide) (fun K hK => ?_)
      refine wanted_ rfl ?_
      refine w_strR H 38 9 5 _ rfl _ rfl (by (repeat (first|exact In.head|apply In.tail))) Tryd.underlying38 Tryd.underlying5 Tryd.underlying9 ?_
      refine hK.out _ _ ?_ (fun hHeld => ?_)
      ·first|trivial|exact H|exact H.del .head|exact (H.del .head).del .head|exact H.heap (by (repeat (first|exact In.head|apply In.tail)))
      clear hK K
      refine norm_ (a' := ?_) ?_ ?_
      rotate_left
      ·show Act.put _ (some 83) _ = _
       simp only [ps_]
       rfl
      refine pure_ (i := 8) (N := some 89) (v := ?_) (a' := ?_) #[t_,t_,t_,t_,t_,t_,t_,t_,t_] rfl rfl (by kernel_rfl) (fun _ _ _ h => h) (Or.inl ⟨by rfl,?_⟩) ?_ ?_
      rotate_left
      ·intro w'
       go_simp
       with_reducible rfl
      rotate_left
      ·simp only [ps_]
       rfl
      refine done_ (by kernel_rfl) ?_
      clear hHeld
      go_wp2_with (first
  |((with_reducible refine gate_dst (N := 91) rfl ?_);refine l_loadA rfl H 76 _ rfl _ rfl (by (repeat (first|exact In.head|apply In.tail))) _ _ Tryd.underlying76 rfl size76 (by (first|rfl|assumption|omega|(simp only [nums_length];omega)|(simp [nums_length,zs];done)|(simp [nums_length,zs];omega))) ?_)
  |((with_reducible refine gate_store (t := 76) (p := 4) rfl ?_);refine l_storeW rfl H 76 _ _ rfl _ rfl _ rfl (by (repeat (first|exact In.head|apply In.tail))) _ size76 (by (first|rfl|assumption|omega|(simp only [nums_length];omega)|(simp [nums_length,zs];done)|(simp [nums_length,zs];omega))) (by (first|rfl|assumption|omega|(simp only [nums_length];omega)|(simp [nums_length,zs];done)|(simp [nums_length,zs];omega))) (by (first|exact nums_one|assumption|(intro u hu;simp at hu;subst hu;rfl)|(intro u hu;simp at hu;rcases hu with rfl|rfl|rfl|rfl|rfl|rfl|rfl <;> rfl)|(intro u hu;simp at hu;rcases hu with rfl|rfl|rfl|rfl <;> rfl)|(intro u hu;simp at hu;rcases hu with rfl|rfl|rfl <;> rfl)|(intro u hu;simp at hu;rcases hu with rfl|rfl <;> rfl))) ?_;clear H;intro W H))
      refine bodyPost_ret (results_ctt (p := 4) (ty := 76) rfl _ _ g4 76 _ (0,0) _ rfl (H.heap (.tail (.tail (.tail .head)))) Tryd.underlying76 rfl size76) rfl ?_
      refine ⟨H.below,A79,c79,?_,(H.rowC (.tail .head)).1,?_,?_⟩
      ·rw [hmi.out]
       rfl
      ·rw [hDm.out]
       exact (H.rowC (.tail .head)).2.2
      ·rw [hDm.out]
       exact H.at_ (.tail .head)
     ·have hE0 := hE0.out
      rw [if_pos g5] at hE0
      subst hE0
      have hns : ((strOfNums EL).toList == (strOfNums BM).toList) = false := beq_eq_false_iff_ne.2 (fun h => g5 (hEq.1 (hinj h)))
      clear g5 hEq hinj
      refine start_ (n := 9) (S := Own _ _ _) (ds := []) #[f_,f_,f_,f_,f_,f_,f_,f_,f_] (by kernel_rfl) rfl rfl H.drew (fun hHeld => ?_)
      replace H := H.drew
      generalize World.drew _ = W at H hHeld ⊢
      refine pure_ (i := 3) (N := some 84) (v := ?_) (a' := ?_) #[f_,f_,f_,t_,f_,f_,f_,f_,f_] rfl rfl (by kernel_rfl) (fun _ _ _ h => h) (Or.inl ⟨by rfl,?_⟩) ?_ ?_
      rotate_left
      ·intro w'
       go_simp
       with_reducible rfl
      rotate_left
      ·simp only [ps_]
       rfl
      refine pure_ (i := 4) (N := some 85) (v := ?_) (a' := ?_) #[f_,f_,f_,t_,t_,f_,f_,f_,f_] rfl rfl (by kernel_rfl) (fun _ _ _ h => h) (Or.inl ⟨by rfl,?_⟩) ?_ ?_
      rotate_left
      ·intro w'
       go_simp
       with_reducible rfl
      rotate_left
      ·simp only [ps_]
       rfl
      refine pure_ (i := 5) (N := some 86) (v := ?_) (a' := ?_) #[f_,f_,f_,t_,t_,t_,f_,f_,f_] rfl rfl (by kernel_rfl) (fun _ _ _ h => h) (Or.inl ⟨by rfl,?_⟩) ?_ ?_
      rotate_left
      ·intro w'
       go_simp
       with_reducible rfl
      rotate_left
      ·simp only [ps_]
       rfl
      refine take_run (i := 6) (N := some 87) (a' := ?_) #[f_,f_,f_,t_,t_,t_,t_,f_,f_] rfl rfl (by kernel_rfl) (fun _ _ _ _ h => h) (by rfl) hHeld (.slice (some ad) m c) (fun X HX => x_slice_to _ _ rfl rfl Tryd.underlying38 size5 m rfl hmc X) ?_ ?_
      rotate_left
      ·simp only [ps_]
       rfl
      refine take_loadA (i := 0) (N := some 81) (a' := ?_) #[t_,f_,f_,t_,t_,t_,t_,f_,f_] rfl rfl (by kernel_rfl) (fun _ _ _ _ h => h) (by rfl) hHeld 76 _ rfl _ rfl (by (repeat (first|exact In.head|apply In.tail))) _ _ Tryd.underlying76 rfl size76 (by (first|rfl|assumption|omega|(simp only [nums_length];omega)|(simp [nums_length,zs];done)|(simp [nums_length,zs];omega))) ?_ ?_
      rotate_left
      ·simp only [ps_]
       rfl
      refine take_run (i := 7) (N := some 88) (a' := ?_) #[t_,f_,f_,t_,t_,t_,t_,t_,f_] rfl rfl (by kernel_rfl) (fun _ _ _ _ h => h) (by rfl) hHeld (.string (strOfNums BM)) (fun X HX => r_strC 38 9 5 _ rfl rfl (Kd.C_below hCm HX.below) Tryd.underlying38 Tryd.underlying5 Tryd.underlying9) ?_ ?_
      rotate_left
      ·simp only [ps_]
       rfl
      refine one_ (i := 1) (N := some 82) #[t_,t_,f_,t_,t_,t_,t_,t_,f_] rfl rfl (by kernel_rfl) (by decide) (fun K hK => ?_)
      refine callK_ (RB _ A79 c79 (H.rowC .head).2.2 (H.rowC .head).1) Tryd.func61 (by kernel_rfl) rfl (by rfl) rfl rfl (by (try simp only [List.map_toArray,List.map_cons,List.map_nil]);first|done|rfl) ?_
      rintro e W ⟨v82,rfl,hR,hb⟩
      refine ⟨_,rfl,?_⟩
      replace H := H.addR hb hR
      clear hR hb
      obtain ⟨A82,c82,rfl⟩ := H.row_slice .head
      refine hK.out _ _ ?_ (fun hHeld => ?_)
      ·first|trivial|exact H|exact H.del .head|exact (H.del .head).del .head|exact H.heap (by (repeat (first|exact In.head|apply In.tail)))
      clear hK K
      refine norm_ (a' := ?_) ?_ ?_
      rotate_left
      ·show Act.put _ (some 82) _ = _
       simp only [ps_]
       rfl
      refine one_ (i := 2) (N := some 83) #[t_,t_,t_,t_,t_,t_,t_,t_,f_] rfl rfl (by kernel_rfl) (by decide) (fun K hK => ?_)
      refine wanted_ rfl ?_
      refine w_strR H 38 9 5 _ rfl _ rfl (by (repeat (first|exact In.head|apply In.tail))) Tryd.underlying38 Tryd.underlying5 Tryd.underlying9 ?_
      refine hK.out _ _ ?_ (fun hHeld => ?_)
      ·first|trivial|exact H|exact H.del .head|exact (H.del .head).del .head|exact H.heap (by (repeat (first|exact In.head|apply In.tail)))
      clear hK K
      refine norm_ (a' := ?_) ?_ ?_
      rotate_left
      ·show Act.put _ (some 83) _ = _
       simp only [ps_]
       rfl
      refine pure_ (i := 8) (N := some 89) (v := ?_) (a' := ?_) #[t_,t_,t_,t_,t_,t_,t_,t_,t_] rfl rfl (by kernel_rfl) (fun _ _ _ h => h) (Or.inl ⟨by rfl,?_⟩) ?_ ?_
      rotate_left
      ·intro w'
       go_simp
       with_reducible rfl
      rotate_left
      ·simp only [ps_]
       rfl
      refine done_ (by kernel_rfl) ?_
      clear hHeld
      go_wp2_with (first
  |((with_reducible refine gate_store (t := 76) (p := 4) rfl ?_);refine l_storeW rfl H 76 _ _ rfl _ rfl _ rfl (by (repeat (first|exact In.head|apply In.tail))) _ size76 (by (first|rfl|assumption|omega|(simp only [nums_length];omega)|(simp [nums_length,zs];done)|(simp [nums_length,zs];omega))) (by (first|rfl|assumption|omega|(simp only [nums_length];omega)|(simp [nums_length,zs];done)|(simp [nums_length,zs];omega))) (by (first|exact nums_one|assumption|(intro u hu;simp at hu;subst hu;rfl)|(intro u hu;simp at hu;rcases hu with rfl|rfl|rfl|rfl|rfl|rfl|rfl <;> rfl)|(intro u hu;simp at hu;rcases hu with rfl|rfl|rfl|rfl <;> rfl)|(intro u hu;simp at hu;rcases hu with rfl|rfl|rfl <;> rfl)|(intro u hu;simp at hu;rcases hu with rfl|rfl <;> rfl))) ?_;clear H;intro W H))
      refine bodyPost_ret (results_ctt (p := 4) (ty := 76) rfl _ _ g4 76 _ (0,0) _ rfl (H.heap (.tail (.tail (.tail .head)))) Tryd.underlying76 rfl size76) rfl ?_
      exact ⟨H.below,.inl ⟨by decide,rfl⟩⟩
end Go.Proofs.YtaekpfhgdnfciaaDoor.O
end

section
/- Scanning sectors each of which is of what was laid first, or of what was laid last. Plain. -/
set_option linter.unusedVariables false
set_option linter.unusedSimpArgs false
namespace Go.Proofs.YtaekpfhgdnfciaaDoor.Img
open Go.RowKit Go.Proofs.YtaekpfhgdnfciaaDoor.F Go.Proofs.YtaekpfhgdnfciaaDoor.F.Nums Go.Proofs.YtaekpfhgdnfciaaDoor.O Go.Proofs.YtaekpfhgdnfciaaDoorW.PrintWords Go.Proofs.YtaekpfhgdnfciaaDoorW.PrintLast Go.Proofs.YtaekpfhgdnfciaaDoorW.PrintMore Go.Proofs.YtaekpfhgdnfciaaDoor.Plain
/-! ### pieces lie one behind another -/
def Asc : Int → Int → List Pc → Prop
 |lo,hi,[] => lo ≤ hi
 |lo,hi,p :: ps => lo ≤ p.f0 ∧ 0 ≤ p.f3 - p.f2 ∧ 11 + (p.f3 - p.f2) ≤ lf p.f0 ∧ p.f0 % 52 ≤ 41 ∧ p.f0 < 832 ∧ Asc (p.f0 + 11 + (p.f3 - p.f2)) hi ps
theorem Asc.weak : ∀ {ps : List Pc} {lo lo' hi : Int},lo' ≤ lo → Asc lo hi ps → Asc lo' hi ps := by
 intro ps
 cases ps with
 |nil => intro lo lo' hi h h2;simp only [Asc] at h2 ⊢;omega
 |cons p ps => intro lo lo' hi h h2;simp only [Asc] at h2 ⊢;exact ⟨by omega,h2.2⟩
theorem cutS_asc {m : Nat} : ∀ {at_ n from_ : Int} {q : List (Int × Int × Int) × Int} (f : Bool),from_ ≤ n → cutS m at_ n from_ = some q → Asc (bg (cl at_)) q.2 (mkP f q.1) := by
 induction m with
 |zero => intro _ _ _ _ _ _ h;cases h
 |succ m ih =>
  intro at_ n from_ q f hn h
  have h0 := cl_lo at_
  have h1 := cl_hi at_
  have hb0 := bg_lo h0
  have hb1 := bg_hi h1
  have hbm := bg_mod (cl at_)
  unfold cutS at h
  split at h
  ·cases h
  ·rename_i h8
   obtain ⟨l1,l2,l3,l4⟩ := lf_ge hb0 hb1 hbm h8
   split at h
   ·obtain rfl := Option.some.inj h
    simp only [mkP,Asc]
    exact ⟨Int.le_refl _,by omega,by omega,hbm,by omega,by omega⟩
   ·obtain ⟨q',hq',rfl⟩ := Option.map_eq_some_iff.mp h
    obtain ⟨u,rest,hu⟩ : ∃ u rest,q'.1 = u :: rest := by
     cases hp : q'.1 with
     |nil => exact absurd hp (cutS_ne hq')
     |cons t rest => exact ⟨t,rest,rfl⟩
    have h2 := ih false (by omega) hq'
    rw [cl_in (by omega) l3,bg_block l4] at h2
    simp only
    rw [show mkP f ((bg (cl at_),from_,from_ + (lf (bg (cl at_)) - 11)) :: q'.1) = ⟨bg (cl at_),pc f false,from_,from_ + (lf (bg (cl at_)) - 11)⟩ :: mkP false q'.1 by rw [hu];rfl]
    simp only [Asc]
    exact ⟨Int.le_refl _,by omega,by omega,hbm,by omega,h2.weak (by omega)⟩
theorem pcs_asc {e64 : Int} {l : List (List Int)} {k : Nat} (h : layOk e64 l k = true) : Asc (bg (cl (laySt e64 l k).2)) (laySt e64 l (k + 1)).2 (pcs e64 l k) := by
 obtain ⟨q,hq,h1,h2⟩ := pcs_cut h
 rw [h1,h2]
 exact cutS_asc true (by omega) hq
theorem Asc.mem : ∀ {ps : List Pc} {lo hi : Int},Asc lo hi ps → ∀ p ∈ ps,lo ≤ p.f0 ∧ 0 ≤ p.f3 - p.f2 ∧ 11 + (p.f3 - p.f2) ≤ lf p.f0 ∧ p.f0 % 52 ≤ 41 ∧ p.f0 < 832 ∧ p.f0 + 11 + (p.f3 - p.f2) ≤ hi := by
 intro ps
 induction ps with
 |nil => intro _ _ _ p hp;cases hp
 |cons q ps ih =>
  intro lo hi h p hp
  simp only [Asc] at h
  obtain ⟨a1,a2,a3,a4,a5,a6⟩ := h
  have hlast : q.f0 + 11 + (q.f3 - q.f2) ≤ hi := by
   clear ih hp a1 a2 a3 a4 a5
   generalize q.f0 + 11 + (q.f3 - q.f2) = lo2 at a6 ⊢
   induction ps generalizing lo2 with
   |nil => simpa only [Asc] using a6
   |cons r rs ih2 =>
    simp only [Asc] at a6
    have := ih2 _ a6.2.2.2.2.2
    omega
  rcases List.mem_cons.1 hp with rfl|hp
  ·exact ⟨a1,a2,a3,a4,a5,hlast⟩
  ·have := ih a6 p hp
   exact ⟨by omega,this.2⟩
/-! ### what is laid stands -/
theorem seg_take (X : List Int) (p n : Nat) : (X.drop p).take n = (X.take (p + n)).drop p := by rw [List.drop_take,Nat.add_sub_cancel_left]
theorem splice_drop (cur ys : List Int) (o hi : Nat) (h : o + ys.length ≤ hi) (ho : o + ys.length ≤ cur.length) : (splice cur o ys).drop hi = cur.drop hi := by
 unfold splice
 have hl : (cur.take o ++ ys).length = o + ys.length := by rw [List.length_append,List.length_take];omega
 rw [← List.append_assoc,List.drop_append,List.drop_of_length_le (by omega),List.nil_append,hl,List.drop_drop]
 congr 1
 omega
theorem splice_seg (cur ys : List Int) (o : Nat) (ho : o ≤ cur.length) : ((splice cur o ys).drop o).take ys.length = ys := by
 unfold splice
 have hl : (cur.take o).length = o := by rw [List.length_take];omega
 rw [List.drop_left' hl,List.take_left]
theorem layA_drop {ep : Int} {data : List Int} (hi : Nat) : ∀ (ps : List Pc) (cur : List Int) (lo : Int),Asc lo (hi : Int) ps → (∀ p ∈ ps,PcOk data p) → cur.length = 832 → (layA ep data ps cur).drop hi = cur.drop hi := by
 intro ps
 induction ps with
 |nil => intro cur _ _ _ _;rfl
 |cons p ps ih =>
  intro cur lo ha hp hc
  have hm := ha.mem p (List.mem_cons_self ..)
  have h1 := hp p (List.mem_cons_self ..)
  simp only [Asc] at ha
  show (layA ep data ps (layP ep data cur p)).drop hi = _
  rw [ih _ _ ha.2.2.2.2.2 (fun q hq => hp q (List.mem_cons_of_mem _ hq)) (layP_len h1 hc)]
  have hl := pcE_len (ep := ep) h1
  obtain ⟨g1,g2,g3,g4,g5,g6,g7,g8⟩ := h1
  unfold layP
  exact splice_drop _ _ _ _ (by omega) (by omega)
theorem layA_seg {ep : Int} {data : List Int} : ∀ (ps : List Pc) (cur : List Int) (lo hi : Int),Asc lo hi ps → (∀ p ∈ ps,PcOk data p) → cur.length = 832 → ∀ p ∈ ps,((layA ep data ps cur).drop p.f0.toNat).take (11 + (p.f3 - p.f2).toNat) = pcE ep data p := by
 intro ps
 induction ps with
 |nil => intro cur _ _ _ _ _ p hp;cases hp
 |cons q ps ih =>
  intro cur lo hi ha hok hc p hp
  have h1 := hok q (List.mem_cons_self ..)
  simp only [Asc] at ha
  have ha2 := ha.2.2.2.2.2
  have hlen := layP_len (ep := ep) h1 hc
  show ((layA ep data ps (layP ep data cur q)).drop p.f0.toNat).take _ = _
  rcases List.mem_cons.1 hp with rfl|hp
  ·have hl := pcE_len (ep := ep) h1
   obtain ⟨g1,g2,g3,g4,g5,g6,g7,g8⟩ := h1
   rw [seg_take,layA_keep (p.f0.toNat + (11 + (p.f3 - p.f2).toNat)) ps _ (fun r hr => ⟨hok r (List.mem_cons_of_mem _ hr),by have := (ha2.mem r hr).1;omega⟩) hlen,← seg_take,← hl]
   unfold layP
   exact splice_seg _ _ _ (by omega)
  ·exact ih _ _ _ ha2 (fun r hr => hok r (List.mem_cons_of_mem _ hr)) hlen p hp
theorem end_mono (e64 : Int) (l : List (List Int)) (hall : layAll e64 l = true) (k : Nat) : ∀ m,k ≤ m → m ≤ l.length → (laySt e64 l k).2 ≤ (laySt e64 l m).2 := by
 intro m
 induction m with
 |zero => intro h _;obtain rfl : k = 0 := by omega
          exact Int.le_refl _
 |succ m ih =>
  intro h hm
  by_cases e : k = m + 1
  ·rw [e];exact Int.le_refl _
  ·have h1 := ih (by omega) (by omega)
   have h2 := laySt_end e64 l m
   have h3 := end_more (laySt e64 l m).2 h2.1 h2.2 ((l.getD m []).length : Int) (by omega) ((layAll_iff e64 l).1 hall m (by omega))
   have h4 : (laySt e64 l (m + 1)).2 = (cutP (laySt e64 l m).2 ((l.getD m []).length : Int)).2.1 := rfl
   omega
theorem lay_keep (e64 : Int) (l : List (List Int)) (hall : layAll e64 l = true) (k : Nat) : ∀ m,k ≤ m → m ≤ l.length → ∀ e : Nat,(e : Int) ≤ (laySt e64 l k).2 → (laySt e64 l m).1.take e = (laySt e64 l k).1.take e := by
 intro m
 induction m with
 |zero => intro h _ e _;obtain rfl : k = 0 := by omega
          rfl
 |succ m ih =>
  intro h hm e he
  by_cases e1 : k = m + 1
  ·rw [e1]
  ·rw [← ih (by omega) (by omega) e he]
   have h1 := end_mono e64 l hall k m (by omega) (by omega)
   have h2 := laySt_end e64 l m
   obtain ⟨em,hem⟩ := Int.eq_ofNat_of_zero_le h2.1
   have h3 := addB_keep e64 (laySt e64 l m).1 em (l.getD m []) (laySt_len _ _ _) (by omega)
   show (addB e64 (laySt e64 l m).1 (laySt e64 l m).2 (l.getD m [])).take e = _
   rw [hem]
   have h4 := congrArg (List.take e) h3
   rwa [List.take_take,List.take_take,Nat.min_eq_left (by omega)] at h4
/-- a piece's bytes stand where it was laid -/
theorem lay_seg (e64 : Int) (l : List (List Int)) (hall : layAll e64 l = true) (k m : Nat) (hkm : k < m) (hm : m ≤ l.length) (p : Pc) (hp : p ∈ pcs e64 l k) :
  ((laySt e64 l m).1.drop p.f0.toNat).take (11 + (p.f3 - p.f2).toNat) = pcE (e64 % 4294967296) (l.getD k []) p := by
 have hok := (layAll_iff e64 l).1 hall k (by omega)
 have ha := pcs_asc hok
 have hm2 := ha.mem p hp
 have hend := laySt_end e64 l (k + 1)
 have hpo := cutP_pcs (laySt e64 l k).2 (l.getD k []) p hp
 rw [seg_take,lay_keep e64 l hall (k + 1) m (by omega) hm _ (by obtain ⟨g1,-⟩ := hpo;omega),← seg_take]
 have h1 : (laySt e64 l (k + 1)).1 = layA (e64 % 4294967296) (l.getD k []) (pcs e64 l k) (laySt e64 l k).1 := by
  show addB e64 (laySt e64 l k).1 (laySt e64 l k).2 (l.getD k []) = _
  unfold addB
  rw [base_id (laySt_len _ _ _)]
  rfl
 rw [h1]
 exact layA_seg _ _ _ _ ha (cutP_pcs _ _) (laySt_len _ _ _) p hp
/-- behind the end nothing is laid -/
theorem lay_zero (e64 : Int) (l : List (List Int)) (hall : layAll e64 l = true) : ∀ m,m ≤ l.length → (laySt e64 l m).1.drop (laySt e64 l m).2.toNat = zs (832 - (laySt e64 l m).2.toNat) := by
 intro m
 induction m with
 |zero => intro _;rfl
 |succ m ih =>
  intro hm
  have hok := (layAll_iff e64 l).1 hall m (by omega)
  have ha := pcs_asc hok
  have hend := laySt_end e64 l (m + 1)
  have hend0 := laySt_end e64 l m
  have hmono := end_mono e64 l hall m (m + 1) (by omega) hm
  obtain ⟨e1,he1⟩ := Int.eq_ofNat_of_zero_le hend.1
  have h1 : (laySt e64 l (m + 1)).1 = layA (e64 % 4294967296) (l.getD m []) (pcs e64 l m) (laySt e64 l m).1 := by
   show addB e64 (laySt e64 l m).1 (laySt e64 l m).2 (l.getD m []) = _
   unfold addB
   rw [base_id (laySt_len _ _ _)]
   rfl
  rw [he1] at ha
  rw [h1,he1,Int.toNat_natCast,layA_drop e1 _ _ _ ha (cutP_pcs _ _) (laySt_len _ _ _)]
  have h2 := ih (by omega)
  have h3 := congrArg (List.drop (e1 - (laySt e64 l m).2.toNat)) h2
  rw [List.drop_drop,show (laySt e64 l m).2.toNat + (e1 - (laySt e64 l m).2.toNat) = e1 by omega] at h3
  rw [h3]
  unfold zs
  rw [List.drop_replicate]
  congr 1
  omega
/-! ### what is told at a place -/
theorem covN_iff (l : List Bool) : ∀ (d a : Nat),covN l a d = true ↔ ∀ i,a ≤ i → i < a + d → i < l.length ∧ l.getD i false = true := by
 intro d
 induction d with
 |zero => intro a;simp only [covN,true_iff];intro i h1 h2;omega
 |succ d ih =>
  intro a
  simp only [covN,Bool.and_eq_true,decide_eq_true_eq,ih]
  constructor
  ·rintro ⟨⟨h1,h2⟩,h3⟩ i hi hi2
   by_cases e : i = a
   ·subst e;exact ⟨h1,h2⟩
   ·exact h3 i (by omega) (by omega)
  ·intro h
   exact ⟨h a (Nat.le_refl _) (by omega),fun i h1 h2 => h i (by omega) (by omega)⟩
theorem cov_iff (ok : List Bool) (hl : ok.length = 16) (p n : Nat) (hn : 0 < n) (hp : p + n ≤ 832) : cov ok (p : Int) ((p : Int) + (n : Int)) = true ↔ ∀ i,p / 52 ≤ i → i ≤ (p + n - 1) / 52 → ok.getD i false = true := by
 unfold cov
 rw [cl_in (a := (p : Int)) (by omega) (by omega),cl_in (a := (p : Int) + (n : Int)) (by omega) (by omega)]
 unfold tch
 rw [if_neg (by omega),covN_iff]
 constructor
 ·intro h i h1 h2
  exact (h i (by omega) (by omega)).2
 ·intro h i h1 h2
  exact ⟨by omega,h i (by omega) (by omega)⟩
theorem frAt_split (F : List Int) (p m : Nat) (h : m ≤ (lf (p : Int)).toNat) : frAt F p = (F.drop p).take m ++ ((F.drop p).drop m).take ((lf (p : Int)).toNat - m) := by
 unfold frAt
 have := List.take_append_drop m ((F.drop p).take (lf (p : Int)).toNat)
 rw [List.take_take,Nat.min_eq_left h,List.drop_take] at this
 exact this.symm
/-- a piece that stands is told -/
theorem told_piece (ep : Int) (he : 0 ≤ ep ∧ ep ≤ 4294967295) (F : List Int) (ok : List Bool) (hk : ok.length = 16) (data : List Int) (p : Pc) (hp : PcOk data p) (hlf : 11 + (p.f3 - p.f2) ≤ lf p.f0)
  (hF : (F.drop p.f0.toNat).take (11 + (p.f3 - p.f2).toNat) = pcE ep data p) (hc : ∀ i,p.f0.toNat / 52 ≤ i → i ≤ (p.f0.toNat + (11 + (p.f3 - p.f2).toNat) - 1) / 52 → ok.getD i false = true) :
  told ep F ok p.f0.toNat = some (wantT data p) := by
 obtain ⟨g1,g2,g3,g4,g5,g6,g7,g8⟩ := hp
 obtain ⟨p0,hp0⟩ := Int.eq_ofNat_of_zero_le g1
 have hdl : ((data.take p.f3.toNat).drop p.f2.toNat).length = (p.f3 - p.f2).toNat := by rw [List.length_drop,List.length_take];omega
 have hfr := frAt_split F p.f0.toNat (11 + (p.f3 - p.f2).toNat) (by rw [hp0,Int.toNat_natCast];rw [hp0] at hlf;omega)
 rw [hF] at hfr
 unfold pcE at hfr
 have hr : rightF p.f1 ((data.take p.f3.toNat).drop p.f2.toNat).length = true := by
  rw [hdl]
  unfold rightF
  simp
  omega
 have hdec := dec_enc p.f1 ep ep ((data.take p.f3.toNat).drop p.f2.toNat) (((F.drop p.f0.toNat).drop (11 + (p.f3 - p.f2).toNat)).take ((lf (p.f0.toNat : Int)).toNat - (11 + (p.f3 - p.f2).toNat))) hr he
 obtain ⟨n1,n2,-,-,n5,-⟩ := parts_enc p.f1 ep ((data.take p.f3.toNat).drop p.f2.toNat) (((F.drop p.f0.toNat).drop (11 + (p.f3 - p.f2).toNat)).take ((lf (p.f0.toNat : Int)).toNat - (11 + (p.f3 - p.f2).toNat))) he (by rw [hdl];omega)
 rw [← hfr] at hdec n1 n2 n5
 rw [if_pos rfl] at hdec
 rw [hdl] at n1
 unfold told
 rw [n1,n2,n5,hdec,if_neg (by omega)]
 have c1 : cov ok (p.f0.toNat : Int) ((p.f0.toNat : Int) + 11) = true := (cov_iff ok hk p.f0.toNat 11 (by omega) (by omega)).2 (fun i h1 h2 => hc i h1 (by omega))
 have c2 : cov ok (p.f0.toNat : Int) ((p.f0.toNat : Int) + (11 + ((p.f3 - p.f2).toNat : Int))) = true := by
  have := (cov_iff ok hk p.f0.toNat (11 + (p.f3 - p.f2).toNat) (by omega) (by omega)).2 hc
  rw [← this]
  congr 2
 rw [c1,c2]
 rfl
/-- zeros are no fragment -/
theorem told_zero (ep : Int) (F : List Int) (ok : List Bool) (hF : F.length = 832) (p : Nat) (hp : p < 832) (hlf : 11 ≤ lf (p : Int)) (h : ∀ i,p ≤ i → i < p + 11 → F.getD i 0 = 0) : told ep F ok p = none := by
 have hlb : (lf (p : Int)) ≤ 832 - p := by unfold lf;rw [if_neg (by omega)];omega
 have hl : (frAt F p).length = (lf (p : Int)).toNat := by unfold frAt;rw [List.length_take,List.length_drop];omega
 have hz : (frAt F p).take 11 = zs 11 := by
  refine List.ext_getElem? (fun i => ?_)
  unfold frAt zs
  rw [List.take_take,List.getElem?_replicate]
  by_cases hi : i < 11
  ·rw [List.getElem?_take_of_lt (by omega),List.getElem?_drop,if_pos hi]
   have := h (p + i) (by omega) (by omega)
   rw [List.getD_eq_getElem?_getD,List.getElem?_eq_getElem (by omega)] at this
   rw [List.getElem?_eq_getElem (by omega)]
   exact congrArg some this
  ·rw [if_neg hi,List.getElem?_eq_none]
   rw [List.length_take,List.length_drop]
   omega
 have hd : decE (frAt F p) ep = 7 := by
  unfold decE
  rw [if_neg (by omega),if_pos hz]
 unfold told
 rw [hd]
 split
 ·rfl
 ·split
  ·rfl
  ·rfl
theorem told_uncov2 (ep : Int) (F : List Int) (ok : List Bool) (p : Nat) (h : cov ok (p : Int) ((p : Int) + (11 + (nOf (frAt F p) : Int))) = false) : told ep F ok p = none := by
 unfold told
 rw [h]
 split
 ·rfl
 ·split
  ·rfl
  ·split <;> rfl
end Go.Proofs.YtaekpfhgdnfciaaDoor.Img
end

section
/- Scanning sectors each of which is of what was laid first (some first records), or of what was laid last (all of them). Plain. -/
set_option linter.unusedVariables false
set_option linter.unusedSimpArgs false
namespace Go.Proofs.YtaekpfhgdnfciaaDoor.Img
open Go.RowKit Go.Proofs.YtaekpfhgdnfciaaDoor.F Go.Proofs.YtaekpfhgdnfciaaDoor.F.Nums Go.Proofs.YtaekpfhgdnfciaaDoor.O Go.Proofs.YtaekpfhgdnfciaaDoorW.PrintWords Go.Proofs.YtaekpfhgdnfciaaDoorW.PrintLast Go.Proofs.YtaekpfhgdnfciaaDoorW.PrintMore Go.Proofs.YtaekpfhgdnfciaaDoor.Plain
/-- how many sectors have something of the first e bytes -/
def secsOf (e : Nat) : Nat := (e + 51) / 52
theorem tch_secs {e : Int} {b : Nat} (h0 : 0 ≤ e) (h1 : e ≤ 832) (h : tch (cl 0) (cl e) = (((0 : Nat) : Int),(b : Int))) : b = secsOf e.toNat := by
 rw [cl_in h0 h1,show cl 0 = 0 from rfl] at h
 unfold tch at h
 unfold secsOf
 split at h
 ·have := congrArg Prod.snd h
  simp only at this
  omega
 ·have := congrArg Prod.snd h
  simp only at this
  omega
theorem bodyF_at (e : Int) (fl : List Int) (n : Nat) (hf : fl.length = 64 * n) : ∀ k i,i < 52 * k → (bodyF e fl n k).getD i 0 = (roomAt e fl n (i / 52)).getD (i % 52) 0 := by
 intro k
 induction k with
 |zero => intro i hi;omega
 |succ k ih =>
  intro i hi
  have hl := bodyF_len (e := e) hf k
  unfold bodyF
  simp only [List.getD_eq_getElem?_getD]
  by_cases h : i < 52 * k
  ·rw [List.getElem?_append_left (by omega),← List.getD_eq_getElem?_getD,ih i h,List.getD_eq_getElem?_getD]
  ·rw [List.getElem?_append_right (by omega),hl,show i / 52 = k by omega,show i % 52 = i - 52 * k by omega]
theorem oksF_at (e : Int) (fl : List Int) (n : Nat) : ∀ k i,i < k → (oksF e fl n k).getD i false = okAt e fl n i := by
 intro k
 induction k with
 |zero => intro i hi;omega
 |succ k ih =>
  intro i hi
  have hl : (oksF e fl n k).length = k := oksF_len k
  unfold oksF
  simp only [List.getD_eq_getElem?_getD]
  by_cases h : i < k
  ·rw [List.getElem?_append_left (by omega),← List.getD_eq_getElem?_getD,ih i h]
  ·obtain rfl : i = k := by omega
   rw [List.getElem?_append_right (by omega),hl,Nat.sub_self]
   rfl
theorem okAt_same {e : Int} {fl gl : List Int} {n k : Nat} (h : secAt fl k = secAt gl k) : okAt e fl n k = okAt e gl n k := by unfold okAt;rw [h]
theorem roomAt_same {e : Int} {fl gl : List Int} {n k : Nat} (h : secAt fl k = secAt gl k) : roomAt e fl n k = roomAt e gl n k := by unfold roomAt;rw [okAt_same h,h]
/-- a byte of a sector of a laid body -/
theorem room_lay (e : Int) (h0 : 0 ≤ e) (h1 : e ≤ 18446744073709551615) (he : e ≠ 0) (body : List Int) (hbl : body.length = 832) (b k j : Nat) (hb : b ≤ 16) (hk : k < 16) (hj : j < 52) : (roomAt e (flatW e body b 16) 16 k).getD j 0 = if k < b then body.getD (52 * k + j) 0 else 0 := by
 rw [roomAt_W e h0 h1 he body b k hb hk]
 by_cases h : k < b
 ·rw [if_pos h,if_pos h]
  have hl := bodySec_len body k
  simp only [List.getD_eq_getElem?_getD]
  rw [List.getElem?_append_left (by omega)]
  unfold bodySec
  rw [List.getElem?_take_of_lt (by omega),List.getElem?_drop]
 ·rw [if_neg h,if_neg h]
  exact zs_getD 52 j
theorem nOf_congr {a b : List Int} (h : a.take 6 = b.take 6) : nOf a = nOf b := by
 have key : ∀ x : List Int,nOf x = getn ((x.take 6).drop 4) 2 := fun x => by
  unfold nOf
  rw [← getn_take (x.drop 4) 2 2 (Nat.le_refl _),List.drop_take]
 rw [key a,key b,h]
theorem ext_getD {a b : List Int} (h : a.length = b.length) (h2 : ∀ i,i < a.length → a.getD i 0 = b.getD i 0) : a = b := by
 refine List.ext_getElem h (fun i h3 h4 => ?_)
 have := h2 i h3
 rwa [List.getD_eq_getElem?_getD,List.getD_eq_getElem?_getD,List.getElem?_eq_getElem h3,List.getElem?_eq_getElem h4] at this
theorem getD_take {X : List Int} {e i : Nat} (h : i < e) : (X.take e).getD i 0 = X.getD i 0 := by
 simp only [List.getD_eq_getElem?_getD]
 rw [List.getElem?_take_of_lt h]
theorem lay_getD_zero (e64 : Int) (l : List (List Int)) (hall : layAll e64 l = true) (m : Nat) (hm : m ≤ l.length) (i : Nat) (hi : (laySt e64 l m).2.toNat ≤ i) : (laySt e64 l m).1.getD i 0 = 0 := by
 have h := lay_zero e64 l hall m hm
 have h2 := zs_getD (832 - (laySt e64 l m).2.toNat) (i - (laySt e64 l m).2.toNat)
 rw [← h,List.getD_eq_getElem?_getD,List.getElem?_drop,show (laySt e64 l m).2.toNat + (i - (laySt e64 l m).2.toNat) = i by omega] at h2
 rwa [List.getD_eq_getElem?_getD]
theorem lay_getD_keep (e64 : Int) (l : List (List Int)) (hall : layAll e64 l = true) (k m : Nat) (hk : k ≤ m) (hm : m ≤ l.length) (i : Nat) (hi : i < (laySt e64 l k).2.toNat) : (laySt e64 l m).1.getD i 0 = (laySt e64 l k).1.getD i 0 := by
 have h := lay_keep e64 l hall k m hk hm (laySt e64 l k).2.toNat (by have := laySt_end e64 l k;omega)
 rw [← getD_take hi,h,getD_take hi]
/-- What is scanned of sectors each of which is one of the first s records' or one of all records'. -/
theorem scan_mix (e64 : Int) (h0 : 0 ≤ e64) (h1 : e64 ≤ 18446744073709551615) (he : e64 ≠ 0) (l : List (List Int)) (s : Nat) (hs : s ≤ l.length) (hall : layAll e64 l = true) (h512 : ∀ x ∈ l,x.length ≤ 512) (fl : List Int) (hf : fl.length = 64 * 16)
  (hmix : ∀ k,k < 16 → secAt fl k = secAt (flatW e64 (laySt e64 l s).1 (secsOf (laySt e64 l s).2.toNat) 16) k ∨ secAt fl k = secAt (flatW e64 (laySt e64 l l.length).1 (secsOf (laySt e64 l l.length).2.toNat) 16) k) :
  ∃ m,s ≤ m ∧ m ≤ l.length ∧ (scanM (e64 % 4294967296) (bodyF e64 fl 16 16) (oksF e64 fl 16 16)).recs = l.take m ∧ (scanM (e64 % 4294967296) (bodyF e64 fl 16 16) (oksF e64 fl 16 16)).places = layPl e64 l m ∧ (scanM (e64 % 4294967296) (bodyF e64 fl 16 16) (oksF e64 fl 16 16)).en = (laySt e64 l m).2.toNat := by
 have hep : 0 ≤ e64 % 4294967296 ∧ e64 % 4294967296 ≤ 4294967295 := by omega
 have hEs := laySt_end e64 l s
 have hEn := laySt_end e64 l l.length
 have hmono := end_mono e64 l hall s l.length hs (Nat.le_refl _)
 obtain ⟨eO,heO⟩ : ∃ x,(laySt e64 l s).2.toNat = x := ⟨_,rfl⟩
 obtain ⟨eN,heN⟩ : ∃ x,(laySt e64 l l.length).2.toNat = x := ⟨_,rfl⟩
 have hON : eO ≤ eN := by omega
 have hN8 : eN ≤ 832 := by omega
 have hzO := fun i hi => lay_getD_zero e64 l hall s hs i hi
 have hzN := fun i hi => lay_getD_zero e64 l hall l.length (Nat.le_refl _) i hi
 have hkp := fun i hi => lay_getD_keep e64 l hall s l.length hs (Nat.le_refl _) i hi
 have hNl := laySt_len e64 l l.length
 have hOl := laySt_len e64 l s
 have hseg := fun k hk p hp => lay_seg e64 l hall k l.length hk (Nat.le_refl _) p hp
 rw [heO] at hmix hzO hkp
 rw [heN] at hmix hzN
 have hFl : (bodyF e64 fl 16 16).length = 832 := bodyF_len hf 16
 have hkl : (oksF e64 fl 16 16).length = 16 := oksF_len 16
 have hbO : secsOf eO ≤ 16 := by unfold secsOf;omega
 have hbN : secsOf eN ≤ 16 := by unfold secsOf;omega
 -- each sector: the bytes and the stamp
 have hsec : ∀ k,k < 16 → ((oksF e64 fl 16 16).getD k false = decide (k < secsOf eO) ∧ ∀ j,j < 52 → (bodyF e64 fl 16 16).getD (52 * k + j) 0 = if k < secsOf eO then (laySt e64 l s).1.getD (52 * k + j) 0 else 0) ∨
   ((oksF e64 fl 16 16).getD k false = decide (k < secsOf eN) ∧ ∀ j,j < 52 → (bodyF e64 fl 16 16).getD (52 * k + j) 0 = if k < secsOf eN then (laySt e64 l l.length).1.getD (52 * k + j) 0 else 0) := by
  intro k hk
  rcases hmix k hk with h|h
  ·left
   refine ⟨by rw [oksF_at e64 fl 16 16 k hk,okAt_same h,okAt_W e64 h0 h1 he _ _ k hbO hk],fun j hj => ?_⟩
   rw [bodyF_at e64 fl 16 hf 16 _ (by omega),show (52 * k + j) / 52 = k by omega,show (52 * k + j) % 52 = j by omega,roomAt_same h,room_lay e64 h0 h1 he _ hOl _ k j hbO hk hj]
  ·right
   refine ⟨by rw [oksF_at e64 fl 16 16 k hk,okAt_same h,okAt_W e64 h0 h1 he _ _ k hbN hk],fun j hj => ?_⟩
   rw [bodyF_at e64 fl 16 hf 16 _ (by omega),show (52 * k + j) / 52 = k by omega,show (52 * k + j) % 52 = j by omega,roomAt_same h,room_lay e64 h0 h1 he _ hNl _ k j hbN hk hj]
 generalize bodyF e64 fl 16 16 = F at *
 generalize oksF e64 fl 16 16 = ok at *
 generalize (laySt e64 l s).1 = O at *
 generalize (laySt e64 l l.length).1 = N at *
 clear hmix hf
 -- a place's sector is stamped and has what was laid last there
 have hnew : ∀ i,i < eO → F.getD i 0 = N.getD i 0 ∧ ok.getD (i / 52) false = true := by
  intro i hi
  have hb : i / 52 < secsOf eO := by unfold secsOf;omega
  have hb2 : i / 52 < secsOf eN := by unfold secsOf;omega
  have ei : i = 52 * (i / 52) + i % 52 := by omega
  rcases hsec (i / 52) (by omega) with ⟨h2,h3⟩|⟨h2,h3⟩
  ·have := h3 (i % 52) (by omega)
   rw [← ei,if_pos hb] at this
   exact ⟨by rw [this,hkp i hi],by rw [h2];exact decide_eq_true hb⟩
  ·have := h3 (i % 52) (by omega)
   rw [← ei,if_pos hb2] at this
   exact ⟨this,by rw [h2];exact decide_eq_true hb2⟩
 have intact : ∀ k,k < l.length → ∀ p ∈ pcs e64 l k,(∀ i,p.f0.toNat ≤ i → i < p.f0.toNat + (11 + (p.f3 - p.f2).toNat) → F.getD i 0 = N.getD i 0 ∧ ok.getD (i / 52) false = true) → told (e64 % 4294967296) F ok p.f0.toNat = some (wantT (l.getD k []) p) := by
  intro k hk p hp h
  have hpo := cutP_pcs (laySt e64 l k).2 (l.getD k []) p hp
  have ha := (pcs_asc ((layAll_iff e64 l).1 hall k hk)).mem p hp
  refine told_piece _ hep F ok hkl _ p hpo ha.2.2.1 ?_ ?_
  ·rw [← hseg k hk p hp]
   obtain ⟨g1,g2,g3,g4,g5,g6,g7,g8⟩ := hpo
   refine ext_getD (by simp [hFl,hNl]) (fun i hi => ?_)
   rw [List.length_take,List.length_drop] at hi
   rw [getD_take (by omega),getD_take (by omega),List.getD_eq_getElem?_getD,List.getD_eq_getElem?_getD,List.getElem?_drop,List.getElem?_drop,← List.getD_eq_getElem?_getD,← List.getD_eq_getElem?_getD]
   exact (h _ (by omega) (by omega)).1
  ·intro i h2 h3
   by_cases e : i = p.f0.toNat / 52
   ·have := (h p.f0.toNat (Nat.le_refl _) (by omega)).2
    rwa [← e] at this
   ·have := (h (52 * i) (by omega) (by omega)).2
    rwa [show 52 * i / 52 = i by omega] at this
 have hsome : ∀ k,k < s → ∀ p ∈ pcs e64 l k,told (e64 % 4294967296) F ok p.f0.toNat = some (wantT (l.getD k []) p) := by
  intro k hk p hp
  have ha := (pcs_asc ((layAll_iff e64 l).1 hall k (by omega))).mem p hp
  have hpo := cutP_pcs (laySt e64 l k).2 (l.getD k []) p hp
  have hm := end_mono e64 l hall (k + 1) s (by omega) hs
  obtain ⟨g1,g2,g3,g4,g5,g6,g7,g8⟩ := hpo
  exact intact k (by omega) p hp (fun i h2 h3 => hnew i (by omega))
 have hzero : ∀ q,eO ≤ q → q < 832 → q % 52 ≤ 41 → (eN ≤ q ∨ ∀ j,j < 52 → F.getD (52 * (q / 52) + j) 0 = if q / 52 < secsOf eO then O.getD (52 * (q / 52) + j) 0 else 0) → told (e64 % 4294967296) F ok q = none := by
  intro q h2 h3 h4 h5
  refine told_zero _ F ok hFl q h3 (by unfold lf;rw [if_neg (by omega)];omega) (fun i h6 h7 => ?_)
  have ei : i = 52 * (q / 52) + (i - 52 * (q / 52)) := by omega
  have hj : i - 52 * (q / 52) < 52 := by omega
  rcases h5 with h5|h5
  ·rcases hsec (q / 52) (by omega) with ⟨-,h8⟩|⟨-,h8⟩
   ·have := h8 _ hj
    rw [← ei] at this
    rw [this]
    split
    ·exact hzO i (by omega)
    ·rfl
   ·have := h8 _ hj
    rw [← ei] at this
    rw [this]
    split
    ·exact hzN i (by omega)
    ·rfl
  ·have := h5 _ hj
   rw [← ei] at this
   rw [this]
   split
   ·exact hzO i (by omega)
   ·rfl
 have hT : ∀ k,k < l.length → ∀ p ∈ pcs e64 l k,told (e64 % 4294967296) F ok p.f0.toNat = some (wantT (l.getD k []) p) ∨ told (e64 % 4294967296) F ok p.f0.toNat = none := by
  intro k hk p hp
  by_cases hks : k < s
  ·exact .inl (hsome k hks p hp)
  ·have hok := (layAll_iff e64 l).1 hall k hk
   have ha := (pcs_asc hok).mem p hp
   have hpo := cutP_pcs (laySt e64 l k).2 (l.getD k []) p hp
   have hm := end_mono e64 l hall s k (by omega) (by omega)
   have hm2 := end_mono e64 l hall (k + 1) l.length (by omega) (Nat.le_refl _)
   have hbg := bg_ge (cl (laySt e64 l k).2)
   have hek := laySt_end e64 l k
   rw [cl_in hek.1 hek.2] at hbg
   rw [cl_in hek.1 hek.2] at ha
   have hpos : eO ≤ p.f0.toNat := by omega
   have hend : p.f0.toNat + (11 + (p.f3 - p.f2).toNat) ≤ eN := by omega
   have hmod : p.f0.toNat % 52 ≤ 41 := by omega
   have hp8 : p.f0.toNat < 832 := by omega
   rcases hsec (p.f0.toNat / 52) (by omega) with ⟨h2,h3⟩|⟨h2,h3⟩
   ·exact .inr (hzero _ hpos hp8 hmod (.inr h3))
   ·by_cases hall2 : ∀ i,p.f0.toNat ≤ i → i < p.f0.toNat + (11 + (p.f3 - p.f2).toNat) → F.getD i 0 = N.getD i 0 ∧ ok.getD (i / 52) false = true
    ·exact .inl (intact k hk p hp hall2)
    ·right
     have hb0 : p.f0.toNat / 52 < secsOf eN := by unfold secsOf;omega
     have hhead : ∀ i,p.f0.toNat ≤ i → i < p.f0.toNat + 11 → F.getD i 0 = N.getD i 0 := by
      intro i h5 h6
      have := h3 (i - 52 * (p.f0.toNat / 52)) (by omega)
      rw [show 52 * (p.f0.toNat / 52) + (i - 52 * (p.f0.toNat / 52)) = i by omega,if_pos hb0] at this
      exact this
     have hn : nOf (frAt F p.f0.toNat) = (p.f3 - p.f2).toNat := by
      obtain ⟨g1,g2,g3,g4,g5,g6,g7,g8⟩ := hpo
      have hdl : (((l.getD k []).take p.f3.toNat).drop p.f2.toNat).length = (p.f3 - p.f2).toNat := by rw [List.length_drop,List.length_take];omega
      have hn2 := (parts_enc p.f1 (e64 % 4294967296) (((l.getD k []).take p.f3.toNat).drop p.f2.toNat) [] hep (by rw [hdl];omega)).1
      rw [List.append_nil] at hn2
      rw [← hdl,← hn2]
      refine nOf_congr ?_
      have h6 : (frAt F p.f0.toNat).take 6 = (F.drop p.f0.toNat).take 6 := by
       unfold frAt
       rw [Int.toNat_of_nonneg g1,List.take_take,Nat.min_eq_left (by omega)]
      rw [h6]
      have h7 := hseg k hk p hp
      unfold pcE at h7
      rw [← h7,List.take_take,Nat.min_eq_left (by omega)]
      refine ext_getD (by simp [hFl,hNl]) (fun i hi => ?_)
      rw [List.length_take,List.length_drop] at hi
      rw [getD_take (by omega),getD_take (by omega),List.getD_eq_getElem?_getD,List.getD_eq_getElem?_getD,List.getElem?_drop,List.getElem?_drop,← List.getD_eq_getElem?_getD,← List.getD_eq_getElem?_getD]
      exact hhead _ (by omega) (by omega)
     refine told_uncov2 _ F ok _ ?_
     rw [hn]
     refine Bool.eq_false_iff.2 (fun hcov => hall2 (fun i h5 h6 => ?_))
     have hcov2 := (cov_iff ok hkl p.f0.toNat (11 + (p.f3 - p.f2).toNat) (by omega) (by omega)).1 (by rw [← hcov];congr 2)
     have hoki := hcov2 (i / 52) (by omega) (by omega)
     refine ⟨?_,hoki⟩
     by_cases e : i / 52 = p.f0.toNat / 52
     ·have := h3 (i - 52 * (p.f0.toNat / 52)) (by omega)
      rw [show 52 * (p.f0.toNat / 52) + (i - 52 * (p.f0.toNat / 52)) = i by omega,if_pos hb0] at this
      exact this
     ·rcases hsec (i / 52) (by omega) with ⟨h7,-⟩|⟨h7,h8⟩
      ·rw [h7] at hoki
       have := of_decide_eq_true hoki
       unfold secsOf at this
       omega
      ·have hbi : i / 52 < secsOf eN := by unfold secsOf;omega
       have := h8 (i % 52) (by omega)
       rw [show 52 * (i / 52) + i % 52 = i by omega,if_pos hbi] at this
       exact this
 have hE : told (e64 % 4294967296) F ok (bgN (laySt e64 l l.length).2.toNat) = none := by
  rw [heN]
  have hc := bgN_cast eN
  have hle := bgN_le eN
  have hge := bg_ge (cl (eN : Int))
  have hmod := bg_mod (cl (eN : Int))
  rw [cl_in (a := (eN : Int)) (by omega) (by omega)] at hc hge hmod
  by_cases e : bgN eN = 832
  ·unfold told
   rw [if_pos e]
  ·exact hzero _ (by omega) (by omega) (by omega) (.inl (by omega))
 obtain ⟨m,h2,h3,h4,h5,h6⟩ := scan_pre (told (e64 % 4294967296) F ok) e64 l hall h512 hT hE
 exact ⟨m,h6 s hs (fun k hk p hp => by rw [hsome k hk p hp];simp),h2,h3,h4,h5⟩
end Go.Proofs.YtaekpfhgdnfciaaDoor.Img
end

section
/- Whether sectors have nothing behind an end. Plain. -/
set_option linter.unusedVariables false
set_option linter.unusedSimpArgs false
namespace Go.Proofs.YtaekpfhgdnfciaaDoor.Img
open Go.RowKit Go.Proofs.YtaekpfhgdnfciaaDoor.F Go.Proofs.YtaekpfhgdnfciaaDoor.F.Nums Go.Proofs.YtaekpfhgdnfciaaDoor.O Go.Proofs.YtaekpfhgdnfciaaDoorW.PrintWords Go.Proofs.YtaekpfhgdnfciaaDoorW.PrintLast Go.Proofs.YtaekpfhgdnfciaaDoorW.PrintMore Go.Proofs.YtaekpfhgdnfciaaDoor.Plain
/-- has sector number i nothing behind place e? -/
def secRest (x : List Int) (i : Nat) (e : Int) : Bool := (List.range 64).all fun (k : Nat) => x.getD k 0 == 0 ||!(decide (e ≤ 52 * (i : Int)) ||(decide (12 ≤ k) && decide (e ≤ 52 * (i : Int) + (k : Int) - 12)))
/-- have n sectors nothing behind place e? -/
def restB (fl : List Int) (n : Nat) (e : Int) : Bool := (List.range (min n 16)).all fun i => secRest (secAt fl i) i e
theorem secRest_iff (x : List Int) (i : Nat) (e : Int) : secRest x i e = true ↔ ∀ k : Nat,k < 64 → (e ≤ 52 * (i : Int) ∨ (12 ≤ k ∧ e ≤ 52 * (i : Int) + (k : Int) - 12)) → x.getD k 0 = 0 := by
 unfold secRest
 rw [List.all_eq_true]
 constructor
 ·intro h k hk h2
  have := h k (List.mem_range.2 hk)
  simp only [Bool.or_eq_true,beq_iff_eq,Bool.not_eq_true',Bool.or_eq_false_iff,Bool.and_eq_false_iff,decide_eq_false_iff_not] at this
  omega
 ·intro h k hk
  have hk2 := List.mem_range.1 hk
  simp only [Bool.or_eq_true,beq_iff_eq,Bool.not_eq_true',Bool.or_eq_false_iff,Bool.and_eq_false_iff,decide_eq_false_iff_not]
  by_cases h2 : e ≤ 52 * (i : Int) ∨ (12 ≤ k ∧ e ≤ 52 * (i : Int) + (k : Int) - 12)
  ·exact .inl (h k hk2 h2)
  ·right
   omega
theorem secRest_skip (x : List Int) (i : Nat) (e : Int) (h : 52 * (i : Int) + 52 ≤ e) : secRest x i e = true := (secRest_iff x i e).2 (fun k hk h2 => by omega)
theorem secRest_empty (x : List Int) (hx : x.length = 64) (i : Nat) (e : Int) (h : e ≤ 52 * (i : Int)) : secRest x i e = (x == zs 64) := by
 rw [Bool.eq_iff_iff,secRest_iff,beq_iff_eq]
 constructor
 ·intro h2
  refine ext_getD (by rw [hx];rfl) (fun k hk => ?_)
  rw [h2 k (by omega) (.inl h),zs_getD]
 ·intro h2 k _ _
  rw [h2,zs_getD]
theorem secRest_tail (x : List Int) (hx : x.length = 64) (i off : Nat) (e : Int) (h0 : 0 < off) (h : e = 52 * (i : Int) + off) (hoff : off ≤ 51) : secRest x i e = (x.drop (12 + off)).all (· == 0) := by
 rw [Bool.eq_iff_iff,secRest_iff,List.all_eq_true]
 constructor
 ·intro h2 c hc
  obtain ⟨j,hj,e1⟩ := List.getElem_of_mem hc
  rw [List.length_drop] at hj
  rw [List.getElem_drop] at e1
  have := h2 (12 + off + j) (by omega) (.inr ⟨by omega,by omega⟩)
  rw [List.getD_eq_getElem?_getD,List.getElem?_eq_getElem (by omega)] at this
  rw [beq_iff_eq,← e1]
  exact this
 ·intro h2 k hk h3
  have hk2 : 12 + off ≤ k := by omega
  have hm : x[k]'(by omega) ∈ x.drop (12 + off) := by
   rw [List.mem_iff_getElem]
   refine ⟨k - (12 + off),by rw [List.length_drop];omega,?_⟩
   rw [List.getElem_drop]
   congr 1
   omega
  have := h2 _ hm
  rw [beq_iff_eq] at this
  rw [List.getD_eq_getElem?_getD,List.getElem?_eq_getElem (by omega)]
  exact this
/-- the first i sectors -/
def restU (fl : List Int) (e : Int) (i : Nat) : Bool := (List.range i).all fun i => secRest (secAt fl i) i e
theorem restU_succ (fl : List Int) (e : Int) (i : Nat) : restU fl e (i + 1) = (restU fl e i && secRest (secAt fl i) i e) := by
 unfold restU
 rw [List.range_succ,List.all_append]
 simp
theorem restB_eq (fl : List Int) (n : Nat) (e : Int) : restB fl n e = restU fl e (min n 16) := rfl
theorem restU_false (fl : List Int) (e : Int) (i m : Nat) (hi : i < m) (h : secRest (secAt fl i) i e = false) : restU fl e m = false := by
 rw [Bool.eq_false_iff]
 intro h2
 unfold restU at h2
 rw [List.all_eq_true] at h2
 have := h2 i (List.mem_range.2 hi)
 rw [h] at this
 cases this
/-- what was laid has nothing behind its end -/
theorem rest_lay (e64 : Int) (l : List (List Int)) (hall : layAll e64 l = true) : restB (flatW e64 (laySt e64 l l.length).1 (secsOf (laySt e64 l l.length).2.toNat) 16) 16 (laySt e64 l l.length).2 = true := by
 have hend := laySt_end e64 l l.length
 have hb : secsOf (laySt e64 l l.length).2.toNat ≤ 16 := by unfold secsOf;omega
 have hz := fun i hi => lay_getD_zero e64 l hall l.length (Nat.le_refl _) i hi
 unfold restB
 rw [List.all_eq_true]
 intro k hk
 have hk2 : k < 16 := by have := List.mem_range.1 hk;omega
 rw [secAt_W e64 _ _ k hb hk2,secRest_iff]
 intro j hj h
 by_cases hkb : k < secsOf (laySt e64 l l.length).2.toNat
 ·rw [if_pos hkb]
  have h52 : ¬ (laySt e64 l l.length).2 ≤ 52 * (k : Int) := by unfold secsOf at hkb;omega
  have hj12 : 12 ≤ j ∧ (laySt e64 l l.length).2 ≤ 52 * (k : Int) + (j : Int) - 12 := by
   rcases h with h|h
   ·exact absurd h h52
   ·exact h
  have hsd := seal_drop e64 (k : Int) (bodySec (laySt e64 l l.length).1 k)
  have hsl := bodySec_len (laySt e64 l l.length).1 k
  rw [laySt_len] at hsl
  have e1 : (sealF e64 (k : Int) (bodySec (laySt e64 l l.length).1 k)).getD j 0 = ((sealF e64 (k : Int) (bodySec (laySt e64 l l.length).1 k)).drop 12).getD (j - 12) 0 := by
   simp only [List.getD_eq_getElem?_getD]
   rw [List.getElem?_drop,show 12 + (j - 12) = j by omega]
  rw [e1,hsd,List.take_of_length_le (by omega)]
  simp only [List.getD_eq_getElem?_getD]
  rw [List.getElem?_append_left (by omega)]
  unfold bodySec
  rw [List.getElem?_take_of_lt (by omega),List.getElem?_drop,← List.getD_eq_getElem?_getD]
  exact hz _ (by omega)
 ·rw [if_neg hkb,zs_getD]
end Go.Proofs.YtaekpfhgdnfciaaDoor.Img
end

section
/- The operation that slices an array in memory. -/
set_option linter.unusedVariables false
set_option linter.unusedSimpArgs false
namespace Go.Proofs.YtaekpfhgdnfciaaDoor.O
open Go.RowKit Go.Proofs.YtaekpfhgdnfciaaDoorW.PrintWords Go.Proofs.YtaekpfhgdnfciaaDoorW.PrintLast Go.Proofs.YtaekpfhgdnfciaaDoorW.PrintMore Go.Proofs.YtaekpfhgdnfciaaDoor.F Go.Proofs.YtaekpfhgdnfciaaDoor.F.Nums Go.Proofs.YtaekpfhgdnfciaaDoor.Plain
section
variable {P : Program} {o : Oper} {a : Act} {t e : TypeId} {N g : Nat}
theorem x_arr (x : Operand) (lo hi : Option Operand) (ho : o.op = .slice t x lo hi none) (off : Nat) (hx : a.eval x = .pointer (some ⟨g,off,none⟩)) (hu : P.underlying t = some (.array N e)) (hz : (P.info? e).map (·.size) = some 1) (l h : Nat)
  (hb : ∀ W,(Instr.sliceBounds false N N (lo.map a.eval) (hi.map a.eval) none).run P W = .ok (l,h,N) W) (hl : l < N) (W : World) : (execOp a.eval o).run P W = .ok (.value (.slice (some ⟨g,off + l,none⟩) (h - l) (N - l))) W := by
 obtain ⟨i,hi',hs⟩ := Option.map_eq_some_iff.1 hz
 have hn : ¬ N = l := by omega
 unfold execOp
 simp only [ho,hx]
 simp [Instr.sliceAt,Instr.sureAddr,run_underlying hu,hb W,sizeOf,typeInfo,hi',hs,hn,addr_add]
theorem x_arr_lo (x lo : Operand) (ho : o.op = .slice t x (some lo) none none) (off : Nat) (hx : a.eval x = .pointer (some ⟨g,off,none⟩)) (hu : P.underlying t = some (.array N e)) (hz : (P.info? e).map (·.size) = some 1) (l : Nat) (hlo : a.eval lo = .int .i64 (l : Int)) (hl : l < N) (W : World) :
  (execOp a.eval o).run P W = .ok (.value (.slice (some ⟨g,off + l,none⟩) (N - l) (N - l))) W :=
 x_arr x _ _ ho off hx hu hz l N (fun W => by simp [Instr.sliceBounds,run_sliceBound,hlo,Nat.le_of_lt hl]) hl W
theorem x_arr_lo' (x lo : Operand) (ho : o.op = .slice t x (some lo) none none) (off : Nat) (hx : a.eval x = .pointer (some ⟨g,off,none⟩)) (hu : P.underlying t = some (.array N e)) (hz : (P.info? e).map (·.size) = some 1) (l : Nat) (hlo : a.eval lo = .int .i64 (l : Int)) (hl : l < N) (W : World) (p n : Nat) (h1 : off + l = p) (h2 : N - l = n) :
  (execOp a.eval o).run P W = .ok (.value (.slice (some ⟨g,p,none⟩) n n)) W := by
 subst h1 h2
 exact x_arr_lo x lo ho off hx hu hz l hlo hl W
end
end Go.Proofs.YtaekpfhgdnfciaaDoor.O
end
