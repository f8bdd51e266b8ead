/- Texts of mine put together: FragDec, StepH. -/
import Derived.Test.YtaekpfhgdnfciaaDoorPkTearScans7
section
/- frag.Decode, by what is owned. -/
set_option linter.unusedVariables false
set_option linter.unusedSimpArgs false
namespace Go.Proofs.YtaekpfhgdnfciaaDoor.O
open Go.RowKit Go.Proofs.YtaekpfhgdnfciaaDoorW.PrintWords Go.Proofs.YtaekpfhgdnfciaaDoorW.PrintLast Go.Proofs.YtaekpfhgdnfciaaDoorW.PrintMore Go.Proofs.YtaekpfhgdnfciaaDoor.F Go.Proofs.YtaekpfhgdnfciaaDoor.F.Nums Go.Proofs.YtaekpfhgdnfciaaDoor.Plain
theorem bytes_eq11' (xs ys : List Int) (hx : xs.length = 11) (hy : ys.length = 11) (bx : Bytes xs) (by' : Bytes ys) (W : World) : (Op.equalIn 10000 127 (.agg (vals xs).toArray) (.agg (vals ys).toArray)).run Tryd.prog W = .ok (xs == ys) W :=
 equalB 9998 W 127 11 Tryd.underlying127 hx hy bx by'
theorem bytes_eq11 (xs : List Int) (hx : xs.length = 11) (bx : Bytes xs) (W : World) : (Op.equalIn 10000 127 (.agg (nums .u8 xs).toArray) (.agg #[.int .u8 0,.int .u8 0,.int .u8 0,.int .u8 0,.int .u8 0,.int .u8 0,.int .u8 0,.int .u8 0,.int .u8 0,.int .u8 0,.int .u8 0])).run Tryd.prog W = .ok (xs == zs 11) W := by
 have e : (#[.int .u8 0,.int .u8 0,.int .u8 0,.int .u8 0,.int .u8 0,.int .u8 0,.int .u8 0,.int .u8 0,.int .u8 0,.int .u8 0,.int .u8 0] : Array Value) = (vals (zs 11)).toArray := rfl
 rw [e]
 exact bytes_eq11' xs (zs 11) hx (by simp [zs]) bx (bytes_zs 11) W
theorem run_arrayAt11 (ad : Addr) (n c : Nat) (h : 11 ≤ n) (W : World) : (Instr.arrayAt 127 (.slice (some ad) n c)).run Tryd.prog W = .ok (.pointer (some ad)) W := by
 unfold Instr.arrayAt
 simp [Sem.run_bind,run_underlying Tryd.underlying127,h]
 intro hlt
 omega
set_option maxRecDepth 100000 in
set_option maxHeartbeats 8000000 in
theorem decode_calls (b : List Int) (ep : Int) (A : Option Addr) (c : Nat) (w : World) (hC : (Kd.int .u8).C w A b.length b) (hc : b.length ≤ c) (bb : Bytes b) (hH : Half w) :
  Calls Tryd.prog 49 #[.slice A b.length c,.int .u32 ep] w fun e W => Below w.heap.size w W ∧
   ((decE b ep ≠ 0 ∧ e = .returned (.tuple #[.agg #[.int .i64 0,.int .u32 0,.slice none 0 0],.int .i64 0,.int .i64 (decE b ep)])) ∨
    (decE b ep = 0 ∧ ∃ A' c',e = .returned (.tuple #[.agg #[.int .i64 (kOf b),.int .u32 (eOf b),.slice A' (nOf b) c'],.int .i64 (11 + (nOf b : Int)),.int .i64 0]) ∧ nOf b ≤ c' ∧ (Kd.int .u8).C W A' (nOf b) (decD b) ∧ W.ownsRow w.heap.size 5 1 (.slice A' (nOf b) c') (nOf b) (nums .u8 (decD b)))) := by
 have H := Own.start w
 by_cases h11 : b.length < 11
 ·have hE : decE b ep = 1 := by unfold decE;rw [if_pos h11]
  rw [hE]
  have q1 : decide ((b.length : Int) < 11) = true := decide_eq_true (by omega)
  generalize b.length = n at *
  go_enter Tryd.func49,Tryd.ntmps49
  go_wp2_with (first
  |((with_reducible refine gate_dst (N := 4) rfl ?_);refine l_allocA rfl H 76 rfl _ zero76 ?_;clear H;intro g4 W H)
  |((with_reducible refine gate_store (t := 76) (p := 4) rfl ?_);refine l_storeW rfl H 76 _ _ rfl _ rfl _ rfl (by (repeat (first|exact In.head|apply In.tail))) _ size76 (by (first|rfl|assumption|omega|(simp only [nums_length];omega)|(simp [nums_length,zs];done)|(simp [nums_length,zs];omega))) (by (first|rfl|assumption|omega|(simp only [nums_length];omega)|(simp [nums_length,zs];done)|(simp [nums_length,zs];omega))) (by (first|exact nums_one|assumption|(intro u hu;simp at hu;subst hu;rfl)|(intro u hu;simp at hu;rcases hu with rfl|rfl|rfl|rfl|rfl|rfl|rfl <;> rfl)|(intro u hu;simp at hu;rcases hu with rfl|rfl|rfl|rfl <;> rfl)|(intro u hu;simp at hu;rcases hu with rfl|rfl|rfl <;> rfl)|(intro u hu;simp at hu;rcases hu with rfl|rfl <;> rfl))) ?_;clear H;intro W H))
  refine bodyPost_ret (results_ctt (p := 4) (ty := 76) rfl _ _ g4 76 _ (0,0) _ rfl (H.heap .head) Tryd.underlying76 rfl size76) rfl ?_
  exact ⟨H.below,.inl ⟨by decide,rfl⟩⟩
 have hE0 : decE b ep = if b.take 11 = zs 11 then 7 else if rightF (kOf b) 0 = false ∨ 197 < nOf b ∨ eOf b ≠ ep then 2 else if b.length < 11 + nOf b then 1 else if sOf b ≠ sumN ((b.take (11 + nOf b)).drop 4) then 3 else 0 := by unfold decE;rw [if_neg h11]
 have q1 : decide ((b.length : Int) < 11) = false := decide_eq_false (by omega)
 obtain ⟨ad,rfl⟩ := (Rd.of_C hC).some_ (by rw [nums_length];omega)
 have hR : Rd w (some ad) (nums .u8 (b.take 11)) := by rw [← nums_take];exact (Rd.of_C hC).take 11
 have hl : (b.take 11).length = 11 := by rw [List.length_take];omega
 have hbh : Bytes (b.take 11) := bytes_take bb 11
 have heq := fun W => bytes_eq11 (b.take 11) hl hbh W
 have hk6 : (nums .u8 (b.take 11))[6]? = some (.int .u8 (kOf b)) := by
  rw [nums_at 6 (by omega)]
  unfold kOf
  rw [List.getD_eq_getElem?_getD,List.getElem?_take_of_lt (by decide),List.getD_eq_getElem?_getD]
 have hn1 : getn (((b.take 11).drop 4).take 2) 2 = nOf b := getn_pre 2 (fun j hj => by rw [List.getElem?_take_of_lt hj,List.getElem?_drop,List.getElem?_drop,List.getElem?_take_of_lt (by omega)])
 have hn2 : ((getn (((b.take 11).drop 7).take 4) 4 : Nat) : Int) = eOf b := by unfold eOf;exact congrArg _ (getn_pre 4 (fun j hj => by rw [List.getElem?_take_of_lt hj,List.getElem?_drop,List.getElem?_drop,List.getElem?_take_of_lt (by omega)]))
 have hn3 : getn (((b.take 11).drop 0).take 4) 4 = sOf b := getn_pre 4 (fun j hj => by rw [List.getElem?_take_of_lt hj,List.drop_zero,List.getElem?_take_of_lt (by omega)])
 have hlt := nOf_lt bb
 have het := eOf_lt bb
 have hkt : 0 ≤ kOf b ∧ kOf b ≤ 255 := by
  unfold kOf
  rw [List.getD_eq_getElem?_getD,List.getElem?_eq_getElem (by omega)]
  exact bb _ (List.getElem_mem _)
 have hst := sOf_lt bb
 obtain ⟨h,hh⟩ : ∃ x,b.take 11 = x := ⟨_,rfl⟩
 obtain ⟨n,hn⟩ : ∃ x,nOf b = x := ⟨_,rfl⟩
 obtain ⟨kk,hkk⟩ : ∃ x,kOf b = x := ⟨_,rfl⟩
 obtain ⟨ee,hee⟩ : ∃ x,eOf b = x := ⟨_,rfl⟩
 obtain ⟨ss,hss⟩ : ∃ x,sOf b = x := ⟨_,rfl⟩
 obtain ⟨dE,hdE⟩ : ∃ x,decE b ep = x := ⟨_,rfl⟩
 have hdd : decD b = (b.take (11 + n)).drop 11 := by unfold decD;rw [hn]
 rw [hdd]
 rw [hh] at hl hbh heq hk6 hn1 hn2 hn3 hR hE0
 rw [hn] at hn1 hE0 hlt ⊢
 rw [hkk] at hk6 hE0 hkt ⊢
 rw [hee] at hn2 hE0 het ⊢
 rw [hss] at hn3 hE0 hst
 rw [hdE] at hE0 ⊢
 have GF1 := fun {W : World} {L : List Res} (H : Own w F0 L W) A n c hC hc => get_own H A n c ((h.drop 4).take 2) hC hc (bytes_take (bytes_drop hbh 4) 2)
 have GF2 := fun {W : World} {L : List Res} (H : Own w F0 L W) A n c hC hc => get_own H A n c ((h.drop 7).take 4) hC hc (bytes_take (bytes_drop hbh 7) 4)
 have GF3 := fun {W : World} {L : List Res} (H : Own w F0 L W) A n c hC hc => get_own H A n c ((h.drop 0).take 4) hC hc (bytes_take (bytes_drop hbh 0) 4)
 have hAt := fun W => run_arrayAt11 ad 11 c (by decide) W
 obtain ⟨bl,hbl⟩ : ∃ x,b.length = x := ⟨_,rfl⟩
 rw [hbl] at hC hc hE0 q1 h11 ⊢
 by_cases hz : h = zs 11
 ·rw [if_pos hz] at hE0
  subst hE0
  rw [show (h == zs 11) = true by simp [hz]] at heq
  clear hz
  have qs : (11 : Nat) ≤ c := by omega
  go_enter Tryd.func49,Tryd.ntmps49
  go_wp2_with (first
  |((with_reducible refine gate_dst (N := 4) rfl ?_);refine l_allocA rfl H 76 rfl _ zero76 ?_;clear H;intro g4 W H)
  |((with_reducible refine gate_dst (N := 7) rfl ?_);refine l_allocA rfl H 127 rfl _ zero127 ?_;clear H;intro g7 W H)
  |((with_reducible refine gate_store (t := 127) (p := 7) rfl ?_);refine l_storeW rfl H 127 _ _ rfl _ rfl _ rfl (by (repeat (first|exact In.head|apply In.tail))) _ size127 (by (first|rfl|assumption|omega|(simp only [nums_length];omega)|(simp [nums_length,zs];done)|(simp [nums_length,zs];omega))) (by (first|rfl|assumption|omega|(simp only [nums_length];omega)|(simp [nums_length,zs];done)|(simp [nums_length,zs];omega))) (by (first|exact nums_one|assumption|(intro u hu;simp at hu;subst hu;rfl)|(intro u hu;simp at hu;rcases hu with rfl|rfl|rfl|rfl|rfl|rfl|rfl <;> rfl)|(intro u hu;simp at hu;rcases hu with rfl|rfl|rfl|rfl <;> rfl)|(intro u hu;simp at hu;rcases hu with rfl|rfl|rfl <;> rfl)|(intro u hu;simp at hu;rcases hu with rfl|rfl <;> rfl))) ?_;clear H;intro W H)
  |((with_reducible refine gate_dst (N := 19) rfl ?_);refine l_loadA rfl H 127 _ rfl _ rfl (by (repeat (first|exact In.head|apply In.tail))) _ _ Tryd.underlying127 rfl size127 (by (first|rfl|assumption|omega|(simp only [nums_length];omega)|(simp [nums_length,zs];done)|(simp [nums_length,zs];omega))) ?_)
  |((with_reducible refine gate_store (t := 76) (p := 4) rfl ?_);refine l_storeW rfl H 76 _ _ rfl _ rfl _ rfl (by (repeat (first|exact In.head|apply In.tail))) _ size76 (by (first|rfl|assumption|omega|(simp only [nums_length];omega)|(simp [nums_length,zs];done)|(simp [nums_length,zs];omega))) (by (first|rfl|assumption|omega|(simp only [nums_length];omega)|(simp [nums_length,zs];done)|(simp [nums_length,zs];omega))) (by (first|exact nums_one|assumption|(intro u hu;simp at hu;subst hu;rfl)|(intro u hu;simp at hu;rcases hu with rfl|rfl|rfl|rfl|rfl|rfl|rfl <;> rfl)|(intro u hu;simp at hu;rcases hu with rfl|rfl|rfl|rfl <;> rfl)|(intro u hu;simp at hu;rcases hu with rfl|rfl|rfl <;> rfl)|(intro u hu;simp at hu;rcases hu with rfl|rfl <;> rfl))) ?_;clear H;intro W H)
  |((with_reducible refine gate_dst (N := 18) rfl ?_);refine l_run rfl _ (r_loadRd0 127 _ rfl rfl (hR.below H.below) 11 _ Tryd.underlying127 rfl size127 (by decide) (by rw [nums_length];exact hl)) ?_))
  refine bodyPost_ret (results_ctt (p := 4) (ty := 76) rfl _ _ g4 76 _ (0,0) _ rfl (H.heap (.tail .head)) Tryd.underlying76 rfl size76) rfl ?_
  exact ⟨H.below,.inl ⟨by decide,rfl⟩⟩
 rw [if_neg hz] at hE0
 rw [show (h == zs 11) = false by simp [hz]] at heq
 clear hz
 replace hE0 := Aside0.mk hE0
 have hw1 : wrap64 (n : Int) = (n : Int) := w64 (by omega) (by omega)
 have hw1' : IntKind.i64.wrap (n : Int) = (n : Int) := (i64_w _).trans hw1
 have hw2 : wrap64 kk = kk := w64 (by omega) (by omega)
 have hw2' : IntKind.i64.wrap kk = kk := (i64_w _).trans hw2
 have hw3 : IntKind.u32.wrap ee = ee := wu32 het.1 het.2
 have hw4 : IntKind.u32.wrap (ss : Int) = (ss : Int) := wu32 (by omega) (by omega)
 go_enter Tryd.func49,Tryd.ntmps49
 go_wp2_with (first
  |((with_reducible refine gate_dst (N := 4) rfl ?_);refine l_allocA rfl H 76 rfl _ zero76 ?_;clear H;intro g4 W H)
  |((with_reducible refine gate_dst (N := 7) rfl ?_);refine l_allocA rfl H 127 rfl _ zero127 ?_;clear H;intro g7 W H)
  |((with_reducible refine gate_store (t := 127) (p := 7) rfl ?_);refine l_storeW rfl H 127 _ _ rfl _ rfl _ rfl (by (repeat (first|exact In.head|apply In.tail))) _ size127 (by (first|rfl|assumption|omega|(simp only [nums_length];omega)|(simp [nums_length,zs];done)|(simp [nums_length,zs];omega))) (by (first|rfl|assumption|omega|(simp only [nums_length];omega)|(simp [nums_length,zs];done)|(simp [nums_length,zs];omega))) (by (first|exact nums_one|assumption|(intro u hu;simp at hu;subst hu;rfl)|(intro u hu;simp at hu;rcases hu with rfl|rfl|rfl|rfl|rfl|rfl|rfl <;> rfl)|(intro u hu;simp at hu;rcases hu with rfl|rfl|rfl|rfl <;> rfl)|(intro u hu;simp at hu;rcases hu with rfl|rfl|rfl <;> rfl)|(intro u hu;simp at hu;rcases hu with rfl|rfl <;> rfl))) ?_;clear H;intro W H)
  |((with_reducible refine gate_dst (N := 19) rfl ?_);refine l_loadA rfl H 127 _ rfl _ rfl (by (repeat (first|exact In.head|apply In.tail))) _ _ Tryd.underlying127 rfl size127 (by (first|rfl|assumption|omega|(simp only [nums_length];omega)|(simp [nums_length,zs];done)|(simp [nums_length,zs];omega))) ?_)
  |((with_reducible refine gate_dst (N := 18) rfl ?_);refine l_run rfl _ (r_loadRd0 127 _ rfl rfl (hR.below H.below) 11 _ Tryd.underlying127 rfl size127 (by decide) (by rw [nums_length];exact hl)) ?_)
  |(go_at_call 69;(with_reducible refine (GF1 H _ _ _ (H.C .head 4 2 (by omega) (by decide)) (by decide) (by decide)).mono ?_);clear H;rintro e W ⟨rfl,H⟩;rw [hn1]))
 refine start_ (n := 9) (S := Own _ _ _) (ds := [8]) #[f_,f_,f_,f_,f_,f_,f_,f_,f_] (by kernel_rfl) rfl rfl H.drew (fun hHeld => ?_)
 replace H := H.drew
 generalize World.drew _ = W at H hHeld ⊢
 refine pure_ (i := 0) (N := some 26) (v := ?_) (a' := ?_) #[t_,f_,f_,f_,f_,f_,f_,f_,f_] rfl rfl (by kernel_rfl) (fun _ _ _ h => h) (Or.inl ⟨by rfl,?_⟩) ?_ ?_
 rotate_left
 ·intro w'
  go_simp
  with_reducible rfl
 rotate_left
 ·simp only [ps_]
  rfl
 refine pure_ (i := 3) (N := some 29) (v := ?_) (a' := ?_) #[t_,f_,f_,t_,f_,f_,f_,f_,f_] rfl rfl (by kernel_rfl) (fun _ _ _ h => h) (Or.inl ⟨by rfl,?_⟩) ?_ ?_
 rotate_left
 ·intro w'
  go_simp
  with_reducible rfl
 rotate_left
 ·simp only [ps_]
  rfl
 refine take_load1 (i := 1) (N := some 27) (a' := ?_) #[t_,t_,f_,t_,f_,f_,f_,f_,f_] rfl rfl (by kernel_rfl) (fun _ _ _ _ h => h) (by rfl) hHeld 5 _ rfl _ _ rfl (by (repeat (first|exact In.head|apply In.tail))) _ Tryd.underlying5 rfl _ (by first|rfl|assumption|exact nums_at _ (by omega)) ?_ ?_
 rotate_left
 ·simp only [ps_]
  rfl
 refine pure_ (i := 2) (N := some 28) (v := ?_) (a' := ?_) #[t_,t_,t_,t_,f_,f_,f_,f_,f_] rfl rfl (by kernel_rfl) (fun _ _ _ h => h) (Or.inl ⟨by rfl,?_⟩) ?_ ?_
 rotate_left
 ·intro w'
  go_simp
  with_reducible rfl
 rotate_left
 ·simp only [ps_]
  rfl
 refine two_ (i := 4) (j := 7) (Ni := some 30) (Nj := some 9) #[t_,t_,t_,t_,t_,f_,f_,f_,f_] #[t_,t_,t_,t_,f_,f_,f_,t_,f_] rfl rfl rfl rfl (by kernel_rfl) (by decide) (by decide) (fun K hK => ?_) (fun K hK => ?_)
 focus
  refine callK_ (GF2 H (some ⟨g7,7,none⟩) 4 4 (by first|exact H.C .head 7 4 (by omega) (by decide)|exact H.C (.tail .head) 7 4 (by omega) (by decide)) (by decide) (by decide)) Tryd.func69 (by kernel_rfl) rfl (by rfl) rfl rfl (by (try simp only [List.map_toArray,List.map_cons,List.map_nil]);first|done|rfl) ?_
  rintro e W ⟨rfl,H'⟩
  refine ⟨_,rfl,?_⟩
  replace H := H'
  clear H'
  rw [hn2]
  refine hK.out _ _ ?_ (fun hHeld => ?_)
  ·first|trivial|exact H|exact H.del .head|exact (H.del .head).del .head|exact H.heap (by (repeat (first|exact In.head|apply In.tail)))
  clear hK K
  refine norm_ (a' := ?_) ?_ ?_
  rotate_left
  ·show Act.put _ (some 30) _ = _
   simp only [ps_]
   rfl
  refine pure_ (i := 5) (N := some 31) (v := ?_) (a' := ?_) #[t_,t_,t_,t_,t_,t_,f_,f_,f_] rfl rfl (by kernel_rfl) (fun _ _ _ h => h) (Or.inl ⟨by rfl,?_⟩) ?_ ?_
  rotate_left
  ·intro w'
   go_simp
   with_reducible rfl
  rotate_left
  ·simp only [ps_]
   rfl
  refine pure_ (i := 6) (N := some 32) (v := ?_) (a' := ?_) #[t_,t_,t_,t_,t_,t_,t_,f_,f_] rfl rfl (by kernel_rfl) (fun _ _ _ h => h) (Or.inl ⟨by rfl,?_⟩) ?_ ?_
  rotate_left
  ·intro w'
   go_simp
   with_reducible rfl
  rotate_left
  ·simp only [ps_]
   rfl
  refine one_ (i := 7) (N := some 9) #[t_,t_,t_,t_,t_,t_,t_,t_,f_] rfl rfl (by kernel_rfl) (by decide) (fun K hK => ?_)
  refine wanted_ rfl ?_
  refine w_allocA H 76 rfl _ zero76 ?_
  clear H
  intro g9 W H
  refine hK.out _ _ ?_ (fun hHeld => ?_)
  ·first|trivial|exact H|exact H.del .head|exact (H.del .head).del .head|exact H.heap (by (repeat (first|exact In.head|apply In.tail)))
  clear hK K
  refine norm_ (a' := ?_) ?_ ?_
  rotate_left
  ·show Act.put _ (some 9) _ = _
   simp only [ps_]
   rfl
 rotate_left
 focus
  refine wanted_ rfl ?_
  refine w_allocA H 76 rfl _ zero76 ?_
  clear H
  intro g9 W H
  refine hK.out _ _ ?_ (fun hHeld => ?_)
  ·first|trivial|exact H|exact H.del .head|exact (H.del .head).del .head|exact H.heap (by (repeat (first|exact In.head|apply In.tail)))
  clear hK K
  refine norm_ (a' := ?_) ?_ ?_
  rotate_left
  ·show Act.put _ (some 9) _ = _
   simp only [ps_]
   rfl
  refine one_ (i := 4) (N := some 30) #[t_,t_,t_,t_,t_,f_,f_,t_,f_] rfl rfl (by kernel_rfl) (by decide) (fun K hK => ?_)
  refine callK_ (GF2 H (some ⟨g7,7,none⟩) 4 4 (by first|exact H.C .head 7 4 (by omega) (by decide)|exact H.C (.tail .head) 7 4 (by omega) (by decide)) (by decide) (by decide)) Tryd.func69 (by kernel_rfl) rfl (by rfl) rfl rfl (by (try simp only [List.map_toArray,List.map_cons,List.map_nil]);first|done|rfl) ?_
  rintro e W ⟨rfl,H'⟩
  refine ⟨_,rfl,?_⟩
  replace H := H'
  clear H'
  rw [hn2]
  refine hK.out _ _ ?_ (fun hHeld => ?_)
  ·first|trivial|exact H|exact H.del .head|exact (H.del .head).del .head|exact H.heap (by (repeat (first|exact In.head|apply In.tail)))
  clear hK K
  refine norm_ (a' := ?_) ?_ ?_
  rotate_left
  ·show Act.put _ (some 30) _ = _
   simp only [ps_]
   rfl
  refine pure_ (i := 5) (N := some 31) (v := ?_) (a' := ?_) #[t_,t_,t_,t_,t_,t_,f_,t_,f_] rfl rfl (by kernel_rfl) (fun _ _ _ h => h) (Or.inl ⟨by rfl,?_⟩) ?_ ?_
  rotate_left
  ·intro w'
   go_simp
   with_reducible rfl
  rotate_left
  ·simp only [ps_]
   rfl
  refine pure_ (i := 6) (N := some 32) (v := ?_) (a' := ?_) #[t_,t_,t_,t_,t_,t_,t_,t_,f_] rfl rfl (by kernel_rfl) (fun _ _ _ h => h) (Or.inl ⟨by rfl,?_⟩) ?_ ?_
  rotate_left
  ·intro w'
   go_simp
   with_reducible rfl
  rotate_left
  ·simp only [ps_]
   rfl
  skip
 all_goals
  refine last_ (i := 8) (N := none) #[t_,t_,t_,t_,t_,t_,t_,t_,t_] rfl rfl (by kernel_rfl) (by decide) (fun K hK => ?_)
  refine wanted_ rfl ?_
  refine w_storeW H 76 _ _ rfl _ rfl _ rfl (by (repeat (first|exact In.head|apply In.tail))) _ size76 (by (first|rfl|assumption|omega|(simp only [nums_length];omega)|(simp [nums_length,zs];done)|(simp [nums_length,zs];omega))) (by (first|rfl|assumption|omega|(simp only [nums_length];omega)|(simp [nums_length,zs];done)|(simp [nums_length,zs];omega))) (by (first|exact nums_one|assumption|(intro u hu;simp at hu;subst hu;rfl)|(intro u hu;simp at hu;rcases hu with rfl|rfl|rfl|rfl|rfl|rfl|rfl <;> rfl)|(intro u hu;simp at hu;rcases hu with rfl|rfl|rfl|rfl <;> rfl)|(intro u hu;simp at hu;rcases hu with rfl|rfl|rfl <;> rfl)|(intro u hu;simp at hu;rcases hu with rfl|rfl <;> rfl))) ?_
  clear H
  intro W H
  refine hK.out _ _ ?_
  clear hK K
  refine done_ (by kernel_rfl) ?_
  clear hHeld
 all_goals
  clear hh hn hkk hee hss hdE hdd heq hk6 hn1 hn2 GF1 GF2 hAt hbl hw1 hw1' hw2 hw2' hw3
  have FRt := fun W => frag_right.calls kk ee none 0 [] _ W ⟨rfl,by simp,fun h => absurd h (by simp)⟩ (Nat.le_refl _) (right_eq kk ee [])
  simp only [List.length_nil] at FRt
  obtain ⟨m,hm⟩ : ∃ m,11 + n = m := ⟨_,rfl⟩
  have hw5 : wrap64 (11 + (n : Int)) = (m : Int) := by rw [show (11 : Int) + n = (m : Int) by omega];exact w64 (by omega) (by omega)
  have hw5' : IntKind.i64.wrap (11 + (n : Int)) = (m : Int) := (i64_w _).trans hw5
  replace hE0 := hE0.out
  rw [hm] at hE0
  generalize rightF kk 0 = r0 at FRt hE0
  replace hE0 := Aside0.mk hE0
  rcases r0 with _|_
  ·have hE0 := hE0.out
   rw [if_pos (.inl rfl)] at hE0
   subst hE0
   go_wp2_with (first
  |((with_reducible refine gate_dst (N := 44) rfl ?_);refine l_loadA rfl H 76 _ rfl _ rfl (by (repeat (first|exact In.head|apply In.tail))) _ _ Tryd.underlying76 rfl size76 (by (first|rfl|assumption|omega|(simp only [nums_length];omega)|(simp [nums_length,zs];done)|(simp [nums_length,zs];omega))) ?_)
  |((with_reducible refine gate_dst (N := 53) rfl ?_);refine gate_guard (by rfl) ?_;refine l_load1 rfl H 67 _ rfl _ _ rfl (by (repeat (first|exact In.head|apply In.tail))) _ Tryd.underlying67 rfl _ (by first|rfl|assumption|exact nums_at _ (by omega)) ?_)
  |((with_reducible refine gate_store (t := 76) (p := 4) rfl ?_);refine l_storeW rfl H 76 _ _ rfl _ rfl _ rfl (by (repeat (first|exact In.head|apply In.tail))) _ size76 (by (first|rfl|assumption|omega|(simp only [nums_length];omega)|(simp [nums_length,zs];done)|(simp [nums_length,zs];omega))) (by (first|rfl|assumption|omega|(simp only [nums_length];omega)|(simp [nums_length,zs];done)|(simp [nums_length,zs];omega))) (by (first|exact nums_one|assumption|(intro u hu;simp at hu;subst hu;rfl)|(intro u hu;simp at hu;rcases hu with rfl|rfl|rfl|rfl|rfl|rfl|rfl <;> rfl)|(intro u hu;simp at hu;rcases hu with rfl|rfl|rfl|rfl <;> rfl)|(intro u hu;simp at hu;rcases hu with rfl|rfl|rfl <;> rfl)|(intro u hu;simp at hu;rcases hu with rfl|rfl <;> rfl))) ?_;clear H;intro W H)
  |(go_at_call 70;(with_reducible refine (FRt _).mono ?_);rintro e W ⟨rfl,hb⟩;replace H := H.to hb;clear hb))
   refine bodyPost_ret (results_ctt (p := 4) (ty := 76) rfl _ _ g4 76 _ (0,0) _ rfl (H.heap (.tail (.tail .head))) Tryd.underlying76 rfl size76) rfl ?_
   exact ⟨H.below,.inl ⟨by decide,rfl⟩⟩
  by_cases g1 : 197 < n
  ·have hE0 := hE0.out
   rw [if_pos (.inr (.inl g1))] at hE0
   subst hE0
   have q5 : decide (197 < (n : Int)) = true := decide_eq_true (Int.ofNat_lt.2 g1)
   clear g1
   go_wp2_with (first
  |((with_reducible refine gate_dst (N := 44) rfl ?_);refine l_loadA rfl H 76 _ rfl _ rfl (by (repeat (first|exact In.head|apply In.tail))) _ _ Tryd.underlying76 rfl size76 (by (first|rfl|assumption|omega|(simp only [nums_length];omega)|(simp [nums_length,zs];done)|(simp [nums_length,zs];omega))) ?_)
  |((with_reducible refine gate_dst (N := 53) rfl ?_);refine gate_guard (by rfl) ?_;refine l_load1 rfl H 67 _ rfl _ _ rfl (by (repeat (first|exact In.head|apply In.tail))) _ Tryd.underlying67 rfl _ (by first|rfl|assumption|exact nums_at _ (by omega)) ?_)
  |((with_reducible refine gate_store (t := 76) (p := 4) rfl ?_);refine l_storeW rfl H 76 _ _ rfl _ rfl _ rfl (by (repeat (first|exact In.head|apply In.tail))) _ size76 (by (first|rfl|assumption|omega|(simp only [nums_length];omega)|(simp [nums_length,zs];done)|(simp [nums_length,zs];omega))) (by (first|rfl|assumption|omega|(simp only [nums_length];omega)|(simp [nums_length,zs];done)|(simp [nums_length,zs];omega))) (by (first|exact nums_one|assumption|(intro u hu;simp at hu;subst hu;rfl)|(intro u hu;simp at hu;rcases hu with rfl|rfl|rfl|rfl|rfl|rfl|rfl <;> rfl)|(intro u hu;simp at hu;rcases hu with rfl|rfl|rfl|rfl <;> rfl)|(intro u hu;simp at hu;rcases hu with rfl|rfl|rfl <;> rfl)|(intro u hu;simp at hu;rcases hu with rfl|rfl <;> rfl))) ?_;clear H;intro W H)
  |(go_at_call 70;(with_reducible refine (FRt _).mono ?_);rintro e W ⟨rfl,hb⟩;replace H := H.to hb;clear hb))
   refine bodyPost_ret (results_ctt (p := 4) (ty := 76) rfl _ _ g4 76 _ (0,0) _ rfl (H.heap (.tail (.tail .head))) Tryd.underlying76 rfl size76) rfl ?_
   exact ⟨H.below,.inl ⟨by decide,rfl⟩⟩
  have q5 : decide (197 < (n : Int)) = false := decide_eq_false (fun h => g1 (Int.ofNat_lt.1 h))
  by_cases g2 : ¬ ee = ep
  ·have hE0 := hE0.out
   rw [if_pos (.inr (.inr g2))] at hE0
   subst hE0
   have q6 : (ee != ep) = true := by simp [g2]
   clear g2 g1
   go_wp2_with (first
  |((with_reducible refine gate_dst (N := 44) rfl ?_);refine l_loadA rfl H 76 _ rfl _ rfl (by (repeat (first|exact In.head|apply In.tail))) _ _ Tryd.underlying76 rfl size76 (by (first|rfl|assumption|omega|(simp only [nums_length];omega)|(simp [nums_length,zs];done)|(simp [nums_length,zs];omega))) ?_)
  |((with_reducible refine gate_dst (N := 53) rfl ?_);refine gate_guard (by rfl) ?_;refine l_load1 rfl H 67 _ rfl _ _ rfl (by (repeat (first|exact In.head|apply In.tail))) _ Tryd.underlying67 rfl _ (by first|rfl|assumption|exact nums_at _ (by omega)) ?_)
  |((with_reducible refine gate_store (t := 76) (p := 4) rfl ?_);refine l_storeW rfl H 76 _ _ rfl _ rfl _ rfl (by (repeat (first|exact In.head|apply In.tail))) _ size76 (by (first|rfl|assumption|omega|(simp only [nums_length];omega)|(simp [nums_length,zs];done)|(simp [nums_length,zs];omega))) (by (first|rfl|assumption|omega|(simp only [nums_length];omega)|(simp [nums_length,zs];done)|(simp [nums_length,zs];omega))) (by (first|exact nums_one|assumption|(intro u hu;simp at hu;subst hu;rfl)|(intro u hu;simp at hu;rcases hu with rfl|rfl|rfl|rfl|rfl|rfl|rfl <;> rfl)|(intro u hu;simp at hu;rcases hu with rfl|rfl|rfl|rfl <;> rfl)|(intro u hu;simp at hu;rcases hu with rfl|rfl|rfl <;> rfl)|(intro u hu;simp at hu;rcases hu with rfl|rfl <;> rfl))) ?_;clear H;intro W H)
  |(go_at_call 70;(with_reducible refine (FRt _).mono ?_);rintro e W ⟨rfl,hb⟩;replace H := H.to hb;clear hb))
   refine bodyPost_ret (results_ctt (p := 4) (ty := 76) rfl _ _ g4 76 _ (0,0) _ rfl (H.heap (.tail (.tail .head))) Tryd.underlying76 rfl size76) rfl ?_
   exact ⟨H.below,.inl ⟨by decide,rfl⟩⟩
  replace g2 := Decidable.not_not.1 g2
  have q6 : (ee != ep) = false := by simp [g2]
  replace hE0 := hE0.out
  rw [if_neg (by rintro (h|h|h);exact absurd h (by decide);exact g1 h;exact h g2)] at hE0
  replace hE0 := Aside0.mk hE0
  by_cases g3 : bl < m
  ·have hE0 := hE0.out
   rw [if_pos g3] at hE0
   subst hE0
   have q7 : decide (bl < m) = true := decide_eq_true g3
   clear g2 g1 g3
   go_wp2_with (first
  |((with_reducible refine gate_dst (N := 44) rfl ?_);refine l_loadA rfl H 76 _ rfl _ rfl (by (repeat (first|exact In.head|apply In.tail))) _ _ Tryd.underlying76 rfl size76 (by (first|rfl|assumption|omega|(simp only [nums_length];omega)|(simp [nums_length,zs];done)|(simp [nums_length,zs];omega))) ?_)
  |((with_reducible refine gate_dst (N := 53) rfl ?_);refine gate_guard (by rfl) ?_;refine l_load1 rfl H 67 _ rfl _ _ rfl (by (repeat (first|exact In.head|apply In.tail))) _ Tryd.underlying67 rfl _ (by first|rfl|assumption|exact nums_at _ (by omega)) ?_)
  |((with_reducible refine gate_store (t := 76) (p := 4) rfl ?_);refine l_storeW rfl H 76 _ _ rfl _ rfl _ rfl (by (repeat (first|exact In.head|apply In.tail))) _ size76 (by (first|rfl|assumption|omega|(simp only [nums_length];omega)|(simp [nums_length,zs];done)|(simp [nums_length,zs];omega))) (by (first|rfl|assumption|omega|(simp only [nums_length];omega)|(simp [nums_length,zs];done)|(simp [nums_length,zs];omega))) (by (first|exact nums_one|assumption|(intro u hu;simp at hu;subst hu;rfl)|(intro u hu;simp at hu;rcases hu with rfl|rfl|rfl|rfl|rfl|rfl|rfl <;> rfl)|(intro u hu;simp at hu;rcases hu with rfl|rfl|rfl|rfl <;> rfl)|(intro u hu;simp at hu;rcases hu with rfl|rfl|rfl <;> rfl)|(intro u hu;simp at hu;rcases hu with rfl|rfl <;> rfl))) ?_;clear H;intro W H)
  |(go_at_call 70;(with_reducible refine (FRt _).mono ?_);rintro e W ⟨rfl,hb⟩;replace H := H.to hb;clear hb))
   refine bodyPost_ret (results_ctt (p := 4) (ty := 76) rfl _ _ g4 76 _ (0,0) _ rfl (H.heap (.tail (.tail .head))) Tryd.underlying76 rfl size76) rfl ?_
   exact ⟨H.below,.inl ⟨by decide,rfl⟩⟩
  have q7 : decide (bl < m) = false := decide_eq_false g3
  replace hE0 := hE0.out
  rw [if_neg g3] at hE0
  replace hE0 := Aside0.mk hE0
  have hmb : m ≤ bl := Nat.le_of_not_lt g3
  have h11m : 11 ≤ m := by rw [← hm];exact Nat.le_add_right 11 n
  have hcut := cut_C hC 4 m c (Nat.le_trans (by decide) h11m) hmb hc
  have hcut2 := cut_C hC 11 m c h11m hmb hc
  have hn197 : n ≤ 197 := Nat.le_of_not_lt g1
  clear g1 g2 g3
  have hcb : Bytes ((b.take m).drop 4) := bytes_drop (bytes_take bb m) 4
  have OF := fun {W : World} {L : List Res} (H : Own w F0 L W) => of_own H hH (dropA (some ad) 4 c 1) (m - 4) (c - 4) ((b.take m).drop 4) (Kd.C_below hcut H.below) (Nat.sub_le_sub_right (Nat.le_trans hmb hc) 4) hcb
  have MF := fun {W : World} {L : List Res} (H : Own w F0 L W) => mask_own H ((b.take m).drop 4)
  have hsm : (b.take (11 + n)).drop 11 = (b.take m).drop 11 := by rw [hm]
  generalize (b.take m).drop 4 = BL at *
  generalize hDL : (b.take m).drop 11 = DL at *
  generalize moreI 0 BL = mo at OF MF
  generalize sumN BL = sm at *
  go_wp2_with (first
  |((with_reducible refine gate_dst (N := 44) rfl ?_);refine l_loadA rfl H 76 _ rfl _ rfl (by (repeat (first|exact In.head|apply In.tail))) _ _ Tryd.underlying76 rfl size76 (by (first|rfl|assumption|omega|(simp only [nums_length];omega)|(simp [nums_length,zs];done)|(simp [nums_length,zs];omega))) ?_)
  |((with_reducible refine gate_dst (N := 53) rfl ?_);refine gate_guard (by rfl) ?_;refine l_load1 rfl H 67 _ rfl _ _ rfl (by (repeat (first|exact In.head|apply In.tail))) _ Tryd.underlying67 rfl _ (by first|rfl|assumption|exact nums_at _ (by omega)) ?_)
  |(go_at_call 70;(with_reducible refine (FRt _).mono ?_);rintro e W ⟨rfl,hb⟩;replace H := H.to hb;clear hb))
  by_cases g4 : ¬ ss = sm
  ·have hE0 := hE0.out
   rw [if_pos g4] at hE0
   subst hE0
   have q8 : ((ss : Int) != (sm : Int)) = true := by rw [bne_iff_ne];exact fun h => g4 (Int.ofNat_inj.1 h)
   clear g4
   refine start_ (n := 10) (S := Own _ _ _) (ds := []) #[f_,f_,f_,f_,f_,f_,f_,f_,f_,f_] (by kernel_rfl) rfl rfl H.drew (fun hHeld => ?_)
   replace H := H.drew
   generalize World.drew _ = W at H hHeld ⊢
   refine pure_ (i := 0) (N := some 65) (v := ?_) (a' := ?_) #[t_,f_,f_,f_,f_,f_,f_,f_,f_,f_] rfl rfl (by kernel_rfl) (fun _ _ _ h => h) (Or.inl ⟨by rfl,?_⟩) ?_ ?_
   rotate_left
   ·intro w'
    go_simp
    with_reducible rfl
   rotate_left
   ·simp only [ps_]
    rfl
   refine pure_ (i := 3) (N := some 68) (v := ?_) (a' := ?_) #[t_,f_,f_,t_,f_,f_,f_,f_,f_,f_] rfl rfl (by kernel_rfl) (fun _ _ _ h => h) (Or.inl ⟨by rfl,?_⟩) ?_ ?_
   rotate_left
   ·intro w'
    go_simp
    with_reducible rfl
   rotate_left
   ·simp only [ps_]
    rfl
   refine pure_ (i := 4) (N := some 69) (v := ?_) (a' := ?_) #[t_,f_,f_,t_,t_,f_,f_,f_,f_,f_] rfl rfl (by kernel_rfl) (fun _ _ _ h => h) (Or.inl ⟨by rfl,?_⟩) ?_ ?_
   rotate_left
   ·intro w'
    go_simp
    with_reducible rfl
   rotate_left
   ·simp only [ps_]
    rfl
   refine take_run (i := 5) (N := some 70) (a' := ?_) #[t_,f_,f_,t_,t_,t_,f_,f_,f_,f_] rfl rfl (by kernel_rfl) (fun _ _ _ _ h => h) (by rfl) hHeld (.slice (dropA (some ad) 4 c 1) (m - 4) (c - 4)) (fun X HX => x_slice_lohi _ _ _ rfl rfl Tryd.underlying38 size5 4 m rfl rfl (Nat.le_trans (by decide) h11m) (Nat.le_trans hmb hc) X) ?_ ?_
   rotate_left
   ·simp only [ps_]
    rfl
   refine one_ (i := 1) (N := some 66) #[t_,t_,f_,t_,t_,t_,f_,f_,f_,f_] rfl rfl (by kernel_rfl) (by decide) (fun K hK => ?_)
   refine callK_ (GF3 H (some ⟨g7,0,none⟩) 4 11 (H.C (.tail .head) 0 4 (by rw [hl];decide) (by decide)) (by decide) (by decide)) Tryd.func69 (by kernel_rfl) rfl (by rfl) rfl rfl (by (try simp only [List.map_toArray,List.map_cons,List.map_nil]);first|done|rfl) ?_
   rintro e W ⟨rfl,H'⟩
   refine ⟨_,rfl,?_⟩
   replace H := H'
   clear H'
   rw [hn3]
   refine hK.out _ _ ?_ (fun hHeld => ?_)
   ·first|trivial|exact H|exact H.del .head|exact (H.del .head).del .head|exact H.heap (by (repeat (first|exact In.head|apply In.tail)))
   clear hK K
   refine norm_ (a' := ?_) ?_ ?_
   rotate_left
   ·show Act.put _ (some 66) _ = _
    simp only [ps_]
    rfl
   refine pure_ (i := 2) (N := some 67) (v := ?_) (a' := ?_) #[t_,t_,t_,t_,t_,t_,f_,f_,f_,f_] rfl rfl (by kernel_rfl) (fun _ _ _ h => h) (Or.inl ⟨by rfl,?_⟩) ?_ ?_
   rotate_left
   ·intro w'
    go_simp
    with_reducible rfl
   rotate_left
   ·simp only [ps_]
    rfl
   refine one_ (i := 6) (N := some 71) #[t_,t_,t_,t_,t_,t_,t_,f_,f_,f_] rfl rfl (by kernel_rfl) (by decide) (fun K hK => ?_)
   refine callK_ (OF H) Tryd.func72 (by kernel_rfl) rfl (by rfl) rfl rfl (by (try simp only [List.map_toArray,List.map_cons,List.map_nil]);first|done|rfl) ?_
   rintro e W ⟨rfl,H'⟩
   refine ⟨_,rfl,?_⟩
   replace H := H'
   clear H'
   refine hK.out _ _ ?_ (fun hHeld => ?_)
   ·first|trivial|exact H|exact H.del .head|exact (H.del .head).del .head|exact H.heap (by (repeat (first|exact In.head|apply In.tail)))
   clear hK K
   refine norm_ (a' := ?_) ?_ ?_
   rotate_left
   ·show Act.put _ (some 71) _ = _
    simp only [ps_]
    rfl
   refine one_ (i := 7) (N := some 72) #[t_,t_,t_,t_,t_,t_,t_,t_,f_,f_] rfl rfl (by kernel_rfl) (by decide) (fun K hK => ?_)
   refine callK_ (MF H) Tryd.func71 (by kernel_rfl) rfl (by rfl) rfl rfl (by (try simp only [List.map_toArray,List.map_cons,List.map_nil]);first|done|rfl) ?_
   rintro e W ⟨rfl,H'⟩
   refine ⟨_,rfl,?_⟩
   replace H := H'
   clear H'
   refine hK.out _ _ ?_ (fun hHeld => ?_)
   ·first|trivial|exact H|exact H.del .head|exact (H.del .head).del .head|exact H.heap (by (repeat (first|exact In.head|apply In.tail)))
   clear hK K
   refine norm_ (a' := ?_) ?_ ?_
   rotate_left
   ·show Act.put _ (some 72) _ = _
    simp only [ps_]
    rfl
   refine pure_ (i := 8) (N := some 73) (v := ?_) (a' := ?_) #[t_,t_,t_,t_,t_,t_,t_,t_,t_,f_] rfl rfl (by kernel_rfl) (fun _ _ _ h => h) (Or.inl ⟨by rfl,?_⟩) ?_ ?_
   rotate_left
   ·intro w'
    go_simp
    with_reducible rfl
   rotate_left
   ·simp only [ps_]
    rfl
   refine pure_ (i := 9) (N := some 64) (v := ?_) (a' := ?_) #[t_,t_,t_,t_,t_,t_,t_,t_,t_,t_] rfl rfl (by kernel_rfl) (fun _ _ _ h => h) (Or.inl ⟨by rfl,?_⟩) ?_ ?_
   rotate_left
   ·intro w'
    go_simp
    with_reducible rfl
   rotate_left
   ·simp only [ps_]
    rfl
   refine done_ (by kernel_rfl) ?_
   clear hHeld
   go_wp2_with (first
  |((with_reducible refine gate_store (t := 76) (p := 4) rfl ?_);refine l_storeW rfl H 76 _ _ rfl _ rfl _ rfl (by (repeat (first|exact In.head|apply In.tail))) _ size76 (by (first|rfl|assumption|omega|(simp only [nums_length];omega)|(simp [nums_length,zs];done)|(simp [nums_length,zs];omega))) (by (first|rfl|assumption|omega|(simp only [nums_length];omega)|(simp [nums_length,zs];done)|(simp [nums_length,zs];omega))) (by (first|exact nums_one|assumption|(intro u hu;simp at hu;subst hu;rfl)|(intro u hu;simp at hu;rcases hu with rfl|rfl|rfl|rfl|rfl|rfl|rfl <;> rfl)|(intro u hu;simp at hu;rcases hu with rfl|rfl|rfl|rfl <;> rfl)|(intro u hu;simp at hu;rcases hu with rfl|rfl|rfl <;> rfl)|(intro u hu;simp at hu;rcases hu with rfl|rfl <;> rfl))) ?_;clear H;intro W H))
   refine bodyPost_ret (results_ctt (p := 4) (ty := 76) rfl _ _ g4 76 _ (0,0) _ rfl (H.heap (.tail (.tail .head))) Tryd.underlying76 rfl size76) rfl ?_
   exact ⟨H.below,.inl ⟨by decide,rfl⟩⟩
  have hE0 := hE0.out
  rw [if_neg g4] at hE0
  subst hE0
  have q8 : ((ss : Int) != (sm : Int)) = false := by rw [Decidable.not_not.1 g4];simp
  clear g4
  refine start_ (n := 10) (S := Own _ _ _) (ds := []) #[f_,f_,f_,f_,f_,f_,f_,f_,f_,f_] (by kernel_rfl) rfl rfl H.drew (fun hHeld => ?_)
  replace H := H.drew
  generalize World.drew _ = W at H hHeld ⊢
  refine pure_ (i := 0) (N := some 65) (v := ?_) (a' := ?_) #[t_,f_,f_,f_,f_,f_,f_,f_,f_,f_] rfl rfl (by kernel_rfl) (fun _ _ _ h => h) (Or.inl ⟨by rfl,?_⟩) ?_ ?_
  rotate_left
  ·intro w'
   go_simp
   with_reducible rfl
  rotate_left
  ·simp only [ps_]
   rfl
  refine pure_ (i := 3) (N := some 68) (v := ?_) (a' := ?_) #[t_,f_,f_,t_,f_,f_,f_,f_,f_,f_] rfl rfl (by kernel_rfl) (fun _ _ _ h => h) (Or.inl ⟨by rfl,?_⟩) ?_ ?_
  rotate_left
  ·intro w'
   go_simp
   with_reducible rfl
  rotate_left
  ·simp only [ps_]
   rfl
  refine pure_ (i := 4) (N := some 69) (v := ?_) (a' := ?_) #[t_,f_,f_,t_,t_,f_,f_,f_,f_,f_] rfl rfl (by kernel_rfl) (fun _ _ _ h => h) (Or.inl ⟨by rfl,?_⟩) ?_ ?_
  rotate_left
  ·intro w'
   go_simp
   with_reducible rfl
  rotate_left
  ·simp only [ps_]
   rfl
  refine take_run (i := 5) (N := some 70) (a' := ?_) #[t_,f_,f_,t_,t_,t_,f_,f_,f_,f_] rfl rfl (by kernel_rfl) (fun _ _ _ _ h => h) (by rfl) hHeld (.slice (dropA (some ad) 4 c 1) (m - 4) (c - 4)) (fun X HX => x_slice_lohi _ _ _ rfl rfl Tryd.underlying38 size5 4 m rfl rfl (Nat.le_trans (by decide) h11m) (Nat.le_trans hmb hc) X) ?_ ?_
  rotate_left
  ·simp only [ps_]
   rfl
  refine one_ (i := 1) (N := some 66) #[t_,t_,f_,t_,t_,t_,f_,f_,f_,f_] rfl rfl (by kernel_rfl) (by decide) (fun K hK => ?_)
  refine callK_ (GF3 H (some ⟨g7,0,none⟩) 4 11 (H.C (.tail .head) 0 4 (by rw [hl];decide) (by decide)) (by decide) (by decide)) Tryd.func69 (by kernel_rfl) rfl (by rfl) rfl rfl (by (try simp only [List.map_toArray,List.map_cons,List.map_nil]);first|done|rfl) ?_
  rintro e W ⟨rfl,H'⟩
  refine ⟨_,rfl,?_⟩
  replace H := H'
  clear H'
  rw [hn3]
  refine hK.out _ _ ?_ (fun hHeld => ?_)
  ·first|trivial|exact H|exact H.del .head|exact (H.del .head).del .head|exact H.heap (by (repeat (first|exact In.head|apply In.tail)))
  clear hK K
  refine norm_ (a' := ?_) ?_ ?_
  rotate_left
  ·show Act.put _ (some 66) _ = _
   simp only [ps_]
   rfl
  refine pure_ (i := 2) (N := some 67) (v := ?_) (a' := ?_) #[t_,t_,t_,t_,t_,t_,f_,f_,f_,f_] rfl rfl (by kernel_rfl) (fun _ _ _ h => h) (Or.inl ⟨by rfl,?_⟩) ?_ ?_
  rotate_left
  ·intro w'
   go_simp
   with_reducible rfl
  rotate_left
  ·simp only [ps_]
   rfl
  refine one_ (i := 6) (N := some 71) #[t_,t_,t_,t_,t_,t_,t_,f_,f_,f_] rfl rfl (by kernel_rfl) (by decide) (fun K hK => ?_)
  refine callK_ (OF H) Tryd.func72 (by kernel_rfl) rfl (by rfl) rfl rfl (by (try simp only [List.map_toArray,List.map_cons,List.map_nil]);first|done|rfl) ?_
  rintro e W ⟨rfl,H'⟩
  refine ⟨_,rfl,?_⟩
  replace H := H'
  clear H'
  refine hK.out _ _ ?_ (fun hHeld => ?_)
  ·first|trivial|exact H|exact H.del .head|exact (H.del .head).del .head|exact H.heap (by (repeat (first|exact In.head|apply In.tail)))
  clear hK K
  refine norm_ (a' := ?_) ?_ ?_
  rotate_left
  ·show Act.put _ (some 71) _ = _
   simp only [ps_]
   rfl
  refine one_ (i := 7) (N := some 72) #[t_,t_,t_,t_,t_,t_,t_,t_,f_,f_] rfl rfl (by kernel_rfl) (by decide) (fun K hK => ?_)
  refine callK_ (MF H) Tryd.func71 (by kernel_rfl) rfl (by rfl) rfl rfl (by (try simp only [List.map_toArray,List.map_cons,List.map_nil]);first|done|rfl) ?_
  rintro e W ⟨rfl,H'⟩
  refine ⟨_,rfl,?_⟩
  replace H := H'
  clear H'
  refine hK.out _ _ ?_ (fun hHeld => ?_)
  ·first|trivial|exact H|exact H.del .head|exact (H.del .head).del .head|exact H.heap (by (repeat (first|exact In.head|apply In.tail)))
  clear hK K
  refine norm_ (a' := ?_) ?_ ?_
  rotate_left
  ·show Act.put _ (some 72) _ = _
   simp only [ps_]
   rfl
  refine pure_ (i := 8) (N := some 73) (v := ?_) (a' := ?_) #[t_,t_,t_,t_,t_,t_,t_,t_,t_,f_] rfl rfl (by kernel_rfl) (fun _ _ _ h => h) (Or.inl ⟨by rfl,?_⟩) ?_ ?_
  rotate_left
  ·intro w'
   go_simp
   with_reducible rfl
  rotate_left
  ·simp only [ps_]
   rfl
  refine pure_ (i := 9) (N := some 64) (v := ?_) (a' := ?_) #[t_,t_,t_,t_,t_,t_,t_,t_,t_,t_] rfl rfl (by kernel_rfl) (fun _ _ _ h => h) (Or.inl ⟨by rfl,?_⟩) ?_ ?_
  rotate_left
  ·intro w'
   go_simp
   with_reducible rfl
  rotate_left
  ·simp only [ps_]
   rfl
  refine done_ (by kernel_rfl) ?_
  clear hHeld
  have hnn : m - 11 = n := by rw [← hm];exact Nat.add_sub_cancel_left 11 n
  rw [hnn] at hcut2
  go_wp2_with (first
  |((with_reducible refine gate_dst (N := 35) rfl ?_);refine l_build0 rfl H 38 5 rfl Tryd.underlying38 (by kernel_rfl) ?_;clear H;intro g35 W H)
  |((with_reducible refine gate_store (t := 38) (p := 40) rfl ?_);refine l_store1 rfl H 38 _ _ rfl _ _ rfl _ (by first|(go_simp;done)|(go_simp;with_reducible rfl)) (by (repeat (first|exact In.head|apply In.tail))) rfl rfl size38 (by (first|rfl|assumption|omega|(simp only [nums_length];omega)|(simp [nums_length,zs];done)|(simp [nums_length,zs];omega))) ?_;clear H;intro W H)
  |((with_reducible refine gate_dst (N := 41) rfl ?_);refine l_loadA rfl H 76 _ rfl _ rfl (by (repeat (first|exact In.head|apply In.tail))) _ _ Tryd.underlying76 rfl size76 (by (first|rfl|assumption|omega|(simp only [nums_length];omega)|(simp [nums_length,zs];done)|(simp [nums_length,zs];omega))) ?_)
  |((with_reducible refine gate_store (t := 76) (p := 4) rfl ?_);refine l_storeW rfl H 76 _ _ rfl _ rfl _ rfl (by (repeat (first|exact In.head|apply In.tail))) _ size76 (by (first|rfl|assumption|omega|(simp only [nums_length];omega)|(simp [nums_length,zs];done)|(simp [nums_length,zs];omega))) (by (first|rfl|assumption|omega|(simp only [nums_length];omega)|(simp [nums_length,zs];done)|(simp [nums_length,zs];omega))) (by (first|exact nums_one|assumption|(intro u hu;simp at hu;subst hu;rfl)|(intro u hu;simp at hu;rcases hu with rfl|rfl|rfl|rfl|rfl|rfl|rfl <;> rfl)|(intro u hu;simp at hu;rcases hu with rfl|rfl|rfl|rfl <;> rfl)|(intro u hu;simp at hu;rcases hu with rfl|rfl|rfl <;> rfl)|(intro u hu;simp at hu;rcases hu with rfl|rfl <;> rfl))) ?_;clear H;intro W H)
  |((with_reducible refine gate_dst (N := 38) rfl ?_);refine l_run rfl (.slice (dropA (some ad) 11 c 1) n (c - 11)) (by rw [← hnn];exact x_slice_lohi _ _ _ rfl rfl Tryd.underlying38 size5 11 m rfl rfl h11m (Nat.le_trans hmb hc) _) ?_)
  |((with_reducible refine gate_dst (N := 39) rfl ?_);refine l_append rfl H _ _ 38 5 rfl Tryd.underlying38 _ _ _ inf5 rfl (by decide) (by decide) _ 0 [] rfl .head (dropA (some ad) 11 c 1) n (c - 11) (nums .u8 DL) rfl (by rw [nums_length,hcut2.1,Nat.mul_one]) (fun hp => ((Rd.of_C hcut2).below H.below) (by rw [nums_length,hcut2.1];exact hp)) nums_one (by rw [Nat.zero_add,Nat.mul_one];exact Nat.le_trans hn197 (by decide)) ?_;clear H;intro v39 W H;obtain ⟨A39,c39,rfl⟩ := H.row_slice .head;rw [List.nil_append] at H))
  have hmi : (m : Int) = 11 + (n : Int) := by rw [← hm];simp
  rw [Nat.zero_add] at H
  refine bodyPost_ret (results_ctt (p := 4) (ty := 76) rfl _ _ g4 76 _ (0,0) _ rfl (H.heap (.tail (.tail (.tail .head)))) Tryd.underlying76 rfl size76) rfl ?_
  have hfin : (Kd.int .u8).C W A39 n ((b.take m).drop 11) := by rw [hDL];exact (H.rowC .head).2.2
  refine ⟨H.below,?_⟩
  refine ⟨A39,c39,?_,(H.rowC .head).1,(H.rowC .head).2.2,H.at_ .head⟩
  rw [← hmi]
  rfl
end Go.Proofs.YtaekpfhgdnfciaaDoor.O
end

section
/- scan's step, by what is owned. -/
set_option linter.unusedVariables false
set_option linter.unusedSimpArgs false
namespace Go.Proofs.YtaekpfhgdnfciaaDoor.O
open Go.RowKit Go.Proofs.YtaekpfhgdnfciaaDoorW.PrintWords Go.Proofs.YtaekpfhgdnfciaaDoorW.PrintLast Go.Proofs.YtaekpfhgdnfciaaDoorW.PrintMore Go.Proofs.YtaekpfhgdnfciaaDoor.F Go.Proofs.YtaekpfhgdnfciaaDoor.F.Nums Go.Proofs.YtaekpfhgdnfciaaDoor.Plain
attribute [local go_sem] Oper.semAt_some
theorem Own.front {w0 W : World} {F : Nat → Option Obj} {L L' : List Res} {r : Res} (H : Own w0 F L W) (hD : Del L r L') : Own w0 F (r :: L') W := by
 obtain ⟨A,B,rfl,rfl⟩ := hD.split
 exact H.perm List.perm_middle
theorem r_loadH {P : Program} {o : Oper} {a : Act} {W : World} {g i : Nat} {cs : Array Value} {t : TypeId} {fr : Nat × Nat} {v : Value} (ty : TypeId) (x : Operand) (ho : o.op = .load ty x) (hx : a.eval x = .pointer (some ⟨g,i,none⟩)) (hg : W.heap[g]? = some (.cells cs t fr)) (hv : cs[i]? = some v) {d : TypeDesc} (hu : P.underlying ty = some d) (hd : d.isRow = false) :
  (execOp a.eval o).run P W = .ok (.value v) W := by
 have hag : (isAgg ty).run P W = .ok false W := by
  unfold isAgg
  rw [Sem.run_bind,run_underlying hu W]
  cases d <;> simp_all
 have hc : W.cell? ⟨g,i,none⟩ = some v := by
  rw [cell_of_row W g i _ _ _ hg]
  exact hv
 unfold execOp
 simp [ho,hx,Instr.loadAt,Instr.sureAddr,loadVar,hag,hc]
/-- the cells of a row of records, and the rows that these are -/
def Drs (recs : List (List Int)) (cells : List Value) (D : List Res) : Prop := cells.length = recs.length ∧ ∀ j,j < recs.length → ∃ A c,cells[j]? = some (.slice A (recs.getD j []).length c) ∧ (recs.getD j []).length ≤ c ∧ (0 < (recs.getD j []).length → Res.row (.slice A (recs.getD j []).length c) 5 1 (recs.getD j []).length (nums .u8 (recs.getD j [])) ∈ D)
theorem Drs.snoc {recs : List (List Int)} {cells : List Value} {D : List Res} (h : Drs recs cells D) (r : List Int) (A : Option Addr) (c : Nat) (x : Value) (hc : r.length ≤ c) (hx : r ≠ [] → .slice A r.length c = x) : Drs (recs ++ [r]) (cells ++ [.slice A r.length c]) (Res.row x 5 1 r.length (nums .u8 r) :: D) := by
 refine ⟨by simp [h.1],fun j hj => ?_⟩
 by_cases e : j < recs.length
 ·obtain ⟨A2,c2,h1,h2,h3⟩ := h.2 j e
  have e2 : (recs ++ [r]).getD j [] = recs.getD j [] := by rw [List.getD_eq_getElem?_getD,List.getD_eq_getElem?_getD,List.getElem?_append_left e]
  rw [e2]
  exact ⟨A2,c2,by rw [List.getElem?_append_left (by rw [h.1];exact e)];exact h1,h2,fun hp => List.mem_cons_of_mem _ (h3 hp)⟩
 ·have e3 : j = recs.length := by simp at hj;omega
  subst e3
  have e2 : (recs ++ [r]).getD recs.length [] = r := by rw [List.getD_eq_getElem?_getD,List.getElem?_append_right (Nat.le_refl _),Nat.sub_self];rfl
  rw [e2]
  refine ⟨A,c,by rw [List.getElem?_append_right (by rw [h.1];exact Nat.le_refl _),h.1,Nat.sub_self];rfl,hc,fun hp => ?_⟩
  have := hx (fun h => by rw [h] at hp;simp at hp)
  rw [this]
  exact List.mem_cons_self ..
/-- what a scanner owns -/
def Sc (gs gj : Nat) (ep : Int) (Ab Ao : Option Addr) (cb co : Nat) (F : List Int) (ok : List Bool) (kind : Int) (E : List Res) (s : ScSt) (L : List Res) : Prop :=
 ∃ (Av : Option Addr) (cv : Nat) (x vr vp : Value) (cells : List Value) (D : List Res),(s.b ≠ [] → Value.slice Av s.b.length cv = x) ∧ s.b.length ≤ cv ∧ s.b.length ≤ 512 ∧ Drs s.recs cells D ∧ s.places.length = s.recs.length ∧
  L = .blk gs 71 [.int .u32 ep,.slice Ab 832 cb,.slice Ao 16 co,.pointer (some ⟨gj,0,none⟩),.int .i64 (s.at_ : Int),.int .i64 s.first,vr,vp,.int .i64 (s.en : Int),.int .i64 kind] :: .blk gj 106 [.bool s.op,.slice Av s.b.length cv] ::
   .row x 5 1 s.b.length (nums .u8 s.b) :: .row vr 38 1 s.recs.length cells :: .row vp 3 1 s.recs.length (nums .i64 s.places) :: .row (.slice Ab 832 cb) 5 1 832 (nums .u8 F) :: .row (.slice Ao 16 co) 4 1 16 (bools ok) :: (D ++ E)
theorem begin_c (a : Nat) (w : World) : Calls Tryd.prog 47 #[.int .i64 (a : Int)] w fun e W => e = .returned (.int .i64 ((bgN a : Nat) : Int)) ∧ Below w.heap.size w W := by
 rw [bgN_cast]
 exact span_Begin.calls (a : Int) _ w (SpanP.begin_eq (a : Int))
theorem left_c (a : Int) (w : World) : Calls Tryd.prog 50 #[.int .i64 a] w fun e W => e = .returned (.int .i64 (lf (cl a))) ∧ Below w.heap.size w W := span_Left.calls a _ w (SpanP.left_eq a)
theorem cov_own (ok : List Bool) (hok : ok.length = 16) (f t : Int) (A : Option Addr) (c : Nat) (hc : 16 ≤ c) (w : World) (hr : Rd w A (bools ok)) :
  Calls Tryd.prog 48 #[.slice A 16 c,.int .i64 f,.int .i64 t] w fun e W => e = .returned (.bool (cov ok f t)) ∧ Below w.heap.size w W := by
 obtain ⟨a,b,h,hab,hb⟩ := touch_nat f t
 have := cov_c ok f t a b h hab hb A c w hr (by omega) (by omega)
 unfold cov
 rw [h]
 simp only [Int.toNat_natCast]
 rwa [hok] at this
theorem fr_C {w : World} {Ab : Option Addr} {F : List Int} {p cb lfn : Nat} (hR : Rd w Ab (nums .u8 F)) (hF : F.length = 832) (hcb : 832 ≤ cb) (hp : p < 832) (hl : (lf (p : Int)).toNat = lfn) (hl2 : p + lfn ≤ 832) : (Kd.int .u8).C w (dropA Ab p cb 1) lfn (frAt F p) := by
 have := (hR.dropA p cb 1 (fun e => by rw [nums_length];omega)).take lfn
 rw [Nat.mul_one,nums_drop,nums_take] at this
 unfold frAt
 rw [hl]
 exact this.C (by rw [List.length_take,List.length_drop];omega) (by omega)
theorem scStep_none {T : Nat → Option (Int × List Int × Nat)} {s : ScSt} (h : T (bgN s.at_) = none) : scStep T s = none := by unfold scStep;rw [h]
theorem scStep_some {T : Nat → Option (Int × List Int × Nat)} {s : ScSt} {k : Int} {d : List Int} {n : Nat} (h : T (bgN s.at_) = some (k,d,n)) : scStep T s = scFed s k d n := by unfold scStep;rw [h]
theorem feedF_nd {op : Bool} {b : List Int} {k : Int} {d : List Int} {rd b2 : List Int} {er : Int} {o2 : Bool} (h : feedF op b k d = ((rd,false,er),(o2,b2))) : rd = [] := by
 unfold feedF at h
 split at h
 ·cases h;rfl
 ·split at h
  ·cases h;rfl
  ·split at h
   ·cases h
   ·cases h;rfl
theorem feedF_d {op : Bool} {b : List Int} {k : Int} {d : List Int} {rd b2 : List Int} {er : Int} {o2 : Bool} (h : feedF op b k d = ((rd,true,er),(o2,b2))) : b2 = [] := by
 unfold feedF at h
 split at h
 ·cases h
 ·split at h
  ·cases h
  ·split at h
   ·cases h;rfl
   ·cases h
theorem feedF_er {op : Bool} {b : List Int} {k : Int} {d : List Int} {rd b2 : List Int} {er : Int} {dn o2 : Bool} (h : feedF op b k d = ((rd,dn,er),(o2,b2))) (he : er ≠ 0) : dn = false := by
 unfold feedF at h
 split at h
 ·cases h;rfl
 ·split at h
  ·cases h;rfl
  ·split at h
   ·cases h;exact absurd rfl he
   ·cases h;exact absurd rfl he
/-- which way a step goes -/
def scCls (ep : Int) (F : List Int) (ok : List Bool) (s : ScSt) : Nat :=
 match told ep F ok (bgN s.at_) with
 |none => 0
 |some _ => 1
end Go.Proofs.YtaekpfhgdnfciaaDoor.O
end
