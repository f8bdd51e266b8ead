/- Texts of mine put together: FragDec, StepH, Told, StrInj. -/
import Derived.Test.YtaekpfhgdnfciaaDoorPkTearTells7
import Derived.Test.YtaekpfhgdnfciaaDoorPkTearTells6
section
/- frag.Decode, by what is owned. -/
set_option linter.unusedVariables false
set_option linter.unusedSimpArgs false
namespace Go.Proofs.YtaekpfhgdnfciaaDoor.O
open Go.RowKit Go.Proofs.YtaekpfhgdnfciaaDoorW.PrintWords Go.Proofs.YtaekpfhgdnfciaaDoorW.PrintLast Go.Proofs.YtaekpfhgdnfciaaDoorW.PrintMore Go.Proofs.YtaekpfhgdnfciaaDoor.F Go.Proofs.YtaekpfhgdnfciaaDoor.F.Nums Go.Proofs.YtaekpfhgdnfciaaDoor.Plain
theorem bytes_eq11' (xs ys : List Int) (hx : xs.length = 11) (hy : ys.length = 11) (bx : Bytes xs) (by' : Bytes ys) (W : World) : (Op.equalIn 10000 127 (.agg (vals xs).toArray) (.agg (vals ys).toArray)).run Tryd.prog W = .ok (xs == ys) W :=
 equalB 9998 W 127 11 Tryd.underlying127 hx hy bx by'
theorem bytes_eq11 (xs : List Int) (hx : xs.length = 11) (bx : Bytes xs) (W : World) : (Op.equalIn 10000 127 (.agg (nums .u8 xs).toArray) (.agg #[.int .u8 0,.int .u8 0,.int .u8 0,.int .u8 0,.int .u8 0,.int .u8 0,.int .u8 0,.int .u8 0,.int .u8 0,.int .u8 0,.int .u8 0])).run Tryd.prog W = .ok (xs == zs 11) W := by
 have e : (#[.int .u8 0,.int .u8 0,.int .u8 0,.int .u8 0,.int .u8 0,.int .u8 0,.int .u8 0,.int .u8 0,.int .u8 0,.int .u8 0,.int .u8 0] : Array Value) = (vals (zs 11)).toArray := rfl
 rw [e]
 exact bytes_eq11' xs (zs 11) hx (by simp [zs]) bx (bytes_zs 11) W
theorem run_arrayAt11 (ad : Addr) (n c : Nat) (h : 11 ≤ n) (W : World) : (Instr.arrayAt 127 (.slice (some ad) n c)).run Tryd.prog W = .ok (.pointer (some ad)) W := by
 unfold Instr.arrayAt
 simp [Sem.run_bind,run_underlying Tryd.underlying127,h]
 intro hlt
 omega
set_option maxRecDepth 100000 in
set_option maxHeartbeats 8000000 in
theorem decode_calls (b : List Int) (ep : Int) (A : Option Addr) (c : Nat) (w : World) (hC : (Kd.int .u8).C w A b.length b) (hc : b.length ≤ c) (bb : Bytes b) (hH : Half w) :
  Calls Tryd.prog 49 #[.slice A b.length c,.int .u32 ep] w fun e W => Below w.heap.size w W ∧
   ((decE b ep ≠ 0 ∧ e = .returned (.tuple #[.agg #[.int .i64 0,.int .u32 0,.slice none 0 0],.int .i64 0,.int .i64 (decE b ep)])) ∨
    (decE b ep = 0 ∧ ∃ A' c',e = .returned (.tuple #[.agg #[.int .i64 (kOf b),.int .u32 (eOf b),.slice A' (nOf b) c'],.int .i64 (11 + (nOf b : Int)),.int .i64 0]) ∧ nOf b ≤ c' ∧ (Kd.int .u8).C W A' (nOf b) (decD b) ∧ W.ownsRow w.heap.size 5 1 (.slice A' (nOf b) c') (nOf b) (nums .u8 (decD b)))) := by
 have H := Own.start w
 by_cases h11 : b.length < 11
 ·have hE : decE b ep = 1 := by unfold decE;rw [if_pos h11]
  rw [hE]
  have q1 : decide ((b.length : Int) < 11) = true := decide_eq_true (by omega)
  generalize b.length = n at *
  go_enter Tryd.func49,Tryd.ntmps49
  go_wp2_with (first
  |((with_reducible refine gate_dst (N := 4) rfl ?_);refine l_allocA rfl H 76 rfl _ zero76 ?_;clear H;intro g4 W H)
  |((with_reducible refine gate_store (t := 76) (p := 4) rfl ?_);refine l_storeW rfl H 76 _ _ rfl _ rfl _ rfl (by (repeat (first|exact In.head|apply In.tail))) _ size76 (by (first|rfl|assumption|omega|(simp only [nums_length];omega)|(simp [nums_length,zs];done)|(simp [nums_length,zs];omega))) (by (first|rfl|assumption|omega|(simp only [nums_length];omega)|(simp [nums_length,zs];done)|(simp [nums_length,zs];omega))) (by (first|exact nums_one|assumption|(intro u hu;simp at hu;subst hu;rfl)|(intro u hu;simp at hu;rcases hu with rfl|rfl|rfl|rfl|rfl|rfl|rfl <;> rfl)|(intro u hu;simp at hu;rcases hu with rfl|rfl|rfl|rfl <;> rfl)|(intro u hu;simp at hu;rcases hu with rfl|rfl|rfl <;> rfl)|(intro u hu;simp at hu;rcases hu with rfl|rfl <;> rfl))) ?_;clear H;intro W H))
  refine bodyPost_ret (results_ctt (p := 4) (ty := 76) rfl _ _ g4 76 _ (0,0) _ rfl (H.heap .head) Tryd.underlying76 rfl size76) rfl ?_
  exact ⟨H.below,.inl ⟨by decide,rfl⟩⟩
 have hE0 : decE b ep = if b.take 11 = zs 11 then 7 else if rightF (kOf b) 0 = false ∨ 197 < nOf b ∨ eOf b ≠ ep then 2 else if b.length < 11 + nOf b then 1 else if sOf b ≠ sumN ((b.take (11 + nOf b)).drop 4) then 3 else 0 := by unfold decE;rw [if_neg h11]
 have q1 : decide ((b.length : Int) < 11) = false := decide_eq_false (by omega)
 obtain ⟨ad,rfl⟩ := (Rd.of_C hC).some_ (by rw [nums_length];omega)
 have hR : Rd w (some ad) (nums .u8 (b.take 11)) := by rw [← nums_take];exact (Rd.of_C hC).take 11
 have hl : (b.take 11).length = 11 := by rw [List.length_take];omega
 have hbh : Bytes (b.take 11) := bytes_take bb 11
 have heq := fun W => bytes_eq11 (b.take 11) hl hbh W
 have hk6 : (nums .u8 (b.take 11))[6]? = some (.int .u8 (kOf b)) := by
  rw [nums_at 6 (by omega)]
  unfold kOf
  rw [List.getD_eq_getElem?_getD,List.getElem?_take_of_lt (by decide),List.getD_eq_getElem?_getD]
 have hn1 : getn (((b.take 11).drop 4).take 2) 2 = nOf b := getn_pre 2 (fun j hj => by rw [List.getElem?_take_of_lt hj,List.getElem?_drop,List.getElem?_drop,List.getElem?_take_of_lt (by omega)])
 have hn2 : ((getn (((b.take 11).drop 7).take 4) 4 : Nat) : Int) = eOf b := by unfold eOf;exact congrArg _ (getn_pre 4 (fun j hj => by rw [List.getElem?_take_of_lt hj,List.getElem?_drop,List.getElem?_drop,List.getElem?_take_of_lt (by omega)]))
 have hn3 : getn (((b.take 11).drop 0).take 4) 4 = sOf b := getn_pre 4 (fun j hj => by rw [List.getElem?_take_of_lt hj,List.drop_zero,List.getElem?_take_of_lt (by omega)])
 have hlt := nOf_lt bb
 have het := eOf_lt bb
 have hkt : 0 ≤ kOf b ∧ kOf b ≤ 255 := by
  unfold kOf
  rw [List.getD_eq_getElem?_getD,List.getElem?_eq_getElem (by omega)]
  exact bb _ (List.getElem_mem _)
 have hst := sOf_lt bb
 obtain ⟨h,hh⟩ : ∃ x,b.take 11 = x := ⟨_,rfl⟩
 obtain ⟨n,hn⟩ : ∃ x,nOf b = x := ⟨_,rfl⟩
 obtain ⟨kk,hkk⟩ : ∃ x,kOf b = x := ⟨_,rfl⟩
 obtain ⟨ee,hee⟩ : ∃ x,eOf b = x := ⟨_,rfl⟩
 obtain ⟨ss,hss⟩ : ∃ x,sOf b = x := ⟨_,rfl⟩
 obtain ⟨dE,hdE⟩ : ∃ x,decE b ep = x := ⟨_,rfl⟩
 have hdd : decD b = (b.take (11 + n)).drop 11 := by unfold decD;rw [hn]
 rw [hdd]
 rw [hh] at hl hbh heq hk6 hn1 hn2 hn3 hR hE0
 rw [hn] at hn1 hE0 hlt ⊢
 rw [hkk] at hk6 hE0 hkt ⊢
 rw [hee] at hn2 hE0 het ⊢
 rw [hss] at hn3 hE0 hst
 rw [hdE] at hE0 ⊢
 have GF1 := fun {W : World} {L : List Res} (H : Own w F0 L W) A n c hC hc => get_own H A n c ((h.drop 4).take 2) hC hc (bytes_take (bytes_drop hbh 4) 2)
 have GF2 := fun {W : World} {L : List Res} (H : Own w F0 L W) A n c hC hc => get_own H A n c ((h.drop 7).take 4) hC hc (bytes_take (bytes_drop hbh 7) 4)
 have GF3 := fun {W : World} {L : List Res} (H : Own w F0 L W) A n c hC hc => get_own H A n c ((h.drop 0).take 4) hC hc (bytes_take (bytes_drop hbh 0) 4)
 have hAt := fun W => run_arrayAt11 ad 11 c (by decide) W
 obtain ⟨bl,hbl⟩ : ∃ x,b.length = x := ⟨_,rfl⟩
 rw [hbl] at hC hc hE0 q1 h11 ⊢
 by_cases hz : h = zs 11
 ·rw [if_pos hz] at hE0
  subst hE0
  rw [show (h == zs 11) = true by simp [hz]] at heq
  clear hz
  have qs : (11 : Nat) ≤ c := by omega
  go_enter Tryd.func49,Tryd.ntmps49
  go_wp2_with (first
  |((with_reducible refine gate_dst (N := 4) rfl ?_);refine l_allocA rfl H 76 rfl _ zero76 ?_;clear H;intro g4 W H)
  |((with_reducible refine gate_dst (N := 7) rfl ?_);refine l_allocA rfl H 127 rfl _ zero127 ?_;clear H;intro g7 W H)
  |((with_reducible refine gate_store (t := 127) (p := 7) rfl ?_);refine l_storeW rfl H 127 _ _ rfl _ rfl _ rfl (by (repeat (first|exact In.head|apply In.tail))) _ size127 (by (first|rfl|assumption|omega|(simp only [nums_length];omega)|(simp [nums_length,zs];done)|(simp [nums_length,zs];omega))) (by (first|rfl|assumption|omega|(simp only [nums_length];omega)|(simp [nums_length,zs];done)|(simp [nums_length,zs];omega))) (by (first|exact nums_one|assumption|(intro u hu;simp at hu;subst hu;rfl)|(intro u hu;simp at hu;rcases hu with rfl|rfl|rfl|rfl|rfl|rfl|rfl <;> rfl)|(intro u hu;simp at hu;rcases hu with rfl|rfl|rfl|rfl <;> rfl)|(intro u hu;simp at hu;rcases hu with rfl|rfl|rfl <;> rfl)|(intro u hu;simp at hu;rcases hu with rfl|rfl <;> rfl))) ?_;clear H;intro W H)
  |((with_reducible refine gate_dst (N := 19) rfl ?_);refine l_loadA rfl H 127 _ rfl _ rfl (by (repeat (first|exact In.head|apply In.tail))) _ _ Tryd.underlying127 rfl size127 (by (first|rfl|assumption|omega|(simp only [nums_length];omega)|(simp [nums_length,zs];done)|(simp [nums_length,zs];omega))) ?_)
  |((with_reducible refine gate_store (t := 76) (p := 4) rfl ?_);refine l_storeW rfl H 76 _ _ rfl _ rfl _ rfl (by (repeat (first|exact In.head|apply In.tail))) _ size76 (by (first|rfl|assumption|omega|(simp only [nums_length];omega)|(simp [nums_length,zs];done)|(simp [nums_length,zs];omega))) (by (first|rfl|assumption|omega|(simp only [nums_length];omega)|(simp [nums_length,zs];done)|(simp [nums_length,zs];omega))) (by (first|exact nums_one|assumption|(intro u hu;simp at hu;subst hu;rfl)|(intro u hu;simp at hu;rcases hu with rfl|rfl|rfl|rfl|rfl|rfl|rfl <;> rfl)|(intro u hu;simp at hu;rcases hu with rfl|rfl|rfl|rfl <;> rfl)|(intro u hu;simp at hu;rcases hu with rfl|rfl|rfl <;> rfl)|(intro u hu;simp at hu;rcases hu with rfl|rfl <;> rfl))) ?_;clear H;intro W H)
  |((with_reducible refine gate_dst (N := 18) rfl ?_);refine l_run rfl _ (r_loadRd0 127 _ rfl rfl (hR.below H.below) 11 _ Tryd.underlying127 rfl size127 (by decide) (by rw [nums_length];exact hl)) ?_))
  refine bodyPost_ret (results_ctt (p := 4) (ty := 76) rfl _ _ g4 76 _ (0,0) _ rfl (H.heap (.tail .head)) Tryd.underlying76 rfl size76) rfl ?_
  exact ⟨H.below,.inl ⟨by decide,rfl⟩⟩
 rw [if_neg hz] at hE0
 rw [show (h == zs 11) = false by simp [hz]] at heq
 clear hz
 replace hE0 := Aside0.mk hE0
 have hw1 : wrap64 (n : Int) = (n : Int) := w64 (by omega) (by omega)
 have hw1' : IntKind.i64.wrap (n : Int) = (n : Int) := (i64_w _).trans hw1
 have hw2 : wrap64 kk = kk := w64 (by omega) (by omega)
 have hw2' : IntKind.i64.wrap kk = kk := (i64_w _).trans hw2
 have hw3 : IntKind.u32.wrap ee = ee := wu32 het.1 het.2
 have hw4 : IntKind.u32.wrap (ss : Int) = (ss : Int) := wu32 (by omega) (by omega)
 go_enter Tryd.func49,Tryd.ntmps49
 go_wp2_with (first
  |((with_reducible refine gate_dst (N := 4) rfl ?_);refine l_allocA rfl H 76 rfl _ zero76 ?_;clear H;intro g4 W H)
  |((with_reducible refine gate_dst (N := 7) rfl ?_);refine l_allocA rfl H 127 rfl _ zero127 ?_;clear H;intro g7 W H)
  |((with_reducible refine gate_store (t := 127) (p := 7) rfl ?_);refine l_storeW rfl H 127 _ _ rfl _ rfl _ rfl (by (repeat (first|exact In.head|apply In.tail))) _ size127 (by (first|rfl|assumption|omega|(simp only [nums_length];omega)|(simp [nums_length,zs];done)|(simp [nums_length,zs];omega))) (by (first|rfl|assumption|omega|(simp only [nums_length];omega)|(simp [nums_length,zs];done)|(simp [nums_length,zs];omega))) (by (first|exact nums_one|assumption|(intro u hu;simp at hu;subst hu;rfl)|(intro u hu;simp at hu;rcases hu with rfl|rfl|rfl|rfl|rfl|rfl|rfl <;> rfl)|(intro u hu;simp at hu;rcases hu with rfl|rfl|rfl|rfl <;> rfl)|(intro u hu;simp at hu;rcases hu with rfl|rfl|rfl <;> rfl)|(intro u hu;simp at hu;rcases hu with rfl|rfl <;> rfl))) ?_;clear H;intro W H)
  |((with_reducible refine gate_dst (N := 19) rfl ?_);refine l_loadA rfl H 127 _ rfl _ rfl (by (repeat (first|exact In.head|apply In.tail))) _ _ Tryd.underlying127 rfl size127 (by (first|rfl|assumption|omega|(simp only [nums_length];omega)|(simp [nums_length,zs];done)|(simp [nums_length,zs];omega))) ?_)
  |((with_reducible refine gate_dst (N := 18) rfl ?_);refine l_run rfl _ (r_loadRd0 127 _ rfl rfl (hR.below H.below) 11 _ Tryd.underlying127 rfl size127 (by decide) (by rw [nums_length];exact hl)) ?_)
  |(go_at_call 69;(with_reducible refine (GF1 H _ _ _ (H.C .head 4 2 (by omega) (by decide)) (by decide) (by decide)).mono ?_);clear H;rintro e W ⟨rfl,H⟩;rw [hn1]))
 refine start_ (n := 9) (S := Own _ _ _) (ds := [8]) #[f_,f_,f_,f_,f_,f_,f_,f_,f_] (by kernel_rfl) rfl rfl H.drew (fun hHeld => ?_)
 replace H := H.drew
 generalize World.drew _ = W at H hHeld ⊢
 refine pure_ (i := 0) (N := some 26) (v := ?_) (a' := ?_) #[t_,f_,f_,f_,f_,f_,f_,f_,f_] rfl rfl (by kernel_rfl) (fun _ _ _ h => h) (Or.inl ⟨by rfl,?_⟩) ?_ ?_
 rotate_left
 ·intro w'
  go_simp
  with_reducible rfl
 rotate_left
 ·simp only [ps_]
  rfl
 refine pure_ (i := 3) (N := some 29) (v := ?_) (a' := ?_) #[t_,f_,f_,t_,f_,f_,f_,f_,f_] rfl rfl (by kernel_rfl) (fun _ _ _ h => h) (Or.inl ⟨by rfl,?_⟩) ?_ ?_
 rotate_left
 ·intro w'
  go_simp
  with_reducible rfl
 rotate_left
 ·simp only [ps_]
  rfl
 refine take_load1 (i := 1) (N := some 27) (a' := ?_) #[t_,t_,f_,t_,f_,f_,f_,f_,f_] rfl rfl (by kernel_rfl) (fun _ _ _ _ h => h) (by rfl) hHeld 5 _ rfl _ _ rfl (by (repeat (first|exact In.head|apply In.tail))) _ Tryd.underlying5 rfl _ (by first|rfl|assumption|exact nums_at _ (by omega)) ?_ ?_
 rotate_left
 ·simp only [ps_]
  rfl
 refine pure_ (i := 2) (N := some 28) (v := ?_) (a' := ?_) #[t_,t_,t_,t_,f_,f_,f_,f_,f_] rfl rfl (by kernel_rfl) (fun _ _ _ h => h) (Or.inl ⟨by rfl,?_⟩) ?_ ?_
 rotate_left
 ·intro w'
  go_simp
  with_reducible rfl
 rotate_left
 ·simp only [ps_]
  rfl
 refine two_ (i := 4) (j := 7) (Ni := some 30) (Nj := some 9) #[t_,t_,t_,t_,t_,f_,f_,f_,f_] #[t_,t_,t_,t_,f_,f_,f_,t_,f_] rfl rfl rfl rfl (by kernel_rfl) (by decide) (by decide) (fun K hK => ?_) (fun K hK => ?_)
 focus
  refine callK_ (GF2 H (some ⟨g7,7,none⟩) 4 4 (by first|exact H.C .head 7 4 (by omega) (by decide)|exact H.C (.tail .head) 7 4 (by omega) (by decide)) (by decide) (by decide)) Tryd.func69 (by kernel_rfl) rfl (by rfl) rfl rfl (by (try simp only [List.map_toArray,List.map_cons,List.map_nil]);first|done|rfl) ?_
  rintro e W ⟨rfl,H'⟩
  refine ⟨_,rfl,?_⟩
  replace H := H'
  clear H'
  rw [hn2]
  refine hK.out _ _ ?_ (fun hHeld => ?_)
  ·first|trivial|exact H|exact H.del .head|exact (H.del .head).del .head|exact H.heap (by (repeat (first|exact In.head|apply In.tail)))
  clear hK K
  refine norm_ (a' := ?_) ?_ ?_
  rotate_left
  ·show Act.put _ (some 30) _ = _
   simp only [ps_]
   rfl
  refine pure_ (i := 5) (N := some 31) (v := ?_) (a' := ?_) #[t_,t_,t_,t_,t_,t_,f_,f_,f_] rfl rfl (by kernel_rfl) (fun _ _ _ h => h) (Or.inl ⟨by rfl,?_⟩) ?_ ?_
  rotate_left
  ·intro w'
   go_simp
   with_reducible rfl
  rotate_left
  ·simp only [ps_]
   rfl
  refine pure_ (i := 6) (N := some 32) (v := ?_) (a' := ?_) #[t_,t_,t_,t_,t_,t_,t_,f_,f_] rfl rfl (by kernel_rfl) (fun _ _ _ h => h) (Or.inl ⟨by rfl,?_⟩) ?_ ?_
  rotate_left
  ·intro w'
   go_simp
   with_reducible rfl
  rotate_left
  ·simp only [ps_]
   rfl
  refine one_ (i := 7) (N := some 9) #[t_,t_,t_,t_,t_,t_,t_,t_,f_] rfl rfl (by kernel_rfl) (by decide) (fun K hK => ?_)
  refine wanted_ rfl ?_
  refine w_allocA H 76 rfl _ zero76 ?_
  clear H
  intro g9 W H
  refine hK.out _ _ ?_ (fun hHeld => ?_)
  ·first|trivial|exact H|exact H.del .head|exact (H.del .head).del .head|exact H.heap (by (repeat (first|exact In.head|apply In.tail)))
  clear hK K
  refine norm_ (a' := ?_) ?_ ?_
  rotate_left
  ·show Act.put _ (some 9) _ = _
   simp only [ps_]
   rfl
 rotate_left
 focus
  refine wanted_ rfl ?_
  refine w_allocA H 76 rfl _ zero76 ?_
  clear H
  intro g9 W H
  refine hK.out _ _ ?_ (fun hHeld => ?_)
  ·first|trivial|exact H|exact H.del .head|exact (H.del .head).del .head|exact H.heap (by (repeat (first|exact In.head|apply In.tail)))
  clear hK K
  refine norm_ (a' := ?_) ?_ ?_
  rotate_left
  ·show Act.put _ (some 9) _ = _
   simp only [ps_]
   rfl
  refine one_ (i := 4) (N := some 30) #[t_,t_,t_,t_,t_,f_,f_,t_,f_] rfl rfl (by kernel_rfl) (by decide) (fun K hK => ?_)
  refine callK_ (GF2 H (some ⟨g7,7,none⟩) 4 4 (by first|exact H.C .head 7 4 (by omega) (by decide)|exact H.C (.tail .head) 7 4 (by omega) (by decide)) (by decide) (by decide)) Tryd.func69 (by kernel_rfl) rfl (by rfl) rfl rfl (by (try simp only [List.map_toArray,List.map_cons,List.map_nil]);first|done|rfl) ?_
  rintro e W ⟨rfl,H'⟩
  refine ⟨_,rfl,?_⟩
  replace H := H'
  clear H'
  rw [hn2]
  refine hK.out _ _ ?_ (fun hHeld => ?_)
  ·first|trivial|exact H|exact H.del .head|exact (H.del .head).del .head|exact H.heap (by (repeat (first|exact In.head|apply In.tail)))
  clear hK K
  refine norm_ (a' := ?_) ?_ ?_
  rotate_left
  ·show Act.put _ (some 30) _ = _
   simp only [ps_]
   rfl
  refine pure_ (i := 5) (N := some 31) (v := ?_) (a' := ?_) #[t_,t_,t_,t_,t_,t_,f_,t_,f_] rfl rfl (by kernel_rfl) (fun _ _ _ h => h) (Or.inl ⟨by rfl,?_⟩) ?_ ?_
  rotate_left
  ·intro w'
   go_simp
   with_reducible rfl
  rotate_left
  ·simp only [ps_]
   rfl
  refine pure_ (i := 6) (N := some 32) (v := ?_) (a' := ?_) #[t_,t_,t_,t_,t_,t_,t_,t_,f_] rfl rfl (by kernel_rfl) (fun _ _ _ h => h) (Or.inl ⟨by rfl,?_⟩) ?_ ?_
  rotate_left
  ·intro w'
   go_simp
   with_reducible rfl
  rotate_left
  ·simp only [ps_]
   rfl
  skip
 all_goals
  refine last_ (i := 8) (N := none) #[t_,t_,t_,t_,t_,t_,t_,t_,t_] rfl rfl (by kernel_rfl) (by decide) (fun K hK => ?_)
  refine wanted_ rfl ?_
  refine w_storeW H 76 _ _ rfl _ rfl _ rfl (by (repeat (first|exact In.head|apply In.tail))) _ size76 (by (first|rfl|assumption|omega|(simp only [nums_length];omega)|(simp [nums_length,zs];done)|(simp [nums_length,zs];omega))) (by (first|rfl|assumption|omega|(simp only [nums_length];omega)|(simp [nums_length,zs];done)|(simp [nums_length,zs];omega))) (by (first|exact nums_one|assumption|(intro u hu;simp at hu;subst hu;rfl)|(intro u hu;simp at hu;rcases hu with rfl|rfl|rfl|rfl|rfl|rfl|rfl <;> rfl)|(intro u hu;simp at hu;rcases hu with rfl|rfl|rfl|rfl <;> rfl)|(intro u hu;simp at hu;rcases hu with rfl|rfl|rfl <;> rfl)|(intro u hu;simp at hu;rcases hu with rfl|rfl <;> rfl))) ?_
  clear H
  intro W H
  refine hK.out _ _ ?_
  clear hK K
  refine done_ (by kernel_rfl) ?_
  clear hHeld
 all_goals
  clear hh hn hkk hee hss hdE hdd heq hk6 hn1 hn2 GF1 GF2 hAt hbl hw1 hw1' hw2 hw2' hw3
  have FRt := fun W => frag_right.calls kk ee none 0 [] _ W ⟨rfl,by simp,fun h => absurd h (by simp)⟩ (Nat.le_refl _) (right_eq kk ee [])
  simp only [List.length_nil] at FRt
  obtain ⟨m,hm⟩ : ∃ m,11 + n = m := ⟨_,rfl⟩
  have hw5 : wrap64 (11 + (n : Int)) = (m : Int) := by rw [show (11 : Int) + n = (m : Int) by omega];exact w64 (by omega) (by omega)
  have hw5' : IntKind.i64.wrap (11 + (n : Int)) = (m : Int) := (i64_w _).trans hw5
  replace hE0 := hE0.out
  rw [hm] at hE0
  generalize rightF kk 0 = r0 at FRt hE0
  replace hE0 := Aside0.mk hE0
  rcases r0 with _|_
  ·have hE0 := hE0.out
   rw [if_pos (.inl rfl)] at hE0
   subst hE0
   go_wp2_with (first
  |((with_reducible refine gate_dst (N := 44) rfl ?_);refine l_loadA rfl H 76 _ rfl _ rfl (by (repeat (first|exact In.head|apply In.tail))) _ _ Tryd.underlying76 rfl size76 (by (first|rfl|assumption|omega|(simp only [nums_length];omega)|(simp [nums_length,zs];done)|(simp [nums_length,zs];omega))) ?_)
  |((with_reducible refine gate_dst (N := 53) rfl ?_);refine gate_guard (by rfl) ?_;refine l_load1 rfl H 67 _ rfl _ _ rfl (by (repeat (first|exact In.head|apply In.tail))) _ Tryd.underlying67 rfl _ (by first|rfl|assumption|exact nums_at _ (by omega)) ?_)
  |((with_reducible refine gate_store (t := 76) (p := 4) rfl ?_);refine l_storeW rfl H 76 _ _ rfl _ rfl _ rfl (by (repeat (first|exact In.head|apply In.tail))) _ size76 (by (first|rfl|assumption|omega|(simp only [nums_length];omega)|(simp [nums_length,zs];done)|(simp [nums_length,zs];omega))) (by (first|rfl|assumption|omega|(simp only [nums_length];omega)|(simp [nums_length,zs];done)|(simp [nums_length,zs];omega))) (by (first|exact nums_one|assumption|(intro u hu;simp at hu;subst hu;rfl)|(intro u hu;simp at hu;rcases hu with rfl|rfl|rfl|rfl|rfl|rfl|rfl <;> rfl)|(intro u hu;simp at hu;rcases hu with rfl|rfl|rfl|rfl <;> rfl)|(intro u hu;simp at hu;rcases hu with rfl|rfl|rfl <;> rfl)|(intro u hu;simp at hu;rcases hu with rfl|rfl <;> rfl))) ?_;clear H;intro W H)
  |(go_at_call 70;(with_reducible refine (FRt _).mono ?_);rintro e W ⟨rfl,hb⟩;replace H := H.to hb;clear hb))
   refine bodyPost_ret (results_ctt (p := 4) (ty := 76) rfl _ _ g4 76 _ (0,0) _ rfl (H.heap (.tail (.tail .head))) Tryd.underlying76 rfl size76) rfl ?_
   exact ⟨H.below,.inl ⟨by decide,rfl⟩⟩
  by_cases g1 : 197 < n
  ·have hE0 := hE0.out
   rw [if_pos (.inr (.inl g1))] at hE0
   subst hE0
   have q5 : decide (197 < (n : Int)) = true := decide_eq_true (Int.ofNat_lt.2 g1)
   clear g1
   go_wp2_with (first
  |((with_reducible refine gate_dst (N := 44) rfl ?_);refine l_loadA rfl H 76 _ rfl _ rfl (by (repeat (first|exact In.head|apply In.tail))) _ _ Tryd.underlying76 rfl size76 (by (first|rfl|assumption|omega|(simp only [nums_length];omega)|(simp [nums_length,zs];done)|(simp [nums_length,zs];omega))) ?_)
  |((with_reducible refine gate_dst (N := 53) rfl ?_);refine gate_guard (by rfl) ?_;refine l_load1 rfl H 67 _ rfl _ _ rfl (by (repeat (first|exact In.head|apply In.tail))) _ Tryd.underlying67 rfl _ (by first|rfl|assumption|exact nums_at _ (by omega)) ?_)
  |((with_reducible refine gate_store (t := 76) (p := 4) rfl ?_);refine l_storeW rfl H 76 _ _ rfl _ rfl _ rfl (by (repeat (first|exact In.head|apply In.tail))) _ size76 (by (first|rfl|assumption|omega|(simp only [nums_length];omega)|(simp [nums_length,zs];done)|(simp [nums_length,zs];omega))) (by (first|rfl|assumption|omega|(simp only [nums_length];omega)|(simp [nums_length,zs];done)|(simp [nums_length,zs];omega))) (by (first|exact nums_one|assumption|(intro u hu;simp at hu;subst hu;rfl)|(intro u hu;simp at hu;rcases hu with rfl|rfl|rfl|rfl|rfl|rfl|rfl <;> rfl)|(intro u hu;simp at hu;rcases hu with rfl|rfl|rfl|rfl <;> rfl)|(intro u hu;simp at hu;rcases hu with rfl|rfl|rfl <;> rfl)|(intro u hu;simp at hu;rcases hu with rfl|rfl <;> rfl))) ?_;clear H;intro W H)
  |(go_at_call 70;(with_reducible refine (FRt _).mono ?_);rintro e W ⟨rfl,hb⟩;replace H := H.to hb;clear hb))
   refine bodyPost_ret (results_ctt (p := 4) (ty := 76) rfl _ _ g4 76 _ (0,0) _ rfl (H.heap (.tail (.tail .head))) Tryd.underlying76 rfl size76) rfl ?_
   exact ⟨H.below,.inl ⟨by decide,rfl⟩⟩
  have q5 : decide (197 < (n : Int)) = false := decide_eq_false (fun h => g1 (Int.ofNat_lt.1 h))
  by_cases g2 : ¬ ee = ep
  ·have hE0 := hE0.out
   rw [if_pos (.inr (.inr g2))] at hE0
   subst hE0
   have q6 : (ee != ep) = true := by simp [g2]
   clear g2 g1
   go_wp2_with (first
  |((with_reducible refine gate_dst (N := 44) rfl ?_);refine l_loadA rfl H 76 _ rfl _ rfl (by (repeat (first|exact In.head|apply In.tail))) _ _ Tryd.underlying76 rfl size76 (by (first|rfl|assumption|omega|(simp only [nums_length];omega)|(simp [nums_length,zs];done)|(simp [nums_length,zs];omega))) ?_)
  |((with_reducible refine gate_dst (N := 53) rfl ?_);refine gate_guard (by rfl) ?_;refine l_load1 rfl H 67 _ rfl _ _ rfl (by (repeat (first|exact In.head|apply In.tail))) _ Tryd.underlying67 rfl _ (by first|rfl|assumption|exact nums_at _ (by omega)) ?_)
  |((with_reducible refine gate_store (t := 76) (p := 4) rfl ?_);refine l_storeW rfl H 76 _ _ rfl _ rfl _ rfl (by (repeat (first|exact In.head|apply In.tail))) _ size76 (by (first|rfl|assumption|omega|(simp only [nums_length];omega)|(simp [nums_length,zs];done)|(simp [nums_length,zs];omega))) (by (first|rfl|assumption|omega|(simp only [nums_length];omega)|(simp [nums_length,zs];done)|(simp [nums_length,zs];omega))) (by (first|exact nums_one|assumption|(intro u hu;simp at hu;subst hu;rfl)|(intro u hu;simp at hu;rcases hu with rfl|rfl|rfl|rfl|rfl|rfl|rfl <;> rfl)|(intro u hu;simp at hu;rcases hu with rfl|rfl|rfl|rfl <;> rfl)|(intro u hu;simp at hu;rcases hu with rfl|rfl|rfl <;> rfl)|(intro u hu;simp at hu;rcases hu with rfl|rfl <;> rfl))) ?_;clear H;intro W H)
  |(go_at_call 70;(with_reducible refine (FRt _).mono ?_);rintro e W ⟨rfl,hb⟩;replace H := H.to hb;clear hb))
   refine bodyPost_ret (results_ctt (p := 4) (ty := 76) rfl _ _ g4 76 _ (0,0) _ rfl (H.heap (.tail (.tail .head))) Tryd.underlying76 rfl size76) rfl ?_
   exact ⟨H.below,.inl ⟨by decide,rfl⟩⟩
  replace g2 := Decidable.not_not.1 g2
  have q6 : (ee != ep) = false := by simp [g2]
  replace hE0 := hE0.out
  rw [if_neg (by rintro (h|h|h);exact absurd h (by decide);exact g1 h;exact h g2)] at hE0
  replace hE0 := Aside0.mk hE0
  by_cases g3 : bl < m
  ·have hE0 := hE0.out
   rw [if_pos g3] at hE0
   subst hE0
   have q7 : decide (bl < m) = true := decide_eq_true g3
   clear g2 g1 g3
   go_wp2_with (first
  |((with_reducible refine gate_dst (N := 44) rfl ?_);refine l_loadA rfl H 76 _ rfl _ rfl (by (repeat (first|exact In.head|apply In.tail))) _ _ Tryd.underlying76 rfl size76 (by (first|rfl|assumption|omega|(simp only [nums_length];omega)|(simp [nums_length,zs];done)|(simp [nums_length,zs];omega))) ?_)
  |((with_reducible refine gate_dst (N := 53) rfl ?_);refine gate_guard (by rfl) ?_;refine l_load1 rfl H 67 _ rfl _ _ rfl (by (repeat (first|exact In.head|apply In.tail))) _ Tryd.underlying67 rfl _ (by first|rfl|assumption|exact nums_at _ (by omega)) ?_)
  |((with_reducible refine gate_store (t := 76) (p := 4) rfl ?_);refine l_storeW rfl H 76 _ _ rfl _ rfl _ rfl (by (repeat (first|exact In.head|apply In.tail))) _ size76 (by (first|rfl|assumption|omega|(simp only [nums_length];omega)|(simp [nums_length,zs];done)|(simp [nums_length,zs];omega))) (by (first|rfl|assumption|omega|(simp only [nums_length];omega)|(simp [nums_length,zs];done)|(simp [nums_length,zs];omega))) (by (first|exact nums_one|assumption|(intro u hu;simp at hu;subst hu;rfl)|(intro u hu;simp at hu;rcases hu with rfl|rfl|rfl|rfl|rfl|rfl|rfl <;> rfl)|(intro u hu;simp at hu;rcases hu with rfl|rfl|rfl|rfl <;> rfl)|(intro u hu;simp at hu;rcases hu with rfl|rfl|rfl <;> rfl)|(intro u hu;simp at hu;rcases hu with rfl|rfl <;> rfl))) ?_;clear H;intro W H)
  |(go_at_call 70;(with_reducible refine (FRt _).mono ?_);rintro e W ⟨rfl,hb⟩;replace H := H.to hb;clear hb))
   refine bodyPost_ret (results_ctt (p := 4) (ty := 76) rfl _ _ g4 76 _ (0,0) _ rfl (H.heap (.tail (.tail .head))) Tryd.underlying76 rfl size76) rfl ?_
   exact ⟨H.below,.inl ⟨by decide,rfl⟩⟩
  have q7 : decide (bl < m) = false := decide_eq_false g3
  replace hE0 := hE0.out
  rw [if_neg g3] at hE0
  replace hE0 := Aside0.mk hE0
  have hmb : m ≤ bl := Nat.le_of_not_lt g3
  have h11m : 11 ≤ m := by rw [← hm];exact Nat.le_add_right 11 n
  have hcut := cut_C hC 4 m c (Nat.le_trans (by decide) h11m) hmb hc
  have hcut2 := cut_C hC 11 m c h11m hmb hc
  have hn197 : n ≤ 197 := Nat.le_of_not_lt g1
  clear g1 g2 g3
  have hcb : Bytes ((b.take m).drop 4) := bytes_drop (bytes_take bb m) 4
  have OF := fun {W : World} {L : List Res} (H : Own w F0 L W) => of_own H hH (dropA (some ad) 4 c 1) (m - 4) (c - 4) ((b.take m).drop 4) (Kd.C_below hcut H.below) (Nat.sub_le_sub_right (Nat.le_trans hmb hc) 4) hcb
  have MF := fun {W : World} {L : List Res} (H : Own w F0 L W) => mask_own H ((b.take m).drop 4)
  have hsm : (b.take (11 + n)).drop 11 = (b.take m).drop 11 := by rw [hm]
  generalize (b.take m).drop 4 = BL at *
  generalize hDL : (b.take m).drop 11 = DL at *
  generalize moreI 0 BL = mo at OF MF
  generalize sumN BL = sm at *
  go_wp2_with (first
  |((with_reducible refine gate_dst (N := 44) rfl ?_);refine l_loadA rfl H 76 _ rfl _ rfl (by (repeat (first|exact In.head|apply In.tail))) _ _ Tryd.underlying76 rfl size76 (by (first|rfl|assumption|omega|(simp only [nums_length];omega)|(simp [nums_length,zs];done)|(simp [nums_length,zs];omega))) ?_)
  |((with_reducible refine gate_dst (N := 53) rfl ?_);refine gate_guard (by rfl) ?_;refine l_load1 rfl H 67 _ rfl _ _ rfl (by (repeat (first|exact In.head|apply In.tail))) _ Tryd.underlying67 rfl _ (by first|rfl|assumption|exact nums_at _ (by omega)) ?_)
  |(go_at_call 70;(with_reducible refine (FRt _).mono ?_);rintro e W ⟨rfl,hb⟩;replace H := H.to hb;clear hb))
  by_cases g4 : ¬ ss = sm
  ·have hE0 := hE0.out
   rw [if_pos g4] at hE0
   subst hE0
   have q8 : ((ss : Int) != (sm : Int)) = true := by rw [bne_iff_ne];exact fun h => g4 (Int.ofNat_inj.1 h)
   clear g4
   refine start_ (n := 10) (S := Own _ _ _) (ds := []) #[f_,f_,f_,f_,f_,f_,f_,f_,f_,f_] (by kernel_rfl) rfl rfl H.drew (fun hHeld => ?_)
   replace H := H.drew
   generalize World.drew _ = W at H hHeld ⊢
   refine pure_ (i := 0) (N := some 65) (v := ?_) (a' := ?_) #[t_,f_,f_,f_,f_,f_,f_,f_,f_,f_] rfl rfl (by kernel_rfl) (fun _ _ _ h => h) (Or.inl ⟨by rfl,?_⟩) ?_ ?_
   rotate_left
   ·intro w'
    go_simp
    with_reducible rfl
   rotate_left
   ·simp only [ps_]
    rfl
   refine pure_ (i := 3) (N := some 68) (v := ?_) (a' := ?_) #[t_,f_,f_,t_,f_,f_,f_,f_,f_,f_] rfl rfl (by kernel_rfl) (fun _ _ _ h => h) (Or.inl ⟨by rfl,?_⟩) ?_ ?_
   rotate_left
   ·intro w'
    go_simp
    with_reducible rfl
   rotate_left
   ·simp only [ps_]
    rfl
   refine pure_ (i := 4) (N := some 69) (v := ?_) (a' := ?_) #[t_,f_,f_,t_,t_,f_,f_,f_,f_,f_] rfl rfl (by kernel_rfl) (fun _ _ _ h => h) (Or.inl ⟨by rfl,?_⟩) ?_ ?_
   rotate_left
   ·intro w'
    go_simp
    with_reducible rfl
   rotate_left
   ·simp only [ps_]
    rfl
   refine take_run (i := 5) (N := some 70) (a' := ?_) #[t_,f_,f_,t_,t_,t_,f_,f_,f_,f_] rfl rfl (by kernel_rfl) (fun _ _ _ _ h => h) (by rfl) hHeld (.slice (dropA (some ad) 4 c 1) (m - 4) (c - 4)) (fun X HX => x_slice_lohi _ _ _ rfl rfl Tryd.underlying38 size5 4 m rfl rfl (Nat.le_trans (by decide) h11m) (Nat.le_trans hmb hc) X) ?_ ?_
   rotate_left
   ·simp only [ps_]
    rfl
   refine one_ (i := 1) (N := some 66) #[t_,t_,f_,t_,t_,t_,f_,f_,f_,f_] rfl rfl (by kernel_rfl) (by decide) (fun K hK => ?_)
   refine callK_ (GF3 H (some ⟨g7,0,none⟩) 4 11 (H.C (.tail .head) 0 4 (by rw [hl];decide) (by decide)) (by decide) (by decide)) Tryd.func69 (by kernel_rfl) rfl (by rfl) rfl rfl (by (try simp only [List.map_toArray,List.map_cons,List.map_nil]);first|done|rfl) ?_
   rintro e W ⟨rfl,H'⟩
   refine ⟨_,rfl,?_⟩
   replace H := H'
   clear H'
   rw [hn3]
   refine hK.out _ _ ?_ (fun hHeld => ?_)
   ·first|trivial|exact H|exact H.del .head|exact (H.del .head).del .head|exact H.heap (by (repeat (first|exact In.head|apply In.tail)))
   clear hK K
   refine norm_ (a' := ?_) ?_ ?_
   rotate_left
   ·show Act.put _ (some 66) _ = _
    simp only [ps_]
    rfl
   refine pure_ (i := 2) (N := some 67) (v := ?_) (a' := ?_) #[t_,t_,t_,t_,t_,t_,f_,f_,f_,f_] rfl rfl (by kernel_rfl) (fun _ _ _ h => h) (Or.inl ⟨by rfl,?_⟩) ?_ ?_
   rotate_left
   ·intro w'
    go_simp
    with_reducible rfl
   rotate_left
   ·simp only [ps_]
    rfl
   refine one_ (i := 6) (N := some 71) #[t_,t_,t_,t_,t_,t_,t_,f_,f_,f_] rfl rfl (by kernel_rfl) (by decide) (fun K hK => ?_)
   refine callK_ (OF H) Tryd.func72 (by kernel_rfl) rfl (by rfl) rfl rfl (by (try simp only [List.map_toArray,List.map_cons,List.map_nil]);first|done|rfl) ?_
   rintro e W ⟨rfl,H'⟩
   refine ⟨_,rfl,?_⟩
   replace H := H'
   clear H'
   refine hK.out _ _ ?_ (fun hHeld => ?_)
   ·first|trivial|exact H|exact H.del .head|exact (H.del .head).del .head|exact H.heap (by (repeat (first|exact In.head|apply In.tail)))
   clear hK K
   refine norm_ (a' := ?_) ?_ ?_
   rotate_left
   ·show Act.put _ (some 71) _ = _
    simp only [ps_]
    rfl
   refine one_ (i := 7) (N := some 72) #[t_,t_,t_,t_,t_,t_,t_,t_,f_,f_] rfl rfl (by kernel_rfl) (by decide) (fun K hK => ?_)
   refine callK_ (MF H) Tryd.func71 (by kernel_rfl) rfl (by rfl) rfl rfl (by (try simp only [List.map_toArray,List.map_cons,List.map_nil]);first|done|rfl) ?_
   rintro e W ⟨rfl,H'⟩
   refine ⟨_,rfl,?_⟩
   replace H := H'
   clear H'
   refine hK.out _ _ ?_ (fun hHeld => ?_)
   ·first|trivial|exact H|exact H.del .head|exact (H.del .head).del .head|exact H.heap (by (repeat (first|exact In.head|apply In.tail)))
   clear hK K
   refine norm_ (a' := ?_) ?_ ?_
   rotate_left
   ·show Act.put _ (some 72) _ = _
    simp only [ps_]
    rfl
   refine pure_ (i := 8) (N := some 73) (v := ?_) (a' := ?_) #[t_,t_,t_,t_,t_,t_,t_,t_,t_,f_] rfl rfl (by kernel_rfl) (fun _ _ _ h => h) (Or.inl ⟨by rfl,?_⟩) ?_ ?_
   rotate_left
   ·intro w'
    go_simp
    with_reducible rfl
   rotate_left
   ·simp only [ps_]
    rfl
   refine pure_ (i := 9) (N := some 64) (v := ?_) (a' := ?_) #[t_,t_,t_,t_,t_,t_,t_,t_,t_,t_] rfl rfl (by kernel_rfl) (fun _ _ _ h => h) (Or.inl ⟨by rfl,?_⟩) ?_ ?_
   rotate_left
   ·intro w'
    go_simp
    with_reducible rfl
   rotate_left
   ·simp only [ps_]
    rfl
   refine done_ (by kernel_rfl) ?_
   clear hHeld
   go_wp2_with (first
  |((with_reducible refine gate_store (t := 76) (p := 4) rfl ?_);refine l_storeW rfl H 76 _ _ rfl _ rfl _ rfl (by (repeat (first|exact In.head|apply In.tail))) _ size76 (by (first|rfl|assumption|omega|(simp only [nums_length];omega)|(simp [nums_length,zs];done)|(simp [nums_length,zs];omega))) (by (first|rfl|assumption|omega|(simp only [nums_length];omega)|(simp [nums_length,zs];done)|(simp [nums_length,zs];omega))) (by (first|exact nums_one|assumption|(intro u hu;simp at hu;subst hu;rfl)|(intro u hu;simp at hu;rcases hu with rfl|rfl|rfl|rfl|rfl|rfl|rfl <;> rfl)|(intro u hu;simp at hu;rcases hu with rfl|rfl|rfl|rfl <;> rfl)|(intro u hu;simp at hu;rcases hu with rfl|rfl|rfl <;> rfl)|(intro u hu;simp at hu;rcases hu with rfl|rfl <;> rfl))) ?_;clear H;intro W H))
   refine bodyPost_ret (results_ctt (p := 4) (ty := 76) rfl _ _ g4 76 _ (0,0) _ rfl (H.heap (.tail (.tail .head))) Tryd.underlying76 rfl size76) rfl ?_
   exact ⟨H.below,.inl ⟨by decide,rfl⟩⟩
  have hE0 := hE0.out
  rw [if_neg g4] at hE0
  subst hE0
  have q8 : ((ss : Int) != (sm : Int)) = false := by rw [Decidable.not_not.1 g4];simp
  clear g4
  refine start_ (n := 10) (S := Own _ _ _) (ds := []) #[f_,f_,f_,f_,f_,f_,f_,f_,f_,f_] (by kernel_rfl) rfl rfl H.drew (fun hHeld => ?_)
  replace H := H.drew
  generalize World.drew _ = W at H hHeld ⊢
  refine pure_ (i := 0) (N := some 65) (v := ?_) (a' := ?_) #[t_,f_,f_,f_,f_,f_,f_,f_,f_,f_] rfl rfl (by kernel_rfl) (fun _ _ _ h => h) (Or.inl ⟨by rfl,?_⟩) ?_ ?_
  rotate_left
  ·intro w'
   go_simp
   with_reducible rfl
  rotate_left
  ·simp only [ps_]
   rfl
  refine pure_ (i := 3) (N := some 68) (v := ?_) (a' := ?_) #[t_,f_,f_,t_,f_,f_,f_,f_,f_,f_] rfl rfl (by kernel_rfl) (fun _ _ _ h => h) (Or.inl ⟨by rfl,?_⟩) ?_ ?_
  rotate_left
  ·intro w'
   go_simp
   with_reducible rfl
  rotate_left
  ·simp only [ps_]
   rfl
  refine pure_ (i := 4) (N := some 69) (v := ?_) (a' := ?_) #[t_,f_,f_,t_,t_,f_,f_,f_,f_,f_] rfl rfl (by kernel_rfl) (fun _ _ _ h => h) (Or.inl ⟨by rfl,?_⟩) ?_ ?_
  rotate_left
  ·intro w'
   go_simp
   with_reducible rfl
  rotate_left
  ·simp only [ps_]
   rfl
  refine take_run (i := 5) (N := some 70) (a' := ?_) #[t_,f_,f_,t_,t_,t_,f_,f_,f_,f_] rfl rfl (by kernel_rfl) (fun _ _ _ _ h => h) (by rfl) hHeld (.slice (dropA (some ad) 4 c 1) (m - 4) (c - 4)) (fun X HX => x_slice_lohi _ _ _ rfl rfl Tryd.underlying38 size5 4 m rfl rfl (Nat.le_trans (by decide) h11m) (Nat.le_trans hmb hc) X) ?_ ?_
  rotate_left
  ·simp only [ps_]
   rfl
  refine one_ (i := 1) (N := some 66) #[t_,t_,f_,t_,t_,t_,f_,f_,f_,f_] rfl rfl (by kernel_rfl) (by decide) (fun K hK => ?_)
  refine callK_ (GF3 H (some ⟨g7,0,none⟩) 4 11 (H.C (.tail .head) 0 4 (by rw [hl];decide) (by decide)) (by decide) (by decide)) Tryd.func69 (by kernel_rfl) rfl (by rfl) rfl rfl (by (try simp only [List.map_toArray,List.map_cons,List.map_nil]);first|done|rfl) ?_
  rintro e W ⟨rfl,H'⟩
  refine ⟨_,rfl,?_⟩
  replace H := H'
  clear H'
  rw [hn3]
  refine hK.out _ _ ?_ (fun hHeld => ?_)
  ·first|trivial|exact H|exact H.del .head|exact (H.del .head).del .head|exact H.heap (by (repeat (first|exact In.head|apply In.tail)))
  clear hK K
  refine norm_ (a' := ?_) ?_ ?_
  rotate_left
  ·show Act.put _ (some 66) _ = _
   simp only [ps_]
   rfl
  refine pure_ (i := 2) (N := some 67) (v := ?_) (a' := ?_) #[t_,t_,t_,t_,t_,t_,f_,f_,f_,f_] rfl rfl (by kernel_rfl) (fun _ _ _ h => h) (Or.inl ⟨by rfl,?_⟩) ?_ ?_
  rotate_left
  ·intro w'
   go_simp
   with_reducible rfl
  rotate_left
  ·simp only [ps_]
   rfl
  refine one_ (i := 6) (N := some 71) #[t_,t_,t_,t_,t_,t_,t_,f_,f_,f_] rfl rfl (by kernel_rfl) (by decide) (fun K hK => ?_)
  refine callK_ (OF H) Tryd.func72 (by kernel_rfl) rfl (by rfl) rfl rfl (by (try simp only [List.map_toArray,List.map_cons,List.map_nil]);first|done|rfl) ?_
  rintro e W ⟨rfl,H'⟩
  refine ⟨_,rfl,?_⟩
  replace H := H'
  clear H'
  refine hK.out _ _ ?_ (fun hHeld => ?_)
  ·first|trivial|exact H|exact H.del .head|exact (H.del .head).del .head|exact H.heap (by (repeat (first|exact In.head|apply In.tail)))
  clear hK K
  refine norm_ (a' := ?_) ?_ ?_
  rotate_left
  ·show Act.put _ (some 71) _ = _
   simp only [ps_]
   rfl
  refine one_ (i := 7) (N := some 72) #[t_,t_,t_,t_,t_,t_,t_,t_,f_,f_] rfl rfl (by kernel_rfl) (by decide) (fun K hK => ?_)
  refine callK_ (MF H) Tryd.func71 (by kernel_rfl) rfl (by rfl) rfl rfl (by (try simp only [List.map_toArray,List.map_cons,List.map_nil]);first|done|rfl) ?_
  rintro e W ⟨rfl,H'⟩
  refine ⟨_,rfl,?_⟩
  replace H := H'
  clear H'
  refine hK.out _ _ ?_ (fun hHeld => ?_)
  ·first|trivial|exact H|exact H.del .head|exact (H.del .head).del .head|exact H.heap (by (repeat (first|exact In.head|apply In.tail)))
  clear hK K
  refine norm_ (a' := ?_) ?_ ?_
  rotate_left
  ·show Act.put _ (some 72) _ = _
   simp only [ps_]
   rfl
  refine pure_ (i := 8) (N := some 73) (v := ?_) (a' := ?_) #[t_,t_,t_,t_,t_,t_,t_,t_,t_,f_] rfl rfl (by kernel_rfl) (fun _ _ _ h => h) (Or.inl ⟨by rfl,?_⟩) ?_ ?_
  rotate_left
  ·intro w'
   go_simp
   with_reducible rfl
  rotate_left
  ·simp only [ps_]
   rfl
  refine pure_ (i := 9) (N := some 64) (v := ?_) (a' := ?_) #[t_,t_,t_,t_,t_,t_,t_,t_,t_,t_] rfl rfl (by kernel_rfl) (fun _ _ _ h => h) (Or.inl ⟨by rfl,?_⟩) ?_ ?_
  rotate_left
  ·intro w'
   go_simp
   with_reducible rfl
  rotate_left
  ·simp only [ps_]
   rfl
  refine done_ (by kernel_rfl) ?_
  clear hHeld
  have hnn : m - 11 = n := by rw [← hm];exact Nat.add_sub_cancel_left 11 n
  rw [hnn] at hcut2
  go_wp2_with (first
  |((with_reducible refine gate_dst (N := 35) rfl ?_);refine l_build0 rfl H 38 5 rfl Tryd.underlying38 (by kernel_rfl) ?_;clear H;intro g35 W H)
  |((with_reducible refine gate_store (t := 38) (p := 40) rfl ?_);refine l_store1 rfl H 38 _ _ rfl _ _ rfl _ (by first|(go_simp;done)|(go_simp;with_reducible rfl)) (by (repeat (first|exact In.head|apply In.tail))) rfl rfl size38 (by (first|rfl|assumption|omega|(simp only [nums_length];omega)|(simp [nums_length,zs];done)|(simp [nums_length,zs];omega))) ?_;clear H;intro W H)
  |((with_reducible refine gate_dst (N := 41) rfl ?_);refine l_loadA rfl H 76 _ rfl _ rfl (by (repeat (first|exact In.head|apply In.tail))) _ _ Tryd.underlying76 rfl size76 (by (first|rfl|assumption|omega|(simp only [nums_length];omega)|(simp [nums_length,zs];done)|(simp [nums_length,zs];omega))) ?_)
  |((with_reducible refine gate_store (t := 76) (p := 4) rfl ?_);refine l_storeW rfl H 76 _ _ rfl _ rfl _ rfl (by (repeat (first|exact In.head|apply In.tail))) _ size76 (by (first|rfl|assumption|omega|(simp only [nums_length];omega)|(simp [nums_length,zs];done)|(simp [nums_length,zs];omega))) (by (first|rfl|assumption|omega|(simp only [nums_length];omega)|(simp [nums_length,zs];done)|(simp [nums_length,zs];omega))) (by (first|exact nums_one|assumption|(intro u hu;simp at hu;subst hu;rfl)|(intro u hu;simp at hu;rcases hu with rfl|rfl|rfl|rfl|rfl|rfl|rfl <;> rfl)|(intro u hu;simp at hu;rcases hu with rfl|rfl|rfl|rfl <;> rfl)|(intro u hu;simp at hu;rcases hu with rfl|rfl|rfl <;> rfl)|(intro u hu;simp at hu;rcases hu with rfl|rfl <;> rfl))) ?_;clear H;intro W H)
  |((with_reducible refine gate_dst (N := 38) rfl ?_);refine l_run rfl (.slice (dropA (some ad) 11 c 1) n (c - 11)) (by rw [← hnn];exact x_slice_lohi _ _ _ rfl rfl Tryd.underlying38 size5 11 m rfl rfl h11m (Nat.le_trans hmb hc) _) ?_)
  |((with_reducible refine gate_dst (N := 39) rfl ?_);refine l_append rfl H _ _ 38 5 rfl Tryd.underlying38 _ _ _ inf5 rfl (by decide) (by decide) _ 0 [] rfl .head (dropA (some ad) 11 c 1) n (c - 11) (nums .u8 DL) rfl (by rw [nums_length,hcut2.1,Nat.mul_one]) (fun hp => ((Rd.of_C hcut2).below H.below) (by rw [nums_length,hcut2.1];exact hp)) nums_one (by rw [Nat.zero_add,Nat.mul_one];exact Nat.le_trans hn197 (by decide)) ?_;clear H;intro v39 W H;obtain ⟨A39,c39,rfl⟩ := H.row_slice .head;rw [List.nil_append] at H))
  have hmi : (m : Int) = 11 + (n : Int) := by rw [← hm];simp
  rw [Nat.zero_add] at H
  refine bodyPost_ret (results_ctt (p := 4) (ty := 76) rfl _ _ g4 76 _ (0,0) _ rfl (H.heap (.tail (.tail (.tail .head)))) Tryd.underlying76 rfl size76) rfl ?_
  have hfin : (Kd.int .u8).C W A39 n ((b.take m).drop 11) := by rw [hDL];exact (H.rowC .head).2.2
  refine ⟨H.below,?_⟩
  refine ⟨A39,c39,?_,(H.rowC .head).1,(H.rowC .head).2.2,H.at_ .head⟩
  rw [← hmi]
  rfl
end Go.Proofs.YtaekpfhgdnfciaaDoor.O
end

section
/- scan's step, by what is owned. -/
set_option linter.unusedVariables false
set_option linter.unusedSimpArgs false
namespace Go.Proofs.YtaekpfhgdnfciaaDoor.O
open Go.RowKit Go.Proofs.YtaekpfhgdnfciaaDoorW.PrintWords Go.Proofs.YtaekpfhgdnfciaaDoorW.PrintLast Go.Proofs.YtaekpfhgdnfciaaDoorW.PrintMore Go.Proofs.YtaekpfhgdnfciaaDoor.F Go.Proofs.YtaekpfhgdnfciaaDoor.F.Nums Go.Proofs.YtaekpfhgdnfciaaDoor.Plain
attribute [local go_sem] Oper.semAt_some
theorem Own.front {w0 W : World} {F : Nat → Option Obj} {L L' : List Res} {r : Res} (H : Own w0 F L W) (hD : Del L r L') : Own w0 F (r :: L') W := by
 obtain ⟨A,B,rfl,rfl⟩ := hD.split
 exact H.perm List.perm_middle
/-- the cells of a row of records, and the rows that these are -/
def Drs (recs : List (List Int)) (cells : List Value) (D : List Res) : Prop := cells.length = recs.length ∧ ∀ j,j < recs.length → ∃ A c,cells[j]? = some (.slice A (recs.getD j []).length c) ∧ (recs.getD j []).length ≤ c ∧ (0 < (recs.getD j []).length → Res.row (.slice A (recs.getD j []).length c) 5 1 (recs.getD j []).length (nums .u8 (recs.getD j [])) ∈ D)
theorem Drs.snoc {recs : List (List Int)} {cells : List Value} {D : List Res} (h : Drs recs cells D) (r : List Int) (A : Option Addr) (c : Nat) (x : Value) (hc : r.length ≤ c) (hx : r ≠ [] → .slice A r.length c = x) : Drs (recs ++ [r]) (cells ++ [.slice A r.length c]) (Res.row x 5 1 r.length (nums .u8 r) :: D) := by
 refine ⟨by simp [h.1],fun j hj => ?_⟩
 by_cases e : j < recs.length
 ·obtain ⟨A2,c2,h1,h2,h3⟩ := h.2 j e
  have e2 : (recs ++ [r]).getD j [] = recs.getD j [] := by rw [List.getD_eq_getElem?_getD,List.getD_eq_getElem?_getD,List.getElem?_append_left e]
  rw [e2]
  exact ⟨A2,c2,by rw [List.getElem?_append_left (by rw [h.1];exact e)];exact h1,h2,fun hp => List.mem_cons_of_mem _ (h3 hp)⟩
 ·have e3 : j = recs.length := by simp at hj;omega
  subst e3
  have e2 : (recs ++ [r]).getD recs.length [] = r := by rw [List.getD_eq_getElem?_getD,List.getElem?_append_right (Nat.le_refl _),Nat.sub_self];rfl
  rw [e2]
  refine ⟨A,c,by rw [List.getElem?_append_right (by rw [h.1];exact Nat.le_refl _),h.1,Nat.sub_self];rfl,hc,fun hp => ?_⟩
  have := hx (fun h => by rw [h] at hp;simp at hp)
  rw [this]
  exact List.mem_cons_self ..
theorem left_c (a : Int) (w : World) : Calls Tryd.prog 50 #[.int .i64 a] w fun e W => e = .returned (.int .i64 (lf (cl a))) ∧ Below w.heap.size w W := span_Left.calls a _ w (SpanP.left_eq a)
theorem cov_own (ok : List Bool) (hok : ok.length = 16) (f t : Int) (A : Option Addr) (c : Nat) (hc : 16 ≤ c) (w : World) (hr : Rd w A (bools ok)) :
  Calls Tryd.prog 48 #[.slice A 16 c,.int .i64 f,.int .i64 t] w fun e W => e = .returned (.bool (cov ok f t)) ∧ Below w.heap.size w W := by
 obtain ⟨a,b,h,hab,hb⟩ := touch_nat f t
 have := cov_c ok f t a b h hab hb A c w hr (by omega) (by omega)
 unfold cov
 rw [h]
 simp only [Int.toNat_natCast]
 rwa [hok] at this
theorem fr_C {w : World} {Ab : Option Addr} {F : List Int} {p cb lfn : Nat} (hR : Rd w Ab (nums .u8 F)) (hF : F.length = 832) (hcb : 832 ≤ cb) (hp : p < 832) (hl : (lf (p : Int)).toNat = lfn) (hl2 : p + lfn ≤ 832) : (Kd.int .u8).C w (dropA Ab p cb 1) lfn (frAt F p) := by
 have := (hR.dropA p cb 1 (fun e => by rw [nums_length];omega)).take lfn
 rw [Nat.mul_one,nums_drop,nums_take] at this
 unfold frAt
 rw [hl]
 exact this.C (by rw [List.length_take,List.length_drop];omega) (by omega)
end Go.Proofs.YtaekpfhgdnfciaaDoor.O
end

section
/- tear.told, by what is owned. -/
set_option linter.unusedVariables false
set_option linter.unusedSimpArgs false
namespace Go.Proofs.YtaekpfhgdnfciaaDoor.O
open Go.RowKit Go.Proofs.YtaekpfhgdnfciaaDoorW.PrintWords Go.Proofs.YtaekpfhgdnfciaaDoorW.PrintLast Go.Proofs.YtaekpfhgdnfciaaDoorW.PrintMore Go.Proofs.YtaekpfhgdnfciaaDoor.F Go.Proofs.YtaekpfhgdnfciaaDoor.F.Nums Go.Proofs.YtaekpfhgdnfciaaDoor.Plain
attribute [local go_sem] Oper.semAt_some
theorem r_loadHA {P : Program} {o : Oper} {a : Act} {W : World} {g : Nat} {cs : Array Value} {t : TypeId} {fr : Nat × Nat} (ty : TypeId) (x : Operand) (ho : o.op = .load ty x) (hx : a.eval x = .pointer (some ⟨g,0,none⟩)) (hg : W.heap[g]? = some (.cells cs t fr)) {d : TypeDesc} (hu : P.underlying ty = some d) (hd : (match d with|.struct _|.array _ _ => true|_ => false) = true) (hi : (P.info? ty).map (·.size) = some cs.size) :
  (execOp a.eval o).run P W = .ok (.value (.agg cs)) W := by
 have := run_loadVar_row W g t ty cs fr d hg hu hd hi
 unfold execOp
 simp [ho,hx,Instr.loadAt,Instr.sureAddr,this]
/-- what tear.told answers -/
def ToldQ (ep : Int) (T : Option (Int × List Int × Nat)) (base : Nat) (en : Ending) (W : World) : Prop :=
 ∃ k x A' n' c' d,en = .returned (.tuple #[.agg #[.int .i64 k,.int .u32 x,.slice A' n' c'],.bool T.isSome]) ∧ W.ownsRow base 5 1 (.slice A' n' c') n' (nums .u8 d) ∧ n' = d.length ∧
  ∀ y,T = some y → y = (k,d,11 + d.length) ∧ x = ep ∧ d.length ≤ 197
set_option maxRecDepth 100000 in
set_option maxHeartbeats 16000000 in
theorem ttold_calls (e64 : Int) (F : List Int) (ok : List Bool) (hF : F.length = 832) (hFb : Bytes F) (hok : ok.length = 16) (p : Nat) (hp : p + 11 ≤ 832) (Ab Ao : Option Addr) (cb co : Nat) (hcb : 832 ≤ cb) (hco : 16 ≤ co) (w : World) (hRb : Rd w Ab (nums .u8 F)) (hRo : Rd w Ao (bools ok)) (hH : Half w) :
  Calls Tryd.prog 42 #[.int .u64 e64,.slice Ab 832 cb,.slice Ao 16 co,.int .i64 (p : Int)] w fun en W => ToldQ (e64 % 4294967296) (told (e64 % 4294967296) F ok p) w.heap.size en W ∧ Below w.heap.size w W := by
 have H := Own.start w
 have C1 := fun W h => cov_own ok hok (p : Int) ((p : Int) + 11) Ao co hco W h
 have w1 : IntKind.i64.wrap ((p : Int) + 11) = (p : Int) + 11 := by rw [IntKind.wrap_i64];omega
 have w2 : IntKind.u32.wrap e64 = e64 % 4294967296 := by rw [IntKind.wrap_u32]
 obtain ⟨ep,hep⟩ : ∃ x,e64 % 4294967296 = x := ⟨_,rfl⟩
 rw [hep] at w2 ⊢
 clear hep
 have h832 : ¬ p = 832 := by omega
 cases hc1 : cov ok (p : Int) ((p : Int) + 11) with
 |false =>
  have hn : told ep F ok p = none := by unfold told;rw [if_neg h832,if_pos hc1]
  rw [hc1] at C1
  rw [hn]
  clear w2
  go_enter Tryd.func42,Tryd.ntmps42
  go_wp2_with (first
  |((with_reducible refine gate_dst (N := 8) rfl ?_);refine l_allocA rfl H 76 rfl _ zero76 ?_;clear H;intro g8 W H)
  |((with_reducible refine gate_store (t := 76) (p := 8) rfl ?_);refine l_storeW rfl H 76 _ _ rfl _ rfl _ rfl (by (repeat (first|exact In.head|apply In.tail))) _ size76 (by (first|rfl|assumption|omega|(simp only [nums_length];omega)|(simp [nums_length,zs];done)|(simp [nums_length,zs];omega))) (by (first|rfl|assumption|omega|(simp only [nums_length];omega)|(simp [nums_length,zs];done)|(simp [nums_length,zs];omega))) (by (first|exact nums_one|assumption|(intro u hu;simp at hu;subst hu;rfl)|(intro u hu;simp at hu;rcases hu with rfl|rfl|rfl|rfl|rfl|rfl|rfl <;> rfl)|(intro u hu;simp at hu;rcases hu with rfl|rfl|rfl|rfl <;> rfl)|(intro u hu;simp at hu;rcases hu with rfl|rfl|rfl <;> rfl)|(intro u hu;simp at hu;rcases hu with rfl|rfl <;> rfl))) ?_;clear H;intro W H)
  |(go_at_call 48;(with_reducible refine (C1 _ (hRo.below H.below)).mono ?_);rintro e W ⟨rfl,hb⟩;replace H := H.to hb;clear hb))
  refine bodyPost_ret (results_ct (p := 8) (ty := 76) rfl _ _ g8 76 _ (0,0) _ rfl (H.heap .head) Tryd.underlying76 rfl size76) rfl ?_
  exact ⟨⟨0,0,none,0,0,[],rfl,own_nil _ _ _ _,rfl,fun y hy => by cases hy⟩,H.below⟩
 |true =>
  rw [hc1] at C1
  have LC := fun W => left_c (p : Int) W
  have hlf : lf (p : Int) = 208 - (p : Int) % 208 := by unfold lf;rw [if_neg (by omega)]
  rw [cl_in (a := (p : Int)) (by omega) (by omega)] at LC
  obtain ⟨lfn,hlfn⟩ : ∃ m,(lf (p : Int)).toNat = m := ⟨_,rfl⟩
  obtain ⟨hi,hhi⟩ : ∃ m,p + lfn = m := ⟨_,rfl⟩
  have hlc : lf (p : Int) = (lfn : Int) := by omega
  rw [hlc] at LC
  have hhl : hi - p = lfn := by omega
  have hh8 : p + lfn ≤ 832 := by omega
  have hph : p ≤ hi := by omega
  have hhc : hi ≤ cb := by omega
  have w3 : IntKind.i64.wrap ((p : Int) + (lfn : Int)) = (hi : Int) := by rw [IntKind.wrap_i64];omega
  have hfl : (frAt F p).length = lfn := by unfold frAt;rw [hlfn,List.length_take,List.length_drop];omega
  have hfb : Bytes (frAt F p) := bytes_take (bytes_drop hFb _) _
  have DC0 := fun W (hr : Rd W Ab (nums .u8 F)) hH => decode_calls (frAt F p) ep (dropA Ab p cb 1) (cb - p) W (by rw [hfl];exact fr_C hr hF hcb (by omega) hlfn hh8) (by rw [hfl];omega) hfb hH
  rw [hfl] at DC0
  have htold : told ep F ok p = if decE (frAt F p) ep ≠ 0 then none else if cov ok p (p + (11 + (nOf (frAt F p) : Int))) = false then none else some (kOf (frAt F p),decD (frAt F p),11 + nOf (frAt F p)) := by unfold told;rw [if_neg h832,if_neg (by rw [hc1];decide)]
  by_cases hdE : decE (frAt F p) ep ≠ 0
  ·have DC : ∀ W,Rd W Ab (nums .u8 F) → Half W → Calls Tryd.prog 49 #[.slice (dropA Ab p cb 1) lfn (cb - p),.int .u32 ep] W fun e W' => e = .returned (.tuple #[.agg #[.int .i64 0,.int .u32 0,.slice none 0 0],.int .i64 0,.int .i64 (decE (frAt F p) ep)]) ∧ Below W.heap.size W W' := fun W hr hH => (DC0 W hr hH).mono (by
    rintro e W' ⟨hb,⟨-,rfl⟩|⟨h0,-⟩⟩
    ·exact ⟨rfl,hb⟩
    ·exact absurd h0 hdE)
   rw [if_pos hdE] at htold
   rw [htold]
   have q2 : (decE (frAt F p) ep == 0) = false := by simpa using hdE
   clear DC0 hfl hfb hdE hlf hlfn hhi hlc
   generalize decE (frAt F p) ep = dE at *
   go_enter Tryd.func42,Tryd.ntmps42
   go_wp2_with (first
  |((with_reducible refine gate_dst (N := 8) rfl ?_);refine l_allocA rfl H 76 rfl _ zero76 ?_;clear H;intro g8 W H)
  |((with_reducible refine gate_dst (N := 10) rfl ?_);refine l_allocA rfl H 76 rfl _ zero76 ?_;clear H;intro g10 W H)
  |((with_reducible refine gate_store (t := 76) (p := 10) rfl ?_);refine l_storeW rfl H 76 _ _ rfl _ rfl _ rfl (by (repeat (first|exact In.head|apply In.tail))) _ size76 (by (first|rfl|assumption|omega|(simp only [nums_length];omega)|(simp [nums_length,zs];done)|(simp [nums_length,zs];omega))) (by (first|rfl|assumption|omega|(simp only [nums_length];omega)|(simp [nums_length,zs];done)|(simp [nums_length,zs];omega))) (by (first|exact nums_one|assumption|(intro u hu;simp at hu;subst hu;rfl)|(intro u hu;simp at hu;rcases hu with rfl|rfl|rfl|rfl|rfl|rfl|rfl <;> rfl)|(intro u hu;simp at hu;rcases hu with rfl|rfl|rfl|rfl <;> rfl)|(intro u hu;simp at hu;rcases hu with rfl|rfl|rfl <;> rfl)|(intro u hu;simp at hu;rcases hu with rfl|rfl <;> rfl))) ?_;clear H;intro W H)
   |(go_at_call 48;(with_reducible refine (C1 _ (hRo.below H.below)).mono ?_);rintro e W ⟨rfl,hb⟩;replace H := H.to hb;clear hb)
   |(go_at_call 50;(with_reducible refine (LC _).mono ?_);rintro e W ⟨rfl,hb⟩;replace H := H.to hb;clear hb)
   |((with_reducible refine gate_dst (N := 27) rfl ?_);refine l_run rfl (.slice (dropA Ab p cb 1) lfn (cb - p)) (by rw [← hhl];exact x_slice_lohi _ _ _ rfl rfl Tryd.underlying38 size5 p hi rfl rfl hph hhc _) ?_)
   |(go_at_call 49;(with_reducible refine (DC _ (hRb.below H.below) (hH.below H.below)).mono ?_);rintro e W ⟨rfl,hb⟩;replace H := H.to hb;clear hb))
   refine start_ (n := 13) (S := Own _ _ _) (ds := []) #[f_,f_,f_,f_,f_,f_,f_,f_,f_,f_,f_,f_,f_] (by kernel_rfl) rfl rfl H.drew (fun hHeld => ?_)
   replace H := H.drew
   generalize World.drew _ = W at H hHeld ⊢
   refine pure_ (i := 1) (N := some 35) (v := ?_) (a' := ?_) #[f_,t_,f_,f_,f_,f_,f_,f_,f_,f_,f_,f_,f_] rfl rfl (by kernel_rfl) (fun _ _ _ h => h) (Or.inl ⟨by rfl,?_⟩) ?_ ?_
   rotate_left
   ·intro w'
    go_simp
    with_reducible rfl
   rotate_left
   ·simp only [ps_]
    rfl
   refine pure_ (i := 2) (N := some 36) (v := ?_) (a' := ?_) #[f_,t_,t_,f_,f_,f_,f_,f_,f_,f_,f_,f_,f_] rfl rfl (by kernel_rfl) (fun _ _ _ h => h) (Or.inl ⟨by rfl,?_⟩) ?_ ?_
   rotate_left
   ·intro w'
    go_simp
    with_reducible rfl
   rotate_left
   ·simp only [ps_]
    rfl
   refine pure_ (i := 3) (N := some 37) (v := ?_) (a' := ?_) #[f_,t_,t_,t_,f_,f_,f_,f_,f_,f_,f_,f_,f_] rfl rfl (by kernel_rfl) (fun _ _ _ h => h) (Or.inl ⟨by rfl,?_⟩) ?_ ?_
   rotate_left
   ·intro w'
    go_simp
    with_reducible rfl
   rotate_left
   ·simp only [ps_]
    rfl
   refine pure_ (i := 4) (N := some 38) (v := undef) (a' := ?_) #[f_,t_,t_,t_,t_,f_,f_,f_,f_,f_,f_,f_,f_] rfl rfl (by kernel_rfl) (fun _ _ _ h => h) (Or.inr ⟨by rfl,rfl⟩) ?_ ?_
   rotate_left
   ·simp only [ps_]
    rfl
   refine pure_ (i := 5) (N := some 39) (v := undef) (a' := ?_) #[f_,t_,t_,t_,t_,t_,f_,f_,f_,f_,f_,f_,f_] rfl rfl (by kernel_rfl) (fun _ _ _ h => h) (Or.inr ⟨by rfl,rfl⟩) ?_ ?_
   rotate_left
   ·simp only [ps_]
    rfl
   refine pure_ (i := 6) (N := some 40) (v := undef) (a' := ?_) #[f_,t_,t_,t_,t_,t_,t_,f_,f_,f_,f_,f_,f_] rfl rfl (by kernel_rfl) (fun _ _ _ h => h) (Or.inr ⟨by rfl,rfl⟩) ?_ ?_
   rotate_left
   ·simp only [ps_]
    rfl
   refine pure_ (i := 7) (N := some 41) (v := undef) (a' := ?_) #[f_,t_,t_,t_,t_,t_,t_,t_,f_,f_,f_,f_,f_] rfl rfl (by kernel_rfl) (fun _ _ _ h => h) (Or.inr ⟨by rfl,rfl⟩) ?_ ?_
   rotate_left
   ·simp only [ps_]
    rfl
   refine pure_ (i := 8) (N := some 42) (v := undef) (a' := ?_) #[f_,t_,t_,t_,t_,t_,t_,t_,t_,f_,f_,f_,f_] rfl rfl (by kernel_rfl) (fun _ _ _ h => h) (Or.inr ⟨by rfl,rfl⟩) ?_ ?_
   rotate_left
   ·simp only [ps_]
    rfl
   refine pure_ (i := 9) (N := some 43) (v := undef) (a' := ?_) #[f_,t_,t_,t_,t_,t_,t_,t_,t_,t_,f_,f_,f_] rfl rfl (by kernel_rfl) (fun _ _ _ h => h) (Or.inr ⟨by rfl,rfl⟩) ?_ ?_
   rotate_left
   ·simp only [ps_]
    rfl
   refine pure_ (i := 10) (N := some 44) (v := ?_) (a' := ?_) #[f_,t_,t_,t_,t_,t_,t_,t_,t_,t_,t_,f_,f_] rfl rfl (by kernel_rfl) (fun _ _ _ h => h) (Or.inl ⟨by rfl,?_⟩) ?_ ?_
   rotate_left
   ·intro w'
    go_simp
    with_reducible rfl
   rotate_left
   ·simp only [ps_]
    rfl
   refine take_run (i := 0) (N := some 34) (a' := ?_) #[t_,t_,t_,t_,t_,t_,t_,t_,t_,t_,t_,f_,f_] rfl rfl (by kernel_rfl) (fun _ _ _ _ h => h) (by rfl) hHeld (.agg #[.int .i64 0,.int .u32 0,.slice none 0 0]) (fun X HX => r_loadA HX 76 _ rfl g10 rfl (by repeat (first|exact In.head|apply In.tail)) 3 _ Tryd.underlying76 rfl size76 rfl) ?_ ?_
   rotate_left
   ·simp only [ps_]
    rfl
   refine one_ (i := 11) (N := none) #[t_,t_,t_,t_,t_,t_,t_,t_,t_,t_,t_,t_,f_] rfl rfl (by kernel_rfl) (by decide) (fun K hK => ?_)
   refine wanted_ rfl ?_
   refine w_storeW H 76 _ _ rfl _ rfl _ rfl (by (repeat (first|exact In.head|apply In.tail))) _ size76 (by (first|rfl|assumption|omega|(simp only [nums_length];omega)|(simp [nums_length,zs];done)|(simp [nums_length,zs];omega))) (by (first|rfl|assumption|omega|(simp only [nums_length];omega)|(simp [nums_length,zs];done)|(simp [nums_length,zs];omega))) (by (first|exact nums_one|assumption|(intro u hu;simp at hu;subst hu;rfl)|(intro u hu;simp at hu;rcases hu with rfl|rfl|rfl|rfl|rfl|rfl|rfl <;> rfl)|(intro u hu;simp at hu;rcases hu with rfl|rfl|rfl|rfl <;> rfl)|(intro u hu;simp at hu;rcases hu with rfl|rfl|rfl <;> rfl)|(intro u hu;simp at hu;rcases hu with rfl|rfl <;> rfl))) ?_
   clear H
   intro W H
   refine hK.out _ _ ?_ (fun hHeld => ?_)
   ·first|trivial|exact H|exact H.del .head|exact (H.del .head).del .head|exact H.heap (by (repeat (first|exact In.head|apply In.tail)))
   clear hK K
   refine pure_ (i := 12) (N := some 9) (v := ?_) (a' := ?_) #[t_,t_,t_,t_,t_,t_,t_,t_,t_,t_,t_,t_,t_] rfl rfl (by kernel_rfl) (fun _ _ _ h => h) (Or.inl ⟨by rfl,?_⟩) ?_ ?_
   rotate_left
   ·intro w'
    go_simp
    with_reducible rfl
   rotate_left
   ·simp only [ps_]
    rfl
   refine done_ (by kernel_rfl) ?_
   clear hHeld
   go_wp2_with fail
   replace H := Own.front (r := .blk g8 _ _) H (by repeat (first|exact Del.head|apply Del.tail))
   refine bodyPost_ret (results_ct (p := 8) (ty := 76) rfl _ _ g8 76 _ (0,0) _ rfl (H.heap .head) Tryd.underlying76 rfl size76) rfl ?_
   exact ⟨⟨0,0,none,0,0,[],rfl,own_nil _ _ _ _,rfl,fun y hy => by cases hy⟩,H.below⟩
  ·have hdE0 : decE (frAt F p) ep = 0 := Decidable.of_not_not hdE
   have hdo := dec_ok hdE0
   rw [hfl] at hdo
   have hdl : (decD (frAt F p)).length = nOf (frAt F p) := by unfold decD;rw [List.length_drop,List.length_take];omega
   obtain ⟨m,hm⟩ : ∃ m,11 + nOf (frAt F p) = m := ⟨_,rfl⟩
   have hee2 : eOf (frAt F p) = ep := hdo.2.2.2.1
   have DC : ∀ W,Rd W Ab (nums .u8 F) → Half W → Calls Tryd.prog 49 #[.slice (dropA Ab p cb 1) lfn (cb - p),.int .u32 ep] W fun e W' => ∃ A9 c9,e = .returned (.tuple #[.agg #[.int .i64 (kOf (frAt F p)),.int .u32 ep,.slice A9 (nOf (frAt F p)) c9],.int .i64 (m : Int),.int .i64 0]) ∧ W'.ownsRow W.heap.size 5 1 (.slice A9 (nOf (frAt F p)) c9) (nOf (frAt F p)) (nums .u8 (decD (frAt F p))) ∧ Below W.heap.size W W' := fun W hr hH => (DC0 W hr hH).mono (by
    rintro e W' ⟨hb,⟨h0,-⟩|⟨-,A9,c9,rfl,-,-,ho⟩⟩
    ·exact absurd hdE0 h0
    ·exact ⟨A9,c9,by rw [← hm,hee2];rfl,ho,hb⟩)
   rw [if_neg hdE,show ((p : Int) + (11 + (nOf (frAt F p) : Int))) = (p : Int) + (m : Int) by omega,hm] at htold
   have hn197 := hdo.2.2.1
   have C2 := fun W h => cov_own ok hok (p : Int) ((p : Int) + (m : Int)) Ao co hco W h
   have w4 : IntKind.i64.wrap ((p : Int) + (m : Int)) = ((p + m : Nat) : Int) := by rw [IntKind.wrap_i64];omega
   have hpm : p + m ≤ 832 := by omega
   rw [show (p : Int) + (m : Int) = ((p + m : Nat) : Int) by omega] at C2 htold
   have hm4 : m ≤ 1000 := by omega
   clear DC0 hfl hfb hdo hdE hdE0 hee2
   generalize kOf (frAt F p) = kk at *
   generalize decD (frAt F p) = d at *
   generalize nOf (frAt F p) = nn at *
   clear hlf hlfn hhi hlc
   obtain ⟨pm,hpmm⟩ : ∃ y,p + m = y := ⟨_,rfl⟩
   rw [hpmm] at w4 C2 htold hpm
   have hTs : (told ep F ok p).isSome = cov ok (p : Int) (pm : Int) := by
    rw [htold]
    cases cov ok (p : Int) (pm : Int) <;> rfl
   have hTy : ∀ y,told ep F ok p = some y → y = (kk,d,m) := by
    intro y hy
    rw [htold] at hy
    split at hy
    ·cases hy
    ·exact (Option.some.inj hy).symm
   generalize told ep F ok p = T at *
   clear htold
   generalize cov ok (p : Int) (pm : Int) = bb at *
   go_enter Tryd.func42,Tryd.ntmps42
   go_wp2_with (first
  |((with_reducible refine gate_dst (N := 8) rfl ?_);refine l_allocA rfl H 76 rfl _ zero76 ?_;clear H;intro g8 W H)
  |((with_reducible refine gate_dst (N := 10) rfl ?_);refine l_allocA rfl H 76 rfl _ zero76 ?_;clear H;intro g10 W H)
  |((with_reducible refine gate_store (t := 76) (p := 10) rfl ?_);refine l_storeW rfl H 76 _ _ rfl _ rfl _ rfl (by (repeat (first|exact In.head|apply In.tail))) _ size76 (by (first|rfl|assumption|omega|(simp only [nums_length];omega)|(simp [nums_length,zs];done)|(simp [nums_length,zs];omega))) (by (first|rfl|assumption|omega|(simp only [nums_length];omega)|(simp [nums_length,zs];done)|(simp [nums_length,zs];omega))) (by (first|exact nums_one|assumption|(intro u hu;simp at hu;subst hu;rfl)|(intro u hu;simp at hu;rcases hu with rfl|rfl|rfl|rfl|rfl|rfl|rfl <;> rfl)|(intro u hu;simp at hu;rcases hu with rfl|rfl|rfl|rfl <;> rfl)|(intro u hu;simp at hu;rcases hu with rfl|rfl|rfl <;> rfl)|(intro u hu;simp at hu;rcases hu with rfl|rfl <;> rfl))) ?_;clear H;intro W H)
   |(go_at_call 48;(with_reducible refine (C1 _ (hRo.below H.below)).mono ?_);rintro e W ⟨rfl,hb⟩;replace H := H.to hb;clear hb)
   |(go_at_call 50;(with_reducible refine (LC _).mono ?_);rintro e W ⟨rfl,hb⟩;replace H := H.to hb;clear hb)
   |((with_reducible refine gate_dst (N := 27) rfl ?_);refine l_run rfl (.slice (dropA Ab p cb 1) lfn (cb - p)) (by rw [← hhl];exact x_slice_lohi _ _ _ rfl rfl Tryd.underlying38 size5 p hi rfl rfl hph hhc _) ?_)
   |(go_at_call 49;(with_reducible refine (DC _ (hRb.below H.below) (hH.below H.below)).mono ?_);rintro e W ⟨A9,c9,rfl,ho,hb⟩;replace H := H.addRow hb ho;clear hb ho))
   refine start_ (n := 13) (S := fun X => X.heap[g10]? = some (.cells #[.int .i64 kk,.int .u32 ep,.slice A9 nn c9] 76 (0,0))) (ds := []) #[f_,f_,f_,f_,f_,f_,f_,f_,f_,f_,f_,f_,f_] (by kernel_rfl) rfl rfl (H.drew.heap (by repeat (first|exact In.head|apply In.tail))) (fun hHeld => ?_)
   replace H := H.drew
   generalize World.drew _ = W at H hHeld ⊢
   refine pure_ (i := 1) (N := some 35) (v := ?_) (a' := ?_) #[f_,t_,f_,f_,f_,f_,f_,f_,f_,f_,f_,f_,f_] rfl rfl (by kernel_rfl) (fun _ _ _ h => h) (Or.inl ⟨by rfl,?_⟩) ?_ ?_
   rotate_left
   ·intro w'
    go_simp
    with_reducible rfl
   rotate_left
   ·simp only [ps_]
    rfl
   refine pure_ (i := 2) (N := some 36) (v := ?_) (a' := ?_) #[f_,t_,t_,f_,f_,f_,f_,f_,f_,f_,f_,f_,f_] rfl rfl (by kernel_rfl) (fun _ _ _ h => h) (Or.inl ⟨by rfl,?_⟩) ?_ ?_
   rotate_left
   ·intro w'
    go_simp
    with_reducible rfl
   rotate_left
   ·simp only [ps_]
    rfl
   refine pure_ (i := 3) (N := some 37) (v := ?_) (a' := ?_) #[f_,t_,t_,t_,f_,f_,f_,f_,f_,f_,f_,f_,f_] rfl rfl (by kernel_rfl) (fun _ _ _ h => h) (Or.inl ⟨by rfl,?_⟩) ?_ ?_
   rotate_left
   ·intro w'
    go_simp
    with_reducible rfl
   rotate_left
   ·simp only [ps_]
    rfl
   refine pure_ (i := 4) (N := some 38) (v := ?_) (a' := ?_) #[f_,t_,t_,t_,t_,f_,f_,f_,f_,f_,f_,f_,f_] rfl rfl (by kernel_rfl) (fun _ _ _ h => h) (Or.inl ⟨by rfl,?_⟩) ?_ ?_
   rotate_left
   ·intro w'
    go_simp
    with_reducible rfl
   rotate_left
   ·simp only [ps_]
    rfl
   refine pure_ (i := 5) (N := some 39) (v := ?_) (a' := ?_) #[f_,t_,t_,t_,t_,t_,f_,f_,f_,f_,f_,f_,f_] rfl rfl (by kernel_rfl) (fun _ _ _ h => h) (Or.inl ⟨by rfl,?_⟩) ?_ ?_
   rotate_left
   ·intro w'
    go_simp
    with_reducible rfl
   rotate_left
   ·simp only [ps_]
    rfl
   refine pure_ (i := 6) (N := some 40) (v := ?_) (a' := ?_) #[f_,t_,t_,t_,t_,t_,t_,f_,f_,f_,f_,f_,f_] rfl rfl (by kernel_rfl) (fun _ _ _ h => h) (Or.inl ⟨by rfl,?_⟩) ?_ ?_
   rotate_left
   ·intro w'
    go_simp
    with_reducible rfl
   rotate_left
   ·simp only [ps_]
    rfl
   refine pure_ (i := 7) (N := some 41) (v := ?_) (a' := ?_) #[f_,t_,t_,t_,t_,t_,t_,t_,f_,f_,f_,f_,f_] rfl rfl (by kernel_rfl) (fun _ _ _ h => h) (Or.inl ⟨by rfl,?_⟩) ?_ ?_
   rotate_left
   ·intro w'
    go_simp
    with_reducible rfl
   rotate_left
   ·simp only [ps_]
    rfl
   refine pure_ (i := 8) (N := some 42) (v := ?_) (a' := ?_) #[f_,t_,t_,t_,t_,t_,t_,t_,t_,f_,f_,f_,f_] rfl rfl (by kernel_rfl) (fun _ _ _ h => h) (Or.inl ⟨by rfl,?_⟩) ?_ ?_
   rotate_left
   ·intro w'
    go_simp
    with_reducible rfl
   rotate_left
   ·simp only [ps_]
    rfl
   refine take_run (i := 0) (N := some 34) (a' := ?_) #[t_,t_,t_,t_,t_,t_,t_,t_,t_,f_,f_,f_,f_] rfl rfl (by kernel_rfl) (fun _ _ _ _ h => h) (by rfl) hHeld (.agg #[.int .i64 kk,.int .u32 ep,.slice A9 nn c9]) (fun X HX => r_loadHA 76 _ rfl rfl HX Tryd.underlying76 rfl size76) ?_ ?_
   rotate_left
   ·simp only [ps_]
    rfl
   refine one_ (i := 9) (N := some 43) #[t_,t_,t_,t_,t_,t_,t_,t_,t_,t_,f_,f_,f_] rfl rfl (by kernel_rfl) (by decide) (fun K hK => ?_)
   refine callK_ (C2 _ (hRo.below H.below)) Tryd.func48 (by kernel_rfl) rfl (by rfl) rfl rfl (by (try simp only [List.map_toArray,List.map_cons,List.map_nil]);first|done|rfl) ?_
   rintro e W ⟨rfl,hb⟩
   refine ⟨_,rfl,?_⟩
   replace H := H.to hb
   clear hb
   refine hK.out _ _ ?_ (fun hHeld => ?_)
   ·first|trivial|exact H|exact H.del .head|exact (H.del .head).del .head|exact H.heap (by (repeat (first|exact In.head|apply In.tail)))
   clear hK K
   refine norm_ (a' := ?_) ?_ ?_
   rotate_left
   ·show Act.put _ (some 43) _ = _
    simp only [ps_]
    rfl
   refine pure_ (i := 10) (N := some 44) (v := ?_) (a' := ?_) #[t_,t_,t_,t_,t_,t_,t_,t_,t_,t_,t_,f_,f_] rfl rfl (by kernel_rfl) (fun _ _ _ h => h) (Or.inl ⟨by rfl,?_⟩) ?_ ?_
   rotate_left
   ·intro w'
    go_simp
    with_reducible rfl
   rotate_left
   ·simp only [ps_]
    rfl
   refine one_ (i := 11) (N := none) #[t_,t_,t_,t_,t_,t_,t_,t_,t_,t_,t_,t_,f_] rfl rfl (by kernel_rfl) (by decide) (fun K hK => ?_)
   refine wanted_ rfl ?_
   refine w_storeW H 76 _ _ rfl _ rfl _ rfl (by (repeat (first|exact In.head|apply In.tail))) _ size76 (by (first|rfl|assumption|omega|(simp only [nums_length];omega)|(simp [nums_length,zs];done)|(simp [nums_length,zs];omega))) (by (first|rfl|assumption|omega|(simp only [nums_length];omega)|(simp [nums_length,zs];done)|(simp [nums_length,zs];omega))) (by (first|exact nums_one|assumption|(intro u hu;simp at hu;subst hu;rfl)|(intro u hu;simp at hu;rcases hu with rfl|rfl|rfl|rfl|rfl|rfl|rfl <;> rfl)|(intro u hu;simp at hu;rcases hu with rfl|rfl|rfl|rfl <;> rfl)|(intro u hu;simp at hu;rcases hu with rfl|rfl|rfl <;> rfl)|(intro u hu;simp at hu;rcases hu with rfl|rfl <;> rfl))) ?_
   clear H
   intro W H
   refine hK.out _ _ ?_ (fun hHeld => ?_)
   ·first|trivial|exact H|exact H.del .head|exact (H.del .head).del .head|exact H.heap (by (repeat (first|exact In.head|apply In.tail)))
   clear hK K
   refine pure_ (i := 12) (N := some 9) (v := ?_) (a' := ?_) #[t_,t_,t_,t_,t_,t_,t_,t_,t_,t_,t_,t_,t_] rfl rfl (by kernel_rfl) (fun _ _ _ h => h) (Or.inl ⟨by rfl,?_⟩) ?_ ?_
   rotate_left
   ·intro w'
    go_simp
    with_reducible rfl
   rotate_left
   ·simp only [ps_]
    rfl
   refine done_ (by kernel_rfl) ?_
   clear hHeld
   all_goals
    go_wp2_with fail
    replace H := Own.front (r := .blk g8 _ _) H (by repeat (first|exact Del.head|apply Del.tail))
    refine bodyPost_ret (results_ct (p := 8) (ty := 76) rfl _ _ g8 76 _ (0,0) _ rfl (H.heap .head) Tryd.underlying76 rfl size76) rfl ?_
    subst hdl
    exact ⟨⟨kk,ep,A9,d.length,c9,d,by rw [hTs];rfl,H.at_ (r := .row (.slice A9 d.length c9) 5 1 d.length (nums .u8 d)) (by repeat (first|exact In.head|apply In.tail)),rfl,fun y hy => ⟨by rw [hTy y hy,← hm],rfl,hn197⟩⟩,H.below⟩
end Go.Proofs.YtaekpfhgdnfciaaDoor.O
end

section
/- Strings of bytes are the bytes. Plain. -/
set_option linter.unusedVariables false
set_option linter.unusedSimpArgs false
namespace Go.Proofs.YtaekpfhgdnfciaaDoor.CrcMath
open Go.RowKit Go.Proofs.YtaekpfhgdnfciaaDoor.F Go.Proofs.YtaekpfhgdnfciaaDoorW.PrintWords Go.Proofs.YtaekpfhgdnfciaaDoorW.PrintLast Go.Proofs.YtaekpfhgdnfciaaDoorW.PrintMore Go.Proofs.YtaekpfhgdnfciaaDoor.Plain
/-! strings of bytes -/
theorem ba_loop (bs : ByteArray) (d : Nat) : ∀ (i : Nat) (r : List UInt8),bs.size - i = d → ByteArray.toList.loop bs i r = r.reverse ++ bs.data.toList.drop i := by
 induction d with
 |zero =>
  intro i r h
  unfold ByteArray.toList.loop
  rw [if_neg (by omega),List.drop_eq_nil_of_le (by simp only [Array.length_toList];exact Nat.le_of_sub_eq_zero h),List.append_nil]
 |succ d ih =>
  intro i r h
  unfold ByteArray.toList.loop
  have hi : i < bs.size := by omega
  have hi2 : i < bs.data.toList.length := by simp only [Array.length_toList];exact hi
  rw [if_pos hi,ih (i + 1) _ (by omega),List.drop_eq_getElem_cons hi2,List.reverse_cons,List.append_assoc]
  congr 1
  show [bs.get! i] ++ _ = _
  have : bs.get! i = bs.data.toList[i] := by
   show bs.data[i]! = _
   rw [getElem!_pos bs.data i hi]
   simp
  rw [this]
  rfl
theorem ba_toList (bs : ByteArray) : bs.toList = bs.data.toList := by
 unfold ByteArray.toList
 rw [ba_loop bs bs.size 0 [] (by omega)]
 rfl
theorem strOfNums_inj : ∀ {x y : List Int},(∀ c ∈ x,0 ≤ c ∧ c ≤ 255) → (∀ c ∈ y,0 ≤ c ∧ c ≤ 255) → (strOfNums x).toList = (strOfNums y).toList → x = y := by
 have key : ∀ (x y : List Int),(∀ c ∈ x,0 ≤ c ∧ c ≤ 255) → (∀ c ∈ y,0 ≤ c ∧ c ≤ 255) → (x.map fun n => UInt8.ofNat n.toNat) = (y.map fun n => UInt8.ofNat n.toNat) → x = y := by
  intro x
  induction x with
  |nil => intro y _ _ h;cases y with
   |nil => rfl
   |cons c y => cases h
  |cons c x ih =>
   intro y hx hy h
   cases y with
   |nil => cases h
   |cons c' y =>
    simp only [List.map_cons,List.cons.injEq] at h
    have a := hx c (List.mem_cons_self ..)
    have b := hy c' (List.mem_cons_self ..)
    have e := congrArg UInt8.toNat h.1
    simp only [UInt8.toNat_ofNat'] at e
    rw [ih y (fun z hz => hx z (List.mem_cons_of_mem _ hz)) (fun z hz => hy z (List.mem_cons_of_mem _ hz)) h.2,show c = c' by omega]
 intro x y hx hy h
 rw [ba_toList,ba_toList] at h
 exact key x y hx hy (by simpa [strOfNums] using h)
end Go.Proofs.YtaekpfhgdnfciaaDoor.CrcMath
end
