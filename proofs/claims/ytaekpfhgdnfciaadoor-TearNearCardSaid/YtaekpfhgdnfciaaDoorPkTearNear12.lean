/- Texts of mine put together: FragDec, StrInj, FragRDec, ScanX. -/
import Derived.Test.YtaekpfhgdnfciaaDoorPkTearNear11
import Derived.Test.YtaekpfhgdnfciaaDoorPkTearNear6
set_option linter.unusedVariables false
set_option linter.unusedSimpArgs false

section
namespace Go.Proofs.YtaekpfhgdnfciaaDoor.O
open Go.RowKit Go.Proofs.YtaekpfhgdnfciaaDoorW.PrintWords Go.Proofs.YtaekpfhgdnfciaaDoorW.PrintLast Go.Proofs.YtaekpfhgdnfciaaDoorW.PrintMore Go.Proofs.YtaekpfhgdnfciaaDoor.F Go.Proofs.YtaekpfhgdnfciaaDoor.F.Nums Go.Proofs.YtaekpfhgdnfciaaDoor.Plain
theorem bytes_eq11' (xs ys : List Int) (hx : xs.length = 11) (hy : ys.length = 11) (bx : Bytes xs) (by' : Bytes ys) (W : World) : (Op.equalIn 10000 127 (.agg (vals xs).toArray) (.agg (vals ys).toArray)).run Tryd.prog W = .ok (xs == ys) W :=
 equalB 9998 W 127 11 Tryd.underlying127 hx hy bx by'
theorem bytes_eq11 (xs : List Int) (hx : xs.length = 11) (bx : Bytes xs) (W : World) : (Op.equalIn 10000 127 (.agg (nums .u8 xs).toArray) (.agg #[.int .u8 0,.int .u8 0,.int .u8 0,.int .u8 0,.int .u8 0,.int .u8 0,.int .u8 0,.int .u8 0,.int .u8 0,.int .u8 0,.int .u8 0])).run Tryd.prog W = .ok (xs == zs 11) W := by
 have e : (#[.int .u8 0,.int .u8 0,.int .u8 0,.int .u8 0,.int .u8 0,.int .u8 0,.int .u8 0,.int .u8 0,.int .u8 0,.int .u8 0,.int .u8 0] : Array Value) = (vals (zs 11)).toArray := rfl
 rw [e]
 exact bytes_eq11' xs (zs 11) hx (by simp [zs]) bx (bytes_zs 11) W
theorem run_arrayAt11 (ad : Addr) (n c : Nat) (h : 11 ≤ n) (W : World) : (Instr.arrayAt 127 (.slice (some ad) n c)).run Tryd.prog W = .ok (.pointer (some ad)) W := by
 unfold Instr.arrayAt
 simp [Sem.run_bind,run_underlying Tryd.underlying127,h]
 intro hlt
 omega
set_option maxRecDepth 100000 in
set_option maxHeartbeats 8000000 in
theorem decode_calls (b : List Int) (ep : Int) (A : Option Addr) (c : Nat) (w : World) (hC : (Kd.int .u8).C w A b.length b) (hc : b.length ≤ c) (bb : Bytes b) (hH : Half w) :
  Calls Tryd.prog 49 #[.slice A b.length c,.int .u32 ep] w fun e W => Below w.heap.size w W ∧
   ((decE b ep ≠ 0 ∧ e = .returned (.tuple #[.agg #[.int .i64 0,.int .u32 0,.slice none 0 0],.int .i64 0,.int .i64 (decE b ep)])) ∨
    (decE b ep = 0 ∧ ∃ A' c',e = .returned (.tuple #[.agg #[.int .i64 (kOf b),.int .u32 (eOf b),.slice A' (nOf b) c'],.int .i64 (11 + (nOf b : Int)),.int .i64 0]) ∧ nOf b ≤ c' ∧ (Kd.int .u8).C W A' (nOf b) (decD b) ∧ W.ownsRow w.heap.size 5 1 (.slice A' (nOf b) c') (nOf b) (nums .u8 (decD b)))) := by
 have H := Own.start w
 by_cases h11 : b.length < 11
 ·have hE : decE b ep = 1 := by unfold decE;rw [if_pos h11]
  rw [hE]
  have q1 : decide ((b.length : Int) < 11) = true := decide_eq_true (by omega)
  generalize b.length = n at *
  go_enter Tryd.func49,Tryd.ntmps49
  go_wp2_with (first
  |((with_reducible refine gate_dst (N := 4) rfl ?_);refine l_allocA rfl H 76 rfl _ zero76 ?_;clear H;intro g4 W H)
  |((with_reducible refine gate_store (t := 76) (p := 4) rfl ?_);refine l_storeW rfl H 76 _ _ rfl _ rfl _ rfl (by repeat constructor) _ size76 (by first|rfl|assumption|omega|(simp only [nums_length];omega)|simp [nums_length,zs] <;> omega) (by first|rfl|assumption|omega|(simp only [nums_length];omega)|simp [nums_length,zs] <;> omega) (by first|exact nums_one|assumption|exact on1_ rfl) ?_;clear H;intro W H))
  refine bodyPost_ret (results_ctt (p := 4) (ty := 76) rfl _ _ g4 76 _ (0,0) _ rfl (H.heap .head) Tryd.underlying76 rfl size76) rfl ?_
  exact ⟨H.below,.inl ⟨by decide,rfl⟩⟩
 have hE0 : decE b ep = if b.take 11 = zs 11 then 7 else if rightF (kOf b) 0 = false ∨ 197 < nOf b ∨ eOf b ≠ ep then 2 else if b.length < 11 + nOf b then 1 else if sOf b ≠ sumN ((b.take (11 + nOf b)).drop 4) then 3 else 0 := by unfold decE;rw [if_neg h11]
 have q1 : decide ((b.length : Int) < 11) = false := decide_eq_false (by omega)
 obtain ⟨ad,rfl⟩ := (Rd.of_C hC).some_ (by rw [nums_length];omega)
 have hR : Rd w (some ad) (nums .u8 (b.take 11)) := by rw [← nums_take];exact (Rd.of_C hC).take 11
 have hl : (b.take 11).length = 11 := by rw [List.length_take];omega
 have hbh : Bytes (b.take 11) := bytes_take bb 11
 have heq := fun W => bytes_eq11 (b.take 11) hl hbh W
 have hk6 : (nums .u8 (b.take 11))[6]? = some (.int .u8 (kOf b)) := by
  rw [nums_at 6 (by omega)]
  unfold kOf
  rw [List.getD_eq_getElem?_getD,List.getElem?_take_of_lt (by decide),List.getD_eq_getElem?_getD]
 have hn1 : getn (((b.take 11).drop 4).take 2) 2 = nOf b := getn_pre 2 (fun j hj => by rw [List.getElem?_take_of_lt hj,List.getElem?_drop,List.getElem?_drop,List.getElem?_take_of_lt (by omega)])
 have hn2 : ((getn (((b.take 11).drop 7).take 4) 4 : Nat) : Int) = eOf b := by unfold eOf;exact congrArg _ (getn_pre 4 (fun j hj => by rw [List.getElem?_take_of_lt hj,List.getElem?_drop,List.getElem?_drop,List.getElem?_take_of_lt (by omega)]))
 have hn3 : getn (((b.take 11).drop 0).take 4) 4 = sOf b := getn_pre 4 (fun j hj => by rw [List.getElem?_take_of_lt hj,List.drop_zero,List.getElem?_take_of_lt (by omega)])
 have hlt := nOf_lt bb
 have het := eOf_lt bb
 have hkt : 0 ≤ kOf b ∧ kOf b ≤ 255 := by
  unfold kOf
  rw [List.getD_eq_getElem?_getD,List.getElem?_eq_getElem (by omega)]
  exact bb _ (List.getElem_mem _)
 have hst := sOf_lt bb
 obtain ⟨h,hh⟩ : ∃ x,b.take 11 = x := ⟨_,rfl⟩
 obtain ⟨n,hn⟩ : ∃ x,nOf b = x := ⟨_,rfl⟩
 obtain ⟨kk,hkk⟩ : ∃ x,kOf b = x := ⟨_,rfl⟩
 obtain ⟨ee,hee⟩ : ∃ x,eOf b = x := ⟨_,rfl⟩
 obtain ⟨ss,hss⟩ : ∃ x,sOf b = x := ⟨_,rfl⟩
 obtain ⟨dE,hdE⟩ : ∃ x,decE b ep = x := ⟨_,rfl⟩
 have hdd : decD b = (b.take (11 + n)).drop 11 := by unfold decD;rw [hn]
 rw [hdd]
 rw [hh] at hl hbh heq hk6 hn1 hn2 hn3 hR hE0
 rw [hn] at hn1 hE0 hlt ⊢
 rw [hkk] at hk6 hE0 hkt ⊢
 rw [hee] at hn2 hE0 het ⊢
 rw [hss] at hn3 hE0 hst
 rw [hdE] at hE0 ⊢
 have GF1 := fun {W : World} {L : List Res} (H : Own w F0 L W) A n c hC hc => get_own H A n c ((h.drop 4).take 2) hC hc (bytes_take (bytes_drop hbh 4) 2)
 have GF2 := fun {W : World} {L : List Res} (H : Own w F0 L W) A n c hC hc => get_own H A n c ((h.drop 7).take 4) hC hc (bytes_take (bytes_drop hbh 7) 4)
 have GF3 := fun {W : World} {L : List Res} (H : Own w F0 L W) A n c hC hc => get_own H A n c ((h.drop 0).take 4) hC hc (bytes_take (bytes_drop hbh 0) 4)
 have hAt := fun W => run_arrayAt11 ad 11 c (by decide) W
 obtain ⟨bl,hbl⟩ : ∃ x,b.length = x := ⟨_,rfl⟩
 rw [hbl] at hC hc hE0 q1 h11 ⊢
 by_cases hz : h = zs 11
 ·rw [if_pos hz] at hE0
  subst hE0
  rw [show (h == zs 11) = true by simp [hz]] at heq
  clear hz
  have qs : (11 : Nat) ≤ c := by omega
  go_enter Tryd.func49,Tryd.ntmps49
  go_wp2_with (first
  |((with_reducible refine gate_dst (N := 4) rfl ?_);refine l_allocA rfl H 76 rfl _ zero76 ?_;clear H;intro g4 W H)
  |((with_reducible refine gate_dst (N := 7) rfl ?_);refine l_allocA rfl H 127 rfl _ zero127 ?_;clear H;intro g7 W H)
  |((with_reducible refine gate_store (t := 127) (p := 7) rfl ?_);refine l_storeW rfl H 127 _ _ rfl _ rfl _ rfl (by repeat constructor) _ size127 (by first|rfl|assumption|omega|(simp only [nums_length];omega)|simp [nums_length,zs] <;> omega) (by first|rfl|assumption|omega|(simp only [nums_length];omega)|simp [nums_length,zs] <;> omega) (by first|exact nums_one|assumption|exact on1_ rfl) ?_;clear H;intro W H)
  |((with_reducible refine gate_dst (N := 19) rfl ?_);refine l_loadA rfl H 127 _ rfl _ rfl (by repeat constructor) _ _ Tryd.underlying127 rfl size127 (by first|rfl|assumption|omega|(simp only [nums_length];omega)|simp [nums_length,zs] <;> omega) ?_)
  |((with_reducible refine gate_store (t := 76) (p := 4) rfl ?_);refine l_storeW rfl H 76 _ _ rfl _ rfl _ rfl (by repeat constructor) _ size76 (by first|rfl|assumption|omega|(simp only [nums_length];omega)|simp [nums_length,zs] <;> omega) (by first|rfl|assumption|omega|(simp only [nums_length];omega)|simp [nums_length,zs] <;> omega) (by first|exact nums_one|assumption|exact on1_ rfl) ?_;clear H;intro W H)
  |((with_reducible refine gate_dst (N := 18) rfl ?_);refine l_run rfl _ (r_loadRd0 127 _ rfl rfl (hR.below H.below) 11 _ Tryd.underlying127 rfl size127 (by decide) (by rw [nums_length];exact hl)) ?_))
  refine bodyPost_ret (results_ctt (p := 4) (ty := 76) rfl _ _ g4 76 _ (0,0) _ rfl (H.heap (.tail .head)) Tryd.underlying76 rfl size76) rfl ?_
  exact ⟨H.below,.inl ⟨by decide,rfl⟩⟩
 rw [if_neg hz] at hE0
 rw [show (h == zs 11) = false by simp [hz]] at heq
 clear hz
 replace hE0 := Aside0.mk hE0
 have hw1 : wrap64 (n : Int) = (n : Int) := w64 (by omega) (by omega)
 have hw1' : IntKind.i64.wrap (n : Int) = (n : Int) := (i64_w _).trans hw1
 have hw2 : wrap64 kk = kk := w64 (by omega) (by omega)
 have hw2' : IntKind.i64.wrap kk = kk := (i64_w _).trans hw2
 have hw3 : IntKind.u32.wrap ee = ee := wu32 het.1 het.2
 have hw4 : IntKind.u32.wrap (ss : Int) = (ss : Int) := wu32 (by omega) (by omega)
 go_enter Tryd.func49,Tryd.ntmps49
 go_wp2_with (first
  |((with_reducible refine gate_dst (N := 4) rfl ?_);refine l_allocA rfl H 76 rfl _ zero76 ?_;clear H;intro g4 W H)
  |((with_reducible refine gate_dst (N := 7) rfl ?_);refine l_allocA rfl H 127 rfl _ zero127 ?_;clear H;intro g7 W H)
  |((with_reducible refine gate_store (t := 127) (p := 7) rfl ?_);refine l_storeW rfl H 127 _ _ rfl _ rfl _ rfl (by repeat constructor) _ size127 (by first|rfl|assumption|omega|(simp only [nums_length];omega)|simp [nums_length,zs] <;> omega) (by first|rfl|assumption|omega|(simp only [nums_length];omega)|simp [nums_length,zs] <;> omega) (by first|exact nums_one|assumption|exact on1_ rfl) ?_;clear H;intro W H)
  |((with_reducible refine gate_dst (N := 19) rfl ?_);refine l_loadA rfl H 127 _ rfl _ rfl (by repeat constructor) _ _ Tryd.underlying127 rfl size127 (by first|rfl|assumption|omega|(simp only [nums_length];omega)|simp [nums_length,zs] <;> omega) ?_)
  |((with_reducible refine gate_dst (N := 18) rfl ?_);refine l_run rfl _ (r_loadRd0 127 _ rfl rfl (hR.below H.below) 11 _ Tryd.underlying127 rfl size127 (by decide) (by rw [nums_length];exact hl)) ?_)
  |(go_at_call 69;(with_reducible refine (GF1 H _ _ _ (H.C .head 4 2 (by omega) (by decide)) (by decide) (by decide)).mono ?_);clear H;rintro e W ⟨rfl,H⟩;rw [hn1]))
 refine start_ (n := 9) (S := Own _ _ _) (ds := [8]) #[f_,f_,f_,f_,f_,f_,f_,f_,f_] (by kernel_rfl) rfl rfl H.drew (fun hHeld => ?_)
 replace H := H.drew
 generalize World.drew _ = W at H hHeld ⊢
 refine pure_ (i := 0) (N := some 26) #[t_,f_,f_,f_,f_,f_,f_,f_,f_] rfl rfl (by kernel_rfl) (fun _ _ _ h => h) (Or.inl ⟨by rfl,by intro w';go_simp;with_reducible rfl⟩) (by simp only [ps_];rfl) ?_
 refine pure_ (i := 3) (N := some 29) #[t_,f_,f_,t_,f_,f_,f_,f_,f_] rfl rfl (by kernel_rfl) (fun _ _ _ h => h) (Or.inl ⟨by rfl,by intro w';go_simp;with_reducible rfl⟩) (by simp only [ps_];rfl) ?_
 refine take_load1 (i := 1) (N := some 27) #[t_,t_,f_,t_,f_,f_,f_,f_,f_] rfl rfl (by kernel_rfl) (fun _ _ _ _ h => h) (by rfl) hHeld 5 _ rfl _ _ rfl (by repeat constructor) _ Tryd.underlying5 rfl _ (by first|rfl|assumption|exact nums_at _ (by omega)) (by simp only [ps_];rfl) ?_
 refine pure_ (i := 2) (N := some 28) #[t_,t_,t_,t_,f_,f_,f_,f_,f_] rfl rfl (by kernel_rfl) (fun _ _ _ h => h) (Or.inl ⟨by rfl,by intro w';go_simp;with_reducible rfl⟩) (by simp only [ps_];rfl) ?_
 refine two_ (i := 4) (j := 7) (Ni := some 30) (Nj := some 9) #[t_,t_,t_,t_,t_,f_,f_,f_,f_] #[t_,t_,t_,t_,f_,f_,f_,t_,f_] rfl rfl rfl rfl (by kernel_rfl) (by decide) (by decide) (fun K hK => ?_) (fun K hK => ?_)
 focus
  refine callK_ (GF2 H (some ⟨g7,7,none⟩) 4 4 (by first|exact H.C .head 7 4 (by omega) (by decide)|exact H.C (.tail .head) 7 4 (by omega) (by decide)) (by decide) (by decide)) Tryd.func69 (by kernel_rfl) rfl (by rfl) rfl rfl (by (try simp only [List.map_toArray,List.map_cons,List.map_nil]);first|done|rfl) ?_
  rintro e W ⟨rfl,H'⟩
  refine ⟨_,rfl,?_⟩
  replace H := H'
  clear H'
  rw [hn2]
  refine hK.out _ _ ?_ (fun hHeld => ?_)
  ·first|trivial|exact H|exact H.del .head|exact (H.del .head).del .head|exact H.heap (by repeat constructor)
  clear hK K
  refine norm_ (by show Act.put _ (some 30) _ = _;simp only [ps_];rfl) ?_
  refine pure_ (i := 5) (N := some 31) #[t_,t_,t_,t_,t_,t_,f_,f_,f_] rfl rfl (by kernel_rfl) (fun _ _ _ h => h) (Or.inl ⟨by rfl,by intro w';go_simp;with_reducible rfl⟩) (by simp only [ps_];rfl) ?_
  refine pure_ (i := 6) (N := some 32) #[t_,t_,t_,t_,t_,t_,t_,f_,f_] rfl rfl (by kernel_rfl) (fun _ _ _ h => h) (Or.inl ⟨by rfl,by intro w';go_simp;with_reducible rfl⟩) (by simp only [ps_];rfl) ?_
  refine one_ (i := 7) (N := some 9) #[t_,t_,t_,t_,t_,t_,t_,t_,f_] rfl rfl (by kernel_rfl) (by decide) (fun K hK => ?_)
  refine wanted_ rfl ?_
  refine w_allocA H 76 rfl _ zero76 ?_
  clear H
  intro g9 W H
  refine hK.out _ _ ?_ (fun hHeld => ?_)
  ·first|trivial|exact H|exact H.del .head|exact (H.del .head).del .head|exact H.heap (by repeat constructor)
  clear hK K
  refine norm_ (by show Act.put _ (some 9) _ = _;simp only [ps_];rfl) ?_
 rotate_left
 focus
  refine wanted_ rfl ?_
  refine w_allocA H 76 rfl _ zero76 ?_
  clear H
  intro g9 W H
  refine hK.out _ _ ?_ (fun hHeld => ?_)
  ·first|trivial|exact H|exact H.del .head|exact (H.del .head).del .head|exact H.heap (by repeat constructor)
  clear hK K
  refine norm_ (by show Act.put _ (some 9) _ = _;simp only [ps_];rfl) ?_
  refine one_ (i := 4) (N := some 30) #[t_,t_,t_,t_,t_,f_,f_,t_,f_] rfl rfl (by kernel_rfl) (by decide) (fun K hK => ?_)
  refine callK_ (GF2 H (some ⟨g7,7,none⟩) 4 4 (by first|exact H.C .head 7 4 (by omega) (by decide)|exact H.C (.tail .head) 7 4 (by omega) (by decide)) (by decide) (by decide)) Tryd.func69 (by kernel_rfl) rfl (by rfl) rfl rfl (by (try simp only [List.map_toArray,List.map_cons,List.map_nil]);first|done|rfl) ?_
  rintro e W ⟨rfl,H'⟩
  refine ⟨_,rfl,?_⟩
  replace H := H'
  clear H'
  rw [hn2]
  refine hK.out _ _ ?_ (fun hHeld => ?_)
  ·first|trivial|exact H|exact H.del .head|exact (H.del .head).del .head|exact H.heap (by repeat constructor)
  clear hK K
  refine norm_ (by show Act.put _ (some 30) _ = _;simp only [ps_];rfl) ?_
  refine pure_ (i := 5) (N := some 31) #[t_,t_,t_,t_,t_,t_,f_,t_,f_] rfl rfl (by kernel_rfl) (fun _ _ _ h => h) (Or.inl ⟨by rfl,by intro w';go_simp;with_reducible rfl⟩) (by simp only [ps_];rfl) ?_
  refine pure_ (i := 6) (N := some 32) #[t_,t_,t_,t_,t_,t_,t_,t_,f_] rfl rfl (by kernel_rfl) (fun _ _ _ h => h) (Or.inl ⟨by rfl,by intro w';go_simp;with_reducible rfl⟩) (by simp only [ps_];rfl) ?_
  skip
 all_goals
  refine last_ (i := 8) (N := none) #[t_,t_,t_,t_,t_,t_,t_,t_,t_] rfl rfl (by kernel_rfl) (by decide) (fun K hK => ?_)
  refine wanted_ rfl ?_
  refine w_storeW H 76 _ _ rfl _ rfl _ rfl (by repeat constructor) _ size76 (by first|rfl|assumption|omega|(simp only [nums_length];omega)|simp [nums_length,zs] <;> omega) (by first|rfl|assumption|omega|(simp only [nums_length];omega)|simp [nums_length,zs] <;> omega) (by first|exact nums_one|assumption|exact on1_ rfl) ?_
  clear H
  intro W H
  refine hK.out _ _ ?_
  clear hK K
  refine done_ (by kernel_rfl) ?_
  clear hHeld
 all_goals
  clear hh hn hkk hee hss hdE hdd heq hk6 hn1 hn2 GF1 GF2 hAt hbl hw1 hw1' hw2 hw2' hw3
  have FRt := fun W => frag_right.calls kk ee none 0 [] _ W ⟨rfl,by simp,fun h => absurd h (by simp)⟩ (Nat.le_refl _) (right_eq kk ee [])
  simp only [List.length_nil] at FRt
  obtain ⟨m,hm⟩ : ∃ m,11 + n = m := ⟨_,rfl⟩
  have hw5 : wrap64 (11 + (n : Int)) = (m : Int) := by rw [show (11 : Int) + n = (m : Int) by omega];exact w64 (by omega) (by omega)
  have hw5' : IntKind.i64.wrap (11 + (n : Int)) = (m : Int) := (i64_w _).trans hw5
  replace hE0 := hE0.out
  rw [hm] at hE0
  generalize rightF kk 0 = r0 at FRt hE0
  replace hE0 := Aside0.mk hE0
  rcases r0 with _|_
  ·have hE0 := hE0.out
   rw [if_pos (.inl rfl)] at hE0
   subst hE0
   go_wp2_with (first
  |((with_reducible refine gate_dst (N := 44) rfl ?_);refine l_loadA rfl H 76 _ rfl _ rfl (by repeat constructor) _ _ Tryd.underlying76 rfl size76 (by first|rfl|assumption|omega|(simp only [nums_length];omega)|simp [nums_length,zs] <;> omega) ?_)
  |((with_reducible refine gate_dst (N := 53) rfl ?_);refine gate_guard (by rfl) ?_;refine l_load1 rfl H 67 _ rfl _ _ rfl (by repeat constructor) _ Tryd.underlying67 rfl _ (by first|rfl|assumption|exact nums_at _ (by omega)) ?_)
  |((with_reducible refine gate_store (t := 76) (p := 4) rfl ?_);refine l_storeW rfl H 76 _ _ rfl _ rfl _ rfl (by repeat constructor) _ size76 (by first|rfl|assumption|omega|(simp only [nums_length];omega)|simp [nums_length,zs] <;> omega) (by first|rfl|assumption|omega|(simp only [nums_length];omega)|simp [nums_length,zs] <;> omega) (by first|exact nums_one|assumption|exact on1_ rfl) ?_;clear H;intro W H)
  |(go_at_call 70;(with_reducible refine (FRt _).mono ?_);rintro e W ⟨rfl,hb⟩;replace H := H.to hb;clear hb))
   refine bodyPost_ret (results_ctt (p := 4) (ty := 76) rfl _ _ g4 76 _ (0,0) _ rfl (H.heap (.tail (.tail .head))) Tryd.underlying76 rfl size76) rfl ?_
   exact ⟨H.below,.inl ⟨by decide,rfl⟩⟩
  by_cases g1 : 197 < n
  ·have hE0 := hE0.out
   rw [if_pos (.inr (.inl g1))] at hE0
   subst hE0
   have q5 : decide (197 < (n : Int)) = true := decide_eq_true (Int.ofNat_lt.2 g1)
   clear g1
   go_wp2_with (first
  |((with_reducible refine gate_dst (N := 44) rfl ?_);refine l_loadA rfl H 76 _ rfl _ rfl (by repeat constructor) _ _ Tryd.underlying76 rfl size76 (by first|rfl|assumption|omega|(simp only [nums_length];omega)|simp [nums_length,zs] <;> omega) ?_)
  |((with_reducible refine gate_dst (N := 53) rfl ?_);refine gate_guard (by rfl) ?_;refine l_load1 rfl H 67 _ rfl _ _ rfl (by repeat constructor) _ Tryd.underlying67 rfl _ (by first|rfl|assumption|exact nums_at _ (by omega)) ?_)
  |((with_reducible refine gate_store (t := 76) (p := 4) rfl ?_);refine l_storeW rfl H 76 _ _ rfl _ rfl _ rfl (by repeat constructor) _ size76 (by first|rfl|assumption|omega|(simp only [nums_length];omega)|simp [nums_length,zs] <;> omega) (by first|rfl|assumption|omega|(simp only [nums_length];omega)|simp [nums_length,zs] <;> omega) (by first|exact nums_one|assumption|exact on1_ rfl) ?_;clear H;intro W H)
  |(go_at_call 70;(with_reducible refine (FRt _).mono ?_);rintro e W ⟨rfl,hb⟩;replace H := H.to hb;clear hb))
   refine bodyPost_ret (results_ctt (p := 4) (ty := 76) rfl _ _ g4 76 _ (0,0) _ rfl (H.heap (.tail (.tail .head))) Tryd.underlying76 rfl size76) rfl ?_
   exact ⟨H.below,.inl ⟨by decide,rfl⟩⟩
  have q5 : decide (197 < (n : Int)) = false := decide_eq_false (fun h => g1 (Int.ofNat_lt.1 h))
  by_cases g2 : ¬ ee = ep
  ·have hE0 := hE0.out
   rw [if_pos (.inr (.inr g2))] at hE0
   subst hE0
   have q6 : (ee != ep) = true := by simp [g2]
   clear g2 g1
   go_wp2_with (first
  |((with_reducible refine gate_dst (N := 44) rfl ?_);refine l_loadA rfl H 76 _ rfl _ rfl (by repeat constructor) _ _ Tryd.underlying76 rfl size76 (by first|rfl|assumption|omega|(simp only [nums_length];omega)|simp [nums_length,zs] <;> omega) ?_)
  |((with_reducible refine gate_dst (N := 53) rfl ?_);refine gate_guard (by rfl) ?_;refine l_load1 rfl H 67 _ rfl _ _ rfl (by repeat constructor) _ Tryd.underlying67 rfl _ (by first|rfl|assumption|exact nums_at _ (by omega)) ?_)
  |((with_reducible refine gate_store (t := 76) (p := 4) rfl ?_);refine l_storeW rfl H 76 _ _ rfl _ rfl _ rfl (by repeat constructor) _ size76 (by first|rfl|assumption|omega|(simp only [nums_length];omega)|simp [nums_length,zs] <;> omega) (by first|rfl|assumption|omega|(simp only [nums_length];omega)|simp [nums_length,zs] <;> omega) (by first|exact nums_one|assumption|exact on1_ rfl) ?_;clear H;intro W H)
  |(go_at_call 70;(with_reducible refine (FRt _).mono ?_);rintro e W ⟨rfl,hb⟩;replace H := H.to hb;clear hb))
   refine bodyPost_ret (results_ctt (p := 4) (ty := 76) rfl _ _ g4 76 _ (0,0) _ rfl (H.heap (.tail (.tail .head))) Tryd.underlying76 rfl size76) rfl ?_
   exact ⟨H.below,.inl ⟨by decide,rfl⟩⟩
  replace g2 := Decidable.not_not.1 g2
  have q6 : (ee != ep) = false := by simp [g2]
  replace hE0 := hE0.out
  rw [if_neg (by rintro (h|h|h);exact absurd h (by decide);exact g1 h;exact h g2)] at hE0
  replace hE0 := Aside0.mk hE0
  by_cases g3 : bl < m
  ·have hE0 := hE0.out
   rw [if_pos g3] at hE0
   subst hE0
   have q7 : decide (bl < m) = true := decide_eq_true g3
   clear g2 g1 g3
   go_wp2_with (first
  |((with_reducible refine gate_dst (N := 44) rfl ?_);refine l_loadA rfl H 76 _ rfl _ rfl (by repeat constructor) _ _ Tryd.underlying76 rfl size76 (by first|rfl|assumption|omega|(simp only [nums_length];omega)|simp [nums_length,zs] <;> omega) ?_)
  |((with_reducible refine gate_dst (N := 53) rfl ?_);refine gate_guard (by rfl) ?_;refine l_load1 rfl H 67 _ rfl _ _ rfl (by repeat constructor) _ Tryd.underlying67 rfl _ (by first|rfl|assumption|exact nums_at _ (by omega)) ?_)
  |((with_reducible refine gate_store (t := 76) (p := 4) rfl ?_);refine l_storeW rfl H 76 _ _ rfl _ rfl _ rfl (by repeat constructor) _ size76 (by first|rfl|assumption|omega|(simp only [nums_length];omega)|simp [nums_length,zs] <;> omega) (by first|rfl|assumption|omega|(simp only [nums_length];omega)|simp [nums_length,zs] <;> omega) (by first|exact nums_one|assumption|exact on1_ rfl) ?_;clear H;intro W H)
  |(go_at_call 70;(with_reducible refine (FRt _).mono ?_);rintro e W ⟨rfl,hb⟩;replace H := H.to hb;clear hb))
   refine bodyPost_ret (results_ctt (p := 4) (ty := 76) rfl _ _ g4 76 _ (0,0) _ rfl (H.heap (.tail (.tail .head))) Tryd.underlying76 rfl size76) rfl ?_
   exact ⟨H.below,.inl ⟨by decide,rfl⟩⟩
  have q7 : decide (bl < m) = false := decide_eq_false g3
  replace hE0 := hE0.out
  rw [if_neg g3] at hE0
  replace hE0 := Aside0.mk hE0
  have hmb : m ≤ bl := Nat.le_of_not_lt g3
  have h11m : 11 ≤ m := by rw [← hm];exact Nat.le_add_right 11 n
  have hcut := cut_C hC 4 m c (Nat.le_trans (by decide) h11m) hmb hc
  have hcut2 := cut_C hC 11 m c h11m hmb hc
  have hn197 : n ≤ 197 := Nat.le_of_not_lt g1
  clear g1 g2 g3
  have hcb : Bytes ((b.take m).drop 4) := bytes_drop (bytes_take bb m) 4
  have OF := fun {W : World} {L : List Res} (H : Own w F0 L W) => of_own H hH (dropA (some ad) 4 c 1) (m - 4) (c - 4) ((b.take m).drop 4) (Kd.C_below hcut H.below) (Nat.sub_le_sub_right (Nat.le_trans hmb hc) 4) hcb
  have MF := fun {W : World} {L : List Res} (H : Own w F0 L W) => mask_own H ((b.take m).drop 4)
  have hsm : (b.take (11 + n)).drop 11 = (b.take m).drop 11 := by rw [hm]
  generalize (b.take m).drop 4 = BL at *
  generalize hDL : (b.take m).drop 11 = DL at *
  generalize moreI 0 BL = mo at OF MF
  generalize sumN BL = sm at *
  go_wp2_with (first
  |((with_reducible refine gate_dst (N := 44) rfl ?_);refine l_loadA rfl H 76 _ rfl _ rfl (by repeat constructor) _ _ Tryd.underlying76 rfl size76 (by first|rfl|assumption|omega|(simp only [nums_length];omega)|simp [nums_length,zs] <;> omega) ?_)
  |((with_reducible refine gate_dst (N := 53) rfl ?_);refine gate_guard (by rfl) ?_;refine l_load1 rfl H 67 _ rfl _ _ rfl (by repeat constructor) _ Tryd.underlying67 rfl _ (by first|rfl|assumption|exact nums_at _ (by omega)) ?_)
  |(go_at_call 70;(with_reducible refine (FRt _).mono ?_);rintro e W ⟨rfl,hb⟩;replace H := H.to hb;clear hb))
  by_cases g4 : ¬ ss = sm
  ·have hE0 := hE0.out
   rw [if_pos g4] at hE0
   subst hE0
   have q8 : ((ss : Int) != (sm : Int)) = true := by rw [bne_iff_ne];exact fun h => g4 (Int.ofNat_inj.1 h)
   clear g4
   refine start_ (n := 10) (S := Own _ _ _) (ds := []) #[f_,f_,f_,f_,f_,f_,f_,f_,f_,f_] (by kernel_rfl) rfl rfl H.drew (fun hHeld => ?_)
   replace H := H.drew
   generalize World.drew _ = W at H hHeld ⊢
   refine pure_ (i := 0) (N := some 65) #[t_,f_,f_,f_,f_,f_,f_,f_,f_,f_] rfl rfl (by kernel_rfl) (fun _ _ _ h => h) (Or.inl ⟨by rfl,by intro w';go_simp;with_reducible rfl⟩) (by simp only [ps_];rfl) ?_
   refine pure_ (i := 3) (N := some 68) #[t_,f_,f_,t_,f_,f_,f_,f_,f_,f_] rfl rfl (by kernel_rfl) (fun _ _ _ h => h) (Or.inl ⟨by rfl,by intro w';go_simp;with_reducible rfl⟩) (by simp only [ps_];rfl) ?_
   refine pure_ (i := 4) (N := some 69) #[t_,f_,f_,t_,t_,f_,f_,f_,f_,f_] rfl rfl (by kernel_rfl) (fun _ _ _ h => h) (Or.inl ⟨by rfl,by intro w';go_simp;with_reducible rfl⟩) (by simp only [ps_];rfl) ?_
   refine take_run (i := 5) (N := some 70) #[t_,f_,f_,t_,t_,t_,f_,f_,f_,f_] rfl rfl (by kernel_rfl) (fun _ _ _ _ h => h) (by rfl) hHeld (.slice (dropA (some ad) 4 c 1) (m - 4) (c - 4)) (fun X HX => x_slice_lohi _ _ _ rfl rfl Tryd.underlying38 size5 4 m rfl rfl (Nat.le_trans (by decide) h11m) (Nat.le_trans hmb hc) X) (by simp only [ps_];rfl) ?_
   refine one_ (i := 1) (N := some 66) #[t_,t_,f_,t_,t_,t_,f_,f_,f_,f_] rfl rfl (by kernel_rfl) (by decide) (fun K hK => ?_)
   refine callK_ (GF3 H (some ⟨g7,0,none⟩) 4 11 (H.C (.tail .head) 0 4 (by rw [hl];decide) (by decide)) (by decide) (by decide)) Tryd.func69 (by kernel_rfl) rfl (by rfl) rfl rfl (by (try simp only [List.map_toArray,List.map_cons,List.map_nil]);first|done|rfl) ?_
   rintro e W ⟨rfl,H'⟩
   refine ⟨_,rfl,?_⟩
   replace H := H'
   clear H'
   rw [hn3]
   refine hK.out _ _ ?_ (fun hHeld => ?_)
   ·first|trivial|exact H|exact H.del .head|exact (H.del .head).del .head|exact H.heap (by repeat constructor)
   clear hK K
   refine norm_ (by show Act.put _ (some 66) _ = _;simp only [ps_];rfl) ?_
   refine pure_ (i := 2) (N := some 67) #[t_,t_,t_,t_,t_,t_,f_,f_,f_,f_] rfl rfl (by kernel_rfl) (fun _ _ _ h => h) (Or.inl ⟨by rfl,by intro w';go_simp;with_reducible rfl⟩) (by simp only [ps_];rfl) ?_
   refine one_ (i := 6) (N := some 71) #[t_,t_,t_,t_,t_,t_,t_,f_,f_,f_] rfl rfl (by kernel_rfl) (by decide) (fun K hK => ?_)
   refine callK_ (OF H) Tryd.func72 (by kernel_rfl) rfl (by rfl) rfl rfl (by (try simp only [List.map_toArray,List.map_cons,List.map_nil]);first|done|rfl) ?_
   rintro e W ⟨rfl,H'⟩
   refine ⟨_,rfl,?_⟩
   replace H := H'
   clear H'
   refine hK.out _ _ ?_ (fun hHeld => ?_)
   ·first|trivial|exact H|exact H.del .head|exact (H.del .head).del .head|exact H.heap (by repeat constructor)
   clear hK K
   refine norm_ (by show Act.put _ (some 71) _ = _;simp only [ps_];rfl) ?_
   refine one_ (i := 7) (N := some 72) #[t_,t_,t_,t_,t_,t_,t_,t_,f_,f_] rfl rfl (by kernel_rfl) (by decide) (fun K hK => ?_)
   refine callK_ (MF H) Tryd.func71 (by kernel_rfl) rfl (by rfl) rfl rfl (by (try simp only [List.map_toArray,List.map_cons,List.map_nil]);first|done|rfl) ?_
   rintro e W ⟨rfl,H'⟩
   refine ⟨_,rfl,?_⟩
   replace H := H'
   clear H'
   refine hK.out _ _ ?_ (fun hHeld => ?_)
   ·first|trivial|exact H|exact H.del .head|exact (H.del .head).del .head|exact H.heap (by repeat constructor)
   clear hK K
   refine norm_ (by show Act.put _ (some 72) _ = _;simp only [ps_];rfl) ?_
   refine pure_ (i := 8) (N := some 73) #[t_,t_,t_,t_,t_,t_,t_,t_,t_,f_] rfl rfl (by kernel_rfl) (fun _ _ _ h => h) (Or.inl ⟨by rfl,by intro w';go_simp;with_reducible rfl⟩) (by simp only [ps_];rfl) ?_
   refine pure_ (i := 9) (N := some 64) #[t_,t_,t_,t_,t_,t_,t_,t_,t_,t_] rfl rfl (by kernel_rfl) (fun _ _ _ h => h) (Or.inl ⟨by rfl,by intro w';go_simp;with_reducible rfl⟩) (by simp only [ps_];rfl) ?_
   refine done_ (by kernel_rfl) ?_
   clear hHeld
   go_wp2_with (first
  |((with_reducible refine gate_store (t := 76) (p := 4) rfl ?_);refine l_storeW rfl H 76 _ _ rfl _ rfl _ rfl (by repeat constructor) _ size76 (by first|rfl|assumption|omega|(simp only [nums_length];omega)|simp [nums_length,zs] <;> omega) (by first|rfl|assumption|omega|(simp only [nums_length];omega)|simp [nums_length,zs] <;> omega) (by first|exact nums_one|assumption|exact on1_ rfl) ?_;clear H;intro W H))
   refine bodyPost_ret (results_ctt (p := 4) (ty := 76) rfl _ _ g4 76 _ (0,0) _ rfl (H.heap (.tail (.tail .head))) Tryd.underlying76 rfl size76) rfl ?_
   exact ⟨H.below,.inl ⟨by decide,rfl⟩⟩
  have hE0 := hE0.out
  rw [if_neg g4] at hE0
  subst hE0
  have q8 : ((ss : Int) != (sm : Int)) = false := by rw [Decidable.not_not.1 g4];simp
  clear g4
  refine start_ (n := 10) (S := Own _ _ _) (ds := []) #[f_,f_,f_,f_,f_,f_,f_,f_,f_,f_] (by kernel_rfl) rfl rfl H.drew (fun hHeld => ?_)
  replace H := H.drew
  generalize World.drew _ = W at H hHeld ⊢
  refine pure_ (i := 0) (N := some 65) #[t_,f_,f_,f_,f_,f_,f_,f_,f_,f_] rfl rfl (by kernel_rfl) (fun _ _ _ h => h) (Or.inl ⟨by rfl,by intro w';go_simp;with_reducible rfl⟩) (by simp only [ps_];rfl) ?_
  refine pure_ (i := 3) (N := some 68) #[t_,f_,f_,t_,f_,f_,f_,f_,f_,f_] rfl rfl (by kernel_rfl) (fun _ _ _ h => h) (Or.inl ⟨by rfl,by intro w';go_simp;with_reducible rfl⟩) (by simp only [ps_];rfl) ?_
  refine pure_ (i := 4) (N := some 69) #[t_,f_,f_,t_,t_,f_,f_,f_,f_,f_] rfl rfl (by kernel_rfl) (fun _ _ _ h => h) (Or.inl ⟨by rfl,by intro w';go_simp;with_reducible rfl⟩) (by simp only [ps_];rfl) ?_
  refine take_run (i := 5) (N := some 70) #[t_,f_,f_,t_,t_,t_,f_,f_,f_,f_] rfl rfl (by kernel_rfl) (fun _ _ _ _ h => h) (by rfl) hHeld (.slice (dropA (some ad) 4 c 1) (m - 4) (c - 4)) (fun X HX => x_slice_lohi _ _ _ rfl rfl Tryd.underlying38 size5 4 m rfl rfl (Nat.le_trans (by decide) h11m) (Nat.le_trans hmb hc) X) (by simp only [ps_];rfl) ?_
  refine one_ (i := 1) (N := some 66) #[t_,t_,f_,t_,t_,t_,f_,f_,f_,f_] rfl rfl (by kernel_rfl) (by decide) (fun K hK => ?_)
  refine callK_ (GF3 H (some ⟨g7,0,none⟩) 4 11 (H.C (.tail .head) 0 4 (by rw [hl];decide) (by decide)) (by decide) (by decide)) Tryd.func69 (by kernel_rfl) rfl (by rfl) rfl rfl (by (try simp only [List.map_toArray,List.map_cons,List.map_nil]);first|done|rfl) ?_
  rintro e W ⟨rfl,H'⟩
  refine ⟨_,rfl,?_⟩
  replace H := H'
  clear H'
  rw [hn3]
  refine hK.out _ _ ?_ (fun hHeld => ?_)
  ·first|trivial|exact H|exact H.del .head|exact (H.del .head).del .head|exact H.heap (by repeat constructor)
  clear hK K
  refine norm_ (by show Act.put _ (some 66) _ = _;simp only [ps_];rfl) ?_
  refine pure_ (i := 2) (N := some 67) #[t_,t_,t_,t_,t_,t_,f_,f_,f_,f_] rfl rfl (by kernel_rfl) (fun _ _ _ h => h) (Or.inl ⟨by rfl,by intro w';go_simp;with_reducible rfl⟩) (by simp only [ps_];rfl) ?_
  refine one_ (i := 6) (N := some 71) #[t_,t_,t_,t_,t_,t_,t_,f_,f_,f_] rfl rfl (by kernel_rfl) (by decide) (fun K hK => ?_)
  refine callK_ (OF H) Tryd.func72 (by kernel_rfl) rfl (by rfl) rfl rfl (by (try simp only [List.map_toArray,List.map_cons,List.map_nil]);first|done|rfl) ?_
  rintro e W ⟨rfl,H'⟩
  refine ⟨_,rfl,?_⟩
  replace H := H'
  clear H'
  refine hK.out _ _ ?_ (fun hHeld => ?_)
  ·first|trivial|exact H|exact H.del .head|exact (H.del .head).del .head|exact H.heap (by repeat constructor)
  clear hK K
  refine norm_ (by show Act.put _ (some 71) _ = _;simp only [ps_];rfl) ?_
  refine one_ (i := 7) (N := some 72) #[t_,t_,t_,t_,t_,t_,t_,t_,f_,f_] rfl rfl (by kernel_rfl) (by decide) (fun K hK => ?_)
  refine callK_ (MF H) Tryd.func71 (by kernel_rfl) rfl (by rfl) rfl rfl (by (try simp only [List.map_toArray,List.map_cons,List.map_nil]);first|done|rfl) ?_
  rintro e W ⟨rfl,H'⟩
  refine ⟨_,rfl,?_⟩
  replace H := H'
  clear H'
  refine hK.out _ _ ?_ (fun hHeld => ?_)
  ·first|trivial|exact H|exact H.del .head|exact (H.del .head).del .head|exact H.heap (by repeat constructor)
  clear hK K
  refine norm_ (by show Act.put _ (some 72) _ = _;simp only [ps_];rfl) ?_
  refine pure_ (i := 8) (N := some 73) #[t_,t_,t_,t_,t_,t_,t_,t_,t_,f_] rfl rfl (by kernel_rfl) (fun _ _ _ h => h) (Or.inl ⟨by rfl,by intro w';go_simp;with_reducible rfl⟩) (by simp only [ps_];rfl) ?_
  refine pure_ (i := 9) (N := some 64) #[t_,t_,t_,t_,t_,t_,t_,t_,t_,t_] rfl rfl (by kernel_rfl) (fun _ _ _ h => h) (Or.inl ⟨by rfl,by intro w';go_simp;with_reducible rfl⟩) (by simp only [ps_];rfl) ?_
  refine done_ (by kernel_rfl) ?_
  clear hHeld
  have hnn : m - 11 = n := by rw [← hm];exact Nat.add_sub_cancel_left 11 n
  rw [hnn] at hcut2
  go_wp2_with (first
  |((with_reducible refine gate_dst (N := 35) rfl ?_);refine l_build0 rfl H 38 5 rfl Tryd.underlying38 (by kernel_rfl) ?_;clear H;intro g35 W H)
  |((with_reducible refine gate_store (t := 38) (p := 40) rfl ?_);refine l_store1 rfl H 38 _ _ rfl _ _ rfl _ (by first|(go_simp;done)|(go_simp;with_reducible rfl)) (by repeat constructor) rfl rfl size38 (by first|rfl|assumption|omega|(simp only [nums_length];omega)|simp [nums_length,zs] <;> omega) ?_;clear H;intro W H)
  |((with_reducible refine gate_dst (N := 41) rfl ?_);refine l_loadA rfl H 76 _ rfl _ rfl (by repeat constructor) _ _ Tryd.underlying76 rfl size76 (by first|rfl|assumption|omega|(simp only [nums_length];omega)|simp [nums_length,zs] <;> omega) ?_)
  |((with_reducible refine gate_store (t := 76) (p := 4) rfl ?_);refine l_storeW rfl H 76 _ _ rfl _ rfl _ rfl (by repeat constructor) _ size76 (by first|rfl|assumption|omega|(simp only [nums_length];omega)|simp [nums_length,zs] <;> omega) (by first|rfl|assumption|omega|(simp only [nums_length];omega)|simp [nums_length,zs] <;> omega) (by first|exact nums_one|assumption|exact on1_ rfl) ?_;clear H;intro W H)
  |((with_reducible refine gate_dst (N := 38) rfl ?_);refine l_run rfl (.slice (dropA (some ad) 11 c 1) n (c - 11)) (by rw [← hnn];exact x_slice_lohi _ _ _ rfl rfl Tryd.underlying38 size5 11 m rfl rfl h11m (Nat.le_trans hmb hc) _) ?_)
  |((with_reducible refine gate_dst (N := 39) rfl ?_);refine l_append rfl H _ _ 38 5 rfl Tryd.underlying38 _ _ _ inf5 rfl (by decide) (by decide) _ 0 [] rfl .head (dropA (some ad) 11 c 1) n (c - 11) (nums .u8 DL) rfl (by rw [nums_length,hcut2.1,Nat.mul_one]) (fun hp => ((Rd.of_C hcut2).below H.below) (by rw [nums_length,hcut2.1];exact hp)) nums_one (by rw [Nat.zero_add,Nat.mul_one];exact Nat.le_trans hn197 (by decide)) ?_;clear H;intro v39 W H;obtain ⟨A39,c39,rfl⟩ := H.row_slice .head;rw [List.nil_append] at H))
  have hmi : (m : Int) = 11 + (n : Int) := by rw [← hm];simp
  rw [Nat.zero_add] at H
  refine bodyPost_ret (results_ctt (p := 4) (ty := 76) rfl _ _ g4 76 _ (0,0) _ rfl (H.heap (.tail (.tail (.tail .head)))) Tryd.underlying76 rfl size76) rfl ?_
  have hfin : (Kd.int .u8).C W A39 n ((b.take m).drop 11) := by rw [hDL];exact (H.rowC .head).2.2
  refine ⟨H.below,?_⟩
  refine ⟨A39,c39,?_,(H.rowC .head).1,(H.rowC .head).2.2,H.at_ .head⟩
  rw [← hmi]
  rfl
end Go.Proofs.YtaekpfhgdnfciaaDoor.O
end

section
namespace Go.Proofs.YtaekpfhgdnfciaaDoor.CrcMath
open Go.RowKit Go.Proofs.YtaekpfhgdnfciaaDoor.F Go.Proofs.YtaekpfhgdnfciaaDoorW.PrintWords Go.Proofs.YtaekpfhgdnfciaaDoorW.PrintLast Go.Proofs.YtaekpfhgdnfciaaDoorW.PrintMore Go.Proofs.YtaekpfhgdnfciaaDoor.Plain
/-! strings of bytes -/
theorem ba_loop (bs : ByteArray) (d : Nat) : ∀ (i : Nat) (r : List UInt8),bs.size - i = d → ByteArray.toList.loop bs i r = r.reverse ++ bs.data.toList.drop i := by
 induction d with
 |zero =>
  intro i r h
  unfold ByteArray.toList.loop
  rw [if_neg (by omega),List.drop_eq_nil_of_le (by simp only [Array.length_toList];exact Nat.le_of_sub_eq_zero h),List.append_nil]
 |succ d ih =>
  intro i r h
  unfold ByteArray.toList.loop
  have hi : i < bs.size := by omega
  have hi2 : i < bs.data.toList.length := by simp only [Array.length_toList];exact hi
  rw [if_pos hi,ih (i + 1) _ (by omega),List.drop_eq_getElem_cons hi2,List.reverse_cons,List.append_assoc]
  congr 1
  show [bs.get! i] ++ _ = _
  have : bs.get! i = bs.data.toList[i] := by
   show bs.data[i]! = _
   rw [getElem!_pos bs.data i hi]
   simp
  rw [this]
  rfl
theorem ba_toList (bs : ByteArray) : bs.toList = bs.data.toList := by
 unfold ByteArray.toList
 rw [ba_loop bs bs.size 0 [] (by omega)]
 rfl
theorem strOfNums_inj : ∀ {x y : List Int},(∀ c ∈ x,0 ≤ c ∧ c ≤ 255) → (∀ c ∈ y,0 ≤ c ∧ c ≤ 255) → (strOfNums x).toList = (strOfNums y).toList → x = y := by
 have key : ∀ (x y : List Int),(∀ c ∈ x,0 ≤ c ∧ c ≤ 255) → (∀ c ∈ y,0 ≤ c ∧ c ≤ 255) → (x.map fun n => UInt8.ofNat n.toNat) = (y.map fun n => UInt8.ofNat n.toNat) → x = y := by
  intro x
  induction x with
  |nil => intro y _ _ h;cases y with
   |nil => rfl
   |cons c y => cases h
  |cons c x ih =>
   intro y hx hy h
   cases y with
   |nil => cases h
   |cons c' y =>
    simp only [List.map_cons,List.cons.injEq] at h
    have a := hx c (List.mem_cons_self ..)
    have b := hy c' (List.mem_cons_self ..)
    have e := congrArg UInt8.toNat h.1
    simp only [UInt8.toNat_ofNat'] at e
    rw [ih y (fun z hz => hx z (List.mem_cons_of_mem _ hz)) (fun z hz => hy z (List.mem_cons_of_mem _ hz)) h.2,show c = c' by omega]
 intro x y hx hy h
 rw [ba_toList,ba_toList] at h
 exact key x y hx hy (by simpa [strOfNums] using h)
end Go.Proofs.YtaekpfhgdnfciaaDoor.CrcMath
end

section
namespace Go.Proofs.YtaekpfhgdnfciaaDoor.O
open Go.RowKit Go.Proofs.YtaekpfhgdnfciaaDoorW.PrintWords Go.Proofs.YtaekpfhgdnfciaaDoorW.PrintLast Go.Proofs.YtaekpfhgdnfciaaDoorW.PrintMore Go.Proofs.YtaekpfhgdnfciaaDoor.F Go.Proofs.YtaekpfhgdnfciaaDoor.F.Nums Go.Proofs.YtaekpfhgdnfciaaDoor.Plain
def anyN (b : List Int) (i : Nat) : Bool := (b.take i).any (· != 0)
theorem anyN_succ (b : List Int) (i : Nat) (h : i < b.length) : anyN b (i + 1) = (anyN b i ||(b.getD i 0 != 0)) := by
 unfold anyN
 rw [List.take_add_one,List.any_append,List.getD_eq_getElem?_getD,List.getElem?_eq_getElem h]
 simp
theorem anyN_zs (b : List Int) (h : 11 ≤ b.length) : (anyN b 11 = false) ↔ b.take 11 = zs 11 := by
 unfold anyN
 rw [List.any_eq_false]
 constructor
 ·intro h0
  refine List.eq_replicate_iff.2 ⟨by rw [List.length_take];omega,fun x hx => ?_⟩
  have := h0 x hx
  simpa using this
 ·intro h0 x hx
  rw [h0] at hx
  rw [List.eq_of_mem_replicate hx]
  decide
theorem r_loadIx {P : Program} {o : Oper} {a : Act} {W : World} {ad : Addr} {cs : List Value} (ty : TypeId) (x : Operand) (ho : o.op = .load ty x) (off : Nat) (hx : a.eval x = .pointer (some (ad.add off))) (hR : Rd W (some ad) cs)
  (d : TypeDesc) (hu : P.underlying ty = some d) (hd : d.isRow = false) (v : Value) (hv : cs[off]? = some v) : (execOp a.eval o).run P W = .ok (.value v) W := r_loadRd1 ty x ho off hx hR d hu hd v hv
theorem nOf_eq {b : List Int} (hb : Bytes b) (h : 6 ≤ b.length) : (nOf b : Int) = b.getD 4 0 + 256 * b.getD 5 0 := by
 have h4 := hb _ (List.getElem_mem (show 4 < b.length by omega))
 have h5 := hb _ (List.getElem_mem (show 5 < b.length by omega))
 have g4 : b.getD 4 0 = b[4]'(by omega) := by rw [List.getD_eq_getElem?_getD,List.getElem?_eq_getElem];rfl
 have g5 : b.getD 5 0 = b[5]'(by omega) := by rw [List.getD_eq_getElem?_getD,List.getElem?_eq_getElem];rfl
 have r0 : rd (b.drop 4) ((0 : Nat) : Int) = b.getD 4 0 := by unfold rd;rw [List.getD_eq_getElem?_getD,List.getD_eq_getElem?_getD,List.getElem?_drop];rfl
 have r1 : rd (b.drop 4) ((1 : Nat) : Int) = b.getD 5 0 := by unfold rd;rw [List.getD_eq_getElem?_getD,List.getD_eq_getElem?_getD,List.getElem?_drop];rfl
 have e : nOf b = (0 + (rd (b.drop 4) ((0 : Nat) : Int)).toNat * 256 ^ 0) + (rd (b.drop 4) ((1 : Nat) : Int)).toNat * 256 ^ 1 := rfl
 rw [e,r0,r1,g4,g5]
 omega
theorem dec_parts {b : List Int} (hb : Bytes b) : 11 + nOf b ≤ b.length → ((decD b).length = nOf b ∧ (encL (kOf b) (eOf b) (decD b) = b.take (11 + nOf b) ↔ sOf b = sumN ((b.take (11 + nOf b)).drop 4))) := fun h => ⟨by unfold decD;rw [List.length_drop,List.length_take];omega,enc_dec hb h⟩
set_option maxRecDepth 100000 in
set_option maxHeartbeats 8000000 in
theorem rdecode_calls (b : List Int) (ep : Int) (A : Option Addr) (c : Nat) (w : World) (hC : (Kd.int .u8).C w A b.length b) (hc : b.length ≤ c) (bb : Bytes b) :
  Calls Tryd.prog 56 #[.slice A b.length c,.int .u32 ep] w fun e W => Below w.heap.size w W ∧
   ((decE b ep ≠ 0 ∧ e = .returned (.tuple #[.agg #[.int .i64 0,.int .u32 0,.slice none 0 0],.int .i64 0,.int .i64 (decE b ep)])) ∨
    (decE b ep = 0 ∧ ∃ A' c',e = .returned (.tuple #[.agg #[.int .i64 (kOf b),.int .u32 (eOf b),.slice A' (nOf b) c'],.int .i64 (11 + (nOf b : Int)),.int .i64 0]) ∧ nOf b ≤ c' ∧ (Kd.int .u8).C W A' (nOf b) (decD b) ∧ W.ownsRow w.heap.size 5 1 (.slice A' (nOf b) c') (nOf b) (nums .u8 (decD b)))) := by
 have H := Own.start w
 by_cases h11 : b.length < 11
 ·have hE : decE b ep = 1 := by unfold decE;rw [if_pos h11]
  rw [hE]
  have q1 : decide ((b.length : Int) < 11) = true := decide_eq_true (by omega)
  generalize b.length = n at *
  go_enter Tryd.func56,Tryd.ntmps56
  go_wp2_with (first
  |((with_reducible refine gate_dst (N := 4) rfl ?_);refine l_allocA rfl H 76 rfl _ zero76 ?_;clear H;intro g4 W H)
  |((with_reducible refine gate_store (t := 76) (p := 4) rfl ?_);refine l_storeW rfl H 76 _ _ rfl _ rfl _ rfl (by repeat constructor) _ size76 (by first|rfl|assumption|omega|(simp only [nums_length];omega)|simp [nums_length,zs] <;> omega) (by first|rfl|assumption|omega|(simp only [nums_length];omega)|simp [nums_length,zs] <;> omega) (by first|exact nums_one|assumption|exact on1_ rfl) ?_;clear H;intro W H))
  refine bodyPost_ret (results_ctt (p := 4) (ty := 76) rfl _ _ g4 76 _ (0,0) _ rfl (H.heap .head) Tryd.underlying76 rfl size76) rfl ?_
  exact ⟨H.below,.inl ⟨by decide,rfl⟩⟩
 have hE0 : decE b ep = if b.take 11 = zs 11 then 7 else if rightF (kOf b) 0 = false ∨ 197 < nOf b ∨ eOf b ≠ ep then 2 else if b.length < 11 + nOf b then 1 else if sOf b ≠ sumN ((b.take (11 + nOf b)).drop 4) then 3 else 0 := by unfold decE;rw [if_neg h11]
 have q1 : decide ((b.length : Int) < 11) = false := decide_eq_false (by omega)
 obtain ⟨ad,rfl⟩ := (Rd.of_C hC).some_ (by rw [nums_length];omega)
 have hat : ∀ i,i < 11 → (nums .u8 b)[i]? = some (.int .u8 (b.getD i 0)) := fun i hi => nums_at i (by omega)
 have hRb := Rd.of_C hC
 have hany := anyN_succ b
 have hz := anyN_zs b (by omega)
 obtain ⟨bl,hbl⟩ : ∃ x,b.length = x := ⟨_,rfl⟩
 rw [hbl] at hC hc hE0 q1 h11 hany ⊢
 have hlt := nOf_lt bb
 have het := eOf_lt bb
 have hx4 := bb _ (List.getElem_mem (show 4 < b.length by omega))
 have hx5 := bb _ (List.getElem_mem (show 5 < b.length by omega))
 have hkt := bb _ (List.getElem_mem (show 6 < b.length by omega))
 have g6 : kOf b = b[6]'(by omega) := by unfold kOf;rw [List.getD_eq_getElem?_getD,List.getElem?_eq_getElem];rfl
 have a4 := hat 4 (by decide)
 have a5 := hat 5 (by decide)
 have a6 := hat 6 (by decide)
 have g4' : b.getD 4 0 = b[4]'(by omega) := by rw [List.getD_eq_getElem?_getD,List.getElem?_eq_getElem];rfl
 have g5' : b.getD 5 0 = b[5]'(by omega) := by rw [List.getD_eq_getElem?_getD,List.getElem?_eq_getElem];rfl
 have hn45 := nOf_eq bb (by omega)
 rw [← g4'] at hx4
 rw [← g5'] at hx5
 rw [← g6] at hkt
 rw [show b.getD 6 0 = kOf b from rfl] at a6
 have hn2 : ((getn ((b.take 11).drop 7) 4 : Nat) : Int) = eOf b := by unfold eOf;exact congrArg _ (getn_pre 4 (fun j hj => by rw [List.getElem?_drop,List.getElem?_drop,List.getElem?_take_of_lt (by omega)]))
 have hbh : Bytes ((b.take 11).drop 7) := bytes_drop (bytes_take bb 11) 7
 have h117 := cut_C hC 7 11 c (by decide) (by omega) hc
 have hc11 : 11 ≤ c := by omega
 have hdl := dec_parts bb
 obtain ⟨n,hn⟩ : ∃ x,nOf b = x := ⟨_,rfl⟩
 obtain ⟨kk,hkk⟩ : ∃ x,kOf b = x := ⟨_,rfl⟩
 obtain ⟨ee,hee⟩ : ∃ x,eOf b = x := ⟨_,rfl⟩
 obtain ⟨ss,hss⟩ : ∃ x,sOf b = x := ⟨_,rfl⟩
 obtain ⟨dE,hdE⟩ : ∃ x,decE b ep = x := ⟨_,rfl⟩
 have hdd : decD b = (b.take (11 + n)).drop 11 := by unfold decD;rw [hn]
 rw [hn] at hn45 hlt hE0 hdl ⊢
 rw [hkk] at hkt hE0 a6 hdl ⊢
 rw [hee] at het hE0 hn2 hdl ⊢
 rw [hss] at hE0 hdl
 rw [hdE] at hE0 ⊢
 rw [hbl] at hdl
 rw [hdd] at hdl ⊢
 generalize b.getD 4 0 = x4 at hx4 hn45 a4
 generalize b.getD 5 0 = x5 at hx5 hn45 a5
 obtain ⟨D7,hD7⟩ : ∃ D,dropA (some ad) 7 c 1 = D := ⟨_,rfl⟩
 rw [hD7] at h117
 replace hD7 := Aside0.mk hD7
 have HC := Aside0.mk (And.intro hx4 (And.intro hx5 (And.intro hn45 (And.intro hlt (And.intro hkt het)))))
 clear hx4 hx5 hn45 hlt hkt het
 replace hE0 := Aside0.mk hE0
 go_enter Tryd.func56,Tryd.ntmps56
 go_wp2_with (first
  |((with_reducible refine gate_dst (N := 4) rfl ?_);refine l_allocA rfl H 76 rfl _ zero76 ?_;clear H;intro g4 W H))
 go_loopg [7,8] 11 (fun gq v7 v8 w' => ∃ i : Nat,v8 = .int .i64 (i : Int) ∧ v7 = .bool (anyN b i) ∧ i + gq = 11 ∧ Own w F0 [.blk g4 76 [.int .i64 0,.int .u32 0,.slice none 0 0]] w')
 case atStart => exact ⟨0,rfl,rfl,by omega,H⟩
 case round =>
  clear H
  obtain ⟨i,rfl,rfl,hi,H⟩ := hrel
  by_cases ci : i < 11
  ·obtain ⟨gk',rfl⟩ : ∃ q,gk = q + 1 := ⟨gk - 1,by omega⟩
   have q2 : decide ((i : Int) < 11) = true := decide_eq_true (by omega)
   have q3 : ((0 : Int) ≤ (i : Int)) = True := eq_true (by omega)
   have q4 : ((i : Int) < (bl : Int)) = True := eq_true (by omega)
   have hv := hat i ci
   have ha := hany i (by omega)
   have HI := Aside0.mk (And.intro hi ci)
   clear hi ci
   generalize b.getD i 0 = x at hv ha
   cases h0 : anyN b i with
   |true =>
    rw [h0,Bool.true_or] at ha
    go_wp2
    go_roundg gk'
    case measure => have := HI.out.1;omega
    case rel => exact ⟨i + 1,by have h4 := HI.out.2;rw [w64 (by omega) (by omega)];rfl,by rw [ha],by have := HI.out.1;omega,H⟩
   |false =>
    rw [h0,Bool.false_or] at ha
    go_wp2_with (first
  |((with_reducible refine gate_dst (N := 24) rfl ?_);refine gate_guard (by rfl) ?_;refine l_run rfl _ (r_loadIx 5 _ rfl i rfl (hRb.below H.below) _ Tryd.underlying5 rfl _ hv) ?_))
    go_roundg gk'
    case measure => have := HI.out.1;omega
    case rel => exact ⟨i + 1,by have h4 := HI.out.2;rw [w64 (by omega) (by omega)];rfl,by rw [ha],by have := HI.out.1;omega,H⟩
  ·have hi11 : i = 11 := by omega
   rw [← hi11] at hz
   have q2 : decide ((i : Int) < 11) = false := decide_eq_false (by omega)
   clear hi ci hany
   cases h0 : anyN b i with
   |false =>
    have hE0 := hE0.out
    rw [if_pos (by rw [← hi11];exact hz.1 h0)] at hE0
    subst hE0
    clear hi11 hz
    go_wp2_with (first
  |((with_reducible refine gate_store (t := 76) (p := 4) rfl ?_);refine l_storeW rfl H 76 _ _ rfl _ rfl _ rfl (by repeat constructor) _ size76 (by first|rfl|assumption|omega|(simp only [nums_length];omega)|simp [nums_length,zs] <;> omega) (by first|rfl|assumption|omega|(simp only [nums_length];omega)|simp [nums_length,zs] <;> omega) (by first|exact nums_one|assumption|exact on1_ rfl) ?_;clear H;intro W H))
    refine bodyPost_ret (results_ctt (p := 4) (ty := 76) rfl _ _ g4 76 _ (0,0) _ rfl (H.heap .head) Tryd.underlying76 rfl size76) rfl ?_
    exact ⟨H.below,.inl ⟨by decide,rfl⟩⟩
   |true =>
    have hnz : ¬ b.take 11 = zs 11 := fun h => by rw [← hi11] at h;rw [hz.2 h] at h0;cases h0
    replace hE0 := hE0.out
    rw [if_neg hnz] at hE0
    clear hnz hz
    obtain ⟨hx4,hx5,hn45,hlt,hkt,het⟩ := HC.out
    have b4 : ((4 : Int) < (bl : Int)) = True := eq_true (by omega)
    have b5 : ((5 : Int) < (bl : Int)) = True := eq_true (by omega)
    have b6 : ((6 : Int) < (bl : Int)) = True := eq_true (by omega)
    have c1 : wrap64 x4 = x4 := w64 (by omega) (by omega)
    have c2 : wrap64 x5 = x5 := w64 (by omega) (by omega)
    have c3 : wrap64 (256 * x5) = 256 * x5 := w64 (by omega) (by omega)
    have c4 : wrap64 (x4 + 256 * x5) = (n : Int) := by rw [← hn45];exact w64 (by omega) (by omega)
    have c5 : wrap64 kk = kk := w64 (by omega) (by omega)
    have c6 : IntKind.u32.wrap ee = ee := wu32 het.1 het.2
    have c1' := (i64_w _).trans c1
    have c2' := (i64_w _).trans c2
    have c3' := (i64_w _).trans c3
    have c4' := (i64_w _).trans c4
    have c5' := (i64_w _).trans c5
    clear hx4 hx5 hn45 hlt hkt het g6 g4' g5' hi11 hn hkk hee hss hdE hdd
    go_wp2
    refine start_ (n := 11) (S := Own _ _ _) (ds := []) #[f_,f_,f_,f_,f_,f_,f_,f_,f_,f_,f_] (by kernel_rfl) rfl rfl H.drew (fun hHeld => ?_)
    replace H := H.drew
    generalize World.drew _ = W at H hHeld ⊢
    refine pure_ (i := 0) (N := some 30) #[t_,f_,f_,f_,f_,f_,f_,f_,f_,f_,f_] rfl rfl (by kernel_rfl) (fun _ _ _ h => h) (Or.inl ⟨by rfl,by intro w';go_simp;with_reducible rfl⟩) (by simp only [ps_];rfl) ?_
    refine pure_ (i := 1) (N := some 31) #[t_,t_,f_,f_,f_,f_,f_,f_,f_,f_,f_] rfl rfl (by kernel_rfl) (fun _ _ _ h => h) (Or.inl ⟨by rfl,by intro w';go_simp;with_reducible rfl⟩) (by simp only [ps_];rfl) ?_
    refine pure_ (i := 4) (N := some 34) #[t_,t_,f_,f_,t_,f_,f_,f_,f_,f_,f_] rfl rfl (by kernel_rfl) (fun _ _ _ h => h) (Or.inl ⟨by rfl,by intro w';go_simp;with_reducible rfl⟩) (by simp only [ps_];rfl) ?_
    refine pure_ (i := 5) (N := some 35) #[t_,t_,f_,f_,t_,t_,f_,f_,f_,f_,f_] rfl rfl (by kernel_rfl) (fun _ _ _ h => h) (Or.inl ⟨by rfl,by intro w';go_simp;with_reducible rfl⟩) (by simp only [ps_];rfl) ?_
    refine take_run (i := 2) (N := some 32) #[t_,t_,t_,f_,t_,t_,f_,f_,f_,f_,f_] rfl rfl (by kernel_rfl) (fun _ _ _ _ h => h) (by rfl) hHeld (.int .u8 x4) (fun X HX => r_loadIx 5 _ rfl 4 rfl (hRb.below HX.below) _ Tryd.underlying5 rfl _ a4) (by simp only [ps_];rfl) ?_
    refine pure_ (i := 3) (N := some 33) #[t_,t_,t_,t_,t_,t_,f_,f_,f_,f_,f_] rfl rfl (by kernel_rfl) (fun _ _ _ h => h) (Or.inl ⟨by rfl,by intro w';go_simp;with_reducible rfl⟩) (by simp only [ps_];rfl) ?_
    refine take_run (i := 6) (N := some 36) #[t_,t_,t_,t_,t_,t_,t_,f_,f_,f_,f_] rfl rfl (by kernel_rfl) (fun _ _ _ _ h => h) (by rfl) hHeld (.int .u8 x5) (fun X HX => r_loadIx 5 _ rfl 5 rfl (hRb.below HX.below) _ Tryd.underlying5 rfl _ a5) (by simp only [ps_];rfl) ?_
    refine pure_ (i := 7) (N := some 37) #[t_,t_,t_,t_,t_,t_,t_,t_,f_,f_,f_] rfl rfl (by kernel_rfl) (fun _ _ _ h => h) (Or.inl ⟨by rfl,by intro w';go_simp;with_reducible rfl⟩) (by simp only [ps_];rfl) ?_
    refine pure_ (i := 8) (N := some 38) #[t_,t_,t_,t_,t_,t_,t_,t_,t_,f_,f_] rfl rfl (by kernel_rfl) (fun _ _ _ h => h) (Or.inl ⟨by rfl,by intro w';go_simp;with_reducible rfl⟩) (by simp only [ps_];rfl) ?_
    refine pure_ (i := 9) (N := some 39) #[t_,t_,t_,t_,t_,t_,t_,t_,t_,t_,f_] rfl rfl (by kernel_rfl) (fun _ _ _ h => h) (Or.inl ⟨by rfl,by intro w';go_simp;with_reducible rfl⟩) (by simp only [ps_];rfl) ?_
    refine pure_ (i := 10) (N := some 9) #[t_,t_,t_,t_,t_,t_,t_,t_,t_,t_,t_] rfl rfl (by kernel_rfl) (fun _ _ _ h => h) (Or.inl ⟨by rfl,by intro w';go_simp;with_reducible rfl⟩) (by simp only [ps_];rfl) ?_
    refine done_ (by kernel_rfl) ?_
    clear hHeld
    go_wp2
    refine start_ (n := 11) (S := Own _ _ _) (ds := [10]) #[f_,f_,f_,f_,f_,f_,f_,f_,f_,f_,f_] (by kernel_rfl) rfl rfl H.drew (fun hHeld => ?_)
    replace H := H.drew
    generalize World.drew _ = W at H hHeld ⊢
    refine pure_ (i := 0) (N := some 40) #[t_,f_,f_,f_,f_,f_,f_,f_,f_,f_,f_] rfl rfl (by kernel_rfl) (fun _ _ _ h => h) (Or.inl ⟨by rfl,by intro w';go_simp;with_reducible rfl⟩) (by simp only [ps_];rfl) ?_
    refine pure_ (i := 1) (N := some 41) #[t_,t_,f_,f_,f_,f_,f_,f_,f_,f_,f_] rfl rfl (by kernel_rfl) (fun _ _ _ h => h) (Or.inl ⟨by rfl,by intro w';go_simp;with_reducible rfl⟩) (by simp only [ps_];rfl) ?_
    refine pure_ (i := 4) (N := some 44) #[t_,t_,f_,f_,t_,f_,f_,f_,f_,f_,f_] rfl rfl (by kernel_rfl) (fun _ _ _ h => h) (Or.inl ⟨by rfl,by intro w';go_simp;with_reducible rfl⟩) (by simp only [ps_];rfl) ?_
    refine take_run (i := 5) (N := some 45) #[t_,t_,f_,f_,t_,t_,f_,f_,f_,f_,f_] rfl rfl (by kernel_rfl) (fun _ _ _ _ h => h) (by rfl) hHeld (.slice D7 (11 - 7) (c - 7)) (fun X HX => by rw [← hD7.out];exact x_slice_lohi _ _ _ rfl rfl Tryd.underlying38 size5 7 11 rfl rfl (by decide) hc11 X) (by simp only [ps_];rfl) ?_
    refine take_run (i := 2) (N := some 42) #[t_,t_,t_,f_,t_,t_,f_,f_,f_,f_,f_] rfl rfl (by kernel_rfl) (fun _ _ _ _ h => h) (by rfl) hHeld (.int .u8 kk) (fun X HX => r_loadIx 5 _ rfl 6 rfl (hRb.below HX.below) _ Tryd.underlying5 rfl _ a6) (by simp only [ps_];rfl) ?_
    refine pure_ (i := 3) (N := some 43) #[t_,t_,t_,t_,t_,t_,f_,f_,f_,f_,f_] rfl rfl (by kernel_rfl) (fun _ _ _ h => h) (Or.inl ⟨by rfl,by intro w';go_simp;with_reducible rfl⟩) (by simp only [ps_];rfl) ?_
    refine two_ (i := 6) (j := 9) (Ni := some 46) (Nj := some 10) #[t_,t_,t_,t_,t_,t_,t_,f_,f_,f_,f_] #[t_,t_,t_,t_,t_,t_,f_,f_,f_,t_,f_] rfl rfl rfl rfl (by kernel_rfl) (by decide) (by decide) (fun K hK => ?_) (fun K hK => ?_)
    focus
     refine callK_ (rget_own H D7 (11 - 7) (c - 7) _ (Kd.C_below h117 H.below) (Nat.sub_le_sub_right hc11 7) hbh (by decide)) Tryd.func75 (by kernel_rfl) rfl (by rfl) rfl rfl (by (try simp only [List.map_toArray,List.map_cons,List.map_nil]);first|done|rfl) ?_
     rintro e W ⟨rfl,H'⟩
     refine ⟨_,rfl,?_⟩
     replace H := H'
     clear H'
     rw [hn2]
     refine hK.out _ _ ?_ (fun hHeld => ?_)
     ·first|trivial|exact H|exact H.del .head|exact (H.del .head).del .head|exact H.heap (by repeat constructor)
     clear hK K
     refine norm_ (by show Act.put _ (some 46) _ = _;simp only [ps_];rfl) ?_
     refine pure_ (i := 7) (N := some 47) #[t_,t_,t_,t_,t_,t_,t_,t_,f_,f_,f_] rfl rfl (by kernel_rfl) (fun _ _ _ h => h) (Or.inl ⟨by rfl,by intro w';go_simp;with_reducible rfl⟩) (by simp only [ps_];rfl) ?_
     refine pure_ (i := 8) (N := some 48) #[t_,t_,t_,t_,t_,t_,t_,t_,t_,f_,f_] rfl rfl (by kernel_rfl) (fun _ _ _ h => h) (Or.inl ⟨by rfl,by intro w';go_simp;with_reducible rfl⟩) (by simp only [ps_];rfl) ?_
     refine one_ (i := 9) (N := some 10) #[t_,t_,t_,t_,t_,t_,t_,t_,t_,t_,f_] rfl rfl (by kernel_rfl) (by decide) (fun K hK => ?_)
     refine wanted_ rfl ?_
     refine w_allocA H 76 rfl _ zero76 ?_
     clear H
     intro g10 W H
     refine hK.out _ _ ?_ (fun hHeld => ?_)
     ·first|trivial|exact H|exact H.del .head|exact (H.del .head).del .head|exact H.heap (by repeat constructor)
     clear hK K
     refine norm_ (by show Act.put _ (some 10) _ = _;simp only [ps_];rfl) ?_
    rotate_left
    focus
     refine wanted_ rfl ?_
     refine w_allocA H 76 rfl _ zero76 ?_
     clear H
     intro g10 W H
     refine hK.out _ _ ?_ (fun hHeld => ?_)
     ·first|trivial|exact H|exact H.del .head|exact (H.del .head).del .head|exact H.heap (by repeat constructor)
     clear hK K
     refine norm_ (by show Act.put _ (some 10) _ = _;simp only [ps_];rfl) ?_
     refine one_ (i := 6) (N := some 46) #[t_,t_,t_,t_,t_,t_,t_,f_,f_,t_,f_] rfl rfl (by kernel_rfl) (by decide) (fun K hK => ?_)
     refine callK_ (rget_own H D7 (11 - 7) (c - 7) _ (Kd.C_below h117 H.below) (Nat.sub_le_sub_right hc11 7) hbh (by decide)) Tryd.func75 (by kernel_rfl) rfl (by rfl) rfl rfl (by (try simp only [List.map_toArray,List.map_cons,List.map_nil]);first|done|rfl) ?_
     rintro e W ⟨rfl,H'⟩
     refine ⟨_,rfl,?_⟩
     replace H := H'
     clear H'
     rw [hn2]
     refine hK.out _ _ ?_ (fun hHeld => ?_)
     ·first|trivial|exact H|exact H.del .head|exact (H.del .head).del .head|exact H.heap (by repeat constructor)
     clear hK K
     refine norm_ (by show Act.put _ (some 46) _ = _;simp only [ps_];rfl) ?_
     refine pure_ (i := 7) (N := some 47) #[t_,t_,t_,t_,t_,t_,t_,t_,f_,t_,f_] rfl rfl (by kernel_rfl) (fun _ _ _ h => h) (Or.inl ⟨by rfl,by intro w';go_simp;with_reducible rfl⟩) (by simp only [ps_];rfl) ?_
     refine pure_ (i := 8) (N := some 48) #[t_,t_,t_,t_,t_,t_,t_,t_,t_,t_,f_] rfl rfl (by kernel_rfl) (fun _ _ _ h => h) (Or.inl ⟨by rfl,by intro w';go_simp;with_reducible rfl⟩) (by simp only [ps_];rfl) ?_
     skip
    all_goals
     refine last_ (i := 10) (N := none) #[t_,t_,t_,t_,t_,t_,t_,t_,t_,t_,t_] rfl rfl (by kernel_rfl) (by decide) (fun K hK => ?_)
     refine wanted_ rfl ?_
     refine w_storeW H 76 _ _ rfl _ rfl _ rfl (by repeat constructor) _ size76 (by first|rfl|assumption|omega|(simp only [nums_length];omega)|simp [nums_length,zs] <;> omega) (by first|rfl|assumption|omega|(simp only [nums_length];omega)|simp [nums_length,zs] <;> omega) (by first|exact nums_one|assumption|exact on1_ rfl) ?_
     clear H
     intro W H
     refine hK.out _ _ ?_
     clear hK K
     refine done_ (by kernel_rfl) ?_
     clear hHeld
    all_goals
     clear c1 c2 c3 c4 c5 c6 c1' c2' c3' c4' c5' a4 a5 a6 b4 b5 b6 hn2 hbh h117 q1 h0
     obtain ⟨-,-,-,hlt,hkt,het⟩ := HC.out
     replace hE0 := Aside0.mk hE0
     obtain ⟨m,hm⟩ : ∃ m,11 + n = m := ⟨_,rfl⟩
     have hmi : 11 + (n : Int) = (m : Int) := by omega
     have hw5 : Aside0 (wrap64 (11 + (n : Int)) = (m : Int)) := ⟨by rw [hmi];exact w64 (by omega) (by omega)⟩
     by_cases hbad : rightF kk 0 = false ∨ 197 < n ∨ ee ≠ ep
     ·have hb4 : (decide (197 < (n : Int)) = true) ∨ (decide (197 < (n : Int)) = false ∧ decide (kk < 1) = true) ∨ (decide (197 < (n : Int)) = false ∧ decide (kk < 1) = false ∧ decide (4 < kk) = true) ∨ (decide (197 < (n : Int)) = false ∧ decide (kk < 1) = false ∧ decide (4 < kk) = false ∧ (ee != ep) = true) := by
       by_cases h1 : 197 < n
       ·exact .inl (decide_eq_true (by omega))
       have f1 : decide (197 < (n : Int)) = false := decide_eq_false (by omega)
       by_cases h2 : kk < 1
       ·exact .inr (.inl ⟨f1,decide_eq_true h2⟩)
       have f2 : decide (kk < 1) = false := decide_eq_false h2
       by_cases h3 : 4 < kk
       ·exact .inr (.inr (.inl ⟨f1,f2,decide_eq_true h3⟩))
       have f3 : decide (4 < kk) = false := decide_eq_false h3
       refine .inr (.inr (.inr ⟨f1,f2,f3,?_⟩))
       rcases hbad with h|h|h
       ·unfold rightF at h
        simp at h
        omega
       ·exact absurd h h1
       ·simp [h]
      replace hE0 := hE0.out
      rw [if_pos hbad] at hE0
      subst hE0
      clear hbad hlt hkt het hm hmi
      rcases hb4 with q5|⟨q5,q6⟩|⟨q5,q6,q7⟩|⟨q5,q6,q7,q8⟩
      all_goals
       go_wp2_with (first
  |((with_reducible refine gate_dst (N := 53) rfl ?_);refine gate_guard (by rfl) ?_;refine l_load1 rfl H 3 _ rfl _ _ rfl (by repeat constructor) _ Tryd.underlying3 rfl _ (by first|rfl|assumption|exact nums_at _ (by omega)) ?_)
  |((with_reducible refine gate_dst (N := 58) rfl ?_);refine gate_guard (by rfl) ?_;refine l_load1 rfl H 3 _ rfl _ _ rfl (by repeat constructor) _ Tryd.underlying3 rfl _ (by first|rfl|assumption|exact nums_at _ (by omega)) ?_)
  |((with_reducible refine gate_dst (N := 63) rfl ?_);refine gate_guard (by rfl) ?_;refine l_load1 rfl H 67 _ rfl _ _ rfl (by repeat constructor) _ Tryd.underlying67 rfl _ (by first|rfl|assumption|exact nums_at _ (by omega)) ?_)
  |((with_reducible refine gate_store (t := 76) (p := 4) rfl ?_);refine l_storeW rfl H 76 _ _ rfl _ rfl _ rfl (by repeat constructor) _ size76 (by first|rfl|assumption|omega|(simp only [nums_length];omega)|simp [nums_length,zs] <;> omega) (by first|rfl|assumption|omega|(simp only [nums_length];omega)|simp [nums_length,zs] <;> omega) (by first|exact nums_one|assumption|exact on1_ rfl) ?_;clear H;intro W H))
       refine bodyPost_ret (results_ctt (p := 4) (ty := 76) rfl _ _ g4 76 _ (0,0) _ rfl (H.heap (.tail .head)) Tryd.underlying76 rfl size76) rfl ?_
       exact ⟨H.below,.inl ⟨by decide,rfl⟩⟩
     replace hE0 := hE0.out
     rw [if_neg hbad] at hE0
     replace hE0 := Aside0.mk hE0
     have hgood : 1 ≤ kk ∧ kk ≤ 4 ∧ n ≤ 197 ∧ ee = ep := by
      refine ⟨?_,?_,?_,?_⟩
      ·exact Decidable.byContradiction fun h => hbad (.inl (by unfold rightF;simp;omega))
      ·exact Decidable.byContradiction fun h => hbad (.inl (by unfold rightF;simp;omega))
      ·exact Decidable.byContradiction fun h => hbad (.inr (.inl (by omega)))
      ·exact Decidable.byContradiction fun h => hbad (.inr (.inr h))
     obtain ⟨k1,k2,k3,k4⟩ := hgood
     have q5 : decide (197 < (n : Int)) = false := decide_eq_false (by omega)
     have q6 : decide (kk < 1) = false := decide_eq_false (by omega)
     have q7 : decide (4 < kk) = false := decide_eq_false (by omega)
     have q8 : (ee != ep) = false := by simp [k4]
     clear hbad hlt hkt
     have hw5 := hw5.out
     have hw5' := (i64_w _).trans hw5
     have hDm : (b.take (11 + n)).drop 11 = (b.take m).drop 11 := by rw [hm]
     rw [hm] at hE0 hdl
     by_cases g3 : bl < m
     ·have hE0 := hE0.out
      rw [if_pos g3] at hE0
      subst hE0
      have q9 : decide (bl < m) = true := decide_eq_true g3
      clear g3 k1 k2 k3 k4 hm hmi hdl het
      go_wp2_with (first
  |((with_reducible refine gate_dst (N := 53) rfl ?_);refine gate_guard (by rfl) ?_;refine l_load1 rfl H 3 _ rfl _ _ rfl (by repeat constructor) _ Tryd.underlying3 rfl _ (by first|rfl|assumption|exact nums_at _ (by omega)) ?_)
  |((with_reducible refine gate_dst (N := 58) rfl ?_);refine gate_guard (by rfl) ?_;refine l_load1 rfl H 3 _ rfl _ _ rfl (by repeat constructor) _ Tryd.underlying3 rfl _ (by first|rfl|assumption|exact nums_at _ (by omega)) ?_)
  |((with_reducible refine gate_dst (N := 63) rfl ?_);refine gate_guard (by rfl) ?_;refine l_load1 rfl H 67 _ rfl _ _ rfl (by repeat constructor) _ Tryd.underlying67 rfl _ (by first|rfl|assumption|exact nums_at _ (by omega)) ?_)
  |((with_reducible refine gate_store (t := 76) (p := 4) rfl ?_);refine l_storeW rfl H 76 _ _ rfl _ rfl _ rfl (by repeat constructor) _ size76 (by first|rfl|assumption|omega|(simp only [nums_length];omega)|simp [nums_length,zs] <;> omega) (by first|rfl|assumption|omega|(simp only [nums_length];omega)|simp [nums_length,zs] <;> omega) (by first|exact nums_one|assumption|exact on1_ rfl) ?_;clear H;intro W H))
      refine bodyPost_ret (results_ctt (p := 4) (ty := 76) rfl _ _ g4 76 _ (0,0) _ rfl (H.heap (.tail .head)) Tryd.underlying76 rfl size76) rfl ?_
      exact ⟨H.below,.inl ⟨by decide,rfl⟩⟩
     replace hE0 := hE0.out
     rw [if_neg g3] at hE0
     replace hE0 := Aside0.mk hE0
     have q9 : decide (bl < m) = false := decide_eq_false g3
     have hmb : m ≤ bl := Nat.le_of_not_lt g3
     obtain ⟨hDl,hEq⟩ := hdl hmb
     have h11m : 11 ≤ m := by rw [← hm];exact Nat.le_add_right 11 n
     have hmn : m - 11 = n := by rw [← hm];exact Nat.add_sub_cancel_left 11 n
     have hmc : m ≤ c := Nat.le_trans hmb hc
     have hcut2 := cut_C hC 11 m c h11m hmb hc
     rw [hmn] at hcut2
     obtain ⟨D11,hD11⟩ : ∃ D,dropA (some ad) 11 c 1 = D := ⟨_,rfl⟩
     rw [hD11] at hcut2
     replace hD11 := Aside0.mk hD11
     have hCm : (Kd.int .u8).C w (some ad) m (b.take m) := by
      have := (Rd.of_C hC).take m
      rw [nums_take] at this
      exact this.C (by rw [List.length_take,hbl];exact Nat.min_eq_left hmb) (by have := hC.2.1;omega)
     have hDb : Bytes ((b.take m).drop 11) := bytes_drop (bytes_take bb m) 11
     have hrr : rightF kk ((b.take m).drop 11).length = true := by rw [hDl];unfold rightF;simp;omega
     have hrb := rbytes_eq kk ee ((b.take m).drop 11) hrr (by omega) hDb
     have heb : Bytes (encL kk ee ((b.take m).drop 11)) := encL_bytes (by omega) hDb
     have hinj : (strOfNums (encL kk ee ((b.take m).drop 11))).toList = (strOfNums (b.take m)).toList → encL kk ee ((b.take m).drop 11) = b.take m := CrcMath.strOfNums_inj heb (bytes_take bb m)
     have RB : ∀ W A c,(Kd.int .u8).C W A n ((b.take m).drop 11) → n ≤ c → Calls Tryd.prog 61 #[.agg #[.int .i64 kk,.int .u32 ee,.slice A n c]] W fun e w' => ∃ v0_ : Value,e = .returned v0_ ∧ Kd.R (Kd.int .u8) 5 w' W.heap.size (fun _ => True) v0_ (encL kk ee ((b.take m).drop 11)) ∧ Below W.heap.size W w' := fun W A c h1 h2 => by
      rw [← hDl] at h1 h2 ⊢
      exact strandlineref13_Bytes.calls _ kk ee A c _ _ W h1 h2 hrb
     clear g3 k1 k4 hm het hrb hrr heb hDb hdl
     replace hDl := Aside0.mk hDl
     replace hDm := Aside0.mk hDm
     replace hmi := Aside0.mk hmi
     have K3 := Aside0.mk k3
     clear k2 k3
     generalize encL kk ee ((b.take m).drop 11) = EL at *
     generalize hDL : (b.take m).drop 11 = DL at *
     generalize hBM : b.take m = BM at *
     go_wp2_with (first
  |((with_reducible refine gate_dst (N := 53) rfl ?_);refine gate_guard (by rfl) ?_;refine l_load1 rfl H 3 _ rfl _ _ rfl (by repeat constructor) _ Tryd.underlying3 rfl _ (by first|rfl|assumption|exact nums_at _ (by omega)) ?_)
  |((with_reducible refine gate_dst (N := 58) rfl ?_);refine gate_guard (by rfl) ?_;refine l_load1 rfl H 3 _ rfl _ _ rfl (by repeat constructor) _ Tryd.underlying3 rfl _ (by first|rfl|assumption|exact nums_at _ (by omega)) ?_)
  |((with_reducible refine gate_dst (N := 63) rfl ?_);refine gate_guard (by rfl) ?_;refine l_load1 rfl H 67 _ rfl _ _ rfl (by repeat constructor) _ Tryd.underlying67 rfl _ (by first|rfl|assumption|exact nums_at _ (by omega)) ?_)
  |((with_reducible refine gate_dst (N := 74) rfl ?_);refine l_build0 rfl H 38 5 rfl Tryd.underlying38 (by kernel_rfl) ?_;clear H;intro g74 W H)
  |((with_reducible refine gate_store (t := 38) (p := 80) rfl ?_);refine l_store1 rfl H 38 _ _ rfl _ _ rfl _ (by first|(go_simp;done)|(go_simp;with_reducible rfl)) (by repeat constructor) rfl rfl size38 (by first|rfl|assumption|omega|(simp only [nums_length];omega)|simp [nums_length,zs] <;> omega) ?_;clear H;intro W H)
  |((with_reducible refine gate_dst (N := 78) rfl ?_);refine l_run rfl (.slice D11 n (c - 11)) (by rw [← hmn,← hD11.out];exact x_slice_lohi _ _ _ rfl rfl Tryd.underlying38 size5 11 m rfl rfl h11m hmc _) ?_)
  |((with_reducible refine gate_dst (N := 79) rfl ?_);refine l_append rfl H _ _ 38 5 rfl Tryd.underlying38 _ _ _ inf5 rfl (by decide) (by decide) _ 0 [] rfl .head D11 n (c - 11) (nums .u8 DL) rfl (by rw [nums_length,hcut2.1,Nat.mul_one]) (fun hp => ((Rd.of_C hcut2).below H.below) (by rw [nums_length,hcut2.1];exact hp)) nums_one (by rw [Nat.zero_add,Nat.mul_one];exact Nat.le_trans K3.out (by decide)) ?_;clear H;intro v79 W H;obtain ⟨A79,c79,e79⟩ := H.row_slice .head;rw [Nat.zero_add] at e79 H;rw [List.nil_append] at H;subst e79))
     replace H := (show Own w F0 [.row (.slice A79 n c79) 5 1 n (nums .u8 DL),.blk g10 76 [.int .i64 kk,.int .u32 ee,.slice A79 n c79],.blk g4 76 [.int .i64 0,.int .u32 0,.slice none 0 0]] _ from H)
     by_cases g5 : ss = sumN (BM.drop 4)
     ·have hE0 := hE0.out
      rw [if_neg (fun h => h g5)] at hE0
      subst hE0
      have hEL := hEq.2 g5
      subst hEL
      clear g5 hEq hinj
      refine start_ (n := 9) (S := Own _ _ _) (ds := []) #[f_,f_,f_,f_,f_,f_,f_,f_,f_] (by kernel_rfl) rfl rfl H.drew (fun hHeld => ?_)
      replace H := H.drew
      generalize World.drew _ = W at H hHeld ⊢
      refine pure_ (i := 3) (N := some 84) #[f_,f_,f_,t_,f_,f_,f_,f_,f_] rfl rfl (by kernel_rfl) (fun _ _ _ h => h) (Or.inl ⟨by rfl,by intro w';go_simp;with_reducible rfl⟩) (by simp only [ps_];rfl) ?_
      refine pure_ (i := 4) (N := some 85) #[f_,f_,f_,t_,t_,f_,f_,f_,f_] rfl rfl (by kernel_rfl) (fun _ _ _ h => h) (Or.inl ⟨by rfl,by intro w';go_simp;with_reducible rfl⟩) (by simp only [ps_];rfl) ?_
      refine pure_ (i := 5) (N := some 86) #[f_,f_,f_,t_,t_,t_,f_,f_,f_] rfl rfl (by kernel_rfl) (fun _ _ _ h => h) (Or.inl ⟨by rfl,by intro w';go_simp;with_reducible rfl⟩) (by simp only [ps_];rfl) ?_
      refine take_run (i := 6) (N := some 87) #[f_,f_,f_,t_,t_,t_,t_,f_,f_] rfl rfl (by kernel_rfl) (fun _ _ _ _ h => h) (by rfl) hHeld (.slice (some ad) m c) (fun X HX => x_slice_to _ _ rfl rfl Tryd.underlying38 size5 m rfl hmc X) (by simp only [ps_];rfl) ?_
      refine take_loadA (i := 0) (N := some 81) #[t_,f_,f_,t_,t_,t_,t_,f_,f_] rfl rfl (by kernel_rfl) (fun _ _ _ _ h => h) (by rfl) hHeld 76 _ rfl _ rfl (by repeat constructor) _ _ Tryd.underlying76 rfl size76 (by first|rfl|assumption|omega|(simp only [nums_length];omega)|simp [nums_length,zs] <;> omega) (by simp only [ps_];rfl) ?_
      refine take_run (i := 7) (N := some 88) #[t_,f_,f_,t_,t_,t_,t_,t_,f_] rfl rfl (by kernel_rfl) (fun _ _ _ _ h => h) (by rfl) hHeld (.string (strOfNums EL)) (fun X HX => r_strC 38 9 5 _ rfl rfl (Kd.C_below hCm HX.below) Tryd.underlying38 Tryd.underlying5 Tryd.underlying9) (by simp only [ps_];rfl) ?_
      refine one_ (i := 1) (N := some 82) #[t_,t_,f_,t_,t_,t_,t_,t_,f_] rfl rfl (by kernel_rfl) (by decide) (fun K hK => ?_)
      refine callK_ (RB _ A79 c79 (H.rowC .head).2.2 (H.rowC .head).1) Tryd.func61 (by kernel_rfl) rfl (by rfl) rfl rfl (by (try simp only [List.map_toArray,List.map_cons,List.map_nil]);first|done|rfl) ?_
      rintro e W ⟨v82,rfl,hR,hb⟩
      refine ⟨_,rfl,?_⟩
      replace H := H.addR hb hR
      clear hR hb
      obtain ⟨A82,c82,rfl⟩ := H.row_slice .head
      refine hK.out _ _ ?_ (fun hHeld => ?_)
      ·first|trivial|exact H|exact H.del .head|exact (H.del .head).del .head|exact H.heap (by repeat constructor)
      clear hK K
      refine norm_ (by show Act.put _ (some 82) _ = _;simp only [ps_];rfl) ?_
      refine one_ (i := 2) (N := some 83) #[t_,t_,t_,t_,t_,t_,t_,t_,f_] rfl rfl (by kernel_rfl) (by decide) (fun K hK => ?_)
      refine wanted_ rfl ?_
      refine w_strR H 38 9 5 _ rfl _ rfl (by repeat constructor) Tryd.underlying38 Tryd.underlying5 Tryd.underlying9 ?_
      refine hK.out _ _ ?_ (fun hHeld => ?_)
      ·first|trivial|exact H|exact H.del .head|exact (H.del .head).del .head|exact H.heap (by repeat constructor)
      clear hK K
      refine norm_ (by show Act.put _ (some 83) _ = _;simp only [ps_];rfl) ?_
      refine pure_ (i := 8) (N := some 89) #[t_,t_,t_,t_,t_,t_,t_,t_,t_] rfl rfl (by kernel_rfl) (fun _ _ _ h => h) (Or.inl ⟨by rfl,by intro w';go_simp;with_reducible rfl⟩) (by simp only [ps_];rfl) ?_
      refine done_ (by kernel_rfl) ?_
      clear hHeld
      go_wp2_with (first
  |((with_reducible refine gate_dst (N := 91) rfl ?_);refine l_loadA rfl H 76 _ rfl _ rfl (by repeat constructor) _ _ Tryd.underlying76 rfl size76 (by first|rfl|assumption|omega|(simp only [nums_length];omega)|simp [nums_length,zs] <;> omega) ?_)
  |((with_reducible refine gate_store (t := 76) (p := 4) rfl ?_);refine l_storeW rfl H 76 _ _ rfl _ rfl _ rfl (by repeat constructor) _ size76 (by first|rfl|assumption|omega|(simp only [nums_length];omega)|simp [nums_length,zs] <;> omega) (by first|rfl|assumption|omega|(simp only [nums_length];omega)|simp [nums_length,zs] <;> omega) (by first|exact nums_one|assumption|exact on1_ rfl) ?_;clear H;intro W H))
      refine bodyPost_ret (results_ctt (p := 4) (ty := 76) rfl _ _ g4 76 _ (0,0) _ rfl (H.heap (.tail (.tail (.tail .head)))) Tryd.underlying76 rfl size76) rfl ?_
      refine ⟨H.below,A79,c79,?_,(H.rowC (.tail .head)).1,?_,?_⟩
      ·rw [hmi.out]
       rfl
      ·rw [hDm.out]
       exact (H.rowC (.tail .head)).2.2
      ·rw [hDm.out]
       exact H.at_ (.tail .head)
     ·have hE0 := hE0.out
      rw [if_pos g5] at hE0
      subst hE0
      have hns : ((strOfNums EL).toList == (strOfNums BM).toList) = false := beq_eq_false_iff_ne.2 (fun h => g5 (hEq.1 (hinj h)))
      clear g5 hEq hinj
      refine start_ (n := 9) (S := Own _ _ _) (ds := []) #[f_,f_,f_,f_,f_,f_,f_,f_,f_] (by kernel_rfl) rfl rfl H.drew (fun hHeld => ?_)
      replace H := H.drew
      generalize World.drew _ = W at H hHeld ⊢
      refine pure_ (i := 3) (N := some 84) #[f_,f_,f_,t_,f_,f_,f_,f_,f_] rfl rfl (by kernel_rfl) (fun _ _ _ h => h) (Or.inl ⟨by rfl,by intro w';go_simp;with_reducible rfl⟩) (by simp only [ps_];rfl) ?_
      refine pure_ (i := 4) (N := some 85) #[f_,f_,f_,t_,t_,f_,f_,f_,f_] rfl rfl (by kernel_rfl) (fun _ _ _ h => h) (Or.inl ⟨by rfl,by intro w';go_simp;with_reducible rfl⟩) (by simp only [ps_];rfl) ?_
      refine pure_ (i := 5) (N := some 86) #[f_,f_,f_,t_,t_,t_,f_,f_,f_] rfl rfl (by kernel_rfl) (fun _ _ _ h => h) (Or.inl ⟨by rfl,by intro w';go_simp;with_reducible rfl⟩) (by simp only [ps_];rfl) ?_
      refine take_run (i := 6) (N := some 87) #[f_,f_,f_,t_,t_,t_,t_,f_,f_] rfl rfl (by kernel_rfl) (fun _ _ _ _ h => h) (by rfl) hHeld (.slice (some ad) m c) (fun X HX => x_slice_to _ _ rfl rfl Tryd.underlying38 size5 m rfl hmc X) (by simp only [ps_];rfl) ?_
      refine take_loadA (i := 0) (N := some 81) #[t_,f_,f_,t_,t_,t_,t_,f_,f_] rfl rfl (by kernel_rfl) (fun _ _ _ _ h => h) (by rfl) hHeld 76 _ rfl _ rfl (by repeat constructor) _ _ Tryd.underlying76 rfl size76 (by first|rfl|assumption|omega|(simp only [nums_length];omega)|simp [nums_length,zs] <;> omega) (by simp only [ps_];rfl) ?_
      refine take_run (i := 7) (N := some 88) #[t_,f_,f_,t_,t_,t_,t_,t_,f_] rfl rfl (by kernel_rfl) (fun _ _ _ _ h => h) (by rfl) hHeld (.string (strOfNums BM)) (fun X HX => r_strC 38 9 5 _ rfl rfl (Kd.C_below hCm HX.below) Tryd.underlying38 Tryd.underlying5 Tryd.underlying9) (by simp only [ps_];rfl) ?_
      refine one_ (i := 1) (N := some 82) #[t_,t_,f_,t_,t_,t_,t_,t_,f_] rfl rfl (by kernel_rfl) (by decide) (fun K hK => ?_)
      refine callK_ (RB _ A79 c79 (H.rowC .head).2.2 (H.rowC .head).1) Tryd.func61 (by kernel_rfl) rfl (by rfl) rfl rfl (by (try simp only [List.map_toArray,List.map_cons,List.map_nil]);first|done|rfl) ?_
      rintro e W ⟨v82,rfl,hR,hb⟩
      refine ⟨_,rfl,?_⟩
      replace H := H.addR hb hR
      clear hR hb
      obtain ⟨A82,c82,rfl⟩ := H.row_slice .head
      refine hK.out _ _ ?_ (fun hHeld => ?_)
      ·first|trivial|exact H|exact H.del .head|exact (H.del .head).del .head|exact H.heap (by repeat constructor)
      clear hK K
      refine norm_ (by show Act.put _ (some 82) _ = _;simp only [ps_];rfl) ?_
      refine one_ (i := 2) (N := some 83) #[t_,t_,t_,t_,t_,t_,t_,t_,f_] rfl rfl (by kernel_rfl) (by decide) (fun K hK => ?_)
      refine wanted_ rfl ?_
      refine w_strR H 38 9 5 _ rfl _ rfl (by repeat constructor) Tryd.underlying38 Tryd.underlying5 Tryd.underlying9 ?_
      refine hK.out _ _ ?_ (fun hHeld => ?_)
      ·first|trivial|exact H|exact H.del .head|exact (H.del .head).del .head|exact H.heap (by repeat constructor)
      clear hK K
      refine norm_ (by show Act.put _ (some 83) _ = _;simp only [ps_];rfl) ?_
      refine pure_ (i := 8) (N := some 89) #[t_,t_,t_,t_,t_,t_,t_,t_,t_] rfl rfl (by kernel_rfl) (fun _ _ _ h => h) (Or.inl ⟨by rfl,by intro w';go_simp;with_reducible rfl⟩) (by simp only [ps_];rfl) ?_
      refine done_ (by kernel_rfl) ?_
      clear hHeld
      go_wp2_with (first
  |((with_reducible refine gate_store (t := 76) (p := 4) rfl ?_);refine l_storeW rfl H 76 _ _ rfl _ rfl _ rfl (by repeat constructor) _ size76 (by first|rfl|assumption|omega|(simp only [nums_length];omega)|simp [nums_length,zs] <;> omega) (by first|rfl|assumption|omega|(simp only [nums_length];omega)|simp [nums_length,zs] <;> omega) (by first|exact nums_one|assumption|exact on1_ rfl) ?_;clear H;intro W H))
      refine bodyPost_ret (results_ctt (p := 4) (ty := 76) rfl _ _ g4 76 _ (0,0) _ rfl (H.heap (.tail (.tail (.tail .head)))) Tryd.underlying76 rfl size76) rfl ?_
      exact ⟨H.below,.inl ⟨by decide,rfl⟩⟩
end Go.Proofs.YtaekpfhgdnfciaaDoor.O
end

section
namespace Go.Proofs.YtaekpfhgdnfciaaDoor.Img
open Go.RowKit Go.Proofs.YtaekpfhgdnfciaaDoor.F Go.Proofs.YtaekpfhgdnfciaaDoor.F.Nums Go.Proofs.YtaekpfhgdnfciaaDoor.O Go.Proofs.YtaekpfhgdnfciaaDoorW.PrintWords Go.Proofs.YtaekpfhgdnfciaaDoorW.PrintLast Go.Proofs.YtaekpfhgdnfciaaDoorW.PrintMore Go.Proofs.YtaekpfhgdnfciaaDoor.Plain
/-! ### pieces lie one behind another -/
def Asc : Int → Int → List Pc → Prop
 |lo,hi,[] => lo ≤ hi
 |lo,hi,p :: ps => lo ≤ p.f0 ∧ 0 ≤ p.f3 - p.f2 ∧ 11 + (p.f3 - p.f2) ≤ lf p.f0 ∧ p.f0 % 52 ≤ 41 ∧ p.f0 < 832 ∧ Asc (p.f0 + 11 + (p.f3 - p.f2)) hi ps
theorem Asc.weak : ∀ {ps : List Pc} {lo lo' hi : Int},lo' ≤ lo → Asc lo hi ps → Asc lo' hi ps := by
 intro ps
 cases ps with
 |nil => intro lo lo' hi h h2;simp only [Asc] at h2 ⊢;omega
 |cons p ps => intro lo lo' hi h h2;simp only [Asc] at h2 ⊢;exact ⟨by omega,h2.2⟩
theorem cutS_asc {m : Nat} : ∀ {at_ n from_ : Int} {q : List (Int × Int × Int) × Int} (f : Bool),from_ ≤ n → cutS m at_ n from_ = some q → Asc (bg (cl at_)) q.2 (mkP f q.1) := by
 induction m with
 |zero => intro _ _ _ _ _ _ h;cases h
 |succ m ih =>
  intro at_ n from_ q f hn h
  have h0 := cl_lo at_
  have h1 := cl_hi at_
  have hb0 := bg_lo h0
  have hb1 := bg_hi h1
  have hbm := bg_mod (cl at_)
  unfold cutS at h
  split at h
  ·cases h
  ·rename_i h8
   obtain ⟨l1,l2,l3,l4⟩ := lf_ge hb0 hb1 hbm h8
   split at h
   ·obtain rfl := Option.some.inj h
    simp only [mkP,Asc]
    exact ⟨Int.le_refl _,by omega,by omega,hbm,by omega,by omega⟩
   ·obtain ⟨q',hq',rfl⟩ := Option.map_eq_some_iff.mp h
    obtain ⟨u,rest,hu⟩ : ∃ u rest,q'.1 = u :: rest := by
     cases hp : q'.1 with
     |nil => exact absurd hp (cutS_ne hq')
     |cons t rest => exact ⟨t,rest,rfl⟩
    have h2 := ih false (by omega) hq'
    rw [cl_in (by omega) l3,bg_block l4] at h2
    simp only
    rw [show mkP f ((bg (cl at_),from_,from_ + (lf (bg (cl at_)) - 11)) :: q'.1) = ⟨bg (cl at_),pc f false,from_,from_ + (lf (bg (cl at_)) - 11)⟩ :: mkP false q'.1 by rw [hu];rfl]
    simp only [Asc]
    exact ⟨Int.le_refl _,by omega,by omega,hbm,by omega,h2.weak (by omega)⟩
theorem pcs_asc {e64 : Int} {l : List (List Int)} {k : Nat} (h : layOk e64 l k = true) : Asc (bg (cl (laySt e64 l k).2)) (laySt e64 l (k + 1)).2 (pcs e64 l k) := by
 obtain ⟨q,hq,h1,h2⟩ := pcs_cut h
 rw [h1,h2]
 exact cutS_asc true (by omega) hq
theorem Asc.mem : ∀ {ps : List Pc} {lo hi : Int},Asc lo hi ps → ∀ p ∈ ps,lo ≤ p.f0 ∧ 0 ≤ p.f3 - p.f2 ∧ 11 + (p.f3 - p.f2) ≤ lf p.f0 ∧ p.f0 % 52 ≤ 41 ∧ p.f0 < 832 ∧ p.f0 + 11 + (p.f3 - p.f2) ≤ hi := by
 intro ps
 induction ps with
 |nil => intro _ _ _ p hp;cases hp
 |cons q ps ih =>
  intro lo hi h p hp
  simp only [Asc] at h
  obtain ⟨a1,a2,a3,a4,a5,a6⟩ := h
  have hlast : q.f0 + 11 + (q.f3 - q.f2) ≤ hi := by
   clear ih hp a1 a2 a3 a4 a5
   generalize q.f0 + 11 + (q.f3 - q.f2) = lo2 at a6 ⊢
   induction ps generalizing lo2 with
   |nil => simpa only [Asc] using a6
   |cons r rs ih2 =>
    simp only [Asc] at a6
    have := ih2 _ a6.2.2.2.2.2
    omega
  rcases List.mem_cons.1 hp with rfl|hp
  ·exact ⟨a1,a2,a3,a4,a5,hlast⟩
  ·have := ih a6 p hp
   exact ⟨by omega,this.2⟩
/-! ### what is laid stands -/
theorem seg_take (X : List Int) (p n : Nat) : (X.drop p).take n = (X.take (p + n)).drop p := by rw [List.drop_take,Nat.add_sub_cancel_left]
theorem splice_drop (cur ys : List Int) (o hi : Nat) (h : o + ys.length ≤ hi) (ho : o + ys.length ≤ cur.length) : (splice cur o ys).drop hi = cur.drop hi := by
 unfold splice
 have hl : (cur.take o ++ ys).length = o + ys.length := by rw [List.length_append,List.length_take];omega
 rw [← List.append_assoc,List.drop_append,List.drop_of_length_le (by omega),List.nil_append,hl,List.drop_drop]
 congr 1
 omega
theorem splice_seg (cur ys : List Int) (o : Nat) (ho : o ≤ cur.length) : ((splice cur o ys).drop o).take ys.length = ys := by
 unfold splice
 have hl : (cur.take o).length = o := by rw [List.length_take];omega
 rw [List.drop_left' hl,List.take_left]
theorem layA_drop {ep : Int} {data : List Int} (hi : Nat) : ∀ (ps : List Pc) (cur : List Int) (lo : Int),Asc lo (hi : Int) ps → (∀ p ∈ ps,PcOk data p) → cur.length = 832 → (layA ep data ps cur).drop hi = cur.drop hi := by
 intro ps
 induction ps with
 |nil => intro cur _ _ _ _;rfl
 |cons p ps ih =>
  intro cur lo ha hp hc
  have hm := ha.mem p (List.mem_cons_self ..)
  have h1 := hp p (List.mem_cons_self ..)
  simp only [Asc] at ha
  show (layA ep data ps (layP ep data cur p)).drop hi = _
  rw [ih _ _ ha.2.2.2.2.2 (fun q hq => hp q (List.mem_cons_of_mem _ hq)) (layP_len h1 hc)]
  have hl := pcE_len (ep := ep) h1
  obtain ⟨g1,g2,g3,g4,g5,g6,g7,g8⟩ := h1
  unfold layP
  exact splice_drop _ _ _ _ (by omega) (by omega)
theorem layA_seg {ep : Int} {data : List Int} : ∀ (ps : List Pc) (cur : List Int) (lo hi : Int),Asc lo hi ps → (∀ p ∈ ps,PcOk data p) → cur.length = 832 → ∀ p ∈ ps,((layA ep data ps cur).drop p.f0.toNat).take (11 + (p.f3 - p.f2).toNat) = pcE ep data p := by
 intro ps
 induction ps with
 |nil => intro cur _ _ _ _ _ p hp;cases hp
 |cons q ps ih =>
  intro cur lo hi ha hok hc p hp
  have h1 := hok q (List.mem_cons_self ..)
  simp only [Asc] at ha
  have ha2 := ha.2.2.2.2.2
  have hlen := layP_len (ep := ep) h1 hc
  show ((layA ep data ps (layP ep data cur q)).drop p.f0.toNat).take _ = _
  rcases List.mem_cons.1 hp with rfl|hp
  ·have hl := pcE_len (ep := ep) h1
   obtain ⟨g1,g2,g3,g4,g5,g6,g7,g8⟩ := h1
   rw [seg_take,layA_keep (p.f0.toNat + (11 + (p.f3 - p.f2).toNat)) ps _ (fun r hr => ⟨hok r (List.mem_cons_of_mem _ hr),by have := (ha2.mem r hr).1;omega⟩) hlen,← seg_take,← hl]
   unfold layP
   exact splice_seg _ _ _ (by omega)
  ·exact ih _ _ _ ha2 (fun r hr => hok r (List.mem_cons_of_mem _ hr)) hlen p hp
theorem end_mono (e64 : Int) (l : List (List Int)) (hall : layAll e64 l = true) (k : Nat) : ∀ m,k ≤ m → m ≤ l.length → (laySt e64 l k).2 ≤ (laySt e64 l m).2 := by
 intro m
 induction m with
 |zero => intro h _;obtain rfl : k = 0 := by omega
          exact Int.le_refl _
 |succ m ih =>
  intro h hm
  by_cases e : k = m + 1
  ·rw [e];exact Int.le_refl _
  ·have h1 := ih (by omega) (by omega)
   have h2 := laySt_end e64 l m
   have h3 := end_more (laySt e64 l m).2 h2.1 h2.2 ((l.getD m []).length : Int) (by omega) ((layAll_iff e64 l).1 hall m (by omega))
   have h4 : (laySt e64 l (m + 1)).2 = (cutP (laySt e64 l m).2 ((l.getD m []).length : Int)).2.1 := rfl
   omega
theorem lay_keep (e64 : Int) (l : List (List Int)) (hall : layAll e64 l = true) (k : Nat) : ∀ m,k ≤ m → m ≤ l.length → ∀ e : Nat,(e : Int) ≤ (laySt e64 l k).2 → (laySt e64 l m).1.take e = (laySt e64 l k).1.take e := by
 intro m
 induction m with
 |zero => intro h _ e _;obtain rfl : k = 0 := by omega
          rfl
 |succ m ih =>
  intro h hm e he
  by_cases e1 : k = m + 1
  ·rw [e1]
  ·rw [← ih (by omega) (by omega) e he]
   have h1 := end_mono e64 l hall k m (by omega) (by omega)
   have h2 := laySt_end e64 l m
   obtain ⟨em,hem⟩ := Int.eq_ofNat_of_zero_le h2.1
   have h3 := addB_keep e64 (laySt e64 l m).1 em (l.getD m []) (laySt_len _ _ _) (by omega)
   show (addB e64 (laySt e64 l m).1 (laySt e64 l m).2 (l.getD m [])).take e = _
   rw [hem]
   have h4 := congrArg (List.take e) h3
   rwa [List.take_take,List.take_take,Nat.min_eq_left (by omega)] at h4
theorem lay_seg (e64 : Int) (l : List (List Int)) (hall : layAll e64 l = true) (k m : Nat) (hkm : k < m) (hm : m ≤ l.length) (p : Pc) (hp : p ∈ pcs e64 l k) :
  ((laySt e64 l m).1.drop p.f0.toNat).take (11 + (p.f3 - p.f2).toNat) = pcE (e64 % 4294967296) (l.getD k []) p := by
 have hok := (layAll_iff e64 l).1 hall k (by omega)
 have ha := pcs_asc hok
 have hm2 := ha.mem p hp
 have hend := laySt_end e64 l (k + 1)
 have hpo := cutP_pcs (laySt e64 l k).2 (l.getD k []) p hp
 rw [seg_take,lay_keep e64 l hall (k + 1) m (by omega) hm _ (by obtain ⟨g1,-⟩ := hpo;omega),← seg_take]
 have h1 : (laySt e64 l (k + 1)).1 = layA (e64 % 4294967296) (l.getD k []) (pcs e64 l k) (laySt e64 l k).1 := by
  show addB e64 (laySt e64 l k).1 (laySt e64 l k).2 (l.getD k []) = _
  unfold addB
  rw [base_id (laySt_len _ _ _)]
  rfl
 rw [h1]
 exact layA_seg _ _ _ _ ha (cutP_pcs _ _) (laySt_len _ _ _) p hp
theorem lay_zero (e64 : Int) (l : List (List Int)) (hall : layAll e64 l = true) : ∀ m,m ≤ l.length → (laySt e64 l m).1.drop (laySt e64 l m).2.toNat = zs (832 - (laySt e64 l m).2.toNat) := by
 intro m
 induction m with
 |zero => intro _;rfl
 |succ m ih =>
  intro hm
  have hok := (layAll_iff e64 l).1 hall m (by omega)
  have ha := pcs_asc hok
  have hend := laySt_end e64 l (m + 1)
  have hend0 := laySt_end e64 l m
  have hmono := end_mono e64 l hall m (m + 1) (by omega) hm
  obtain ⟨e1,he1⟩ := Int.eq_ofNat_of_zero_le hend.1
  have h1 : (laySt e64 l (m + 1)).1 = layA (e64 % 4294967296) (l.getD m []) (pcs e64 l m) (laySt e64 l m).1 := by
   show addB e64 (laySt e64 l m).1 (laySt e64 l m).2 (l.getD m []) = _
   unfold addB
   rw [base_id (laySt_len _ _ _)]
   rfl
  rw [he1] at ha
  rw [h1,he1,Int.toNat_natCast,layA_drop e1 _ _ _ ha (cutP_pcs _ _) (laySt_len _ _ _)]
  have h2 := ih (by omega)
  have h3 := congrArg (List.drop (e1 - (laySt e64 l m).2.toNat)) h2
  rw [List.drop_drop,show (laySt e64 l m).2.toNat + (e1 - (laySt e64 l m).2.toNat) = e1 by omega] at h3
  rw [h3]
  unfold zs
  rw [List.drop_replicate]
  congr 1
  omega
/-! ### what is told at a place -/
theorem covN_iff (l : List Bool) : ∀ (d a : Nat),covN l a d = true ↔ ∀ i,a ≤ i → i < a + d → i < l.length ∧ l.getD i false = true := by
 intro d
 induction d with
 |zero => intro a;simp only [covN,true_iff];intro i h1 h2;omega
 |succ d ih =>
  intro a
  simp only [covN,Bool.and_eq_true,decide_eq_true_eq,ih]
  constructor
  ·rintro ⟨⟨h1,h2⟩,h3⟩ i hi hi2
   by_cases e : i = a
   ·subst e;exact ⟨h1,h2⟩
   ·exact h3 i (by omega) (by omega)
  ·intro h
   exact ⟨h a (Nat.le_refl _) (by omega),fun i h1 h2 => h i (by omega) (by omega)⟩
theorem cov_iff (ok : List Bool) (hl : ok.length = 16) (p n : Nat) (hn : 0 < n) (hp : p + n ≤ 832) : cov ok (p : Int) ((p : Int) + (n : Int)) = true ↔ ∀ i,p / 52 ≤ i → i ≤ (p + n - 1) / 52 → ok.getD i false = true := by
 unfold cov
 rw [cl_in (a := (p : Int)) (by omega) (by omega),cl_in (a := (p : Int) + (n : Int)) (by omega) (by omega)]
 unfold tch
 rw [if_neg (by omega),covN_iff]
 constructor
 ·intro h i h1 h2
  exact (h i (by omega) (by omega)).2
 ·intro h i h1 h2
  exact ⟨by omega,h i (by omega) (by omega)⟩
theorem frAt_split (F : List Int) (p m : Nat) (h : m ≤ (lf (p : Int)).toNat) : frAt F p = (F.drop p).take m ++ ((F.drop p).drop m).take ((lf (p : Int)).toNat - m) := by
 unfold frAt
 have := List.take_append_drop m ((F.drop p).take (lf (p : Int)).toNat)
 rw [List.take_take,Nat.min_eq_left h,List.drop_take] at this
 exact this.symm
theorem told_piece (ep : Int) (he : 0 ≤ ep ∧ ep ≤ 4294967295) (F : List Int) (ok : List Bool) (hk : ok.length = 16) (data : List Int) (p : Pc) (hp : PcOk data p) (hlf : 11 + (p.f3 - p.f2) ≤ lf p.f0)
  (hF : (F.drop p.f0.toNat).take (11 + (p.f3 - p.f2).toNat) = pcE ep data p) (hc : ∀ i,p.f0.toNat / 52 ≤ i → i ≤ (p.f0.toNat + (11 + (p.f3 - p.f2).toNat) - 1) / 52 → ok.getD i false = true) :
  told ep F ok p.f0.toNat = some (wantT data p) := by
 obtain ⟨g1,g2,g3,g4,g5,g6,g7,g8⟩ := hp
 obtain ⟨p0,hp0⟩ := Int.eq_ofNat_of_zero_le g1
 have hdl : ((data.take p.f3.toNat).drop p.f2.toNat).length = (p.f3 - p.f2).toNat := by rw [List.length_drop,List.length_take];omega
 have hfr := frAt_split F p.f0.toNat (11 + (p.f3 - p.f2).toNat) (by rw [hp0,Int.toNat_natCast];rw [hp0] at hlf;omega)
 rw [hF] at hfr
 unfold pcE at hfr
 have hr : rightF p.f1 ((data.take p.f3.toNat).drop p.f2.toNat).length = true := by
  rw [hdl]
  unfold rightF
  simp
  omega
 have hdec := dec_enc p.f1 ep ep ((data.take p.f3.toNat).drop p.f2.toNat) (((F.drop p.f0.toNat).drop (11 + (p.f3 - p.f2).toNat)).take ((lf (p.f0.toNat : Int)).toNat - (11 + (p.f3 - p.f2).toNat))) hr he
 obtain ⟨n1,n2,-,-,n5,-⟩ := parts_enc p.f1 ep ((data.take p.f3.toNat).drop p.f2.toNat) (((F.drop p.f0.toNat).drop (11 + (p.f3 - p.f2).toNat)).take ((lf (p.f0.toNat : Int)).toNat - (11 + (p.f3 - p.f2).toNat))) he (by rw [hdl];omega)
 rw [← hfr] at hdec n1 n2 n5
 rw [if_pos rfl] at hdec
 rw [hdl] at n1
 unfold told
 rw [n1,n2,n5,hdec,if_neg (by omega)]
 have c1 : cov ok (p.f0.toNat : Int) ((p.f0.toNat : Int) + 11) = true := (cov_iff ok hk p.f0.toNat 11 (by omega) (by omega)).2 (fun i h1 h2 => hc i h1 (by omega))
 have c2 : cov ok (p.f0.toNat : Int) ((p.f0.toNat : Int) + (11 + ((p.f3 - p.f2).toNat : Int))) = true := by
  have := (cov_iff ok hk p.f0.toNat (11 + (p.f3 - p.f2).toNat) (by omega) (by omega)).2 hc
  rw [← this]
  congr 2
 rw [c1,c2]
 rfl
theorem told_zero (ep : Int) (F : List Int) (ok : List Bool) (hF : F.length = 832) (p : Nat) (hp : p < 832) (hlf : 11 ≤ lf (p : Int)) (h : ∀ i,p ≤ i → i < p + 11 → F.getD i 0 = 0) : told ep F ok p = none := by
 have hlb : (lf (p : Int)) ≤ 832 - p := by unfold lf;rw [if_neg (by omega)];omega
 have hl : (frAt F p).length = (lf (p : Int)).toNat := by unfold frAt;rw [List.length_take,List.length_drop];omega
 have hz : (frAt F p).take 11 = zs 11 := by
  refine List.ext_getElem? (fun i => ?_)
  unfold frAt zs
  rw [List.take_take,List.getElem?_replicate]
  by_cases hi : i < 11
  ·rw [List.getElem?_take_of_lt (by omega),List.getElem?_drop,if_pos hi]
   have := h (p + i) (by omega) (by omega)
   rw [List.getD_eq_getElem?_getD,List.getElem?_eq_getElem (by omega)] at this
   rw [List.getElem?_eq_getElem (by omega)]
   exact congrArg some this
  ·rw [if_neg hi,List.getElem?_eq_none]
   rw [List.length_take,List.length_drop]
   omega
 have hd : decE (frAt F p) ep = 7 := by
  unfold decE
  rw [if_neg (by omega),if_pos hz]
 unfold told
 rw [hd]
 split
 ·rfl
 ·split
  ·rfl
  ·rfl
end Go.Proofs.YtaekpfhgdnfciaaDoor.Img
end
