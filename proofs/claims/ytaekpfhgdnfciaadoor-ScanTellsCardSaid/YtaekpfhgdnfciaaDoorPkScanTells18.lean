/- Texts of mine put together: RRest, Rflat. -/
import Derived.Test.YtaekpfhgdnfciaaDoorPkScanTells17
import Derived.Test.YtaekpfhgdnfciaaDoorPkScanTells16
import Derived.Test.YtaekpfhgdnfciaaDoorPkScanTells6
section
/- ref19.Rest. -/
set_option linter.unusedVariables false
set_option linter.unusedSimpArgs false
namespace Go.Proofs.YtaekpfhgdnfciaaDoor.O
open Go.RowKit Go.Proofs.YtaekpfhgdnfciaaDoorW.PrintWords Go.Proofs.YtaekpfhgdnfciaaDoorW.PrintLast Go.Proofs.YtaekpfhgdnfciaaDoorW.PrintMore Go.Proofs.YtaekpfhgdnfciaaDoor.F Go.Proofs.YtaekpfhgdnfciaaDoor.F.Nums Go.Proofs.YtaekpfhgdnfciaaDoor.Plain
theorem rnear_c (a : Int) (w : World) : Calls Tryd.prog 34 #[.int .i64 a] w fun e W => e = .returned (.int .i64 (cl a)) ∧ Below w.heap.size w W := (strandlineref07_Near.calls a _ w (SpanP.rnear_eq a)).mono fun e w' ⟨h1,h2⟩ => ⟨h1,by first|exact h2|exact h2.below⟩
theorem r_load64 {P : Program} {o : Oper} {a : Act} {W : World} {ad : Addr} {cs : List Value} (ty : TypeId) (x : Operand) (ho : o.op = .load ty x) (off k : Nat) (hx : a.eval x = .pointer (some ((ad.add off).add k))) (hR : Rd W (some ad) cs)
  (d : TypeDesc) (hu : P.underlying ty = some d) (hd : d.isRow = false) (v : Value) (hv : cs[off + k]? = some v) : (execOp a.eval o).run P W = .ok (.value v) W := r_loadRd1 ty x ho (off + k) (by rw [hx,Addr.add_add]) hR d hu hd v hv
set_option maxRecDepth 100000 in
set_option maxHeartbeats 8000000 in
theorem rrest_calls (fl : List Int) (n : Nat) (hf : fl.length = 64 * n) (hb : Bytes fl) (e : Int) (A : Option Addr) (c : Nat) (w : World) (hr : Rd w A (nums .u8 fl)) (hc : n ≤ c) (hn : n ≤ 100) :
  Calls Tryd.prog 14 #[.slice A n c,.int .i64 e] w fun en W => en = .returned (.bool (Img.restB fl n (cl e))) ∧ Below w.heap.size w W := by
 have H := Own.start w
 have NC := fun W => rnear_c e W
 have h0 := cl_lo e
 have h8 := cl_hi e
 rw [Img.restB_eq]
 obtain ⟨ce,hce⟩ : ∃ m : Nat,cl e = (m : Int) := ⟨(cl e).toNat,by omega⟩
 rw [hce] at NC ⊢
 have hce8 : ce ≤ 832 := by omega
 clear hce h0 h8
 obtain ⟨m,hm⟩ : ∃ m,min n 16 = m := ⟨_,rfl⟩
 rw [hm]
 go_enter Tryd.func14,Tryd.ntmps14
 go_wp2_with (first
  |(go_at_call 34;(with_reducible refine (NC _).mono ?_);rintro en W ⟨rfl,hb'⟩;replace H := H.to hb';clear hb'))
 go_loopg [5] m (fun gq v5 w' => ∃ k : Nat,v5 = .int .i64 (k : Int) ∧ k + gq = m ∧ Img.restU fl ce k = true ∧ Own w F0 [] w')
 case atStart => exact ⟨0,rfl,by omega,rfl,H⟩
 case round =>
  clear H
  obtain ⟨i,rfl,hi,hU,H⟩ := hrel
  by_cases ck : i < m
  ·obtain ⟨gk',rfl⟩ : ∃ q,gk = q + 1 := ⟨gk - 1,by omega⟩
   have q1 : decide (i < n) = true := decide_eq_true (by omega)
   have q2 : decide ((i : Int) < 16) = true := decide_eq_true (by omega)
   obtain ⟨ad,rfl⟩ := hr.some_ (by rw [nums_length];omega)
   replace hr := And.intro hr (show i * 64 + 64 ≤ (nums .u8 fl).length by rw [nums_length,hf];omega)
   have hsucc := Img.restU_succ fl ce i
   have hfalse : Img.secRest (secAt fl i) i ce = false → Img.restU fl ce m = false := fun h => Img.restU_false fl ce i m ck h
   have hz : ∀ k,k < 64 → (nums .u8 fl)[i * 64 + k]? = some (.int .u8 ((secAt fl i).getD k 0)) := fun k hk => by
    have := nums_at (xs := fl) (k := .u8) (i * 64 + k) (by rw [hf];omega)
    rw [this]
    have e2 : (secAt fl i).getD k 0 = fl.getD (i * 64 + k) 0 := by
     unfold secAt
     rw [List.getD_eq_getElem?_getD,List.getD_eq_getElem?_getD,List.getElem?_take_of_lt hk,List.getElem?_drop,Nat.mul_comm]
    rw [e2]
   have hiff := Img.secRest_iff (secAt fl i) i ce
   have p0 : ((0 : Int) ≤ (i : Int)) = True := eq_true (by omega)
   have p1 : ((i : Int) < (n : Int)) = True := eq_true (by omega)
   generalize secAt fl i = x at *
   go_wp2
   go_loopg [6] 64 (fun gq v6 w' => ∃ k : Nat,v6 = .int .i64 (k : Int) ∧ k + gq = 64 ∧ (∀ j : Nat,j < k → (ce ≤ 52 * (i : Int) ∨ (12 ≤ j ∧ ce ≤ 52 * (i : Int) + (j : Int) - 12)) → x.getD j 0 = 0) ∧ Own w F0 [] w')
   case atStart => exact ⟨0,rfl,by omega,fun j hj => by omega,H⟩
   case round =>
    clear H
    obtain ⟨k,rfl,hk,hV,H⟩ := hrel
    by_cases ck2 : k < 64
    ·obtain ⟨gk2,rfl⟩ : ∃ q,gk = q + 1 := ⟨gk - 1,by omega⟩
     have r1 : decide ((k : Int) < 64) = true := decide_eq_true (by omega)
     have p2 : ((0 : Int) ≤ (k : Int)) = True := eq_true (by omega)
     have p3 : ((k : Int) < 64) = True := eq_true (by omega)
     have hv := hz k ck2
     by_cases hx0 : x.getD k 0 = 0
     ·have r2 : (x.getD k 0 != 0) = false := by simpa using hx0
      go_wp2_with (first
       |((with_reducible refine gate_dst (N := 28) rfl ?_);refine l_run rfl _ (r_load64 5 _ rfl (i * 64) k rfl (hr.1.below H.below) _ Tryd.underlying5 rfl _ hv) ?_))
      go_roundg gk2
      case measure => omega
      case rel => exact ⟨k + 1,by go_num,by omega,fun j hj hcond => by
       rcases (show j < k ∨ j = k by omega) with h|rfl
       ·exact hV j h hcond
       ·exact hx0,H⟩
     ·have r2 : (x.getD k 0 != 0) = true := by simpa using hx0
      obtain ⟨lo,hlo⟩ : ∃ m,52 * i = m := ⟨_,rfl⟩
      have w1 : IntKind.i64.wrap (52 * (i : Int)) = (lo : Int) := by rw [IntKind.wrap_i64];omega
      by_cases h1 : ce ≤ lo
      ·have r3 : decide (ce ≤ lo) = true := decide_eq_true h1
       go_wp2_with (first
        |((with_reducible refine gate_dst (N := 28) rfl ?_);refine l_run rfl _ (r_load64 5 _ rfl (i * 64) k rfl (hr.1.below H.below) _ Tryd.underlying5 rfl _ hv) ?_))
       go_ret
       exact ⟨by rw [hfalse (by
        cases h : Img.secRest x i ce with
        |false => rfl
        |true => exact absurd (hiff.1 h k ck2 (.inl (by omega))) hx0)];rfl,H.below⟩
      ·have r3 : decide (ce ≤ lo) = false := decide_eq_false h1
       by_cases h2 : 12 ≤ k
       ·have r4 : decide ((12 : Int) ≤ (k : Int)) = true := decide_eq_true (by omega)
        obtain ⟨s1,hs1⟩ : ∃ m,lo + k = m := ⟨_,rfl⟩
        have w2 : IntKind.i64.wrap ((lo : Int) + (k : Int)) = (s1 : Int) := by rw [IntKind.wrap_i64];omega
        obtain ⟨s2,hs2⟩ : ∃ m,s1 - 12 = m := ⟨_,rfl⟩
        have w3 : IntKind.i64.wrap ((s1 : Int) - 12) = (s2 : Int) := by rw [IntKind.wrap_i64];omega
        by_cases h3 : ce ≤ s2
        ·have r5 : decide (ce ≤ s2) = true := decide_eq_true h3
         go_wp2_with (first
          |((with_reducible refine gate_dst (N := 28) rfl ?_);refine l_run rfl _ (r_load64 5 _ rfl (i * 64) k rfl (hr.1.below H.below) _ Tryd.underlying5 rfl _ hv) ?_))
         go_ret
         exact ⟨by rw [hfalse (by
          cases h : Img.secRest x i ce with
          |false => rfl
          |true => exact absurd (hiff.1 h k ck2 (.inr ⟨h2,by omega⟩)) hx0)];rfl,H.below⟩
        ·have r5 : decide (ce ≤ s2) = false := decide_eq_false h3
         go_wp2_with (first
          |((with_reducible refine gate_dst (N := 28) rfl ?_);refine l_run rfl _ (r_load64 5 _ rfl (i * 64) k rfl (hr.1.below H.below) _ Tryd.underlying5 rfl _ hv) ?_))
         go_roundg gk2
         case measure => omega
         case rel => exact ⟨k + 1,by go_num,by omega,fun j hj hcond => by
          rcases (show j < k ∨ j = k by omega) with h|rfl
          ·exact hV j h hcond
          ·exfalso;omega,H⟩
       ·have r4 : decide ((12 : Int) ≤ (k : Int)) = false := decide_eq_false (by omega)
        go_wp2_with (first
         |((with_reducible refine gate_dst (N := 28) rfl ?_);refine l_run rfl _ (r_load64 5 _ rfl (i * 64) k rfl (hr.1.below H.below) _ Tryd.underlying5 rfl _ hv) ?_))
        go_roundg gk2
        case measure => omega
        case rel => exact ⟨k + 1,by go_num,by omega,fun j hj hcond => by
         rcases (show j < k ∨ j = k by omega) with h|rfl
         ·exact hV j h hcond
         ·exfalso;omega,H⟩
    ·have r1 : decide ((k : Int) < 64) = false := decide_eq_false (by omega)
     obtain rfl : k = 64 := by omega
     have hs : Img.secRest x i ce = true := hiff.2 (fun j hj h => hV j hj h)
     rw [hs,hU] at hsucc
     go_wp2
     go_roundg gk'
     case measure => omega
     case rel => exact ⟨i + 1,by go_num,by omega,hsucc,H⟩
  ·obtain rfl : i = m := by omega
   rcases Nat.lt_or_ge i n with h|h
   ·have q1 : decide (i < n) = true := decide_eq_true h
    have q2 : decide ((i : Int) < 16) = false := decide_eq_false (by omega)
    go_wp2
    go_ret
    exact ⟨by rw [hU];rfl,H.below⟩
   ·have q1 : decide (i < n) = false := decide_eq_false (by omega)
    go_wp2
    go_ret
    exact ⟨by rw [hU];rfl,H.below⟩
end Go.Proofs.YtaekpfhgdnfciaaDoor.O
end

section
/- the reference's Flat. -/
namespace Go.Proofs.YtaekpfhgdnfciaaDoor.O
open Go.RowKit Go.Proofs.YtaekpfhgdnfciaaDoorW.PrintWords Go.Proofs.YtaekpfhgdnfciaaDoorW.PrintLast Go.Proofs.YtaekpfhgdnfciaaDoorW.PrintMore Go.Proofs.YtaekpfhgdnfciaaDoor.F Go.Proofs.YtaekpfhgdnfciaaDoor.F.Nums Go.Proofs.YtaekpfhgdnfciaaDoor.Plain
set_option linter.unusedVariables false
set_option linter.unusedSimpArgs false
set_option maxRecDepth 100000 in
set_option maxHeartbeats 4000000 in
theorem rflat_calls (e : Int) (h0 : 0 ≤ e) (h1 : e ≤ 18446744073709551615) (fl : List Int) (n : Nat) (hf : fl.length = 64 * n) (hb : Bytes fl) (A : Option Addr) (c : Nat) (w : World) (hr : Rd w A (nums .u8 fl)) (hc : n ≤ c) (hn : n ≤ 9223372036854775807) :
  Calls Tryd.prog 28 #[.int .u64 e,.slice A n c] w fun en w' => ∃ v1 v2,en = .returned (.tuple #[v1,v2]) ∧ Own w F0 [.row v1 5 1 832 (nums .u8 (bodyF e fl n 16)),.row v2 4 1 16 (bools (oksF e fl n 16))] w' := by
 have H0 := (show Own w F0 [.row (.slice none 0 0) 4 1 0 []] w from (Own.start w).cons (Below.refl _ _) (own_nil _ _ _ _) (fun k hk => by cases hk))
 have H := (show Own w F0 [.row (.slice none 0 0) 5 1 0 [],.row (.slice none 0 0) 4 1 0 []] w from H0.cons (Below.refl _ _) (own_nil _ _ _ _) (fun k hk => by cases hk))
 clear H0
 go_enter Tryd.func28,Tryd.ntmps28
 go_wp2
 go_loopg [6,7,8] 16 (fun gq v6 v7 v8 w' => ∃ k : Nat,v8 = .int .i64 (k : Int) ∧ k + gq = 16 ∧ Own w F0 [.row v6 5 1 (52 * k) (nums .u8 (bodyF e fl n k)),.row v7 4 1 k (bools (oksF e fl n k))] w')
 case atStart => exact ⟨0,rfl,rfl,H⟩
 case round =>
  clear H
  obtain ⟨k,rfl,hk,H⟩ := hrel
  by_cases ck : k < 16
  ·obtain ⟨gk',rfl⟩ : ∃ q,gk = q + 1 := ⟨gk - 1,by omega⟩
   have q1 : decide ((k : Int) < 16) = true := decide_eq_true (by omega)
   have hS : bodyF e fl n (k + 1) = bodyF e fl n k ++ roomAt e fl n k := rfl
   have hO : oksF e fl n (k + 1) = oksF e fl n k ++ [okAt e fl n k] := rfl
   have hlB : (bodyF e fl n k).length = 52 * k := bodyF_len hf k
   have hlO : (oksF e fl n k).length = k := oksF_len k
   have hp2 : 52 * (k + 1) = 52 * k + 52 := by omega
   have hbd : (k + 1) * 1 ≤ 140737488355328 := by omega
   unfold roomAt at hS
   obtain ⟨B',hB'⟩ : ∃ x,bodyF e fl n (k + 1) = x := ⟨_,rfl⟩
   obtain ⟨O',hO'⟩ : ∃ x,oksF e fl n (k + 1) = x := ⟨_,rfl⟩
   rw [hB'] at hS
   rw [hO'] at hO
   have HB' := Lib.hid hB'
   have HO' := Lib.hid hO'
   clear hB' hO'
   generalize bodyF e fl n k = B at *
   generalize oksF e fl n k = O at *
   obtain ⟨p,hp⟩ : ∃ p,52 * k = p := ⟨_,rfl⟩
   rw [hp] at H hlB hp2
   have hpb : (p + 52) * 1 ≤ 140737488355328 := by omega
   by_cases cn : k < n
   ·have q2 : decide (k < n) = true := decide_eq_true cn
    have q3 : ((0 : Int) ≤ (k : Int)) = True := eq_true (by omega)
    have q4 : ((k : Int) < (n : Int)) = True := eq_true (by omega)
    obtain ⟨ad,rfl⟩ := hr.some_ (by rw [nums_length];omega)
    have hsl := secAt_len hf cn
    have hbs : Bytes (secAt fl k) := bytes_take (bytes_drop hb _) _
    have hnu : ((nums .u8 fl).drop (k * 64)).take 64 = nums .u8 (secAt fl k) := by rw [nums_drop,nums_take,Nat.mul_comm];rfl
    have O1 := fun W => ropen_c (secAt fl k) hsl hbs e (k : Int) h0 h1 W
    have hok : okAt e fl n k = openF (secAt fl k) e (k : Int) := by unfold okAt;rw [decide_eq_true cn,Bool.true_and]
    rw [hok] at hS hO
    have hdl : ((secAt fl k).drop 12).length = 52 := by rw [List.length_drop,hsl]
    unfold openL at O1
    cases hq : openF (secAt fl k) e (k : Int) with
    |true =>
     simp only [hq,if_true] at O1 hS hO
     generalize (secAt fl k).drop 12 = rm at *
     generalize secAt fl k = sec at *
     have HD := Lib.hid hdl
     have HS := Lib.hid hS
     have HO := Lib.hid hO
     have HP := Lib.hid hp
     have HP2 := Lib.hid hp2
     clear hS hO hp hp2 hdl hq hok hlB hlO hbs
     go_wp2_with (first
  |((with_reducible refine gate_dst (N := 17) rfl ?_);refine l_make1 rfl H 38 5 _ _ rfl _ rfl rfl Tryd.underlying38 _ rfl _ inf5 (by decide) (by decide) ?_;clear H;intro g17 W H)
  |((with_reducible refine gate_dst (N := 40) rfl ?_);refine l_append1 rfl H _ _ 63 4 rfl Tryd.underlying63 _ _ _ inf4 rfl (by decide) (by decide) _ _ _ rfl (by (repeat (first|exact In.head|apply In.tail))) _ _ rfl (by (repeat (first|exact In.head|apply In.tail))) (by (first|rfl|assumption|omega|(simp only [nums_length];omega)|(simp [nums_length,zs];done)|(simp [nums_length,zs];omega))) (by (first|exact nums_one|assumption|(intro u hu;simp at hu;subst hu;rfl)|(intro u hu;simp at hu;rcases hu with rfl|rfl|rfl|rfl|rfl|rfl|rfl <;> rfl)|(intro u hu;simp at hu;rcases hu with rfl|rfl|rfl|rfl <;> rfl)|(intro u hu;simp at hu;rcases hu with rfl|rfl|rfl <;> rfl)|(intro u hu;simp at hu;rcases hu with rfl|rfl <;> rfl))) (by omega) ?_;clear H;intro v40 W H)
  |((with_reducible refine gate_dst (N := 26) rfl ?_);refine l_loadRdS rfl 51 _ rfl (k * 64) rfl (hr.below H.below) 64 _ Tryd.underlying51 rfl size51 (by decide) _ hnu (by rw [nums_length];exact hsl) ?_)
  |(go_at_call 53;(with_reducible refine (O1 _).mono ?_);rintro e W ⟨v,rfl,hR,hb'⟩;replace H := H.addR hb' hR;clear hb' hR;rw [HD.out] at H;obtain ⟨Av,cv,rfl⟩ := H.row_slice .head)
  |((with_reducible refine gate_dst (N := 36) rfl ?_);refine l_append rfl H _ _ 38 5 rfl Tryd.underlying38 _ _ _ inf5 rfl (by decide) (by decide) _ _ _ rfl (.tail (.tail .head)) Av 52 cv (nums .u8 rm) rfl (by rw [nums_length,HD.out]) (fun h => (H.rd .head).1 (by rw [nums_length,HD.out];exact h)) nums_one hpb ?_;clear H;intro v36 W H)
  |((with_reducible refine gate_dst (N := 39) rfl ?_);refine l_build11 rfl H 63 4 _ rfl Tryd.underlying63 (.bool true) rfl _ zs4 rfl rfl ?_;clear H;intro g39 W H))
     rw [nums_app,← HS.out,← HP2.out,show ([Value.bool true] : List Value) = bools [true] from rfl,bools_app,← HO.out,← HB'.out,← HO'.out] at H
     go_roundg gk'
     case measure => omega
     case rel => exact ⟨k + 1,by go_num,by omega,((H.del .head).del .head).del .head⟩
    |false =>
     simp only [hq,Bool.false_eq_true,if_false] at O1 hS hO
     clear hdl hok
     generalize secAt fl k = sec at *
     have HS := Lib.hid hS
     have HO := Lib.hid hO
     have HP := Lib.hid hp
     have HP2 := Lib.hid hp2
     clear hS hO hp hp2 hq hlB hlO hbs
     go_wp2_with (first
  |((with_reducible refine gate_dst (N := 17) rfl ?_);refine l_make1 rfl H 38 5 _ _ rfl _ rfl rfl Tryd.underlying38 _ rfl _ inf5 (by decide) (by decide) ?_;clear H;intro g17 W H)
  |((with_reducible refine gate_dst (N := 40) rfl ?_);refine l_append1 rfl H _ _ 63 4 rfl Tryd.underlying63 _ _ _ inf4 rfl (by decide) (by decide) _ _ _ rfl (by (repeat (first|exact In.head|apply In.tail))) _ _ rfl (by (repeat (first|exact In.head|apply In.tail))) (by (first|rfl|assumption|omega|(simp only [nums_length];omega)|(simp [nums_length,zs];done)|(simp [nums_length,zs];omega))) (by (first|exact nums_one|assumption|(intro u hu;simp at hu;subst hu;rfl)|(intro u hu;simp at hu;rcases hu with rfl|rfl|rfl|rfl|rfl|rfl|rfl <;> rfl)|(intro u hu;simp at hu;rcases hu with rfl|rfl|rfl|rfl <;> rfl)|(intro u hu;simp at hu;rcases hu with rfl|rfl|rfl <;> rfl)|(intro u hu;simp at hu;rcases hu with rfl|rfl <;> rfl))) (by omega) ?_;clear H;intro v40 W H)
  |((with_reducible refine gate_dst (N := 26) rfl ?_);refine l_loadRdS rfl 51 _ rfl (k * 64) rfl (hr.below H.below) 64 _ Tryd.underlying51 rfl size51 (by decide) _ hnu (by rw [nums_length];exact hsl) ?_)
  |(go_at_call 53;(with_reducible refine (O1 _).mono ?_);rintro e W ⟨v,rfl,hR,hb'⟩;replace H := H.addR hb' hR;clear hb' hR;obtain ⟨Av,cv,rfl⟩ := H.row_slice .head)
  |((with_reducible refine gate_dst (N := 36) rfl ?_);refine l_append rfl H _ _ 38 5 rfl Tryd.underlying38 _ _ _ inf5 rfl (by decide) (by decide) _ _ _ rfl (.tail (.tail .head)) (some ⟨g17,0,none⟩) 52 52 (nums .u8 (zs 52)) rfl rfl (fun _ => H.rdB (.tail .head) 0 (by decide)) nums_one hpb ?_;clear H;intro v36 W H)
  |((with_reducible refine gate_dst (N := 39) rfl ?_);refine l_build11 rfl H 63 4 _ rfl Tryd.underlying63 (.bool false) rfl _ zs4 rfl rfl ?_;clear H;intro g39 W H))
     rw [nums_app,← HS.out,← HP2.out,show ([Value.bool false] : List Value) = bools [false] from rfl,bools_app,← HO.out,← HB'.out,← HO'.out] at H
     go_roundg gk'
     case measure => omega
     case rel => exact ⟨k + 1,by go_num,by omega,((H.del .head).del .head).del .head⟩
   ·have q2 : decide (k < n) = false := decide_eq_false cn
    rw [okAt_out (by omega)] at hS hO
    simp only [Bool.false_eq_true,if_false] at hS hO
    have HS := Lib.hid hS
    have HO := Lib.hid hO
    have HP := Lib.hid hp
    have HP2 := Lib.hid hp2
    clear hS hO hp hp2 hlB hlO
    go_wp2_with (first
  |((with_reducible refine gate_dst (N := 17) rfl ?_);refine l_make1 rfl H 38 5 _ _ rfl _ rfl rfl Tryd.underlying38 _ rfl _ inf5 (by decide) (by decide) ?_;clear H;intro g17 W H)
  |((with_reducible refine gate_dst (N := 40) rfl ?_);refine l_append1 rfl H _ _ 63 4 rfl Tryd.underlying63 _ _ _ inf4 rfl (by decide) (by decide) _ _ _ rfl (by (repeat (first|exact In.head|apply In.tail))) _ _ rfl (by (repeat (first|exact In.head|apply In.tail))) (by (first|rfl|assumption|omega|(simp only [nums_length];omega)|(simp [nums_length,zs];done)|(simp [nums_length,zs];omega))) (by (first|exact nums_one|assumption|(intro u hu;simp at hu;subst hu;rfl)|(intro u hu;simp at hu;rcases hu with rfl|rfl|rfl|rfl|rfl|rfl|rfl <;> rfl)|(intro u hu;simp at hu;rcases hu with rfl|rfl|rfl|rfl <;> rfl)|(intro u hu;simp at hu;rcases hu with rfl|rfl|rfl <;> rfl)|(intro u hu;simp at hu;rcases hu with rfl|rfl <;> rfl))) (by omega) ?_;clear H;intro v40 W H)
  |((with_reducible refine gate_dst (N := 36) rfl ?_);refine l_append rfl H _ _ 38 5 rfl Tryd.underlying38 _ _ _ inf5 rfl (by decide) (by decide) _ _ _ rfl (.tail .head) (some ⟨g17,0,none⟩) 52 52 (nums .u8 (zs 52)) rfl rfl (fun _ => H.rdB .head 0 (by decide)) nums_one hpb ?_;clear H;intro v36 W H)
  |((with_reducible refine gate_dst (N := 39) rfl ?_);refine l_build11 rfl H 63 4 _ rfl Tryd.underlying63 (.bool false) rfl _ zs4 rfl rfl ?_;clear H;intro g39 W H))
    rw [nums_app,← HS.out,← HP2.out,show ([Value.bool false] : List Value) = bools [false] from rfl,bools_app,← HO.out,← HB'.out,← HO'.out] at H
    go_roundg gk'
    case measure => omega
    case rel => exact ⟨k + 1,by go_num,by omega,(H.del .head).del .head⟩
  ·have q1 : decide ((k : Int) < 16) = false := decide_eq_false (by omega)
   obtain rfl : k = 16 := by omega
   go_wp2
   go_ret2
   exact ⟨_,_,rfl,H⟩
end Go.Proofs.YtaekpfhgdnfciaaDoor.O
end
