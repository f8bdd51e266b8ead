/- Texts of mine put together: ScanTells, OpenR, RowScanTells. -/
import Derived.Test.YtaekpfhgdnfciaaDoorPkScanTells17
import Derived.Test.YtaekpfhgdnfciaaDoorPkScanTells19
import Derived.Test.YtaekpfhgdnfciaaDoorPkScanTells3
import Derived.Test.YtaekpfhgdnfciaaDoorPkScanTells4
import Derived.Test.YtaekpfhgdnfciaaDoorPkScanTells6
import Derived.Test.YtaekpfhgdnfciaaDoorCards
import Derived.Test.YtaekpfhgdnfciaaDoorTie
import Derived.SevenTiedAt
import Derived.WalkKit
import Derived.ProofKit
import Derived.OpenShut
import Derived.ShutString
import Derived.ChangeOld
import Derived.Below
import Derived.SizedLaws
import Derived.Lib.SmallJoins
section
/- strandlinelaw19.ScanTells: the statement's function. -/
set_option linter.unusedVariables false
set_option linter.unusedSimpArgs false
namespace Go.Proofs.YtaekpfhgdnfciaaDoor.O
open Go.RowKit Go.Proofs.YtaekpfhgdnfciaaDoorW.PrintWords Go.Proofs.YtaekpfhgdnfciaaDoorW.PrintLast Go.Proofs.YtaekpfhgdnfciaaDoorW.PrintMore Go.Proofs.YtaekpfhgdnfciaaDoor.F Go.Proofs.YtaekpfhgdnfciaaDoor.F.Nums Go.Proofs.YtaekpfhgdnfciaaDoor.Plain
set_option maxRecDepth 100000 in
set_option maxHeartbeats 8000000 in
theorem scanTells_law (e z : Int) (fl : List Int) (n : Nat) (A : Option Addr) (c : Nat) (w : World) (he : 0 ≤ e ∧ e ≤ 18446744073709551615) (hf : fl.length = 64 * n) (hb : Bytes fl) (hr : Rd w A (nums .u8 fl)) (hc : n ≤ c) (hH : Half w) :
  Calls Tryd.prog 3 #[.int .u64 e,.slice A n c,.int .i64 z] w fun en W => en = .returned (.bool true) ∧ Below w.heap.size w W := by
 have H := Own.start w
 have AW := awake19_calls
 by_cases hn : n ≤ 100
 ·have q0 : decide ((n : Int) > 100) = false := decide_eq_false (by omega)
  have q1 : decide ((100 : Int) < (n : Int)) = false := decide_eq_false (by omega)
  have RC := fun W h => rest_calls fl n hf hb z A c W h hc (by omega)
  have RR := fun W h => rrest_calls fl n hf hb z A c W h hc hn
  obtain ⟨S,hS⟩ : ∃ S,scanM (e % 4294967296) (bodyF e fl n 16) (oksF e fl n 16) = S := ⟨_,rfl⟩
  obtain ⟨kd,hkd⟩ : ∃ kd : Int,(if Img.restB fl n (cl (S.en : Int)) = true then (1 : Int) else 2) = kd := ⟨_,rfl⟩
  have KC : ∀ W,Rd W A (nums .u8 fl) → Half W → Calls Tryd.prog 10 #[.int .u64 e,.slice A n c] W fun en W' => ∃ Ar cr Ap cp cells D,en = .returned (.agg #[.slice Ar S.recs.length cr,.slice Ap S.recs.length cp,.int .i64 (S.en : Int),.int .i64 kd]) ∧ Drs S.recs cells D ∧ S.places.length = S.recs.length ∧ S.recs.length ≤ 100 ∧
    Own W F0 (.row (.slice Ar S.recs.length cr) 38 1 S.recs.length cells :: .row (.slice Ap S.recs.length cp) 3 1 S.recs.length (nums .i64 S.places) :: D) W' := fun W h h2 => (scan_callsG e he fl n hn hf hb A c W h hc h2).mono (by
   rintro en W' ⟨S',Ar,cr,Ap,cp,cells,D,rfl,h1,h3,h4,h5,h6⟩
   rw [hS,hkd] at h1
   rw [hS] at h3 h4 h5 h6
   exact ⟨Ar,cr,Ap,cp,cells,D,h1,h3,h4,h5,h6⟩)
  have KR : ∀ W,Rd W A (nums .u8 fl) → Calls Tryd.prog 11 #[.int .u64 e,.slice A n c] W fun en W' => ∃ Ar cr Ap cp cells D,en = .returned (.agg #[.slice Ar S.recs.length cr,.slice Ap S.recs.length cp,.int .i64 (S.en : Int),.int .i64 kd]) ∧ Drs S.recs cells D ∧ S.places.length = S.recs.length ∧ S.recs.length ≤ 100 ∧
    Own W F0 (.row (.slice Ar S.recs.length cr) 38 1 S.recs.length cells :: .row (.slice Ap S.recs.length cp) 3 1 S.recs.length (nums .i64 S.places) :: D) W' := fun W h => (rscan_calls e he fl n hn hf hb A c W h hc).mono (by
   rintro en W' ⟨S',Ar,cr,Ap,cp,cells,D,rfl,h1,h3,h4,h5,h6⟩
   rw [hS,hkd] at h1
   rw [hS] at h3 h4 h5 h6
   exact ⟨Ar,cr,Ap,cp,cells,D,h1,h3,h4,h5,h6⟩)
  clear hS hkd
  obtain ⟨s1,s2,s3,s4,rs,pl,se⟩ := S
  simp only at KC KR
  have SM := fun A1 A2 c1 c2 W (hl : rs.length < 5000000) (hC1 : (Kd.slice 5 (Kd.int .u8)).C W A1 rs.length rs) (hc1 : rs.length ≤ c1) hC2 (hc2 : rs.length ≤ c2) => same04_calls rs A1 A2 c1 c2 W hl hC1 hc1 hC2 hc2
  generalize hm : rs.length = m at *
  generalize Img.restB fl n (cl z) = bb at *
  go_enter Tryd.func3,Tryd.ntmps3
  go_wp2_with (first
  |((with_reducible refine gate_dst (N := 7) rfl ?_);refine l_allocA rfl H 28 rfl _ zero28 ?_;clear H;intro g7 W H)
  |((with_reducible refine gate_store (t := 28) (p := 7) rfl ?_);refine l_storeW rfl H 28 _ _ rfl _ rfl _ rfl (by (repeat (first|exact In.head|apply In.tail))) _ size28 (by (first|rfl|assumption|omega|(simp only [nums_length];omega)|(simp [nums_length,zs];done)|(simp [nums_length,zs];omega))) (by (first|rfl|assumption|omega|(simp only [nums_length];omega)|(simp [nums_length,zs];done)|(simp [nums_length,zs];omega))) (by (first|exact nums_one|assumption|(intro u hu;simp at hu;subst hu;rfl)|(intro u hu;simp at hu;rcases hu with rfl|rfl|rfl|rfl|rfl|rfl|rfl <;> rfl)|(intro u hu;simp at hu;rcases hu with rfl|rfl|rfl|rfl <;> rfl)|(intro u hu;simp at hu;rcases hu with rfl|rfl|rfl <;> rfl)|(intro u hu;simp at hu;rcases hu with rfl|rfl <;> rfl))) ?_;clear H;intro W H)
  |((with_reducible refine gate_dst (N := 8) rfl ?_);refine l_allocA rfl H 30 rfl _ zero30 ?_;clear H;intro g8 W H)
  |((with_reducible refine gate_store (t := 30) (p := 8) rfl ?_);refine l_storeW rfl H 30 _ _ rfl _ rfl _ rfl (by (repeat (first|exact In.head|apply In.tail))) _ size30 (by (first|rfl|assumption|omega|(simp only [nums_length];omega)|(simp [nums_length,zs];done)|(simp [nums_length,zs];omega))) (by (first|rfl|assumption|omega|(simp only [nums_length];omega)|(simp [nums_length,zs];done)|(simp [nums_length,zs];omega))) (by (first|exact nums_one|assumption|(intro u hu;simp at hu;subst hu;rfl)|(intro u hu;simp at hu;rcases hu with rfl|rfl|rfl|rfl|rfl|rfl|rfl <;> rfl)|(intro u hu;simp at hu;rcases hu with rfl|rfl|rfl|rfl <;> rfl)|(intro u hu;simp at hu;rcases hu with rfl|rfl|rfl <;> rfl)|(intro u hu;simp at hu;rcases hu with rfl|rfl <;> rfl))) ?_;clear H;intro W H)
  |((with_reducible refine gate_dst (N := 21) rfl ?_);refine l_load1 rfl H 25 _ rfl _ _ rfl (by (repeat (first|exact In.head|apply In.tail))) _ Tryd.underlying25 rfl _ (by first|rfl|assumption|exact nums_at _ (by omega)) ?_)
  |((with_reducible refine gate_dst (N := 23) rfl ?_);refine l_load1 rfl H 25 _ rfl _ _ rfl (by (repeat (first|exact In.head|apply In.tail))) _ Tryd.underlying25 rfl _ (by first|rfl|assumption|exact nums_at _ (by omega)) ?_)
  |((with_reducible refine gate_dst (N := 28) rfl ?_);refine gate_guard (by rfl) ?_;refine l_load1 rfl H 26 _ rfl _ _ rfl (by (repeat (first|exact In.head|apply In.tail))) _ Tryd.underlying26 rfl _ (by first|rfl|assumption|exact nums_at _ (by omega)) ?_)
  |((with_reducible refine gate_dst (N := 31) rfl ?_);refine gate_guard (by rfl) ?_;refine l_load1 rfl H 26 _ rfl _ _ rfl (by (repeat (first|exact In.head|apply In.tail))) _ Tryd.underlying26 rfl _ (by first|rfl|assumption|exact nums_at _ (by omega)) ?_)
  |((with_reducible refine gate_dst (N := 37) rfl ?_);refine gate_guard (by rfl) ?_;refine l_load1 rfl H 3 _ rfl _ _ rfl (by (repeat (first|exact In.head|apply In.tail))) _ Tryd.underlying3 rfl _ (by first|rfl|assumption|exact nums_at _ (by omega)) ?_)
  |((with_reducible refine gate_dst (N := 39) rfl ?_);refine gate_guard (by rfl) ?_;refine l_load1 rfl H 3 _ rfl _ _ rfl (by (repeat (first|exact In.head|apply In.tail))) _ Tryd.underlying3 rfl _ (by first|rfl|assumption|exact nums_at _ (by omega)) ?_)
  |((with_reducible refine gate_dst (N := 44) rfl ?_);refine gate_guard (by rfl) ?_;refine l_load1 rfl H 3 _ rfl _ _ rfl (by (repeat (first|exact In.head|apply In.tail))) _ Tryd.underlying3 rfl _ (by first|rfl|assumption|exact nums_at _ (by omega)) ?_)
  |((with_reducible refine gate_dst (N := 46) rfl ?_);refine gate_guard (by rfl) ?_;refine l_load1 rfl H 3 _ rfl _ _ rfl (by (repeat (first|exact In.head|apply In.tail))) _ Tryd.underlying3 rfl _ (by first|rfl|assumption|exact nums_at _ (by omega)) ?_)
   |(go_at_call 10;(with_reducible refine (KC _ (hr.below H.below) (hH.below H.below)).mono ?_);rintro en W ⟨Ar,cr,Ap,cp,cells,D,rfl,hD,hpl,hm100,HO⟩;replace H := (H.addOwn HO).perm (List.Perm.cons _ (List.Perm.cons _ List.perm_append_comm));clear HO;dsimp only [List.cons_append,List.nil_append] at H)
   |(go_at_call 11;(with_reducible refine (KR _ (hr.below H.below)).mono ?_);rintro en W ⟨Ar2,cr2,Ap2,cp2,cells2,D2,rfl,hD2,-,-,HO⟩;replace H := (H.addOwn HO).perm (List.Perm.cons _ (List.Perm.cons _ List.perm_append_comm));clear HO;dsimp only [List.cons_append,List.nil_append] at H)
   |(go_at_call 12;(with_reducible refine (SM _ _ _ _ _ (by omega) (by subst hm;exact hD.C H (by repeat (first|exact In.head|apply In.tail)) (fun r hr => by simp [hr]) (by omega)) (H.rd (n := m) (cc := cr) (by repeat (first|exact In.head|apply In.tail))).2.1 (by subst hm;exact hD2.C H (by repeat (first|exact In.head|apply In.tail)) (fun r hr => by simp [hr]) (by omega)) (H.rd (n := m) (cc := cr2) (by repeat (first|exact In.head|apply In.tail))).2.1).mono ?_);rintro e W ⟨rfl,hb'⟩;replace H := H.to hb';clear hb'))
  go_loopg [9] m (fun gq v9 w' => ∃ k : Nat,v9 = .int .i64 (k : Int) ∧ k + gq = m ∧ Own w F0 (.blk g8 30 [.slice Ar2 m cr2,.slice Ap2 m cp2,.int .i64 (se : Int),.int .i64 kd] :: .row (.slice Ar2 m cr2) 38 1 m cells2 :: .row (.slice Ap2 m cp2) 3 1 m (nums .i64 pl) :: .blk g7 28 [.slice Ar m cr,.slice Ap m cp,.int .i64 (se : Int),.int .i64 kd] :: .row (.slice Ar m cr) 38 1 m cells :: .row (.slice Ap m cp) 3 1 m (nums .i64 pl) :: (D ++ D2)) w')
  case atStart => exact ⟨0,rfl,by omega,H⟩
  case round =>
   clear H
   obtain ⟨k,rfl,hk,H⟩ := hrel
   by_cases ck : k < m
   ·obtain ⟨gk',rfl⟩ : ∃ q,gk = q + 1 := ⟨gk - 1,by omega⟩
    have q2 : decide (k < m) = true := decide_eq_true ck
    have p0 : ((0 : Int) ≤ (k : Int)) = True := eq_true (by omega)
    have p1 : ((k : Int) < (m : Int)) = True := eq_true (by omega)
    have hz : (nums .i64 pl)[k]? = some (.int .i64 (pl.getD k 0)) := nums_at k (by omega)
    generalize pl.getD k 0 = z9 at hz
    obtain ⟨a1,rfl⟩ := (H.rd (A := Ap2) (.tail (.tail .head))).1.some_ (by rw [nums_length];omega)
    obtain ⟨a2,rfl⟩ := (H.rd (A := Ap) (.tail (.tail (.tail (.tail (.tail .head)))))).1.some_ (by rw [nums_length];omega)
    go_wp2_with (first
  |((with_reducible refine gate_dst (N := 51) rfl ?_);refine l_load1 rfl H 26 _ rfl _ _ rfl (by (repeat (first|exact In.head|apply In.tail))) _ Tryd.underlying26 rfl _ (by first|rfl|assumption|exact nums_at _ (by omega)) ?_))
    refine start_ (n := 11) (S := Own _ _ _) (ds := []) #[f_,f_,f_,f_,f_,f_,f_,f_,f_,f_,f_] (by kernel_rfl) rfl rfl H.drew (fun hHeld => ?_)
    replace H := H.drew
    generalize World.drew _ = W at H hHeld ⊢
    refine pure_ (i := 0) (N := some 56) (v := ?_) (a' := ?_) #[t_,f_,f_,f_,f_,f_,f_,f_,f_,f_,f_] rfl rfl (by kernel_rfl) (fun _ _ _ h => h) (Or.inl ⟨by rfl,?_⟩) ?_ ?_
    rotate_left
    ·intro w'
     go_simp
     with_reducible rfl
    rotate_left
    ·simp only [ps_]
     rfl
    refine pure_ (i := 2) (N := some 58) (v := ?_) (a' := ?_) #[t_,f_,t_,f_,f_,f_,f_,f_,f_,f_,f_] rfl rfl (by kernel_rfl) (fun _ _ _ h => h) (Or.inl ⟨by rfl,?_⟩) ?_ ?_
    rotate_left
    ·intro w'
     go_simp
     with_reducible rfl
    rotate_left
    ·simp only [ps_]
     rfl
    refine pure_ (i := 5) (N := some 61) (v := ?_) (a' := ?_) #[t_,f_,t_,f_,f_,t_,f_,f_,f_,f_,f_] rfl rfl (by kernel_rfl) (fun _ _ _ h => h) (Or.inl ⟨by rfl,?_⟩) ?_ ?_
    rotate_left
    ·intro w'
     go_simp
     with_reducible rfl
    rotate_left
    ·simp only [ps_]
     rfl
    refine pure_ (i := 7) (N := some 63) (v := ?_) (a' := ?_) #[t_,f_,t_,f_,f_,t_,f_,t_,f_,f_,f_] rfl rfl (by kernel_rfl) (fun _ _ _ h => h) (Or.inl ⟨by rfl,?_⟩) ?_ ?_
    rotate_left
    ·intro w'
     go_simp
     with_reducible rfl
    rotate_left
    ·simp only [ps_]
     rfl
    refine take_run (i := 1) (N := some 57) (a' := ?_) #[t_,t_,t_,f_,f_,t_,f_,t_,f_,f_,f_] rfl rfl (by kernel_rfl) (fun _ _ _ _ h => h) (by rfl) hHeld (.slice (some a2) m cp) (fun X HX => r_loadH 26 _ rfl rfl (HX.heap (.tail (.tail (.tail .head)))) rfl Tryd.underlying26 rfl) ?_ ?_
    rotate_left
    ·simp only [ps_]
     rfl
    refine pure_ (i := 3) (N := some 59) (v := ?_) (a' := ?_) #[t_,t_,t_,t_,f_,t_,f_,t_,f_,f_,f_] rfl rfl (by kernel_rfl) (fun _ _ _ h => h) (Or.inl ⟨by rfl,?_⟩) ?_ ?_
    rotate_left
    ·intro w'
     go_simp
     with_reducible rfl
    rotate_left
    ·simp only [ps_]
     rfl
    refine take_run (i := 4) (N := some 60) (a' := ?_) #[t_,t_,t_,t_,t_,t_,f_,t_,f_,f_,f_] rfl rfl (by kernel_rfl) (fun _ _ _ _ h => h) (by rfl) hHeld (.int .i64 z9) (fun X HX => r_loadRd1 3 _ rfl k rfl (HX.rd (.tail (.tail (.tail (.tail (.tail .head)))))).1 _ Tryd.underlying3 rfl _ hz) ?_ ?_
    rotate_left
    ·simp only [ps_]
     rfl
    refine take_run (i := 6) (N := some 62) (a' := ?_) #[t_,t_,t_,t_,t_,t_,t_,t_,f_,f_,f_] rfl rfl (by kernel_rfl) (fun _ _ _ _ h => h) (by rfl) hHeld (.slice (some a1) m cp2) (fun X HX => r_loadH 26 _ rfl rfl (HX.heap .head) rfl Tryd.underlying26 rfl) ?_ ?_
    rotate_left
    ·simp only [ps_]
     rfl
    refine pure_ (i := 8) (N := some 64) (v := ?_) (a' := ?_) #[t_,t_,t_,t_,t_,t_,t_,t_,t_,f_,f_] rfl rfl (by kernel_rfl) (fun _ _ _ h => h) (Or.inl ⟨by rfl,?_⟩) ?_ ?_
    rotate_left
    ·intro w'
     go_simp
     with_reducible rfl
    rotate_left
    ·simp only [ps_]
     rfl
    refine take_run (i := 9) (N := some 65) (a' := ?_) #[t_,t_,t_,t_,t_,t_,t_,t_,t_,t_,f_] rfl rfl (by kernel_rfl) (fun _ _ _ _ h => h) (by rfl) hHeld (.int .i64 z9) (fun X HX => r_loadRd1 3 _ rfl k rfl (HX.rd (.tail (.tail .head))).1 _ Tryd.underlying3 rfl _ hz) ?_ ?_
    rotate_left
    ·simp only [ps_]
     rfl
    refine pure_ (i := 10) (N := some 66) (v := ?_) (a' := ?_) #[t_,t_,t_,t_,t_,t_,t_,t_,t_,t_,t_] rfl rfl (by kernel_rfl) (fun _ _ _ h => h) (Or.inl ⟨by rfl,?_⟩) ?_ ?_
    rotate_left
    ·intro w'
     go_simp
     with_reducible rfl
    rotate_left
    ·simp only [ps_]
     rfl
    refine done_ (by kernel_rfl) ?_
    clear hHeld
    go_wp2_with fail
    go_roundg gk'
    case measure => omega
    case rel => exact ⟨k + 1,by go_num,by omega,H⟩
   ·have q2 : decide (k < m) = false := decide_eq_false ck
    obtain rfl : k = m := by omega
    go_wp2_with (first
  |((with_reducible refine gate_dst (N := 51) rfl ?_);refine l_load1 rfl H 26 _ rfl _ _ rfl (by (repeat (first|exact In.head|apply In.tail))) _ Tryd.underlying26 rfl _ (by first|rfl|assumption|exact nums_at _ (by omega)) ?_)
    |(go_at_call 13;(with_reducible refine (RC _ (hr.below H.below)).mono ?_);rintro e W ⟨rfl,hb'⟩;replace H := H.to hb';clear hb')
    |(go_at_call 14;(with_reducible refine (RR _ (hr.below H.below)).mono ?_);rintro e W ⟨rfl,hb'⟩;replace H := H.to hb';clear hb')
    |(go_at_call 9;(with_reducible refine (AW _ (hH.below H.below)).mono ?_);rintro e W ⟨rfl,hb'⟩;replace H := H.to hb';clear hb'))
    go_ret
    exact ⟨rfl,H.below⟩
 ·have q0 : decide ((n : Int) > 100) = true := decide_eq_true (by omega)
  have q1 : decide ((100 : Int) < (n : Int)) = true := decide_eq_true (by omega)
  go_enter Tryd.func3,Tryd.ntmps3
  go_wp2_with (first
   |(go_at_call 9;(with_reducible refine (AW _ (hH.below H.below)).mono ?_);rintro e W ⟨rfl,hb'⟩;replace H := H.to hb';clear hb'))
  go_ret
  exact ⟨rfl,H.below⟩
end Go.Proofs.YtaekpfhgdnfciaaDoor.O
end

section
/- An argument that is a slice of arrays of numbers: its cells as one list. -/
namespace Go.Proofs.YtaekpfhgdnfciaaDoor.O
open Go.RowKit Go.Proofs.YtaekpfhgdnfciaaDoorW.PrintWords Go.Proofs.YtaekpfhgdnfciaaDoorW.PrintLast Go.Proofs.YtaekpfhgdnfciaaDoorW.PrintMore Go.Proofs.YtaekpfhgdnfciaaDoor.F Go.Proofs.YtaekpfhgdnfciaaDoor.F.Nums Go.Proofs.YtaekpfhgdnfciaaDoor.Plain Go.ChangeShapes Go.WideShapes Go.Joins Go.Deep
set_option linter.unusedVariables false
section
variable {H : Type} {enc : TypeId × Value → H} {P : Program} {W : World} {held : Bool}
def flatOf (f : Nat → List Int) : Nat → List Int
 |0 => []
 |i + 1 => flatOf f i ++ f i
theorem open_R {t e q : TypeId} {k : IntKind} {m : Nat} (ht : P.underlying t = some (.slice e)) (he : P.underlying e = some (.array m q)) (hq : P.underlying q = some (.int k)) (hc : P.cellsOf q = 1) (hce : P.cellsOf e = m)
  {fuel : Nat} {cs : List Value} {y : DataW H × List MemPlace} (h : DataW.trod enc P W 0 (fun _ => true) held fuel t cs = some y) (hw : Fit P t y.1) :
  ∃ (A : Option Addr) (n c : Nat) (fl : List Int),cs = [.slice A n c] ∧ n ≤ c ∧ n ≤ 9223372036854775807 ∧ Rd W A (nums k fl) ∧ fl.length = m * n ∧ (∀ x ∈ fl,(Lit.int k x).wf = true) ∧ n * P.bytesOf e ≤ reachBytes := by
 rcases Deep.open_slice ht h with ⟨rfl,rfl⟩|⟨a,len,cap,cc,n,D,Pl,rfl,hb,hl,hm,hmm,rfl,hx⟩
 ·exact ⟨none,0,0,[],rfl,Nat.le_refl _,by omega,fun h => absurd h (by simp [nums]),by simp,by simp,by simp⟩
 ·simp only [if_true] at hmm
  subst hmm
  have each : ∀ i,i < len → ∃ x : List Int,W.cells? 0 (a.add (i * m)) m = some (nums k x) ∧ x.length = m ∧ ∀ z ∈ x,(Lit.int k z).wf = true := by
   intro i hi
   obtain ⟨cs',h1,h2⟩ := hx i (by omega)
   obtain ⟨x,e1,e2,e3⟩ := open_array_cells he hq hc hce h2
   rw [hce,e1] at h1
   exact ⟨x,h1,e2,e3⟩
  obtain ⟨f,hf⟩ := pick (γ := Unit) each
  have hfl : ∀ i,i ≤ len → (flatOf f i).length = m * i ∧ (∀ j v,(nums k (flatOf f i))[j]? = some v → W.cell? (a.add j) = some v) ∧ ∀ z ∈ flatOf f i,(Lit.int k z).wf = true := by
   intro i
   induction i with
   |zero => exact fun _ => ⟨rfl,fun j v hj => by simp [flatOf,nums] at hj,fun z hz => by cases hz⟩
   |succ i ih =>
    intro hi
    obtain ⟨i1,i2,i3⟩ := ih (by omega)
    obtain ⟨f1,f2,f3⟩ := hf i (by omega)
    unfold flatOf
    refine ⟨by rw [List.length_append,i1,f2,Nat.mul_succ],fun j v hj => ?_,fun z hz => ?_⟩
    ·rw [← nums_app] at hj
     by_cases hlt : j < m * i
     ·rw [List.getElem?_append_left (by rw [nums_length,i1];exact hlt)] at hj
      exact i2 j v hj
     ·rw [List.getElem?_append_right (by rw [nums_length,i1];omega),nums_length,i1] at hj
      obtain ⟨-,l1,h2⟩ := World.cells?_some f1
      have hlt2 : j - m * i < m := by have := (List.getElem?_eq_some_iff.1 hj).1;rw [nums_length,f2] at this;exact this
      have := h2 (j - m * i) hlt2
      rw [Deep.add_add,show i * m + (j - m * i) = j by rw [Nat.mul_comm i m];omega] at this
      rw [this,hj]
    ·rcases List.mem_append.1 hz with hz|hz
     ·exact i3 z hz
     ·exact f3 z hz
  obtain ⟨g1,g2,g3⟩ := hfl len (Nat.le_refl _)
  refine ⟨some a,len,_,flatOf f len,rfl,hl,?_,fun _ => ⟨a,rfl,g2⟩,g1,g3,?_⟩
  ·have : maxLen = 9223372036854775807 := by decide
   omega
  ·have := fit_len ht hw
   rw [List.length_map,List.length_range] at this
   exact Nat.le_trans (Nat.mul_le_mul_right _ (by omega)) this
end
end Go.Proofs.YtaekpfhgdnfciaaDoor.O
end

section
/- 'strandlinelaw19.ScanTells': whatever the input: true; the input reads as it did; the listed table tied to the program's text. -/
namespace Go.Proofs.YtaekpfhgdnfciaaDoor.scanTells
open Go.ChangeShapes Go.WideShapes Go.ChangeAt Go.RowKit Go.Joins Go.Proofs.YtaekpfhgdnfciaaDoor.Door Go.Proofs.YtaekpfhgdnfciaaDoorW.PrintWords
open Go.ChangeMaps (open_string shut_string)
set_option linter.unusedVariables false
set_option maxRecDepth 100000 in
set_option maxHeartbeats 4000000 in
theorem lifted (os : Os) (started : os.Started) (H : Type) (enc : TypeId × Value → H) :
  ReturnsInHanded {} Tryd.checked os 3 .any (fun w args => (Rows.scanTellsSpec.pre enc Tryd.prog Tryd.f3 [] false w args ∧ laidMetH Tryd.prog laid1 w) ∧ sizedMet enc Tryd.prog Tryd.f3 (OpenSpec.ofChange Rows.scanTellsSpec) false w args)
   (Rows.scanTellsSpec.post enc Tryd.prog Tryd.f3 false true false false) := by
 refine returnsInHanded_of_change_and (C := Tryd.checked) (X := fun w _ => laidMetH Tryd.prog laid1 w) (fun _ _ _ hh h => h.of_heap hh) own started (by kernel_rfl) Tryd.func3
  (ChangeSpec.witness_shaped (enc := enc) (C := Tryd.checked) (os := os) (X := fun w _ => laidMetH Tryd.prog laid1 w) false (World.doorLaid Tryd.prog 400 os) #[.int .u64 0,.slice none 0 0,.int .i64 0] 8 rfl (World.shaped_of_RefB (by kernel_rfl) (by kernel_rfl)) (by kernel_rfl) (by kernel_rfl) (by kernel_rfl) (door_met os _)) ?_
 intro W base args ds gs before hval0 hW _ hsz0 hL _
 have hsz : (DataW.weightsEach Tryd.prog (Tryd.f3.params.toList ++ Rows.scanTellsSpec.plain.varTypes Tryd.prog) (ds ++ gs)).all (· ≤ reachBytes) = true := hsz0
 have hval : ∀ (j : Nat) t v,Tryd.f3.params[j]? = some t → args[j]? = some v → Value.okWide Tryd.prog W .any base t v := hval0
 have hW' := hW
 obtain ⟨p,q,hA0,hV,rfl,hfz,hnd⟩ := hW
 have hA : DataW.TrodAll enc Tryd.prog W 0 (fun _ => true) true Tryd.f3.params.toList args.toList ds p := hA0
 rw [Tryd.params3] at hA hval hsz
 obtain ⟨v0,vs0,d0,ds0,p0,q0,hargs,rfl,rfl,h0,r0⟩ := trodAll_cons hA
 obtain ⟨v1,vs1,d1,ds1,p1,q1,rfl,rfl,rfl,h1,r1⟩ := trodAll_cons r0
 obtain ⟨v2,vs2,d2,ds2,p2,q2,rfl,rfl,rfl,h2,r2⟩ := trodAll_cons r1
 obtain ⟨rfl,rfl,rfl⟩ := trodAll_nil r2
 obtain rfl : args = #[v0,v1,v2] := by cases args;simp_all
 obtain ⟨rfl,rfl⟩ := trodVars_none hV
 obtain ⟨a0,rfl,rfl,rfl,w0⟩ := open_int Tryd.underlying22 (hval 0 22 v0 rfl rfl) h0
 have k1 := h1
 have lt1 : ∀ x ∈ p1,x.block < W.heap.size := by obtain ⟨m,hm⟩ := k1;exact DataW.trod_lt m _ _ _ hm
 obtain ⟨b1,len1,cap1,rfl⟩ := okWide_slice Tryd.underlying23 (hval 1 23 v1 rfl rfl)
 obtain ⟨m1,hm1⟩ := h1
 obtain ⟨A1,n1,c1,l1,e1,hc1,hn1,hR1,hl1,hB1,hr1⟩ := O.open_R Tryd.underlying23 Tryd.underlying51 Tryd.underlying5 (by kernel_rfl) (by kernel_rfl) hm1 (F.fit_arg hsz 1 (t := 23) (d := d1) rfl rfl)
 simp [Value.cells] at e1
 obtain ⟨rfl,rfl,rfl⟩ := e1
 obtain ⟨a2,rfl,rfl,rfl,w2⟩ := open_int Tryd.underlying3 (hval 2 3 v2 rfl rfl) h2
 clear hA0 hval0 hsz0
 have y0 := F.wf_u64 w0
 refine (O.scanTells_law a0 a2 l1 _ _ _ W y0 hl1 (O.bytes_of_wf hB1) hR1 hc1 (half_of hL)).mono fun e W' ⟨he,bel⟩ => ?_
 subst he
 exact ⟨_,rfl,_,_,_,[],_,[],hW',trodAll_mk1 (shut_bool Tryd.underlying4 _),(trodAll_cons_mk (shut_int Tryd.underlying22 w0) (trodAll_cons_mk (Below.trod laidOut (by kernel_rfl) (of_decide_eq_true (by kernel_rfl)) k1 bel lt1) (trodAll_cons_mk (shut_int Tryd.underlying3 w2) trodAll_mk0))),rfl,bel.frame _,fun h => by cases h⟩
theorem over : Rows.ScanTellsSaid :=
 OpenClaim.holds_of_wide 3 Tryd.f3 rfl rfl rfl rfl rfl rfl rfl ⟨rfl,rfl,rfl,rfl,rfl⟩ rfl rfl rfl rfl rfl (by kernel_rfl) Tryd.func3 (by kernel_rfl)
  (of_decide_eq_true (by kernel_rfl)) (by unfold Func.isWrapper;first|(rw [if_pos (by decide +kernel)];kernel_rfl)|(rw [if_neg (by decide +kernel)];exact ⟨rfl,rfl⟩))
  (fun os started H enc _ => lifted os started H enc)
theorem card : Rows.ScanTellsCardSaid :=
 Claim7.holds_tied_plain_at .later [] [.data] true Rows.scanTellsCard.stood.harness false
  over (fun _ h => by cases h) (by kernel_rfl) (fun _ h => by cases h) scanTells_row_tie rfl ⟨rfl,rfl⟩ (by kernel_rfl) rfl
  (fun f fn hf hfn => by
   obtain rfl : f = 3 := Option.some.inj ((show Tryd.prog.funcNamed "strandline/strandlinelaw19.ScanTells" = some 3 by kernel_rfl).symm.trans hf) |>.symm
   obtain rfl : fn = Tryd.f3 := (Option.some.inj (Tryd.func3.symm.trans hfn)).symm
   exact ⟨by kernel_rfl,fun j t ht => by
    rw [Tryd.params3] at ht
    have hm : t ∈ [22,23,3] := by simpa using Array.mem_of_getElem? ht
    have hall : ([22,23,3].all fun u => !Tryd.prog.wantsStandIn u) = true := by kernel_rfl
    exact (show Tryd.prog.wantsStandIn t = false by simpa using List.all_eq_true.1 hall t hm)⟩)
  (by kernel_rfl)
end Go.Proofs.YtaekpfhgdnfciaaDoor.scanTells
namespace Go.Proofs.YtaekpfhgdnfciaaDoor
/-- The row, under a short name, for the claim. -/
theorem scanTellsCard_holds : Rows.ScanTellsCardSaid := scanTells.card
#print axioms scanTellsCard_holds
end Go.Proofs.YtaekpfhgdnfciaaDoor
end
