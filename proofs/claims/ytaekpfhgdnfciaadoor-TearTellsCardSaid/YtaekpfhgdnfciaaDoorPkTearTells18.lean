/- Texts of mine put together: OpenR, OpenTear, RowTearTells. -/
import Derived.Test.YtaekpfhgdnfciaaDoorPkTearTells3
import Derived.Test.YtaekpfhgdnfciaaDoorPkTearTells4
import Derived.Test.YtaekpfhgdnfciaaDoorPkTearTells6
import Derived.Test.YtaekpfhgdnfciaaDoorCards
import Derived.Test.YtaekpfhgdnfciaaDoorTie
import Derived.Test.YtaekpfhgdnfciaaDoorPkTearTells17
import Derived.SevenTiedAt
import Derived.WalkKit
import Derived.ProofKit
import Derived.OpenShut
import Derived.ShutString
import Derived.ChangeOld
import Derived.Below
import Derived.SizedLaws
import Derived.Lib.SmallJoins
section
/- An argument that is a slice of arrays of numbers: its cells as one list. -/
namespace Go.Proofs.YtaekpfhgdnfciaaDoor.O
open Go.RowKit Go.Proofs.YtaekpfhgdnfciaaDoorW.PrintWords Go.Proofs.YtaekpfhgdnfciaaDoorW.PrintLast Go.Proofs.YtaekpfhgdnfciaaDoorW.PrintMore Go.Proofs.YtaekpfhgdnfciaaDoor.F Go.Proofs.YtaekpfhgdnfciaaDoor.F.Nums Go.Proofs.YtaekpfhgdnfciaaDoor.Plain Go.ChangeShapes Go.WideShapes Go.Joins Go.Deep
set_option linter.unusedVariables false
section
variable {H : Type} {enc : TypeId × Value → H} {P : Program} {W : World} {held : Bool}
def flatOf (f : Nat → List Int) : Nat → List Int
 |0 => []
 |i + 1 => flatOf f i ++ f i
theorem open_R {t e q : TypeId} {k : IntKind} {m : Nat} (ht : P.underlying t = some (.slice e)) (he : P.underlying e = some (.array m q)) (hq : P.underlying q = some (.int k)) (hc : P.cellsOf q = 1) (hce : P.cellsOf e = m)
  {fuel : Nat} {cs : List Value} {y : DataW H × List MemPlace} (h : DataW.trod enc P W 0 (fun _ => true) held fuel t cs = some y) (hw : Fit P t y.1) :
  ∃ (A : Option Addr) (n c : Nat) (fl : List Int),cs = [.slice A n c] ∧ n ≤ c ∧ n ≤ 9223372036854775807 ∧ Rd W A (nums k fl) ∧ fl.length = m * n ∧ (∀ x ∈ fl,(Lit.int k x).wf = true) ∧ n * P.bytesOf e ≤ reachBytes := by
 rcases Deep.open_slice ht h with ⟨rfl,rfl⟩|⟨a,len,cap,cc,n,D,Pl,rfl,hb,hl,hm,hmm,rfl,hx⟩
 ·exact ⟨none,0,0,[],rfl,Nat.le_refl _,by omega,fun h => absurd h (by simp [nums]),by simp,by simp,by simp⟩
 ·simp only [if_true] at hmm
  subst hmm
  have each : ∀ i,i < len → ∃ x : List Int,W.cells? 0 (a.add (i * m)) m = some (nums k x) ∧ x.length = m ∧ ∀ z ∈ x,(Lit.int k z).wf = true := by
   intro i hi
   obtain ⟨cs',h1,h2⟩ := hx i (by omega)
   obtain ⟨x,e1,e2,e3⟩ := open_array_cells he hq hc hce h2
   rw [hce,e1] at h1
   exact ⟨x,h1,e2,e3⟩
  obtain ⟨f,hf⟩ := pick (γ := Unit) each
  have hfl : ∀ i,i ≤ len → (flatOf f i).length = m * i ∧ (∀ j v,(nums k (flatOf f i))[j]? = some v → W.cell? (a.add j) = some v) ∧ ∀ z ∈ flatOf f i,(Lit.int k z).wf = true := by
   intro i
   induction i with
   |zero => exact fun _ => ⟨rfl,fun j v hj => by simp [flatOf,nums] at hj,fun z hz => by cases hz⟩
   |succ i ih =>
    intro hi
    obtain ⟨i1,i2,i3⟩ := ih (by omega)
    obtain ⟨f1,f2,f3⟩ := hf i (by omega)
    unfold flatOf
    refine ⟨by rw [List.length_append,i1,f2,Nat.mul_succ],fun j v hj => ?_,fun z hz => ?_⟩
    ·rw [← nums_app] at hj
     by_cases hlt : j < m * i
     ·rw [List.getElem?_append_left (by rw [nums_length,i1];exact hlt)] at hj
      exact i2 j v hj
     ·rw [List.getElem?_append_right (by rw [nums_length,i1];omega),nums_length,i1] at hj
      obtain ⟨-,l1,h2⟩ := World.cells?_some f1
      have hlt2 : j - m * i < m := by have := (List.getElem?_eq_some_iff.1 hj).1;rw [nums_length,f2] at this;exact this
      have := h2 (j - m * i) hlt2
      rw [Deep.add_add,show i * m + (j - m * i) = j by rw [Nat.mul_comm i m];omega] at this
      rw [this,hj]
    ·rcases List.mem_append.1 hz with hz|hz
     ·exact i3 z hz
     ·exact f3 z hz
  obtain ⟨g1,g2,g3⟩ := hfl len (Nat.le_refl _)
  refine ⟨some a,len,_,flatOf f len,rfl,hl,?_,fun _ => ⟨a,rfl,g2⟩,g1,g3,?_⟩
  ·have : maxLen = 9223372036854775807 := by decide
   omega
  ·have := fit_len ht hw
   rw [List.length_map,List.length_range] at this
   exact Nat.le_trans (Nat.mul_le_mul_right _ (by omega)) this
end
end Go.Proofs.YtaekpfhgdnfciaaDoor.O
end

section
/- Arguments strandlinelaw20.Two and [2]api.Sec by value. -/
namespace Go.Proofs.YtaekpfhgdnfciaaDoor.F
open Go.ChangeShapes Go.WideShapes Go.ChangeAt Go.RowKit Go.Joins Go.Deep Go.Proofs.YtaekpfhgdnfciaaDoorW.PrintWords
set_option linter.unusedVariables false
section
variable {H : Type} {enc : TypeId × Value → H} {W : World} {held : Bool}
set_option maxRecDepth 100000 in
theorem open_tearTwo {r : Reach} {b0 : Nat} {v : Value} {d : DataW H} {p : List MemPlace} (hv : Value.okWide Tryd.prog W r b0 55 v) (h : DataW.Trod enc Tryd.prog W 0 (fun _ => true) held 55 v d p) (hw : Fit Tryd.prog 55 d) :
  ∃ (A B : Option Addr) (xs : List (List Int)) (c n e : Nat) (fl : List Int),v = .agg #[.slice A xs.length c,.slice B n e] ∧ xs.length ≤ c ∧ (Kd.slice 5 (Kd.int .u8)).C W A xs.length xs ∧ (∀ x ∈ xs,(∀ z ∈ x,(Lit.int .u8 z).wf = true) ∧ x.length * Tryd.prog.bytesOf 5 ≤ reachBytes) ∧ xs.length * Tryd.prog.bytesOf 38 ≤ reachBytes ∧
   n ≤ e ∧ O.Rd W B (nums .u8 fl) ∧ fl.length = 64 * n ∧ (∀ x ∈ fl,(Lit.int .u8 x).wf = true) := by
 simp only [Value.okWide,Tryd.underlying55] at hv
 obtain ⟨cs,rfl,-,-⟩ := hv
 obtain ⟨fuel,hf⟩ := h
 obtain ⟨y0,y1,m,hx,hl,h0,h1⟩ := trod_struct2 Tryd.underlying55 hf
 have hl3 : (Value.agg cs).cells.toList.length = 2 := hl.trans (by kernel_rfl)
 obtain ⟨c0,c1,hcs⟩ : ∃ a b,(Value.agg cs).cells.toList = [a,b] := by
  match h9 : (Value.agg cs).cells.toList,hl3 with
  |[a,b],_ => exact ⟨a,b,rfl⟩
 rw [hcs] at h0 h1
 rw [show Tryd.prog.cellsOf 25 = 1 by kernel_rfl] at h0
 rw [show Tryd.prog.cellsOf 23 = 1 by kernel_rfl] at h1
 injection hx with hx1 hx2
 subst hx1
 have hf0 : Fit Tryd.prog 25 y0.1 := by
  intro q hq
  refine hw q ?_
  simp only [DataW.weights,Tryd.underlying55]
  simp only [DataW.weightsEach,List.map_cons,List.map_nil,List.mem_append]
  exact Or.inl hq
 have hf1 : Fit Tryd.prog 23 y1.1 := by
  intro q hq
  refine hw q ?_
  simp only [DataW.weights,Tryd.underlying55]
  simp only [DataW.weightsEach,List.map_cons,List.map_nil,List.mem_append]
  exact Or.inr (Or.inl hq)
 obtain ⟨A,xs,c,e0,l0,g0,b0,n0⟩ := open_C_rows 5 Tryd.underlying25 Tryd.underlying38 Tryd.underlying5 (by kernel_rfl) (by kernel_rfl) h0 hf0
 obtain ⟨B,n,e,fl,e1,l1,g1,r1,s1,b1,-⟩ := O.open_R Tryd.underlying23 Tryd.underlying51 Tryd.underlying5 (by kernel_rfl) (by kernel_rfl) h1 hf1
 simp at e0 e1
 subst e0 e1
 refine ⟨A,B,xs,c,n,e,fl,?_,l0,g0,b0,n0,l1,r1,s1,b1⟩
 have : cs.toList = [.slice A xs.length c,.slice B n e] := hcs
 have e9 : cs = [Value.slice A xs.length c,.slice B n e].toArray := by rw [← this]
 rw [e9]
set_option maxRecDepth 100000 in
theorem open_secs2 {r : Reach} {b0 : Nat} {v : Value} {d : DataW H} {p : List MemPlace} (hv : Value.okWide Tryd.prog W r b0 56 v) (h : DataW.Trod enc Tryd.prog W 0 (fun _ => true) held 56 v d p) :
  ∃ ss : List Int,v = .agg (nums .u8 ss).toArray ∧ ss.length = 128 := by
 simp only [Value.okWide,Tryd.underlying56] at hv
 obtain ⟨cs,rfl,-,-⟩ := hv
 obtain ⟨fuel,hf⟩ := h
 obtain ⟨zs,m1,rfl,hx1,hlen,hn,hel⟩ := DataW.trod_array Tryd.underlying56 hf
 have hl2 : (Value.agg cs).cells.toList.length = 128 := hlen.trans (by kernel_rfl)
 obtain ⟨y0,y1,rfl⟩ : ∃ a b,zs = [a,b] := by
  match zs,hn with
  |[a,b],_ => exact ⟨a,b,rfl⟩
 have h0 := hel 0 (by decide)
 have h1 := hel 1 (by decide)
 rw [show Tryd.prog.cellsOf 51 = 64 by kernel_rfl] at h0 h1
 obtain ⟨xs,e1,l1,-⟩ := open_array_cells Tryd.underlying51 Tryd.underlying5 (by kernel_rfl) (by kernel_rfl) h0
 obtain ⟨ys,e2,l2,-⟩ := open_array_cells Tryd.underlying51 Tryd.underlying5 (by kernel_rfl) (by kernel_rfl) h1
 refine ⟨xs ++ ys,?_,by rw [List.length_append,l1,l2]⟩
 have hl3 : cs.toList.length = 128 := hl2
 have e1' : cs.toList.take 64 = xs.map (Value.int .u8) := by have := e1;rw [Nat.zero_mul,List.drop_zero] at this;exact this
 have e2' : cs.toList.drop 64 = ys.map (Value.int .u8) := by have := e2;rw [Nat.one_mul,List.take_of_length_le (by rw [List.length_drop];have : (Value.agg cs).cells.toList.length = 128 := hl2;omega)] at this;exact this
 have : cs.toList = nums .u8 (xs ++ ys) := by
  unfold nums
  rw [List.map_append]
  exact ((List.take_append_drop 64 cs.toList).symm.trans (by rw [e1',e2']))
 have e9 : cs = (nums .u8 (xs ++ ys)).toArray := by rw [← this]
 rw [e9]
end
end Go.Proofs.YtaekpfhgdnfciaaDoor.F
end

section
/- 'strandlinelaw20.TearTells': whatever the input: true; the input reads as it did; the listed table tied to the program's text. -/
namespace Go.Proofs.YtaekpfhgdnfciaaDoor.tearTells
open Go.ChangeShapes Go.WideShapes Go.ChangeAt Go.RowKit Go.Joins Go.Proofs.YtaekpfhgdnfciaaDoor.Door Go.Proofs.YtaekpfhgdnfciaaDoorW.PrintWords
open Go.ChangeMaps (open_string shut_string)
set_option linter.unusedVariables false
set_option maxRecDepth 100000 in
set_option maxHeartbeats 4000000 in
theorem lifted (os : Os) (started : os.Started) (H : Type) (enc : TypeId × Value → H) :
  ReturnsInHanded {} Tryd.checked os 7 .any (fun w args => (Rows.tearTellsSpec.pre enc Tryd.prog Tryd.f7 [] false w args ∧ laidMetH Tryd.prog laid1 w) ∧ sizedMet enc Tryd.prog Tryd.f7 (OpenSpec.ofChange Rows.tearTellsSpec) false w args)
   (Rows.tearTellsSpec.post enc Tryd.prog Tryd.f7 false true false false) := by
 refine returnsInHanded_of_change_and (C := Tryd.checked) (X := fun w _ => laidMetH Tryd.prog laid1 w) (fun _ _ _ hh h => h.of_heap hh) own started (by kernel_rfl) Tryd.func7
  (ChangeSpec.witness_shaped (enc := enc) (C := Tryd.checked) (os := os) (X := fun w _ => laidMetH Tryd.prog laid1 w) false (World.doorLaid Tryd.prog 400 os) #[.int .u64 0,(.agg #[.slice none 0 0,.slice none 0 0]),(.agg (List.replicate 128 (.int .u8 0)).toArray)] 8 rfl (World.shaped_of_RefB (by kernel_rfl) (by kernel_rfl)) (by kernel_rfl) (by kernel_rfl) (by kernel_rfl) (door_met os _)) ?_
 intro W base args ds gs before hval0 hW _ hsz0 hL _
 have hsz : (DataW.weightsEach Tryd.prog (Tryd.f7.params.toList ++ Rows.tearTellsSpec.plain.varTypes Tryd.prog) (ds ++ gs)).all (· ≤ reachBytes) = true := hsz0
 have hval : ∀ (j : Nat) t v,Tryd.f7.params[j]? = some t → args[j]? = some v → Value.okWide Tryd.prog W .any base t v := hval0
 have hW' := hW
 obtain ⟨p,q,hA0,hV,rfl,hfz,hnd⟩ := hW
 have hA : DataW.TrodAll enc Tryd.prog W 0 (fun _ => true) true Tryd.f7.params.toList args.toList ds p := hA0
 rw [Tryd.params7] at hA hval hsz
 obtain ⟨v0,vs0,d0,ds0,p0,q0,hargs,rfl,rfl,h0,r0⟩ := trodAll_cons hA
 obtain ⟨v1,vs1,d1,ds1,p1,q1,rfl,rfl,rfl,h1,r1⟩ := trodAll_cons r0
 obtain ⟨v2,vs2,d2,ds2,p2,q2,rfl,rfl,rfl,h2,r2⟩ := trodAll_cons r1
 obtain ⟨rfl,rfl,rfl⟩ := trodAll_nil r2
 obtain rfl : args = #[v0,v1,v2] := by cases args;simp_all
 obtain ⟨rfl,rfl⟩ := trodVars_none hV
 obtain ⟨a0,rfl,rfl,rfl,w0⟩ := open_int Tryd.underlying22 (hval 0 22 v0 rfl rfl) h0
 have k1 := h1
 have lt1 : ∀ x ∈ p1,x.block < W.heap.size := by obtain ⟨m,hm⟩ := k1;exact DataW.trod_lt m _ _ _ hm
 obtain ⟨A1,Z1,l1,c1,n1,e1,f1,rfl,hc1,hC1,hB1,hr1,he1,hR1,hl1,hD1⟩ := F.open_tearTwo (hval 1 55 v1 rfl rfl) h1 (F.fit_arg hsz 1 (t := 55) (d := d1) rfl rfl)
 have k2 := h2
 have lt2 : ∀ x ∈ p2,x.block < W.heap.size := by obtain ⟨m,hm⟩ := k2;exact DataW.trod_lt m _ _ _ hm
 obtain ⟨s2,rfl,hs2⟩ := F.open_secs2 (hval 2 56 v2 rfl rfl) h2
 clear hA0 hval0 hsz0
 have y0 := F.wf_u64 w0
 have z3 : reachBytes = 140737488351232 := by decide
 have z4 : Tryd.prog.bytesOf 38 = 24 := by kernel_rfl
 rw [z4,z3] at hr1
 refine (O.tearTells_law a0 l1 _ _ _ _ _ f1 s2 hs2 W y0 hC1 hc1 (fun x hx => O.bytes_of_wf (hB1 x hx).1) (by omega) hl1 (O.bytes_of_wf hD1) hR1 he1 (half_of hL)).mono fun e W' ⟨he,bel⟩ => ?_
 subst he
 exact ⟨_,rfl,_,_,_,[],_,[],hW',trodAll_mk1 (shut_bool Tryd.underlying4 _),(trodAll_cons_mk (shut_int Tryd.underlying22 w0) (trodAll_cons_mk (Below.trod laidOut (by kernel_rfl) (of_decide_eq_true (by kernel_rfl)) k1 bel lt1) (trodAll_cons_mk (Below.trod laidOut (by kernel_rfl) (of_decide_eq_true (by kernel_rfl)) k2 bel lt2) trodAll_mk0))),rfl,bel.frame _,fun h => by cases h⟩
theorem over : Rows.TearTellsSaid :=
 OpenClaim.holds_of_wide 7 Tryd.f7 rfl rfl rfl rfl rfl rfl rfl ⟨rfl,rfl,rfl,rfl,rfl⟩ rfl rfl rfl rfl rfl (by kernel_rfl) Tryd.func7 (by kernel_rfl)
  (of_decide_eq_true (by kernel_rfl)) (by unfold Func.isWrapper;first|(rw [if_pos (by decide +kernel)];kernel_rfl)|(rw [if_neg (by decide +kernel)];exact ⟨rfl,rfl⟩))
  (fun os started H enc _ => lifted os started H enc)
theorem card : Rows.TearTellsCardSaid :=
 Claim7.holds_tied_plain_at .later [] [.data] true Rows.tearTellsCard.stood.harness false
  over (fun _ h => by cases h) (by kernel_rfl) (fun _ h => by cases h) tearTells_row_tie rfl ⟨rfl,rfl⟩ (by kernel_rfl) rfl
  (fun f fn hf hfn => by
   obtain rfl : f = 7 := Option.some.inj ((show Tryd.prog.funcNamed "strandline/strandlinelaw20.TearTells" = some 7 by kernel_rfl).symm.trans hf) |>.symm
   obtain rfl : fn = Tryd.f7 := (Option.some.inj (Tryd.func7.symm.trans hfn)).symm
   exact ⟨by kernel_rfl,fun j t ht => by
    rw [Tryd.params7] at ht
    have hm : t ∈ [22,55,56] := by simpa using Array.mem_of_getElem? ht
    have hall : ([22,55,56].all fun u => !Tryd.prog.wantsStandIn u) = true := by kernel_rfl
    exact (show Tryd.prog.wantsStandIn t = false by simpa using List.all_eq_true.1 hall t hm)⟩)
  (by kernel_rfl)
end Go.Proofs.YtaekpfhgdnfciaaDoor.tearTells
namespace Go.Proofs.YtaekpfhgdnfciaaDoor
/-- The row, under a short name, for the claim. -/
theorem tearTellsCard_holds : Rows.TearTellsCardSaid := tearTells.card
#print axioms tearTellsCard_holds
end Go.Proofs.YtaekpfhgdnfciaaDoor
end
