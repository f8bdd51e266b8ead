/- Joiner.Feed and the reference's, by what is owned. -/
import Derived.Test.YthlpimojojofbaaFlat
import Derived.Test.YthlpimojojofbaaHjoin2
import Derived.Test.YthlpimojojofbaaFkStrandlineref15
namespace Go.Proofs.Ythlpimojojofbaa.O
open Go.RowKit Go.Proofs.YthlpimojojofbaaW.PrintWords Go.Proofs.YthlpimojojofbaaW.PrintLast Go.Proofs.YthlpimojojofbaaW.PrintMore Go.Proofs.Ythlpimojojofbaa.F Go.Proofs.Ythlpimojojofbaa.F.Nums Go.Proofs.Ythlpimojojofbaa.Plain
set_option linter.unusedVariables false
set_option linter.unusedSimpArgs false
/-- what has all its blocks behind those that are owned is owned too -/
theorem Own.consN {w0 W : World} {F : Nat → Option Obj} {L : List Res} {r : Res} (H : Own w0 F L W) (n : Nat) (hL : ∀ y ∈ L, ∀ k, y.block = some k → k < n) (hF : ∀ k o, F k = some o → k < n) (hr : r.At w0.heap.size W) (hk : ∀ k, r.block = some k → n ≤ k) : Own w0 F (r :: L) W := by
  refine ⟨H.below, H.holds, ?_, ?_, ?_⟩
  · intro y hy
    rcases List.mem_cons.1 hy with rfl | hy
    · exact hr
    · exact H.ats y hy
  · intro y hy k hyk
    rcases List.mem_cons.1 hy with rfl | hy
    · cases hFk : F k with
      | none => rfl
      | some o =>
        have h1 := hF k o hFk
        have h2 := hk k hyk
        omega
    · exact H.apart y hy k hyk
  · refine List.Pairwise.cons (fun y hy k h1 h2 => ?_) H.sep
    have h3 := hL y hy k h2
    have h4 := hk k h1
    omega
/-- a slice value of n elements -/
def IsSl (v : Value) (n : Nat) : Prop := ∃ A c, v = .slice A n c ∧ n ≤ c
theorem isSl_R {W : World} {b : Nat} {ok : Nat → Prop} {v : Value} {xs : List Int} {e : Nat} (h : Kd.R (Kd.int .u8) e W b ok v xs) : IsSl v xs.length := by
  obtain ⟨A, c, rfl⟩ := own_slice (Kd.own_of_R h)
  have h2 := Kd.R_reads' h
  exact ⟨A, c, rfl, h2.2.1⟩
/-- two answers of which one has nothing: the other one is owned -/
theorem pick_own {W : World} {b : Nat} {ok ok' : Nat → Prop} {va vb : Value} {xa xb : List Int} {e : Nat} (ha : Kd.R (Kd.int .u8) e W b ok va xa) (hb : Kd.R (Kd.int .u8) e W b ok' vb xb) (h : xa = [] ∨ xb = []) :
    ∃ x, W.ownsRow b e 1 x (xa ++ xb).length (nums .u8 (xa ++ xb)) ∧ (xa ≠ [] → va = x) ∧ (xb ≠ [] → vb = x) := by
  rcases h with rfl | rfl
  · exact ⟨vb, Kd.own_of_R hb, fun h => absurd rfl h, fun _ => rfl⟩
  · refine ⟨va, ?_, fun _ => rfl, fun h => absurd rfl h⟩
    rw [List.append_nil]
    exact Kd.own_of_R ha
theorem feedF_one (op : Bool) (b : List Int) (kind : Int) (data : List Int) : (feedF op b kind data).1.1 = [] ∨ (feedF op b kind data).2.2 = [] := by
  unfold feedF
  split
  · exact .inl rfl
  · split
    · exact .inl rfl
    · split
      · exact .inr rfl
      · exact .inl rfl
/-- the cells of what is owned if it is not empty -/
theorem own_C {w0 W : World} {F : Nat → Option Obj} {L : List Res} {c : Res → List Res} {b : List Int} {Av : Option Addr} {cv : Nat} {x : Value} {n : Nat} {ys : List Int} (H : Own w0 F L W) (hI : In L (.row x 5 1 n (nums .u8 ys)) c) (hx : b ≠ [] → .slice Av b.length cv = x) (hy : b ≠ [] → ys = b ∧ n = b.length) (hl : b.length ≤ 70000) : Kd.C (Kd.int .u8) W Av b.length b := by
  by_cases hb : b = []
  · subst hb
    exact ⟨rfl, by simp, fun h => absurd h (by simp)⟩
  · obtain ⟨rfl, rfl⟩ := hy hb
    have := hx hb
    subst this
    exact (H.rowC hI).2.2
theorem feed_own {w0 W : World} {F : Nat → Option Obj} {L : List Res} {c1 : Res → List Res} (op : Bool) (b : List Int) (kind epoch : Int) (data : List Int) (g : Nat) (Av A : Option Addr) (cv c : Nat) (x : Value)
    (H : Own w0 F (.row x 5 1 b.length (nums .u8 b) :: L) W) (hI : In L (.blk g 116 [.bool op, .slice Av b.length cv]) c1) (hx : b ≠ [] → .slice Av b.length cv = x) (hbc : b.length ≤ cv) (lb : b.length ≤ 70000)
    (hd : Kd.C (Kd.int .u8) W A data.length data) (ld : data.length ≤ 140737488351232) (hdc : data.length ≤ c) :
    Calls Try.prog 43 #[.pointer (some ⟨g, 0, none⟩), .agg #[.int .i64 kind, .int .u32 epoch, .slice A data.length c]] W fun e W' =>
      ∃ rv v' x', e = .returned (.tuple #[rv, .bool (feedF op b kind data).1.2.1, .int .i64 (feedF op b kind data).1.2.2]) ∧ IsSl rv (feedF op b kind data).1.1.length ∧ IsSl v' (feedF op b kind data).2.2.length ∧
        ((feedF op b kind data).1.1 ≠ [] → rv = x') ∧ ((feedF op b kind data).2.2 ≠ [] → v' = x') ∧
        Own w0 F (.row x' 5 1 ((feedF op b kind data).1.1 ++ (feedF op b kind data).2.2).length (nums .u8 ((feedF op b kind data).1.1 ++ (feedF op b kind data).2.2)) :: c1 (.blk g 116 [.bool (feedF op b kind data).2.1, v'])) W' := by
  have hb := own_C H .head hx (fun _ => ⟨rfl, rfl⟩) lb
  have H1 := H.del .head
  have hg := H1.at_ hI
  refine (feed_all op b kind epoch data W g Av A cv c hg.2 hb hd lb ld hbc hdc).mono ?_
  rintro e W' ⟨rv, v', rfl, hg', hR1, hR2, hK, hB⟩
  obtain ⟨x', ho, h1, h2⟩ := pick_own hR1 hR2 (feedF_one op b kind data)
  refine ⟨rv, v', x', rfl, isSl_R hR1, isSl_R hR2, h1, h2, ?_⟩
  have H2 := H1.repl (r' := .blk g 116 [.bool (feedF op b kind data).2.1, v']) hI ⟨hB.os, hB.tape, hB.output, hK.1, fun i hi hn => hK.2 i hi (fun e => hn (by rw [e]; rfl)) (fun e => by cases e)⟩ ⟨hg.1, hg'⟩ (fun k hk => .inl hk)
  refine H2.consN W.heap.size (fun y hy k hk => ?_) (fun k o hk => obj_lt (H1.holds k o hk)) (own_weaken ho H1.size) (fun k hk => own_base ho k hk)
  obtain ⟨LA, LB, rfl, hc1⟩ := hI.split
  rw [hc1] at hy
  rcases List.mem_append.1 hy with hy | hy
  · exact (H1.ats y (by simp [hy])).lt hk
  · rcases List.mem_cons.1 hy with rfl | hy
    · exact hg.lt hk
    · exact (H1.ats y (by simp [hy])).lt hk
theorem feedF_len (op : Bool) (b : List Int) (kind : Int) (data : List Int) : (feedF op b kind data).2.2.length ≤ 512 := by
  unfold feedF
  split
  · simp
  · split
    · simp
    · split
      · simp
      · simp only [List.length_append]; omega
theorem rfeed_eq (op : Bool) (b : List Int) (kind epoch : Int) (data : List Int) (lb : b.length ≤ 512) (ld : data.length ≤ 140737488351232) :
    strandlineref15_Joiner_Feed.f 1 op b kind epoch data = some ((feedF op b kind data).2.1, (feedF op b kind data).2.2, (feedF op b kind data).1.1, (feedF op b kind data).1.2.1, (feedF op b kind data).1.2.2) := by
  have j := fun x => (show strandlineref15_Joiner_Feed.j0 1 x op b kind epoch data = if x = true then some (false, [], [], false, 2) else if (b.length : Int) + data.length > 512 then some (false, [], [], false, 5) else if kind = 1 then some (false, [], b ++ data, true, 0) else if kind = 4 then some (false, [], b ++ data, true, 0) else some (true, b ++ data, [], false, 0) by
    simp only [strandlineref15_Joiner_Feed.j0, Option.bind_some, List.nil_append, List.length_append, List.length_nil]
    cases x with
    | true => rfl
    | false =>
      simp only [Bool.false_eq_true, if_false]
      rw [if_pos (by omega), if_pos (by omega)]
      simp only [Int.natCast_add, show ((0 : Nat) : Int) = 0 from rfl, Int.zero_add])
  unfold strandlineref15_Joiner_Feed.f feedF
  simp only [j]
  simp only [gt_iff_lt]
  clear j
  by_cases h : 512 < (b.length : Int) + data.length
  · simp only [h, if_true]
    cases op <;> by_cases k1 : kind = 1 <;> by_cases k2 : kind = 2 <;> by_cases k3 : kind = 3 <;> by_cases k4 : kind = 4 <;> simp_all
  · simp only [h, if_false]
    cases op <;> by_cases k1 : kind = 1 <;> by_cases k2 : kind = 2 <;> by_cases k3 : kind = 3 <;> by_cases k4 : kind = 4 <;> simp_all
theorem rfeed_own {w0 W : World} {F : Nat → Option Obj} {L : List Res} (op : Bool) (b : List Int) (kind epoch : Int) (data : List Int) (Av A : Option Addr) (cv c : Nat)
    (H : Own w0 F L W) (hb : Kd.C (Kd.int .u8) W Av b.length b) (hbc : b.length ≤ cv) (lb : b.length ≤ 512)
    (hd : Kd.C (Kd.int .u8) W A data.length data) (ld : data.length ≤ 140737488351232) (hdc : data.length ≤ c) :
    Calls Try.prog 44 #[.agg #[.bool op, .slice Av b.length cv], .agg #[.int .i64 kind, .int .u32 epoch, .slice A data.length c]] W fun e W' =>
      ∃ rv v' x', e = .returned (.tuple #[.agg #[.bool (feedF op b kind data).2.1, v'], rv, .bool (feedF op b kind data).1.2.1, .int .i64 (feedF op b kind data).1.2.2]) ∧ IsSl rv (feedF op b kind data).1.1.length ∧ IsSl v' (feedF op b kind data).2.2.length ∧
        ((feedF op b kind data).1.1 ≠ [] → rv = x') ∧ ((feedF op b kind data).2.2 ≠ [] → v' = x') ∧
        Own w0 F (.row x' 5 1 ((feedF op b kind data).1.1 ++ (feedF op b kind data).2.2).length (nums .u8 ((feedF op b kind data).1.1 ++ (feedF op b kind data).2.2)) :: L) W' := by
  refine (strandlineref15_Joiner_Feed.calls 1 op Av cv b kind epoch A c data _ _ _ _ _ W hb hbc hd hdc (rfeed_eq op b kind epoch data lb ld)).mono ?_
  rintro e W' ⟨v', rv, rfl, hR1, hR2, hB⟩
  obtain ⟨x', ho, h1, h2⟩ := pick_own hR2 hR1 (feedF_one op b kind data)
  exact ⟨rv, v', x', rfl, isSl_R hR2, isSl_R hR1, h1, h2, H.cons hB (own_weaken ho H.size) (fun k hk => own_base ho k hk)⟩
end Go.Proofs.Ythlpimojojofbaa.O
