/- From the plain walk to the walk in a round of a loop over a function; the loop over a function, by what is owned. -/
import Derived.Test.YthlpimojojofbaaRd
import Derived.RangeFuncOwn
import Derived.RangeFuncLeaves
import Derived.RangeFuncCalls
import Derived.OwnWalkIn
import Derived.TacticsInMore
import Derived.LoopNIn
import Derived.LoopIn
namespace Go.Proofs.Ythlpimojojofbaa.O
open Go.RowKit Go.Proofs.YthlpimojojofbaaW.PrintWords Go.Proofs.YthlpimojojofbaaW.PrintLast Go.Proofs.YthlpimojojofbaaW.PrintMore Go.Proofs.Ythlpimojojofbaa.F
set_option linter.unusedVariables false
set_option linter.unusedSimpArgs false
section
variable {P : Program} {r n : Nat} {ops : Array Oper} {Q : Exit → Act → World → Prop}
theorem opIn_of_wp {o : Oper} {a : Act} {w : World} {K : Act → World → Prop} (hnd : ∀ c, o.op ≠ .defer c) (h : o.wp P a w K Q) : o.wpIn (Fence.wide.inRound r) n P a w K Q := by
  unfold Oper.wpIn
  refine ⟨fun _ _ => trivial, ?_⟩
  rw [Oper.semAt_eq _ _ _ hnd]
  unfold Oper.wp at h
  generalize (execOp a.eval o).run P w = x at h ⊢
  cases x with
  | ok y w' =>
    cases y with
    | enter f args =>
      simp only [Oper.upon, Oper.uponIn] at h ⊢
      exact ⟨fun e => by simp [Fence.inRound, Fence.wide] at e, (CallsIn.inRound r (callsIn_wide.2 h)).mono (fun e w'' he => by cases e <;> exact he)⟩
    | row q args =>
      simp only [Oper.upon, Oper.uponIn] at h ⊢
      refine ⟨fun e => by simp [Fence.inRound, Fence.wide] at e, fun c cs _ => ?_⟩
      obtain ⟨v, w', hr, hs⟩ := h c cs
      exact ⟨v, w', hr, stepsIn_wide.2 hs⟩
    | value v => exact h
    | skip => exact h
    | «defer» d => exact h
    | _ => exact absurd h (by simp [Oper.upon])
  | halt y w' => cases y <;> exact h
def noDefer (o : Oper) : Bool := match o.op with | .defer _ => false | _ => true
theorem noDefer_ne {o : Oper} (h : noDefer o = true) (c : Call) : o.op ≠ .defer c := by
  intro e
  unfold noDefer at h
  rw [e] at h
  cases h
theorem listIn_of (hQ : ¬ LetsOut Q) : ∀ (l : List Oper) (a : Act) (w : World), l.all noDefer = true → wpList P ops Q l a w → wpListIn (Fence.wide.inRound r) n P ops Q l a w
  | [], _, _, _, h => h
  | o :: rest, a, w, hn, h => by
    rw [List.all_cons, Bool.and_eq_true] at hn
    simp only [wpList, wpListIn] at h ⊢
    split at h
    · rename_i hw
      rw [if_pos hw]
      rcases h with h | h
      · exact Oper.wpIn_mono (fun a w h => listIn_of hQ rest a w hn.2 h) (opIn_of_wp (fun c => noDefer_ne hn.1 c) h)
      · exact absurd h.2 hQ
    · rename_i hw
      rw [if_neg hw]
      exact ⟨fun _ _ => trivial, listIn_of hQ rest _ w hn.2 h⟩
theorem regIn_lit {id : Nat} {l : List Oper} {a : Act} {w : World} (hn : l.all noDefer = true) (hQ : ¬ LetsOut Q) (h : wpList P l.toArray Q l a w) : (Code.region id l.toArray false).wpIn (Fence.wide.inRound r) n P Q a w :=
  wpIn_region_lit (listIn_of hQ l a w hn h)
theorem wpOpIn_of (hQ : ¬ LetsOut Q) (hn : ops.all noDefer = true) {i : Nat} {a : Act} {w : World} {K : Act → World → Prop} (h : wpOp P ops Q i K a w) : wpOpIn (Fence.wide.inRound r) n P ops Q i K a w := by
  unfold wpOp at h
  unfold wpOpIn
  split
  · rename_i ho
    rw [ho] at h
    exact h
  · rename_i o ho
    rw [ho] at h
    simp only at h
    have hd : noDefer o = true := by
      have := Array.mem_of_getElem? ho
      rw [Array.all_eq_true'] at hn
      exact hn o this
    split at h
    · rename_i hw
      rw [if_pos hw]
      rcases h with h | h
      · exact opIn_of_wp (fun c => noDefer_ne hd c) h
      · exact absurd h.2 hQ
    · rename_i hw
      rw [if_neg hw]
      exact ⟨fun _ _ => trivial, h⟩
theorem anyIn_of {md : Region.Mode} (hQ : ¬ LetsOut Q) (hn : ops.all noDefer = true) : ∀ (fuel : Nat) (listed : Array Bool) (a : Act) (w : World), wpAny P md ops Q fuel listed a w → wpAnyIn (Fence.wide.inRound r) n P md ops Q fuel listed a w
  | 0, _, _, _, h => h
  | fuel + 1, _, _, _, h => ⟨h.1, fun i hi => wpOpIn_of hQ hn (wpOp_mono (fun a w h => anyIn_of hQ hn fuel _ a w h) (h.2 i hi))⟩
/-- a region that draws its order, in a round: walked as anywhere -/
theorem startIn_ {S : World → Prop} {ds : List Nat} {id m : Nat} {a : Act} {w : World} (l : Array Bool) (hm : P.follows .mixedOrders = true) (hn : ops.size = m) (hl : Array.replicate m false = l) (hS : S w.drew) (hd : ops.all noDefer = true) (hQ : ¬ LetsOut Q)
    (h : S w.drew → wpAnyLast P .any ops Q S ds m l a w.drew) : (Code.region id ops true).wpIn (Fence.wide.inRound r) n P Q a w := by
  subst hn
  subst hl
  exact wpIn_region_any hm (anyIn_of hQ hd _ _ _ _ (wpAny_of_last _ _ _ _ (h hS)))
end
/-! ### a block that is no resource -/
theorem Own.putF {w0 W : World} {F : Nat → Option Obj} {L : List Res} (H : Own w0 F L W) (l : Nat) (o o' : Obj) (hF : F l = some o) (hl : w0.heap.size ≤ l) : Own w0 (fun g => if g = l then some o' else F g) L (W.putObj l o') := by
  have hlt : l < W.heap.size := obj_lt (H.holds l o hF)
  have hne : ∀ y ∈ L, ∀ k, y.block = some k → k ≠ l := fun y hy k hk e => by
    subst e
    have := H.apart y hy k hk
    rw [hF] at this
    cases this
  refine ⟨?_, ?_, ?_, ?_, H.sep⟩
  · refine ⟨H.below.os, H.below.tape, H.below.output, ?_, fun k hk => ?_⟩
    · have := H.below.size
      simpa [World.putObj] using this
    · exact (World.putObj_heap_other (by omega)).trans (H.below.block k hk)
  · intro g q hg
    by_cases e : g = l
    · subst e
      simp at hg
      subst hg
      exact World.putObj_heap_same hlt
    · simp [e] at hg
      exact (World.putObj_heap_other e).trans (H.holds g q hg)
  · intro y hy
    exact (H.ats y hy).move (fun k hk => World.putObj_heap_other (hne y hy k hk))
  · intro y hy k hk
    simp [hne y hy k hk]
    exact H.apart y hy k hk
theorem Own.addF {w0 W : World} {F : Nat → Option Obj} {L : List Res} (H : Own w0 F L W) (o : Obj) : Own w0 (fun g => if g = W.heap.size then some o else F g) L (W.alloc o) := by
  have hb : Below W.heap.size W (W.alloc o) := below_alloc (Below.refl _ _) o
  have H1 := H.to hb
  refine ⟨H1.below, ?_, H1.ats, ?_, H1.sep⟩
  · intro g q hg
    by_cases e : g = W.heap.size
    · subst e
      simp at hg
      subst hg
      exact World.alloc_heap_new W o
    · simp [e] at hg
      exact H1.holds g q hg
  · intro y hy k hk
    have := (H.ats y hy).lt hk
    rw [if_neg (by omega)]
    exact H.apart y hy k hk
theorem Own.congrF {w0 W : World} {F F' : Nat → Option Obj} {L : List Res} (H : Own w0 F L W) (h : ∀ g, F g = F' g) : Own w0 F' L W := by
  obtain rfl : F = F' := funext h
  exact H
/-- a round goes on -/
def bodyQ (K : World → Prop) : Exit → Act → World → Prop
  | .normal, _, w => K w
  | _, _, _ => False
/-- **'for x := range seq { body }', by what is owned.** The iterator lays a row for each round. -/
theorem rf_own {P : Program} {w0 w : World} {F : Nat → Option Obj} {Q : Exit → Act → World → Prop} {a : Act} {g : Operand} {ps : Array Tmp} {assign body : Code} {gf : Nat} {lb : Array Value} {n N : Nat}
    (hg : a.eval g = .func (.func gf) #[] lb) (eg : ∀ args w, (callFunc gf args).run P w = .ok (.enter gf args) w) (hps : ps.size = 1)
    (R : Nat → List Res → Prop) (RM : Nat → Act → List Res → Prop) {L0 : List Res} (H0 : Own w0 F L0 w) (hR0 : R 0 L0)
    (enc : Nat → World → Value) (ob : Nat → Obj) (C : World → Prop) (hC : ∀ F k L W, R k L → Own w0 F L W → C W)
    (hseq : ∀ l (J : Nat → World → Prop) W, (∀ k W, J k W → C W) → (∀ k W, k < N → J k W → YieldAt Fence.wide n P l #[enc k W] (W.alloc (ob k)) fun e W' => e = .returned (.bool true) ∧ J (k + 1) W') → J 0 W →
      CallsIn Fence.wide n P gf (#[.func (.yield l) #[] #[]] ++ lb) W fun e W' => (∃ v, e = .returned v) ∧ J N W')
    (hassign : ∀ F l k L W, k < N → R k L → Own w0 F L W → assign.wpIn (Fence.wide.inRound l) n P (Exit.then (fun a1 W1 => ∃ L1, RM k a1 L1 ∧ Own w0 F L1 W1) (fun _ _ _ => False)) { tmps := (ps.zip #[enc k W]).foldl (fun t (p, v) => t.setIfInBounds p v) a.tmps, defers := [] } (W.alloc (ob k)))
    (hbody : ∀ F l k a1 L W, k < N → RM k a1 L → Own w0 F L W → body.wpIn (Fence.wide.inRound l) n P (bodyQ fun W' => ∃ L', R (k + 1) L' ∧ Own w0 F L' W') a1 W)
    (hdone : ∀ F D L W, R N L → Own w0 F L W → F D = some (.deferred (some [])) → w0.heap.size ≤ D → Q .normal { a with defers := { target := .collected D, args := #[] } :: a.defers } W) :
    (Code.rangeFunc g ps assign body).wpIn Fence.wide (n + 1) P Q a w := by
  refine wpIn_rangeFunc ?_
  intro fn hfn
  obtain ⟨rec, hrec⟩ : ∃ rec : LoopState → Option Code → Loop, rec = fun st pe => { state := st, pending := pe, fn, tmps := a.tmps, params := ps, assign, body, defers := w.heap.size } := ⟨_, rfl⟩
  have hle := H0.size
  have H1 := H0.addF (.deferred (some []))
  have H2 := H1.addF (.loop (rec .ready none))
  rw [World.size_alloc] at H2
  have fl : ∀ st (FF : Nat → Option Obj), FF = (fun g => if g = w.heap.size + 1 then some (.loop (rec st none)) else if g = w.heap.size then some (.deferred (some [])) else F g) → FF (w.heap.size + 1) = some (.loop (rec st none)) ∧ FF w.heap.size = some (.deferred (some [])) := fun st FF e => by
    subst e
    simp
  obtain ⟨FF, hFF⟩ : ∃ FF : LoopState → Nat → Option Obj, FF = fun st g => if g = w.heap.size + 1 then some (.loop (rec st none)) else if g = w.heap.size then some (.deferred (some [])) else F g := ⟨_, rfl⟩
  have fl1 : ∀ st, FF st (w.heap.size + 1) = some (.loop (rec st none)) := fun st => by rw [hFF]; simp
  have fl2 : ∀ st, FF st w.heap.size = some (.deferred (some [])) := fun st => by rw [hFF]; simp
  have fput : ∀ st st' L W, Own w0 (FF st) L W → Own w0 (FF st') L (W.putObj (w.heap.size + 1) (.loop (rec st' none))) := fun st st' L W H => by
    refine (H.putF (w.heap.size + 1) _ (.loop (rec st' none)) (fl1 st) (by omega)).congrF (fun g => ?_)
    rw [hFF]
    by_cases e : g = w.heap.size + 1
    · simp [e]
    · simp [e]
  have H2' : Own w0 (FF .ready) L0 ((w.alloc (.deferred (some []))).alloc (.loop (rec .ready none))) := H2.congrF (fun g => by rw [hFF])
  generalize hW1 : (w.alloc (.deferred (some []))).alloc (.loop (rec .ready none)) = W1 at H2'
  refine ⟨w.heap.size + 1, [{ target := .collected w.heap.size, args := #[] }], W1, { target := .fn (.func gf) lb, args := #[.func (.yield (w.heap.size + 1)) #[] #[]] }, W1, gf,
    #[.func (.yield (w.heap.size + 1)) #[] #[]] ++ lb, W1, ?_, ?_, ?_, ?_, fun e => by simp [Fence.wide] at e, ?_⟩
  · rw [← hW1, hrec]; exact run_enterLoop_outer _ _ _ _ _
  · simp only [resolve, hg]
    simp [go_sem]
  · intro f' hf'; trivial
  · simp [invoke, go_sem, eg]
  · refine (hseq (w.heap.size + 1) (fun k W => ∃ L, R k L ∧ Own w0 (FF .ready) L W) W1 (fun k W ⟨L, hR, H⟩ => hC _ k L W hR H) ?_ ⟨L0, hR0, H2'⟩).mono ?_
    · rintro k W hk ⟨L, hR, H⟩
      have hlt : w.heap.size + 1 < W.heap.size := obj_lt (H.holds _ _ (fl1 .ready))
      have hl := (H.to (below_alloc (Below.refl _ _) (ob k))).holds _ _ (fl1 .ready)
      have hy := run_yield (P := P) (args := #[enc k W]) hl (by rw [hrec]; simp [hps])
      rw [hrec] at hy
      refine ⟨fn, _, assign, body, hy, roundIn_of_wpIn hfn (wpIn_mono (hassign _ _ k L W hk hR H) ?_)⟩
      intro e a1 W2 he
      cases e with
      | normal =>
        obtain ⟨L1, hM, H3⟩ := he
        have hl3 := H3.holds _ _ (fl1 .ready)
        refine ⟨_, run_beginRound hl3 (by rw [hrec]), ?_⟩
        have H4 := fput .ready .busy L1 W2 H3
        have e4 : W2.putObj (w.heap.size + 1) (.loop { rec .ready none with state := .busy }) = W2.putObj (w.heap.size + 1) (.loop (rec .busy none)) := by rw [hrec]
        rw [e4]
        refine wpIn_mono (hbody _ _ k a1 L1 _ hk hM H4) ?_
        intro e a5 W5 he
        cases e with
        | normal =>
          obtain ⟨L5, hR5, H5⟩ := he
          have hl5 := H5.holds _ _ (fl1 .busy)
          refine ⟨_, _, run_endRound none hl5, rfl, L5, hR5, ?_⟩
          have H6 := fput .busy .ready L5 W5 H5
          have e6 : (W5.putObj (w.heap.size + 1) (.loop { rec .busy none with state := if (none : Option Code).isNone then .ready else .done, pending := none })) = W5.putObj (w.heap.size + 1) (.loop (rec .ready none)) := by rw [hrec]; rfl
          rw [e6]
          exact H6
        | _ => exact he.elim
      | _ => exact he.elim
    · rintro e W2 ⟨⟨v, rfl⟩, L, hR, H⟩
      have hl2 := H.holds _ _ (fl1 .ready)
      refine ⟨none, _, by have := run_endLoop (P := P) hl2 (by rw [hrec]; simp); rw [hrec] at this; exact this, ?_⟩
      have H3 := fput .ready .exhausted L W2 H
      have e3 : (W2.putObj (w.heap.size + 1) (.loop (rec .exhausted none))) = W2.putObj (w.heap.size + 1) (.loop { state := .exhausted, pending := none, fn, tmps := a.tmps, params := ps, assign, body, defers := w.heap.size }) := by rw [hrec]
      rw [e3] at H3
      exact hdone _ w.heap.size L _ hR H3 (fl2 _) hle
end Go.Proofs.Ythlpimojojofbaa.O
