/- Texts of mine put together: Own, Ty. -/
import Derived.Test.YthhbilkmdfdfiaaDoorPkImageMore1
import Derived.Deep.MidRow
section
/- Memory that a call has made and still owns, in one fact; what stands for good; each operation on such memory. -/
namespace Go.Proofs.YthhbilkmdfdfiaaDoor.O
open Go.RowKit Go.Proofs.YthhbilkmdfdfiaaDoorW.PrintWords Go.Proofs.YthhbilkmdfdfiaaDoorW.PrintLast Go.Proofs.YthhbilkmdfdfiaaDoorW.PrintMore Go.Proofs.YthhbilkmdfdfiaaDoor.F
set_option linter.unusedVariables false
set_option linter.unusedSimpArgs false
/-- a block that is owned whole; a row (a slice value with its elements' cells) that owns its block, or nil -/
inductive Res where
  | blk (g : Nat) (t : TypeId) (c : List Value)
  | row (v : Value) (e : TypeId) (sz : Nat) (n : Nat) (xs : List Value)
def Res.block : Res → Option Nat
  | .blk g _ _ => some g
  | .row v _ _ _ _ => v.ownBlock
def Res.At (b : Nat) (W : World) : Res → Prop
  | .blk g t c => b ≤ g ∧ W.heap[g]? = some (.cells c.toArray t (0, 0))
  | .row v e sz n xs => W.ownsRow b e sz v n xs
theorem Res.At.lt {b : Nat} {W : World} {r : Res} (h : r.At b W) {k : Nat} (hk : r.block = some k) : k < W.heap.size := by
  cases r with
  | blk g t c =>
    have : g = k := by simpa [Res.block] using hk
    subst this
    exact blk_lt h.2
  | row v e sz n xs => exact own_lt h k hk
theorem Res.At.base {b : Nat} {W : World} {r : Res} (h : r.At b W) {k : Nat} (hk : r.block = some k) : b ≤ k := by
  cases r with
  | blk g t c =>
    have : g = k := by simpa [Res.block] using hk
    subst this
    exact h.1
  | row v e sz n xs => exact own_base h k hk
theorem Res.At.move {b : Nat} {W W' : World} {r : Res} (h : r.At b W) (hm : ∀ k, r.block = some k → W'.heap[k]? = W.heap[k]?) : r.At b W' := by
  cases r with
  | blk g t c => exact ⟨h.1, (hm g rfl).trans h.2⟩
  | row v e sz n xs => exact own_move h hm
/-- where a resource stands on the list, and the list with another one in its place -/
inductive In : List Res → Res → (Res → List Res) → Prop
  | head {r : Res} {L : List Res} : In (r :: L) r (fun r' => r' :: L)
  | tail {x r : Res} {L : List Res} {c : Res → List Res} : In L r c → In (x :: L) r (fun r' => x :: c r')
theorem In.split {L : List Res} {r : Res} {c : Res → List Res} (h : In L r c) : ∃ A B, L = A ++ r :: B ∧ ∀ r', c r' = A ++ r' :: B := by
  induction h with
  | head => exact ⟨[], _, rfl, fun _ => rfl⟩
  | tail _ ih =>
    obtain ⟨A, B, rfl, hc⟩ := ih
    exact ⟨_ :: A, B, rfl, fun r' => congrArg (List.cons _) (hc r')⟩
theorem In.mem {L : List Res} {r : Res} {c : Res → List Res} (h : In L r c) : r ∈ L := by
  obtain ⟨A, B, rfl, -⟩ := h.split
  simp
inductive Del : List Res → Res → List Res → Prop
  | head {r : Res} {L : List Res} : Del (r :: L) r L
  | tail {x r : Res} {L L' : List Res} : Del L r L' → Del (x :: L) r (x :: L')
theorem Del.split {L L' : List Res} {r : Res} (h : Del L r L') : ∃ A B, L = A ++ r :: B ∧ L' = A ++ B := by
  induction h with
  | head => exact ⟨[], _, rfl, rfl⟩
  | tail _ ih =>
    obtain ⟨A, B, rfl, rfl⟩ := ih
    exact ⟨_ :: A, B, rfl, rfl⟩
structure Own (w0 : World) (F : Nat → Option Obj) (L : List Res) (W : World) : Prop where
  below : Below w0.heap.size w0 W
  holds : ∀ g o, F g = some o → W.heap[g]? = some o
  ats : ∀ r ∈ L, r.At w0.heap.size W
  apart : ∀ r ∈ L, ∀ k, r.block = some k → F k = none
  sep : L.Pairwise (fun a b => ∀ k, a.block = some k → b.block ≠ some k)
def F0 : Nat → Option Obj := fun _ => none
section
variable {w0 W W' : World} {F : Nat → Option Obj} {L L' : List Res} {r r' : Res} {c : Res → List Res}
theorem Own.start (w : World) : Own w F0 [] w := ⟨Below.refl _ _, (fun g o h => by cases h), (by simp), (by simp), List.Pairwise.nil⟩
theorem Own.size (H : Own w0 F L W) : w0.heap.size ≤ W.heap.size := H.below.size
theorem Own.at_ (H : Own w0 F L W) (hI : In L r c) : r.At w0.heap.size W := H.ats r hI.mem
theorem Own.to (H : Own w0 F L W) (hb : Below W.heap.size W W') : Own w0 F L W' where
  below := H.below.trans (hb.mono H.size)
  holds := fun g o h => by
    have h1 := H.holds g o h
    exact (hb.block g (blk_lt' h1)).trans h1
  ats := fun r hr => (H.ats r hr).move (fun k hk => hb.block k ((H.ats r hr).lt hk))
  apart := H.apart
  sep := H.sep
where blk_lt' {W : World} {g : Nat} {o : Obj} (h : W.heap[g]? = some o) : g < W.heap.size := (Array.getElem?_eq_some_iff.1 h).1
theorem obj_lt {W : World} {g : Nat} {o : Obj} (h : W.heap[g]? = some o) : g < W.heap.size := (Array.getElem?_eq_some_iff.1 h).1
theorem Own.drew (H : Own w0 F L W) : Own w0 F L W.drew := H.to (below_drew1 (Below.refl _ _))
theorem Own.cons (H : Own w0 F L W) (hb : Below W.heap.size W W') (hr : r.At w0.heap.size W') (hk : ∀ k, r.block = some k → W.heap.size ≤ k) : Own w0 F (r :: L) W' := by
  have H' := H.to hb
  refine ⟨H'.below, H'.holds, ?_, ?_, ?_⟩
  · intro x hx
    rcases List.mem_cons.1 hx with rfl | hx
    · exact hr
    · exact H'.ats x hx
  · intro x hx k hxk
    rcases List.mem_cons.1 hx with rfl | hx
    · cases hF : F k with
      | none => rfl
      | some o =>
        have h1 := obj_lt (H.holds k o hF)
        have h2 := hk k hxk
        omega
    · exact H'.apart x hx k hxk
  · refine List.Pairwise.cons (fun x hx k h1 h2 => ?_) H'.sep
    have h3 := (H.ats x hx).lt h2
    have h4 := hk k h1
    omega
theorem Own.repl (H : Own w0 F L W) (hI : In L r c) (hg : W.grownBy W' r.block) (hr : r'.At w0.heap.size W') (hk : ∀ k, r'.block = some k → r.block = some k ∨ W.heap.size ≤ k) : Own w0 F (c r') W' := by
  obtain ⟨A, B, rfl, hc⟩ := hI.split
  rw [hc]
  have hrm : r ∈ A ++ r :: B := by simp
  have mid : ∀ x, (x ∈ A ∨ x ∈ B) → x ∈ A ++ r :: B := fun x hx => by
    rcases hx with hx | hx
    · simp [hx]
    · simp [hx]
  have hs := H.sep
  rw [List.pairwise_append] at hs
  obtain ⟨sA, sB, sAB⟩ := hs
  obtain ⟨sr, sB⟩ := List.pairwise_cons.1 sB
  have other : ∀ x, (x ∈ A ∨ x ∈ B) → ∀ k, x.block = some k → some k ≠ r.block := by
    intro x hx k hxk hrk
    rcases hx with hx | hx
    · exact sAB x hx r (by simp) k hxk hrk.symm
    · exact sr x hx k hrk.symm hxk
  have keep : ∀ x, (x ∈ A ∨ x ∈ B) → ∀ k, x.block = some k → W'.heap[k]? = W.heap[k]? := fun x hx k hxk =>
    hg.block k ((H.ats x (mid x hx)).lt hxk) (other x hx k hxk)
  have new : ∀ x, (x ∈ A ∨ x ∈ B) → ∀ k, r'.block = some k → x.block ≠ some k := by
    intro x hx k h1 h2
    rcases hk k h1 with h3 | h3
    · exact other x hx k h2 h3.symm
    · have := (H.ats x (mid x hx)).lt h2
      omega
  refine ⟨H.below.grown hg H.size (fun k hk' => (H.ats r hrm).base hk'), ?_, ?_, ?_, ?_⟩
  · intro g o hF
    have h1 := H.holds g o hF
    refine (hg.block g (obj_lt h1) (fun he => ?_)).trans h1
    have := H.apart r hrm g he.symm
    rw [hF] at this
    cases this
  · intro x hx
    rcases List.mem_append.1 hx with hx | hx
    · exact (H.ats x (by simp [hx])).move (keep x (.inl hx))
    · rcases List.mem_cons.1 hx with rfl | hx
      · exact hr
      · exact (H.ats x (by simp [hx])).move (keep x (.inr hx))
  · intro x hx k hxk
    rcases List.mem_append.1 hx with hx | hx
    · exact H.apart x (by simp [hx]) k hxk
    · rcases List.mem_cons.1 hx with rfl | hx
      · rcases hk k hxk with h3 | h3
        · exact H.apart r hrm k h3
        · cases hF : F k with
          | none => rfl
          | some o => have := obj_lt (H.holds k o hF); omega
      · exact H.apart x (by simp [hx]) k hxk
  · rw [List.pairwise_append]
    refine ⟨sA, List.Pairwise.cons (fun x hx k h1 => new x (.inr hx) k h1) sB, ?_⟩
    intro x hx y hy k h1 h2
    rcases List.mem_cons.1 hy with rfl | hy
    · exact new x (.inl hx) k h2 h1
    · exact sAB x hx y (by simp [hy]) k h1 h2
theorem Own.del (H : Own w0 F L W) (hD : Del L r L') : Own w0 F L' W := by
  obtain ⟨A, B, rfl, rfl⟩ := hD.split
  have hsub : (A ++ B).Sublist (A ++ r :: B) := List.Sublist.append (List.Sublist.refl _) (List.sublist_cons_self _ _)
  exact ⟨H.below, H.holds, fun x hx => H.ats x (hsub.subset hx), fun x hx => H.apart x (hsub.subset hx), H.sep.sublist hsub⟩
theorem Own.perm (H : Own w0 F L W) (hp : L.Perm L') : Own w0 F L' W :=
  ⟨H.below, H.holds, fun x hx => H.ats x (hp.mem_iff.2 hx), fun x hx => H.apart x (hp.mem_iff.2 hx), hp.pairwise H.sep (fun hab k h1 h2 => hab k h2 h1)⟩
/-! ### what stands for good -/
def Stands (F : Nat → Option Obj) (p : World → Prop) : Prop := ∀ W : World, (∀ g o, F g = some o → W.heap[g]? = some o) → p W
def Fle (F F' : Nat → Option Obj) : Prop := ∀ g o, F g = some o → F' g = some o
theorem Fle.refl (F : Nat → Option Obj) : Fle F F := fun _ _ h => h
theorem Fle.trans {F G I : Nat → Option Obj} (h : Fle F G) (k : Fle G I) : Fle F I := fun g o hF => k g o (h g o hF)
theorem Stands.mono {F F' : Nat → Option Obj} {p : World → Prop} (h : Stands F p) (hF : Fle F F') : Stands F' p := fun W hW => h W (fun g o hg => hW g o (hF g o hg))
theorem Own.use {p : World → Prop} (H : Own w0 F L W) (h : Stands F p) : p W := h W H.holds
def fz (F : Nat → Option Obj) (W : World) (b : Option Nat) : Nat → Option Obj := fun g => if b = some g then W.heap[g]? else F g
theorem Own.fle (H : Own w0 F L W) (b : Option Nat) (hb : ∀ k, b = some k → F k = none) : Fle F (fz F W b) := fun g o hF => by
  unfold fz
  rw [if_neg (fun he => by have := hb g he; rw [hF] at this; cases this)]
  exact hF
theorem Own.freeze (H : Own w0 F L W) (hD : Del L r L') : Own w0 (fz F W r.block) L' W ∧ Fle F (fz F W r.block) ∧ Stands (fz F W r.block) (r.At w0.heap.size) := by
  have H' := H.del hD
  obtain ⟨A, B, rfl, rfl⟩ := hD.split
  have hrm : r ∈ A ++ r :: B := by simp
  refine ⟨⟨H'.below, ?_, H'.ats, ?_, H'.sep⟩, H.fle _ (fun k hk => H.apart r hrm k hk), ?_⟩
  · intro g o h
    unfold fz at h
    split at h
    · exact h
    · exact H.holds g o h
  · intro x hx k hk
    unfold fz
    rw [if_neg]
    · exact H'.apart x hx k hk
    · intro he
      have hs := H.sep
      rw [List.pairwise_append] at hs
      obtain ⟨sA, sB, sAB⟩ := hs
      obtain ⟨sr, sB⟩ := List.pairwise_cons.1 sB
      rcases List.mem_append.1 hx with hx | hx
      · exact sAB x hx r (by simp) k hk he
      · exact sr x hx k he hk
  · intro X hX
    refine (H.ats r hrm).move (fun k hk => ?_)
    have hlt := (H.ats r hrm).lt hk
    have := hX k (W.heap[k]) (by unfold fz; rw [if_pos hk]; exact Array.getElem?_eq_getElem hlt)
    rw [this, Array.getElem?_eq_getElem hlt]
def fn (F : Nat → Option Obj) (W W' : World) : Nat → Option Obj := fun g => if W.heap.size ≤ g ∧ g < W'.heap.size then W'.heap[g]? else F g
theorem Own.freezeNew (H : Own w0 F L W) (hb : Below W.heap.size W W') : Own w0 (fn F W W') L W' ∧ Fle F (fn F W W') := by
  have H' := H.to hb
  refine ⟨⟨H'.below, ?_, H'.ats, ?_, H'.sep⟩, ?_⟩
  · intro g o h
    unfold fn at h
    split at h
    · exact h
    · exact H'.holds g o h
  · intro x hx k hk
    unfold fn
    rw [if_neg]
    · exact H'.apart x hx k hk
    · have := (H.ats x hx).lt hk
      omega
  · intro g o hF
    unfold fn
    have := obj_lt (H.holds g o hF)
    rw [if_neg (by omega)]
    exact hF
theorem Stands.R {α : Type} {d : Kd α} {e : Nat} {ok : Nat → Prop} {v : Value} {xs : List α} (h : Kd.R d e W' W.heap.size ok v xs) : Stands (fn F W W') (fun X => Kd.R d e X W.heap.size ok v xs) := fun X hX => by
  refine Kd.R_mono (Kd.R_move (Kd.R_bound h) (fun k hk => ?_)) (fun _ hk => hk.1)
  have hlt := hk.2.2.1
  have := hX k (W'.heap[k]) (by unfold fn; rw [if_pos ⟨hk.2.1, hlt⟩]; exact Array.getElem?_eq_getElem hlt)
  rw [this, Array.getElem?_eq_getElem hlt]
/-! ### blocks -/
theorem Own.heap {g : Nat} {t : TypeId} {cs : List Value} (H : Own w0 F L W) (hI : In L (.blk g t cs) c) : W.heap[g]? = some (.cells cs.toArray t (0, 0)) := (H.at_ hI).2
theorem Own.cell {g : Nat} {t : TypeId} {cs : List Value} (H : Own w0 F L W) (hI : In L (.blk g t cs) c) (i : Nat) : W.cell? ⟨g, i, none⟩ = cs[i]? := by
  rw [blk_cell (H.heap hI) i]
  simp
theorem Own.frozen {g : Nat} {t : TypeId} {cs : List Value} (H : Own w0 F L W) (hI : In L (.blk g t cs) c) (i : Nat) : W.frozen? ⟨g, i, none⟩ = false := frozen_of_row W g i _ t (H.heap hI)
theorem Own.lt {g : Nat} {t : TypeId} {cs : List Value} (H : Own w0 F L W) (hI : In L (.blk g t cs) c) : g < W.heap.size := obj_lt (H.heap hI)
theorem Own.alloc (H : Own w0 F L W) (t : TypeId) (cs : List Value) : Own w0 F (.blk W.heap.size t cs :: L) (W.alloc (.cells cs.toArray t)) :=
  H.cons (below_alloc (Below.refl _ _) _) ⟨H.size, blk_new W _⟩ (fun k hk => by simp [Res.block] at hk; omega)
theorem setCells_grown (g : Nat) : ∀ (vs : List Value) (o : Nat) (w : World), w.grownBy (w.setCells g o vs) (some g)
  | [], _, w => ⟨rfl, rfl, rfl, Nat.le_refl _, fun _ _ _ => rfl⟩
  | v :: r, o, w => by
    have h1 : w.grownBy (w.setCell ⟨g, o, none⟩ v) (some g) := ⟨rfl, rfl, rfl, by simp [World.setCell], fun k _ hk => Below.heap_setCell w ⟨g, o, none⟩ v k (fun e => hk (by rw [e]))⟩
    have h2 := setCells_grown g r (o + 1) (w.setCell ⟨g, o, none⟩ v)
    have hs : (w.setCell ⟨g, o, none⟩ v).heap.size = w.heap.size := by simp [World.setCell]
    exact ⟨h2.os.trans h1.os, h2.tape.trans h1.tape, h2.output.trans h1.output, Nat.le_trans h1.size h2.size, fun k hk hn => (h2.block k (by omega) hn).trans (h1.block k hk hn)⟩
theorem splice_cons {α : Type} (c : List α) (o : Nat) (v : α) (r : List α) (h : o + (v :: r).length ≤ c.length) : splice (c.set o v) (o + 1) r = splice c o (v :: r) := by
  have hl : o < c.length := by simp at h; omega
  have h1 : (c.set o v).take (o + 1) = c.take o ++ [v] := by
    rw [List.take_add_one, List.getElem?_set_self hl]
    congr 1
    apply List.ext_getElem?
    intro j
    rw [List.getElem?_take, List.getElem?_take]
    split
    · rw [List.getElem?_set_ne (by omega)]
    · rfl
  have h2 : (c.set o v).drop (o + 1 + r.length) = c.drop (o + (v :: r).length) := by
    apply List.ext_getElem?
    intro j
    rw [List.getElem?_drop, List.getElem?_drop, List.getElem?_set_ne (by omega), List.length_cons, show o + 1 + r.length = o + (r.length + 1) by omega]
  unfold splice
  rw [h1, h2]
  simp
theorem setCells_heap (g : Nat) (t : TypeId) : ∀ (vs : List Value) (o : Nat) (w : World) (cs : List Value), w.heap[g]? = some (.cells cs.toArray t (0, 0)) → o + vs.length ≤ cs.length → (w.setCells g o vs).heap[g]? = some (.cells (splice cs o vs).toArray t (0, 0))
  | [], o, w, cs, h, _ => by
    rw [show splice cs o ([] : List Value) = cs by simp [splice]]
    exact h
  | v :: r, o, w, cs, h, hl => by
    have h1 : (w.setCell ⟨g, o, none⟩ v).heap[g]? = some (.cells (cs.set o v).toArray t (0, 0)) := blk_put h o v (by simp)
    have h2 := setCells_heap g t r (o + 1) (w.setCell ⟨g, o, none⟩ v) (cs.set o v) h1 (by simp at hl ⊢; omega)
    rw [splice_cons cs o v r hl] at h2
    exact h2
theorem Own.setCells {g : Nat} {t : TypeId} {cs : List Value} (H : Own w0 F L W) (hI : In L (.blk g t cs) c) (o : Nat) (vs : List Value) (hfit : o + vs.length ≤ cs.length) : Own w0 F (c (.blk g t (splice cs o vs))) (W.setCells g o vs) :=
  H.repl hI (setCells_grown g vs o W) ⟨(H.at_ hI).1, setCells_heap g t vs o W cs (H.heap hI) hfit⟩ (fun k hk => .inl hk)
theorem splice_one {α : Type} (c : List α) (o : Nat) (v : α) : o < c.length → splice c o [v] = c.set o v := by
  intro h
  rw [← splice_cons c o v [] (by simp; omega)]
  simp [splice]
theorem Own.set {g : Nat} {t : TypeId} {cs : List Value} (H : Own w0 F L W) (hI : In L (.blk g t cs) c) (o : Nat) (v : Value) (hfit : o < cs.length) : Own w0 F (c (.blk g t (cs.set o v))) (W.setCell ⟨g, o, none⟩ v) := by
  have := H.setCells hI o [v] (by simp; omega)
  rw [splice_one cs o v hfit] at this
  exact this
theorem Own.range {g : Nat} {t : TypeId} {cs : List Value} (H : Own w0 F L W) (hI : In L (.blk g t cs) c) (o n : Nat) : W.rangeAt g o ((cs.drop o).take n) := fun j v hv => by
  rw [H.cell hI]
  rw [List.getElem?_take] at hv
  split at hv
  · rwa [List.getElem?_drop] at hv
  · cases hv
theorem Own.there {g : Nat} {t : TypeId} {cs : List Value} (H : Own w0 F L W) (hI : In L (.blk g t cs) c) (o n : Nat) (h : o + n ≤ cs.length) : W.there g o n := fun j hj => by
  rw [H.cell hI, List.getElem?_eq_getElem (by omega)]
  exact ⟨rfl, H.frozen hI _⟩
/-- a piece of a block of numbers, as a slice reads it -/
theorem Own.C {g : Nat} {t : TypeId} {k : IntKind} {xs : List Int} (H : Own w0 F L W) (hI : In L (.blk g t (nums k xs)) c) (o n : Nat) (hn : o + n ≤ xs.length) (hl : n ≤ 9223372036854775807) : (Kd.int k).C W (some ⟨g, o, none⟩) n ((xs.drop o).take n) := by
  have hlen : ((xs.drop o).take n).length = n := by rw [List.length_take, List.length_drop]; omega
  refine ⟨hlen, hl, fun _ => ⟨_, rfl, fun j p hj => ⟨[.int k p], rfl, rfl, fun i u hu => ?_⟩⟩⟩
  have hi0 : i = 0 := by have := (List.getElem?_eq_some_iff.1 hu).1; simpa using this
  subst hi0
  have hjn : j < n := by have := (List.getElem?_eq_some_iff.1 hj).1; omega
  rw [List.getElem?_take_of_lt hjn, List.getElem?_drop] at hj
  simp at hu
  subst hu
  rw [show (Kd.int k).sz = 1 from rfl, addr_add, H.cell hI]
  rw [show o + (j * 1 + 0) = o + j by omega, nums, List.getElem?_map, hj]
  rfl
/-! ### rows of numbers -/
theorem Own.addR {k : IntKind} {e : Nat} {ok : Nat → Prop} {v : Value} {xs : List Int} (H : Own w0 F L W) (hb : Below W.heap.size W W') (hR : Kd.R (Kd.int k) e W' W.heap.size ok v xs) : Own w0 F (.row v e 1 xs.length (nums k xs) :: L) W' :=
  H.cons hb (own_weaken (Kd.own_of_R hR) H.size) (fun j hj => own_base (Kd.own_of_R hR) j hj)
theorem Own.R {k : IntKind} {e : Nat} {v : Value} {xs : List Int} (H : Own w0 F L W) (hI : In L (.row v e 1 xs.length (nums k xs)) c) : Kd.R (Kd.int k) e W w0.heap.size (fun _ => True) v xs := Kd.R_of_own (H.at_ hI) (fun _ _ => trivial)
end
section
variable {w0 W : World} {F : Nat → Option Obj} {L : List Res} {c : Res → List Res}
/-- a row of one's own is read -/
theorem Own.rowC {k : IntKind} {A : Option Addr} {n cc : Nat} {e : TypeId} {xs : List Int} (H : Own w0 F L W) (hI : In L (.row (.slice A n cc) e 1 n (nums k xs)) c) : n ≤ cc ∧ xs.length = n ∧ (Kd.int k).C W A n xs := by
  have h := H.at_ hI
  have hl : xs.length = n := by have := h.1; rw [nums_length, Nat.mul_one] at this; exact this
  subst hl
  obtain ⟨-, h2, h3⟩ := Kd.R_reads' (d := Kd.int k) (e := e) (base := w0.heap.size) (ok := fun _ => True) (xs := xs) (Kd.R_of_own h (fun _ _ => trivial))
  exact ⟨h2, rfl, h3⟩
/-- the shape of a row -/
theorem Own.row_slice {v : Value} {n sz : Nat} {e : TypeId} {xs : List Value} (H : Own w0 F L W) (hI : In L (.row v e sz n xs) c) : ∃ A cc, v = .slice A n cc := own_slice (H.at_ hI)
end
/-! ### the operations -/
section
variable {P : Program} {o : Oper} {a : Act} {K : Act → World → Prop} {Q : Exit → Act → World → Prop} {w0 W : World} {F : Nat → Option Obj} {L : List Res} {c : Res → List Res}
theorem w_alloc (H : Own w0 F L W) (t : TypeId) (ho : o.op = .alloc t) (z : Value) (hz : (P.info? t).bind (·.zero) = some z)
    (h : ∀ g W', Own w0 F (.blk g t z.cells.toList :: L) W' → K (a.put o.dst (.pointer (some ⟨g, 0, none⟩))) W') : o.wp P a W K Q := by
  obtain ⟨i, hi, hz⟩ := Option.bind_eq_some_iff.1 hz
  have hrun : (execOp a.eval o).run P W = .ok (.value (.pointer (some ⟨W.heap.size, 0, none⟩))) (W.alloc (.cells z.cells t)) := by
    unfold execOp
    simp [ho, Instr.alloc, zeroValue, typeInfo, hi, hz, newVar, newRow]
  unfold Oper.wp
  rw [hrun]
  have := H.alloc t z.cells.toList
  exact h _ _ (by simpa using this)
theorem w_box (H : Own w0 F L W) (t : TypeId) (x : Operand) (ho : o.op = .box t x) (v : Value) (hx : a.eval x = v)
    (h : ∀ g W', Own w0 F (.blk g t v.cells.toList :: L) W' → K (a.put o.dst (.pointer (some ⟨g, 0, none⟩))) W') : o.wp P a W K Q := by
  have hrun : (execOp a.eval o).run P W = .ok (.value (.pointer (some ⟨W.heap.size, 0, none⟩))) (W.alloc (.cells v.cells t)) := by
    unfold execOp
    simp [ho, Instr.box, newVar, newRow, hx]
  unfold Oper.wp
  rw [hrun]
  have := H.alloc t v.cells.toList
  exact h _ _ (by simpa using this)
theorem w_load (H : Own w0 F L W) (ty : TypeId) (x : Operand) (ho : o.op = .load ty x) (g off : Nat) (hx : a.eval x = .pointer (some ⟨g, off, none⟩)) {t : TypeId} {cs : List Value} (hI : In L (.blk g t cs) c)
    (n : Nat) (d : TypeDesc) (hu : P.underlying ty = some d) (hd : d.isRow = true) (hi : (P.info? ty).map (·.size) = some n) (hfit : off + n ≤ cs.length) (h : K (a.put o.dst (.agg ((cs.drop off).take n).toArray)) W) : o.wp P a W K Q :=
  wp_load_mid ty x ho g off hx _ d (H.range hI off n) hu hd (by rw [hi, List.length_take, List.length_drop]; congr 1; omega) h
theorem w_load1 (H : Own w0 F L W) (ty : TypeId) (x : Operand) (ho : o.op = .load ty x) (g off : Nat) (hx : a.eval x = .pointer (some ⟨g, off, none⟩)) {t : TypeId} {cs : List Value} (hI : In L (.blk g t cs) c)
    (d : TypeDesc) (hu : P.underlying ty = some d) (hd : d.isRow = false) (v : Value) (hv : cs[off]? = some v) (h : K (a.put o.dst v) W) : o.wp P a W K Q := by
  have hag : (isAgg ty).run P W = .ok false W := by
    unfold isAgg
    rw [Sem.run_bind, run_underlying hu W]
    cases d <;> simp_all
  have hc := H.cell hI off
  rw [hv] at hc
  have hrun : (execOp a.eval o).run P W = .ok (.value v) W := by
    unfold execOp
    simp [ho, hx, Instr.loadAt, Instr.sureAddr, loadVar, hag, hc]
  unfold Oper.wp
  rw [hrun]
  exact h
theorem w_store (H : Own w0 F L W) (ty : TypeId) (x y : Operand) (ho : o.op = .store ty x y) (g off : Nat) (hx : a.eval x = .pointer (some ⟨g, off, none⟩)) (v : Value) (hy : a.eval y = v) {t : TypeId} {cs : List Value} (hI : In L (.blk g t cs) c)
    (hi : (P.info? ty).map (·.size) = some v.cells.size) (hfit : off + v.cells.size ≤ cs.length) (h1 : ∀ u ∈ v.cells.toList, u.oneCell' = true)
    (h : ∀ W', Own w0 F (c (.blk g t (splice cs off v.cells.toList))) W' → K (a.put o.dst undef) W') : o.wp P a W K Q := by
  have hth := H.there hI off v.cells.toList.length (by simpa using hfit)
  have := run_storeCells_cells (P := P) g off v.cells.toList 0 W (fun j hj => by simpa using (hth j hj).1) (fun j hj => by simpa using (hth j hj).2) h1
  have hrun : (execOp a.eval o).run P W = .ok .skip (W.setCells g off v.cells.toList) := by
    obtain ⟨i, hi, hs⟩ := Option.map_eq_some_iff.1 hi
    unfold execOp
    simp only [Nat.add_zero] at this
    simp [ho, hx, hy, Instr.storeAt, Instr.sureAddr, storeVar, sizeOf, typeInfo, hi, hs, this]
  unfold Oper.wp
  rw [hrun]
  exact h _ (H.setCells hI off _ (by simpa using hfit))
theorem w_store1 (H : Own w0 F L W) (ty : TypeId) (x y : Operand) (ho : o.op = .store ty x y) (g off : Nat) (hx : a.eval x = .pointer (some ⟨g, off, none⟩)) (v : Value) (hy : a.eval y = v) {t : TypeId} {cs : List Value} (hI : In L (.blk g t cs) c)
    (hv : v.cells = #[v]) (h1 : v.oneCell' = true) (hi : (P.info? ty).map (·.size) = some 1) (hfit : off < cs.length)
    (h : ∀ W', Own w0 F (c (.blk g t (cs.set off v))) W' → K (a.put o.dst undef) W') : o.wp P a W K Q := by
  refine w_store H ty x y ho g off hx v hy hI (by rw [hi, hv]; rfl) (by rw [hv]; exact hfit) (by rw [hv]; simpa using h1) ?_
  intro W' H'
  rw [hv, show (#[v] : Array Value).toList = [v] from rfl, splice_one _ _ _ hfit] at H'
  exact h W' H'
theorem madeCells_one (z : Value) (n : Nat) : (madeCells #[z] n).toList = List.replicate n z := by
  apply List.ext_getElem?
  intro j
  simp [madeCells, List.getElem?_replicate]
  by_cases hj : j < n
  · simp [hj, Nat.mod_one]
  · simp [hj]
theorem w_make1 (H : Own w0 F L W) (t e : TypeId) (x y : Operand) (ho : o.op = .makeSlice t x y) (n : Nat) (hx : a.eval x = .int .i64 n) (hy : a.eval y = .int .i64 n) (ht : P.underlying t = some (.slice e)) (z : Value) (hz1 : z.cells = #[z]) (bytes : Nat)
    (hinfo : (P.info? e).map (fun i => (i.zero, i.size, i.bytes)) = some (some z, 1, bytes)) (hl : n * bytes ≤ 281474976710656) (hm : n ≤ 9223372036854775807)
    (h : ∀ g W', Own w0 F (.blk g e (List.replicate n z) :: L) W' → K (a.put o.dst (.slice (some ⟨g, 0, none⟩) n n)) W') : o.wp P a W K Q := by
  obtain ⟨i, hi, hzz⟩ := Option.map_eq_some_iff.1 hinfo
  simp only [Prod.mk.injEq] at hzz
  obtain ⟨hz0, hs, hb⟩ := hzz
  have hbi : ((i.bytes : Nat) : Int) * (n : Int) ≤ 281474976710656 := by
    rw [hb, Int.mul_comm, ← Int.natCast_mul]
    omega
  have hr := run_make (P := P) W t e i z ht hi hz0 .i64 .i64 (n : Int) (n : Int) (by omega) (Int.le_refl _) hbi (by omega)
  simp only [Int.toNat_natCast, hs, Nat.mul_one, hz1] at hr
  have hrun : (execOp a.eval o).run P W = .ok (.value (.slice (some ⟨W.heap.size, 0, none⟩) n n)) (W.alloc (.cells (madeCells #[z] n) e)) := by
    unfold execOp
    simp [ho, hx, hy, hr]
  unfold Oper.wp
  rw [hrun]
  refine h _ _ ?_
  have e1 : madeCells #[z] n = (List.replicate n z).toArray := by rw [← madeCells_one z n, Array.toArray_toList]
  rw [e1]
  exact H.alloc e _
theorem fill_go : ∀ (l : List (Value × Nat)) (Z : Array Value), (l.foldl (fun cs (c, j) => cs.setIfInBounds (0 + j) c) Z).size = Z.size
  | [], Z => rfl
  | (c, j) :: l, Z => by
    rw [List.foldl_cons, fill_go l]
    simp
theorem fill_get (v : Array Value) : ∀ (n : Nat) (Z : Array Value), n ≤ v.size → Z.size = v.size →
    ∀ j, j < n → ((v.zipIdx.toList.take n).foldl (fun cs (c, j) => cs.setIfInBounds (0 + j) c) Z)[j]? = v[j]?
  | 0, Z, _, _, j, hj => by omega
  | n + 1, Z, hn, hZ, j, hj => by
    have hl : n < v.zipIdx.toList.length := by simp; omega
    rw [List.take_add_one, List.getElem?_eq_getElem hl, List.foldl_append]
    have hs := fill_go (v.zipIdx.toList.take n) Z
    have ih := fill_get v n Z (by omega) hZ
    simp only [Option.toList_some, List.foldl_cons, List.foldl_nil, Array.getElem_toList, Array.getElem_zipIdx]
    rw [Array.getElem?_setIfInBounds]
    by_cases h : j = n
    · subst h
      rw [if_pos (by omega), if_pos (by rw [hs]; omega)]
      simp
    · rw [if_neg (by omega)]
      exact ih j (by omega)
theorem fill_all (v Z : Array Value) (hZ : Z.size = v.size) : v.zipIdx.foldl (fun cs (c, j) => cs.setIfInBounds (0 + j) c) Z = v := by
  rw [← Array.foldl_toList]
  have ht : v.zipIdx.toList.take v.size = v.zipIdx.toList := List.take_of_length_le (by simp)
  rw [← ht]
  apply Array.ext
  · rw [fill_go, hZ]
  · intro j h1 h2
    have := fill_get v v.size Z (Nat.le_refl _) hZ j h2
    rw [Array.getElem?_eq_getElem h1, Array.getElem?_eq_getElem h2] at this
    exact Option.some.inj this
/-- []T{x} -/
theorem w_build1 (H : Own w0 F L W) (t e : TypeId) (x : Operand) (ho : o.op = .buildSlice t 1 #[(0, x)]) (ht : P.underlying t = some (.slice e)) (v : Value) (hx : a.eval x = v) (z : Value) (size : Nat)
    (hinfo : (P.info? e).map (fun i => (i.zero, i.size)) = some (some z, size)) (hz : z.cells.size = size) (hv : v.cells.size = size) (hs0 : 0 < size) (hs : size ≤ 16777216)
    (h : ∀ g W', Own w0 F (.blk g e v.cells.toList :: L) W' → K (a.put o.dst (.slice (some ⟨g, 0, none⟩) 1 1)) W') : o.wp P a W K Q := by
  obtain ⟨i, hi, hzz⟩ := Option.map_eq_some_iff.1 hinfo
  simp only [Prod.mk.injEq] at hzz
  obtain ⟨hz0, hsz⟩ := hzz
  have hfill : Instr.fill (fun i => some (i * size, size)) ((Array.range (1 * size)).map (z.cells[· % z.cells.size]!)) [(0, v)] = some v.cells := by
    simp only [Instr.fill, Nat.zero_mul]
    rw [if_neg (by simp [hv])]
    rw [fill_all v.cells _ (by simp [hv])]
  have hrun : (execOp a.eval o).run P W = .ok (.value (.slice (some ⟨W.heap.size, 0, none⟩) 1 1)) (W.alloc (.cells v.cells e)) := by
    unfold execOp
    have n1 : ¬ (2 ^ 24 < 1 * size) := by omega
    have n2 : ¬ (1 * size = 0) := by omega
    simp only [ho, Instr.buildSlice, Sem.run_bind, run_underlying ht, Result.andThen_ok, List.map_toArray, List.map_cons, List.map_nil, hx]
    simp only [sizeOf, typeInfo, hi, hsz, zeroValue, hz0] 
    simp [hi, hsz, hz0, n1, n2, hs0, Nat.ne_of_gt hs0, newRow]
    simp only [Nat.one_mul] at hfill
    simp [hfill, show ¬ (16777216 < size) by omega]
  unfold Oper.wp
  rw [hrun]
  have := H.alloc e v.cells.toList
  exact h _ _ (by simpa using this)
/-- []T{} -/
theorem w_build0 (H : Own w0 F L W) (t e : TypeId) (ho : o.op = .buildSlice t 0 #[]) (ht : P.underlying t = some (.slice e)) (hinfo : (P.info? e).isSome = true)
    (h : ∀ g W', Own w0 F (.row (.slice (some ⟨g, 0, none⟩) 0 0) e ((P.info? e).map (·.size)).get! 0 [] :: L) W' → K (a.put o.dst (.slice (some ⟨g, 0, none⟩) 0 0)) W') : o.wp P a W K Q := by
  obtain ⟨i, hi⟩ := Option.isSome_iff_exists.1 hinfo
  have hrun : (execOp a.eval o).run P W = .ok (.value (.slice (some ⟨W.heap.size, 0, none⟩) 0 0)) (W.alloc (.cells #[] e)) := by
    unfold execOp
    simp [ho, Instr.buildSlice, run_underlying ht, sizeOf, typeInfo, hi, Instr.fill, newRow, Array.range_zero']
  unfold Oper.wp
  rw [hrun]
  refine h _ _ (H.cons (below_alloc (Below.refl _ _) _) ?_ (fun k hk => by simp [Res.block, Value.ownBlock] at hk; omega))
  exact World.ownsRow_lit W #[] 0 H.size (by decide) (by simp)
/-- append, onto a row of one's own -/
theorem w_append (H : Own w0 F L W) (s x : Operand) (t e : TypeId) (ho : o.op = .call { callee := .builtin .append, args := #[s, x], argTypes := #[t, t] }) (ht : P.underlying t = some (.slice e)) (z : Value) (size bytes : Nat)
    (hinfo : (P.info? e).map (fun i => (i.zero, i.size, i.bytes)) = some (some z, size, bytes)) (hz : z.cells.size = size) (hs0 : 0 < size) (hb0 : 0 < bytes) (v : Value) (n : Nat) (xs : List Value) (hs : a.eval s = v) (hI : In L (.row v e size n xs) c)
    (A : Option Addr) (m cc : Nat) (news : List Value) (hx : a.eval x = .slice A m cc) (hl : news.length = m * size) (hsrc : 0 < m → ∃ ad, A = some ad ∧ ∀ j u, news[j]? = some u → W.cell? (ad.add j) = some u) (h1 : ∀ u ∈ news, u.oneCell' = true) (hbytes : (n + m) * bytes ≤ 140737488355328)
    (h : ∀ v' W', Own w0 F (c (.row v' e size (n + m) (xs ++ news))) W' → K (a.put o.dst v') W') : o.wp P a W K Q := by
  obtain ⟨i, hi, hzz⟩ := Option.map_eq_some_iff.1 hinfo
  simp only [Prod.mk.injEq] at hzz
  obtain ⟨hz0, hz1, hz2⟩ := hzz
  have hown : W.ownsRow w0.heap.size e size v n xs := H.at_ hI
  have hlen : n + m ≤ 140737488355328 := Nat.le_trans (Nat.le_mul_of_pos_right _ hb0) hbytes
  have hrun : ∃ v1 w1, (Builtin.append_ #[t, t] o.type #[v, .slice A m cc]).run P W = .ok v1 w1 ∧ w1.ownsRow w0.heap.size e size v1 (n + m) (xs ++ news) ∧ W.grownBy w1 v.ownBlock ∧ (v1.ownBlock = v.ownBlock ∨ ∃ b, v1.ownBlock = some b ∧ W.heap.size ≤ b) := by
    rcases A with _ | ad
    · have h0 : m = 0 := by
        rcases Nat.eq_zero_or_pos m with h0 | h0
        · exact h0
        · obtain ⟨ad, h, _⟩ := hsrc h0
          cases h
      subst h0
      obtain rfl : news = [] := List.eq_nil_of_length_eq_zero (by omega)
      refine ⟨v, W, ?_, by rw [List.append_nil]; exact hown, World.grownBy.refl W _, .inl rfl⟩
      rcases hown.2 with ⟨rfl, hn⟩ | ⟨g, cap, cur, rfl, _, _, hnc, _⟩
      · simp [Builtin.append_, run_underlying ht, sizeOf, typeInfo, hi, Builtin.lenOf, Builtin.firstCells]
      · simp [Builtin.append_, run_underlying ht, sizeOf, typeInfo, hi, Builtin.lenOf, Builtin.firstCells, hnc, storeCells]
    · have hc : ∀ j u, news[j]? = some u → W.cell? (ad.add j) = some u := by
        intro j u hj
        rcases Nat.eq_zero_or_pos m with h0 | h0
        · have := (List.getElem?_eq_some_iff.1 hj).1
          rw [hl, h0] at this
          omega
        · obtain ⟨ad', e1, h2⟩ := hsrc h0
          obtain rfl := Option.some.inj e1
          exact h2 j u hj
      obtain ⟨v1, w1, hrun, h2, hg, _, hat⟩ := run_append_own_at (P := P) W w0.heap.size t o.type e i z size bytes ht hi hz0 hz1 hz2 hz hs0 v n xs hown ad m cc news hl hc h1 (by simp only [maxLen]; omega) hbytes H.size
      refine ⟨v1, w1, hrun, h2, hg, ?_⟩
      rcases hat with hat | hat
      · exact .inl hat
      · exact .inr ⟨_, hat, Nat.le_refl _⟩
  obtain ⟨v1, w1, hr, h2, hg, hat⟩ := hrun
  unfold Oper.wp execOp
  simp only [ho, resolve, invoke, builtin, Sem.run_bind, Sem.run_pure, Result.andThen_ok, List.map_toArray, List.map_cons, List.map_nil, hs, hx, hr]
  refine h _ _ (H.repl hI hg h2 (fun k hk => ?_))
  have hk' : v1.ownBlock = some k := hk
  rcases hat with hat | ⟨b, hb, hle⟩
  · exact .inl (by show v.ownBlock = some k; rw [← hat]; exact hk')
  · exact .inr (by rw [hb] at hk'; injection hk' with hk'; omega)
/-- append of one value that lies in a block of one's own -/
theorem w_append1 (H : Own w0 F L W) (s x : Operand) (t e : TypeId) (ho : o.op = .call { callee := .builtin .append, args := #[s, x], argTypes := #[t, t] }) (ht : P.underlying t = some (.slice e)) (z : Value) (size bytes : Nat)
    (hinfo : (P.info? e).map (fun i => (i.zero, i.size, i.bytes)) = some (some z, size, bytes)) (hz : z.cells.size = size) (hs0 : 0 < size) (hb0 : 0 < bytes) (v : Value) (n : Nat) (xs : List Value) (hs : a.eval s = v) (hI : In L (.row v e size n xs) c)
    (g : Nat) (news : List Value) {t' : TypeId} {c' : Res → List Res} (hx : a.eval x = .slice (some ⟨g, 0, none⟩) 1 1) (hI' : In L (.blk g t' news) c') (hl : news.length = size) (h1 : ∀ u ∈ news, u.oneCell' = true) (hbytes : (n + 1) * bytes ≤ 140737488355328)
    (h : ∀ v' W', Own w0 F (c (.row v' e size (n + 1) (xs ++ news))) W' → K (a.put o.dst v') W') : o.wp P a W K Q :=
  w_append H s x t e ho ht z size bytes hinfo hz hs0 hb0 v n xs hs hI (some ⟨g, 0, none⟩) 1 1 news hx (by omega) (fun _ => ⟨_, rfl, fun j u hj => by rw [addr_add, H.cell hI', Nat.zero_add]; exact hj⟩) h1 hbytes h
/-- copy, into a block of one's own -/
theorem w_copy (H : Own w0 F L W) (d s : Operand) (dT sT : TypeId) (ho : o.op = .call { callee := .builtin .copy, args := #[d, s], argTypes := #[dT, sT] }) (elem : TypeId) (hu : P.underlying dT = some (.slice elem)) (hsz : (P.info? elem).map (·.size) = some 1)
    (g off dLen dCap : Nat) (hd : a.eval d = .slice (some ⟨g, off, none⟩) dLen dCap) {t : TypeId} {cs : List Value} (hI : In L (.blk g t cs) c) (A : Option Addr) (sLen sCap : Nat) (hs : a.eval s = .slice A sLen sCap) (ys : List Value) (hl : ys.length = min sLen dLen)
    (hsrc : 0 < sLen → ∃ ad, A = some ad ∧ ∀ j u, ys[j]? = some u → W.cell? (ad.add j) = some u) (h1 : ∀ u ∈ ys, u.oneCell' = true) (hfit : off + min sLen dLen ≤ cs.length)
    (h : ∀ W', Own w0 F (c (.blk g t (splice cs off ys))) W' → K (a.put o.dst (goInt (min sLen dLen : Nat))) W') : o.wp P a W K Q := by
  have hrun : (Builtin.copy_ #[dT, sT] o.type #[.slice (some ⟨g, off, none⟩) dLen dCap, .slice A sLen sCap]).run P W = .ok (goInt (min sLen dLen : Nat)) (W.setCells g off ys) := by
    rcases Nat.eq_zero_or_pos (min sLen dLen) with h0 | h0
    · obtain rfl : ys = [] := List.eq_nil_of_length_eq_zero (by omega)
      rw [run_copy_none W dT sT o.type elem _ _ dLen dCap sLen sCap hu hsz h0, h0]
      rfl
    · obtain ⟨ad, rfl, hc⟩ := hsrc (by omega)
      have hth := H.there hI off ys.length (by omega)
      rw [run_copy_cells W dT sT o.type elem g off dLen dCap ad sLen sCap ys hu hsz hl hc (fun j hj => (hth j hj).1) (fun j hj => (hth j hj).2) h1, hl]
  unfold Oper.wp execOp
  simp only [ho, resolve, invoke, builtin, Sem.run_bind, Sem.run_pure, Result.andThen_ok, List.map_toArray, List.map_cons, List.map_nil, hd, hs, hrun]
  exact h _ (H.setCells hI off ys (by omega))
/-- copy of numbers that are read -/
theorem w_copyC {k : IntKind} (H : Own w0 F L W) (d s : Operand) (dT sT : TypeId) (ho : o.op = .call { callee := .builtin .copy, args := #[d, s], argTypes := #[dT, sT] }) (elem : TypeId) (hu : P.underlying dT = some (.slice elem)) (hsz : (P.info? elem).map (·.size) = some 1)
    (g off dLen dCap : Nat) (hd : a.eval d = .slice (some ⟨g, off, none⟩) dLen dCap) {t : TypeId} {zs : List Int} (hI : In L (.blk g t (nums k zs)) c) (A : Option Addr) (sLen sCap : Nat) (hs : a.eval s = .slice A sLen sCap) (ys : List Int) (hy : (Kd.int k).C W A sLen ys) (hfit : off + min sLen dLen ≤ zs.length)
    (h : ∀ W', Own w0 F (c (.blk g t (nums k (splice zs off (ys.take (min sLen dLen)))))) W' → K (a.put o.dst (goInt (min sLen dLen : Nat))) W') : o.wp P a W K Q := by
  have hyl : ys.length = sLen := hy.1
  refine w_copy H d s dT sT ho elem hu hsz g off dLen dCap hd hI A sLen sCap hs (nums k (ys.take (min sLen dLen))) (by rw [nums_length, List.length_take]; omega) ?_ ?_ (by rw [nums_length]; exact hfit) ?_
  · intro hp
    obtain ⟨ad, e, hc⟩ := hy.2.2 hp
    refine ⟨ad, e, fun j v hj => ?_⟩
    simp only [nums, List.getElem?_map, Option.map_eq_some_iff] at hj
    obtain ⟨z, hz, rfl⟩ := hj
    have hjl : j < min sLen dLen := by have := (List.getElem?_eq_some_iff.1 hz).1; simp at this; omega
    rw [List.getElem?_take_of_lt hjl] at hz
    obtain ⟨c, hs', hr, hcell⟩ := hc j z hz
    have hr' : c = [.int k z] := hr
    subst hr'
    have := hcell 0 _ rfl
    rw [show (Kd.int k).sz = 1 from rfl] at this
    simpa using this
  · intro u hu
    obtain ⟨z, -, rfl⟩ := List.mem_map.1 hu
    rfl
  · intro W' H'
    refine h W' ?_
    have e : splice (nums k zs) off (nums k (ys.take (min sLen dLen))) = nums k (splice zs off (ys.take (min sLen dLen))) := by simp [splice, nums, List.map_take, List.map_drop]
    rw [e] at H'
    exact H'
/-! the same by shape: a value of one cell (1), an array or a struct (A) -/
theorem w_alloc1 (H : Own w0 F L W) (t : TypeId) (ho : o.op = .alloc t) (z : Value) (hz : (P.info? t).bind (·.zero) = some z) (hz1 : z.cells = #[z])
    (h : ∀ g W', Own w0 F (.blk g t [z] :: L) W' → K (a.put o.dst (.pointer (some ⟨g, 0, none⟩))) W') : o.wp P a W K Q :=
  w_alloc H t ho z hz (fun g W' H' => h g W' (by rw [hz1] at H'; exact H'))
theorem w_allocA (H : Own w0 F L W) (t : TypeId) (ho : o.op = .alloc t) (X : List Value) (hz : (P.info? t).bind (·.zero) = some (.agg X.toArray))
    (h : ∀ g W', Own w0 F (.blk g t X :: L) W' → K (a.put o.dst (.pointer (some ⟨g, 0, none⟩))) W') : o.wp P a W K Q :=
  w_alloc H t ho _ hz h
theorem w_box1 (H : Own w0 F L W) (t : TypeId) (x : Operand) (ho : o.op = .box t x) (v : Value) (hx : a.eval x = v) (hv : v.cells = #[v])
    (h : ∀ g W', Own w0 F (.blk g t [v] :: L) W' → K (a.put o.dst (.pointer (some ⟨g, 0, none⟩))) W') : o.wp P a W K Q :=
  w_box H t x ho v hx (fun g W' H' => h g W' (by rw [hv] at H'; exact H'))
theorem w_boxA (H : Own w0 F L W) (t : TypeId) (x : Operand) (ho : o.op = .box t x) (X : List Value) (hx : a.eval x = .agg X.toArray)
    (h : ∀ g W', Own w0 F (.blk g t X :: L) W' → K (a.put o.dst (.pointer (some ⟨g, 0, none⟩))) W') : o.wp P a W K Q :=
  w_box H t x ho _ hx h
theorem r_load1 (H : Own w0 F L W) (ty : TypeId) (x : Operand) (ho : o.op = .load ty x) (g off : Nat) (hx : a.eval x = .pointer (some ⟨g, off, none⟩)) {t : TypeId} {cs : List Value} (hI : In L (.blk g t cs) c)
    (d : TypeDesc) (hu : P.underlying ty = some d) (hd : d.isRow = false) (v : Value) (hv : cs[off]? = some v) : (execOp a.eval o).run P W = .ok (.value v) W := by
  have hag : (isAgg ty).run P W = .ok false W := by
    unfold isAgg
    rw [Sem.run_bind, run_underlying hu W]
    cases d <;> simp_all
  have hc := H.cell hI off
  rw [hv] at hc
  unfold execOp
  simp [ho, hx, Instr.loadAt, Instr.sureAddr, loadVar, hag, hc]
theorem r_loadM (H : Own w0 F L W) (ty : TypeId) (x : Operand) (ho : o.op = .load ty x) (g off : Nat) (hx : a.eval x = .pointer (some ⟨g, off, none⟩)) {t : TypeId} {cs : List Value} (hI : In L (.blk g t cs) c)
    (n : Nat) (d : TypeDesc) (hu : P.underlying ty = some d) (hd : d.isRow = true) (hi : (P.info? ty).map (·.size) = some n) (hfit : off + n ≤ cs.length) : (execOp a.eval o).run P W = .ok (.value (.agg ((cs.drop off).take n).toArray)) W := by
  have := run_loadVar_mid W g off ty _ d (H.range hI off n) hu hd (by rw [hi, List.length_take, List.length_drop]; congr 1; omega)
  unfold execOp
  simp [ho, hx, Instr.loadAt, Instr.sureAddr, this]
theorem r_loadA (H : Own w0 F L W) (ty : TypeId) (x : Operand) (ho : o.op = .load ty x) (g : Nat) (hx : a.eval x = .pointer (some ⟨g, 0, none⟩)) {t : TypeId} {cs : List Value} (hI : In L (.blk g t cs) c)
    (n : Nat) (d : TypeDesc) (hu : P.underlying ty = some d) (hd : d.isRow = true) (hi : (P.info? ty).map (·.size) = some n) (hfit : cs.length = n) : (execOp a.eval o).run P W = .ok (.value (.agg cs.toArray)) W := by
  have := r_loadM H ty x ho g 0 hx hI n d hu hd hi (by omega)
  rw [List.drop_zero, List.take_of_length_le (by omega)] at this
  exact this
theorem w_loadA (H : Own w0 F L W) (ty : TypeId) (x : Operand) (ho : o.op = .load ty x) (g : Nat) (hx : a.eval x = .pointer (some ⟨g, 0, none⟩)) {t : TypeId} {cs : List Value} (hI : In L (.blk g t cs) c)
    (n : Nat) (d : TypeDesc) (hu : P.underlying ty = some d) (hd : d.isRow = true) (hi : (P.info? ty).map (·.size) = some n) (hfit : cs.length = n) (h : K (a.put o.dst (.agg cs.toArray)) W) : o.wp P a W K Q := by
  unfold Oper.wp
  rw [r_loadA H ty x ho g hx hI n d hu hd hi hfit]
  exact h
theorem w_storeA (H : Own w0 F L W) (ty : TypeId) (x y : Operand) (ho : o.op = .store ty x y) (g off : Nat) (hx : a.eval x = .pointer (some ⟨g, off, none⟩)) (X : List Value) (hy : a.eval y = .agg X.toArray) {t : TypeId} {cs : List Value} (hI : In L (.blk g t cs) c)
    (n : Nat) (hi : (P.info? ty).map (·.size) = some n) (hn : X.length = n) (hfit : off + n ≤ cs.length) (h1 : ∀ u ∈ X, u.oneCell' = true)
    (h : ∀ W', Own w0 F (c (.blk g t (splice cs off X))) W' → K (a.put o.dst undef) W') : o.wp P a W K Q :=
  w_store H ty x y ho g off hx _ hy hI (by rw [hi]; simp [Value.cells, hn]) (by simp [Value.cells, hn]; exact hfit) (by simpa [Value.cells] using h1) h
/-- the whole of a variable is stored anew -/
theorem w_storeW (H : Own w0 F L W) (ty : TypeId) (x y : Operand) (ho : o.op = .store ty x y) (g : Nat) (hx : a.eval x = .pointer (some ⟨g, 0, none⟩)) (X : List Value) (hy : a.eval y = .agg X.toArray) {t : TypeId} {cs : List Value} (hI : In L (.blk g t cs) c)
    (n : Nat) (hi : (P.info? ty).map (·.size) = some n) (hn : X.length = n) (hfit : cs.length = n) (h1 : ∀ u ∈ X, u.oneCell' = true)
    (h : ∀ W', Own w0 F (c (.blk g t X)) W' → K (a.put o.dst undef) W') : o.wp P a W K Q :=
  w_storeA H ty x y ho g 0 hx X hy hI n hi hn (by omega) h1 (fun W' H' => h W' (by
    rw [show splice cs 0 X = X by simp [splice]; omega] at H'
    exact H'))
theorem nums_at {k : IntKind} {xs : List Int} (i : Nat) (h : i < xs.length) : (nums k xs)[i]? = some (.int k (xs.getD i 0)) := by
  rw [nums, List.getElem?_map, List.getElem?_eq_getElem h, List.getD_eq_getElem?_getD, List.getElem?_eq_getElem h]
  rfl
theorem nums_one {k : IntKind} {xs : List Int} : ∀ u ∈ nums k xs, u.oneCell' = true := by
  intro u hu
  obtain ⟨z, -, rfl⟩ := List.mem_map.1 hu
  rfl
theorem nums_set {k : IntKind} {xs : List Int} (i : Nat) (z : Int) : (nums k xs).set i (.int k z) = nums k (xs.set i z) := by simp [nums, List.map_set]
theorem w_build1A (H : Own w0 F L W) (t e : TypeId) (x : Operand) (ho : o.op = .buildSlice t 1 #[(0, x)]) (ht : P.underlying t = some (.slice e)) (X : List Value) (hx : a.eval x = .agg X.toArray) (z : Value) (size : Nat)
    (hinfo : (P.info? e).map (fun i => (i.zero, i.size)) = some (some z, size)) (hz : z.cells.size = size) (hv : X.length = size) (hs0 : 0 < size) (hs : size ≤ 16777216)
    (h : ∀ g W', Own w0 F (.blk g e X :: L) W' → K (a.put o.dst (.slice (some ⟨g, 0, none⟩) 1 1)) W') : o.wp P a W K Q :=
  w_build1 H t e x ho ht _ hx z size hinfo hz (by simpa [Value.cells] using hv) hs0 hs h
theorem w_build11 (H : Own w0 F L W) (t e : TypeId) (x : Operand) (ho : o.op = .buildSlice t 1 #[(0, x)]) (ht : P.underlying t = some (.slice e)) (v : Value) (hx : a.eval x = v) (z : Value) 
    (hinfo : (P.info? e).map (fun i => (i.zero, i.size)) = some (some z, 1)) (hz : z.cells = #[z]) (hv : v.cells = #[v])
    (h : ∀ g W', Own w0 F (.blk g e [v] :: L) W' → K (a.put o.dst (.slice (some ⟨g, 0, none⟩) 1 1)) W') : o.wp P a W K Q :=
  w_build1 H t e x ho ht v hx z 1 hinfo (by rw [hz]; rfl) (by rw [hv]; rfl) (by decide) (by decide) (fun g W' H' => h g W' (by rw [hv] at H'; exact H'))
/-- string(v), v a row of one's own -/
theorem r_strR (H : Own w0 F L W) (src dst e : TypeId) (x : Operand) (ho : o.op = .convert src dst x) (v : Value) (hx : a.eval x = v) {e' n : Nat} {xs : List Int} (hI : In L (.row v e' 1 n (nums .u8 xs)) c)
    (hs : P.underlying src = some (.slice e)) (he : P.underlying e = some (.int .u8)) (hd : P.underlying dst = some .string) : (execOp a.eval o).run P W = .ok (.value (.string (strOfNums xs))) W := by
  have := own_string (P := P) hs he hd (H.at_ hI)
  unfold execOp
  simp [ho, hx, this]
theorem r_strC (src dst e : TypeId) (x : Operand) (ho : o.op = .convert src dst x) {A : Option Addr} {n cc : Nat} (hx : a.eval x = .slice A n cc) {xs : List Int} (hC : (Kd.int .u8).C W A n xs)
    (hs : P.underlying src = some (.slice e)) (he : P.underlying e = some (.int .u8)) (hd : P.underlying dst = some .string) : (execOp a.eval o).run P W = .ok (.value (.string (strOfNums xs))) W := by
  have := Kd.C_string (P := P) (c := cc) hs he hd hC
  unfold execOp
  simp [ho, hx, this]
theorem w_strR (H : Own w0 F L W) (src dst e : TypeId) (x : Operand) (ho : o.op = .convert src dst x) (v : Value) (hx : a.eval x = v) {e' n : Nat} {xs : List Int} (hI : In L (.row v e' 1 n (nums .u8 xs)) c)
    (hs : P.underlying src = some (.slice e)) (he : P.underlying e = some (.int .u8)) (hd : P.underlying dst = some .string) (h : K (a.put o.dst (.string (strOfNums xs))) W) : o.wp P a W K Q := by
  unfold Oper.wp
  rw [r_strR H src dst e x ho v hx hI hs he hd]
  exact h
theorem w_strC (src dst e : TypeId) (x : Operand) (ho : o.op = .convert src dst x) {A : Option Addr} {n cc : Nat} (hx : a.eval x = .slice A n cc) {xs : List Int} (hC : (Kd.int .u8).C W A n xs)
    (hs : P.underlying src = some (.slice e)) (he : P.underlying e = some (.int .u8)) (hd : P.underlying dst = some .string) (h : K (a.put o.dst (.string (strOfNums xs))) W) : o.wp P a W K Q := by
  unfold Oper.wp
  rw [r_strC src dst e x ho hx hC hs he hd]
  exact h
/-- a row of one's own that has elements, as its block -/
theorem Own.row_blk {v : Value} {e sz n : Nat} {xs : List Value} (H : Own w0 F L W) (hI : In L (.row v e sz n xs) c) (hn : 0 < n) :
    ∃ g cap cur, v = .slice (some ⟨g, 0, none⟩) n cap ∧ n ≤ cap ∧ cap ≤ 9223372036854775807 ∧ cur.length = cap * sz ∧ cur.take (n * sz) = xs ∧ Own w0 F (c (.blk g e cur)) W := by
  have h := H.at_ hI
  rcases h.2 with ⟨rfl, h0⟩ | ⟨g, cap, cur, rfl, hb, hg, hnc, hcm, hcs, ht⟩
  · omega
  · refine ⟨g, cap, cur.toList, rfl, hnc, by simpa [maxLen] using hcm, by rw [Array.length_toList, hcs], ht, H.repl hI (World.grownBy.refl W _) ⟨hb, by simpa using hg⟩ (fun k hk => .inl ?_)⟩
    simp [Res.block, Value.ownBlock] at hk ⊢
    exact hk
def zs (n : Nat) : List Int := List.replicate n 0
end
/-! in a region that draws its order: a load, taken first -/
section
variable {P : Program} {ops : Array Oper} {Q : Exit → Act → World → Prop} {md : Region.Mode} {ds : List Nat} {w0 : World} {F : Nat → Option Obj} {L : List Res} {c : Res → List Res}
theorem take_loadA {i : Nat} {N : Option Tmp} {oi : Oper} {fuel : Nat} {l : Array Bool} {a : Act} {w : World} (l' : Array Bool) (hi : ops[i]? = some oi) (hN : oi.dst = N) (hc : takeB md ops ds l l' i = true)
    (hQ : ∀ c a w, ∀ v, Q (.panic c) (a.put oi.dst v) w → Q (.panic c) a w) (hw : Region.wanted oi (yielded ops a.tmps) = true) (hS : Own w0 F L w)
    (ty : TypeId) (x : Operand) (ho : oi.op = .load ty x) (g : Nat) (hx : a.eval x = .pointer (some ⟨g, 0, none⟩)) {t : TypeId} {cs : List Value} (hI : In L (.blk g t cs) c)
    (n : Nat) (d : TypeDesc) (hu : P.underlying ty = some d) (hd : d.isRow = true) (hz : (P.info? ty).map (·.size) = some n) (hfit : cs.length = n) {a' : Act} (ha : a.put N (.agg cs.toArray) = a')
    (h : wpAnyLast P md ops Q (Own w0 F L) ds fuel l' a' w) : wpAnyLast P md ops Q (Own w0 F L) ds (fuel + 1) l a w :=
  take_ l' hi hN hc (fun c a w => hQ c a w _) (Or.inl ⟨hw, fun X HX => r_loadA HX ty x ho g hx hI n d hu hd hz hfit⟩) hS ha h
theorem take_load1 {i : Nat} {N : Option Tmp} {oi : Oper} {fuel : Nat} {l : Array Bool} {a : Act} {w : World} (l' : Array Bool) (hi : ops[i]? = some oi) (hN : oi.dst = N) (hc : takeB md ops ds l l' i = true)
    (hQ : ∀ c a w, ∀ v, Q (.panic c) (a.put oi.dst v) w → Q (.panic c) a w) (hw : Region.wanted oi (yielded ops a.tmps) = true) (hS : Own w0 F L w)
    (ty : TypeId) (x : Operand) (ho : oi.op = .load ty x) (g off : Nat) (hx : a.eval x = .pointer (some ⟨g, off, none⟩)) {t : TypeId} {cs : List Value} (hI : In L (.blk g t cs) c)
    (d : TypeDesc) (hu : P.underlying ty = some d) (hd : d.isRow = false) (v : Value) (hv : cs[off]? = some v) {a' : Act} (ha : a.put N v = a')
    (h : wpAnyLast P md ops Q (Own w0 F L) ds fuel l' a' w) : wpAnyLast P md ops Q (Own w0 F L) ds (fuel + 1) l a w :=
  take_ l' hi hN hc (fun c a w => hQ c a w _) (Or.inl ⟨hw, fun X HX => r_load1 HX ty x ho g off hx hI d hu hd v hv⟩) hS ha h
theorem take_strR {i : Nat} {N : Option Tmp} {oi : Oper} {fuel : Nat} {l : Array Bool} {a : Act} {w : World} (l' : Array Bool) (hi : ops[i]? = some oi) (hN : oi.dst = N) (hc : takeB md ops ds l l' i = true)
    (hQ : ∀ c a w, ∀ v, Q (.panic c) (a.put oi.dst v) w → Q (.panic c) a w) (hw : Region.wanted oi (yielded ops a.tmps) = true) (hS : Own w0 F L w)
    (src dst e : TypeId) (x : Operand) (ho : oi.op = .convert src dst x) (v : Value) (hx : a.eval x = v) {e' n : Nat} {xs : List Int} (hI : In L (.row v e' 1 n (nums .u8 xs)) c)
    (hs : P.underlying src = some (.slice e)) (he : P.underlying e = some (.int .u8)) (hd : P.underlying dst = some .string) {a' : Act} (ha : a.put N (.string (strOfNums xs)) = a')
    (h : wpAnyLast P md ops Q (Own w0 F L) ds fuel l' a' w) : wpAnyLast P md ops Q (Own w0 F L) ds (fuel + 1) l a w :=
  take_ l' hi hN hc (fun c a w => hQ c a w _) (Or.inl ⟨hw, fun X HX => r_strR HX src dst e x ho v hx hI hs he hd⟩) hS ha h
/-- whatever S: any operation that yields v in each world that meets S -/
theorem take_run {S : World → Prop} {i : Nat} {N : Option Tmp} {oi : Oper} {fuel : Nat} {l : Array Bool} {a : Act} {w : World} (l' : Array Bool) (hi : ops[i]? = some oi) (hN : oi.dst = N) (hc : takeB md ops ds l l' i = true)
    (hQ : ∀ c a w, ∀ v, Q (.panic c) (a.put oi.dst v) w → Q (.panic c) a w) (hw : Region.wanted oi (yielded ops a.tmps) = true) (hS : S w)
    (v : Value) (hr : ∀ X, S X → (execOp a.eval oi).run P X = .ok (.value v) X) {a' : Act} (ha : a.put N v = a')
    (h : wpAnyLast P md ops Q S ds fuel l' a' w) : wpAnyLast P md ops Q S ds (fuel + 1) l a w :=
  take_ l' hi hN hc (fun c a w => hQ c a w _) (Or.inl ⟨hw, hr⟩) hS ha h
end
section
variable {P : Program} {ops : Array Oper} {Q : Exit → Act → World → Prop}
/-- a call in a region that draws its order, by a contract -/
theorem callK_ {oi : Oper} {N : Option Tmp} {a : Act} {w : World} {K : Act → World → Prop} {f : FuncId} {fn : Func} {as_ : Array Operand} {ts : Array TypeId} {args : Array Value} {R : Ending → World → Prop} (hcall : Calls P f args w R) (hf : P.funcs[f]? = some fn)
    (hname : (fn.name == "runtime.NumGoroutine") = false) (hb : fn.body.isSome = true) (hw : Region.wanted oi (yielded ops a.tmps) = true) (hN : oi.dst = N) (hop : oi.op = .call { callee := .value (.func f), args := as_, argTypes := ts }) (hargs : as_.map a.eval = args)
    (h : ∀ e w', R e w' → ∃ v, e = .returned v ∧ K (a.put N v) w') : if Region.wanted oi (yielded ops a.tmps) = true then Oper.wp P oi a w K Q else K (a.put N undef) w :=
  goes_ hf hname hb args hw hN hop hargs (hcall.mono h)
end
section
variable {P : Program} {ops : Array Oper} {rest : List Oper} {o : Oper} {a : Act} {Q : Exit → Act → World → Prop} {w0 W : World} {F : Nat → Option Obj} {L : List Res} {c : Res → List Res}
/-! the same in a plain region -/
theorem l_alloc (hgd : o.guard = none) (H : Own w0 F L W) (t : TypeId) (ho : o.op = .alloc t) (z : Value) (hz : (P.info? t).bind (·.zero) = some z)
    (h : ∀ g W', Own w0 F (.blk g t z.cells.toList :: L) W' → wpList P ops Q rest (a.put o.dst (.pointer (some ⟨g, 0, none⟩))) W') : wpList P ops Q (o :: rest) a W :=
  wpList_plain hgd fun K hK => w_alloc H t ho z hz (fun g W' H' => hK _ _ (h g W' H'))
theorem l_box (hgd : o.guard = none) (H : Own w0 F L W) (t : TypeId) (x : Operand) (ho : o.op = .box t x) (v : Value) (hx : a.eval x = v)
    (h : ∀ g W', Own w0 F (.blk g t v.cells.toList :: L) W' → wpList P ops Q rest (a.put o.dst (.pointer (some ⟨g, 0, none⟩))) W') : wpList P ops Q (o :: rest) a W :=
  wpList_plain hgd fun K hK => w_box H t x ho v hx (fun g W' H' => hK _ _ (h g W' H'))
theorem l_load (hgd : o.guard = none) (H : Own w0 F L W) (ty : TypeId) (x : Operand) (ho : o.op = .load ty x) (g off : Nat) (hx : a.eval x = .pointer (some ⟨g, off, none⟩)) {t : TypeId} {cs : List Value} (hI : In L (.blk g t cs) c)
    (n : Nat) (d : TypeDesc) (hu : P.underlying ty = some d) (hd : d.isRow = true) (hi : (P.info? ty).map (·.size) = some n) (hfit : off + n ≤ cs.length) (h : wpList P ops Q rest (a.put o.dst (.agg ((cs.drop off).take n).toArray)) W) : wpList P ops Q (o :: rest) a W :=
  wpList_plain hgd fun K hK => w_load H ty x ho g off hx hI n d hu hd hi hfit (hK _ _ h)
theorem l_load1 (hgd : o.guard = none) (H : Own w0 F L W) (ty : TypeId) (x : Operand) (ho : o.op = .load ty x) (g off : Nat) (hx : a.eval x = .pointer (some ⟨g, off, none⟩)) {t : TypeId} {cs : List Value} (hI : In L (.blk g t cs) c)
    (d : TypeDesc) (hu : P.underlying ty = some d) (hd : d.isRow = false) (v : Value) (hv : cs[off]? = some v) (h : wpList P ops Q rest (a.put o.dst v) W) : wpList P ops Q (o :: rest) a W :=
  wpList_plain hgd fun K hK => w_load1 H ty x ho g off hx hI d hu hd v hv (hK _ _ h)
theorem l_store (hgd : o.guard = none) (H : Own w0 F L W) (ty : TypeId) (x y : Operand) (ho : o.op = .store ty x y) (g off : Nat) (hx : a.eval x = .pointer (some ⟨g, off, none⟩)) (v : Value) (hy : a.eval y = v) {t : TypeId} {cs : List Value} (hI : In L (.blk g t cs) c)
    (hi : (P.info? ty).map (·.size) = some v.cells.size) (hfit : off + v.cells.size ≤ cs.length) (h1 : ∀ u ∈ v.cells.toList, u.oneCell' = true)
    (h : ∀ W', Own w0 F (c (.blk g t (splice cs off v.cells.toList))) W' → wpList P ops Q rest (a.put o.dst undef) W') : wpList P ops Q (o :: rest) a W :=
  wpList_plain hgd fun K hK => w_store H ty x y ho g off hx v hy hI hi hfit h1 (fun W' H' => hK _ _ (h W' H'))
theorem l_store1 (hgd : o.guard = none) (H : Own w0 F L W) (ty : TypeId) (x y : Operand) (ho : o.op = .store ty x y) (g off : Nat) (hx : a.eval x = .pointer (some ⟨g, off, none⟩)) (v : Value) (hy : a.eval y = v) {t : TypeId} {cs : List Value} (hI : In L (.blk g t cs) c)
    (hv : v.cells = #[v]) (h1 : v.oneCell' = true) (hi : (P.info? ty).map (·.size) = some 1) (hfit : off < cs.length)
    (h : ∀ W', Own w0 F (c (.blk g t (cs.set off v))) W' → wpList P ops Q rest (a.put o.dst undef) W') : wpList P ops Q (o :: rest) a W :=
  wpList_plain hgd fun K hK => w_store1 H ty x y ho g off hx v hy hI hv h1 hi hfit (fun W' H' => hK _ _ (h W' H'))
theorem l_make1 (hgd : o.guard = none) (H : Own w0 F L W) (t e : TypeId) (x y : Operand) (ho : o.op = .makeSlice t x y) (n : Nat) (hx : a.eval x = .int .i64 n) (hy : a.eval y = .int .i64 n) (ht : P.underlying t = some (.slice e)) (z : Value) (hz1 : z.cells = #[z]) (bytes : Nat)
    (hinfo : (P.info? e).map (fun i => (i.zero, i.size, i.bytes)) = some (some z, 1, bytes)) (hl : n * bytes ≤ 281474976710656) (hm : n ≤ 9223372036854775807)
    (h : ∀ g W', Own w0 F (.blk g e (List.replicate n z) :: L) W' → wpList P ops Q rest (a.put o.dst (.slice (some ⟨g, 0, none⟩) n n)) W') : wpList P ops Q (o :: rest) a W :=
  wpList_plain hgd fun K hK => w_make1 H t e x y ho n hx hy ht z hz1 bytes hinfo hl hm (fun g W' H' => hK _ _ (h g W' H'))
theorem l_build1 (hgd : o.guard = none) (H : Own w0 F L W) (t e : TypeId) (x : Operand) (ho : o.op = .buildSlice t 1 #[(0, x)]) (ht : P.underlying t = some (.slice e)) (v : Value) (hx : a.eval x = v) (z : Value) (size : Nat)
    (hinfo : (P.info? e).map (fun i => (i.zero, i.size)) = some (some z, size)) (hz : z.cells.size = size) (hv : v.cells.size = size) (hs0 : 0 < size) (hs : size ≤ 16777216)
    (h : ∀ g W', Own w0 F (.blk g e v.cells.toList :: L) W' → wpList P ops Q rest (a.put o.dst (.slice (some ⟨g, 0, none⟩) 1 1)) W') : wpList P ops Q (o :: rest) a W :=
  wpList_plain hgd fun K hK => w_build1 H t e x ho ht v hx z size hinfo hz hv hs0 hs (fun g W' H' => hK _ _ (h g W' H'))
theorem l_build0 (hgd : o.guard = none) (H : Own w0 F L W) (t e : TypeId) (ho : o.op = .buildSlice t 0 #[]) (ht : P.underlying t = some (.slice e)) (hinfo : (P.info? e).isSome = true)
    (h : ∀ g W', Own w0 F (.row (.slice (some ⟨g, 0, none⟩) 0 0) e ((P.info? e).map (·.size)).get! 0 [] :: L) W' → wpList P ops Q rest (a.put o.dst (.slice (some ⟨g, 0, none⟩) 0 0)) W') : wpList P ops Q (o :: rest) a W :=
  wpList_plain hgd fun K hK => w_build0 H t e ho ht hinfo (fun g W' H' => hK _ _ (h g W' H'))
theorem l_append (hgd : o.guard = none) (H : Own w0 F L W) (s x : Operand) (t e : TypeId) (ho : o.op = .call { callee := .builtin .append, args := #[s, x], argTypes := #[t, t] }) (ht : P.underlying t = some (.slice e)) (z : Value) (size bytes : Nat)
    (hinfo : (P.info? e).map (fun i => (i.zero, i.size, i.bytes)) = some (some z, size, bytes)) (hz : z.cells.size = size) (hs0 : 0 < size) (hb0 : 0 < bytes) (v : Value) (n : Nat) (xs : List Value) (hs : a.eval s = v) (hI : In L (.row v e size n xs) c)
    (A : Option Addr) (m cc : Nat) (news : List Value) (hx : a.eval x = .slice A m cc) (hl : news.length = m * size) (hsrc : 0 < m → ∃ ad, A = some ad ∧ ∀ j u, news[j]? = some u → W.cell? (ad.add j) = some u) (h1 : ∀ u ∈ news, u.oneCell' = true) (hbytes : (n + m) * bytes ≤ 140737488355328)
    (h : ∀ v' W', Own w0 F (c (.row v' e size (n + m) (xs ++ news))) W' → wpList P ops Q rest (a.put o.dst v') W') : wpList P ops Q (o :: rest) a W :=
  wpList_plain hgd fun K hK => w_append H s x t e ho ht z size bytes hinfo hz hs0 hb0 v n xs hs hI A m cc news hx hl hsrc h1 hbytes (fun v' W' H' => hK _ _ (h v' W' H'))
theorem l_append1 (hgd : o.guard = none) (H : Own w0 F L W) (s x : Operand) (t e : TypeId) (ho : o.op = .call { callee := .builtin .append, args := #[s, x], argTypes := #[t, t] }) (ht : P.underlying t = some (.slice e)) (z : Value) (size bytes : Nat)
    (hinfo : (P.info? e).map (fun i => (i.zero, i.size, i.bytes)) = some (some z, size, bytes)) (hz : z.cells.size = size) (hs0 : 0 < size) (hb0 : 0 < bytes) (v : Value) (n : Nat) (xs : List Value) (hs : a.eval s = v) (hI : In L (.row v e size n xs) c)
    (g : Nat) (news : List Value) {t' : TypeId} {c' : Res → List Res} (hx : a.eval x = .slice (some ⟨g, 0, none⟩) 1 1) (hI' : In L (.blk g t' news) c') (hl : news.length = size) (h1 : ∀ u ∈ news, u.oneCell' = true) (hbytes : (n + 1) * bytes ≤ 140737488355328)
    (h : ∀ v' W', Own w0 F (c (.row v' e size (n + 1) (xs ++ news))) W' → wpList P ops Q rest (a.put o.dst v') W') : wpList P ops Q (o :: rest) a W :=
  wpList_plain hgd fun K hK => w_append1 H s x t e ho ht z size bytes hinfo hz hs0 hb0 v n xs hs hI g news hx hI' hl h1 hbytes (fun v' W' H' => hK _ _ (h v' W' H'))
theorem l_copy (hgd : o.guard = none) (H : Own w0 F L W) (d s : Operand) (dT sT : TypeId) (ho : o.op = .call { callee := .builtin .copy, args := #[d, s], argTypes := #[dT, sT] }) (elem : TypeId) (hu : P.underlying dT = some (.slice elem)) (hsz : (P.info? elem).map (·.size) = some 1)
    (g off dLen dCap : Nat) (hd : a.eval d = .slice (some ⟨g, off, none⟩) dLen dCap) {t : TypeId} {cs : List Value} (hI : In L (.blk g t cs) c) (A : Option Addr) (sLen sCap : Nat) (hs : a.eval s = .slice A sLen sCap) (ys : List Value) (hl : ys.length = min sLen dLen)
    (hsrc : 0 < sLen → ∃ ad, A = some ad ∧ ∀ j u, ys[j]? = some u → W.cell? (ad.add j) = some u) (h1 : ∀ u ∈ ys, u.oneCell' = true) (hfit : off + min sLen dLen ≤ cs.length)
    (h : ∀ W', Own w0 F (c (.blk g t (splice cs off ys))) W' → wpList P ops Q rest (a.put o.dst (goInt (min sLen dLen : Nat))) W') : wpList P ops Q (o :: rest) a W :=
  wpList_plain hgd fun K hK => w_copy H d s dT sT ho elem hu hsz g off dLen dCap hd hI A sLen sCap hs ys hl hsrc h1 hfit (fun W' H' => hK _ _ (h W' H'))
theorem l_copyC (hgd : o.guard = none) {k : IntKind} (H : Own w0 F L W) (d s : Operand) (dT sT : TypeId) (ho : o.op = .call { callee := .builtin .copy, args := #[d, s], argTypes := #[dT, sT] }) (elem : TypeId) (hu : P.underlying dT = some (.slice elem)) (hsz : (P.info? elem).map (·.size) = some 1)
    (g off dLen dCap : Nat) (hd : a.eval d = .slice (some ⟨g, off, none⟩) dLen dCap) {t : TypeId} {zs : List Int} (hI : In L (.blk g t (nums k zs)) c) (A : Option Addr) (sLen sCap : Nat) (hs : a.eval s = .slice A sLen sCap) (ys : List Int) (hy : (Kd.int k).C W A sLen ys) (hfit : off + min sLen dLen ≤ zs.length)
    (h : ∀ W', Own w0 F (c (.blk g t (nums k (splice zs off (ys.take (min sLen dLen)))))) W' → wpList P ops Q rest (a.put o.dst (goInt (min sLen dLen : Nat))) W') : wpList P ops Q (o :: rest) a W :=
  wpList_plain hgd fun K hK => w_copyC H d s dT sT ho elem hu hsz g off dLen dCap hd hI A sLen sCap hs ys hy hfit (fun W' H' => hK _ _ (h W' H'))
theorem l_alloc1 (hgd : o.guard = none) (H : Own w0 F L W) (t : TypeId) (ho : o.op = .alloc t) (z : Value) (hz : (P.info? t).bind (·.zero) = some z) (hz1 : z.cells = #[z])
    (h : ∀ g W', Own w0 F (.blk g t [z] :: L) W' → wpList P ops Q rest (a.put o.dst (.pointer (some ⟨g, 0, none⟩))) W') : wpList P ops Q (o :: rest) a W :=
  wpList_plain hgd fun K hK => w_alloc1 H t ho z hz hz1 (fun g W' H' => hK _ _ (h g W' H'))
theorem l_allocA (hgd : o.guard = none) (H : Own w0 F L W) (t : TypeId) (ho : o.op = .alloc t) (X : List Value) (hz : (P.info? t).bind (·.zero) = some (.agg X.toArray))
    (h : ∀ g W', Own w0 F (.blk g t X :: L) W' → wpList P ops Q rest (a.put o.dst (.pointer (some ⟨g, 0, none⟩))) W') : wpList P ops Q (o :: rest) a W :=
  wpList_plain hgd fun K hK => w_allocA H t ho X hz (fun g W' H' => hK _ _ (h g W' H'))
theorem l_box1 (hgd : o.guard = none) (H : Own w0 F L W) (t : TypeId) (x : Operand) (ho : o.op = .box t x) (v : Value) (hx : a.eval x = v) (hv : v.cells = #[v])
    (h : ∀ g W', Own w0 F (.blk g t [v] :: L) W' → wpList P ops Q rest (a.put o.dst (.pointer (some ⟨g, 0, none⟩))) W') : wpList P ops Q (o :: rest) a W :=
  wpList_plain hgd fun K hK => w_box1 H t x ho v hx hv (fun g W' H' => hK _ _ (h g W' H'))
theorem l_boxA (hgd : o.guard = none) (H : Own w0 F L W) (t : TypeId) (x : Operand) (ho : o.op = .box t x) (X : List Value) (hx : a.eval x = .agg X.toArray)
    (h : ∀ g W', Own w0 F (.blk g t X :: L) W' → wpList P ops Q rest (a.put o.dst (.pointer (some ⟨g, 0, none⟩))) W') : wpList P ops Q (o :: rest) a W :=
  wpList_plain hgd fun K hK => w_boxA H t x ho X hx (fun g W' H' => hK _ _ (h g W' H'))
theorem l_loadA (hgd : o.guard = none) (H : Own w0 F L W) (ty : TypeId) (x : Operand) (ho : o.op = .load ty x) (g : Nat) (hx : a.eval x = .pointer (some ⟨g, 0, none⟩)) {t : TypeId} {cs : List Value} (hI : In L (.blk g t cs) c)
    (n : Nat) (d : TypeDesc) (hu : P.underlying ty = some d) (hd : d.isRow = true) (hi : (P.info? ty).map (·.size) = some n) (hfit : cs.length = n) (h : wpList P ops Q rest (a.put o.dst (.agg cs.toArray)) W) : wpList P ops Q (o :: rest) a W :=
  wpList_plain hgd fun K hK => w_loadA H ty x ho g hx hI n d hu hd hi hfit (hK _ _ h)
theorem l_storeA (hgd : o.guard = none) (H : Own w0 F L W) (ty : TypeId) (x y : Operand) (ho : o.op = .store ty x y) (g off : Nat) (hx : a.eval x = .pointer (some ⟨g, off, none⟩)) (X : List Value) (hy : a.eval y = .agg X.toArray) {t : TypeId} {cs : List Value} (hI : In L (.blk g t cs) c)
    (n : Nat) (hi : (P.info? ty).map (·.size) = some n) (hn : X.length = n) (hfit : off + n ≤ cs.length) (h1 : ∀ u ∈ X, u.oneCell' = true)
    (h : ∀ W', Own w0 F (c (.blk g t (splice cs off X))) W' → wpList P ops Q rest (a.put o.dst undef) W') : wpList P ops Q (o :: rest) a W :=
  wpList_plain hgd fun K hK => w_storeA H ty x y ho g off hx X hy hI n hi hn hfit h1 (fun W' H' => hK _ _ (h W' H'))
theorem l_storeW (hgd : o.guard = none) (H : Own w0 F L W) (ty : TypeId) (x y : Operand) (ho : o.op = .store ty x y) (g : Nat) (hx : a.eval x = .pointer (some ⟨g, 0, none⟩)) (X : List Value) (hy : a.eval y = .agg X.toArray) {t : TypeId} {cs : List Value} (hI : In L (.blk g t cs) c)
    (n : Nat) (hi : (P.info? ty).map (·.size) = some n) (hn : X.length = n) (hfit : cs.length = n) (h1 : ∀ u ∈ X, u.oneCell' = true)
    (h : ∀ W', Own w0 F (c (.blk g t X)) W' → wpList P ops Q rest (a.put o.dst undef) W') : wpList P ops Q (o :: rest) a W :=
  wpList_plain hgd fun K hK => w_storeW H ty x y ho g hx X hy hI n hi hn hfit h1 (fun W' H' => hK _ _ (h W' H'))
theorem l_build1A (hgd : o.guard = none) (H : Own w0 F L W) (t e : TypeId) (x : Operand) (ho : o.op = .buildSlice t 1 #[(0, x)]) (ht : P.underlying t = some (.slice e)) (X : List Value) (hx : a.eval x = .agg X.toArray) (z : Value) (size : Nat)
    (hinfo : (P.info? e).map (fun i => (i.zero, i.size)) = some (some z, size)) (hz : z.cells.size = size) (hv : X.length = size) (hs0 : 0 < size) (hs : size ≤ 16777216)
    (h : ∀ g W', Own w0 F (.blk g e X :: L) W' → wpList P ops Q rest (a.put o.dst (.slice (some ⟨g, 0, none⟩) 1 1)) W') : wpList P ops Q (o :: rest) a W :=
  wpList_plain hgd fun K hK => w_build1A H t e x ho ht X hx z size hinfo hz hv hs0 hs (fun g W' H' => hK _ _ (h g W' H'))
theorem l_build11 (hgd : o.guard = none) (H : Own w0 F L W) (t e : TypeId) (x : Operand) (ho : o.op = .buildSlice t 1 #[(0, x)]) (ht : P.underlying t = some (.slice e)) (v : Value) (hx : a.eval x = v) (z : Value) 
    (hinfo : (P.info? e).map (fun i => (i.zero, i.size)) = some (some z, 1)) (hz : z.cells = #[z]) (hv : v.cells = #[v])
    (h : ∀ g W', Own w0 F (.blk g e [v] :: L) W' → wpList P ops Q rest (a.put o.dst (.slice (some ⟨g, 0, none⟩) 1 1)) W') : wpList P ops Q (o :: rest) a W :=
  wpList_plain hgd fun K hK => w_build11 H t e x ho ht v hx z hinfo hz hv (fun g W' H' => hK _ _ (h g W' H'))
theorem l_strR (hgd : o.guard = none) (H : Own w0 F L W) (src dst e : TypeId) (x : Operand) (ho : o.op = .convert src dst x) (v : Value) (hx : a.eval x = v) {e' n : Nat} {xs : List Int} (hI : In L (.row v e' 1 n (nums .u8 xs)) c)
    (hs : P.underlying src = some (.slice e)) (he : P.underlying e = some (.int .u8)) (hd : P.underlying dst = some .string) (h : wpList P ops Q rest (a.put o.dst (.string (strOfNums xs))) W) : wpList P ops Q (o :: rest) a W :=
  wpList_plain hgd fun K hK => w_strR H src dst e x ho v hx hI hs he hd (hK _ _ h)
theorem l_strC (hgd : o.guard = none) (src dst e : TypeId) (x : Operand) (ho : o.op = .convert src dst x) {A : Option Addr} {n cc : Nat} (hx : a.eval x = .slice A n cc) {xs : List Int} (hC : (Kd.int .u8).C W A n xs)
    (hs : P.underlying src = some (.slice e)) (he : P.underlying e = some (.int .u8)) (hd : P.underlying dst = some .string) (h : wpList P ops Q rest (a.put o.dst (.string (strOfNums xs))) W) : wpList P ops Q (o :: rest) a W :=
  wpList_plain hgd fun K hK => w_strC src dst e x ho hx hC hs he hd (hK _ _ h)
end
end Go.Proofs.YthhbilkmdfdfiaaDoor.O
end

section
/- What the tables say of each type: its zero value, its cells, its bytes. -/
namespace Go.Proofs.YthhbilkmdfdfiaaDoor.O
open Go.RowKit Go.Proofs.YthhbilkmdfdfiaaDoorW.PrintWords Go.Proofs.YthhbilkmdfdfiaaDoorW.PrintLast Go.Proofs.YthhbilkmdfdfiaaDoorW.PrintMore Go.Proofs.YthhbilkmdfdfiaaDoor.F
set_option maxRecDepth 100000
theorem zero3 : (Tryd.prog.info? 3).bind (·.zero) = some (.int .i64 0) := by kernel_rfl
theorem size3 : (Tryd.prog.info? 3).map (·.size) = some 1 := by kernel_rfl
theorem inf3 : (Tryd.prog.info? 3).map (fun i => (i.zero, i.size, i.bytes)) = some (some (.int .i64 0), 1, 8) := by kernel_rfl
theorem zs3 : (Tryd.prog.info? 3).map (fun i => (i.zero, i.size)) = some (some (.int .i64 0), 1) := by kernel_rfl
theorem zero5 : (Tryd.prog.info? 5).bind (·.zero) = some (.int .u8 0) := by kernel_rfl
theorem size5 : (Tryd.prog.info? 5).map (·.size) = some 1 := by kernel_rfl
theorem inf5 : (Tryd.prog.info? 5).map (fun i => (i.zero, i.size, i.bytes)) = some (some (.int .u8 0), 1, 1) := by kernel_rfl
theorem zs5 : (Tryd.prog.info? 5).map (fun i => (i.zero, i.size)) = some (some (.int .u8 0), 1) := by kernel_rfl
theorem zero22 : (Tryd.prog.info? 22).bind (·.zero) = some (.int .u32 0) := by kernel_rfl
theorem size22 : (Tryd.prog.info? 22).map (·.size) = some 1 := by kernel_rfl
theorem inf22 : (Tryd.prog.info? 22).map (fun i => (i.zero, i.size, i.bytes)) = some (some (.int .u32 0), 1, 4) := by kernel_rfl
theorem zs22 : (Tryd.prog.info? 22).map (fun i => (i.zero, i.size)) = some (some (.int .u32 0), 1) := by kernel_rfl
theorem zero51 : (Tryd.prog.info? 51).bind (·.zero) = some (.int .u64 0) := by kernel_rfl
theorem size51 : (Tryd.prog.info? 51).map (·.size) = some 1 := by kernel_rfl
theorem inf51 : (Tryd.prog.info? 51).map (fun i => (i.zero, i.size, i.bytes)) = some (some (.int .u64 0), 1, 8) := by kernel_rfl
theorem zs51 : (Tryd.prog.info? 51).map (fun i => (i.zero, i.size)) = some (some (.int .u64 0), 1) := by kernel_rfl
theorem zero30 : (Tryd.prog.info? 30).bind (·.zero) = some (.int .u64 0) := by kernel_rfl
theorem size30 : (Tryd.prog.info? 30).map (·.size) = some 1 := by kernel_rfl
theorem inf30 : (Tryd.prog.info? 30).map (fun i => (i.zero, i.size, i.bytes)) = some (some (.int .u64 0), 1, 8) := by kernel_rfl
theorem zs30 : (Tryd.prog.info? 30).map (fun i => (i.zero, i.size)) = some (some (.int .u64 0), 1) := by kernel_rfl
theorem zero4 : (Tryd.prog.info? 4).bind (·.zero) = some (.bool false) := by kernel_rfl
theorem size4 : (Tryd.prog.info? 4).map (·.size) = some 1 := by kernel_rfl
theorem inf4 : (Tryd.prog.info? 4).map (fun i => (i.zero, i.size, i.bytes)) = some (some (.bool false), 1, 1) := by kernel_rfl
theorem zs4 : (Tryd.prog.info? 4).map (fun i => (i.zero, i.size)) = some (some (.bool false), 1) := by kernel_rfl
theorem zero38 : (Tryd.prog.info? 38).bind (·.zero) = some (.int .i64 0) := by kernel_rfl
theorem size38 : (Tryd.prog.info? 38).map (·.size) = some 1 := by kernel_rfl
theorem inf38 : (Tryd.prog.info? 38).map (fun i => (i.zero, i.size, i.bytes)) = some (some (.int .i64 0), 1, 8) := by kernel_rfl
theorem zs38 : (Tryd.prog.info? 38).map (fun i => (i.zero, i.size)) = some (some (.int .i64 0), 1) := by kernel_rfl
theorem zero9 : (Tryd.prog.info? 9).bind (·.zero) = some (.string ⟨#[]⟩) := by kernel_rfl
theorem size9 : (Tryd.prog.info? 9).map (·.size) = some 1 := by kernel_rfl
theorem inf9 : (Tryd.prog.info? 9).map (fun i => (i.zero, i.size, i.bytes)) = some (some (.string ⟨#[]⟩), 1, 16) := by kernel_rfl
theorem zs9 : (Tryd.prog.info? 9).map (fun i => (i.zero, i.size)) = some (some (.string ⟨#[]⟩), 1) := by kernel_rfl
theorem zero23 : (Tryd.prog.info? 23).bind (·.zero) = some (.slice none 0 0) := by kernel_rfl
theorem size23 : (Tryd.prog.info? 23).map (·.size) = some 1 := by kernel_rfl
theorem inf23 : (Tryd.prog.info? 23).map (fun i => (i.zero, i.size, i.bytes)) = some (some (.slice none 0 0), 1, 24) := by kernel_rfl
theorem zs23 : (Tryd.prog.info? 23).map (fun i => (i.zero, i.size)) = some (some (.slice none 0 0), 1) := by kernel_rfl
theorem zero67 : (Tryd.prog.info? 67).bind (·.zero) = some (.slice none 0 0) := by kernel_rfl
theorem size67 : (Tryd.prog.info? 67).map (·.size) = some 1 := by kernel_rfl
theorem inf67 : (Tryd.prog.info? 67).map (fun i => (i.zero, i.size, i.bytes)) = some (some (.slice none 0 0), 1, 24) := by kernel_rfl
theorem zs67 : (Tryd.prog.info? 67).map (fun i => (i.zero, i.size)) = some (some (.slice none 0 0), 1) := by kernel_rfl
theorem zero76 : (Tryd.prog.info? 76).bind (·.zero) = some (.slice none 0 0) := by kernel_rfl
theorem size76 : (Tryd.prog.info? 76).map (·.size) = some 1 := by kernel_rfl
theorem inf76 : (Tryd.prog.info? 76).map (fun i => (i.zero, i.size, i.bytes)) = some (some (.slice none 0 0), 1, 24) := by kernel_rfl
theorem zs76 : (Tryd.prog.info? 76).map (fun i => (i.zero, i.size)) = some (some (.slice none 0 0), 1) := by kernel_rfl
theorem zero95 : (Tryd.prog.info? 95).bind (·.zero) = some (.slice none 0 0) := by kernel_rfl
theorem size95 : (Tryd.prog.info? 95).map (·.size) = some 1 := by kernel_rfl
theorem inf95 : (Tryd.prog.info? 95).map (fun i => (i.zero, i.size, i.bytes)) = some (some (.slice none 0 0), 1, 24) := by kernel_rfl
theorem zs95 : (Tryd.prog.info? 95).map (fun i => (i.zero, i.size)) = some (some (.slice none 0 0), 1) := by kernel_rfl
theorem zero71 : (Tryd.prog.info? 71).bind (·.zero) = some (.slice none 0 0) := by kernel_rfl
theorem size71 : (Tryd.prog.info? 71).map (·.size) = some 1 := by kernel_rfl
theorem inf71 : (Tryd.prog.info? 71).map (fun i => (i.zero, i.size, i.bytes)) = some (some (.slice none 0 0), 1, 24) := by kernel_rfl
theorem zs71 : (Tryd.prog.info? 71).map (fun i => (i.zero, i.size)) = some (some (.slice none 0 0), 1) := by kernel_rfl
theorem zero92 : (Tryd.prog.info? 92).bind (·.zero) = some (.slice none 0 0) := by kernel_rfl
theorem size92 : (Tryd.prog.info? 92).map (·.size) = some 1 := by kernel_rfl
theorem inf92 : (Tryd.prog.info? 92).map (fun i => (i.zero, i.size, i.bytes)) = some (some (.slice none 0 0), 1, 24) := by kernel_rfl
theorem zs92 : (Tryd.prog.info? 92).map (fun i => (i.zero, i.size)) = some (some (.slice none 0 0), 1) := by kernel_rfl
theorem zero50 : (Tryd.prog.info? 50).bind (·.zero) = some ((.agg (nums .u8 (zs 64)).toArray)) := by kernel_rfl
theorem size50 : (Tryd.prog.info? 50).map (·.size) = some 64 := by kernel_rfl
theorem inf50 : (Tryd.prog.info? 50).map (fun i => (i.zero, i.size, i.bytes)) = some (some ((.agg (nums .u8 (zs 64)).toArray)), 64, 64) := by kernel_rfl
theorem zs50 : (Tryd.prog.info? 50).map (fun i => (i.zero, i.size)) = some (some ((.agg (nums .u8 (zs 64)).toArray)), 64) := by kernel_rfl
theorem zero49 : (Tryd.prog.info? 49).bind (·.zero) = some ((.agg (nums .u8 (zs 64)).toArray)) := by kernel_rfl
theorem size49 : (Tryd.prog.info? 49).map (·.size) = some 64 := by kernel_rfl
theorem inf49 : (Tryd.prog.info? 49).map (fun i => (i.zero, i.size, i.bytes)) = some (some ((.agg (nums .u8 (zs 64)).toArray)), 64, 64) := by kernel_rfl
theorem zs49 : (Tryd.prog.info? 49).map (fun i => (i.zero, i.size)) = some (some ((.agg (nums .u8 (zs 64)).toArray)), 64) := by kernel_rfl
theorem zero84 : (Tryd.prog.info? 84).bind (·.zero) = some ((.agg (nums .u8 (zs 11)).toArray)) := by kernel_rfl
theorem size84 : (Tryd.prog.info? 84).map (·.size) = some 11 := by kernel_rfl
theorem inf84 : (Tryd.prog.info? 84).map (fun i => (i.zero, i.size, i.bytes)) = some (some ((.agg (nums .u8 (zs 11)).toArray)), 11, 11) := by kernel_rfl
theorem zs84 : (Tryd.prog.info? 84).map (fun i => (i.zero, i.size)) = some (some ((.agg (nums .u8 (zs 11)).toArray)), 11) := by kernel_rfl
theorem zero87 : (Tryd.prog.info? 87).bind (·.zero) = some ((.agg (nums .u8 (zs 23)).toArray)) := by kernel_rfl
theorem size87 : (Tryd.prog.info? 87).map (·.size) = some 23 := by kernel_rfl
theorem inf87 : (Tryd.prog.info? 87).map (fun i => (i.zero, i.size, i.bytes)) = some (some ((.agg (nums .u8 (zs 23)).toArray)), 23, 23) := by kernel_rfl
theorem zs87 : (Tryd.prog.info? 87).map (fun i => (i.zero, i.size)) = some (some ((.agg (nums .u8 (zs 23)).toArray)), 23) := by kernel_rfl
theorem zero29 : (Tryd.prog.info? 29).bind (·.zero) = some ((.agg (nums .u8 (zs 4)).toArray)) := by kernel_rfl
theorem size29 : (Tryd.prog.info? 29).map (·.size) = some 4 := by kernel_rfl
theorem inf29 : (Tryd.prog.info? 29).map (fun i => (i.zero, i.size, i.bytes)) = some (some ((.agg (nums .u8 (zs 4)).toArray)), 4, 4) := by kernel_rfl
theorem zs29 : (Tryd.prog.info? 29).map (fun i => (i.zero, i.size)) = some (some ((.agg (nums .u8 (zs 4)).toArray)), 4) := by kernel_rfl
theorem zero52 : (Tryd.prog.info? 52).bind (·.zero) = some ((.agg (nums .i64 (zs 4)).toArray)) := by kernel_rfl
theorem size52 : (Tryd.prog.info? 52).map (·.size) = some 4 := by kernel_rfl
theorem inf52 : (Tryd.prog.info? 52).map (fun i => (i.zero, i.size, i.bytes)) = some (some ((.agg (nums .i64 (zs 4)).toArray)), 4, 32) := by kernel_rfl
theorem zs52 : (Tryd.prog.info? 52).map (fun i => (i.zero, i.size)) = some (some ((.agg (nums .i64 (zs 4)).toArray)), 4) := by kernel_rfl
theorem zero82 : (Tryd.prog.info? 82).bind (·.zero) = some ((.agg (nums .u32 (zs 32)).toArray)) := by kernel_rfl
theorem size82 : (Tryd.prog.info? 82).map (·.size) = some 32 := by kernel_rfl
theorem inf82 : (Tryd.prog.info? 82).map (fun i => (i.zero, i.size, i.bytes)) = some (some ((.agg (nums .u32 (zs 32)).toArray)), 32, 128) := by kernel_rfl
theorem zs82 : (Tryd.prog.info? 82).map (fun i => (i.zero, i.size)) = some (some ((.agg (nums .u32 (zs 32)).toArray)), 32) := by kernel_rfl
theorem zero32 : (Tryd.prog.info? 32).bind (·.zero) = some ((.agg [.slice none 0 0, .slice none 0 0].toArray)) := by kernel_rfl
theorem size32 : (Tryd.prog.info? 32).map (·.size) = some 2 := by kernel_rfl
theorem inf32 : (Tryd.prog.info? 32).map (fun i => (i.zero, i.size, i.bytes)) = some (some ((.agg [.slice none 0 0, .slice none 0 0].toArray)), 2, 48) := by kernel_rfl
theorem zs32 : (Tryd.prog.info? 32).map (fun i => (i.zero, i.size)) = some (some ((.agg [.slice none 0 0, .slice none 0 0].toArray)), 2) := by kernel_rfl
theorem zero37 : (Tryd.prog.info? 37).bind (·.zero) = some ((.agg [.int .i64 0, .int .u32 0, .slice none 0 0].toArray)) := by kernel_rfl
theorem size37 : (Tryd.prog.info? 37).map (·.size) = some 3 := by kernel_rfl
theorem inf37 : (Tryd.prog.info? 37).map (fun i => (i.zero, i.size, i.bytes)) = some (some ((.agg [.int .i64 0, .int .u32 0, .slice none 0 0].toArray)), 3, 40) := by kernel_rfl
theorem zs37 : (Tryd.prog.info? 37).map (fun i => (i.zero, i.size)) = some (some ((.agg [.int .i64 0, .int .u32 0, .slice none 0 0].toArray)), 3) := by kernel_rfl
theorem zero99 : (Tryd.prog.info? 99).bind (·.zero) = some ((.agg [.int .i64 0, .int .i64 0, .int .i64 0, .int .i64 0].toArray)) := by kernel_rfl
theorem size99 : (Tryd.prog.info? 99).map (·.size) = some 4 := by kernel_rfl
theorem inf99 : (Tryd.prog.info? 99).map (fun i => (i.zero, i.size, i.bytes)) = some (some ((.agg [.int .i64 0, .int .i64 0, .int .i64 0, .int .i64 0].toArray)), 4, 32) := by kernel_rfl
theorem zs99 : (Tryd.prog.info? 99).map (fun i => (i.zero, i.size)) = some (some ((.agg [.int .i64 0, .int .i64 0, .int .i64 0, .int .i64 0].toArray)), 4) := by kernel_rfl
theorem zero54 : (Tryd.prog.info? 54).bind (·.zero) = some ((.agg [.int .u64 0, .int .i64 0, .int .i64 0, .int .i64 0, .int .i64 0, .int .i64 0, .int .i64 0].toArray)) := by kernel_rfl
theorem size54 : (Tryd.prog.info? 54).map (·.size) = some 7 := by kernel_rfl
theorem inf54 : (Tryd.prog.info? 54).map (fun i => (i.zero, i.size, i.bytes)) = some (some ((.agg [.int .u64 0, .int .i64 0, .int .i64 0, .int .i64 0, .int .i64 0, .int .i64 0, .int .i64 0].toArray)), 7, 56) := by kernel_rfl
theorem zs54 : (Tryd.prog.info? 54).map (fun i => (i.zero, i.size)) = some (some ((.agg [.int .u64 0, .int .i64 0, .int .i64 0, .int .i64 0, .int .i64 0, .int .i64 0, .int .i64 0].toArray)), 7) := by kernel_rfl
theorem zero101 : (Tryd.prog.info? 101).bind (·.zero) = some ((.agg [.int .i64 0, .int .i64 0, .slice none 0 0].toArray)) := by kernel_rfl
theorem size101 : (Tryd.prog.info? 101).map (·.size) = some 3 := by kernel_rfl
theorem inf101 : (Tryd.prog.info? 101).map (fun i => (i.zero, i.size, i.bytes)) = some (some ((.agg [.int .i64 0, .int .i64 0, .slice none 0 0].toArray)), 3, 40) := by kernel_rfl
theorem zs101 : (Tryd.prog.info? 101).map (fun i => (i.zero, i.size)) = some (some ((.agg [.int .i64 0, .int .i64 0, .slice none 0 0].toArray)), 3) := by kernel_rfl
theorem zero120 : (Tryd.prog.info? 120).bind (·.zero) = some ((.agg [.int .i64 0, .int .i64 0].toArray)) := by kernel_rfl
theorem size120 : (Tryd.prog.info? 120).map (·.size) = some 2 := by kernel_rfl
theorem inf120 : (Tryd.prog.info? 120).map (fun i => (i.zero, i.size, i.bytes)) = some (some ((.agg [.int .i64 0, .int .i64 0].toArray)), 2, 16) := by kernel_rfl
theorem zs120 : (Tryd.prog.info? 120).map (fun i => (i.zero, i.size)) = some (some ((.agg [.int .i64 0, .int .i64 0].toArray)), 2) := by kernel_rfl
end Go.Proofs.YthhbilkmdfdfiaaDoor.O
end
