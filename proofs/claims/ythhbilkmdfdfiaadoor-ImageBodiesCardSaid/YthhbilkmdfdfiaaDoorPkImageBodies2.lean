/- Texts of mine put together: Ty, Rd, In, In2, ArrEq, FkWord, FkStrandlineref01, Plain, Nums, FkCrc. -/
import Derived.Test.YthhbilkmdfdfiaaDoorPkImageBodies1
import Derived.Deep.Strs
import Derived.RangeFuncOwn
import Derived.RangeFuncLeaves
import Derived.RangeFuncCalls
import Derived.OwnWalkIn
import Derived.TacticsInMore
import Derived.LoopNIn
import Derived.LoopIn
import Derived.Stop.BytesEq
import Derived.Test.YthhbilkmdfdfiaaDoorWMore
import Derived.Laws.BitsAllLaws
import Derived.Laws.Bits64
import Derived.OpenShut
section
/- What the tables say of each type: its zero value, its cells, its bytes. -/
namespace Go.Proofs.YthhbilkmdfdfiaaDoor.O
open Go.RowKit Go.Proofs.YthhbilkmdfdfiaaDoorW.PrintWords Go.Proofs.YthhbilkmdfdfiaaDoorW.PrintLast Go.Proofs.YthhbilkmdfdfiaaDoorW.PrintMore Go.Proofs.YthhbilkmdfdfiaaDoor.F
set_option maxRecDepth 100000
theorem inf3 : (Tryd.prog.info? 3).map (fun i => (i.zero, i.size, i.bytes)) = some (some (.int .i64 0), 1, 8) := by kernel_rfl
theorem zs3 : (Tryd.prog.info? 3).map (fun i => (i.zero, i.size)) = some (some (.int .i64 0), 1) := by kernel_rfl
theorem size5 : (Tryd.prog.info? 5).map (·.size) = some 1 := by kernel_rfl
theorem inf5 : (Tryd.prog.info? 5).map (fun i => (i.zero, i.size, i.bytes)) = some (some (.int .u8 0), 1, 1) := by kernel_rfl
theorem zs5 : (Tryd.prog.info? 5).map (fun i => (i.zero, i.size)) = some (some (.int .u8 0), 1) := by kernel_rfl
theorem zero4 : (Tryd.prog.info? 4).bind (·.zero) = some (.bool false) := by kernel_rfl
theorem size4 : (Tryd.prog.info? 4).map (·.size) = some 1 := by kernel_rfl
theorem zero71 : (Tryd.prog.info? 71).bind (·.zero) = some (.slice none 0 0) := by kernel_rfl
theorem size71 : (Tryd.prog.info? 71).map (·.size) = some 1 := by kernel_rfl
theorem zero50 : (Tryd.prog.info? 50).bind (·.zero) = some ((.agg (nums .u8 (zs 64)).toArray)) := by kernel_rfl
theorem size50 : (Tryd.prog.info? 50).map (·.size) = some 64 := by kernel_rfl
theorem inf50 : (Tryd.prog.info? 50).map (fun i => (i.zero, i.size, i.bytes)) = some (some ((.agg (nums .u8 (zs 64)).toArray)), 64, 64) := by kernel_rfl
theorem zs50 : (Tryd.prog.info? 50).map (fun i => (i.zero, i.size)) = some (some ((.agg (nums .u8 (zs 64)).toArray)), 64) := by kernel_rfl
theorem zero84 : (Tryd.prog.info? 84).bind (·.zero) = some ((.agg (nums .u8 (zs 11)).toArray)) := by kernel_rfl
theorem zero37 : (Tryd.prog.info? 37).bind (·.zero) = some ((.agg [.int .i64 0, .int .u32 0, .slice none 0 0].toArray)) := by kernel_rfl
theorem size37 : (Tryd.prog.info? 37).map (·.size) = some 3 := by kernel_rfl
theorem zero101 : (Tryd.prog.info? 101).bind (·.zero) = some ((.agg [.int .i64 0, .int .i64 0, .slice none 0 0].toArray)) := by kernel_rfl
theorem size101 : (Tryd.prog.info? 101).map (·.size) = some 3 := by kernel_rfl
end Go.Proofs.YthhbilkmdfdfiaaDoor.O
end

section
/- Cells that are read from an address on, whosever they are. -/
namespace Go.Proofs.YthhbilkmdfdfiaaDoor.O
open Go.RowKit Go.Proofs.YthhbilkmdfdfiaaDoorW.PrintWords Go.Proofs.YthhbilkmdfdfiaaDoorW.PrintLast Go.Proofs.YthhbilkmdfdfiaaDoorW.PrintMore Go.Proofs.YthhbilkmdfdfiaaDoor.F
set_option linter.unusedVariables false
set_option linter.unusedSimpArgs false
/-- the cells cs lie from address A on -/
def Rd (w : World) (A : Option Addr) (cs : List Value) : Prop := 0 < cs.length → ∃ ad, A = some ad ∧ ∀ (j : Nat) (v : Value), cs[j]? = some v → w.cell? (ad.add j) = some v
theorem add_add' (a : Addr) (n m : Nat) : (a.add n).add m = a.add (n + m) := by
  unfold Addr.add
  by_cases h1 : n = 0
  · subst h1
    simp
  · by_cases h2 : m = 0
    · subst h2
      simp [h1]
    · rw [if_neg h1, if_neg h2, if_neg (by omega)]
      simp [Nat.add_assoc]
section
variable {w w1 : World} {A : Option Addr} {ad : Addr} {cs : List Value} {k : IntKind} {n : Nat} {xs : List Int}
theorem Rd.below (h : Rd w A cs) (hb : Below w.heap.size w w1) : Rd w1 A cs := fun hp => by
  obtain ⟨ad, rfl, hc⟩ := h hp
  refine ⟨ad, rfl, fun j v hj => ?_⟩
  have h1 := hc j v hj
  exact (hb.cell (World.block_lt_of_cell? w _ h1)).trans h1
theorem Rd.nil (w : World) (A : Option Addr) : Rd w A [] := fun hp => absurd hp (by simp)
theorem Rd.of_C (h : (Kd.int k).C w A n xs) : Rd w A (nums k xs) := fun hp => by
  have hl : xs.length = n := h.1
  rw [nums_length] at hp
  obtain ⟨ad, rfl, hc⟩ := h.2.2 (by omega)
  refine ⟨ad, rfl, fun j v hj => ?_⟩
  simp only [nums, List.getElem?_map, Option.map_eq_some_iff] at hj
  obtain ⟨z, hz, rfl⟩ := hj
  obtain ⟨c, hs', hr, hcell⟩ := hc j z hz
  have hr' : c = [.int k z] := hr
  subst hr'
  have := hcell 0 _ rfl
  rw [show (Kd.int k).sz = 1 from rfl] at this
  simpa using this
theorem Rd.C (h : Rd w A (nums k xs)) (hn : xs.length = n) (hm : n ≤ 9223372036854775807) : (Kd.int k).C w A n xs := by
  refine ⟨hn, hm, fun hp => ?_⟩
  obtain ⟨ad, rfl, hc⟩ := h (by rw [nums_length]; omega)
  refine ⟨ad, rfl, fun j p hj => ⟨[.int k p], rfl, rfl, fun i u hu => ?_⟩⟩
  have hi0 : i = 0 := by have := (List.getElem?_eq_some_iff.1 hu).1; simpa using this
  subst hi0
  simp at hu
  subst hu
  rw [show (Kd.int k).sz = 1 from rfl, Nat.mul_one, Nat.add_zero]
  refine hc j _ ?_
  rw [nums, List.getElem?_map, hj]
  rfl
theorem Rd.at_ (h : Rd w (some ad) cs) (off : Nat) : Rd w (some (ad.add off)) (cs.drop off) := fun hp => by
  rw [List.length_drop] at hp
  obtain ⟨ad', e, hc⟩ := h (by omega)
  obtain rfl := Option.some.inj e
  refine ⟨_, rfl, fun j v hj => ?_⟩
  rw [add_add']
  rw [List.getElem?_drop] at hj
  exact hc _ v hj
theorem Rd.take (h : Rd w A cs) (m : Nat) : Rd w A (cs.take m) := fun hp => by
  rw [List.length_take] at hp
  obtain ⟨ad, rfl, hc⟩ := h (by omega)
  refine ⟨ad, rfl, fun j v hj => ?_⟩
  rw [List.getElem?_take] at hj
  split at hj
  · exact hc j v hj
  · cases hj
theorem Rd.some_ (h : Rd w A cs) (hp : 0 < cs.length) : ∃ ad, A = some ad := by
  obtain ⟨ad, rfl, _⟩ := h hp
  exact ⟨ad, rfl⟩
end
section
variable {w0 W : World} {F : Nat → Option Obj} {L : List Res} {c : Res → List Res}
theorem rd_own {b : Nat} {A : Option Addr} {n cc sz : Nat} {e : TypeId} {xs : List Value} (h : W.ownsRow b e sz (.slice A n cc) n xs) : Rd W A xs ∧ n ≤ cc ∧ xs.length = n * sz := by
  refine ⟨fun hp => ?_, ?_, h.1⟩
  · rcases h.2 with ⟨h1, h0⟩ | ⟨g, cap, cur, h1, hb, hg, hnc, hcm, hcs, ht⟩
    · have := h.1
      rw [h0, Nat.zero_mul] at this
      omega
    · simp only [Value.slice.injEq] at h1
      obtain ⟨rfl, -, rfl⟩ := h1
      refine ⟨_, rfl, fun j v hj => ?_⟩
      rw [addr_add, Nat.zero_add, blk_cell hg j]
      rw [← ht, List.getElem?_take] at hj
      split at hj
      · simpa using hj
      · cases hj
  · rcases h.2 with ⟨h1, h0⟩ | ⟨g, cap, cur, h1, hb, hg, hnc, hcm, hcs, ht⟩
    · omega
    · simp only [Value.slice.injEq] at h1
      obtain ⟨rfl, -, rfl⟩ := h1
      exact hnc
theorem Own.rd {A : Option Addr} {n cc sz : Nat} {e : TypeId} {xs : List Value} (H : Own w0 F L W) (hI : In L (.row (.slice A n cc) e sz n xs) c) : Rd W A xs ∧ n ≤ cc ∧ xs.length = n * sz := rd_own (H.at_ hI)
end
section
variable {P : Program} {o : Oper} {a : Act} {K : Act → World → Prop} {Q : Exit → Act → World → Prop} {W : World} {ad : Addr} {cs : List Value}
theorem r_loadRd (ty : TypeId) (x : Operand) (ho : o.op = .load ty x) (off : Nat) (hx : a.eval x = .pointer (some (ad.add off))) (hR : Rd W (some ad) cs)
    (n : Nat) (d : TypeDesc) (hu : P.underlying ty = some d) (hd : d.isRow = true) (hi : (P.info? ty).map (·.size) = some n) (hn : 0 < n) (hfit : off + n ≤ cs.length) : (execOp a.eval o).run P W = .ok (.value (.agg ((cs.drop off).take n).toArray)) W := by
  have hll : ((cs.drop off).take n).length = n := by rw [List.length_take, List.length_drop]; omega
  have hl : (loadCells (ad.add off) ((cs.drop off).take n).length).run P W = .ok ((cs.drop off).take n).toArray W :=
    run_loadCells_list (P := P) W (ad.add off) ((cs.drop off).take n) (fun j v hv => by
      obtain ⟨ad', e, hc⟩ := ((hR.at_ off).take n) (by omega)
      obtain rfl := Option.some.inj e
      exact hc j v hv)
  rw [hll] at hl
  obtain ⟨i, hi, hs⟩ := Option.map_eq_some_iff.1 hi
  have hagg : (isAgg ty).run P W = .ok true W := by
    unfold isAgg
    rw [Sem.run_bind, run_underlying hu W]
    cases d <;> simp_all
  unfold execOp
  simp [ho, hx, Instr.loadAt, Instr.sureAddr, loadVar, hagg, sizeOf, typeInfo, hi, hs, hl]
theorem r_loadRd1 (ty : TypeId) (x : Operand) (ho : o.op = .load ty x) (off : Nat) (hx : a.eval x = .pointer (some (ad.add off))) (hR : Rd W (some ad) cs)
    (d : TypeDesc) (hu : P.underlying ty = some d) (hd : d.isRow = false) (v : Value) (hv : cs[off]? = some v) : (execOp a.eval o).run P W = .ok (.value v) W := by
  obtain ⟨ad', e, hc⟩ := hR (by have := (List.getElem?_eq_some_iff.1 hv).1; omega)
  obtain rfl := Option.some.inj e
  have hcell := hc off v hv
  have hag : (isAgg ty).run P W = .ok false W := by
    unfold isAgg
    rw [Sem.run_bind, run_underlying hu W]
    cases d <;> simp_all
  unfold execOp
  simp [ho, hx, Instr.loadAt, Instr.sureAddr, loadVar, hag, hcell]
theorem w_loadRd1 (ty : TypeId) (x : Operand) (ho : o.op = .load ty x) (off : Nat) (hx : a.eval x = .pointer (some (ad.add off))) (hR : Rd W (some ad) cs)
    (d : TypeDesc) (hu : P.underlying ty = some d) (hd : d.isRow = false) (v : Value) (hv : cs[off]? = some v) (h : K (a.put o.dst v) W) : o.wp P a W K Q := by
  unfold Oper.wp
  rw [r_loadRd1 ty x ho off hx hR d hu hd v hv]
  exact h
end
section
variable {P : Program} {ops : Array Oper} {rest : List Oper} {o : Oper} {a : Act} {Q : Exit → Act → World → Prop} {W : World} {ad : Addr} {cs : List Value}
theorem l_loadRd1 (hgd : o.guard = none) (ty : TypeId) (x : Operand) (ho : o.op = .load ty x) (off : Nat) (hx : a.eval x = .pointer (some (ad.add off))) (hR : Rd W (some ad) cs)
    (d : TypeDesc) (hu : P.underlying ty = some d) (hd : d.isRow = false) (v : Value) (hv : cs[off]? = some v) (h : wpList P ops Q rest (a.put o.dst v) W) : wpList P ops Q (o :: rest) a W :=
  wpList_plain hgd fun K hK => w_loadRd1 ty x ho off hx hR d hu hd v hv (hK _ _ h)
end
theorem nums_take {k : IntKind} (xs : List Int) (n : Nat) : (nums k xs).take n = nums k (xs.take n) := by simp [nums, List.map_take]
theorem nums_drop {k : IntKind} (xs : List Int) (n : Nat) : (nums k xs).drop n = nums k (xs.drop n) := by simp [nums, List.map_drop]
theorem nums_app {k : IntKind} (xs ys : List Int) : nums k xs ++ nums k ys = nums k (xs ++ ys) := by simp [nums]
section
variable {P : Program} {ops : Array Oper} {rest : List Oper} {o : Oper} {a : Act} {K : Act → World → Prop} {Q : Exit → Act → World → Prop} {W : World} {ad : Addr} {cs : List Value}
/-- the same, what is read written out -/
theorem r_loadRdS (ty : TypeId) (x : Operand) (ho : o.op = .load ty x) (off : Nat) (hx : a.eval x = .pointer (some (ad.add off))) (hR : Rd W (some ad) cs)
    (n : Nat) (d : TypeDesc) (hu : P.underlying ty = some d) (hd : d.isRow = true) (hi : (P.info? ty).map (·.size) = some n) (hn : 0 < n) (seg : List Value) (hs : (cs.drop off).take n = seg) (hl : seg.length = n) : (execOp a.eval o).run P W = .ok (.value (.agg seg.toArray)) W := by
  subst hs
  exact r_loadRd ty x ho off hx hR n d hu hd hi hn (by rw [List.length_take, List.length_drop] at hl; omega)
end
section
variable {w0 W : World} {F : Nat → Option Obj} {L : List Res} {c : Res → List Res}
theorem Own.addRow {W' : World} {v : Value} {e sz n : Nat} {xs : List Value} (H : Own w0 F L W) (hb : Below W.heap.size W W') (ho : W'.ownsRow W.heap.size e sz v n xs) : Own w0 F (.row v e sz n xs :: L) W' :=
  H.cons hb (own_weaken ho H.size) (fun k hk => own_base ho k hk)
/-- a block of one's own as a row of it -/
theorem Own.blk_row {g e sz n cap : Nat} {cur xs : List Value} (H : Own w0 F L W) (hI : In L (.blk g e cur) c) (hn : n ≤ cap) (hm : cap ≤ 9223372036854775807) (hl : cur.length = cap * sz) (hx : cur.take (n * sz) = xs) :
    Own w0 F (c (.row (.slice (some ⟨g, 0, none⟩) n cap) e sz n xs)) W := by
  have h := H.at_ hI
  refine H.repl hI (World.grownBy.refl W _) ⟨?_, .inr ⟨g, cap, cur.toArray, rfl, h.1, h.2, hn, by simpa [maxLen] using hm, by simpa using hl, by simpa using hx⟩⟩ (fun k hk => .inl ?_)
  · rw [← hx, List.length_take, hl, Nat.min_eq_left (Nat.mul_le_mul_right _ hn)]
  · simp [Res.block, Value.ownBlock] at hk ⊢
    exact hk
end
/-! ### slices of slices -/
/-- where a cut slice begins: lo its low bound, m the capacity's end -/
def dropA (A : Option Addr) (lo m sz : Nat) : Option Addr := if m = lo then A else A.map (·.add (lo * sz))
theorem Rd.dropA {w : World} {A : Option Addr} {cs : List Value} (h : Rd w A cs) (lo m sz : Nat) (hm : m = lo → cs.length ≤ lo * sz) : Rd w (dropA A lo m sz) (cs.drop (lo * sz)) := by
  unfold O.dropA
  split
  · rename_i he
    rw [List.drop_of_length_le (hm he)]
    exact Rd.nil _ _
  · intro hp
    rw [List.length_drop] at hp
    obtain ⟨ad, rfl⟩ := h.some_ (by omega)
    exact (h.at_ (lo * sz)) (by rw [List.length_drop]; exact hp)
section
variable {P : Program} {o : Oper} {a : Act} {A : Option Addr} {n c : Nat} {t e sz : Nat}
theorem x_slice (x : Operand) (lo hi mx : Option Operand) (ho : o.op = .slice t x lo hi mx) (hx : a.eval x = .slice A n c) (hu : P.underlying t = some (.slice e)) (hz : (P.info? e).map (·.size) = some sz)
    (l h m : Nat) (hb : ∀ W, (Instr.sliceBounds true n c (lo.map a.eval) (hi.map a.eval) (mx.map a.eval)).run P W = .ok (l, h, m) W) (W : World) :
    (execOp a.eval o).run P W = .ok (.value (.slice (dropA A l m sz) (h - l) (m - l))) W := by
  obtain ⟨i, hi', hs⟩ := Option.map_eq_some_iff.1 hz
  have hel : P.elem t = e := by simp [Program.elem, hu]
  have hu' : P.underlying t = some (.slice (P.elem t)) := by rw [hel]; exact hu
  have h1 : (Instr.sliceAt t (.slice A n c) (lo.map a.eval) (hi.map a.eval) (mx.map a.eval)).run P W = .ok (.slice (dropA A l m sz) (h - l) (m - l)) W := by
    rw [run_sliceAt_slice W t _ _ _ _ hu', run_slice_any W t A n c hu', hb W]
    simp [Result.andThen, sizeOf, typeInfo, hel, hi', hs, sliced, dropA]
  unfold execOp
  simp [ho, hx, h1]
theorem x_slice_lo (x lo : Operand) (ho : o.op = .slice t x (some lo) none none) (hx : a.eval x = .slice A n c) (hu : P.underlying t = some (.slice e)) (hz : (P.info? e).map (·.size) = some sz) (l : Nat) (hlo : a.eval lo = .int .i64 (l : Int)) (h1 : l ≤ n) (W : World) :
    (execOp a.eval o).run P W = .ok (.value (.slice (dropA A l c sz) (n - l) (c - l))) W :=
  x_slice x _ _ _ ho hx hu hz l n c (fun W => by simp [Instr.sliceBounds, run_sliceBound, hlo, h1]) W
theorem x_slice_hi (x hi : Operand) (ho : o.op = .slice t x none (some hi) none) (hx : a.eval x = .slice A n c) (hu : P.underlying t = some (.slice e)) (hz : (P.info? e).map (·.size) = some sz) (h : Nat) (hhi : a.eval hi = .int .i64 (h : Int)) (h1 : h ≤ c) (W : World) :
    (execOp a.eval o).run P W = .ok (.value (.slice (dropA A 0 c sz) h c)) W := by
  have := x_slice (P := P) x _ _ _ ho hx hu hz 0 h c (fun W => by simp [Instr.sliceBounds, run_sliceBound, hhi, h1]) W
  simpa using this
theorem dropA_zero (A : Option Addr) (c sz : Nat) : dropA A 0 c sz = A := by
  unfold dropA
  split
  · rfl
  · cases A <;> simp [Addr.add]
theorem x_slice_to (x hi : Operand) (ho : o.op = .slice t x none (some hi) none) (hx : a.eval x = .slice A n c) (hu : P.underlying t = some (.slice e)) (hz : (P.info? e).map (·.size) = some sz) (h : Nat) (hhi : a.eval hi = .int .i64 (h : Int)) (h1 : h ≤ c) (W : World) :
    (execOp a.eval o).run P W = .ok (.value (.slice A h c)) W := by
  have := x_slice_hi x hi ho hx hu hz h hhi h1 W
  rwa [dropA_zero] at this
theorem x_slice_lohimax (x lo hi mx : Operand) (ho : o.op = .slice t x (some lo) (some hi) (some mx)) (hx : a.eval x = .slice A n c) (hu : P.underlying t = some (.slice e)) (hz : (P.info? e).map (·.size) = some sz) (l h m : Nat) (hlo : a.eval lo = .int .i64 (l : Int)) (hhi : a.eval hi = .int .i64 (h : Int)) (hmx : a.eval mx = .int .i64 (m : Int))
    (h1 : l ≤ h) (h2 : h ≤ m) (h3 : m ≤ c) (W : World) :
    (execOp a.eval o).run P W = .ok (.value (.slice (dropA A l m sz) (h - l) (m - l))) W :=
  x_slice x _ _ _ ho hx hu hz l h m (fun W => by simp [Instr.sliceBounds, run_sliceBound, hlo, hhi, hmx, h1, h2, h3]) W
end
section
variable {P : Program} {ops : Array Oper} {rest : List Oper} {o : Oper} {a : Act} {K : Act → World → Prop} {Q : Exit → Act → World → Prop} {W : World}
theorem w_run (v : Value) (hr : (execOp a.eval o).run P W = .ok (.value v) W) (h : K (a.put o.dst v) W) : o.wp P a W K Q := by
  unfold Oper.wp
  rw [hr]
  exact h
theorem l_run (hgd : o.guard = none) (v : Value) (hr : (execOp a.eval o).run P W = .ok (.value v) W) (h : wpList P ops Q rest (a.put o.dst v) W) : wpList P ops Q (o :: rest) a W :=
  wpList_plain hgd fun K hK => w_run v hr (hK _ _ h)
end
end Go.Proofs.YthhbilkmdfdfiaaDoor.O
end

section
/- From the plain walk to the walk in a round of a loop over a function; the loop over a function, by what is owned. -/
namespace Go.Proofs.YthhbilkmdfdfiaaDoor.O
open Go.RowKit Go.Proofs.YthhbilkmdfdfiaaDoorW.PrintWords Go.Proofs.YthhbilkmdfdfiaaDoorW.PrintLast Go.Proofs.YthhbilkmdfdfiaaDoorW.PrintMore Go.Proofs.YthhbilkmdfdfiaaDoor.F
set_option linter.unusedVariables false
set_option linter.unusedSimpArgs false
section
variable {P : Program} {r n : Nat} {ops : Array Oper} {Q : Exit → Act → World → Prop}
theorem opIn_of_wp {o : Oper} {a : Act} {w : World} {K : Act → World → Prop} (hnd : ∀ c, o.op ≠ .defer c) (h : o.wp P a w K Q) : o.wpIn (Fence.wide.inRound r) n P a w K Q := by
  unfold Oper.wpIn
  refine ⟨fun _ _ => trivial, ?_⟩
  rw [Oper.semAt_eq _ _ _ hnd]
  unfold Oper.wp at h
  generalize (execOp a.eval o).run P w = x at h ⊢
  cases x with
  | ok y w' =>
    cases y with
    | enter f args =>
      simp only [Oper.upon, Oper.uponIn] at h ⊢
      exact ⟨fun e => by simp [Fence.inRound, Fence.wide] at e, (CallsIn.inRound r (callsIn_wide.2 h)).mono (fun e w'' he => by cases e <;> exact he)⟩
    | row q args =>
      simp only [Oper.upon, Oper.uponIn] at h ⊢
      refine ⟨fun e => by simp [Fence.inRound, Fence.wide] at e, fun c cs _ => ?_⟩
      obtain ⟨v, w', hr, hs⟩ := h c cs
      exact ⟨v, w', hr, stepsIn_wide.2 hs⟩
    | value v => exact h
    | skip => exact h
    | «defer» d => exact h
    | _ => exact absurd h (by simp [Oper.upon])
  | halt y w' => cases y <;> exact h
def noDefer (o : Oper) : Bool := match o.op with | .defer _ => false | _ => true
theorem noDefer_ne {o : Oper} (h : noDefer o = true) (c : Call) : o.op ≠ .defer c := by
  intro e
  unfold noDefer at h
  rw [e] at h
  cases h
theorem listIn_of (hQ : ¬ LetsOut Q) : ∀ (l : List Oper) (a : Act) (w : World), l.all noDefer = true → wpList P ops Q l a w → wpListIn (Fence.wide.inRound r) n P ops Q l a w
  | [], _, _, _, h => h
  | o :: rest, a, w, hn, h => by
    rw [List.all_cons, Bool.and_eq_true] at hn
    simp only [wpList, wpListIn] at h ⊢
    split at h
    · rename_i hw
      rw [if_pos hw]
      rcases h with h | h
      · exact Oper.wpIn_mono (fun a w h => listIn_of hQ rest a w hn.2 h) (opIn_of_wp (fun c => noDefer_ne hn.1 c) h)
      · exact absurd h.2 hQ
    · rename_i hw
      rw [if_neg hw]
      exact ⟨fun _ _ => trivial, listIn_of hQ rest _ w hn.2 h⟩
theorem regIn_lit {id : Nat} {l : List Oper} {a : Act} {w : World} (hn : l.all noDefer = true) (hQ : ¬ LetsOut Q) (h : wpList P l.toArray Q l a w) : (Code.region id l.toArray false).wpIn (Fence.wide.inRound r) n P Q a w :=
  wpIn_region_lit (listIn_of hQ l a w hn h)
end
/-! ### a block that is no resource -/
theorem Own.putF {w0 W : World} {F : Nat → Option Obj} {L : List Res} (H : Own w0 F L W) (l : Nat) (o o' : Obj) (hF : F l = some o) (hl : w0.heap.size ≤ l) : Own w0 (fun g => if g = l then some o' else F g) L (W.putObj l o') := by
  have hlt : l < W.heap.size := obj_lt (H.holds l o hF)
  have hne : ∀ y ∈ L, ∀ k, y.block = some k → k ≠ l := fun y hy k hk e => by
    subst e
    have := H.apart y hy k hk
    rw [hF] at this
    cases this
  refine ⟨?_, ?_, ?_, ?_, H.sep⟩
  · refine ⟨H.below.os, H.below.tape, H.below.output, ?_, fun k hk => ?_⟩
    · have := H.below.size
      simpa [World.putObj] using this
    · exact (World.putObj_heap_other (by omega)).trans (H.below.block k hk)
  · intro g q hg
    by_cases e : g = l
    · subst e
      simp at hg
      subst hg
      exact World.putObj_heap_same hlt
    · simp [e] at hg
      exact (World.putObj_heap_other e).trans (H.holds g q hg)
  · intro y hy
    exact (H.ats y hy).move (fun k hk => World.putObj_heap_other (hne y hy k hk))
  · intro y hy k hk
    simp [hne y hy k hk]
    exact H.apart y hy k hk
theorem Own.addF {w0 W : World} {F : Nat → Option Obj} {L : List Res} (H : Own w0 F L W) (o : Obj) : Own w0 (fun g => if g = W.heap.size then some o else F g) L (W.alloc o) := by
  have hb : Below W.heap.size W (W.alloc o) := below_alloc (Below.refl _ _) o
  have H1 := H.to hb
  refine ⟨H1.below, ?_, H1.ats, ?_, H1.sep⟩
  · intro g q hg
    by_cases e : g = W.heap.size
    · subst e
      simp at hg
      subst hg
      exact World.alloc_heap_new W o
    · simp [e] at hg
      exact H1.holds g q hg
  · intro y hy k hk
    have := (H.ats y hy).lt hk
    rw [if_neg (by omega)]
    exact H.apart y hy k hk
theorem Own.congrF {w0 W : World} {F F' : Nat → Option Obj} {L : List Res} (H : Own w0 F L W) (h : ∀ g, F g = F' g) : Own w0 F' L W := by
  obtain rfl : F = F' := funext h
  exact H
end Go.Proofs.YthhbilkmdfdfiaaDoor.O
end

section
/- The loop over a function whose body may leave by return; the iterator's own memory stands on the list of what is owned. -/
namespace Go.Proofs.YthhbilkmdfdfiaaDoor.O
open Go.RowKit Go.Proofs.YthhbilkmdfdfiaaDoorW.PrintWords Go.Proofs.YthhbilkmdfdfiaaDoorW.PrintLast Go.Proofs.YthhbilkmdfdfiaaDoorW.PrintMore Go.Proofs.YthhbilkmdfdfiaaDoor.F
set_option linter.unusedVariables false
set_option linter.unusedSimpArgs false
/-- a round goes on, or the function returns -/
def bodyQ2 (K KR : World → Prop) : Exit → Act → World → Prop
  | .normal, _, w => K w
  | .ret, _, w => KR w
  | _, _, _ => False
/-- what a call of yield tells the iterator -/
def Yld (w0 : World) (F1 F2 : Nat → Option Obj) (RZ RX : List Res → Prop) (e : Ending) (W : World) : Prop :=
  (e = .returned (.bool true) ∧ ∃ L, RZ L ∧ Own w0 F1 L W) ∨ (e = .returned (.bool false) ∧ ∃ L, RX L ∧ Own w0 F2 L W)
def Fin2 (w0 : World) (F1 F2 : Nat → Option Obj) (RN RL : List Res → Prop) (e : Ending) (W : World) : Prop :=
  (∃ v, e = .returned v) ∧ ((∃ L, RN L ∧ Own w0 F1 L W) ∨ (∃ L, RL L ∧ Own w0 F2 L W))
theorem rf_gen {ι : Type} {P : Program} {w0 w : World} {F : Nat → Option Obj} {Q : Exit → Act → World → Prop} {a : Act} {g : Operand} {ps : Array Tmp} {assign body : Code} {gf : Nat} {lb : Array Value} {n : Nat}
    (hg : a.eval g = .func (.func gf) #[] lb) (eg : ∀ args w, (callFunc gf args).run P w = .ok (.enter gf args) w) (hps : ps.size = 1) {L0 : List Res} (H0 : Own w0 F L0 w)
    (RY RZ : ι → Value → List Res → Prop) (RM : ι → Value → Act → List Res → Prop) (RX : ι → Value → List Res → Prop) (RN RL : List Res → Prop)
    (hseq : ∀ (F1 F2 : Nat → Option Obj) l W, Own w0 F1 L0 W →
      (∀ k v L W, RY k v L → Own w0 F1 L W → YieldAt Fence.wide n P l #[v] W (Yld w0 F1 F2 (RZ k v) (RX k v))) →
      CallsIn Fence.wide n P gf (#[.func (.yield l) #[] #[]] ++ lb) W (Fin2 w0 F1 F2 RN RL))
    (hassign : ∀ F1 l k v L W, RY k v L → Own w0 F1 L W → assign.wpIn (Fence.wide.inRound l) n P (Exit.then (fun a1 W1 => ∃ L1, RM k v a1 L1 ∧ Own w0 F1 L1 W1) (fun _ _ _ => False)) { tmps := (ps.zip #[v]).foldl (fun t (p, v) => t.setIfInBounds p v) a.tmps, defers := [] } W)
    (hbody : ∀ F1 l k v a1 L W, RM k v a1 L → Own w0 F1 L W → body.wpIn (Fence.wide.inRound l) n P (bodyQ2 (fun W' => ∃ L', RZ k v L' ∧ Own w0 F1 L' W') (fun W' => ∃ L', RX k v L' ∧ Own w0 F1 L' W')) a1 W)
    (hdone : ∀ F1 D L W, RN L → Own w0 F1 L W → F1 D = some (.deferred (some [])) → w0.heap.size ≤ D → Q .normal { a with defers := { target := .collected D, args := #[] } :: a.defers } W)
    (hleft : ∀ F1 D L W, RL L → Own w0 F1 L W → F1 D = some (.deferred (some [])) → w0.heap.size ≤ D → Code.ret.wpIn Fence.wide (n + 1) P Q { a with defers := { target := .collected D, args := #[] } :: a.defers } W) :
    (Code.rangeFunc g ps assign body).wpIn Fence.wide (n + 1) P Q a w := by
  refine wpIn_rangeFunc ?_
  intro fn hfn
  obtain ⟨rec, hrec⟩ : ∃ rec : LoopState → Option Code → Loop, rec = fun st pe => { state := st, pending := pe, fn, tmps := a.tmps, params := ps, assign, body, defers := w.heap.size } := ⟨_, rfl⟩
  have hle := H0.size
  have H1 := H0.addF (.deferred (some []))
  have H2 := H1.addF (.loop (rec .ready none))
  rw [World.size_alloc] at H2
  obtain ⟨FF, hFF⟩ : ∃ FF : LoopState → Option Code → Nat → Option Obj, FF = fun st pe g => if g = w.heap.size + 1 then some (.loop (rec st pe)) else if g = w.heap.size then some (.deferred (some [])) else F g := ⟨_, rfl⟩
  have fl1 : ∀ st pe, FF st pe (w.heap.size + 1) = some (.loop (rec st pe)) := fun st pe => by rw [hFF]; simp
  have fl2 : ∀ st pe, FF st pe w.heap.size = some (.deferred (some [])) := fun st pe => by rw [hFF]; simp
  have fput : ∀ st pe st' pe' L W, Own w0 (FF st pe) L W → Own w0 (FF st' pe') L (W.putObj (w.heap.size + 1) (.loop (rec st' pe'))) := fun st pe st' pe' L W H => by
    refine (H.putF (w.heap.size + 1) _ (.loop (rec st' pe')) (fl1 st pe) (by omega)).congrF (fun g => ?_)
    rw [hFF]
    by_cases e : g = w.heap.size + 1
    · simp [e]
    · simp [e]
  have H2' : Own w0 (FF .ready none) L0 ((w.alloc (.deferred (some []))).alloc (.loop (rec .ready none))) := H2.congrF (fun g => by rw [hFF])
  generalize hW1 : (w.alloc (.deferred (some []))).alloc (.loop (rec .ready none)) = W1 at H2'
  refine ⟨w.heap.size + 1, [{ target := .collected w.heap.size, args := #[] }], W1, { target := .fn (.func gf) lb, args := #[.func (.yield (w.heap.size + 1)) #[] #[]] }, W1, gf,
    #[.func (.yield (w.heap.size + 1)) #[] #[]] ++ lb, W1, ?_, ?_, ?_, ?_, fun e => by simp [Fence.wide] at e, ?_⟩
  · rw [← hW1, hrec]; exact run_enterLoop_outer _ _ _ _ _
  · simp only [resolve, hg]
    simp [go_sem]
  · intro f' hf'; trivial
  · simp [invoke, go_sem, eg]
  · refine (hseq (FF .ready none) (FF .done (some .ret)) (w.heap.size + 1) W1 H2' ?_).mono ?_
    · intro k v L W hR H
      have hl := H.holds _ _ (fl1 .ready none)
      have hy := run_yield (P := P) (args := #[v]) hl (by rw [hrec]; simp [hps])
      rw [hrec] at hy
      refine ⟨fn, _, assign, body, hy, roundIn_of_wpIn hfn (wpIn_mono (hassign _ _ k v L W hR H) ?_)⟩
      intro e a1 W2 he
      cases e with
      | normal =>
        obtain ⟨L1, hM, H3⟩ := he
        have hl3 := H3.holds _ _ (fl1 .ready none)
        refine ⟨_, run_beginRound hl3 (by rw [hrec]), ?_⟩
        have H4 := fput .ready none .busy none L1 W2 H3
        have e4 : W2.putObj (w.heap.size + 1) (.loop { rec .ready none with state := .busy }) = W2.putObj (w.heap.size + 1) (.loop (rec .busy none)) := by rw [hrec]
        rw [e4]
        refine wpIn_mono (hbody _ _ k v a1 L1 _ hM H4) ?_
        intro e a5 W5 he
        cases e with
        | normal =>
          obtain ⟨L5, hR5, H5⟩ := he
          have hl5 := H5.holds _ _ (fl1 .busy none)
          refine ⟨_, _, run_endRound none hl5, .inl ⟨rfl, L5, hR5, ?_⟩⟩
          have H6 := fput .busy none .ready none L5 W5 H5
          have e6 : (W5.putObj (w.heap.size + 1) (.loop { rec .busy none with state := if (none : Option Code).isNone then .ready else .done, pending := none })) = W5.putObj (w.heap.size + 1) (.loop (rec .ready none)) := by rw [hrec]; rfl
          rw [e6]
          exact H6
        | ret =>
          obtain ⟨L5, hR5, H5⟩ := he
          have hl5 := H5.holds _ _ (fl1 .busy none)
          refine ⟨_, _, run_endRound (some .ret) hl5, .inr ⟨rfl, L5, hR5, ?_⟩⟩
          have H6 := fput .busy none .done (some .ret) L5 W5 H5
          have e6 : (W5.putObj (w.heap.size + 1) (.loop { rec .busy none with state := if (some Code.ret).isNone then .ready else .done, pending := some Code.ret })) = W5.putObj (w.heap.size + 1) (.loop (rec .done (some .ret))) := by rw [hrec]; rfl
          rw [e6]
          exact H6
        | _ => exact he.elim
      | _ => exact he.elim
    · rintro e W2 ⟨⟨v, rfl⟩, h⟩
      rcases h with ⟨L, hR, H⟩ | ⟨L, hR, H⟩
      · have hl2 := H.holds _ _ (fl1 .ready none)
        refine ⟨none, _, by have := run_endLoop (P := P) hl2 (by rw [hrec]; simp); rw [hrec] at this; exact this, ?_⟩
        have H3 := fput .ready none .exhausted none L W2 H
        have e3 : (W2.putObj (w.heap.size + 1) (.loop (rec .exhausted none))) = W2.putObj (w.heap.size + 1) (.loop { state := .exhausted, pending := none, fn, tmps := a.tmps, params := ps, assign, body, defers := w.heap.size }) := by rw [hrec]
        rw [e3] at H3
        exact hdone _ w.heap.size L _ hR H3 (fl2 _ _) hle
      · have hl2 := H.holds _ _ (fl1 .done (some .ret))
        refine ⟨some .ret, _, by have := run_endLoop (P := P) hl2 (by rw [hrec]; simp); rw [hrec] at this; exact this, ?_⟩
        have H3 := fput .done (some .ret) .exhausted (some .ret) L W2 H
        have e3 : (W2.putObj (w.heap.size + 1) (.loop (rec .exhausted (some .ret)))) = W2.putObj (w.heap.size + 1) (.loop { state := .exhausted, pending := some .ret, fn, tmps := a.tmps, params := ps, assign, body, defers := w.heap.size }) := by rw [hrec]
        rw [e3] at H3
        exact hleft _ w.heap.size L _ hR H3 (fl2 _ _) hle
end Go.Proofs.YthhbilkmdfdfiaaDoor.O
end

section
/- Arrays of bytes compared. -/
namespace Go.Proofs.YthhbilkmdfdfiaaDoor.F
open Go.RowKit Go.Proofs.YthhbilkmdfdfiaaDoorW.PrintWords Go.Proofs.YthhbilkmdfdfiaaDoorW.PrintLast Go.Proofs.YthhbilkmdfdfiaaDoorW.PrintMore
set_option linter.unusedVariables false
set_option linter.unusedSimpArgs false
def Bytes (xs : List Int) : Prop := ∀ c ∈ xs, 0 ≤ c ∧ c ≤ 255
def u8s (xs : List Int) : List UInt8 := xs.map fun n => UInt8.ofNat n.toNat
theorem vals_u8s : ∀ {xs : List Int}, Bytes xs → vals xs = (u8s xs).map Extern.Stop.cell := by
  intro xs h
  unfold vals u8s
  rw [List.map_map]
  refine List.map_congr_left fun c hc => ?_
  have := h c hc
  show Value.int .u8 c = Value.int .u8 (((UInt8.ofNat c.toNat).toNat : Nat) : Int)
  congr 1
  simp only [UInt8.toNat_ofNat']
  omega
theorem u8s_beq : ∀ {xs ys : List Int}, Bytes xs → Bytes ys → (u8s xs == u8s ys) = (xs == ys) := by
  intro xs
  induction xs with
  | nil => intro ys _ _; cases ys <;> rfl
  | cons c xs ih =>
    intro ys hx hy
    cases ys with
    | nil => rfl
    | cons d ys =>
      have a := hx c (List.mem_cons_self ..)
      have b := hy d (List.mem_cons_self ..)
      have e : (UInt8.ofNat c.toNat == UInt8.ofNat d.toNat) = (c == d) := by
        rw [Bool.eq_iff_iff]
        simp only [beq_iff_eq, ← UInt8.toNat_inj, UInt8.toNat_ofNat']
        omega
      show (UInt8.ofNat c.toNat :: u8s xs == UInt8.ofNat d.toNat :: u8s ys) = (c :: xs == d :: ys)
      rw [List.cons_beq_cons, List.cons_beq_cons, e, ih (fun z hz => hx z (List.mem_cons_of_mem _ hz)) (fun z hz => hy z (List.mem_cons_of_mem _ hz))]
theorem equalB (d : Nat) (w : World) (t : TypeId) (n : Nat) (ht : Tryd.prog.underlying t = some (.array n 5)) {xs ys : List Int} (hx : xs.length = n) (hy : ys.length = n) (bx : Bytes xs) (by' : Bytes ys) :
    (Op.equalIn (d + 2) t (.agg (vals xs).toArray) (.agg (vals ys).toArray)).run Tryd.prog w = .ok (xs == ys) w := by
  rw [vals_u8s bx, vals_u8s by', run_equalIn_bytes w d t 5 n ht Tryd.underlying5 (fun w => by kernel_rfl) _ _ (by simp [u8s, hx]) (by simp [u8s, hy]), u8s_beq bx by']
end Go.Proofs.YthhbilkmdfdfiaaDoor.F
end

section
/- Functions of word: what each answers, as a Lean function, and that the call answers just this. Turned out of what the kit's print told for this seat. -/
namespace Go.Proofs.YthhbilkmdfdfiaaDoor.F
open Go.RowKit Go.Proofs.YthhbilkmdfdfiaaDoorW.PrintWords Go.Proofs.YthhbilkmdfdfiaaDoorW.PrintLast Go.Proofs.YthhbilkmdfdfiaaDoorW.PrintMore
attribute [local go_sem high] eqA120
attribute [local go_sem] field120_0
attribute [local go_sem] field120_1
attribute [local go_sem] max2_int min2_int max_two min_two max_three min_three max_four min_four
set_option linter.unusedVariables false
set_option linter.unusedSimpArgs false

/-! ### word_Get: function 57 -/
def word_Get.l0 : Nat → List Int → Int → Int → Int → Option (Int)
  | 0, _, _, _, _ => none
  | k + 1, x0, x3, x7, x8 => if x8 < x7 then (if 0 ≤ x8 then (if x8 < (x0.length : Int) then (if 0 ≤ (wrap64 (8 * x8)) then (word_Get.l0 k x0 (Go.bits .or .u64 x3 (shl .u64 (IntKind.u64.wrap (rd x0 x8)) (wrap64 (8 * x8)))) x7 (wrap64 (x8 + 1))) else (none)) else (none)) else (none)) else (some x3)
def word_Get.f (k : Nat) (l0 : List Int) : Option (Int) := word_Get.l0 k l0 0 (mn (l0.length : Int) 8) 0
theorem word_Get.mono_l : ∀ k, (∀ y0 y1 y2 y3, LeO (word_Get.l0 k y0 y1 y2 y3) (word_Get.l0 (k + 1) y0 y1 y2 y3))
  | 0 => fun _ _ _ _ r h => by simp [word_Get.l0] at h
  | k + 1 => by
    have ih0 := word_Get.mono_l k
    · intro y0 y1 y2 y3
      unfold word_Get.l0
      repeat' first
      | (with_reducible exact ih0 _ _ _ _)
      | (with_reducible exact LeO.refl _)
      | (with_reducible exact LeO.none _)
      | (with_reducible refine LeO.ite ?_ ?_)
      | (with_reducible refine LeO.bind ?_ (fun _ => ?_))
      | exact ih0 _ _ _ _
      | exact LeO.none _
      | refine LeO.ite ?_ ?_
      | refine LeO.bind ?_ (fun _ => ?_)
theorem word_Get.mono : ∀ a0 k, LeO (word_Get.f k a0) (word_Get.f (k + 1) a0) := by
  intro a0 k
  have ih0 := word_Get.mono_l k
  unfold word_Get.f
  repeat' first
      | (with_reducible exact ih0 _ _ _ _)
      | (with_reducible exact LeO.refl _)
      | (with_reducible exact LeO.none _)
      | (with_reducible refine LeO.ite ?_ ?_)
      | (with_reducible refine LeO.bind ?_ (fun _ => ?_))
      | exact ih0 _ _ _ _
      | exact LeO.none _
      | refine LeO.ite ?_ ?_
      | refine LeO.bind ?_ (fun _ => ?_)
set_option maxHeartbeats 8000000 in
set_option maxRecDepth 100000 in
theorem word_Get.calls (k : Nat) (A0 : Option Addr) (c0 : Nat) (l0 : List Int) (r : Int) (w : World) (hr0 : Kd.C (Kd.int .u8) w A0 l0.length l0) (hc0 : l0.length ≤ c0) (h : word_Get.f k l0 = some r) :
    Calls Tryd.prog 57 #[.slice A0 l0.length c0] w fun e w' => e = .returned (.int .u64 r) ∧ Below w.heap.size w w' := by
  have hu37 := Tryd.underlying37
  have hu99 := Tryd.underlying99
  have hu120 := Tryd.underlying120
  have HR0 := Aside0.mk hr0
  have HC0 := Aside0.mk hc0
  clear hr0 hc0
  have HB := Aside0.mk (Below.refl w.heap.size w)
  have H : (word_Get.l0 k l0 0 (mn (l0.length : Int) 8) 0) = some r := h
  clear h
  obtain ⟨ji2, hji2⟩ : ∃ j_ : Int, (mn (l0.length : Int) 8) = j_ := ⟨_, rfl⟩
  replace H : (word_Get.l0 k l0 0 ji2 0) = some r := by first | (rw [hji2] at H; exact H) | (simp only [hji2] at H ⊢; exact H)
  (try (have hji2h : ji2 ≤ 8 := by (rw [← hji2]; unfold mn; (repeat' split) <;> omega)))
  (try (have hji2g : ji2 ≤ 64 := by omega))
  (try (have hji2l : 0 ≤ ji2 := by (rw [← hji2]; unfold mn; (repeat' split) <;> omega)))
  (try (have hji2m : 0 ≤ ji2 := by omega))
  have hji2_ : (if 8 < (l0.length : Int) then 8 else (l0.length : Int)) = ji2 := hji2
  have H' := Aside0.mk H
  clear H
  go_enter Tryd.func57, Tryd.ntmps57
  go_wp2
  go_loopg [3, 8] k (fun kq v3 v8 w' => ∃ (x3_1 : Int) (x8_1 : Int), v3 = .int .u64 x3_1 ∧ v8 = .int .i64 x8_1 ∧ Aside0 (word_Get.l0 kq l0 x3_1 ji2 x8_1 = some r) ∧ Aside0 (kq ≤ k) ∧ Aside0 (Below w.heap.size w w'))
  case atStart => exact ⟨(0), (0), (by first | rfl | (simp; done) | (simp [*]; done)), (by first | rfl | (simp; done) | (simp [*]; done)), H', ⟨Nat.le_refl _⟩, ⟨by repeat (first | (with_reducible first | exact HB.out | apply below_alloc | apply pw_below_drewN | apply below_drew1) | exact HB.out)⟩⟩
  case round =>
    clear H'
    try clear p2
    obtain ⟨x3_1, x8_1, rfl, rfl, HA, HK1, HB⟩ := hrel
    cases gk with
    | zero => exact absurd HA.out (by simp [word_Get.l0])
    | succ k1 =>
      have H := HA.out
      clear HA
      simp only [word_Get.l0] at H
      by_cases c3 : x8_1 < ji2
      · rw [if_pos c3] at H
        have c3b0 : decide (x8_1 < ji2) = true := decide_eq_true c3
        clear c3
        by_cases c4 : 0 ≤ x8_1
        · rw [if_pos c4] at H
          have c4b0 : decide (0 ≤ x8_1) = true := decide_eq_true c4
          clear c4
          by_cases c5 : x8_1 < (l0.length : Int)
          · rw [if_pos c5] at H
            have c5b0 : decide (x8_1 < (l0.length : Int)) = true := decide_eq_true c5
            clear c5
            obtain ⟨ji6, hji6⟩ : ∃ j_ : Int, (wrap64 (8 * x8_1)) = j_ := ⟨_, rfl⟩
            replace H : (if 0 ≤ (ji6) then (word_Get.l0 k1 l0 (Go.bits .or .u64 x3_1 (shl .u64 (IntKind.u64.wrap (rd l0 x8_1)) (ji6))) ji2 (wrap64 (x8_1 + 1))) else (none)) = some r := by first | (rw [hji6] at H; exact H) | (simp only [hji6] at H ⊢; exact H)
            have hji6w : (IntKind.i64.wrap (8 * x8_1)) = ji6 := (i64_w _).trans hji6
            by_cases c7 : 0 ≤ (ji6)
            · rw [if_pos c7] at H
              have c7b0 := eq_true c7
              have c7b1 : decide (0 ≤ (ji6)) = true := decide_eq_true c7
              clear c7
              obtain ⟨ji8, hji8⟩ : ∃ j_ : Int, (shl .u64 (IntKind.u64.wrap (rd l0 x8_1)) (ji6)) = j_ := ⟨_, rfl⟩
              replace H : (word_Get.l0 k1 l0 (Go.bits .or .u64 x3_1 (ji8)) ji2 (wrap64 (x8_1 + 1))) = some r := by first | (rw [hji8] at H; exact H) | (simp only [hji8] at H ⊢; exact H)
              have hji8_ : (IntKind.u64.wrap ((IntKind.u64.wrap (rd l0 x8_1)) * 2 ^ min (ji6).toNat 64)) = ji8 := hji8
              have hji8z : (ji6) ≤ 64 → (IntKind.u64.wrap ((IntKind.u64.wrap (rd l0 x8_1)) * 2 ^ (ji6).toNat)) = ji8 := shl_small hji8
              have H' := Aside0.mk H
              clear H
              have p101 : 0 ≤ (x8_1 : Int) := of_decide_eq_true (by first | (with_reducible assumption) | assumption)
              have q101 : x8_1 < (l0.length : Int) := of_decide_eq_true (by first | (with_reducible assumption) | assumption)
              obtain ⟨ad101, e101, hx101_0⟩ := Kd.at_int HR0.out x8_1 p101 q101
              cases e101
              replace hx101_0 := (HB.out.cell (World.block_lt_of_cell? w _ hx101_0)).trans hx101_0
              replace p101 := eq_true p101
              replace q101 := eq_true q101
              go_wp2
              go_roundg k1
              case measure => have := HK1.out; omega
              case rel => exact ⟨(Go.bits .or .u64 x3_1 (ji8)), (wrap64 (x8_1 + 1)), (by first | rfl | (simp; done) | (simp only [← hji8] <;> (first | rfl | simp)) | (simp [*]; done)), (by first | rfl | (simp; done) | (simp [*]; done)), H', ⟨by have := HK1.out; omega⟩, ⟨by repeat (first | (with_reducible first | exact HB.out | apply below_alloc | apply pw_below_drewN | apply below_drew1) | exact HB.out)⟩⟩
            · rw [if_neg c7] at H
              exact absurd H (by simp)
          · rw [if_neg c5] at H
            exact absurd H (by simp)
        · rw [if_neg c4] at H
          exact absurd H (by simp)
      · rw [if_neg c3] at H
        have c3b0 : decide (x8_1 < ji2) = false := decide_eq_false c3
        clear c3
        obtain rfl := Option.some.inj H
        go_wp2
        go_ret
        exact ⟨by first | rfl | (simp [errW_none, errW_some] <;> rfl) | (simp only [← hji2]; first | rfl | (simp [errW_none, errW_some] <;> rfl)) | (simp [*, errW_none, errW_some] <;> rfl), by repeat (first | (with_reducible first | exact HB.out | apply below_alloc | apply pw_below_drewN | apply below_drew1) | exact HB.out)⟩

/-! ### word_near: function 73 -/
def word_near.f (a0 : Int) (a1 : Int) (a2 : Int) : Option (Int) := some (mx a1 (mn a0 a2))
set_option maxHeartbeats 8000000 in
set_option maxRecDepth 100000 in
theorem word_near.calls (a0 : Int) (a1 : Int) (a2 : Int) (r : Int) (w : World) (h : word_near.f a0 a1 a2 = some r) :
    Calls Tryd.prog 73 #[.int .i64 a0, .int .i64 a1, .int .i64 a2] w fun e w' => e = .returned (.int .i64 r) ∧ Below w.heap.size w w' := by
  have hu37 := Tryd.underlying37
  have hu99 := Tryd.underlying99
  have hu120 := Tryd.underlying120
  have HB := Aside0.mk (Below.refl w.heap.size w)
  have H : (some (mx a1 (mn a0 a2))) = some r := h
  clear h
  obtain ⟨ji4, hji4⟩ : ∃ j_ : Int, (mn a0 a2) = j_ := ⟨_, rfl⟩
  replace H : (some (mx a1 (ji4))) = some r := by first | (rw [hji4] at H; exact H) | (simp only [hji4] at H ⊢; exact H)
  have hji4_ : (if a2 < a0 then a2 else a0) = ji4 := hji4
  obtain ⟨ji5, hji5⟩ : ∃ j_ : Int, (mx a1 (ji4)) = j_ := ⟨_, rfl⟩
  replace H : (some ji5) = some r := by first | (rw [hji5] at H; exact H) | (simp only [hji5] at H ⊢; exact H)
  have hji5_ : (if a1 < (ji4) then (ji4) else a1) = ji5 := hji5
  obtain rfl := Option.some.inj H
  go_enter Tryd.func73, Tryd.ntmps73
  go_wp2
  go_ret
  exact ⟨by first | rfl | (simp [errW_none, errW_some] <;> rfl) | (simp only [← hji4, ← hji5]; first | rfl | (simp [errW_none, errW_some] <;> rfl)) | (simp [*, errW_none, errW_some] <;> rfl), by repeat (first | (with_reducible first | exact HB.out | apply below_alloc | apply pw_below_drewN | apply below_drew1) | exact HB.out)⟩

/-! ### word_Put: function 60 -/
def word_Put.l0 : Nat → Int → List Int → Int → Int → Option (List Int)
  | 0, _, _, _, _ => none
  | k + 1, x0, x5, x8, x9 => if x9 < x8 then (if 0 ≤ (wrap64 (8 * x9)) then (if x5.length < 140737488355328 then (word_Put.l0 k x0 (x5 ++ [(shr .u64 x0 (wrap64 (8 * x9))) % 256]) x8 (wrap64 (x9 + 1))) else (none)) else (none)) else (some x5)
def word_Put.f (k : Nat) (a0 : Int) (a1 : Int) : Option (List Int) := (word_near.f a1 0 8).bind fun t158 => (word_Put.l0 k a0 ([] : List Int) t158 0)
theorem word_Put.mono_l : ∀ k, (∀ y0 y1 y2 y3, LeO (word_Put.l0 k y0 y1 y2 y3) (word_Put.l0 (k + 1) y0 y1 y2 y3))
  | 0 => fun _ _ _ _ r h => by simp [word_Put.l0] at h
  | k + 1 => by
    have ih0 := word_Put.mono_l k
    · intro y0 y1 y2 y3
      unfold word_Put.l0
      repeat' first
      | (with_reducible exact ih0 _ _ _ _)
      | (with_reducible exact LeO.refl _)
      | (with_reducible exact LeO.none _)
      | (with_reducible refine LeO.ite ?_ ?_)
      | (with_reducible refine LeO.bind ?_ (fun _ => ?_))
      | exact ih0 _ _ _ _
      | exact LeO.none _
      | refine LeO.ite ?_ ?_
      | refine LeO.bind ?_ (fun _ => ?_)
theorem word_Put.mono : ∀ a0 a1 k, LeO (word_Put.f k a0 a1) (word_Put.f (k + 1) a0 a1) := by
  intro a0 a1 k
  have ih0 := word_Put.mono_l k
  unfold word_Put.f
  repeat' first
      | (with_reducible exact ih0 _ _ _ _)
      | (with_reducible exact LeO.refl _)
      | (with_reducible exact LeO.none _)
      | (with_reducible refine LeO.ite ?_ ?_)
      | (with_reducible refine LeO.bind ?_ (fun _ => ?_))
      | exact ih0 _ _ _ _
      | exact LeO.none _
      | refine LeO.ite ?_ ?_
      | refine LeO.bind ?_ (fun _ => ?_)
set_option maxHeartbeats 8000000 in
set_option maxRecDepth 100000 in
theorem word_Put.calls (k : Nat) (a0 : Int) (a1 : Int) (r : List Int) (w : World) (h : word_Put.f k a0 a1 = some r) :
    Calls Tryd.prog 60 #[.int .u64 a0, .int .i64 a1] w fun e w' => ∃ v0_ : Value, e = .returned (v0_) ∧ Kd.R (Kd.int .u8) 5 w' w.heap.size (fun _ => True) v0_ r ∧ Below w.heap.size w w' := by
  have hu37 := Tryd.underlying37
  have hu99 := Tryd.underlying99
  have hu120 := Tryd.underlying120
  have HB := Aside0.mk (Below.refl w.heap.size w)
  have H : ((word_near.f a1 0 8).bind fun t158 => (word_Put.l0 k a0 ([] : List Int) t158 0)) = some r := h
  clear h
  replace H := Option.bind_eq_some_iff.mp H
  obtain ⟨t158, A30, H⟩ := H
  replace H : (word_Put.l0 k a0 ([] : List Int) t158 0) = some r := H
  have A3 := Aside0.mk A30
  clear A30
  have H' := Aside0.mk H
  clear H
  go_enter Tryd.func60, Tryd.ntmps60
  go_wp2_with (first | ((with_reducible refine gate_callee (f := 73) rfl ?_); refine goesL_ (some 8) rfl rfl Tryd.func73 (by kernel_rfl) rfl #[.int .i64 a1, .int .i64 0, .int .i64 8] rfl (by (try simp only [List.map_toArray, List.map_cons, List.map_nil]); first | done | rfl | (simp only [List.length_drop, List.length_take]; rfl)) ?_; (with_reducible refine (word_near.calls a1 0 8 t158 _ A3.out).mono ?_); rintro e w4 ⟨rfl, hb⟩; refine ⟨_, rfl, ?_⟩; have n0_ := Aside0.mk (below_step (by repeat (first | (with_reducible first | exact HB.out | apply below_alloc | apply pw_below_drewN | apply below_drew1) | exact HB.out)) hb); clear HB; have HB := n0_; clear n0_; (try clear hb); (try clear hb2); (try clear hk); (try clear hi)))
  go_loopg [5, 9] k (fun kq v5 v9 w' => ∃ (x5_1 : List Int) (x9_1 : Int), v9 = .int .i64 x9_1 ∧ Aside0 (word_Put.l0 kq a0 x5_1 t158 x9_1 = some r) ∧ Aside0 (kq ≤ k) ∧ Aside0 (Kd.R (Kd.int .u8) 5 w' w.heap.size (fun _ => True) v5 x5_1) ∧ Aside0 (Below w.heap.size w w'))
  case atStart => exact ⟨(([] : List Int)), (0), (by first | rfl | (simp; done) | (simp [*]; done)), H', ⟨Nat.le_refl _⟩, ⟨by first | exact Kd.R_nil _ _ _ _ _ | exact Kd.N_nil _ _ _ _ _ | exact Kd.V_nil _ _ _ _ _ | exact Kd.Q_nil _ _ _ _ _ | exact Kd.S_nil _ _ _ _ _⟩, ⟨by repeat (first | (with_reducible first | exact HB.out | apply below_alloc | apply pw_below_drewN | apply below_drew1) | exact HB.out)⟩⟩
  case round =>
    clear H'
    try clear p2
    obtain ⟨x5_1, x9_1, rfl, HA, HK1, HO_5, HB⟩ := hrel
    cases gk with
    | zero => exact absurd HA.out (by simp [word_Put.l0])
    | succ k1 =>
      have H := HA.out
      clear HA
      simp only [word_Put.l0] at H
      by_cases c5 : x9_1 < t158
      · rw [if_pos c5] at H
        have c5b0 : decide (x9_1 < t158) = true := decide_eq_true c5
        clear c5
        obtain ⟨ji6, hji6⟩ : ∃ j_ : Int, (wrap64 (8 * x9_1)) = j_ := ⟨_, rfl⟩
        replace H : (if 0 ≤ (ji6) then (if x5_1.length < 140737488355328 then (word_Put.l0 k1 a0 (x5_1 ++ [(shr .u64 a0 (ji6)) % 256]) t158 (wrap64 (x9_1 + 1))) else (none)) else (none)) = some r := by first | (rw [hji6] at H; exact H) | (simp only [hji6] at H ⊢; exact H)
        have hji6w : (IntKind.i64.wrap (8 * x9_1)) = ji6 := (i64_w _).trans hji6
        by_cases c7 : 0 ≤ (ji6)
        · rw [if_pos c7] at H
          have c7b0 := eq_true c7
          have c7b1 : decide (0 ≤ (ji6)) = true := decide_eq_true c7
          clear c7
          obtain ⟨ji8, hji8⟩ : ∃ j_ : Int, (shr .u64 a0 (ji6)) = j_ := ⟨_, rfl⟩
          replace H : (if x5_1.length < 140737488355328 then (word_Put.l0 k1 a0 (x5_1 ++ [(ji8) % 256]) t158 (wrap64 (x9_1 + 1))) else (none)) = some r := by first | (rw [hji8] at H; exact H) | (simp only [hji8] at H ⊢; exact H)
          have hji8_ : (a0 / 2 ^ min (ji6).toNat 64) = ji8 := hji8
          have hji8z : (ji6) ≤ 64 → (a0 / 2 ^ (ji6).toNat) = ji8 := shr_small hji8
          by_cases c9 : x5_1.length < 140737488355328
          · rw [if_pos c9] at H
            have LMc9 := Aside0.mk c9
            clear c9
            obtain ⟨y159, hy159⟩ : ∃ y_ : List Int, y_ = (x5_1 ++ [(ji8) % 256]) := ⟨_, rfl⟩
            replace H : (word_Put.l0 k1 a0 y159 t158 (wrap64 (x9_1 + 1))) = some r := by first | (rw [hy159]; with_reducible exact H) | (have H2_ := (Option.bind_some _ _).symm.trans H; rw [hy159]; with_reducible exact H2_) | (have H2_ := (Option.bind_some _ _).symm.trans H; with_reducible exact H2_) | with_reducible exact H | (rw [hy159]; exact H) | exact H
            have Ny159 := Aside0.mk hy159
            clear hy159
            have H' := Aside0.mk H
            clear H
            go_wp2_with (first | ((with_reducible refine gate_builtin (b := .append) (xs := #[.tmp 12, .tmp 18]) rfl ?_); at_builtin; refine Kd.R_append (Kd.int .u8) (w0 := w) w.heap.size rfl (.tmp 12) (.tmp 18) 23 5 (.int .u8 0) 1 rfl Tryd.underlying23 info5 rfl (by decide) (by omega) u5 x5_1 ((ji8) % 256) [.int .u8 ((ji8) % 256)] (fun _ => True) (fun _ => False) rfl rfl ?aP (fun _ hk => hk.elim) ?aF ?aO ?aB ?aS ?aL ?_; (case aP => exact rfl); (case aB => exact (by repeat (first | (with_reducible first | exact HB.out | apply below_alloc | apply pw_below_drewN | apply below_drew1) | exact HB.out))); (case aF => exact (fun _ _ => trivial)); (case aO => exact (by (with_reducible repeat (first | apply Kd.R_alloc | apply Kd.R_drewN | apply Kd.R_drew)); exact HO_5.out)); (case aS => exact (below_size (by repeat (first | (with_reducible first | exact HB.out | apply below_alloc | apply pw_below_drewN | apply below_drew1) | exact HB.out)))); (case aL => have := LMc9.out; omega); intro v160 w10 ho hb hg hat; rw [← Ny159.out] at ho; have n0_ := Aside0.mk (hb); have n1_ := Aside0.mk (ho); clear HB; clear HO_5; have HB := n0_; have HO161 := n1_; clear n0_ n1_; clear ho hb hg hat))
            go_roundg k1
            case measure => have := HK1.out; omega
            case rel => exact ⟨(y159), (wrap64 (x9_1 + 1)), (by first | rfl | (simp; done) | (simp [*]; done)), H', ⟨by have := HK1.out; omega⟩, ⟨by (with_reducible repeat (first | apply Kd.R_alloc | apply Kd.R_drewN | apply Kd.R_drew)); exact HO161.out⟩, ⟨by repeat (first | (with_reducible first | exact HB.out | apply below_alloc | apply pw_below_drewN | apply below_drew1) | exact HB.out)⟩⟩
          · rw [if_neg c9] at H
            exact absurd H (by simp)
        · rw [if_neg c7] at H
          exact absurd H (by simp)
      · rw [if_neg c5] at H
        have c5b0 : decide (x9_1 < t158) = false := decide_eq_false c5
        clear c5
        obtain rfl := Option.some.inj H
        go_wp2
        go_ret
        exact ⟨_, by first | rfl | (simp [errW_none, errW_some] <;> rfl) | (simp [*, errW_none, errW_some] <;> rfl), by (with_reducible repeat (first | apply Kd.R_alloc | apply Kd.R_drewN | apply Kd.R_drew)); exact HO_5.out, by repeat (first | (with_reducible first | exact HB.out | apply below_alloc | apply pw_below_drewN | apply below_drew1) | exact HB.out)⟩

-- NOT PRINTED: function 29 (frag_Encode)

-- NOT PRINTED: function 30 (strandlinelaw13_awake)

-- NOT PRINTED: function 6 (strandlinelaw13_FragDecodes)


end Go.Proofs.YthhbilkmdfdfiaaDoor.F
end

section
/- Functions of strandlineref01: what each answers, as a Lean function, and that the call answers just this. Turned out of what the kit's print told for this seat. -/
namespace Go.Proofs.YthhbilkmdfdfiaaDoor.F
open Go.RowKit Go.Proofs.YthhbilkmdfdfiaaDoorW.PrintWords Go.Proofs.YthhbilkmdfdfiaaDoorW.PrintLast Go.Proofs.YthhbilkmdfdfiaaDoorW.PrintMore
attribute [local go_sem high] eqA120
attribute [local go_sem] field120_0
attribute [local go_sem] field120_1
attribute [local go_sem] max2_int min2_int max_two min_two max_three min_three max_four min_four
set_option linter.unusedVariables false
set_option linter.unusedSimpArgs false

/-! ### strandlineref01_Put: function 61 -/
def strandlineref01_Put.l0 : Nat → Int → Int → List Int → Int → Option (List Int)
  | 0, _, _, _, _ => none
  | k + 1, x0, x1, x5, x6 => if x6 < x1 then (if x6 < 8 then (if x5.length < 140737488355328 then (strandlineref01_Put.l0 k (IntKind.u64.wrap (Int.tdiv x0 256)) x1 (x5 ++ [(Int.tmod x0 256) % 256]) (wrap64 (x6 + 1))) else (none)) else (some x5)) else (some x5)
def strandlineref01_Put.f (k : Nat) (a0 : Int) (a1 : Int) : Option (List Int) := strandlineref01_Put.l0 k a0 a1 ([] : List Int) 0
theorem strandlineref01_Put.mono_l : ∀ k, (∀ y0 y1 y2 y3, LeO (strandlineref01_Put.l0 k y0 y1 y2 y3) (strandlineref01_Put.l0 (k + 1) y0 y1 y2 y3))
  | 0 => fun _ _ _ _ r h => by simp [strandlineref01_Put.l0] at h
  | k + 1 => by
    have ih0 := strandlineref01_Put.mono_l k
    · intro y0 y1 y2 y3
      unfold strandlineref01_Put.l0
      repeat' first
      | (with_reducible exact ih0 _ _ _ _)
      | (with_reducible exact LeO.refl _)
      | (with_reducible exact LeO.none _)
      | (with_reducible refine LeO.ite ?_ ?_)
      | (with_reducible refine LeO.bind ?_ (fun _ => ?_))
      | exact ih0 _ _ _ _
      | exact LeO.none _
      | refine LeO.ite ?_ ?_
      | refine LeO.bind ?_ (fun _ => ?_)
theorem strandlineref01_Put.mono : ∀ a0 a1 k, LeO (strandlineref01_Put.f k a0 a1) (strandlineref01_Put.f (k + 1) a0 a1) := by
  intro a0 a1 k
  have ih0 := strandlineref01_Put.mono_l k
  unfold strandlineref01_Put.f
  repeat' first
      | (with_reducible exact ih0 _ _ _ _)
      | (with_reducible exact LeO.refl _)
      | (with_reducible exact LeO.none _)
      | (with_reducible refine LeO.ite ?_ ?_)
      | (with_reducible refine LeO.bind ?_ (fun _ => ?_))
      | exact ih0 _ _ _ _
      | exact LeO.none _
      | refine LeO.ite ?_ ?_
      | refine LeO.bind ?_ (fun _ => ?_)
set_option maxHeartbeats 8000000 in
set_option maxRecDepth 100000 in
theorem strandlineref01_Put.calls (k : Nat) (a0 : Int) (a1 : Int) (r : List Int) (w : World) (h : strandlineref01_Put.f k a0 a1 = some r) :
    Calls Tryd.prog 61 #[.int .u64 a0, .int .i64 a1] w fun e w' => ∃ v0_ : Value, e = .returned (v0_) ∧ Kd.R (Kd.int .u8) 5 w' w.heap.size (fun _ => True) v0_ r ∧ Below w.heap.size w w' := by
  have hu37 := Tryd.underlying37
  have hu99 := Tryd.underlying99
  have hu120 := Tryd.underlying120
  have HB := Aside0.mk (Below.refl w.heap.size w)
  have H : (strandlineref01_Put.l0 k a0 a1 ([] : List Int) 0) = some r := h
  clear h
  have H' := Aside0.mk H
  clear H
  go_enter Tryd.func61, Tryd.ntmps61
  go_wp2
  go_loopg [0, 5, 6] k (fun kq v0 v5 v6 w' => ∃ (x0_1 : Int) (x5_1 : List Int) (x6_1 : Int), v0 = .int .u64 x0_1 ∧ v6 = .int .i64 x6_1 ∧ Aside0 (strandlineref01_Put.l0 kq x0_1 a1 x5_1 x6_1 = some r) ∧ Aside0 (kq ≤ k) ∧ Aside0 (Kd.R (Kd.int .u8) 5 w' w.heap.size (fun _ => True) v5 x5_1) ∧ Aside0 (Below w.heap.size w w'))
  case atStart => exact ⟨(a0), (([] : List Int)), (0), (by first | rfl | (simp; done) | (simp [*]; done)), (by first | rfl | (simp; done) | (simp [*]; done)), H', ⟨Nat.le_refl _⟩, ⟨by first | exact Kd.R_nil _ _ _ _ _ | exact Kd.N_nil _ _ _ _ _ | exact Kd.V_nil _ _ _ _ _ | exact Kd.Q_nil _ _ _ _ _ | exact Kd.S_nil _ _ _ _ _⟩, ⟨by repeat (first | (with_reducible first | exact HB.out | apply below_alloc | apply pw_below_drewN | apply below_drew1) | exact HB.out)⟩⟩
  case round =>
    clear H'
    try clear p2
    obtain ⟨x0_1, x5_1, x6_1, rfl, rfl, HA, HK1, HO_5, HB⟩ := hrel
    cases gk with
    | zero => exact absurd HA.out (by simp [strandlineref01_Put.l0])
    | succ k1 =>
      have H := HA.out
      clear HA
      simp only [strandlineref01_Put.l0] at H
      by_cases c3 : x6_1 < a1
      · rw [if_pos c3] at H
        have c3b0 : decide (x6_1 < a1) = true := decide_eq_true c3
        clear c3
        by_cases c4 : x6_1 < 8
        · rw [if_pos c4] at H
          have c4b0 : decide (x6_1 < 8) = true := decide_eq_true c4
          clear c4
          by_cases c5 : x5_1.length < 140737488355328
          · rw [if_pos c5] at H
            have LMc5 := Aside0.mk c5
            clear c5
            obtain ⟨y108, hy108⟩ : ∃ y_ : List Int, y_ = (x5_1 ++ [(Int.tmod x0_1 256) % 256]) := ⟨_, rfl⟩
            replace H : (strandlineref01_Put.l0 k1 (IntKind.u64.wrap (Int.tdiv x0_1 256)) a1 y108 (wrap64 (x6_1 + 1))) = some r := by first | (rw [hy108]; with_reducible exact H) | (have H2_ := (Option.bind_some _ _).symm.trans H; rw [hy108]; with_reducible exact H2_) | (have H2_ := (Option.bind_some _ _).symm.trans H; with_reducible exact H2_) | with_reducible exact H | (rw [hy108]; exact H) | exact H
            have Ny108 := Aside0.mk hy108
            clear hy108
            have H' := Aside0.mk H
            clear H
            go_wp2_with (first | ((with_reducible refine gate_builtin (b := .append) (xs := #[.tmp 16, .tmp 20]) rfl ?_); at_builtin; refine Kd.R_append (Kd.int .u8) (w0 := w) w.heap.size rfl (.tmp 16) (.tmp 20) 23 5 (.int .u8 0) 1 rfl Tryd.underlying23 info5 rfl (by decide) (by omega) u5 x5_1 ((Int.tmod x0_1 256) % 256) [.int .u8 ((Int.tmod x0_1 256) % 256)] (fun _ => True) (fun _ => False) rfl rfl ?aP (fun _ hk => hk.elim) ?aF ?aO ?aB ?aS ?aL ?_; (case aP => exact rfl); (case aB => exact (by repeat (first | (with_reducible first | exact HB.out | apply below_alloc | apply pw_below_drewN | apply below_drew1) | exact HB.out))); (case aF => exact (fun _ _ => trivial)); (case aO => exact (by (with_reducible repeat (first | apply Kd.R_alloc | apply Kd.R_drewN | apply Kd.R_drew)); exact HO_5.out)); (case aS => exact (below_size (by repeat (first | (with_reducible first | exact HB.out | apply below_alloc | apply pw_below_drewN | apply below_drew1) | exact HB.out)))); (case aL => have := LMc5.out; omega); intro v109 w6 ho hb hg hat; rw [← Ny108.out] at ho; have n0_ := Aside0.mk (hb); have n1_ := Aside0.mk (ho); clear HB; clear HO_5; have HB := n0_; have HO110 := n1_; clear n0_ n1_; clear ho hb hg hat))
            go_roundg k1
            case measure => have := HK1.out; omega
            case rel => exact ⟨(IntKind.u64.wrap (Int.tdiv x0_1 256)), (y108), (wrap64 (x6_1 + 1)), (by first | rfl | (simp; done) | (simp [*]; done)), (by first | rfl | (simp; done) | (simp [*]; done)), H', ⟨by have := HK1.out; omega⟩, ⟨by (with_reducible repeat (first | apply Kd.R_alloc | apply Kd.R_drewN | apply Kd.R_drew)); exact HO110.out⟩, ⟨by repeat (first | (with_reducible first | exact HB.out | apply below_alloc | apply pw_below_drewN | apply below_drew1) | exact HB.out)⟩⟩
          · rw [if_neg c5] at H
            exact absurd H (by simp)
        · rw [if_neg c4] at H
          have c4b0 : decide (x6_1 < 8) = false := decide_eq_false c4
          clear c4
          obtain rfl := Option.some.inj H
          go_wp2
          go_ret
          exact ⟨_, by first | rfl | (simp [errW_none, errW_some] <;> rfl) | (simp [*, errW_none, errW_some] <;> rfl), by (with_reducible repeat (first | apply Kd.R_alloc | apply Kd.R_drewN | apply Kd.R_drew)); exact HO_5.out, by repeat (first | (with_reducible first | exact HB.out | apply below_alloc | apply pw_below_drewN | apply below_drew1) | exact HB.out)⟩
      · rw [if_neg c3] at H
        have c3b0 : decide (x6_1 < a1) = false := decide_eq_false c3
        clear c3
        obtain rfl := Option.some.inj H
        go_wp2
        go_ret
        exact ⟨_, by first | rfl | (simp [errW_none, errW_some] <;> rfl) | (simp [*, errW_none, errW_some] <;> rfl), by (with_reducible repeat (first | apply Kd.R_alloc | apply Kd.R_drewN | apply Kd.R_drew)); exact HO_5.out, by repeat (first | (with_reducible first | exact HB.out | apply below_alloc | apply pw_below_drewN | apply below_drew1) | exact HB.out)⟩

/-! ### strandlineref01_Two: function 72 -/
def strandlineref01_Two.l0 : Nat → Int → Int → Int → Option (Int)
  | 0, _, _, _ => none
  | k + 1, x0, x3, x4 => if x4 < x0 then (strandlineref01_Two.l0 k x0 (IntKind.u64.wrap (x3 * 2)) (wrap64 (x4 + 1))) else (some x3)
def strandlineref01_Two.f (k : Nat) (a0 : Int) : Option (Int) := strandlineref01_Two.l0 k a0 1 0
theorem strandlineref01_Two.mono_l : ∀ k, (∀ y0 y1 y2, LeO (strandlineref01_Two.l0 k y0 y1 y2) (strandlineref01_Two.l0 (k + 1) y0 y1 y2))
  | 0 => fun _ _ _ r h => by simp [strandlineref01_Two.l0] at h
  | k + 1 => by
    have ih0 := strandlineref01_Two.mono_l k
    · intro y0 y1 y2
      unfold strandlineref01_Two.l0
      repeat' first
      | (with_reducible exact ih0 _ _ _)
      | (with_reducible exact LeO.refl _)
      | (with_reducible exact LeO.none _)
      | (with_reducible refine LeO.ite ?_ ?_)
      | (with_reducible refine LeO.bind ?_ (fun _ => ?_))
      | exact ih0 _ _ _
      | exact LeO.none _
      | refine LeO.ite ?_ ?_
      | refine LeO.bind ?_ (fun _ => ?_)
theorem strandlineref01_Two.mono : ∀ a0 k, LeO (strandlineref01_Two.f k a0) (strandlineref01_Two.f (k + 1) a0) := by
  intro a0 k
  have ih0 := strandlineref01_Two.mono_l k
  unfold strandlineref01_Two.f
  repeat' first
      | (with_reducible exact ih0 _ _ _)
      | (with_reducible exact LeO.refl _)
      | (with_reducible exact LeO.none _)
      | (with_reducible refine LeO.ite ?_ ?_)
      | (with_reducible refine LeO.bind ?_ (fun _ => ?_))
      | exact ih0 _ _ _
      | exact LeO.none _
      | refine LeO.ite ?_ ?_
      | refine LeO.bind ?_ (fun _ => ?_)
set_option maxHeartbeats 8000000 in
set_option maxRecDepth 100000 in
theorem strandlineref01_Two.calls (k : Nat) (a0 : Int) (r : Int) (w : World) (h : strandlineref01_Two.f k a0 = some r) :
    Calls Tryd.prog 72 #[.int .i64 a0] w fun e w' => e = .returned (.int .u64 r) ∧ Drawn0 w w' := by
  have hu37 := Tryd.underlying37
  have hu99 := Tryd.underlying99
  have hu120 := Tryd.underlying120
  have H : (strandlineref01_Two.l0 k a0 1 0) = some r := h
  clear h
  have H' := Aside0.mk H
  clear H
  go_enter Tryd.func72, Tryd.ntmps72
  go_wp2
  go_loopg [3, 4] k (fun kq v3 v4 w' => ∃ (x3_1 : Int) (x4_1 : Int), v3 = .int .u64 x3_1 ∧ v4 = .int .i64 x4_1 ∧ Aside0 (strandlineref01_Two.l0 kq a0 x3_1 x4_1 = some r) ∧ Aside0 (kq ≤ k) ∧ Drawn0 w w')
  case atStart => exact ⟨(1), (0), (by first | rfl | (simp; done) | (simp [*]; done)), (by first | rfl | (simp; done) | (simp [*]; done)), H', ⟨Nat.le_refl _⟩, by repeat (first | exact Drawn0.refl _ | apply Drawn0.step)⟩
  case round =>
    clear H'
    obtain ⟨x3_1, x4_1, rfl, rfl, HA, HK1, ⟨m1, rfl⟩⟩ := hrel
    cases gk with
    | zero => exact absurd HA.out (by simp [strandlineref01_Two.l0])
    | succ k1 =>
      have H := HA.out
      clear HA
      simp only [strandlineref01_Two.l0] at H
      by_cases c2 : x4_1 < a0
      · rw [if_pos c2] at H
        have c2b0 : decide (x4_1 < a0) = true := decide_eq_true c2
        clear c2
        have H' := Aside0.mk H
        clear H
        go_wp2
        go_roundg k1
        case measure => have := HK1.out; omega
        case rel => exact ⟨(IntKind.u64.wrap (x3_1 * 2)), (wrap64 (x4_1 + 1)), (by first | rfl | (simp; done) | (simp [*]; done)), (by first | rfl | (simp; done) | (simp [*]; done)), H', ⟨by have := HK1.out; omega⟩, by repeat (first | exact Drawn0.refl _ | apply Drawn0.step)⟩
      · rw [if_neg c2] at H
        have c2b0 : decide (x4_1 < a0) = false := decide_eq_false c2
        clear c2
        obtain rfl := Option.some.inj H
        go_wp2
        go_ret
        exact ⟨by first | rfl | (simp; done) | (simp [*]; done), by repeat (first | exact Drawn0.refl _ | apply Drawn0.step)⟩

/-! ### strandlineref01_Get: function 59 -/
def strandlineref01_Get.l0 : Nat → List Int → Int → Int → Option (Int)
  | 0, _, _, _ => none
  | k + 1, x0, x3, x4 => if x4 < (x0.length : Int) then (if x4 < 8 then (if 0 ≤ x4 then ((strandlineref01_Two.f k (wrap64 (8 * x4))).bind fun t136 => (strandlineref01_Get.l0 k x0 (IntKind.u64.wrap (x3 + (IntKind.u64.wrap ((IntKind.u64.wrap (rd x0 x4)) * t136)))) (wrap64 (x4 + 1)))) else (none)) else (some x3)) else (some x3)
def strandlineref01_Get.f (k : Nat) (l0 : List Int) : Option (Int) := strandlineref01_Get.l0 k l0 0 0
theorem strandlineref01_Get.mono_l : ∀ k, (∀ y0 y1 y2, LeO (strandlineref01_Get.l0 k y0 y1 y2) (strandlineref01_Get.l0 (k + 1) y0 y1 y2))
  | 0 => fun _ _ _ r h => by simp [strandlineref01_Get.l0] at h
  | k + 1 => by
    have ih0 := strandlineref01_Get.mono_l k
    · intro y0 y1 y2
      unfold strandlineref01_Get.l0
      repeat' first
      | (with_reducible exact ih0 _ _ _)
      | (with_reducible exact strandlineref01_Two.mono _ _)
      | (with_reducible exact LeO.refl _)
      | (with_reducible exact LeO.none _)
      | (with_reducible refine LeO.ite ?_ ?_)
      | (with_reducible refine LeO.bind ?_ (fun _ => ?_))
      | exact ih0 _ _ _
      | exact strandlineref01_Two.mono _ _
      | exact LeO.none _
      | refine LeO.ite ?_ ?_
      | refine LeO.bind ?_ (fun _ => ?_)
theorem strandlineref01_Get.mono : ∀ a0 k, LeO (strandlineref01_Get.f k a0) (strandlineref01_Get.f (k + 1) a0) := by
  intro a0 k
  have ih0 := strandlineref01_Get.mono_l k
  unfold strandlineref01_Get.f
  repeat' first
      | (with_reducible exact ih0 _ _ _)
      | (with_reducible exact strandlineref01_Two.mono _ _)
      | (with_reducible exact LeO.refl _)
      | (with_reducible exact LeO.none _)
      | (with_reducible refine LeO.ite ?_ ?_)
      | (with_reducible refine LeO.bind ?_ (fun _ => ?_))
      | exact ih0 _ _ _
      | exact strandlineref01_Two.mono _ _
      | exact LeO.none _
      | refine LeO.ite ?_ ?_
      | refine LeO.bind ?_ (fun _ => ?_)
set_option maxHeartbeats 8000000 in
set_option maxRecDepth 100000 in
theorem strandlineref01_Get.calls (k : Nat) (A0 : Option Addr) (c0 : Nat) (l0 : List Int) (r : Int) (w : World) (hr0 : Kd.C (Kd.int .u8) w A0 l0.length l0) (hc0 : l0.length ≤ c0) (h : strandlineref01_Get.f k l0 = some r) :
    Calls Tryd.prog 59 #[.slice A0 l0.length c0] w fun e w' => e = .returned (.int .u64 r) ∧ Drawn0 w w' := by
  have hu37 := Tryd.underlying37
  have hu99 := Tryd.underlying99
  have hu120 := Tryd.underlying120
  have HR0 := Aside0.mk hr0
  have HC0 := Aside0.mk hc0
  clear hr0 hc0
  have H : (strandlineref01_Get.l0 k l0 0 0) = some r := h
  clear h
  have H' := Aside0.mk H
  clear H
  go_enter Tryd.func59, Tryd.ntmps59
  go_wp2
  repeat (go_quiet (fail); try go_wp2)
  go_loopg [3, 4] k (fun kq v3 v4 w' => ∃ (x3_1 : Int) (x4_1 : Int), v3 = .int .u64 x3_1 ∧ v4 = .int .i64 x4_1 ∧ Aside0 (strandlineref01_Get.l0 kq l0 x3_1 x4_1 = some r) ∧ Aside0 (kq ≤ k) ∧ Drawn0 w w')
  case atStart => exact ⟨(0), (0), (by first | rfl | (simp; done) | (simp [*]; done)), (by first | rfl | (simp; done) | (simp [*]; done)), H', ⟨Nat.le_refl _⟩, by repeat (first | exact Drawn0.refl _ | apply Drawn0.step)⟩
  case round =>
    clear H'
    obtain ⟨x3_1, x4_1, rfl, rfl, HA, HK1, ⟨m1, rfl⟩⟩ := hrel
    cases gk with
    | zero => exact absurd HA.out (by simp [strandlineref01_Get.l0])
    | succ k1 =>
      have H := HA.out
      clear HA
      simp only [strandlineref01_Get.l0] at H
      by_cases c2 : x4_1 < (l0.length : Int)
      · rw [if_pos c2] at H
        have c2b0 : decide (x4_1 < (l0.length : Int)) = true := decide_eq_true c2
        clear c2
        by_cases c3 : x4_1 < 8
        · rw [if_pos c3] at H
          have c3b0 : decide (x4_1 < 8) = true := decide_eq_true c3
          clear c3
          by_cases c4 : 0 ≤ x4_1
          · rw [if_pos c4] at H
            have c4b0 : decide (0 ≤ x4_1) = true := decide_eq_true c4
            clear c4
            replace H := Option.bind_eq_some_iff.mp H
            obtain ⟨t136, A50, H⟩ := H
            replace H : (strandlineref01_Get.l0 k1 l0 (IntKind.u64.wrap (x3_1 + (IntKind.u64.wrap ((IntKind.u64.wrap (rd l0 x4_1)) * t136)))) (wrap64 (x4_1 + 1))) = some r := H
            have A5 := Aside0.mk A50
            clear A50
            have H' := Aside0.mk H
            clear H
            have p135 : 0 ≤ (x4_1 : Int) := of_decide_eq_true (by first | (with_reducible assumption) | assumption)
            have q135 : x4_1 < (l0.length : Int) := of_decide_eq_true (by first | (with_reducible assumption) | assumption)
            obtain ⟨ad135, e135, hx135_0⟩ := Kd.at_int HR0.out x4_1 p135 q135
            cases e135
            replace p135 := eq_true p135
            replace q135 := eq_true q135
            go_wp2_with (first | (go_at_call 72; (with_reducible refine (strandlineref01_Two.calls k1 (wrap64 (8 * x4_1)) t136 _ A5.out).mono ?_); rintro e w' ⟨rfl, ⟨nd, rfl⟩⟩; (try first | exact ⟨rfl, _, World.drewN_drewN _ _ _⟩ | exact ⟨rfl, _, Eq.trans (World.drewN_drewN _ _ _) (congrArg (World.drewN _) (Nat.add_assoc _ _ _))⟩)))
            repeat (go_quiet (first | (go_at_call 72; (with_reducible refine (strandlineref01_Two.calls k1 (wrap64 (8 * x4_1)) t136 _ A5.out).mono ?_); rintro e w' ⟨rfl, ⟨nd, rfl⟩⟩; (try first | exact ⟨rfl, _, World.drewN_drewN _ _ _⟩ | exact ⟨rfl, _, Eq.trans (World.drewN_drewN _ _ _) (congrArg (World.drewN _) (Nat.add_assoc _ _ _))⟩))); try go_wp2_with (first | (go_at_call 72; (with_reducible refine (strandlineref01_Two.calls k1 (wrap64 (8 * x4_1)) t136 _ A5.out).mono ?_); rintro e w' ⟨rfl, ⟨nd, rfl⟩⟩; (try first | exact ⟨rfl, _, World.drewN_drewN _ _ _⟩ | exact ⟨rfl, _, Eq.trans (World.drewN_drewN _ _ _) (congrArg (World.drewN _) (Nat.add_assoc _ _ _))⟩))))
            go_roundg k1
            case measure => have := HK1.out; omega
            case rel => exact ⟨(IntKind.u64.wrap (x3_1 + (IntKind.u64.wrap ((IntKind.u64.wrap (rd l0 x4_1)) * t136)))), (wrap64 (x4_1 + 1)), (by first | rfl | (simp; done) | (simp [*]; done)), (by first | rfl | (simp; done) | (simp [*]; done)), H', ⟨by have := HK1.out; omega⟩, by repeat (first | exact Drawn0.refl _ | apply Drawn0.step)⟩
          · rw [if_neg c4] at H
            exact absurd H (by simp)
        · rw [if_neg c3] at H
          have c3b0 : decide (x4_1 < 8) = false := decide_eq_false c3
          clear c3
          obtain rfl := Option.some.inj H
          go_wp2
          repeat (go_quiet (fail); try go_wp2)
          go_ret
          exact ⟨by first | rfl | (simp; done) | (simp [*]; done), by repeat (first | exact Drawn0.refl _ | apply Drawn0.step)⟩
      · rw [if_neg c2] at H
        have c2b0 : decide (x4_1 < (l0.length : Int)) = false := decide_eq_false c2
        clear c2
        obtain rfl := Option.some.inj H
        go_wp2
        repeat (go_quiet (fail); try go_wp2)
        go_ret
        exact ⟨by first | rfl | (simp; done) | (simp [*]; done), by repeat (first | exact Drawn0.refl _ | apply Drawn0.step)⟩


end Go.Proofs.YthhbilkmdfdfiaaDoor.F
end

section
/- Small laws of whole numbers that the seat's pure statements use: no program, no memory. -/
namespace Go.Proofs.YthhbilkmdfdfiaaDoor.Plain
open Go.RowKit Go.Proofs.YthhbilkmdfdfiaaDoorW.PrintWords Go.Proofs.YthhbilkmdfdfiaaDoorW.PrintLast Go.Proofs.YthhbilkmdfdfiaaDoorW.PrintMore

theorem w64 {n : Int} (h0 : -9223372036854775808 ≤ n) (h1 : n ≤ 9223372036854775807) : wrap64 n = n := by
  unfold wrap64
  omega
theorem wu64 {n : Int} (h0 : 0 ≤ n) (h1 : n ≤ 18446744073709551615) : IntKind.u64.wrap n = n := by
  rw [IntKind.wrap_u64]
  omega
theorem td {a b : Int} (h : 0 ≤ a) : Int.tdiv a b = a / b := Int.tdiv_eq_ediv_of_nonneg h
theorem tm {a b : Int} (h : 0 ≤ a) : Int.tmod a b = a % b := Int.tmod_eq_emod_of_nonneg h

/-- A place as the nearer one of 0 and 832. -/
def cl (a : Int) : Int := if a < 0 then 0 else if 832 < a then 832 else a
theorem cl_lo (a : Int) : 0 ≤ cl a := by unfold cl; split <;> (try split) <;> omega
theorem cl_hi (a : Int) : cl a ≤ 832 := by unfold cl; split <;> (try split) <;> omega
theorem cl_in {a : Int} (h0 : 0 ≤ a) (h1 : a ≤ 832) : cl a = a := by unfold cl; rw [if_neg (by omega), if_neg (by omega)]
theorem cl_cl (a : Int) : cl (cl a) = cl a := cl_in (cl_lo a) (cl_hi a)
theorem near_cl (a : Int) : mx 0 (mn a 832) = cl a := by
  unfold mx mn cl
  by_cases h1 : a < 0 <;> by_cases h2 : 832 < a <;> simp [h1, h2] <;> omega
/-- Where what comes next begins; what is left of a block. -/
def bg (n : Int) : Int := if 41 < n % 52 then n + (52 - n % 52) else n
def lf (n : Int) : Int := if n = 832 then 0 else 208 - n % 208
/-- The sectors that are touched. -/
def tch (a b : Int) : Int × Int := if a ≥ b then (0, 0) else (a / 52, (b - 1) / 52 + 1)
theorem bg_lo {n : Int} (h : 0 ≤ n) : 0 ≤ bg n := by unfold bg; split <;> omega
theorem bg_hi {n : Int} (h : n ≤ 832) : bg n ≤ 832 := by unfold bg; split <;> omega
theorem bg_ge (n : Int) : n ≤ bg n := by unfold bg; split <;> omega
theorem bg_mod (n : Int) : bg n % 52 ≤ 41 := by unfold bg; split <;> omega
theorem bg_bg (n : Int) : bg (bg n) = bg n := by
  have := bg_mod n
  generalize bg n = m at *
  unfold bg
  rw [if_neg (by omega)]

/-! ### bits -/
end Go.Proofs.YthhbilkmdfdfiaaDoor.Plain
end

section
/- Numbers as bytes, and back: word.Put, Get and the reference's. -/
set_option linter.unusedVariables false
set_option linter.unusedSimpArgs false
namespace Go.Proofs.YthhbilkmdfdfiaaDoor.F
namespace Nums
open Go.RowKit Go.Proofs.YthhbilkmdfdfiaaDoorW.PrintWords Go.Proofs.YthhbilkmdfdfiaaDoorW.PrintLast Go.Proofs.YthhbilkmdfdfiaaDoorW.PrintMore Go.Proofs.YthhbilkmdfdfiaaDoor.Plain
theorem wnear_eq (n lo hi : Int) (h : lo ≤ hi) : word_near.f n lo hi = some (if n < lo then lo else if hi < n then hi else n) := by
  unfold word_near.f mx mn
  congr 1
  by_cases h1 : n < lo <;> by_cases h2 : hi < n <;> simp [h1, h2] <;> omega
/-- The bytes of a number, from the lowest on. -/
def putl (n : Nat) : Nat → List Int
  | 0 => []
  | i + 1 => putl n i ++ [((n / 256 ^ i % 256 : Nat) : Int)]
theorem putl_len (n i : Nat) : (putl n i).length = i := by
  induction i with
  | zero => rfl
  | succ i ih => simp [putl, ih]
theorem put_l (n : Nat) (hn : n < 18446744073709551616) (hi : Nat) (hhi : hi ≤ 8) (d : Nat) : ∀ (k i : Nat), i ≤ hi → hi - i = d → d < k →
    word_Put.l0 k n (putl n i) hi i = some (putl n hi) := by
  induction d with
  | zero =>
    intro k i h1 hd hk
    obtain ⟨k, rfl⟩ : ∃ m, k = m + 1 := ⟨k - 1, by omega⟩
    simp only [word_Put.l0]
    obtain rfl : i = hi := by omega
    rw [if_neg (by omega)]
  | succ d ih =>
    intro k i h1 hd hk
    obtain ⟨k, rfl⟩ : ∃ m, k = m + 1 := ⟨k - 1, by omega⟩
    simp only [word_Put.l0]
    have hr := ih k (i + 1) (by omega) (by omega) (by omega)
    rw [if_pos (by omega), w64 (n := 8 * (i : Int)) (by omega) (by omega), if_pos (by omega), putl_len, if_pos (by omega), w64 (n := (i : Int) + 1) (by omega) (by omega)]
    have e : (shr .u64 n (8 * (i : Int))) % 256 = ((n / 256 ^ i % 256 : Nat) : Int) := by
      unfold shr
      have e2 : ((n : Int) / 2 ^ (8 * i)) = ((n / 2 ^ (8 * i) : Nat) : Int) := by simp
      rw [show (8 * (i : Int)).toNat = 8 * i by omega, show min (8 * i) IntKind.u64.bits = 8 * i from Nat.min_eq_left (by simp [IntKind.bits]; omega), e2, show (256 : Nat) ^ i = 2 ^ (8 * i) by rw [Nat.pow_mul], Int.natCast_emod]
      rfl
    rw [e]
    exact hr
def cl8 (a : Int) : Int := if a < 0 then 0 else if 8 < a then 8 else a
theorem put_eq (k : Nat) (hk : 8 < k) (n : Nat) (hn : n < 18446744073709551616) (w : Int) : word_Put.f k n w = some (putl n (cl8 w).toNat) := by
  unfold word_Put.f
  rw [wnear_eq _ _ _ (by decide)]
  simp only [Option.bind_some]
  have h : 0 ≤ cl8 w ∧ cl8 w ≤ 8 := by unfold cl8; split <;> (try split) <;> omega
  rw [show (if w < 0 then 0 else if 8 < w then 8 else w) = (((cl8 w).toNat : Nat) : Int) by unfold cl8 at h ⊢; omega]
  exact put_l n hn (cl8 w).toNat (by omega) (cl8 w).toNat k 0 (by omega) rfl (by omega)
theorem rput_l (n : Nat) (hn : n < 18446744073709551616) (w : Int) (hw : w ≤ 9223372036854775807) (d : Nat) : ∀ (k i : Nat), i ≤ (cl8 w).toNat → (cl8 w).toNat - i = d → d < k →
    strandlineref01_Put.l0 k ((n / 256 ^ i : Nat) : Int) w (putl n i) i = some (putl n (cl8 w).toNat) := by
  have h : 0 ≤ cl8 w ∧ cl8 w ≤ 8 := by unfold cl8; split <;> (try split) <;> omega
  induction d with
  | zero =>
    intro k i h1 hd hk
    obtain ⟨k, rfl⟩ : ∃ m, k = m + 1 := ⟨k - 1, by omega⟩
    simp only [strandlineref01_Put.l0]
    have hi : i = (cl8 w).toNat := by omega
    rw [← hi]
    by_cases h2 : (i : Int) < w
    · rw [if_pos h2, if_neg (by unfold cl8 at hi; split at hi <;> (try split at hi) <;> omega)]
    · rw [if_neg h2]
  | succ d ih =>
    intro k i h1 hd hk
    obtain ⟨k, rfl⟩ : ∃ m, k = m + 1 := ⟨k - 1, by omega⟩
    simp only [strandlineref01_Put.l0]
    have hr := ih k (i + 1) (by omega) (by omega) (by omega)
    have hw2 : (i : Int) < w ∧ (i : Int) < 8 := by
      have : (i : Int) < cl8 w := by omega
      unfold cl8 at this
      split at this
      · omega
      · split at this <;> omega
    have hle : n / 256 ^ i ≤ n := Nat.div_le_self _ _
    have hnext : n / 256 ^ (i + 1) = n / 256 ^ i / 256 := by rw [Nat.pow_succ, Nat.div_div_eq_div_mul]
    rw [if_pos hw2.1, if_pos hw2.2, putl_len, if_pos (by omega), w64 (n := (i : Int) + 1) (by omega) (by omega)]
    rw [hnext] at hr
    rw [show putl n (i + 1) = putl n i ++ [((n / 256 ^ i % 256 : Nat) : Int)] from rfl] at hr
    generalize n / 256 ^ i = q at *
    rw [td (a := (q : Int)) (by omega), tm (a := (q : Int)) (by omega), wu64 (n := (q : Int) / 256) (by omega) (by omega), show (q : Int) % 256 % 256 = ((q % 256 : Nat) : Int) by omega, show (q : Int) / 256 = ((q / 256 : Nat) : Int) by omega]
    exact hr
theorem rput_eq (k : Nat) (hk : 8 < k) (n : Nat) (hn : n < 18446744073709551616) (w : Int) (hw : w ≤ 9223372036854775807) : strandlineref01_Put.f k n w = some (putl n (cl8 w).toNat) := by
  unfold strandlineref01_Put.f
  have h : 0 ≤ cl8 w ∧ cl8 w ≤ 8 := by unfold cl8; split <;> (try split) <;> omega
  have := rput_l n hn w hw (cl8 w).toNat k 0 (by omega) rfl (by omega)
  simpa [putl] using this
end Nums
end Go.Proofs.YthhbilkmdfdfiaaDoor.F
namespace Go.Proofs.YthhbilkmdfdfiaaDoor.O
open Go.RowKit Go.Proofs.YthhbilkmdfdfiaaDoorW.PrintWords Go.Proofs.YthhbilkmdfdfiaaDoorW.PrintLast Go.Proofs.YthhbilkmdfdfiaaDoorW.PrintMore Go.Proofs.YthhbilkmdfdfiaaDoor.F Go.Proofs.YthhbilkmdfdfiaaDoor.F.Nums Go.Proofs.YthhbilkmdfdfiaaDoor.Plain
theorem bytes_of_wf {xs : List Int} (h : ∀ x ∈ xs, (Lit.int .u8 x).wf = true) : Bytes xs := fun c hc => by
  have := h c hc
  simp [Lit.wf, IntKind.min, IntKind.max, IntKind.signed, IntKind.bits] at this
  omega
theorem putl_bytes (n i : Nat) : Bytes (putl n i) := by
  induction i with
  | zero => intro c hc; cases hc
  | succ i ih =>
    intro c hc
    rcases List.mem_append.1 hc with hc | hc
    · exact ih c hc
    · rw [List.mem_singleton.1 hc]
      omega
theorem bytes_append {xs ys : List Int} (h : Bytes xs) (k : Bytes ys) : Bytes (xs ++ ys) := fun c hc => (List.mem_append.1 hc).elim (h c) (k c)
theorem bytes_take {xs : List Int} (h : Bytes xs) (n : Nat) : Bytes (xs.take n) := fun c hc => h c (List.mem_of_mem_take hc)
theorem bytes_drop {xs : List Int} (h : Bytes xs) (n : Nat) : Bytes (xs.drop n) := fun c hc => h c (List.mem_of_mem_drop hc)
theorem bytes_zs (n : Nat) : Bytes (zs n) := fun c hc => by have := List.eq_of_mem_replicate hc; omega
theorem splice_at {α : Type} (a b : List α) (c : List α) (o : Nat) (ho : a.length = o) : splice (a ++ b) o c = a ++ (c ++ b.drop c.length) := by
  subst ho
  unfold splice
  rw [List.take_left, List.drop_append]
  rw [List.drop_of_length_le (by omega), List.nil_append, show a.length + c.length - a.length = c.length by omega]
end Go.Proofs.YthhbilkmdfdfiaaDoor.O
end

section
/- Functions of crc: what each answers, as a Lean function, and that the call answers just this. Turned out of what the kit's print told for this seat. -/
namespace Go.Proofs.YthhbilkmdfdfiaaDoor.F
open Go.RowKit Go.Proofs.YthhbilkmdfdfiaaDoorW.PrintWords Go.Proofs.YthhbilkmdfdfiaaDoorW.PrintLast Go.Proofs.YthhbilkmdfdfiaaDoorW.PrintMore
attribute [local go_sem high] eqA120
attribute [local go_sem] field120_0
attribute [local go_sem] field120_1
attribute [local go_sem] max2_int min2_int max_two min_two max_three min_three max_four min_four
set_option linter.unusedVariables false
set_option linter.unusedSimpArgs false

/-! ### crc_Mask: function 20 -/
def crc_Mask.f (a0 : Int) : Option (Int) := some (((Go.bits .or .u32 (a0 / 32768) ((a0 * 131072) % 4294967296)) + 2726488792) % 4294967296)
set_option maxHeartbeats 8000000 in
set_option maxRecDepth 100000 in
theorem crc_Mask.calls (a0 : Int) (r : Int) (w : World) (h : crc_Mask.f a0 = some r) :
    Calls Tryd.prog 20 #[.int .u32 a0] w fun e w' => e = .returned (.int .u32 r) ∧ Drawn0 w w' := by
  have hu37 := Tryd.underlying37
  have hu99 := Tryd.underlying99
  have hu120 := Tryd.underlying120
  have H : (some (((Go.bits .or .u32 (a0 / 32768) ((a0 * 131072) % 4294967296)) + 2726488792) % 4294967296)) = some r := h
  clear h
  obtain rfl := Option.some.inj H
  go_enter Tryd.func20, Tryd.ntmps20
  go_wp2
  go_ret
  exact ⟨by first | rfl | (simp; done) | (simp [*]; done), by repeat (first | exact Drawn0.refl _ | apply Drawn0.step)⟩

/-! ### crc_Unmask: function 22 -/
def crc_Unmask.f (a0 : Int) : Option (Int) := some (Go.bits .or .u32 ((((a0 - 2726488792) % 4294967296) * 32768) % 4294967296) (((a0 - 2726488792) % 4294967296) / 131072))
set_option maxHeartbeats 8000000 in
set_option maxRecDepth 100000 in
theorem crc_Unmask.calls (a0 : Int) (r : Int) (w : World) (h : crc_Unmask.f a0 = some r) :
    Calls Tryd.prog 22 #[.int .u32 a0] w fun e w' => e = .returned (.int .u32 r) ∧ Drawn0 w w' := by
  have hu37 := Tryd.underlying37
  have hu99 := Tryd.underlying99
  have hu120 := Tryd.underlying120
  have H : (some (Go.bits .or .u32 ((((a0 - 2726488792) % 4294967296) * 32768) % 4294967296) (((a0 - 2726488792) % 4294967296) / 131072))) = some r := h
  clear h
  obtain rfl := Option.some.inj H
  go_enter Tryd.func22, Tryd.ntmps22
  go_wp2
  go_ret
  exact ⟨by first | rfl | (simp; done) | (simp [*]; done), by repeat (first | exact Drawn0.refl _ | apply Drawn0.step)⟩


end Go.Proofs.YthhbilkmdfdfiaaDoor.F
end
