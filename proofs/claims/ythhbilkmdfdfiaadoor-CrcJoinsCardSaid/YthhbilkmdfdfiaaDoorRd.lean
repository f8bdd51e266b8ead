/- Cells that are read from an address on, whosever they are. -/
import Derived.Test.YthhbilkmdfdfiaaDoorTy
import Derived.Deep.Strs
namespace Go.Proofs.YthhbilkmdfdfiaaDoor.O
open Go.RowKit Go.Proofs.YthhbilkmdfdfiaaDoorW.PrintWords Go.Proofs.YthhbilkmdfdfiaaDoorW.PrintLast Go.Proofs.YthhbilkmdfdfiaaDoorW.PrintMore Go.Proofs.YthhbilkmdfdfiaaDoor.F
set_option linter.unusedVariables false
set_option linter.unusedSimpArgs false
/-- the cells cs lie from address A on -/
def Rd (w : World) (A : Option Addr) (cs : List Value) : Prop := 0 < cs.length → ∃ ad, A = some ad ∧ ∀ (j : Nat) (v : Value), cs[j]? = some v → w.cell? (ad.add j) = some v
theorem add_block (a : Addr) (n : Nat) : (a.add n).block = a.block := by
  unfold Addr.add
  split <;> rfl
theorem add_add' (a : Addr) (n m : Nat) : (a.add n).add m = a.add (n + m) := by
  unfold Addr.add
  by_cases h1 : n = 0
  · subst h1
    simp
  · by_cases h2 : m = 0
    · subst h2
      simp [h1]
    · rw [if_neg h1, if_neg h2, if_neg (by omega)]
      simp [Nat.add_assoc]
section
variable {w w1 : World} {A : Option Addr} {ad : Addr} {cs : List Value} {k : IntKind} {n : Nat} {xs : List Int}
theorem Rd.below (h : Rd w A cs) (hb : Below w.heap.size w w1) : Rd w1 A cs := fun hp => by
  obtain ⟨ad, rfl, hc⟩ := h hp
  refine ⟨ad, rfl, fun j v hj => ?_⟩
  have h1 := hc j v hj
  exact (hb.cell (World.block_lt_of_cell? w _ h1)).trans h1
theorem Rd.nil (w : World) (A : Option Addr) : Rd w A [] := fun hp => absurd hp (by simp)
theorem Rd.of_C (h : (Kd.int k).C w A n xs) : Rd w A (nums k xs) := fun hp => by
  have hl : xs.length = n := h.1
  rw [nums_length] at hp
  obtain ⟨ad, rfl, hc⟩ := h.2.2 (by omega)
  refine ⟨ad, rfl, fun j v hj => ?_⟩
  simp only [nums, List.getElem?_map, Option.map_eq_some_iff] at hj
  obtain ⟨z, hz, rfl⟩ := hj
  obtain ⟨c, hs', hr, hcell⟩ := hc j z hz
  have hr' : c = [.int k z] := hr
  subst hr'
  have := hcell 0 _ rfl
  rw [show (Kd.int k).sz = 1 from rfl] at this
  simpa using this
theorem Rd.C (h : Rd w A (nums k xs)) (hn : xs.length = n) (hm : n ≤ 9223372036854775807) : (Kd.int k).C w A n xs := by
  refine ⟨hn, hm, fun hp => ?_⟩
  obtain ⟨ad, rfl, hc⟩ := h (by rw [nums_length]; omega)
  refine ⟨ad, rfl, fun j p hj => ⟨[.int k p], rfl, rfl, fun i u hu => ?_⟩⟩
  have hi0 : i = 0 := by have := (List.getElem?_eq_some_iff.1 hu).1; simpa using this
  subst hi0
  simp at hu
  subst hu
  rw [show (Kd.int k).sz = 1 from rfl, Nat.mul_one, Nat.add_zero]
  refine hc j _ ?_
  rw [nums, List.getElem?_map, hj]
  rfl
theorem Rd.at_ (h : Rd w (some ad) cs) (off : Nat) : Rd w (some (ad.add off)) (cs.drop off) := fun hp => by
  rw [List.length_drop] at hp
  obtain ⟨ad', e, hc⟩ := h (by omega)
  obtain rfl := Option.some.inj e
  refine ⟨_, rfl, fun j v hj => ?_⟩
  rw [add_add']
  rw [List.getElem?_drop] at hj
  exact hc _ v hj
theorem Rd.take (h : Rd w A cs) (m : Nat) : Rd w A (cs.take m) := fun hp => by
  rw [List.length_take] at hp
  obtain ⟨ad, rfl, hc⟩ := h (by omega)
  refine ⟨ad, rfl, fun j v hj => ?_⟩
  rw [List.getElem?_take] at hj
  split at hj
  · exact hc j v hj
  · cases hj
theorem Rd.some_ (h : Rd w A cs) (hp : 0 < cs.length) : ∃ ad, A = some ad := by
  obtain ⟨ad, rfl, _⟩ := h hp
  exact ⟨ad, rfl⟩
end
section
variable {w0 W : World} {F : Nat → Option Obj} {L : List Res} {c : Res → List Res}
theorem rd_own {b : Nat} {A : Option Addr} {n cc sz : Nat} {e : TypeId} {xs : List Value} (h : W.ownsRow b e sz (.slice A n cc) n xs) : Rd W A xs ∧ n ≤ cc ∧ xs.length = n * sz := by
  refine ⟨fun hp => ?_, ?_, h.1⟩
  · rcases h.2 with ⟨h1, h0⟩ | ⟨g, cap, cur, h1, hb, hg, hnc, hcm, hcs, ht⟩
    · have := h.1
      rw [h0, Nat.zero_mul] at this
      omega
    · simp only [Value.slice.injEq] at h1
      obtain ⟨rfl, -, rfl⟩ := h1
      refine ⟨_, rfl, fun j v hj => ?_⟩
      rw [addr_add, Nat.zero_add, blk_cell hg j]
      rw [← ht, List.getElem?_take] at hj
      split at hj
      · simpa using hj
      · cases hj
  · rcases h.2 with ⟨h1, h0⟩ | ⟨g, cap, cur, h1, hb, hg, hnc, hcm, hcs, ht⟩
    · omega
    · simp only [Value.slice.injEq] at h1
      obtain ⟨rfl, -, rfl⟩ := h1
      exact hnc
theorem Own.rd {A : Option Addr} {n cc sz : Nat} {e : TypeId} {xs : List Value} (H : Own w0 F L W) (hI : In L (.row (.slice A n cc) e sz n xs) c) : Rd W A xs ∧ n ≤ cc ∧ xs.length = n * sz := rd_own (H.at_ hI)
theorem Own.rdB {g : Nat} {t : TypeId} {cs : List Value} (H : Own w0 F L W) (hI : In L (.blk g t cs) c) (o : Nat) : Rd W (some ⟨g, o, none⟩) (cs.drop o) := fun hp => by
  refine ⟨_, rfl, fun j v hj => ?_⟩
  rw [addr_add, H.cell hI]
  rwa [List.getElem?_drop] at hj
end
section
variable {P : Program} {o : Oper} {a : Act} {K : Act → World → Prop} {Q : Exit → Act → World → Prop} {W : World} {ad : Addr} {cs : List Value}
theorem r_loadRd (ty : TypeId) (x : Operand) (ho : o.op = .load ty x) (off : Nat) (hx : a.eval x = .pointer (some (ad.add off))) (hR : Rd W (some ad) cs)
    (n : Nat) (d : TypeDesc) (hu : P.underlying ty = some d) (hd : d.isRow = true) (hi : (P.info? ty).map (·.size) = some n) (hn : 0 < n) (hfit : off + n ≤ cs.length) : (execOp a.eval o).run P W = .ok (.value (.agg ((cs.drop off).take n).toArray)) W := by
  have hll : ((cs.drop off).take n).length = n := by rw [List.length_take, List.length_drop]; omega
  have hl : (loadCells (ad.add off) ((cs.drop off).take n).length).run P W = .ok ((cs.drop off).take n).toArray W :=
    run_loadCells_list (P := P) W (ad.add off) ((cs.drop off).take n) (fun j v hv => by
      obtain ⟨ad', e, hc⟩ := ((hR.at_ off).take n) (by omega)
      obtain rfl := Option.some.inj e
      exact hc j v hv)
  rw [hll] at hl
  obtain ⟨i, hi, hs⟩ := Option.map_eq_some_iff.1 hi
  have hagg : (isAgg ty).run P W = .ok true W := by
    unfold isAgg
    rw [Sem.run_bind, run_underlying hu W]
    cases d <;> simp_all
  unfold execOp
  simp [ho, hx, Instr.loadAt, Instr.sureAddr, loadVar, hagg, sizeOf, typeInfo, hi, hs, hl]
theorem r_loadRd1 (ty : TypeId) (x : Operand) (ho : o.op = .load ty x) (off : Nat) (hx : a.eval x = .pointer (some (ad.add off))) (hR : Rd W (some ad) cs)
    (d : TypeDesc) (hu : P.underlying ty = some d) (hd : d.isRow = false) (v : Value) (hv : cs[off]? = some v) : (execOp a.eval o).run P W = .ok (.value v) W := by
  obtain ⟨ad', e, hc⟩ := hR (by have := (List.getElem?_eq_some_iff.1 hv).1; omega)
  obtain rfl := Option.some.inj e
  have hcell := hc off v hv
  have hag : (isAgg ty).run P W = .ok false W := by
    unfold isAgg
    rw [Sem.run_bind, run_underlying hu W]
    cases d <;> simp_all
  unfold execOp
  simp [ho, hx, Instr.loadAt, Instr.sureAddr, loadVar, hag, hcell]
theorem w_loadRd (ty : TypeId) (x : Operand) (ho : o.op = .load ty x) (off : Nat) (hx : a.eval x = .pointer (some (ad.add off))) (hR : Rd W (some ad) cs)
    (n : Nat) (d : TypeDesc) (hu : P.underlying ty = some d) (hd : d.isRow = true) (hi : (P.info? ty).map (·.size) = some n) (hn : 0 < n) (hfit : off + n ≤ cs.length) (h : K (a.put o.dst (.agg ((cs.drop off).take n).toArray)) W) : o.wp P a W K Q := by
  unfold Oper.wp
  rw [r_loadRd ty x ho off hx hR n d hu hd hi hn hfit]
  exact h
theorem w_loadRd1 (ty : TypeId) (x : Operand) (ho : o.op = .load ty x) (off : Nat) (hx : a.eval x = .pointer (some (ad.add off))) (hR : Rd W (some ad) cs)
    (d : TypeDesc) (hu : P.underlying ty = some d) (hd : d.isRow = false) (v : Value) (hv : cs[off]? = some v) (h : K (a.put o.dst v) W) : o.wp P a W K Q := by
  unfold Oper.wp
  rw [r_loadRd1 ty x ho off hx hR d hu hd v hv]
  exact h
end
section
variable {P : Program} {ops : Array Oper} {rest : List Oper} {o : Oper} {a : Act} {Q : Exit → Act → World → Prop} {W : World} {ad : Addr} {cs : List Value}
theorem l_loadRd (hgd : o.guard = none) (ty : TypeId) (x : Operand) (ho : o.op = .load ty x) (off : Nat) (hx : a.eval x = .pointer (some (ad.add off))) (hR : Rd W (some ad) cs)
    (n : Nat) (d : TypeDesc) (hu : P.underlying ty = some d) (hd : d.isRow = true) (hi : (P.info? ty).map (·.size) = some n) (hn : 0 < n) (hfit : off + n ≤ cs.length) (h : wpList P ops Q rest (a.put o.dst (.agg ((cs.drop off).take n).toArray)) W) : wpList P ops Q (o :: rest) a W :=
  wpList_plain hgd fun K hK => w_loadRd ty x ho off hx hR n d hu hd hi hn hfit (hK _ _ h)
theorem l_loadRd1 (hgd : o.guard = none) (ty : TypeId) (x : Operand) (ho : o.op = .load ty x) (off : Nat) (hx : a.eval x = .pointer (some (ad.add off))) (hR : Rd W (some ad) cs)
    (d : TypeDesc) (hu : P.underlying ty = some d) (hd : d.isRow = false) (v : Value) (hv : cs[off]? = some v) (h : wpList P ops Q rest (a.put o.dst v) W) : wpList P ops Q (o :: rest) a W :=
  wpList_plain hgd fun K hK => w_loadRd1 ty x ho off hx hR d hu hd v hv (hK _ _ h)
end
theorem nums_take {k : IntKind} (xs : List Int) (n : Nat) : (nums k xs).take n = nums k (xs.take n) := by simp [nums, List.map_take]
theorem nums_drop {k : IntKind} (xs : List Int) (n : Nat) : (nums k xs).drop n = nums k (xs.drop n) := by simp [nums, List.map_drop]
theorem nums_app {k : IntKind} (xs ys : List Int) : nums k xs ++ nums k ys = nums k (xs ++ ys) := by simp [nums]
section
variable {P : Program} {ops : Array Oper} {rest : List Oper} {o : Oper} {a : Act} {K : Act → World → Prop} {Q : Exit → Act → World → Prop} {W : World} {ad : Addr} {cs : List Value}
/-- the same, what is read written out -/
theorem r_loadRdS (ty : TypeId) (x : Operand) (ho : o.op = .load ty x) (off : Nat) (hx : a.eval x = .pointer (some (ad.add off))) (hR : Rd W (some ad) cs)
    (n : Nat) (d : TypeDesc) (hu : P.underlying ty = some d) (hd : d.isRow = true) (hi : (P.info? ty).map (·.size) = some n) (hn : 0 < n) (seg : List Value) (hs : (cs.drop off).take n = seg) (hl : seg.length = n) : (execOp a.eval o).run P W = .ok (.value (.agg seg.toArray)) W := by
  subst hs
  exact r_loadRd ty x ho off hx hR n d hu hd hi hn (by rw [List.length_take, List.length_drop] at hl; omega)
theorem l_loadRdS (hgd : o.guard = none) (ty : TypeId) (x : Operand) (ho : o.op = .load ty x) (off : Nat) (hx : a.eval x = .pointer (some (ad.add off))) (hR : Rd W (some ad) cs)
    (n : Nat) (d : TypeDesc) (hu : P.underlying ty = some d) (hd : d.isRow = true) (hi : (P.info? ty).map (·.size) = some n) (hn : 0 < n) (seg : List Value) (hs : (cs.drop off).take n = seg) (hl : seg.length = n) (h : wpList P ops Q rest (a.put o.dst (.agg seg.toArray)) W) : wpList P ops Q (o :: rest) a W := by
  refine wpList_plain hgd fun K hK => ?_
  unfold Oper.wp
  rw [r_loadRdS ty x ho off hx hR n d hu hd hi hn seg hs hl]
  exact hK _ _ h
end
section
variable {w0 W : World} {F : Nat → Option Obj} {L : List Res} {c : Res → List Res}
theorem Own.addRow {W' : World} {v : Value} {e sz n : Nat} {xs : List Value} (H : Own w0 F L W) (hb : Below W.heap.size W W') (ho : W'.ownsRow W.heap.size e sz v n xs) : Own w0 F (.row v e sz n xs :: L) W' :=
  H.cons hb (own_weaken ho H.size) (fun k hk => own_base ho k hk)
/-- a block of one's own as a row of it -/
theorem Own.blk_row {g e sz n cap : Nat} {cur xs : List Value} (H : Own w0 F L W) (hI : In L (.blk g e cur) c) (hn : n ≤ cap) (hm : cap ≤ 9223372036854775807) (hl : cur.length = cap * sz) (hx : cur.take (n * sz) = xs) :
    Own w0 F (c (.row (.slice (some ⟨g, 0, none⟩) n cap) e sz n xs)) W := by
  have h := H.at_ hI
  refine H.repl hI (World.grownBy.refl W _) ⟨?_, .inr ⟨g, cap, cur.toArray, rfl, h.1, h.2, hn, by simpa [maxLen] using hm, by simpa using hl, by simpa using hx⟩⟩ (fun k hk => .inl ?_)
  · rw [← hx, List.length_take, hl, Nat.min_eq_left (Nat.mul_le_mul_right _ hn)]
  · simp [Res.block, Value.ownBlock] at hk ⊢
    exact hk
end
/-! ### slices of slices -/
/-- where a cut slice begins: lo its low bound, m the capacity's end -/
def dropA (A : Option Addr) (lo m sz : Nat) : Option Addr := if m = lo then A else A.map (·.add (lo * sz))
theorem Rd.dropA {w : World} {A : Option Addr} {cs : List Value} (h : Rd w A cs) (lo m sz : Nat) (hm : m = lo → cs.length ≤ lo * sz) : Rd w (dropA A lo m sz) (cs.drop (lo * sz)) := by
  unfold O.dropA
  split
  · rename_i he
    rw [List.drop_of_length_le (hm he)]
    exact Rd.nil _ _
  · intro hp
    rw [List.length_drop] at hp
    obtain ⟨ad, rfl⟩ := h.some_ (by omega)
    exact (h.at_ (lo * sz)) (by rw [List.length_drop]; exact hp)
section
variable {P : Program} {o : Oper} {a : Act} {A : Option Addr} {n c : Nat} {t e sz : Nat}
theorem x_slice (x : Operand) (lo hi mx : Option Operand) (ho : o.op = .slice t x lo hi mx) (hx : a.eval x = .slice A n c) (hu : P.underlying t = some (.slice e)) (hz : (P.info? e).map (·.size) = some sz)
    (l h m : Nat) (hb : ∀ W, (Instr.sliceBounds true n c (lo.map a.eval) (hi.map a.eval) (mx.map a.eval)).run P W = .ok (l, h, m) W) (W : World) :
    (execOp a.eval o).run P W = .ok (.value (.slice (dropA A l m sz) (h - l) (m - l))) W := by
  obtain ⟨i, hi', hs⟩ := Option.map_eq_some_iff.1 hz
  have hel : P.elem t = e := by simp [Program.elem, hu]
  have hu' : P.underlying t = some (.slice (P.elem t)) := by rw [hel]; exact hu
  have h1 : (Instr.sliceAt t (.slice A n c) (lo.map a.eval) (hi.map a.eval) (mx.map a.eval)).run P W = .ok (.slice (dropA A l m sz) (h - l) (m - l)) W := by
    rw [run_sliceAt_slice W t _ _ _ _ hu', run_slice_any W t A n c hu', hb W]
    simp [Result.andThen, sizeOf, typeInfo, hel, hi', hs, sliced, dropA]
  unfold execOp
  simp [ho, hx, h1]
theorem x_slice_lo (x lo : Operand) (ho : o.op = .slice t x (some lo) none none) (hx : a.eval x = .slice A n c) (hu : P.underlying t = some (.slice e)) (hz : (P.info? e).map (·.size) = some sz) (l : Nat) (hlo : a.eval lo = .int .i64 (l : Int)) (h1 : l ≤ n) (W : World) :
    (execOp a.eval o).run P W = .ok (.value (.slice (dropA A l c sz) (n - l) (c - l))) W :=
  x_slice x _ _ _ ho hx hu hz l n c (fun W => by simp [Instr.sliceBounds, run_sliceBound, hlo, h1]) W
theorem x_slice_hi (x hi : Operand) (ho : o.op = .slice t x none (some hi) none) (hx : a.eval x = .slice A n c) (hu : P.underlying t = some (.slice e)) (hz : (P.info? e).map (·.size) = some sz) (h : Nat) (hhi : a.eval hi = .int .i64 (h : Int)) (h1 : h ≤ c) (W : World) :
    (execOp a.eval o).run P W = .ok (.value (.slice (dropA A 0 c sz) h c)) W := by
  have := x_slice (P := P) x _ _ _ ho hx hu hz 0 h c (fun W => by simp [Instr.sliceBounds, run_sliceBound, hhi, h1]) W
  simpa using this
theorem dropA_zero (A : Option Addr) (c sz : Nat) : dropA A 0 c sz = A := by
  unfold dropA
  split
  · rfl
  · cases A <;> simp [Addr.add]
theorem x_slice_to (x hi : Operand) (ho : o.op = .slice t x none (some hi) none) (hx : a.eval x = .slice A n c) (hu : P.underlying t = some (.slice e)) (hz : (P.info? e).map (·.size) = some sz) (h : Nat) (hhi : a.eval hi = .int .i64 (h : Int)) (h1 : h ≤ c) (W : World) :
    (execOp a.eval o).run P W = .ok (.value (.slice A h c)) W := by
  have := x_slice_hi x hi ho hx hu hz h hhi h1 W
  rwa [dropA_zero] at this
theorem x_slice_lohi (x lo hi : Operand) (ho : o.op = .slice t x (some lo) (some hi) none) (hx : a.eval x = .slice A n c) (hu : P.underlying t = some (.slice e)) (hz : (P.info? e).map (·.size) = some sz) (l h : Nat) (hlo : a.eval lo = .int .i64 (l : Int)) (hhi : a.eval hi = .int .i64 (h : Int)) (h1 : l ≤ h) (h2 : h ≤ c) (W : World) :
    (execOp a.eval o).run P W = .ok (.value (.slice (dropA A l c sz) (h - l) (c - l))) W :=
  x_slice x _ _ _ ho hx hu hz l h c (fun W => by simp [Instr.sliceBounds, run_sliceBound, hlo, hhi, h1, h2]) W
theorem x_slice_lohimax (x lo hi mx : Operand) (ho : o.op = .slice t x (some lo) (some hi) (some mx)) (hx : a.eval x = .slice A n c) (hu : P.underlying t = some (.slice e)) (hz : (P.info? e).map (·.size) = some sz) (l h m : Nat) (hlo : a.eval lo = .int .i64 (l : Int)) (hhi : a.eval hi = .int .i64 (h : Int)) (hmx : a.eval mx = .int .i64 (m : Int))
    (h1 : l ≤ h) (h2 : h ≤ m) (h3 : m ≤ c) (W : World) :
    (execOp a.eval o).run P W = .ok (.value (.slice (dropA A l m sz) (h - l) (m - l))) W :=
  x_slice x _ _ _ ho hx hu hz l h m (fun W => by simp [Instr.sliceBounds, run_sliceBound, hlo, hhi, hmx, h1, h2, h3]) W
end
section
variable {P : Program} {ops : Array Oper} {rest : List Oper} {o : Oper} {a : Act} {K : Act → World → Prop} {Q : Exit → Act → World → Prop} {W : World}
theorem w_run (v : Value) (hr : (execOp a.eval o).run P W = .ok (.value v) W) (h : K (a.put o.dst v) W) : o.wp P a W K Q := by
  unfold Oper.wp
  rw [hr]
  exact h
theorem l_run (hgd : o.guard = none) (v : Value) (hr : (execOp a.eval o).run P W = .ok (.value v) W) (h : wpList P ops Q rest (a.put o.dst v) W) : wpList P ops Q (o :: rest) a W :=
  wpList_plain hgd fun K hK => w_run v hr (hK _ _ h)
end
end Go.Proofs.YthhbilkmdfdfiaaDoor.O
