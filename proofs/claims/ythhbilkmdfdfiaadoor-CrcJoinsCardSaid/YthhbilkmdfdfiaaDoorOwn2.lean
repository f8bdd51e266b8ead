/- append onto a full slice that is no row of one's own; nothing appended; what is restarted. -/
import Derived.Test.YthhbilkmdfdfiaaDoorRd
import Derived.Great.BuildSlice
import Derived.Lib.LazyBuf
import Derived.ArgAppend
namespace Go.Proofs.YthhbilkmdfdfiaaDoor.O
open Go.RowKit Go.Proofs.YthhbilkmdfdfiaaDoorW.PrintWords Go.Proofs.YthhbilkmdfdfiaaDoorW.PrintLast Go.Proofs.YthhbilkmdfdfiaaDoorW.PrintMore Go.Proofs.YthhbilkmdfdfiaaDoor.F
set_option linter.unusedVariables false
set_option linter.unusedSimpArgs false
section
variable {P : Program} {o : Oper} {a : Act} {K : Act → World → Prop} {Q : Exit → Act → World → Prop} {w0 W : World} {F : Nat → Option Obj} {L : List Res} {c : Res → List Res} {ops : Array Oper} {rest : List Oper}
/-- onto a full slice: a new row -/
theorem w_appendFull (H : Own w0 F L W) (s x : Operand) (t e : TypeId) (ho : o.op = .call { callee := .builtin .append, args := #[s, x], argTypes := #[t, t] }) (ht : P.underlying t = some (.slice e)) (z : Value) (size bytes : Nat)
    (hinfo : (P.info? e).map (fun i => (i.zero, i.size, i.bytes)) = some (some z, size, bytes)) (hz : z.cells.size = size) (hs0 : 0 < size) (hb0 : 0 < bytes) (b : Addr) (n : Nat) (olds : List Value) (hs : a.eval s = .slice (some b) n n) (hlo : olds.length = n * size) (holds : ∀ j u, olds[j]? = some u → W.cell? (b.add j) = some u)
    (A : Option Addr) (m cc : Nat) (news : List Value) (hx : a.eval x = .slice A m cc) (hm : 0 < m) (hl : news.length = m * size) (hR : Rd W A news) (hbytes : (n + m) * bytes ≤ 140737488355328)
    (h : ∀ v' W', Own w0 F (.row v' e size (n + m) (olds ++ news) :: L) W' → K (a.put o.dst v') W') : o.wp P a W K Q := by
  obtain ⟨i, hi, hzz⟩ := Option.map_eq_some_iff.1 hinfo
  simp only [Prod.mk.injEq] at hzz
  obtain ⟨hz0, hz1, hz2⟩ := hzz
  have hlen : n + m ≤ 140737488355328 := Nat.le_trans (Nat.le_mul_of_pos_right _ hb0) hbytes
  obtain ⟨ad, rfl, hc⟩ := hR (by rw [hl]; exact Nat.mul_pos hm hs0)
  obtain ⟨v1, w1, hrun, h2, hg⟩ := run_append_arg_grows (P := P) W t o.type e i z size bytes ht hi hz0 hz1 hz2 hz hs0 b n n olds hlo holds ad m cc news hl (fun j u hj => hc j u hj) (by omega) (by simp only [maxLen]; omega) hbytes
  unfold Oper.wp execOp
  simp only [ho, resolve, invoke, builtin, Sem.run_bind, Sem.run_pure, Result.andThen_ok, List.map_toArray, List.map_cons, List.map_nil, hs, hx, hrun]
  exact h _ _ (H.cons ⟨hg.os, hg.tape, hg.output, hg.size, fun k hk => hg.block k hk (by simp)⟩ (own_weaken h2 H.size) (fun k hk => own_base h2 k hk))
theorem l_appendFull (hgd : o.guard = none) (H : Own w0 F L W) (s x : Operand) (t e : TypeId) (ho : o.op = .call { callee := .builtin .append, args := #[s, x], argTypes := #[t, t] }) (ht : P.underlying t = some (.slice e)) (z : Value) (size bytes : Nat)
    (hinfo : (P.info? e).map (fun i => (i.zero, i.size, i.bytes)) = some (some z, size, bytes)) (hz : z.cells.size = size) (hs0 : 0 < size) (hb0 : 0 < bytes) (b : Addr) (n : Nat) (olds : List Value) (hs : a.eval s = .slice (some b) n n) (hlo : olds.length = n * size) (holds : ∀ j u, olds[j]? = some u → W.cell? (b.add j) = some u)
    (A : Option Addr) (m cc : Nat) (news : List Value) (hx : a.eval x = .slice A m cc) (hm : 0 < m) (hl : news.length = m * size) (hR : Rd W A news) (hbytes : (n + m) * bytes ≤ 140737488355328)
    (h : ∀ v' W', Own w0 F (.row v' e size (n + m) (olds ++ news) :: L) W' → wpList P ops Q rest (a.put o.dst v') W') : wpList P ops Q (o :: rest) a W :=
  wpList_plain hgd fun K hK => w_appendFull H s x t e ho ht z size bytes hinfo hz hs0 hb0 b n olds hs hlo holds A m cc news hx hm hl hR hbytes (fun v' W' H' => hK _ _ (h v' W' H'))
/-- nothing is appended: the slice as it was -/
theorem w_append0 (s x : Operand) (t e : TypeId) (ho : o.op = .call { callee := .builtin .append, args := #[s, x], argTypes := #[t, t] }) (ht : P.underlying t = some (.slice e)) (hinfo : ((P.info? e).map (·.size)).isSome = true) (b : Addr) (n cap : Nat) (hnc : n ≤ cap) (hs : a.eval s = .slice (some b) n cap) (A : Option Addr) (cc : Nat) (hx : a.eval x = .slice A 0 cc)
    (h : K (a.put o.dst (.slice (some b) n cap)) W) : o.wp P a W K Q := by
  obtain ⟨q, hq⟩ := Option.isSome_iff_exists.1 hinfo
  obtain ⟨i, hi, hq2⟩ := Option.map_eq_some_iff.1 hq
  have hrun : (Builtin.append_ #[t, t] o.type #[.slice (some b) n cap, .slice A 0 cc]).run P W = .ok (.slice (some b) n cap) W := by
    cases A <;> simp [Builtin.append_, run_underlying ht, sizeOf, typeInfo, hi, Builtin.lenOf, Builtin.firstCells, hnc, storeCells, loadCells, loadCellsFrom]
  unfold Oper.wp execOp
  simp only [ho, resolve, invoke, builtin, Sem.run_bind, Sem.run_pure, Result.andThen_ok, List.map_toArray, List.map_cons, List.map_nil, hs, hx, hrun]
  exact h
theorem l_append0 (hgd : o.guard = none) (s x : Operand) (t e : TypeId) (ho : o.op = .call { callee := .builtin .append, args := #[s, x], argTypes := #[t, t] }) (ht : P.underlying t = some (.slice e)) (hinfo : ((P.info? e).map (·.size)).isSome = true) (b : Addr) (n cap : Nat) (hnc : n ≤ cap) (hs : a.eval s = .slice (some b) n cap) (A : Option Addr) (cc : Nat) (hx : a.eval x = .slice A 0 cc)
    (h : wpList P ops Q rest (a.put o.dst (.slice (some b) n cap)) W) : wpList P ops Q (o :: rest) a W :=
  wpList_plain hgd fun K hK => w_append0 s x t e ho ht hinfo b n cap hnc hs A cc hx (hK _ _ h)
theorem In.to {L : List Res} {r : Res} {c : Res → List Res} (h : In L r c) (r' : Res) : In (c r') r' c := by
  induction h with
  | head => exact .head
  | tail h ih => exact .tail ih
theorem splice_take {α : Type} (cur ys : List α) (n : Nat) (h : ys.length ≤ n) (hn : n ≤ cur.length) : (splice cur 0 ys).take n = splice (cur.take n) 0 ys := by
  unfold splice
  simp only [List.take_zero, List.nil_append, Nat.zero_add]
  rw [List.take_append, List.drop_take, List.take_of_length_le h]
/-- copy into the beginning of a row of one's own -/
theorem w_copyRow (H : Own w0 F L W) (d s : Operand) (dT sT : TypeId) (ho : o.op = .call { callee := .builtin .copy, args := #[d, s], argTypes := #[dT, sT] }) (elem : TypeId) (hu : P.underlying dT = some (.slice elem)) (hsz : (P.info? elem).map (·.size) = some 1)
    (A0 : Option Addr) (dLen dCap n cap e : Nat) (hd : a.eval d = .slice A0 dLen dCap) {xs : List Int} (hI : In L (.row (.slice A0 n cap) e 1 n (nums .u8 xs)) c) (h0 : 0 < n) (A : Option Addr) (sLen sCap : Nat) (hs : a.eval s = .slice A sLen sCap) (ys : List Int) (hy : (Kd.int .u8).C W A sLen ys) (hfit : min sLen dLen ≤ n)
    (h : ∀ W', Own w0 F (c (.row (.slice A0 n cap) e 1 n (nums .u8 (splice xs 0 (ys.take (min sLen dLen)))))) W' → K (a.put o.dst (goInt (min sLen dLen : Nat))) W') : o.wp P a W K Q := by
  obtain ⟨g, cap', cur, e1, hnc, hm, hl, ht, H1⟩ := H.row_blk hI h0
  injection e1 with e1 e2 e3
  subst e1 e3
  have hyl : ys.length = sLen := hy.1
  refine w_copy H1 d s dT sT ho elem hu hsz g 0 dLen dCap hd (hI.to _) A sLen sCap hs (nums .u8 (ys.take (min sLen dLen))) (by rw [nums_length, List.length_take]; omega) ?_ ?_ (by omega) ?_
  · intro hp
    obtain ⟨ad, e, hc⟩ := (Rd.of_C hy) (by rw [nums_length]; omega)
    refine ⟨ad, e, fun j u hj => hc j u ?_⟩
    rw [← nums_take] at hj
    have := (List.getElem?_eq_some_iff.1 hj).1
    rw [List.length_take] at this
    rwa [List.getElem?_take_of_lt (by omega)] at hj
  · exact nums_one
  · intro W' H'
    refine h W' ?_
    refine H'.blk_row (hI.to _) hnc hm ?_ ?_
    · rw [← hl]
      have : ∀ (l : List Value) (ys : List Value), ys.length ≤ l.length → (splice l 0 ys).length = l.length := fun l ys h => by unfold splice; simp; omega
      exact this _ _ (by rw [nums_length, List.length_take]; omega)
    · rw [splice_take _ _ _ (by rw [nums_length, List.length_take]; omega) (by omega), ht]
      simp [splice, nums, List.map_take, List.map_drop]
end
section
variable {P : Program} {o : Oper} {a : Act}
theorem r_index1 (t : TypeId) (x i : Operand) (ho : o.op = .index t x i) (cs : List Value) (hx : a.eval x = .agg cs.toArray) (k : Nat) (hi : a.eval i = .int .i64 (k : Int)) {n : Nat} {e : TypeId} (hu : P.underlying t = some (.array n e)) {d : TypeDesc} (he : P.underlying e = some d) (hd : d.isRow = false)
    (hs : (P.info? e).map (·.size) = some 1) (hk : k < n) (v : Value) (hv : cs[k]? = some v) (W : World) : (execOp a.eval o).run P W = .ok (.value v) W := by
  obtain ⟨q, hq, hs⟩ := Option.map_eq_some_iff.1 hs
  have hag : (isAgg e).run P W = .ok false W := by
    unfold isAgg
    rw [Sem.run_bind, run_underlying he W]
    cases d <;> simp_all
  unfold execOp
  simp [ho, hx, hi, Instr.index, asIntOf, run_underlying hu, part, hag, sizeOf, typeInfo, hq, hs, hk, hv]
end
section
variable {P : Program} {o : Oper} {a : Act} {K : Act → World → Prop} {Q : Exit → Act → World → Prop} {w0 W : World} {F : Nat → Option Obj} {L : List Res} {c : Res → List Res} {ops : Array Oper} {rest : List Oper}
/-- a slice literal -/
theorem w_buildN (H : Own w0 F L W) (t e : TypeId) (n : Nat) (parts : Array (Nat × Operand)) (ho : o.op = .buildSlice t n parts) (ht : P.underlying t = some (.slice e)) (z : Value) (size : Nat)
    (hinfo : (P.info? e).map (fun i => (i.zero, i.size)) = some (some z, size)) (hs0 : 0 < size) (hn0 : 0 < n) (hsm : n * size ≤ 16777216) (vs : List Value) (hp : parts.toList.map (fun p => (p.1, a.eval p.2)) = (vs.zipIdx 0).map fun x => (x.2, x.1)) (hl : vs.length = n) (hv : ∀ v ∈ vs, v.cells.size = size)
    (cs : List Value) (hc : (vs.flatMap fun v => v.cells.toList) = cs)
    (h : ∀ g W', Own w0 F (.blk g e cs :: L) W' → K (a.put o.dst (.slice (some ⟨g, 0, none⟩) n n)) W') : o.wp P a W K Q := by
  obtain ⟨i, hi, hzz⟩ := Option.map_eq_some_iff.1 hinfo
  simp only [Prod.mk.injEq] at hzz
  obtain ⟨hz0, hsz⟩ := hzz
  subst hsz hc
  have hpos : 0 < n * i.size := Nat.mul_pos hn0 hs0
  refine wp_buildSlice t e n parts ho (vs.flatMap fun v => v.cells.toList).toArray i z ht hi hz0 (by omega) (by omega) ?_ (h _ _ (H.alloc e _))
  have hp' : (parts.map fun (i, x) => (i, a.eval x)).toList = (vs.zipIdx 0).map fun x => (x.2, x.1) := by
    rw [Array.toList_map]
    exact hp
  rw [hp']
  exact Great.fill_whole hs0 vs _ hv (by rw [hl]; simp)
theorem l_buildN (hgd : o.guard = none) (H : Own w0 F L W) (t e : TypeId) (n : Nat) (parts : Array (Nat × Operand)) (ho : o.op = .buildSlice t n parts) (ht : P.underlying t = some (.slice e)) (z : Value) (size : Nat)
    (hinfo : (P.info? e).map (fun i => (i.zero, i.size)) = some (some z, size)) (hs0 : 0 < size) (hn0 : 0 < n) (hsm : n * size ≤ 16777216) (vs : List Value) (hp : parts.toList.map (fun p => (p.1, a.eval p.2)) = (vs.zipIdx 0).map fun x => (x.2, x.1)) (hl : vs.length = n) (hv : ∀ v ∈ vs, v.cells.size = size)
    (cs : List Value) (hc : (vs.flatMap fun v => v.cells.toList) = cs)
    (h : ∀ g W', Own w0 F (.blk g e cs :: L) W' → wpList P ops Q rest (a.put o.dst (.slice (some ⟨g, 0, none⟩) n n)) W') : wpList P ops Q (o :: rest) a W :=
  wpList_plain hgd fun K hK => w_buildN H t e n parts ho ht z size hinfo hs0 hn0 hsm vs hp hl hv cs hc (fun g W' H' => hK _ _ (h g W' H'))
/-- copy from a string that fits -/
theorem w_copyStr (H : Own w0 F L W) (d s : Operand) (dT sT : TypeId) (ho : o.op = .call { callee := .builtin .copy, args := #[d, s], argTypes := #[dT, sT] }) (elem : TypeId) (hu : P.underlying dT = some (.slice elem)) (hsz : (P.info? elem).map (·.size) = some 1)
    (g off dLen dCap : Nat) (hd : a.eval d = .slice (some ⟨g, off, none⟩) dLen dCap) {t : TypeId} {zs : List Int} (hI : In L (.blk g t (nums .u8 zs)) c) (b : ByteArray) (hs : a.eval s = .string b) (ys : List Int) (hy : (b.data.toList.map fun x => Value.int .u8 (x.toNat : Int)) = nums .u8 ys) (hle : b.size ≤ dLen) (hfit : off + b.size ≤ zs.length)
    (h : ∀ W', Own w0 F (c (.blk g t (nums .u8 (splice zs off ys)))) W' → K (a.put o.dst (goInt (b.size : Nat))) W') : o.wp P a W K Q := by
  have hyl : ys.length = b.size := by
    have := congrArg List.length hy
    rw [List.length_map, nums_length, ← Lib.size_eq] at this
    exact this.symm
  obtain ⟨q, hq, hq2⟩ := Option.map_eq_some_iff.1 hsz
  have hth := H.there hI off b.size (by rw [nums_length]; omega)
  have hrun := run_copy_string (P := P) W dT sT o.type elem g off dLen dCap b hu (fun w => by simp [sizeOf, typeInfo, hq, hq2]) hle (fun j hj => (hth j hj).1) (fun j hj => (hth j hj).2)
  rw [hy] at hrun
  unfold Oper.wp execOp
  simp only [ho, resolve, invoke, builtin, Sem.run_bind, Sem.run_pure, Result.andThen_ok, List.map_toArray, List.map_cons, List.map_nil, hd, hs, hrun]
  refine h _ ?_
  have := H.setCells hI off (nums .u8 ys) (by rw [nums_length, nums_length]; omega)
  rw [show splice (nums .u8 zs) off (nums .u8 ys) = nums .u8 (splice zs off ys) by simp [splice, nums, List.map_take, List.map_drop]] at this
  exact this
theorem l_copyStr (hgd : o.guard = none) (H : Own w0 F L W) (d s : Operand) (dT sT : TypeId) (ho : o.op = .call { callee := .builtin .copy, args := #[d, s], argTypes := #[dT, sT] }) (elem : TypeId) (hu : P.underlying dT = some (.slice elem)) (hsz : (P.info? elem).map (·.size) = some 1)
    (g off dLen dCap : Nat) (hd : a.eval d = .slice (some ⟨g, off, none⟩) dLen dCap) {t : TypeId} {zs : List Int} (hI : In L (.blk g t (nums .u8 zs)) c) (b : ByteArray) (hs : a.eval s = .string b) (ys : List Int) (hy : (b.data.toList.map fun x => Value.int .u8 (x.toNat : Int)) = nums .u8 ys) (hle : b.size ≤ dLen) (hfit : off + b.size ≤ zs.length)
    (h : ∀ W', Own w0 F (c (.blk g t (nums .u8 (splice zs off ys)))) W' → wpList P ops Q rest (a.put o.dst (goInt (b.size : Nat))) W') : wpList P ops Q (o :: rest) a W :=
  wpList_plain hgd fun K hK => w_copyStr H d s dT sT ho elem hu hsz g off dLen dCap hd hI b hs ys hy hle hfit (fun W' H' => hK _ _ (h W' H'))
end
end Go.Proofs.YthhbilkmdfdfiaaDoor.O
