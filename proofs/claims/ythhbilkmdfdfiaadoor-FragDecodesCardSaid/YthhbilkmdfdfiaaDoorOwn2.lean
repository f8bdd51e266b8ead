/- append onto a full slice that is no row of one's own; nothing appended; what is restarted. -/
import Derived.Test.YthhbilkmdfdfiaaDoorRd
import Derived.ArgAppend
namespace Go.Proofs.YthhbilkmdfdfiaaDoor.O
open Go.RowKit Go.Proofs.YthhbilkmdfdfiaaDoorW.PrintWords Go.Proofs.YthhbilkmdfdfiaaDoorW.PrintLast Go.Proofs.YthhbilkmdfdfiaaDoorW.PrintMore Go.Proofs.YthhbilkmdfdfiaaDoor.F
set_option linter.unusedVariables false
set_option linter.unusedSimpArgs false
section
variable {P : Program} {o : Oper} {a : Act} {K : Act → World → Prop} {Q : Exit → Act → World → Prop} {w0 W : World} {F : Nat → Option Obj} {L : List Res} {c : Res → List Res} {ops : Array Oper} {rest : List Oper}
/-- onto a full slice: a new row -/
theorem w_appendFull (H : Own w0 F L W) (s x : Operand) (t e : TypeId) (ho : o.op = .call { callee := .builtin .append, args := #[s, x], argTypes := #[t, t] }) (ht : P.underlying t = some (.slice e)) (z : Value) (size bytes : Nat)
    (hinfo : (P.info? e).map (fun i => (i.zero, i.size, i.bytes)) = some (some z, size, bytes)) (hz : z.cells.size = size) (hs0 : 0 < size) (hb0 : 0 < bytes) (b : Addr) (n : Nat) (olds : List Value) (hs : a.eval s = .slice (some b) n n) (hlo : olds.length = n * size) (holds : ∀ j u, olds[j]? = some u → W.cell? (b.add j) = some u)
    (A : Option Addr) (m cc : Nat) (news : List Value) (hx : a.eval x = .slice A m cc) (hm : 0 < m) (hl : news.length = m * size) (hR : Rd W A news) (hbytes : (n + m) * bytes ≤ 140737488355328)
    (h : ∀ v' W', Own w0 F (.row v' e size (n + m) (olds ++ news) :: L) W' → K (a.put o.dst v') W') : o.wp P a W K Q := by
  obtain ⟨i, hi, hzz⟩ := Option.map_eq_some_iff.1 hinfo
  simp only [Prod.mk.injEq] at hzz
  obtain ⟨hz0, hz1, hz2⟩ := hzz
  have hlen : n + m ≤ 140737488355328 := Nat.le_trans (Nat.le_mul_of_pos_right _ hb0) hbytes
  obtain ⟨ad, rfl, hc⟩ := hR (by rw [hl]; exact Nat.mul_pos hm hs0)
  obtain ⟨v1, w1, hrun, h2, hg⟩ := run_append_arg_grows (P := P) W t o.type e i z size bytes ht hi hz0 hz1 hz2 hz hs0 b n n olds hlo holds ad m cc news hl (fun j u hj => hc j u hj) (by omega) (by simp only [maxLen]; omega) hbytes
  unfold Oper.wp execOp
  simp only [ho, resolve, invoke, builtin, Sem.run_bind, Sem.run_pure, Result.andThen_ok, List.map_toArray, List.map_cons, List.map_nil, hs, hx, hrun]
  exact h _ _ (H.cons ⟨hg.os, hg.tape, hg.output, hg.size, fun k hk => hg.block k hk (by simp)⟩ (own_weaken h2 H.size) (fun k hk => own_base h2 k hk))
theorem l_appendFull (hgd : o.guard = none) (H : Own w0 F L W) (s x : Operand) (t e : TypeId) (ho : o.op = .call { callee := .builtin .append, args := #[s, x], argTypes := #[t, t] }) (ht : P.underlying t = some (.slice e)) (z : Value) (size bytes : Nat)
    (hinfo : (P.info? e).map (fun i => (i.zero, i.size, i.bytes)) = some (some z, size, bytes)) (hz : z.cells.size = size) (hs0 : 0 < size) (hb0 : 0 < bytes) (b : Addr) (n : Nat) (olds : List Value) (hs : a.eval s = .slice (some b) n n) (hlo : olds.length = n * size) (holds : ∀ j u, olds[j]? = some u → W.cell? (b.add j) = some u)
    (A : Option Addr) (m cc : Nat) (news : List Value) (hx : a.eval x = .slice A m cc) (hm : 0 < m) (hl : news.length = m * size) (hR : Rd W A news) (hbytes : (n + m) * bytes ≤ 140737488355328)
    (h : ∀ v' W', Own w0 F (.row v' e size (n + m) (olds ++ news) :: L) W' → wpList P ops Q rest (a.put o.dst v') W') : wpList P ops Q (o :: rest) a W :=
  wpList_plain hgd fun K hK => w_appendFull H s x t e ho ht z size bytes hinfo hz hs0 hb0 b n olds hs hlo holds A m cc news hx hm hl hR hbytes (fun v' W' H' => hK _ _ (h v' W' H'))
/-- nothing is appended: the slice as it was -/
theorem w_append0 (s x : Operand) (t e : TypeId) (ho : o.op = .call { callee := .builtin .append, args := #[s, x], argTypes := #[t, t] }) (ht : P.underlying t = some (.slice e)) (hinfo : ((P.info? e).map (·.size)).isSome = true) (b : Addr) (n cap : Nat) (hnc : n ≤ cap) (hs : a.eval s = .slice (some b) n cap) (A : Option Addr) (cc : Nat) (hx : a.eval x = .slice A 0 cc)
    (h : K (a.put o.dst (.slice (some b) n cap)) W) : o.wp P a W K Q := by
  obtain ⟨q, hq⟩ := Option.isSome_iff_exists.1 hinfo
  obtain ⟨i, hi, hq2⟩ := Option.map_eq_some_iff.1 hq
  have hrun : (Builtin.append_ #[t, t] o.type #[.slice (some b) n cap, .slice A 0 cc]).run P W = .ok (.slice (some b) n cap) W := by
    cases A <;> simp [Builtin.append_, run_underlying ht, sizeOf, typeInfo, hi, Builtin.lenOf, Builtin.firstCells, hnc, storeCells, loadCells, loadCellsFrom]
  unfold Oper.wp execOp
  simp only [ho, resolve, invoke, builtin, Sem.run_bind, Sem.run_pure, Result.andThen_ok, List.map_toArray, List.map_cons, List.map_nil, hs, hx, hrun]
  exact h
theorem l_append0 (hgd : o.guard = none) (s x : Operand) (t e : TypeId) (ho : o.op = .call { callee := .builtin .append, args := #[s, x], argTypes := #[t, t] }) (ht : P.underlying t = some (.slice e)) (hinfo : ((P.info? e).map (·.size)).isSome = true) (b : Addr) (n cap : Nat) (hnc : n ≤ cap) (hs : a.eval s = .slice (some b) n cap) (A : Option Addr) (cc : Nat) (hx : a.eval x = .slice A 0 cc)
    (h : wpList P ops Q rest (a.put o.dst (.slice (some b) n cap)) W) : wpList P ops Q (o :: rest) a W :=
  wpList_plain hgd fun K hK => w_append0 s x t e ho ht hinfo b n cap hnc hs A cc hx (hK _ _ h)
theorem In.to {L : List Res} {r : Res} {c : Res → List Res} (h : In L r c) (r' : Res) : In (c r') r' c := by
  induction h with
  | head => exact .head
  | tail h ih => exact .tail ih
theorem splice_take {α : Type} (cur ys : List α) (n : Nat) (h : ys.length ≤ n) (hn : n ≤ cur.length) : (splice cur 0 ys).take n = splice (cur.take n) 0 ys := by
  unfold splice
  simp only [List.take_zero, List.nil_append, Nat.zero_add]
  rw [List.take_append, List.drop_take, List.take_of_length_le h]
/-- copy into the beginning of a row of one's own -/
theorem w_copyRow (H : Own w0 F L W) (d s : Operand) (dT sT : TypeId) (ho : o.op = .call { callee := .builtin .copy, args := #[d, s], argTypes := #[dT, sT] }) (elem : TypeId) (hu : P.underlying dT = some (.slice elem)) (hsz : (P.info? elem).map (·.size) = some 1)
    (A0 : Option Addr) (dLen dCap n cap e : Nat) (hd : a.eval d = .slice A0 dLen dCap) {xs : List Int} (hI : In L (.row (.slice A0 n cap) e 1 n (nums .u8 xs)) c) (h0 : 0 < n) (A : Option Addr) (sLen sCap : Nat) (hs : a.eval s = .slice A sLen sCap) (ys : List Int) (hy : (Kd.int .u8).C W A sLen ys) (hfit : min sLen dLen ≤ n)
    (h : ∀ W', Own w0 F (c (.row (.slice A0 n cap) e 1 n (nums .u8 (splice xs 0 (ys.take (min sLen dLen)))))) W' → K (a.put o.dst (goInt (min sLen dLen : Nat))) W') : o.wp P a W K Q := by
  obtain ⟨g, cap', cur, e1, hnc, hm, hl, ht, H1⟩ := H.row_blk hI h0
  injection e1 with e1 e2 e3
  subst e1 e3
  have hyl : ys.length = sLen := hy.1
  refine w_copy H1 d s dT sT ho elem hu hsz g 0 dLen dCap hd (hI.to _) A sLen sCap hs (nums .u8 (ys.take (min sLen dLen))) (by rw [nums_length, List.length_take]; omega) ?_ ?_ (by omega) ?_
  · intro hp
    obtain ⟨ad, e, hc⟩ := (Rd.of_C hy) (by rw [nums_length]; omega)
    refine ⟨ad, e, fun j u hj => hc j u ?_⟩
    rw [← nums_take] at hj
    have := (List.getElem?_eq_some_iff.1 hj).1
    rw [List.length_take] at this
    rwa [List.getElem?_take_of_lt (by omega)] at hj
  · exact nums_one
  · intro W' H'
    refine h W' ?_
    refine H'.blk_row (hI.to _) hnc hm ?_ ?_
    · rw [← hl]
      have : ∀ (l : List Value) (ys : List Value), ys.length ≤ l.length → (splice l 0 ys).length = l.length := fun l ys h => by unfold splice; simp; omega
      exact this _ _ (by rw [nums_length, List.length_take]; omega)
    · rw [splice_take _ _ _ (by rw [nums_length, List.length_take]; omega) (by omega), ht]
      simp [splice, nums, List.map_take, List.map_drop]
end
end Go.Proofs.YthhbilkmdfdfiaaDoor.O
