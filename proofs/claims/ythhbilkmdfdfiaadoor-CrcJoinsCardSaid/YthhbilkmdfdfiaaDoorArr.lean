/- Arrays of bytes in memory: a block of them; copying into it; reading it as a slice. -/
import Derived.Test.YthhbilkmdfdfiaaDoorF0
import Derived.Laws.CopyOwn
namespace Go.Proofs.YthhbilkmdfdfiaaDoor.F
open Go.RowKit Go.Proofs.YthhbilkmdfdfiaaDoorW.PrintWords Go.Proofs.YthhbilkmdfdfiaaDoorW.PrintLast Go.Proofs.YthhbilkmdfdfiaaDoorW.PrintMore
set_option linter.unusedVariables false
set_option linter.unusedSimpArgs false
def vals (xs : List Int) : List Value := xs.map (Value.int .u8)
/-- block g holds the bytes xs, as an array of type t -/
def Byt (w : World) (g : Nat) (t : TypeId) (xs : List Int) : Prop := w.heap[g]? = some (.cells (vals xs).toArray t (0, 0))
theorem Byt.cell {w : World} {g : Nat} {t : TypeId} {xs : List Int} (h : Byt w g t xs) (i : Nat) : w.cell? ⟨g, i, none⟩ = (xs[i]?).map (Value.int .u8) := by
  rw [blk_cell h i]
  simp [vals]
theorem Byt.below {w w1 : World} {g : Nat} {t : TypeId} {xs : List Int} (h : Byt w g t xs) (hb : Below w.heap.size w w1) : Byt w1 g t xs := blk_below h hb
theorem Byt.lt {w : World} {g : Nat} {t : TypeId} {xs : List Int} (h : Byt w g t xs) : g < w.heap.size := blk_lt h
theorem addr_add (g o j : Nat) : (Addr.mk g o none).add j = ⟨g, o + j, none⟩ := by
  unfold Addr.add
  by_cases h : j = 0
  · subst h; rfl
  · simp [h]
/-- a piece of the block, as a slice reads it -/
theorem Byt.C {w : World} {g : Nat} {t : TypeId} {xs : List Int} (h : Byt w g t xs) (o n : Nat) (hn : o + n ≤ xs.length) (hl : n ≤ 9223372036854775807) : (Kd.int .u8).C w (some ⟨g, o, none⟩) n ((xs.drop o).take n) := by
  have hlen : ((xs.drop o).take n).length = n := by rw [List.length_take, List.length_drop]; omega
  refine ⟨hlen, hl, fun _ => ⟨_, rfl, fun j p hj => ⟨[.int .u8 p], rfl, rfl, fun i u hu => ?_⟩⟩⟩
  have hi0 : i = 0 := by have := (List.getElem?_eq_some_iff.1 hu).1; simpa using this
  subst hi0
  have hjn : j < n := by have := (List.getElem?_eq_some_iff.1 hj).1; omega
  rw [List.getElem?_take_of_lt hjn, List.getElem?_drop] at hj
  simp at hu
  subst hu
  rw [show (Kd.int .u8).sz = 1 from rfl, addr_add, h.cell]
  rw [show o + (j * 1 + 0) = o + j by omega, hj]
  rfl
theorem vals_one {xs : List Int} : ∀ v ∈ vals xs, v.oneCell' = true := by
  intro v hv
  obtain ⟨z, -, rfl⟩ := List.mem_map.1 hv
  rfl
theorem vals_splice (xs ys : List Int) (o : Nat) : splice (vals xs) o (vals ys) = vals (splice xs o ys) := by
  simp [splice, vals, List.map_take, List.map_drop]
/-- copy into the block, one step of a region that draws its order -/
theorem copy_step {P : Program} {ops : Array Oper} {o : Oper} {a : Act} {W : World} {K : Act → World → Prop} {Q : Exit → Act → World → Prop} {E : Prop} (hgd : o.guard = none) (d s : Operand) (dT sT : TypeId)
    (ho : o.op = .call { callee := .builtin .copy, args := #[d, s], argTypes := #[dT, sT] }) (elem : TypeId) (hu : P.underlying dT = some (.slice elem)) (hsz : (P.info? elem).map (·.size) = some 1)
    (g off : Nat) (sp : Option Addr) (dLen dCap sLen sCap : Nat) (hd : a.eval d = .slice (some ⟨g, off, none⟩) dLen dCap) (hs : a.eval s = .slice sp sLen sCap)
    (cur : List Int) (t : TypeId) (hg : Byt W g t cur) (ys : List Int) (hy : Kd.C (Kd.int .u8) W sp sLen ys) (hfit : off + min sLen dLen ≤ cur.length)
    (h : ∀ w', Byt w' g t (splice cur off (ys.take (min sLen dLen))) → Below g W w' → K (a.put o.dst (goInt (min sLen dLen : Nat))) w') :
    if Region.wanted o (yielded ops a.tmps) = true then Oper.wp P o a W K Q else E := by
  have hyl : ys.length = sLen := hy.1
  have hlen : (vals (ys.take (min sLen dLen))).length = min sLen dLen := by simp [vals]; omega
  refine step_copy_splice hgd d s dT sT ho elem hu hsz (some ⟨g, off, none⟩) sp dLen dCap sLen sCap hd hs g off (vals cur) t hg (vals (ys.take (min sLen dLen))) hlen ?_ (by rw [hlen]; simpa [vals] using hfit) vals_one g W (Below.refl g W) (Nat.le_refl g) ?_
  · intro hp
    rw [hlen] at hp
    obtain ⟨ad, e, hc⟩ := hy.2.2 (by omega)
    refine ⟨rfl, ad, e, fun j v hj => ?_⟩
    simp only [vals, List.getElem?_map, Option.map_eq_some_iff] at hj
    obtain ⟨z, hz, rfl⟩ := hj
    have hjl : j < min sLen dLen := by have := (List.getElem?_eq_some_iff.1 hz).1; simp at this; omega
    rw [List.getElem?_take_of_lt hjl] at hz
    obtain ⟨c, hs', hr, hcell⟩ := hc j z hz
    have hr' : c = [.int .u8 z] := hr
    subst hr'
    have := hcell 0 _ rfl
    rw [show (Kd.int .u8).sz = 1 from rfl] at this
    simpa using this
  · intro w' h1 h2
    have e : (splice (vals cur) off (vals (ys.take (min sLen dLen)))) = vals (splice cur off (ys.take (min sLen dLen))) := vals_splice ..
    have h1' : w'.heap[g]? = some (.cells (splice (vals cur) off (vals (ys.take (min sLen dLen)))).toArray t (0, 0)) := h1
    rw [e] at h1'
    have := h w' h1' h2
    rw [hlen]
    exact this
/-- copy into the block, in a plain region -/
theorem copy_plain {P : Program} {ops : Array Oper} {rest : List Oper} {o : Oper} {a : Act} {W : World} {Q : Exit → Act → World → Prop} (hgd : o.guard = none) (d s : Operand) (dT sT : TypeId)
    (ho : o.op = .call { callee := .builtin .copy, args := #[d, s], argTypes := #[dT, sT] }) (elem : TypeId) (hu : P.underlying dT = some (.slice elem)) (hsz : (P.info? elem).map (·.size) = some 1)
    (g off : Nat) (sp : Option Addr) (dLen dCap sLen sCap : Nat) (hd : a.eval d = .slice (some ⟨g, off, none⟩) dLen dCap) (hs : a.eval s = .slice sp sLen sCap)
    (cur : List Int) (t : TypeId) (hg : Byt W g t cur) (ys : List Int) (hy : Kd.C (Kd.int .u8) W sp sLen ys) (hfit : off + min sLen dLen ≤ cur.length)
    (h : ∀ w', Byt w' g t (splice cur off (ys.take (min sLen dLen))) → Below g W w' → wpList P ops Q rest (a.put o.dst (goInt (min sLen dLen : Nat))) w') :
    wpList P ops Q (o :: rest) a W := by
  have hyl : ys.length = sLen := hy.1
  have hlen : (vals (ys.take (min sLen dLen))).length = min sLen dLen := by simp [vals]; omega
  refine wpList_copy_splice hgd d s dT sT ho elem hu hsz (some ⟨g, off, none⟩) sp dLen dCap sLen sCap hd hs g off (vals cur) t hg (vals (ys.take (min sLen dLen))) hlen ?_ (by rw [hlen]; simpa [vals] using hfit) vals_one g W (Below.refl g W) (Nat.le_refl g) ?_
  · intro hp
    rw [hlen] at hp
    obtain ⟨ad, e, hc⟩ := hy.2.2 (by omega)
    refine ⟨rfl, ad, e, fun j v hj => ?_⟩
    simp only [vals, List.getElem?_map, Option.map_eq_some_iff] at hj
    obtain ⟨z, hz, rfl⟩ := hj
    have hjl : j < min sLen dLen := by have := (List.getElem?_eq_some_iff.1 hz).1; simp at this; omega
    rw [List.getElem?_take_of_lt hjl] at hz
    obtain ⟨c, hs', hr, hcell⟩ := hc j z hz
    have hr' : c = [.int .u8 z] := hr
    subst hr'
    have := hcell 0 _ rfl
    rw [show (Kd.int .u8).sz = 1 from rfl] at this
    simpa using this
  · intro w' h1 h2
    have e : (splice (vals cur) off (vals (ys.take (min sLen dLen)))) = vals (splice cur off (ys.take (min sLen dLen))) := vals_splice ..
    have h1' : w'.heap[g]? = some (.cells (splice (vals cur) off (vals (ys.take (min sLen dLen)))).toArray t (0, 0)) := h1
    rw [e] at h1'
    have := h w' h1' h2
    rw [hlen]
    exact this
theorem Byt.set {w : World} {g : Nat} {t : TypeId} {xs : List Int} (h : Byt w g t xs) (i : Nat) (z : Int) : Byt (w.setCell ⟨g, i, none⟩ (.int .u8 z)) g t (xs.set i z) := by
  refine blk_put h i _ ?_
  simp [vals, List.map_set]
theorem exec_load_row {P : Program} {o : Oper} {ρ : Operand → Value} {w : World} (ty : TypeId) (x : Operand) (ho : o.op = .load ty x) (g : Nat) (hx : ρ x = .pointer (some ⟨g, 0, none⟩)) (t : TypeId) (cs : Array Value) (fr : Nat × Nat) (d : TypeDesc) (hg : w.heap[g]? = some (.cells cs t fr))
    (hu : P.underlying ty = some d) (hd : (match d with | .struct _ | .array _ _ => true | _ => false) = true) (hi : (P.info? ty).map (·.size) = some cs.size) : (execOp ρ o).run P w = .ok (.value (.agg cs)) w := by
  unfold execOp
  simp only [ho, hx, Instr.loadAt, Instr.sureAddr, Sem.run_bind, Sem.run_pure, Result.andThen_ok, run_loadVar_row w g t ty cs fr d hg hu hd hi]
/-- the first places laid anew, one by one -/
def fillB (out : List Int) : Nat → List Int → List Int
  | 0, zs => zs
  | i + 1, zs => (fillB out i zs).set i (out.getD i 0)
theorem fillB_len (out zs : List Int) (i : Nat) : (fillB out i zs).length = zs.length := by
  induction i with
  | zero => rfl
  | succ i ih => show ((fillB out i zs).set i (out.getD i 0)).length = _; rw [List.length_set, ih]
theorem fillB_get (out zs : List Int) (h : out.length = zs.length) (i j : Nat) (hi : i ≤ out.length) : (fillB out i zs)[j]? = if j < i then out[j]? else zs[j]? := by
  induction i with
  | zero => simp [fillB]
  | succ i ih =>
    show ((fillB out i zs).set i (out.getD i 0))[j]? = _
    rw [List.getElem?_set, fillB_len, ih (by omega)]
    by_cases hj : i = j
    · subst hj
      rw [if_pos rfl, if_pos (by omega), if_pos (by omega), List.getD_eq_getElem?_getD, List.getElem?_eq_getElem (by omega)]
      rfl
    · rw [if_neg hj]
      by_cases h2 : j < i
      · rw [if_pos h2, if_pos (by omega)]
      · rw [if_neg h2, if_neg (by omega)]
theorem fillB_all (out zs : List Int) (h : out.length = zs.length) : fillB out out.length zs = out := by
  apply List.ext_getElem?
  intro j
  rw [fillB_get out zs h _ _ (Nat.le_refl _)]
  by_cases hj : j < out.length
  · rw [if_pos hj]
  · rw [if_neg hj, List.getElem?_eq_none (by omega), List.getElem?_eq_none (by omega)]
end Go.Proofs.YthhbilkmdfdfiaaDoor.F
