/- Texts of mine put together: ImgR, ImgE, ImgL, ImgMore, ScanP, ClashM, In, In2, ImgAdd, Each, BodyP. -/
import Derived.Test.YtaekpfhgdnfciaaDoorPkTearTells10
import Derived.Test.YtaekpfhgdnfciaaDoorPkTearTells12
import Derived.Test.YtaekpfhgdnfciaaDoorPkTearTells7
import Derived.Test.YtaekpfhgdnfciaaDoorPkTearTells9
import Derived.Test.YtaekpfhgdnfciaaDoorPkTearTells4
import Derived.RangeFuncOwn
import Derived.RangeFuncLeaves
import Derived.RangeFuncCalls
import Derived.OwnWalkIn
import Derived.TacticsInMore
import Derived.LoopNIn
import Derived.LoopIn
import Derived.Shelf.Abstract
section
/- The reference's Add and Lay: plain. -/
set_option linter.unusedVariables false
set_option linter.unusedSimpArgs false
namespace Go.Proofs.YtaekpfhgdnfciaaDoor.Img
open Go.RowKit Go.Proofs.YtaekpfhgdnfciaaDoor.F Go.Proofs.YtaekpfhgdnfciaaDoor.F.Nums Go.Proofs.YtaekpfhgdnfciaaDoor.O Go.Proofs.YtaekpfhgdnfciaaDoorW.PrintWords Go.Proofs.YtaekpfhgdnfciaaDoorW.PrintLast Go.Proofs.YtaekpfhgdnfciaaDoorW.PrintMore Go.Proofs.YtaekpfhgdnfciaaDoor.Plain
theorem rnear_eq (a : Int) : strandlineref07_Near.f a = some (cl a) := by
 unfold strandlineref07_Near.f cl
 by_cases h1 : a < 0
 ·rw [if_pos h1,if_pos h1]
 ·by_cases h2 : 832 < a
  ·rw [if_neg h1,if_neg h1,if_pos h2,if_pos h2]
  ·rw [if_neg h1,if_neg h1,if_neg (by omega),if_neg h2]
theorem rleft_l (d : Nat) : ∀ (k : Nat) (at_ n : Int),0 ≤ at_ → at_ ≤ 832 → 0 ≤ n → n ≤ at_ → (832 - at_ : Int) = d → d < k →
  strandlineref07_Left.l0 k at_ n = some (n + if at_ = 832 then 0 else if n = 0 then 208 - at_ % 208 else (208 - at_ % 208) % 208) := by
 induction d with
 |zero =>
  intro k at_ n h0 h1 h2 h3 hd hk
  obtain ⟨k,rfl⟩ : ∃ m,k = m + 1 := ⟨k - 1,by omega⟩
  simp only [strandlineref07_Left.l0]
  rw [if_neg (by omega),if_pos (show at_ = 832 by omega)]
  simp
 |succ d ih =>
  intro k at_ n h0 h1 h2 h3 hd hk
  obtain ⟨k,rfl⟩ : ∃ m,k = m + 1 := ⟨k - 1,by omega⟩
  simp only [strandlineref07_Left.l0]
  rw [if_pos (by omega),tm h0,w64 (n := at_ + 1) (by omega) (by omega),w64 (n := n + 1) (by omega) (by omega)]
  have hr := ih k (at_ + 1) (n + 1) (by omega) (by omega) (by omega) (by omega) (by omega) (by omega)
  rw [if_neg (show ¬ n + 1 = 0 by omega)] at hr
  rw [if_neg (show ¬ at_ = 832 by omega),hr]
  by_cases hn : n = 0
  ·rw [if_pos hn,if_pos hn]
   congr 1
   by_cases h8 : at_ + 1 = 832
   ·rw [if_pos h8];omega
   ·rw [if_neg h8];omega
  ·rw [if_neg hn,if_neg hn]
   by_cases hm : at_ % 208 = 0
   ·rw [if_pos hm]
    congr 1
    omega
   ·rw [if_neg hm]
    congr 1
    by_cases h8 : at_ + 1 = 832
    ·rw [if_pos h8];omega
    ·rw [if_neg h8];omega
theorem rleft_eq (k : Nat) (hk : 832 < k) (a : Int) : strandlineref07_Left.f k a = some (lf (cl a)) := by
 have h0 := cl_lo a
 have h1 := cl_hi a
 unfold strandlineref07_Left.f
 rw [rnear_eq]
 simp only [Option.bind_some]
 rw [rleft_l (832 - cl a).toNat k (cl a) 0 h0 h1 (by omega) h0 (by omega) (by omega)]
 unfold lf
 by_cases h : cl a = 832
 ·rw [if_pos h,if_pos h];rfl
 ·rw [if_neg h,if_neg h,if_pos rfl];simp
theorem rwhere_l (a : Int) (d : Nat) : ∀ (k : Nat) (i : Int),0 ≤ i → i ≤ cl a → (cl a - i : Int) = d → d < k →
  strandlineref07_Where.l0 k a (i / 52) (i % 52) i = some (cl a / 52,cl a % 52) := by
 have h9 := cl_hi a
 induction d with
 |zero =>
  intro k i h0 h1 hd hk
  obtain ⟨k,rfl⟩ : ∃ m,k = m + 1 := ⟨k - 1,by omega⟩
  simp only [strandlineref07_Where.l0]
  rw [rnear_eq]
  simp only [Option.bind_some]
  rw [if_neg (by omega)]
  obtain rfl : i = cl a := by omega
  rfl
 |succ d ih =>
  intro k i h0 h1 hd hk
  obtain ⟨k,rfl⟩ : ∃ m,k = m + 1 := ⟨k - 1,by omega⟩
  simp only [strandlineref07_Where.l0]
  rw [rnear_eq]
  simp only [Option.bind_some]
  rw [if_pos (by omega),w64 (n := i % 52 + 1) (by omega) (by omega),w64 (n := i / 52 + 1) (by omega) (by omega),w64 (n := i + 1) (by omega) (by omega)]
  have hr := ih k (i + 1) (by omega) (by omega) (by omega) (by omega)
  by_cases hm : i % 52 + 1 = 52
  ·rw [if_pos hm,show i / 52 + 1 = (i + 1) / 52 by omega,show (0 : Int) = (i + 1) % 52 by omega]
   exact hr
  ·rw [if_neg hm,show i % 52 + 1 = (i + 1) % 52 by omega,show i / 52 = (i + 1) / 52 by omega]
   exact hr
theorem rwhere_eq (k : Nat) (hk : 832 < k) (a : Int) : strandlineref07_Where.f k a = some (cl a / 52,cl a % 52) := by
 have h0 := cl_lo a
 have h1 := cl_hi a
 unfold strandlineref07_Where.f
 exact rwhere_l a (cl a).toNat k 0 (by omega) (by omega) (by omega) (by omega)
theorem rbegin_l (d : Nat) : ∀ (k : Nat) (at_ off : Int),0 ≤ at_ → at_ ≤ 832 → 41 < off → off ≤ 52 → (at_ + (52 - off)) ≤ 832 → (52 - off : Int) = d → d < k →
  strandlineref07_Begin.l0 k at_ off = some (at_ + (52 - off)) := by
 induction d with
 |zero =>
  intro k at_ off h0 h1 h2 h3 h4 hd hk
  obtain ⟨k,rfl⟩ : ∃ m,k = m + 1 := ⟨k - 1,by omega⟩
  simp only [strandlineref07_Begin.l0]
  rw [show at_ + (52 - off) = at_ by omega,if_neg (show ¬ off < 52 by omega)]
  simp
 |succ d ih =>
  intro k at_ off h0 h1 h2 h3 h4 hd hk
  obtain ⟨k,rfl⟩ : ∃ m,k = m + 1 := ⟨k - 1,by omega⟩
  simp only [strandlineref07_Begin.l0]
  rw [if_pos (by omega),if_pos (by omega),if_pos (by omega),w64 (n := at_ + 1) (by omega) (by omega),w64 (n := off + 1) (by omega) (by omega)]
  rw [ih k (at_ + 1) (off + 1) (by omega) (by omega) (by omega) (by omega) (by omega) (by omega) (by omega)]
  congr 1
  omega
theorem rbegin_eq (k : Nat) (hk : 832 < k) (a : Int) : strandlineref07_Begin.f k a = some (bg (cl a)) := by
 have h0 := cl_lo a
 have h1 := cl_hi a
 unfold strandlineref07_Begin.f
 rw [rnear_eq]
 simp only [Option.bind_some]
 rw [rwhere_eq k hk,cl_cl]
 simp only [Option.bind_some]
 unfold bg
 by_cases h : 41 < cl a % 52
 ·rw [if_pos h,rbegin_l (52 - cl a % 52).toNat k (cl a) (cl a % 52) h0 h1 h (by omega) (by omega) (by omega) (by omega)]
 ·rw [if_neg h]
  obtain ⟨k,rfl⟩ : ∃ m,k = m + 1 := ⟨k - 1,by omega⟩
  simp only [strandlineref07_Begin.l0]
  rw [if_neg (show ¬ cl a % 52 > 41 by omega)]
  simp
def raw (ps : List (Int × Int × Int)) : List S94 := ps.map fun t => ⟨t.1,3,t.2.1,t.2.2⟩
theorem rcut_l (m : Nat) : ∀ (k : Nat) (at_ n from_ : Int) (out : List S94),2 * m + 1000 < k → 0 ≤ from_ → from_ ≤ n → from_ ≤ cl at_ → n ≤ 9223372036854775807 → out.length + m < 1000 → 832 - bg (cl at_) ≤ 208 * m → (out = [] ∨ from_ < n) →
  strandlineref14_Cut.l0 k at_ n out from_ = (match cutS m at_ n from_ with|none => some ([],0,false)|some p => strandlineref14_Cut.j1 1 p.2 n (out ++ raw p.1) n false) := by
 induction m with
 |zero =>
  intro k at_ n from_ out hk h0 hn hf hn2 ho hm hor
  have h1 := cl_hi at_
  have hb1 := bg_hi h1
  obtain ⟨k,rfl⟩ : ∃ j,k = j + 2 := ⟨k - 2,by omega⟩
  have e : strandlineref14_Cut.l0 (k + 2) at_ n out from_ = strandlineref14_Cut.j1 (k + 1) at_ n out from_ true := by
   simp only [strandlineref14_Cut.l0]
   by_cases hl : (out.length : Int) = 0
   ·rw [if_pos hl]
   ·rw [if_neg hl,show decide (from_ < n) = true by rcases hor with rfl|h <;> simp_all]
  rw [e]
  simp only [strandlineref14_Cut.j1,if_true]
  rw [rbegin_eq k (by omega)]
  simp only [Option.bind_some]
  rw [if_pos (by omega)]
  rfl
 |succ m ih =>
  intro k at_ n from_ out hk h0 hn hf hn2 ho hm hor
  have c0 := cl_lo at_
  have c1 := cl_hi at_
  have hb0 := bg_lo c0
  have hb1 := bg_hi c1
  have hbm := bg_mod (cl at_)
  have hbg := bg_ge (cl at_)
  obtain ⟨k,rfl⟩ : ∃ j,k = j + 2 := ⟨k - 2,by omega⟩
  have e : strandlineref14_Cut.l0 (k + 2) at_ n out from_ = strandlineref14_Cut.j1 (k + 1) at_ n out from_ true := by
   simp only [strandlineref14_Cut.l0]
   by_cases hl : (out.length : Int) = 0
   ·rw [if_pos hl]
   ·rw [if_neg hl,show decide (from_ < n) = true by rcases hor with rfl|h <;> simp_all]
  rw [e]
  simp only [strandlineref14_Cut.j1,if_true]
  rw [rbegin_eq k (by omega)]
  simp only [Option.bind_some]
  unfold cutS
  by_cases h8 : bg (cl at_) = 832
  ·rw [if_pos (by omega),if_pos h8]
  ·obtain ⟨l1,l2,l3,l4⟩ := lf_ge hb0 hb1 hbm h8
   rw [if_neg (by omega),if_neg h8,rleft_eq k (by omega),cl_in hb0 hb1]
   simp only [Option.bind_some]
   rw [w64 (n := lf (bg (cl at_)) - 11) (by omega) (by omega),w64 (n := n - from_) (by omega) (by omega),w64 (n := bg (cl at_) + 11) (by omega) (by omega)]
   by_cases hc : n ≤ from_ + (lf (bg (cl at_)) - 11)
   ·rw [if_neg (by omega),if_pos (by omega),if_pos hc,w64 (n := from_ + (n - from_)) (by omega) (by omega),w64 (n := bg (cl at_) + 11 + (n - from_)) (by omega) (by omega),show from_ + (n - from_) = n by omega]
    obtain ⟨k,rfl⟩ : ∃ j,k = j + 2 := ⟨k - 2,by omega⟩
    simp only [strandlineref14_Cut.l0]
    rw [if_neg (by simp;omega),show decide (n < n) = false by simp]
    simp only [strandlineref14_Cut.j1]
    rfl
   ·rw [if_pos (by omega),if_pos (by omega),if_neg hc,w64 (n := from_ + (lf (bg (cl at_)) - 11)) (by omega) (by omega),w64 (n := bg (cl at_) + 11 + (lf (bg (cl at_)) - 11)) (by omega) (by omega),show bg (cl at_) + 11 + (lf (bg (cl at_)) - 11) = bg (cl at_) + lf (bg (cl at_)) by omega]
    rw [ih k _ n _ _ (by omega) (by omega) (by omega) (by rw [cl_in (by omega) l3];omega) hn2 (by simp;omega) (by rw [cl_in (by omega) l3,bg_block l4];omega) (.inr (by omega))]
    cases hs : cutS m (bg (cl at_) + lf (bg (cl at_))) n (from_ + (lf (bg (cl at_)) - 11)) with
    |none => rfl
    |some p =>
     simp only [Option.map_some,raw,List.map_cons]
     rw [List.append_assoc]
     rfl
theorem rfix (ps : List (Int × Int × Int)) (e n : Int) (h0 : ps ≠ []) (h4 : ps.length ≤ 4) : strandlineref14_Cut.j1 1 e n (raw ps) n false = some (mkP true ps,e,true) := by
 match ps,h0,h4 with
 |[t],_,_ => simp [strandlineref14_Cut.j1,raw,rd_T94,mkP,pc,wrap64]
 |[t,u],_,_ => simp [strandlineref14_Cut.j1,raw,rd_T94,mkP,pc,wrap64]
 |[t,u,v],_,_ => simp [strandlineref14_Cut.j1,raw,rd_T94,mkP,pc,wrap64]
 |[t,u,v,x],_,_ => simp [strandlineref14_Cut.j1,raw,rd_T94,mkP,pc,wrap64]
theorem rcut_eq (k : Nat) (hk : 1100 < k) (at_ n : Int) (hn2 : n ≤ 9223372036854775807) : strandlineref14_Cut.f k at_ n = some (cutP at_ n) := by
 have c0 := cl_lo at_
 have hb0 := bg_lo c0
 unfold strandlineref14_Cut.f cutP
 by_cases h1 : n < 0
 ·rw [if_pos h1,if_pos (.inl h1)]
 ·rw [if_neg h1,rcut_l 4 k at_ n 0 [] (by omega) (by omega) (by omega) c0 hn2 (by simp) (by omega) (.inl rfl)]
  cases hs : cutS 4 at_ n 0 with
  |none =>
   simp only [cutR]
   split <;> rfl
  |some p =>
   have hb := cutS_bound c0 (by omega) hs
   rw [if_neg (by omega)]
   simp only [cutR,List.nil_append]
   exact rfix p.1 p.2 n (cutS_ne hs) (cutS_len hs)
theorem rbytes_up (kind ep : Int) (data r : List Int) (k0 : Nat) (h : strandlineref13_Bytes.f k0 kind ep data = some r) : ∀ d,strandlineref13_Bytes.f (k0 + d) kind ep data = some r := by
 intro d
 induction d with
 |zero => exact h
 |succ d ih => exact strandlineref13_Bytes.mono kind ep data (k0 + d) r ih
theorem rbytes_any {ep : Int} {data : List Int} {p : Pc} (hp : PcOk data p) (hd : Bytes data) (he : 0 ≤ ep ∧ ep ≤ 4294967295) (k : Nat) (hk : 2200 ≤ k) :
  strandlineref13_Bytes.f k p.f1 ep ((data.take p.f3.toNat).drop p.f2.toNat) = some (pcE ep data p) := by
 obtain ⟨h1,h2,h3,h4,h5,h6,h7,h8⟩ := hp
 have hl : ((data.take p.f3.toNat).drop p.f2.toNat).length = (p.f3 - p.f2).toNat := by rw [List.length_drop,List.length_take];omega
 have hr : rightF p.f1 ((data.take p.f3.toNat).drop p.f2.toNat).length = true := by
  unfold rightF
  rw [hl,decide_eq_true h3.1,decide_eq_true h3.2,decide_eq_true (show (p.f3 - p.f2).toNat ≤ 197 by omega)]
  rfl
 have h := rbytes_eq p.f1 ep _ hr he (bytes_drop (bytes_take hd _) _)
 have hb := bodyL_len p.f1 ep ((data.take p.f3.toNat).drop p.f2.toNat)
 obtain ⟨d,hd2⟩ : ∃ d,k = 100 + 10 * (bodyL p.f1 ep ((data.take p.f3.toNat).drop p.f2.toNat)).length + 1 + d := ⟨k - (100 + 10 * (bodyL p.f1 ep ((data.take p.f3.toNat).drop p.f2.toNat)).length + 1),by omega⟩
 rw [hd2]
 exact rbytes_up _ _ _ _ _ h d
theorem splice_step {cur E : List Int} {o q : Nat} (hq : q < E.length) (hf : o + E.length ≤ cur.length) : (splice cur o (E.take q)).set (o + q) (E.getD q 0) = splice cur o (E.take (q + 1)) := by
 have e1 : E.take (q + 1) = E.take q ++ [E.getD q 0] := by rw [List.take_add_one,List.getElem?_eq_getElem hq,List.getD_eq_getElem?_getD,List.getElem?_eq_getElem hq];rfl
 have l1 : (E.take q).length = q := by rw [List.length_take];omega
 unfold splice
 rw [e1,l1,List.length_append,l1,List.length_singleton]
 have l0 : (cur.take o).length = o := by rw [List.length_take];omega
 rw [List.set_append_right _ _ (by omega),l0,Nat.add_sub_cancel_left,List.set_append_right _ _ (by omega),l1,Nat.sub_self]
 have e2 : cur.drop (o + q) = cur.getD (o + q) 0 :: cur.drop (o + (q + 1)) := by
  rw [List.drop_eq_getElem_cons (by omega),List.getD_eq_getElem?_getD,List.getElem?_eq_getElem (by omega)]
  rfl
 rw [e2,List.set_cons_zero]
 simp
theorem radd_l2 (x0 : Int) (data : List Int) (ps : List Pc) (en : Int) (E cur : List Int) (i o : Nat) (hi : i < ps.length) (hn : ps.length < 1000) (ho : (rd_T94 ps i).f0 = (o : Int)) (hf : o + E.length ≤ cur.length) (hc : cur.length = 832) (d : Nat) :
  ∀ (k q : Nat),q + d = E.length → strandlineref17_Add.l2 (k + d + 1) x0 data ps en (splice cur o (E.take q)) i E q = strandlineref17_Add.l1 k x0 data ps en (splice cur o E) ((i + 1 : Nat) : Int) := by
 induction d with
 |zero =>
  intro k q hq
  simp only [Nat.add_zero,strandlineref17_Add.l2]
  rw [if_neg (by omega),List.take_of_length_le (by omega),w64 (by omega) (by omega)]
  rfl
 |succ d ih =>
  intro k q hq
  have hs := splice_step (cur := cur) (E := E) (o := o) (q := q) (by omega) hf
  have hlen : (splice cur o (E.take q)).length = 832 := by
   unfold splice
   simp
   omega
  rw [show k + (d + 1) + 1 = (k + d + 1) + 1 by omega]
  have ihq := ih k (q + 1) (by omega)
  generalize k + d + 1 = m at ihq ⊢
  simp only [strandlineref17_Add.l2]
  rw [ho,w64 (n := (o : Int) + (q : Int)) (by omega) (by omega),w64 (n := (q : Int) + 1) (by omega) (by omega)]
  rw [if_pos (by omega),if_pos (by omega),if_pos (by omega),if_pos (by omega),if_pos (by omega),if_pos (by rw [hlen];omega)]
  have e1 : ((o : Int) + (q : Int)).toNat = o + q := by omega
  have e2 : rd E (q : Int) = E.getD q 0 := by unfold rd;rw [Int.toNat_natCast]
  rw [e1,e2,hs]
  exact ihq
set_option maxRecDepth 100000 in
theorem radd_l1 (x0 : Int) (data : List Int) (ps : List Pc) (en : Int) (hx : 0 ≤ x0) (hd : Bytes data) (hps : ∀ p ∈ ps,PcOk data p) (hn : ps.length < 1000) (d : Nat) :
  ∀ (k i : Nat) (cur : List Int),i + d = ps.length → cur.length = 832 → 2300 + 300 * d ≤ k → strandlineref17_Add.l1 k x0 data ps en cur i = some (layA (x0 % 4294967296) data (ps.drop i) cur,en,true) := by
 have hep : (Int.tmod x0 4294967296) % 4294967296 = x0 % 4294967296 := by rw [tm hx];omega
 induction d with
 |zero =>
  intro k i cur hi hc hk
  obtain ⟨k,rfl⟩ : ∃ j,k = j + 1 := ⟨k - 1,by omega⟩
  simp only [strandlineref17_Add.l1]
  rw [if_neg (by omega),List.drop_of_length_le (by omega)]
  rfl
 |succ d ih =>
  intro k i cur hi hc hk
  have hlt : i < ps.length := by omega
  have hp := hps _ (List.getElem_mem hlt)
  rw [rd_at ps i hlt] at hp
  have hE := pcE_len (ep := x0 % 4294967296) hp
  have hb := rbytes_any (ep := x0 % 4294967296) hp hd (by omega)
  have hdr : ps.drop i = rd_T94 ps i :: ps.drop (i + 1) := by rw [List.drop_eq_getElem_cons hlt,rd_at ps i hlt]
  have hll := layP_len (ep := x0 % 4294967296) (cur := cur) hp hc
  rw [hdr]
  obtain ⟨h1,h2,h3,h4,h5,h6,h7,h8⟩ := hp
  obtain ⟨o,ho⟩ := Int.eq_ofNat_of_zero_le h1
  obtain ⟨k,rfl⟩ : ∃ j,k = j + (pcE (x0 % 4294967296) data (rd_T94 ps i)).length + 2 := ⟨k - (pcE (x0 % 4294967296) data (rd_T94 ps i)).length - 2,by omega⟩
  have hl2 := radd_l2 x0 data ps en (pcE (x0 % 4294967296) data (rd_T94 ps i)) cur i o hlt hn ho (by omega) hc _ k 0 (Nat.zero_add _)
  rw [show splice cur o ((pcE (x0 % 4294967296) data (rd_T94 ps i)).take 0) = cur by simp [splice]] at hl2
  have hlp : splice cur o (pcE (x0 % 4294967296) data (rd_T94 ps i)) = layP (x0 % 4294967296) data cur (rd_T94 ps i) := by unfold layP;rw [ho,Int.toNat_natCast]
  rw [hlp] at hl2
  rw [show k + (pcE (x0 % 4294967296) data (rd_T94 ps i)).length + 2 = (k + (pcE (x0 % 4294967296) data (rd_T94 ps i)).length + 1) + 1 by omega]
  have hkk : 2200 ≤ k + (pcE (x0 % 4294967296) data (rd_T94 ps i)).length + 1 := by omega
  generalize k + (pcE (x0 % 4294967296) data (rd_T94 ps i)).length + 1 = m at hl2 hkk ⊢
  simp only [strandlineref17_Add.l1]
  rw [if_pos (by omega),if_pos (by omega),if_pos h4,if_pos h5,if_pos h6,hep,hb _ hkk,Option.bind_some]
  rw [show ((0 : Nat) : Int) = 0 from rfl] at hl2
  rw [hl2]
  exact ih k (i + 1) _ (by omega) hll (by omega)
theorem radd_l0 (x0 : Int) (body data : List Int) (ps : List Pc) (en : Int) (hb : body.length ≤ 9000000000000) (d : Nat) :
  ∀ (k q : Nat),q + d = min 832 body.length → strandlineref17_Add.l0 (k + d + 1) x0 body data ps en (body.take q ++ zs (832 - q)) q = strandlineref17_Add.j1 k x0 data ps en (base body) := by
 induction d with
 |zero =>
  intro k q hq
  have hbase : body.take q ++ zs (832 - q) = base body := by
   unfold base
   by_cases h : body.length ≤ 832
   ·rw [show q = body.length by omega,List.take_of_length_le (l := body) (i := 832) h,List.take_of_length_le (Nat.le_refl _)]
   ·rw [show q = 832 by omega,show 832 - body.length = 0 by omega,Nat.sub_self]
  simp only [Nat.add_zero,strandlineref17_Add.l0]
  rw [hbase]
  by_cases h : q < 832
  ·rw [if_pos (by omega),if_neg (by omega)]
  ·rw [if_neg (by omega)]
 |succ d ih =>
  intro k q hq
  have hlt : q < body.length := by omega
  have hlen : (body.take q ++ zs (832 - q)).length = 832 := by rw [List.length_append,List.length_take];simp [zs];omega
  have hset : (body.take q ++ zs (832 - q)).set q (body.getD q 0) = body.take (q + 1) ++ zs (832 - (q + 1)) := by
   have h1 : (body.take q).length = q := by rw [List.length_take];omega
   have h2 : body.take (q + 1) = body.take q ++ [body.getD q 0] := by rw [List.take_add_one,List.getElem?_eq_getElem hlt,List.getD_eq_getElem?_getD,List.getElem?_eq_getElem hlt];rfl
   rw [h2,List.set_append_right _ _ (by omega),h1,Nat.sub_self,show 832 - q = (832 - (q + 1)) + 1 by omega]
   simp [zs,List.replicate_succ]
  rw [show k + (d + 1) + 1 = (k + d + 1) + 1 by omega]
  have ihq := ih k (q + 1) (by omega)
  generalize k + d + 1 = m at ihq ⊢
  simp only [strandlineref17_Add.l0]
  rw [if_pos (by omega),if_pos (by omega),if_pos (by omega),if_pos (by rw [hlen];omega),w64 (by omega) (by omega),Int.toNat_natCast,show rd body (q : Int) = body.getD q 0 by unfold rd;rw [Int.toNat_natCast],hset]
  exact ihq
/-- what the reference's Add answers -/
def addR (e64 : Int) (body : List Int) (at_ : Int) (data : List Int) : List Int × Int × Bool := if (cutP at_ (data.length : Int)).2.2 = true then (addB e64 body at_ data,(cutP at_ (data.length : Int)).2.1,true) else ([],0,false)
theorem radd_eq (k : Nat) (hk : 6000 ≤ k) (e64 : Int) (body : List Int) (at_ : Int) (data : List Int) (he : 0 ≤ e64) (hd : Bytes data) (hb : body.length ≤ 9000000000000) (hdl : data.length ≤ 140737488355328) : strandlineref17_Add.f k e64 body at_ data = some (addR e64 body at_ data) := by
 unfold strandlineref17_Add.f addR
 rw [rcut_eq k (by omega) at_ _ (by omega),Option.bind_some]
 by_cases h : (cutP at_ (data.length : Int)).2.2 = true
 ·rw [if_pos h,if_pos h,if_pos (by decide)]
  obtain ⟨k,rfl⟩ : ∃ j,k = j + 1 + min 832 body.length + 1 := ⟨k - min 832 body.length - 2,by omega⟩
  have h0 := radd_l0 e64 body data (cutP at_ (data.length : Int)).1 (cutP at_ (data.length : Int)).2.1 hb (min 832 body.length) (k + 1) 0 (by omega)
  rw [List.take_zero,List.nil_append,show zs (832 - 0) = List.replicate 832 (0 : Int) from rfl] at h0
  rw [show ((0 : Nat) : Int) = 0 from rfl] at h0
  rw [h0]
  simp only [strandlineref17_Add.j1]
  have hl := cutP_len at_ (data.length : Int)
  have h1 := radd_l1 e64 data (cutP at_ (data.length : Int)).1 (cutP at_ (data.length : Int)).2.1 he hd (cutP_pcs at_ data) (by omega) (cutP at_ (data.length : Int)).1.length k 0 (base body) (Nat.zero_add _) (base_len body) (by omega)
  rw [show ((0 : Nat) : Int) = 0 from rfl] at h1
  rw [h1]
  rfl
 ·rw [if_neg h,if_neg h]
end Go.Proofs.YtaekpfhgdnfciaaDoor.Img
end

section
/- Where a record's end lies: plain. -/
set_option linter.unusedVariables false
set_option linter.unusedSimpArgs false
namespace Go.Proofs.YtaekpfhgdnfciaaDoor.Img
open Go.RowKit Go.Proofs.YtaekpfhgdnfciaaDoor.F Go.Proofs.YtaekpfhgdnfciaaDoor.F.Nums Go.Proofs.YtaekpfhgdnfciaaDoor.O Go.Proofs.YtaekpfhgdnfciaaDoorW.PrintWords Go.Proofs.YtaekpfhgdnfciaaDoorW.PrintLast Go.Proofs.YtaekpfhgdnfciaaDoorW.PrintMore Go.Proofs.YtaekpfhgdnfciaaDoor.Plain
theorem cutS_low {m : Nat} : ∀ {at_ n from_ : Int} {p : List (Int × Int × Int) × Int},from_ ≤ n → cutS m at_ n from_ = some p → bg (cl at_) + 11 ≤ p.2 ∧ ∀ t ∈ p.1,bg (cl at_) ≤ t.1 := by
 induction m with
 |zero => intro _ _ _ _ _ h;cases h
 |succ m ih =>
  intro at_ n from_ p hn h
  have h0 := cl_lo at_
  have h1 := cl_hi at_
  have hb0 := bg_lo h0
  have hb1 := bg_hi h1
  have hbm := bg_mod (cl at_)
  unfold cutS at h
  split at h
  ·cases h
  ·rename_i h8
   obtain ⟨l1,l2,l3,l4⟩ := lf_ge hb0 hb1 hbm h8
   split at h
   ·obtain rfl := Option.some.inj h
    refine ⟨by simp only;omega,fun t ht => ?_⟩
    rw [List.mem_singleton] at ht
    subst ht
    exact Int.le_refl _
   ·obtain ⟨q,hq,rfl⟩ := Option.map_eq_some_iff.mp h
    obtain ⟨i1,i2⟩ := ih (by omega) hq
    rw [cl_in (by omega) l3,bg_block l4] at i1 i2
    refine ⟨by simp only;omega,fun t ht => ?_⟩
    rcases List.mem_cons.1 ht with rfl|ht
    ·exact Int.le_refl _
    ·have := i2 t ht;omega
theorem mkP_mem : ∀ (ts : List (Int × Int × Int)) (f : Bool) (p : Pc),p ∈ mkP f ts → ∃ t ∈ ts,p.f0 = t.1 := by
 intro ts
 induction ts with
 |nil => intro f p hp;simp [mkP] at hp
 |cons t rest ih =>
  intro f p hp
  cases rest with
  |nil =>
   simp only [mkP,List.mem_singleton] at hp
   subst hp
   exact ⟨t,List.mem_cons_self ..,rfl⟩
  |cons u rest =>
   simp only [mkP,List.mem_cons] at hp
   rcases hp with rfl|hp
   ·exact ⟨t,List.mem_cons_self ..,rfl⟩
   ·obtain ⟨t',ht,e⟩ := ih false p hp
    exact ⟨t',List.mem_cons_of_mem _ ht,e⟩
theorem cutP_low (at_ n : Int) (hn : 0 ≤ n) : ((cutP at_ n).2.2 = true → bg (cl at_) + 11 ≤ (cutP at_ n).2.1) ∧ ∀ p ∈ (cutP at_ n).1,bg (cl at_) ≤ p.f0 := by
 unfold cutP
 split
 ·exact ⟨fun h => (by cases h),fun p hp => (by cases hp)⟩
 ·cases hs : cutS 4 at_ n 0 with
  |none => exact ⟨fun h => (by cases h),fun p hp => (by cases hp)⟩
  |some q =>
   obtain ⟨i1,i2⟩ := cutS_low hn hs
   refine ⟨fun _ => i1,fun p hp => ?_⟩
   simp only [cutR,List.nil_append] at hp
   obtain ⟨t,ht,e⟩ := mkP_mem _ _ _ hp
   rw [e]
   exact i2 t ht
end Go.Proofs.YtaekpfhgdnfciaaDoor.Img
end

section
/- Records laid one behind another: plain; the reference's Lay. -/
set_option linter.unusedVariables false
set_option linter.unusedSimpArgs false
namespace Go.Proofs.YtaekpfhgdnfciaaDoor.Img
open Go.RowKit Go.Proofs.YtaekpfhgdnfciaaDoor.F Go.Proofs.YtaekpfhgdnfciaaDoor.F.Nums Go.Proofs.YtaekpfhgdnfciaaDoor.O Go.Proofs.YtaekpfhgdnfciaaDoorW.PrintWords Go.Proofs.YtaekpfhgdnfciaaDoorW.PrintLast Go.Proofs.YtaekpfhgdnfciaaDoorW.PrintMore Go.Proofs.YtaekpfhgdnfciaaDoor.Plain
theorem cutS_begin (m : Nat) (e n f : Int) : cutS m (bg (cl e)) n f = cutS m e n f := by
 have h0 := bg_lo (cl_lo e)
 have h1 := bg_hi (cl_hi e)
 cases m with
 |zero => rfl
 |succ m => unfold cutS;rw [cl_in h0 h1,bg_bg]
theorem cutP_begin (e n : Int) : cutP (bg (cl e)) n = cutP e n := by unfold cutP;rw [cutS_begin]
theorem addB_begin (e64 : Int) (body : List Int) (e : Int) (data : List Int) : addB e64 body (bg (cl e)) data = addB e64 body e data := by unfold addB;rw [cutP_begin]
/-- body and end behind the first k records -/
def laySt (e64 : Int) (l : List (List Int)) : Nat → List Int × Int
 |0 => (zs 832,0)
 |k + 1 => (addB e64 (laySt e64 l k).1 (laySt e64 l k).2 (l.getD k []),(cutP (laySt e64 l k).2 ((l.getD k []).length : Int)).2.1)
/-- does record k fit? -/
def layOk (e64 : Int) (l : List (List Int)) (k : Nat) : Bool := (cutP (laySt e64 l k).2 ((l.getD k []).length : Int)).2.2
/-- where record k begins -/
def layAt (e64 : Int) (l : List (List Int)) (k : Nat) : Int := bg (cl (laySt e64 l k).2)
def layPl (e64 : Int) (l : List (List Int)) (k : Nat) : List Int := (List.range k).map (layAt e64 l)
theorem layPl_len (e64 : Int) (l : List (List Int)) (k : Nat) : (layPl e64 l k).length = k := by simp [layPl]
theorem layPl_succ (e64 : Int) (l : List (List Int)) (k : Nat) : layPl e64 l (k + 1) = layPl e64 l k ++ [layAt e64 l k] := by simp [layPl,List.range_succ]
theorem laySt_len (e64 : Int) (l : List (List Int)) (k : Nat) : (laySt e64 l k).1.length = 832 := by
 cases k with
 |zero => exact List.length_replicate
 |succ k => exact addB_len _ _ _ _
theorem laySt_bytes (e64 : Int) (l : List (List Int)) (hl : ∀ x ∈ l,Bytes x) (k : Nat) : Bytes (laySt e64 l k).1 := by
 induction k with
 |zero => exact bytes_zs 832
 |succ k ih =>
  refine addB_bytes e64 _ ih ?_
  rw [List.getD_eq_getElem?_getD]
  cases h : l[k]? with
  |none => intro c hc;cases hc
  |some x => exact hl x (List.mem_of_getElem? h)
theorem laySt_end (e64 : Int) (l : List (List Int)) (k : Nat) : 0 ≤ (laySt e64 l k).2 ∧ (laySt e64 l k).2 ≤ 832 := by
 cases k with
 |zero => exact ⟨Int.le_refl _,show (0 : Int) ≤ 832 by decide⟩
 |succ k =>
  show 0 ≤ (cutP (laySt e64 l k).2 ((l.getD k []).length : Int)).2.1 ∧ (cutP (laySt e64 l k).2 ((l.getD k []).length : Int)).2.1 ≤ 832
  unfold cutP
  split
  ·exact ⟨Int.le_refl _,by decide⟩
  ·cases hs : cutS 4 (laySt e64 l k).2 ((l.getD k []).length : Int) 0 with
   |none => exact ⟨Int.le_refl _,by decide⟩
   |some p =>
    have := cutS_bound (cl_lo _) (by omega) hs
    exact ⟨this.2.1,this.2.2⟩
/-- do all records fit? -/
def layAll (e64 : Int) (l : List (List Int)) : Bool := (List.range l.length).all (layOk e64 l)
theorem layAll_iff (e64 : Int) (l : List (List Int)) : layAll e64 l = true ↔ ∀ k,k < l.length → layOk e64 l k = true := by
 unfold layAll
 rw [List.all_eq_true]
 simp
/-- what Lay answers -/
def layR (e64 : Int) (l : List (List Int)) : List Int × List Int × Int × Bool := if layAll e64 l = true then ((laySt e64 l l.length).1,layPl e64 l l.length,(laySt e64 l l.length).2,true) else ([],[],0,false)
theorem lay_small (e64 : Int) (l : List (List Int)) : ∀ i : Nat,(∀ j,j < i → layOk e64 l j = true) → 11 * (i : Int) ≤ (laySt e64 l i).2 := by
 intro i
 induction i with
 |zero => intro _;exact Int.le_refl _
 |succ i ih =>
  intro h
  have h1 := ih (fun j hj => h j (by omega))
  have h2 := laySt_end e64 l i
  have h3 := (cutP_low (laySt e64 l i).2 ((l.getD i []).length : Int) (by omega)).1 (h i (by omega))
  have h4 := bg_ge (cl (laySt e64 l i).2)
  rw [cl_in h2.1 h2.2] at h3 h4
  have h5 : (laySt e64 l (i + 1)).2 = (cutP (laySt e64 l i).2 ((l.getD i []).length : Int)).2.1 := rfl
  omega
set_option maxRecDepth 100000 in
theorem rlay_l0 (e64 : Int) (l : List (List Int)) (he : 0 ≤ e64) (hl : ∀ x ∈ l,Bytes x) (hll : ∀ x ∈ l,x.length ≤ 140737488355328) (hn : l.length ≤ 9000000000000) (d : Nat) :
  ∀ (k i : Nat),i + d = l.length → (∀ j,j < i → layOk e64 l j = true) → 7000 + d ≤ k →
  strandlineref17_Lay.l0 k e64 l (laySt e64 l i).1 (layPl e64 l i) (laySt e64 l i).2 i = some (layR e64 l) := by
 induction d with
 |zero =>
  intro k i hi hok hk
  obtain ⟨k,rfl⟩ : ∃ j,k = j + 1 := ⟨k - 1,by omega⟩
  have hii : i = l.length := by omega
  subst hii
  simp only [strandlineref17_Lay.l0]
  rw [if_neg (by omega)]
  unfold layR
  rw [if_pos ((layAll_iff e64 l).2 hok)]
 |succ d ih =>
  intro k i hi hok hk
  obtain ⟨k,rfl⟩ : ∃ j,k = j + 1 := ⟨k - 1,by omega⟩
  have hlt : i < l.length := by omega
  have hend := laySt_end e64 l i
  have hsm := lay_small e64 l i hok
  have hx : rd_L3 l (i : Int) = l.getD i [] := by unfold rd_L3;rw [Int.toNat_natCast]
  have hmem : l.getD i [] ∈ l := by rw [List.getD_eq_getElem?_getD,List.getElem?_eq_getElem hlt];exact List.getElem_mem hlt
  have hadd := radd_eq k (by omega) e64 (laySt e64 l i).1 (laySt e64 l i).2 (l.getD i []) he (hl _ hmem) (by rw [laySt_len];decide) (hll _ hmem)
  simp only [strandlineref17_Lay.l0]
  rw [if_pos (by omega),rbegin_eq k (by omega),Option.bind_some,if_pos (by rw [layPl_len];omega),if_pos (by omega),hx,hadd,Option.bind_some]
  unfold addR
  by_cases h : (cutP (laySt e64 l i).2 ((l.getD i []).length : Int)).2.2 = true
  ·rw [if_pos h,if_pos rfl,w64 (by omega) (by omega)]
   have := ih k (i + 1) (by omega) (fun j hj => by
    by_cases e : j = i
    ·subst e;exact h
    ·exact hok j (by omega)) (by omega)
   rw [layPl_succ] at this
   exact this
  ·rw [if_neg h,if_neg (by decide)]
   unfold layR
   rw [if_neg (fun ha => h ((layAll_iff e64 l).1 ha i hlt))]
theorem rlay_eq (k : Nat) (e64 : Int) (l : List (List Int)) (he : 0 ≤ e64) (hl : ∀ x ∈ l,Bytes x) (hll : ∀ x ∈ l,x.length ≤ 140737488355328) (hn : l.length ≤ 9000000000000) (hk : 7000 + l.length ≤ k) : strandlineref17_Lay.f k e64 l = some (layR e64 l) := by
 unfold strandlineref17_Lay.f
 rw [if_pos (by decide)]
 exact rlay_l0 e64 l he hl hll hn l.length k 0 (Nat.zero_add _) (fun j hj => absurd hj (Nat.not_lt_zero j)) hk
end Go.Proofs.YtaekpfhgdnfciaaDoor.Img
end

section
/- What a record more does to what is laid: plain. -/
set_option linter.unusedVariables false
set_option linter.unusedSimpArgs false
namespace Go.Proofs.YtaekpfhgdnfciaaDoor.Img
open Go.RowKit Go.Proofs.YtaekpfhgdnfciaaDoor.F Go.Proofs.YtaekpfhgdnfciaaDoor.F.Nums Go.Proofs.YtaekpfhgdnfciaaDoor.O Go.Proofs.YtaekpfhgdnfciaaDoorW.PrintWords Go.Proofs.YtaekpfhgdnfciaaDoorW.PrintLast Go.Proofs.YtaekpfhgdnfciaaDoorW.PrintMore Go.Proofs.YtaekpfhgdnfciaaDoor.Plain
end Go.Proofs.YtaekpfhgdnfciaaDoor.Img
end

section
/- Scanning what was laid, of which some may be lost: some first records. Plain. -/
set_option linter.unusedVariables false
set_option linter.unusedSimpArgs false
namespace Go.Proofs.YtaekpfhgdnfciaaDoor.Img
open Go.RowKit Go.Proofs.YtaekpfhgdnfciaaDoor.F Go.Proofs.YtaekpfhgdnfciaaDoor.F.Nums Go.Proofs.YtaekpfhgdnfciaaDoor.O Go.Proofs.YtaekpfhgdnfciaaDoorW.PrintWords Go.Proofs.YtaekpfhgdnfciaaDoorW.PrintLast Go.Proofs.YtaekpfhgdnfciaaDoorW.PrintMore Go.Proofs.YtaekpfhgdnfciaaDoor.Plain
/-- the pieces of record k -/
def pcs (e64 : Int) (l : List (List Int)) (k : Nat) : List Pc := (cutP (laySt e64 l k).2 ((l.getD k []).length : Int)).1
end Go.Proofs.YtaekpfhgdnfciaaDoor.Img
end

section
/- Where something else is told than was laid. Plain. -/
set_option linter.unusedVariables false
set_option linter.unusedSimpArgs false
namespace Go.Proofs.YtaekpfhgdnfciaaDoor.O
open Go.RowKit Go.Proofs.YtaekpfhgdnfciaaDoorW.PrintWords Go.Proofs.YtaekpfhgdnfciaaDoorW.PrintLast Go.Proofs.YtaekpfhgdnfciaaDoorW.PrintMore Go.Proofs.YtaekpfhgdnfciaaDoor.F Go.Proofs.YtaekpfhgdnfciaaDoor.F.Nums Go.Proofs.YtaekpfhgdnfciaaDoor.Plain Go.Proofs.YtaekpfhgdnfciaaDoor.Img
/-- is something else told at a piece's place? -/
def badP (ep : Int) (F : List Int) (ok : List Bool) (data : List Int) (p : Pc) : Bool := badF ep F ok p.f0.toNat p.f1 ep ((data.take p.f3.toNat).drop p.f2.toNat)
def badR (ep : Int) (F : List Int) (ok : List Bool) (data : List Int) (ps : List Pc) : List Int := (ps.filter (badP ep F ok data)).map fun p => p.f0
def badL (e64 : Int) (l : List (List Int)) (F : List Int) (ok : List Bool) (k : Nat) : List Int := (List.range k).flatMap fun i => badR (e64 % 4294967296) F ok (l.getD i []) (pcs e64 l i)
theorem badR_snoc (ep : Int) (F : List Int) (ok : List Bool) (data : List Int) (ps : List Pc) (p : Pc) : badR ep F ok data (ps ++ [p]) = if badP ep F ok data p = true then badR ep F ok data ps ++ [p.f0] else badR ep F ok data ps := by
 unfold badR
 rw [List.filter_append]
 by_cases h : badP ep F ok data p = true
 ·rw [if_pos h,List.filter_cons_of_pos h]
  simp
 ·rw [if_neg h,List.filter_cons_of_neg h]
  simp
theorem badR_len (ep : Int) (F : List Int) (ok : List Bool) (data : List Int) (ps : List Pc) : (badR ep F ok data ps).length ≤ ps.length := by
 unfold badR
 rw [List.length_map]
 exact List.length_filter_le ..
theorem badL_succ (e64 : Int) (l : List (List Int)) (F : List Int) (ok : List Bool) (k : Nat) : badL e64 l F ok (k + 1) = badL e64 l F ok k ++ badR (e64 % 4294967296) F ok (l.getD k []) (pcs e64 l k) := by
 unfold badL
 rw [List.range_succ,List.flatMap_append]
 simp
theorem badL_len (e64 : Int) (l : List (List Int)) (F : List Int) (ok : List Bool) (k : Nat) : (badL e64 l F ok k).length ≤ 10 * k := by
 induction k with
 |zero => exact Nat.le_refl _
 |succ k ih =>
  rw [badL_succ,List.length_append]
  have h1 := badR_len (e64 % 4294967296) F ok (l.getD k []) (pcs e64 l k)
  have h2 := cutP_len (laySt e64 l k).2 ((l.getD k []).length : Int)
  unfold pcs at h1 ⊢
  omega
end Go.Proofs.YtaekpfhgdnfciaaDoor.O
end

section
/- From the plain walk to the walk in a round of a loop over a function; the loop over a function, by what is owned. -/
namespace Go.Proofs.YtaekpfhgdnfciaaDoor.O
open Go.RowKit Go.Proofs.YtaekpfhgdnfciaaDoorW.PrintWords Go.Proofs.YtaekpfhgdnfciaaDoorW.PrintLast Go.Proofs.YtaekpfhgdnfciaaDoorW.PrintMore Go.Proofs.YtaekpfhgdnfciaaDoor.F
set_option linter.unusedVariables false
set_option linter.unusedSimpArgs false
section
variable {P : Program} {r n : Nat} {ops : Array Oper} {Q : Exit → Act → World → Prop}
theorem opIn_of_wp {o : Oper} {a : Act} {w : World} {K : Act → World → Prop} (hnd : ∀ c,o.op ≠ .defer c) (h : o.wp P a w K Q) : o.wpIn (Fence.wide.inRound r) n P a w K Q := by
 unfold Oper.wpIn
 refine ⟨fun _ _ => trivial,?_⟩
 rw [Oper.semAt_eq _ _ _ hnd]
 unfold Oper.wp at h
 generalize (execOp a.eval o).run P w = x at h ⊢
 cases x with
 |ok y w' =>
  cases y with
  |enter f args =>
   simp only [Oper.upon,Oper.uponIn] at h ⊢
   exact ⟨fun e => by simp [Fence.inRound,Fence.wide] at e,(CallsIn.inRound r (callsIn_wide.2 h)).mono (fun e w'' he => by cases e <;> exact he)⟩
  |row q args =>
   simp only [Oper.upon,Oper.uponIn] at h ⊢
   refine ⟨fun e => by simp [Fence.inRound,Fence.wide] at e,fun c cs _ => ?_⟩
   obtain ⟨v,w',hr,hs⟩ := h c cs
   exact ⟨v,w',hr,stepsIn_wide.2 hs⟩
  |value v => exact h
  |skip => exact h
  |«defer» d => exact h
  |_ => exact absurd h (by simp [Oper.upon])
 |halt y w' => cases y <;> exact h
def noDefer (o : Oper) : Bool := match o.op with|.defer _ => false|_ => true
theorem noDefer_ne {o : Oper} (h : noDefer o = true) (c : Call) : o.op ≠ .defer c := by
 intro e
 unfold noDefer at h
 rw [e] at h
 cases h
theorem listIn_of (hQ : ¬ LetsOut Q) : ∀ (l : List Oper) (a : Act) (w : World),l.all noDefer = true → wpList P ops Q l a w → wpListIn (Fence.wide.inRound r) n P ops Q l a w
 |[],_,_,_,h => h
 |o :: rest,a,w,hn,h => by
  rw [List.all_cons,Bool.and_eq_true] at hn
  simp only [wpList,wpListIn] at h ⊢
  split at h
  ·rename_i hw
   rw [if_pos hw]
   rcases h with h|h
   ·exact Oper.wpIn_mono (fun a w h => listIn_of hQ rest a w hn.2 h) (opIn_of_wp (fun c => noDefer_ne hn.1 c) h)
   ·exact absurd h.2 hQ
  ·rename_i hw
   rw [if_neg hw]
   exact ⟨fun _ _ => trivial,listIn_of hQ rest _ w hn.2 h⟩
theorem regIn_lit {id : Nat} {l : List Oper} {a : Act} {w : World} (hn : l.all noDefer = true) (hQ : ¬ LetsOut Q) (h : wpList P l.toArray Q l a w) : (Code.region id l.toArray false).wpIn (Fence.wide.inRound r) n P Q a w :=
 wpIn_region_lit (listIn_of hQ l a w hn h)
end
/-! ### a block that is no resource -/
theorem Own.putF {w0 W : World} {F : Nat → Option Obj} {L : List Res} (H : Own w0 F L W) (l : Nat) (o o' : Obj) (hF : F l = some o) (hl : w0.heap.size ≤ l) : Own w0 (fun g => if g = l then some o' else F g) L (W.putObj l o') := by
 have hlt : l < W.heap.size := obj_lt (H.holds l o hF)
 have hne : ∀ y ∈ L,∀ k,y.block = some k → k ≠ l := fun y hy k hk e => by
  subst e
  have := H.apart y hy k hk
  rw [hF] at this
  cases this
 refine ⟨?_,?_,?_,?_,H.sep⟩
 ·refine ⟨H.below.os,H.below.tape,H.below.output,?_,fun k hk => ?_⟩
  ·have := H.below.size
   simpa [World.putObj] using this
  ·exact (World.putObj_heap_other (by omega)).trans (H.below.block k hk)
 ·intro g q hg
  by_cases e : g = l
  ·subst e
   simp at hg
   subst hg
   exact World.putObj_heap_same hlt
  ·simp [e] at hg
   exact (World.putObj_heap_other e).trans (H.holds g q hg)
 ·intro y hy
  exact (H.ats y hy).move (fun k hk => World.putObj_heap_other (hne y hy k hk))
 ·intro y hy k hk
  simp [hne y hy k hk]
  exact H.apart y hy k hk
theorem Own.addF {w0 W : World} {F : Nat → Option Obj} {L : List Res} (H : Own w0 F L W) (o : Obj) : Own w0 (fun g => if g = W.heap.size then some o else F g) L (W.alloc o) := by
 have hb : Below W.heap.size W (W.alloc o) := below_alloc (Below.refl _ _) o
 have H1 := H.to hb
 refine ⟨H1.below,?_,H1.ats,?_,H1.sep⟩
 ·intro g q hg
  by_cases e : g = W.heap.size
  ·subst e
   simp at hg
   subst hg
   exact World.alloc_heap_new W o
  ·simp [e] at hg
   exact H1.holds g q hg
 ·intro y hy k hk
  have := (H.ats y hy).lt hk
  rw [if_neg (by omega)]
  exact H.apart y hy k hk
theorem Own.congrF {w0 W : World} {F F' : Nat → Option Obj} {L : List Res} (H : Own w0 F L W) (h : ∀ g,F g = F' g) : Own w0 F' L W := by
 obtain rfl : F = F' := funext h
 exact H
end Go.Proofs.YtaekpfhgdnfciaaDoor.O
end

section
/- The loop over a function whose body may leave by return; the iterator's own memory stands on the list of what is owned. -/
namespace Go.Proofs.YtaekpfhgdnfciaaDoor.O
open Go.RowKit Go.Proofs.YtaekpfhgdnfciaaDoorW.PrintWords Go.Proofs.YtaekpfhgdnfciaaDoorW.PrintLast Go.Proofs.YtaekpfhgdnfciaaDoorW.PrintMore Go.Proofs.YtaekpfhgdnfciaaDoor.F
set_option linter.unusedVariables false
set_option linter.unusedSimpArgs false
/-- a round goes on, or the function returns -/
def bodyQ2 (K KR : World → Prop) : Exit → Act → World → Prop
 |.normal,_,w => K w
 |.ret,_,w => KR w
 |_,_,_ => False
/-- what a call of yield tells the iterator -/
def Yld (w0 : World) (F1 F2 : Nat → Option Obj) (RZ RX : List Res → Prop) (e : Ending) (W : World) : Prop :=
 (e = .returned (.bool true) ∧ ∃ L,RZ L ∧ Own w0 F1 L W) ∨ (e = .returned (.bool false) ∧ ∃ L,RX L ∧ Own w0 F2 L W)
def Fin2 (w0 : World) (F1 F2 : Nat → Option Obj) (RN RL : List Res → Prop) (e : Ending) (W : World) : Prop :=
 (∃ v,e = .returned v) ∧ ((∃ L,RN L ∧ Own w0 F1 L W) ∨ (∃ L,RL L ∧ Own w0 F2 L W))
theorem rf_gen {ι : Type} {P : Program} {w0 w : World} {F : Nat → Option Obj} {Q : Exit → Act → World → Prop} {a : Act} {g : Operand} {ps : Array Tmp} {assign body : Code} {gf : Nat} {lb : Array Value} {n : Nat}
  (hg : a.eval g = .func (.func gf) #[] lb) (eg : ∀ args w,(callFunc gf args).run P w = .ok (.enter gf args) w) (hps : ps.size = 1) {L0 : List Res} (H0 : Own w0 F L0 w)
  (RY RZ : ι → Value → List Res → Prop) (RM : ι → Value → Act → List Res → Prop) (RX : ι → Value → List Res → Prop) (RN RL : List Res → Prop)
  (hseq : ∀ (F1 F2 : Nat → Option Obj) l W,Own w0 F1 L0 W →
   (∀ k v L W,RY k v L → Own w0 F1 L W → YieldAt Fence.wide n P l #[v] W (Yld w0 F1 F2 (RZ k v) (RX k v))) →
   CallsIn Fence.wide n P gf (#[.func (.yield l) #[] #[]] ++ lb) W (Fin2 w0 F1 F2 RN RL))
  (hassign : ∀ F1 l k v L W,RY k v L → Own w0 F1 L W → assign.wpIn (Fence.wide.inRound l) n P (Exit.then (fun a1 W1 => ∃ L1,RM k v a1 L1 ∧ Own w0 F1 L1 W1) (fun _ _ _ => False)) { tmps := (ps.zip #[v]).foldl (fun t (p,v) => t.setIfInBounds p v) a.tmps,defers := [] } W)
  (hbody : ∀ F1 l k v a1 L W,RM k v a1 L → Own w0 F1 L W → body.wpIn (Fence.wide.inRound l) n P (bodyQ2 (fun W' => ∃ L',RZ k v L' ∧ Own w0 F1 L' W') (fun W' => ∃ L',RX k v L' ∧ Own w0 F1 L' W')) a1 W)
  (hdone : ∀ F1 D L W,RN L → Own w0 F1 L W → F1 D = some (.deferred (some [])) → w0.heap.size ≤ D → Q .normal { a with defers := { target := .collected D,args := #[] } :: a.defers } W)
  (hleft : ∀ F1 D L W,RL L → Own w0 F1 L W → F1 D = some (.deferred (some [])) → w0.heap.size ≤ D → Code.ret.wpIn Fence.wide (n + 1) P Q { a with defers := { target := .collected D,args := #[] } :: a.defers } W) :
  (Code.rangeFunc g ps assign body).wpIn Fence.wide (n + 1) P Q a w := by
 refine wpIn_rangeFunc ?_
 intro fn hfn
 obtain ⟨rec,hrec⟩ : ∃ rec : LoopState → Option Code → Loop,rec = fun st pe => { state := st,pending := pe,fn,tmps := a.tmps,params := ps,assign,body,defers := w.heap.size } := ⟨_,rfl⟩
 have hle := H0.size
 have H1 := H0.addF (.deferred (some []))
 have H2 := H1.addF (.loop (rec .ready none))
 rw [World.size_alloc] at H2
 obtain ⟨FF,hFF⟩ : ∃ FF : LoopState → Option Code → Nat → Option Obj,FF = fun st pe g => if g = w.heap.size + 1 then some (.loop (rec st pe)) else if g = w.heap.size then some (.deferred (some [])) else F g := ⟨_,rfl⟩
 have fl1 : ∀ st pe,FF st pe (w.heap.size + 1) = some (.loop (rec st pe)) := fun st pe => by rw [hFF];simp
 have fl2 : ∀ st pe,FF st pe w.heap.size = some (.deferred (some [])) := fun st pe => by rw [hFF];simp
 have fput : ∀ st pe st' pe' L W,Own w0 (FF st pe) L W → Own w0 (FF st' pe') L (W.putObj (w.heap.size + 1) (.loop (rec st' pe'))) := fun st pe st' pe' L W H => by
  refine (H.putF (w.heap.size + 1) _ (.loop (rec st' pe')) (fl1 st pe) (by omega)).congrF (fun g => ?_)
  rw [hFF]
  by_cases e : g = w.heap.size + 1
  ·simp [e]
  ·simp [e]
 have H2' : Own w0 (FF .ready none) L0 ((w.alloc (.deferred (some []))).alloc (.loop (rec .ready none))) := H2.congrF (fun g => by rw [hFF])
 generalize hW1 : (w.alloc (.deferred (some []))).alloc (.loop (rec .ready none)) = W1 at H2'
 refine ⟨w.heap.size + 1,[{ target := .collected w.heap.size,args := #[] }],W1,{ target := .fn (.func gf) lb,args := #[.func (.yield (w.heap.size + 1)) #[] #[]] },W1,gf,
  #[.func (.yield (w.heap.size + 1)) #[] #[]] ++ lb,W1,?_,?_,?_,?_,fun e => by simp [Fence.wide] at e,?_⟩
 ·rw [← hW1,hrec];exact run_enterLoop_outer _ _ _ _ _
 ·simp only [resolve,hg]
  simp [go_sem]
 ·intro f' hf';trivial
 ·simp [invoke,go_sem,eg]
 ·refine (hseq (FF .ready none) (FF .done (some .ret)) (w.heap.size + 1) W1 H2' ?_).mono ?_
  ·intro k v L W hR H
   have hl := H.holds _ _ (fl1 .ready none)
   have hy := run_yield (P := P) (args := #[v]) hl (by rw [hrec];simp [hps])
   rw [hrec] at hy
   refine ⟨fn,_,assign,body,hy,roundIn_of_wpIn hfn (wpIn_mono (hassign _ _ k v L W hR H) ?_)⟩
   intro e a1 W2 he
   cases e with
   |normal =>
    obtain ⟨L1,hM,H3⟩ := he
    have hl3 := H3.holds _ _ (fl1 .ready none)
    refine ⟨_,run_beginRound hl3 (by rw [hrec]),?_⟩
    have H4 := fput .ready none .busy none L1 W2 H3
    have e4 : W2.putObj (w.heap.size + 1) (.loop { rec .ready none with state := .busy }) = W2.putObj (w.heap.size + 1) (.loop (rec .busy none)) := by rw [hrec]
    rw [e4]
    refine wpIn_mono (hbody _ _ k v a1 L1 _ hM H4) ?_
    intro e a5 W5 he
    cases e with
    |normal =>
     obtain ⟨L5,hR5,H5⟩ := he
     have hl5 := H5.holds _ _ (fl1 .busy none)
     refine ⟨_,_,run_endRound none hl5,.inl ⟨rfl,L5,hR5,?_⟩⟩
     have H6 := fput .busy none .ready none L5 W5 H5
     have e6 : (W5.putObj (w.heap.size + 1) (.loop { rec .busy none with state := if (none : Option Code).isNone then .ready else .done,pending := none })) = W5.putObj (w.heap.size + 1) (.loop (rec .ready none)) := by rw [hrec];rfl
     rw [e6]
     exact H6
    |ret =>
     obtain ⟨L5,hR5,H5⟩ := he
     have hl5 := H5.holds _ _ (fl1 .busy none)
     refine ⟨_,_,run_endRound (some .ret) hl5,.inr ⟨rfl,L5,hR5,?_⟩⟩
     have H6 := fput .busy none .done (some .ret) L5 W5 H5
     have e6 : (W5.putObj (w.heap.size + 1) (.loop { rec .busy none with state := if (some Code.ret).isNone then .ready else .done,pending := some Code.ret })) = W5.putObj (w.heap.size + 1) (.loop (rec .done (some .ret))) := by rw [hrec];rfl
     rw [e6]
     exact H6
    |_ => exact he.elim
   |_ => exact he.elim
  ·rintro e W2 ⟨⟨v,rfl⟩,h⟩
   rcases h with ⟨L,hR,H⟩|⟨L,hR,H⟩
   ·have hl2 := H.holds _ _ (fl1 .ready none)
    refine ⟨none,_,by have := run_endLoop (P := P) hl2 (by rw [hrec];simp);rw [hrec] at this;exact this,?_⟩
    have H3 := fput .ready none .exhausted none L W2 H
    have e3 : (W2.putObj (w.heap.size + 1) (.loop (rec .exhausted none))) = W2.putObj (w.heap.size + 1) (.loop { state := .exhausted,pending := none,fn,tmps := a.tmps,params := ps,assign,body,defers := w.heap.size }) := by rw [hrec]
    rw [e3] at H3
    exact hdone _ w.heap.size L _ hR H3 (fl2 _ _) hle
   ·have hl2 := H.holds _ _ (fl1 .done (some .ret))
    refine ⟨some .ret,_,by have := run_endLoop (P := P) hl2 (by rw [hrec];simp);rw [hrec] at this;exact this,?_⟩
    have H3 := fput .done (some .ret) .exhausted (some .ret) L W2 H
    have e3 : (W2.putObj (w.heap.size + 1) (.loop (rec .exhausted (some .ret)))) = W2.putObj (w.heap.size + 1) (.loop { state := .exhausted,pending := some .ret,fn,tmps := a.tmps,params := ps,assign,body,defers := w.heap.size }) := by rw [hrec]
    rw [e3] at H3
    exact hleft _ w.heap.size L _ hR H3 (fl2 _ _) hle
end Go.Proofs.YtaekpfhgdnfciaaDoor.O
end

section
/- image.Add, by what is owned. -/
set_option linter.unusedVariables false
set_option linter.unusedSimpArgs false
namespace Go.Proofs.YtaekpfhgdnfciaaDoor.O
open Go.RowKit Go.Proofs.YtaekpfhgdnfciaaDoorW.PrintWords Go.Proofs.YtaekpfhgdnfciaaDoorW.PrintLast Go.Proofs.YtaekpfhgdnfciaaDoorW.PrintMore Go.Proofs.YtaekpfhgdnfciaaDoor.F Go.Proofs.YtaekpfhgdnfciaaDoor.F.Nums Go.Proofs.YtaekpfhgdnfciaaDoor.Plain Go.Proofs.YtaekpfhgdnfciaaDoor.Img
theorem r_loadC {P : Program} {o : Oper} {a : Act} {W : World} {p : Addr} {v : Value} (ty : TypeId) (x : Operand) (ho : o.op = .load ty x) (hx : a.eval x = .pointer (some p)) (hc : W.cell? p = some v) (d : TypeDesc) (hu : P.underlying ty = some d) (hd : d.isRow = false) :
  (execOp a.eval o).run P W = .ok (.value v) W := by
 have hag : (isAgg ty).run P W = .ok false W := by
  unfold isAgg
  rw [Sem.run_bind,run_underlying hu W]
  cases d <;> simp_all
 unfold execOp
 simp [ho,hx,Instr.loadAt,Instr.sureAddr,loadVar,hag,hc]
theorem l_runV {P : Program} {ops : Array Oper} {rest : List Oper} {o : Oper} {a : Act} {Q : Exit → Act → World → Prop} {W : World} (hgd : o.guard = none) {u : Value} (v : Value) (hr : (execOp a.eval o).run P W = .ok (.value u) W) (he : u = v) (h : wpList P ops Q rest (a.put o.dst v) W) : wpList P ops Q (o :: rest) a W := by
 subst he
 exact l_run hgd _ hr h
theorem Own.slack {w0 W : World} {F F' : Nat → Option Obj} {L : List Res} (H : Own w0 F' L W) (h : Fle F F') : Own w0 F L W :=
 ⟨H.below,fun g o hg => H.holds g o (h g o hg),H.ats,fun y hy k hk => by
  cases hF : F k with
  |none => rfl
  |some o => have := H.apart y hy k hk;rw [h k o hF] at this;exact this,H.sep⟩
/-- what is read of a row of fragments that stands for good -/
theorem fr_stands {W W' : World} {F : Nat → Option Obj} {ok : Nat → Prop} {l : List S76} {ad : Addr} {n cap : Nat} (h : Kd.R k76 76 W' W.heap.size ok (.slice (some ad) n cap) l) (j : Nat) (hj : j < n) :
  ∃ A2 c2,Stands (fn F W W') (fun X => Rd X (some (ad.add (j * 3))) [.int .i64 (rd_T76 l j).f0,.int .u32 (rd_T76 l j).f1,.slice A2 (rd_T76 l j).f2.length c2]) ∧ (rd_T76 l j).f2.length ≤ c2 ∧
   Stands (fn F W W') (fun X => (Kd.int .u8).C X A2 (rd_T76 l j).f2.length (rd_T76 l j).f2) := by
 have hb := Kd.R_bound h
 obtain ⟨g,rfl⟩ := Kd.R_head hb
 obtain ⟨c,hcl,hM,hcc⟩ := Kd.R_get hb z76 (j : Int) (by omega) (by omega)
 obtain ⟨v2,rfl,g2⟩ := k76_openM hM
 obtain ⟨A2,c2,rfl,l2,C2⟩ := Kd.R_reads g2
 have hg := hb.1 g rfl
 have same : ∀ X : World,(∀ g o,fn F W W' g = some o → X.heap[g]? = some o) → ∀ k,W.heap.size ≤ k → k < W'.heap.size → X.heap[k]? = W'.heap[k]? := fun X hX k h1 h2 => by
  have := hX k (W'.heap[k]) (by unfold fn;rw [if_pos ⟨h1,h2⟩];exact Array.getElem?_eq_getElem h2)
  rw [this,Array.getElem?_eq_getElem h2]
 refine ⟨A2,c2,fun X hX => ?_,l2,fun X hX => ?_⟩
 ·intro hp
  refine ⟨_,rfl,fun i u hu => ?_⟩
  rw [add_add',addr_add]
  have h1 := hcc i u hu
  rw [Int.toNat_natCast,show k76.sz = 3 from rfl,addr_add] at h1
  rw [← h1]
  unfold World.cell?
  rw [same X hX g hg.2.1 hg.2.2.1]
 ·obtain ⟨A3,c3,e3,l3,C3⟩ := Kd.R_reads (Kd.R_move g2 (w1 := X) (fun k hk => same X hX k hk.1.2.1 hk.1.2.2.1))
  injection e3 with e3 e4 e5
  subst e3
  exact C3
theorem fr_stands' {W W' : World} {F : Nat → Option Obj} {ok : Nat → Prop} {l : List S76} {A : Option Addr} {cap : Nat} (h : Kd.R k76 76 W' W.heap.size ok (.slice A l.length cap) l) (j : Nat) (hj : j < l.length) :
  ∃ ad A2 c2,A = some ad ∧ Stands (fn F W W') (fun X => Rd X (some (ad.add (j * 3))) [.int .i64 (rd_T76 l j).f0,.int .u32 (rd_T76 l j).f1,.slice A2 (rd_T76 l j).f2.length c2]) ∧ (rd_T76 l j).f2.length ≤ c2 ∧
   Stands (fn F W W') (fun X => (Kd.int .u8).C X A2 (rd_T76 l j).f2.length (rd_T76 l j).f2) := by
 obtain ⟨A9,c9,e9,l9,C9⟩ := Kd.R_reads h
 injection e9 with e1 e2 e3
 subst e1
 obtain ⟨ad,rfl,-⟩ := C9.2.2 (by omega)
 obtain ⟨A2,c2,h1,h2,h3⟩ := fr_stands (F := F) h j hj
 exact ⟨ad,A2,c2,rfl,h1,h2,h3⟩
theorem pc_at {w : World} {A : Option Addr} {n : Nat} {ps : List S94} (h : Kd.C k94 w A n ps) (j : Nat) (hj : j < n) :
  ∃ ad,A = some ad ∧ w.cell? (ad.add (j * 4)) = some (.int .i64 (rd_T94 ps j).f0) := by
 obtain ⟨ad',e,x0,x1,x2,x3⟩ := at_T94 h (j : Int) (by omega) (by omega)
 rw [Int.toNat_natCast] at x0
 exact ⟨ad',e,x0⟩
theorem drop_blk (g lo hi : Nat) (h : lo ≠ hi) : dropA (some ⟨g,0,none⟩) lo hi 1 = some ⟨g,lo,none⟩ := by
 unfold dropA
 rw [if_neg (by omega)]
 simp [addr_add]
set_option maxRecDepth 100000 in
set_option maxHeartbeats 8000000 in
theorem add_no (e64 : Int) (body data : List Int) (A B : Option Addr) (cA cB : Nat) (at_ : Int) (w : World) (hok : (cutP at_ (data.length : Int)).2.2 = false) :
  Calls Tryd.prog 81 #[.int .u64 e64,.slice A body.length cA,.int .i64 at_,.slice B data.length cB] w fun e W => e = .returned (.tuple #[.slice none 0 0,.int .i64 0,.bool false]) ∧ Below w.heap.size w W := by
 have H := Own.start w
 have hcut : cut_Cut.f 7 at_ (data.length : Int) = some ((cutP at_ (data.length : Int)).1,(cutP at_ (data.length : Int)).2.1,(cutP at_ (data.length : Int)).2.2) := cut_eq 7 (by decide) at_ (data.length : Int)
 have FC := fun (W : World) => cut_Cut.calls 7 at_ (data.length : Int) (cutP at_ (data.length : Int)).1 (cutP at_ (data.length : Int)).2.1 (cutP at_ (data.length : Int)).2.2 W hcut
 rw [hok] at FC
 generalize (cutP at_ (data.length : Int)).2.1 = en at *
 generalize (cutP at_ (data.length : Int)).1 = ps at *
 generalize data.length = nd at *
 generalize body.length = nb at *
 clear hcut hok
 go_enter Tryd.func81,Tryd.ntmps81
 go_wp2_with (first
  |(go_at_call 44;(with_reducible refine (FC _).mono ?_);rintro e W ⟨v0,rfl,hR,hb⟩;obtain ⟨Ap,cp,rfl⟩ := Kd.R_slice hR;replace H := H.to hb;clear hb hR))
 go_ret3
 exact ⟨rfl,H.below⟩
set_option maxRecDepth 100000 in
set_option maxHeartbeats 8000000 in
theorem add_ok (e64 : Int) (body data : List Int) (A B : Option Addr) (cA cB : Nat) (at_ : Int) (w : World) (hok : (cutP at_ (data.length : Int)).2.2 = true)
  (hCb : (Kd.int .u8).C w A body.length body) (hcb : body.length ≤ cA) (hbb : Bytes body) (hCd : (Kd.int .u8).C w B data.length data) (hcd : data.length ≤ cB) (hbd : Bytes data) (hld : data.length < 140737488355328) (hH : Half w) :
  Calls Tryd.prog 81 #[.int .u64 e64,.slice A body.length cA,.int .i64 at_,.slice B data.length cB] w fun e W => ∃ g,e = .returned (.tuple #[.slice (some ⟨g,0,none⟩) 832 832,.int .i64 (cutP at_ (data.length : Int)).2.1,.bool true]) ∧ Own w F0 [.blk g 5 (nums .u8 (addB e64 body at_ data))] W := by
 have H := Own.start w
 have hcut : cut_Cut.f 7 at_ (data.length : Int) = some ((cutP at_ (data.length : Int)).1,(cutP at_ (data.length : Int)).2.1,(cutP at_ (data.length : Int)).2.2) := cut_eq 7 (by decide) at_ (data.length : Int)
 have FC := fun (W : World) => cut_Cut.calls 7 at_ (data.length : Int) (cutP at_ (data.length : Int)).1 (cutP at_ (data.length : Int)).2.1 (cutP at_ (data.length : Int)).2.2 W hcut
 have hfr : cut_Frags.f 20 (e64 % 4294967296) at_ data = some ((cutP at_ (data.length : Int)).1.map (fragP (e64 % 4294967296) data),(cutP at_ (data.length : Int)).2.2) := frags_eq 20 (by decide) (e64 % 4294967296) at_ data hld
 have FF := fun (W : World) (hC : (Kd.int .u8).C W B data.length data) => cut_Frags.calls 20 (e64 % 4294967296) at_ B cB data ((cutP at_ (data.length : Int)).1.map (fragP (e64 % 4294967296) data)) (cutP at_ (data.length : Int)).2.2 W hC hcd hfr
 rw [hok] at FC FF
 have hbase := base_copy body
 have hadd : addB e64 body at_ data = layA (e64 % 4294967296) data (cutP at_ (data.length : Int)).1 (base body) := rfl
 have hps := cutP_pcs at_ data
 have hpl := cutP_len at_ (data.length : Int)
 have he0 : 0 ≤ e64 % 4294967296 ∧ e64 % 4294967296 ≤ 4294967295 := by omega
 have hbl := base_len body
 generalize addB e64 body at_ data = out at *
 generalize hen : (cutP at_ (data.length : Int)).2.1 = en at *
 generalize (cutP at_ (data.length : Int)).1 = ps at *
 generalize base body = bs at *
 have hzl : (zs 832).length = 832 := by simp [zs]
 have hul : IntKind.u32.wrap e64 = e64 % 4294967296 := by rw [IntKind.wrap_u32]
 generalize e64 % 4294967296 = ep at *
 generalize hnd : data.length = nd at *
 generalize hnb : body.length = nb at *
 clear hcut hfr hok
 go_enter Tryd.func81,Tryd.ntmps81
 go_wp2_with (first
  |((with_reducible refine gate_dst (N := 31) rfl ?_);refine l_make1 rfl H 38 5 _ _ rfl 832 rfl rfl Tryd.underlying38 _ rfl _ inf5 (by decide) (by decide) ?_;clear H;intro g14 W H;rw [show List.replicate 832 (Value.int .u8 0) = nums .u8 (zs 832) by simp [nums,zs]] at H)
  |((with_reducible refine gate_dst (N := 34) rfl ?_);refine l_copyC rfl H _ _ _ _ rfl 5 Tryd.underlying38 size5 g14 0 832 832 rfl .head A nb cA rfl body (Kd.C_below hCb H.below) (by rw [hzl];omega) ?_;clear H;intro W H;rw [hbase] at H)
  |(go_at_call 44;(with_reducible refine (FC _).mono ?_);rintro e W ⟨v0,rfl,hR,hb⟩;obtain ⟨Ap,cp,rfl⟩ := Kd.R_slice hR;have HF := H.freezeNew hb;have hSt := Stands.R (F := F0) hR;clear hR hb H;obtain ⟨H,hF⟩ := HF;generalize fn F0 w W = F1 at H hF hSt)
  |(go_at_call 45;(with_reducible refine (FF _ (Kd.C_below hCd H.below)).mono ?_);rintro e W ⟨v1,rfl,hS,hb⟩;obtain ⟨Af,cf,rfl⟩ := Kd.R_slice (Kd.S_R hS);have HF2 := H.freezeNew hb;have hSt2 := fun j hj => fr_stands' (F := F1) (Kd.S_R hS) j hj;clear hS hb H;obtain ⟨H,hF2⟩ := HF2;generalize fn F1 _ W = F2 at H hF2 hSt2))
 have hSp := hSt.mono hF2
 clear hSt FC FF hCb hCd
 have hrf : ∀ j,j < ps.length → rd_T76 (ps.map (fragP ep data)) (j : Int) = fragP ep data (rd_T94 ps j) := fun j hj => by
  unfold rd_T76
  rw [List.getD_eq_getElem?_getD,Int.toNat_natCast,List.getElem?_map,List.getElem?_eq_getElem hj,rd_at ps j hj]
  rfl
 generalize hpn : ps.length = n at *
 go_loopg [45] n (fun gq v45 w' => ∃ j : Nat,v45 = .int .i64 (j : Int) ∧ j + gq = n ∧ Own w F2 [.blk g14 5 (nums .u8 (layA ep data (ps.take j) bs))] w')
 case atStart => exact ⟨0,rfl,by omega,H⟩
 case round =>
  clear H
  obtain ⟨j,rfl,hj,H⟩ := hrel
  by_cases cj : j < n
  ·obtain ⟨gk',rfl⟩ : ∃ q,gk = q + 1 := ⟨gk - 1,by omega⟩
   have q0 : decide (j < n) = true := decide_eq_true cj
   have q1 : ((0 : Int) ≤ (j : Int)) = True := eq_true (by omega)
   have q2 : ((j : Int) < (n : Int)) = True := eq_true (by omega)
   obtain ⟨adf,A2,c2,rfl,hRd,l2,C2⟩ := hSt2 j (by rw [List.length_map];omega)
   rw [hrf j cj] at hRd l2 C2
   have hpc := hps _ (List.getElem_mem (show j < ps.length by omega))
   rw [rd_at ps j (by omega)] at hpc
   have hstep := layA_take (ep := ep) (data := data) ps bs j (by omega)
   rw [rd_at ps j (by omega)] at hstep
   have hll := layA_len (ep := ep) (data := data) (ps.take j) bs (fun q hq => hps q (List.mem_of_mem_take hq)) hbl
   have hSq : ∀ (X : World) (L : List Res),Own w F2 L X → ∃ ad,Ap = some ad ∧ X.cell? (ad.add (j * 4)) = some (.int .i64 (rd_T94 ps j).f0) := fun X L HX => by
    obtain ⟨Aq,cq,eq,lq,Cq⟩ := Kd.R_reads (HX.use hSp)
    injection eq with eq1 eq2 eq3
    subst eq1
    rw [hpn] at Cq
    exact pc_at Cq j cj
   obtain ⟨adp,rfl,-⟩ := hSq _ _ H
   have hPC : ∀ (X : World) (L : List Res),Own w F2 L X → X.cell? (adp.add (j * 4)) = some (.int .i64 (rd_T94 ps j).f0) := fun X L HX => by
    obtain ⟨ad,e,h⟩ := hSq X L HX
    obtain rfl := Option.some.inj e
    exact h
   have hpl2 := pcE_len (ep := ep) hpc
   have hlay : layP ep data (layA ep data (ps.take j) bs) (rd_T94 ps j) = splice (layA ep data (ps.take j) bs) (rd_T94 ps j).f0.toNat (pcE ep data (rd_T94 ps j)) := rfl
   rw [hlay] at hstep
   generalize rd_T94 ps (j : Int) = p at *
   obtain ⟨pa,pk,pf,pt⟩ := p
   obtain ⟨h1,h2,h3,h4,h5,h6,h7,h8⟩ := hpc
   simp only at h1 h2 h3 h4 h5 h6 h7 h8 hPC hpl2
   obtain ⟨at0,rfl⟩ := Int.eq_ofNat_of_zero_le h1
   simp only [fragP] at hRd l2 C2
   have hdl : ((data.take pt.toNat).drop pf.toNat).length = (pt - pf).toNat := by rw [List.length_drop,List.length_take];omega
   have hpcE : pcE ep data ⟨(at0 : Int),pk,pf,pt⟩ = encL pk ep ((data.take pt.toNat).drop pf.toNat) := rfl
   rw [hpcE] at hstep hpl2
   have hrr : rightF pk ((data.take pt.toNat).drop pf.toNat).length = true := by
    unfold rightF
    rw [hdl,decide_eq_true h3.1,decide_eq_true h3.2,decide_eq_true (show (pt - pf).toNat ≤ 197 by omega)]
    rfl
   have hbs := bytes_drop (bytes_take hbd pt.toNat) pf.toNat
   have EN := fun W hC h => encode_ok pk ep ((data.take pt.toNat).drop pf.toNat) A2 c2 W hC l2 hbs he0 h hrr
   have hel := encL_len pk ep ((data.take pt.toNat).drop pf.toNat)
   have hfit : at0 + min (11 + ((data.take pt.toNat).drop pf.toNat).length) (832 - at0) ≤ 832 := by omega
   have hmn : min (11 + ((data.take pt.toNat).drop pf.toNat).length) (832 - at0) = 11 + ((data.take pt.toNat).drop pf.toNat).length := by rw [hdl];omega
   simp only [Int.toNat_natCast] at hstep
   have hat832 : at0 < 832 := by omega
   clear hlay hpcE hrr hbs hpl2 h1 h2 h3 h4 h5 h6 h7 h8 hSq
   generalize encL pk ep ((data.take pt.toNat).drop pf.toNat) = EL at *
   generalize hsl : (data.take pt.toNat).drop pf.toNat = sl at *
   generalize hsn : sl.length = sn at *
   generalize layA ep data (ps.take j) bs = cu at *
   have HST := Aside0.mk hstep
   have HDR := Aside0.mk (drop_blk g14 at0 832 (by omega))
   have HK := Aside0.mk hj
   clear hstep hj hdl hsl
   have hll' : at0 + min (11 + sn) (832 - at0) ≤ cu.length := by rw [hll];exact hfit
   have hEl : EL.length = min (11 + sn) (832 - at0) := by rw [hmn,hel]
   clear hSt2 hrf hps hfit hmn
   go_wp2_with (first
  |((with_reducible refine gate_dst (N := 18) rfl ?_);refine l_allocA rfl H 76 rfl _ zero76 ?_;clear H;intro g18 W H)
  |((with_reducible refine gate_store (t := 76) (p := 18) rfl ?_);refine l_storeW rfl H 76 _ _ rfl _ rfl _ rfl (by (repeat (first|exact In.head|apply In.tail))) _ size76 (by (first|rfl|assumption|omega|(simp only [nums_length];omega)|(simp [nums_length,zs];done)|(simp [nums_length,zs];omega))) (by (first|rfl|assumption|omega|(simp only [nums_length];omega)|(simp [nums_length,zs];done)|(simp [nums_length,zs];omega))) (by (first|exact nums_one|assumption|(intro u hu;simp at hu;subst hu;rfl)|(intro u hu;simp at hu;rcases hu with rfl|rfl|rfl|rfl|rfl|rfl|rfl <;> rfl)|(intro u hu;simp at hu;rcases hu with rfl|rfl|rfl|rfl <;> rfl)|(intro u hu;simp at hu;rcases hu with rfl|rfl|rfl <;> rfl)|(intro u hu;simp at hu;rcases hu with rfl|rfl <;> rfl))) ?_;clear H;intro W H)
  |((with_reducible refine gate_dst (N := 51) rfl ?_);refine l_loadA rfl H 76 _ rfl _ rfl (by (repeat (first|exact In.head|apply In.tail))) _ _ Tryd.underlying76 rfl size76 (by (first|rfl|assumption|omega|(simp only [nums_length];omega)|(simp [nums_length,zs];done)|(simp [nums_length,zs];omega))) ?_)
   |((with_reducible refine gate_dst (N := 49) rfl ?_);refine l_run rfl (.agg #[.int .i64 pk,.int .u32 ep,.slice A2 sn c2]) (r_loadRd0 76 _ rfl rfl (H.use hRd) 3 _ Tryd.underlying76 rfl size76 (by decide) rfl) ?_)
   |(go_at_call 85;(with_reducible refine (EN _ (H.use C2) (hH.below H.below)).mono ?_);rintro e W ⟨A5,c5,rfl,l5,C5,hb⟩;replace H := H.to hb;clear hb)
   |((with_reducible refine gate_dst (N := 60) rfl ?_);refine l_run rfl (.int .i64 (at0 : Int)) (r_loadC 3 _ rfl rfl (hPC _ _ H) _ Tryd.underlying3 rfl) ?_)
   |((with_reducible refine gate_dst (N := 61) rfl ?_);refine l_runV rfl (.slice (some ⟨g14,at0,none⟩) (832 - at0) (832 - at0)) (x_slice_lo _ _ rfl rfl Tryd.underlying38 size5 at0 rfl (Nat.le_of_lt hat832) _) (by rw [HDR.out]) ?_)
   |((with_reducible refine gate_dst (N := 63) rfl ?_);refine l_copyC rfl H _ _ _ _ rfl 5 Tryd.underlying38 size5 g14 at0 (832 - at0) (832 - at0) rfl (.tail .head) A5 (11 + sn) c5 rfl EL (Kd.C_below C5 (Below.refl _ _)) hll' ?_;clear H;intro W H;rw [List.take_of_length_le (Nat.le_of_eq hEl),← HST.out] at H))
   go_roundg gk'
   case measure => have := HK.out;omega
   case rel =>
    have hk := HK.out
    exact ⟨j + 1,congrArg (Value.int .i64) (by omega),by omega,H.del .head⟩
  ·obtain rfl : j = n := by omega
   rw [← hpn,List.take_length] at H
   clear hj cj
   go_wp2
   go_ret3
   exact ⟨g14,rfl,by rw [hadd];exact (H.slack hF2).slack hF⟩
end Go.Proofs.YtaekpfhgdnfciaaDoor.O
end

section
/- image.each: the iterator. -/
set_option linter.unusedVariables false
set_option linter.unusedSimpArgs false
namespace Go.Proofs.YtaekpfhgdnfciaaDoor.O
open Go.RowKit Go.Proofs.YtaekpfhgdnfciaaDoorW.PrintWords Go.Proofs.YtaekpfhgdnfciaaDoorW.PrintLast Go.Proofs.YtaekpfhgdnfciaaDoorW.PrintMore Go.Proofs.YtaekpfhgdnfciaaDoor.F Go.Proofs.YtaekpfhgdnfciaaDoor.F.Nums Go.Proofs.YtaekpfhgdnfciaaDoor.Plain Go.Proofs.YtaekpfhgdnfciaaDoor.Img
attribute [local go_sem] Oper.semAt_some
section
variable {P : Program} {n : Nat} {ops : Array Oper} {Q : Exit → Act → World → Prop}
end
theorem image_each_own {w0 W : World} {F : Nat → Option Obj} {L : List Res} (H : Own w0 F L W) (e64 : Int) (A : Option Addr) (m c : Nat) :
  Calls Tryd.prog 64 #[.int .u64 e64,.slice A m c] W fun e W' => ∃ ge gl,e = .returned (.func (.func 80) #[] #[.pointer (some ⟨gl,0,none⟩),.pointer (some ⟨ge,0,none⟩)]) ∧ Own w0 F (.blk gl 25 [.slice A m c] :: .blk ge 22 [.int .u64 e64] :: L) W' := by
 go_enter Tryd.func64,Tryd.ntmps64
 go_wp2_with (first
  |((with_reducible refine gate_dst (N := 2) rfl ?_);refine l_box1 rfl H 22 _ rfl _ rfl rfl ?_;clear H;intro g2 W H)
  |((with_reducible refine gate_dst (N := 3) rfl ?_);refine l_box1 rfl H 25 _ rfl _ rfl rfl ?_;clear H;intro g3 W H))
 go_ret
 exact ⟨_,_,rfl,H⟩
/-- what a call has made is added to what is owned -/
theorem Own.join1 {w0 W W' : World} {F : Nat → Option Obj} {L : List Res} {r : Res} (H : Own w0 F L W) (h : Own W F0 [r] W') : Own w0 F (r :: L) W' := by
 have ha := h.ats r (by simp)
 refine H.cons h.below ?_ (fun k hk => ha.base hk)
 cases r with
 |blk g t c => exact ⟨Nat.le_trans H.size ha.1,ha.2⟩
 |row v e sz n xs => exact own_weaken ha H.size
/-- record k -/
theorem rec_at {w : World} {A : Option Addr} {n : Nat} {l : List (List Int)} (h : Kd.C (Kd.slice 5 (Kd.int .u8)) w A n l) (k : Nat) (hk : k < n) :
  ∃ ad A2 c2,A = some ad ∧ w.cell? (ad.add k) = some (.slice A2 (l.getD k []).length c2) ∧ (l.getD k []).length ≤ c2 ∧ (Kd.int .u8).C w A2 (l.getD k []).length (l.getD k []) := by
 obtain ⟨ad,c,e,_,hK,hc0⟩ := Kd.C_get h [] (k : Int) (by omega) (by omega)
 obtain ⟨A2,c2,rfl,l2,g2⟩ := hK
 have := hc0 0 _ rfl
 rw [Int.toNat_natCast] at this l2 g2
 exact ⟨ad,A2,c2,e,by rw [show (Kd.slice 5 (Kd.int .u8)).sz = 1 from rfl,Nat.mul_one,Nat.add_zero] at this;exact this,l2,g2⟩
abbrev sl832 (g : Nat) : Value := .slice (some ⟨g,0,none⟩) 832 832
/-- what the iterator owns between rounds, ahead of what it runs for -/
def EIt (e64 : Int) (l : List (List Int)) (A : Option Addr) (c gl ge gx gb : Nat) (a b : Int) (body : List Int) (L : List Res) : List Res :=
 .blk gx 123 [.int .i64 a,.int .i64 b,sl832 gb] :: .blk gb 5 (nums .u8 body) :: .blk gl 25 [.slice A l.length c] :: .blk ge 22 [.int .u64 e64] :: L
set_option maxRecDepth 100000 in
set_option maxHeartbeats 8000000 in
theorem each1_in (e64 : Int) (l : List (List Int)) (A : Option Addr) (c n lp gl ge N : Nat) {w0 W : World} {F1 : Nat → Option Obj} {L0 : List Res} (he : 0 ≤ e64 ∧ e64 ≤ 18446744073709551615) (hl : ∀ x ∈ l,Bytes x) (hll : ∀ x ∈ l,x.length < 140737488355328) (hn : l.length ≤ 1000000)
  (hC : (Kd.slice 5 (Kd.int .u8)).C w0 A l.length l) (hH : Half w0) (hN : ∀ k,k < N → layOk e64 l k = true) (hNl : N ≤ l.length) (hstop : N = l.length ∨ layOk e64 l N = false)
  (RC : Nat → Nat → List Res → Prop) (KF : World → Prop) (h0 : ∀ gb,RC 0 gb L0)
  (hY : ∀ k gx gb gb' L W,k < N → RC k gb L → Own w0 F1 (EIt e64 l A c gl ge gx gb' (layAt e64 l k) (laySt e64 l (k + 1)).2 (laySt e64 l (k + 1)).1 L) W →
   YieldAt Fence.wide n Tryd.prog lp #[.agg #[.int .i64 (layAt e64 l k),.int .i64 (laySt e64 l (k + 1)).2,sl832 gb']] W fun e W' => e = .returned (.bool true) ∧ ∃ L',RC (k + 1) gb' L' ∧ Own w0 F1 (EIt e64 l A c gl ge gx gb' (layAt e64 l k) (laySt e64 l (k + 1)).2 (laySt e64 l (k + 1)).1 L') W')
  (hYF : N < l.length → ∀ gx gb L W,RC N gb L → Own w0 F1 (.blk gx 123 [.int .i64 (layAt e64 l N),.int .i64 0,.slice none 0 0] :: .blk gl 25 [.slice A l.length c] :: .blk ge 22 [.int .u64 e64] :: L) W →
   YieldAt Fence.wide n Tryd.prog lp #[.agg #[.int .i64 (layAt e64 l N),.int .i64 0,.slice none 0 0]] W fun e W' => (∃ b,e = .returned (.bool b)) ∧ KF W')
  (H : Own w0 F1 (.blk gl 25 [.slice A l.length c] :: .blk ge 22 [.int .u64 e64] :: L0) W) :
  CallsIn Fence.wide n Tryd.prog 80 #[.func (.yield lp) #[] #[],.pointer (some ⟨gl,0,none⟩),.pointer (some ⟨ge,0,none⟩)] W fun e W' => (∃ v,e = .returned v) ∧
   ((N = l.length ∧ ∃ gx gb a L,RC N gb L ∧ Own w0 F1 (EIt e64 l A c gl ge gx gb a (laySt e64 l N).2 (laySt e64 l N).1 L) W') ∨ (N < l.length ∧ KF W')) := by
 refine callsIn_of_wp Tryd.func80 rfl trivial ?_ rfl
 simp only [Tryd.ntmps80,List.size_toArray,List.length_cons,List.length_nil,Nat.reduceAdd,Nat.reduceSub,Array.replicate_succ,Array.replicate_zero,List.push_toArray,List.append_toArray,List.nil_append,List.cons_append]
 refine wpIn_seq_k (fun K hK => ?_)
 refine wpIn_wide.2 ?_
 go_wp2_with (first
  |((with_reducible refine gate_dst (N := 4) rfl ?_);refine l_allocA rfl H 123 rfl _ zero123 ?_;clear H;intro g4 W H)
  |((with_reducible refine gate_store (t := 123) (p := 4) rfl ?_);refine l_storeW rfl H 123 _ _ rfl _ rfl _ rfl (by (repeat (first|exact In.head|apply In.tail))) _ size123 (by (first|rfl|assumption|omega|(simp only [nums_length];omega)|(simp [nums_length,zs];done)|(simp [nums_length,zs];omega))) (by (first|rfl|assumption|omega|(simp only [nums_length];omega)|(simp [nums_length,zs];done)|(simp [nums_length,zs];omega))) (by (first|exact nums_one|assumption|(intro u hu;simp at hu;subst hu;rfl)|(intro u hu;simp at hu;rcases hu with rfl|rfl|rfl|rfl|rfl|rfl|rfl <;> rfl)|(intro u hu;simp at hu;rcases hu with rfl|rfl|rfl|rfl <;> rfl)|(intro u hu;simp at hu;rcases hu with rfl|rfl|rfl <;> rfl)|(intro u hu;simp at hu;rcases hu with rfl|rfl <;> rfl))) ?_;clear H;intro W H)
  |((with_reducible refine gate_dst (N := 11) rfl ?_);refine l_make1 rfl H 38 5 _ _ rfl 832 rfl rfl Tryd.underlying38 _ rfl _ inf5 (by decide) (by decide) ?_;clear H;intro gb W H;rw [show List.replicate 832 (Value.int .u8 0) = nums .u8 (zs 832) by simp [nums,zs]] at H))
 simp only [Act.put,List.setIfInBounds_toArray,List.set_cons_zero,List.set_cons_succ]
 refine wpIn_seq_k (fun K2 hK2 => ?_)
 refine wpIn_wide.2 ?_
 go_wp2_with (first
  |((with_reducible refine gate_dst (N := 13) rfl ?_);refine l_load1 rfl H 25 _ rfl _ _ rfl (by (repeat (first|exact In.head|apply In.tail))) _ Tryd.underlying25 rfl _ (by first|rfl|assumption|exact nums_at _ (by omega)) ?_))
 generalize g4 = gx at H ⊢
 have HE : Own w0 F1 (EIt e64 l A c gl ge gx gb 0 (laySt e64 l 0).2 (laySt e64 l 0).1 L0) W := H
 clear H
 refine wpIn_block ?_
 gi_loopw [15] (fun p wr => ∃ (k gb : Nat) (a : Int) (L : List Res),p = .int .i64 (k : Int) ∧ k ≤ N ∧ RC k gb L ∧ Own w0 F1 (EIt e64 l A c gl ge gx gb a (laySt e64 l k).2 (laySt e64 l k).1 L) wr) (fun p _ => l.length - (intOf p).toNat)
 case atStart => exact ⟨0,gb,0,L0,rfl,Nat.zero_le _,h0 gb,HE⟩
 case round =>
  clear HE
  obtain ⟨k,gb,a,L,rfl,hk,hRC,H⟩ := hrel
  unfold EIt at H
  by_cases ck : k < l.length
  ·have q1 : decide (k < l.length) = true := decide_eq_true (by omega)
   have p1 : ((0 : Int) ≤ (k : Int)) = True := eq_true (by omega)
   have p2 : ((k : Int) < (l.length : Int)) = True := eq_true (by omega)
   obtain ⟨ad,A2,c2,rfl,hcell,l2,C2⟩ := rec_at hC k ck
   have hmem : l.getD k [] ∈ l := by rw [List.getD_eq_getElem?_getD,List.getElem?_eq_getElem ck];exact List.getElem_mem ck
   obtain ⟨rk,hrk⟩ : ∃ r,l.getD k [] = r := ⟨_,rfl⟩
   rw [hrk] at hcell l2 C2 hmem
   have hcl : ∀ X : World,Below w0.heap.size w0 X → X.cell? (ad.add k) = some (.slice A2 rk.length c2) := fun X hb => (hb.cell (World.block_lt_of_cell? w0 _ hcell)).trans hcell
   have hbg := begin_eq (laySt e64 l k).2
   have hbl := laySt_len e64 l k
   have hbb := laySt_bytes e64 l hl k
   refine wpIn_seq_k (fun K3 hK3 => ?_)
   refine wpIn_wide.2 ?_
   go_wp2
   refine wpIn_seq_k (fun K4 hK4 => ?_)
   refine wpIn_cond_true rfl ?_
   refine wpIn_skip (hK4 _ _ ?_)
   refine wpIn_seq_k (fun K5 hK5 => ?_)
   refine wpIn_block ?_
   refine wpIn_seq_k (fun K6 hK6 => ?_)
   refine wpIn_wide.2 ?_
   go_wp2_with (first
    |((with_reducible refine gate_dst (N := 18) rfl ?_);refine l_run rfl (.slice A2 rk.length c2) (r_loadC 38 _ rfl rfl (hcl _ H.below) _ Tryd.underlying38 rfl) ?_))
   refine wpIn_seq_k (fun K7 hK7 => ?_)
   refine wpIn_wide.2 ?_
   go_wp2_with (first
  |((with_reducible refine gate_dst (N := 20) rfl ?_);refine l_load1 rfl H 3 _ rfl _ _ rfl (by (repeat (first|exact In.head|apply In.tail))) _ Tryd.underlying3 rfl _ (by first|rfl|assumption|exact nums_at _ (by omega)) ?_)
    |(go_at_call 47;(with_reducible refine (span_Begin.calls _ _ _ hbg).mono ?_);rintro e W ⟨rfl,hb⟩;replace H := H.to hb;clear hb))
   refine wpIn_seq_k (fun K8 hK8 => ?_)
   refine wpIn_wide.2 ?_
   by_cases cN : k < N
   ·have hok := hN k cN
    unfold layOk at hok
    rw [← cutP_begin,hrk] at hok
    have hst1 : (laySt e64 l (k + 1)).1 = addB e64 (laySt e64 l k).1 (bg (cl (laySt e64 l k).2)) rk := by rw [← hrk];exact (addB_begin _ _ _ _).symm
    have hst2 : (laySt e64 l (k + 1)).2 = (cutP (bg (cl (laySt e64 l k).2)) (rk.length : Int)).2.1 := by rw [cutP_begin,← hrk];rfl
    have AD := fun (X : World) (hCb : (Kd.int .u8).C X (some ⟨gb,0,none⟩) (laySt e64 l k).1.length (laySt e64 l k).1) (hb : Below w0.heap.size w0 X) => add_ok e64 (laySt e64 l k).1 rk (some ⟨gb,0,none⟩) A2 832 c2 (bg (cl (laySt e64 l k).2)) X hok hCb (by rw [hbl];decide) hbb (Kd.C_below C2 hb) l2 (hl _ hmem) (hll _ hmem) (hH.below hb)
    rw [← hst1,← hst2,hbl] at AD
    have hCb : ∀ {X : World} {L' : List Res} {cc : Res → List Res},Own w0 F1 L' X → In L' (.blk gb 5 (nums .u8 (laySt e64 l k).1)) cc → (Kd.int .u8).C X (some ⟨gb,0,none⟩) 832 (laySt e64 l k).1 := fun HX hI => by
     have := HX.C hI 0 832 (by rw [hbl];decide) (by decide)
     rwa [List.drop_zero,List.take_of_length_le (by rw [hbl];decide)] at this
    have hYk := hY k gx gb
    rw [show layAt e64 l k = bg (cl (laySt e64 l k).2) from rfl] at hYk
    have HREL : ∀ (X : World) (gb1 : Nat) (a : Int) (L' : List Res),RC (k + 1) gb1 L' → Own w0 F1 (EIt e64 l (some ad) c gl ge gx gb1 a (laySt e64 l (k + 1)).2 (laySt e64 l (k + 1)).1 L') X → ∃ (k' gb : Nat) (a : Int) (L : List Res),Value.int .i64 ((k + 1 : Nat) : Int) = .int .i64 (k' : Int) ∧ k' ≤ N ∧ RC k' gb L ∧ Own w0 F1 (EIt e64 l (some ad) c gl ge gx gb a (laySt e64 l k').2 (laySt e64 l k').1 L) X := fun X gb1 a L' hR HX => ⟨k + 1,gb1,a,L',rfl,cN,hR,HX⟩
    clear hstop hcl hok hbg hN
    generalize bg (cl (laySt e64 l k).2) = atk at *
    generalize hen1 : (laySt e64 l (k + 1)).2 = en1 at *
    generalize hB1 : (laySt e64 l (k + 1)).1 = bd1 at *
    generalize (laySt e64 l k).2 = en0 at *
    generalize (laySt e64 l k).1 = bd0 at *
    generalize hln : rk.length = nk at *
    clear hrk hst1 hst2 hen1 hB1 hln
    go_wp2_with (first
  |((with_reducible refine gate_dst (N := 23) rfl ?_);refine l_load1 rfl H 22 _ rfl _ _ rfl (by (repeat (first|exact In.head|apply In.tail))) _ Tryd.underlying22 rfl _ (by first|rfl|assumption|exact nums_at _ (by omega)) ?_)
  |((with_reducible refine gate_dst (N := 25) rfl ?_);refine l_load1 rfl H 38 _ rfl _ _ rfl (by (repeat (first|exact In.head|apply In.tail))) _ Tryd.underlying38 rfl _ (by first|rfl|assumption|exact nums_at _ (by omega)) ?_)
    |(go_at_call 81;(with_reducible refine (AD _ (hCb H (.tail .head)) H.below).mono ?_);rintro e W ⟨gb1,rfl,hO⟩;replace H := H.join1 hO;clear hO))
    refine wpIn_seq_k (fun K9 hK9 => ?_)
    refine wpIn_wide.2 ?_
    go_wp2_with (first
  |((with_reducible refine gate_store (t := 123) (p := 4) rfl ?_);refine l_storeW rfl H 123 _ _ rfl _ rfl _ rfl (by (repeat (first|exact In.head|apply In.tail))) _ size123 (by (first|rfl|assumption|omega|(simp only [nums_length];omega)|(simp [nums_length,zs];done)|(simp [nums_length,zs];omega))) (by (first|rfl|assumption|omega|(simp only [nums_length];omega)|(simp [nums_length,zs];done)|(simp [nums_length,zs];omega))) (by (first|exact nums_one|assumption|(intro u hu;simp at hu;subst hu;rfl)|(intro u hu;simp at hu;rcases hu with rfl|rfl|rfl|rfl|rfl|rfl|rfl <;> rfl)|(intro u hu;simp at hu;rcases hu with rfl|rfl|rfl|rfl <;> rfl)|(intro u hu;simp at hu;rcases hu with rfl|rfl|rfl <;> rfl)|(intro u hu;simp at hu;rcases hu with rfl|rfl <;> rfl))) ?_;clear H;intro W H))
    simp only [Act.put,List.setIfInBounds_toArray,List.set_cons_zero,List.set_cons_succ]
    have H1 := (H.del (.tail (.tail .head))).perm (List.Perm.swap _ _ _)
    have H2 : Own w0 F1 (EIt e64 l (some ad) c gl ge gx gb1 atk en1 bd1 L) W := H1
    clear H H1 AD hCb
    have hyl := hYk gb1 L W cN hRC H2
    have c0 := H2.cell .head 0
    have c1 := H2.cell .head 1
    have c2 := H2.cell .head 2
    obtain ⟨fn,tmps,assign,body,hy,hR⟩ := hyl
    refine wpIn_seq_k (fun K10 hK10 => ?_)
    gi_wp2
    refine ⟨fun h => by simp [Fence.wide] at h,(RoundIn.mono (⟨hR.1,fun c cs _ => hR.2 c cs (room_wide _)⟩ : RoundIn Fence.wide (n - 1) Tryd.prog lp fn tmps assign body _ _) ?_)⟩
    rintro e W3 ⟨rfl,L',hRC',H3⟩
    gi_wp2
    refine ⟨HREL _ _ _ _ hRC' H3,?_⟩
    have := ck
    simp [intOf]
    omega
   ·obtain rfl : k = N := by omega
    have hno : layOk e64 l k = false := hstop.resolve_left (by omega)
    unfold layOk at hno
    rw [← cutP_begin,hrk] at hno
    have AD := fun (X : World) => add_no e64 (laySt e64 l k).1 rk (some ⟨gb,0,none⟩) A2 832 c2 (bg (cl (laySt e64 l k).2)) X hno
    rw [hbl] at AD
    have hYk := hYF ck gx gb
    rw [show layAt e64 l k = bg (cl (laySt e64 l k).2) from rfl] at hYk
    clear hstop hcl hno hbg hN hrk hY
    generalize bg (cl (laySt e64 l k).2) = atk at *
    generalize (laySt e64 l k).2 = en0 at *
    generalize (laySt e64 l k).1 = bd0 at *
    generalize hln : rk.length = nk at *
    clear hln
    go_wp2_with (first
  |((with_reducible refine gate_dst (N := 23) rfl ?_);refine l_load1 rfl H 22 _ rfl _ _ rfl (by (repeat (first|exact In.head|apply In.tail))) _ Tryd.underlying22 rfl _ (by first|rfl|assumption|exact nums_at _ (by omega)) ?_)
  |((with_reducible refine gate_dst (N := 25) rfl ?_);refine l_load1 rfl H 38 _ rfl _ _ rfl (by (repeat (first|exact In.head|apply In.tail))) _ Tryd.underlying38 rfl _ (by first|rfl|assumption|exact nums_at _ (by omega)) ?_)
    |(go_at_call 81;(with_reducible refine (AD _).mono ?_);rintro e W ⟨rfl,hb⟩;replace H := H.to hb;clear hb))
    refine wpIn_seq_k (fun K9 hK9 => ?_)
    refine wpIn_wide.2 ?_
    go_wp2_with (first
  |((with_reducible refine gate_store (t := 123) (p := 4) rfl ?_);refine l_storeW rfl H 123 _ _ rfl _ rfl _ rfl (by (repeat (first|exact In.head|apply In.tail))) _ size123 (by (first|rfl|assumption|omega|(simp only [nums_length];omega)|(simp [nums_length,zs];done)|(simp [nums_length,zs];omega))) (by (first|rfl|assumption|omega|(simp only [nums_length];omega)|(simp [nums_length,zs];done)|(simp [nums_length,zs];omega))) (by (first|exact nums_one|assumption|(intro u hu;simp at hu;subst hu;rfl)|(intro u hu;simp at hu;rcases hu with rfl|rfl|rfl|rfl|rfl|rfl|rfl <;> rfl)|(intro u hu;simp at hu;rcases hu with rfl|rfl|rfl|rfl <;> rfl)|(intro u hu;simp at hu;rcases hu with rfl|rfl|rfl <;> rfl)|(intro u hu;simp at hu;rcases hu with rfl|rfl <;> rfl))) ?_;clear H;intro W H))
    simp only [Act.put,List.setIfInBounds_toArray,List.set_cons_zero,List.set_cons_succ]
    have H1 := H.del (.tail .head)
    have hyl := hYk L W hRC H1
    have c0 := H1.cell .head 0
    have c1 := H1.cell .head 1
    have c2 := H1.cell .head 2
    obtain ⟨fn,tmps,assign,body,hy,hR⟩ := hyl
    refine wpIn_seq_k (fun K10 hK10 => ?_)
    gi_wp2
    refine ⟨fun h => by simp [Fence.wide] at h,(RoundIn.mono (⟨hR.1,fun c cs _ => hR.2 c cs (room_wide _)⟩ : RoundIn Fence.wide (n - 1) Tryd.prog lp fn tmps assign body _ _) ?_)⟩
    rintro e W3 ⟨⟨b,rfl⟩,hKF⟩
    cases b
    all_goals
     gi_wp2
     refine bodyPost_ret (results_none rfl _ _ _) rfl ?_
     exact ⟨⟨_,rfl⟩,.inr ⟨ck,hKF⟩⟩
  ·have ek : k = l.length := by omega
   subst ek
   have eN : N = l.length := by omega
   have q1 : decide ((l.length : Int) < (l.length : Int)) = false := decide_eq_false (by omega)
   gi_wp2
   go_end0
   exact ⟨⟨_,rfl⟩,.inl ⟨eN,gx,gb,a,L,by rw [eN];exact hRC,by rw [eN];exact H⟩⟩
end Go.Proofs.YtaekpfhgdnfciaaDoor.O
end

section
/- How many of the first records fit. -/
set_option linter.unusedVariables false
set_option linter.unusedSimpArgs false
namespace Go.Proofs.YtaekpfhgdnfciaaDoor.O
open Go.RowKit Go.Proofs.YtaekpfhgdnfciaaDoorW.PrintWords Go.Proofs.YtaekpfhgdnfciaaDoorW.PrintLast Go.Proofs.YtaekpfhgdnfciaaDoorW.PrintMore Go.Proofs.YtaekpfhgdnfciaaDoor.F Go.Proofs.YtaekpfhgdnfciaaDoor.F.Nums Go.Proofs.YtaekpfhgdnfciaaDoor.Plain Go.Proofs.YtaekpfhgdnfciaaDoor.Img
attribute [local go_sem] Oper.semAt_some
/-- how many of the first records fit -/
theorem first_bad (e64 : Int) (l : List (List Int)) : ∃ N,N ≤ l.length ∧ (∀ k,k < N → layOk e64 l k = true) ∧ (N = l.length ∨ layOk e64 l N = false) := by
 have key : ∀ m,m ≤ l.length → (∀ k,k < m → layOk e64 l k = true) ∨ ∃ N,N < m ∧ (∀ k,k < N → layOk e64 l k = true) ∧ layOk e64 l N = false := by
  intro m
  induction m with
  |zero => exact fun _ => .inl fun k hk => absurd hk (Nat.not_lt_zero k)
  |succ m ih =>
   intro hm
   rcases ih (by omega) with h|⟨N,h1,h2,h3⟩
   ·cases hc : layOk e64 l m with
    |true =>
     left
     intro k hk
     by_cases e : k = m
     ·subst e;exact hc
     ·exact h k (by omega)
    |false => exact .inr ⟨m,by omega,h,hc⟩
   ·exact .inr ⟨N,by omega,h2,h3⟩
 rcases key l.length (Nat.le_refl _) with h|⟨N,h1,h2,h3⟩
 ·exact ⟨l.length,Nat.le_refl _,h,.inl rfl⟩
 ·exact ⟨N,by omega,h2,.inr h3⟩
theorem bad_all {e64 : Int} {l : List (List Int)} {N : Nat} (h1 : N ≤ l.length) (h2 : ∀ k,k < N → layOk e64 l k = true) (h3 : N = l.length ∨ layOk e64 l N = false) : layAll e64 l = decide (N = l.length) := by
 by_cases h : N = l.length
 ·rw [decide_eq_true h]
  exact (layAll_iff e64 l).2 (fun k hk => h2 k (by omega))
 ·rw [decide_eq_false h]
  cases ha : layAll e64 l with
  |false => rfl
  |true =>
   have := (layAll_iff e64 l).1 ha N (by omega)
   rw [h3.resolve_left h] at this
   cases this
end Go.Proofs.YtaekpfhgdnfciaaDoor.O
end
