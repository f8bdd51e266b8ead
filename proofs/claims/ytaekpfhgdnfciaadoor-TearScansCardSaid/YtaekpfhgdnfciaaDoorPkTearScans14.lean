/- Texts of mine put together: ImgR, ImgE, ImgL, ImgMore, ScanP, PlanBackM, StrInj, FragRDec, ScanX, ScanL, RestM, ArrX. -/
import Derived.Test.YtaekpfhgdnfciaaDoorPkTearScans11
import Derived.Test.YtaekpfhgdnfciaaDoorPkTearScans13
import Derived.Test.YtaekpfhgdnfciaaDoorPkTearScans7
import Derived.Test.YtaekpfhgdnfciaaDoorPkTearScans6
import Derived.Test.YtaekpfhgdnfciaaDoorPkTearScans8
section
/- The reference's Add and Lay: plain. -/
set_option linter.unusedVariables false
set_option linter.unusedSimpArgs false
namespace Go.Proofs.YtaekpfhgdnfciaaDoor.Img
open Go.RowKit Go.Proofs.YtaekpfhgdnfciaaDoor.F Go.Proofs.YtaekpfhgdnfciaaDoor.F.Nums Go.Proofs.YtaekpfhgdnfciaaDoor.O Go.Proofs.YtaekpfhgdnfciaaDoorW.PrintWords Go.Proofs.YtaekpfhgdnfciaaDoorW.PrintLast Go.Proofs.YtaekpfhgdnfciaaDoorW.PrintMore Go.Proofs.YtaekpfhgdnfciaaDoor.Plain
theorem rnear_eq (a : Int) : strandlineref07_Near.f a = some (cl a) := by
 unfold strandlineref07_Near.f cl
 by_cases h1 : a < 0
 ·rw [if_pos h1,if_pos h1]
 ·by_cases h2 : 832 < a
  ·rw [if_neg h1,if_neg h1,if_pos h2,if_pos h2]
  ·rw [if_neg h1,if_neg h1,if_neg (by omega),if_neg h2]
theorem rleft_l (d : Nat) : ∀ (k : Nat) (at_ n : Int),0 ≤ at_ → at_ ≤ 832 → 0 ≤ n → n ≤ at_ → (832 - at_ : Int) = d → d < k →
  strandlineref07_Left.l0 k at_ n = some (n + if at_ = 832 then 0 else if n = 0 then 208 - at_ % 208 else (208 - at_ % 208) % 208) := by
 induction d with
 |zero =>
  intro k at_ n h0 h1 h2 h3 hd hk
  obtain ⟨k,rfl⟩ : ∃ m,k = m + 1 := ⟨k - 1,by omega⟩
  simp only [strandlineref07_Left.l0]
  rw [if_neg (by omega),if_pos (show at_ = 832 by omega)]
  simp
 |succ d ih =>
  intro k at_ n h0 h1 h2 h3 hd hk
  obtain ⟨k,rfl⟩ : ∃ m,k = m + 1 := ⟨k - 1,by omega⟩
  simp only [strandlineref07_Left.l0]
  rw [if_pos (by omega),tm h0,w64 (n := at_ + 1) (by omega) (by omega),w64 (n := n + 1) (by omega) (by omega)]
  have hr := ih k (at_ + 1) (n + 1) (by omega) (by omega) (by omega) (by omega) (by omega) (by omega)
  rw [if_neg (show ¬ n + 1 = 0 by omega)] at hr
  rw [if_neg (show ¬ at_ = 832 by omega),hr]
  by_cases hn : n = 0
  ·rw [if_pos hn,if_pos hn]
   congr 1
   by_cases h8 : at_ + 1 = 832
   ·rw [if_pos h8];omega
   ·rw [if_neg h8];omega
  ·rw [if_neg hn,if_neg hn]
   by_cases hm : at_ % 208 = 0
   ·rw [if_pos hm]
    congr 1
    omega
   ·rw [if_neg hm]
    congr 1
    by_cases h8 : at_ + 1 = 832
    ·rw [if_pos h8];omega
    ·rw [if_neg h8];omega
theorem rleft_eq (k : Nat) (hk : 832 < k) (a : Int) : strandlineref07_Left.f k a = some (lf (cl a)) := by
 have h0 := cl_lo a
 have h1 := cl_hi a
 unfold strandlineref07_Left.f
 rw [rnear_eq]
 simp only [Option.bind_some]
 rw [rleft_l (832 - cl a).toNat k (cl a) 0 h0 h1 (by omega) h0 (by omega) (by omega)]
 unfold lf
 by_cases h : cl a = 832
 ·rw [if_pos h,if_pos h];rfl
 ·rw [if_neg h,if_neg h,if_pos rfl];simp
theorem rwhere_l (a : Int) (d : Nat) : ∀ (k : Nat) (i : Int),0 ≤ i → i ≤ cl a → (cl a - i : Int) = d → d < k →
  strandlineref07_Where.l0 k a (i / 52) (i % 52) i = some (cl a / 52,cl a % 52) := by
 have h9 := cl_hi a
 induction d with
 |zero =>
  intro k i h0 h1 hd hk
  obtain ⟨k,rfl⟩ : ∃ m,k = m + 1 := ⟨k - 1,by omega⟩
  simp only [strandlineref07_Where.l0]
  rw [rnear_eq]
  simp only [Option.bind_some]
  rw [if_neg (by omega)]
  obtain rfl : i = cl a := by omega
  rfl
 |succ d ih =>
  intro k i h0 h1 hd hk
  obtain ⟨k,rfl⟩ : ∃ m,k = m + 1 := ⟨k - 1,by omega⟩
  simp only [strandlineref07_Where.l0]
  rw [rnear_eq]
  simp only [Option.bind_some]
  rw [if_pos (by omega),w64 (n := i % 52 + 1) (by omega) (by omega),w64 (n := i / 52 + 1) (by omega) (by omega),w64 (n := i + 1) (by omega) (by omega)]
  have hr := ih k (i + 1) (by omega) (by omega) (by omega) (by omega)
  by_cases hm : i % 52 + 1 = 52
  ·rw [if_pos hm,show i / 52 + 1 = (i + 1) / 52 by omega,show (0 : Int) = (i + 1) % 52 by omega]
   exact hr
  ·rw [if_neg hm,show i % 52 + 1 = (i + 1) % 52 by omega,show i / 52 = (i + 1) / 52 by omega]
   exact hr
theorem rwhere_eq (k : Nat) (hk : 832 < k) (a : Int) : strandlineref07_Where.f k a = some (cl a / 52,cl a % 52) := by
 have h0 := cl_lo a
 have h1 := cl_hi a
 unfold strandlineref07_Where.f
 exact rwhere_l a (cl a).toNat k 0 (by omega) (by omega) (by omega) (by omega)
theorem rbegin_l (d : Nat) : ∀ (k : Nat) (at_ off : Int),0 ≤ at_ → at_ ≤ 832 → 41 < off → off ≤ 52 → (at_ + (52 - off)) ≤ 832 → (52 - off : Int) = d → d < k →
  strandlineref07_Begin.l0 k at_ off = some (at_ + (52 - off)) := by
 induction d with
 |zero =>
  intro k at_ off h0 h1 h2 h3 h4 hd hk
  obtain ⟨k,rfl⟩ : ∃ m,k = m + 1 := ⟨k - 1,by omega⟩
  simp only [strandlineref07_Begin.l0]
  rw [show at_ + (52 - off) = at_ by omega,if_neg (show ¬ off < 52 by omega)]
  simp
 |succ d ih =>
  intro k at_ off h0 h1 h2 h3 h4 hd hk
  obtain ⟨k,rfl⟩ : ∃ m,k = m + 1 := ⟨k - 1,by omega⟩
  simp only [strandlineref07_Begin.l0]
  rw [if_pos (by omega),if_pos (by omega),if_pos (by omega),w64 (n := at_ + 1) (by omega) (by omega),w64 (n := off + 1) (by omega) (by omega)]
  rw [ih k (at_ + 1) (off + 1) (by omega) (by omega) (by omega) (by omega) (by omega) (by omega) (by omega)]
  congr 1
  omega
theorem rbegin_eq (k : Nat) (hk : 832 < k) (a : Int) : strandlineref07_Begin.f k a = some (bg (cl a)) := by
 have h0 := cl_lo a
 have h1 := cl_hi a
 unfold strandlineref07_Begin.f
 rw [rnear_eq]
 simp only [Option.bind_some]
 rw [rwhere_eq k hk,cl_cl]
 simp only [Option.bind_some]
 unfold bg
 by_cases h : 41 < cl a % 52
 ·rw [if_pos h,rbegin_l (52 - cl a % 52).toNat k (cl a) (cl a % 52) h0 h1 h (by omega) (by omega) (by omega) (by omega)]
 ·rw [if_neg h]
  obtain ⟨k,rfl⟩ : ∃ m,k = m + 1 := ⟨k - 1,by omega⟩
  simp only [strandlineref07_Begin.l0]
  rw [if_neg (show ¬ cl a % 52 > 41 by omega)]
  simp
def raw (ps : List (Int × Int × Int)) : List S94 := ps.map fun t => ⟨t.1,3,t.2.1,t.2.2⟩
theorem rcut_l (m : Nat) : ∀ (k : Nat) (at_ n from_ : Int) (out : List S94),2 * m + 1000 < k → 0 ≤ from_ → from_ ≤ n → from_ ≤ cl at_ → n ≤ 9223372036854775807 → out.length + m < 1000 → 832 - bg (cl at_) ≤ 208 * m → (out = [] ∨ from_ < n) →
  strandlineref14_Cut.l0 k at_ n out from_ = (match cutS m at_ n from_ with|none => some ([],0,false)|some p => strandlineref14_Cut.j1 1 p.2 n (out ++ raw p.1) n false) := by
 induction m with
 |zero =>
  intro k at_ n from_ out hk h0 hn hf hn2 ho hm hor
  have h1 := cl_hi at_
  have hb1 := bg_hi h1
  obtain ⟨k,rfl⟩ : ∃ j,k = j + 2 := ⟨k - 2,by omega⟩
  have e : strandlineref14_Cut.l0 (k + 2) at_ n out from_ = strandlineref14_Cut.j1 (k + 1) at_ n out from_ true := by
   simp only [strandlineref14_Cut.l0]
   by_cases hl : (out.length : Int) = 0
   ·rw [if_pos hl]
   ·rw [if_neg hl,show decide (from_ < n) = true by rcases hor with rfl|h <;> simp_all]
  rw [e]
  simp only [strandlineref14_Cut.j1,if_true]
  rw [rbegin_eq k (by omega)]
  simp only [Option.bind_some]
  rw [if_pos (by omega)]
  rfl
 |succ m ih =>
  intro k at_ n from_ out hk h0 hn hf hn2 ho hm hor
  have c0 := cl_lo at_
  have c1 := cl_hi at_
  have hb0 := bg_lo c0
  have hb1 := bg_hi c1
  have hbm := bg_mod (cl at_)
  have hbg := bg_ge (cl at_)
  obtain ⟨k,rfl⟩ : ∃ j,k = j + 2 := ⟨k - 2,by omega⟩
  have e : strandlineref14_Cut.l0 (k + 2) at_ n out from_ = strandlineref14_Cut.j1 (k + 1) at_ n out from_ true := by
   simp only [strandlineref14_Cut.l0]
   by_cases hl : (out.length : Int) = 0
   ·rw [if_pos hl]
   ·rw [if_neg hl,show decide (from_ < n) = true by rcases hor with rfl|h <;> simp_all]
  rw [e]
  simp only [strandlineref14_Cut.j1,if_true]
  rw [rbegin_eq k (by omega)]
  simp only [Option.bind_some]
  unfold cutS
  by_cases h8 : bg (cl at_) = 832
  ·rw [if_pos (by omega),if_pos h8]
  ·obtain ⟨l1,l2,l3,l4⟩ := lf_ge hb0 hb1 hbm h8
   rw [if_neg (by omega),if_neg h8,rleft_eq k (by omega),cl_in hb0 hb1]
   simp only [Option.bind_some]
   rw [w64 (n := lf (bg (cl at_)) - 11) (by omega) (by omega),w64 (n := n - from_) (by omega) (by omega),w64 (n := bg (cl at_) + 11) (by omega) (by omega)]
   by_cases hc : n ≤ from_ + (lf (bg (cl at_)) - 11)
   ·rw [if_neg (by omega),if_pos (by omega),if_pos hc,w64 (n := from_ + (n - from_)) (by omega) (by omega),w64 (n := bg (cl at_) + 11 + (n - from_)) (by omega) (by omega),show from_ + (n - from_) = n by omega]
    obtain ⟨k,rfl⟩ : ∃ j,k = j + 2 := ⟨k - 2,by omega⟩
    simp only [strandlineref14_Cut.l0]
    rw [if_neg (by simp;omega),show decide (n < n) = false by simp]
    simp only [strandlineref14_Cut.j1]
    rfl
   ·rw [if_pos (by omega),if_pos (by omega),if_neg hc,w64 (n := from_ + (lf (bg (cl at_)) - 11)) (by omega) (by omega),w64 (n := bg (cl at_) + 11 + (lf (bg (cl at_)) - 11)) (by omega) (by omega),show bg (cl at_) + 11 + (lf (bg (cl at_)) - 11) = bg (cl at_) + lf (bg (cl at_)) by omega]
    rw [ih k _ n _ _ (by omega) (by omega) (by omega) (by rw [cl_in (by omega) l3];omega) hn2 (by simp;omega) (by rw [cl_in (by omega) l3,bg_block l4];omega) (.inr (by omega))]
    cases hs : cutS m (bg (cl at_) + lf (bg (cl at_))) n (from_ + (lf (bg (cl at_)) - 11)) with
    |none => rfl
    |some p =>
     simp only [Option.map_some,raw,List.map_cons]
     rw [List.append_assoc]
     rfl
theorem rfix (ps : List (Int × Int × Int)) (e n : Int) (h0 : ps ≠ []) (h4 : ps.length ≤ 4) : strandlineref14_Cut.j1 1 e n (raw ps) n false = some (mkP true ps,e,true) := by
 match ps,h0,h4 with
 |[t],_,_ => simp [strandlineref14_Cut.j1,raw,rd_T94,mkP,pc,wrap64]
 |[t,u],_,_ => simp [strandlineref14_Cut.j1,raw,rd_T94,mkP,pc,wrap64]
 |[t,u,v],_,_ => simp [strandlineref14_Cut.j1,raw,rd_T94,mkP,pc,wrap64]
 |[t,u,v,x],_,_ => simp [strandlineref14_Cut.j1,raw,rd_T94,mkP,pc,wrap64]
theorem rcut_eq (k : Nat) (hk : 1100 < k) (at_ n : Int) (hn2 : n ≤ 9223372036854775807) : strandlineref14_Cut.f k at_ n = some (cutP at_ n) := by
 have c0 := cl_lo at_
 have hb0 := bg_lo c0
 unfold strandlineref14_Cut.f cutP
 by_cases h1 : n < 0
 ·rw [if_pos h1,if_pos (.inl h1)]
 ·rw [if_neg h1,rcut_l 4 k at_ n 0 [] (by omega) (by omega) (by omega) c0 hn2 (by simp) (by omega) (.inl rfl)]
  cases hs : cutS 4 at_ n 0 with
  |none =>
   simp only [cutR]
   split <;> rfl
  |some p =>
   have hb := cutS_bound c0 (by omega) hs
   rw [if_neg (by omega)]
   simp only [cutR,List.nil_append]
   exact rfix p.1 p.2 n (cutS_ne hs) (cutS_len hs)
theorem rbytes_up (kind ep : Int) (data r : List Int) (k0 : Nat) (h : strandlineref13_Bytes.f k0 kind ep data = some r) : ∀ d,strandlineref13_Bytes.f (k0 + d) kind ep data = some r := by
 intro d
 induction d with
 |zero => exact h
 |succ d ih => exact strandlineref13_Bytes.mono kind ep data (k0 + d) r ih
theorem rbytes_any {ep : Int} {data : List Int} {p : Pc} (hp : PcOk data p) (hd : Bytes data) (he : 0 ≤ ep ∧ ep ≤ 4294967295) (k : Nat) (hk : 2200 ≤ k) :
  strandlineref13_Bytes.f k p.f1 ep ((data.take p.f3.toNat).drop p.f2.toNat) = some (pcE ep data p) := by
 obtain ⟨h1,h2,h3,h4,h5,h6,h7,h8⟩ := hp
 have hl : ((data.take p.f3.toNat).drop p.f2.toNat).length = (p.f3 - p.f2).toNat := by rw [List.length_drop,List.length_take];omega
 have hr : rightF p.f1 ((data.take p.f3.toNat).drop p.f2.toNat).length = true := by
  unfold rightF
  rw [hl,decide_eq_true h3.1,decide_eq_true h3.2,decide_eq_true (show (p.f3 - p.f2).toNat ≤ 197 by omega)]
  rfl
 have h := rbytes_eq p.f1 ep _ hr he (bytes_drop (bytes_take hd _) _)
 have hb := bodyL_len p.f1 ep ((data.take p.f3.toNat).drop p.f2.toNat)
 obtain ⟨d,hd2⟩ : ∃ d,k = 100 + 10 * (bodyL p.f1 ep ((data.take p.f3.toNat).drop p.f2.toNat)).length + 1 + d := ⟨k - (100 + 10 * (bodyL p.f1 ep ((data.take p.f3.toNat).drop p.f2.toNat)).length + 1),by omega⟩
 rw [hd2]
 exact rbytes_up _ _ _ _ _ h d
theorem splice_step {cur E : List Int} {o q : Nat} (hq : q < E.length) (hf : o + E.length ≤ cur.length) : (splice cur o (E.take q)).set (o + q) (E.getD q 0) = splice cur o (E.take (q + 1)) := by
 have e1 : E.take (q + 1) = E.take q ++ [E.getD q 0] := by rw [List.take_add_one,List.getElem?_eq_getElem hq,List.getD_eq_getElem?_getD,List.getElem?_eq_getElem hq];rfl
 have l1 : (E.take q).length = q := by rw [List.length_take];omega
 unfold splice
 rw [e1,l1,List.length_append,l1,List.length_singleton]
 have l0 : (cur.take o).length = o := by rw [List.length_take];omega
 rw [List.set_append_right _ _ (by omega),l0,Nat.add_sub_cancel_left,List.set_append_right _ _ (by omega),l1,Nat.sub_self]
 have e2 : cur.drop (o + q) = cur.getD (o + q) 0 :: cur.drop (o + (q + 1)) := by
  rw [List.drop_eq_getElem_cons (by omega),List.getD_eq_getElem?_getD,List.getElem?_eq_getElem (by omega)]
  rfl
 rw [e2,List.set_cons_zero]
 simp
theorem radd_l2 (x0 : Int) (data : List Int) (ps : List Pc) (en : Int) (E cur : List Int) (i o : Nat) (hi : i < ps.length) (hn : ps.length < 1000) (ho : (rd_T94 ps i).f0 = (o : Int)) (hf : o + E.length ≤ cur.length) (hc : cur.length = 832) (d : Nat) :
  ∀ (k q : Nat),q + d = E.length → strandlineref17_Add.l2 (k + d + 1) x0 data ps en (splice cur o (E.take q)) i E q = strandlineref17_Add.l1 k x0 data ps en (splice cur o E) ((i + 1 : Nat) : Int) := by
 induction d with
 |zero =>
  intro k q hq
  simp only [Nat.add_zero,strandlineref17_Add.l2]
  rw [if_neg (by omega),List.take_of_length_le (by omega),w64 (by omega) (by omega)]
  rfl
 |succ d ih =>
  intro k q hq
  have hs := splice_step (cur := cur) (E := E) (o := o) (q := q) (by omega) hf
  have hlen : (splice cur o (E.take q)).length = 832 := by
   unfold splice
   simp
   omega
  rw [show k + (d + 1) + 1 = (k + d + 1) + 1 by omega]
  have ihq := ih k (q + 1) (by omega)
  generalize k + d + 1 = m at ihq ⊢
  simp only [strandlineref17_Add.l2]
  rw [ho,w64 (n := (o : Int) + (q : Int)) (by omega) (by omega),w64 (n := (q : Int) + 1) (by omega) (by omega)]
  rw [if_pos (by omega),if_pos (by omega),if_pos (by omega),if_pos (by omega),if_pos (by omega),if_pos (by rw [hlen];omega)]
  have e1 : ((o : Int) + (q : Int)).toNat = o + q := by omega
  have e2 : rd E (q : Int) = E.getD q 0 := by unfold rd;rw [Int.toNat_natCast]
  rw [e1,e2,hs]
  exact ihq
set_option maxRecDepth 100000 in
theorem radd_l1 (x0 : Int) (data : List Int) (ps : List Pc) (en : Int) (hx : 0 ≤ x0) (hd : Bytes data) (hps : ∀ p ∈ ps,PcOk data p) (hn : ps.length < 1000) (d : Nat) :
  ∀ (k i : Nat) (cur : List Int),i + d = ps.length → cur.length = 832 → 2300 + 300 * d ≤ k → strandlineref17_Add.l1 k x0 data ps en cur i = some (layA (x0 % 4294967296) data (ps.drop i) cur,en,true) := by
 have hep : (Int.tmod x0 4294967296) % 4294967296 = x0 % 4294967296 := by rw [tm hx];omega
 induction d with
 |zero =>
  intro k i cur hi hc hk
  obtain ⟨k,rfl⟩ : ∃ j,k = j + 1 := ⟨k - 1,by omega⟩
  simp only [strandlineref17_Add.l1]
  rw [if_neg (by omega),List.drop_of_length_le (by omega)]
  rfl
 |succ d ih =>
  intro k i cur hi hc hk
  have hlt : i < ps.length := by omega
  have hp := hps _ (List.getElem_mem hlt)
  rw [rd_at ps i hlt] at hp
  have hE := pcE_len (ep := x0 % 4294967296) hp
  have hb := rbytes_any (ep := x0 % 4294967296) hp hd (by omega)
  have hdr : ps.drop i = rd_T94 ps i :: ps.drop (i + 1) := by rw [List.drop_eq_getElem_cons hlt,rd_at ps i hlt]
  have hll := layP_len (ep := x0 % 4294967296) (cur := cur) hp hc
  rw [hdr]
  obtain ⟨h1,h2,h3,h4,h5,h6,h7,h8⟩ := hp
  obtain ⟨o,ho⟩ := Int.eq_ofNat_of_zero_le h1
  obtain ⟨k,rfl⟩ : ∃ j,k = j + (pcE (x0 % 4294967296) data (rd_T94 ps i)).length + 2 := ⟨k - (pcE (x0 % 4294967296) data (rd_T94 ps i)).length - 2,by omega⟩
  have hl2 := radd_l2 x0 data ps en (pcE (x0 % 4294967296) data (rd_T94 ps i)) cur i o hlt hn ho (by omega) hc _ k 0 (Nat.zero_add _)
  rw [show splice cur o ((pcE (x0 % 4294967296) data (rd_T94 ps i)).take 0) = cur by simp [splice]] at hl2
  have hlp : splice cur o (pcE (x0 % 4294967296) data (rd_T94 ps i)) = layP (x0 % 4294967296) data cur (rd_T94 ps i) := by unfold layP;rw [ho,Int.toNat_natCast]
  rw [hlp] at hl2
  rw [show k + (pcE (x0 % 4294967296) data (rd_T94 ps i)).length + 2 = (k + (pcE (x0 % 4294967296) data (rd_T94 ps i)).length + 1) + 1 by omega]
  have hkk : 2200 ≤ k + (pcE (x0 % 4294967296) data (rd_T94 ps i)).length + 1 := by omega
  generalize k + (pcE (x0 % 4294967296) data (rd_T94 ps i)).length + 1 = m at hl2 hkk ⊢
  simp only [strandlineref17_Add.l1]
  rw [if_pos (by omega),if_pos (by omega),if_pos h4,if_pos h5,if_pos h6,hep,hb _ hkk,Option.bind_some]
  rw [show ((0 : Nat) : Int) = 0 from rfl] at hl2
  rw [hl2]
  exact ih k (i + 1) _ (by omega) hll (by omega)
theorem radd_l0 (x0 : Int) (body data : List Int) (ps : List Pc) (en : Int) (hb : body.length ≤ 9000000000000) (d : Nat) :
  ∀ (k q : Nat),q + d = min 832 body.length → strandlineref17_Add.l0 (k + d + 1) x0 body data ps en (body.take q ++ zs (832 - q)) q = strandlineref17_Add.j1 k x0 data ps en (base body) := by
 induction d with
 |zero =>
  intro k q hq
  have hbase : body.take q ++ zs (832 - q) = base body := by
   unfold base
   by_cases h : body.length ≤ 832
   ·rw [show q = body.length by omega,List.take_of_length_le (l := body) (i := 832) h,List.take_of_length_le (Nat.le_refl _)]
   ·rw [show q = 832 by omega,show 832 - body.length = 0 by omega,Nat.sub_self]
  simp only [Nat.add_zero,strandlineref17_Add.l0]
  rw [hbase]
  by_cases h : q < 832
  ·rw [if_pos (by omega),if_neg (by omega)]
  ·rw [if_neg (by omega)]
 |succ d ih =>
  intro k q hq
  have hlt : q < body.length := by omega
  have hlen : (body.take q ++ zs (832 - q)).length = 832 := by rw [List.length_append,List.length_take];simp [zs];omega
  have hset : (body.take q ++ zs (832 - q)).set q (body.getD q 0) = body.take (q + 1) ++ zs (832 - (q + 1)) := by
   have h1 : (body.take q).length = q := by rw [List.length_take];omega
   have h2 : body.take (q + 1) = body.take q ++ [body.getD q 0] := by rw [List.take_add_one,List.getElem?_eq_getElem hlt,List.getD_eq_getElem?_getD,List.getElem?_eq_getElem hlt];rfl
   rw [h2,List.set_append_right _ _ (by omega),h1,Nat.sub_self,show 832 - q = (832 - (q + 1)) + 1 by omega]
   simp [zs,List.replicate_succ]
  rw [show k + (d + 1) + 1 = (k + d + 1) + 1 by omega]
  have ihq := ih k (q + 1) (by omega)
  generalize k + d + 1 = m at ihq ⊢
  simp only [strandlineref17_Add.l0]
  rw [if_pos (by omega),if_pos (by omega),if_pos (by omega),if_pos (by rw [hlen];omega),w64 (by omega) (by omega),Int.toNat_natCast,show rd body (q : Int) = body.getD q 0 by unfold rd;rw [Int.toNat_natCast],hset]
  exact ihq
/-- what the reference's Add answers -/
def addR (e64 : Int) (body : List Int) (at_ : Int) (data : List Int) : List Int × Int × Bool := if (cutP at_ (data.length : Int)).2.2 = true then (addB e64 body at_ data,(cutP at_ (data.length : Int)).2.1,true) else ([],0,false)
theorem radd_eq (k : Nat) (hk : 6000 ≤ k) (e64 : Int) (body : List Int) (at_ : Int) (data : List Int) (he : 0 ≤ e64) (hd : Bytes data) (hb : body.length ≤ 9000000000000) (hdl : data.length ≤ 140737488355328) : strandlineref17_Add.f k e64 body at_ data = some (addR e64 body at_ data) := by
 unfold strandlineref17_Add.f addR
 rw [rcut_eq k (by omega) at_ _ (by omega),Option.bind_some]
 by_cases h : (cutP at_ (data.length : Int)).2.2 = true
 ·rw [if_pos h,if_pos h,if_pos (by decide)]
  obtain ⟨k,rfl⟩ : ∃ j,k = j + 1 + min 832 body.length + 1 := ⟨k - min 832 body.length - 2,by omega⟩
  have h0 := radd_l0 e64 body data (cutP at_ (data.length : Int)).1 (cutP at_ (data.length : Int)).2.1 hb (min 832 body.length) (k + 1) 0 (by omega)
  rw [List.take_zero,List.nil_append,show zs (832 - 0) = List.replicate 832 (0 : Int) from rfl] at h0
  rw [show ((0 : Nat) : Int) = 0 from rfl] at h0
  rw [h0]
  simp only [strandlineref17_Add.j1]
  have hl := cutP_len at_ (data.length : Int)
  have h1 := radd_l1 e64 data (cutP at_ (data.length : Int)).1 (cutP at_ (data.length : Int)).2.1 he hd (cutP_pcs at_ data) (by omega) (cutP at_ (data.length : Int)).1.length k 0 (base body) (Nat.zero_add _) (base_len body) (by omega)
  rw [show ((0 : Nat) : Int) = 0 from rfl] at h1
  rw [h1]
  rfl
 ·rw [if_neg h,if_neg h]
end Go.Proofs.YtaekpfhgdnfciaaDoor.Img
end

section
/- Where a record's end lies: plain. -/
set_option linter.unusedVariables false
set_option linter.unusedSimpArgs false
namespace Go.Proofs.YtaekpfhgdnfciaaDoor.Img
open Go.RowKit Go.Proofs.YtaekpfhgdnfciaaDoor.F Go.Proofs.YtaekpfhgdnfciaaDoor.F.Nums Go.Proofs.YtaekpfhgdnfciaaDoor.O Go.Proofs.YtaekpfhgdnfciaaDoorW.PrintWords Go.Proofs.YtaekpfhgdnfciaaDoorW.PrintLast Go.Proofs.YtaekpfhgdnfciaaDoorW.PrintMore Go.Proofs.YtaekpfhgdnfciaaDoor.Plain
theorem cutS_low {m : Nat} : ∀ {at_ n from_ : Int} {p : List (Int × Int × Int) × Int},from_ ≤ n → cutS m at_ n from_ = some p → bg (cl at_) + 11 ≤ p.2 ∧ ∀ t ∈ p.1,bg (cl at_) ≤ t.1 := by
 induction m with
 |zero => intro _ _ _ _ _ h;cases h
 |succ m ih =>
  intro at_ n from_ p hn h
  have h0 := cl_lo at_
  have h1 := cl_hi at_
  have hb0 := bg_lo h0
  have hb1 := bg_hi h1
  have hbm := bg_mod (cl at_)
  unfold cutS at h
  split at h
  ·cases h
  ·rename_i h8
   obtain ⟨l1,l2,l3,l4⟩ := lf_ge hb0 hb1 hbm h8
   split at h
   ·obtain rfl := Option.some.inj h
    refine ⟨by simp only;omega,fun t ht => ?_⟩
    rw [List.mem_singleton] at ht
    subst ht
    exact Int.le_refl _
   ·obtain ⟨q,hq,rfl⟩ := Option.map_eq_some_iff.mp h
    obtain ⟨i1,i2⟩ := ih (by omega) hq
    rw [cl_in (by omega) l3,bg_block l4] at i1 i2
    refine ⟨by simp only;omega,fun t ht => ?_⟩
    rcases List.mem_cons.1 ht with rfl|ht
    ·exact Int.le_refl _
    ·have := i2 t ht;omega
theorem mkP_mem : ∀ (ts : List (Int × Int × Int)) (f : Bool) (p : Pc),p ∈ mkP f ts → ∃ t ∈ ts,p.f0 = t.1 := by
 intro ts
 induction ts with
 |nil => intro f p hp;simp [mkP] at hp
 |cons t rest ih =>
  intro f p hp
  cases rest with
  |nil =>
   simp only [mkP,List.mem_singleton] at hp
   subst hp
   exact ⟨t,List.mem_cons_self ..,rfl⟩
  |cons u rest =>
   simp only [mkP,List.mem_cons] at hp
   rcases hp with rfl|hp
   ·exact ⟨t,List.mem_cons_self ..,rfl⟩
   ·obtain ⟨t',ht,e⟩ := ih false p hp
    exact ⟨t',List.mem_cons_of_mem _ ht,e⟩
theorem cutP_low (at_ n : Int) (hn : 0 ≤ n) : ((cutP at_ n).2.2 = true → bg (cl at_) + 11 ≤ (cutP at_ n).2.1) ∧ ∀ p ∈ (cutP at_ n).1,bg (cl at_) ≤ p.f0 := by
 unfold cutP
 split
 ·exact ⟨fun h => (by cases h),fun p hp => (by cases hp)⟩
 ·cases hs : cutS 4 at_ n 0 with
  |none => exact ⟨fun h => (by cases h),fun p hp => (by cases hp)⟩
  |some q =>
   obtain ⟨i1,i2⟩ := cutS_low hn hs
   refine ⟨fun _ => i1,fun p hp => ?_⟩
   simp only [cutR,List.nil_append] at hp
   obtain ⟨t,ht,e⟩ := mkP_mem _ _ _ hp
   rw [e]
   exact i2 t ht
theorem end_more (e : Int) (h0 : 0 ≤ e) (h1 : e ≤ 832) (n : Int) (hn : 0 ≤ n) (h : (cutP e n).2.2 = true) : e < (cutP e n).2.1 := by
 have := (cutP_low e n hn).1 h
 have h2 := bg_ge (cl e)
 rw [cl_in h0 h1] at this h2
 omega
end Go.Proofs.YtaekpfhgdnfciaaDoor.Img
end

section
/- Records laid one behind another: plain; the reference's Lay. -/
set_option linter.unusedVariables false
set_option linter.unusedSimpArgs false
namespace Go.Proofs.YtaekpfhgdnfciaaDoor.Img
open Go.RowKit Go.Proofs.YtaekpfhgdnfciaaDoor.F Go.Proofs.YtaekpfhgdnfciaaDoor.F.Nums Go.Proofs.YtaekpfhgdnfciaaDoor.O Go.Proofs.YtaekpfhgdnfciaaDoorW.PrintWords Go.Proofs.YtaekpfhgdnfciaaDoorW.PrintLast Go.Proofs.YtaekpfhgdnfciaaDoorW.PrintMore Go.Proofs.YtaekpfhgdnfciaaDoor.Plain
theorem cutS_begin (m : Nat) (e n f : Int) : cutS m (bg (cl e)) n f = cutS m e n f := by
 have h0 := bg_lo (cl_lo e)
 have h1 := bg_hi (cl_hi e)
 cases m with
 |zero => rfl
 |succ m => unfold cutS;rw [cl_in h0 h1,bg_bg]
theorem cutP_begin (e n : Int) : cutP (bg (cl e)) n = cutP e n := by unfold cutP;rw [cutS_begin]
theorem addB_begin (e64 : Int) (body : List Int) (e : Int) (data : List Int) : addB e64 body (bg (cl e)) data = addB e64 body e data := by unfold addB;rw [cutP_begin]
/-- body and end behind the first k records -/
def laySt (e64 : Int) (l : List (List Int)) : Nat → List Int × Int
 |0 => (zs 832,0)
 |k + 1 => (addB e64 (laySt e64 l k).1 (laySt e64 l k).2 (l.getD k []),(cutP (laySt e64 l k).2 ((l.getD k []).length : Int)).2.1)
/-- does record k fit? -/
def layOk (e64 : Int) (l : List (List Int)) (k : Nat) : Bool := (cutP (laySt e64 l k).2 ((l.getD k []).length : Int)).2.2
/-- where record k begins -/
def layAt (e64 : Int) (l : List (List Int)) (k : Nat) : Int := bg (cl (laySt e64 l k).2)
def layPl (e64 : Int) (l : List (List Int)) (k : Nat) : List Int := (List.range k).map (layAt e64 l)
theorem layPl_len (e64 : Int) (l : List (List Int)) (k : Nat) : (layPl e64 l k).length = k := by simp [layPl]
theorem layPl_succ (e64 : Int) (l : List (List Int)) (k : Nat) : layPl e64 l (k + 1) = layPl e64 l k ++ [layAt e64 l k] := by simp [layPl,List.range_succ]
theorem laySt_len (e64 : Int) (l : List (List Int)) (k : Nat) : (laySt e64 l k).1.length = 832 := by
 cases k with
 |zero => exact List.length_replicate
 |succ k => exact addB_len _ _ _ _
theorem laySt_bytes (e64 : Int) (l : List (List Int)) (hl : ∀ x ∈ l,Bytes x) (k : Nat) : Bytes (laySt e64 l k).1 := by
 induction k with
 |zero => exact bytes_zs 832
 |succ k ih =>
  refine addB_bytes e64 _ ih ?_
  rw [List.getD_eq_getElem?_getD]
  cases h : l[k]? with
  |none => intro c hc;cases hc
  |some x => exact hl x (List.mem_of_getElem? h)
theorem laySt_end (e64 : Int) (l : List (List Int)) (k : Nat) : 0 ≤ (laySt e64 l k).2 ∧ (laySt e64 l k).2 ≤ 832 := by
 cases k with
 |zero => exact ⟨Int.le_refl _,show (0 : Int) ≤ 832 by decide⟩
 |succ k =>
  show 0 ≤ (cutP (laySt e64 l k).2 ((l.getD k []).length : Int)).2.1 ∧ (cutP (laySt e64 l k).2 ((l.getD k []).length : Int)).2.1 ≤ 832
  unfold cutP
  split
  ·exact ⟨Int.le_refl _,by decide⟩
  ·cases hs : cutS 4 (laySt e64 l k).2 ((l.getD k []).length : Int) 0 with
   |none => exact ⟨Int.le_refl _,by decide⟩
   |some p =>
    have := cutS_bound (cl_lo _) (by omega) hs
    exact ⟨this.2.1,this.2.2⟩
/-- do all records fit? -/
def layAll (e64 : Int) (l : List (List Int)) : Bool := (List.range l.length).all (layOk e64 l)
theorem layAll_iff (e64 : Int) (l : List (List Int)) : layAll e64 l = true ↔ ∀ k,k < l.length → layOk e64 l k = true := by
 unfold layAll
 rw [List.all_eq_true]
 simp
/-- what Lay answers -/
def layR (e64 : Int) (l : List (List Int)) : List Int × List Int × Int × Bool := if layAll e64 l = true then ((laySt e64 l l.length).1,layPl e64 l l.length,(laySt e64 l l.length).2,true) else ([],[],0,false)
theorem lay_small (e64 : Int) (l : List (List Int)) : ∀ i : Nat,(∀ j,j < i → layOk e64 l j = true) → 11 * (i : Int) ≤ (laySt e64 l i).2 := by
 intro i
 induction i with
 |zero => intro _;exact Int.le_refl _
 |succ i ih =>
  intro h
  have h1 := ih (fun j hj => h j (by omega))
  have h2 := laySt_end e64 l i
  have h3 := (cutP_low (laySt e64 l i).2 ((l.getD i []).length : Int) (by omega)).1 (h i (by omega))
  have h4 := bg_ge (cl (laySt e64 l i).2)
  rw [cl_in h2.1 h2.2] at h3 h4
  have h5 : (laySt e64 l (i + 1)).2 = (cutP (laySt e64 l i).2 ((l.getD i []).length : Int)).2.1 := rfl
  omega
set_option maxRecDepth 100000 in
theorem rlay_l0 (e64 : Int) (l : List (List Int)) (he : 0 ≤ e64) (hl : ∀ x ∈ l,Bytes x) (hll : ∀ x ∈ l,x.length ≤ 140737488355328) (hn : l.length ≤ 9000000000000) (d : Nat) :
  ∀ (k i : Nat),i + d = l.length → (∀ j,j < i → layOk e64 l j = true) → 7000 + d ≤ k →
  strandlineref17_Lay.l0 k e64 l (laySt e64 l i).1 (layPl e64 l i) (laySt e64 l i).2 i = some (layR e64 l) := by
 induction d with
 |zero =>
  intro k i hi hok hk
  obtain ⟨k,rfl⟩ : ∃ j,k = j + 1 := ⟨k - 1,by omega⟩
  have hii : i = l.length := by omega
  subst hii
  simp only [strandlineref17_Lay.l0]
  rw [if_neg (by omega)]
  unfold layR
  rw [if_pos ((layAll_iff e64 l).2 hok)]
 |succ d ih =>
  intro k i hi hok hk
  obtain ⟨k,rfl⟩ : ∃ j,k = j + 1 := ⟨k - 1,by omega⟩
  have hlt : i < l.length := by omega
  have hend := laySt_end e64 l i
  have hsm := lay_small e64 l i hok
  have hx : rd_L3 l (i : Int) = l.getD i [] := by unfold rd_L3;rw [Int.toNat_natCast]
  have hmem : l.getD i [] ∈ l := by rw [List.getD_eq_getElem?_getD,List.getElem?_eq_getElem hlt];exact List.getElem_mem hlt
  have hadd := radd_eq k (by omega) e64 (laySt e64 l i).1 (laySt e64 l i).2 (l.getD i []) he (hl _ hmem) (by rw [laySt_len];decide) (hll _ hmem)
  simp only [strandlineref17_Lay.l0]
  rw [if_pos (by omega),rbegin_eq k (by omega),Option.bind_some,if_pos (by rw [layPl_len];omega),if_pos (by omega),hx,hadd,Option.bind_some]
  unfold addR
  by_cases h : (cutP (laySt e64 l i).2 ((l.getD i []).length : Int)).2.2 = true
  ·rw [if_pos h,if_pos rfl,w64 (by omega) (by omega)]
   have := ih k (i + 1) (by omega) (fun j hj => by
    by_cases e : j = i
    ·subst e;exact h
    ·exact hok j (by omega)) (by omega)
   rw [layPl_succ] at this
   exact this
  ·rw [if_neg h,if_neg (by decide)]
   unfold layR
   rw [if_neg (fun ha => h ((layAll_iff e64 l).1 ha i hlt))]
theorem rlay_eq (k : Nat) (e64 : Int) (l : List (List Int)) (he : 0 ≤ e64) (hl : ∀ x ∈ l,Bytes x) (hll : ∀ x ∈ l,x.length ≤ 140737488355328) (hn : l.length ≤ 9000000000000) (hk : 7000 + l.length ≤ k) : strandlineref17_Lay.f k e64 l = some (layR e64 l) := by
 unfold strandlineref17_Lay.f
 rw [if_pos (by decide)]
 exact rlay_l0 e64 l he hl hll hn l.length k 0 (Nat.zero_add _) (fun j hj => absurd hj (Nat.not_lt_zero j)) hk
end Go.Proofs.YtaekpfhgdnfciaaDoor.Img
end

section
/- What a record more does to what is laid: plain. -/
set_option linter.unusedVariables false
set_option linter.unusedSimpArgs false
namespace Go.Proofs.YtaekpfhgdnfciaaDoor.Img
open Go.RowKit Go.Proofs.YtaekpfhgdnfciaaDoor.F Go.Proofs.YtaekpfhgdnfciaaDoor.F.Nums Go.Proofs.YtaekpfhgdnfciaaDoor.O Go.Proofs.YtaekpfhgdnfciaaDoorW.PrintWords Go.Proofs.YtaekpfhgdnfciaaDoorW.PrintLast Go.Proofs.YtaekpfhgdnfciaaDoorW.PrintMore Go.Proofs.YtaekpfhgdnfciaaDoor.Plain
theorem layA_keep {ep : Int} {data : List Int} (k : Nat) : ∀ (ps : List Pc) (cur : List Int),(∀ p ∈ ps,PcOk data p ∧ (k : Int) ≤ p.f0) → cur.length = 832 → (layA ep data ps cur).take k = cur.take k := by
 intro ps
 induction ps with
 |nil => intro cur _ _;rfl
 |cons p ps ih =>
  intro cur hp hc
  obtain ⟨h1,h2⟩ := hp p (List.mem_cons_self ..)
  show (layA ep data ps (layP ep data cur p)).take k = _
  rw [ih _ (fun q hq => hp q (List.mem_cons_of_mem _ hq)) (layP_len h1 hc)]
  unfold layP splice
  obtain ⟨g1,g2,-⟩ := h1
  rw [List.take_append_of_le_length (by rw [List.length_take];omega),List.take_take,Nat.min_eq_left (by omega)]
theorem addB_keep (e64 : Int) (body : List Int) (e : Nat) (data : List Int) (hb : body.length = 832) (he : e ≤ 832) : (addB e64 body (e : Int) data).take e = body.take e := by
 unfold addB
 rw [base_id hb]
 refine layA_keep e _ body (fun p hp => ⟨cutP_pcs (e : Int) data p hp,?_⟩) hb
 have := (cutP_low (e : Int) (data.length : Int) (by omega)).2 p hp
 have h1 := bg_ge (cl (e : Int))
 rw [cl_in (a := (e : Int)) (by omega) (by omega)] at this h1
 omega
end Go.Proofs.YtaekpfhgdnfciaaDoor.Img
end

section
/- Scanning what was laid, of which some may be lost: some first records. Plain. -/
set_option linter.unusedVariables false
set_option linter.unusedSimpArgs false
namespace Go.Proofs.YtaekpfhgdnfciaaDoor.Img
open Go.RowKit Go.Proofs.YtaekpfhgdnfciaaDoor.F Go.Proofs.YtaekpfhgdnfciaaDoor.F.Nums Go.Proofs.YtaekpfhgdnfciaaDoor.O Go.Proofs.YtaekpfhgdnfciaaDoorW.PrintWords Go.Proofs.YtaekpfhgdnfciaaDoorW.PrintLast Go.Proofs.YtaekpfhgdnfciaaDoorW.PrintMore Go.Proofs.YtaekpfhgdnfciaaDoor.Plain
abbrev Tld := Nat → Option (Int × List Int × Nat)
/-- the fragment that a piece is -/
def wantT (data : List Int) (p : Pc) : Int × List Int × Nat := (p.f1,(data.take p.f3.toNat).drop p.f2.toNat,11 + (p.f3 - p.f2).toNat)
theorem feed_last (f : Bool) (b d : List Int) (h : (b.length : Int) + d.length ≤ 512) : feedF (!f) b (pc f true) d = ((b ++ d,true,0),(false,[])) := by
 unfold feedF
 cases f <;> simp [pc] <;> omega
theorem feed_more (f : Bool) (b d : List Int) (h : (b.length : Int) + d.length ≤ 512) : feedF (!f) b (pc f false) d = (([],false,0),(true,b ++ d)) := by
 unfold feedF
 cases f <;> simp [pc] <;> omega
theorem step_last {T : Tld} {s : ScSt} {f : Bool} {data : List Int} {from_ : Nat} {p : Nat} (hT : T p = some (pc f true,data.drop from_,11 + (data.length - from_))) (hp : bgN s.at_ = p) (ho : s.op = !f) (hb : s.b = data.take from_) (hf : from_ ≤ data.length) (hd : data.length ≤ 512) :
  scStep T s = some ⟨p + (11 + (data.length - from_)),false,[],if f = true then (p : Int) else s.first,s.recs ++ [data],s.places ++ [if f = true then (p : Int) else s.first],p + (11 + (data.length - from_))⟩ := by
 have hF := feed_last f (data.take from_) (data.drop from_) (by rw [List.length_take,List.length_drop];omega)
 unfold scStep
 rw [hp,hT]
 unfold scFed
 simp only [ho,hb,hF,hp,List.take_append_drop]
 cases f <;> simp
theorem step_more {T : Tld} {s : ScSt} {f : Bool} {data d : List Int} {p n : Nat} (hT : T p = some (pc f false,d,n)) (hp : bgN s.at_ = p) (ho : s.op = !f) (hd : (s.b.length : Int) + d.length ≤ 512) :
  scStep T s = some ⟨p + n,true,s.b ++ d,if f = true then (p : Int) else s.first,s.recs,s.places,s.en⟩ := by
 have hF := feed_more f s.b d hd
 unfold scStep
 rw [hp,hT]
 unfold scFed
 simp only [ho,hF,hp]
 cases f <;> simp
theorem run_pieces (T : Tld) (data : List Int) (hd : data.length ≤ 512) : ∀ (m : Nat) (at_ : Int) (from_ : Nat) (f : Bool) (q : List (Int × Int × Int) × Int) (s : ScSt),
  cutS m at_ (data.length : Int) (from_ : Int) = some q → from_ ≤ data.length → (bgN s.at_ : Int) = bg (cl at_) → s.at_ ≤ 832 → s.op = (!f) → s.b = data.take from_ →
  (∀ p ∈ mkP f q.1,T p.f0.toNat = some (wantT data p) ∨ T p.f0.toNat = none) →
  ∃ (j : Nat) (s' : ScSt),(∀ M,j ≤ M → scRun T M s = scRun T (M - j) s') ∧ s.at_ + 11 * j ≤ s'.at_ ∧ s'.at_ ≤ 832 ∧
   (s' = ⟨q.2.toNat,false,[],if f = true then bg (cl at_) else s.first,s.recs ++ [data],s.places ++ [if f = true then bg (cl at_) else s.first],q.2.toNat⟩ ∨
    (scStep T s' = none ∧ s'.recs = s.recs ∧ s'.places = s.places ∧ s'.en = s.en ∧ ∃ p ∈ mkP f q.1,T p.f0.toNat = none)) := by
 intro m
 induction m with
 |zero => intro at_ from_ f q s h;cases h
 |succ m ih =>
  intro at_ from_ f q s h hf hp hs ho hb hT
  have h0 := cl_lo at_
  have h1 := cl_hi at_
  have hb0 := bg_lo h0
  have hb1 := bg_hi h1
  have hbm := bg_mod (cl at_)
  have hge : s.at_ ≤ bgN s.at_ := by
   have h2 := bg_ge (cl (s.at_ : Int))
   have h3 := bgN_cast s.at_
   rw [cl_in (a := (s.at_ : Int)) (by omega) (by omega)] at h2 h3
   omega
  obtain ⟨b0,hb0'⟩ := Int.eq_ofNat_of_zero_le hb0
  rw [hb0'] at hp hb1 hbm
  have hpb : bgN s.at_ = b0 := by omega
  unfold cutS at h
  rw [hb0'] at h
  split at h
  ·cases h
  ·rename_i h8
   obtain ⟨l1,l2,l3,l4⟩ := lf_ge (b := (b0 : Int)) (by omega) hb1 hbm h8
   split at h
   ·rename_i hl
    obtain rfl := Option.some.inj h
    have hb0n : (b0 : Int).toNat = b0 := Int.toNat_natCast b0
    rcases hT ⟨b0,pc f true,from_,data.length⟩ (by simp [mkP]) with hw|hw
    ·simp only [wantT,Int.toNat_natCast] at hw
     rw [List.take_of_length_le (Nat.le_refl _),show ((data.length : Int) - (from_ : Int)).toNat = data.length - from_ by omega] at hw
     have hst := step_last hw hpb ho hb hf hd
     refine ⟨1,_,fun M hM => ?_,?_,?_,.inl rfl⟩
     ·obtain ⟨M,rfl⟩ : ∃ x,M = x + 1 := ⟨M - 1,by omega⟩
      rw [scRun_some hst,Nat.add_sub_cancel,hb0']
      simp only
      rw [show ((b0 : Int) + 11 + ((data.length : Int) - (from_ : Int))).toNat = b0 + (11 + (data.length - from_)) by omega]
     ·simp only;omega
     ·simp only;omega
    ·simp only [Int.toNat_natCast] at hw
     refine ⟨0,s,fun M _ => by rw [Nat.sub_zero],by omega,hs,.inr ⟨?_,rfl,rfl,rfl,⟨b0,pc f true,from_,data.length⟩,by simp [mkP],by simpa using hw⟩⟩
     unfold scStep
     rw [hpb,hw]
   ·rename_i hl
    obtain ⟨q',hq',rfl⟩ := Option.map_eq_some_iff.mp h
    obtain ⟨fr2,hfr2⟩ : ∃ x : Nat,(from_ : Int) + (lf (b0 : Int) - 11) = x := ⟨((from_ : Int) + (lf (b0 : Int) - 11)).toNat,by omega⟩
    have hne : ∃ u rest,q'.1 = u :: rest := by
     cases hp : q'.1 with
     |nil => exact absurd hp (cutS_ne hq')
     |cons t rest => exact ⟨t,rest,rfl⟩
    obtain ⟨u,rest,hu⟩ := hne
    have hmk : mkP f (((b0 : Int),(from_ : Int),(from_ : Int) + (lf (b0 : Int) - 11)) :: q'.1) = ⟨b0,pc f false,from_,(from_ : Int) + (lf (b0 : Int) - 11)⟩ :: mkP false q'.1 := by rw [hu];rfl
    simp only at hT ⊢
    rw [hmk] at hT ⊢
    rcases hT _ (List.mem_cons_self ..) with hw|hw
    ·simp only [wantT,Int.toNat_natCast] at hw
     rw [hfr2,Int.toNat_natCast,show ((fr2 : Int) - (from_ : Int)).toNat = fr2 - from_ by omega] at hw
     have hlb : s.b.length = from_ := by rw [hb,List.length_take];omega
     have hst := step_more (data := data) hw hpb ho (by rw [hlb,List.length_drop,List.length_take];omega)
     have hcat : s.b ++ (data.take fr2).drop from_ = data.take fr2 := by
      rw [hb]
      have : data.take from_ = (data.take fr2).take from_ := by rw [List.take_take,Nat.min_eq_left (by omega)]
      rw [this,List.take_append_drop]
     rw [hcat] at hst
     rw [hfr2] at hq'
     have hnx : (b0 + (11 + (fr2 - from_)) : Nat) = (b0 : Int) + lf (b0 : Int) := by omega
     have hcl : bg (cl ((b0 : Int) + lf (b0 : Int))) = (b0 : Int) + lf (b0 : Int) := by rw [cl_in (by omega) l3,bg_block l4]
     obtain ⟨j,s',hrun,ha,ha2,hres⟩ := ih ((b0 : Int) + lf (b0 : Int)) fr2 false q' ⟨b0 + (11 + (fr2 - from_)),true,data.take fr2,if f = true then (b0 : Int) else s.first,s.recs,s.places,s.en⟩ hq' (by omega) (by rw [bgN_cast];show bg (cl ((b0 + (11 + (fr2 - from_)) : Nat) : Int)) = _;rw [hnx]) (by show b0 + (11 + (fr2 - from_)) ≤ 832;omega) rfl rfl (fun p hp => hT p (List.mem_cons_of_mem _ hp))
     refine ⟨j + 1,s',fun M hM => ?_,?_,ha2,?_⟩
     ·obtain ⟨M,rfl⟩ : ∃ x,M = x + 1 := ⟨M - 1,by omega⟩
      rw [scRun_some hst,hrun M (by omega)]
      congr 1
      omega
     ·simp only at ha;omega
     ·rcases hres with hres|⟨h1',h2',h3',h4',p,hp,h5'⟩
      ·left
       rw [hres,hb0']
       simp
      ·exact .inr ⟨h1',h2',h3',h4',p,List.mem_cons_of_mem _ hp,h5'⟩
    ·simp only [Int.toNat_natCast] at hw
     refine ⟨0,s,fun M _ => by rw [Nat.sub_zero],by omega,hs,.inr ⟨?_,rfl,rfl,rfl,_,List.mem_cons_self ..,by simpa using hw⟩⟩
     unfold scStep
     rw [hpb,hw]
/-- the pieces of record k -/
def pcs (e64 : Int) (l : List (List Int)) (k : Nat) : List Pc := (cutP (laySt e64 l k).2 ((l.getD k []).length : Int)).1
theorem pcs_cut {e64 : Int} {l : List (List Int)} {k : Nat} (h : layOk e64 l k = true) : ∃ q,cutS 4 (laySt e64 l k).2 ((l.getD k []).length : Int) 0 = some q ∧ pcs e64 l k = mkP true q.1 ∧ (laySt e64 l (k + 1)).2 = q.2 := by
 unfold layOk at h
 unfold pcs
 simp only [laySt]
 unfold cutP at h ⊢
 split at h
 ·cases h
 ·rename_i h2
  rw [if_neg h2]
  cases hs : cutS 4 (laySt e64 l k).2 ((l.getD k []).length : Int) 0 with
  |none => rw [hs] at h;cases h
  |some q => exact ⟨q,rfl,by simp [cutR],rfl⟩
theorem run_recs (T : Tld) (e64 : Int) (l : List (List Int)) (hall : layAll e64 l = true) (hs : ∀ x ∈ l,x.length ≤ 512) (hT : ∀ k,k < l.length → ∀ p ∈ pcs e64 l k,T p.f0.toNat = some (wantT (l.getD k []) p) ∨ T p.f0.toNat = none) :
  ∀ k,k ≤ l.length → ∃ (j : Nat) (s' : ScSt),(∀ M,j ≤ M → scRun T M ScSt0 = scRun T (M - j) s') ∧ 11 * j ≤ s'.at_ ∧ s'.at_ ≤ 832 ∧
   ((∃ fst,s' = ⟨(laySt e64 l k).2.toNat,false,[],fst,l.take k,layPl e64 l k,(laySt e64 l k).2.toNat⟩) ∨
    (scStep T s' = none ∧ ∃ m,m < k ∧ s'.recs = l.take m ∧ s'.places = layPl e64 l m ∧ s'.en = (laySt e64 l m).2.toNat ∧ ∃ p ∈ pcs e64 l m,T p.f0.toNat = none)) := by
 intro k
 induction k with
 |zero => intro _;exact ⟨0,ScSt0,fun M _ => by rw [Nat.sub_zero],Nat.le_refl _,by decide,.inl ⟨0,rfl⟩⟩
 |succ k ih =>
  intro hk
  obtain ⟨j,s,hrun,hj,h8,hres⟩ := ih (by omega)
  rcases hres with ⟨fst,rfl⟩|⟨hst,m,hm,h2⟩
  ·have hok := (layAll_iff e64 l).1 hall k (by omega)
   obtain ⟨q,hq,hpcs,hen⟩ := pcs_cut hok
   have hend := laySt_end e64 l k
   have hlt : k < l.length := by omega
   have hmem : l.getD k [] ∈ l := by rw [List.getD_eq_getElem?_getD,List.getElem?_eq_getElem hlt];exact List.getElem_mem hlt
   have hT2 := hT k hlt
   rw [hpcs] at hT2
   obtain ⟨j2,s2,hrun2,hj2,h82,hres2⟩ := run_pieces T (l.getD k []) (hs _ hmem) 4 (laySt e64 l k).2 0 true q ⟨(laySt e64 l k).2.toNat,false,[],fst,l.take k,layPl e64 l k,(laySt e64 l k).2.toNat⟩ hq (Nat.zero_le _) (by rw [bgN_cast];simp only;rw [Int.toNat_of_nonneg hend.1]) (by simp only;omega) rfl rfl hT2
   refine ⟨j + j2,s2,fun M hM => ?_,?_,h82,?_⟩
   ·rw [hrun M (by omega),hrun2 (M - j) (by omega)]
    congr 1
    omega
   ·simp only at hj hj2;omega
   ·rcases hres2 with h|⟨h1,h2,h3,h4,p,hp,h5⟩
    ·left
     refine ⟨bg (cl (laySt e64 l k).2),?_⟩
     rw [h,hen,layPl_succ]
     have e1 : l.take k ++ [l.getD k []] = l.take (k + 1) := by
      rw [List.take_add_one,List.getD_eq_getElem?_getD,List.getElem?_eq_getElem hlt]
      rfl
     simp only [if_true,e1]
     rfl
    ·exact .inr ⟨h1,k,by omega,h2,h3,h4,p,by rw [hpcs];exact hp,h5⟩
  ·exact ⟨j,s,hrun,hj,h8,.inr ⟨hst,m,by omega,h2⟩⟩
/-- What is scanned is some first records: at least those all of whose pieces are told. -/
theorem scan_pre (T : Tld) (e64 : Int) (l : List (List Int)) (hall : layAll e64 l = true) (hs : ∀ x ∈ l,x.length ≤ 512) (hT : ∀ k,k < l.length → ∀ p ∈ pcs e64 l k,T p.f0.toNat = some (wantT (l.getD k []) p) ∨ T p.f0.toNat = none)
  (hE : T (bgN (laySt e64 l l.length).2.toNat) = none) :
  ∃ m,m ≤ l.length ∧ (scRun T 76 ScSt0).recs = l.take m ∧ (scRun T 76 ScSt0).places = layPl e64 l m ∧ (scRun T 76 ScSt0).en = (laySt e64 l m).2.toNat ∧ ∀ s,s ≤ l.length → (∀ k,k < s → ∀ p ∈ pcs e64 l k,T p.f0.toNat ≠ none) → s ≤ m := by
 obtain ⟨j,s,hrun,hj,h8,hres⟩ := run_recs T e64 l hall hs hT l.length (Nat.le_refl _)
 rw [hrun 76 (by omega)]
 rcases hres with ⟨fst,rfl⟩|⟨hst,m,hm,h2,h3,h4,p,hp,h5⟩
 ·have hst : scStep T ⟨(laySt e64 l l.length).2.toNat,false,[],fst,l.take l.length,layPl e64 l l.length,(laySt e64 l l.length).2.toNat⟩ = none := by
   unfold scStep
   simp only [hE]
  rw [scRun_none hst]
  exact ⟨l.length,Nat.le_refl _,rfl,rfl,rfl,fun s hs _ => hs⟩
 ·rw [scRun_none hst]
  refine ⟨m,by omega,h2,h3,h4,fun s hs2 hint => ?_⟩
  rcases Nat.lt_or_ge m s with h|h
  ·exact absurd h5 (hint m h p hp)
  ·exact h
end Go.Proofs.YtaekpfhgdnfciaaDoor.Img
end

section
/- PlanBack: what Flat makes of what Whole made. -/
namespace Go.Proofs.YtaekpfhgdnfciaaDoor.O
open Go.RowKit Go.Proofs.YtaekpfhgdnfciaaDoorW.PrintWords Go.Proofs.YtaekpfhgdnfciaaDoorW.PrintLast Go.Proofs.YtaekpfhgdnfciaaDoorW.PrintMore Go.Proofs.YtaekpfhgdnfciaaDoor.F Go.Proofs.YtaekpfhgdnfciaaDoor.F.Nums Go.Proofs.YtaekpfhgdnfciaaDoor.Plain
set_option linter.unusedVariables false
set_option linter.unusedSimpArgs false
theorem secAt_app (xs ys : List Int) (k m : Nat) (hx : xs.length = 64 * m) (hk : k < m) : secAt (xs ++ ys) k = secAt xs k := by
 unfold secAt
 rw [List.drop_append_of_le_length (by omega),List.take_append_of_le_length (by rw [List.length_drop];omega)]
theorem secAt_end (xs s : List Int) (k : Nat) (hx : xs.length = 64 * k) (hs : s.length = 64) (ys : List Int) : secAt (xs ++ (s ++ ys)) k = s := by
 unfold secAt
 rw [← hx,List.drop_left,List.take_left' hs]
theorem secAt_P (e : Int) (body : List Int) : ∀ (n k : Nat),k < n → secAt (flatP e body 0 n) k = sealF e (k : Int) (bodySec body k) := by
 intro n
 induction n with
 |zero => intro k hk;omega
 |succ n ih =>
  intro k hk
  unfold flatP
  by_cases h : k < n
  ·rw [secAt_app _ _ k n (flatP_len _ _ _ _) h,ih k h]
  ·obtain rfl : k = n := by omega
   rw [Nat.zero_add,← List.append_nil (sealF e (k : Int) (bodySec body k)),secAt_end _ _ k (flatP_len _ _ _ _) (sealF_len _ _ _) []]
   simp
theorem secAt_zs (n k : Nat) (hk : k < n) : secAt (zs (64 * n)) k = zs 64 := by
 unfold secAt zs
 rw [List.drop_replicate,List.take_replicate]
 congr 1
 omega
theorem secAt_W (e : Int) (body : List Int) (b k : Nat) (hb : b ≤ 16) (hk : k < 16) : secAt (flatW e body b 16) k = if k < b then sealF e (k : Int) (bodySec body k) else zs 64 := by
 unfold flatW
 rw [Nat.min_eq_right hb]
 by_cases h : k < b
 ·rw [if_pos h,secAt_app _ _ k b (flatP_len _ _ _ _) h,secAt_P _ _ _ _ h]
 ·rw [if_neg h]
  have : secAt (flatP e body 0 b ++ zs (64 * (16 - b))) k = secAt (zs (64 * (16 - b))) (k - b) := by
   unfold secAt
   rw [List.drop_append,flatP_len,List.drop_of_length_le (by rw [flatP_len];omega),List.nil_append,show 64 * k - 64 * b = 64 * (k - b) by omega]
  rw [this,secAt_zs _ _ (by omega)]
theorem openF_z (e i : Int) (he : e ≠ 0) : openF (zs 64) e i = false := by
 unfold openF
 rw [show getn (zs 64) 8 = 0 by decide +kernel]
 simp [Ne.symm he]
theorem okAt_W (e : Int) (h0 : 0 ≤ e) (h1 : e ≤ 18446744073709551615) (he : e ≠ 0) (body : List Int) (b k : Nat) (hb : b ≤ 16) (hk : k < 16) : okAt e (flatW e body b 16) 16 k = decide (k < b) := by
 unfold okAt
 rw [decide_eq_true hk,Bool.true_and,secAt_W e body b k hb hk]
 by_cases h : k < b
 ·rw [if_pos h,open_seal _ _ _ h0 h1,decide_eq_true h]
  simp
 ·rw [if_neg h,openF_z _ _ he,decide_eq_false h]
theorem roomAt_W (e : Int) (h0 : 0 ≤ e) (h1 : e ≤ 18446744073709551615) (he : e ≠ 0) (body : List Int) (b k : Nat) (hb : b ≤ 16) (hk : k < 16) : roomAt e (flatW e body b 16) 16 k = if k < b then bodySec body k ++ zs (52 - (bodySec body k).length) else zs 52 := by
 unfold roomAt
 rw [okAt_W e h0 h1 he body b k hb hk,secAt_W e body b k hb hk]
 by_cases h : k < b
 ·simp only [h,decide_true,if_true]
  rw [seal_drop,List.take_of_length_le]
  rw [bodySec_len]
  omega
 ·simp [h]
theorem zs_getD (n i : Nat) : (zs n).getD i 0 = 0 := by
 unfold zs
 rw [List.getD_eq_getElem?_getD,List.getElem?_replicate]
 split <;> rfl
end Go.Proofs.YtaekpfhgdnfciaaDoor.O
end

section
/- Strings of bytes are the bytes. Plain. -/
set_option linter.unusedVariables false
set_option linter.unusedSimpArgs false
namespace Go.Proofs.YtaekpfhgdnfciaaDoor.CrcMath
open Go.RowKit Go.Proofs.YtaekpfhgdnfciaaDoor.F Go.Proofs.YtaekpfhgdnfciaaDoorW.PrintWords Go.Proofs.YtaekpfhgdnfciaaDoorW.PrintLast Go.Proofs.YtaekpfhgdnfciaaDoorW.PrintMore Go.Proofs.YtaekpfhgdnfciaaDoor.Plain
/-! strings of bytes -/
theorem ba_loop (bs : ByteArray) (d : Nat) : ∀ (i : Nat) (r : List UInt8),bs.size - i = d → ByteArray.toList.loop bs i r = r.reverse ++ bs.data.toList.drop i := by
 induction d with
 |zero =>
  intro i r h
  unfold ByteArray.toList.loop
  rw [if_neg (by omega),List.drop_eq_nil_of_le (by simp only [Array.length_toList];exact Nat.le_of_sub_eq_zero h),List.append_nil]
 |succ d ih =>
  intro i r h
  unfold ByteArray.toList.loop
  have hi : i < bs.size := by omega
  have hi2 : i < bs.data.toList.length := by simp only [Array.length_toList];exact hi
  rw [if_pos hi,ih (i + 1) _ (by omega),List.drop_eq_getElem_cons hi2,List.reverse_cons,List.append_assoc]
  congr 1
  show [bs.get! i] ++ _ = _
  have : bs.get! i = bs.data.toList[i] := by
   show bs.data[i]! = _
   rw [getElem!_pos bs.data i hi]
   simp
  rw [this]
  rfl
theorem ba_toList (bs : ByteArray) : bs.toList = bs.data.toList := by
 unfold ByteArray.toList
 rw [ba_loop bs bs.size 0 [] (by omega)]
 rfl
theorem strOfNums_inj : ∀ {x y : List Int},(∀ c ∈ x,0 ≤ c ∧ c ≤ 255) → (∀ c ∈ y,0 ≤ c ∧ c ≤ 255) → (strOfNums x).toList = (strOfNums y).toList → x = y := by
 have key : ∀ (x y : List Int),(∀ c ∈ x,0 ≤ c ∧ c ≤ 255) → (∀ c ∈ y,0 ≤ c ∧ c ≤ 255) → (x.map fun n => UInt8.ofNat n.toNat) = (y.map fun n => UInt8.ofNat n.toNat) → x = y := by
  intro x
  induction x with
  |nil => intro y _ _ h;cases y with
   |nil => rfl
   |cons c y => cases h
  |cons c x ih =>
   intro y hx hy h
   cases y with
   |nil => cases h
   |cons c' y =>
    simp only [List.map_cons,List.cons.injEq] at h
    have a := hx c (List.mem_cons_self ..)
    have b := hy c' (List.mem_cons_self ..)
    have e := congrArg UInt8.toNat h.1
    simp only [UInt8.toNat_ofNat'] at e
    rw [ih y (fun z hz => hx z (List.mem_cons_of_mem _ hz)) (fun z hz => hy z (List.mem_cons_of_mem _ hz)) h.2,show c = c' by omega]
 intro x y hx hy h
 rw [ba_toList,ba_toList] at h
 exact key x y hx hy (by simpa [strOfNums] using h)
end Go.Proofs.YtaekpfhgdnfciaaDoor.CrcMath
end

section
/- the reference's Decode, by what is owned. -/
set_option linter.unusedVariables false
set_option linter.unusedSimpArgs false
namespace Go.Proofs.YtaekpfhgdnfciaaDoor.O
open Go.RowKit Go.Proofs.YtaekpfhgdnfciaaDoorW.PrintWords Go.Proofs.YtaekpfhgdnfciaaDoorW.PrintLast Go.Proofs.YtaekpfhgdnfciaaDoorW.PrintMore Go.Proofs.YtaekpfhgdnfciaaDoor.F Go.Proofs.YtaekpfhgdnfciaaDoor.F.Nums Go.Proofs.YtaekpfhgdnfciaaDoor.Plain
end Go.Proofs.YtaekpfhgdnfciaaDoor.O
end

section
/- Scanning sectors each of which is of what was laid first, or of what was laid last. Plain. -/
set_option linter.unusedVariables false
set_option linter.unusedSimpArgs false
namespace Go.Proofs.YtaekpfhgdnfciaaDoor.Img
open Go.RowKit Go.Proofs.YtaekpfhgdnfciaaDoor.F Go.Proofs.YtaekpfhgdnfciaaDoor.F.Nums Go.Proofs.YtaekpfhgdnfciaaDoor.O Go.Proofs.YtaekpfhgdnfciaaDoorW.PrintWords Go.Proofs.YtaekpfhgdnfciaaDoorW.PrintLast Go.Proofs.YtaekpfhgdnfciaaDoorW.PrintMore Go.Proofs.YtaekpfhgdnfciaaDoor.Plain
/-! ### pieces lie one behind another -/
def Asc : Int → Int → List Pc → Prop
 |lo,hi,[] => lo ≤ hi
 |lo,hi,p :: ps => lo ≤ p.f0 ∧ 0 ≤ p.f3 - p.f2 ∧ 11 + (p.f3 - p.f2) ≤ lf p.f0 ∧ p.f0 % 52 ≤ 41 ∧ p.f0 < 832 ∧ Asc (p.f0 + 11 + (p.f3 - p.f2)) hi ps
theorem Asc.weak : ∀ {ps : List Pc} {lo lo' hi : Int},lo' ≤ lo → Asc lo hi ps → Asc lo' hi ps := by
 intro ps
 cases ps with
 |nil => intro lo lo' hi h h2;simp only [Asc] at h2 ⊢;omega
 |cons p ps => intro lo lo' hi h h2;simp only [Asc] at h2 ⊢;exact ⟨by omega,h2.2⟩
theorem cutS_asc {m : Nat} : ∀ {at_ n from_ : Int} {q : List (Int × Int × Int) × Int} (f : Bool),from_ ≤ n → cutS m at_ n from_ = some q → Asc (bg (cl at_)) q.2 (mkP f q.1) := by
 induction m with
 |zero => intro _ _ _ _ _ _ h;cases h
 |succ m ih =>
  intro at_ n from_ q f hn h
  have h0 := cl_lo at_
  have h1 := cl_hi at_
  have hb0 := bg_lo h0
  have hb1 := bg_hi h1
  have hbm := bg_mod (cl at_)
  unfold cutS at h
  split at h
  ·cases h
  ·rename_i h8
   obtain ⟨l1,l2,l3,l4⟩ := lf_ge hb0 hb1 hbm h8
   split at h
   ·obtain rfl := Option.some.inj h
    simp only [mkP,Asc]
    exact ⟨Int.le_refl _,by omega,by omega,hbm,by omega,by omega⟩
   ·obtain ⟨q',hq',rfl⟩ := Option.map_eq_some_iff.mp h
    obtain ⟨u,rest,hu⟩ : ∃ u rest,q'.1 = u :: rest := by
     cases hp : q'.1 with
     |nil => exact absurd hp (cutS_ne hq')
     |cons t rest => exact ⟨t,rest,rfl⟩
    have h2 := ih false (by omega) hq'
    rw [cl_in (by omega) l3,bg_block l4] at h2
    simp only
    rw [show mkP f ((bg (cl at_),from_,from_ + (lf (bg (cl at_)) - 11)) :: q'.1) = ⟨bg (cl at_),pc f false,from_,from_ + (lf (bg (cl at_)) - 11)⟩ :: mkP false q'.1 by rw [hu];rfl]
    simp only [Asc]
    exact ⟨Int.le_refl _,by omega,by omega,hbm,by omega,h2.weak (by omega)⟩
theorem pcs_asc {e64 : Int} {l : List (List Int)} {k : Nat} (h : layOk e64 l k = true) : Asc (bg (cl (laySt e64 l k).2)) (laySt e64 l (k + 1)).2 (pcs e64 l k) := by
 obtain ⟨q,hq,h1,h2⟩ := pcs_cut h
 rw [h1,h2]
 exact cutS_asc true (by omega) hq
theorem Asc.mem : ∀ {ps : List Pc} {lo hi : Int},Asc lo hi ps → ∀ p ∈ ps,lo ≤ p.f0 ∧ 0 ≤ p.f3 - p.f2 ∧ 11 + (p.f3 - p.f2) ≤ lf p.f0 ∧ p.f0 % 52 ≤ 41 ∧ p.f0 < 832 ∧ p.f0 + 11 + (p.f3 - p.f2) ≤ hi := by
 intro ps
 induction ps with
 |nil => intro _ _ _ p hp;cases hp
 |cons q ps ih =>
  intro lo hi h p hp
  simp only [Asc] at h
  obtain ⟨a1,a2,a3,a4,a5,a6⟩ := h
  have hlast : q.f0 + 11 + (q.f3 - q.f2) ≤ hi := by
   clear ih hp a1 a2 a3 a4 a5
   generalize q.f0 + 11 + (q.f3 - q.f2) = lo2 at a6 ⊢
   induction ps generalizing lo2 with
   |nil => simpa only [Asc] using a6
   |cons r rs ih2 =>
    simp only [Asc] at a6
    have := ih2 _ a6.2.2.2.2.2
    omega
  rcases List.mem_cons.1 hp with rfl|hp
  ·exact ⟨a1,a2,a3,a4,a5,hlast⟩
  ·have := ih a6 p hp
   exact ⟨by omega,this.2⟩
/-! ### what is laid stands -/
theorem seg_take (X : List Int) (p n : Nat) : (X.drop p).take n = (X.take (p + n)).drop p := by rw [List.drop_take,Nat.add_sub_cancel_left]
theorem splice_drop (cur ys : List Int) (o hi : Nat) (h : o + ys.length ≤ hi) (ho : o + ys.length ≤ cur.length) : (splice cur o ys).drop hi = cur.drop hi := by
 unfold splice
 have hl : (cur.take o ++ ys).length = o + ys.length := by rw [List.length_append,List.length_take];omega
 rw [← List.append_assoc,List.drop_append,List.drop_of_length_le (by omega),List.nil_append,hl,List.drop_drop]
 congr 1
 omega
theorem splice_seg (cur ys : List Int) (o : Nat) (ho : o ≤ cur.length) : ((splice cur o ys).drop o).take ys.length = ys := by
 unfold splice
 have hl : (cur.take o).length = o := by rw [List.length_take];omega
 rw [List.drop_left' hl,List.take_left]
theorem layA_drop {ep : Int} {data : List Int} (hi : Nat) : ∀ (ps : List Pc) (cur : List Int) (lo : Int),Asc lo (hi : Int) ps → (∀ p ∈ ps,PcOk data p) → cur.length = 832 → (layA ep data ps cur).drop hi = cur.drop hi := by
 intro ps
 induction ps with
 |nil => intro cur _ _ _ _;rfl
 |cons p ps ih =>
  intro cur lo ha hp hc
  have hm := ha.mem p (List.mem_cons_self ..)
  have h1 := hp p (List.mem_cons_self ..)
  simp only [Asc] at ha
  show (layA ep data ps (layP ep data cur p)).drop hi = _
  rw [ih _ _ ha.2.2.2.2.2 (fun q hq => hp q (List.mem_cons_of_mem _ hq)) (layP_len h1 hc)]
  have hl := pcE_len (ep := ep) h1
  obtain ⟨g1,g2,g3,g4,g5,g6,g7,g8⟩ := h1
  unfold layP
  exact splice_drop _ _ _ _ (by omega) (by omega)
theorem layA_seg {ep : Int} {data : List Int} : ∀ (ps : List Pc) (cur : List Int) (lo hi : Int),Asc lo hi ps → (∀ p ∈ ps,PcOk data p) → cur.length = 832 → ∀ p ∈ ps,((layA ep data ps cur).drop p.f0.toNat).take (11 + (p.f3 - p.f2).toNat) = pcE ep data p := by
 intro ps
 induction ps with
 |nil => intro cur _ _ _ _ _ p hp;cases hp
 |cons q ps ih =>
  intro cur lo hi ha hok hc p hp
  have h1 := hok q (List.mem_cons_self ..)
  simp only [Asc] at ha
  have ha2 := ha.2.2.2.2.2
  have hlen := layP_len (ep := ep) h1 hc
  show ((layA ep data ps (layP ep data cur q)).drop p.f0.toNat).take _ = _
  rcases List.mem_cons.1 hp with rfl|hp
  ·have hl := pcE_len (ep := ep) h1
   obtain ⟨g1,g2,g3,g4,g5,g6,g7,g8⟩ := h1
   rw [seg_take,layA_keep (p.f0.toNat + (11 + (p.f3 - p.f2).toNat)) ps _ (fun r hr => ⟨hok r (List.mem_cons_of_mem _ hr),by have := (ha2.mem r hr).1;omega⟩) hlen,← seg_take,← hl]
   unfold layP
   exact splice_seg _ _ _ (by omega)
  ·exact ih _ _ _ ha2 (fun r hr => hok r (List.mem_cons_of_mem _ hr)) hlen p hp
theorem end_mono (e64 : Int) (l : List (List Int)) (hall : layAll e64 l = true) (k : Nat) : ∀ m,k ≤ m → m ≤ l.length → (laySt e64 l k).2 ≤ (laySt e64 l m).2 := by
 intro m
 induction m with
 |zero => intro h _;obtain rfl : k = 0 := by omega
          exact Int.le_refl _
 |succ m ih =>
  intro h hm
  by_cases e : k = m + 1
  ·rw [e];exact Int.le_refl _
  ·have h1 := ih (by omega) (by omega)
   have h2 := laySt_end e64 l m
   have h3 := end_more (laySt e64 l m).2 h2.1 h2.2 ((l.getD m []).length : Int) (by omega) ((layAll_iff e64 l).1 hall m (by omega))
   have h4 : (laySt e64 l (m + 1)).2 = (cutP (laySt e64 l m).2 ((l.getD m []).length : Int)).2.1 := rfl
   omega
theorem lay_keep (e64 : Int) (l : List (List Int)) (hall : layAll e64 l = true) (k : Nat) : ∀ m,k ≤ m → m ≤ l.length → ∀ e : Nat,(e : Int) ≤ (laySt e64 l k).2 → (laySt e64 l m).1.take e = (laySt e64 l k).1.take e := by
 intro m
 induction m with
 |zero => intro h _ e _;obtain rfl : k = 0 := by omega
          rfl
 |succ m ih =>
  intro h hm e he
  by_cases e1 : k = m + 1
  ·rw [e1]
  ·rw [← ih (by omega) (by omega) e he]
   have h1 := end_mono e64 l hall k m (by omega) (by omega)
   have h2 := laySt_end e64 l m
   obtain ⟨em,hem⟩ := Int.eq_ofNat_of_zero_le h2.1
   have h3 := addB_keep e64 (laySt e64 l m).1 em (l.getD m []) (laySt_len _ _ _) (by omega)
   show (addB e64 (laySt e64 l m).1 (laySt e64 l m).2 (l.getD m [])).take e = _
   rw [hem]
   have h4 := congrArg (List.take e) h3
   rwa [List.take_take,List.take_take,Nat.min_eq_left (by omega)] at h4
/-- a piece's bytes stand where it was laid -/
theorem lay_seg (e64 : Int) (l : List (List Int)) (hall : layAll e64 l = true) (k m : Nat) (hkm : k < m) (hm : m ≤ l.length) (p : Pc) (hp : p ∈ pcs e64 l k) :
  ((laySt e64 l m).1.drop p.f0.toNat).take (11 + (p.f3 - p.f2).toNat) = pcE (e64 % 4294967296) (l.getD k []) p := by
 have hok := (layAll_iff e64 l).1 hall k (by omega)
 have ha := pcs_asc hok
 have hm2 := ha.mem p hp
 have hend := laySt_end e64 l (k + 1)
 have hpo := cutP_pcs (laySt e64 l k).2 (l.getD k []) p hp
 rw [seg_take,lay_keep e64 l hall (k + 1) m (by omega) hm _ (by obtain ⟨g1,-⟩ := hpo;omega),← seg_take]
 have h1 : (laySt e64 l (k + 1)).1 = layA (e64 % 4294967296) (l.getD k []) (pcs e64 l k) (laySt e64 l k).1 := by
  show addB e64 (laySt e64 l k).1 (laySt e64 l k).2 (l.getD k []) = _
  unfold addB
  rw [base_id (laySt_len _ _ _)]
  rfl
 rw [h1]
 exact layA_seg _ _ _ _ ha (cutP_pcs _ _) (laySt_len _ _ _) p hp
/-- behind the end nothing is laid -/
theorem lay_zero (e64 : Int) (l : List (List Int)) (hall : layAll e64 l = true) : ∀ m,m ≤ l.length → (laySt e64 l m).1.drop (laySt e64 l m).2.toNat = zs (832 - (laySt e64 l m).2.toNat) := by
 intro m
 induction m with
 |zero => intro _;rfl
 |succ m ih =>
  intro hm
  have hok := (layAll_iff e64 l).1 hall m (by omega)
  have ha := pcs_asc hok
  have hend := laySt_end e64 l (m + 1)
  have hend0 := laySt_end e64 l m
  have hmono := end_mono e64 l hall m (m + 1) (by omega) hm
  obtain ⟨e1,he1⟩ := Int.eq_ofNat_of_zero_le hend.1
  have h1 : (laySt e64 l (m + 1)).1 = layA (e64 % 4294967296) (l.getD m []) (pcs e64 l m) (laySt e64 l m).1 := by
   show addB e64 (laySt e64 l m).1 (laySt e64 l m).2 (l.getD m []) = _
   unfold addB
   rw [base_id (laySt_len _ _ _)]
   rfl
  rw [he1] at ha
  rw [h1,he1,Int.toNat_natCast,layA_drop e1 _ _ _ ha (cutP_pcs _ _) (laySt_len _ _ _)]
  have h2 := ih (by omega)
  have h3 := congrArg (List.drop (e1 - (laySt e64 l m).2.toNat)) h2
  rw [List.drop_drop,show (laySt e64 l m).2.toNat + (e1 - (laySt e64 l m).2.toNat) = e1 by omega] at h3
  rw [h3]
  unfold zs
  rw [List.drop_replicate]
  congr 1
  omega
/-! ### what is told at a place -/
theorem covN_iff (l : List Bool) : ∀ (d a : Nat),covN l a d = true ↔ ∀ i,a ≤ i → i < a + d → i < l.length ∧ l.getD i false = true := by
 intro d
 induction d with
 |zero => intro a;simp only [covN,true_iff];intro i h1 h2;omega
 |succ d ih =>
  intro a
  simp only [covN,Bool.and_eq_true,decide_eq_true_eq,ih]
  constructor
  ·rintro ⟨⟨h1,h2⟩,h3⟩ i hi hi2
   by_cases e : i = a
   ·subst e;exact ⟨h1,h2⟩
   ·exact h3 i (by omega) (by omega)
  ·intro h
   exact ⟨h a (Nat.le_refl _) (by omega),fun i h1 h2 => h i (by omega) (by omega)⟩
theorem cov_iff (ok : List Bool) (hl : ok.length = 16) (p n : Nat) (hn : 0 < n) (hp : p + n ≤ 832) : cov ok (p : Int) ((p : Int) + (n : Int)) = true ↔ ∀ i,p / 52 ≤ i → i ≤ (p + n - 1) / 52 → ok.getD i false = true := by
 unfold cov
 rw [cl_in (a := (p : Int)) (by omega) (by omega),cl_in (a := (p : Int) + (n : Int)) (by omega) (by omega)]
 unfold tch
 rw [if_neg (by omega),covN_iff]
 constructor
 ·intro h i h1 h2
  exact (h i (by omega) (by omega)).2
 ·intro h i h1 h2
  exact ⟨by omega,h i (by omega) (by omega)⟩
theorem frAt_split (F : List Int) (p m : Nat) (h : m ≤ (lf (p : Int)).toNat) : frAt F p = (F.drop p).take m ++ ((F.drop p).drop m).take ((lf (p : Int)).toNat - m) := by
 unfold frAt
 have := List.take_append_drop m ((F.drop p).take (lf (p : Int)).toNat)
 rw [List.take_take,Nat.min_eq_left h,List.drop_take] at this
 exact this.symm
/-- a piece that stands is told -/
theorem told_piece (ep : Int) (he : 0 ≤ ep ∧ ep ≤ 4294967295) (F : List Int) (ok : List Bool) (hk : ok.length = 16) (data : List Int) (p : Pc) (hp : PcOk data p) (hlf : 11 + (p.f3 - p.f2) ≤ lf p.f0)
  (hF : (F.drop p.f0.toNat).take (11 + (p.f3 - p.f2).toNat) = pcE ep data p) (hc : ∀ i,p.f0.toNat / 52 ≤ i → i ≤ (p.f0.toNat + (11 + (p.f3 - p.f2).toNat) - 1) / 52 → ok.getD i false = true) :
  told ep F ok p.f0.toNat = some (wantT data p) := by
 obtain ⟨g1,g2,g3,g4,g5,g6,g7,g8⟩ := hp
 obtain ⟨p0,hp0⟩ := Int.eq_ofNat_of_zero_le g1
 have hdl : ((data.take p.f3.toNat).drop p.f2.toNat).length = (p.f3 - p.f2).toNat := by rw [List.length_drop,List.length_take];omega
 have hfr := frAt_split F p.f0.toNat (11 + (p.f3 - p.f2).toNat) (by rw [hp0,Int.toNat_natCast];rw [hp0] at hlf;omega)
 rw [hF] at hfr
 unfold pcE at hfr
 have hr : rightF p.f1 ((data.take p.f3.toNat).drop p.f2.toNat).length = true := by
  rw [hdl]
  unfold rightF
  simp
  omega
 have hdec := dec_enc p.f1 ep ep ((data.take p.f3.toNat).drop p.f2.toNat) (((F.drop p.f0.toNat).drop (11 + (p.f3 - p.f2).toNat)).take ((lf (p.f0.toNat : Int)).toNat - (11 + (p.f3 - p.f2).toNat))) hr he
 obtain ⟨n1,n2,-,-,n5,-⟩ := parts_enc p.f1 ep ((data.take p.f3.toNat).drop p.f2.toNat) (((F.drop p.f0.toNat).drop (11 + (p.f3 - p.f2).toNat)).take ((lf (p.f0.toNat : Int)).toNat - (11 + (p.f3 - p.f2).toNat))) he (by rw [hdl];omega)
 rw [← hfr] at hdec n1 n2 n5
 rw [if_pos rfl] at hdec
 rw [hdl] at n1
 unfold told
 rw [n1,n2,n5,hdec,if_neg (by omega)]
 have c1 : cov ok (p.f0.toNat : Int) ((p.f0.toNat : Int) + 11) = true := (cov_iff ok hk p.f0.toNat 11 (by omega) (by omega)).2 (fun i h1 h2 => hc i h1 (by omega))
 have c2 : cov ok (p.f0.toNat : Int) ((p.f0.toNat : Int) + (11 + ((p.f3 - p.f2).toNat : Int))) = true := by
  have := (cov_iff ok hk p.f0.toNat (11 + (p.f3 - p.f2).toNat) (by omega) (by omega)).2 hc
  rw [← this]
  congr 2
 rw [c1,c2]
 rfl
/-- zeros are no fragment -/
theorem told_zero (ep : Int) (F : List Int) (ok : List Bool) (hF : F.length = 832) (p : Nat) (hp : p < 832) (hlf : 11 ≤ lf (p : Int)) (h : ∀ i,p ≤ i → i < p + 11 → F.getD i 0 = 0) : told ep F ok p = none := by
 have hlb : (lf (p : Int)) ≤ 832 - p := by unfold lf;rw [if_neg (by omega)];omega
 have hl : (frAt F p).length = (lf (p : Int)).toNat := by unfold frAt;rw [List.length_take,List.length_drop];omega
 have hz : (frAt F p).take 11 = zs 11 := by
  refine List.ext_getElem? (fun i => ?_)
  unfold frAt zs
  rw [List.take_take,List.getElem?_replicate]
  by_cases hi : i < 11
  ·rw [List.getElem?_take_of_lt (by omega),List.getElem?_drop,if_pos hi]
   have := h (p + i) (by omega) (by omega)
   rw [List.getD_eq_getElem?_getD,List.getElem?_eq_getElem (by omega)] at this
   rw [List.getElem?_eq_getElem (by omega)]
   exact congrArg some this
  ·rw [if_neg hi,List.getElem?_eq_none]
   rw [List.length_take,List.length_drop]
   omega
 have hd : decE (frAt F p) ep = 7 := by
  unfold decE
  rw [if_neg (by omega),if_pos hz]
 unfold told
 rw [hd]
 split
 ·rfl
 ·split
  ·rfl
  ·rfl
end Go.Proofs.YtaekpfhgdnfciaaDoor.Img
end

section
/- Scanning sectors each of which is of what was laid first (some first records), or of what was laid last (all of them). Plain. -/
set_option linter.unusedVariables false
set_option linter.unusedSimpArgs false
namespace Go.Proofs.YtaekpfhgdnfciaaDoor.Img
open Go.RowKit Go.Proofs.YtaekpfhgdnfciaaDoor.F Go.Proofs.YtaekpfhgdnfciaaDoor.F.Nums Go.Proofs.YtaekpfhgdnfciaaDoor.O Go.Proofs.YtaekpfhgdnfciaaDoorW.PrintWords Go.Proofs.YtaekpfhgdnfciaaDoorW.PrintLast Go.Proofs.YtaekpfhgdnfciaaDoorW.PrintMore Go.Proofs.YtaekpfhgdnfciaaDoor.Plain
/-- how many sectors have something of the first e bytes -/
def secsOf (e : Nat) : Nat := (e + 51) / 52
theorem tch_secs {e : Int} {b : Nat} (h0 : 0 ≤ e) (h1 : e ≤ 832) (h : tch (cl 0) (cl e) = (((0 : Nat) : Int),(b : Int))) : b = secsOf e.toNat := by
 rw [cl_in h0 h1,show cl 0 = 0 from rfl] at h
 unfold tch at h
 unfold secsOf
 split at h
 ·have := congrArg Prod.snd h
  simp only at this
  omega
 ·have := congrArg Prod.snd h
  simp only at this
  omega
theorem bodyF_at (e : Int) (fl : List Int) (n : Nat) (hf : fl.length = 64 * n) : ∀ k i,i < 52 * k → (bodyF e fl n k).getD i 0 = (roomAt e fl n (i / 52)).getD (i % 52) 0 := by
 intro k
 induction k with
 |zero => intro i hi;omega
 |succ k ih =>
  intro i hi
  have hl := bodyF_len (e := e) hf k
  unfold bodyF
  simp only [List.getD_eq_getElem?_getD]
  by_cases h : i < 52 * k
  ·rw [List.getElem?_append_left (by omega),← List.getD_eq_getElem?_getD,ih i h,List.getD_eq_getElem?_getD]
  ·rw [List.getElem?_append_right (by omega),hl,show i / 52 = k by omega,show i % 52 = i - 52 * k by omega]
theorem oksF_at (e : Int) (fl : List Int) (n : Nat) : ∀ k i,i < k → (oksF e fl n k).getD i false = okAt e fl n i := by
 intro k
 induction k with
 |zero => intro i hi;omega
 |succ k ih =>
  intro i hi
  have hl : (oksF e fl n k).length = k := oksF_len k
  unfold oksF
  simp only [List.getD_eq_getElem?_getD]
  by_cases h : i < k
  ·rw [List.getElem?_append_left (by omega),← List.getD_eq_getElem?_getD,ih i h]
  ·obtain rfl : i = k := by omega
   rw [List.getElem?_append_right (by omega),hl,Nat.sub_self]
   rfl
/-- a byte of a sector of a laid body -/
theorem room_lay (e : Int) (h0 : 0 ≤ e) (h1 : e ≤ 18446744073709551615) (he : e ≠ 0) (body : List Int) (hbl : body.length = 832) (b k j : Nat) (hb : b ≤ 16) (hk : k < 16) (hj : j < 52) : (roomAt e (flatW e body b 16) 16 k).getD j 0 = if k < b then body.getD (52 * k + j) 0 else 0 := by
 rw [roomAt_W e h0 h1 he body b k hb hk]
 by_cases h : k < b
 ·rw [if_pos h,if_pos h]
  have hl := bodySec_len body k
  simp only [List.getD_eq_getElem?_getD]
  rw [List.getElem?_append_left (by omega)]
  unfold bodySec
  rw [List.getElem?_take_of_lt (by omega),List.getElem?_drop]
 ·rw [if_neg h,if_neg h]
  exact zs_getD 52 j
theorem ext_getD {a b : List Int} (h : a.length = b.length) (h2 : ∀ i,i < a.length → a.getD i 0 = b.getD i 0) : a = b := by
 refine List.ext_getElem h (fun i h3 h4 => ?_)
 have := h2 i h3
 rwa [List.getD_eq_getElem?_getD,List.getD_eq_getElem?_getD,List.getElem?_eq_getElem h3,List.getElem?_eq_getElem h4] at this
theorem getD_take {X : List Int} {e i : Nat} (h : i < e) : (X.take e).getD i 0 = X.getD i 0 := by
 simp only [List.getD_eq_getElem?_getD]
 rw [List.getElem?_take_of_lt h]
theorem lay_getD_zero (e64 : Int) (l : List (List Int)) (hall : layAll e64 l = true) (m : Nat) (hm : m ≤ l.length) (i : Nat) (hi : (laySt e64 l m).2.toNat ≤ i) : (laySt e64 l m).1.getD i 0 = 0 := by
 have h := lay_zero e64 l hall m hm
 have h2 := zs_getD (832 - (laySt e64 l m).2.toNat) (i - (laySt e64 l m).2.toNat)
 rw [← h,List.getD_eq_getElem?_getD,List.getElem?_drop,show (laySt e64 l m).2.toNat + (i - (laySt e64 l m).2.toNat) = i by omega] at h2
 rwa [List.getD_eq_getElem?_getD]
theorem lay_getD_keep (e64 : Int) (l : List (List Int)) (hall : layAll e64 l = true) (k m : Nat) (hk : k ≤ m) (hm : m ≤ l.length) (i : Nat) (hi : i < (laySt e64 l k).2.toNat) : (laySt e64 l m).1.getD i 0 = (laySt e64 l k).1.getD i 0 := by
 have h := lay_keep e64 l hall k m hk hm (laySt e64 l k).2.toNat (by have := laySt_end e64 l k;omega)
 rw [← getD_take hi,h,getD_take hi]
end Go.Proofs.YtaekpfhgdnfciaaDoor.Img
end

section
/- Whether sectors have nothing behind an end. Plain. -/
set_option linter.unusedVariables false
set_option linter.unusedSimpArgs false
namespace Go.Proofs.YtaekpfhgdnfciaaDoor.Img
open Go.RowKit Go.Proofs.YtaekpfhgdnfciaaDoor.F Go.Proofs.YtaekpfhgdnfciaaDoor.F.Nums Go.Proofs.YtaekpfhgdnfciaaDoor.O Go.Proofs.YtaekpfhgdnfciaaDoorW.PrintWords Go.Proofs.YtaekpfhgdnfciaaDoorW.PrintLast Go.Proofs.YtaekpfhgdnfciaaDoorW.PrintMore Go.Proofs.YtaekpfhgdnfciaaDoor.Plain
/-- has sector number i nothing behind place e? -/
def secRest (x : List Int) (i : Nat) (e : Int) : Bool := (List.range 64).all fun (k : Nat) => x.getD k 0 == 0 ||!(decide (e ≤ 52 * (i : Int)) ||(decide (12 ≤ k) && decide (e ≤ 52 * (i : Int) + (k : Int) - 12)))
/-- have n sectors nothing behind place e? -/
def restB (fl : List Int) (n : Nat) (e : Int) : Bool := (List.range (min n 16)).all fun i => secRest (secAt fl i) i e
theorem secRest_iff (x : List Int) (i : Nat) (e : Int) : secRest x i e = true ↔ ∀ k : Nat,k < 64 → (e ≤ 52 * (i : Int) ∨ (12 ≤ k ∧ e ≤ 52 * (i : Int) + (k : Int) - 12)) → x.getD k 0 = 0 := by
 unfold secRest
 rw [List.all_eq_true]
 constructor
 ·intro h k hk h2
  have := h k (List.mem_range.2 hk)
  simp only [Bool.or_eq_true,beq_iff_eq,Bool.not_eq_true',Bool.or_eq_false_iff,Bool.and_eq_false_iff,decide_eq_false_iff_not] at this
  omega
 ·intro h k hk
  have hk2 := List.mem_range.1 hk
  simp only [Bool.or_eq_true,beq_iff_eq,Bool.not_eq_true',Bool.or_eq_false_iff,Bool.and_eq_false_iff,decide_eq_false_iff_not]
  by_cases h2 : e ≤ 52 * (i : Int) ∨ (12 ≤ k ∧ e ≤ 52 * (i : Int) + (k : Int) - 12)
  ·exact .inl (h k hk2 h2)
  ·right
   omega
theorem secRest_skip (x : List Int) (i : Nat) (e : Int) (h : 52 * (i : Int) + 52 ≤ e) : secRest x i e = true := (secRest_iff x i e).2 (fun k hk h2 => by omega)
theorem secRest_empty (x : List Int) (hx : x.length = 64) (i : Nat) (e : Int) (h : e ≤ 52 * (i : Int)) : secRest x i e = (x == zs 64) := by
 rw [Bool.eq_iff_iff,secRest_iff,beq_iff_eq]
 constructor
 ·intro h2
  refine ext_getD (by rw [hx];rfl) (fun k hk => ?_)
  rw [h2 k (by omega) (.inl h),zs_getD]
 ·intro h2 k _ _
  rw [h2,zs_getD]
theorem secRest_tail (x : List Int) (hx : x.length = 64) (i off : Nat) (e : Int) (h0 : 0 < off) (h : e = 52 * (i : Int) + off) (hoff : off ≤ 51) : secRest x i e = (x.drop (12 + off)).all (· == 0) := by
 rw [Bool.eq_iff_iff,secRest_iff,List.all_eq_true]
 constructor
 ·intro h2 c hc
  obtain ⟨j,hj,e1⟩ := List.getElem_of_mem hc
  rw [List.length_drop] at hj
  rw [List.getElem_drop] at e1
  have := h2 (12 + off + j) (by omega) (.inr ⟨by omega,by omega⟩)
  rw [List.getD_eq_getElem?_getD,List.getElem?_eq_getElem (by omega)] at this
  rw [beq_iff_eq,← e1]
  exact this
 ·intro h2 k hk h3
  have hk2 : 12 + off ≤ k := by omega
  have hm : x[k]'(by omega) ∈ x.drop (12 + off) := by
   rw [List.mem_iff_getElem]
   refine ⟨k - (12 + off),by rw [List.length_drop];omega,?_⟩
   rw [List.getElem_drop]
   congr 1
   omega
  have := h2 _ hm
  rw [beq_iff_eq] at this
  rw [List.getD_eq_getElem?_getD,List.getElem?_eq_getElem (by omega)]
  exact this
/-- the first i sectors -/
def restU (fl : List Int) (e : Int) (i : Nat) : Bool := (List.range i).all fun i => secRest (secAt fl i) i e
theorem restU_succ (fl : List Int) (e : Int) (i : Nat) : restU fl e (i + 1) = (restU fl e i && secRest (secAt fl i) i e) := by
 unfold restU
 rw [List.range_succ,List.all_append]
 simp
theorem restB_eq (fl : List Int) (n : Nat) (e : Int) : restB fl n e = restU fl e (min n 16) := rfl
theorem restU_false (fl : List Int) (e : Int) (i m : Nat) (hi : i < m) (h : secRest (secAt fl i) i e = false) : restU fl e m = false := by
 rw [Bool.eq_false_iff]
 intro h2
 unfold restU at h2
 rw [List.all_eq_true] at h2
 have := h2 i (List.mem_range.2 hi)
 rw [h] at this
 cases this
end Go.Proofs.YtaekpfhgdnfciaaDoor.Img
end

section
/- The operation that slices an array in memory. -/
set_option linter.unusedVariables false
set_option linter.unusedSimpArgs false
namespace Go.Proofs.YtaekpfhgdnfciaaDoor.O
open Go.RowKit Go.Proofs.YtaekpfhgdnfciaaDoorW.PrintWords Go.Proofs.YtaekpfhgdnfciaaDoorW.PrintLast Go.Proofs.YtaekpfhgdnfciaaDoorW.PrintMore Go.Proofs.YtaekpfhgdnfciaaDoor.F Go.Proofs.YtaekpfhgdnfciaaDoor.F.Nums Go.Proofs.YtaekpfhgdnfciaaDoor.Plain
section
variable {P : Program} {o : Oper} {a : Act} {t e : TypeId} {N g : Nat}
theorem x_arr (x : Operand) (lo hi : Option Operand) (ho : o.op = .slice t x lo hi none) (off : Nat) (hx : a.eval x = .pointer (some ⟨g,off,none⟩)) (hu : P.underlying t = some (.array N e)) (hz : (P.info? e).map (·.size) = some 1) (l h : Nat)
  (hb : ∀ W,(Instr.sliceBounds false N N (lo.map a.eval) (hi.map a.eval) none).run P W = .ok (l,h,N) W) (hl : l < N) (W : World) : (execOp a.eval o).run P W = .ok (.value (.slice (some ⟨g,off + l,none⟩) (h - l) (N - l))) W := by
 obtain ⟨i,hi',hs⟩ := Option.map_eq_some_iff.1 hz
 have hn : ¬ N = l := by omega
 unfold execOp
 simp only [ho,hx]
 simp [Instr.sliceAt,Instr.sureAddr,run_underlying hu,hb W,sizeOf,typeInfo,hi',hs,hn,addr_add]
theorem x_arr_lo (x lo : Operand) (ho : o.op = .slice t x (some lo) none none) (off : Nat) (hx : a.eval x = .pointer (some ⟨g,off,none⟩)) (hu : P.underlying t = some (.array N e)) (hz : (P.info? e).map (·.size) = some 1) (l : Nat) (hlo : a.eval lo = .int .i64 (l : Int)) (hl : l < N) (W : World) :
  (execOp a.eval o).run P W = .ok (.value (.slice (some ⟨g,off + l,none⟩) (N - l) (N - l))) W :=
 x_arr x _ _ ho off hx hu hz l N (fun W => by simp [Instr.sliceBounds,run_sliceBound,hlo,Nat.le_of_lt hl]) hl W
theorem x_arr_lo' (x lo : Operand) (ho : o.op = .slice t x (some lo) none none) (off : Nat) (hx : a.eval x = .pointer (some ⟨g,off,none⟩)) (hu : P.underlying t = some (.array N e)) (hz : (P.info? e).map (·.size) = some 1) (l : Nat) (hlo : a.eval lo = .int .i64 (l : Int)) (hl : l < N) (W : World) (p n : Nat) (h1 : off + l = p) (h2 : N - l = n) :
  (execOp a.eval o).run P W = .ok (.value (.slice (some ⟨g,p,none⟩) n n)) W := by
 subst h1 h2
 exact x_arr_lo x lo ho off hx hu hz l hlo hl W
end
end Go.Proofs.YtaekpfhgdnfciaaDoor.O
end
