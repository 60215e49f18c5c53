import Derived.Lib.Repeat
import Derived.Test.YtpiniclogfefjaaGreatJSolves25
namespace Wx
set_option maxRecDepth 100000
open Go Go.RowKit Go.Proofs

def padK (k:Nat) (s:List Nat):List Nat:=List.replicate (k-s.length) 48++s
def Xc (n:Nat):List Nat:=if n=0 then[48]else X5 n
theorem decB_wf (n:Nat):Wf 256 (X5 n):=by
 intro x hx
 unfold X5 at hx
 rw[List.mem_reverse,List.mem_map]at hx
 obtain⟨y,hy,rfl⟩:=hx
 have:=Yz (b:=10) (by omega) n y hy
 omega
theorem decB_chunk (k:Nat):∀m,0<m/10^k→X5 m=X5 (m/10^k)++padK k (X5 (m%10^k)):=by
 induction k with
 |zero=>intro m _; simp[padK,Nat.mod_one,Qbt]
 |succ k ih=>
  intro m h
  have hm:0<m:=by
   rcases Nat.eq_zero_or_pos m with rfl|h'
   ·simp at h
   ·exact h'
  have e1:m/10/10^k=m/10^(k+1):=by rw[Nat.div_div_eq_div_mul,Nat.pow_succ,Nat.mul_comm]
  have e2:m%10^(k+1)/10=m/10%10^k:=by rw[Nat.pow_succ,Nat.mul_comm,Nat.mod_mul_right_div_self]
  have e3:m%10^(k+1)%10=m%10:=by
   rw[Nat.pow_succ,Nat.mul_comm]; exact Nat.mod_mul_right_mod _ _ _
  rw[Qem hm,ih (m/10) (by rw[e1]; exact h),e1,List.append_assoc]
  congr 1
  rcases Nat.eq_zero_or_pos (m%10^(k+1))with h0|h0
  ·rw[h0]at e2 e3 ⊢
   rw[← e2,← e3]
   simp[padK,Qbt,← List.replicate_succ']
  ·rw[Qem h0,e2,e3]
   unfold padK
   rw[List.length_append,List.length_singleton,List.append_assoc]
   congr 2
   omega
theorem padK_wf {k:Nat} {s:List Nat} (h:Wf 256 s):Wf 256 (padK k s):=by
 intro x hx
 rcases List.mem_append.1 hx with h'|h'
 ·have:=(List.mem_replicate.1 h').2; omega
 ·exact h x h'
theorem Jk (a b:List Nat):Qp a++Qp b=Qp (a++b):=by
 apply ByteArray.ext
 rw[ByteArray.data_append]
 simp[Qp]
def strs (P:List (List Nat)):List Value:=P.map fun p=>Value.string (Qp p)
def Jr (P:List (List Nat)):List Nat:=P.reverse.flatten
theorem flatR_drop {P:List (List Nat)} {k:Nat} {p:List Nat} (h:P[k]?=some p):Jr (P.drop k)=Jr (P.drop (k+1))++p:=by
 obtain⟨hk,e⟩:=List.getElem?_eq_some_iff.1 h
 rw[List.drop_eq_getElem_cons hk,e]
 simp[Jr]
theorem flatR_drop_len (P:List (List Nat)) (k:Nat):(Jr (P.drop k)).length≤(Jr P).length:=by
 have h:Jr P=Jr (P.drop k)++Jr (P.take k):=by
  unfold Jr
  rw[← List.flatten_append,← List.reverse_append,List.take_append_drop]
 rw[h,List.length_append]; omega
def U1 (l:List Nat):List Value:=Lib.byteCells (l.map UInt8.ofNat)
theorem bcells_strOf (p:List Nat):Lib.strCells (Qp p)=U1 p:=by
 rw[Lib.strCells_eq]; simp[Qp,U1]
theorem bcells_append (a b:List Nat):U1 (a++b)=U1 a++U1 b:=by
 unfold U1; rw[List.map_append,Lib.byteCells_append]
theorem bcells_length (a:List Nat):(U1 a).length=a.length:=by
 unfold U1; rw[Lib.byteCells_length,List.length_map]
theorem strs_cell {w:World} {base:Nat} {e:TypeId} {A:Option Addr} {c:Nat} {P:List (List Nat)} (h:w.ownsRow base e 1 (.slice A P.length c) P.length (strs P)) {k:Nat} {p:List Nat} (hk:P[k]?=some p):
  ∃g,A=some ⟨g,0,none⟩∧g<w.heap.size∧P.length≤c∧c≤maxLen∧w.cell? ⟨g,0+k,none⟩=some (.string (Qp p)):=by
 obtain⟨hk',_⟩:=List.getElem?_eq_some_iff.1 hk
 rcases h.2 with⟨h1,h2⟩|⟨g,cap,cur,hv,hb,hg,hn,hm,hs,ht⟩
 ·omega
 ·injection hv with e1 e2 e3
  subst e1 e3
  have:=h.cells (g:=g) rfl k (.string (Qp p)) (by simp[strs,hk])
  rw[show(⟨g,0,none⟩:Addr).add k=⟨g,0+k,none⟩ by simp[Addr.add]; omega]at this
  refine⟨g,rfl,?_,hn,hm,this⟩
  rcases Nat.lt_or_ge g w.heap.size with h'|h'
  ·exact h'
  ·simp[Array.getElem?_eq_none h']at hg
theorem flatR_snoc (P:List (List Nat)) (p:List Nat):Jr (P++[p])=p++Jr P:=by simp[Jr]
theorem repeat_zeros (c:Nat):(⟨(Lib.repeatL (⟨#[48]⟩:ByteArray).data.toList c).toArray⟩:ByteArray)=Qp (List.replicate c 48):=by
 have:∀c,Lib.repeatL [48] c=List.replicate c 48:=by
  intro c
  induction c with
  |zero=>rfl
  |succ c ih=>unfold Lib.repeatL; rw[ih]; rfl
 show(⟨(Lib.repeatL [48] c).toArray⟩:ByteArray)=_
 rw[this]
 simp[Qp]
theorem part_len {P:List (List Nat)} (h:∀p∈P,p≠[]):P.length≤(Jr P).length:=by
 unfold Jr
 induction P with
 |nil=>simp
 |cons p P ih=>
  have h1:=ih (fun q hq=>h q (List.mem_cons_of_mem _ hq))
  have h2:=List.length_pos_iff.2 (h p (by simp))
  simp at h1 ⊢
  omega
theorem strInfo:(Tryz.prog.info? 9).map (fun i=>(i.zero,i.size,i.bytes))=some (some (.string ⟨#[]⟩),1,16):=by kernel_rfl
def decL (j n:Nat):Prop:=(X5 n).length≤j
theorem decL_of {j n:Nat} (h:Bd j n):decL j n:=Qfu (Nat.lt_of_lt_of_le h (Nat.pow_le_pow_left (by omega) j))
theorem textB_zero:Xc 0=[48]:=rfl
theorem textB_pos {n:Nat} (h:0<n):Xc n=X5 n:=by unfold Xc; rw[if_neg (by omega)]

theorem Num.grown {k:IntKind} {bs:Nat} {w w':World} {b l c n:Nat} {row:Option Nat} (h:Num k bs w (.slice (some ⟨b,0,none⟩) l c) n) (hg:w.grownBy w' row) (hne:∀g,row=some g→g≠b):Num k bs w' (.slice (some ⟨b,0,none⟩) l c) n:=by
 obtain⟨A,c',e,h1,h2,h3⟩:=h
 refine⟨A,c',e,h1,h2,fun hl=>?_⟩
 obtain⟨b',o,e',hc⟩:=h3 hl
 refine⟨b',o,e',fun i hi=>?_⟩
 subst e'
 injection e with e1 e2 e3
 injection e1 with e1
 injection e1 with e4 e5
 subst e4
 exact hg.cell (hc i hi) (fun e=>hne _ e.symm rfl)
theorem Qg5 {P:Program} {ops:Array Oper} {rest:List Oper} {o:Oper} {a:Act} {Q:Exit→Act→World→Prop} (hgd:o.guard=none) (s x:Operand) (t:TypeId)
  (ho:o.op=.call { callee:=.builtin .append,args:=#[s,x],argTypes:=#[t,t] }) (base:Nat) (e:TypeId) (i:TypeInfo) (ht:P.underlying t=some (.slice e)) (hi:P.info? e=some i) (hz:i.zero=some (.string ⟨#[]⟩))
  (hsize:i.size=1) (hby:i.bytes=16) {A:Option Addr} {c:Nat} (L:List (List Nat)) (hs:a.eval s=.slice A L.length c) (w:World) (hown:w.ownsRow base e 1 (.slice A L.length c) L.length (strs L))
  (p:List Nat) (hx:a.eval x=.slice (some ⟨w.heap.size,0,none⟩) 1 1) (hL:L.length≤1000000000) (hbase:base≤w.heap.size)
  (h:∀A' c' w',w'.ownsRow base e 1 (.slice A' (L++[p]).length c') (L++[p]).length (strs (L++[p]))→Below base (w.alloc (.cells #[.string (Qp p)] e)) w'→(w.alloc (.cells #[.string (Qp p)] e)).grownBy w' (Value.slice A L.length c).ownBlock→wpList P ops Q rest (a.put o.dst (.slice A' (L++[p]).length c')) w'):
  wpList P ops Q (o::rest) a (w.alloc (.cells #[.string (Qp p)] e)):=by
 refine wpList_append_own _ hgd s x t ho base e i (.string ⟨#[]⟩) 1 16 ht hi hz hsize hby rfl (by decide) _ _ _ hs (hown.alloc _) ⟨w.heap.size,0,none⟩ 1 1 [.string (Qp p)] hx rfl ?_ ?_ (by unfold maxLen; omega) (by omega) (by simp; omega) ?_
 ·intro j u hj
  match j,hj with
  |0,hj=>simp at hj; subst hj; simp[Addr.add]
 ·intro u hu; simp at hu; subst hu; rfl
 ·intro v' w' hown' hg _
  have e1:(L++[p]).length=L.length+1:=by simp
  have e2:strs (L++[p])=strs L++[.string (Qp p)]:=by simp[strs]
  have hb:Below base (w.alloc (.cells #[.string (Qp p)] e)) w':=(Below.refl _ _).grown hg (by simp; omega) (fun k hk=>(hown.lt k hk).1)
  rw[← e2,← e1]at hown'
  rcases hown'.2 with⟨h1,h2⟩|⟨g,cap,cur,hv,hr⟩
  ·simp at h2
  ·subst hv
   exact h _ _ _ hown' hb hg
set_option maxHeartbeats 1000000 in
theorem Qc7 (w:World) (v:Value) (n:Nat) (h:Num .u64 Qa w v n) {j:Nat} (hj:Bd j n) (hj1:j≤100000000):Calls Tryz.prog 77 #[v] w (Jc w (.string (Qp (Xc n)))):=by
 have HL:=bx (decL_of hj)
 have HB:=bx hj
 clear hj
 go_enter Tryz.func77,Tryz.ntmps77
 go_wp2_with fail
 go_loopw [0,3] (fun s0 s3 wr=>∃(m:Nat) (P:List (List Nat)) (A:Option Addr) (c:Nat),Num .u64 Qa wr s0 m∧s3=.slice A P.length c∧wr.ownsRow w.heap.size 9 1 (.slice A P.length c) P.length (strs P)∧Below w.heap.size w wr∧Bx (X5 n=X5 m++Jr P)∧Bx (∀p∈P,p≠[]∧Wf 256 p)∧Bx (Bd j m)) (fun s0 _ wr=>numOf wr s0)
 case atStart=>exact⟨n,[],none,0,h,rfl,World.ownsRow_nil _ _ _ _,Below.refl _ _,bx (by simp[Jr]),bx (by simp),HB⟩
 case round=>
  clear h HB
  obtain⟨m,P,A,c,hm,rfl,hown,hb,HD,HP,HB⟩:=hrel
  have hPl:P.length≤100000000:=by
   have h1:=part_len (fun p hp=>(HP.out p hp).1)
   have h2:(X5 n).length≤j:=HL.out
   rw[HD.out,List.length_append]at h2
   omega
  rcases Nat.eq_zero_or_pos m with rfl|hm0
  ·obtain⟨A0,c0,rfl,hr⟩:=id hm
   rw[Yo]at hr ⊢
   have hj0:=HL
   have HD1:Bx (X5 n=Jr P):=bx (by rw[HD.out,Qbt,List.nil_append])
   clear HD HB hm hr
   by_cases hP0:P=[]
   ·subst hP0
    have hn0:n=0:=by
     rcases Nat.eq_zero_or_pos n with h|h
     ·exact h
     ·have:=Qel h
      rw[HD1.out]at this
      simp[Jr]at this
    subst hn0
    rw[textB_zero]
    go_wp2
    go_ret
    exact⟨rfl,hb⟩
   ·have hn0:0<n:=by
     rcases Nat.eq_zero_or_pos n with h|h
     ·exfalso
      have h1:=part_len (fun p hp=>(HP.out p hp).1)
      have h2:=List.length_pos_iff.2 hP0
      rw[← HD1.out,h,Qbt]at h1
      have h3:P.length≤0:=h1
      omega
     ·exact h
    have HT:=bx (textB_pos hn0)
    have hp1:(1:Int)≤(P.length:Int):=by have:=List.length_pos_iff.2 hP0; omega
    have hpe:((P.length:Int)==0)=false:=beq_eq_false_iff_ne.2 (by omega)
    have hw2:Wf 256 (Jr P):=by rw[← HD1.out]; exact decB_wf _
    have hlf:(Jr P).length≤100000000:=by
     have h2:(X5 n).length≤j:=HL.out
     rw[HD1.out]at h2; omega
    clear hP0 hn0
    have HLF:=bx hlf
    have HW2:=bx hw2
    clear hlf hw2
    go_wp2_with fail
    have hbd0:=Lib.fresh_isBuilder 141 5 wr
    have hbl0:Below wr.heap.size wr (wr.alloc (.cells #[.pointer none,.slice none 0 0] 141)):=Below.alloc (Below.refl _ _) (Nat.le_refl _) _
    generalize wr.alloc (.cells #[.pointer none,.slice none 0 0] 141)=wb at *
    obtain⟨wo,rfl⟩:∃wo:World,wo=wr:=⟨_,rfl⟩
    go_loopw [8] (fun s8 wx=>∃k:Nat,k≤P.length∧s8=.int .i64 ((k:Int)-1)∧Lib.IsBuilder 141 5 wo.heap.size wo.heap.size (U1 (Jr (P.drop k))) wx∧Below wo.heap.size wo wx) (fun s8 _=>(intOf s8+1).toNat)
    case atStart=>exact⟨P.length,Nat.le_refl _,rfl,by rw[List.drop_length]; exact hbd0,hbl0⟩
    case round=>
     clear hbd0 hbl0
     obtain⟨k,hk,rfl,hib,hbx⟩:=hrel
     rcases Nat.eq_zero_or_pos k with rfl|hpos
     ·rw[show(((0:Nat):Int)-1) = -1 by omega]
      rw[List.drop_zero]at hib
      go_wp2_with fail
      refine Calls.mono (Tryz.Builder_String_any wo.heap.size wo.heap.size ((Jr P).map UInt8.ofNat) wr hib hbx.size) ?_
      rintro e wf ⟨rfl,hbf⟩
      go_wp2
      go_ret
      rw[HT.out,HD1.out]
      exact⟨rfl,hb.trans ((hbx.trans hbf).mono hb.size)⟩
     ·obtain⟨i,rfl⟩:∃i,k=i+1:=⟨k-1,by omega⟩
      rw[show(((i+1:Nat):Int)-1)=(i:Int) by omega]
      obtain⟨p,hp⟩:∃p,P[i]?=some p:=⟨P[i]'(by omega),List.getElem?_eq_getElem (by omega)⟩
      obtain⟨g,rfl,hg1,hg2,hg3,hcp⟩:=strs_cell hown hp
      have hcp1:wr.cell? ⟨g,0+i,none⟩=some (.string (Qp p)):=by rw[hbx.cell hg1]; exact hcp
      rw[Nat.zero_add]at hcp1
      have hfd:=flatR_drop hp
      have hln:=flatR_drop_len P i
      have HWS:=bx (Qit wo.heap.size wo.heap.size (U1 (Jr (P.drop (i+1)))) (Qp p) wr hib (by
       rw[bcells_length,Xs]
       rw[hfd,List.length_append]at hln
       have:=HLF.out
       omega) hbx.size)
      have HFD:=bx (show U1 (Jr (P.drop (i+1)))++Lib.strCells (Qp p)=U1 (Jr (P.drop i)) by rw[bcells_strOf,hfd,bcells_append])
      have hi0:(0:Int)≤(i:Int):=by omega
      have hi1:(i:Int)<(P.length:Int):=by omega
      clear hcp hfd hln hp
      go_wp2_with fail
      refine Calls.mono HWS.out ?_
      rintro e wy ⟨rfl,hby,hbz⟩
      rw[HFD.out]at hby
      clear HWS hcp1
      go_wp2
      go_roundw
      case rel=>
       have hcnt:(Value.int .i64 (i:Int):Value)=.int .i64 (i:Int):=rfl
       (repeat apply Exists.intro)
       exact⟨⟨i,by omega,by go_num,.inr hby,hbx.trans hbz⟩,rfl⟩
      case measure=>simp[intOf]
  ·have hm1:0<(digs Qa m).length:=(Xh (n:=m) Qu).2 hm0
   have hl1:(1:Int)≤((digs Qa m).length:Int):=by omega
   have hc:=Qh3 wr _ m 10000000000000000000 hm HB.out (by omega) (by omega) (by unfold Qa; omega)
   obtain⟨q,hq⟩:∃q,q=m/10000000000000000000:=⟨_,rfl⟩
   obtain⟨r,hr⟩:∃r,r=m%10000000000000000000:=⟨_,rfl⟩
   have HR1:=bx (show r<10000000000000000000 by omega)
   have HR2:=bx (show q=0→r=m by omega)
   have HQ:=bx (show q<m by omega)
   have HQ1:=bx (show q≤m by omega)
   rw[← hq,← hr,show(((10000000000000000000:Nat):Int))=10000000000000000000 from rfl]at hc
   have HCH:Bx (0<q→X5 m=X5 q++padK 19 (X5 r)):=bx (fun h=>by
    have:=decB_chunk 19 m
    rw[show(10:Nat)^19=10000000000000000000 by decide,← hq,← hr]at this
    exact this h)
   clear hq hr
   obtain⟨A0,c0,rfl,hr⟩:=id hm
   have HM:=bx hm0
   have HC:=bx hc
   clear hm0 hc hr
   go_wp2_with fail
   refine Calls.mono HC.out ?_
   rintro e w1 ⟨l1,c1,rfl,hq,hb1⟩
   have HRB:=bx (show r<Qa by have:=HR1.out; unfold Qa; omega)
   go_wp2_with fail
   refine Calls.mono (decimal_num w1 r HRB.out) ?_
   rintro e w2 ⟨rfl,hb2⟩
   have hq2:=hq.below hb2
   have hb3:=(hb.trans (hb1.mono hb.size)).trans (hb2.mono (hb.trans (hb1.mono hb.size)).size)
   have hb12:=hb1.trans (hb2.mono hb1.size)
   clear hq hb2
   have hdl:(X5 r).length≤19:=Qfu (by have:=HR1.out; omega)
   have hdl1:((X5 r).length:Int)≤19:=by omega
   have hsz:=Xs (X5 r)
   obtain⟨_,_,hsl,_⟩:=id hq2
   injection hsl with e1 e2 e3
   subst e1 e2 e3
   obtain⟨i0,hi,hz0,hz1,hz2⟩:=info_parts strInfo
   have hown2:=hown.kept (Kj hb12 none) (by cases A with|none=>exact .inl rfl|some a=>exact .inr (by simp[Value.ownBlock]))
   have HNE:Bx (∀g,(Value.slice A P.length c).ownBlock=some g→g≠wr.heap.size):=bx (fun g hg=>by have:=(hown.lt g hg).2; omega)
   rcases Nat.eq_zero_or_pos q with rfl|hq0
   ·have hfin:Bx (X5 n=X5 0++Jr (P++[X5 r])):=bx (by
     rw[flatR_snoc,Qbt,List.nil_append,HR2.out rfl]; exact HD.out)
    have hpp:Bx (∀p∈P++[X5 r],p≠[]∧Wf 256 p):=bx (fun p hp=>by
     rcases List.mem_append.1 hp with h|h
     ·exact HP.out p h
     ·simp at h
      subst h
      exact⟨List.length_pos_iff.1 (Qel (by rw[HR2.out rfl]; exact HM.out)),decB_wf _⟩)
    have hbd:Bx (Bd j 0):=bx (HB.out.le (Nat.zero_le _))
    clear HC HCH HR2 hown
    rw[Yo]
    go_wp2_with (at_builtin; refine Qg5 rfl (.tmp 28) (.tmp 30) 134 rfl w.heap.size 9 i0 Tryz.underlying134 hi hz0 hz1 hz2 P rfl w2 hown2 (X5 r) rfl (by omega) hb3.size ?_; intro A3 c3 w4 hown4 hb4 hg4)
    have hz:=((hb3.alloc hb3.size (.cells #[.string (Qp (X5 r))] 9)).trans hb4)
    have hq4:=(hq2.below (Below.alloc (Below.refl _ _) (Nat.le_refl _) (.cells #[.string (Qp (X5 r))] 9))).grown hg4 HNE.out
    rw[Yo]at hq4
    have hq4:Num .u64 Qa w4 (.slice (some ⟨wr.heap.size,0,none⟩) 0 c1) 0:=hq4
    go_wp2
    go_roundw
    case rel=>
     exact⟨0,P++[X5 r],A3,c3,hq4,by simp,hown4,hz,hfin,hpp,hbd⟩
    case measure=>rw[hq4.of_eq,hm.of_eq]; exact HM.out
   ·have hql:(1:Int)≤((digs Qa q).length:Int):=by have:=(Xh (n:=q) Qu).2 hq0; omega
    have hpad:padK 19 (X5 r)=List.replicate (19-(X5 r).length) 48++X5 r:=rfl
    have hlz:(padK 19 (X5 r)).length=19:=by rw[hpad,List.length_append,List.length_replicate]; omega
    have hfin:Bx (X5 n=X5 q++Jr (P++[padK 19 (X5 r)])):=bx (by
     rw[flatR_snoc,← List.append_assoc,← HCH.out hq0]; exact HD.out)
    have hpp:Bx (∀p∈P++[padK 19 (X5 r)],p≠[]∧Wf 256 p):=bx (fun p hp=>by
     rcases List.mem_append.1 hp with h|h
     ·exact HP.out p h
     ·simp at h
      subst h
      exact⟨List.length_pos_iff.1 (by omega),padK_wf (decB_wf _)⟩)
    have hbd:Bx (Bd j q):=bx (HB.out.le HQ1.out)
    have HPAD:=bx hpad
    clear hq0 hpad hlz HC HCH HR2
    have hsz2:(Qp (List.replicate (19-(X5 r).length) 48)).size=19-(X5 r).length:=by rw[Xs,List.length_replicate]
    have hsz3:(19-(X5 r).length)+(X5 r).length≤9223372036854775807:=by omega
    have hsl3:19-(X5 r).length≤19:=by omega
    go_wp2_with fail
    rw[show(19:Int)-((X5 r).length:Int)=((19-(X5 r).length:Nat):Int) by omega]
    refine Calls.mono (Tryz.strings_Repeat ⟨#[48]⟩ (19-(X5 r).length) w2 (by omega) (by show 1*_≤_; omega)) ?_
    rw[repeat_zeros]
    rintro e w3 ⟨rfl,hb4⟩
    have hown3:=hown2.kept (Kj hb4 none) (by cases A with|none=>exact .inl rfl|some a=>exact .inr (by simp[Value.ownBlock]))
    have hq3:=hq2.below hb4
    have hb5:=hb3.trans (hb4.mono hb3.size)
    have hcat:Qp (List.replicate (19-(X5 r).length) 48)++Qp (X5 r)=Qp (padK 19 (X5 r)):=by rw[Jk]; rfl
    go_wp2_with (at_builtin; refine Qg5 rfl (.tmp 28) (.tmp 30) 134 rfl w.heap.size 9 i0 Tryz.underlying134 hi hz0 hz1 hz2 P rfl w3 hown3 (padK 19 (X5 r)) rfl (by omega) hb5.size ?_; intro A3 c3 w4 hown4 hb6 hg4)
    have hz:=((hb5.alloc hb5.size (.cells #[.string (Qp (padK 19 (X5 r)))] 9)).trans hb6)
    have hq4:=(hq3.below (Below.alloc (Below.refl _ _) (Nat.le_refl _) (.cells #[.string (Qp (padK 19 (X5 r)))] 9))).grown hg4 HNE.out
    clear hcat
    go_wp2
    go_roundw
    case rel=>
     exact⟨q,P++[padK 19 (X5 r)],A3,c3,hq4,by simp,hown4,hz,hfin,hpp,hbd⟩
    case measure=>rw[hq4.of_eq,hm.of_eq]; exact HQ.out
end Wx

namespace Wx
set_option maxRecDepth 100000
open Go Go.RowKit Go.Proofs

theorem dig_cut {d:Nat} (h:d<10):(⟨#[48,49,50,51,52,53,54,55,56,57]⟩:ByteArray).extract d (d+1)=Qp [d+48]:=by
 match d,h with
 |0,_=>rfl
 |1,_=>rfl
 |2,_=>rfl
 |3,_=>rfl
 |4,_=>rfl
 |5,_=>rfl
 |6,_=>rfl
 |7,_=>rfl
 |8,_=>rfl
 |9,_=>rfl
 |n+10,h=>exact absurd h (by omega)
theorem dig_step {X S:List Nat} {x k r:Nat} (hk:k<9) (h:X=X5 (x*10^(9-k)+r)++S) (h0:0<x*10^(9-k)+r):
  X=X5 (x*10^(9-(k+1))+r/10)++((r%10+48)::S):=by
 obtain⟨e1,e2⟩:=dec_step (A:=x) (r:=r) (k:=9-k) (by omega)
 rw[h,Qem h0,e1,e2,show 9-(k+1)=9-k-1 by omega,List.append_assoc]
 rfl

set_option maxHeartbeats 1000000 in
theorem U8 (w:World) (v:Value) (n:Nat) (h:Num .u32 Qd w v n) {j:Nat} (hj:Bd j n) (hj1:j≤100000000):Calls Tryz.prog 102 #[v] w (Jc w (.string (Qp (Xc n)))):=by
 rcases Nat.eq_zero_or_pos n with rfl|hn0
 ·obtain⟨A,c,rfl,hr⟩:=id h
  rw[Yo,textB_zero]
  go_enter Tryz.func102,Tryz.ntmps102
  go_wp2
  go_ret
  exact⟨rfl,Below.refl _ _⟩
 ·rw[textB_pos hn0]
  obtain⟨A,c,rfl,hr⟩:=id h
  have hl1:(((digs Qd n).length:Int)==0)=false:=beq_eq_false_iff_ne.2 (by have:=(Xh (n:=n) Qz).2 hn0; omega)
  have HL:=bx (show(X5 n).length≤100000000 from Nat.le_trans (decL_of hj) hj1)
  generalize (digs Qd n).length=L at *
  obtain⟨X,hX⟩:∃X,X5 n=X:=⟨_,rfl⟩
  rw[hX]at HL ⊢
  have HX:=bx hX
  have HJ:=bx hj
  clear hX hj hr
  go_enter Tryz.func102,Tryz.ntmps102
  go_wp2_with fail
  go_loopw [0,3] (fun s0 s3 wr=>∃(x:Nat) (S:List Nat),Num .u32 Qd wr s0 x∧s3=.string (Qp S)∧Bx (X=X5 x++S)∧Bx (Bd j x)∧Below w.heap.size w wr) (fun s0 _ wr=>numOf32 wr s0)
  case atStart=>exact⟨n,[],h,rfl,bx (by rw[HX.out,List.append_nil]),HJ,Below.refl _ _⟩
  case round=>
   clear h HJ
   obtain⟨x,S,hx,rfl,HS,HJ,hb⟩:=hrel
   rcases Nat.eq_zero_or_pos x with rfl|hx0
   ·obtain⟨A,c,rfl,hr⟩:=id hx
    rw[Yo]at hr ⊢
    have e:=HS.out
    rw[Qbt,List.nil_append]at e
    have E:=bx e
    clear e
    go_wp2
    go_ret
    rw[E.out]
    exact⟨rfl,hb⟩
   ·obtain⟨A,c,rfl,hr⟩:=id hx
    have hl2:(0:Int)<((digs Qd x).length:Int):=by have:=(Xh (n:=x) Qz).2 hx0; omega
    have hlen:=hr.len
    have HX0:=bx hx0
    generalize (digs Qd x).length=L2 at *
    clear hr hx0
    go_wp2_with fail
    refine Calls.mono (Qh2 wr _ x 1000000000 hx HJ.out (by omega) (by omega) (by unfold Qd; omega)) ?_
    rintro e w2 ⟨vq,rfl,hq,hb2⟩
    have hb3:=hb.trans (hb2.mono hb.size)
    have HR:=bx (show x%1000000000<10^9 from Nat.mod_lt _ (by omega))
    have HD:=bx (show x/1000000000*10^9+x%1000000000=x from by have:=Nat.div_add_mod x 1000000000; omega)
    have HQ:=bx (show Bd j (x/1000000000)from HJ.out.le (Nat.div_le_self _ _))
    have HM:=bx (show x/1000000000<x from Nat.div_lt_self HX0.out (by omega))
    have HNx:=bx hx
    clear hx
    generalize x/1000000000=y at *
    generalize x%1000000000=r0 at *
    obtain⟨A2,c2,rfl,hr2⟩:=id hq
    have hlen2:=hr2.len
    clear hr2
    go_wp2_with fail
    obtain⟨wo,rfl⟩:∃wo:World,wo=w2:=⟨_,rfl⟩
    go_loop [3,5,6] (fun s3 s5 s6=>∃(k r:Nat) (T:List Nat),k≤9∧s6=.int .i64 (k:Int)∧s5=.int .u32 (r:Int)∧s3=.string (Qp T)∧Bx (r<10^(9-k))∧Bx (X=X5 (y*10^(9-k)+r)++T)) (fun _ _ s6=>9-(intOf s6).toNat)
    case atStart=>exact⟨0,r0,S,by omega,rfl,rfl,rfl,HR,bx (by rw[Nat.sub_zero,HD.out]; exact HS.out)⟩
    case round=>
     clear HS HR HD
     obtain⟨k,r,T,hk,rfl,rfl,rfl,HR,HT⟩:=hrel
     by_cases hk9:k<9
     ·rcases Nat.eq_zero_or_pos y with rfl|hy0
      ·rw[Yo]at *
       rcases Nat.eq_zero_or_pos r with rfl|hr0
       ·have hk9':(k:Int)<9:=by omega
        go_wp2
        go_roundw
        case rel=>exact⟨0,T,hq,rfl,bx (by rw[HT.out]; simp),HQ,hb3⟩
        case measure=>rw[Num.of_eq32 HNx.out,Num.of_eq32 hq]; exact HM.out
       ·have hr0':(0:Int)<(r:Int):=by omega
        have hT:=dig_step hk9 HT.out (by omega)
        have hTl:T.length≤100000000:=by have h1:=HL.out; have h2:=congrArg List.length HT.out; rw[List.length_append]at h2; omega
        have HT2:=bx hT
        have hz:=Xs T
        have hc:=dig_cut (d:=r%10) (by omega)
        have HC:=bx hc
        have hap:=Jk [r%10+48] T
        have HAP:=bx hap
        have hm1:(0:Int)≤(r:Int)%10:=by omega
        have hm2:(r:Int)%10≤9:=by omega
        have hrr:(r:Int)≤4294967295:=by have h1:=HR.out; have h2:10^(9-k)≤10^9:=Nat.pow_le_pow_right (by omega) (by omega); omega
        have HR2:=bx (rest_step (by omega) HR.out)
        have hk9':(k:Int)<9:=by omega
        clear hT hc hap
        go_wp2
        rw[HC.out,HAP.out]
        go_round
        case rel=>exact⟨k+1,r/10,(r%10+48)::T,by omega,by go_num,by go_num,rfl,bx (by have:=HR2.out; rwa [show 9-(k+1)=9-k-1 by omega]),HT2⟩
        case measure=>simp[intOf]; omega
      ·have hl3:(0:Int)<((digs Qd y).length:Int):=by have:=(Xh (n:=y) Qz).2 hy0; omega
       generalize (digs Qd y).length=L3 at *
       have hT:=dig_step hk9 HT.out (by have:=Nat.mul_pos hy0 (Nat.pow_pos (n:=9-k) (show 0<10 by omega)); omega)
       have hTl:T.length≤100000000:=by have h1:=HL.out; have h2:=congrArg List.length HT.out; rw[List.length_append]at h2; omega
       have HT2:=bx hT
       have hz:=Xs T
       have hc:=dig_cut (d:=r%10) (by omega)
       have HC:=bx hc
       have hap:=Jk [r%10+48] T
       have HAP:=bx hap
       have hm1:(0:Int)≤(r:Int)%10:=by omega
       have hm2:(r:Int)%10≤9:=by omega
       have hrr:(r:Int)≤4294967295:=by have h1:=HR.out; have h2:10^(9-k)≤10^9:=Nat.pow_le_pow_right (by omega) (by omega); omega
       have HR2:=bx (rest_step (by omega) HR.out)
       have hk9':(k:Int)<9:=by omega
       clear hT hc hap
       go_wp2
       rw[HC.out,HAP.out]
       go_round
       case rel=>exact⟨k+1,r/10,(r%10+48)::T,by omega,by go_num,by go_num,rfl,bx (by have:=HR2.out; rwa [show 9-(k+1)=9-k-1 by omega]),HT2⟩
       case measure=>simp[intOf]; omega
     ·obtain rfl:k=9:=by omega
      have hr0:r=0:=by have:=HR.out; simpa using this
      subst hr0
      go_wp2
      go_roundw
      case rel=>exact⟨y,T,hq,rfl,bx (by rw[HT.out]; simp),HQ,hb3⟩
      case measure=>rw[Num.of_eq32 HNx.out,Num.of_eq32 hq]; exact HM.out
end Wx

namespace Wx
set_option maxRecDepth 100000
open Go Go.RowKit Go.Proofs

def Y4 (q:Rat):List Nat:=(if q.num<0 then[45]else[])++(Xc q.num.natAbs++(if q.den=1 then[]else 47::Xc q.den))
theorem J2 {j n:Nat} (h:Bd j n):(Xc n).length≤j+1:=by
 unfold Xc
 split
 ·simp
 ·have:=decL_of h; unfold decL at this; omega
theorem Qff (l:List Nat):(⟨#[45]⟩:ByteArray)++Qp l=Qp (45::l):=Jk [45] l
theorem cat_slash (l:List Nat):(⟨#[47]⟩:ByteArray)++Qp l=Qp (47::l):=Jk [47] l
set_option maxHeartbeats 1000000 in
theorem rtext_00 (w:World) (v:Value) (x:Rat) (hx:IsRat w v x) {j:Nat} (hj:BdR j x) (hj1:j≤100000000) (hn:¬x.num<0) (hd:¬x.den=1):Calls Tryz.prog 34 #[v] w (Jc w (.string (Qp (Y4 x)))):=by
 obtain⟨vx1,vx2,rfl,hxa,hxb⟩:=id hx
 obtain⟨Ax1,cx1,rfl,_⟩:=id hxa
 obtain⟨Ax2,cx2,rfl,_⟩:=id hxb
 have HB:=bx hj
 have hT:Y4 x=Xc x.num.natAbs++47::Xc x.den:=by unfold Y4; rw[if_neg hn,if_neg hd]; simp
 rw[hT,decide_eq_false hn]at *
 rw[Qeo hd]at *
 have hld:(1:Int)≤((digs Qa x.den).length:Int):=by have:=(Xh (n:=x.den) Qu).2 x.den_pos; omega
 have hl2:=J2 hj.2
 have hz2:=Xs (Xc x.den)
 have hy2:=cat_slash (Xc x.den)
 have hz3:=Xs (47::Xc x.den)
 have hy3:=Jk (Xc x.num.natAbs) (47::Xc x.den)
 have hl1:=J2 hj.1
 have hz1:=Xs (Xc x.num.natAbs)
 have hq2:1+(Xc x.den).length≤9223372036854775807:=by omega
 have hq3:(Xc x.num.natAbs).length+((Xc x.den).length+1)≤9223372036854775807:=by omega
 clear hj hn hd hT hl1 hl2
 go_enter Tryz.func34,Tryz.ntmps34
 go_wp2_with fail
 obtain⟨w1,e1,o1,b1,s1⟩:=Js w (.bool false) (.slice Ax1 (digs Qa x.num.natAbs).length cx1) (.slice Ax2 (digs Qa x.den).length cx2) 38
 rw[e1]
 clear e1
 refine Calls.mono (Qc7 w1 _ _ (hxa.below b1) HB.out.1 hj1) ?_
 rintro e w2 ⟨rfl,hb2⟩
 have k0:=(o1.gone hb2).c0
 have k1:=(o1.gone hb2).c1
 have k2:=(o1.gone hb2).c2
 have hxb2:=(hxb.below b1).below hb2
 have B2:=b1.trans (hb2.mono b1.size)
 go_wp2_with fail
 refine Calls.mono (Qc7 w2 _ _ hxb2 HB.out.2 hj1) ?_
 rintro e w3 ⟨rfl,hb3⟩
 go_wp2
 go_ret
 exact⟨rfl,B2.trans (hb3.mono B2.size)⟩

set_option maxHeartbeats 1000000 in
theorem rtext_01 (w:World) (v:Value) (x:Rat) (hx:IsRat w v x) {j:Nat} (hj:BdR j x) (hj1:j≤100000000) (hn:¬x.num<0) (hd:x.den=1):Calls Tryz.prog 34 #[v] w (Jc w (.string (Qp (Y4 x)))):=by
 obtain⟨vx1,vx2,rfl,hxa,hxb⟩:=id hx
 obtain⟨Ax1,cx1,rfl,_⟩:=id hxa
 obtain⟨Ax2,cx2,rfl,_⟩:=id hxb
 have HB:=bx hj
 have hT:Y4 x=Xc x.num.natAbs:=by unfold Y4; rw[if_neg hn,if_pos hd]; simp
 rw[hT,decide_eq_false hn]at *
 rw[hd,Qdh,Yo]at *
 have hl1:=J2 hj.1
 have hz1:=Xs (Xc x.num.natAbs)
 clear hj hn hd hT hl1
 go_enter Tryz.func34,Tryz.ntmps34
 go_wp2_with fail
 obtain⟨w1,e1,o1,b1,s1⟩:=Js w (.bool false) (.slice Ax1 (digs Qa x.num.natAbs).length cx1) (.slice Ax2 0 cx2) 38
 rw[e1]
 clear e1
 refine Calls.mono (Qc7 w1 _ _ (hxa.below b1) HB.out.1 hj1) ?_
 rintro e w2 ⟨rfl,hb2⟩
 have k0:=(o1.gone hb2).c0
 have k1:=(o1.gone hb2).c1
 have k2:=(o1.gone hb2).c2
 have hxb2:=(hxb.below b1).below hb2
 have B2:=b1.trans (hb2.mono b1.size)
 go_wp2
 go_ret
 exact⟨rfl,B2⟩

set_option maxHeartbeats 1000000 in
theorem rtext_10 (w:World) (v:Value) (x:Rat) (hx:IsRat w v x) {j:Nat} (hj:BdR j x) (hj1:j≤100000000) (hn:x.num<0) (hd:¬x.den=1):Calls Tryz.prog 34 #[v] w (Jc w (.string (Qp (Y4 x)))):=by
 obtain⟨vx1,vx2,rfl,hxa,hxb⟩:=id hx
 obtain⟨Ax1,cx1,rfl,_⟩:=id hxa
 obtain⟨Ax2,cx2,rfl,_⟩:=id hxb
 have HB:=bx hj
 have hT:Y4 x=45::(Xc x.num.natAbs++47::Xc x.den):=by unfold Y4; rw[if_pos hn,if_neg hd]; simp
 rw[hT,decide_eq_true hn]at *
 rw[Qeo hd]at *
 have hld:(1:Int)≤((digs Qa x.den).length:Int):=by have:=(Xh (n:=x.den) Qu).2 x.den_pos; omega
 have hl2:=J2 hj.2
 have hz2:=Xs (Xc x.den)
 have hy2:=cat_slash (Xc x.den)
 have hz3:=Xs (47::Xc x.den)
 have hy1:=Qff (Xc x.num.natAbs)
 have hz4:=Xs (45::Xc x.num.natAbs)
 have hy3:=Jk (45::Xc x.num.natAbs) (47::Xc x.den)
 have hl1:=J2 hj.1
 have hz1:=Xs (Xc x.num.natAbs)
 have hq1:1+(Xc x.num.natAbs).length≤9223372036854775807:=by omega
 have hq2:1+(Xc x.den).length≤9223372036854775807:=by omega
 have hq3:((Xc x.num.natAbs).length+1)+((Xc x.den).length+1)≤9223372036854775807:=by omega
 clear hj hn hd hT hl1 hl2
 go_enter Tryz.func34,Tryz.ntmps34
 go_wp2_with fail
 obtain⟨w1,e1,o1,b1,s1⟩:=Js w (.bool true) (.slice Ax1 (digs Qa x.num.natAbs).length cx1) (.slice Ax2 (digs Qa x.den).length cx2) 38
 rw[e1]
 clear e1
 refine Calls.mono (Qc7 w1 _ _ (hxa.below b1) HB.out.1 hj1) ?_
 rintro e w2 ⟨rfl,hb2⟩
 have k0:=(o1.gone hb2).c0
 have k1:=(o1.gone hb2).c1
 have k2:=(o1.gone hb2).c2
 have hxb2:=(hxb.below b1).below hb2
 have B2:=b1.trans (hb2.mono b1.size)
 go_wp2_with fail
 refine Calls.mono (Qc7 w2 _ _ hxb2 HB.out.2 hj1) ?_
 rintro e w3 ⟨rfl,hb3⟩
 go_wp2
 go_ret
 exact⟨rfl,B2.trans (hb3.mono B2.size)⟩

set_option maxHeartbeats 1000000 in
theorem rtext_11 (w:World) (v:Value) (x:Rat) (hx:IsRat w v x) {j:Nat} (hj:BdR j x) (hj1:j≤100000000) (hn:x.num<0) (hd:x.den=1):Calls Tryz.prog 34 #[v] w (Jc w (.string (Qp (Y4 x)))):=by
 obtain⟨vx1,vx2,rfl,hxa,hxb⟩:=id hx
 obtain⟨Ax1,cx1,rfl,_⟩:=id hxa
 obtain⟨Ax2,cx2,rfl,_⟩:=id hxb
 have HB:=bx hj
 have hT:Y4 x=45::Xc x.num.natAbs:=by unfold Y4; rw[if_pos hn,if_pos hd]; simp
 rw[hT,decide_eq_true hn]at *
 rw[hd,Qdh,Yo]at *
 have hy1:=Qff (Xc x.num.natAbs)
 have hz4:=Xs (45::Xc x.num.natAbs)
 have hl1:=J2 hj.1
 have hz1:=Xs (Xc x.num.natAbs)
 have hq1:1+(Xc x.num.natAbs).length≤9223372036854775807:=by omega
 clear hj hn hd hT hl1
 go_enter Tryz.func34,Tryz.ntmps34
 go_wp2_with fail
 obtain⟨w1,e1,o1,b1,s1⟩:=Js w (.bool true) (.slice Ax1 (digs Qa x.num.natAbs).length cx1) (.slice Ax2 0 cx2) 38
 rw[e1]
 clear e1
 refine Calls.mono (Qc7 w1 _ _ (hxa.below b1) HB.out.1 hj1) ?_
 rintro e w2 ⟨rfl,hb2⟩
 have k0:=(o1.gone hb2).c0
 have k1:=(o1.gone hb2).c1
 have k2:=(o1.gone hb2).c2
 have hxb2:=(hxb.below b1).below hb2
 have B2:=b1.trans (hb2.mono b1.size)
 go_wp2
 go_ret
 exact⟨rfl,B2⟩

theorem Qdm (w:World) (v:Value) (x:Rat) (hx:IsRat w v x) {j:Nat} (hj:BdR j x) (hj1:j≤100000000):Calls Tryz.prog 34 #[v] w (Jc w (.string (Qp (Y4 x)))):=by
 by_cases hn:x.num<0
 ·by_cases hd:x.den=1
  ·exact rtext_11 w v x hx hj hj1 hn hd
  ·exact rtext_10 w v x hx hj hj1 hn hd
 ·by_cases hd:x.den=1
  ·exact rtext_01 w v x hx hj hj1 hn hd
  ·exact rtext_00 w v x hx hj hj1 hn hd
end Wx
