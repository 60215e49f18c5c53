import Derived.Lib.Repeat
import Derived.Test.YtpiniclogfefjaaJSylvester18
namespace Wx
set_option maxRecDepth 100000
open Go Go.RowKit Go.Proofs

def Ub (k:Nat) (s:List Nat):List Nat:=List.replicate (k-s.length) 48++s
def Ya (n:Nat):List Nat:=if n=0 then[48]else Xp n
theorem decB_wf (n:Nat):Wf 256 (Xp n):=by
 intro x hx
 unfold Xp at hx
 rw[List.mem_reverse,List.mem_map]at hx
 obtain⟨y,hy,rfl⟩:=hx
 have:=Jk (b:=10) (by omega) n y hy
 omega
theorem decB_chunk (k:Nat):∀m,0<m/10^k→Xp m=Xp (m/10^k)++Ub k (Xp (m%10^k)):=by
 induction k with
 |zero=>intro m _; simp[Ub,Nat.mod_one,Qaq]
 |succ k ih=>
  intro m h
  have hm:0<m:=by
   rcases Nat.eq_zero_or_pos m with rfl|h'
   ·simp at h
   ·exact h'
  have e1:m/10/10^k=m/10^(k+1):=by rw[Nat.div_div_eq_div_mul,Nat.pow_succ,Nat.mul_comm]
  have e2:m%10^(k+1)/10=m/10%10^k:=by rw[Nat.pow_succ,Nat.mul_comm,Nat.mod_mul_right_div_self]
  have e3:m%10^(k+1)%10=m%10:=by
   rw[Nat.pow_succ,Nat.mul_comm]; exact Nat.mod_mul_right_mod _ _ _
  rw[Qcz hm,ih (m/10) (by rw[e1]; exact h),e1,List.append_assoc]
  congr 1
  rcases Nat.eq_zero_or_pos (m%10^(k+1))with h0|h0
  ·rw[h0]at e2 e3 ⊢
   rw[← e2,← e3]
   simp[Ub,Qaq,← List.replicate_succ']
  ·rw[Qcz h0,e2,e3]
   unfold Ub
   rw[List.length_append,List.length_singleton,List.append_assoc]
   congr 2
   omega
theorem padK_wf {k:Nat} {s:List Nat} (h:Wf 256 s):Wf 256 (Ub k s):=by
 intro x hx
 rcases List.mem_append.1 hx with h'|h'
 ·have:=(List.mem_replicate.1 h').2; omega
 ·exact h x h'
theorem Vf (a b:List Nat):Qu a++Qu b=Qu (a++b):=by
 apply ByteArray.ext
 rw[ByteArray.data_append]
 simp[Qu]
def strs (P:List (List Nat)):List Value:=P.map fun p=>Value.string (Qu p)
def Zu (P:List (List Nat)):List Nat:=P.reverse.flatten
theorem flatR_drop {P:List (List Nat)} {k:Nat} {p:List Nat} (h:P[k]?=some p):Zu (P.drop k)=Zu (P.drop (k+1))++p:=by
 obtain⟨hk,e⟩:=List.getElem?_eq_some_iff.1 h
 rw[List.drop_eq_getElem_cons hk,e]
 simp[Zu]
theorem flatR_drop_len (P:List (List Nat)) (k:Nat):(Zu (P.drop k)).length≤(Zu P).length:=by
 have h:Zu P=Zu (P.drop k)++Zu (P.take k):=by
  unfold Zu
  rw[← List.flatten_append,← List.reverse_append,List.take_append_drop]
 rw[h,List.length_append]; omega
def Wn (l:List Nat):List Value:=Lib.byteCells (l.map UInt8.ofNat)
theorem bcells_strOf (p:List Nat):Lib.strCells (Qu p)=Wn p:=by
 rw[Lib.strCells_eq]; simp[Qu,Wn]
theorem bcells_append (a b:List Nat):Wn (a++b)=Wn a++Wn b:=by
 unfold Wn; rw[List.map_append,Lib.byteCells_append]
theorem bcells_length (a:List Nat):(Wn a).length=a.length:=by
 unfold Wn; rw[Lib.byteCells_length,List.length_map]
theorem strs_cell {w:World} {base:Nat} {e:TypeId} {A:Option Addr} {c:Nat} {P:List (List Nat)} (h:w.ownsRow base e 1 (.slice A P.length c) P.length (strs P)) {k:Nat} {p:List Nat} (hk:P[k]?=some p):
  ∃g,A=some ⟨g,0,none⟩∧g<w.heap.size∧P.length≤c∧c≤maxLen∧w.cell? ⟨g,0+k,none⟩=some (.string (Qu p)):=by
 obtain⟨hk',_⟩:=List.getElem?_eq_some_iff.1 hk
 rcases h.2 with⟨h1,h2⟩|⟨g,cap,cur,hv,hb,hg,hn,hm,hs,ht⟩
 ·omega
 ·injection hv with e1 e2 e3
  subst e1 e3
  have:=h.cells (g:=g) rfl k (.string (Qu p)) (by simp[strs,hk])
  rw[show(⟨g,0,none⟩:Addr).add k=⟨g,0+k,none⟩ by simp[Addr.add]; omega]at this
  refine⟨g,rfl,?_,hn,hm,this⟩
  rcases Nat.lt_or_ge g w.heap.size with h'|h'
  ·exact h'
  ·simp[Array.getElem?_eq_none h']at hg
theorem flatR_snoc (P:List (List Nat)) (p:List Nat):Zu (P++[p])=p++Zu P:=by simp[Zu]
theorem repeat_zeros (c:Nat):(⟨(Lib.repeatL (⟨#[48]⟩:ByteArray).data.toList c).toArray⟩:ByteArray)=Qu (List.replicate c 48):=by
 have:∀c,Lib.repeatL [48] c=List.replicate c 48:=by
  intro c
  induction c with
  |zero=>rfl
  |succ c ih=>unfold Lib.repeatL; rw[ih]; rfl
 show(⟨(Lib.repeatL [48] c).toArray⟩:ByteArray)=_
 rw[this]
 simp[Qu]
theorem part_len {P:List (List Nat)} (h:∀p∈P,p≠[]):P.length≤(Zu P).length:=by
 unfold Zu
 induction P with
 |nil=>simp
 |cons p P ih=>
  have h1:=ih (fun q hq=>h q (List.mem_cons_of_mem _ hq))
  have h2:=List.length_pos_iff.2 (h p (by simp))
  simp at h1 ⊢
  omega
theorem strInfo:(Try.prog.info? 9).map (fun i=>(i.zero,i.size,i.bytes))=some (some (.string ⟨#[]⟩),1,16):=by kernel_rfl
def decL (j n:Nat):Prop:=(Xp n).length≤j
theorem decL_of {j n:Nat} (h:Bd j n):decL j n:=Qci (Nat.lt_of_lt_of_le h (Nat.pow_le_pow_left (by omega) j))
theorem textB_zero:Ya 0=[48]:=rfl
theorem textB_pos {n:Nat} (h:0<n):Ya n=Xp n:=by unfold Ya; rw[if_neg (by omega)]

theorem Num.grown {k:IntKind} {bs:Nat} {w w':World} {b l c n:Nat} {row:Option Nat} (h:Num k bs w (.slice (some ⟨b,0,none⟩) l c) n) (hg:w.grownBy w' row) (hne:∀g,row=some g→g≠b):Num k bs w' (.slice (some ⟨b,0,none⟩) l c) n:=by
 obtain⟨A,c',e,h1,h2,h3⟩:=h
 refine⟨A,c',e,h1,h2,fun hl=>?_⟩
 obtain⟨b',o,e',hc⟩:=h3 hl
 refine⟨b',o,e',fun i hi=>?_⟩
 subst e'
 injection e with e1 e2 e3
 injection e1 with e1
 injection e1 with e4 e5
 subst e4
 exact hg.cell (hc i hi) (fun e=>hne _ e.symm rfl)
theorem Qdv {P:Program} {ops:Array Oper} {rest:List Oper} {o:Oper} {a:Act} {Q:Exit→Act→World→Prop} (hgd:o.guard=none) (s x:Operand) (t:TypeId)
  (ho:o.op=.call { callee:=.builtin .append,args:=#[s,x],argTypes:=#[t,t] }) (base:Nat) (e:TypeId) (i:TypeInfo) (ht:P.underlying t=some (.slice e)) (hi:P.info? e=some i) (hz:i.zero=some (.string ⟨#[]⟩))
  (hsize:i.size=1) (hby:i.bytes=16) {A:Option Addr} {c:Nat} (L:List (List Nat)) (hs:a.eval s=.slice A L.length c) (w:World) (hown:w.ownsRow base e 1 (.slice A L.length c) L.length (strs L))
  (p:List Nat) (hx:a.eval x=.slice (some ⟨w.heap.size,0,none⟩) 1 1) (hL:L.length≤1000000000) (hbase:base≤w.heap.size)
  (h:∀A' c' w',w'.ownsRow base e 1 (.slice A' (L++[p]).length c') (L++[p]).length (strs (L++[p]))→Below base (w.alloc (.cells #[.string (Qu p)] e)) w'→(w.alloc (.cells #[.string (Qu p)] e)).grownBy w' (Value.slice A L.length c).ownBlock→wpList P ops Q rest (a.put o.dst (.slice A' (L++[p]).length c')) w'):
  wpList P ops Q (o::rest) a (w.alloc (.cells #[.string (Qu p)] e)):=by
 refine wpList_append_own _ hgd s x t ho base e i (.string ⟨#[]⟩) 1 16 ht hi hz hsize hby rfl (by decide) _ _ _ hs (hown.alloc _) ⟨w.heap.size,0,none⟩ 1 1 [.string (Qu p)] hx rfl ?_ ?_ (by unfold maxLen; omega) (by omega) (by simp; omega) ?_
 ·intro j u hj
  match j,hj with
  |0,hj=>simp at hj; subst hj; simp[Addr.add]
 ·intro u hu; simp at hu; subst hu; rfl
 ·intro v' w' hown' hg _
  have e1:(L++[p]).length=L.length+1:=by simp
  have e2:strs (L++[p])=strs L++[.string (Qu p)]:=by simp[strs]
  have hb:Below base (w.alloc (.cells #[.string (Qu p)] e)) w':=(Below.refl _ _).grown hg (by simp; omega) (fun k hk=>(hown.lt k hk).1)
  rw[← e2,← e1]at hown'
  rcases hown'.2 with⟨h1,h2⟩|⟨g,cap,cur,hv,hr⟩
  ·simp at h2
  ·subst hv
   exact h _ _ _ hown' hb hg
set_option maxHeartbeats 1000000 in
theorem Qah (w:World) (v:Value) (n:Nat) (h:Num .u64 Qb w v n) {j:Nat} (hj:Bd j n) (hj1:j≤100000000):Calls Try.prog 57 #[v] w (Zv w (.string (Qu (Ya n)))):=by
 have HL:=bx (decL_of hj)
 have HB:=bx hj
 clear hj
 go_enter Try.func57,Try.ntmps57
 go_wp2_with fail
 go_loopw [0,3] (fun s0 s3 wr=>∃(m:Nat) (P:List (List Nat)) (A:Option Addr) (c:Nat),Num .u64 Qb wr s0 m∧s3=.slice A P.length c∧wr.ownsRow w.heap.size 9 1 (.slice A P.length c) P.length (strs P)∧Below w.heap.size w wr∧Bx (Xp n=Xp m++Zu P)∧Bx (∀p∈P,p≠[]∧Wf 256 p)∧Bx (Bd j m)) (fun s0 _ wr=>numOf wr s0)
 case atStart=>exact⟨n,[],none,0,h,rfl,World.ownsRow_nil _ _ _ _,Below.refl _ _,bx (by simp[Zu]),bx (by simp),HB⟩
 case round=>
  clear h HB
  obtain⟨m,P,A,c,hm,rfl,hown,hb,HD,HP,HB⟩:=hrel
  have hPl:P.length≤100000000:=by
   have h1:=part_len (fun p hp=>(HP.out p hp).1)
   have h2:(Xp n).length≤j:=HL.out
   rw[HD.out,List.length_append]at h2
   omega
  rcases Nat.eq_zero_or_pos m with rfl|hm0
  ·obtain⟨A0,c0,rfl,hr⟩:=id hm
   rw[Ys]at hr ⊢
   have hj0:=HL
   have HD1:Bx (Xp n=Zu P):=bx (by rw[HD.out,Qaq,List.nil_append])
   clear HD HB hm hr
   by_cases hP0:P=[]
   ·subst hP0
    have hn0:n=0:=by
     rcases Nat.eq_zero_or_pos n with h|h
     ·exact h
     ·have:=Qbj h
      rw[HD1.out]at this
      simp[Zu]at this
    subst hn0
    rw[textB_zero]
    go_wp2
    go_ret
    exact⟨rfl,hb⟩
   ·have hn0:0<n:=by
     rcases Nat.eq_zero_or_pos n with h|h
     ·exfalso
      have h1:=part_len (fun p hp=>(HP.out p hp).1)
      have h2:=List.length_pos_iff.2 hP0
      rw[← HD1.out,h,Qaq]at h1
      have h3:P.length≤0:=h1
      omega
     ·exact h
    have HT:=bx (textB_pos hn0)
    have hp1:(1:Int)≤(P.length:Int):=by have:=List.length_pos_iff.2 hP0; omega
    have hpe:((P.length:Int)==0)=false:=beq_eq_false_iff_ne.2 (by omega)
    have hw2:Wf 256 (Zu P):=by rw[← HD1.out]; exact decB_wf _
    have hlf:(Zu P).length≤100000000:=by
     have h2:(Xp n).length≤j:=HL.out
     rw[HD1.out]at h2; omega
    clear hP0 hn0
    have HLF:=bx hlf
    have HW2:=bx hw2
    clear hlf hw2
    go_wp2_with fail
    have hbd0:=Lib.fresh_isBuilder 100 5 wr
    have hbl0:Below wr.heap.size wr (wr.alloc (.cells #[.pointer none,.slice none 0 0] 100)):=Below.alloc (Below.refl _ _) (Nat.le_refl _) _
    generalize wr.alloc (.cells #[.pointer none,.slice none 0 0] 100)=wb at *
    obtain⟨wo,rfl⟩:∃wo:World,wo=wr:=⟨_,rfl⟩
    go_loopw [8] (fun s8 wx=>∃k:Nat,k≤P.length∧s8=.int .i64 ((k:Int)-1)∧Lib.IsBuilder 100 5 wo.heap.size wo.heap.size (Wn (Zu (P.drop k))) wx∧Below wo.heap.size wo wx) (fun s8 _=>(intOf s8+1).toNat)
    case atStart=>exact⟨P.length,Nat.le_refl _,rfl,by rw[List.drop_length]; exact hbd0,hbl0⟩
    case round=>
     clear hbd0 hbl0
     obtain⟨k,hk,rfl,hib,hbx⟩:=hrel
     rcases Nat.eq_zero_or_pos k with rfl|hpos
     ·rw[show(((0:Nat):Int)-1) = -1 by omega]
      rw[List.drop_zero]at hib
      go_wp2_with fail
      refine Calls.mono (Try.Builder_String_any wo.heap.size wo.heap.size ((Zu P).map UInt8.ofNat) wr hib hbx.size) ?_
      rintro e wf ⟨rfl,hbf⟩
      go_wp2
      go_ret
      rw[HT.out,HD1.out]
      exact⟨rfl,hb.trans ((hbx.trans hbf).mono hb.size)⟩
     ·obtain⟨i,rfl⟩:∃i,k=i+1:=⟨k-1,by omega⟩
      rw[show(((i+1:Nat):Int)-1)=(i:Int) by omega]
      obtain⟨p,hp⟩:∃p,P[i]?=some p:=⟨P[i]'(by omega),List.getElem?_eq_getElem (by omega)⟩
      obtain⟨g,rfl,hg1,hg2,hg3,hcp⟩:=strs_cell hown hp
      have hcp1:wr.cell? ⟨g,0+i,none⟩=some (.string (Qu p)):=by rw[hbx.cell hg1]; exact hcp
      rw[Nat.zero_add]at hcp1
      have hfd:=flatR_drop hp
      have hln:=flatR_drop_len P i
      have HWS:=bx (Qe9 wo.heap.size wo.heap.size (Wn (Zu (P.drop (i+1)))) (Qu p) wr hib (by
       rw[bcells_length,Yc]
       rw[hfd,List.length_append]at hln
       have:=HLF.out
       omega) hbx.size)
      have HFD:=bx (show Wn (Zu (P.drop (i+1)))++Lib.strCells (Qu p)=Wn (Zu (P.drop i)) by rw[bcells_strOf,hfd,bcells_append])
      have hi0:(0:Int)≤(i:Int):=by omega
      have hi1:(i:Int)<(P.length:Int):=by omega
      clear hcp hfd hln hp
      go_wp2_with fail
      refine Calls.mono HWS.out ?_
      rintro e wy ⟨rfl,hby,hbz⟩
      rw[HFD.out]at hby
      clear HWS hcp1
      go_wp2
      go_roundw
      case rel=>
       have hcnt:(Value.int .i64 (i:Int):Value)=.int .i64 (i:Int):=rfl
       (repeat apply Exists.intro)
       exact⟨⟨i,by omega,by go_num,.inr hby,hbx.trans hbz⟩,rfl⟩
      case measure=>simp[intOf]
  ·have hm1:0<(digs Qb m).length:=(Yb (n:=m) Qv).2 hm0
   have hl1:(1:Int)≤((digs Qb m).length:Int):=by omega
   have hc:=Qem wr _ m 10000000000000000000 hm HB.out (by omega) (by omega) (by unfold Qb; omega)
   obtain⟨q,hq⟩:∃q,q=m/10000000000000000000:=⟨_,rfl⟩
   obtain⟨r,hr⟩:∃r,r=m%10000000000000000000:=⟨_,rfl⟩
   have HR1:=bx (show r<10000000000000000000 by omega)
   have HR2:=bx (show q=0→r=m by omega)
   have HQ:=bx (show q<m by omega)
   have HQ1:=bx (show q≤m by omega)
   rw[← hq,← hr,show(((10000000000000000000:Nat):Int))=10000000000000000000 from rfl]at hc
   have HCH:Bx (0<q→Xp m=Xp q++Ub 19 (Xp r)):=bx (fun h=>by
    have:=decB_chunk 19 m
    rw[show(10:Nat)^19=10000000000000000000 by decide,← hq,← hr]at this
    exact this h)
   clear hq hr
   obtain⟨A0,c0,rfl,hr⟩:=id hm
   have HM:=bx hm0
   have HC:=bx hc
   clear hm0 hc hr
   go_wp2_with fail
   refine Calls.mono HC.out ?_
   rintro e w1 ⟨l1,c1,rfl,hq,hb1⟩
   have HRB:=bx (show r<Qb by have:=HR1.out; unfold Qb; omega)
   go_wp2_with fail
   refine Calls.mono (decimal_num w1 r HRB.out) ?_
   rintro e w2 ⟨rfl,hb2⟩
   have hq2:=hq.below hb2
   have hb3:=(hb.trans (hb1.mono hb.size)).trans (hb2.mono (hb.trans (hb1.mono hb.size)).size)
   have hb12:=hb1.trans (hb2.mono hb1.size)
   clear hq hb2
   have hdl:(Xp r).length≤19:=Qci (by have:=HR1.out; omega)
   have hdl1:((Xp r).length:Int)≤19:=by omega
   have hsz:=Yc (Xp r)
   obtain⟨_,_,hsl,_⟩:=id hq2
   injection hsl with e1 e2 e3
   subst e1 e2 e3
   obtain⟨i0,hi,hz0,hz1,hz2⟩:=info_parts strInfo
   have hown2:=hown.kept (Jb hb12 none) (by cases A with|none=>exact .inl rfl|some a=>exact .inr (by simp[Value.ownBlock]))
   have HNE:Bx (∀g,(Value.slice A P.length c).ownBlock=some g→g≠wr.heap.size):=bx (fun g hg=>by have:=(hown.lt g hg).2; omega)
   rcases Nat.eq_zero_or_pos q with rfl|hq0
   ·have hfin:Bx (Xp n=Xp 0++Zu (P++[Xp r])):=bx (by
     rw[flatR_snoc,Qaq,List.nil_append,HR2.out rfl]; exact HD.out)
    have hpp:Bx (∀p∈P++[Xp r],p≠[]∧Wf 256 p):=bx (fun p hp=>by
     rcases List.mem_append.1 hp with h|h
     ·exact HP.out p h
     ·simp at h
      subst h
      exact⟨List.length_pos_iff.1 (Qbj (by rw[HR2.out rfl]; exact HM.out)),decB_wf _⟩)
    have hbd:Bx (Bd j 0):=bx (HB.out.le (Nat.zero_le _))
    clear HC HCH HR2 hown
    rw[Ys]
    go_wp2_with (at_builtin; refine Qdv rfl (.tmp 28) (.tmp 30) 93 rfl w.heap.size 9 i0 Try.underlying93 hi hz0 hz1 hz2 P rfl w2 hown2 (Xp r) rfl (by omega) hb3.size ?_; intro A3 c3 w4 hown4 hb4 hg4)
    have hz:=((hb3.alloc hb3.size (.cells #[.string (Qu (Xp r))] 9)).trans hb4)
    have hq4:=(hq2.below (Below.alloc (Below.refl _ _) (Nat.le_refl _) (.cells #[.string (Qu (Xp r))] 9))).grown hg4 HNE.out
    rw[Ys]at hq4
    have hq4:Num .u64 Qb w4 (.slice (some ⟨wr.heap.size,0,none⟩) 0 c1) 0:=hq4
    go_wp2
    go_roundw
    case rel=>
     exact⟨0,P++[Xp r],A3,c3,hq4,by simp,hown4,hz,hfin,hpp,hbd⟩
    case measure=>rw[hq4.of_eq,hm.of_eq]; exact HM.out
   ·have hql:(1:Int)≤((digs Qb q).length:Int):=by have:=(Yb (n:=q) Qv).2 hq0; omega
    have hpad:Ub 19 (Xp r)=List.replicate (19-(Xp r).length) 48++Xp r:=rfl
    have hlz:(Ub 19 (Xp r)).length=19:=by rw[hpad,List.length_append,List.length_replicate]; omega
    have hfin:Bx (Xp n=Xp q++Zu (P++[Ub 19 (Xp r)])):=bx (by
     rw[flatR_snoc,← List.append_assoc,← HCH.out hq0]; exact HD.out)
    have hpp:Bx (∀p∈P++[Ub 19 (Xp r)],p≠[]∧Wf 256 p):=bx (fun p hp=>by
     rcases List.mem_append.1 hp with h|h
     ·exact HP.out p h
     ·simp at h
      subst h
      exact⟨List.length_pos_iff.1 (by omega),padK_wf (decB_wf _)⟩)
    have hbd:Bx (Bd j q):=bx (HB.out.le HQ1.out)
    have HPAD:=bx hpad
    clear hq0 hpad hlz HC HCH HR2
    have hsz2:(Qu (List.replicate (19-(Xp r).length) 48)).size=19-(Xp r).length:=by rw[Yc,List.length_replicate]
    have hsz3:(19-(Xp r).length)+(Xp r).length≤9223372036854775807:=by omega
    have hsl3:19-(Xp r).length≤19:=by omega
    go_wp2_with fail
    rw[show(19:Int)-((Xp r).length:Int)=((19-(Xp r).length:Nat):Int) by omega]
    refine Calls.mono (Try.strings_Repeat ⟨#[48]⟩ (19-(Xp r).length) w2 (by omega) (by show 1*_≤_; omega)) ?_
    rw[repeat_zeros]
    rintro e w3 ⟨rfl,hb4⟩
    have hown3:=hown2.kept (Jb hb4 none) (by cases A with|none=>exact .inl rfl|some a=>exact .inr (by simp[Value.ownBlock]))
    have hq3:=hq2.below hb4
    have hb5:=hb3.trans (hb4.mono hb3.size)
    have hcat:Qu (List.replicate (19-(Xp r).length) 48)++Qu (Xp r)=Qu (Ub 19 (Xp r)):=by rw[Vf]; rfl
    go_wp2_with (at_builtin; refine Qdv rfl (.tmp 28) (.tmp 30) 93 rfl w.heap.size 9 i0 Try.underlying93 hi hz0 hz1 hz2 P rfl w3 hown3 (Ub 19 (Xp r)) rfl (by omega) hb5.size ?_; intro A3 c3 w4 hown4 hb6 hg4)
    have hz:=((hb5.alloc hb5.size (.cells #[.string (Qu (Ub 19 (Xp r)))] 9)).trans hb6)
    have hq4:=(hq3.below (Below.alloc (Below.refl _ _) (Nat.le_refl _) (.cells #[.string (Qu (Ub 19 (Xp r)))] 9))).grown hg4 HNE.out
    clear hcat
    go_wp2
    go_roundw
    case rel=>
     exact⟨q,P++[Ub 19 (Xp r)],A3,c3,hq4,by simp,hown4,hz,hfin,hpp,hbd⟩
    case measure=>rw[hq4.of_eq,hm.of_eq]; exact HQ.out
end Wx
