import Derived.Lib.Repeat
import Derived.Test.YtikkgpljpglnbaaGreatJRM34
namespace Wx
set_option maxRecDepth 100000
set_option maxHeartbeats 1000000
open Go Go.RowKit Go.Proofs
def nr (k:Nat) (s:List Nat):List Nat:=List.replicate (k-s.length) 48++s
def bF (n:Nat):List Nat:=if n=0 then[48]else bw n
theorem wk (n:Nat):Wf 256 (bw n):=by
 intro x hx
 unfold bw at hx
 rw[List.mem_reverse,List.mem_map]at hx
 obtain⟨y,hy,rfl⟩:=hx
 have:=cS (b:=10) (by omega) n y hy
 omega
theorem Av (k:Nat):∀m,0<m/10^k->bw m=bw (m/10^k)++nr k (bw (m%10^k)):=by
 induction k with
 |zero=>intro m _; simp[nr,Nat.mod_one,jq]
 |succ k ih=>
  intro m h
  have hm:0<m:=by
   rcases Nat.eq_zero_or_pos m with rfl|h'
   ·simp at h
   ·exact h'
  have e1:m/10/10^k=m/10^(k+1):=by rw[Nat.div_div_eq_div_mul,Nat.pow_succ,Nat.mul_comm]
  have e2:m%10^(k+1)/10=m/10%10^k:=by rw[Nat.pow_succ,Nat.mul_comm,Nat.mod_mul_right_div_self]
  have e3:m%10^(k+1)%10=m%10:=by
   rw[Nat.pow_succ,Nat.mul_comm]; exact Nat.mod_mul_right_mod _ _ _
  rw[nM hm,ih (m/10) (by rw[e1]; exact h),e1,List.append_assoc]
  congr 1
  rcases Nat.eq_zero_or_pos (m%10^(k+1))with h0|h0
  ·rw[h0]at e2 e3 ⊢
   rw[<-e2,<-e3]
   simp[nr,jq,<-List.replicate_succ']
  ·rw[nM h0,e2,e3]
   unfold nr
   rw[List.length_append,List.length_singleton,List.append_assoc]
   congr 2
   omega
variable {k:Nat}
theorem JE {s:List Nat} (h:Wf 256 s):Wf 256 (nr k s):=by
 intro x hx
 rcases List.mem_append.1 hx with h'|h'
 ·have:=(List.mem_replicate.1 h').2; omega
 ·exact h x h'
theorem fA (a b:List Nat):strOf a++strOf b=strOf (a++b):=by
 apply ByteArray.ext
 rw[ByteArray.data_append]
 simp[strOf]
def strs (P:List (List Nat)):List Value:=P.map λp=>Value.string (strOf p)
def cV (P:List (List Nat)):List Nat:=P.reverse.flatten
variable {P:List (List Nat)}
theorem AD {p:List Nat} (h:P[k]?=some p):cV (P.drop k)=cV (P.drop (k+1))++p:=by
 obtain⟨hk,e⟩:=List.getElem?_eq_some_iff.1 h
 rw[List.drop_eq_getElem_cons hk,e]
 simp[cV]
theorem sB (P:List (List Nat)) (k:Nat):(cV (P.drop k)).length<=(cV P).length:=by
 have h:cV P=cV (P.drop k)++cV (P.take k):=by
  unfold cV
  rw[<-List.flatten_append,<-List.reverse_append,List.take_append_drop]
 rw[h,List.length_append]; omega
def gF (l:List Nat):List Value:=Lib.byteCells (l.map UInt8.ofNat)
theorem vX (p:List Nat):Lib.strCells (strOf p)=gF p:=by
 rw[Lib.strCells_eq]; simp[strOf,gF]
theorem uf (a b:List Nat):gF (a++b)=gF a++gF b:=by
 unfold gF; rw[List.map_append,Lib.byteCells_append]
theorem ug (a:List Nat):(gF a).length=a.length:=by
 unfold gF; rw[Lib.byteCells_length,List.length_map]
variable {w:World} {c:Nat}
theorem Eo {base:Nat} {e:TypeId} {A:Option Addr} (h:w.ownsRow base e 1 (.slice A P.length c) P.length (strs P)) {k:Nat} {p:List Nat} (hk:P[k]?=some p):
  ∃g,A=some ⟨g,0,none⟩/\g<w.heap.size/\P.length<=c/\c<=maxLen/\w.cell? ⟨g,0+k,none⟩=some (.string (strOf p)):=by
 obtain⟨hk',_⟩:=List.getElem?_eq_some_iff.1 hk
 rcases h.2 with⟨h1,h2⟩|⟨g,cap,cur,hv,hb,hg,hn,hm,hs,ht⟩
 ·omega
 ·injection hv with e1 e2 e3
  subst e1 e3
  have:=h.cells (g:=g) rfl k (.string (strOf p)) (by simp[strs,hk])
  rw[show(⟨g,0,none⟩:Addr).add k=⟨g,0+k,none⟩ by simp[Addr.add]; omega]at this
  refine⟨g,rfl,?_,hn,hm,this⟩
  rcases Nat.lt_or_ge g w.heap.size with h'|h'
  ·exact h'
  ·simp[Array.getElem?_eq_none h']at hg
theorem sC (P:List (List Nat)) (p:List Nat):cV (P++[p])=p++cV P:=by simp[cV]
theorem wW (c:Nat):(⟨(Lib.repeatL (⟨#[48]⟩:ByteArray).data.toList c).toArray⟩:ByteArray)=strOf (List.replicate c 48):=by
 have:∀c,Lib.repeatL [48] c=List.replicate c 48:=by
  intro c
  induction c with
  |zero=>rfl
  |succ c ih=>unfold Lib.repeatL; rw[ih]; rfl
 show(⟨(Lib.repeatL [48] c).toArray⟩:ByteArray)=_
 rw[this]
 simp[strOf]
theorem zm (h:∀p∈P,p≠[]):P.length<=(cV P).length:=by
 unfold cV
 induction P with
 |nil=>simp
 |cons p P ih=>
  have h1:=ih (λq hq=>h q (List.mem_cons_of_mem _ hq))
  have h2:=List.length_pos_iff.2 (h p (by simp))
  simp at h1 ⊢
  omega
theorem JT:(Tryz.prog.info? 9).map (λi=>(i.zero,i.size,i.bytes))=some (some (.string ⟨#[]⟩),1,16):=by kernel_rfl
def On (j n:Nat):Prop:=(bw n).length<=j
variable {n:Nat}
theorem Ce {j:Nat} (h:Bd j n):On j n:=kP (Nat.lt_of_lt_of_le h (Nat.pow_le_pow_left (by omega) j))
theorem BJ:bF 0=[48]:=rfl
theorem Er (h:0<n):bF n=bw n:=by unfold bF; rw[if_neg (by omega)]
theorem cI.grown {k:IntKind} {bs:Nat} {w':World} {b l:Nat} {row:Option Nat} (h:cI k bs w (.slice (some ⟨b,0,none⟩) l c) n) (hg:w.grownBy w' row) (hne:∀g,row=some g->g≠b):cI k bs w' (.slice (some ⟨b,0,none⟩) l c) n:=by
 obtain⟨A,c',e,h1,h2,h3⟩:=h
 refine⟨A,c',e,h1,h2,λhl=>?_⟩
 obtain⟨b',o,e',hc⟩:=h3 hl
 refine⟨b',o,e',λi hi=>?_⟩
 subst e'
 injection e with e1 e2 e3
 injection e1 with e1
 injection e1 with e4 e5
 subst e4
 exact hg.cell (hc i hi) (λe=>hne _ e.symm rfl)
theorem mI {P:Program} {ops:Array Oper} {rest:List Oper} {o:Oper} {a:Act} {Q:Exit->Act->World->Prop} (hgd:o.guard=none) (s x:Operand) (t:TypeId)
  (ho:o.op=.call { callee:=.builtin .append,args:=#[s,x],argTypes:=#[t,t] }) (base:Nat) (e:TypeId) (i:TypeInfo) (ht:P.underlying t=some (.slice e)) (hi:P.info? e=some i) (hz:i.zero=some (.string ⟨#[]⟩))
  (hsize:i.size=1) (hby:i.bytes=16) {A:Option Addr} {c:Nat} (L:List (List Nat)) (hs:a.eval s=.slice A L.length c) (w:World) (hown:w.ownsRow base e 1 (.slice A L.length c) L.length (strs L))
  (p:List Nat) (hx:a.eval x=.slice (some ⟨w.heap.size,0,none⟩) 1 1) (hL:L.length<=1000000000) (hbase:base<=w.heap.size)
  (h:∀A' c' w',w'.ownsRow base e 1 (.slice A' (L++[p]).length c') (L++[p]).length (strs (L++[p]))->Below base (w.alloc (.cells #[.string (strOf p)] e)) w'->(w.alloc (.cells #[.string (strOf p)] e)).grownBy w' (Value.slice A L.length c).ownBlock->wpList P ops Q rest (a.put o.dst (.slice A' (L++[p]).length c')) w'):
  wpList P ops Q (o::rest) a (w.alloc (.cells #[.string (strOf p)] e)):=by
 refine wpList_append_own _ hgd s x t ho base e i (.string ⟨#[]⟩) 1 16 ht hi hz hsize hby rfl (by decide) _ _ _ hs (hown.alloc _) ⟨w.heap.size,0,none⟩ 1 1 [.string (strOf p)] hx rfl ?_ ?_ (by unfold maxLen; omega) (by omega) (by simp; omega) ?_
 ·intro j u hj
  match j,hj with
  |0,hj=>simp at hj; subst hj; simp[Addr.add]
 ·intro u hu; simp at hu; subst hu; rfl
 ·intro v' w' hown' hg _
  have e1:(L++[p]).length=L.length+1:=by simp
  have e2:strs (L++[p])=strs L++[.string (strOf p)]:=by simp[strs]
  have hb:Below base (w.alloc (.cells #[.string (strOf p)] e)) w':=(Below.refl _ _).grown hg (by simp; omega) (λk hk=>(hown.lt k hk).1)
  rw[<-e2,<-e1]at hown'
  rcases hown'.2 with⟨h1,h2⟩|⟨g,cap,cur,hv,hr⟩
  ·simp at h2
  ·subst hv
   exact h _ _ _ hown' hb hg
theorem jw (w:World) (v:Value) (n:Nat) (h:cI .u64 b64 w v n) {j:Nat} (hj:Bd j n) (gg:j<=100000000):Calls Tryz.prog 32 #[v] w (eZ w (.string (strOf (bF n)))):=by
 have HL:=bx (Ce hj)
 have HB:=bx hj
 clear hj
 go_enter Tryz.func32,Tryz.ntmps32
 go_wp2_with fail
 go_loopw [0,3] (λs0 s3 wr=>∃(m:Nat) (P:List (List Nat)) (A:Option Addr) (c:Nat),cI .u64 b64 wr s0 m/\s3=.slice A P.length c/\wr.ownsRow w.heap.size 9 1 (.slice A P.length c) P.length (strs P)/\Below w.heap.size w wr/\Bx (bw n=bw m++cV P)/\Bx (∀p∈P,p≠[]/\Wf 256 p)/\Bx (Bd j m)) (λs0 _ wr=>numOf wr s0)
 case atStart=>exact⟨n,[],none,0,h,rfl,World.ownsRow_nil _ _ _ _,Below.refl _ _,bx (by simp[cV]),bx (by simp),HB⟩
 case round=>
  clear h HB
  obtain⟨m,P,A,c,hm,rfl,hown,hb,HD,HP,HB⟩:=hrel
  have VQ:P.length<=100000000:=by
   have h1:=zm (λp hp=>(HP.out p hp).1)
   have h2:(bw n).length<=j:=HL.out
   rw[HD.out,List.length_append]at h2
   omega
  rcases Nat.eq_zero_or_pos m with rfl|hm0
  ·obtain⟨A0,c0,rfl,hr⟩:=id hm
   rw[bk]at hr ⊢
   have Wn:=HL
   have vP:Bx (bw n=cV P):=bx (by rw[HD.out,jq,List.nil_append])
   clear HD HB hm hr
   by_cases Qt:P=[]
   ·subst Qt
    have AJ:n=0:=by
     rcases Nat.eq_zero_or_pos n with h|h
     ·exact h
     ·have:=jK h
      rw[vP.out]at this
      simp[cV]at this
    subst AJ
    rw[BJ]
    go_wp2
    go_ret
    exact⟨rfl,hb⟩
   ·have AJ:0<n:=by
     rcases Nat.eq_zero_or_pos n with h|h
     ·exfalso
      have h1:=zm (λp hp=>(HP.out p hp).1)
      have h2:=List.length_pos_iff.2 Qt
      rw[<-vP.out,h,jq]at h1
      have h3:P.length<=0:=h1
      omega
     ·exact h
    have HT:=bx (Er AJ)
    have hp1:(1:Int)<=(P.length:Int):=by have:=List.length_pos_iff.2 Qt; omega
    have hpe:((P.length:Int)==0)=false:=beq_eq_false_iff_ne.2 (by omega)
    have FI:Wf 256 (cV P):=by rw[<-vP.out]; exact wk _
    have hlf:(cV P).length<=100000000:=by
     have h2:(bw n).length<=j:=HL.out
     rw[vP.out]at h2; omega
    clear Qt AJ
    have Va:=bx hlf
    have HW2:=bx FI
    clear hlf FI
    go_wp2_with fail
    have O0:=Lib.fresh_isBuilder 95 5 wr
    have O1:Below wr.heap.size wr (wr.alloc (.cells #[.pointer none,.slice none 0 0] 95)):=Below.alloc (Below.refl _ _) (Nat.le_refl _) _
    generalize wr.alloc (.cells #[.pointer none,.slice none 0 0] 95)=wb at *
    obtain⟨wo,rfl⟩:∃wo:World,wo=wr:=⟨_,rfl⟩
    go_loopw [8] (λs8 wx=>∃k:Nat,k<=P.length/\s8=.int .i64 ((k:Int)-1)/\Lib.IsBuilder 95 5 wo.heap.size wo.heap.size (gF (cV (P.drop k))) wx/\Below wo.heap.size wo wx) (λs8 _=>(RowKit.intOf s8+1).toNat)
    case atStart=>exact⟨P.length,Nat.le_refl _,rfl,by rw[List.drop_length]; exact O0,O1⟩
    case round=>
     clear O0 O1
     obtain⟨k,hk,rfl,hib,O2⟩:=hrel
     rcases Nat.eq_zero_or_pos k with rfl|hpos
     ·rw[show(((0:Nat):Int)-1) = -1 by omega]
      rw[List.drop_zero]at hib
      go_wp2_with fail
      refine Calls.mono (Tryz.Builder_String_any wo.heap.size wo.heap.size ((cV P).map UInt8.ofNat) wr hib O2.size) ?_
      rintro e wf ⟨rfl,Qv⟩
      go_wp2
      go_ret
      rw[HT.out,vP.out]
      exact⟨rfl,hb.trans ((O2.trans Qv).mono hb.size)⟩
     ·obtain⟨i,rfl⟩:∃i,k=i+1:=⟨k-1,by omega⟩
      rw[show(((i+1:Nat):Int)-1)=(i:Int) by omega]
      obtain⟨p,hp⟩:∃p,P[i]?=some p:=⟨P[i]'(by omega),List.getElem?_eq_getElem (by omega)⟩
      obtain⟨g,rfl,Sg,hg2,hg3,O6⟩:=Eo hown hp
      have O7:wr.cell? ⟨g,0+i,none⟩=some (.string (strOf p)):=by rw[O2.cell Sg]; exact O6
      rw[Nat.zero_add]at O7
      have Sf:=AD hp
      have NB:=sB P i
      have TR:=bx (qR wo.heap.size wo.heap.size (gF (cV (P.drop (i+1)))) (strOf p) wr hib (by
       rw[ug,bP]
       rw[Sf,List.length_append]at NB
       have:=Va.out
       omega) O2.size)
      have U7:=bx (show gF (cV (P.drop (i+1)))++Lib.strCells (strOf p)=gF (cV (P.drop i)) by rw[vX,Sf,uf])
      have hi0:(0:Int)<=(i:Int):=by omega
      have Pg:(i:Int)<(P.length:Int):=by omega
      clear O6 Sf NB hp
      go_wp2_with fail
      refine Calls.mono TR.out ?_
      rintro e wy ⟨rfl,hby,hbz⟩
      rw[U7.out]at hby
      clear TR O7
      go_wp2
      go_roundw
      case rel=>
       have Wb:(Value.int .i64 (i:Int):Value)=.int .i64 (i:Int):=rfl
       (repeat apply Exists.intro)
       exact⟨⟨i,by omega,by go_num,.inr hby,O2.trans hbz⟩,rfl⟩
      case measure=>simp[RowKit.intOf]
  ·have IX:0<(af b64 m).length:=(aX (n:=m) ak).2 hm0
   have Cn:(1:Int)<=((af b64 m).length:Int):=by omega
   have hc:=qj wr _ m 10000000000000000000 hm HB.out (by omega) (by omega) (by unfold b64; omega)
   obtain⟨q,hq⟩:∃q,q=m/10000000000000000000:=⟨_,rfl⟩
   obtain⟨r,hr⟩:∃r,r=m%10000000000000000000:=⟨_,rfl⟩
   have J8:=bx (show r<10000000000000000000 by omega)
   have Qk:=bx (show q=0->r=m by omega)
   have HQ:=bx (show q<m by omega)
   have Vf:=bx (show q<=m by omega)
   rw[<-hq,<-hr,show(((10000000000000000000:Nat):Int))=10000000000000000000 from rfl]at hc
   have QN:Bx (0<q->bw m=bw q++nr 19 (bw r)):=bx (λh=>by
    have:=Av 19 m
    rw[show(10:Nat)^19=10000000000000000000 by decide,<-hq,<-hr]at this
    exact this h)
   clear hq hr
   obtain⟨A0,c0,rfl,hr⟩:=id hm
   have HM:=bx hm0
   have HC:=bx hc
   clear hm0 hc hr
   go_wp2_with fail
   refine Calls.mono HC.out ?_
   rintro e w1 ⟨l1,c1,rfl,hq,hb1⟩
   have Vj:=bx (show r<b64 by have:=J8.out; unfold b64; omega)
   go_wp2_with fail
   refine Calls.mono (xZ w1 r Vj.out) ?_
   rintro e w2 ⟨rfl,hb2⟩
   have Py:=hq.below hb2
   have hb3:=(hb.trans (hb1.mono hb.size)).trans (hb2.mono (hb.trans (hb1.mono hb.size)).size)
   have wB:=hb1.trans (hb2.mono hb1.size)
   clear hq hb2
   have hdl:(bw r).length<=19:=kP (by have:=J8.out; omega)
   have Wi:((bw r).length:Int)<=19:=by omega
   have hsz:=bP (bw r)
   obtain⟨_,_,AM,_⟩:=id Py
   injection AM with e1 e2 e3
   subst e1 e2 e3
   obtain⟨i0,hi,hz0,hz1,hz2⟩:=info_parts JT
   have Co:=hown.kept (bT wB none) (by cases A with|none=>exact .inl rfl|some a=>exact .inr (by simp[Value.ownBlock]))
   have TL:Bx (∀g,(Value.slice A P.length c).ownBlock=some g->g≠wr.heap.size):=bx (λg hg=>by have:=(hown.lt g hg).2; omega)
   rcases Nat.eq_zero_or_pos q with rfl|Mr
   ·have ee:Bx (bw n=bw 0++cV (P++[bw r])):=bx (by
     rw[sC,jq,List.nil_append,Qk.out rfl]; exact HD.out)
    have QC:Bx (∀p∈P++[bw r],p≠[]/\Wf 256 p):=bx (λp hp=>by
     rcases List.mem_append.1 hp with h|h
     ·exact HP.out p h
     ·simp at h
      subst h
      exact⟨List.length_pos_iff.1 (jK (by rw[Qk.out rfl]; exact HM.out)),wk _⟩)
    have hbd:Bx (Bd j 0):=bx (HB.out.le (Nat.zero_le _))
    clear HC QN Qk hown
    rw[bk]
    go_wp2_with (at_builtin; refine mI rfl (.tmp 28) (.tmp 30) 87 rfl w.heap.size 9 i0 Tryz.underlying87 hi hz0 hz1 hz2 P rfl w2 Co (bw r) rfl (by omega) hb3.size ?_; intro A3 c3 w4 sJ hb4 hg4)
    have hz:=((hb3.alloc hb3.size (.cells #[.string (strOf (bw r))] 9)).trans hb4)
    have KE:=(Py.below (Below.alloc (Below.refl _ _) (Nat.le_refl _) (.cells #[.string (strOf (bw r))] 9))).grown hg4 TL.out
    rw[bk]at KE
    have KE:cI .u64 b64 w4 (.slice (some ⟨wr.heap.size,0,none⟩) 0 c1) 0:=KE
    go_wp2
    go_roundw
    case rel=>
     exact⟨0,P++[bw r],A3,c3,KE,by simp,sJ,hz,ee,QC,hbd⟩
    case measure=>rw[KE.of_eq,hm.of_eq]; exact HM.out
   ·have hql:(1:Int)<=((af b64 q).length:Int):=by have:=(aX (n:=q) ak).2 Mr; omega
    have Mq:nr 19 (bw r)=List.replicate (19-(bw r).length) 48++bw r:=rfl
    have Pr:(nr 19 (bw r)).length=19:=by rw[Mq,List.length_append,List.length_replicate]; omega
    have ee:Bx (bw n=bw q++cV (P++[nr 19 (bw r)])):=bx (by
     rw[sC,<-List.append_assoc,<-QN.out Mr]; exact HD.out)
    have QC:Bx (∀p∈P++[nr 19 (bw r)],p≠[]/\Wf 256 p):=bx (λp hp=>by
     rcases List.mem_append.1 hp with h|h
     ·exact HP.out p h
     ·simp at h
      subst h
      exact⟨List.length_pos_iff.1 (by omega),JE (wk _)⟩)
    have hbd:Bx (Bd j q):=bx (HB.out.le Vf.out)
    have Ve:=bx Mq
    clear Mr Mq Pr HC QN Qk
    have WN:(strOf (List.replicate (19-(bw r).length) 48)).size=19-(bw r).length:=by rw[bP,List.length_replicate]
    have WO:(19-(bw r).length)+(bw r).length<=9223372036854775807:=by omega
    have WM:19-(bw r).length<=19:=by omega
    go_wp2_with fail
    rw[show(19:Int)-((bw r).length:Int)=((19-(bw r).length:Nat):Int) by omega]
    refine Calls.mono (Tryz.strings_Repeat ⟨#[48]⟩ (19-(bw r).length) w2 (by omega) (by show 1*_<=_; omega)) ?_
    rw[wW]
    rintro e w3 ⟨rfl,hb4⟩
    have Cp:=Co.kept (bT hb4 none) (by cases A with|none=>exact .inl rfl|some a=>exact .inr (by simp[Value.ownBlock]))
    have SD:=Py.below hb4
    have RV:=hb3.trans (hb4.mono hb3.size)
    have R2:strOf (List.replicate (19-(bw r).length) 48)++strOf (bw r)=strOf (nr 19 (bw r)):=by rw[fA]; rfl
    go_wp2_with (at_builtin; refine mI rfl (.tmp 28) (.tmp 30) 87 rfl w.heap.size 9 i0 Tryz.underlying87 hi hz0 hz1 hz2 P rfl w3 Cp (nr 19 (bw r)) rfl (by omega) RV.size ?_; intro A3 c3 w4 sJ V4 hg4)
    have hz:=((RV.alloc RV.size (.cells #[.string (strOf (nr 19 (bw r)))] 9)).trans V4)
    have KE:=(SD.below (Below.alloc (Below.refl _ _) (Nat.le_refl _) (.cells #[.string (strOf (nr 19 (bw r)))] 9))).grown hg4 TL.out
    clear R2
    go_wp2
    go_roundw
    case rel=>
     exact⟨q,P++[nr 19 (bw r)],A3,c3,KE,by simp,sJ,hz,ee,QC,hbd⟩
    case measure=>rw[KE.of_eq,hm.of_eq]; exact HQ.out
end Wx
