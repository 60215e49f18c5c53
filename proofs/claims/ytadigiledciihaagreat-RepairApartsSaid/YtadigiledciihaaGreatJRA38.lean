import Derived.Lib.Repeat
import Derived.Test.YtadigiledciihaaGreatJRA37
namespace Wx
set_option maxRecDepth 100000
set_option maxHeartbeats 1000000
open Go Go.RowKit Go.Proofs
def nT (k:Nat) (s:List Nat):List Nat:=List.replicate (k-s.length) 48++s
def bS (n:Nat):List Nat:=if n=0 then[48]else bH n
theorem wE (n:Nat):Wf 256 (bH n):=by
 intro x hx
 unfold bH at hx
 rw[List.mem_reverse,List.mem_map]at hx
 obtain⟨y,hy,rfl⟩:=hx
 have:=bw (b:=10) (by omega) n y hy
 omega
theorem AQ (k:Nat):∀m,0<m/10^k->bH m=bH (m/10^k)++nT k (bH (m%10^k)):=by
 induction k with
 |zero=>intro m _; simp[nT,Nat.mod_one,jO]
 |succ k ih=>
  intro m h
  have hm:0<m:=by
   rcases Nat.eq_zero_or_pos m with rfl|h'
   ·simp at h
   ·exact h'
  have e1:m/10/10^k=m/10^(k+1):=by rw[Nat.div_div_eq_div_mul,Nat.pow_succ,Nat.mul_comm]
  have e2:m%10^(k+1)/10=m/10%10^k:=by rw[Nat.pow_succ,Nat.mul_comm,Nat.mod_mul_right_div_self]
  have e3:m%10^(k+1)%10=m%10:=by
   rw[Nat.pow_succ,Nat.mul_comm]; exact Nat.mod_mul_right_mod _ _ _
  rw[oq hm,ih (m/10) (by rw[e1]; exact h),e1,List.append_assoc]
  congr 1
  rcases Nat.eq_zero_or_pos (m%10^(k+1))with h0|h0
  ·rw[h0]at e2 e3 ⊢
   rw[<-e2,<-e3]
   simp[nT,jO,<-List.replicate_succ']
  ·rw[oq h0,e2,e3]
   unfold nT
   rw[List.length_append,List.length_singleton,List.append_assoc]
   congr 2
   omega
variable {k:Nat}
theorem J6 {s:List Nat} (h:Wf 256 s):Wf 256 (nT k s):=by
 intro x hx
 rcases List.mem_append.1 hx with h'|h'
 ·have:=(List.mem_replicate.1 h').2; omega
 ·exact h x h'
theorem fT (a b:List Nat):strOf a++strOf b=strOf (a++b):=by
 apply ByteArray.ext
 rw[ByteArray.data_append]
 simp[strOf]
def strs (P:List (List Nat)):List Value:=P.map λp=>Value.string (strOf p)
def dJ (P:List (List Nat)):List Nat:=P.reverse.flatten
variable {P:List (List Nat)}
theorem AY {p:List Nat} (h:P[k]?=some p):dJ (P.drop k)=dJ (P.drop (k+1))++p:=by
 obtain⟨hk,e⟩:=List.getElem?_eq_some_iff.1 h
 rw[List.drop_eq_getElem_cons hk,e]
 simp[dJ]
theorem sE (P:List (List Nat)) (k:Nat):(dJ (P.drop k)).length<=(dJ P).length:=by
 have h:dJ P=dJ (P.drop k)++dJ (P.take k):=by
  unfold dJ
  rw[<-List.flatten_append,<-List.reverse_append,List.take_append_drop]
 rw[h,List.length_append]; omega
def gW (l:List Nat):List Value:=Lib.byteCells (l.map UInt8.ofNat)
theorem wq (p:List Nat):Lib.strCells (strOf p)=gW p:=by
 rw[Lib.strCells_eq]; simp[strOf,gW]
theorem uj (a b:List Nat):gW (a++b)=gW a++gW b:=by
 unfold gW; rw[List.map_append,Lib.byteCells_append]
theorem uk (a:List Nat):(gW a).length=a.length:=by
 unfold gW; rw[Lib.byteCells_length,List.length_map]
variable {w:World} {c:Nat}
theorem E7 {base:Nat} {e:TypeId} {A:Option Addr} (h:w.ownsRow base e 1 (.slice A P.length c) P.length (strs P)) {k:Nat} {p:List Nat} (hk:P[k]?=some p):
  ∃g,A=some ⟨g,0,none⟩/\g<w.heap.size/\P.length<=c/\c<=maxLen/\w.cell? ⟨g,0+k,none⟩=some (.string (strOf p)):=by
 obtain⟨hk',_⟩:=List.getElem?_eq_some_iff.1 hk
 rcases h.2 with⟨h1,h2⟩|⟨g,cap,cur,hv,hb,hg,hn,hm,hs,ht⟩
 ·omega
 ·injection hv with e1 e2 e3
  subst e1 e3
  have:=h.cells (g:=g) rfl k (.string (strOf p)) (by simp[strs,hk])
  rw[show(⟨g,0,none⟩:Addr).add k=⟨g,0+k,none⟩ by simp[Addr.add]; omega]at this
  refine⟨g,rfl,?_,hn,hm,this⟩
  rcases Nat.lt_or_ge g w.heap.size with h'|h'
  ·exact h'
  ·simp[Array.getElem?_eq_none h']at hg
theorem sF (P:List (List Nat)) (p:List Nat):dJ (P++[p])=p++dJ P:=by simp[dJ]
theorem xz (c:Nat):(⟨(Lib.repeatL (⟨#[48]⟩:ByteArray).data.toList c).toArray⟩:ByteArray)=strOf (List.replicate c 48):=by
 have:∀c,Lib.repeatL [48] c=List.replicate c 48:=by
  intro c
  induction c with
  |zero=>rfl
  |succ c ih=>unfold Lib.repeatL; rw[ih]; rfl
 show(⟨(Lib.repeatL [48] c).toArray⟩:ByteArray)=_
 rw[this]
 simp[strOf]
theorem zO (h:∀p∈P,p≠[]):P.length<=(dJ P).length:=by
 unfold dJ
 induction P with
 |nil=>simp
 |cons p P ih=>
  have h1:=ih (λq hq=>h q (List.mem_cons_of_mem _ hq))
  have h2:=List.length_pos_iff.2 (h p (by simp))
  simp at h1 ⊢
  omega
theorem Kl:(Tryz.prog.info? 9).map (λi=>(i.zero,i.size,i.bytes))=some (some (.string ⟨#[]⟩),1,16):=by kernel_rfl
def Oy (j n:Nat):Prop:=(bH n).length<=j
variable {n:Nat}
theorem Cx {j:Nat} (h:Bd j n):Oy j n:=lQ (Nat.lt_of_lt_of_le h (Nat.pow_le_pow_left (by omega) j))
theorem B3:bS 0=[48]:=rfl
theorem E9 (h:0<n):bS n=bH n:=by unfold bS; rw[if_neg (by omega)]
theorem bj.grown {k:IntKind} {bs:Nat} {w':World} {b l:Nat} {row:Option Nat} (h:bj k bs w (.slice (some ⟨b,0,none⟩) l c) n) (hg:w.grownBy w' row) (hne:∀g,row=some g->g≠b):bj k bs w' (.slice (some ⟨b,0,none⟩) l c) n:=by
 obtain⟨A,c',e,h1,h2,h3⟩:=h
 refine⟨A,c',e,h1,h2,λhl=>?_⟩
 obtain⟨b',o,e',hc⟩:=h3 hl
 refine⟨b',o,e',λi hi=>?_⟩
 subst e'
 injection e with e1 e2 e3
 injection e1 with e1
 injection e1 with e4 e5
 subst e4
 exact hg.cell (hc i hi) (λe=>hne _ e.symm rfl)
theorem nB {P:Program} {ops:Array Oper} {rest:List Oper} {o:Oper} {a:Act} {Q:Exit->Act->World->Prop} (hgd:o.guard=none) (s x:Operand) (t:TypeId)
  (ho:o.op=.call { callee:=.builtin .append,args:=#[s,x],argTypes:=#[t,t] }) (base:Nat) (e:TypeId) (i:TypeInfo) (ht:P.underlying t=some (.slice e)) (hi:P.info? e=some i) (hz:i.zero=some (.string ⟨#[]⟩))
  (hsize:i.size=1) (hby:i.bytes=16) {A:Option Addr} {c:Nat} (L:List (List Nat)) (hs:a.eval s=.slice A L.length c) (w:World) (hown:w.ownsRow base e 1 (.slice A L.length c) L.length (strs L))
  (p:List Nat) (hx:a.eval x=.slice (some ⟨w.heap.size,0,none⟩) 1 1) (hL:L.length<=1000000000) (hbase:base<=w.heap.size)
  (h:∀A' c' w',w'.ownsRow base e 1 (.slice A' (L++[p]).length c') (L++[p]).length (strs (L++[p]))->Below base (w.alloc (.cells #[.string (strOf p)] e)) w'->(w.alloc (.cells #[.string (strOf p)] e)).grownBy w' (Value.slice A L.length c).ownBlock->wpList P ops Q rest (a.put o.dst (.slice A' (L++[p]).length c')) w'):
  wpList P ops Q (o::rest) a (w.alloc (.cells #[.string (strOf p)] e)):=by
 refine wpList_append_own _ hgd s x t ho base e i (.string ⟨#[]⟩) 1 16 ht hi hz hsize hby rfl (by decide) _ _ _ hs (hown.alloc _) ⟨w.heap.size,0,none⟩ 1 1 [.string (strOf p)] hx rfl ?_ ?_ (by unfold maxLen; omega) (by omega) (by simp; omega) ?_
 ·intro j u hj
  match j,hj with
  |0,hj=>simp at hj; subst hj; simp[Addr.add]
 ·intro u hu; simp at hu; subst hu; rfl
 ·intro v' w' hown' hg _
  have e1:(L++[p]).length=L.length+1:=by simp
  have e2:strs (L++[p])=strs L++[.string (strOf p)]:=by simp[strs]
  have hb:Below base (w.alloc (.cells #[.string (strOf p)] e)) w':=(Below.refl _ _).grown hg (by simp; omega) (λk hk=>(hown.lt k hk).1)
  rw[<-e2,<-e1]at hown'
  rcases hown'.2 with⟨h1,h2⟩|⟨g,cap,cur,hv,hr⟩
  ·simp at h2
  ·subst hv
   exact h _ _ _ hown' hb hg
theorem kr (w:World) (v:Value) (n:Nat) (h:bj .u64 b64 w v n) {j:Nat} (hj:Bd j n) (dz:j<=100000000):Calls Tryz.prog 60 #[v] w (eK w (.string (strOf (bS n)))):=by
 have HL:=bx (Cx hj)
 have HB:=bx hj
 clear hj
 go_enter Tryz.func60,Tryz.ntmps60
 go_wp2_with fail
 go_loopw [0,3] (λs0 s3 wr=>∃(m:Nat) (P:List (List Nat)) (A:Option Addr) (c:Nat),bj .u64 b64 wr s0 m/\s3=.slice A P.length c/\wr.ownsRow w.heap.size 9 1 (.slice A P.length c) P.length (strs P)/\Below w.heap.size w wr/\Bx (bH n=bH m++dJ P)/\Bx (∀p∈P,p≠[]/\Wf 256 p)/\Bx (Bd j m)) (λs0 _ wr=>numOf wr s0)
 case atStart=>exact⟨n,[],none,0,h,rfl,World.ownsRow_nil _ _ _ _,Below.refl _ _,bx (by simp[dJ]),bx (by simp),HB⟩
 case round=>
  clear h HB
  obtain⟨m,P,A,c,hm,rfl,hown,hb,HD,HP,HB⟩:=hrel
  have VR:P.length<=100000000:=by
   have h1:=zO (λp hp=>(HP.out p hp).1)
   have h2:(bH n).length<=j:=HL.out
   rw[HD.out,List.length_append]at h2
   omega
  rcases Nat.eq_zero_or_pos m with rfl|hm0
  ·obtain⟨A0,c0,rfl,hr⟩:=id hm
   rw[bk]at hr ⊢
   have Uq:=HL
   have uI:Bx (bH n=dJ P):=bx (by rw[HD.out,jO,List.nil_append])
   clear HD HB hm hr
   by_cases QB:P=[]
   ·subst QB
    have Bc:n=0:=by
     rcases Nat.eq_zero_or_pos n with h|h
     ·exact h
     ·have:=kE h
      rw[uI.out]at this
      simp[dJ]at this
    subst Bc
    rw[B3]
    go_wp2
    go_ret
    exact⟨rfl,hb⟩
   ·have Bc:0<n:=by
     rcases Nat.eq_zero_or_pos n with h|h
     ·exfalso
      have h1:=zO (λp hp=>(HP.out p hp).1)
      have h2:=List.length_pos_iff.2 QB
      rw[<-uI.out,h,jO]at h1
      have h3:P.length<=0:=h1
      omega
     ·exact h
    have HT:=bx (E9 Bc)
    have hp1:(1:Int)<=(P.length:Int):=by have:=List.length_pos_iff.2 QB; omega
    have hpe:((P.length:Int)==0)=false:=beq_eq_false_iff_ne.2 (by omega)
    have D8:Wf 256 (dJ P):=by rw[<-uI.out]; exact wE _
    have hlf:(dJ P).length<=100000000:=by
     have h2:(bH n).length<=j:=HL.out
     rw[uI.out]at h2; omega
    clear QB Bc
    have U6:=bx hlf
    have HW2:=bx D8
    clear hlf D8
    go_wp2_with fail
    have O5:=Lib.fresh_isBuilder 135 5 wr
    have Gf:Below wr.heap.size wr (wr.alloc (.cells #[.pointer none,.slice none 0 0] 135)):=Below.alloc (Below.refl _ _) (Nat.le_refl _) _
    generalize wr.alloc (.cells #[.pointer none,.slice none 0 0] 135)=wb at *
    obtain⟨wo,rfl⟩:∃wo:World,wo=wr:=⟨_,rfl⟩
    go_loopw [8] (λs8 wx=>∃k:Nat,k<=P.length/\s8=.int .i64 ((k:Int)-1)/\Lib.IsBuilder 135 5 wo.heap.size wo.heap.size (gW (dJ (P.drop k))) wx/\Below wo.heap.size wo wx) (λs8 _=>(intOf s8+1).toNat)
    case atStart=>exact⟨P.length,Nat.le_refl _,rfl,by rw[List.drop_length]; exact O5,Gf⟩
    case round=>
     clear O5 Gf
     obtain⟨k,hk,rfl,hib,O8⟩:=hrel
     rcases Nat.eq_zero_or_pos k with rfl|hpos
     ·rw[show(((0:Nat):Int)-1) = -1 by omega]
      rw[List.drop_zero]at hib
      go_wp2_with fail
      refine Calls.mono (Tryz.Builder_String_any wo.heap.size wo.heap.size ((dJ P).map UInt8.ofNat) wr hib O8.size) ?_
      rintro e wf ⟨rfl,QD⟩
      go_wp2
      go_ret
      rw[HT.out,uI.out]
      exact⟨rfl,hb.trans ((O8.trans QD).mono hb.size)⟩
     ·obtain⟨i,rfl⟩:∃i,k=i+1:=⟨k-1,by omega⟩
      rw[show(((i+1:Nat):Int)-1)=(i:Int) by omega]
      obtain⟨p,hp⟩:∃p,P[i]?=some p:=⟨P[i]'(by omega),List.getElem?_eq_getElem (by omega)⟩
      obtain⟨g,rfl,Sr,hg2,hg3,Sg⟩:=E7 hown hp
      have Pb:wr.cell? ⟨g,0+i,none⟩=some (.string (strOf p)):=by rw[O8.cell Sr]; exact Sg
      rw[Nat.zero_add]at Pb
      have Sq:=AY hp
      have NQ:=sE P i
      have TX:=bx (qT wo.heap.size wo.heap.size (gW (dJ (P.drop (i+1)))) (strOf p) wr hib (by
       rw[uk,cg]
       rw[Sq,List.length_append]at NQ
       have:=U6.out
       omega) O8.size)
      have U2:=bx (show gW (dJ (P.drop (i+1)))++Lib.strCells (strOf p)=gW (dJ (P.drop i)) by rw[wq,Sq,uj])
      have SB:(0:Int)<=(i:Int):=by omega
      have SC:(i:Int)<(P.length:Int):=by omega
      clear Sg Sq NQ hp
      go_wp2_with fail
      refine Calls.mono TX.out ?_
      rintro e wy ⟨rfl,hby,hbz⟩
      rw[U2.out]at hby
      clear TX Pb
      go_wp2
      go_roundw
      case rel=>
       have Wa:(Value.int .i64 (i:Int):Value)=.int .i64 (i:Int):=rfl
       (repeat apply Exists.intro)
       exact⟨⟨i,by omega,by go_num,.inr hby,O8.trans hbz⟩,rfl⟩
      case measure=>simp[intOf]
  ·have Py:0<(ae b64 m).length:=(aI (n:=m) ai).2 hm0
   have wS:(1:Int)<=((ae b64 m).length:Int):=by omega
   have hc:=qv wr _ m 10000000000000000000 hm HB.out (by omega) (by omega) (by unfold b64; omega)
   obtain⟨q,hq⟩:∃q,q=m/10000000000000000000:=⟨_,rfl⟩
   obtain⟨r,hr⟩:∃r,r=m%10000000000000000000:=⟨_,rfl⟩
   have Ky:=bx (show r<10000000000000000000 by omega)
   have Qt:=bx (show q=0->r=m by omega)
   have HQ:=bx (show q<m by omega)
   have Vb:=bx (show q<=m by omega)
   rw[<-hq,<-hr,show(((10000000000000000000:Nat):Int))=10000000000000000000 from rfl]at hc
   have Q3:Bx (0<q->bH m=bH q++nT 19 (bH r)):=bx (λh=>by
    have:=AQ 19 m
    rw[show(10:Nat)^19=10000000000000000000 by decide,<-hq,<-hr]at this
    exact this h)
   clear hq hr
   obtain⟨A0,c0,rfl,hr⟩:=id hm
   have HM:=bx hm0
   have HC:=bx hc
   clear hm0 hc hr
   go_wp2_with fail
   refine Calls.mono HC.out ?_
   rintro e w1 ⟨l1,c1,rfl,hq,hb1⟩
   have Vf:=bx (show r<b64 by have:=Ky.out; unfold b64; omega)
   go_wp2_with fail
   refine Calls.mono (yA w1 r Vf.out) ?_
   rintro e w2 ⟨rfl,hb2⟩
   have PD:=hq.below hb2
   have hb3:=(hb.trans (hb1.mono hb.size)).trans (hb2.mono (hb.trans (hb1.mono hb.size)).size)
   have wL:=hb1.trans (hb2.mono hb1.size)
   clear hq hb2
   have hdl:(bH r).length<=19:=lQ (by have:=Ky.out; omega)
   have Wh:((bH r).length:Int)<=19:=by omega
   have hsz:=cg (bH r)
   obtain⟨_,_,D5,_⟩:=id PD
   injection D5 with e1 e2 e3
   subst e1 e2 e3
   obtain⟨i0,hi,hz0,hz1,hz2⟩:=info_parts Kl
   have CH:=hown.kept (cw wL none) (by cases A with|none=>exact .inl rfl|some a=>exact .inr (by simp[Value.ownBlock]))
   have TR:Bx (∀g,(Value.slice A P.length c).ownBlock=some g->g≠wr.heap.size):=bx (λg hg=>by have:=(hown.lt g hg).2; omega)
   rcases Nat.eq_zero_or_pos q with rfl|MQ
   ·have eB:Bx (bH n=bH 0++dJ (P++[bH r])):=bx (by
     rw[sF,jO,List.nil_append,Qt.out rfl]; exact HD.out)
    have QI:Bx (∀p∈P++[bH r],p≠[]/\Wf 256 p):=bx (λp hp=>by
     rcases List.mem_append.1 hp with h|h
     ·exact HP.out p h
     ·simp at h
      subst h
      exact⟨List.length_pos_iff.1 (kE (by rw[Qt.out rfl]; exact HM.out)),wE _⟩)
    have hbd:Bx (Bd j 0):=bx (HB.out.le (Nat.zero_le _))
    clear HC Q3 Qt hown
    rw[bk]
    go_wp2_with (at_builtin; refine nB rfl (.tmp 28) (.tmp 30) 127 rfl w.heap.size 9 i0 Tryz.underlying127 hi hz0 hz1 hz2 P rfl w2 CH (bH r) rfl (by omega) hb3.size ?_; intro A3 c3 w4 oB hb4 hg4)
    have hz:=((hb3.alloc hb3.size (.cells #[.string (strOf (bH r))] 9)).trans hb4)
    have K6:=(PD.below (Below.alloc (Below.refl _ _) (Nat.le_refl _) (.cells #[.string (strOf (bH r))] 9))).grown hg4 TR.out
    rw[bk]at K6
    have K6:bj .u64 b64 w4 (.slice (some ⟨wr.heap.size,0,none⟩) 0 c1) 0:=K6
    go_wp2
    go_roundw
    case rel=>
     exact⟨0,P++[bH r],A3,c3,K6,by simp,oB,hz,eB,QI,hbd⟩
    case measure=>rw[K6.of_eq,hm.of_eq]; exact HM.out
   ·have SX:(1:Int)<=((ae b64 q).length:Int):=by have:=(aI (n:=q) ai).2 MQ; omega
    have MP:nT 19 (bH r)=List.replicate (19-(bH r).length) 48++bH r:=rfl
    have Px:(nT 19 (bH r)).length=19:=by rw[MP,List.length_append,List.length_replicate]; omega
    have eB:Bx (bH n=bH q++dJ (P++[nT 19 (bH r)])):=bx (by
     rw[sF,<-List.append_assoc,<-Q3.out MQ]; exact HD.out)
    have QI:Bx (∀p∈P++[nT 19 (bH r)],p≠[]/\Wf 256 p):=bx (λp hp=>by
     rcases List.mem_append.1 hp with h|h
     ·exact HP.out p h
     ·simp at h
      subst h
      exact⟨List.length_pos_iff.1 (by omega),J6 (wE _)⟩)
    have hbd:Bx (Bd j q):=bx (HB.out.le Vb.out)
    have Va:=bx MP
    clear MQ MP Px HC Q3 Qt
    have WJ:(strOf (List.replicate (19-(bH r).length) 48)).size=19-(bH r).length:=by rw[cg,List.length_replicate]
    have WK:(19-(bH r).length)+(bH r).length<=9223372036854775807:=by omega
    have WI:19-(bH r).length<=19:=by omega
    go_wp2_with fail
    rw[show(19:Int)-((bH r).length:Int)=((19-(bH r).length:Nat):Int) by omega]
    refine Calls.mono (Tryz.strings_Repeat ⟨#[48]⟩ (19-(bH r).length) w2 (by omega) (by show 1*_<=_; omega)) ?_
    rw[xz]
    rintro e w3 ⟨rfl,hb4⟩
    have CI:=CH.kept (cw hb4 none) (by cases A with|none=>exact .inl rfl|some a=>exact .inr (by simp[Value.ownBlock]))
    have SU:=PD.below hb4
    have KS:=hb3.trans (hb4.mono hb3.size)
    have Sc:strOf (List.replicate (19-(bH r).length) 48)++strOf (bH r)=strOf (nT 19 (bH r)):=by rw[fT]; rfl
    go_wp2_with (at_builtin; refine nB rfl (.tmp 28) (.tmp 30) 127 rfl w.heap.size 9 i0 Tryz.underlying127 hi hz0 hz1 hz2 P rfl w3 CI (nT 19 (bH r)) rfl (by omega) KS.size ?_; intro A3 c3 w4 oB Mx hg4)
    have hz:=((KS.alloc KS.size (.cells #[.string (strOf (nT 19 (bH r)))] 9)).trans Mx)
    have K6:=(SU.below (Below.alloc (Below.refl _ _) (Nat.le_refl _) (.cells #[.string (strOf (nT 19 (bH r)))] 9))).grown hg4 TR.out
    clear Sc
    go_wp2
    go_roundw
    case rel=>
     exact⟨q,P++[nT 19 (bH r)],A3,c3,K6,by simp,oB,hz,eB,QI,hbd⟩
    case measure=>rw[K6.of_eq,hm.of_eq]; exact HQ.out
end Wx

namespace Wx
open Go Go.RowKit Go.Proofs
end Wx

namespace Wx
set_option maxRecDepth 100000
set_option maxHeartbeats 1000000
open Go Go.RowKit Go.Proofs
def jw (q:Rat):List Nat:=(if q.num<0 then[45]else[])++(bS q.num.natAbs++(if q.den=1 then[]else 47::bS q.den))
theorem iE {j n:Nat} (h:Bd j n):(bS n).length<=j+1:=by
 unfold bS
 split
 ·simp
 ·have:=Cx h; unfold Oy at this; omega
theorem uN (l:List Nat):(⟨#[45]⟩:ByteArray)++strOf l=strOf (45::l):=fT [45] l
theorem uO (l:List Nat):(⟨#[47]⟩:ByteArray)++strOf l=strOf (47::l):=fT [47] l
theorem Ic (w:World) (v:Value) (x:Rat) (hx:cB w v x) {j:Nat} (hj:dx j x) (dz:j<=100000000) (hn:¬x.num<0) (hd:¬x.den=1):Calls Tryz.prog 30 #[v] w (eK w (.string (strOf (jw x)))):=by
 obtain⟨xK,xL,rfl,eF,dZ⟩:=id hx
 obtain⟨bO,bQ,rfl,_⟩:=id eF
 obtain⟨bP,bR,rfl,_⟩:=id dZ
 have HB:=bx hj
 have hT:jw x=bS x.num.natAbs++47::bS x.den:=by unfold jw; rw[if_neg hn,if_neg hd]; simp
 rw[hT,decide_eq_false hn]at *
 rw[lR hd]at *
 have Wq:(1:Int)<=((ae b64 x.den).length:Int):=by have:=(aI (n:=x.den) ai).2 x.den_pos; omega
 have hl2:=iE hj.2
 have hz2:=cg (bS x.den)
 have PS:=uO (bS x.den)
 have hz3:=cg (47::bS x.den)
 have WS:=fT (bS x.num.natAbs) (47::bS x.den)
 have wS:=iE hj.1
 have hz1:=cg (bS x.num.natAbs)
 have PD:1+(bS x.den).length<=9223372036854775807:=by omega
 have SU:(bS x.num.natAbs).length+((bS x.den).length+1)<=9223372036854775807:=by omega
 clear hj hn hd hT wS hl2
 go_enter Tryz.func30,Tryz.ntmps30
 go_wp2_with fail
 obtain⟨w1,e1,o1,b1,s1⟩:=ic w (.bool false) (.slice bO (ae b64 x.num.natAbs).length bQ) (.slice bP (ae b64 x.den).length bR) 54
 rw[e1]
 clear e1
 refine Calls.mono (kr w1 _ _ (eF.below b1) HB.out.1 dz) ?_
 rintro e w2 ⟨rfl,hb2⟩
 have k0:=(o1.gone hb2).c0
 have k1:=(o1.gone hb2).c1
 have k2:=(o1.gone hb2).c2
 have Gv:=(dZ.below b1).below hb2
 have B2:=b1.trans (hb2.mono b1.size)
 go_wp2_with fail
 refine Calls.mono (kr w2 _ _ Gv HB.out.2 dz) ?_
 rintro e w3 ⟨rfl,hb3⟩
 go_wp2
 go_ret
 exact⟨rfl,B2.trans (hb3.mono B2.size)⟩
theorem Ie (w:World) (v:Value) (x:Rat) (hx:cB w v x) {j:Nat} (hj:dx j x) (dz:j<=100000000) (hn:¬x.num<0) (hd:x.den=1):Calls Tryz.prog 30 #[v] w (eK w (.string (strOf (jw x)))):=by
 obtain⟨xK,xL,rfl,eF,dZ⟩:=id hx
 obtain⟨bO,bQ,rfl,_⟩:=id eF
 obtain⟨bP,bR,rfl,_⟩:=id dZ
 have HB:=bx hj
 have hT:jw x=bS x.num.natAbs:=by unfold jw; rw[if_neg hn,if_pos hd]; simp
 rw[hT,decide_eq_false hn]at *
 rw[hd,jP,bk]at *
 have wS:=iE hj.1
 have hz1:=cg (bS x.num.natAbs)
 clear hj hn hd hT wS
 go_enter Tryz.func30,Tryz.ntmps30
 go_wp2_with fail
 obtain⟨w1,e1,o1,b1,s1⟩:=ic w (.bool false) (.slice bO (ae b64 x.num.natAbs).length bQ) (.slice bP 0 bR) 54
 rw[e1]
 clear e1
 refine Calls.mono (kr w1 _ _ (eF.below b1) HB.out.1 dz) ?_
 rintro e w2 ⟨rfl,hb2⟩
 have k0:=(o1.gone hb2).c0
 have k1:=(o1.gone hb2).c1
 have k2:=(o1.gone hb2).c2
 have Gv:=(dZ.below b1).below hb2
 have B2:=b1.trans (hb2.mono b1.size)
 go_wp2
 go_ret
 exact⟨rfl,B2⟩
theorem Ig (w:World) (v:Value) (x:Rat) (hx:cB w v x) {j:Nat} (hj:dx j x) (dz:j<=100000000) (hn:x.num<0) (hd:¬x.den=1):Calls Tryz.prog 30 #[v] w (eK w (.string (strOf (jw x)))):=by
 obtain⟨xK,xL,rfl,eF,dZ⟩:=id hx
 obtain⟨bO,bQ,rfl,_⟩:=id eF
 obtain⟨bP,bR,rfl,_⟩:=id dZ
 have HB:=bx hj
 have hT:jw x=45::(bS x.num.natAbs++47::bS x.den):=by unfold jw; rw[if_pos hn,if_neg hd]; simp
 rw[hT,decide_eq_true hn]at *
 rw[lR hd]at *
 have Wq:(1:Int)<=((ae b64 x.den).length:Int):=by have:=(aI (n:=x.den) ai).2 x.den_pos; omega
 have hl2:=iE hj.2
 have hz2:=cg (bS x.den)
 have PS:=uO (bS x.den)
 have hz3:=cg (47::bS x.den)
 have oF:=uN (bS x.num.natAbs)
 have WV:=cg (45::bS x.num.natAbs)
 have WS:=fT (45::bS x.num.natAbs) (47::bS x.den)
 have wS:=iE hj.1
 have hz1:=cg (bS x.num.natAbs)
 have hq1:1+(bS x.num.natAbs).length<=9223372036854775807:=by omega
 have PD:1+(bS x.den).length<=9223372036854775807:=by omega
 have SU:((bS x.num.natAbs).length+1)+((bS x.den).length+1)<=9223372036854775807:=by omega
 clear hj hn hd hT wS hl2
 go_enter Tryz.func30,Tryz.ntmps30
 go_wp2_with fail
 obtain⟨w1,e1,o1,b1,s1⟩:=ic w (.bool true) (.slice bO (ae b64 x.num.natAbs).length bQ) (.slice bP (ae b64 x.den).length bR) 54
 rw[e1]
 clear e1
 refine Calls.mono (kr w1 _ _ (eF.below b1) HB.out.1 dz) ?_
 rintro e w2 ⟨rfl,hb2⟩
 have k0:=(o1.gone hb2).c0
 have k1:=(o1.gone hb2).c1
 have k2:=(o1.gone hb2).c2
 have Gv:=(dZ.below b1).below hb2
 have B2:=b1.trans (hb2.mono b1.size)
 go_wp2_with fail
 refine Calls.mono (kr w2 _ _ Gv HB.out.2 dz) ?_
 rintro e w3 ⟨rfl,hb3⟩
 go_wp2
 go_ret
 exact⟨rfl,B2.trans (hb3.mono B2.size)⟩
theorem Ih (w:World) (v:Value) (x:Rat) (hx:cB w v x) {j:Nat} (hj:dx j x) (dz:j<=100000000) (hn:x.num<0) (hd:x.den=1):Calls Tryz.prog 30 #[v] w (eK w (.string (strOf (jw x)))):=by
 obtain⟨xK,xL,rfl,eF,dZ⟩:=id hx
 obtain⟨bO,bQ,rfl,_⟩:=id eF
 obtain⟨bP,bR,rfl,_⟩:=id dZ
 have HB:=bx hj
 have hT:jw x=45::bS x.num.natAbs:=by unfold jw; rw[if_pos hn,if_pos hd]; simp
 rw[hT,decide_eq_true hn]at *
 rw[hd,jP,bk]at *
 have oF:=uN (bS x.num.natAbs)
 have WV:=cg (45::bS x.num.natAbs)
 have wS:=iE hj.1
 have hz1:=cg (bS x.num.natAbs)
 have hq1:1+(bS x.num.natAbs).length<=9223372036854775807:=by omega
 clear hj hn hd hT wS
 go_enter Tryz.func30,Tryz.ntmps30
 go_wp2_with fail
 obtain⟨w1,e1,o1,b1,s1⟩:=ic w (.bool true) (.slice bO (ae b64 x.num.natAbs).length bQ) (.slice bP 0 bR) 54
 rw[e1]
 clear e1
 refine Calls.mono (kr w1 _ _ (eF.below b1) HB.out.1 dz) ?_
 rintro e w2 ⟨rfl,hb2⟩
 have k0:=(o1.gone hb2).c0
 have k1:=(o1.gone hb2).c1
 have k2:=(o1.gone hb2).c2
 have Gv:=(dZ.below b1).below hb2
 have B2:=b1.trans (hb2.mono b1.size)
 go_wp2
 go_ret
 exact⟨rfl,B2⟩
theorem ES (w:World) (v:Value) (x:Rat) (hx:cB w v x) {j:Nat} (hj:dx j x) (dz:j<=100000000):Calls Tryz.prog 30 #[v] w (eK w (.string (strOf (jw x)))):=by
 by_cases hn:x.num<0
 ·by_cases hd:x.den=1
  ·exact Ih w v x hx hj dz hn hd
  ·exact Ig w v x hx hj dz hn hd
 ·by_cases hd:x.den=1
  ·exact Ie w v x hx hj dz hn hd
  ·exact Ic w v x hx hj dz hn hd
end Wx

namespace Wx
open Go Go.RowKit Go.Proofs
end Wx

namespace Wx
open Go Go.RowKit Go.Proofs
end Wx

namespace Wx
open Go Go.RowKit Go.Proofs
theorem H8 {w:World} {q:Rat} {n:Int} {e:Ending} {w':World} (h:FA w q n e w'):eR (fH (cW q) (pI n)) w e w':=by
 obtain⟨v,rfl,h1,h2⟩:=h
 exact⟨_,rfl,⟨v,_,rfl,h1,rfl⟩,h2⟩
variable {x y:Rat} {j k:Nat}
theorem Me (hx:dx j x) (hy:dx k y) (h:j+k+j+k+1<=10000000):∀w v1 v2,cW x w v1->cW y w v2->Calls Tryz.prog 66 #[v1,v2] w (eR (cW (x-y)) w):=
 λw v1 v2 h1 h2=>zF w v1 v2 x y h1 h2 hx hy h
theorem Md (hx:dx j x) (hy:dx k y) (h:j+k<=10000000):∀w v1 v2,cW x w v1->cW y w v2->Calls Tryz.prog 39 #[v1,v2] w (eR (cW (x*y)) w):=
 λw v1 v2 h1 h2=>GY w v1 v2 x y h1 h2 hx hy h
theorem DJ (hx:dx j x) (hy:dx k y) (h:j+k<=10000000) (h0:y≠0):∀w v1 v2,cW x w v1->cW y w v2->Calls Tryz.prog 92 #[v1,v2] w (eR (fH (cW (x/y)) (pI 0)) w):=
 λw v1 v2 h1 h2=>(GV w v1 v2 x y h1 h2 (λh=>h0 ((iw y).1 (by omega))) hx hy h).mono λ_ _=>H8
theorem Mb (hx:dx j x) (hy:dx k y) (h:j+k<=10000000):∀w v1 v2,cW x w v1->cW y w v2->Calls Tryz.prog 92 #[v1,v2] w (eR (fH (cW (x/y)) (pI (if y=0 then 3 else 0))) w):=by
 by_cases h0:y=0
 ·rw[if_pos h0,show x/y=0 by rw[h0,Rat.div_def,Rat.inv_zero,Rat.mul_zero]]
  exactλw v1 v2 h1 h2=>(Et w v1 v2 x y h1 h2 h0).mono λ_ _=>H8
 ·rw[if_neg h0]; exact DJ hx hy h h0
theorem Jc (x:Rat):∀w v1,cW x w v1->Calls Tryz.prog 52 #[v1] w (eR (pB (decide (x=0))) w):=λw v1 h1=>(gv w v1 x h1).mono λ_ _=>qm
theorem Ma (hx:dx j x) (hy:dx k y) (h:j+k+j+k+1<=10000000):∀w v1 v2,cW x w v1->cW y w v2->Calls Tryz.prog 41 #[v1,v2] w (eR (pI (gJ x y)) w):=
 λw v1 v2 h1 h2=>(GU w v1 v2 x y h1 h2 hx hy h).mono λ_ _=>qm
theorem Mc (n:Int) (h1:-9223372036854775808<=n) (h2:n<=9223372036854775807):∀w v1,pI n w v1->Calls Tryz.prog 34 #[v1] w (eR (cW (n:Rat)) w):=λw v1 h=>by
 have h:v1=.int .i64 n:=h
 rw[h]
 exact zB w n h1 h2
end Wx

namespace Wx
open Go Go.RowKit Go.Proofs
end Wx

namespace Wx
open Go Go.RowKit Go.Proofs
variable {x y:Rat} {j k:Nat}
theorem Le (h:j+k<=4000000):∀w v1 v2,pN j x w v1->pN k y w v2->Calls Tryz.prog 66 #[v1,v2] w (eR (pN (j+k+1) (x-y)) w):=λw v1 v2 h1 h2=>(Me h1.1 h2.1 (by omega) w v1 v2 h1.2 h2.2).mono λ_ _=>eR.map (vL (h1.1.TA h2.1))
theorem CQ (h:j+k<=10000000):∀w v1 v2,pN j x w v1->pN k y w v2->Calls Tryz.prog 39 #[v1,v2] w (eR (pN (j+k) (x*y)) w):=λw v1 v2 h1 h2=>(Md h1.1 h2.1 h w v1 v2 h1.2 h2.2).mono λ_ _=>eR.map (vL (h1.1.mul h2.1))
theorem P4 (h:j+k<=10000000):∀w v1 v2,pN j x w v1->pN k y w v2->Calls Tryz.prog 92 #[v1,v2] w (eR (fH (pN (j+k) (x/y)) (pI (if y=0 then 3 else 0))) w):=λw v1 v2 h1 h2=>(Mb h1.1 h2.1 h w v1 v2 h1.2 h2.2).mono λ_ _=>eR.map λ_ _ ⟨a,b,e,p,q⟩=>⟨a,b,e,⟨h1.1.quo h2.1,p⟩,q⟩
theorem xe (_:True):∀w v1,pN j x w v1->Calls Tryz.prog 52 #[v1] w (eR (pB (decide (x=0))) w):=λw v1 h1=>Jc x w v1 h1.2
theorem GO (h:j+k<=4000000):∀w v1 v2,pN j x w v1->pN k y w v2->Calls Tryz.prog 41 #[v1,v2] w (eR (pI (gJ x y)) w):=λw v1 v2 h1 h2=>Ma h1.1 h2.1 (by omega) w v1 v2 h1.2 h2.2
theorem lp {n:Int} (h:-9223372036854775808<=n/\n<=9223372036854775807):∀w v1,pI n w v1->Calls Tryz.prog 34 #[v1] w (eR (pN 64 (n:Rat)) w):=λw v1 h1=>(Mc n h.1 h.2 w v1 h1).mono λ_ _=>eR.map (vL (Co h.1 h.2))
end Wx
