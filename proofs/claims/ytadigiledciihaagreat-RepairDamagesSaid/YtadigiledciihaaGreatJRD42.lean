import Derived.Lib.Repeat
import Derived.Test.YtadigiledciihaaGreatJRD41
namespace Wx
set_option maxRecDepth 100000
set_option maxHeartbeats 1000000
open Go Go.RowKit Go.Proofs
def mB (k:Nat) (s:List Nat):List Nat:=List.replicate (k-s.length) 48++s
def bG (n:Nat):List Nat:=if n=0 then[48]else bt n
theorem uv (n:Nat):Wf 256 (bt n):=by
 intro x hx
 unfold bt at hx
 rw[List.mem_reverse,List.mem_map]at hx
 obtain⟨y,hy,rfl⟩:=hx
 have:=bf (b:=10) (by omega) n y hy
 omega
theorem yN (k:Nat):∀m,0<m/10^k->bt m=bt (m/10^k)++mB k (bt (m%10^k)):=by
 induction k with
 |zero=>intro m _; simp[mB,Nat.mod_one,iI]
 |succ k ih=>
  intro m h
  have hm:0<m:=by
   rcases Nat.eq_zero_or_pos m with rfl|h'
   ·simp at h
   ·exact h'
  have e1:m/10/10^k=m/10^(k+1):=by rw[Nat.div_div_eq_div_mul,Nat.pow_succ,Nat.mul_comm]
  have e2:m%10^(k+1)/10=m/10%10^k:=by rw[Nat.pow_succ,Nat.mul_comm,Nat.mod_mul_right_div_self]
  have e3:m%10^(k+1)%10=m%10:=by
   rw[Nat.pow_succ,Nat.mul_comm]; exact Nat.mod_mul_right_mod _ _ _
  rw[mM hm,ih (m/10) (by rw[e1]; exact h),e1,List.append_assoc]
  congr 1
  rcases Nat.eq_zero_or_pos (m%10^(k+1))with h0|h0
  ·rw[h0]at e2 e3 ⊢
   rw[<-e2,<-e3]
   simp[mB,iI,<-List.replicate_succ']
  ·rw[mM h0,e2,e3]
   unfold mB
   rw[List.length_append,List.length_singleton,List.append_assoc]
   congr 2
   omega
variable {k:Nat}
theorem Hi {s:List Nat} (h:Wf 256 s):Wf 256 (mB k s):=by
 intro x hx
 rcases List.mem_append.1 hx with h'|h'
 ·have:=(List.mem_replicate.1 h').2; omega
 ·exact h x h'
theorem eI (a b:List Nat):strOf a++strOf b=strOf (a++b):=by
 apply ByteArray.ext
 rw[ByteArray.data_append]
 simp[strOf]
def strs (P:List (List Nat)):List Value:=P.map λp=>Value.string (strOf p)
def cO (P:List (List Nat)):List Nat:=P.reverse.flatten
variable {P:List (List Nat)}
theorem yU {p:List Nat} (h:P[k]?=some p):cO (P.drop k)=cO (P.drop (k+1))++p:=by
 obtain⟨hk,e⟩:=List.getElem?_eq_some_iff.1 h
 rw[List.drop_eq_getElem_cons hk,e]
 simp[cO]
theorem qI (P:List (List Nat)) (k:Nat):(cO (P.drop k)).length<=(cO P).length:=by
 have h:cO P=cO (P.drop k)++cO (P.take k):=by
  unfold cO
  rw[<-List.flatten_append,<-List.reverse_append,List.take_append_drop]
 rw[h,List.length_append]; omega
def fA (l:List Nat):List Value:=Lib.byteCells (l.map UInt8.ofNat)
theorem uk (p:List Nat):Lib.strCells (strOf p)=fA p:=by
 rw[Lib.strCells_eq]; simp[strOf,fA]
theorem sA (a b:List Nat):fA (a++b)=fA a++fA b:=by
 unfold fA; rw[List.map_append,Lib.byteCells_append]
theorem sB (a:List Nat):(fA a).length=a.length:=by
 unfold fA; rw[Lib.byteCells_length,List.length_map]
variable {w:World} {c:Nat}
theorem Da {base:Nat} {e:TypeId} {A:Option Addr} (h:w.ownsRow base e 1 (.slice A P.length c) P.length (strs P)) {k:Nat} {p:List Nat} (hk:P[k]?=some p):
  ∃g,A=some ⟨g,0,none⟩/\g<w.heap.size/\P.length<=c/\c<=maxLen/\w.cell? ⟨g,0+k,none⟩=some (.string (strOf p)):=by
 obtain⟨hk',_⟩:=List.getElem?_eq_some_iff.1 hk
 rcases h.2 with⟨h1,h2⟩|⟨g,cap,cur,hv,hb,hg,hn,hm,hs,ht⟩
 ·omega
 ·injection hv with e1 e2 e3
  subst e1 e3
  have:=h.cells (g:=g) rfl k (.string (strOf p)) (by simp[strs,hk])
  rw[show(⟨g,0,none⟩:Addr).add k=⟨g,0+k,none⟩ by simp[Addr.add]; omega]at this
  refine⟨g,rfl,?_,hn,hm,this⟩
  rcases Nat.lt_or_ge g w.heap.size with h'|h'
  ·exact h'
  ·simp[Array.getElem?_eq_none h']at hg
theorem qJ (P:List (List Nat)) (p:List Nat):cO (P++[p])=p++cO P:=by simp[cO]
theorem vf (c:Nat):(⟨(Lib.repeatL (⟨#[48]⟩:ByteArray).data.toList c).toArray⟩:ByteArray)=strOf (List.replicate c 48):=by
 have:∀c,Lib.repeatL [48] c=List.replicate c 48:=by
  intro c
  induction c with
  |zero=>rfl
  |succ c ih=>unfold Lib.repeatL; rw[ih]; rfl
 show(⟨(Lib.repeatL [48] c).toArray⟩:ByteArray)=_
 rw[this]
 simp[strOf]
theorem xN (h:∀p∈P,p≠[]):P.length<=(cO P).length:=by
 unfold cO
 induction P with
 |nil=>simp
 |cons p P ih=>
  have h1:=ih (λq hq=>h q (List.mem_cons_of_mem _ hq))
  have h2:=List.length_pos_iff.2 (h p (by simp))
  simp at h1 ⊢
  omega
theorem HO:(Tryz.prog.info? 9).map (λi=>(i.zero,i.size,i.bytes))=some (some (.string ⟨#[]⟩),1,16):=by kernel_rfl
def LR (j n:Nat):Prop:=(bt n).length<=j
variable {n:Nat}
theorem AJ {j:Nat} (h:Bd j n):LR j n:=jY (Nat.lt_of_lt_of_le h (Nat.pow_le_pow_left (by omega) j))
theorem zW:bG 0=[48]:=rfl
theorem Dc (h:0<n):bG n=bt n:=by unfold bG; rw[if_neg (by omega)]
theorem aV.grown {k:IntKind} {bs:Nat} {w':World} {b l:Nat} {row:Option Nat} (h:aV k bs w (.slice (some ⟨b,0,none⟩) l c) n) (hg:w.grownBy w' row) (hne:∀g,row=some g->g≠b):aV k bs w' (.slice (some ⟨b,0,none⟩) l c) n:=by
 obtain⟨A,c',e,h1,h2,h3⟩:=h
 refine⟨A,c',e,h1,h2,λhl=>?_⟩
 obtain⟨b',o,e',hc⟩:=h3 hl
 refine⟨b',o,e',λi hi=>?_⟩
 subst e'
 injection e with e1 e2 e3
 injection e1 with e1
 injection e1 with e4 e5
 subst e4
 exact hg.cell (hc i hi) (λe=>hne _ e.symm rfl)
theorem lX {P:Program} {ops:Array Oper} {rest:List Oper} {o:Oper} {a:Act} {Q:Exit->Act->World->Prop} (hgd:o.guard=none) (s x:Operand) (t:TypeId)
  (ho:o.op=.call { callee:=.builtin .append,args:=#[s,x],argTypes:=#[t,t] }) (base:Nat) (e:TypeId) (i:TypeInfo) (ht:P.underlying t=some (.slice e)) (hi:P.info? e=some i) (hz:i.zero=some (.string ⟨#[]⟩))
  (hsize:i.size=1) (hby:i.bytes=16) {A:Option Addr} {c:Nat} (L:List (List Nat)) (hs:a.eval s=.slice A L.length c) (w:World) (hown:w.ownsRow base e 1 (.slice A L.length c) L.length (strs L))
  (p:List Nat) (hx:a.eval x=.slice (some ⟨w.heap.size,0,none⟩) 1 1) (hL:L.length<=1000000000) (hbase:base<=w.heap.size)
  (h:∀A' c' w',w'.ownsRow base e 1 (.slice A' (L++[p]).length c') (L++[p]).length (strs (L++[p]))->Below base (w.alloc (.cells #[.string (strOf p)] e)) w'->(w.alloc (.cells #[.string (strOf p)] e)).grownBy w' (Value.slice A L.length c).ownBlock->wpList P ops Q rest (a.put o.dst (.slice A' (L++[p]).length c')) w'):
  wpList P ops Q (o::rest) a (w.alloc (.cells #[.string (strOf p)] e)):=by
 refine wpList_append_own _ hgd s x t ho base e i (.string ⟨#[]⟩) 1 16 ht hi hz hsize hby rfl (by decide) _ _ _ hs (hown.alloc _) ⟨w.heap.size,0,none⟩ 1 1 [.string (strOf p)] hx rfl ?_ ?_ (by unfold maxLen; omega) (by omega) (by simp; omega) ?_
 ·intro j u hj
  match j,hj with
  |0,hj=>simp at hj; subst hj; simp[Addr.add]
 ·intro u hu; simp at hu; subst hu; rfl
 ·intro v' w' hown' hg _
  have e1:(L++[p]).length=L.length+1:=by simp
  have e2:strs (L++[p])=strs L++[.string (strOf p)]:=by simp[strs]
  have hb:Below base (w.alloc (.cells #[.string (strOf p)] e)) w':=(Below.refl _ _).grown hg (by simp; omega) (λk hk=>(hown.lt k hk).1)
  rw[<-e2,<-e1]at hown'
  rcases hown'.2 with⟨h1,h2⟩|⟨g,cap,cur,hv,hr⟩
  ·simp at h2
  ·subst hv
   exact h _ _ _ hown' hb hg
theorem iW (w:World) (v:Value) (n:Nat) (h:aV .u64 b64 w v n) {j:Nat} (hj:Bd j n) (cQ:j<=100000000):Calls Tryz.prog 60 #[v] w (eC w (.string (strOf (bG n)))):=by
 have HL:=bx (AJ hj)
 have HB:=bx hj
 clear hj
 go_enter Tryz.func60,Tryz.ntmps60
 go_wp2_with fail
 go_loopw [0,3] (λs0 s3 wr=>∃(m:Nat) (P:List (List Nat)) (A:Option Addr) (c:Nat),aV .u64 b64 wr s0 m/\s3=.slice A P.length c/\wr.ownsRow w.heap.size 9 1 (.slice A P.length c) P.length (strs P)/\Below w.heap.size w wr/\Bx (bt n=bt m++cO P)/\Bx (∀p∈P,p≠[]/\Wf 256 p)/\Bx (Bd j m)) (λs0 _ wr=>numOf wr s0)
 case atStart=>exact⟨n,[],none,0,h,rfl,World.ownsRow_nil _ _ _ _,Below.refl _ _,bx (by simp[cO]),bx (by simp),HB⟩
 case round=>
  clear h HB
  obtain⟨m,P,A,c,hm,rfl,hown,hb,HD,HP,HB⟩:=hrel
  have Tl:P.length<=100000000:=by
   have h1:=xN (λp hp=>(HP.out p hp).1)
   have h2:(bt n).length<=j:=HL.out
   rw[HD.out,List.length_append]at h2
   omega
  rcases Nat.eq_zero_or_pos m with rfl|hm0
  ·obtain⟨A0,c0,rfl,hr⟩:=id hm
   rw[aX]at hr ⊢
   have RR:=HL
   have sU:Bx (bt n=cO P):=bx (by rw[HD.out,iI,List.nil_append])
   clear HD HB hm hr
   by_cases N0:P=[]
   ·subst N0
    have ze:n=0:=by
     rcases Nat.eq_zero_or_pos n with h|h
     ·exact h
     ·have:=jg h
      rw[sU.out]at this
      simp[cO]at this
    subst ze
    rw[zW]
    go_wp2
    go_ret
    exact⟨rfl,hb⟩
   ·have ze:0<n:=by
     rcases Nat.eq_zero_or_pos n with h|h
     ·exfalso
      have h1:=xN (λp hp=>(HP.out p hp).1)
      have h2:=List.length_pos_iff.2 N0
      rw[<-sU.out,h,iI]at h1
      have h3:P.length<=0:=h1
      omega
     ·exact h
    have HT:=bx (Dc ze)
    have hp1:(1:Int)<=(P.length:Int):=by have:=List.length_pos_iff.2 N0; omega
    have hpe:((P.length:Int)==0)=false:=beq_eq_false_iff_ne.2 (by omega)
    have Ck:Wf 256 (cO P):=by rw[<-sU.out]; exact uv _
    have hlf:(cO P).length<=100000000:=by
     have h2:(bt n).length<=j:=HL.out
     rw[sU.out]at h2; omega
    clear N0 ze
    have SA:=bx hlf
    have HW2:=bx Ck
    clear hlf Ck
    go_wp2_with fail
    have Mp:=Lib.fresh_isBuilder 135 5 wr
    have D6:Below wr.heap.size wr (wr.alloc (.cells #[.pointer none,.slice none 0 0] 135)):=Below.alloc (Below.refl _ _) (Nat.le_refl _) _
    generalize wr.alloc (.cells #[.pointer none,.slice none 0 0] 135)=wb at *
    obtain⟨wo,rfl⟩:∃wo:World,wo=wr:=⟨_,rfl⟩
    go_loopw [8] (λs8 wx=>∃k:Nat,k<=P.length/\s8=.int .i64 ((k:Int)-1)/\Lib.IsBuilder 135 5 wo.heap.size wo.heap.size (fA (cO (P.drop k))) wx/\Below wo.heap.size wo wx) (λs8 _=>(intOf s8+1).toNat)
    case atStart=>exact⟨P.length,Nat.le_refl _,rfl,by rw[List.drop_length]; exact Mp,D6⟩
    case round=>
     clear Mp D6
     obtain⟨k,hk,rfl,hib,Ms⟩:=hrel
     rcases Nat.eq_zero_or_pos k with rfl|hpos
     ·rw[show(((0:Nat):Int)-1) = -1 by omega]
      rw[List.drop_zero]at hib
      go_wp2_with fail
      refine Calls.mono (Tryz.Builder_String_any wo.heap.size wo.heap.size ((cO P).map UInt8.ofNat) wr hib Ms.size) ?_
      rintro e wf ⟨rfl,N4⟩
      go_wp2
      go_ret
      rw[HT.out,sU.out]
      exact⟨rfl,hb.trans ((Ms.trans N4).mono hb.size)⟩
     ·obtain⟨i,rfl⟩:∃i,k=i+1:=⟨k-1,by omega⟩
      rw[show(((i+1:Nat):Int)-1)=(i:Int) by omega]
      obtain⟨p,hp⟩:∃p,P[i]?=some p:=⟨P[i]'(by omega),List.getElem?_eq_getElem (by omega)⟩
      obtain⟨g,rfl,PR,hg2,hg3,PE⟩:=Da hown hp
      have Mv:wr.cell? ⟨g,0+i,none⟩=some (.string (strOf p)):=by rw[Ms.cell PR]; exact PE
      rw[Nat.zero_add]at Mv
      have PO:=yU hp
      have Lo:=qI P i
      have Rm:=bx (pA wo.heap.size wo.heap.size (fA (cO (P.drop (i+1)))) (strOf p) wr hib (by
       rw[sB,bM]
       rw[PO,List.length_append]at Lo
       have:=SA.out
       omega) Ms.size)
      have Sw:=bx (show fA (cO (P.drop (i+1)))++Lib.strCells (strOf p)=fA (cO (P.drop i)) by rw[uk,PO,sA])
      have PZ:(0:Int)<=(i:Int):=by omega
      have P0:(i:Int)<(P.length:Int):=by omega
      clear PE PO Lo hp
      go_wp2_with fail
      refine Calls.mono Rm.out ?_
      rintro e wy ⟨rfl,hby,hbz⟩
      rw[Sw.out]at hby
      clear Rm Mv
      go_wp2
      go_roundw
      case rel=>
       have TB:(Value.int .i64 (i:Int):Value)=.int .i64 (i:Int):=rfl
       (repeat apply Exists.intro)
       exact⟨⟨i,by omega,by go_num,.inr hby,Ms.trans hbz⟩,rfl⟩
      case measure=>simp[intOf]
  ·have MP:0<(ae b64 m).length:=(ax (n:=m) af).2 hm0
   have uF:(1:Int)<=((ae b64 m).length:Int):=by omega
   have hc:=oA wr _ m 10000000000000000000 hm HB.out (by omega) (by omega) (by unfold b64; omega)
   obtain⟨q,hq⟩:∃q,q=m/10000000000000000000:=⟨_,rfl⟩
   obtain⟨r,hr⟩:∃r,r=m%10000000000000000000:=⟨_,rfl⟩
   have Il:=bx (show r<10000000000000000000 by omega)
   have NR:=bx (show q=0->r=m by omega)
   have HQ:=bx (show q<m by omega)
   have SF:=bx (show q<=m by omega)
   rw[<-hq,<-hr,show(((10000000000000000000:Nat):Int))=10000000000000000000 from rfl]at hc
   have Oj:Bx (0<q->bt m=bt q++mB 19 (bt r)):=bx (λh=>by
    have:=yN 19 m
    rw[show(10:Nat)^19=10000000000000000000 by decide,<-hq,<-hr]at this
    exact this h)
   clear hq hr
   obtain⟨A0,c0,rfl,hr⟩:=id hm
   have HM:=bx hm0
   have HC:=bx hc
   clear hm0 hc hr
   go_wp2_with fail
   refine Calls.mono HC.out ?_
   rintro e w1 ⟨l1,c1,rfl,hq,hb1⟩
   have SJ:=bx (show r<b64 by have:=Il.out; unfold b64; omega)
   go_wp2_with fail
   refine Calls.mono (wC w1 r SJ.out) ?_
   rintro e w2 ⟨rfl,hb2⟩
   have MU:=hq.below hb2
   have hb3:=(hb.trans (hb1.mono hb.size)).trans (hb2.mono (hb.trans (hb1.mono hb.size)).size)
   have uA:=hb1.trans (hb2.mono hb1.size)
   clear hq hb2
   have hdl:(bt r).length<=19:=jY (by have:=Il.out; omega)
   have TG:((bt r).length:Int)<=19:=by omega
   have hsz:=bM (bt r)
   obtain⟨_,_,Ci,_⟩:=id MU
   injection Ci with e1 e2 e3
   subst e1 e2 e3
   obtain⟨i0,hi,hz0,hz1,hz2⟩:=info_parts HO
   have AY:=hown.kept (bS uA none) (by cases A with|none=>exact .inl rfl|some a=>exact .inr (by simp[Value.ownBlock]))
   have Rg:Bx (∀g,(Value.slice A P.length c).ownBlock=some g->g≠wr.heap.size):=bx (λg hg=>by have:=(hown.lt g hg).2; omega)
   rcases Nat.eq_zero_or_pos q with rfl|MT
   ·have dJ:Bx (bt n=bt 0++cO (P++[bt r])):=bx (by
     rw[qJ,iI,List.nil_append,NR.out rfl]; exact HD.out)
    have Oa:Bx (∀p∈P++[bt r],p≠[]/\Wf 256 p):=bx (λp hp=>by
     rcases List.mem_append.1 hp with h|h
     ·exact HP.out p h
     ·simp at h
      subst h
      exact⟨List.length_pos_iff.1 (jg (by rw[NR.out rfl]; exact HM.out)),uv _⟩)
    have hbd:Bx (Bd j 0):=bx (HB.out.le (Nat.zero_le _))
    clear HC Oj NR hown
    rw[aX]
    go_wp2_with (at_builtin; refine lX rfl (.tmp 28) (.tmp 30) 127 rfl w.heap.size 9 i0 Tryz.underlying127 hi hz0 hz1 hz2 P rfl w2 AY (bt r) rfl (by omega) hb3.size ?_; intro A3 c3 w4 mS hb4 hg4)
    have hz:=((hb3.alloc hb3.size (.cells #[.string (strOf (bt r))] 9)).trans hb4)
    have IY:=(MU.below (Below.alloc (Below.refl _ _) (Nat.le_refl _) (.cells #[.string (strOf (bt r))] 9))).grown hg4 Rg.out
    rw[aX]at IY
    have IY:aV .u64 b64 w4 (.slice (some ⟨wr.heap.size,0,none⟩) 0 c1) 0:=IY
    go_wp2
    go_roundw
    case rel=>
     exact⟨0,P++[bt r],A3,c3,IY,by simp,mS,hz,dJ,Oa,hbd⟩
    case measure=>rw[IY.of_eq,hm.of_eq]; exact HM.out
   ·have Qk:(1:Int)<=((ae b64 q).length:Int):=by have:=(ax (n:=q) af).2 MT; omega
    have Kt:mB 19 (bt r)=List.replicate (19-(bt r).length) 48++bt r:=rfl
    have MO:(mB 19 (bt r)).length=19:=by rw[Kt,List.length_append,List.length_replicate]; omega
    have dJ:Bx (bt n=bt q++cO (P++[mB 19 (bt r)])):=bx (by
     rw[qJ,<-List.append_assoc,<-Oj.out MT]; exact HD.out)
    have Oa:Bx (∀p∈P++[mB 19 (bt r)],p≠[]/\Wf 256 p):=bx (λp hp=>by
     rcases List.mem_append.1 hp with h|h
     ·exact HP.out p h
     ·simp at h
      subst h
      exact⟨List.length_pos_iff.1 (by omega),Hi (uv _)⟩)
    have hbd:Bx (Bd j q):=bx (HB.out.le SF.out)
    have SE:=bx Kt
    clear MT Kt MO HC Oj NR
    have T8:(strOf (List.replicate (19-(bt r).length) 48)).size=19-(bt r).length:=by rw[bM,List.length_replicate]
    have T9:(19-(bt r).length)+(bt r).length<=9223372036854775807:=by omega
    have T7:19-(bt r).length<=19:=by omega
    go_wp2_with fail
    rw[show(19:Int)-((bt r).length:Int)=((19-(bt r).length:Nat):Int) by omega]
    refine Calls.mono (Tryz.strings_Repeat ⟨#[48]⟩ (19-(bt r).length) w2 (by omega) (by show 1*_<=_; omega)) ?_
    rw[vf]
    rintro e w3 ⟨rfl,hb4⟩
    have AZ:=AY.kept (bS hb4 none) (by cases A with|none=>exact .inl rfl|some a=>exact .inr (by simp[Value.ownBlock]))
    have Qi:=MU.below hb4
    have IJ:=hb3.trans (hb4.mono hb3.size)
    have PA:strOf (List.replicate (19-(bt r).length) 48)++strOf (bt r)=strOf (mB 19 (bt r)):=by rw[eI]; rfl
    go_wp2_with (at_builtin; refine lX rfl (.tmp 28) (.tmp 30) 127 rfl w.heap.size 9 i0 Tryz.underlying127 hi hz0 hz1 hz2 P rfl w3 AZ (mB 19 (bt r)) rfl (by omega) IJ.size ?_; intro A3 c3 w4 mS J8 hg4)
    have hz:=((IJ.alloc IJ.size (.cells #[.string (strOf (mB 19 (bt r)))] 9)).trans J8)
    have IY:=(Qi.below (Below.alloc (Below.refl _ _) (Nat.le_refl _) (.cells #[.string (strOf (mB 19 (bt r)))] 9))).grown hg4 Rg.out
    clear PA
    go_wp2
    go_roundw
    case rel=>
     exact⟨q,P++[mB 19 (bt r)],A3,c3,IY,by simp,mS,hz,dJ,Oa,hbd⟩
    case measure=>rw[IY.of_eq,hm.of_eq]; exact HQ.out
end Wx

namespace Wx
open Go Go.RowKit Go.Proofs
end Wx

namespace Wx
set_option maxRecDepth 100000
set_option maxHeartbeats 1000000
open Go Go.RowKit Go.Proofs
def gX (q:Rat):List Nat:=(if q.num<0 then[45]else[])++(bG q.num.natAbs++(if q.den=1 then[]else 47::bG q.den))
theorem fT {j n:Nat} (h:Bd j n):(bG n).length<=j+1:=by
 unfold bG
 split
 ·simp
 ·have:=AJ h; unfold LR at this; omega
theorem td (l:List Nat):(⟨#[45]⟩:ByteArray)++strOf l=strOf (45::l):=eI [45] l
theorem tf (l:List Nat):(⟨#[47]⟩:ByteArray)++strOf l=strOf (47::l):=eI [47] l
theorem Fm (w:World) (v:Value) (x:Rat) (hx:cV w v x) {j:Nat} (hj:dB j x) (cQ:j<=100000000) (hn:¬x.num<0) (hd:¬x.den=1):Calls Tryz.prog 30 #[v] w (eC w (.string (strOf (gX x)))):=by
 obtain⟨BJ,BK,rfl,je,gH⟩:=id hx
 obtain⟨cH,cJ,rfl,_⟩:=id je
 obtain⟨cI,cK,rfl,_⟩:=id gH
 have HB:=bx hj
 have hT:gX x=bG x.num.natAbs++47::bG x.den:=by unfold gX; rw[if_neg hn,if_neg hd]; simp
 rw[hT,decide_eq_false hn]at *
 rw[jZ hd]at *
 have TQ:(1:Int)<=((ae b64 x.den).length:Int):=by have:=(ax (n:=x.den) af).2 x.den_pos; omega
 have hl2:=fT hj.2
 have hz2:=bM (bG x.den)
 have Nc:=tf (bG x.den)
 have hz3:=bM (47::bG x.den)
 have Uh:=eI (bG x.num.natAbs) (47::bG x.den)
 have uF:=fT hj.1
 have hz1:=bM (bG x.num.natAbs)
 have MU:1+(bG x.den).length<=9223372036854775807:=by omega
 have Qi:(bG x.num.natAbs).length+((bG x.den).length+1)<=9223372036854775807:=by omega
 clear hj hn hd hT uF hl2
 go_enter Tryz.func30,Tryz.ntmps30
 go_wp2_with fail
 obtain⟨w1,e1,o1,b1,s1⟩:=jo w (.bool false) (.slice cH (ae b64 x.num.natAbs).length cJ) (.slice cI (ae b64 x.den).length cK) 54
 rw[e1]
 clear e1
 refine Calls.mono (iW w1 _ _ (je.below b1) HB.out.1 cQ) ?_
 rintro e w2 ⟨rfl,hb2⟩
 have k0:=(o1.gone hb2).c0
 have k1:=(o1.gone hb2).c1
 have k2:=(o1.gone hb2).c2
 have El:=(gH.below b1).below hb2
 have B2:=b1.trans (hb2.mono b1.size)
 go_wp2_with fail
 refine Calls.mono (iW w2 _ _ El HB.out.2 cQ) ?_
 rintro e w3 ⟨rfl,hb3⟩
 go_wp2
 go_ret
 exact⟨rfl,B2.trans (hb3.mono B2.size)⟩
theorem Fo (w:World) (v:Value) (x:Rat) (hx:cV w v x) {j:Nat} (hj:dB j x) (cQ:j<=100000000) (hn:¬x.num<0) (hd:x.den=1):Calls Tryz.prog 30 #[v] w (eC w (.string (strOf (gX x)))):=by
 obtain⟨BJ,BK,rfl,je,gH⟩:=id hx
 obtain⟨cH,cJ,rfl,_⟩:=id je
 obtain⟨cI,cK,rfl,_⟩:=id gH
 have HB:=bx hj
 have hT:gX x=bG x.num.natAbs:=by unfold gX; rw[if_neg hn,if_pos hd]; simp
 rw[hT,decide_eq_false hn]at *
 rw[hd,iJ,aX]at *
 have uF:=fT hj.1
 have hz1:=bM (bG x.num.natAbs)
 clear hj hn hd hT uF
 go_enter Tryz.func30,Tryz.ntmps30
 go_wp2_with fail
 obtain⟨w1,e1,o1,b1,s1⟩:=jo w (.bool false) (.slice cH (ae b64 x.num.natAbs).length cJ) (.slice cI 0 cK) 54
 rw[e1]
 clear e1
 refine Calls.mono (iW w1 _ _ (je.below b1) HB.out.1 cQ) ?_
 rintro e w2 ⟨rfl,hb2⟩
 have k0:=(o1.gone hb2).c0
 have k1:=(o1.gone hb2).c1
 have k2:=(o1.gone hb2).c2
 have El:=(gH.below b1).below hb2
 have B2:=b1.trans (hb2.mono b1.size)
 go_wp2
 go_ret
 exact⟨rfl,B2⟩
theorem Fp (w:World) (v:Value) (x:Rat) (hx:cV w v x) {j:Nat} (hj:dB j x) (cQ:j<=100000000) (hn:x.num<0) (hd:¬x.den=1):Calls Tryz.prog 30 #[v] w (eC w (.string (strOf (gX x)))):=by
 obtain⟨BJ,BK,rfl,je,gH⟩:=id hx
 obtain⟨cH,cJ,rfl,_⟩:=id je
 obtain⟨cI,cK,rfl,_⟩:=id gH
 have HB:=bx hj
 have hT:gX x=45::(bG x.num.natAbs++47::bG x.den):=by unfold gX; rw[if_pos hn,if_neg hd]; simp
 rw[hT,decide_eq_true hn]at *
 rw[jZ hd]at *
 have TQ:(1:Int)<=((ae b64 x.den).length:Int):=by have:=(ax (n:=x.den) af).2 x.den_pos; omega
 have hl2:=fT hj.2
 have hz2:=bM (bG x.den)
 have Nc:=tf (bG x.den)
 have hz3:=bM (47::bG x.den)
 have sy:=td (bG x.num.natAbs)
 have Uk:=bM (45::bG x.num.natAbs)
 have Uh:=eI (45::bG x.num.natAbs) (47::bG x.den)
 have uF:=fT hj.1
 have hz1:=bM (bG x.num.natAbs)
 have hq1:1+(bG x.num.natAbs).length<=9223372036854775807:=by omega
 have MU:1+(bG x.den).length<=9223372036854775807:=by omega
 have Qi:((bG x.num.natAbs).length+1)+((bG x.den).length+1)<=9223372036854775807:=by omega
 clear hj hn hd hT uF hl2
 go_enter Tryz.func30,Tryz.ntmps30
 go_wp2_with fail
 obtain⟨w1,e1,o1,b1,s1⟩:=jo w (.bool true) (.slice cH (ae b64 x.num.natAbs).length cJ) (.slice cI (ae b64 x.den).length cK) 54
 rw[e1]
 clear e1
 refine Calls.mono (iW w1 _ _ (je.below b1) HB.out.1 cQ) ?_
 rintro e w2 ⟨rfl,hb2⟩
 have k0:=(o1.gone hb2).c0
 have k1:=(o1.gone hb2).c1
 have k2:=(o1.gone hb2).c2
 have El:=(gH.below b1).below hb2
 have B2:=b1.trans (hb2.mono b1.size)
 go_wp2_with fail
 refine Calls.mono (iW w2 _ _ El HB.out.2 cQ) ?_
 rintro e w3 ⟨rfl,hb3⟩
 go_wp2
 go_ret
 exact⟨rfl,B2.trans (hb3.mono B2.size)⟩
theorem Fq (w:World) (v:Value) (x:Rat) (hx:cV w v x) {j:Nat} (hj:dB j x) (cQ:j<=100000000) (hn:x.num<0) (hd:x.den=1):Calls Tryz.prog 30 #[v] w (eC w (.string (strOf (gX x)))):=by
 obtain⟨BJ,BK,rfl,je,gH⟩:=id hx
 obtain⟨cH,cJ,rfl,_⟩:=id je
 obtain⟨cI,cK,rfl,_⟩:=id gH
 have HB:=bx hj
 have hT:gX x=45::bG x.num.natAbs:=by unfold gX; rw[if_pos hn,if_pos hd]; simp
 rw[hT,decide_eq_true hn]at *
 rw[hd,iJ,aX]at *
 have sy:=td (bG x.num.natAbs)
 have Uk:=bM (45::bG x.num.natAbs)
 have uF:=fT hj.1
 have hz1:=bM (bG x.num.natAbs)
 have hq1:1+(bG x.num.natAbs).length<=9223372036854775807:=by omega
 clear hj hn hd hT uF
 go_enter Tryz.func30,Tryz.ntmps30
 go_wp2_with fail
 obtain⟨w1,e1,o1,b1,s1⟩:=jo w (.bool true) (.slice cH (ae b64 x.num.natAbs).length cJ) (.slice cI 0 cK) 54
 rw[e1]
 clear e1
 refine Calls.mono (iW w1 _ _ (je.below b1) HB.out.1 cQ) ?_
 rintro e w2 ⟨rfl,hb2⟩
 have k0:=(o1.gone hb2).c0
 have k1:=(o1.gone hb2).c1
 have k2:=(o1.gone hb2).c2
 have El:=(gH.below b1).below hb2
 have B2:=b1.trans (hb2.mono b1.size)
 go_wp2
 go_ret
 exact⟨rfl,B2⟩
theorem CY (w:World) (v:Value) (x:Rat) (hx:cV w v x) {j:Nat} (hj:dB j x) (cQ:j<=100000000):Calls Tryz.prog 30 #[v] w (eC w (.string (strOf (gX x)))):=by
 by_cases hn:x.num<0
 ·by_cases hd:x.den=1
  ·exact Fq w v x hx hj cQ hn hd
  ·exact Fp w v x hx hj cQ hn hd
 ·by_cases hd:x.den=1
  ·exact Fo w v x hx hj cQ hn hd
  ·exact Fm w v x hx hj cQ hn hd
end Wx

namespace Wx
open Go Go.RowKit Go.Proofs
end Wx

namespace Wx
open Go Go.RowKit Go.Proofs
end Wx

namespace Wx
open Go Go.RowKit Go.Proofs
variable {x y:Rat} {j k:Nat}
theorem JQ (hx:dB j x) (hy:dB k y) (h:j+k+j+k+1<=10000000):∀w v1 v2,dz x w v1->dz y w v2->Calls Tryz.prog 66 #[v1,v2] w (eJ (dz (x-y)) w):=
 λw v1 v2 h1 h2=>xE w v1 v2 x y h1 h2 hx hy h
theorem JP (hx:dB j x) (hy:dB k y) (h:j+k<=10000000):∀w v1 v2,dz x w v1->dz y w v2->Calls Tryz.prog 39 #[v1,v2] w (eJ (dz (x*y)) w):=
 λw v1 v2 h1 h2=>EG w v1 v2 x y h1 h2 hx hy h
theorem JN (hx:dB j x) (hy:dB k y) (h:j+k+j+k+1<=10000000):∀w v1 v2,dz x w v1->dz y w v2->Calls Tryz.prog 41 #[v1,v2] w (eJ (pI (lJ x y)) w):=
 λw v1 v2 h1 h2=>(ED w v1 v2 x y h1 h2 hx hy h).mono λ_ _=>vm
theorem JO (n:Int) (h1:-9223372036854775808<=n) (h2:n<=9223372036854775807):∀w v1,pI n w v1->Calls Tryz.prog 34 #[v1] w (eJ (dz (n:Rat)) w):=λw v1 h=>by
 have h:v1=.int .i64 n:=h
 rw[h]
 exact EF w n h1 h2
end Wx

namespace Wx
open Go Go.RowKit Go.Proofs
end Wx

namespace Wx
open Go Go.RowKit Go.Proofs
variable {x y:Rat} {j k:Nat}
theorem I5 (h:j+k<=4000000):∀w v1 v2,pN j x w v1->pN k y w v2->Calls Tryz.prog 66 #[v1,v2] w (eJ (pN (j+k+1) (x-y)) w):=λw v1 v2 h1 h2=>(JQ h1.1 h2.1 (by omega) w v1 v2 h1.2 h2.2).mono λ_ _=>eJ.map (tP (h1.1.QZ h2.1))
theorem I4 (h:j+k<=10000000):∀w v1 v2,pN j x w v1->pN k y w v2->Calls Tryz.prog 39 #[v1,v2] w (eJ (pN (j+k) (x*y)) w):=λw v1 v2 h1 h2=>(JP h1.1 h2.1 h w v1 v2 h1.2 h2.2).mono λ_ _=>eJ.map (tP (h1.1.mul h2.1))
theorem Np (h:j+k<=4000000):∀w v1 v2,pN j x w v1->pN k y w v2->Calls Tryz.prog 41 #[v1,v2] w (eJ (pI (lJ x y)) w):=λw v1 v2 h1 h2=>JN h1.1 h2.1 (by omega) w v1 v2 h1.2 h2.2
theorem tH {n:Int} (h:-9223372036854775808<=n/\n<=9223372036854775807):∀w v1,pI n w v1->Calls Tryz.prog 34 #[v1] w (eJ (pN 64 (n:Rat)) w):=λw v1 h1=>(JO n h.1 h.2 w v1 h1).mono λ_ _=>eJ.map (tP (Av h.1 h.2))
end Wx
