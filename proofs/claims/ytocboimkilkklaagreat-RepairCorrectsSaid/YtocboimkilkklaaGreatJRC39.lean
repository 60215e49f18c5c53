import Derived.Lib.Repeat
import Derived.Test.YtocboimkilkklaaGreatJRC38
namespace Wx
set_option maxRecDepth 100000
set_option maxHeartbeats 1000000
open Go Go.RowKit Go.Proofs
def oK (k:Nat) (s:List Nat):List Nat:=List.replicate (k-s.length) 48++s
def aH (n:Nat):List Nat:=if n=0 then[48]else bJ n
theorem yc (n:Nat):Wf 256 (bJ n):=by
 intro x hx
 unfold bJ at hx
 rw[List.mem_reverse,List.mem_map]at hx
 obtain⟨y,hy,rfl⟩:=hx
 have:=bF (b:=10) (by omega) n y hy
 omega
theorem BQ (k:Nat):∀m,0<m/10^k->bJ m=bJ (m/10^k)++oK k (bJ (m%10^k)):=by
 induction k with
 |zero=>intro m _; simp[oK,Nat.mod_one,iY]
 |succ k ih=>
  intro m h
  have hm:0<m:=by
   rcases Nat.eq_zero_or_pos m with rfl|h'
   ·simp at h
   ·exact h'
  have e1:m/10/10^k=m/10^(k+1):=by rw[Nat.div_div_eq_div_mul,Nat.pow_succ,Nat.mul_comm]
  have e2:m%10^(k+1)/10=m/10%10^k:=by rw[Nat.pow_succ,Nat.mul_comm,Nat.mod_mul_right_div_self]
  have e3:m%10^(k+1)%10=m%10:=by
   rw[Nat.pow_succ,Nat.mul_comm]; exact Nat.mod_mul_right_mod _ _ _
  rw[mD hm,ih (m/10) (by rw[e1]; exact h),e1,List.append_assoc]
  congr 1
  rcases Nat.eq_zero_or_pos (m%10^(k+1))with h0|h0
  ·rw[h0]at e2 e3 ⊢
   rw[<-e2,<-e3]
   simp[oK,iY,<-List.replicate_succ']
  ·rw[mD h0,e2,e3]
   unfold oK
   rw[List.length_append,List.length_singleton,List.append_assoc]
   congr 2
   omega
variable {k:Nat}
theorem LH {s:List Nat} (h:Wf 256 s):Wf 256 (oK k s):=by
 intro x hx
 rcases List.mem_append.1 hx with h'|h'
 ·have:=(List.mem_replicate.1 h').2; omega
 ·exact h x h'
theorem cw (a b:List Nat):strOf a++strOf b=strOf (a++b):=by
 apply ByteArray.ext
 rw[ByteArray.data_append]
 simp[strOf]
def strs (P:List (List Nat)):List Value:=P.map λp=>Value.string (strOf p)
def dY (P:List (List Nat)):List Nat:=P.reverse.flatten
variable {P:List (List Nat)}
theorem B4 {p:List Nat} (h:P[k]?=some p):dY (P.drop k)=dY (P.drop (k+1))++p:=by
 obtain⟨hk,e⟩:=List.getElem?_eq_some_iff.1 h
 rw[List.drop_eq_getElem_cons hk,e]
 simp[dY]
theorem tK (P:List (List Nat)) (k:Nat):(dY (P.drop k)).length<=(dY P).length:=by
 have h:dY P=dY (P.drop k)++dY (P.take k):=by
  unfold dY
  rw[<-List.flatten_append,<-List.reverse_append,List.take_append_drop]
 rw[h,List.length_append]; omega
def iA (l:List Nat):List Value:=Lib.byteCells (l.map UInt8.ofNat)
theorem xQ (p:List Nat):Lib.strCells (strOf p)=iA p:=by
 rw[Lib.strCells_eq]; simp[strOf,iA]
theorem vz (a b:List Nat):iA (a++b)=iA a++iA b:=by
 unfold iA; rw[List.map_append,Lib.byteCells_append]
theorem vB (a:List Nat):(iA a).length=a.length:=by
 unfold iA; rw[Lib.byteCells_length,List.length_map]
variable {w:World} {c:Nat}
theorem Gj {base:Nat} {e:TypeId} {A:Option Addr} (h:w.ownsRow base e 1 (.slice A P.length c) P.length (strs P)) {k:Nat} {p:List Nat} (hk:P[k]?=some p):
  ∃g,A=some ⟨g,0,none⟩/\g<w.heap.size/\P.length<=c/\c<=maxLen/\w.cell? ⟨g,0+k,none⟩=some (.string (strOf p)):=by
 obtain⟨hk',_⟩:=List.getElem?_eq_some_iff.1 hk
 rcases h.2 with⟨h1,h2⟩|⟨g,cap,cur,hv,hb,hg,hn,hm,hs,ht⟩
 ·omega
 ·injection hv with e1 e2 e3
  subst e1 e3
  have:=h.cells (g:=g) rfl k (.string (strOf p)) (by simp[strs,hk])
  rw[show(⟨g,0,none⟩:Addr).add k=⟨g,0+k,none⟩ by simp[Addr.add]; omega]at this
  refine⟨g,rfl,?_,hn,hm,this⟩
  rcases Nat.lt_or_ge g w.heap.size with h'|h'
  ·exact h'
  ·simp[Array.getElem?_eq_none h']at hg
theorem tL (P:List (List Nat)) (p:List Nat):dY (P++[p])=p++dY P:=by simp[dY]
theorem yR (c:Nat):(⟨(Lib.repeatL (⟨#[48]⟩:ByteArray).data.toList c).toArray⟩:ByteArray)=strOf (List.replicate c 48):=by
 have:∀c,Lib.repeatL [48] c=List.replicate c 48:=by
  intro c
  induction c with
  |zero=>rfl
  |succ c ih=>unfold Lib.repeatL; rw[ih]; rfl
 show(⟨(Lib.repeatL [48] c).toArray⟩:ByteArray)=_
 rw[this]
 simp[strOf]
theorem AX (h:∀p∈P,p≠[]):P.length<=(dY P).length:=by
 unfold dY
 induction P with
 |nil=>simp
 |cons p P ih=>
  have h1:=ih (λq hq=>h q (List.mem_cons_of_mem _ hq))
  have h2:=List.length_pos_iff.2 (h p (by simp))
  simp at h1 ⊢
  omega
theorem LX:(Tryz.prog.info? 9).map (λi=>(i.zero,i.size,i.bytes))=some (some (.string ⟨#[]⟩),1,16):=by kernel_rfl
def Qb (j n:Nat):Prop:=(bJ n).length<=j
variable {n:Nat}
theorem yf {j:Nat} (h:Bd j n):Qb j n:=mC (Nat.lt_of_lt_of_le h (Nat.pow_le_pow_left (by omega) j))
theorem uX:aH 0=[48]:=rfl
theorem xD (h:0<n):aH n=bJ n:=by unfold aH; rw[if_neg (by omega)]
theorem bt.grown {k:IntKind} {bs:Nat} {w':World} {b l:Nat} {row:Option Nat} (h:bt k bs w (.slice (some ⟨b,0,none⟩) l c) n) (hg:w.grownBy w' row) (hne:∀g,row=some g->g≠b):bt k bs w' (.slice (some ⟨b,0,none⟩) l c) n:=by
 obtain⟨A,c',e,h1,h2,h3⟩:=h
 refine⟨A,c',e,h1,h2,λhl=>?_⟩
 obtain⟨b',o,e',hc⟩:=h3 hl
 refine⟨b',o,e',λi hi=>?_⟩
 subst e'
 injection e with e1 e2 e3
 injection e1 with e1
 injection e1 with e4 e5
 subst e4
 exact hg.cell (hc i hi) (λe=>hne _ e.symm rfl)
theorem od {P:Program} {ops:Array Oper} {rest:List Oper} {o:Oper} {a:Act} {Q:Exit->Act->World->Prop} (hgd:o.guard=none) (s x:Operand) (t:TypeId)
  (ho:o.op=.call { callee:=.builtin .append,args:=#[s,x],argTypes:=#[t,t] }) (base:Nat) (e:TypeId) (i:TypeInfo) (ht:P.underlying t=some (.slice e)) (hi:P.info? e=some i) (hz:i.zero=some (.string ⟨#[]⟩))
  (hsize:i.size=1) (hby:i.bytes=16) {A:Option Addr} {c:Nat} (L:List (List Nat)) (hs:a.eval s=.slice A L.length c) (w:World) (hown:w.ownsRow base e 1 (.slice A L.length c) L.length (strs L))
  (p:List Nat) (hx:a.eval x=.slice (some ⟨w.heap.size,0,none⟩) 1 1) (hL:L.length<=1000000000) (hbase:base<=w.heap.size)
  (h:∀A' c' w',w'.ownsRow base e 1 (.slice A' (L++[p]).length c') (L++[p]).length (strs (L++[p]))->Below base (w.alloc (.cells #[.string (strOf p)] e)) w'->(w.alloc (.cells #[.string (strOf p)] e)).grownBy w' (Value.slice A L.length c).ownBlock->wpList P ops Q rest (a.put o.dst (.slice A' (L++[p]).length c')) w'):
  wpList P ops Q (o::rest) a (w.alloc (.cells #[.string (strOf p)] e)):=by
 refine wpList_append_own _ hgd s x t ho base e i (.string ⟨#[]⟩) 1 16 ht hi hz hsize hby rfl (by decide) _ _ _ hs (hown.alloc _) ⟨w.heap.size,0,none⟩ 1 1 [.string (strOf p)] hx rfl ?_ ?_ (by unfold maxLen; omega) (by omega) (by simp; omega) ?_
 ·intro j u hj
  match j,hj with
  |0,hj=>simp at hj; subst hj; simp[Addr.add]
 ·intro u hu; simp at hu; subst hu; rfl
 ·intro v' w' hown' hg _
  have e1:(L++[p]).length=L.length+1:=by simp
  have e2:strs (L++[p])=strs L++[.string (strOf p)]:=by simp[strs]
  have hb:Below base (w.alloc (.cells #[.string (strOf p)] e)) w':=(Below.refl _ _).grown hg (by simp; omega) (λk hk=>(hown.lt k hk).1)
  rw[<-e2,<-e1]at hown'
  rcases hown'.2 with⟨h1,h2⟩|⟨g,cap,cur,hv,hr⟩
  ·simp at h2
  ·subst hv
   exact h _ _ _ hown' hb hg
theorem kS (w:World) (v:Value) (n:Nat) (h:bt .u64 b64 w v n) {j:Nat} (hj:Bd j n) (cM:j<=100000000):Calls Tryz.prog 66 #[v] w (dA w (.string (strOf (aH n)))):=by
 have HL:=bx (yf hj)
 have HB:=bx hj
 clear hj
 go_enter Tryz.func66,Tryz.ntmps66
 go_wp2_with fail
 go_loopw [0,3] (λs0 s3 wr=>∃(m:Nat) (P:List (List Nat)) (A:Option Addr) (c:Nat),bt .u64 b64 wr s0 m/\s3=.slice A P.length c/\wr.ownsRow w.heap.size 9 1 (.slice A P.length c) P.length (strs P)/\Below w.heap.size w wr/\Bx (bJ n=bJ m++dY P)/\Bx (∀p∈P,p≠[]/\Wf 256 p)/\Bx (Bd j m)) (λs0 _ wr=>numOf wr s0)
 case atStart=>exact⟨n,[],none,0,h,rfl,World.ownsRow_nil _ _ _ _,Below.refl _ _,bx (by simp[dY]),bx (by simp),HB⟩
 case round=>
  clear h HB
  obtain⟨m,P,A,c,hm,rfl,hown,hb,HD,HP,HB⟩:=hrel
  have Yf:P.length<=100000000:=by
   have h1:=AX (λp hp=>(HP.out p hp).1)
   have h2:(bJ n).length<=j:=HL.out
   rw[HD.out,List.length_append]at h2
   omega
  rcases Nat.eq_zero_or_pos m with rfl|hm0
  ·obtain⟨A0,c0,rfl,hr⟩:=id hm
   rw[bk]at hr ⊢
   have UM:=HL
   have wg:Bx (bJ n=dY P):=bx (by rw[HD.out,iY,List.nil_append])
   clear HD HB hm hr
   by_cases Sz:P=[]
   ·subst Sz
    have wT:n=0:=by
     rcases Nat.eq_zero_or_pos n with h|h
     ·exact h
     ·have:=lj h
      rw[wg.out]at this
      simp[dY]at this
    subst wT
    rw[uX]
    go_wp2
    go_ret
    exact⟨rfl,hb⟩
   ·have wT:0<n:=by
     rcases Nat.eq_zero_or_pos n with h|h
     ·exfalso
      have h1:=AX (λp hp=>(HP.out p hp).1)
      have h2:=List.length_pos_iff.2 Sz
      rw[<-wg.out,h,iY]at h1
      have h3:P.length<=0:=h1
      omega
     ·exact h
    have HT:=bx (xD wT)
    have hp1:(1:Int)<=(P.length:Int):=by have:=List.length_pos_iff.2 Sz; omega
    have hpe:((P.length:Int)==0)=false:=beq_eq_false_iff_ne.2 (by omega)
    have Fg:Wf 256 (dY P):=by rw[<-wg.out]; exact yc _
    have hlf:(dY P).length<=100000000:=by
     have h2:(bJ n).length<=j:=HL.out
     rw[wg.out]at h2; omega
    clear Sz wT
    have Xv:=bx hlf
    have HW2:=bx Fg
    clear hlf Fg
    go_wp2_with fail
    have QG:=Lib.fresh_isBuilder 152 5 wr
    have Hx:Below wr.heap.size wr (wr.alloc (.cells #[.pointer none,.slice none 0 0] 152)):=Below.alloc (Below.refl _ _) (Nat.le_refl _) _
    generalize wr.alloc (.cells #[.pointer none,.slice none 0 0] 152)=wb at *
    obtain⟨wo,rfl⟩:∃wo:World,wo=wr:=⟨_,rfl⟩
    go_loopw [8] (λs8 wx=>∃k:Nat,k<=P.length/\s8=.int .i64 ((k:Int)-1)/\Lib.IsBuilder 152 5 wo.heap.size wo.heap.size (iA (dY (P.drop k))) wx/\Below wo.heap.size wo wx) (λs8 _=>(intOf s8+1).toNat)
    case atStart=>exact⟨P.length,Nat.le_refl _,rfl,by rw[List.drop_length]; exact QG,Hx⟩
    case round=>
     clear QG Hx
     obtain⟨k,hk,rfl,hib,QJ⟩:=hrel
     rcases Nat.eq_zero_or_pos k with rfl|hpos
     ·rw[show(((0:Nat):Int)-1) = -1 by omega]
      rw[List.drop_zero]at hib
      go_wp2_with fail
      refine Calls.mono (Tryz.Builder_String_any wo.heap.size wo.heap.size ((dY P).map UInt8.ofNat) wr hib QJ.size) ?_
      rintro e wf ⟨rfl,SC⟩
      go_wp2
      go_ret
      rw[HT.out,wg.out]
      exact⟨rfl,hb.trans ((QJ.trans SC).mono hb.size)⟩
     ·obtain⟨i,rfl⟩:∃i,k=i+1:=⟨k-1,by omega⟩
      rw[show(((i+1:Nat):Int)-1)=(i:Int) by omega]
      obtain⟨p,hp⟩:∃p,P[i]?=some p:=⟨P[i]'(by omega),List.getElem?_eq_getElem (by omega)⟩
      obtain⟨g,rfl,UC,hg2,hg3,Uq⟩:=Gj hown hp
      have QM:wr.cell? ⟨g,0+i,none⟩=some (.string (strOf p)):=by rw[QJ.cell UC]; exact Uq
      rw[Nat.zero_add]at QM
      have UB:=B4 hp
      have MG:=tK P i
      have Wb:=bx (rZ wo.heap.size wo.heap.size (iA (dY (P.drop (i+1)))) (strOf p) wr hib (by
       rw[vB,aR]
       rw[UB,List.length_append]at MG
       have:=Xv.out
       omega) QJ.size)
      have Xr:=bx (show iA (dY (P.drop (i+1)))++Lib.strCells (strOf p)=iA (dY (P.drop i)) by rw[xQ,UB,vz])
      have UK:(0:Int)<=(i:Int):=by omega
      have UL:(i:Int)<(P.length:Int):=by omega
      clear Uq UB MG hp
      go_wp2_with fail
      refine Calls.mono Wb.out ?_
      rintro e wy ⟨rfl,hby,hbz⟩
      rw[Xr.out]at hby
      clear Wb QM
      go_wp2
      go_roundw
      case rel=>
       have Yw:(Value.int .i64 (i:Int):Value)=.int .i64 (i:Int):=rfl
       (repeat apply Exists.intro)
       exact⟨⟨i,by omega,by go_num,.inr hby,QJ.trans hbz⟩,rfl⟩
      case measure=>simp[intOf]
  ·have MH:0<(ae b64 m).length:=(av (n:=m) ai).2 hm0
   have qy:(1:Int)<=((ae b64 m).length:Int):=by omega
   have hc:=qW wr _ m 10000000000000000000 hm HB.out (by omega) (by omega) (by unfold b64; omega)
   obtain⟨q,hq⟩:∃q,q=m/10000000000000000000:=⟨_,rfl⟩
   obtain⟨r,hr⟩:∃r,r=m%10000000000000000000:=⟨_,rfl⟩
   have Mh:=bx (show r<10000000000000000000 by omega)
   have Mi:=bx (show q=0->r=m by omega)
   have HQ:=bx (show q<m by omega)
   have XA:=bx (show q<=m by omega)
   rw[<-hq,<-hr,show(((10000000000000000000:Nat):Int))=10000000000000000000 from rfl]at hc
   have S2:Bx (0<q->bJ m=bJ q++oK 19 (bJ r)):=bx (λh=>by
    have:=BQ 19 m
    rw[show(10:Nat)^19=10000000000000000000 by decide,<-hq,<-hr]at this
    exact this h)
   clear hq hr
   obtain⟨A0,c0,rfl,hr⟩:=id hm
   have HM:=bx hm0
   have HC:=bx hc
   clear hm0 hc hr
   go_wp2_with fail
   refine Calls.mono HC.out ?_
   rintro e w1 ⟨l1,c1,rfl,hq,hb1⟩
   have XE:=bx (show r<b64 by have:=Mh.out; unfold b64; omega)
   go_wp2_with fail
   refine Calls.mono (zM w1 r XE.out) ?_
   rintro e w2 ⟨rfl,hb2⟩
   have Ou:=hq.below hb2
   have hb3:=(hb.trans (hb1.mono hb.size)).trans (hb2.mono (hb.trans (hb1.mono hb.size)).size)
   have yo:=hb1.trans (hb2.mono hb1.size)
   clear hq hb2
   have hdl:(bJ r).length<=19:=mC (by have:=Mh.out; omega)
   have YB:((bJ r).length:Int)<=19:=by omega
   have hsz:=aR (bJ r)
   obtain⟨_,_,vP,_⟩:=id Ou
   injection vP with e1 e2 e3
   subst e1 e2 e3
   obtain⟨i0,hi,hz0,hz1,hz2⟩:=info_parts LX
   have DL:=hown.kept (cL yo none) (by cases A with|none=>exact .inl rfl|some a=>exact .inr (by simp[Value.ownBlock]))
   have V5:Bx (∀g,(Value.slice A P.length c).ownBlock=some g->g≠wr.heap.size):=bx (λg hg=>by have:=(hown.lt g hg).2; omega)
   rcases Nat.eq_zero_or_pos q with rfl|Rf
   ·have eL:Bx (bJ n=bJ 0++dY (P++[bJ r])):=bx (by
     rw[tL,iY,List.nil_append,Mi.out rfl]; exact HD.out)
    have SI:Bx (∀p∈P++[bJ r],p≠[]/\Wf 256 p):=bx (λp hp=>by
     rcases List.mem_append.1 hp with h|h
     ·exact HP.out p h
     ·simp at h
      subst h
      exact⟨List.length_pos_iff.1 (lj (by rw[Mi.out rfl]; exact HM.out)),yc _⟩)
    have hbd:Bx (Bd j 0):=bx (HB.out.le (Nat.zero_le _))
    clear HC S2 Mi hown
    rw[bk]
    go_wp2_with (at_builtin; refine od rfl (.tmp 28) (.tmp 30) 144 rfl w.heap.size 9 i0 Tryz.underlying144 hi hz0 hz1 hz2 P rfl w2 DL (bJ r) rfl (by omega) hb3.size ?_; intro A3 c3 w4 pE hb4 hg4)
    have hz:=((hb3.alloc hb3.size (.cells #[.string (strOf (bJ r))] 9)).trans hb4)
    have J4:=(Ou.below (Below.alloc (Below.refl _ _) (Nat.le_refl _) (.cells #[.string (strOf (bJ r))] 9))).grown hg4 V5.out
    rw[bk]at J4
    have J4:bt .u64 b64 w4 (.slice (some ⟨wr.heap.size,0,none⟩) 0 c1) 0:=J4
    go_wp2
    go_roundw
    case rel=>
     exact⟨0,P++[bJ r],A3,c3,J4,by simp,pE,hz,eL,SI,hbd⟩
    case measure=>rw[J4.of_eq,hm.of_eq]; exact HM.out
   ·have Ov:(1:Int)<=((ae b64 q).length:Int):=by have:=(av (n:=q) ai).2 Rf; omega
    have Ot:oK 19 (bJ r)=List.replicate (19-(bJ r).length) 48++bJ r:=rfl
    have Q9:(oK 19 (bJ r)).length=19:=by rw[Ot,List.length_append,List.length_replicate]; omega
    have eL:Bx (bJ n=bJ q++dY (P++[oK 19 (bJ r)])):=bx (by
     rw[tL,<-List.append_assoc,<-S2.out Rf]; exact HD.out)
    have SI:Bx (∀p∈P++[oK 19 (bJ r)],p≠[]/\Wf 256 p):=bx (λp hp=>by
     rcases List.mem_append.1 hp with h|h
     ·exact HP.out p h
     ·simp at h
      subst h
      exact⟨List.length_pos_iff.1 (by omega),LH (yc _)⟩)
    have hbd:Bx (Bd j q):=bx (HB.out.le XA.out)
    have Xz:=bx Ot
    clear Rf Ot Q9 HC S2 Mi
    have Y5:(strOf (List.replicate (19-(bJ r).length) 48)).size=19-(bJ r).length:=by rw[aR,List.length_replicate]
    have Y6:(19-(bJ r).length)+(bJ r).length<=9223372036854775807:=by omega
    have Y4:19-(bJ r).length<=19:=by omega
    go_wp2_with fail
    rw[show(19:Int)-((bJ r).length:Int)=((19-(bJ r).length:Nat):Int) by omega]
    refine Calls.mono (Tryz.strings_Repeat ⟨#[48]⟩ (19-(bJ r).length) w2 (by omega) (by show 1*_<=_; omega)) ?_
    rw[yR]
    rintro e w3 ⟨rfl,hb4⟩
    have DM:=DL.kept (cL hb4 none) (by cases A with|none=>exact .inl rfl|some a=>exact .inr (by simp[Value.ownBlock]))
    have Rg:=Ou.below hb4
    have MC:=hb3.trans (hb4.mono hb3.size)
    have Um:strOf (List.replicate (19-(bJ r).length) 48)++strOf (bJ r)=strOf (oK 19 (bJ r)):=by rw[cw]; rfl
    go_wp2_with (at_builtin; refine od rfl (.tmp 28) (.tmp 30) 144 rfl w.heap.size 9 i0 Tryz.underlying144 hi hz0 hz1 hz2 P rfl w3 DM (oK 19 (bJ r)) rfl (by omega) MC.size ?_; intro A3 c3 w4 pE Ob hg4)
    have hz:=((MC.alloc MC.size (.cells #[.string (strOf (oK 19 (bJ r)))] 9)).trans Ob)
    have J4:=(Rg.below (Below.alloc (Below.refl _ _) (Nat.le_refl _) (.cells #[.string (strOf (oK 19 (bJ r)))] 9))).grown hg4 V5.out
    clear Um
    go_wp2
    go_roundw
    case rel=>
     exact⟨q,P++[oK 19 (bJ r)],A3,c3,J4,by simp,pE,hz,eL,SI,hbd⟩
    case measure=>rw[J4.of_eq,hm.of_eq]; exact HQ.out
end Wx

namespace Wx
set_option maxRecDepth 100000
set_option maxHeartbeats 1000000
open Go Go.RowKit Go.Proofs
theorem Dz {d:Nat} (h:d<10):(⟨#[48,49,50,51,52,53,54,55,56,57]⟩:ByteArray).extract d (d+1)=strOf [d+48]:=by
 match d,h with
 |0,_=>rfl
 |1,_=>rfl
 |2,_=>rfl
 |3,_=>rfl
 |4,_=>rfl
 |5,_=>rfl
 |6,_=>rfl
 |7,_=>rfl
 |8,_=>rfl
 |9,_=>rfl
 |n+10,h=>exact absurd h (by omega)
theorem zO {X S:List Nat} {x k r:Nat} (hk:k<9) (h:X=bJ (x*10^(9-k)+r)++S) (h0:0<x*10^(9-k)+r):
  X=bJ (x*10^(9-(k+1))+r/10)++((r%10+48)::S):=by
 obtain⟨e1,e2⟩:=He (A:=x) (r:=r) (k:=9-k) (by omega)
 rw[h,mD h0,e1,e2,show 9-(k+1)=9-k-1 by omega,List.append_assoc]
 rfl
theorem fW (w:World) (v:Value) (n:Nat) (h:bt .u32 ah w v n) {j:Nat} (hj:Bd j n) (cM:j<=100000000):Calls Tryz.prog 82 #[v] w (dA w (.string (strOf (aH n)))):=by
 rcases Nat.eq_zero_or_pos n with rfl|wT
 ·obtain⟨A,c,rfl,hr⟩:=id h
  rw[bk,uX]
  go_enter Tryz.func82,Tryz.ntmps82
  go_wp2
  go_ret
  exact⟨rfl,Below.refl _ _⟩
 ·rw[xD wT]
  obtain⟨A,c,rfl,hr⟩:=id h
  have qy:(((ae ah n).length:Int)==0)=false:=beq_eq_false_iff_ne.2 (by have:=(av (n:=n) aj).2 wT; omega)
  have HL:=bx (show(bJ n).length<=100000000 from Nat.le_trans (yf hj) cM)
  generalize (ae ah n).length=L at *
  obtain⟨X,hX⟩:∃X,bJ n=X:=⟨_,rfl⟩
  rw[hX]at HL ⊢
  have HX:=bx hX
  have HJ:=bx hj
  clear hX hj hr
  go_enter Tryz.func82,Tryz.ntmps82
  go_wp2_with fail
  go_loopw [0,3] (λs0 s3 wr=>∃(x:Nat) (S:List Nat),bt .u32 ah wr s0 x/\s3=.string (strOf S)/\Bx (X=bJ x++S)/\Bx (Bd j x)/\Below w.heap.size w wr) (λs0 _ wr=>sH wr s0)
  case atStart=>exact⟨n,[],h,rfl,bx (by rw[HX.out,List.append_nil]),HJ,Below.refl _ _⟩
  case round=>
   clear h HJ
   obtain⟨x,S,hx,rfl,HS,HJ,hb⟩:=hrel
   rcases Nat.eq_zero_or_pos x with rfl|hx0
   ·obtain⟨A,c,rfl,hr⟩:=id hx
    rw[bk]at hr ⊢
    have e:=HS.out
    rw[iY,List.nil_append]at e
    have E:=bx e
    clear e
    go_wp2
    go_ret
    rw[E.out]
    exact⟨rfl,hb⟩
   ·obtain⟨A,c,rfl,hr⟩:=id hx
    have hl2:(0:Int)<((ae ah x).length:Int):=by have:=(av (n:=x) aj).2 hx0; omega
    have hlen:=hr.len
    have XH:=bx hx0
    generalize (ae ah x).length=L2 at *
    clear hr hx0
    go_wp2_with fail
    refine Calls.mono (qV wr _ x 1000000000 hx HJ.out (by omega) (by omega) (by unfold ah; omega)) ?_
    rintro e w2 ⟨vq,rfl,hq,hb2⟩
    have hb3:=hb.trans (hb2.mono hb.size)
    have HR:=bx (show x%1000000000<10^9 from Nat.mod_lt _ (by omega))
    have HD:=bx (show x/1000000000*10^9+x%1000000000=x from by have:=Nat.div_add_mod x 1000000000; omega)
    have HQ:=bx (show Bd j (x/1000000000)from HJ.out.le (Nat.div_le_self _ _))
    have HM:=bx (show x/1000000000<x from Nat.div_lt_self XH.out (by omega))
    have V7:=bx hx
    clear hx
    generalize x/1000000000=y at *
    generalize x%1000000000=r0 at *
    obtain⟨A2,c2,rfl,hr2⟩:=id hq
    have WQ:=hr2.len
    clear hr2
    go_wp2_with fail
    obtain⟨wo,rfl⟩:∃wo:World,wo=w2:=⟨_,rfl⟩
    go_loop [3,5,6] (λs3 s5 s6=>∃(k r:Nat) (T:List Nat),k<=9/\s6=.int .i64 (k:Int)/\s5=.int .u32 (r:Int)/\s3=.string (strOf T)/\Bx (r<10^(9-k))/\Bx (X=bJ (y*10^(9-k)+r)++T)) (λ_ _ s6=>9-(intOf s6).toNat)
    case atStart=>exact⟨0,r0,S,by omega,rfl,rfl,rfl,HR,bx (by rw[Nat.sub_zero,HD.out]; exact HS.out)⟩
    case round=>
     clear HS HR HD
     obtain⟨k,r,T,hk,rfl,rfl,rfl,HR,HT⟩:=hrel
     by_cases WO:k<9
     ·rcases Nat.eq_zero_or_pos y with rfl|hy0
      ·rw[bk]at *
       rcases Nat.eq_zero_or_pos r with rfl|SK
       ·have Q0:(k:Int)<9:=by omega
        go_wp2
        go_roundw
        case rel=>exact⟨0,T,hq,rfl,bx (by rw[HT.out]; simp),HQ,hb3⟩
        case measure=>rw[bt.nL V7.out,bt.nL hq]; exact HM.out
       ·have Y0:(0:Int)<(r:Int):=by omega
        have hT:=zO WO HT.out (by omega)
        have Yh:T.length<=100000000:=by have h1:=HL.out; have h2:=congrArg List.length HT.out; rw[List.length_append]at h2; omega
        have Pu:=bx hT
        have hz:=aR T
        have hc:=Dz (d:=r%10) (by omega)
        have HC:=bx hc
        have hap:=cw [r%10+48] T
        have S0:=bx hap
        have MH:(0:Int)<=(r:Int)%10:=by omega
        have SG:(r:Int)%10<=9:=by omega
        have DN:(r:Int)<=4294967295:=by have h1:=HR.out; have h2:10^(9-k)<=10^9:=Nat.pow_le_pow_right (by omega) (by omega); omega
        have Mi:=bx (xx (by omega) HR.out)
        have Q0:(k:Int)<9:=by omega
        clear hT hc hap
        go_wp2
        rw[HC.out,S0.out]
        go_round
        case rel=>exact⟨k+1,r/10,(r%10+48)::T,by omega,by go_num,by go_num,rfl,bx (by have:=Mi.out; rwa [show 9-(k+1)=9-k-1 by omega]),Pu⟩
        case measure=>simp[intOf]; omega
      ·have hl3:(0:Int)<((ae ah y).length:Int):=by have:=(av (n:=y) aj).2 hy0; omega
       generalize (ae ah y).length=L3 at *
       have hT:=zO WO HT.out (by have:=Nat.mul_pos hy0 (Nat.pow_pos (n:=9-k) (show 0<10 by omega)); omega)
       have Yh:T.length<=100000000:=by have h1:=HL.out; have h2:=congrArg List.length HT.out; rw[List.length_append]at h2; omega
       have Pu:=bx hT
       have hz:=aR T
       have hc:=Dz (d:=r%10) (by omega)
       have HC:=bx hc
       have hap:=cw [r%10+48] T
       have S0:=bx hap
       have MH:(0:Int)<=(r:Int)%10:=by omega
       have SG:(r:Int)%10<=9:=by omega
       have DN:(r:Int)<=4294967295:=by have h1:=HR.out; have h2:10^(9-k)<=10^9:=Nat.pow_le_pow_right (by omega) (by omega); omega
       have Mi:=bx (xx (by omega) HR.out)
       have Q0:(k:Int)<9:=by omega
       clear hT hc hap
       go_wp2
       rw[HC.out,S0.out]
       go_round
       case rel=>exact⟨k+1,r/10,(r%10+48)::T,by omega,by go_num,by go_num,rfl,bx (by have:=Mi.out; rwa [show 9-(k+1)=9-k-1 by omega]),Pu⟩
       case measure=>simp[intOf]; omega
     ·obtain rfl:k=9:=by omega
      have SK:r=0:=by have:=HR.out; simpa using this
      subst SK
      go_wp2
      go_roundw
      case rel=>exact⟨y,T,hq,rfl,bx (by rw[HT.out]; simp),HQ,hb3⟩
      case measure=>rw[bt.nL V7.out,bt.nL hq]; exact HM.out
end Wx

namespace Wx
set_option maxRecDepth 100000
set_option maxHeartbeats 1000000
open Go Go.RowKit Go.Proofs
def er (q:Rat):List Nat:=(if q.num<0 then[45]else[])++(aH q.num.natAbs++(if q.den=1 then[]else 47::aH q.den))
theorem cS {j n:Nat} (h:Bd j n):(aH n).length<=j+1:=by
 unfold aH
 split
 ·simp
 ·have:=yf h; unfold Qb at this; omega
theorem nD (l:List Nat):(⟨#[45]⟩:ByteArray)++strOf l=strOf (45::l):=cw [45] l
theorem wB (l:List Nat):(⟨#[47]⟩:ByteArray)++strOf l=strOf (47::l):=cw [47] l
theorem Jv (w:World) (v:Value) (x:Rat) (hx:cm w v x) {j:Nat} (hj:bB j x) (cM:j<=100000000) (hn:¬x.num<0) (hd:¬x.den=1):Calls Tryz.prog 27 #[v] w (dA w (.string (strOf (er x)))):=by
 obtain⟨sP,sQ,rfl,cN,dH⟩:=id hx
 obtain⟨bN,bP,rfl,_⟩:=id cN
 obtain⟨bO,bQ,rfl,_⟩:=id dH
 have HB:=bx hj
 have hT:er x=aH x.num.natAbs++47::aH x.den:=by unfold er; rw[if_neg hn,if_neg hd]; simp
 rw[hT,decide_eq_false hn]at *
 rw[mE hd]at *
 have YK:(1:Int)<=((ae b64 x.den).length:Int):=by have:=(av (n:=x.den) ai).2 x.den_pos; omega
 have hl2:=cS hj.2
 have hz2:=aR (aH x.den)
 have OD:=wB (aH x.den)
 have hz3:=aR (47::aH x.den)
 have OE:=cw (aH x.num.natAbs) (47::aH x.den)
 have qy:=cS hj.1
 have hz1:=aR (aH x.num.natAbs)
 have Ou:1+(aH x.den).length<=9223372036854775807:=by omega
 have Rg:(aH x.num.natAbs).length+((aH x.den).length+1)<=9223372036854775807:=by omega
 clear hj hn hd hT qy hl2
 go_enter Tryz.func27,Tryz.ntmps27
 go_wp2_with fail
 obtain⟨w1,e1,o1,b1,s1⟩:=ia w (.bool false) (.slice bN (ae b64 x.num.natAbs).length bP) (.slice bO (ae b64 x.den).length bQ) 32
 rw[e1]
 clear e1
 refine Calls.mono (kS w1 _ _ (cN.below b1) HB.out.1 cM) ?_
 rintro e w2 ⟨rfl,hb2⟩
 have k0:=(o1.gone hb2).c0
 have k1:=(o1.gone hb2).c1
 have k2:=(o1.gone hb2).c2
 have Ik:=(dH.below b1).below hb2
 have B2:=b1.trans (hb2.mono b1.size)
 go_wp2_with fail
 refine Calls.mono (kS w2 _ _ Ik HB.out.2 cM) ?_
 rintro e w3 ⟨rfl,hb3⟩
 go_wp2
 go_ret
 exact⟨rfl,B2.trans (hb3.mono B2.size)⟩
theorem Jw (w:World) (v:Value) (x:Rat) (hx:cm w v x) {j:Nat} (hj:bB j x) (cM:j<=100000000) (hn:¬x.num<0) (hd:x.den=1):Calls Tryz.prog 27 #[v] w (dA w (.string (strOf (er x)))):=by
 obtain⟨sP,sQ,rfl,cN,dH⟩:=id hx
 obtain⟨bN,bP,rfl,_⟩:=id cN
 obtain⟨bO,bQ,rfl,_⟩:=id dH
 have HB:=bx hj
 have hT:er x=aH x.num.natAbs:=by unfold er; rw[if_neg hn,if_pos hd]; simp
 rw[hT,decide_eq_false hn]at *
 rw[hd,kE,bk]at *
 have qy:=cS hj.1
 have hz1:=aR (aH x.num.natAbs)
 clear hj hn hd hT qy
 go_enter Tryz.func27,Tryz.ntmps27
 go_wp2_with fail
 obtain⟨w1,e1,o1,b1,s1⟩:=ia w (.bool false) (.slice bN (ae b64 x.num.natAbs).length bP) (.slice bO 0 bQ) 32
 rw[e1]
 clear e1
 refine Calls.mono (kS w1 _ _ (cN.below b1) HB.out.1 cM) ?_
 rintro e w2 ⟨rfl,hb2⟩
 have k0:=(o1.gone hb2).c0
 have k1:=(o1.gone hb2).c1
 have k2:=(o1.gone hb2).c2
 have Ik:=(dH.below b1).below hb2
 have B2:=b1.trans (hb2.mono b1.size)
 go_wp2
 go_ret
 exact⟨rfl,B2⟩
theorem Jx (w:World) (v:Value) (x:Rat) (hx:cm w v x) {j:Nat} (hj:bB j x) (cM:j<=100000000) (hn:x.num<0) (hd:¬x.den=1):Calls Tryz.prog 27 #[v] w (dA w (.string (strOf (er x)))):=by
 obtain⟨sP,sQ,rfl,cN,dH⟩:=id hx
 obtain⟨bN,bP,rfl,_⟩:=id cN
 obtain⟨bO,bQ,rfl,_⟩:=id dH
 have HB:=bx hj
 have hT:er x=45::(aH x.num.natAbs++47::aH x.den):=by unfold er; rw[if_pos hn,if_neg hd]; simp
 rw[hT,decide_eq_true hn]at *
 rw[mE hd]at *
 have YK:(1:Int)<=((ae b64 x.den).length:Int):=by have:=(av (n:=x.den) ai).2 x.den_pos; omega
 have hl2:=cS hj.2
 have hz2:=aR (aH x.den)
 have OD:=wB (aH x.den)
 have hz3:=aR (47::aH x.den)
 have qz:=nD (aH x.num.natAbs)
 have Vl:=aR (45::aH x.num.natAbs)
 have OE:=cw (45::aH x.num.natAbs) (47::aH x.den)
 have qy:=cS hj.1
 have hz1:=aR (aH x.num.natAbs)
 have hq1:1+(aH x.num.natAbs).length<=9223372036854775807:=by omega
 have Ou:1+(aH x.den).length<=9223372036854775807:=by omega
 have Rg:((aH x.num.natAbs).length+1)+((aH x.den).length+1)<=9223372036854775807:=by omega
 clear hj hn hd hT qy hl2
 go_enter Tryz.func27,Tryz.ntmps27
 go_wp2_with fail
 obtain⟨w1,e1,o1,b1,s1⟩:=ia w (.bool true) (.slice bN (ae b64 x.num.natAbs).length bP) (.slice bO (ae b64 x.den).length bQ) 32
 rw[e1]
 clear e1
 refine Calls.mono (kS w1 _ _ (cN.below b1) HB.out.1 cM) ?_
 rintro e w2 ⟨rfl,hb2⟩
 have k0:=(o1.gone hb2).c0
 have k1:=(o1.gone hb2).c1
 have k2:=(o1.gone hb2).c2
 have Ik:=(dH.below b1).below hb2
 have B2:=b1.trans (hb2.mono b1.size)
 go_wp2_with fail
 refine Calls.mono (kS w2 _ _ Ik HB.out.2 cM) ?_
 rintro e w3 ⟨rfl,hb3⟩
 go_wp2
 go_ret
 exact⟨rfl,B2.trans (hb3.mono B2.size)⟩
theorem Jy (w:World) (v:Value) (x:Rat) (hx:cm w v x) {j:Nat} (hj:bB j x) (cM:j<=100000000) (hn:x.num<0) (hd:x.den=1):Calls Tryz.prog 27 #[v] w (dA w (.string (strOf (er x)))):=by
 obtain⟨sP,sQ,rfl,cN,dH⟩:=id hx
 obtain⟨bN,bP,rfl,_⟩:=id cN
 obtain⟨bO,bQ,rfl,_⟩:=id dH
 have HB:=bx hj
 have hT:er x=45::aH x.num.natAbs:=by unfold er; rw[if_pos hn,if_pos hd]; simp
 rw[hT,decide_eq_true hn]at *
 rw[hd,kE,bk]at *
 have qz:=nD (aH x.num.natAbs)
 have Vl:=aR (45::aH x.num.natAbs)
 have qy:=cS hj.1
 have hz1:=aR (aH x.num.natAbs)
 have hq1:1+(aH x.num.natAbs).length<=9223372036854775807:=by omega
 clear hj hn hd hT qy
 go_enter Tryz.func27,Tryz.ntmps27
 go_wp2_with fail
 obtain⟨w1,e1,o1,b1,s1⟩:=ia w (.bool true) (.slice bN (ae b64 x.num.natAbs).length bP) (.slice bO 0 bQ) 32
 rw[e1]
 clear e1
 refine Calls.mono (kS w1 _ _ (cN.below b1) HB.out.1 cM) ?_
 rintro e w2 ⟨rfl,hb2⟩
 have k0:=(o1.gone hb2).c0
 have k1:=(o1.gone hb2).c1
 have k2:=(o1.gone hb2).c2
 have Ik:=(dH.below b1).below hb2
 have B2:=b1.trans (hb2.mono b1.size)
 go_wp2
 go_ret
 exact⟨rfl,B2⟩
theorem xz (w:World) (v:Value) (x:Rat) (hx:cm w v x) {j:Nat} (hj:bB j x) (cM:j<=100000000):Calls Tryz.prog 27 #[v] w (dA w (.string (strOf (er x)))):=by
 by_cases hn:x.num<0
 ·by_cases hd:x.den=1
  ·exact Jy w v x hx hj cM hn hd
  ·exact Jx w v x hx hj cM hn hd
 ·by_cases hd:x.den=1
  ·exact Jw w v x hx hj cM hn hd
  ·exact Jv w v x hx hj cM hn hd
end Wx
