import Derived.Lib.Repeat
import Derived.Test.YtikkgpljpglnbaaGreatJRM36
namespace Wx
set_option maxRecDepth 100000
set_option maxHeartbeats 1000000
open Go Go.RowKit Go.Proofs
def lI (k:Nat) (s:List Nat):List Nat:=List.replicate (k-s.length) 48++s
def bB (n:Nat):List Nat:=if n=0 then[48]else bp n
theorem tY (n:Nat):Wf 256 (bp n):=by
 intro x hx
 unfold bp at hx
 rw[List.mem_reverse,List.mem_map]at hx
 obtain⟨y,hy,rfl⟩:=hx
 have:=cI (b:=10) (by omega) n y hy
 omega
theorem xU (k:Nat):∀m,0<m/10^k->bp m=bp (m/10^k)++lI k (bp (m%10^k)):=by
 induction k with
 |zero=>intro m _; simp[lI,Nat.mod_one,iz]
 |succ k ih=>
  intro m h
  have hm:0<m:=by
   rcases Nat.eq_zero_or_pos m with rfl|h'
   ·simp at h
   ·exact h'
  have e1:m/10/10^k=m/10^(k+1):=by rw[Nat.div_div_eq_div_mul,Nat.pow_succ,Nat.mul_comm]
  have e2:m%10^(k+1)/10=m/10%10^k:=by rw[Nat.pow_succ,Nat.mul_comm,Nat.mod_mul_right_div_self]
  have e3:m%10^(k+1)%10=m%10:=by
   rw[Nat.pow_succ,Nat.mul_comm]; exact Nat.mod_mul_right_mod _ _ _
  rw[lT hm,ih (m/10) (by rw[e1]; exact h),e1,List.append_assoc]
  congr 1
  rcases Nat.eq_zero_or_pos (m%10^(k+1))with h0|h0
  ·rw[h0]at e2 e3 ⊢
   rw[<-e2,<-e3]
   simp[lI,iz,<-List.replicate_succ']
  ·rw[lT h0,e2,e3]
   unfold lI
   rw[List.length_append,List.length_singleton,List.append_assoc]
   congr 2
   omega
variable {k:Nat}
theorem Gu {s:List Nat} (h:Wf 256 s):Wf 256 (lI k s):=by
 intro x hx
 rcases List.mem_append.1 hx with h'|h'
 ·have:=(List.mem_replicate.1 h').2; omega
 ·exact h x h'
theorem er (a b:List Nat):strOf a++strOf b=strOf (a++b):=by
 apply ByteArray.ext
 rw[ByteArray.data_append]
 simp[strOf]
def strs (P:List (List Nat)):List Value:=P.map λp=>Value.string (strOf p)
def cJ (P:List (List Nat)):List Nat:=P.reverse.flatten
variable {P:List (List Nat)}
theorem yb {p:List Nat} (h:P[k]?=some p):cJ (P.drop k)=cJ (P.drop (k+1))++p:=by
 obtain⟨hk,e⟩:=List.getElem?_eq_some_iff.1 h
 rw[List.drop_eq_getElem_cons hk,e]
 simp[cJ]
theorem qA (P:List (List Nat)) (k:Nat):(cJ (P.drop k)).length<=(cJ P).length:=by
 have h:cJ P=cJ (P.drop k)++cJ (P.take k):=by
  unfold cJ
  rw[<-List.flatten_append,<-List.reverse_append,List.take_append_drop]
 rw[h,List.length_append]; omega
def fu (l:List Nat):List Value:=Lib.byteCells (l.map UInt8.ofNat)
theorem tT (p:List Nat):Lib.strCells (strOf p)=fu p:=by
 rw[Lib.strCells_eq]; simp[strOf,fu]
theorem sk (a b:List Nat):fu (a++b)=fu a++fu b:=by
 unfold fu; rw[List.map_append,Lib.byteCells_append]
theorem sn (a:List Nat):(fu a).length=a.length:=by
 unfold fu; rw[Lib.byteCells_length,List.length_map]
variable {w:World} {c:Nat}
theorem Ci {base:Nat} {e:TypeId} {A:Option Addr} (h:w.ownsRow base e 1 (.slice A P.length c) P.length (strs P)) {k:Nat} {p:List Nat} (hk:P[k]?=some p):
  ∃g,A=some ⟨g,0,none⟩/\g<w.heap.size/\P.length<=c/\c<=maxLen/\w.cell? ⟨g,0+k,none⟩=some (.string (strOf p)):=by
 obtain⟨hk',_⟩:=List.getElem?_eq_some_iff.1 hk
 rcases h.2 with⟨h1,h2⟩|⟨g,cap,cur,hv,hb,hg,hn,hm,hs,ht⟩
 ·omega
 ·injection hv with e1 e2 e3
  subst e1 e3
  have:=h.cells (g:=g) rfl k (.string (strOf p)) (by simp[strs,hk])
  rw[show(⟨g,0,none⟩:Addr).add k=⟨g,0+k,none⟩ by simp[Addr.add]; omega]at this
  refine⟨g,rfl,?_,hn,hm,this⟩
  rcases Nat.lt_or_ge g w.heap.size with h'|h'
  ·exact h'
  ·simp[Array.getElem?_eq_none h']at hg
theorem qB (P:List (List Nat)) (p:List Nat):cJ (P++[p])=p++cJ P:=by simp[cJ]
theorem uD (c:Nat):(⟨(Lib.repeatL (⟨#[48]⟩:ByteArray).data.toList c).toArray⟩:ByteArray)=strOf (List.replicate c 48):=by
 have:∀c,Lib.repeatL [48] c=List.replicate c 48:=by
  intro c
  induction c with
  |zero=>rfl
  |succ c ih=>unfold Lib.repeatL; rw[ih]; rfl
 show(⟨(Lib.repeatL [48] c).toArray⟩:ByteArray)=_
 rw[this]
 simp[strOf]
theorem wR (h:∀p∈P,p≠[]):P.length<=(cJ P).length:=by
 unfold cJ
 induction P with
 |nil=>simp
 |cons p P ih=>
  have h1:=ih (λq hq=>h q (List.mem_cons_of_mem _ hq))
  have h2:=List.length_pos_iff.2 (h p (by simp))
  simp at h1 ⊢
  omega
theorem GM:(Tryz.prog.info? 9).map (λi=>(i.zero,i.size,i.bytes))=some (some (.string ⟨#[]⟩),1,16):=by kernel_rfl
def Lp (j n:Nat):Prop:=(bp n).length<=j
variable {n:Nat}
theorem zP {j:Nat} (h:Bd j n):Lp j n:=jD (Nat.lt_of_lt_of_le h (Nat.pow_le_pow_left (by omega) j))
theorem zj:bB 0=[48]:=rfl
theorem Ck (h:0<n):bB n=bp n:=by unfold bB; rw[if_neg (by omega)]
theorem cz.grown {k:IntKind} {bs:Nat} {w':World} {b l:Nat} {row:Option Nat} (h:cz k bs w (.slice (some ⟨b,0,none⟩) l c) n) (hg:w.grownBy w' row) (hne:∀g,row=some g->g≠b):cz k bs w' (.slice (some ⟨b,0,none⟩) l c) n:=by
 obtain⟨A,c',e,h1,h2,h3⟩:=h
 refine⟨A,c',e,h1,h2,λhl=>?_⟩
 obtain⟨b',o,e',hc⟩:=h3 hl
 refine⟨b',o,e',λi hi=>?_⟩
 subst e'
 injection e with e1 e2 e3
 injection e1 with e1
 injection e1 with e4 e5
 subst e4
 exact hg.cell (hc i hi) (λe=>hne _ e.symm rfl)
theorem kX {P:Program} {ops:Array Oper} {rest:List Oper} {o:Oper} {a:Act} {Q:Exit->Act->World->Prop} (hgd:o.guard=none) (s x:Operand) (t:TypeId)
  (ho:o.op=.call { callee:=.builtin .append,args:=#[s,x],argTypes:=#[t,t] }) (base:Nat) (e:TypeId) (i:TypeInfo) (ht:P.underlying t=some (.slice e)) (hi:P.info? e=some i) (hz:i.zero=some (.string ⟨#[]⟩))
  (hsize:i.size=1) (hby:i.bytes=16) {A:Option Addr} {c:Nat} (L:List (List Nat)) (hs:a.eval s=.slice A L.length c) (w:World) (hown:w.ownsRow base e 1 (.slice A L.length c) L.length (strs L))
  (p:List Nat) (hx:a.eval x=.slice (some ⟨w.heap.size,0,none⟩) 1 1) (hL:L.length<=1000000000) (hbase:base<=w.heap.size)
  (h:∀A' c' w',w'.ownsRow base e 1 (.slice A' (L++[p]).length c') (L++[p]).length (strs (L++[p]))->Below base (w.alloc (.cells #[.string (strOf p)] e)) w'->(w.alloc (.cells #[.string (strOf p)] e)).grownBy w' (Value.slice A L.length c).ownBlock->wpList P ops Q rest (a.put o.dst (.slice A' (L++[p]).length c')) w'):
  wpList P ops Q (o::rest) a (w.alloc (.cells #[.string (strOf p)] e)):=by
 refine wpList_append_own _ hgd s x t ho base e i (.string ⟨#[]⟩) 1 16 ht hi hz hsize hby rfl (by decide) _ _ _ hs (hown.alloc _) ⟨w.heap.size,0,none⟩ 1 1 [.string (strOf p)] hx rfl ?_ ?_ (by unfold maxLen; omega) (by omega) (by simp; omega) ?_
 ·intro j u hj
  match j,hj with
  |0,hj=>simp at hj; subst hj; simp[Addr.add]
 ·intro u hu; simp at hu; subst hu; rfl
 ·intro v' w' hown' hg _
  have e1:(L++[p]).length=L.length+1:=by simp
  have e2:strs (L++[p])=strs L++[.string (strOf p)]:=by simp[strs]
  have hb:Below base (w.alloc (.cells #[.string (strOf p)] e)) w':=(Below.refl _ _).grown hg (by simp; omega) (λk hk=>(hown.lt k hk).1)
  rw[<-e2,<-e1]at hown'
  rcases hown'.2 with⟨h1,h2⟩|⟨g,cap,cur,hv,hr⟩
  ·simp at h2
  ·subst hv
   exact h _ _ _ hown' hb hg
theorem iG (w:World) (v:Value) (n:Nat) (h:cz .u64 b64 w v n) {j:Nat} (hj:Bd j n) (fD:j<=100000000):Calls Tryz.prog 32 #[v] w (fW w (.string (strOf (bB n)))):=by
 have HL:=bx (zP hj)
 have HB:=bx hj
 clear hj
 go_enter Tryz.func32,Tryz.ntmps32
 go_wp2_with fail
 go_loopw [0,3] (λs0 s3 wr=>∃(m:Nat) (P:List (List Nat)) (A:Option Addr) (c:Nat),cz .u64 b64 wr s0 m/\s3=.slice A P.length c/\wr.ownsRow w.heap.size 9 1 (.slice A P.length c) P.length (strs P)/\Below w.heap.size w wr/\Bx (bp n=bp m++cJ P)/\Bx (∀p∈P,p≠[]/\Wf 256 p)/\Bx (Bd j m)) (λs0 _ wr=>numOf wr s0)
 case atStart=>exact⟨n,[],none,0,h,rfl,World.ownsRow_nil _ _ _ _,Below.refl _ _,bx (by simp[cJ]),bx (by simp),HB⟩
 case round=>
  clear h HB
  obtain⟨m,P,A,c,hm,rfl,hown,hb,HD,HP,HB⟩:=hrel
  have SJ:P.length<=100000000:=by
   have h1:=wR (λp hp=>(HP.out p hp).1)
   have h2:(bp n).length<=j:=HL.out
   rw[HD.out,List.length_append]at h2
   omega
  rcases Nat.eq_zero_or_pos m with rfl|hm0
  ·obtain⟨A0,c0,rfl,hr⟩:=id hm
   rw[bf]at hr ⊢
   have Te:=HL
   have tK:Bx (bp n=cJ P):=bx (by rw[HD.out,iz,List.nil_append])
   clear HD HB hm hr
   by_cases Nx:P=[]
   ·subst Nx
    have yn:n=0:=by
     rcases Nat.eq_zero_or_pos n with h|h
     ·exact h
     ·have:=iR h
      rw[tK.out]at this
      simp[cJ]at this
    subst yn
    rw[zj]
    go_wp2
    go_ret
    exact⟨rfl,hb⟩
   ·have yn:0<n:=by
     rcases Nat.eq_zero_or_pos n with h|h
     ·exfalso
      have h1:=wR (λp hp=>(HP.out p hp).1)
      have h2:=List.length_pos_iff.2 Nx
      rw[<-tK.out,h,iz]at h1
      have h3:P.length<=0:=h1
      omega
     ·exact h
    have HT:=bx (Ck yn)
    have hp1:(1:Int)<=(P.length:Int):=by have:=List.length_pos_iff.2 Nx; omega
    have hpe:((P.length:Int)==0)=false:=beq_eq_false_iff_ne.2 (by omega)
    have Di:Wf 256 (cJ P):=by rw[<-tK.out]; exact tY _
    have hlf:(cJ P).length<=100000000:=by
     have h2:(bp n).length<=j:=HL.out
     rw[tK.out]at h2; omega
    clear Nx yn
    have R3:=bx hlf
    have HW2:=bx Di
    clear hlf Di
    go_wp2_with fail
    have LW:=Lib.fresh_isBuilder 95 5 wr
    have LX:Below wr.heap.size wr (wr.alloc (.cells #[.pointer none,.slice none 0 0] 95)):=Below.alloc (Below.refl _ _) (Nat.le_refl _) _
    generalize wr.alloc (.cells #[.pointer none,.slice none 0 0] 95)=wb at *
    obtain⟨wo,rfl⟩:∃wo:World,wo=wr:=⟨_,rfl⟩
    go_loopw [8] (λs8 wx=>∃k:Nat,k<=P.length/\s8=.int .i64 ((k:Int)-1)/\Lib.IsBuilder 95 5 wo.heap.size wo.heap.size (fu (cJ (P.drop k))) wx/\Below wo.heap.size wo wx) (λs8 _=>(RowKit.intOf s8+1).toNat)
    case atStart=>exact⟨P.length,Nat.le_refl _,rfl,by rw[List.drop_length]; exact LW,LX⟩
    case round=>
     clear LW LX
     obtain⟨k,hk,rfl,hib,LY⟩:=hrel
     rcases Nat.eq_zero_or_pos k with rfl|hpos
     ·rw[show(((0:Nat):Int)-1) = -1 by omega]
      rw[List.drop_zero]at hib
      go_wp2_with fail
      refine Calls.mono (Tryz.Builder_String_any wo.heap.size wo.heap.size ((cJ P).map UInt8.ofNat) wr hib LY.size) ?_
      rintro e wf ⟨rfl,NA⟩
      go_wp2
      go_ret
      rw[HT.out,tK.out]
      exact⟨rfl,hb.trans ((LY.trans NA).mono hb.size)⟩
     ·obtain⟨i,rfl⟩:∃i,k=i+1:=⟨k-1,by omega⟩
      rw[show(((i+1:Nat):Int)-1)=(i:Int) by omega]
      obtain⟨p,hp⟩:∃p,P[i]?=some p:=⟨P[i]'(by omega),List.getElem?_eq_getElem (by omega)⟩
      obtain⟨g,rfl,Pq,hg2,hg3,L5⟩:=Ci hown hp
      have L6:wr.cell? ⟨g,0+i,none⟩=some (.string (strOf p)):=by rw[LY.cell Pq]; exact L5
      rw[Nat.zero_add]at L6
      have Pp:=yb hp
      have KT:=qA P i
      have QL:=bx (oP wo.heap.size wo.heap.size (fu (cJ (P.drop (i+1)))) (strOf p) wr hib (by
       rw[sn,bJ]
       rw[Pp,List.length_append]at KT
       have:=R3.out
       omega) LY.size)
      have RZ:=bx (show fu (cJ (P.drop (i+1)))++Lib.strCells (strOf p)=fu (cJ (P.drop i)) by rw[tT,Pp,sk])
      have hi0:(0:Int)<=(i:Int):=by omega
      have Td:(i:Int)<(P.length:Int):=by omega
      clear L5 Pp KT hp
      go_wp2_with fail
      refine Calls.mono QL.out ?_
      rintro e wy ⟨rfl,hby,hbz⟩
      rw[RZ.out]at hby
      clear QL L6
      go_wp2
      go_roundw
      case rel=>
       have S2:(Value.int .i64 (i:Int):Value)=.int .i64 (i:Int):=rfl
       (repeat apply Exists.intro)
       exact⟨⟨i,by omega,by go_num,.inr hby,LY.trans hbz⟩,rfl⟩
      case measure=>simp[RowKit.intOf]
  ·have FM:0<(ak b64 m).length:=(aU (n:=m) ai).2 hm0
   have Aa:(1:Int)<=((ak b64 m).length:Int):=by omega
   have hc:=nW wr _ m 10000000000000000000 hm HB.out (by omega) (by omega) (by unfold b64; omega)
   obtain⟨q,hq⟩:∃q,q=m/10000000000000000000:=⟨_,rfl⟩
   obtain⟨r,hr⟩:∃r,r=m%10000000000000000000:=⟨_,rfl⟩
   have G4:=bx (show r<10000000000000000000 by omega)
   have Nl:=bx (show q=0->r=m by omega)
   have HQ:=bx (show q<m by omega)
   have R8:=bx (show q<=m by omega)
   rw[<-hq,<-hr,show(((10000000000000000000:Nat):Int))=10000000000000000000 from rfl]at hc
   have NV:Bx (0<q->bp m=bp q++lI 19 (bp r)):=bx (λh=>by
    have:=xU 19 m
    rw[show(10:Nat)^19=10000000000000000000 by decide,<-hq,<-hr]at this
    exact this h)
   clear hq hr
   obtain⟨A0,c0,rfl,hr⟩:=id hm
   have HM:=bx hm0
   have HC:=bx hc
   clear hm0 hc hr
   go_wp2_with fail
   refine Calls.mono HC.out ?_
   rintro e w1 ⟨l1,c1,rfl,hq,hb1⟩
   have Sc:=bx (show r<b64 by have:=G4.out; unfold b64; omega)
   go_wp2_with fail
   refine Calls.mono (vG w1 r Sc.out) ?_
   rintro e w2 ⟨rfl,hb2⟩
   have Mx:=hq.below hb2
   have hb3:=(hb.trans (hb1.mono hb.size)).trans (hb2.mono (hb.trans (hb1.mono hb.size)).size)
   have ue:=hb1.trans (hb2.mono hb1.size)
   clear hq hb2
   have hdl:(bp r).length<=19:=jD (by have:=G4.out; omega)
   have S7:((bp r).length:Int)<=19:=by omega
   have hsz:=bJ (bp r)
   obtain⟨_,_,yu,_⟩:=id Mx
   injection yu with e1 e2 e3
   subst e1 e2 e3
   obtain⟨i0,hi,hz0,hz1,hz2⟩:=info_parts GM
   have Ac:=hown.kept (bP ue none) (by cases A with|none=>exact .inl rfl|some a=>exact .inr (by simp[Value.ownBlock]))
   have QG:Bx (∀g,(Value.slice A P.length c).ownBlock=some g->g≠wr.heap.size):=bx (λg hg=>by have:=(hown.lt g hg).2; omega)
   rcases Nat.eq_zero_or_pos q with rfl|JL
   ·have dD:Bx (bp n=bp 0++cJ (P++[bp r])):=bx (by
     rw[qB,iz,List.nil_append,Nl.out rfl]; exact HD.out)
    have NI:Bx (∀p∈P++[bp r],p≠[]/\Wf 256 p):=bx (λp hp=>by
     rcases List.mem_append.1 hp with h|h
     ·exact HP.out p h
     ·simp at h
      subst h
      exact⟨List.length_pos_iff.1 (iR (by rw[Nl.out rfl]; exact HM.out)),tY _⟩)
    have hbd:Bx (Bd j 0):=bx (HB.out.le (Nat.zero_le _))
    clear HC NV Nl hown
    rw[bf]
    go_wp2_with (at_builtin; refine kX rfl (.tmp 28) (.tmp 30) 87 rfl w.heap.size 9 i0 Tryz.underlying87 hi hz0 hz1 hz2 P rfl w2 Ac (bp r) rfl (by omega) hb3.size ?_; intro A3 c3 w4 qI hb4 hg4)
    have hz:=((hb3.alloc hb3.size (.cells #[.string (strOf (bp r))] 9)).trans hb4)
    have H9:=(Mx.below (Below.alloc (Below.refl _ _) (Nat.le_refl _) (.cells #[.string (strOf (bp r))] 9))).grown hg4 QG.out
    rw[bf]at H9
    have H9:cz .u64 b64 w4 (.slice (some ⟨wr.heap.size,0,none⟩) 0 c1) 0:=H9
    go_wp2
    go_roundw
    case rel=>
     exact⟨0,P++[bp r],A3,c3,H9,by simp,qI,hz,dD,NI,hbd⟩
    case measure=>rw[H9.of_eq,hm.of_eq]; exact HM.out
   ·have hql:(1:Int)<=((ak b64 q).length:Int):=by have:=(aU (n:=q) ai).2 JL; omega
    have JK:lI 19 (bp r)=List.replicate (19-(bp r).length) 48++bp r:=rfl
    have Mr:(lI 19 (bp r)).length=19:=by rw[JK,List.length_append,List.length_replicate]; omega
    have dD:Bx (bp n=bp q++cJ (P++[lI 19 (bp r)])):=bx (by
     rw[qB,<-List.append_assoc,<-NV.out JL]; exact HD.out)
    have NI:Bx (∀p∈P++[lI 19 (bp r)],p≠[]/\Wf 256 p):=bx (λp hp=>by
     rcases List.mem_append.1 hp with h|h
     ·exact HP.out p h
     ·simp at h
      subst h
      exact⟨List.length_pos_iff.1 (by omega),Gu (tY _)⟩)
    have hbd:Bx (Bd j q):=bx (HB.out.le R8.out)
    have R7:=bx JK
    clear JL JK Mr HC NV Nl
    have TA:(strOf (List.replicate (19-(bp r).length) 48)).size=19-(bp r).length:=by rw[bJ,List.length_replicate]
    have TB:(19-(bp r).length)+(bp r).length<=9223372036854775807:=by omega
    have Tz:19-(bp r).length<=19:=by omega
    go_wp2_with fail
    rw[show(19:Int)-((bp r).length:Int)=((19-(bp r).length:Nat):Int) by omega]
    refine Calls.mono (Tryz.strings_Repeat ⟨#[48]⟩ (19-(bp r).length) w2 (by omega) (by show 1*_<=_; omega)) ?_
    rw[uD]
    rintro e w3 ⟨rfl,hb4⟩
    have Ad:=Ac.kept (bP hb4 none) (by cases A with|none=>exact .inl rfl|some a=>exact .inr (by simp[Value.ownBlock]))
    have PL:=Mx.below hb4
    have O6:=hb3.trans (hb4.mono hb3.size)
    have Pb:strOf (List.replicate (19-(bp r).length) 48)++strOf (bp r)=strOf (lI 19 (bp r)):=by rw[er]; rfl
    go_wp2_with (at_builtin; refine kX rfl (.tmp 28) (.tmp 30) 87 rfl w.heap.size 9 i0 Tryz.underlying87 hi hz0 hz1 hz2 P rfl w3 Ad (lI 19 (bp r)) rfl (by omega) O6.size ?_; intro A3 c3 w4 qI SV hg4)
    have hz:=((O6.alloc O6.size (.cells #[.string (strOf (lI 19 (bp r)))] 9)).trans SV)
    have H9:=(PL.below (Below.alloc (Below.refl _ _) (Nat.le_refl _) (.cells #[.string (strOf (lI 19 (bp r)))] 9))).grown hg4 QG.out
    clear Pb
    go_wp2
    go_roundw
    case rel=>
     exact⟨q,P++[lI 19 (bp r)],A3,c3,H9,by simp,qI,hz,dD,NI,hbd⟩
    case measure=>rw[H9.of_eq,hm.of_eq]; exact HQ.out
end Wx
