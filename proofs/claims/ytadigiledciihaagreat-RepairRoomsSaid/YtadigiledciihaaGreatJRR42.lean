import Derived.Lib.Repeat
import Derived.Test.YtadigiledciihaaGreatJRR41
namespace Wx
set_option maxRecDepth 100000
set_option maxHeartbeats 1000000
open Go Go.RowKit Go.Proofs
def mK (k:Nat) (s:List Nat):List Nat:=List.replicate (k-s.length) 48++s
def bI (n:Nat):List Nat:=if n=0 then[48]else bB n
theorem ux (n:Nat):Wf 256 (bB n):=by
 intro x hx
 unfold bB at hx
 rw[List.mem_reverse,List.mem_map]at hx
 obtain⟨y,hy,rfl⟩:=hx
 have:=bq (b:=10) (by omega) n y hy
 omega
theorem yA (k:Nat):∀m,0<m/10^k->bB m=bB (m/10^k)++mK k (bB (m%10^k)):=by
 induction k with
 |zero=>intro m _; simp[mK,Nat.mod_one,iZ]
 |succ k ih=>
  intro m h
  have hm:0<m:=by
   rcases Nat.eq_zero_or_pos m with rfl|h'
   ·simp at h
   ·exact h'
  have e1:m/10/10^k=m/10^(k+1):=by rw[Nat.div_div_eq_div_mul,Nat.pow_succ,Nat.mul_comm]
  have e2:m%10^(k+1)/10=m/10%10^k:=by rw[Nat.pow_succ,Nat.mul_comm,Nat.mod_mul_right_div_self]
  have e3:m%10^(k+1)%10=m%10:=by
   rw[Nat.pow_succ,Nat.mul_comm]; exact Nat.mod_mul_right_mod _ _ _
  rw[mV hm,ih (m/10) (by rw[e1]; exact h),e1,List.append_assoc]
  congr 1
  rcases Nat.eq_zero_or_pos (m%10^(k+1))with h0|h0
  ·rw[h0]at e2 e3 ⊢
   rw[<-e2,<-e3]
   simp[mK,iZ,<-List.replicate_succ']
  ·rw[mV h0,e2,e3]
   unfold mK
   rw[List.length_append,List.length_singleton,List.append_assoc]
   congr 2
   omega
variable {k:Nat}
theorem GI {s:List Nat} (h:Wf 256 s):Wf 256 (mK k s):=by
 intro x hx
 rcases List.mem_append.1 hx with h'|h'
 ·have:=(List.mem_replicate.1 h').2; omega
 ·exact h x h'
theorem fh (a b:List Nat):strOf a++strOf b=strOf (a++b):=by
 apply ByteArray.ext
 rw[ByteArray.data_append]
 simp[strOf]
def strs (P:List (List Nat)):List Value:=P.map λp=>Value.string (strOf p)
def cU (P:List (List Nat)):List Nat:=P.reverse.flatten
variable {P:List (List Nat)}
theorem yG {p:List Nat} (h:P[k]?=some p):cU (P.drop k)=cU (P.drop (k+1))++p:=by
 obtain⟨hk,e⟩:=List.getElem?_eq_some_iff.1 h
 rw[List.drop_eq_getElem_cons hk,e]
 simp[cU]
theorem qP (P:List (List Nat)) (k:Nat):(cU (P.drop k)).length<=(cU P).length:=by
 have h:cU P=cU (P.drop k)++cU (P.take k):=by
  unfold cU
  rw[<-List.flatten_append,<-List.reverse_append,List.take_append_drop]
 rw[h,List.length_append]; omega
def gb (l:List Nat):List Value:=Lib.byteCells (l.map UInt8.ofNat)
theorem uo (p:List Nat):Lib.strCells (strOf p)=gb p:=by
 rw[Lib.strCells_eq]; simp[strOf,gb]
theorem sC (a b:List Nat):gb (a++b)=gb a++gb b:=by
 unfold gb; rw[List.map_append,Lib.byteCells_append]
theorem sD (a:List Nat):(gb a).length=a.length:=by
 unfold gb; rw[Lib.byteCells_length,List.length_map]
variable {w:World} {c:Nat}
theorem Cw {base:Nat} {e:TypeId} {A:Option Addr} (h:w.ownsRow base e 1 (.slice A P.length c) P.length (strs P)) {k:Nat} {p:List Nat} (hk:P[k]?=some p):
  ∃g,A=some ⟨g,0,none⟩/\g<w.heap.size/\P.length<=c/\c<=maxLen/\w.cell? ⟨g,0+k,none⟩=some (.string (strOf p)):=by
 obtain⟨hk',_⟩:=List.getElem?_eq_some_iff.1 hk
 rcases h.2 with⟨h1,h2⟩|⟨g,cap,cur,hv,hb,hg,hn,hm,hs,ht⟩
 ·omega
 ·injection hv with e1 e2 e3
  subst e1 e3
  have:=h.cells (g:=g) rfl k (.string (strOf p)) (by simp[strs,hk])
  rw[show(⟨g,0,none⟩:Addr).add k=⟨g,0+k,none⟩ by simp[Addr.add]; omega]at this
  refine⟨g,rfl,?_,hn,hm,this⟩
  rcases Nat.lt_or_ge g w.heap.size with h'|h'
  ·exact h'
  ·simp[Array.getElem?_eq_none h']at hg
theorem qQ (P:List (List Nat)) (p:List Nat):cU (P++[p])=p++cU P:=by simp[cU]
theorem uZ (c:Nat):(⟨(Lib.repeatL (⟨#[48]⟩:ByteArray).data.toList c).toArray⟩:ByteArray)=strOf (List.replicate c 48):=by
 have:∀c,Lib.repeatL [48] c=List.replicate c 48:=by
  intro c
  induction c with
  |zero=>rfl
  |succ c ih=>unfold Lib.repeatL; rw[ih]; rfl
 show(⟨(Lib.repeatL [48] c).toArray⟩:ByteArray)=_
 rw[this]
 simp[strOf]
theorem xE (h:∀p∈P,p≠[]):P.length<=(cU P).length:=by
 unfold cU
 induction P with
 |nil=>simp
 |cons p P ih=>
  have h1:=ih (λq hq=>h q (List.mem_cons_of_mem _ hq))
  have h2:=List.length_pos_iff.2 (h p (by simp))
  simp at h1 ⊢
  omega
theorem G4:(Tryz.prog.info? 9).map (λi=>(i.zero,i.size,i.bytes))=some (some (.string ⟨#[]⟩),1,16):=by kernel_rfl
def Lu (j n:Nat):Prop:=(bB n).length<=j
variable {n:Nat}
theorem Aa {j:Nat} (h:Bd j n):Lu j n:=kF (Nat.lt_of_lt_of_le h (Nat.pow_le_pow_left (by omega) j))
theorem zC:bI 0=[48]:=rfl
theorem Cy (h:0<n):bI n=bB n:=by unfold bI; rw[if_neg (by omega)]
theorem aY.grown {k:IntKind} {bs:Nat} {w':World} {b l:Nat} {row:Option Nat} (h:aY k bs w (.slice (some ⟨b,0,none⟩) l c) n) (hg:w.grownBy w' row) (hne:∀g,row=some g->g≠b):aY k bs w' (.slice (some ⟨b,0,none⟩) l c) n:=by
 obtain⟨A,c',e,h1,h2,h3⟩:=h
 refine⟨A,c',e,h1,h2,λhl=>?_⟩
 obtain⟨b',o,e',hc⟩:=h3 hl
 refine⟨b',o,e',λi hi=>?_⟩
 subst e'
 injection e with e1 e2 e3
 injection e1 with e1
 injection e1 with e4 e5
 subst e4
 exact hg.cell (hc i hi) (λe=>hne _ e.symm rfl)
theorem mj {P:Program} {ops:Array Oper} {rest:List Oper} {o:Oper} {a:Act} {Q:Exit->Act->World->Prop} (hgd:o.guard=none) (s x:Operand) (t:TypeId)
  (ho:o.op=.call { callee:=.builtin .append,args:=#[s,x],argTypes:=#[t,t] }) (base:Nat) (e:TypeId) (i:TypeInfo) (ht:P.underlying t=some (.slice e)) (hi:P.info? e=some i) (hz:i.zero=some (.string ⟨#[]⟩))
  (hsize:i.size=1) (hby:i.bytes=16) {A:Option Addr} {c:Nat} (L:List (List Nat)) (hs:a.eval s=.slice A L.length c) (w:World) (hown:w.ownsRow base e 1 (.slice A L.length c) L.length (strs L))
  (p:List Nat) (hx:a.eval x=.slice (some ⟨w.heap.size,0,none⟩) 1 1) (hL:L.length<=1000000000) (hbase:base<=w.heap.size)
  (h:∀A' c' w',w'.ownsRow base e 1 (.slice A' (L++[p]).length c') (L++[p]).length (strs (L++[p]))->Below base (w.alloc (.cells #[.string (strOf p)] e)) w'->(w.alloc (.cells #[.string (strOf p)] e)).grownBy w' (Value.slice A L.length c).ownBlock->wpList P ops Q rest (a.put o.dst (.slice A' (L++[p]).length c')) w'):
  wpList P ops Q (o::rest) a (w.alloc (.cells #[.string (strOf p)] e)):=by
 refine wpList_append_own _ hgd s x t ho base e i (.string ⟨#[]⟩) 1 16 ht hi hz hsize hby rfl (by decide) _ _ _ hs (hown.alloc _) ⟨w.heap.size,0,none⟩ 1 1 [.string (strOf p)] hx rfl ?_ ?_ (by unfold maxLen; omega) (by omega) (by simp; omega) ?_
 ·intro j u hj
  match j,hj with
  |0,hj=>simp at hj; subst hj; simp[Addr.add]
 ·intro u hu; simp at hu; subst hu; rfl
 ·intro v' w' hown' hg _
  have e1:(L++[p]).length=L.length+1:=by simp
  have e2:strs (L++[p])=strs L++[.string (strOf p)]:=by simp[strs]
  have hb:Below base (w.alloc (.cells #[.string (strOf p)] e)) w':=(Below.refl _ _).grown hg (by simp; omega) (λk hk=>(hown.lt k hk).1)
  rw[<-e2,<-e1]at hown'
  rcases hown'.2 with⟨h1,h2⟩|⟨g,cap,cur,hv,hr⟩
  ·simp at h2
  ·subst hv
   exact h _ _ _ hown' hb hg
theorem jo (w:World) (v:Value) (n:Nat) (h:aY .u64 b64 w v n) {j:Nat} (hj:Bd j n) (cQ:j<=100000000):Calls Tryz.prog 60 #[v] w (dW w (.string (strOf (bI n)))):=by
 have HL:=bx (Aa hj)
 have HB:=bx hj
 clear hj
 go_enter Tryz.func60,Tryz.ntmps60
 go_wp2_with fail
 go_loopw [0,3] (λs0 s3 wr=>∃(m:Nat) (P:List (List Nat)) (A:Option Addr) (c:Nat),aY .u64 b64 wr s0 m/\s3=.slice A P.length c/\wr.ownsRow w.heap.size 9 1 (.slice A P.length c) P.length (strs P)/\Below w.heap.size w wr/\Bx (bB n=bB m++cU P)/\Bx (∀p∈P,p≠[]/\Wf 256 p)/\Bx (Bd j m)) (λs0 _ wr=>numOf wr s0)
 case atStart=>exact⟨n,[],none,0,h,rfl,World.ownsRow_nil _ _ _ _,Below.refl _ _,bx (by simp[cU]),bx (by simp),HB⟩
 case round=>
  clear h HB
  obtain⟨m,P,A,c,hm,rfl,hown,hb,HD,HP,HB⟩:=hrel
  have S8:P.length<=100000000:=by
   have h1:=xE (λp hp=>(HP.out p hp).1)
   have h2:(bB n).length<=j:=HL.out
   rw[HD.out,List.length_append]at h2
   omega
  rcases Nat.eq_zero_or_pos m with rfl|hm0
  ·obtain⟨A0,c0,rfl,hr⟩:=id hm
   rw[aZ]at hr ⊢
   have RG:=HL
   have sV:Bx (bB n=cU P):=bx (by rw[HD.out,iZ,List.nil_append])
   clear HD HB hm hr
   by_cases NA:P=[]
   ·subst NA
    have yO:n=0:=by
     rcases Nat.eq_zero_or_pos n with h|h
     ·exact h
     ·have:=jv h
      rw[sV.out]at this
      simp[cU]at this
    subst yO
    rw[zC]
    go_wp2
    go_ret
    exact⟨rfl,hb⟩
   ·have yO:0<n:=by
     rcases Nat.eq_zero_or_pos n with h|h
     ·exfalso
      have h1:=xE (λp hp=>(HP.out p hp).1)
      have h2:=List.length_pos_iff.2 NA
      rw[<-sV.out,h,iZ]at h1
      have h3:P.length<=0:=h1
      omega
     ·exact h
    have HT:=bx (Cy yO)
    have hp1:(1:Int)<=(P.length:Int):=by have:=List.length_pos_iff.2 NA; omega
    have hpe:((P.length:Int)==0)=false:=beq_eq_false_iff_ne.2 (by omega)
    have BG:Wf 256 (cU P):=by rw[<-sV.out]; exact ux _
    have hlf:(cU P).length<=100000000:=by
     have h2:(bB n).length<=j:=HL.out
     rw[sV.out]at h2; omega
    clear NA yO
    have Sk:=bx hlf
    have HW2:=bx BG
    clear hlf BG
    go_wp2_with fail
    have LW:=Lib.fresh_isBuilder 135 5 wr
    have Dl:Below wr.heap.size wr (wr.alloc (.cells #[.pointer none,.slice none 0 0] 135)):=Below.alloc (Below.refl _ _) (Nat.le_refl _) _
    generalize wr.alloc (.cells #[.pointer none,.slice none 0 0] 135)=wb at *
    obtain⟨wo,rfl⟩:∃wo:World,wo=wr:=⟨_,rfl⟩
    go_loopw [8] (λs8 wx=>∃k:Nat,k<=P.length/\s8=.int .i64 ((k:Int)-1)/\Lib.IsBuilder 135 5 wo.heap.size wo.heap.size (gb (cU (P.drop k))) wx/\Below wo.heap.size wo wx) (λs8 _=>(intOf s8+1).toNat)
    case atStart=>exact⟨P.length,Nat.le_refl _,rfl,by rw[List.drop_length]; exact LW,Dl⟩
    case round=>
     clear LW Dl
     obtain⟨k,hk,rfl,hib,LZ⟩:=hrel
     rcases Nat.eq_zero_or_pos k with rfl|hpos
     ·rw[show(((0:Nat):Int)-1) = -1 by omega]
      rw[List.drop_zero]at hib
      go_wp2_with fail
      refine Calls.mono (Tryz.Builder_String_any wo.heap.size wo.heap.size ((cU P).map UInt8.ofNat) wr hib LZ.size) ?_
      rintro e wf ⟨rfl,ND⟩
      go_wp2
      go_ret
      rw[HT.out,sV.out]
      exact⟨rfl,hb.trans ((LZ.trans ND).mono hb.size)⟩
     ·obtain⟨i,rfl⟩:∃i,k=i+1:=⟨k-1,by omega⟩
      rw[show(((i+1:Nat):Int)-1)=(i:Int) by omega]
      obtain⟨p,hp⟩:∃p,P[i]?=some p:=⟨P[i]'(by omega),List.getElem?_eq_getElem (by omega)⟩
      obtain⟨g,rfl,Px,hg2,hg3,Pk⟩:=Cw hown hp
      have L8:wr.cell? ⟨g,0+i,none⟩=some (.string (strOf p)):=by rw[LZ.cell Px]; exact Pk
      rw[Nat.zero_add]at L8
      have Pw:=yG hp
      have KV:=qP P i
      have Q9:=bx (pK wo.heap.size wo.heap.size (gb (cU (P.drop (i+1)))) (strOf p) wr hib (by
       rw[sD,bU]
       rw[Pw,List.length_append]at KV
       have:=Sk.out
       omega) LZ.size)
      have Sh:=bx (show gb (cU (P.drop (i+1)))++Lib.strCells (strOf p)=gb (cU (P.drop i)) by rw[uo,Pw,sC])
      have PF:(0:Int)<=(i:Int):=by omega
      have PG:(i:Int)<(P.length:Int):=by omega
      clear Pk Pw KV hp
      go_wp2_with fail
      refine Calls.mono Q9.out ?_
      rintro e wy ⟨rfl,hby,hbz⟩
      rw[Sh.out]at hby
      clear Q9 L8
      go_wp2
      go_roundw
      case rel=>
       have Tn:(Value.int .i64 (i:Int):Value)=.int .i64 (i:Int):=rfl
       (repeat apply Exists.intro)
       exact⟨⟨i,by omega,by go_num,.inr hby,LZ.trans hbz⟩,rfl⟩
      case measure=>simp[intOf]
  ·have Ms:0<(ae b64 m).length:=(aD (n:=m) ah).2 hm0
   have tD:(1:Int)<=((ae b64 m).length:Int):=by omega
   have hc:=oM wr _ m 10000000000000000000 hm HB.out (by omega) (by omega) (by unfold b64; omega)
   obtain⟨q,hq⟩:∃q,q=m/10000000000000000000:=⟨_,rfl⟩
   obtain⟨r,hr⟩:∃r,r=m%10000000000000000000:=⟨_,rfl⟩
   have Hr:=bx (show r<10000000000000000000 by omega)
   have Nt:=bx (show q=0->r=m by omega)
   have HQ:=bx (show q<m by omega)
   have Sr:=bx (show q<=m by omega)
   rw[<-hq,<-hr,show(((10000000000000000000:Nat):Int))=10000000000000000000 from rfl]at hc
   have NU:Bx (0<q->bB m=bB q++mK 19 (bB r)):=bx (λh=>by
    have:=yA 19 m
    rw[show(10:Nat)^19=10000000000000000000 by decide,<-hq,<-hr]at this
    exact this h)
   clear hq hr
   obtain⟨A0,c0,rfl,hr⟩:=id hm
   have HM:=bx hm0
   have HC:=bx hc
   clear hm0 hc hr
   go_wp2_with fail
   refine Calls.mono HC.out ?_
   rintro e w1 ⟨l1,c1,rfl,hq,hb1⟩
   have Sw:=bx (show r<b64 by have:=Hr.out; unfold b64; omega)
   go_wp2_with fail
   refine Calls.mono (wB w1 r Sw.out) ?_
   rintro e w2 ⟨rfl,hb2⟩
   have My:=hq.below hb2
   have hb3:=(hb.trans (hb1.mono hb.size)).trans (hb2.mono (hb.trans (hb1.mono hb.size)).size)
   have uB:=hb1.trans (hb2.mono hb1.size)
   clear hq hb2
   have hdl:(bB r).length<=19:=kF (by have:=Hr.out; omega)
   have Ts:((bB r).length:Int)<=19:=by omega
   have hsz:=bU (bB r)
   obtain⟨_,_,BC,_⟩:=id My
   injection BC with e1 e2 e3
   subst e1 e2 e3
   obtain⟨i0,hi,hz0,hz1,hz2⟩:=info_parts G4
   have Am:=hown.kept (bZ uB none) (by cases A with|none=>exact .inl rfl|some a=>exact .inr (by simp[Value.ownBlock]))
   have Q3:Bx (∀g,(Value.slice A P.length c).ownBlock=some g->g≠wr.heap.size):=bx (λg hg=>by have:=(hown.lt g hg).2; omega)
   rcases Nat.eq_zero_or_pos q with rfl|Mx
   ·have dQ:Bx (bB n=bB 0++cU (P++[bB r])):=bx (by
     rw[qQ,iZ,List.nil_append,Nt.out rfl]; exact HD.out)
    have NK:Bx (∀p∈P++[bB r],p≠[]/\Wf 256 p):=bx (λp hp=>by
     rcases List.mem_append.1 hp with h|h
     ·exact HP.out p h
     ·simp at h
      subst h
      exact⟨List.length_pos_iff.1 (jv (by rw[Nt.out rfl]; exact HM.out)),ux _⟩)
    have hbd:Bx (Bd j 0):=bx (HB.out.le (Nat.zero_le _))
    clear HC NU Nt hown
    rw[aZ]
    go_wp2_with (at_builtin; refine mj rfl (.tmp 28) (.tmp 30) 127 rfl w.heap.size 9 i0 Tryz.underlying127 hi hz0 hz1 hz2 P rfl w2 Am (bB r) rfl (by omega) hb3.size ?_; intro A3 c3 w4 ni hb4 hg4)
    have hz:=((hb3.alloc hb3.size (.cells #[.string (strOf (bB r))] 9)).trans hb4)
    have Ir:=(My.below (Below.alloc (Below.refl _ _) (Nat.le_refl _) (.cells #[.string (strOf (bB r))] 9))).grown hg4 Q3.out
    rw[aZ]at Ir
    have Ir:aY .u64 b64 w4 (.slice (some ⟨wr.heap.size,0,none⟩) 0 c1) 0:=Ir
    go_wp2
    go_roundw
    case rel=>
     exact⟨0,P++[bB r],A3,c3,Ir,by simp,ni,hz,dQ,NK,hbd⟩
    case measure=>rw[Ir.of_eq,hm.of_eq]; exact HM.out
   ·have P3:(1:Int)<=((ae b64 q).length:Int):=by have:=(aD (n:=q) ah).2 Mx; omega
    have J3:mK 19 (bB r)=List.replicate (19-(bB r).length) 48++bB r:=rfl
    have Mr:(mK 19 (bB r)).length=19:=by rw[J3,List.length_append,List.length_replicate]; omega
    have dQ:Bx (bB n=bB q++cU (P++[mK 19 (bB r)])):=bx (by
     rw[qQ,<-List.append_assoc,<-NU.out Mx]; exact HD.out)
    have NK:Bx (∀p∈P++[mK 19 (bB r)],p≠[]/\Wf 256 p):=bx (λp hp=>by
     rcases List.mem_append.1 hp with h|h
     ·exact HP.out p h
     ·simp at h
      subst h
      exact⟨List.length_pos_iff.1 (by omega),GI (ux _)⟩)
    have hbd:Bx (Bd j q):=bx (HB.out.le Sr.out)
    have Sq:=bx J3
    clear Mx J3 Mr HC NU Nt
    have TT:(strOf (List.replicate (19-(bB r).length) 48)).size=19-(bB r).length:=by rw[bU,List.length_replicate]
    have TU:(19-(bB r).length)+(bB r).length<=9223372036854775807:=by omega
    have TS:19-(bB r).length<=19:=by omega
    go_wp2_with fail
    rw[show(19:Int)-((bB r).length:Int)=((19-(bB r).length:Nat):Int) by omega]
    refine Calls.mono (Tryz.strings_Repeat ⟨#[48]⟩ (19-(bB r).length) w2 (by omega) (by show 1*_<=_; omega)) ?_
    rw[uZ]
    rintro e w3 ⟨rfl,hb4⟩
    have Ao:=Am.kept (bZ hb4 none) (by cases A with|none=>exact .inl rfl|some a=>exact .inr (by simp[Value.ownBlock]))
    have PZ:=My.below hb4
    have Ih:=hb3.trans (hb4.mono hb3.size)
    have Pf:strOf (List.replicate (19-(bB r).length) 48)++strOf (bB r)=strOf (mK 19 (bB r)):=by rw[fh]; rfl
    go_wp2_with (at_builtin; refine mj rfl (.tmp 28) (.tmp 30) 127 rfl w.heap.size 9 i0 Tryz.underlying127 hi hz0 hz1 hz2 P rfl w3 Ao (mK 19 (bB r)) rfl (by omega) Ih.size ?_; intro A3 c3 w4 ni JL hg4)
    have hz:=((Ih.alloc Ih.size (.cells #[.string (strOf (mK 19 (bB r)))] 9)).trans JL)
    have Ir:=(PZ.below (Below.alloc (Below.refl _ _) (Nat.le_refl _) (.cells #[.string (strOf (mK 19 (bB r)))] 9))).grown hg4 Q3.out
    clear Pf
    go_wp2
    go_roundw
    case rel=>
     exact⟨q,P++[mK 19 (bB r)],A3,c3,Ir,by simp,ni,hz,dQ,NK,hbd⟩
    case measure=>rw[Ir.of_eq,hm.of_eq]; exact HQ.out
end Wx

namespace Wx
open Go Go.RowKit Go.Proofs
end Wx

namespace Wx
set_option maxRecDepth 100000
set_option maxHeartbeats 1000000
open Go Go.RowKit Go.Proofs
def iH (q:Rat):List Nat:=(if q.num<0 then[45]else[])++(bI q.num.natAbs++(if q.den=1 then[]else 47::bI q.den))
theorem gI {j n:Nat} (h:Bd j n):(bI n).length<=j+1:=by
 unfold bI
 split
 ·simp
 ·have:=Aa h; unfold Lu at this; omega
theorem tc (l:List Nat):(⟨#[45]⟩:ByteArray)++strOf l=strOf (45::l):=fh [45] l
theorem td (l:List Nat):(⟨#[47]⟩:ByteArray)++strOf l=strOf (47::l):=fh [47] l
theorem EE (w:World) (v:Value) (x:Rat) (hx:cg w v x) {j:Nat} (hj:dL j x) (cQ:j<=100000000) (hn:¬x.num<0) (hd:¬x.den=1):Calls Tryz.prog 30 #[v] w (dW w (.string (strOf (iH x)))):=by
 obtain⟨xY,xZ,rfl,gO,fO⟩:=id hx
 obtain⟨bO,bQ,rfl,_⟩:=id gO
 obtain⟨bP,bR,rfl,_⟩:=id fO
 have HB:=bx hj
 have hT:iH x=bI x.num.natAbs++47::bI x.den:=by unfold iH; rw[if_neg hn,if_neg hd]; simp
 rw[hT,decide_eq_false hn]at *
 rw[kH hd]at *
 have TB:(1:Int)<=((ae b64 x.den).length:Int):=by have:=(aD (n:=x.den) ah).2 x.den_pos; omega
 have hl2:=gI hj.2
 have hz2:=bU (bI x.den)
 have ML:=td (bI x.den)
 have hz3:=bU (47::bI x.den)
 have T2:=fh (bI x.num.natAbs) (47::bI x.den)
 have tD:=gI hj.1
 have hz1:=bU (bI x.num.natAbs)
 have My:1+(bI x.den).length<=9223372036854775807:=by omega
 have PZ:(bI x.num.natAbs).length+((bI x.den).length+1)<=9223372036854775807:=by omega
 clear hj hn hd hT tD hl2
 go_enter Tryz.func30,Tryz.ntmps30
 go_wp2_with fail
 obtain⟨w1,e1,o1,b1,s1⟩:=gj w (.bool false) (.slice bO (ae b64 x.num.natAbs).length bQ) (.slice bP (ae b64 x.den).length bR) 54
 rw[e1]
 clear e1
 refine Calls.mono (jo w1 _ _ (gO.below b1) HB.out.1 cQ) ?_
 rintro e w2 ⟨rfl,hb2⟩
 have k0:=(o1.gone hb2).c0
 have k1:=(o1.gone hb2).c1
 have k2:=(o1.gone hb2).c2
 have DB:=(fO.below b1).below hb2
 have B2:=b1.trans (hb2.mono b1.size)
 go_wp2_with fail
 refine Calls.mono (jo w2 _ _ DB HB.out.2 cQ) ?_
 rintro e w3 ⟨rfl,hb3⟩
 go_wp2
 go_ret
 exact⟨rfl,B2.trans (hb3.mono B2.size)⟩
theorem EF (w:World) (v:Value) (x:Rat) (hx:cg w v x) {j:Nat} (hj:dL j x) (cQ:j<=100000000) (hn:¬x.num<0) (hd:x.den=1):Calls Tryz.prog 30 #[v] w (dW w (.string (strOf (iH x)))):=by
 obtain⟨xY,xZ,rfl,gO,fO⟩:=id hx
 obtain⟨bO,bQ,rfl,_⟩:=id gO
 obtain⟨bP,bR,rfl,_⟩:=id fO
 have HB:=bx hj
 have hT:iH x=bI x.num.natAbs:=by unfold iH; rw[if_neg hn,if_pos hd]; simp
 rw[hT,decide_eq_false hn]at *
 rw[hd,ja,aZ]at *
 have tD:=gI hj.1
 have hz1:=bU (bI x.num.natAbs)
 clear hj hn hd hT tD
 go_enter Tryz.func30,Tryz.ntmps30
 go_wp2_with fail
 obtain⟨w1,e1,o1,b1,s1⟩:=gj w (.bool false) (.slice bO (ae b64 x.num.natAbs).length bQ) (.slice bP 0 bR) 54
 rw[e1]
 clear e1
 refine Calls.mono (jo w1 _ _ (gO.below b1) HB.out.1 cQ) ?_
 rintro e w2 ⟨rfl,hb2⟩
 have k0:=(o1.gone hb2).c0
 have k1:=(o1.gone hb2).c1
 have k2:=(o1.gone hb2).c2
 have DB:=(fO.below b1).below hb2
 have B2:=b1.trans (hb2.mono b1.size)
 go_wp2
 go_ret
 exact⟨rfl,B2⟩
theorem EG (w:World) (v:Value) (x:Rat) (hx:cg w v x) {j:Nat} (hj:dL j x) (cQ:j<=100000000) (hn:x.num<0) (hd:¬x.den=1):Calls Tryz.prog 30 #[v] w (dW w (.string (strOf (iH x)))):=by
 obtain⟨xY,xZ,rfl,gO,fO⟩:=id hx
 obtain⟨bO,bQ,rfl,_⟩:=id gO
 obtain⟨bP,bR,rfl,_⟩:=id fO
 have HB:=bx hj
 have hT:iH x=45::(bI x.num.natAbs++47::bI x.den):=by unfold iH; rw[if_pos hn,if_neg hd]; simp
 rw[hT,decide_eq_true hn]at *
 rw[kH hd]at *
 have TB:(1:Int)<=((ae b64 x.den).length:Int):=by have:=(aD (n:=x.den) ah).2 x.den_pos; omega
 have hl2:=gI hj.2
 have hz2:=bU (bI x.den)
 have ML:=td (bI x.den)
 have hz3:=bU (47::bI x.den)
 have sA:=tc (bI x.num.natAbs)
 have T5:=bU (45::bI x.num.natAbs)
 have T2:=fh (45::bI x.num.natAbs) (47::bI x.den)
 have tD:=gI hj.1
 have hz1:=bU (bI x.num.natAbs)
 have hq1:1+(bI x.num.natAbs).length<=9223372036854775807:=by omega
 have My:1+(bI x.den).length<=9223372036854775807:=by omega
 have PZ:((bI x.num.natAbs).length+1)+((bI x.den).length+1)<=9223372036854775807:=by omega
 clear hj hn hd hT tD hl2
 go_enter Tryz.func30,Tryz.ntmps30
 go_wp2_with fail
 obtain⟨w1,e1,o1,b1,s1⟩:=gj w (.bool true) (.slice bO (ae b64 x.num.natAbs).length bQ) (.slice bP (ae b64 x.den).length bR) 54
 rw[e1]
 clear e1
 refine Calls.mono (jo w1 _ _ (gO.below b1) HB.out.1 cQ) ?_
 rintro e w2 ⟨rfl,hb2⟩
 have k0:=(o1.gone hb2).c0
 have k1:=(o1.gone hb2).c1
 have k2:=(o1.gone hb2).c2
 have DB:=(fO.below b1).below hb2
 have B2:=b1.trans (hb2.mono b1.size)
 go_wp2_with fail
 refine Calls.mono (jo w2 _ _ DB HB.out.2 cQ) ?_
 rintro e w3 ⟨rfl,hb3⟩
 go_wp2
 go_ret
 exact⟨rfl,B2.trans (hb3.mono B2.size)⟩
theorem EI (w:World) (v:Value) (x:Rat) (hx:cg w v x) {j:Nat} (hj:dL j x) (cQ:j<=100000000) (hn:x.num<0) (hd:x.den=1):Calls Tryz.prog 30 #[v] w (dW w (.string (strOf (iH x)))):=by
 obtain⟨xY,xZ,rfl,gO,fO⟩:=id hx
 obtain⟨bO,bQ,rfl,_⟩:=id gO
 obtain⟨bP,bR,rfl,_⟩:=id fO
 have HB:=bx hj
 have hT:iH x=45::bI x.num.natAbs:=by unfold iH; rw[if_pos hn,if_pos hd]; simp
 rw[hT,decide_eq_true hn]at *
 rw[hd,ja,aZ]at *
 have sA:=tc (bI x.num.natAbs)
 have T5:=bU (45::bI x.num.natAbs)
 have tD:=gI hj.1
 have hz1:=bU (bI x.num.natAbs)
 have hq1:1+(bI x.num.natAbs).length<=9223372036854775807:=by omega
 clear hj hn hd hT tD
 go_enter Tryz.func30,Tryz.ntmps30
 go_wp2_with fail
 obtain⟨w1,e1,o1,b1,s1⟩:=gj w (.bool true) (.slice bO (ae b64 x.num.natAbs).length bQ) (.slice bP 0 bR) 54
 rw[e1]
 clear e1
 refine Calls.mono (jo w1 _ _ (gO.below b1) HB.out.1 cQ) ?_
 rintro e w2 ⟨rfl,hb2⟩
 have k0:=(o1.gone hb2).c0
 have k1:=(o1.gone hb2).c1
 have k2:=(o1.gone hb2).c2
 have DB:=(fO.below b1).below hb2
 have B2:=b1.trans (hb2.mono b1.size)
 go_wp2
 go_ret
 exact⟨rfl,B2⟩
theorem Co (w:World) (v:Value) (x:Rat) (hx:cg w v x) {j:Nat} (hj:dL j x) (cQ:j<=100000000):Calls Tryz.prog 30 #[v] w (dW w (.string (strOf (iH x)))):=by
 by_cases hn:x.num<0
 ·by_cases hd:x.den=1
  ·exact EI w v x hx hj cQ hn hd
  ·exact EG w v x hx hj cQ hn hd
 ·by_cases hd:x.den=1
  ·exact EF w v x hx hj cQ hn hd
  ·exact EE w v x hx hj cQ hn hd
end Wx

namespace Wx
open Go Go.RowKit Go.Proofs
end Wx

namespace Wx
open Go Go.RowKit Go.Proofs
end Wx

namespace Wx
open Go Go.RowKit Go.Proofs
variable {x y:Rat} {j k:Nat}
theorem Jt (hx:dL j x) (hy:dL k y) (h:j+k<=10000000):∀w v1 v2,dX x w v1->dX y w v2->Calls Tryz.prog 39 #[v1,v2] w (fk (dX (x*y)) w):=
 λw v1 v2 h1 h2=>D5 w v1 v2 x y h1 h2 hx hy h
theorem Jr (hx:dL j x) (hy:dL k y) (h:j+k+j+k+1<=10000000):∀w v1 v2,dX x w v1->dX y w v2->Calls Tryz.prog 41 #[v1,v2] w (fk (pI (kD x y)) w):=
 λw v1 v2 h1 h2=>(D2 w v1 v2 x y h1 h2 hx hy h).mono λ_ _=>rU
theorem Js (n:Int) (h1:-9223372036854775808<=n) (h2:n<=9223372036854775807):∀w v1,pI n w v1->Calls Tryz.prog 34 #[v1] w (fk (dX (n:Rat)) w):=λw v1 h=>by
 have h:v1=.int .i64 n:=h
 rw[h]
 exact D4 w n h1 h2
end Wx

namespace Wx
open Go Go.RowKit Go.Proofs
end Wx

namespace Wx
open Go Go.RowKit Go.Proofs
variable {x y:Rat} {j k:Nat}
theorem DY (h:j+k<=10000000):∀w v1 v2,pN j x w v1->pN k y w v2->Calls Tryz.prog 39 #[v1,v2] w (fk (pN (j+k) (x*y)) w):=λw v1 v2 h1 h2=>(Jt h1.1 h2.1 h w v1 v2 h1.2 h2.2).mono λ_ _=>fk.map (xC (h1.1.mul h2.1))
theorem MV (h:j+k<=4000000):∀w v1 v2,pN j x w v1->pN k y w v2->Calls Tryz.prog 41 #[v1,v2] w (fk (pI (kD x y)) w):=λw v1 v2 h1 h2=>Jr h1.1 h2.1 (by omega) w v1 v2 h1.2 h2.2
theorem DX {n:Int} (h:-9223372036854775808<=n/\n<=9223372036854775807):∀w v1,pI n w v1->Calls Tryz.prog 34 #[v1] w (fk (pN 64 (n:Rat)) w):=λw v1 h1=>(Js n h.1 h.2 w v1 h1).mono λ_ _=>fk.map (xC (zV h.1 h.2))
end Wx
