import Derived.Lib.Repeat
import Derived.Test.YtocboimkilkklaaGreatJRF36
namespace Wx
set_option maxRecDepth 100000
set_option maxHeartbeats 1000000
open Go Go.RowKit Go.Proofs
def pn (k:Nat) (s:List Nat):List Nat:=List.replicate (k-s.length) 48++s
def aP (n:Nat):List Nat:=if n=0 then[48]else bZ n
theorem yx (n:Nat):Wf 256 (bZ n):=by
 intro x hx
 unfold bZ at hx
 rw[List.mem_reverse,List.mem_map]at hx
 obtain⟨y,hy,rfl⟩:=hx
 have:=bW (b:=10) (by omega) n y hy
 omega
theorem Cg (k:Nat):∀m,0<m/10^k->bZ m=bZ (m/10^k)++pn k (bZ (m%10^k)):=by
 induction k with
 |zero=>intro m _; simp[pn,Nat.mod_one,je]
 |succ k ih=>
  intro m h
  have hm:0<m:=by
   rcases Nat.eq_zero_or_pos m with rfl|h'
   ·simp at h
   ·exact h'
  have e1:m/10/10^k=m/10^(k+1):=by rw[Nat.div_div_eq_div_mul,Nat.pow_succ,Nat.mul_comm]
  have e2:m%10^(k+1)/10=m/10%10^k:=by rw[Nat.pow_succ,Nat.mul_comm,Nat.mod_mul_right_div_self]
  have e3:m%10^(k+1)%10=m%10:=by
   rw[Nat.pow_succ,Nat.mul_comm]; exact Nat.mod_mul_right_mod _ _ _
  rw[mH hm,ih (m/10) (by rw[e1]; exact h),e1,List.append_assoc]
  congr 1
  rcases Nat.eq_zero_or_pos (m%10^(k+1))with h0|h0
  ·rw[h0]at e2 e3 ⊢
   rw[<-e2,<-e3]
   simp[pn,je,<-List.replicate_succ']
  ·rw[mH h0,e2,e3]
   unfold pn
   rw[List.length_append,List.length_singleton,List.append_assoc]
   congr 2
   omega
variable {k:Nat}
theorem L9 {s:List Nat} (h:Wf 256 s):Wf 256 (pn k s):=by
 intro x hx
 rcases List.mem_append.1 hx with h'|h'
 ·have:=(List.mem_replicate.1 h').2; omega
 ·exact h x h'
theorem cO (a b:List Nat):strOf a++strOf b=strOf (a++b):=by
 apply ByteArray.ext
 rw[ByteArray.data_append]
 simp[strOf]
def strs (P:List (List Nat)):List Value:=P.map λp=>Value.string (strOf p)
def eE (P:List (List Nat)):List Nat:=P.reverse.flatten
variable {P:List (List Nat)}
theorem Cn {p:List Nat} (h:P[k]?=some p):eE (P.drop k)=eE (P.drop (k+1))++p:=by
 obtain⟨hk,e⟩:=List.getElem?_eq_some_iff.1 h
 rw[List.drop_eq_getElem_cons hk,e]
 simp[eE]
theorem tZ (P:List (List Nat)) (k:Nat):(eE (P.drop k)).length<=(eE P).length:=by
 have h:eE P=eE (P.drop k)++eE (P.take k):=by
  unfold eE
  rw[<-List.flatten_append,<-List.reverse_append,List.take_append_drop]
 rw[h,List.length_append]; omega
def iK (l:List Nat):List Value:=Lib.byteCells (l.map UInt8.ofNat)
theorem yg (p:List Nat):Lib.strCells (strOf p)=iK p:=by
 rw[Lib.strCells_eq]; simp[strOf,iK]
theorem vW (a b:List Nat):iK (a++b)=iK a++iK b:=by
 unfold iK; rw[List.map_append,Lib.byteCells_append]
theorem vX (a:List Nat):(iK a).length=a.length:=by
 unfold iK; rw[Lib.byteCells_length,List.length_map]
variable {w:World} {c:Nat}
theorem GA {base:Nat} {e:TypeId} {A:Option Addr} (h:w.ownsRow base e 1 (.slice A P.length c) P.length (strs P)) {k:Nat} {p:List Nat} (hk:P[k]?=some p):
  ∃g,A=some ⟨g,0,none⟩/\g<w.heap.size/\P.length<=c/\c<=maxLen/\w.cell? ⟨g,0+k,none⟩=some (.string (strOf p)):=by
 obtain⟨hk',_⟩:=List.getElem?_eq_some_iff.1 hk
 rcases h.2 with⟨h1,h2⟩|⟨g,cap,cur,hv,hb,hg,hn,hm,hs,ht⟩
 ·omega
 ·injection hv with e1 e2 e3
  subst e1 e3
  have:=h.cells (g:=g) rfl k (.string (strOf p)) (by simp[strs,hk])
  rw[show(⟨g,0,none⟩:Addr).add k=⟨g,0+k,none⟩ by simp[Addr.add]; omega]at this
  refine⟨g,rfl,?_,hn,hm,this⟩
  rcases Nat.lt_or_ge g w.heap.size with h'|h'
  ·exact h'
  ·simp[Array.getElem?_eq_none h']at hg
theorem ua (P:List (List Nat)) (p:List Nat):eE (P++[p])=p++eE P:=by simp[eE]
theorem zj (c:Nat):(⟨(Lib.repeatL (⟨#[48]⟩:ByteArray).data.toList c).toArray⟩:ByteArray)=strOf (List.replicate c 48):=by
 have:∀c,Lib.repeatL [48] c=List.replicate c 48:=by
  intro c
  induction c with
  |zero=>rfl
  |succ c ih=>unfold Lib.repeatL; rw[ih]; rfl
 show(⟨(Lib.repeatL [48] c).toArray⟩:ByteArray)=_
 rw[this]
 simp[strOf]
theorem Bj (h:∀p∈P,p≠[]):P.length<=(eE P).length:=by
 unfold eE
 induction P with
 |nil=>simp
 |cons p P ih=>
  have h1:=ih (λq hq=>h q (List.mem_cons_of_mem _ hq))
  have h2:=List.length_pos_iff.2 (h p (by simp))
  simp at h1 ⊢
  omega
theorem Mo:(Tryz.prog.info? 9).map (λi=>(i.zero,i.size,i.bytes))=some (some (.string ⟨#[]⟩),1,16):=by kernel_rfl
def QE (j n:Nat):Prop:=(bZ n).length<=j
variable {n:Nat}
theorem yy {j:Nat} (h:Bd j n):QE j n:=mG (Nat.lt_of_lt_of_le h (Nat.pow_le_pow_left (by omega) j))
theorem vL:aP 0=[48]:=rfl
theorem xU (h:0<n):aP n=bZ n:=by unfold aP; rw[if_neg (by omega)]
theorem bq.grown {k:IntKind} {bs:Nat} {w':World} {b l:Nat} {row:Option Nat} (h:bq k bs w (.slice (some ⟨b,0,none⟩) l c) n) (hg:w.grownBy w' row) (hne:∀g,row=some g->g≠b):bq k bs w' (.slice (some ⟨b,0,none⟩) l c) n:=by
 obtain⟨A,c',e,h1,h2,h3⟩:=h
 refine⟨A,c',e,h1,h2,λhl=>?_⟩
 obtain⟨b',o,e',hc⟩:=h3 hl
 refine⟨b',o,e',λi hi=>?_⟩
 subst e'
 injection e with e1 e2 e3
 injection e1 with e1
 injection e1 with e4 e5
 subst e4
 exact hg.cell (hc i hi) (λe=>hne _ e.symm rfl)
theorem oJ {P:Program} {ops:Array Oper} {rest:List Oper} {o:Oper} {a:Act} {Q:Exit->Act->World->Prop} (hgd:o.guard=none) (s x:Operand) (t:TypeId)
  (ho:o.op=.call { callee:=.builtin .append,args:=#[s,x],argTypes:=#[t,t] }) (base:Nat) (e:TypeId) (i:TypeInfo) (ht:P.underlying t=some (.slice e)) (hi:P.info? e=some i) (hz:i.zero=some (.string ⟨#[]⟩))
  (hsize:i.size=1) (hby:i.bytes=16) {A:Option Addr} {c:Nat} (L:List (List Nat)) (hs:a.eval s=.slice A L.length c) (w:World) (hown:w.ownsRow base e 1 (.slice A L.length c) L.length (strs L))
  (p:List Nat) (hx:a.eval x=.slice (some ⟨w.heap.size,0,none⟩) 1 1) (hL:L.length<=1000000000) (hbase:base<=w.heap.size)
  (h:∀A' c' w',w'.ownsRow base e 1 (.slice A' (L++[p]).length c') (L++[p]).length (strs (L++[p]))->Below base (w.alloc (.cells #[.string (strOf p)] e)) w'->(w.alloc (.cells #[.string (strOf p)] e)).grownBy w' (Value.slice A L.length c).ownBlock->wpList P ops Q rest (a.put o.dst (.slice A' (L++[p]).length c')) w'):
  wpList P ops Q (o::rest) a (w.alloc (.cells #[.string (strOf p)] e)):=by
 refine wpList_append_own _ hgd s x t ho base e i (.string ⟨#[]⟩) 1 16 ht hi hz hsize hby rfl (by decide) _ _ _ hs (hown.alloc _) ⟨w.heap.size,0,none⟩ 1 1 [.string (strOf p)] hx rfl ?_ ?_ (by unfold maxLen; omega) (by omega) (by simp; omega) ?_
 ·intro j u hj
  match j,hj with
  |0,hj=>simp at hj; subst hj; simp[Addr.add]
 ·intro u hu; simp at hu; subst hu; rfl
 ·intro v' w' hown' hg _
  have e1:(L++[p]).length=L.length+1:=by simp
  have e2:strs (L++[p])=strs L++[.string (strOf p)]:=by simp[strs]
  have hb:Below base (w.alloc (.cells #[.string (strOf p)] e)) w':=(Below.refl _ _).grown hg (by simp; omega) (λk hk=>(hown.lt k hk).1)
  rw[<-e2,<-e1]at hown'
  rcases hown'.2 with⟨h1,h2⟩|⟨g,cap,cur,hv,hr⟩
  ·simp at h2
  ·subst hv
   exact h _ _ _ hown' hb hg
theorem lz (w:World) (v:Value) (n:Nat) (h:bq .u64 b64 w v n) {j:Nat} (hj:Bd j n) (de:j<=100000000):Calls Tryz.prog 66 #[v] w (dY w (.string (strOf (aP n)))):=by
 have HL:=bx (yy hj)
 have HB:=bx hj
 clear hj
 go_enter Tryz.func66,Tryz.ntmps66
 go_wp2_with fail
 go_loopw [0,3] (λs0 s3 wr=>∃(m:Nat) (P:List (List Nat)) (A:Option Addr) (c:Nat),bq .u64 b64 wr s0 m/\s3=.slice A P.length c/\wr.ownsRow w.heap.size 9 1 (.slice A P.length c) P.length (strs P)/\Below w.heap.size w wr/\Bx (bZ n=bZ m++eE P)/\Bx (∀p∈P,p≠[]/\Wf 256 p)/\Bx (Bd j m)) (λs0 _ wr=>numOf wr s0)
 case atStart=>exact⟨n,[],none,0,h,rfl,World.ownsRow_nil _ _ _ _,Below.refl _ _,bx (by simp[eE]),bx (by simp),HB⟩
 case round=>
  clear h HB
  obtain⟨m,P,A,c,hm,rfl,hown,hb,HD,HP,HB⟩:=hrel
  have Yy:P.length<=100000000:=by
   have h1:=Bj (λp hp=>(HP.out p hp).1)
   have h2:(bZ n).length<=j:=HL.out
   rw[HD.out,List.length_append]at h2
   omega
  rcases Nat.eq_zero_or_pos m with rfl|hm0
  ·obtain⟨A0,c0,rfl,hr⟩:=id hm
   rw[bE]at hr ⊢
   have W7:=HL
   have wH:Bx (bZ n=eE P):=bx (by rw[HD.out,je,List.nil_append])
   clear HD HB hm hr
   by_cases SX:P=[]
   ·subst SX
    have zy:n=0:=by
     rcases Nat.eq_zero_or_pos n with h|h
     ·exact h
     ·have:=lE h
      rw[wH.out]at this
      simp[eE]at this
    subst zy
    rw[vL]
    go_wp2
    go_ret
    exact⟨rfl,hb⟩
   ·have zy:0<n:=by
     rcases Nat.eq_zero_or_pos n with h|h
     ·exfalso
      have h1:=Bj (λp hp=>(HP.out p hp).1)
      have h2:=List.length_pos_iff.2 SX
      rw[<-wH.out,h,je]at h1
      have h3:P.length<=0:=h1
      omega
     ·exact h
    have HT:=bx (xU zy)
    have hp1:(1:Int)<=(P.length:Int):=by have:=List.length_pos_iff.2 SX; omega
    have hpe:((P.length:Int)==0)=false:=beq_eq_false_iff_ne.2 (by omega)
    have Fy:Wf 256 (eE P):=by rw[<-wH.out]; exact yx _
    have hlf:(eE P).length<=100000000:=by
     have h2:(bZ n).length<=j:=HL.out
     rw[wH.out]at h2; omega
    clear SX zy
    have XN:=bx hlf
    have HW2:=bx Fy
    clear hlf Fy
    go_wp2_with fail
    have Rj:=Lib.fresh_isBuilder 152 5 wr
    have Iv:Below wr.heap.size wr (wr.alloc (.cells #[.pointer none,.slice none 0 0] 152)):=Below.alloc (Below.refl _ _) (Nat.le_refl _) _
    generalize wr.alloc (.cells #[.pointer none,.slice none 0 0] 152)=wb at *
    obtain⟨wo,rfl⟩:∃wo:World,wo=wr:=⟨_,rfl⟩
    go_loopw [8] (λs8 wx=>∃k:Nat,k<=P.length/\s8=.int .i64 ((k:Int)-1)/\Lib.IsBuilder 152 5 wo.heap.size wo.heap.size (iK (eE (P.drop k))) wx/\Below wo.heap.size wo wx) (λs8 _=>(RowKit.intOf s8+1).toNat)
    case atStart=>exact⟨P.length,Nat.le_refl _,rfl,by rw[List.drop_length]; exact Rj,Iv⟩
    case round=>
     clear Rj Iv
     obtain⟨k,hk,rfl,hib,Rm⟩:=hrel
     rcases Nat.eq_zero_or_pos k with rfl|hpos
     ·rw[show(((0:Nat):Int)-1) = -1 by omega]
      rw[List.drop_zero]at hib
      go_wp2_with fail
      refine Calls.mono (Tryz.Builder_String_any wo.heap.size wo.heap.size ((eE P).map UInt8.ofNat) wr hib Rm.size) ?_
      rintro e wf ⟨rfl,S0⟩
      go_wp2
      go_ret
      rw[HT.out,wH.out]
      exact⟨rfl,hb.trans ((Rm.trans S0).mono hb.size)⟩
     ·obtain⟨i,rfl⟩:∃i,k=i+1:=⟨k-1,by omega⟩
      rw[show(((i+1:Nat):Int)-1)=(i:Int) by omega]
      obtain⟨p,hp⟩:∃p,P[i]?=some p:=⟨P[i]'(by omega),List.getElem?_eq_getElem (by omega)⟩
      obtain⟨g,rfl,UO,hg2,hg3,UD⟩:=GA hown hp
      have Rp:wr.cell? ⟨g,0+i,none⟩=some (.string (strOf p)):=by rw[Rm.cell UO]; exact UD
      rw[Nat.zero_add]at Rp
      have UN:=Cn hp
      have P7:=tZ P i
      have Wr:=bx (sD wo.heap.size wo.heap.size (iK (eE (P.drop (i+1)))) (strOf p) wr hib (by
       rw[vX,bj]
       rw[UN,List.length_append]at P7
       have:=XN.out
       omega) Rm.size)
      have XK:=bx (show iK (eE (P.drop (i+1)))++Lib.strCells (strOf p)=iK (eE (P.drop i)) by rw[yg,UN,vW])
      have UY:(0:Int)<=(i:Int):=by omega
      have UZ:(i:Int)<(P.length:Int):=by omega
      clear UD UN P7 hp
      go_wp2_with fail
      refine Calls.mono Wr.out ?_
      rintro e wy ⟨rfl,hby,hbz⟩
      rw[XK.out]at hby
      clear Wr Rp
      go_wp2
      go_roundw
      case rel=>
       have YO:(Value.int .i64 (i:Int):Value)=.int .i64 (i:Int):=rfl
       (repeat apply Exists.intro)
       exact⟨⟨i,by omega,by go_num,.inr hby,Rm.trans hbz⟩,rfl⟩
      case measure=>simp[RowKit.intOf]
  ·have OS:0<(ae b64 m).length:=(az (n:=m) ai).2 hm0
   have qO:(1:Int)<=((ae b64 m).length:Int):=by omega
   have hc:=rK wr _ m 10000000000000000000 hm HB.out (by omega) (by omega) (by unfold b64; omega)
   obtain⟨q,hq⟩:∃q,q=m/10000000000000000000:=⟨_,rfl⟩
   obtain⟨r,hr⟩:∃r,r=m%10000000000000000000:=⟨_,rfl⟩
   have MB:=bx (show r<10000000000000000000 by omega)
   have MC:=bx (show q=0->r=m by omega)
   have HQ:=bx (show q<m by omega)
   have XS:=bx (show q<=m by omega)
   rw[<-hq,<-hr,show(((10000000000000000000:Nat):Int))=10000000000000000000 from rfl]at hc
   have Tj:Bx (0<q->bZ m=bZ q++pn 19 (bZ r)):=bx (λh=>by
    have:=Cg 19 m
    rw[show(10:Nat)^19=10000000000000000000 by decide,<-hq,<-hr]at this
    exact this h)
   clear hq hr
   obtain⟨A0,c0,rfl,hr⟩:=id hm
   have HM:=bx hm0
   have HC:=bx hc
   clear hm0 hc hr
   go_wp2_with fail
   refine Calls.mono HC.out ?_
   rintro e w1 ⟨l1,c1,rfl,hq,hb1⟩
   have XW:=bx (show r<b64 by have:=MB.out; unfold b64; omega)
   go_wp2_with fail
   refine Calls.mono (zZ w1 r XW.out) ?_
   rintro e w2 ⟨rfl,hb2⟩
   have OZ:=hq.below hb2
   have hb3:=(hb.trans (hb1.mono hb.size)).trans (hb2.mono (hb.trans (hb1.mono hb.size)).size)
   have yH:=hb1.trans (hb2.mono hb1.size)
   clear hq hb2
   have hdl:(bZ r).length<=19:=mG (by have:=MB.out; omega)
   have YT:((bZ r).length:Int)<=19:=by omega
   have hsz:=bj (bZ r)
   obtain⟨_,_,Fv,_⟩:=id OZ
   injection Fv with e1 e2 e3
   subst e1 e2 e3
   obtain⟨i0,hi,hz0,hz1,hz2⟩:=info_parts Mo
   have D1:=hown.kept (di yH none) (by cases A with|none=>exact .inl rfl|some a=>exact .inr (by simp[Value.ownBlock]))
   have Wl:Bx (∀g,(Value.slice A P.length c).ownBlock=some g->g≠wr.heap.size):=bx (λg hg=>by have:=(hown.lt g hg).2; omega)
   rcases Nat.eq_zero_or_pos q with rfl|RR
   ·have cW:Bx (bZ n=bZ 0++eE (P++[bZ r])):=bx (by
     rw[ua,je,List.nil_append,MC.out rfl]; exact HD.out)
    have S5:Bx (∀p∈P++[bZ r],p≠[]/\Wf 256 p):=bx (λp hp=>by
     rcases List.mem_append.1 hp with h|h
     ·exact HP.out p h
     ·simp at h
      subst h
      exact⟨List.length_pos_iff.1 (lE (by rw[MC.out rfl]; exact HM.out)),yx _⟩)
    have hbd:Bx (Bd j 0):=bx (HB.out.le (Nat.zero_le _))
    clear HC Tj MC hown
    rw[bE]
    go_wp2_with (at_builtin; refine oJ rfl (.tmp 28) (.tmp 30) 144 rfl w.heap.size 9 i0 Tryz.underlying144 hi hz0 hz1 hz2 P rfl w2 D1 (bZ r) rfl (by omega) hb3.size ?_; intro A3 c3 w4 pX hb4 hg4)
    have hz:=((hb3.alloc hb3.size (.cells #[.string (strOf (bZ r))] 9)).trans hb4)
    have KF:=(OZ.below (Below.alloc (Below.refl _ _) (Nat.le_refl _) (.cells #[.string (strOf (bZ r))] 9))).grown hg4 Wl.out
    rw[bE]at KF
    have KF:bq .u64 b64 w4 (.slice (some ⟨wr.heap.size,0,none⟩) 0 c1) 0:=KF
    go_wp2
    go_roundw
    case rel=>
     exact⟨0,P++[bZ r],A3,c3,KF,by simp,pX,hz,cW,S5,hbd⟩
    case measure=>rw[KF.of_eq,hm.of_eq]; exact HM.out
   ·have Vi:(1:Int)<=((ae b64 q).length:Int):=by have:=(az (n:=q) ai).2 RR; omega
    have OY:pn 19 (bZ r)=List.replicate (19-(bZ r).length) 48++bZ r:=rfl
    have RN:(pn 19 (bZ r)).length=19:=by rw[OY,List.length_append,List.length_replicate]; omega
    have cW:Bx (bZ n=bZ q++eE (P++[pn 19 (bZ r)])):=bx (by
     rw[ua,<-List.append_assoc,<-Tj.out RR]; exact HD.out)
    have S5:Bx (∀p∈P++[pn 19 (bZ r)],p≠[]/\Wf 256 p):=bx (λp hp=>by
     rcases List.mem_append.1 hp with h|h
     ·exact HP.out p h
     ·simp at h
      subst h
      exact⟨List.length_pos_iff.1 (by omega),L9 (yx _)⟩)
    have hbd:Bx (Bd j q):=bx (HB.out.le XS.out)
    have XR:=bx OY
    clear RR OY RN HC Tj MC
    have Zn:(strOf (List.replicate (19-(bZ r).length) 48)).size=19-(bZ r).length:=by rw[bj,List.length_replicate]
    have Zo:(19-(bZ r).length)+(bZ r).length<=9223372036854775807:=by omega
    have Zm:19-(bZ r).length<=19:=by omega
    go_wp2_with fail
    rw[show(19:Int)-((bZ r).length:Int)=((19-(bZ r).length:Nat):Int) by omega]
    refine Calls.mono (Tryz.strings_Repeat ⟨#[48]⟩ (19-(bZ r).length) w2 (by omega) (by show 1*_<=_; omega)) ?_
    rw[zj]
    rintro e w3 ⟨rfl,hb4⟩
    have D2:=D1.kept (di hb4 none) (by cases A with|none=>exact .inl rfl|some a=>exact .inr (by simp[Value.ownBlock]))
    have RS:=OZ.below hb4
    have MZ:=hb3.trans (hb4.mono hb3.size)
    have Uy:strOf (List.replicate (19-(bZ r).length) 48)++strOf (bZ r)=strOf (pn 19 (bZ r)):=by rw[cO]; rfl
    go_wp2_with (at_builtin; refine oJ rfl (.tmp 28) (.tmp 30) 144 rfl w.heap.size 9 i0 Tryz.underlying144 hi hz0 hz1 hz2 P rfl w3 D2 (pn 19 (bZ r)) rfl (by omega) MZ.size ?_; intro A3 c3 w4 pX OD hg4)
    have hz:=((MZ.alloc MZ.size (.cells #[.string (strOf (pn 19 (bZ r)))] 9)).trans OD)
    have KF:=(RS.below (Below.alloc (Below.refl _ _) (Nat.le_refl _) (.cells #[.string (strOf (pn 19 (bZ r)))] 9))).grown hg4 Wl.out
    clear Uy
    go_wp2
    go_roundw
    case rel=>
     exact⟨q,P++[pn 19 (bZ r)],A3,c3,KF,by simp,pX,hz,cW,S5,hbd⟩
    case measure=>rw[KF.of_eq,hm.of_eq]; exact HQ.out
end Wx

namespace Wx
set_option maxRecDepth 100000
set_option maxHeartbeats 1000000
open Go Go.RowKit Go.Proofs
def eK (q:Rat):List Nat:=(if q.num<0 then[45]else[])++(aP q.num.natAbs++(if q.den=1 then[]else 47::aP q.den))
theorem dD {j n:Nat} (h:Bd j n):(aP n).length<=j+1:=by
 unfold aP
 split
 ·simp
 ·have:=yy h; unfold QE at this; omega
theorem nL (l:List Nat):(⟨#[45]⟩:ByteArray)++strOf l=strOf (45::l):=cO [45] l
theorem wP (l:List Nat):(⟨#[47]⟩:ByteArray)++strOf l=strOf (47::l):=cO [47] l
theorem J0 (w:World) (v:Value) (x:Rat) (hx:cq w v x) {j:Nat} (hj:bg j x) (de:j<=100000000) (hn:¬x.num<0) (hd:¬x.den=1):Calls Tryz.prog 27 #[v] w (dY w (.string (strOf (eK x)))):=by
 obtain⟨oz,oA,rfl,cw,cT⟩:=id hx
 obtain⟨aV,aX,rfl,_⟩:=id cw
 obtain⟨aW,aY,rfl,_⟩:=id cT
 have HB:=bx hj
 have hT:eK x=aP x.num.natAbs++47::aP x.den:=by unfold eK; rw[if_neg hn,if_neg hd]; simp
 rw[hT,decide_eq_false hn]at *
 rw[mI hd]at *
 have Y2:(1:Int)<=((ae b64 x.den).length:Int):=by have:=(az (n:=x.den) ai).2 x.den_pos; omega
 have hl2:=dD hj.2
 have hz2:=bj (aP x.den)
 have O7:=wP (aP x.den)
 have hz3:=bj (47::aP x.den)
 have O8:=cO (aP x.num.natAbs) (47::aP x.den)
 have qO:=dD hj.1
 have hz1:=bj (aP x.num.natAbs)
 have OZ:1+(aP x.den).length<=9223372036854775807:=by omega
 have RS:(aP x.num.natAbs).length+((aP x.den).length+1)<=9223372036854775807:=by omega
 clear hj hn hd hT qO hl2
 go_enter Tryz.func27,Tryz.ntmps27
 go_wp2_with fail
 obtain⟨w1,e1,o1,b1,s1⟩:=fh w (.bool false) (.slice aV (ae b64 x.num.natAbs).length aX) (.slice aW (ae b64 x.den).length aY) 32
 rw[e1]
 clear e1
 refine Calls.mono (lz w1 _ _ (cw.below b1) HB.out.1 de) ?_
 rintro e w2 ⟨rfl,hb2⟩
 have k0:=(o1.gone hb2).c0
 have k1:=(o1.gone hb2).c1
 have k2:=(o1.gone hb2).c2
 have IP:=(cT.below b1).below hb2
 have B2:=b1.trans (hb2.mono b1.size)
 go_wp2_with fail
 refine Calls.mono (lz w2 _ _ IP HB.out.2 de) ?_
 rintro e w3 ⟨rfl,hb3⟩
 go_wp2
 go_ret
 exact⟨rfl,B2.trans (hb3.mono B2.size)⟩
theorem J1 (w:World) (v:Value) (x:Rat) (hx:cq w v x) {j:Nat} (hj:bg j x) (de:j<=100000000) (hn:¬x.num<0) (hd:x.den=1):Calls Tryz.prog 27 #[v] w (dY w (.string (strOf (eK x)))):=by
 obtain⟨oz,oA,rfl,cw,cT⟩:=id hx
 obtain⟨aV,aX,rfl,_⟩:=id cw
 obtain⟨aW,aY,rfl,_⟩:=id cT
 have HB:=bx hj
 have hT:eK x=aP x.num.natAbs:=by unfold eK; rw[if_neg hn,if_pos hd]; simp
 rw[hT,decide_eq_false hn]at *
 rw[hd,kL,bE]at *
 have qO:=dD hj.1
 have hz1:=bj (aP x.num.natAbs)
 clear hj hn hd hT qO
 go_enter Tryz.func27,Tryz.ntmps27
 go_wp2_with fail
 obtain⟨w1,e1,o1,b1,s1⟩:=fh w (.bool false) (.slice aV (ae b64 x.num.natAbs).length aX) (.slice aW 0 aY) 32
 rw[e1]
 clear e1
 refine Calls.mono (lz w1 _ _ (cw.below b1) HB.out.1 de) ?_
 rintro e w2 ⟨rfl,hb2⟩
 have k0:=(o1.gone hb2).c0
 have k1:=(o1.gone hb2).c1
 have k2:=(o1.gone hb2).c2
 have IP:=(cT.below b1).below hb2
 have B2:=b1.trans (hb2.mono b1.size)
 go_wp2
 go_ret
 exact⟨rfl,B2⟩
theorem J2 (w:World) (v:Value) (x:Rat) (hx:cq w v x) {j:Nat} (hj:bg j x) (de:j<=100000000) (hn:x.num<0) (hd:¬x.den=1):Calls Tryz.prog 27 #[v] w (dY w (.string (strOf (eK x)))):=by
 obtain⟨oz,oA,rfl,cw,cT⟩:=id hx
 obtain⟨aV,aX,rfl,_⟩:=id cw
 obtain⟨aW,aY,rfl,_⟩:=id cT
 have HB:=bx hj
 have hT:eK x=45::(aP x.num.natAbs++47::aP x.den):=by unfold eK; rw[if_pos hn,if_neg hd]; simp
 rw[hT,decide_eq_true hn]at *
 rw[mI hd]at *
 have Y2:(1:Int)<=((ae b64 x.den).length:Int):=by have:=(az (n:=x.den) ai).2 x.den_pos; omega
 have hl2:=dD hj.2
 have hz2:=bj (aP x.den)
 have O7:=wP (aP x.den)
 have hz3:=bj (47::aP x.den)
 have qP:=nL (aP x.num.natAbs)
 have VE:=bj (45::aP x.num.natAbs)
 have O8:=cO (45::aP x.num.natAbs) (47::aP x.den)
 have qO:=dD hj.1
 have hz1:=bj (aP x.num.natAbs)
 have hq1:1+(aP x.num.natAbs).length<=9223372036854775807:=by omega
 have OZ:1+(aP x.den).length<=9223372036854775807:=by omega
 have RS:((aP x.num.natAbs).length+1)+((aP x.den).length+1)<=9223372036854775807:=by omega
 clear hj hn hd hT qO hl2
 go_enter Tryz.func27,Tryz.ntmps27
 go_wp2_with fail
 obtain⟨w1,e1,o1,b1,s1⟩:=fh w (.bool true) (.slice aV (ae b64 x.num.natAbs).length aX) (.slice aW (ae b64 x.den).length aY) 32
 rw[e1]
 clear e1
 refine Calls.mono (lz w1 _ _ (cw.below b1) HB.out.1 de) ?_
 rintro e w2 ⟨rfl,hb2⟩
 have k0:=(o1.gone hb2).c0
 have k1:=(o1.gone hb2).c1
 have k2:=(o1.gone hb2).c2
 have IP:=(cT.below b1).below hb2
 have B2:=b1.trans (hb2.mono b1.size)
 go_wp2_with fail
 refine Calls.mono (lz w2 _ _ IP HB.out.2 de) ?_
 rintro e w3 ⟨rfl,hb3⟩
 go_wp2
 go_ret
 exact⟨rfl,B2.trans (hb3.mono B2.size)⟩
theorem J3 (w:World) (v:Value) (x:Rat) (hx:cq w v x) {j:Nat} (hj:bg j x) (de:j<=100000000) (hn:x.num<0) (hd:x.den=1):Calls Tryz.prog 27 #[v] w (dY w (.string (strOf (eK x)))):=by
 obtain⟨oz,oA,rfl,cw,cT⟩:=id hx
 obtain⟨aV,aX,rfl,_⟩:=id cw
 obtain⟨aW,aY,rfl,_⟩:=id cT
 have HB:=bx hj
 have hT:eK x=45::aP x.num.natAbs:=by unfold eK; rw[if_pos hn,if_pos hd]; simp
 rw[hT,decide_eq_true hn]at *
 rw[hd,kL,bE]at *
 have qP:=nL (aP x.num.natAbs)
 have VE:=bj (45::aP x.num.natAbs)
 have qO:=dD hj.1
 have hz1:=bj (aP x.num.natAbs)
 have hq1:1+(aP x.num.natAbs).length<=9223372036854775807:=by omega
 clear hj hn hd hT qO
 go_enter Tryz.func27,Tryz.ntmps27
 go_wp2_with fail
 obtain⟨w1,e1,o1,b1,s1⟩:=fh w (.bool true) (.slice aV (ae b64 x.num.natAbs).length aX) (.slice aW 0 aY) 32
 rw[e1]
 clear e1
 refine Calls.mono (lz w1 _ _ (cw.below b1) HB.out.1 de) ?_
 rintro e w2 ⟨rfl,hb2⟩
 have k0:=(o1.gone hb2).c0
 have k1:=(o1.gone hb2).c1
 have k2:=(o1.gone hb2).c2
 have IP:=(cT.below b1).below hb2
 have B2:=b1.trans (hb2.mono b1.size)
 go_wp2
 go_ret
 exact⟨rfl,B2⟩
theorem xR (w:World) (v:Value) (x:Rat) (hx:cq w v x) {j:Nat} (hj:bg j x) (de:j<=100000000):Calls Tryz.prog 27 #[v] w (dY w (.string (strOf (eK x)))):=by
 by_cases hn:x.num<0
 ·by_cases hd:x.den=1
  ·exact J3 w v x hx hj de hn hd
  ·exact J2 w v x hx hj de hn hd
 ·by_cases hd:x.den=1
  ·exact J1 w v x hx hj de hn hd
  ·exact J0 w v x hx hj de hn hd
end Wx

namespace Wx
set_option maxRecDepth 100000
set_option maxHeartbeats 1000000
open Go Go.RowKit Go.Proofs
set_option linter.unusedVariables false
attribute [local irreducible] OpOk
def nA (ms:Nat->List Rat):Nat->List Rat
 |0=>[0,0,0]
 |k+1=>[(nA ms k).getD 0 0+(ms k).getD 0 0,(nA ms k).getD 1 0+(ms k).getD 0 0*(ms k).getD 1 0,(nA ms k).getD 2 0+(ms k).getD 0 0*(ms k).getD 2 0]
variable {ms:Nat->List Rat}
theorem J8:∀k,(nA ms k).length=3
 |0=>rfl
 |_+1=>rfl
structure Mx (n j J:Nat) (ms:Nat->List Rat):Prop where
 len:1<=n/\n<=64
 bits:1<=J/\J<=1000000/\j<=1000000
 el:∀i,i<n->(ms i).length=3/\0<=dS ((ms i).getD 0 0)
 bd:∀k q,k<=n->q<3->bg J ((nA ms k).getD q 0)
 some:(nA ms n).getD 0 0≠0
variable {j:Nat}
theorem FF {n J:Nat} (h:Mx n j J ms):K1 Tryz.prog 24 (dK 9 true n λi=>pV au j (ms i)) (fo (pV au (2*J) [(nA ms n).getD 0 0,(nA ms n).getD 1 0/(nA ms n).getD 0 0,(nA ms n).getD 2 0/(nA ms n).getD 0 0]) (pI 0)):=by
 intro M w0 v0 hM hv0
 have h1:=h.len
 have h2:=h.bits
 have hl:=J8 (ms:=ms)
 refine Dj (N:=67) Tryz.func24 rfl rfl rfl hM hv0 λa hI=>?_
 refine dQ hI 2 [⟨2,2,some 0,none,.ptr,78,9,true,pv _,[]⟩] [] [Uc 1 3 _] .z (.k .z) ⟨rA [.r,.r,.r],mv,trivial⟩ (.k .z) (.kk .z) λa w hI=>?_
 refine aU ?_
 refine dQ hI 8 [] [] [Uc 0 7 _,Uc 1 8 _,Uc 2 9 _,Uc 3 10 _,Uc 4 11 _,Uc 5 12 _,Uc 6 13 _,Uc 7 14 _] (.k .z) (.kk .z) ⟨mv,ln,bn,mv,gd λh=>Fk h,gd λh=>WE h,gd λh=>DW h,pk,trivial⟩ (.k .z) (.gX (.ek (.dk .z))) λa w hI=>?_
 refine Kl hI (λt1=>?_) (λt1=>?_)
 ·exfalso; simp only[Bool.or_eq_true,decide_eq_true_eq]at t1; omega
 refine bD ?_
 refine aj ?_
 refine dQ hI 1 [⟨4,4,some 0,none,.ptr,78,9,true,pv _,[]⟩] [] [] (.k .z) (.fS .z) ⟨VN J 3,trivial⟩ (.k (.k .z)) (.ZB .z) λa w hI=>?_
 refine aU ?_
 refine dQ hI 3 [] [] [Uc 0 16 _,Uc 1 17 _,Uc 2 18 _] (.k (.k .z)) (.kk .z) ⟨mv,ln,mv,trivial⟩ (.k (.k .z)) (.Ol (.k .z)) λa w hI=>?_
 refine bN ?_
 refine GV [Vz 2 2 78 9 true _] [Uz 16 _,Uz 17 _] (λ(i:Nat)=>[Vz 4 4 78 9 true (pV au J (nA ms i))]) (λ(i:Nat)=>[Uz 18 (pI (i:Int))]) (λ(i:Nat)=>i<=n) (λ(i:Nat)=>n-i) (0) (Nat.zero_le _) hI ⟨vi,vC (λ_ _ h=>h),trivial⟩ ⟨gi,gi,gc,trivial⟩ ?_
 intro i a w hi hI
 refine dQ hI 1 [] [] [Uc 0 19 _] (.k (.k .z)) (.fS .z) ⟨bn,trivial⟩ (.k (.k .z)) (.aK .z) λa w hI=>?_
 refine aU ?_
 refine sC hI (λt2=>?_) (λt2=>?_)
 ·
  refine bD ?_
  refine aj ?_
  refine aU ?_
  refine bN ?_
  have hl2:=(h.el i (by omega)).1
  have hs2:=(h.el i (by omega)).2
  have qO:=hl i
  have hb0:bg J ((nA ms i).getD 0 0+(ms i).getD 0 0):=h.bd (i+1) 0 (by omega) (by decide)
  have hb1:bg J ((nA ms i).getD 1 0+(ms i).getD 0 0*(ms i).getD 1 0):=h.bd (i+1) 1 (by omega) (by decide)
  have hb2:bg J ((nA ms i).getD 2 0+(ms i).getD 0 0*(ms i).getD 2 0):=h.bd (i+1) 2 (by omega) (by decide)
  refine dQ hI 4 [⟨6,6,some 2,none,.ptr,78,9,true,pv _,[(3,pv _)]⟩] [] [Uc 0 20 _,Uc 1 21 _] (.k (.k .z)) (.aK .z) ⟨ix,ld,rA [.r,.r,.r],nw,trivial⟩ (.k (.k (.s .o .z))) (.lN (.dd .z)) λa w hI=>?_
  refine aU ?_
  refine dQ hI 4 [] [⟨some 0,22,6,0,True⟩] [Uc 1 23 _,Uc 2 24 _,Uc 3 25 _] (.k (.k (.k .z))) (.fS .z) ⟨fa,lV 0,E6 BX,bn,trivial⟩ (.k (.k (.k .z))) (.lN (.dk .z)) λa w hI=>?_
  refine sC hI (λt3=>?_) (λt3=>?_)
  ·exfalso; omega
  refine bD ?_
  refine aj ?_
  refine V8 hI [0,1,0,4,15,0,32,0,128,0,512,1951,4095,0,8192,0,32768,0,131072,499711,1048575,2097151,4194303] [] [⟨some 0,27,4,0,True⟩,⟨some 2,29,6,0,True⟩,⟨some 5,32,4,3,True⟩,⟨some 7,34,6,0,True⟩,⟨some 9,36,6,3,True⟩,⟨some 13,40,4,6,True⟩,⟨some 15,42,6,0,True⟩,⟨some 17,44,6,6,True⟩] [Uc 1 28 _,Uc 3 30 _,Uc 4 31 _,Uc 6 33 _,Uc 8 35 _,Uc 10 37 _,Uc 11 38 _,Uc 12 39 _,Uc 14 41 _,Uc 16 43 _,Uc 18 45 _,Uc 19 46 _,Uc 20 47 _,Uc 21 48 _] (.k (.u none [(22,pv _)] (.k .z))) (.aK .z) ⟨fa,lV 0,fa,lV 0,P3 (BW hb0),fa,lV 1,fa,lV 0,fa,lV 1,P3 ME,P3 (BW hb1),fa,lV 2,fa,lV 0,fa,lV 2,P3 ME,P3 (BW hb2),bd [.o .r,.o .r,.o .r] [(0,_),(1,_),(2,_)],nw,trivial⟩ (.k (.s .o (.d .z))) (.lN (.d8 (.ek (.dd .z)))) λa w hI=>?_
  refine cz ?_
  refine aj ?_
  refine GY hI 2 [] [] [Uc 0 49 _,Uc 1 18 _] (.k (.k .z)) (.kk (.t 1 .z)) ⟨bn,mv,trivial⟩ (.k (.k .z)) (.gX (.k .z)) λa w hI=>?_
  refine aj ?_
  exact GR (i+1) (by omega) hI ⟨vc,vC (qL.pV (qL.c (Nat.le_refl _) (qL.c (Nat.le_refl _) (qL.c (Nat.le_refl _) qL.z)))),trivial⟩ ⟨gc,gc,gc,trivial⟩ (by omega)
 ·
  refine gz ?_
  refine bw ?_
  refine bw ?_
  refine cM ?_
  refine aj ?_
  refine aU ?_
  obtain rfl:i=n:=by omega
  have qO:=hl i
  refine dQ hI 3 [] [⟨some 0,50,4,0,True⟩] [Uc 1 51 _,Uc 2 52 _] (.k (.k .z)) (.aK .z) ⟨fa,lV 0,E6 NT,trivial⟩ (.k (.k .z)) (.ek (.dk .z)) λa w hI=>?_
  refine sC hI (λt4=>?_) (λt4=>?_)
  ·exfalso; exact h.some t4
  refine bD ?_
  refine aj ?_
  refine GX hI [0,1,0,4,0,16,60,0,128,0,512,2044,4095,8191,16383] [] [⟨some 0,54,4,0,True⟩,⟨some 2,56,4,3,True⟩,⟨some 4,58,4,0,True⟩,⟨some 7,61,4,6,True⟩,⟨some 9,63,4,0,True⟩] [Uc 1 55 _,Uc 3 57 _,Uc 5 59 _,Uc 6 60 _,Uc 8 62 _,Uc 10 64 _,Uc 11 65 _,Uc 12 66 _,Uc 14 3 _] (.u none [(13,pv _)] (.k .z)) (.k .z) ⟨fa,lV 0,fa,lV 1,fa,lV 0,zx JT,fa,lV 2,fa,lV 0,zx JT,bd [.o .r,.o .r,.o .r] [(0,_),(1,_),(2,_)],nw,mv,trivial⟩ (.s .o (.d .z)) (.d8 (.dk .z)) λa w hI=>?_
  refine bL ?_
  exact qY hI rfl BQ pC
theorem Dv {x:Rat} (s:ByteArray) (h:strOf (eK x)=s/\j<=100000000):∀w v1,pR j x w v1->Calls Tryz.prog 27 #[v1] w (fu (cI (.string s)) w):=λw v1 h1=>(xR w v1 x h1.2 h1.1 h.2).mono λ_ _ hr=>by rw[<-h.1]; exact pq hr
theorem Mv (_:True):K2 Tryz.prog 22 (rC GK 1) (rC Ie 2) (fo (rC QO 2) (pI 0)):=by
 have k:=Ly Ig
 rw[wX]at k
 exact k
def SS (i:Nat):List Rat:=if i=0 then[1,0,0]else[1,4,2]
theorem Ou:Mx 2 64 64 SS where
 len:=by decide
 bits:=by decide
 el i hi:=by
  match i,hi with
  |0,_=>exact⟨rfl,by decide⟩
  |1,_=>exact⟨rfl,by decide⟩
 bd k q hk hq:=by
  have key:∀k,k<=2->∀q,q<3->((nA SS k).getD q 0).num.natAbs<2^64/\((nA SS k).getD q 0).den<2^64:=by decide +kernel
  exact key k hk q hq
 some:=by decide +kernel
end Wx
