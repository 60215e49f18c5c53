import Derived.Lib.Repeat
import Derived.Test.YtadigiledciihaaGreatJRB40
namespace Wx
set_option maxRecDepth 100000
set_option maxHeartbeats 1000000
open Go Go.RowKit Go.Proofs
def nA (k:Nat) (s:List Nat):List Nat:=List.replicate (k-s.length) 48++s
def aD (n:Nat):List Nat:=if n=0 then[48]else bz n
theorem wB (n:Nat):Wf 256 (bz n):=by
 intro x hx
 unfold bz at hx
 rw[List.mem_reverse,List.mem_map]at hx
 obtain⟨y,hy,rfl⟩:=hx
 have:=bq (b:=10) (by omega) n y hy
 omega
theorem Ai (k:Nat):∀m,0<m/10^k->bz m=bz (m/10^k)++nA k (bz (m%10^k)):=by
 induction k with
 |zero=>intro m _; simp[nA,Nat.mod_one,gU]
 |succ k ih=>
  intro m h
  have hm:0<m:=by
   rcases Nat.eq_zero_or_pos m with rfl|h'
   ·simp at h
   ·exact h'
  have e1:m/10/10^k=m/10^(k+1):=by rw[Nat.div_div_eq_div_mul,Nat.pow_succ,Nat.mul_comm]
  have e2:m%10^(k+1)/10=m/10%10^k:=by rw[Nat.pow_succ,Nat.mul_comm,Nat.mod_mul_right_div_self]
  have e3:m%10^(k+1)%10=m%10:=by
   rw[Nat.pow_succ,Nat.mul_comm]; exact Nat.mod_mul_right_mod _ _ _
  rw[kX hm,ih (m/10) (by rw[e1]; exact h),e1,List.append_assoc]
  congr 1
  rcases Nat.eq_zero_or_pos (m%10^(k+1))with h0|h0
  ·rw[h0]at e2 e3 ⊢
   rw[<-e2,<-e3]
   simp[nA,gU,<-List.replicate_succ']
  ·rw[kX h0,e2,e3]
   unfold nA
   rw[List.length_append,List.length_singleton,List.append_assoc]
   congr 2
   omega
variable {k:Nat}
theorem Jx {s:List Nat} (h:Wf 256 s):Wf 256 (nA k s):=by
 intro x hx
 rcases List.mem_append.1 hx with h'|h'
 ·have:=(List.mem_replicate.1 h').2; omega
 ·exact h x h'
theorem bP (a b:List Nat):strOf a++strOf b=strOf (a++b):=by
 apply ByteArray.ext
 rw[ByteArray.data_append]
 simp[strOf]
def strs (P:List (List Nat)):List Value:=P.map λp=>Value.string (strOf p)
def dh (P:List (List Nat)):List Nat:=P.reverse.flatten
variable {P:List (List Nat)}
theorem Aq {p:List Nat} (h:P[k]?=some p):dh (P.drop k)=dh (P.drop (k+1))++p:=by
 obtain⟨hk,e⟩:=List.getElem?_eq_some_iff.1 h
 rw[List.drop_eq_getElem_cons hk,e]
 simp[dh]
theorem su (P:List (List Nat)) (k:Nat):(dh (P.drop k)).length<=(dh P).length:=by
 have h:dh P=dh (P.drop k)++dh (P.take k):=by
  unfold dh
  rw[<-List.flatten_append,<-List.reverse_append,List.take_append_drop]
 rw[h,List.length_append]; omega
def gz (l:List Nat):List Value:=Lib.byteCells (l.map UInt8.ofNat)
theorem wh (p:List Nat):Lib.strCells (strOf p)=gz p:=by
 rw[Lib.strCells_eq]; simp[strOf,gz]
theorem tW (a b:List Nat):gz (a++b)=gz a++gz b:=by
 unfold gz; rw[List.map_append,Lib.byteCells_append]
theorem tX (a:List Nat):(gz a).length=a.length:=by
 unfold gz; rw[Lib.byteCells_length,List.length_map]
variable {w:World} {c:Nat}
theorem Em {base:Nat} {e:TypeId} {A:Option Addr} (h:w.ownsRow base e 1 (.slice A P.length c) P.length (strs P)) {k:Nat} {p:List Nat} (hk:P[k]?=some p):
  ∃g,A=some ⟨g,0,none⟩/\g<w.heap.size/\P.length<=c/\c<=maxLen/\w.cell? ⟨g,0+k,none⟩=some (.string (strOf p)):=by
 obtain⟨hk',_⟩:=List.getElem?_eq_some_iff.1 hk
 rcases h.2 with⟨h1,h2⟩|⟨g,cap,cur,hv,hb,hg,hn,hm,hs,ht⟩
 ·omega
 ·injection hv with e1 e2 e3
  subst e1 e3
  have:=h.cells (g:=g) rfl k (.string (strOf p)) (by simp[strs,hk])
  rw[show(⟨g,0,none⟩:Addr).add k=⟨g,0+k,none⟩ by simp[Addr.add]; omega]at this
  refine⟨g,rfl,?_,hn,hm,this⟩
  rcases Nat.lt_or_ge g w.heap.size with h'|h'
  ·exact h'
  ·simp[Array.getElem?_eq_none h']at hg
theorem sw (P:List (List Nat)) (p:List Nat):dh (P++[p])=p++dh P:=by simp[dh]
theorem xj (c:Nat):(⟨(Lib.repeatL (⟨#[48]⟩:ByteArray).data.toList c).toArray⟩:ByteArray)=strOf (List.replicate c 48):=by
 have:∀c,Lib.repeatL [48] c=List.replicate c 48:=by
  intro c
  induction c with
  |zero=>rfl
  |succ c ih=>unfold Lib.repeatL; rw[ih]; rfl
 show(⟨(Lib.repeatL [48] c).toArray⟩:ByteArray)=_
 rw[this]
 simp[strOf]
theorem zo (h:∀p∈P,p≠[]):P.length<=(dh P).length:=by
 unfold dh
 induction P with
 |nil=>simp
 |cons p P ih=>
  have h1:=ih (λq hq=>h q (List.mem_cons_of_mem _ hq))
  have h2:=List.length_pos_iff.2 (h p (by simp))
  simp at h1 ⊢
  omega
theorem JL:(Tryz.prog.info? 9).map (λi=>(i.zero,i.size,i.bytes))=some (some (.string ⟨#[]⟩),1,16):=by kernel_rfl
def NQ (j n:Nat):Prop:=(bz n).length<=j
variable {n:Nat}
theorem wC {j:Nat} (h:Bd j n):NQ j n:=kW (Nat.lt_of_lt_of_le h (Nat.pow_le_pow_left (by omega) j))
theorem tQ:aD 0=[48]:=rfl
theorem vP (h:0<n):aD n=bz n:=by unfold aD; rw[if_neg (by omega)]
theorem aZ.grown {k:IntKind} {bs:Nat} {w':World} {b l:Nat} {row:Option Nat} (h:aZ k bs w (.slice (some ⟨b,0,none⟩) l c) n) (hg:w.grownBy w' row) (hne:∀g,row=some g->g≠b):aZ k bs w' (.slice (some ⟨b,0,none⟩) l c) n:=by
 obtain⟨A,c',e,h1,h2,h3⟩:=h
 refine⟨A,c',e,h1,h2,λhl=>?_⟩
 obtain⟨b',o,e',hc⟩:=h3 hl
 refine⟨b',o,e',λi hi=>?_⟩
 subst e'
 injection e with e1 e2 e3
 injection e1 with e1
 injection e1 with e4 e5
 subst e4
 exact hg.cell (hc i hi) (λe=>hne _ e.symm rfl)
theorem mR {P:Program} {ops:Array Oper} {rest:List Oper} {o:Oper} {a:Act} {Q:Exit->Act->World->Prop} (hgd:o.guard=none) (s x:Operand) (t:TypeId)
  (ho:o.op=.call { callee:=.builtin .append,args:=#[s,x],argTypes:=#[t,t] }) (base:Nat) (e:TypeId) (i:TypeInfo) (ht:P.underlying t=some (.slice e)) (hi:P.info? e=some i) (hz:i.zero=some (.string ⟨#[]⟩))
  (hsize:i.size=1) (hby:i.bytes=16) {A:Option Addr} {c:Nat} (L:List (List Nat)) (hs:a.eval s=.slice A L.length c) (w:World) (hown:w.ownsRow base e 1 (.slice A L.length c) L.length (strs L))
  (p:List Nat) (hx:a.eval x=.slice (some ⟨w.heap.size,0,none⟩) 1 1) (hL:L.length<=1000000000) (hbase:base<=w.heap.size)
  (h:∀A' c' w',w'.ownsRow base e 1 (.slice A' (L++[p]).length c') (L++[p]).length (strs (L++[p]))->Below base (w.alloc (.cells #[.string (strOf p)] e)) w'->(w.alloc (.cells #[.string (strOf p)] e)).grownBy w' (Value.slice A L.length c).ownBlock->wpList P ops Q rest (a.put o.dst (.slice A' (L++[p]).length c')) w'):
  wpList P ops Q (o::rest) a (w.alloc (.cells #[.string (strOf p)] e)):=by
 refine wpList_append_own _ hgd s x t ho base e i (.string ⟨#[]⟩) 1 16 ht hi hz hsize hby rfl (by decide) _ _ _ hs (hown.alloc _) ⟨w.heap.size,0,none⟩ 1 1 [.string (strOf p)] hx rfl ?_ ?_ (by unfold maxLen; omega) (by omega) (by simp; omega) ?_
 ·intro j u hj
  match j,hj with
  |0,hj=>simp at hj; subst hj; simp[Addr.add]
 ·intro u hu; simp at hu; subst hu; rfl
 ·intro v' w' hown' hg _
  have e1:(L++[p]).length=L.length+1:=by simp
  have e2:strs (L++[p])=strs L++[.string (strOf p)]:=by simp[strs]
  have hb:Below base (w.alloc (.cells #[.string (strOf p)] e)) w':=(Below.refl _ _).grown hg (by simp; omega) (λk hk=>(hown.lt k hk).1)
  rw[<-e2,<-e1]at hown'
  rcases hown'.2 with⟨h1,h2⟩|⟨g,cap,cur,hv,hr⟩
  ·simp at h2
  ·subst hv
   exact h _ _ _ hown' hb hg
theorem jG (w:World) (v:Value) (n:Nat) (h:aZ .u64 b64 w v n) {j:Nat} (hj:Bd j n) (ct:j<=100000000):Calls Tryz.prog 60 #[v] w (cP w (.string (strOf (aD n)))):=by
 have HL:=bx (wC hj)
 have HB:=bx hj
 clear hj
 go_enter Tryz.func60,Tryz.ntmps60
 go_wp2_with fail
 go_loopw [0,3] (λs0 s3 wr=>∃(m:Nat) (P:List (List Nat)) (A:Option Addr) (c:Nat),aZ .u64 b64 wr s0 m/\s3=.slice A P.length c/\wr.ownsRow w.heap.size 9 1 (.slice A P.length c) P.length (strs P)/\Below w.heap.size w wr/\Bx (bz n=bz m++dh P)/\Bx (∀p∈P,p≠[]/\Wf 256 p)/\Bx (Bd j m)) (λs0 _ wr=>numOf wr s0)
 case atStart=>exact⟨n,[],none,0,h,rfl,World.ownsRow_nil _ _ _ _,Below.refl _ _,bx (by simp[dh]),bx (by simp),HB⟩
 case round=>
  clear h HB
  obtain⟨m,P,A,c,hm,rfl,hown,hb,HD,HP,HB⟩:=hrel
  have Vo:P.length<=100000000:=by
   have h1:=zo (λp hp=>(HP.out p hp).1)
   have h2:(bz n).length<=j:=HL.out
   rw[HD.out,List.length_append]at h2
   omega
  rcases Nat.eq_zero_or_pos m with rfl|hm0
  ·obtain⟨A0,c0,rfl,hr⟩:=id hm
   rw[aW]at hr ⊢
   have R9:=HL
   have ux:Bx (bz n=dh P):=bx (by rw[HD.out,gU,List.nil_append])
   clear HD HB hm hr
   by_cases P4:P=[]
   ·subst P4
    have uU:n=0:=by
     rcases Nat.eq_zero_or_pos n with h|h
     ·exact h
     ·have:=jU h
      rw[ux.out]at this
      simp[dh]at this
    subst uU
    rw[tQ]
    go_wp2
    go_ret
    exact⟨rfl,hb⟩
   ·have uU:0<n:=by
     rcases Nat.eq_zero_or_pos n with h|h
     ·exfalso
      have h1:=zo (λp hp=>(HP.out p hp).1)
      have h2:=List.length_pos_iff.2 P4
      rw[<-ux.out,h,gU]at h1
      have h3:P.length<=0:=h1
      omega
     ·exact h
    have HT:=bx (vP uU)
    have hp1:(1:Int)<=(P.length:Int):=by have:=List.length_pos_iff.2 P4; omega
    have hpe:((P.length:Int)==0)=false:=beq_eq_false_iff_ne.2 (by omega)
    have Ds:Wf 256 (dh P):=by rw[<-ux.out]; exact wB _
    have hlf:(dh P).length<=100000000:=by
     have h2:(bz n).length<=j:=HL.out
     rw[ux.out]at h2; omega
    clear P4 uU
    have UC:=bx hlf
    have HW2:=bx Ds
    clear hlf Ds
    go_wp2_with fail
    have Om:=Lib.fresh_isBuilder 135 5 wr
    have Fu:Below wr.heap.size wr (wr.alloc (.cells #[.pointer none,.slice none 0 0] 135)):=Below.alloc (Below.refl _ _) (Nat.le_refl _) _
    generalize wr.alloc (.cells #[.pointer none,.slice none 0 0] 135)=wb at *
    obtain⟨wo,rfl⟩:∃wo:World,wo=wr:=⟨_,rfl⟩
    go_loopw [8] (λs8 wx=>∃k:Nat,k<=P.length/\s8=.int .i64 ((k:Int)-1)/\Lib.IsBuilder 135 5 wo.heap.size wo.heap.size (gz (dh (P.drop k))) wx/\Below wo.heap.size wo wx) (λs8 _=>(RowKit.intOf s8+1).toNat)
    case atStart=>exact⟨P.length,Nat.le_refl _,rfl,by rw[List.drop_length]; exact Om,Fu⟩
    case round=>
     clear Om Fu
     obtain⟨k,hk,rfl,hib,Oq⟩:=hrel
     rcases Nat.eq_zero_or_pos k with rfl|hpos
     ·rw[show(((0:Nat):Int)-1) = -1 by omega]
      rw[List.drop_zero]at hib
      go_wp2_with fail
      refine Calls.mono (Tryz.Builder_String_any wo.heap.size wo.heap.size ((dh P).map UInt8.ofNat) wr hib Oq.size) ?_
      rintro e wf ⟨rfl,P7⟩
      go_wp2
      go_ret
      rw[HT.out,ux.out]
      exact⟨rfl,hb.trans ((Oq.trans P7).mono hb.size)⟩
     ·obtain⟨i,rfl⟩:∃i,k=i+1:=⟨k-1,by omega⟩
      rw[show(((i+1:Nat):Int)-1)=(i:Int) by omega]
      obtain⟨p,hp⟩:∃p,P[i]?=some p:=⟨P[i]'(by omega),List.getElem?_eq_getElem (by omega)⟩
      obtain⟨g,rfl,RY,hg2,hg3,RM⟩:=Em hown hp
      have Ov:wr.cell? ⟨g,0+i,none⟩=some (.string (strOf p)):=by rw[Oq.cell RY]; exact RM
      rw[Nat.zero_add]at Ov
      have RX:=Aq hp
      have Kn:=su P i
      have Ts:=bx (qN wo.heap.size wo.heap.size (gz (dh (P.drop (i+1)))) (strOf p) wr hib (by
       rw[tX,aK]
       rw[RX,List.length_append]at Kn
       have:=UC.out
       omega) Oq.size)
      have Uy:=bx (show gz (dh (P.drop (i+1)))++Lib.strCells (strOf p)=gz (dh (P.drop i)) by rw[wh,RX,tW])
      have R7:(0:Int)<=(i:Int):=by omega
      have R8:(i:Int)<(P.length:Int):=by omega
      clear RM RX Kn hp
      go_wp2_with fail
      refine Calls.mono Ts.out ?_
      rintro e wy ⟨rfl,hby,hbz⟩
      rw[Uy.out]at hby
      clear Ts Ov
      go_wp2
      go_roundw
      case rel=>
       have VJ:(Value.int .i64 (i:Int):Value)=.int .i64 (i:Int):=rfl
       (repeat apply Exists.intro)
       exact⟨⟨i,by omega,by go_num,.inr hby,Oq.trans hbz⟩,rfl⟩
      case measure=>simp[RowKit.intOf]
  ·have Ko:0<(ae b64 m).length:=(aq (n:=m) af).2 hm0
   have mw:(1:Int)<=((ae b64 m).length:Int):=by omega
   have hc:=qa wr _ m 10000000000000000000 hm HB.out (by omega) (by omega) (by unfold b64; omega)
   obtain⟨q,hq⟩:∃q,q=m/10000000000000000000:=⟨_,rfl⟩
   obtain⟨r,hr⟩:∃r,r=m%10000000000000000000:=⟨_,rfl⟩
   have JW:=bx (show r<10000000000000000000 by omega)
   have JY:=bx (show q=0->r=m by omega)
   have HQ:=bx (show q<m by omega)
   have UH:=bx (show q<=m by omega)
   rw[<-hq,<-hr,show(((10000000000000000000:Nat):Int))=10000000000000000000 from rfl]at hc
   have Qp:Bx (0<q->bz m=bz q++nA 19 (bz r)):=bx (λh=>by
    have:=Ai 19 m
    rw[show(10:Nat)^19=10000000000000000000 by decide,<-hq,<-hr]at this
    exact this h)
   clear hq hr
   obtain⟨A0,c0,rfl,hr⟩:=id hm
   have HM:=bx hm0
   have HC:=bx hc
   clear hm0 hc hr
   go_wp2_with fail
   refine Calls.mono HC.out ?_
   rintro e w1 ⟨l1,c1,rfl,hq,hb1⟩
   have UL:=bx (show r<b64 by have:=JW.out; unfold b64; omega)
   go_wp2_with fail
   refine Calls.mono (yc w1 r UL.out) ?_
   rintro e w2 ⟨rfl,hb2⟩
   have Mh:=hq.below hb2
   have hb3:=(hb.trans (hb1.mono hb.size)).trans (hb2.mono (hb.trans (hb1.mono hb.size)).size)
   have wG:=hb1.trans (hb2.mono hb1.size)
   clear hq hb2
   have hdl:(bz r).length<=19:=kW (by have:=JW.out; omega)
   have VO:((bz r).length:Int)<=19:=by omega
   have hsz:=aK (bz r)
   obtain⟨_,_,ug,_⟩:=id Mh
   injection ug with e1 e2 e3
   subst e1 e2 e3
   obtain⟨i0,hi,hz0,hz1,hz2⟩:=info_parts JL
   have Cl:=hown.kept (ck wG none) (by cases A with|none=>exact .inl rfl|some a=>exact .inr (by simp[Value.ownBlock]))
   have Tm:Bx (∀g,(Value.slice A P.length c).ownBlock=some g->g≠wr.heap.size):=bx (λg hg=>by have:=(hown.lt g hg).2; omega)
   rcases Nat.eq_zero_or_pos q with rfl|OU
   ·have dM:Bx (bz n=bz 0++dh (P++[bz r])):=bx (by
     rw[sw,gU,List.nil_append,JY.out rfl]; exact HD.out)
    have Qd:Bx (∀p∈P++[bz r],p≠[]/\Wf 256 p):=bx (λp hp=>by
     rcases List.mem_append.1 hp with h|h
     ·exact HP.out p h
     ·simp at h
      subst h
      exact⟨List.length_pos_iff.1 (jU (by rw[JY.out rfl]; exact HM.out)),wB _⟩)
    have hbd:Bx (Bd j 0):=bx (HB.out.le (Nat.zero_le _))
    clear HC Qp JY hown
    rw[aW]
    go_wp2_with (at_builtin; refine mR rfl (.tmp 28) (.tmp 30) 127 rfl w.heap.size 9 i0 Tryz.underlying127 hi hz0 hz1 hz2 P rfl w2 Cl (bz r) rfl (by omega) hb3.size ?_; intro A3 c3 w4 nW hb4 hg4)
    have hz:=((hb3.alloc hb3.size (.cells #[.string (strOf (bz r))] 9)).trans hb4)
    have H7:=(Mh.below (Below.alloc (Below.refl _ _) (Nat.le_refl _) (.cells #[.string (strOf (bz r))] 9))).grown hg4 Tm.out
    rw[aW]at H7
    have H7:aZ .u64 b64 w4 (.slice (some ⟨wr.heap.size,0,none⟩) 0 c1) 0:=H7
    go_wp2
    go_roundw
    case rel=>
     exact⟨0,P++[bz r],A3,c3,H7,by simp,nW,hz,dM,Qd,hbd⟩
    case measure=>rw[H7.of_eq,hm.of_eq]; exact HM.out
   ·have Mi:(1:Int)<=((ae b64 q).length:Int):=by have:=(aq (n:=q) af).2 OU; omega
    have Mg:nA 19 (bz r)=List.replicate (19-(bz r).length) 48++bz r:=rfl
    have OO:(nA 19 (bz r)).length=19:=by rw[Mg,List.length_append,List.length_replicate]; omega
    have dM:Bx (bz n=bz q++dh (P++[nA 19 (bz r)])):=bx (by
     rw[sw,<-List.append_assoc,<-Qp.out OU]; exact HD.out)
    have Qd:Bx (∀p∈P++[nA 19 (bz r)],p≠[]/\Wf 256 p):=bx (λp hp=>by
     rcases List.mem_append.1 hp with h|h
     ·exact HP.out p h
     ·simp at h
      subst h
      exact⟨List.length_pos_iff.1 (by omega),Jx (wB _)⟩)
    have hbd:Bx (Bd j q):=bx (HB.out.le UH.out)
    have UG:=bx Mg
    clear OU Mg OO HC Qp JY
    have Wm:(strOf (List.replicate (19-(bz r).length) 48)).size=19-(bz r).length:=by rw[aK,List.length_replicate]
    have Wn:(19-(bz r).length)+(bz r).length<=9223372036854775807:=by omega
    have Wl:19-(bz r).length<=19:=by omega
    go_wp2_with fail
    rw[show(19:Int)-((bz r).length:Int)=((19-(bz r).length:Nat):Int) by omega]
    refine Calls.mono (Tryz.strings_Repeat ⟨#[48]⟩ (19-(bz r).length) w2 (by omega) (by show 1*_<=_; omega)) ?_
    rw[xj]
    rintro e w3 ⟨rfl,hb4⟩
    have Cm:=Cl.kept (ck hb4 none) (by cases A with|none=>exact .inl rfl|some a=>exact .inr (by simp[Value.ownBlock]))
    have OV:=Mh.below hb4
    have Ki:=hb3.trans (hb4.mono hb3.size)
    have RI:strOf (List.replicate (19-(bz r).length) 48)++strOf (bz r)=strOf (nA 19 (bz r)):=by rw[bP]; rfl
    go_wp2_with (at_builtin; refine mR rfl (.tmp 28) (.tmp 30) 127 rfl w.heap.size 9 i0 Tryz.underlying127 hi hz0 hz1 hz2 P rfl w3 Cm (nA 19 (bz r)) rfl (by omega) Ki.size ?_; intro A3 c3 w4 nW LS hg4)
    have hz:=((Ki.alloc Ki.size (.cells #[.string (strOf (nA 19 (bz r)))] 9)).trans LS)
    have H7:=(OV.below (Below.alloc (Below.refl _ _) (Nat.le_refl _) (.cells #[.string (strOf (nA 19 (bz r)))] 9))).grown hg4 Tm.out
    clear RI
    go_wp2
    go_roundw
    case rel=>
     exact⟨q,P++[nA 19 (bz r)],A3,c3,H7,by simp,nW,hz,dM,Qd,hbd⟩
    case measure=>rw[H7.of_eq,hm.of_eq]; exact HQ.out
end Wx

namespace Wx
set_option maxRecDepth 100000
set_option maxHeartbeats 1000000
open Go Go.RowKit Go.Proofs
theorem Ca {d:Nat} (h:d<10):(⟨#[48,49,50,51,52,53,54,55,56,57]⟩:ByteArray).extract d (d+1)=strOf [d+48]:=by
 match d,h with
 |0,_=>rfl
 |1,_=>rfl
 |2,_=>rfl
 |3,_=>rfl
 |4,_=>rfl
 |5,_=>rfl
 |6,_=>rfl
 |7,_=>rfl
 |8,_=>rfl
 |9,_=>rfl
 |n+10,h=>exact absurd h (by omega)
theorem yf {X S:List Nat} {x k r:Nat} (hk:k<9) (h:X=bz (x*10^(9-k)+r)++S) (h0:0<x*10^(9-k)+r):
  X=bz (x*10^(9-(k+1))+r/10)++((r%10+48)::S):=by
 obtain⟨e1,e2⟩:=Fa (A:=x) (r:=r) (k:=9-k) (by omega)
 rw[h,kX h0,e1,e2,show 9-(k+1)=9-k-1 by omega,List.append_assoc]
 rfl
theorem fe (w:World) (v:Value) (n:Nat) (h:aZ .u32 ah w v n) {j:Nat} (hj:Bd j n) (ct:j<=100000000):Calls Tryz.prog 93 #[v] w (cP w (.string (strOf (aD n)))):=by
 rcases Nat.eq_zero_or_pos n with rfl|uU
 ·obtain⟨A,c,rfl,hr⟩:=id h
  rw[aW,tQ]
  go_enter Tryz.func93,Tryz.ntmps93
  go_wp2
  go_ret
  exact⟨rfl,Below.refl _ _⟩
 ·rw[vP uU]
  obtain⟨A,c,rfl,hr⟩:=id h
  have mw:(((ae ah n).length:Int)==0)=false:=beq_eq_false_iff_ne.2 (by have:=(aq (n:=n) aj).2 uU; omega)
  have HL:=bx (show(bz n).length<=100000000 from Nat.le_trans (wC hj) ct)
  generalize (ae ah n).length=L at *
  obtain⟨X,hX⟩:∃X,bz n=X:=⟨_,rfl⟩
  rw[hX]at HL ⊢
  have HX:=bx hX
  have HJ:=bx hj
  clear hX hj hr
  go_enter Tryz.func93,Tryz.ntmps93
  go_wp2_with fail
  go_loopw [0,3] (λs0 s3 wr=>∃(x:Nat) (S:List Nat),aZ .u32 ah wr s0 x/\s3=.string (strOf S)/\Bx (X=bz x++S)/\Bx (Bd j x)/\Below w.heap.size w wr) (λs0 _ wr=>rj wr s0)
  case atStart=>exact⟨n,[],h,rfl,bx (by rw[HX.out,List.append_nil]),HJ,Below.refl _ _⟩
  case round=>
   clear h HJ
   obtain⟨x,S,hx,rfl,HS,HJ,hb⟩:=hrel
   rcases Nat.eq_zero_or_pos x with rfl|hx0
   ·obtain⟨A,c,rfl,hr⟩:=id hx
    rw[aW]at hr ⊢
    have e:=HS.out
    rw[gU,List.nil_append]at e
    have E:=bx e
    clear e
    go_wp2
    go_ret
    rw[E.out]
    exact⟨rfl,hb⟩
   ·obtain⟨A,c,rfl,hr⟩:=id hx
    have hl2:(0:Int)<((ae ah x).length:Int):=by have:=(aq (n:=x) aj).2 hx0; omega
    have hlen:=hr.len
    have UO:=bx hx0
    generalize (ae ah x).length=L2 at *
    clear hr hx0
    go_wp2_with fail
    refine Calls.mono (pZ wr _ x 1000000000 hx HJ.out (by omega) (by omega) (by unfold ah; omega)) ?_
    rintro e w2 ⟨vq,rfl,hq,hb2⟩
    have hb3:=hb.trans (hb2.mono hb.size)
    have HR:=bx (show x%1000000000<10^9 from Nat.mod_lt _ (by omega))
    have HD:=bx (show x/1000000000*10^9+x%1000000000=x from by have:=Nat.div_add_mod x 1000000000; omega)
    have HQ:=bx (show Bd j (x/1000000000)from HJ.out.le (Nat.div_le_self _ _))
    have HM:=bx (show x/1000000000<x from Nat.div_lt_self UO.out (by omega))
    have To:=bx hx
    clear hx
    generalize x/1000000000=y at *
    generalize x%1000000000=r0 at *
    obtain⟨A2,c2,rfl,hr2⟩:=id hq
    have T3:=hr2.len
    clear hr2
    go_wp2_with fail
    obtain⟨wo,rfl⟩:∃wo:World,wo=w2:=⟨_,rfl⟩
    go_loop [3,5,6] (λs3 s5 s6=>∃(k r:Nat) (T:List Nat),k<=9/\s6=.int .i64 (k:Int)/\s5=.int .u32 (r:Int)/\s3=.string (strOf T)/\Bx (r<10^(9-k))/\Bx (X=bz (y*10^(9-k)+r)++T)) (λ_ _ s6=>9-(RowKit.intOf s6).toNat)
    case atStart=>exact⟨0,r0,S,by omega,rfl,rfl,rfl,HR,bx (by rw[Nat.sub_zero,HD.out]; exact HS.out)⟩
    case round=>
     clear HS HR HD
     obtain⟨k,r,T,hk,rfl,rfl,rfl,HR,HT⟩:=hrel
     by_cases T1:k<9
     ·rcases Nat.eq_zero_or_pos y with rfl|hy0
      ·rw[aW]at *
       rcases Nat.eq_zero_or_pos r with rfl|Qf
       ·have OH:(k:Int)<9:=by omega
        go_wp2
        go_roundw
        case rel=>exact⟨0,T,hq,rfl,bx (by rw[HT.out]; simp),HQ,hb3⟩
        case measure=>rw[aZ.mA To.out,aZ.mA hq]; exact HM.out
       ·have Wh:(0:Int)<(r:Int):=by omega
        have hT:=yf T1 HT.out (by omega)
        have Vq:T.length<=100000000:=by have h1:=HL.out; have h2:=congrArg List.length HT.out; rw[List.length_append]at h2; omega
        have Nh:=bx hT
        have hz:=aK T
        have hc:=Ca (d:=r%10) (by omega)
        have HC:=bx hc
        have hap:=bP [r%10+48] T
        have Qm:=bx hap
        have Ko:(0:Int)<=(r:Int)%10:=by omega
        have Qb:(r:Int)%10<=9:=by omega
        have Cn:(r:Int)<=4294967295:=by have h1:=HR.out; have h2:10^(9-k)<=10^9:=Nat.pow_le_pow_right (by omega) (by omega); omega
        have JY:=bx (vI (by omega) HR.out)
        have OH:(k:Int)<9:=by omega
        clear hT hc hap
        go_wp2
        rw[HC.out,Qm.out]
        go_round
        case rel=>exact⟨k+1,r/10,(r%10+48)::T,by omega,by go_num,by go_num,rfl,bx (by have:=JY.out; rwa [show 9-(k+1)=9-k-1 by omega]),Nh⟩
        case measure=>simp[RowKit.intOf]; omega
      ·have T2:(0:Int)<((ae ah y).length:Int):=by have:=(aq (n:=y) aj).2 hy0; omega
       generalize (ae ah y).length=L3 at *
       have hT:=yf T1 HT.out (by have:=Nat.mul_pos hy0 (Nat.pow_pos (n:=9-k) (show 0<10 by omega)); omega)
       have Vq:T.length<=100000000:=by have h1:=HL.out; have h2:=congrArg List.length HT.out; rw[List.length_append]at h2; omega
       have Nh:=bx hT
       have hz:=aK T
       have hc:=Ca (d:=r%10) (by omega)
       have HC:=bx hc
       have hap:=bP [r%10+48] T
       have Qm:=bx hap
       have Ko:(0:Int)<=(r:Int)%10:=by omega
       have Qb:(r:Int)%10<=9:=by omega
       have Cn:(r:Int)<=4294967295:=by have h1:=HR.out; have h2:10^(9-k)<=10^9:=Nat.pow_le_pow_right (by omega) (by omega); omega
       have JY:=bx (vI (by omega) HR.out)
       have OH:(k:Int)<9:=by omega
       clear hT hc hap
       go_wp2
       rw[HC.out,Qm.out]
       go_round
       case rel=>exact⟨k+1,r/10,(r%10+48)::T,by omega,by go_num,by go_num,rfl,bx (by have:=JY.out; rwa [show 9-(k+1)=9-k-1 by omega]),Nh⟩
       case measure=>simp[RowKit.intOf]; omega
     ·obtain rfl:k=9:=by omega
      have Qf:r=0:=by have:=HR.out; simpa using this
      subst Qf
      go_wp2
      go_roundw
      case rel=>exact⟨y,T,hq,rfl,bx (by rw[HT.out]; simp),HQ,hb3⟩
      case measure=>rw[aZ.mA To.out,aZ.mA hq]; exact HM.out
end Wx

namespace Wx
set_option maxRecDepth 100000
set_option maxHeartbeats 1000000
open Go Go.RowKit Go.Proofs
def dr (q:Rat):List Nat:=(if q.num<0 then[45]else[])++(aD q.num.natAbs++(if q.den=1 then[]else 47::aD q.den))
theorem cz {j n:Nat} (h:Bd j n):(aD n).length<=j+1:=by
 unfold aD
 split
 ·simp
 ·have:=wC h; unfold NQ at this; omega
theorem mg (l:List Nat):(⟨#[45]⟩:ByteArray)++strOf l=strOf (45::l):=bP [45] l
theorem uE (l:List Nat):(⟨#[47]⟩:ByteArray)++strOf l=strOf (47::l):=bP [47] l
theorem GO (w:World) (v:Value) (x:Rat) (hx:bJ w v x) {j:Nat} (hj:cN j x) (ct:j<=100000000) (hn:¬x.num<0) (hd:¬x.den=1):Calls Tryz.prog 30 #[v] w (cP w (.string (strOf (dr x)))):=by
 obtain⟨tU,tV,rfl,cC,dm⟩:=id hx
 obtain⟨cQ,cS,rfl,_⟩:=id cC
 obtain⟨cR,cT,rfl,_⟩:=id dm
 have HB:=bx hj
 have hT:dr x=aD x.num.natAbs++47::aD x.den:=by unfold dr; rw[if_neg hn,if_neg hd]; simp
 rw[hT,decide_eq_false hn]at *
 rw[kY hd]at *
 have VY:(1:Int)<=((ae b64 x.den).length:Int):=by have:=(aq (n:=x.den) af).2 x.den_pos; omega
 have hl2:=cz hj.2
 have hz2:=aK (aD x.den)
 have Mq:=uE (aD x.den)
 have hz3:=aK (47::aD x.den)
 have Mr:=bP (aD x.num.natAbs) (47::aD x.den)
 have mw:=cz hj.1
 have hz1:=aK (aD x.num.natAbs)
 have Mh:1+(aD x.den).length<=9223372036854775807:=by omega
 have OV:(aD x.num.natAbs).length+((aD x.den).length+1)<=9223372036854775807:=by omega
 clear hj hn hd hT mw hl2
 go_enter Tryz.func30,Tryz.ntmps30
 go_wp2_with fail
 obtain⟨w1,e1,o1,b1,s1⟩:=gj w (.bool false) (.slice cQ (ae b64 x.num.natAbs).length cS) (.slice cR (ae b64 x.den).length cT) 54
 rw[e1]
 clear e1
 refine Calls.mono (jG w1 _ _ (cC.below b1) HB.out.1 ct) ?_
 rintro e w2 ⟨rfl,hb2⟩
 have k0:=(o1.gone hb2).c0
 have k1:=(o1.gone hb2).c1
 have k2:=(o1.gone hb2).c2
 have FL:=(dm.below b1).below hb2
 have B2:=b1.trans (hb2.mono b1.size)
 go_wp2_with fail
 refine Calls.mono (jG w2 _ _ FL HB.out.2 ct) ?_
 rintro e w3 ⟨rfl,hb3⟩
 go_wp2
 go_ret
 exact⟨rfl,B2.trans (hb3.mono B2.size)⟩
theorem GQ (w:World) (v:Value) (x:Rat) (hx:bJ w v x) {j:Nat} (hj:cN j x) (ct:j<=100000000) (hn:¬x.num<0) (hd:x.den=1):Calls Tryz.prog 30 #[v] w (cP w (.string (strOf (dr x)))):=by
 obtain⟨tU,tV,rfl,cC,dm⟩:=id hx
 obtain⟨cQ,cS,rfl,_⟩:=id cC
 obtain⟨cR,cT,rfl,_⟩:=id dm
 have HB:=bx hj
 have hT:dr x=aD x.num.natAbs:=by unfold dr; rw[if_neg hn,if_pos hd]; simp
 rw[hT,decide_eq_false hn]at *
 rw[hd,jr,aW]at *
 have mw:=cz hj.1
 have hz1:=aK (aD x.num.natAbs)
 clear hj hn hd hT mw
 go_enter Tryz.func30,Tryz.ntmps30
 go_wp2_with fail
 obtain⟨w1,e1,o1,b1,s1⟩:=gj w (.bool false) (.slice cQ (ae b64 x.num.natAbs).length cS) (.slice cR 0 cT) 54
 rw[e1]
 clear e1
 refine Calls.mono (jG w1 _ _ (cC.below b1) HB.out.1 ct) ?_
 rintro e w2 ⟨rfl,hb2⟩
 have k0:=(o1.gone hb2).c0
 have k1:=(o1.gone hb2).c1
 have k2:=(o1.gone hb2).c2
 have FL:=(dm.below b1).below hb2
 have B2:=b1.trans (hb2.mono b1.size)
 go_wp2
 go_ret
 exact⟨rfl,B2⟩
theorem GR (w:World) (v:Value) (x:Rat) (hx:bJ w v x) {j:Nat} (hj:cN j x) (ct:j<=100000000) (hn:x.num<0) (hd:¬x.den=1):Calls Tryz.prog 30 #[v] w (cP w (.string (strOf (dr x)))):=by
 obtain⟨tU,tV,rfl,cC,dm⟩:=id hx
 obtain⟨cQ,cS,rfl,_⟩:=id cC
 obtain⟨cR,cT,rfl,_⟩:=id dm
 have HB:=bx hj
 have hT:dr x=45::(aD x.num.natAbs++47::aD x.den):=by unfold dr; rw[if_pos hn,if_neg hd]; simp
 rw[hT,decide_eq_true hn]at *
 rw[kY hd]at *
 have VY:(1:Int)<=((ae b64 x.den).length:Int):=by have:=(aq (n:=x.den) af).2 x.den_pos; omega
 have hl2:=cz hj.2
 have hz2:=aK (aD x.den)
 have Mq:=uE (aD x.den)
 have hz3:=aK (47::aD x.den)
 have oQ:=mg (aD x.num.natAbs)
 have SI:=aK (45::aD x.num.natAbs)
 have Mr:=bP (45::aD x.num.natAbs) (47::aD x.den)
 have mw:=cz hj.1
 have hz1:=aK (aD x.num.natAbs)
 have hq1:1+(aD x.num.natAbs).length<=9223372036854775807:=by omega
 have Mh:1+(aD x.den).length<=9223372036854775807:=by omega
 have OV:((aD x.num.natAbs).length+1)+((aD x.den).length+1)<=9223372036854775807:=by omega
 clear hj hn hd hT mw hl2
 go_enter Tryz.func30,Tryz.ntmps30
 go_wp2_with fail
 obtain⟨w1,e1,o1,b1,s1⟩:=gj w (.bool true) (.slice cQ (ae b64 x.num.natAbs).length cS) (.slice cR (ae b64 x.den).length cT) 54
 rw[e1]
 clear e1
 refine Calls.mono (jG w1 _ _ (cC.below b1) HB.out.1 ct) ?_
 rintro e w2 ⟨rfl,hb2⟩
 have k0:=(o1.gone hb2).c0
 have k1:=(o1.gone hb2).c1
 have k2:=(o1.gone hb2).c2
 have FL:=(dm.below b1).below hb2
 have B2:=b1.trans (hb2.mono b1.size)
 go_wp2_with fail
 refine Calls.mono (jG w2 _ _ FL HB.out.2 ct) ?_
 rintro e w3 ⟨rfl,hb3⟩
 go_wp2
 go_ret
 exact⟨rfl,B2.trans (hb3.mono B2.size)⟩
theorem GU (w:World) (v:Value) (x:Rat) (hx:bJ w v x) {j:Nat} (hj:cN j x) (ct:j<=100000000) (hn:x.num<0) (hd:x.den=1):Calls Tryz.prog 30 #[v] w (cP w (.string (strOf (dr x)))):=by
 obtain⟨tU,tV,rfl,cC,dm⟩:=id hx
 obtain⟨cQ,cS,rfl,_⟩:=id cC
 obtain⟨cR,cT,rfl,_⟩:=id dm
 have HB:=bx hj
 have hT:dr x=45::aD x.num.natAbs:=by unfold dr; rw[if_pos hn,if_pos hd]; simp
 rw[hT,decide_eq_true hn]at *
 rw[hd,jr,aW]at *
 have oQ:=mg (aD x.num.natAbs)
 have SI:=aK (45::aD x.num.natAbs)
 have mw:=cz hj.1
 have hz1:=aK (aD x.num.natAbs)
 have hq1:1+(aD x.num.natAbs).length<=9223372036854775807:=by omega
 clear hj hn hd hT mw
 go_enter Tryz.func30,Tryz.ntmps30
 go_wp2_with fail
 obtain⟨w1,e1,o1,b1,s1⟩:=gj w (.bool true) (.slice cQ (ae b64 x.num.natAbs).length cS) (.slice cR 0 cT) 54
 rw[e1]
 clear e1
 refine Calls.mono (jG w1 _ _ (cC.below b1) HB.out.1 ct) ?_
 rintro e w2 ⟨rfl,hb2⟩
 have k0:=(o1.gone hb2).c0
 have k1:=(o1.gone hb2).c1
 have k2:=(o1.gone hb2).c2
 have FL:=(dm.below b1).below hb2
 have B2:=b1.trans (hb2.mono b1.size)
 go_wp2
 go_ret
 exact⟨rfl,B2⟩
theorem vK (w:World) (v:Value) (x:Rat) (hx:bJ w v x) {j:Nat} (hj:cN j x) (ct:j<=100000000):Calls Tryz.prog 30 #[v] w (cP w (.string (strOf (dr x)))):=by
 by_cases hn:x.num<0
 ·by_cases hd:x.den=1
  ·exact GU w v x hx hj ct hn hd
  ·exact GR w v x hx hj ct hn hd
 ·by_cases hd:x.den=1
  ·exact GQ w v x hx hj ct hn hd
  ·exact GO w v x hx hj ct hn hd
end Wx
