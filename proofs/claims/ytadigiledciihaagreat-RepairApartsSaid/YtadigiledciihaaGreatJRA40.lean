import Derived.Shelf.GgSortFunc.InsertionK
import Derived.Tactics2
import Derived.Laws.StructEq
import Derived.Test.YtadigiledciihaaGreatCRASemGr
import Derived.Shelf.SlSortCmp.NoneTotal
import Derived.Shelf.SlicesQ.Reverse
namespace Wx
open Go Go.RowKit Go.Proofs
def su (p:Pt):List Value:=[.int .i64 p.1,.int .i64 p.2]
variable {p:Pt} {w:World}
theorem zP {ds:List Value}:dB p w (av true ds)↔ds=su p:=by
 constructor
 ·rintro⟨cs,e,h1,h2,h3,h4,h5⟩
  have e':ds=cs:=by
   have h:(Value.agg ds.toArray)=.agg cs.toArray:=e
   injection h with h
   exact congrArg Array.toList h
  subst e'
  match ds,h1,h2,h3,h4,h5 with
  |[a,b],_,h2,_,h4,_=>
   have h2:a=.int .i64 p.1:=h2
   have h4:b=.int .i64 p.2:=h4
   rw[h2,h4]
   rfl
  |[],h1,_,_,_,_=>exact absurd (show 1<=0 from h1) (by omega)
  |[_],_,_,h3,_,_=>exact absurd (show 1<=0 from h3) (by omega)
  |_::_::_::_,_,_,_,_,h5=>cases h5
 ·rintro rfl
  exact⟨_,rfl,Nat.le_add_left _ _,rfl,Nat.le_refl _,rfl,rfl⟩
abbrev Hq (n:Nat) (L:List Pt):Pred:=IW 2 n true λi=>dB (aj L i)
theorem fS (p:Pt):aC (dB p):=Ey ⟨cF _,cF _,trivial⟩
theorem Iq {l:List Value} {k:Nat} {x y:Value}:(l.drop k).take 2=[x,y]↔l[k]?=some x/\l[k+1]?=some y:=by
 have h0:(l.drop k)[0]?=l[k]?:=by rw[List.getElem?_drop]; rfl
 have h1:(l.drop k)[1]?=l[k+1]?:=by rw[List.getElem?_drop]
 rw[<-h0,<-h1]
 match l.drop k with
 |[]=>simp
 |[a]=>simp
 |a::b::r=>simp
def N7 (n:Nat) (L:List Pt) (cs:List Value):Prop:=∀i,i<n->cs[i*2]?=some (.int .i64 (aj L i).1)/\cs[i*2+1]?=some (.int .i64 (aj L i).2)
theorem BK {n:Nat} {L:List Pt} {cs:List Value}:Hq n L w (av true cs)↔N7 n L cs:=by
 constructor
 ·rintro⟨ds,e,h⟩ i hi
  have e':cs=ds:=by
   have h:(Value.agg cs.toArray)=.agg ds.toArray:=e
   injection h with h
   exact congrArg Array.toList h
  subst e'
  exact Iq.1 (zP.1 (h i hi))
 ·intro h
  exact⟨cs,rfl,λi hi=>zP.2 (Iq.2 (h i hi))⟩
structure DF where
 p:Pt
 h:bu 16777216 p
instance:Inhabited DF:=⟨⟨(0,0),by unfold bu; decide⟩⟩
open Classical in
noncomputable def QO (p:Pt):DF:=if h:bu 16777216 p then⟨p,h⟩else default
theorem Ds (h:bu 16777216 p):(QO p).p=p:=by unfold QO; rw[dif_pos h]
abbrev qM (x:DF):List Value:=su x.p
section
variable {w:World} {b N n:Nat} {L:List Pt}{d:Array DF}
theorem yO {j:Nat} (h:j<d.size*2):(Go.Sort.flatK qM 2 d)[j]! = if j%2=0 then .int .i64 (d[j/2]!).p.1 else .int .i64 (d[j/2]!).p.2:=by
 rw[Go.Sort.get_flatK qM 2 d j h]
 have hj:j%2=0\/j%2=1:=by omega
 rcases hj with e|e
 ·rw[e,if_pos rfl]; rfl
 ·rw[e,if_neg (by decide)]; rfl
theorem holds_of_one (h:One b N (Hq n L) w) (hs:d.size=n) (hd:∀i,i<n->(d[i]!).p=aj L i):Go.Sort.HoldsK qM 2 w b 0 d:=by
 obtain⟨cs,T,h1,h2,h3,h4⟩:=h
 have h5:=BK.1 h4
 intro j hj
 rw[Go.Sort.size_flatK]at hj
 refine⟨?_,?_⟩
 ·show _=some (id _)
  rw[id,yO hj,Nat.zero_add]
  simp only[World.cell?,h1]
  have h6:=h5 (j/2) (by omega)
  rw[List.getElem?_toArray]
  by_cases e:j%2=0
  ·rw[if_pos e,hd _ (by omega),<-h6.1,show j/2*2=j by omega]; rfl
  ·rw[if_neg e,hd _ (by omega),<-h6.2,show j/2*2+1=j by omega]; rfl
 ·simp only[World.frozen?,h1]
  simp
theorem tL {M:Nat->Nat->Prop} {L':List Pt} {m:Nat} {os:Array Obj} (h:One b N (Hq n L) w) (hs:d.size=n) (hn:n*2<=N) (hd:∀i,i<n->(d[i]!).p=aj L' i):
  we M b N (bW (.tuple #[])) (Hq n L') w (.returned (.tuple #[])) (Go.Sort.grow (Go.Sort.putRowK qM 2 (Go.Sort.ahead w m) b 0 d) os):=by
 obtain⟨cs,T,h1,h2,h3,h4⟩:=h
 have hlt:b<w.heap.size:=(Array.getElem?_eq_some_iff.1 h1).1
 obtain⟨F,hF⟩:∃F,Go.Sort.flatK qM 2 d=F:=⟨_,rfl⟩
 have VL:F.size=n*2:=by rw[<-hF,Go.Sort.size_flatK,hs]
 have hFg:∀j,j<n*2->F[j]! = if j%2=0 then .int .i64 (d[j/2]!).p.1 else .int .i64 (d[j/2]!).p.2:=λj hj=>by rw[<-hF]; exact yO (by omega)
 obtain⟨C,hC⟩:∃C:List Value,(Go.Sort.putCells id 0 F cs.toArray).toList=C:=⟨_,rfl⟩
 have T9:∀j,C[j]?=(cs[j]?).map λx=>if j<n*2 then F[j]! else x:=λj=>by
  rw[<-hC]
  unfold Go.Sort.putCells
  simp[VL]
 have hh:(Go.Sort.grow (Go.Sort.putRowK qM 2 (Go.Sort.ahead w m) b 0 d) os).heap=(w.heap.modify b (Go.Sort.onCells (Go.Sort.putCells id 0 F)))++os:=by
  rw[<-hF]; rfl
 have hb:(Go.Sort.grow (Go.Sort.putRowK qM 2 (Go.Sort.ahead w m) b 0 d) os).heap[b]?=some (.cells C.toArray T (0,0)):=by
  rw[hh,Array.getElem?_append_left (by simpa using hlt),Array.getElem?_modify,if_pos rfl,h1]
  rw[<-hC]
  rfl
 refine⟨_,rfl,λ_ _=>rfl,⟨rfl,rfl,rfl,?_,?_⟩,C,T,hb,?_,?_,?_⟩
 ·rw[hh]; simp
 ·intro k hk hne
  have hne:k≠b:=hne
  rw[hh,Array.getElem?_append_left (by simpa using hk),Array.getElem?_modify,if_neg (Ne.symm hne)]
 ·rw[<-hC]
  unfold Go.Sort.putCells
  simp[h2]
 ·intro v hv
  obtain⟨j,hj⟩:=List.mem_iff_getElem?.1 hv
  rw[T9]at hj
  cases Se:cs[j]? with
  |none=>rw[Se]at hj; cases hj
  |some x=>
   rw[Se]at hj
   injection hj with hj
   dsimp only at hj
   by_cases qc:j<n*2
   ·rw[if_pos qc,hFg j qc]at hj
    rw[<-hj]
    split
    ·exact oU _
    ·exact oU _
   ·rw[if_neg qc]at hj
    rw[<-hj]
    exact h3 x (List.mem_of_getElem? Se)
 ·refine BK.2 λi hi=>?_
  have hg:∀j,j<n*2->C[j]?=some F[j]!:=λj hj=>by
   rw[T9,List.getElem?_eq_getElem (show j<cs.length by omega),Option.map_some,if_pos hj]
  rw[hg _ (by omega),hg _ (by omega),hFg _ (by omega),hFg _ (by omega),if_pos (by omega),if_neg (by omega)]
  rw[show i*2/2=i by omega,show(i*2+1)/2=i by omega,hd i hi]
  exact⟨rfl,rfl⟩
end
end Wx

namespace Wx
open Go Go.RowKit Go.Proofs
theorem kJ (p:Pt):Fits 2 true (dB p):=pZ (fs:=[⟨false,1,pI p.1⟩,⟨false,1,pI p.2⟩]) ⟨fits_int _,fits_int _,trivial⟩ rfl
section
variable {P:Program} {ops:Array Oper} {ms:List Nat} {c:dM} {V:List Vr} {A:List Al} {G:List bg} {i d:Nat} {x y z:Operand} {ty:TypeId} {pos:String} {aR:Array Edge}{T:TypeId}
theorem Vt {q:Pt} (E:TypeId) (ht:pP P T E 2:=by exact⟨by kernel_rfl,λ_=>by kernel_rfl⟩) (Eb:∀w,(zeroValue E).run P w=.ok (.agg (su (0,0)).toArray) w:=by exactλ_=>by kernel_rfl) (h1:Has ms G i x (dB q):=by exact hs) (hp:Post G i (cK 2 true 1 λ_=>dB q):=by exact pt rfl):
  OpOk P ops ms c V A G i ⟨some d,.buildSlice T 1 #[(0,x)],ty,pos,aR,none⟩:=
 tr (agg:=true) ht Eb rfl rfl ⟨by decide,by decide⟩ h1 (kJ q) hp
theorem PY {X:Option Addr} {n cap:Nat} (h:Has ms G i x (bW (.slice X n cap)):=by exact hs) (ht:JK P T=true:=by kernel_rfl) (hp:Post G i (pI (n:Int)):=by exact pt rfl):OpOk P ops ms c V A G i ⟨some d,.call ⟨.builtin .len,#[x],#[T]⟩,ty,pos,aR,none⟩:=by
 obtain⟨E,hE⟩:=CL ht
 exact G9 h hE hp
end
variable {w:World}
theorem yR {c:dM} {V:List Vr} {G:List bg} {a:Act} {id sz m:Nat} {ag:Bool} {E:TypeId} {f:Nat->Pred} {s:Value} (hI:Inv c V [] G none_ a w) (k:Nat) (hk:V[k]?=some (mb id sz m ag E f s)):∃X cap,s=.slice X m cap/\m<=cap/\cap<=maxLen:=by
 obtain⟨β,h⟩:=hI
 have hB:pM sz m ag E f s (β id) w:=((aQ rfl).1 (h.var _ (List.mem_of_getElem? hk) rfl)).2.out
 rcases hB with⟨e,hm,_⟩|⟨bb,cap,cur,e,_,_,_,k5,k6,_⟩
 ·exact⟨none,0,by rw[e,hm],by omega,Nat.zero_le _⟩
 ·exact⟨_,cap,e,k5,k6⟩
theorem xq {p:Pt} {v:Value} (h:dB p w v):v=.agg #[.int .i64 p.1,.int .i64 p.2]:=by
 obtain⟨cs,e,h⟩:=h
 have:=zP.1 (show dB p w (av true cs)from⟨cs,rfl,h⟩)
 rw[e,this]
 rfl
theorem Hw (a b c d:Int) (w:World):(Op.equalIn 10000 26 (.agg #[.int .i64 a,.int .i64 b]) (.agg #[.int .i64 c,.int .i64 d])).run Tryz.prog w=.ok (a==c&&b==d) w:=by
 have u3:=Tryz.underlying3
 have a3:=Tryz.isAgg3
 have z3:=Tryz.sizeOf3
 have hS:Tryz.prog.underlying 26=some (.struct (Tryz.prog.fieldsOf 26)):=by kernel_rfl
 have hp:Tryz.prog.stoodInHeld 26=false:=by kernel_rfl
 rw[show(10000:Nat)=9999+1 from rfl,run_equalIn_agg w 9999 26 _ _ hS hp]
 simp only[Program.fieldsOf,Tryz.underlying26]
 go_simp
 by_cases h1:a=c<;>by_cases h2:b=d<;>simp[h1,h2]
section
variable {ops:Array Oper} {ms:List Nat} {c:dM} {V:List Vr} {A:List Al} {G:List bg} {i d:Nat} {x y z:Operand} {ty:TypeId} {pos:String} {aR:Array Edge}{p q:Pt}
theorem Aa {op:BinOp} {x y:Operand} (b:Bool) (hop:op=.eql/\b=decide (p=q)\/op=.neq/\b=decide (p≠q)) (w:World):(do pure (Next.value (<-(do eqGuard op 26 x y (.agg #[.int .i64 p.1,.int .i64 p.2]) (.agg #[.int .i64 q.1,.int .i64 q.2]); Go.binOp op 26 (.agg #[.int .i64 p.1,.int .i64 p.2]) (.agg #[.int .i64 q.1,.int .i64 q.2])))):Sem Next).run Tryz.prog w=.ok (.value (.bool b)) w:=by
 have hm:Tryz.prog.eqGuardType Tryz.prog.depth 26=false:=by kernel_rfl
 have hpq:(p.1==q.1&&p.2==q.2)=decide (p=q):=by
  obtain⟨p1,p2⟩:=p
  obtain⟨q1,q2⟩:=q
  by_cases h1:p1=q1<;>by_cases h2:p2=q2<;>simp[h1,h2]
 simp only[Sem.run_bind,run_eqGuard_agg w op _ x y _ _ hm,Result.andThen_ok]
 rcases hop with⟨rfl,rfl⟩|⟨rfl,rfl⟩
 ·rw[run_eql_struct,Hw,hpq]
  rfl
 ·rw[run_neq_struct,Hw,hpq]
  rw[show decide (p≠q)=!decide (p=q)from decide_not]
  rfl
variable {u:TypeId}
theorem VD (h1:Has ms G i x (dB p):=by exact hs) (h2:Has ms G i y (dB q):=by exact hs) (hp:Post G i (pB (decide (p=q))):=by exact pt rfl):OpOk Tryz.prog ops ms c V A G i ⟨some d,.binOp .eql 26 x y u,ty,pos,aR,none⟩:=
 kR rfl rfl rfl rfl h1 h2 hp λρ w h1 h2=>⟨.bool (decide (p=q)),by
  show(do pure (Next.value (<-(do eqGuard .eql 26 x y (ρ x) (ρ y); Go.binOp .eql 26 (ρ x) (ρ y)))):Sem Next).run Tryz.prog w=_
  rw[xq h1,xq h2]
  exact Aa _ (.inl ⟨rfl,rfl⟩) w,λ_ _ _=>rfl⟩
theorem W6 (h1:Has ms G i x (dB p):=by exact hs) (h2:Has ms G i y (dB q):=by exact hs) (hp:Post G i (pB (decide (p≠q))):=by exact pt rfl):OpOk Tryz.prog ops ms c V A G i ⟨some d,.binOp .neq 26 x y u,ty,pos,aR,none⟩:=
 kR rfl rfl rfl rfl h1 h2 hp λρ w h1 h2=>⟨.bool (decide (p≠q)),by
  show(do pure (Next.value (<-(do eqGuard .neq 26 x y (ρ x) (ρ y); Go.binOp .neq 26 (ρ x) (ρ y)))):Sem Next).run Tryz.prog w=_
  rw[xq h1,xq h2]
  exact Aa _ (.inr ⟨rfl,rfl⟩) w,λ_ _ _=>rfl⟩
theorem UJ {P:Program} {T:TypeId} {v:Vr} {b n k off:Nat} {L:List Pt} (N q:Nat) (hv:nA N V=some v:=by exact rfl) (ho:bU ms i v=true:=by exact rfl) (cO:v.kd=.obj:=by exact rfl) (hst:(v.st.all λq=>(q.1==i||(ms.getD i 0).testBit q.1)||(ms.getD q.1 0).testBit i)=true:=by kernel_rfl)
  (hc:cont (λj=>(ms.getD i 0).testBit j) v.c0 v.st=EG b n (Hq k L):=by exact rfl) (h:Has ms G i y (bW (.pointer (some ⟨b,off,none⟩))):=by exact hs) (hq:q<k:=by omega) (hoff:off=q*2:=by omega) (hlen:k*2<=n:=by omega) (hp:Post G i (dB (aj L q)):=by exact pt rfl) (ht:IX P T true 2=true:=by kernel_rfl):OpOk P ops ms c V A G i ⟨some d,.load T y,ty,pos,aR,none⟩:=by
 obtain⟨⟨j,hj⟩,_⟩:=fl hv
 subst hoff
 exact He j hj ho cO hst hc h (by omega) (cV ht) (λw cs _ hcs=>zP.2 (Iq.2 (BK.1 hcs q hq))) (fS _) hp
end
section
variable {P:Program} {c:dM} {V:List Vr} {G:List bg} {a:Act} {w:World}{fn:Func} {N b n:Nat} {q:Pred} {M:Nat->Nat->Prop}
theorem Tz {f:FuncId} {C:Code} {v1:Value} {p1:Pred} {R:Ending->World->Prop} (hf:P.funcs[f]?=some fn) (hb:fn.body=some C) (hN:fn.ntmps=N) (hM:dN M w) (R5:∀o,¬M b o) (hq:aC q) (h0:One b n q w)
  (h1:aS (lA M b) (λw=>p1 w v1) w)
  (h:∀a,Inv ⟨N,w,M,(·=b)⟩ [fe N b n q] [] [Uz 0 p1] none_ a w->C.ww none [] P (bodyPost P fn R) a w) (hlen:decide (1<=N)=true:=by kernel_rfl):Calls P f #[v1] w R:=by
 have eo:∀k o,own ⟨N,w,M,(·=b)⟩ [fe N b n q] none_ (λ_ k=>k=b) k o->lA M b k o:=by
  rintro k o (h|⟨x,hx,_,h,_⟩)
  ·exact .inl h
  ·exact .inr h
 have wT:dN (own ⟨N,w,M,(·=b)⟩ [fe N b n q] none_ (λ_ k=>k=b)) w:=λk o hk=>(eo k o hk).elim (λh=>hM k o h) λh=>by subst h; exact⟨h0.lt,λv hv=>h0.P6 o v hv⟩
 have hG:eI (lA M b) w [v1] [Uz 0 p1]:=⟨⟨rfl,_,rfl,h1⟩,trivial⟩
 have RQ:=eI.ok (m:=fn.ntmps-#[v1].size) hG
 refine calls_of_wp hf hb ((wpIn_wide (n:=0)).1 (wpIn_mono (h { tmps:=#[v1]++Array.replicate (fn.ntmps-#[v1].size) undef,defers:=[] } ?_ 0) λe a' w' ⟨a0,e0,h0⟩=>by subst e0; exact h0))
 refine⟨λ_ k=>k=b,by have:=of_decide_eq_true hlen; simp[hN]; omega,rfl,cS.refl _ _,(λk o h=>⟨⟨(hM k o h).1,λ(hb:k=b)=>R5 o (hb▸h)⟩,(hM k o h).2⟩),(λx hx _=>?_),(λx y g hx hy _ _ hne=>?_),(λp hp=>by cases hp),λe he _ _=>(RQ.get e he).2.sub λk o _ h=>eo k o h⟩
 ·rcases List.mem_singleton.1 hx with rfl
  exact(aQ rfl).2 ⟨λk (hk:k=b)=>by subst hk; exact⟨.inr rfl,h0.lt,λo v hv=>h0.P6 o v hv⟩,(h0.box (B:=(·=b)) rfl hq wT).imp λw h=>⟨λ_=>Iff.rfl,h⟩⟩
 ·rcases List.mem_singleton.1 hx with rfl
  rcases List.mem_singleton.1 hy with rfl
  exact absurd rfl hne
theorem OM {n0 s:Nat} {w0:World} {v:Value} (hI:Inv ⟨N,w0,M,(·=b)⟩ V [] G none_ a w) (hr:fn.results=#[.tmp s]) (hk:V[n0]?=some (fe N b n q)) (h1:gZ s G=some (bW v):=by exact rfl):bodyPost P fn (we M b n (bW v) q w0) .ret a w:=by
 obtain⟨β,hI⟩:=hI
 obtain⟨hβ,hone⟩:(∀k,β N k↔k=b)/\One b n q w:=((aQ rfl).1 (hI.var _ (List.mem_of_getElem? hk) rfl)).2.out
 obtain⟨k1,lE⟩:=eL h1
 have es:sl a s=v:=(hI.jb _ (List.mem_of_getElem? lE) rfl rfl).out
 refine kI hI (v:=sl a s) ?_ ⟨_,rfl,λ_ _=>es,hI.below,hone⟩
 rw[eO,hr]
 simp[ql,sl]
end
end Wx

namespace Wx
set_option maxRecDepth 100000
open Go Go.RowKit Go.Proofs
set_option maxHeartbeats 2000000 in
theorem MY {n:Nat} (h:0<n/\n<=1000000) (f:Nat->Pred) (w:World):Calls Tryz.prog 76 #[.slice none 0 0,.int .i64 n] w (vZ 2 0 true 26 f w):=by
 obtain⟨h1,h2⟩:=h
 have hge:n<=(Question.appendCap n 0 26).cut (w.tape w.drawn (.appendCap n 0 26)):=grownCap_ge w n 0 26
 have hle:(Question.appendCap n 0 26).cut (w.tape w.drawn (.appendCap n 0 26))<=maxLen:=grownCap_le_maxLen w n 0 26 (by unfold maxLen; omega)
 have hb2:Builtin.nextslicecap n 0*16<=281474976710656:=growslice_fits (old:=0) (bytes:=16) h1 (by omega)
 have QE:Tryz.t26.bytes=16:=by kernel_rfl
 go_enter Tryz.func76,Tryz.ntmps76
 go_wp2
 all_goals first
  |(exfalso; rename_i hx _ _; rw[QE]at hx; omega)
  |(exfalso; rename_i hx _ _ _; rw[QE]at hx; omega)
  |skip
 go_ret
 generalize (Question.appendCap n 0 26).cut (w.tape w.drawn (.appendCap n 0 26))=cap at *
 obtain⟨cs,hcs⟩:∃cs:Array Value,Builtin.zeroCells #[.int .i64 0,.int .i64 0] n++Builtin.zeroCells #[.int .i64 0,.int .i64 0] (cap-n)=cs:=⟨_,rfl⟩
 have hsz:cs.toList.length=cap*2:=by
  rw[<-hcs]
  rw[Array.toList_append,List.length_append,Array.length_toList,Array.length_toList,size_zeroCells,size_zeroCells]
  show n*2+(cap-n)*2=_
  omega
 have hno:∀u∈cs.toList,iH u:=λu hu=>by
  rw[<-hcs,Array.toList_append]at hu
  have hz:∀u∈(#[.int .i64 0,.int .i64 0]:Array Value).toList,iH u:=λu hu=>by
   rcases List.mem_cons.1 hu with rfl|hu
   ·exact oU _
   ·rw[List.mem_singleton.1 hu]; exact oU _
  rcases List.mem_append.1 hu with hu|hu
  ·exact gF hz _ u hu
  ·exact gF hz _ u hu
 rw[hcs]
 refine⟨w.heap.size,cap,rfl,Below.drew (Below.alloc (Below.refl _ _) (Nat.le_refl _) _),Nat.le_refl _,.inr ⟨w.heap.size,cap,cs.toList,rfl,λ_=>Iff.rfl,?_,hsz,Nat.zero_le _,hle,hno,λi hi=>absurd hi (Nat.not_lt_zero _)⟩⟩
 show(w.alloc (.cells cs 26)).heap[w.heap.size]?=_
 exact World.alloc_heap_new w _
section
variable {P:Program} {c:dM} {V:List Vr} {G:List bg} {a:Act} {w:World} {x y z:Operand} {d:Nat} {ty:TypeId} {pos:String} {aR:Array Edge}
theorem Rt {ops:Array Oper} {f:FuncId} {ts:Array TypeId} {Fw m e:Nat} {Fj:Bool} {E:TypeId} {f2:Nat->Pred} {v1 v2:Value} {ty2:TypeId} {pos2:String} {aft2:Array Edge} (gX:∀w,Calls P f #[v1,v2] w (vZ Fw m Fj E f2 w)) (Gm:∀i,aC (f2 i)) (h1:Has [0] G 0 x (bW v1):=by exact hs) (h2:Has [0] G 0 y (bW v2):=by exact hs)
  (hf:aP P f:=by exactλ_ _=>by kernel_rfl) (hd:decide (d<c.N)=true:=by kernel_rfl) (hV:(V.all λy=>(y.slot != d&&y.id != d)&&(y.born.isNone&&y.dead.isNone))=true:=by kernel_rfl) (hG:(G.all λe=>e.slot != d)=true:=by kernel_rfl) (he':decide (e<c.N/\d≠e)=true:=by kernel_rfl) (Jv:(V.all λx=>x.slot != e)=true:=by kernel_rfl) (KR:(G.all λx=>x.slot != e)=true:=by kernel_rfl):
  gj P ops (Inv c V [] G none_) [⟨some d,.call ⟨.value (.func f),#[x,y],ts⟩,ty,pos,aR,none⟩,⟨some e,.assign (.tmp d),ty2,pos2,aft2,none⟩] (λa w=>∃b2 eX,(m<=eX/\eX<=maxLen)/\Inv c (mb d Fw m Fj E f2 (.slice (some ⟨b2,0,none⟩) m eX)::V) [] (⟨none,none,e,bW (.slice (some ⟨b2,0,none⟩) m eX)⟩::G) none_ a w):=by
 have he:=of_decide_eq_true he'
 rw[List.all_eq_true]at Jv KR
 refine⟨λa w=>∃b2 eX,Inv c (mb d Fw m Fj E f2 (.slice (some ⟨b2,0,none⟩) m eX)::V) [] (⟨none,none,d,bW (.slice (some ⟨b2,0,none⟩) m eX)⟩::G) none_ a w,?_,_,?_,rfl⟩
 ·rintro a w ⟨β,hI⟩
  have e1:a.eval x=v1:=(h1.spec hI ot).out
  have e2:a.eval y=v2:=(h2.spec hI ot).out
  refine .of rfl (mO hf (Calls.mono (by
   rw[show(#[x,y]:Array Operand).map a.eval=#[a.eval x,a.eval y] by simp,e1,e2]
   exact gX w) ?_))
  rintro e w' ⟨b2,eX,rfl,hb,hrb,ho⟩
  have hblk:=jA ho b2 rfl
  exact⟨_,rfl,b2,eX,hI.AD (R:=λB w=>pM Fw m Fj E f2 (.slice (some ⟨b2,0,none⟩) m eX) B w) hb hrb hblk.1 hblk.2 (λM hM w'' he=>ho.keep Gm (λk o hk=>hM k o hk.1) he λk hk=>he.block k (jA ho k hk).1 λo hh=>hh.2 hk) (of_decide_eq_true hd) hV hG⟩
 ·rintro a w ⟨b2,eX,hI⟩
  have hbd:m<=eX/\eX<=maxLen:=by
   obtain⟨β,h⟩:=hI
   exact pM.bound (((aQ rfl).1 (h.var _ (List.mem_cons_self ..) rfl)).2.out)
  have h:=mF (P:=P) (ops:=ops) (ty2:=ty2) (pos2:=pos2) (aft2:=aft2) he.1 (λx hx=>by
   rcases List.mem_cons.1 hx with rfl|hx
   ·exact he.2
   ·simpa using Jv x hx) (λx hx=>by simpa using KR x hx) hI
  exact h.mono λ_ _ h=>⟨b2,eX,hbd,h⟩
end
theorem Oj {P:Program} {ops:Array Oper} {ms:List Nat} {c:dM} {V:List Vr} {A:List Al} {G:List bg} {i d:Nat} {x y:Operand} {ty:TypeId} {pos:String} {aR:Array Edge} {T:TypeId} {sz:Nat} {agg:Bool} {p q:Pred} {zv:Value} (E:TypeId) (z:List Value) (F:Nat->Pred) (f1:Fits sz agg p) (f2:Fits sz agg q) (e0:F 0=p:=by rfl) (e1:F 1=q:=by rfl) (ht:pP P T E sz:=by exact⟨by kernel_rfl,λ_=>by kernel_rfl⟩) (Eb:∀w,(zeroValue E).run P w=.ok zv w:=by exactλ_=>by kernel_rfl) (wX:zv.cells=z.toArray:=by rfl) (hsz:decide (0<sz/\0<2/\2*sz<=16777216)=true:=by decide) (zf:z.length=sz:=by rfl)
  (h1:Has ms G i x p:=by exact hs) (h2:Has ms G i y q:=by exact hs) (hp:Post G i (cK sz agg 2 F):=by exact pt rfl):OpOk P ops ms c V A G i ⟨some d,.buildSlice T 2 #[(0,x),(1,y)],ty,pos,aR,none⟩:=
 jE (p:=fq) (fs:=List.replicate 2 ⟨agg,sz,fq⟩) (ps:=[(0,p),(1,q)]) ht Eb wX rfl hsz (λ_=>trivial) zf (show eJ ms G i (List.replicate 2 ⟨agg,sz,fq⟩) [(0,x),(1,y)] [(0,p),(1,q)]from⟨⟨rfl,h1,_,rfl,f1⟩,⟨rfl,h2,_,rfl,f2⟩,trivial⟩) rfl F (λk f hf=>by
  match k,hf with
  |0,hf=>
   have hf:some (⟨agg,sz,p⟩:Fd)=some f:=hf
   injection hf with hf
   rw[<-hf,e0]
  |1,hf=>
   have hf:some (⟨agg,sz,q⟩:Fd)=some f:=hf
   injection hf with hf
   rw[<-hf,e1]
  |k+2,hf=>cases hf) hp
theorem dn (L:List Pt) (d:Int):Fits 2 true (ko L d):=pZ (fs:=[⟨false,1,gw L⟩,⟨false,1,pI d⟩]) ⟨lY,fits_int _,trivial⟩ rfl
end Wx

namespace Wx
open Go Go.RowKit Go.Proofs
def nH (x y:DF):Int:=if x.p.1≠y.p.1 then x.p.1-y.p.1 else x.p.2-y.p.2
set_option maxHeartbeats 2000000 in
theorem Ej (x y:DF) (W:World):Calls Tryz.prog 72 #[.agg (qM x).toArray,.agg (qM y).toArray] W λe w'=>e=.returned (.int .i64 (nH x y))/\∃q os',w'=Go.Sort.grow (W.drewN q) os':=by
 obtain⟨⟨x1,x2⟩,hx⟩:=x
 obtain⟨⟨y1,y2⟩,hy⟩:=y
 obtain⟨a1,a2,a3,a4⟩:=hx
 obtain⟨b1,b2,b3,b4⟩:=hy
 dsimp only at a1 a2 a3 a4 b1 b2 b3 b4
 unfold nH
 dsimp only[qM,su]
 by_cases h:x1=y1
 ·subst h
  rw[if_neg (by simp)]
  go_enter Tryz.func72,Tryz.ntmps72
  go_wp2
  go_ret
  refine⟨rfl,0,#[.cells #[.int .i64 x1,.int .i64 x2] 26 (0,0),.cells #[.int .i64 x1,.int .i64 y2] 26 (0,0)],?_⟩
  rfl
 ·rw[if_pos h]
  have hb:(x1 != y1)=true:=by simpa using h
  go_enter Tryz.func72,Tryz.ntmps72
  go_wp2
  go_ret
  refine⟨rfl,0,#[.cells #[.int .i64 x1,.int .i64 x2] 26 (0,0),.cells #[.int .i64 y1,.int .i64 y2] 26 (0,0)],?_⟩
  rfl
end Wx

namespace Wx
open Go Go.RowKit Go.Proofs
def zm:Go.Shelf.Ren:=⟨λ|6=>71|14=>107|15=>108|20=>131|21=>132|22=>133|23=>134|24=>135|25=>136|26=>137|27=>138|28=>139|29=>140|46=>150|47=>151|48=>152|49=>153|50=>154|57=>157|n=>n,λ|0=>0|3=>3|4=>4|5=>5|9=>9|22=>22|25=>98|39=>149|45=>170|46=>171|50=>175|53=>146|55=>108|66=>185|70=>189|76=>193|77=>194|24=>26|n=>n,λ|n=>n⟩
theorem JS:Go.Proofs.SlLaysF0.n6 Tryz.prog zm:={
 mixed:=by kernel_rfl
 f6 := ⟨"slices.SortFunc[[]wingworks/api.Point,wingworks/api.Point]", by kernel_rfl, Tryz.func71.trans (congrArg some (by kernel_rfl))⟩
 f14 := ⟨"slices.pdqsortCmpFunc[wingworks/api.Point]", by kernel_rfl, Tryz.func107.trans (congrArg some (by kernel_rfl))⟩
 f15:=Tryz.func108.trans (congrArg some (by kernel_rfl))
 f20 := ⟨"slices.insertionSortCmpFunc[wingworks/api.Point]", by kernel_rfl, Tryz.func131.trans (congrArg some (by kernel_rfl))⟩
 f21 := ⟨"slices.heapSortCmpFunc[wingworks/api.Point]", by kernel_rfl, Tryz.func132.trans (congrArg some (by kernel_rfl))⟩
 f22 := ⟨"slices.breakPatternsCmpFunc[wingworks/api.Point]", by kernel_rfl, Tryz.func133.trans (congrArg some (by kernel_rfl))⟩
 f23 := ⟨"slices.choosePivotCmpFunc[wingworks/api.Point]", by kernel_rfl, Tryz.func134.trans (congrArg some (by kernel_rfl))⟩
 f24 := ⟨"slices.reverseRangeCmpFunc[wingworks/api.Point]", by kernel_rfl, Tryz.func135.trans (congrArg some (by kernel_rfl))⟩
 f25 := ⟨"slices.partialInsertionSortCmpFunc[wingworks/api.Point]", by kernel_rfl, Tryz.func136.trans (congrArg some (by kernel_rfl))⟩
 f26 := ⟨"slices.partitionEqualCmpFunc[wingworks/api.Point]", by kernel_rfl, Tryz.func137.trans (congrArg some (by kernel_rfl))⟩
 f27 := ⟨"slices.partitionCmpFunc[wingworks/api.Point]", by kernel_rfl, Tryz.func138.trans (congrArg some (by kernel_rfl))⟩
 f28:=Tryz.func139.trans (congrArg some (by kernel_rfl))
 f29:=Tryz.func140.trans (congrArg some (by kernel_rfl))
 f46 := ⟨"slices.siftDownCmpFunc[wingworks/api.Point]", by kernel_rfl, Tryz.func150.trans (congrArg some (by kernel_rfl))⟩
 f47:=Tryz.func151.trans (congrArg some (by kernel_rfl))
 f48:=Tryz.func152.trans (congrArg some (by kernel_rfl))
 f49 := ⟨"slices.medianAdjacentCmpFunc[wingworks/api.Point]", by kernel_rfl, Tryz.func153.trans (congrArg some (by kernel_rfl))⟩
 f50 := ⟨"slices.medianCmpFunc[wingworks/api.Point]", by kernel_rfl, Tryz.func154.trans (congrArg some (by kernel_rfl))⟩
 f57 := ⟨"slices.order2CmpFunc[wingworks/api.Point]", by kernel_rfl, Tryz.func157.trans (congrArg some (by kernel_rfl))⟩
 t0:=Tryz.underlying0
 a0:=Tryz.isAgg0
 z0:=Tryz.sizeOf0
 v0:=Tryz.zeroValue0
 t3:=Tryz.underlying3
 a3:=Tryz.isAgg3
 z3:=Tryz.sizeOf3
 v3:=Tryz.zeroValue3
 t4:=Tryz.underlying4
 a4:=Tryz.isAgg4
 z4:=Tryz.sizeOf4
 v4:=Tryz.zeroValue4
 t5:=Tryz.underlying5
 a5:=Tryz.isAgg5
 z5:=Tryz.sizeOf5
 v5:=Tryz.zeroValue5
 t9:=Tryz.underlying9
 a9:=Tryz.isAgg9
 z9:=Tryz.sizeOf9
 v9:=Tryz.zeroValue9
 t22:=Tryz.underlying22
 a22:=Tryz.isAgg22
 z22:=Tryz.sizeOf22
 v22:=Tryz.zeroValue22
 t25:=Tryz.underlying98
 a25:=Tryz.isAgg98
 z25:=Tryz.sizeOf98
 v25:=Tryz.zeroValue98
 t39:=Tryz.underlying149
 a39:=Tryz.isAgg149
 z39:=Tryz.sizeOf149
 v39:=Tryz.zeroValue149
 t45:=Tryz.underlying170
 a45:=Tryz.isAgg170
 z45:=Tryz.sizeOf170
 v45:=Tryz.zeroValue170
 t46:=Tryz.underlying171
 a46:=Tryz.isAgg171
 z46:=Tryz.sizeOf171
 v46:=Tryz.zeroValue171
 t50:=Tryz.underlying175
 a50:=Tryz.isAgg175
 z50:=Tryz.sizeOf175
 v50:=Tryz.zeroValue175
 t53:=Tryz.underlying146
 a53:=Tryz.isAgg146
 z53:=Tryz.sizeOf146
 v53:=Tryz.zeroValue146
 t55:=Tryz.underlying108
 a55:=Tryz.isAgg108
 z55:=Tryz.sizeOf108
 v55:=Tryz.zeroValue108
 t66:=Tryz.underlying185
 a66:=Tryz.isAgg185
 z66:=Tryz.sizeOf185
 v66:=Tryz.zeroValue185
 t70:=Tryz.underlying189
 a70:=Tryz.isAgg189
 z70:=Tryz.sizeOf189
 v70:=Tryz.zeroValue189
 t76:=Tryz.underlying193
 a76:=Tryz.isAgg193
 z76:=Tryz.sizeOf193
 v76:=Tryz.zeroValue193
 t77:=Tryz.underlying194
 a77:=Tryz.isAgg194
 z77:=Tryz.sizeOf194
 v77:=Tryz.zeroValue194 }
def Bo:Go.Shelf.Ren:=⟨λ|35=>75|n=>n,λ|0=>0|3=>3|4=>4|22=>22|23=>26|n=>n,λ|n=>n⟩
theorem M6:Go.Proofs.SlLaysE0.n35 Tryz.prog Bo:={
 mixed:=by kernel_rfl
 f35 := ⟨"slices.Reverse[[]wingworks/api.Point,wingworks/api.Point]", by kernel_rfl, Tryz.func75.trans (congrArg some (by kernel_rfl))⟩
 t0:=Tryz.underlying0
 a0:=Tryz.isAgg0
 z0:=Tryz.sizeOf0
 v0:=Tryz.zeroValue0
 t3:=Tryz.underlying3
 a3:=Tryz.isAgg3
 z3:=Tryz.sizeOf3
 v3:=Tryz.zeroValue3
 t4:=Tryz.underlying4
 a4:=Tryz.isAgg4
 z4:=Tryz.sizeOf4
 v4:=Tryz.zeroValue4
 t22:=Tryz.underlying22
 a22:=Tryz.isAgg22
 z22:=Tryz.sizeOf22
 v22:=Tryz.zeroValue22 }
end Wx

namespace Wx
open Go Go.RowKit Go.Proofs
noncomputable def qn (n:Nat) (L:List Pt):Array DF:=((List.range n).map λi=>QO (aj L i)).toArray
variable {n:Nat} {L:List Pt}
theorem cP:(qn n L).size=n:=by simp[qn]
variable {i:Nat}
theorem tO (h:i<n):(qn n L)[i]! = QO (aj L i):=by
 rw[getElem!_pos _ i (by rw[cP]; exact h)]
 simp[qn]
def tH (d:Array DF):List Pt:=d.toList.map (·.p)
theorem vP {d:Array DF} (h:i<d.size):(d[i]!).p=aj (tH d) i:=by
 rw[getElem!_pos _ i h]
 unfold aj tH
 rw[List.getD_eq_getElem?_getD,List.getElem?_map]
 simp[h]
noncomputable def pA (n:Nat) (L:List Pt):List Pt:=tH ((qn n L).toList.mergeSort λx y=>!(ltOf nH) y x).toArray
theorem lt_iff (x y:DF):ltOf nH x y=true↔x.p.1<y.p.1\/(x.p.1=y.p.1/\x.p.2<y.p.2):=by
 unfold ltOf nH
 rw[decide_eq_true_iff]
 by_cases h:x.p.1≠y.p.1
 ·rw[if_pos h]; omega
 ·rw[if_neg h]; omega
theorem oT (x y:DF):ltOf nH x y=false↔¬(x.p.1<y.p.1\/(x.p.1=y.p.1/\x.p.2<y.p.2)):=by rw[<-lt_iff,Bool.not_eq_true]
theorem Qj:Go.Sort.SWO (ltOf nH) where
 irrefl x:=by rw[oT]; omega
 trans x y z h1 h2:=by rw[lt_iff]at *; omega
 ntrans x y z h1 h2:=by rw[oT]at *; omega
theorem TB (x y:DF) (h1:ltOf nH x y=false) (h2:ltOf nH y x=false):x=y:=by
 rw[oT]at h1 h2
 obtain⟨⟨a,b⟩,hx⟩:=x
 obtain⟨⟨c,d⟩,hy⟩:=y
 dsimp only at h1 h2
 obtain rfl:a=c:=by omega
 obtain rfl:b=d:=by omega
 rfl
section
variable {L:List Pt} {b N n c:Nat}
theorem M3 (h:(∀q,q<n->bu 16777216 (aj L q))/\n<=1000/\n*2<=N) (M:Nat->Nat->Prop) (w:World) (v1 v2:Value) (_:dN M w) (_:∀o,¬M b o) (h0:One b N (Hq n L) w) (h1:aS (lA M b) (λw=>bW (.slice (some ⟨b,0,none⟩) n c) w v1) w) (h2:aS (lA M b) (λw=>bW (.func (.func 72) #[] #[]) w v2) w):
  Calls Tryz.prog 71 #[v1,v2] w (we M b N (bW (.tuple #[])) (Hq n (pA n L)) w):=by
 obtain rfl:v1=.slice (some ⟨b,0,none⟩) n c:=h1.out
 obtain rfl:v2=.func (.func 72) #[] #[]:=h2.out
 have hH:=holds_of_one (d:=qn n L) h0 cP λi hi=>by rw[tO hi,Ds (h.1 i hi)]
 have k:=AnyQ.slices_SortFunc_total JS 2 Tryz.isAgg26 Tryz.sizeOf26 qM (λ_=>rfl) (λx v hv=>by
  rcases List.mem_cons.1 hv with rfl|hv
  ·rfl
  ·rw[List.mem_singleton.1 hv]; rfl) nH Qj 72 #[] b 0 c (qn n L) w (λ_ _=>by kernel_rfl) (λm os dk _ x y=>Ej x y _) hH h0.lt (by rw[cP]; omega) TB
 rw[cP]at k
 refine k.mono ?_
 rintro e w' ⟨rfl,m,os,rfl⟩
 have hsz:(((qn n L).toList.mergeSort λx y=>!(ltOf nH) y x).toArray).size=n:=by
  rw[List.size_toArray,List.length_mergeSort,Array.length_toList,cP]
 exact tL h0 hsz h.2.2 λi hi=>vP (by omega)
theorem Eh (h:n<=1000/\n*2<=N/\∀q,q<n->bu 16777216 (aj L q)) (M:Nat->Nat->Prop) (w:World) (v1:Value) (_:dN M w) (_:∀o,¬M b o) (h0:One b N (Hq n L) w) (h1:aS (lA M b) (λw=>bW (.slice (some ⟨b,0,none⟩) n c) w v1) w):
  Calls Tryz.prog 75 #[v1] w (we M b N (bW (.tuple #[])) (Hq n ((List.range n).map λi=>aj L (n-1-i))) w):=by
 obtain rfl:v1=.slice (some ⟨b,0,none⟩) n c:=h1.out
 have hH:=holds_of_one (d:=qn n L) h0 cP λi hi=>by rw[tO hi,Ds (h.2.2 i hi)]
 have k:=AnyQ.slices_Reverse M6 2 Tryz.isAgg26 Tryz.sizeOf26 qM (λ_=>rfl) (λx v hv=>by
  rcases List.mem_cons.1 hv with rfl|hv
  ·rfl
  ·rw[List.mem_singleton.1 hv]; rfl) b 0 c (qn n L) w hH (by rw[cP]; omega)
 rw[cP]at k
 refine k.mono ?_
 rintro e w' ⟨rfl,m,rfl⟩
 have hsz:((qn n L).reverse).size=n:=by rw[Array.size_reverse,cP]
 have r:=tL (M:=M) (L':=(List.range n).map λi=>aj L (n-1-i)) (m:=m) (os:=#[]) h0 hsz h.2.1 λi hi=>by
  rw[getElem!_pos _ i (by omega),Array.getElem_reverse]
  have e:=tO (L:=L) (show n-1-i<n by omega)
  rw[getElem!_pos _ _ (by rw[cP]; omega)]at e
  simp only[cP]
  rw[e,Ds (h.2.2 _ (by omega))]
  unfold aj
  rw[List.getD_eq_getElem?_getD (l:=List.map _ _),List.getElem?_map,List.getElem?_range hi]
  rfl
 have hg:∀W:World,Go.Sort.grow W #[]=W:=λW=>by unfold Go.Sort.grow; simp
 rw[hg]at r
 exact r
end
end Wx
