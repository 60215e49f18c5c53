import Derived.Shelf.GgSortFunc.InsertionK
import Derived.Tactics2
import Derived.Laws.StructEq
import Derived.Test.YtikkgpljpglnbaaGreatCRMSemGr
import Derived.Shelf.SlSortCmp.NoneTotal
import Derived.Shelf.SlicesQ.Reverse
namespace Wx
open Go Go.RowKit Go.Proofs
def jo (p:Pt):List Value:=[.int .i64 p.1,.int .i64 p.2]
variable {p:Pt} {w:World}
theorem wT {ds:List Value}:cq p w (aq true ds)↔ds=jo p:=by
 constructor
 ·rintro⟨cs,e,h1,h2,h3,h4,h5⟩
  have e':ds=cs:=by
   have h:(Value.agg ds.toArray)=.agg cs.toArray:=e
   injection h with h
   exact congrArg Array.toList h
  subst e'
  match ds,h1,h2,h3,h4,h5 with
  |[a,b],_,h2,_,h4,_=>
   have h2:a=.int .i64 p.1:=h2
   have h4:b=.int .i64 p.2:=h4
   rw[h2,h4]
   rfl
  |[],h1,_,_,_,_=>exact absurd (show 1<=0 from h1) (by omega)
  |[_],_,_,h3,_,_=>exact absurd (show 1<=0 from h3) (by omega)
  |_::_::_::_,_,_,_,_,h5=>cases h5
 ·rintro rfl
  exact⟨_,rfl,Nat.le_add_left _ _,rfl,Nat.le_refl _,rfl,rfl⟩
abbrev mG (n:Nat) (L:List Pt):Pred:=E6 2 n true λi=>cq (ae L i)
theorem bK (p:Pt):av (cq p):=BN ⟨bu _,bu _,trivial⟩
theorem Ey {l:List Value} {k:Nat} {x y:Value}:(l.drop k).take 2=[x,y]↔l[k]?=some x/\l[k+1]?=some y:=by
 have h0:(l.drop k)[0]?=l[k]?:=by rw[List.getElem?_drop]; rfl
 have h1:(l.drop k)[1]?=l[k+1]?:=by rw[List.getElem?_drop]
 rw[<-h0,<-h1]
 match l.drop k with
 |[]=>simp
 |[a]=>simp
 |a::b::r=>simp
def Lc (n:Nat) (L:List Pt) (cs:List Value):Prop:=∀i,i<n->cs[i*2]?=some (.int .i64 (ae L i).1)/\cs[i*2+1]?=some (.int .i64 (ae L i).2)
theorem yU {n:Nat} {L:List Pt} {cs:List Value}:mG n L w (aq true cs)↔Lc n L cs:=by
 constructor
 ·rintro⟨ds,e,h⟩ i hi
  have e':cs=ds:=by
   have h:(Value.agg cs.toArray)=.agg ds.toArray:=e
   injection h with h
   exact congrArg Array.toList h
  subst e'
  exact Ey.1 (wT.1 (h i hi))
 ·intro h
  exact⟨cs,rfl,λi hi=>wT.2 (Ey.2 (h i hi))⟩
structure Bb where
 p:Pt
 h:cG 16777216 p
instance:Inhabited Bb:=⟨⟨(0,0),by unfold cG; decide⟩⟩
open Classical in
noncomputable def NP (p:Pt):Bb:=if h:cG 16777216 p then⟨p,h⟩else default
theorem xq (h:cG 16777216 p):(NP p).p=p:=by unfold NP; rw[dif_pos h]
abbrev oG (x:Bb):List Value:=jo x.p
section
variable {w:World} {b N n:Nat} {L:List Pt}{d:Array Bb}
theorem vV {j:Nat} (h:j<d.size*2):(Go.Sort.flatK oG 2 d)[j]! = if j%2=0 then .int .i64 (d[j/2]!).p.1 else .int .i64 (d[j/2]!).p.2:=by
 rw[Go.Sort.get_flatK oG 2 d j h]
 have hj:j%2=0\/j%2=1:=by omega
 rcases hj with e|e
 ·rw[e,if_pos rfl]; rfl
 ·rw[e,if_neg (by decide)]; rfl
theorem holds_of_one (h:One b N (mG n L) w) (hs:d.size=n) (hd:∀i,i<n->(d[i]!).p=ae L i):Go.Sort.HoldsK oG 2 w b 0 d:=by
 obtain⟨cs,T,h1,h2,h3,h4⟩:=h
 have h5:=yU.1 h4
 intro j hj
 rw[Go.Sort.size_flatK]at hj
 refine⟨?_,?_⟩
 ·show _=some (id _)
  rw[id,vV hj,Nat.zero_add]
  simp only[World.cell?,h1]
  have h6:=h5 (j/2) (by omega)
  rw[List.getElem?_toArray]
  by_cases e:j%2=0
  ·rw[if_pos e,hd _ (by omega),<-h6.1,show j/2*2=j by omega]; rfl
  ·rw[if_neg e,hd _ (by omega),<-h6.2,show j/2*2+1=j by omega]; rfl
 ·simp only[World.frozen?,h1]
  simp
theorem rJ {M:Nat->Nat->Prop} {L':List Pt} {m:Nat} {os:Array Obj} (h:One b N (mG n L) w) (hs:d.size=n) (hn:n*2<=N) (hd:∀i,i<n->(d[i]!).p=ae L' i):
  pU M b N (bg (.tuple #[])) (mG n L') w (.returned (.tuple #[])) (Go.Sort.grow (Go.Sort.putRowK oG 2 (Go.Sort.ahead w m) b 0 d) os):=by
 obtain⟨cs,T,h1,h2,h3,h4⟩:=h
 have hlt:b<w.heap.size:=(Array.getElem?_eq_some_iff.1 h1).1
 obtain⟨F,hF⟩:∃F,Go.Sort.flatK oG 2 d=F:=⟨_,rfl⟩
 have SB:F.size=n*2:=by rw[<-hF,Go.Sort.size_flatK,hs]
 have hFg:∀j,j<n*2->F[j]! = if j%2=0 then .int .i64 (d[j/2]!).p.1 else .int .i64 (d[j/2]!).p.2:=λj hj=>by rw[<-hF]; exact vV (by omega)
 obtain⟨C,hC⟩:∃C:List Value,(Go.Sort.putCells id 0 F cs.toArray).toList=C:=⟨_,rfl⟩
 have Rc:∀j,C[j]?=(cs[j]?).map λx=>if j<n*2 then F[j]! else x:=λj=>by
  rw[<-hC]
  unfold Go.Sort.putCells
  simp[SB]
 have hh:(Go.Sort.grow (Go.Sort.putRowK oG 2 (Go.Sort.ahead w m) b 0 d) os).heap=(w.heap.modify b (Go.Sort.onCells (Go.Sort.putCells id 0 F)))++os:=by
  rw[<-hF]; rfl
 have hb:(Go.Sort.grow (Go.Sort.putRowK oG 2 (Go.Sort.ahead w m) b 0 d) os).heap[b]?=some (.cells C.toArray T (0,0)):=by
  rw[hh,Array.getElem?_append_left (by simpa using hlt),Array.getElem?_modify,if_pos rfl,h1]
  rw[<-hC]
  rfl
 refine⟨_,rfl,λ_ _=>rfl,⟨rfl,rfl,rfl,?_,?_⟩,C,T,hb,?_,?_,?_⟩
 ·rw[hh]; simp
 ·intro k hk hne
  have hne:k≠b:=hne
  rw[hh,Array.getElem?_append_left (by simpa using hk),Array.getElem?_modify,if_neg (Ne.symm hne)]
 ·rw[<-hC]
  unfold Go.Sort.putCells
  simp[h2]
 ·intro v hv
  obtain⟨j,hj⟩:=List.mem_iff_getElem?.1 hv
  rw[Rc]at hj
  cases Pd:cs[j]? with
  |none=>rw[Pd]at hj; cases hj
  |some x=>
   rw[Pd]at hj
   injection hj with hj
   dsimp only at hj
   by_cases qG:j<n*2
   ·rw[if_pos qG,hFg j qG]at hj
    rw[<-hj]
    split
    ·exact eZ _
    ·exact eZ _
   ·rw[if_neg qG]at hj
    rw[<-hj]
    exact h3 x (List.mem_of_getElem? Pd)
 ·refine yU.2 λi hi=>?_
  have hg:∀j,j<n*2->C[j]?=some F[j]!:=λj hj=>by
   rw[Rc,List.getElem?_eq_getElem (show j<cs.length by omega),Option.map_some,if_pos hj]
  rw[hg _ (by omega),hg _ (by omega),hFg _ (by omega),hFg _ (by omega),if_pos (by omega),if_neg (by omega)]
  rw[show i*2/2=i by omega,show(i*2+1)/2=i by omega,hd i hi]
  exact⟨rfl,rfl⟩
end
end Wx

namespace Wx
open Go Go.RowKit Go.Proofs
theorem bC (p:Pt):Fits 2 true (cq p):=qy (fs:=[⟨false,1,pI p.1⟩,⟨false,1,pI p.2⟩]) ⟨fits_int _,fits_int _,trivial⟩ rfl
section
variable {P:Program} {ops:Array Oper} {ms:List Nat} {c:cF} {V:List Vr} {A:List Al} {G:List aQ} {i d:Nat} {x y z:Operand} {ty:TypeId} {pos:String} {aI:Array Edge}{T:TypeId}
theorem QW {q:Pt} (E:TypeId) (ht:lP P T E 2:=by exact⟨by kernel_rfl,λ_=>by kernel_rfl⟩) (yA:∀w,(zeroValue E).run P w=.ok (.agg (jo (0,0)).toArray) w:=by exactλ_=>by kernel_rfl) (h1:Has ms G i x (cq q):=by exact hs) (hp:Post G i (bz 2 true 1 λ_=>cq q):=by exact pt rfl):
  OpOk P ops ms c V A G i ⟨some d,.buildSlice T 1 #[(0,x)],ty,pos,aI,none⟩:=
 rj (agg:=true) ht yA rfl rfl ⟨by decide,by decide⟩ h1 (bC q) hp
theorem Ik {X:Option Addr} {n cap:Nat} (h:Has ms G i x (bg (.slice X n cap)):=by exact hs) (ht:F5 P T=true:=by kernel_rfl) (hp:Post G i (pI (n:Int)):=by exact pt rfl):OpOk P ops ms c V A G i ⟨some d,.call ⟨.builtin .len,#[x],#[T]⟩,ty,pos,aI,none⟩:=by
 obtain⟨E,hE⟩:=Ag ht
 exact DT h hE hp
end
variable {w:World}
theorem qE {c:cF} {V:List Vr} {G:List aQ} {a:Act} {id sz m:Nat} {ag:Bool} {E:TypeId} {f:Nat->Pred} {s:Value} (hI:Inv c V [] G none_ a w) (k:Nat) (hk:V[k]?=some (iL id sz m ag E f s)):∃X cap,s=.slice X m cap/\m<=cap/\cap<=maxLen:=by
 obtain⟨β,h⟩:=hI
 have hB:lN sz m ag E f s (β id) w:=((aG rfl).1 (h.var _ (List.mem_of_getElem? hk) rfl)).2.out
 rcases hB with⟨e,hm,_⟩|⟨bb,cap,cur,e,_,_,_,k5,k6,_⟩
 ·exact⟨none,0,by rw[e,hm],by omega,Nat.zero_le _⟩
 ·exact⟨_,cap,e,k5,k6⟩
theorem nL {p:Pt} {v:Value} (h:cq p w v):v=.agg #[.int .i64 p.1,.int .i64 p.2]:=by
 obtain⟨cs,e,h⟩:=h
 have:=wT.1 (show cq p w (aq true cs)from⟨cs,rfl,h⟩)
 rw[e,this]
 rfl
theorem Ea (a b c d:Int) (w:World):(Op.equalIn 10000 38 (.agg #[.int .i64 a,.int .i64 b]) (.agg #[.int .i64 c,.int .i64 d])).run Tryz.prog w=.ok (a==c&&b==d) w:=by
 have u3:=Tryz.underlying3
 have a3:=Tryz.isAgg3
 have z3:=Tryz.sizeOf3
 have hS:Tryz.prog.underlying 38=some (.struct (Tryz.prog.fieldsOf 38)):=by kernel_rfl
 have hp:Tryz.prog.stoodInHeld 38=false:=by kernel_rfl
 rw[show(10000:Nat)=9999+1 from rfl,run_equalIn_agg w 9999 38 _ _ hS hp]
 simp only[Program.fieldsOf,Tryz.underlying38]
 go_simp
 by_cases h1:a=c<;>by_cases h2:b=d<;>simp[h1,h2]
section
variable {ops:Array Oper} {ms:List Nat} {c:cF} {V:List Vr} {A:List Al} {G:List aQ} {i d:Nat} {x y z:Operand} {ty:TypeId} {pos:String} {aI:Array Edge}{p q:Pt}
theorem xj {op:BinOp} {x y:Operand} (b:Bool) (hop:op=.eql/\b=decide (p=q)\/op=.neq/\b=decide (p≠q)) (w:World):(do pure (Next.value (<-(do eqGuard op 38 x y (.agg #[.int .i64 p.1,.int .i64 p.2]) (.agg #[.int .i64 q.1,.int .i64 q.2]); Go.binOp op 38 (.agg #[.int .i64 p.1,.int .i64 p.2]) (.agg #[.int .i64 q.1,.int .i64 q.2])))):Sem Next).run Tryz.prog w=.ok (.value (.bool b)) w:=by
 have hm:Tryz.prog.eqGuardType Tryz.prog.depth 38=false:=by kernel_rfl
 have hpq:(p.1==q.1&&p.2==q.2)=decide (p=q):=by
  obtain⟨p1,p2⟩:=p
  obtain⟨q1,q2⟩:=q
  by_cases h1:p1=q1<;>by_cases h2:p2=q2<;>simp[h1,h2]
 simp only[Sem.run_bind,run_eqGuard_agg w op _ x y _ _ hm,Result.andThen_ok]
 rcases hop with⟨rfl,rfl⟩|⟨rfl,rfl⟩
 ·rw[run_eql_struct,Ea,hpq]
  rfl
 ·rw[run_neq_struct,Ea,hpq]
  rw[show decide (p≠q)=!decide (p=q)from decide_not]
  rfl
variable {u:TypeId}
theorem Nq (h1:Has ms G i x (cq p):=by exact hs) (h2:Has ms G i y (cq q):=by exact hs) (hp:Post G i (pB (decide (p=q))):=by exact pt rfl):OpOk Tryz.prog ops ms c V A G i ⟨some d,.binOp .eql 38 x y u,ty,pos,aI,none⟩:=
 je rfl rfl rfl rfl h1 h2 hp λρ w h1 h2=>⟨.bool (decide (p=q)),by
  show(do pure (Next.value (<-(do eqGuard .eql 38 x y (ρ x) (ρ y); Go.binOp .eql 38 (ρ x) (ρ y)))):Sem Next).run Tryz.prog w=_
  rw[nL h1,nL h2]
  exact xj _ (.inl ⟨rfl,rfl⟩) w,λ_ _ _=>rfl⟩
theorem RO (h1:Has ms G i x (cq p):=by exact hs) (h2:Has ms G i y (cq q):=by exact hs) (hp:Post G i (pB (decide (p≠q))):=by exact pt rfl):OpOk Tryz.prog ops ms c V A G i ⟨some d,.binOp .neq 38 x y u,ty,pos,aI,none⟩:=
 je rfl rfl rfl rfl h1 h2 hp λρ w h1 h2=>⟨.bool (decide (p≠q)),by
  show(do pure (Next.value (<-(do eqGuard .neq 38 x y (ρ x) (ρ y); Go.binOp .neq 38 (ρ x) (ρ y)))):Sem Next).run Tryz.prog w=_
  rw[nL h1,nL h2]
  exact xj _ (.inr ⟨rfl,rfl⟩) w,λ_ _ _=>rfl⟩
theorem JS {P:Program} {T:TypeId} {v:Vr} {b n k off:Nat} {L:List Pt} (N q:Nat) (hv:jv N V=some v:=by exact rfl) (ho:aX ms i v=true:=by exact rfl) (bD:v.kd=.obj:=by exact rfl) (hst:(v.st.all λq=>(q.1==i||(ms.getD i 0).testBit q.1)||(ms.getD q.1 0).testBit i)=true:=by kernel_rfl)
  (hc:cont (λj=>(ms.getD i 0).testBit j) v.c0 v.st=kN b n (mG k L):=by exact rfl) (h:Has ms G i y (bg (.pointer (some ⟨b,off,none⟩))):=by exact hs) (hq:q<k:=by omega) (hoff:off=q*2:=by omega) (hlen:k*2<=n:=by omega) (hp:Post G i (cq (ae L q)):=by exact pt rfl) (ht:zn P T true 2=true:=by kernel_rfl):OpOk P ops ms c V A G i ⟨some d,.load T y,ty,pos,aI,none⟩:=by
 obtain⟨⟨j,hj⟩,_⟩:=cC hv
 subst hoff
 exact mE j hj ho bD hst hc h (by omega) (bF ht) (λw cs _ hcs=>wT.2 (Ey.2 (yU.1 hcs q hq))) (bK _) hp
end
section
variable {P:Program} {c:cF} {V:List Vr} {G:List aQ} {a:Act} {w:World}{fn:Func} {N b n:Nat} {q:Pred} {M:Nat->Nat->Prop}
theorem Nb {f:FuncId} {C:Code} {v1:Value} {p1:Pred} {R:Ending->World->Prop} (hf:P.funcs[f]?=some fn) (hb:fn.body=some C) (hN:fn.ntmps=N) (hM:cQ M w) (LV:∀o,¬M b o) (hq:av q) (h0:One b n q w)
  (h1:aL (iK M b) (λw=>p1 w v1) w)
  (h:∀a,Inv ⟨N,w,M,(·=b)⟩ [cg N b n q] [] [Uz 0 p1] none_ a w->C.ww none [] P (bodyPost P fn R) a w) (hlen:decide (1<=N)=true:=by kernel_rfl):Calls P f #[v1] w R:=by
 have eo:∀k o,own ⟨N,w,M,(·=b)⟩ [cg N b n q] none_ (λ_ k=>k=b) k o->iK M b k o:=by
  rintro k o (h|⟨x,hx,_,h,_⟩)
  ·exact .inl h
  ·exact .inr h
 have jL:cQ (own ⟨N,w,M,(·=b)⟩ [cg N b n q] none_ (λ_ k=>k=b)) w:=λk o hk=>(eo k o hk).elim (λh=>hM k o h) λh=>by subst h; exact⟨h0.lt,λv hv=>h0.Iv o v hv⟩
 have hG:dO (iK M b) w [v1] [Uz 0 p1]:=⟨⟨rfl,_,rfl,h1⟩,trivial⟩
 have OQ:=dO.ok (m:=fn.ntmps-#[v1].size) hG
 refine calls_of_wp hf hb ((wpIn_wide (n:=0)).1 (wpIn_mono (h { tmps:=#[v1]++Array.replicate (fn.ntmps-#[v1].size) undef,defers:=[] } ?_ 0) λe a' w' ⟨a0,e0,h0⟩=>by subst e0; exact h0))
 refine⟨λ_ k=>k=b,by have:=of_decide_eq_true hlen; simp[hN]; omega,rfl,cA.refl _ _,(λk o h=>⟨⟨(hM k o h).1,λ(hb:k=b)=>LV o (hb▸h)⟩,(hM k o h).2⟩),(λx hx _=>?_),(λx y g hx hy _ _ hne=>?_),(λp hp=>by cases hp),λe he _ _=>(OQ.get e he).2.sub λk o _ h=>eo k o h⟩
 ·rcases List.mem_singleton.1 hx with rfl
  exact(aG rfl).2 ⟨λk (hk:k=b)=>by subst hk; exact⟨.inr rfl,h0.lt,λo v hv=>h0.Iv o v hv⟩,(h0.box (B:=(·=b)) rfl hq jL).imp λw h=>⟨λ_=>Iff.rfl,h⟩⟩
 ·rcases List.mem_singleton.1 hx with rfl
  rcases List.mem_singleton.1 hy with rfl
  exact absurd rfl hne
theorem LF {n0 s:Nat} {w0:World} {v:Value} (hI:Inv ⟨N,w0,M,(·=b)⟩ V [] G none_ a w) (hr:fn.results=#[.tmp s]) (hk:V[n0]?=some (cg N b n q)) (h1:eK s G=some (bg v):=by exact rfl):bodyPost P fn (pU M b n (bg v) q w0) .ret a w:=by
 obtain⟨β,hI⟩:=hI
 obtain⟨hβ,hone⟩:(∀k,β N k↔k=b)/\One b n q w:=((aG rfl).1 (hI.var _ (List.mem_of_getElem? hk) rfl)).2.out
 obtain⟨k1,nk⟩:=dh h1
 have es:sl a s=v:=(hI.gD _ (List.mem_of_getElem? nk) rfl rfl).out
 refine gG hI (v:=sl a s) ?_ ⟨_,rfl,λ_ _=>es,hI.below,hone⟩
 rw[cR,hr]
 simp[lJ,sl]
end
end Wx

namespace Wx
set_option maxRecDepth 100000
open Go Go.RowKit Go.Proofs
set_option maxHeartbeats 2000000 in
theorem JT {n:Nat} (h:0<n/\n<=1000000) (f:Nat->Pred) (w:World):Calls Tryz.prog 40 #[.slice none 0 0,.int .i64 n] w (tN 2 0 true 38 f w):=by
 obtain⟨h1,h2⟩:=h
 have hge:n<=(Question.appendCap n 0 38).cut (w.tape w.drawn (.appendCap n 0 38)):=grownCap_ge w n 0 38
 have hle:(Question.appendCap n 0 38).cut (w.tape w.drawn (.appendCap n 0 38))<=maxLen:=grownCap_le_maxLen w n 0 38 (by unfold maxLen; omega)
 have hb2:Builtin.nextslicecap n 0*16<=281474976710656:=growslice_fits (old:=0) (bytes:=16) h1 (by omega)
 have Rs:Tryz.t38.bytes=16:=by kernel_rfl
 go_enter Tryz.func40,Tryz.ntmps40
 go_wp2
 all_goals first
  |(exfalso; rename_i hx _ _; rw[Rs]at hx; omega)
  |(exfalso; rename_i hx _ _ _; rw[Rs]at hx; omega)
  |skip
 go_ret
 generalize (Question.appendCap n 0 38).cut (w.tape w.drawn (.appendCap n 0 38))=cap at *
 obtain⟨cs,hcs⟩:∃cs:Array Value,Builtin.zeroCells #[.int .i64 0,.int .i64 0] n++Builtin.zeroCells #[.int .i64 0,.int .i64 0] (cap-n)=cs:=⟨_,rfl⟩
 have hsz:cs.toList.length=cap*2:=by
  rw[<-hcs]
  rw[Array.toList_append,List.length_append,Array.length_toList,Array.length_toList,size_zeroCells,size_zeroCells]
  show n*2+(cap-n)*2=_
  omega
 have hno:∀u∈cs.toList,fq u:=λu hu=>by
  rw[<-hcs,Array.toList_append]at hu
  have hz:∀u∈(#[.int .i64 0,.int .i64 0]:Array Value).toList,fq u:=λu hu=>by
   rcases List.mem_cons.1 hu with rfl|hu
   ·exact eZ _
   ·rw[List.mem_singleton.1 hu]; exact eZ _
  rcases List.mem_append.1 hu with hu|hu
  ·exact dI hz _ u hu
  ·exact dI hz _ u hu
 rw[hcs]
 refine⟨w.heap.size,cap,rfl,Below.drew (Below.alloc (Below.refl _ _) (Nat.le_refl _) _),Nat.le_refl _,.inr ⟨w.heap.size,cap,cs.toList,rfl,λ_=>Iff.rfl,?_,hsz,Nat.zero_le _,hle,hno,λi hi=>absurd hi (Nat.not_lt_zero _)⟩⟩
 show(w.alloc (.cells cs 38)).heap[w.heap.size]?=_
 exact World.alloc_heap_new w _
section
variable {P:Program} {c:cF} {V:List Vr} {G:List aQ} {a:Act} {w:World} {x y z:Operand} {d:Nat} {ty:TypeId} {pos:String} {aI:Array Edge}
theorem Oq {ops:Array Oper} {f:FuncId} {ts:Array TypeId} {Cu m e:Nat} {Co:Bool} {E:TypeId} {f2:Nat->Pred} {v1 v2:Value} {ty2:TypeId} {pos2:String} {aft2:Array Edge} (gB:∀w,Calls P f #[v1,v2] w (tN Cu m Co E f2 w)) (Ab:∀i,av (f2 i)) (h1:Has [0] G 0 x (bg v1):=by exact hs) (h2:Has [0] G 0 y (bg v2):=by exact hs)
  (hf:aJ P f:=by exactλ_ _=>by kernel_rfl) (hd:decide (d<c.N)=true:=by kernel_rfl) (hV:(V.all λy=>(y.slot != d&&y.id != d)&&(y.born.isNone&&y.dead.isNone))=true:=by kernel_rfl) (hG:(G.all λe=>e.slot != d)=true:=by kernel_rfl) (he':decide (e<c.N/\d≠e)=true:=by kernel_rfl) (FF:(V.all λx=>x.slot != e)=true:=by kernel_rfl) (Hu:(G.all λx=>x.slot != e)=true:=by kernel_rfl):
  eI P ops (Inv c V [] G none_) [⟨some d,.call ⟨.value (.func f),#[x,y],ts⟩,ty,pos,aI,none⟩,⟨some e,.assign (.tmp d),ty2,pos2,aft2,none⟩] (λa w=>∃b2 dB,(m<=dB/\dB<=maxLen)/\Inv c (iL d Cu m Co E f2 (.slice (some ⟨b2,0,none⟩) m dB)::V) [] (⟨none,none,e,bg (.slice (some ⟨b2,0,none⟩) m dB)⟩::G) none_ a w):=by
 have he:=of_decide_eq_true he'
 rw[List.all_eq_true]at FF Hu
 refine⟨λa w=>∃b2 dB,Inv c (iL d Cu m Co E f2 (.slice (some ⟨b2,0,none⟩) m dB)::V) [] (⟨none,none,d,bg (.slice (some ⟨b2,0,none⟩) m dB)⟩::G) none_ a w,?_,_,?_,rfl⟩
 ·rintro a w ⟨β,hI⟩
  have e1:a.eval x=v1:=(h1.spec hI iS).out
  have e2:a.eval y=v2:=(h2.spec hI iS).out
  refine .of rfl (kB hf (Calls.mono (by
   rw[show(#[x,y]:Array Operand).map a.eval=#[a.eval x,a.eval y] by simp,e1,e2]
   exact gB w) ?_))
  rintro e w' ⟨b2,dB,rfl,hb,hrb,ho⟩
  have hblk:=fB ho b2 rfl
  exact⟨_,rfl,b2,dB,hI.tR (R:=λB w=>lN Cu m Co E f2 (.slice (some ⟨b2,0,none⟩) m dB) B w) hb hrb hblk.1 hblk.2 (λM hM w'' he=>ho.keep Ab (λk o hk=>hM k o hk.1) he λk hk=>he.block k (fB ho k hk).1 λo hh=>hh.2 hk) (of_decide_eq_true hd) hV hG⟩
 ·rintro a w ⟨b2,dB,hI⟩
  have hbd:m<=dB/\dB<=maxLen:=by
   obtain⟨β,h⟩:=hI
   exact lN.bound (((aG rfl).1 (h.var _ (List.mem_cons_self ..) rfl)).2.out)
  have h:=jZ (P:=P) (ops:=ops) (ty2:=ty2) (pos2:=pos2) (aft2:=aft2) he.1 (λx hx=>by
   rcases List.mem_cons.1 hx with rfl|hx
   ·exact he.2
   ·simpa using FF x hx) (λx hx=>by simpa using Hu x hx) hI
  exact h.mono λ_ _ h=>⟨b2,dB,hbd,h⟩
end
theorem KH {P:Program} {ops:Array Oper} {ms:List Nat} {c:cF} {V:List Vr} {A:List Al} {G:List aQ} {i d:Nat} {x y:Operand} {ty:TypeId} {pos:String} {aI:Array Edge} {T:TypeId} {sz:Nat} {agg:Bool} {p q:Pred} {zv:Value} (E:TypeId) (z:List Value) (F:Nat->Pred) (f1:Fits sz agg p) (f2:Fits sz agg q) (e0:F 0=p:=by rfl) (e1:F 1=q:=by rfl) (ht:lP P T E sz:=by exact⟨by kernel_rfl,λ_=>by kernel_rfl⟩) (yA:∀w,(zeroValue E).run P w=.ok zv w:=by exactλ_=>by kernel_rfl) (yz:zv.cells=z.toArray:=by rfl) (hsz:decide (0<sz/\0<2/\2*sz<=16777216)=true:=by decide) (uQ:z.length=sz:=by rfl)
  (h1:Has ms G i x p:=by exact hs) (h2:Has ms G i y q:=by exact hs) (hp:Post G i (bz sz agg 2 F):=by exact pt rfl):OpOk P ops ms c V A G i ⟨some d,.buildSlice T 2 #[(0,x),(1,y)],ty,pos,aI,none⟩:=
 gY (p:=lH) (fs:=List.replicate 2 ⟨agg,sz,lH⟩) (ps:=[(0,p),(1,q)]) ht yA yz rfl hsz (λ_=>trivial) uQ (show da ms G i (List.replicate 2 ⟨agg,sz,lH⟩) [(0,x),(1,y)] [(0,p),(1,q)]from⟨⟨rfl,h1,_,rfl,f1⟩,⟨rfl,h2,_,rfl,f2⟩,trivial⟩) rfl F (λk f hf=>by
  match k,hf with
  |0,hf=>
   have hf:some (⟨agg,sz,p⟩:Fd)=some f:=hf
   injection hf with hf
   rw[<-hf,e0]
  |1,hf=>
   have hf:some (⟨agg,sz,q⟩:Fd)=some f:=hf
   injection hf with hf
   rw[<-hf,e1]
  |k+2,hf=>cases hf) hp
theorem bG (L:List Pt) (d:Int):Fits 2 true (eR L d):=qy (fs:=[⟨false,1,eC L⟩,⟨false,1,pI d⟩]) ⟨ee,fits_int _,trivial⟩ rfl
end Wx

namespace Wx
open Go Go.RowKit Go.Proofs
def iQ (x y:Bb):Int:=if x.p.1≠y.p.1 then x.p.1-y.p.1 else x.p.2-y.p.2
set_option maxHeartbeats 2000000 in
theorem BD (x y:Bb) (W:World):Calls Tryz.prog 35 #[.agg (oG x).toArray,.agg (oG y).toArray] W λe w'=>e=.returned (.int .i64 (iQ x y))/\∃q os',w'=Go.Sort.grow (W.drewN q) os':=by
 obtain⟨⟨x1,x2⟩,hx⟩:=x
 obtain⟨⟨y1,y2⟩,hy⟩:=y
 obtain⟨a1,a2,a3,a4⟩:=hx
 obtain⟨b1,b2,b3,b4⟩:=hy
 dsimp only at a1 a2 a3 a4 b1 b2 b3 b4
 unfold iQ
 dsimp only[oG,jo]
 by_cases h:x1=y1
 ·subst h
  rw[if_neg (by simp)]
  go_enter Tryz.func35,Tryz.ntmps35
  go_wp2
  go_ret
  refine⟨rfl,0,#[.cells #[.int .i64 x1,.int .i64 x2] 38 (0,0),.cells #[.int .i64 x1,.int .i64 y2] 38 (0,0)],?_⟩
  rfl
 ·rw[if_pos h]
  have hb:(x1 != y1)=true:=by simpa using h
  go_enter Tryz.func35,Tryz.ntmps35
  go_wp2
  go_ret
  refine⟨rfl,0,#[.cells #[.int .i64 x1,.int .i64 x2] 38 (0,0),.cells #[.int .i64 y1,.int .i64 y2] 38 (0,0)],?_⟩
  rfl
end Wx

namespace Wx
open Go Go.RowKit Go.Proofs
def wB:Go.Shelf.Ren:=⟨λ|6=>34|14=>64|15=>65|20=>86|21=>87|22=>88|23=>89|24=>90|25=>91|26=>92|27=>93|28=>94|29=>95|46=>105|47=>106|48=>107|49=>108|50=>109|57=>112|n=>n,λ|0=>0|3=>3|4=>4|5=>5|9=>9|22=>22|25=>68|39=>102|45=>121|46=>122|50=>126|53=>129|55=>86|66=>137|70=>141|76=>145|77=>146|24=>38|n=>n,λ|n=>n⟩
theorem Gd:Go.Proofs.SlLaysF0.n6 Tryz.prog wB:={
 mixed:=by kernel_rfl
 f6 := ⟨"slices.SortFunc[[]wingworks/api.Point,wingworks/api.Point]", by kernel_rfl, Tryz.func34.trans (congrArg some (by kernel_rfl))⟩
 f14 := ⟨"slices.pdqsortCmpFunc[wingworks/api.Point]", by kernel_rfl, Tryz.func64.trans (congrArg some (by kernel_rfl))⟩
 f15:=Tryz.func65.trans (congrArg some (by kernel_rfl))
 f20 := ⟨"slices.insertionSortCmpFunc[wingworks/api.Point]", by kernel_rfl, Tryz.func86.trans (congrArg some (by kernel_rfl))⟩
 f21 := ⟨"slices.heapSortCmpFunc[wingworks/api.Point]", by kernel_rfl, Tryz.func87.trans (congrArg some (by kernel_rfl))⟩
 f22 := ⟨"slices.breakPatternsCmpFunc[wingworks/api.Point]", by kernel_rfl, Tryz.func88.trans (congrArg some (by kernel_rfl))⟩
 f23 := ⟨"slices.choosePivotCmpFunc[wingworks/api.Point]", by kernel_rfl, Tryz.func89.trans (congrArg some (by kernel_rfl))⟩
 f24 := ⟨"slices.reverseRangeCmpFunc[wingworks/api.Point]", by kernel_rfl, Tryz.func90.trans (congrArg some (by kernel_rfl))⟩
 f25 := ⟨"slices.partialInsertionSortCmpFunc[wingworks/api.Point]", by kernel_rfl, Tryz.func91.trans (congrArg some (by kernel_rfl))⟩
 f26 := ⟨"slices.partitionEqualCmpFunc[wingworks/api.Point]", by kernel_rfl, Tryz.func92.trans (congrArg some (by kernel_rfl))⟩
 f27 := ⟨"slices.partitionCmpFunc[wingworks/api.Point]", by kernel_rfl, Tryz.func93.trans (congrArg some (by kernel_rfl))⟩
 f28:=Tryz.func94.trans (congrArg some (by kernel_rfl))
 f29:=Tryz.func95.trans (congrArg some (by kernel_rfl))
 f46 := ⟨"slices.siftDownCmpFunc[wingworks/api.Point]", by kernel_rfl, Tryz.func105.trans (congrArg some (by kernel_rfl))⟩
 f47:=Tryz.func106.trans (congrArg some (by kernel_rfl))
 f48:=Tryz.func107.trans (congrArg some (by kernel_rfl))
 f49 := ⟨"slices.medianAdjacentCmpFunc[wingworks/api.Point]", by kernel_rfl, Tryz.func108.trans (congrArg some (by kernel_rfl))⟩
 f50 := ⟨"slices.medianCmpFunc[wingworks/api.Point]", by kernel_rfl, Tryz.func109.trans (congrArg some (by kernel_rfl))⟩
 f57 := ⟨"slices.order2CmpFunc[wingworks/api.Point]", by kernel_rfl, Tryz.func112.trans (congrArg some (by kernel_rfl))⟩
 t0:=Tryz.underlying0
 a0:=Tryz.isAgg0
 z0:=Tryz.sizeOf0
 v0:=Tryz.zeroValue0
 t3:=Tryz.underlying3
 a3:=Tryz.isAgg3
 z3:=Tryz.sizeOf3
 v3:=Tryz.zeroValue3
 t4:=Tryz.underlying4
 a4:=Tryz.isAgg4
 z4:=Tryz.sizeOf4
 v4:=Tryz.zeroValue4
 t5:=Tryz.underlying5
 a5:=Tryz.isAgg5
 z5:=Tryz.sizeOf5
 v5:=Tryz.zeroValue5
 t9:=Tryz.underlying9
 a9:=Tryz.isAgg9
 z9:=Tryz.sizeOf9
 v9:=Tryz.zeroValue9
 t22:=Tryz.underlying22
 a22:=Tryz.isAgg22
 z22:=Tryz.sizeOf22
 v22:=Tryz.zeroValue22
 t25:=Tryz.underlying68
 a25:=Tryz.isAgg68
 z25:=Tryz.sizeOf68
 v25:=Tryz.zeroValue68
 t39:=Tryz.underlying102
 a39:=Tryz.isAgg102
 z39:=Tryz.sizeOf102
 v39:=Tryz.zeroValue102
 t45:=Tryz.underlying121
 a45:=Tryz.isAgg121
 z45:=Tryz.sizeOf121
 v45:=Tryz.zeroValue121
 t46:=Tryz.underlying122
 a46:=Tryz.isAgg122
 z46:=Tryz.sizeOf122
 v46:=Tryz.zeroValue122
 t50:=Tryz.underlying126
 a50:=Tryz.isAgg126
 z50:=Tryz.sizeOf126
 v50:=Tryz.zeroValue126
 t53:=Tryz.underlying129
 a53:=Tryz.isAgg129
 z53:=Tryz.sizeOf129
 v53:=Tryz.zeroValue129
 t55:=Tryz.underlying86
 a55:=Tryz.isAgg86
 z55:=Tryz.sizeOf86
 v55:=Tryz.zeroValue86
 t66:=Tryz.underlying137
 a66:=Tryz.isAgg137
 z66:=Tryz.sizeOf137
 v66:=Tryz.zeroValue137
 t70:=Tryz.underlying141
 a70:=Tryz.isAgg141
 z70:=Tryz.sizeOf141
 v70:=Tryz.zeroValue141
 t76:=Tryz.underlying145
 a76:=Tryz.isAgg145
 z76:=Tryz.sizeOf145
 v76:=Tryz.zeroValue145
 t77:=Tryz.underlying146
 a77:=Tryz.isAgg146
 z77:=Tryz.sizeOf146
 v77:=Tryz.zeroValue146 }
def yE:Go.Shelf.Ren:=⟨λ|35=>39|n=>n,λ|0=>0|3=>3|4=>4|22=>22|23=>38|n=>n,λ|n=>n⟩
theorem JV:Go.Proofs.SlLaysE0.n35 Tryz.prog yE:={
 mixed:=by kernel_rfl
 f35 := ⟨"slices.Reverse[[]wingworks/api.Point,wingworks/api.Point]", by kernel_rfl, Tryz.func39.trans (congrArg some (by kernel_rfl))⟩
 t0:=Tryz.underlying0
 a0:=Tryz.isAgg0
 z0:=Tryz.sizeOf0
 v0:=Tryz.zeroValue0
 t3:=Tryz.underlying3
 a3:=Tryz.isAgg3
 z3:=Tryz.sizeOf3
 v3:=Tryz.zeroValue3
 t4:=Tryz.underlying4
 a4:=Tryz.isAgg4
 z4:=Tryz.sizeOf4
 v4:=Tryz.zeroValue4
 t22:=Tryz.underlying22
 a22:=Tryz.isAgg22
 z22:=Tryz.sizeOf22
 v22:=Tryz.zeroValue22 }
end Wx

namespace Wx
open Go Go.RowKit Go.Proofs
noncomputable def lK (n:Nat) (L:List Pt):Array Bb:=((List.range n).map λi=>NP (ae L i)).toArray
variable {n:Nat} {L:List Pt}
theorem cj:(lK n L).size=n:=by simp[lK]
variable {i:Nat}
theorem rN (h:i<n):(lK n L)[i]! = NP (ae L i):=by
 rw[getElem!_pos _ i (by rw[cj]; exact h)]
 simp[lK]
def mJ (d:Array Bb):List Pt:=d.toList.map (·.p)
theorem tE {d:Array Bb} (h:i<d.size):(d[i]!).p=ae (mJ d) i:=by
 rw[getElem!_pos _ i h]
 unfold ae mJ
 rw[List.getD_eq_getElem?_getD,List.getElem?_map]
 simp[h]
noncomputable def dr (n:Nat) (L:List Pt):List Pt:=mJ ((lK n L).toList.mergeSort λx y=>!(ltOf iQ) y x).toArray
theorem lt_iff (x y:Bb):ltOf iQ x y=true↔x.p.1<y.p.1\/(x.p.1=y.p.1/\x.p.2<y.p.2):=by
 unfold ltOf iQ
 rw[decide_eq_true_iff]
 by_cases h:x.p.1≠y.p.1
 ·rw[if_pos h]; omega
 ·rw[if_neg h]; omega
theorem ja (x y:Bb):ltOf iQ x y=false↔¬(x.p.1<y.p.1\/(x.p.1=y.p.1/\x.p.2<y.p.2)):=by rw[<-lt_iff,Bool.not_eq_true]
theorem Kw:Go.Sort.SWO (ltOf iQ) where
 irrefl x:=by rw[ja]; omega
 trans x y z h1 h2:=by rw[lt_iff]at *; omega
 ntrans x y z h1 h2:=by rw[ja]at *; omega
theorem Qq (x y:Bb) (h1:ltOf iQ x y=false) (h2:ltOf iQ y x=false):x=y:=by
 rw[ja]at h1 h2
 obtain⟨⟨a,b⟩,hx⟩:=x
 obtain⟨⟨c,d⟩,hy⟩:=y
 dsimp only at h1 h2
 obtain rfl:a=c:=by omega
 obtain rfl:b=d:=by omega
 rfl
section
variable {L:List Pt} {b N n c:Nat}
theorem Dx (h:(∀q,q<n->cG 16777216 (ae L q))/\n<=1000/\n*2<=N) (M:Nat->Nat->Prop) (w:World) (v1 v2:Value) (_:cQ M w) (_:∀o,¬M b o) (h0:One b N (mG n L) w) (h1:aL (iK M b) (λw=>bg (.slice (some ⟨b,0,none⟩) n c) w v1) w) (h2:aL (iK M b) (λw=>bg (.func (.func 35) #[] #[]) w v2) w):
  Calls Tryz.prog 34 #[v1,v2] w (pU M b N (bg (.tuple #[])) (mG n (dr n L)) w):=by
 obtain rfl:v1=.slice (some ⟨b,0,none⟩) n c:=h1.out
 obtain rfl:v2=.func (.func 35) #[] #[]:=h2.out
 have hH:=holds_of_one (d:=lK n L) h0 cj λi hi=>by rw[rN hi,xq (h.1 i hi)]
 have k:=AnyQ.slices_SortFunc_total Gd 2 Tryz.isAgg38 Tryz.sizeOf38 oG (λ_=>rfl) (λx v hv=>by
  rcases List.mem_cons.1 hv with rfl|hv
  ·rfl
  ·rw[List.mem_singleton.1 hv]; rfl) iQ Kw 35 #[] b 0 c (lK n L) w (λ_ _=>by kernel_rfl) (λm os dk _ x y=>BD x y _) hH h0.lt (by rw[cj]; omega) Qq
 rw[cj]at k
 refine k.mono ?_
 rintro e w' ⟨rfl,m,os,rfl⟩
 have hsz:(((lK n L).toList.mergeSort λx y=>!(ltOf iQ) y x).toArray).size=n:=by
  rw[List.size_toArray,List.length_mergeSort,Array.length_toList,cj]
 exact rJ h0 hsz h.2.2 λi hi=>tE (by omega)
theorem tf (h:n<=1000/\n*2<=N/\∀q,q<n->cG 16777216 (ae L q)) (M:Nat->Nat->Prop) (w:World) (v1:Value) (_:cQ M w) (_:∀o,¬M b o) (h0:One b N (mG n L) w) (h1:aL (iK M b) (λw=>bg (.slice (some ⟨b,0,none⟩) n c) w v1) w):
  Calls Tryz.prog 39 #[v1] w (pU M b N (bg (.tuple #[])) (mG n ((List.range n).map λi=>ae L (n-1-i))) w):=by
 obtain rfl:v1=.slice (some ⟨b,0,none⟩) n c:=h1.out
 have hH:=holds_of_one (d:=lK n L) h0 cj λi hi=>by rw[rN hi,xq (h.2.2 i hi)]
 have k:=AnyQ.slices_Reverse JV 2 Tryz.isAgg38 Tryz.sizeOf38 oG (λ_=>rfl) (λx v hv=>by
  rcases List.mem_cons.1 hv with rfl|hv
  ·rfl
  ·rw[List.mem_singleton.1 hv]; rfl) b 0 c (lK n L) w hH (by rw[cj]; omega)
 rw[cj]at k
 refine k.mono ?_
 rintro e w' ⟨rfl,m,rfl⟩
 have hsz:((lK n L).reverse).size=n:=by rw[Array.size_reverse,cj]
 have r:=rJ (M:=M) (L':=(List.range n).map λi=>ae L (n-1-i)) (m:=m) (os:=#[]) h0 hsz h.2.1 λi hi=>by
  rw[getElem!_pos _ i (by omega),Array.getElem_reverse]
  have e:=rN (L:=L) (show n-1-i<n by omega)
  rw[getElem!_pos _ _ (by rw[cj]; omega)]at e
  simp only[cj]
  rw[e,xq (h.2.2 _ (by omega))]
  unfold ae
  rw[List.getD_eq_getElem?_getD (l:=List.map _ _),List.getElem?_map,List.getElem?_range hi]
  rfl
 have hg:∀W:World,Go.Sort.grow W #[]=W:=λW=>by unfold Go.Sort.grow; simp
 rw[hg]at r
 exact r
end
end Wx
