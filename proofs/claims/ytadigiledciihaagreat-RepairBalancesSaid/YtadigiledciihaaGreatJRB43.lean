import Derived.Shelf.GgSortFunc.InsertionK
import Derived.Tactics2
import Derived.Laws.StructEq
import Derived.Test.YtadigiledciihaaGreatCRBSemGr
import Derived.Shelf.SlSortCmp.NoneTotal
import Derived.Shelf.SlicesQ.Reverse
namespace Wx
open Go Go.RowKit Go.Proofs
def si (p:Pt):List Value:=[.int .i64 p.1,.int .i64 p.2]
variable {p:Pt} {w:World}
theorem zq {ds:List Value}:fq p w (ak true ds)↔ds=si p:=by
 constructor
 ·rintro⟨cs,e,h1,h2,h3,h4,h5⟩
  have e':ds=cs:=by
   have h:(Value.agg ds.toArray)=.agg cs.toArray:=e
   injection h with h
   exact congrArg Array.toList h
  subst e'
  match ds,h1,h2,h3,h4,h5 with
  |[a,b],_,h2,_,h4,_=>
   have h2:a=.int .i64 p.1:=h2
   have h4:b=.int .i64 p.2:=h4
   rw[h2,h4]
   rfl
  |[],h1,_,_,_,_=>exact absurd (show 1<=0 from h1) (by omega)
  |[_],_,_,h3,_,_=>exact absurd (show 1<=0 from h3) (by omega)
  |_::_::_::_,_,_,_,_,h5=>cases h5
 ·rintro rfl
  exact⟨_,rfl,Nat.le_add_left _ _,rfl,Nat.le_refl _,rfl,rfl⟩
abbrev Gx (n:Nat) (L:List Pt):Pred:=H9 2 n true λi=>fq (aA L i)
theorem fF (p:Pt):au (fq p):=DV ⟨cB _,cB _,trivial⟩
theorem G7 {l:List Value} {k:Nat} {x y:Value}:(l.drop k).take 2=[x,y]↔l[k]?=some x/\l[k+1]?=some y:=by
 have h0:(l.drop k)[0]?=l[k]?:=by rw[List.getElem?_drop]; rfl
 have h1:(l.drop k)[1]?=l[k+1]?:=by rw[List.getElem?_drop]
 rw[<-h0,<-h1]
 match l.drop k with
 |[]=>simp
 |[a]=>simp
 |a::b::r=>simp
def NF (n:Nat) (L:List Pt) (cs:List Value):Prop:=∀i,i<n->cs[i*2]?=some (.int .i64 (aA L i).1)/\cs[i*2+1]?=some (.int .i64 (aA L i).2)
theorem Bi {n:Nat} {L:List Pt} {cs:List Value}:Gx n L w (ak true cs)↔NF n L cs:=by
 constructor
 ·rintro⟨ds,e,h⟩ i hi
  have e':cs=ds:=by
   have h:(Value.agg cs.toArray)=.agg ds.toArray:=e
   injection h with h
   exact congrArg Array.toList h
  subst e'
  exact G7.1 (zq.1 (h i hi))
 ·intro h
  exact⟨cs,rfl,λi hi=>zq.2 (G7.2 (h i hi))⟩
structure C3 where
 p:Pt
 h:fu 16777216 p
instance:Inhabited C3:=⟨⟨(0,0),by unfold fu; decide⟩⟩
open Classical in
noncomputable def Qj (p:Pt):C3:=if h:fu 16777216 p then⟨p,h⟩else default
theorem CN (h:fu 16777216 p):(Qj p).p=p:=by unfold Qj; rw[dif_pos h]
abbrev qH (x:C3):List Value:=si x.p
section
variable {w:World} {b N n:Nat} {L:List Pt}{d:Array C3}
theorem yz {j:Nat} (h:j<d.size*2):(Go.Sort.flatK qH 2 d)[j]! = if j%2=0 then .int .i64 (d[j/2]!).p.1 else .int .i64 (d[j/2]!).p.2:=by
 rw[Go.Sort.get_flatK qH 2 d j h]
 have hj:j%2=0\/j%2=1:=by omega
 rcases hj with e|e
 ·rw[e,if_pos rfl]; rfl
 ·rw[e,if_neg (by decide)]; rfl
theorem holds_of_one (h:One b N (Gx n L) w) (hs:d.size=n) (hd:∀i,i<n->(d[i]!).p=aA L i):Go.Sort.HoldsK qH 2 w b 0 d:=by
 obtain⟨cs,T,h1,h2,h3,h4⟩:=h
 have h5:=Bi.1 h4
 intro j hj
 rw[Go.Sort.size_flatK]at hj
 refine⟨?_,?_⟩
 ·show _=some (id _)
  rw[id,yz hj,Nat.zero_add]
  simp only[World.cell?,h1]
  have h6:=h5 (j/2) (by omega)
  rw[List.getElem?_toArray]
  by_cases e:j%2=0
  ·rw[if_pos e,hd _ (by omega),<-h6.1,show j/2*2=j by omega]; rfl
  ·rw[if_neg e,hd _ (by omega),<-h6.2,show j/2*2+1=j by omega]; rfl
 ·simp only[World.frozen?,h1]
  simp
theorem tB {M:Nat->Nat->Prop} {L':List Pt} {m:Nat} {os:Array Obj} (h:One b N (Gx n L) w) (hs:d.size=n) (hn:n*2<=N) (hd:∀i,i<n->(d[i]!).p=aA L' i):
  vV M b N (bR (.tuple #[])) (Gx n L') w (.returned (.tuple #[])) (Go.Sort.grow (Go.Sort.putRowK qH 2 (Go.Sort.ahead w m) b 0 d) os):=by
 obtain⟨cs,T,h1,h2,h3,h4⟩:=h
 have hlt:b<w.heap.size:=(Array.getElem?_eq_some_iff.1 h1).1
 obtain⟨F,hF⟩:∃F,Go.Sort.flatK qH 2 d=F:=⟨_,rfl⟩
 have Vg:F.size=n*2:=by rw[<-hF,Go.Sort.size_flatK,hs]
 have hFg:∀j,j<n*2->F[j]! = if j%2=0 then .int .i64 (d[j/2]!).p.1 else .int .i64 (d[j/2]!).p.2:=λj hj=>by rw[<-hF]; exact yz (by omega)
 obtain⟨C,hC⟩:∃C:List Value,(Go.Sort.putCells id 0 F cs.toArray).toList=C:=⟨_,rfl⟩
 have TE:∀j,C[j]?=(cs[j]?).map λx=>if j<n*2 then F[j]! else x:=λj=>by
  rw[<-hC]
  unfold Go.Sort.putCells
  simp[Vg]
 have hh:(Go.Sort.grow (Go.Sort.putRowK qH 2 (Go.Sort.ahead w m) b 0 d) os).heap=(w.heap.modify b (Go.Sort.onCells (Go.Sort.putCells id 0 F)))++os:=by
  rw[<-hF]; rfl
 have hb:(Go.Sort.grow (Go.Sort.putRowK qH 2 (Go.Sort.ahead w m) b 0 d) os).heap[b]?=some (.cells C.toArray T (0,0)):=by
  rw[hh,Array.getElem?_append_left (by simpa using hlt),Array.getElem?_modify,if_pos rfl,h1]
  rw[<-hC]
  rfl
 refine⟨_,rfl,λ_ _=>rfl,⟨rfl,rfl,rfl,?_,?_⟩,C,T,hb,?_,?_,?_⟩
 ·rw[hh]; simp
 ·intro k hk hne
  have hne:k≠b:=hne
  rw[hh,Array.getElem?_append_left (by simpa using hk),Array.getElem?_modify,if_neg (Ne.symm hne)]
 ·rw[<-hC]
  unfold Go.Sort.putCells
  simp[h2]
 ·intro v hv
  obtain⟨j,hj⟩:=List.mem_iff_getElem?.1 hv
  rw[TE]at hj
  cases RK:cs[j]? with
  |none=>rw[RK]at hj; cases hj
  |some x=>
   rw[RK]at hj
   injection hj with hj
   dsimp only at hj
   by_cases pC:j<n*2
   ·rw[if_pos pC,hFg j pC]at hj
    rw[<-hj]
    split
    ·exact ot _
    ·exact ot _
   ·rw[if_neg pC]at hj
    rw[<-hj]
    exact h3 x (List.mem_of_getElem? RK)
 ·refine Bi.2 λi hi=>?_
  have hg:∀j,j<n*2->C[j]?=some F[j]!:=λj hj=>by
   rw[TE,List.getElem?_eq_getElem (show j<cs.length by omega),Option.map_some,if_pos hj]
  rw[hg _ (by omega),hg _ (by omega),hFg _ (by omega),hFg _ (by omega),if_pos (by omega),if_neg (by omega)]
  rw[show i*2/2=i by omega,show(i*2+1)/2=i by omega,hd i hi]
  exact⟨rfl,rfl⟩
end
end Wx

namespace Wx
open Go Go.RowKit Go.Proofs
theorem ki (p:Pt):Fits 2 true (fq p):=lz (fs:=[⟨false,1,pI p.1⟩,⟨false,1,pI p.2⟩]) ⟨fits_int _,fits_int _,trivial⟩ rfl
section
variable {P:Program} {ops:Array Oper} {ms:List Nat} {c:dg} {V:List Vr} {A:List Al} {G:List aX} {i d:Nat} {x y z:Operand} {ty:TypeId} {pos:String} {aI:Array Edge}{T:TypeId}
theorem U0 {q:Pt} (E:TypeId) (ht:mU P T E 2:=by exact⟨by kernel_rfl,λ_=>by kernel_rfl⟩) (AH:∀w,(zeroValue E).run P w=.ok (.agg (si (0,0)).toArray) w:=by exactλ_=>by kernel_rfl) (h1:Has ms G i x (fq q):=by exact hs) (hp:Post G i (bk 2 true 1 λ_=>fq q):=by exact pt rfl):
  OpOk P ops ms c V A G i ⟨some d,.buildSlice T 1 #[(0,x)],ty,pos,aI,none⟩:=
 lO (agg:=true) ht AH rfl rfl ⟨by decide,by decide⟩ h1 (ki q) hp
theorem Pe {X:Option Addr} {n cap:Nat} (h:Has ms G i x (bR (.slice X n cap)):=by exact hs) (ht:IZ P T=true:=by kernel_rfl) (hp:Post G i (pI (n:Int)):=by exact pt rfl):OpOk P ops ms c V A G i ⟨some d,.call ⟨.builtin .len,#[x],#[T]⟩,ty,pos,aI,none⟩:=by
 obtain⟨E,hE⟩:=Cq ht
 exact Gl h hE hp
end
variable {w:World}
theorem yC {c:dg} {V:List Vr} {G:List aX} {a:Act} {id sz m:Nat} {ag:Bool} {E:TypeId} {f:Nat->Pred} {s:Value} (hI:Inv c V [] G none_ a w) (k:Nat) (hk:V[k]?=some (lC id sz m ag E f s)):∃X cap,s=.slice X m cap/\m<=cap/\cap<=maxLen:=by
 obtain⟨β,h⟩:=hI
 have hB:oU sz m ag E f s (β id) w:=((aJ rfl).1 (h.var _ (List.mem_of_getElem? hk) rfl)).2.out
 rcases hB with⟨e,hm,_⟩|⟨bb,cap,cur,e,_,_,_,k5,k6,_⟩
 ·exact⟨none,0,by rw[e,hm],by omega,Nat.zero_le _⟩
 ·exact⟨_,cap,e,k5,k6⟩
theorem xb {p:Pt} {v:Value} (h:fq p w v):v=.agg #[.int .i64 p.1,.int .i64 p.2]:=by
 obtain⟨cs,e,h⟩:=h
 have:=zq.1 (show fq p w (ak true cs)from⟨cs,rfl,h⟩)
 rw[e,this]
 rfl
theorem GH (a b c d:Int) (w:World):(Op.equalIn 10000 26 (.agg #[.int .i64 a,.int .i64 b]) (.agg #[.int .i64 c,.int .i64 d])).run Tryz.prog w=.ok (a==c&&b==d) w:=by
 have u3:=Tryz.underlying3
 have a3:=Tryz.isAgg3
 have z3:=Tryz.sizeOf3
 have hS:Tryz.prog.underlying 26=some (.struct (Tryz.prog.fieldsOf 26)):=by kernel_rfl
 have hp:Tryz.prog.stoodInHeld 26=false:=by kernel_rfl
 rw[show(10000:Nat)=9999+1 from rfl,run_equalIn_agg w 9999 26 _ _ hS hp]
 simp only[Program.fieldsOf,Tryz.underlying26]
 go_simp
 by_cases h1:a=c<;>by_cases h2:b=d<;>simp[h1,h2]
section
variable {ops:Array Oper} {ms:List Nat} {c:dg} {V:List Vr} {A:List Al} {G:List aX} {i d:Nat} {x y z:Operand} {ty:TypeId} {pos:String} {aI:Array Edge}{p q:Pt}
theorem zF {op:BinOp} {x y:Operand} (b:Bool) (hop:op=.eql/\b=decide (p=q)\/op=.neq/\b=decide (p≠q)) (w:World):(do pure (Next.value (<-(do eqGuard op 26 x y (.agg #[.int .i64 p.1,.int .i64 p.2]) (.agg #[.int .i64 q.1,.int .i64 q.2]); Go.binOp op 26 (.agg #[.int .i64 p.1,.int .i64 p.2]) (.agg #[.int .i64 q.1,.int .i64 q.2])))):Sem Next).run Tryz.prog w=.ok (.value (.bool b)) w:=by
 have hm:Tryz.prog.eqGuardType Tryz.prog.depth 26=false:=by kernel_rfl
 have hpq:(p.1==q.1&&p.2==q.2)=decide (p=q):=by
  obtain⟨p1,p2⟩:=p
  obtain⟨q1,q2⟩:=q
  by_cases h1:p1=q1<;>by_cases h2:p2=q2<;>simp[h1,h2]
 simp only[Sem.run_bind,run_eqGuard_agg w op _ x y _ _ hm,Result.andThen_ok]
 rcases hop with⟨rfl,rfl⟩|⟨rfl,rfl⟩
 ·rw[run_eql_struct,GH,hpq]
  rfl
 ·rw[run_neq_struct,GH,hpq]
  rw[show decide (p≠q)=!decide (p=q)from decide_not]
  rfl
variable {u:TypeId}
theorem U9 (h1:Has ms G i x (fq p):=by exact hs) (h2:Has ms G i y (fq q):=by exact hs) (hp:Post G i (pB (decide (p=q))):=by exact pt rfl):OpOk Tryz.prog ops ms c V A G i ⟨some d,.binOp .eql 26 x y u,ty,pos,aI,none⟩:=
 ku rfl rfl rfl rfl h1 h2 hp λρ w h1 h2=>⟨.bool (decide (p=q)),by
  show(do pure (Next.value (<-(do eqGuard .eql 26 x y (ρ x) (ρ y); Go.binOp .eql 26 (ρ x) (ρ y)))):Sem Next).run Tryz.prog w=_
  rw[xb h1,xb h2]
  exact zF _ (.inl ⟨rfl,rfl⟩) w,λ_ _ _=>rfl⟩
theorem WG (h1:Has ms G i x (fq p):=by exact hs) (h2:Has ms G i y (fq q):=by exact hs) (hp:Post G i (pB (decide (p≠q))):=by exact pt rfl):OpOk Tryz.prog ops ms c V A G i ⟨some d,.binOp .neq 26 x y u,ty,pos,aI,none⟩:=
 ku rfl rfl rfl rfl h1 h2 hp λρ w h1 h2=>⟨.bool (decide (p≠q)),by
  show(do pure (Next.value (<-(do eqGuard .neq 26 x y (ρ x) (ρ y); Go.binOp .neq 26 (ρ x) (ρ y)))):Sem Next).run Tryz.prog w=_
  rw[xb h1,xb h2]
  exact zF _ (.inr ⟨rfl,rfl⟩) w,λ_ _ _=>rfl⟩
theorem Uk {P:Program} {T:TypeId} {v:Vr} {b n k off:Nat} {L:List Pt} (N q:Nat) (hv:lW N V=some v:=by exact rfl) (ho:bE ms i v=true:=by exact rfl) (cg:v.kd=.obj:=by exact rfl) (hst:(v.st.all λq=>(q.1==i||(ms.getD i 0).testBit q.1)||(ms.getD q.1 0).testBit i)=true:=by kernel_rfl)
  (hc:cont (λj=>(ms.getD i 0).testBit j) v.c0 v.st=D6 b n (Gx k L):=by exact rfl) (h:Has ms G i y (bR (.pointer (some ⟨b,off,none⟩))):=by exact hs) (hq:q<k:=by omega) (hoff:off=q*2:=by omega) (hlen:k*2<=n:=by omega) (hp:Post G i (fq (aA L q)):=by exact pt rfl) (ht:Hi P T true 2=true:=by kernel_rfl):OpOk P ops ms c V A G i ⟨some d,.load T y,ty,pos,aI,none⟩:=by
 obtain⟨⟨j,hj⟩,_⟩:=eR hv
 subst hoff
 exact Gm j hj ho cg hst hc h (by omega) (bO ht) (λw cs _ hcs=>zq.2 (G7.2 (Bi.1 hcs q hq))) (fF _) hp
end
section
variable {P:Program} {c:dg} {V:List Vr} {G:List aX} {a:Act} {w:World}{fn:Func} {N b n:Nat} {q:Pred} {M:Nat->Nat->Prop}
theorem S3 {f:FuncId} {C:Code} {v1:Value} {p1:Pred} {R:Ending->World->Prop} (hf:P.funcs[f]?=some fn) (hb:fn.body=some C) (hN:fn.ntmps=N) (hM:dR M w) (RA:∀o,¬M b o) (hq:au q) (h0:One b n q w)
  (h1:aQ (kK M b) (λw=>p1 w v1) w)
  (h:∀a,Inv ⟨N,w,M,(·=b)⟩ [eL N b n q] [] [Uz 0 p1] none_ a w->C.ww none [] P (bodyPost P fn R) a w) (hlen:decide (1<=N)=true:=by kernel_rfl):Calls P f #[v1] w R:=by
 have eo:∀k o,own ⟨N,w,M,(·=b)⟩ [eL N b n q] none_ (λ_ k=>k=b) k o->kK M b k o:=by
  rintro k o (h|⟨x,hx,_,h,_⟩)
  ·exact .inl h
  ·exact .inr h
 have wK:dR (own ⟨N,w,M,(·=b)⟩ [eL N b n q] none_ (λ_ k=>k=b)) w:=λk o hk=>(eo k o hk).elim (λh=>hM k o h) λh=>by subst h; exact⟨h0.lt,λv hv=>h0.Po o v hv⟩
 have hG:eF (kK M b) w [v1] [Uz 0 p1]:=⟨⟨rfl,_,rfl,h1⟩,trivial⟩
 have Rh:=eF.ok (m:=fn.ntmps-#[v1].size) hG
 refine calls_of_wp hf hb ((wpIn_wide (n:=0)).1 (wpIn_mono (h { tmps:=#[v1]++Array.replicate (fn.ntmps-#[v1].size) undef,defers:=[] } ?_ 0) λe a' w' ⟨a0,e0,h0⟩=>by subst e0; exact h0))
 refine⟨λ_ k=>k=b,by have:=of_decide_eq_true hlen; simp[hN]; omega,rfl,de.refl _ _,(λk o h=>⟨⟨(hM k o h).1,λ(hb:k=b)=>RA o (hb▸h)⟩,(hM k o h).2⟩),(λx hx _=>?_),(λx y g hx hy _ _ hne=>?_),(λp hp=>by cases hp),λe he _ _=>(Rh.get e he).2.sub λk o _ h=>eo k o h⟩
 ·rcases List.mem_singleton.1 hx with rfl
  exact(aJ rfl).2 ⟨λk (hk:k=b)=>by subst hk; exact⟨.inr rfl,h0.lt,λo v hv=>h0.Po o v hv⟩,(h0.box (B:=(·=b)) rfl hq wK).imp λw h=>⟨λ_=>Iff.rfl,h⟩⟩
 ·rcases List.mem_singleton.1 hx with rfl
  rcases List.mem_singleton.1 hy with rfl
  exact absurd rfl hne
theorem N5 {n0 s:Nat} {w0:World} {v:Value} (hI:Inv ⟨N,w0,M,(·=b)⟩ V [] G none_ a w) (hr:fn.results=#[.tmp s]) (hk:V[n0]?=some (eL N b n q)) (h1:gL s G=some (bR v):=by exact rfl):bodyPost P fn (vV M b n (bR v) q w0) .ret a w:=by
 obtain⟨β,hI⟩:=hI
 obtain⟨hβ,hone⟩:(∀k,β N k↔k=b)/\One b n q w:=((aJ rfl).1 (hI.var _ (List.mem_of_getElem? hk) rfl)).2.out
 obtain⟨k1,kN⟩:=eG h1
 have es:sl a s=v:=(hI.jl _ (List.mem_of_getElem? kN) rfl rfl).out
 refine jY hI (v:=sl a s) ?_ ⟨_,rfl,λ_ _=>es,hI.below,hone⟩
 rw[ee,hr]
 simp[pM,sl]
end
end Wx

namespace Wx
set_option maxRecDepth 100000
open Go Go.RowKit Go.Proofs
set_option maxHeartbeats 2000000 in
theorem Mt {n:Nat} (h:0<n/\n<=1000000) (f:Nat->Pred) (w:World):Calls Tryz.prog 76 #[.slice none 0 0,.int .i64 n] w (vU 2 0 true 26 f w):=by
 obtain⟨h1,h2⟩:=h
 have hge:n<=(Question.appendCap n 0 26).cut (w.tape w.drawn (.appendCap n 0 26)):=grownCap_ge w n 0 26
 have hle:(Question.appendCap n 0 26).cut (w.tape w.drawn (.appendCap n 0 26))<=maxLen:=grownCap_le_maxLen w n 0 26 (by unfold maxLen; omega)
 have hb2:Builtin.nextslicecap n 0*16<=281474976710656:=growslice_fits (old:=0) (bytes:=16) h1 (by omega)
 have P8:Tryz.t26.bytes=16:=by kernel_rfl
 go_enter Tryz.func76,Tryz.ntmps76
 go_wp2
 all_goals first
  |(exfalso; rename_i hx _ _; rw[P8]at hx; omega)
  |(exfalso; rename_i hx _ _ _; rw[P8]at hx; omega)
  |skip
 go_ret
 generalize (Question.appendCap n 0 26).cut (w.tape w.drawn (.appendCap n 0 26))=cap at *
 obtain⟨cs,hcs⟩:∃cs:Array Value,Builtin.zeroCells #[.int .i64 0,.int .i64 0] n++Builtin.zeroCells #[.int .i64 0,.int .i64 0] (cap-n)=cs:=⟨_,rfl⟩
 have hsz:cs.toList.length=cap*2:=by
  rw[<-hcs]
  rw[Array.toList_append,List.length_append,Array.length_toList,Array.length_toList,size_zeroCells,size_zeroCells]
  show n*2+(cap-n)*2=_
  omega
 have hno:∀u∈cs.toList,gR u:=λu hu=>by
  rw[<-hcs,Array.toList_append]at hu
  have hz:∀u∈(#[.int .i64 0,.int .i64 0]:Array Value).toList,gR u:=λu hu=>by
   rcases List.mem_cons.1 hu with rfl|hu
   ·exact ot _
   ·rw[List.mem_singleton.1 hu]; exact ot _
  rcases List.mem_append.1 hu with hu|hu
  ·exact eI hz _ u hu
  ·exact eI hz _ u hu
 rw[hcs]
 refine⟨w.heap.size,cap,rfl,Below.drew (Below.alloc (Below.refl _ _) (Nat.le_refl _) _),Nat.le_refl _,.inr ⟨w.heap.size,cap,cs.toList,rfl,λ_=>Iff.rfl,?_,hsz,Nat.zero_le _,hle,hno,λi hi=>absurd hi (Nat.not_lt_zero _)⟩⟩
 show(w.alloc (.cells cs 26)).heap[w.heap.size]?=_
 exact World.alloc_heap_new w _
section
variable {P:Program} {c:dg} {V:List Vr} {G:List aX} {a:Act} {w:World} {x y z:Operand} {d:Nat} {ty:TypeId} {pos:String} {aI:Array Edge}
theorem QU {ops:Array Oper} {f:FuncId} {ts:Array TypeId} {EC m e:Nat} {Et:Bool} {E:TypeId} {f2:Nat->Pred} {v1 v2:Value} {ty2:TypeId} {pos2:String} {aft2:Array Edge} (iH:∀w,Calls P f #[v1,v2] w (vU EC m Et E f2 w)) (FC:∀i,au (f2 i)) (h1:Has [0] G 0 x (bR v1):=by exact hs) (h2:Has [0] G 0 y (bR v2):=by exact hs)
  (hf:aL P f:=by exactλ_ _=>by kernel_rfl) (hd:decide (d<c.N)=true:=by kernel_rfl) (hV:(V.all λy=>(y.slot != d&&y.id != d)&&(y.born.isNone&&y.dead.isNone))=true:=by kernel_rfl) (hG:(G.all λe=>e.slot != d)=true:=by kernel_rfl) (he':decide (e<c.N/\d≠e)=true:=by kernel_rfl) (IF:(V.all λx=>x.slot != e)=true:=by kernel_rfl) (Kg:(G.all λx=>x.slot != e)=true:=by kernel_rfl):
  eU P ops (Inv c V [] G none_) [⟨some d,.call ⟨.value (.func f),#[x,y],ts⟩,ty,pos,aI,none⟩,⟨some e,.assign (.tmp d),ty2,pos2,aft2,none⟩] (λa w=>∃b2 dU,(m<=dU/\dU<=maxLen)/\Inv c (lC d EC m Et E f2 (.slice (some ⟨b2,0,none⟩) m dU)::V) [] (⟨none,none,e,bR (.slice (some ⟨b2,0,none⟩) m dU)⟩::G) none_ a w):=by
 have he:=of_decide_eq_true he'
 rw[List.all_eq_true]at IF Kg
 refine⟨λa w=>∃b2 dU,Inv c (lC d EC m Et E f2 (.slice (some ⟨b2,0,none⟩) m dU)::V) [] (⟨none,none,d,bR (.slice (some ⟨b2,0,none⟩) m dU)⟩::G) none_ a w,?_,_,?_,rfl⟩
 ·rintro a w ⟨β,hI⟩
  have e1:a.eval x=v1:=(h1.spec hI mZ).out
  have e2:a.eval y=v2:=(h2.spec hI mZ).out
  refine .of rfl (mm hf (Calls.mono (by
   rw[show(#[x,y]:Array Operand).map a.eval=#[a.eval x,a.eval y] by simp,e1,e2]
   exact iH w) ?_))
  rintro e w' ⟨b2,dU,rfl,hb,hrb,ho⟩
  have hblk:=je ho b2 rfl
  exact⟨_,rfl,b2,dU,hI.zZ (R:=λB w=>oU EC m Et E f2 (.slice (some ⟨b2,0,none⟩) m dU) B w) hb hrb hblk.1 hblk.2 (λM hM w'' he=>ho.keep FC (λk o hk=>hM k o hk.1) he λk hk=>he.block k (je ho k hk).1 λo hh=>hh.2 hk) (of_decide_eq_true hd) hV hG⟩
 ·rintro a w ⟨b2,dU,hI⟩
  have hbd:m<=dU/\dU<=maxLen:=by
   obtain⟨β,h⟩:=hI
   exact oU.bound (((aJ rfl).1 (h.var _ (List.mem_cons_self ..) rfl)).2.out)
  have h:=lT (P:=P) (ops:=ops) (ty2:=ty2) (pos2:=pos2) (aft2:=aft2) he.1 (λx hx=>by
   rcases List.mem_cons.1 hx with rfl|hx
   ·exact he.2
   ·simpa using IF x hx) (λx hx=>by simpa using Kg x hx) hI
  exact h.mono λ_ _ h=>⟨b2,dU,hbd,h⟩
end
theorem NI {P:Program} {ops:Array Oper} {ms:List Nat} {c:dg} {V:List Vr} {A:List Al} {G:List aX} {i d:Nat} {x y:Operand} {ty:TypeId} {pos:String} {aI:Array Edge} {T:TypeId} {sz:Nat} {agg:Bool} {p q:Pred} {zv:Value} (E:TypeId) (z:List Value) (F:Nat->Pred) (f1:Fits sz agg p) (f2:Fits sz agg q) (e0:F 0=p:=by rfl) (e1:F 1=q:=by rfl) (ht:mU P T E sz:=by exact⟨by kernel_rfl,λ_=>by kernel_rfl⟩) (AH:∀w,(zeroValue E).run P w=.ok zv w:=by exactλ_=>by kernel_rfl) (wP:zv.cells=z.toArray:=by rfl) (hsz:decide (0<sz/\0<2/\2*sz<=16777216)=true:=by decide) (wQ:z.length=sz:=by rfl)
  (h1:Has ms G i x p:=by exact hs) (h2:Has ms G i y q:=by exact hs) (hp:Post G i (bk sz agg 2 F):=by exact pt rfl):OpOk P ops ms c V A G i ⟨some d,.buildSlice T 2 #[(0,x),(1,y)],ty,pos,aI,none⟩:=
 ji (p:=dZ) (fs:=List.replicate 2 ⟨agg,sz,dZ⟩) (ps:=[(0,p),(1,q)]) ht AH wP rfl hsz (λ_=>trivial) wQ (show dX ms G i (List.replicate 2 ⟨agg,sz,dZ⟩) [(0,x),(1,y)] [(0,p),(1,q)]from⟨⟨rfl,h1,_,rfl,f1⟩,⟨rfl,h2,_,rfl,f2⟩,trivial⟩) rfl F (λk f hf=>by
  match k,hf with
  |0,hf=>
   have hf:some (⟨agg,sz,p⟩:Fd)=some f:=hf
   injection hf with hf
   rw[<-hf,e0]
  |1,hf=>
   have hf:some (⟨agg,sz,q⟩:Fd)=some f:=hf
   injection hf with hf
   rw[<-hf,e1]
  |k+2,hf=>cases hf) hp
theorem gh (L:List Pt) (d:Int):Fits 2 true (pK L d):=lz (fs:=[⟨false,1,kz L⟩,⟨false,1,pI d⟩]) ⟨lu,fits_int _,trivial⟩ rfl
end Wx

namespace Wx
open Go Go.RowKit Go.Proofs
def mX (x y:C3):Int:=if x.p.1≠y.p.1 then x.p.1-y.p.1 else x.p.2-y.p.2
set_option maxHeartbeats 2000000 in
theorem DD (x y:C3) (W:World):Calls Tryz.prog 72 #[.agg (qH x).toArray,.agg (qH y).toArray] W λe w'=>e=.returned (.int .i64 (mX x y))/\∃q os',w'=Go.Sort.grow (W.drewN q) os':=by
 obtain⟨⟨x1,x2⟩,hx⟩:=x
 obtain⟨⟨y1,y2⟩,hy⟩:=y
 obtain⟨a1,a2,a3,a4⟩:=hx
 obtain⟨b1,b2,b3,b4⟩:=hy
 dsimp only at a1 a2 a3 a4 b1 b2 b3 b4
 unfold mX
 dsimp only[qH,si]
 by_cases h:x1=y1
 ·subst h
  rw[if_neg (by simp)]
  go_enter Tryz.func72,Tryz.ntmps72
  go_wp2
  go_ret
  refine⟨rfl,0,#[.cells #[.int .i64 x1,.int .i64 x2] 26 (0,0),.cells #[.int .i64 x1,.int .i64 y2] 26 (0,0)],?_⟩
  rfl
 ·rw[if_pos h]
  have hb:(x1 != y1)=true:=by simpa using h
  go_enter Tryz.func72,Tryz.ntmps72
  go_wp2
  go_ret
  refine⟨rfl,0,#[.cells #[.int .i64 x1,.int .i64 x2] 26 (0,0),.cells #[.int .i64 y1,.int .i64 y2] 26 (0,0)],?_⟩
  rfl
end Wx

namespace Wx
open Go Go.RowKit Go.Proofs
def yS:Go.Shelf.Ren:=⟨λ|6=>71|14=>107|15=>108|20=>131|21=>132|22=>133|23=>134|24=>135|25=>136|26=>137|27=>138|28=>139|29=>140|46=>150|47=>151|48=>152|49=>153|50=>154|57=>157|n=>n,λ|0=>0|3=>3|4=>4|5=>5|9=>9|22=>22|25=>98|39=>149|45=>170|46=>171|50=>175|53=>146|55=>108|66=>185|70=>189|76=>193|77=>194|24=>26|n=>n,λ|n=>n⟩
theorem I7:Go.Proofs.SlLaysF0.n6 Tryz.prog yS:={
 mixed:=by kernel_rfl
 f6 := ⟨"slices.SortFunc[[]wingworks/api.Point,wingworks/api.Point]", by kernel_rfl, Tryz.func71.trans (congrArg some (by kernel_rfl))⟩
 f14 := ⟨"slices.pdqsortCmpFunc[wingworks/api.Point]", by kernel_rfl, Tryz.func107.trans (congrArg some (by kernel_rfl))⟩
 f15:=Tryz.func108.trans (congrArg some (by kernel_rfl))
 f20 := ⟨"slices.insertionSortCmpFunc[wingworks/api.Point]", by kernel_rfl, Tryz.func131.trans (congrArg some (by kernel_rfl))⟩
 f21 := ⟨"slices.heapSortCmpFunc[wingworks/api.Point]", by kernel_rfl, Tryz.func132.trans (congrArg some (by kernel_rfl))⟩
 f22 := ⟨"slices.breakPatternsCmpFunc[wingworks/api.Point]", by kernel_rfl, Tryz.func133.trans (congrArg some (by kernel_rfl))⟩
 f23 := ⟨"slices.choosePivotCmpFunc[wingworks/api.Point]", by kernel_rfl, Tryz.func134.trans (congrArg some (by kernel_rfl))⟩
 f24 := ⟨"slices.reverseRangeCmpFunc[wingworks/api.Point]", by kernel_rfl, Tryz.func135.trans (congrArg some (by kernel_rfl))⟩
 f25 := ⟨"slices.partialInsertionSortCmpFunc[wingworks/api.Point]", by kernel_rfl, Tryz.func136.trans (congrArg some (by kernel_rfl))⟩
 f26 := ⟨"slices.partitionEqualCmpFunc[wingworks/api.Point]", by kernel_rfl, Tryz.func137.trans (congrArg some (by kernel_rfl))⟩
 f27 := ⟨"slices.partitionCmpFunc[wingworks/api.Point]", by kernel_rfl, Tryz.func138.trans (congrArg some (by kernel_rfl))⟩
 f28:=Tryz.func139.trans (congrArg some (by kernel_rfl))
 f29:=Tryz.func140.trans (congrArg some (by kernel_rfl))
 f46 := ⟨"slices.siftDownCmpFunc[wingworks/api.Point]", by kernel_rfl, Tryz.func150.trans (congrArg some (by kernel_rfl))⟩
 f47:=Tryz.func151.trans (congrArg some (by kernel_rfl))
 f48:=Tryz.func152.trans (congrArg some (by kernel_rfl))
 f49 := ⟨"slices.medianAdjacentCmpFunc[wingworks/api.Point]", by kernel_rfl, Tryz.func153.trans (congrArg some (by kernel_rfl))⟩
 f50 := ⟨"slices.medianCmpFunc[wingworks/api.Point]", by kernel_rfl, Tryz.func154.trans (congrArg some (by kernel_rfl))⟩
 f57 := ⟨"slices.order2CmpFunc[wingworks/api.Point]", by kernel_rfl, Tryz.func157.trans (congrArg some (by kernel_rfl))⟩
 t0:=Tryz.underlying0
 a0:=Tryz.isAgg0
 z0:=Tryz.sizeOf0
 v0:=Tryz.zeroValue0
 t3:=Tryz.underlying3
 a3:=Tryz.isAgg3
 z3:=Tryz.sizeOf3
 v3:=Tryz.zeroValue3
 t4:=Tryz.underlying4
 a4:=Tryz.isAgg4
 z4:=Tryz.sizeOf4
 v4:=Tryz.zeroValue4
 t5:=Tryz.underlying5
 a5:=Tryz.isAgg5
 z5:=Tryz.sizeOf5
 v5:=Tryz.zeroValue5
 t9:=Tryz.underlying9
 a9:=Tryz.isAgg9
 z9:=Tryz.sizeOf9
 v9:=Tryz.zeroValue9
 t22:=Tryz.underlying22
 a22:=Tryz.isAgg22
 z22:=Tryz.sizeOf22
 v22:=Tryz.zeroValue22
 t25:=Tryz.underlying98
 a25:=Tryz.isAgg98
 z25:=Tryz.sizeOf98
 v25:=Tryz.zeroValue98
 t39:=Tryz.underlying149
 a39:=Tryz.isAgg149
 z39:=Tryz.sizeOf149
 v39:=Tryz.zeroValue149
 t45:=Tryz.underlying170
 a45:=Tryz.isAgg170
 z45:=Tryz.sizeOf170
 v45:=Tryz.zeroValue170
 t46:=Tryz.underlying171
 a46:=Tryz.isAgg171
 z46:=Tryz.sizeOf171
 v46:=Tryz.zeroValue171
 t50:=Tryz.underlying175
 a50:=Tryz.isAgg175
 z50:=Tryz.sizeOf175
 v50:=Tryz.zeroValue175
 t53:=Tryz.underlying146
 a53:=Tryz.isAgg146
 z53:=Tryz.sizeOf146
 v53:=Tryz.zeroValue146
 t55:=Tryz.underlying108
 a55:=Tryz.isAgg108
 z55:=Tryz.sizeOf108
 v55:=Tryz.zeroValue108
 t66:=Tryz.underlying185
 a66:=Tryz.isAgg185
 z66:=Tryz.sizeOf185
 v66:=Tryz.zeroValue185
 t70:=Tryz.underlying189
 a70:=Tryz.isAgg189
 z70:=Tryz.sizeOf189
 v70:=Tryz.zeroValue189
 t76:=Tryz.underlying193
 a76:=Tryz.isAgg193
 z76:=Tryz.sizeOf193
 v76:=Tryz.zeroValue193
 t77:=Tryz.underlying194
 a77:=Tryz.isAgg194
 z77:=Tryz.sizeOf194
 v77:=Tryz.zeroValue194 }
def AL:Go.Shelf.Ren:=⟨λ|35=>75|n=>n,λ|0=>0|3=>3|4=>4|22=>22|23=>26|n=>n,λ|n=>n⟩
theorem Mw:Go.Proofs.SlLaysE0.n35 Tryz.prog AL:={
 mixed:=by kernel_rfl
 f35 := ⟨"slices.Reverse[[]wingworks/api.Point,wingworks/api.Point]", by kernel_rfl, Tryz.func75.trans (congrArg some (by kernel_rfl))⟩
 t0:=Tryz.underlying0
 a0:=Tryz.isAgg0
 z0:=Tryz.sizeOf0
 v0:=Tryz.zeroValue0
 t3:=Tryz.underlying3
 a3:=Tryz.isAgg3
 z3:=Tryz.sizeOf3
 v3:=Tryz.zeroValue3
 t4:=Tryz.underlying4
 a4:=Tryz.isAgg4
 z4:=Tryz.sizeOf4
 v4:=Tryz.zeroValue4
 t22:=Tryz.underlying22
 a22:=Tryz.isAgg22
 z22:=Tryz.sizeOf22
 v22:=Tryz.zeroValue22 }
end Wx

namespace Wx
open Go Go.RowKit Go.Proofs
noncomputable def pO (n:Nat) (L:List Pt):Array C3:=((List.range n).map λi=>Qj (aA L i)).toArray
variable {n:Nat} {L:List Pt}
theorem cJ:(pO n L).size=n:=by simp[pO]
variable {i:Nat}
theorem tE (h:i<n):(pO n L)[i]! = Qj (aA L i):=by
 rw[getElem!_pos _ i (by rw[cJ]; exact h)]
 simp[pO]
def tr (d:Array C3):List Pt:=d.toList.map (·.p)
theorem vE {d:Array C3} (h:i<d.size):(d[i]!).p=aA (tr d) i:=by
 rw[getElem!_pos _ i h]
 unfold aA tr
 rw[List.getD_eq_getElem?_getD,List.getElem?_map]
 simp[h]
noncomputable def oH (n:Nat) (L:List Pt):List Pt:=tr ((pO n L).toList.mergeSort λx y=>!(ltOf mX) y x).toArray
theorem lt_iff (x y:C3):ltOf mX x y=true↔x.p.1<y.p.1\/(x.p.1=y.p.1/\x.p.2<y.p.2):=by
 unfold ltOf mX
 rw[decide_eq_true_iff]
 by_cases h:x.p.1≠y.p.1
 ·rw[if_pos h]; omega
 ·rw[if_neg h]; omega
theorem oo (x y:C3):ltOf mX x y=false↔¬(x.p.1<y.p.1\/(x.p.1=y.p.1/\x.p.2<y.p.2)):=by rw[<-lt_iff,Bool.not_eq_true]
theorem PD:Go.Sort.SWO (ltOf mX) where
 irrefl x:=by rw[oo]; omega
 trans x y z h1 h2:=by rw[lt_iff]at *; omega
 ntrans x y z h1 h2:=by rw[oo]at *; omega
theorem S4 (x y:C3) (h1:ltOf mX x y=false) (h2:ltOf mX y x=false):x=y:=by
 rw[oo]at h1 h2
 obtain⟨⟨a,b⟩,hx⟩:=x
 obtain⟨⟨c,d⟩,hy⟩:=y
 dsimp only at h1 h2
 obtain rfl:a=c:=by omega
 obtain rfl:b=d:=by omega
 rfl
section
variable {L:List Pt} {b N n c:Nat}
theorem Mv (h:(∀q,q<n->fu 16777216 (aA L q))/\n<=1000/\n*2<=N) (M:Nat->Nat->Prop) (w:World) (v1 v2:Value) (_:dR M w) (_:∀o,¬M b o) (h0:One b N (Gx n L) w) (h1:aQ (kK M b) (λw=>bR (.slice (some ⟨b,0,none⟩) n c) w v1) w) (h2:aQ (kK M b) (λw=>bR (.func (.func 72) #[] #[]) w v2) w):
  Calls Tryz.prog 71 #[v1,v2] w (vV M b N (bR (.tuple #[])) (Gx n (oH n L)) w):=by
 obtain rfl:v1=.slice (some ⟨b,0,none⟩) n c:=h1.out
 obtain rfl:v2=.func (.func 72) #[] #[]:=h2.out
 have hH:=holds_of_one (d:=pO n L) h0 cJ λi hi=>by rw[tE hi,CN (h.1 i hi)]
 have k:=AnyQ.slices_SortFunc_total I7 2 Tryz.isAgg26 Tryz.sizeOf26 qH (λ_=>rfl) (λx v hv=>by
  rcases List.mem_cons.1 hv with rfl|hv
  ·rfl
  ·rw[List.mem_singleton.1 hv]; rfl) mX PD 72 #[] b 0 c (pO n L) w (λ_ _=>by kernel_rfl) (λm os dk _ x y=>DD x y _) hH h0.lt (by rw[cJ]; omega) S4
 rw[cJ]at k
 refine k.mono ?_
 rintro e w' ⟨rfl,m,os,rfl⟩
 have hsz:(((pO n L).toList.mergeSort λx y=>!(ltOf mX) y x).toArray).size=n:=by
  rw[List.size_toArray,List.length_mergeSort,Array.length_toList,cJ]
 exact tB h0 hsz h.2.2 λi hi=>vE (by omega)
theorem DA (h:n<=1000/\n*2<=N/\∀q,q<n->fu 16777216 (aA L q)) (M:Nat->Nat->Prop) (w:World) (v1:Value) (_:dR M w) (_:∀o,¬M b o) (h0:One b N (Gx n L) w) (h1:aQ (kK M b) (λw=>bR (.slice (some ⟨b,0,none⟩) n c) w v1) w):
  Calls Tryz.prog 75 #[v1] w (vV M b N (bR (.tuple #[])) (Gx n ((List.range n).map λi=>aA L (n-1-i))) w):=by
 obtain rfl:v1=.slice (some ⟨b,0,none⟩) n c:=h1.out
 have hH:=holds_of_one (d:=pO n L) h0 cJ λi hi=>by rw[tE hi,CN (h.2.2 i hi)]
 have k:=AnyQ.slices_Reverse Mw 2 Tryz.isAgg26 Tryz.sizeOf26 qH (λ_=>rfl) (λx v hv=>by
  rcases List.mem_cons.1 hv with rfl|hv
  ·rfl
  ·rw[List.mem_singleton.1 hv]; rfl) b 0 c (pO n L) w hH (by rw[cJ]; omega)
 rw[cJ]at k
 refine k.mono ?_
 rintro e w' ⟨rfl,m,rfl⟩
 have hsz:((pO n L).reverse).size=n:=by rw[Array.size_reverse,cJ]
 have r:=tB (M:=M) (L':=(List.range n).map λi=>aA L (n-1-i)) (m:=m) (os:=#[]) h0 hsz h.2.1 λi hi=>by
  rw[getElem!_pos _ i (by omega),Array.getElem_reverse]
  have e:=tE (L:=L) (show n-1-i<n by omega)
  rw[getElem!_pos _ _ (by rw[cJ]; omega)]at e
  simp only[cJ]
  rw[e,CN (h.2.2 _ (by omega))]
  unfold aA
  rw[List.getD_eq_getElem?_getD (l:=List.map _ _),List.getElem?_map,List.getElem?_range hi]
  rfl
 have hg:∀W:World,Go.Sort.grow W #[]=W:=λW=>by unfold Go.Sort.grow; simp
 rw[hg]at r
 exact r
end
end Wx
