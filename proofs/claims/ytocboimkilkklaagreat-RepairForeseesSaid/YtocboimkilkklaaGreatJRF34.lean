import Derived.Tactics2
import Derived.Laws.StructEq
import Derived.Test.YtocboimkilkklaaGreatJRF33
import Derived.Shelf.SlSortCmp.NoneTotal
import Derived.Shelf.SlicesQ.Reverse
namespace Wx
open Go Go.RowKit Go.Proofs
theorem lI (p:Pt):Fits 2 true (gK p):=iO (fs:=[⟨false,1,pI p.1⟩,⟨false,1,pI p.2⟩]) ⟨fits_int _,fits_int _,trivial⟩ rfl
section
variable {P:Program} {ops:Array Oper} {ms:List Nat} {c:eL} {V:List Vr} {A:List Al} {G:List bI} {i d:Nat} {x y z:Operand} {ty:TypeId} {pos:String} {aZ:Array Edge}{T:TypeId}
theorem Ya {q:Pt} (E:TypeId) (ht:oq P T E 2:=by exact⟨by kernel_rfl,λ_=>by kernel_rfl⟩) (FB:∀w,(zeroValue E).run P w=.ok (.agg (tU (0,0)).toArray) w:=by exactλ_=>by kernel_rfl) (h1:Has ms G i x (gK q):=by exact hs) (hp:Post G i (dK 2 true 1 λ_=>gK q):=by exact pt rfl):
  OpOk P ops ms c V A G i ⟨some d,.buildSlice T 1 #[(0,x)],ty,pos,aZ,none⟩:=
 uK (agg:=true) ht FB rfl rfl ⟨by decide,by decide⟩ h1 (lI q) hp
theorem Se {X:Option Addr} {n cap:Nat} (h:Has ms G i x (cI (.slice X n cap)):=by exact hs) (ht:Lu P T=true:=by kernel_rfl) (hp:Post G i (pI (n:Int)):=by exact pt rfl):OpOk P ops ms c V A G i ⟨some d,.call ⟨.builtin .len,#[x],#[T]⟩,ty,pos,aZ,none⟩:=by
 obtain⟨E,hE⟩:=D6 ht
 exact JB h hE hp
end
variable {w:World}
theorem Ay {c:eL} {V:List Vr} {G:List bI} {a:Act} {id sz m:Nat} {ag:Bool} {E:TypeId} {f:Nat->Pred} {s:Value} (hI:Inv c V [] G none_ a w) (k:Nat) (hk:V[k]?=some (mQ id sz m ag E f s)):∃X cap,s=.slice X m cap/\m<=cap/\cap<=maxLen:=by
 obtain⟨β,h⟩:=hI
 have hB:qR sz m ag E f s (β id) w:=((bh rfl).1 (h.var _ (List.mem_of_getElem? hk) rfl)).2.out
 rcases hB with⟨e,hm,_⟩|⟨bb,cap,cur,e,_,_,_,k5,k6,_⟩
 ·exact⟨none,0,by rw[e,hm],by omega,Nat.zero_le _⟩
 ·exact⟨_,cap,e,k5,k6⟩
theorem zg {p:Pt} {v:Value} (h:gK p w v):v=.agg #[.int .i64 p.1,.int .i64 p.2]:=by
 obtain⟨cs,e,h⟩:=h
 have:=Bn.1 (show gK p w (aA true cs)from⟨cs,rfl,h⟩)
 rw[e,this]
 rfl
theorem JP (a b c d:Int) (w:World):(Op.equalIn 10000 68 (.agg #[.int .i64 a,.int .i64 b]) (.agg #[.int .i64 c,.int .i64 d])).run Tryz.prog w=.ok (a==c&&b==d) w:=by
 have u3:=Tryz.underlying3
 have a3:=Tryz.isAgg3
 have z3:=Tryz.sizeOf3
 have hS:Tryz.prog.underlying 68=some (.struct (Tryz.prog.fieldsOf 68)):=by kernel_rfl
 have hp:Tryz.prog.stoodInHeld 68=false:=by kernel_rfl
 rw[show(10000:Nat)=9999+1 from rfl,run_equalIn_agg w 9999 68 _ _ hS hp]
 simp only[Program.fieldsOf,Tryz.underlying68]
 go_simp
 by_cases h1:a=c<;>by_cases h2:b=d<;>simp[h1,h2]
section
variable {ops:Array Oper} {ms:List Nat} {c:eL} {V:List Vr} {A:List Al} {G:List bI} {i d:Nat} {x y z:Operand} {ty:TypeId} {pos:String} {aZ:Array Edge}{p q:Pt}
theorem Bw {op:BinOp} {x y:Operand} (b:Bool) (hop:op=.eql/\b=decide (p=q)\/op=.neq/\b=decide (p≠q)) (w:World):(do pure (Next.value (<-(do eqGuard op 68 x y (.agg #[.int .i64 p.1,.int .i64 p.2]) (.agg #[.int .i64 q.1,.int .i64 q.2]); Go.binOp op 68 (.agg #[.int .i64 p.1,.int .i64 p.2]) (.agg #[.int .i64 q.1,.int .i64 q.2])))):Sem Next).run Tryz.prog w=.ok (.value (.bool b)) w:=by
 have hm:Tryz.prog.eqGuardType Tryz.prog.depth 68=false:=by kernel_rfl
 have hpq:(p.1==q.1&&p.2==q.2)=decide (p=q):=by
  obtain⟨p1,p2⟩:=p
  obtain⟨q1,q2⟩:=q
  by_cases h1:p1=q1<;>by_cases h2:p2=q2<;>simp[h1,h2]
 simp only[Sem.run_bind,run_eqGuard_agg w op _ x y _ _ hm,Result.andThen_ok]
 rcases hop with⟨rfl,rfl⟩|⟨rfl,rfl⟩
 ·rw[run_eql_struct,JP,hpq]
  rfl
 ·rw[run_neq_struct,JP,hpq]
  rw[show decide (p≠q)=!decide (p=q)from decide_not]
  rfl
variable {u:TypeId}
theorem Yh (h1:Has ms G i x (gK p):=by exact hs) (h2:Has ms G i y (gK q):=by exact hs) (hp:Post G i (pB (decide (p=q))):=by exact pt rfl):OpOk Tryz.prog ops ms c V A G i ⟨some d,.binOp .eql 68 x y u,ty,pos,aZ,none⟩:=
 lS rfl rfl rfl rfl h1 h2 hp λρ w h1 h2=>⟨.bool (decide (p=q)),by
  show(do pure (Next.value (<-(do eqGuard .eql 68 x y (ρ x) (ρ y); Go.binOp .eql 68 (ρ x) (ρ y)))):Sem Next).run Tryz.prog w=_
  rw[zg h1,zg h2]
  exact Bw _ (.inl ⟨rfl,rfl⟩) w,λ_ _ _=>rfl⟩
theorem ZF (h1:Has ms G i x (gK p):=by exact hs) (h2:Has ms G i y (gK q):=by exact hs) (hp:Post G i (pB (decide (p≠q))):=by exact pt rfl):OpOk Tryz.prog ops ms c V A G i ⟨some d,.binOp .neq 68 x y u,ty,pos,aZ,none⟩:=
 lS rfl rfl rfl rfl h1 h2 hp λρ w h1 h2=>⟨.bool (decide (p≠q)),by
  show(do pure (Next.value (<-(do eqGuard .neq 68 x y (ρ x) (ρ y); Go.binOp .neq 68 (ρ x) (ρ y)))):Sem Next).run Tryz.prog w=_
  rw[zg h1,zg h2]
  exact Bw _ (.inr ⟨rfl,rfl⟩) w,λ_ _ _=>rfl⟩
theorem Xr {P:Program} {T:TypeId} {v:Vr} {b n k off:Nat} {L:List Pt} (N q:Nat) (hv:om N V=some v:=by exact rfl) (ho:cG ms i v=true:=by exact rfl) (dI:v.kd=.obj:=by exact rfl) (hst:(v.st.all λq=>(q.1==i||(ms.getD i 0).testBit q.1)||(ms.getD q.1 0).testBit i)=true:=by kernel_rfl)
  (hc:cont (λj=>(ms.getD i 0).testBit j) v.c0 v.st=Gj b n (JK k L):=by exact rfl) (h:Has ms G i y (cI (.pointer (some ⟨b,off,none⟩))):=by exact hs) (hq:q<k:=by omega) (hoff:off=q*2:=by omega) (hlen:k*2<=n:=by omega) (hp:Post G i (gK (aI L q)):=by exact pt rfl) (ht:KI P T true 2=true:=by kernel_rfl):OpOk P ops ms c V A G i ⟨some d,.load T y,ty,pos,aZ,none⟩:=by
 obtain⟨⟨j,hj⟩,_⟩:=gw hv
 subst hoff
 exact JC j hj ho dI hst hc h (by omega) (dX ht) (λw cs _ hcs=>Bn.2 (J9.2 (CX.1 hcs q hq))) (gO _) hp
end
section
variable {P:Program} {c:eL} {V:List Vr} {G:List bI} {a:Act} {w:World}{fn:Func} {N b n:Nat} {q:Pred} {M:Nat->Nat->Prop}
theorem V4 {f:FuncId} {C:Code} {v1:Value} {p1:Pred} {R:Ending->World->Prop} (hf:P.funcs[f]?=some fn) (hb:fn.body=some C) (hN:fn.ntmps=N) (hM:dc M w) (Ur:∀o,¬M b o) (hq:aB q) (h0:One b n q w)
  (h1:aL (mm M b) (λw=>p1 w v1) w)
  (h:∀a,Inv ⟨N,w,M,(·=b)⟩ [gm N b n q] [] [Uz 0 p1] none_ a w->C.ww none [] P (bodyPost P fn R) a w) (hlen:decide (1<=N)=true:=by kernel_rfl):Calls P f #[v1] w R:=by
 have eo:∀k o,own ⟨N,w,M,(·=b)⟩ [gm N b n q] none_ (λ_ k=>k=b) k o->mm M b k o:=by
  rintro k o (h|⟨x,hx,_,h,_⟩)
  ·exact .inl h
  ·exact .inr h
 have yM:dc (own ⟨N,w,M,(·=b)⟩ [gm N b n q] none_ (λ_ k=>k=b)) w:=λk o hk=>(eo k o hk).elim (λh=>hM k o h) λh=>by subst h; exact⟨h0.lt,λv hv=>h0.Sj o v hv⟩
 have hG:ck (mm M b) w [v1] [Uz 0 p1]:=⟨⟨rfl,_,rfl,h1⟩,trivial⟩
 have Ua:=ck.ok (m:=fn.ntmps-#[v1].size) hG
 refine calls_of_wp hf hb ((wpIn_wide (n:=0)).1 (wpIn_mono (h { tmps:=#[v1]++Array.replicate (fn.ntmps-#[v1].size) undef,defers:=[] } ?_ 0) λe a' w' ⟨a0,e0,h0⟩=>by subst e0; exact h0))
 refine⟨λ_ k=>k=b,by have:=of_decide_eq_true hlen; simp[hN]; omega,rfl,er.refl _ _,(λk o h=>⟨⟨(hM k o h).1,λ(hb:k=b)=>Ur o (hb▸h)⟩,(hM k o h).2⟩),(λx hx _=>?_),(λx y g hx hy _ _ hne=>?_),(λp hp=>by cases hp),λe he _ _=>(Ua.get e he).2.sub λk o _ h=>eo k o h⟩
 ·rcases List.mem_singleton.1 hx with rfl
  exact(bh rfl).2 ⟨λk (hk:k=b)=>by subst hk; exact⟨.inr rfl,h0.lt,λo v hv=>h0.Sj o v hv⟩,(h0.box (B:=(·=b)) rfl hq yM).imp λw h=>⟨λ_=>Iff.rfl,h⟩⟩
 ·rcases List.mem_singleton.1 hx with rfl
  rcases List.mem_singleton.1 hy with rfl
  exact absurd rfl hne
theorem QU {n0 s:Nat} {w0:World} {v:Value} (hI:Inv ⟨N,w0,M,(·=b)⟩ V [] G none_ a w) (hr:fn.results=#[.tmp s]) (hk:V[n0]?=some (gm N b n q)) (h1:iW s G=some (cI v):=by exact rfl):bodyPost P fn (ya M b n (cI v) q w0) .ret a w:=by
 obtain⟨β,hI⟩:=hI
 obtain⟨hβ,hone⟩:(∀k,β N k↔k=b)/\One b n q w:=((bh rfl).1 (hI.var _ (List.mem_of_getElem? hk) rfl)).2.out
 obtain⟨k1,jE⟩:=gj h1
 have es:sl a s=v:=(hI.kH _ (List.mem_of_getElem? jE) rfl rfl).out
 refine lH hI (v:=sl a s) ?_ ⟨_,rfl,λ_ _=>es,hI.below,hone⟩
 rw[fQ,hr]
 simp[rE,sl]
end
end Wx

namespace Wx
set_option maxRecDepth 100000
open Go Go.RowKit Go.Proofs
set_option maxHeartbeats 2000000 in
theorem Pc {n:Nat} (h:0<n/\n<=1000000) (f:Nat->Pred) (w:World):Calls Tryz.prog 101 #[.slice none 0 0,.int .i64 n] w (xZ 2 0 true 68 f w):=by
 obtain⟨h1,h2⟩:=h
 have hge:n<=(Question.appendCap n 0 68).cut (w.tape w.drawn (.appendCap n 0 68)):=grownCap_ge w n 0 68
 have hle:(Question.appendCap n 0 68).cut (w.tape w.drawn (.appendCap n 0 68))<=maxLen:=grownCap_le_maxLen w n 0 68 (by unfold maxLen; omega)
 have hb2:Builtin.nextslicecap n 0*16<=281474976710656:=growslice_fits (old:=0) (bytes:=16) h1 (by omega)
 have S1:Tryz.t68.bytes=16:=by kernel_rfl
 go_enter Tryz.func101,Tryz.ntmps101
 go_wp2
 all_goals first
  |(exfalso; rename_i hx _ _; rw[S1]at hx; omega)
  |(exfalso; rename_i hx _ _ _; rw[S1]at hx; omega)
  |skip
 go_ret
 generalize (Question.appendCap n 0 68).cut (w.tape w.drawn (.appendCap n 0 68))=cap at *
 obtain⟨cs,hcs⟩:∃cs:Array Value,Builtin.zeroCells #[.int .i64 0,.int .i64 0] n++Builtin.zeroCells #[.int .i64 0,.int .i64 0] (cap-n)=cs:=⟨_,rfl⟩
 have hsz:cs.toList.length=cap*2:=by
  rw[<-hcs]
  rw[Array.toList_append,List.length_append,Array.length_toList,Array.length_toList,size_zeroCells,size_zeroCells]
  show n*2+(cap-n)*2=_
  omega
 have hno:∀u∈cs.toList,fq u:=λu hu=>by
  rw[<-hcs,Array.toList_append]at hu
  have hz:∀u∈(#[.int .i64 0,.int .i64 0]:Array Value).toList,fq u:=λu hu=>by
   rcases List.mem_cons.1 hu with rfl|hu
   ·exact qp _
   ·rw[List.mem_singleton.1 hu]; exact qp _
  rcases List.mem_append.1 hu with hu|hu
  ·exact ir hz _ u hu
  ·exact ir hz _ u hu
 rw[hcs]
 refine⟨w.heap.size,cap,rfl,Below.drew (Below.alloc (Below.refl _ _) (Nat.le_refl _) _),Nat.le_refl _,.inr ⟨w.heap.size,cap,cs.toList,rfl,λ_=>Iff.rfl,?_,hsz,Nat.zero_le _,hle,hno,λi hi=>absurd hi (Nat.not_lt_zero _)⟩⟩
 show(w.alloc (.cells cs 68)).heap[w.heap.size]?=_
 exact World.alloc_heap_new w _
section
variable {P:Program} {c:eL} {V:List Vr} {G:List bI} {a:Act} {w:World} {x y z:Operand} {d:Nat} {ty:TypeId} {pos:String} {aZ:Array Edge}
theorem TN {ops:Array Oper} {f:FuncId} {ts:Array TypeId} {GU m e:Nat} {GJ:Bool} {E:TypeId} {f2:Nat->Pred} {v1 v2:Value} {ty2:TypeId} {pos2:String} {aft2:Array Edge} (jl:∀w,Calls P f #[v1,v2] w (xZ GU m GJ E f2 w)) (IE:∀i,aB (f2 i)) (h1:Has [0] G 0 x (cI v1):=by exact hs) (h2:Has [0] G 0 y (cI v2):=by exact hs)
  (hf:aM P f:=by exactλ_ _=>by kernel_rfl) (hd:decide (d<c.N)=true:=by kernel_rfl) (hV:(V.all λy=>(y.slot != d&&y.id != d)&&(y.born.isNone&&y.dead.isNone))=true:=by kernel_rfl) (hG:(G.all λe=>e.slot != d)=true:=by kernel_rfl) (he':decide (e<c.N/\d≠e)=true:=by kernel_rfl) (Ll:(V.all λx=>x.slot != e)=true:=by kernel_rfl) (MY:(G.all λx=>x.slot != e)=true:=by kernel_rfl):
  gU P ops (Inv c V [] G none_) [⟨some d,.call ⟨.value (.func f),#[x,y],ts⟩,ty,pos,aZ,none⟩,⟨some e,.assign (.tmp d),ty2,pos2,aft2,none⟩] (λa w=>∃b2 gh,(m<=gh/\gh<=maxLen)/\Inv c (mQ d GU m GJ E f2 (.slice (some ⟨b2,0,none⟩) m gh)::V) [] (⟨none,none,e,cI (.slice (some ⟨b2,0,none⟩) m gh)⟩::G) none_ a w):=by
 have he:=of_decide_eq_true he'
 rw[List.all_eq_true]at Ll MY
 refine⟨λa w=>∃b2 gh,Inv c (mQ d GU m GJ E f2 (.slice (some ⟨b2,0,none⟩) m gh)::V) [] (⟨none,none,d,cI (.slice (some ⟨b2,0,none⟩) m gh)⟩::G) none_ a w,?_,_,?_,rfl⟩
 ·rintro a w ⟨β,hI⟩
  have e1:a.eval x=v1:=(h1.spec hI pP).out
  have e2:a.eval y=v2:=(h2.spec hI pP).out
  refine .of rfl (nO hf (Calls.mono (by
   rw[show(#[x,y]:Array Operand).map a.eval=#[a.eval x,a.eval y] by simp,e1,e2]
   exact jl w) ?_))
  rintro e w' ⟨b2,gh,rfl,hb,hrb,ho⟩
  have hblk:=kz ho b2 rfl
  exact⟨_,rfl,b2,gh,hI.BZ (R:=λB w=>qR GU m GJ E f2 (.slice (some ⟨b2,0,none⟩) m gh) B w) hb hrb hblk.1 hblk.2 (λM hM w'' he=>ho.keep IE (λk o hk=>hM k o hk.1) he λk hk=>he.block k (kz ho k hk).1 λo hh=>hh.2 hk) (of_decide_eq_true hd) hV hG⟩
 ·rintro a w ⟨b2,gh,hI⟩
  have hbd:m<=gh/\gh<=maxLen:=by
   obtain⟨β,h⟩:=hI
   exact qR.bound (((bh rfl).1 (h.var _ (List.mem_cons_self ..) rfl)).2.out)
  have h:=nB (P:=P) (ops:=ops) (ty2:=ty2) (pos2:=pos2) (aft2:=aft2) he.1 (λx hx=>by
   rcases List.mem_cons.1 hx with rfl|hx
   ·exact he.2
   ·simpa using Ll x hx) (λx hx=>by simpa using MY x hx) hI
  exact h.mono λ_ _ h=>⟨b2,gh,hbd,h⟩
end
theorem SQ {P:Program} {ops:Array Oper} {ms:List Nat} {c:eL} {V:List Vr} {A:List Al} {G:List bI} {i d:Nat} {x y:Operand} {ty:TypeId} {pos:String} {aZ:Array Edge} {T:TypeId} {sz:Nat} {agg:Bool} {p q:Pred} {zv:Value} (E:TypeId) (z:List Value) (F:Nat->Pred) (f1:Fits sz agg p) (f2:Fits sz agg q) (e0:F 0=p:=by rfl) (e1:F 1=q:=by rfl) (ht:oq P T E sz:=by exact⟨by kernel_rfl,λ_=>by kernel_rfl⟩) (FB:∀w,(zeroValue E).run P w=.ok zv w:=by exactλ_=>by kernel_rfl) (yR:zv.cells=z.toArray:=by rfl) (hsz:decide (0<sz/\0<2/\2*sz<=16777216)=true:=by decide) (AG:z.length=sz:=by rfl)
  (h1:Has ms G i x p:=by exact hs) (h2:Has ms G i y q:=by exact hs) (hp:Post G i (dK sz agg 2 F):=by exact pt rfl):OpOk P ops ms c V A G i ⟨some d,.buildSlice T 2 #[(0,x),(1,y)],ty,pos,aZ,none⟩:=
 fB (p:=dr) (fs:=List.replicate 2 ⟨agg,sz,dr⟩) (ps:=[(0,p),(1,q)]) ht FB yR rfl hsz (λ_=>trivial) AG (show bS ms G i (List.replicate 2 ⟨agg,sz,dr⟩) [(0,x),(1,y)] [(0,p),(1,q)]from⟨⟨rfl,h1,_,rfl,f1⟩,⟨rfl,h2,_,rfl,f2⟩,trivial⟩) rfl F (λk f hf=>by
  match k,hf with
  |0,hf=>
   have hf:some (⟨agg,sz,p⟩:Fd)=some f:=hf
   injection hf with hf
   rw[<-hf,e0]
  |1,hf=>
   have hf:some (⟨agg,sz,q⟩:Fd)=some f:=hf
   injection hf with hf
   rw[<-hf,e1]
  |k+2,hf=>cases hf) hp
theorem iw (L:List Pt) (d:Int):Fits 2 true (rC L d):=iO (fs:=[⟨false,1,lU L⟩,⟨false,1,pI d⟩]) ⟨mN,fits_int _,trivial⟩ rfl
end Wx

namespace Wx
open Go Go.RowKit Go.Proofs
def oO (x y:EW):Int:=if x.p.1≠y.p.1 then x.p.1-y.p.1 else x.p.2-y.p.2
set_option maxHeartbeats 2000000 in
theorem FN (x y:EW) (W:World):Calls Tryz.prog 97 #[.agg (su x).toArray,.agg (su y).toArray] W λe w'=>e=.returned (.int .i64 (oO x y))/\∃q os',w'=Go.Sort.grow (W.drewN q) os':=by
 obtain⟨⟨x1,x2⟩,hx⟩:=x
 obtain⟨⟨y1,y2⟩,hy⟩:=y
 obtain⟨a1,a2,a3,a4⟩:=hx
 obtain⟨b1,b2,b3,b4⟩:=hy
 dsimp only at a1 a2 a3 a4 b1 b2 b3 b4
 unfold oO
 dsimp only[su,tU]
 by_cases h:x1=y1
 ·subst h
  rw[if_neg (by simp)]
  go_enter Tryz.func97,Tryz.ntmps97
  go_wp2
  go_ret
  refine⟨rfl,0,#[.cells #[.int .i64 x1,.int .i64 x2] 68 (0,0),.cells #[.int .i64 x1,.int .i64 y2] 68 (0,0)],?_⟩
  rfl
 ·rw[if_pos h]
  have hb:(x1 != y1)=true:=by simpa using h
  go_enter Tryz.func97,Tryz.ntmps97
  go_wp2
  go_ret
  refine⟨rfl,0,#[.cells #[.int .i64 x1,.int .i64 x2] 68 (0,0),.cells #[.int .i64 y1,.int .i64 y2] 68 (0,0)],?_⟩
  rfl
end Wx

namespace Wx
open Go Go.RowKit Go.Proofs
def AQ:Go.Shelf.Ren:=⟨λ|6=>96|14=>134|15=>135|20=>151|21=>152|22=>153|23=>154|24=>155|25=>156|26=>157|27=>158|28=>159|29=>160|46=>166|47=>167|48=>168|49=>169|50=>170|57=>172|n=>n,λ|0=>0|3=>3|4=>4|5=>5|9=>9|22=>69|25=>137|39=>171|45=>192|46=>193|50=>197|53=>128|55=>119|66=>205|70=>209|76=>212|77=>213|24=>68|n=>n,λ|n=>n⟩
theorem LF:Go.Proofs.SlLaysF0.n6 Tryz.prog AQ:={
 mixed:=by kernel_rfl
 f6 := ⟨"slices.SortFunc[[]wingworks/api.Point,wingworks/api.Point]", by kernel_rfl, Tryz.func96.trans (congrArg some (by kernel_rfl))⟩
 f14 := ⟨"slices.pdqsortCmpFunc[wingworks/api.Point]", by kernel_rfl, Tryz.func134.trans (congrArg some (by kernel_rfl))⟩
 f15:=Tryz.func135.trans (congrArg some (by kernel_rfl))
 f20 := ⟨"slices.insertionSortCmpFunc[wingworks/api.Point]", by kernel_rfl, Tryz.func151.trans (congrArg some (by kernel_rfl))⟩
 f21 := ⟨"slices.heapSortCmpFunc[wingworks/api.Point]", by kernel_rfl, Tryz.func152.trans (congrArg some (by kernel_rfl))⟩
 f22 := ⟨"slices.breakPatternsCmpFunc[wingworks/api.Point]", by kernel_rfl, Tryz.func153.trans (congrArg some (by kernel_rfl))⟩
 f23 := ⟨"slices.choosePivotCmpFunc[wingworks/api.Point]", by kernel_rfl, Tryz.func154.trans (congrArg some (by kernel_rfl))⟩
 f24 := ⟨"slices.reverseRangeCmpFunc[wingworks/api.Point]", by kernel_rfl, Tryz.func155.trans (congrArg some (by kernel_rfl))⟩
 f25 := ⟨"slices.partialInsertionSortCmpFunc[wingworks/api.Point]", by kernel_rfl, Tryz.func156.trans (congrArg some (by kernel_rfl))⟩
 f26 := ⟨"slices.partitionEqualCmpFunc[wingworks/api.Point]", by kernel_rfl, Tryz.func157.trans (congrArg some (by kernel_rfl))⟩
 f27 := ⟨"slices.partitionCmpFunc[wingworks/api.Point]", by kernel_rfl, Tryz.func158.trans (congrArg some (by kernel_rfl))⟩
 f28:=Tryz.func159.trans (congrArg some (by kernel_rfl))
 f29:=Tryz.func160.trans (congrArg some (by kernel_rfl))
 f46 := ⟨"slices.siftDownCmpFunc[wingworks/api.Point]", by kernel_rfl, Tryz.func166.trans (congrArg some (by kernel_rfl))⟩
 f47:=Tryz.func167.trans (congrArg some (by kernel_rfl))
 f48:=Tryz.func168.trans (congrArg some (by kernel_rfl))
 f49 := ⟨"slices.medianAdjacentCmpFunc[wingworks/api.Point]", by kernel_rfl, Tryz.func169.trans (congrArg some (by kernel_rfl))⟩
 f50 := ⟨"slices.medianCmpFunc[wingworks/api.Point]", by kernel_rfl, Tryz.func170.trans (congrArg some (by kernel_rfl))⟩
 f57 := ⟨"slices.order2CmpFunc[wingworks/api.Point]", by kernel_rfl, Tryz.func172.trans (congrArg some (by kernel_rfl))⟩
 t0:=Tryz.underlying0
 a0:=Tryz.isAgg0
 z0:=Tryz.sizeOf0
 v0:=Tryz.zeroValue0
 t3:=Tryz.underlying3
 a3:=Tryz.isAgg3
 z3:=Tryz.sizeOf3
 v3:=Tryz.zeroValue3
 t4:=Tryz.underlying4
 a4:=Tryz.isAgg4
 z4:=Tryz.sizeOf4
 v4:=Tryz.zeroValue4
 t5:=Tryz.underlying5
 a5:=Tryz.isAgg5
 z5:=Tryz.sizeOf5
 v5:=Tryz.zeroValue5
 t9:=Tryz.underlying9
 a9:=Tryz.isAgg9
 z9:=Tryz.sizeOf9
 v9:=Tryz.zeroValue9
 t22:=Tryz.underlying69
 a22:=Tryz.isAgg69
 z22:=Tryz.sizeOf69
 v22:=Tryz.zeroValue69
 t25:=Tryz.underlying137
 a25:=Tryz.isAgg137
 z25:=Tryz.sizeOf137
 v25:=Tryz.zeroValue137
 t39:=Tryz.underlying171
 a39:=Tryz.isAgg171
 z39:=Tryz.sizeOf171
 v39:=Tryz.zeroValue171
 t45:=Tryz.underlying192
 a45:=Tryz.isAgg192
 z45:=Tryz.sizeOf192
 v45:=Tryz.zeroValue192
 t46:=Tryz.underlying193
 a46:=Tryz.isAgg193
 z46:=Tryz.sizeOf193
 v46:=Tryz.zeroValue193
 t50:=Tryz.underlying197
 a50:=Tryz.isAgg197
 z50:=Tryz.sizeOf197
 v50:=Tryz.zeroValue197
 t53:=Tryz.underlying128
 a53:=Tryz.isAgg128
 z53:=Tryz.sizeOf128
 v53:=Tryz.zeroValue128
 t55:=Tryz.underlying119
 a55:=Tryz.isAgg119
 z55:=Tryz.sizeOf119
 v55:=Tryz.zeroValue119
 t66:=Tryz.underlying205
 a66:=Tryz.isAgg205
 z66:=Tryz.sizeOf205
 v66:=Tryz.zeroValue205
 t70:=Tryz.underlying209
 a70:=Tryz.isAgg209
 z70:=Tryz.sizeOf209
 v70:=Tryz.zeroValue209
 t76:=Tryz.underlying212
 a76:=Tryz.isAgg212
 z76:=Tryz.sizeOf212
 v76:=Tryz.zeroValue212
 t77:=Tryz.underlying213
 a77:=Tryz.isAgg213
 z77:=Tryz.sizeOf213
 v77:=Tryz.zeroValue213 }
def CD:Go.Shelf.Ren:=⟨λ|35=>100|n=>n,λ|0=>0|3=>3|4=>4|22=>69|23=>68|n=>n,λ|n=>n⟩
theorem Pf:Go.Proofs.SlLaysE0.n35 Tryz.prog CD:={
 mixed:=by kernel_rfl
 f35 := ⟨"slices.Reverse[[]wingworks/api.Point,wingworks/api.Point]", by kernel_rfl, Tryz.func100.trans (congrArg some (by kernel_rfl))⟩
 t0:=Tryz.underlying0
 a0:=Tryz.isAgg0
 z0:=Tryz.sizeOf0
 v0:=Tryz.zeroValue0
 t3:=Tryz.underlying3
 a3:=Tryz.isAgg3
 z3:=Tryz.sizeOf3
 v3:=Tryz.zeroValue3
 t4:=Tryz.underlying4
 a4:=Tryz.isAgg4
 z4:=Tryz.sizeOf4
 v4:=Tryz.zeroValue4
 t22:=Tryz.underlying69
 a22:=Tryz.isAgg69
 z22:=Tryz.sizeOf69
 v22:=Tryz.zeroValue69 }
end Wx

namespace Wx
open Go Go.RowKit Go.Proofs
noncomputable def rF (n:Nat) (L:List Pt):Array EW:=((List.range n).map λi=>Tb (aI L i)).toArray
variable {n:Nat} {L:List Pt}
theorem dR:(rF n L).size=n:=by simp[rF]
variable {i:Nat}
theorem vz (h:i<n):(rF n L)[i]! = Tb (aI L i):=by
 rw[getElem!_pos _ i (by rw[dR]; exact h)]
 simp[rF]
def uW (d:Array EW):List Pt:=d.toList.map (·.p)
theorem xN {d:Array EW} (h:i<d.size):(d[i]!).p=aI (uW d) i:=by
 rw[getElem!_pos _ i h]
 unfold aI uW
 rw[List.getD_eq_getElem?_getD,List.getElem?_map]
 simp[h]
noncomputable def qG (n:Nat) (L:List Pt):List Pt:=uW ((rF n L).toList.mergeSort λx y=>!(ltOf oO) y x).toArray
theorem lt_iff (x y:EW):ltOf oO x y=true↔x.p.1<y.p.1\/(x.p.1=y.p.1/\x.p.2<y.p.2):=by
 unfold ltOf oO
 rw[decide_eq_true_iff]
 by_cases h:x.p.1≠y.p.1
 ·rw[if_pos h]; omega
 ·rw[if_neg h]; omega
theorem qo (x y:EW):ltOf oO x y=false↔¬(x.p.1<y.p.1\/(x.p.1=y.p.1/\x.p.2<y.p.2)):=by rw[<-lt_iff,Bool.not_eq_true]
theorem SD:Go.Sort.SWO (ltOf oO) where
 irrefl x:=by rw[qo]; omega
 trans x y z h1 h2:=by rw[lt_iff]at *; omega
 ntrans x y z h1 h2:=by rw[qo]at *; omega
theorem V5 (x y:EW) (h1:ltOf oO x y=false) (h2:ltOf oO y x=false):x=y:=by
 rw[qo]at h1 h2
 obtain⟨⟨a,b⟩,hx⟩:=x
 obtain⟨⟨c,d⟩,hy⟩:=y
 dsimp only at h1 h2
 obtain rfl:a=c:=by omega
 obtain rfl:b=d:=by omega
 rfl
section
variable {L:List Pt} {b N n c:Nat}
theorem Pe (h:(∀q,q<n->gL 16777216 (aI L q))/\n<=1000/\n*2<=N) (M:Nat->Nat->Prop) (w:World) (v1 v2:Value) (_:dc M w) (_:∀o,¬M b o) (h0:One b N (JK n L) w) (h1:aL (mm M b) (λw=>cI (.slice (some ⟨b,0,none⟩) n c) w v1) w) (h2:aL (mm M b) (λw=>cI (.func (.func 97) #[] #[]) w v2) w):
  Calls Tryz.prog 96 #[v1,v2] w (ya M b N (cI (.tuple #[])) (JK n (qG n L)) w):=by
 obtain rfl:v1=.slice (some ⟨b,0,none⟩) n c:=h1.out
 obtain rfl:v2=.func (.func 97) #[] #[]:=h2.out
 have hH:=holds_of_one (d:=rF n L) h0 dR λi hi=>by rw[vz hi,EG (h.1 i hi)]
 have k:=AnyQ.slices_SortFunc_total LF 2 Tryz.isAgg68 Tryz.sizeOf68 su (λ_=>rfl) (λx v hv=>by
  rcases List.mem_cons.1 hv with rfl|hv
  ·rfl
  ·rw[List.mem_singleton.1 hv]; rfl) oO SD 97 #[] b 0 c (rF n L) w (λ_ _=>by kernel_rfl) (λm os dk _ x y=>FN x y _) hH h0.lt (by rw[dR]; omega) V5
 rw[dR]at k
 refine k.mono ?_
 rintro e w' ⟨rfl,m,os,rfl⟩
 have hsz:(((rF n L).toList.mergeSort λx y=>!(ltOf oO) y x).toArray).size=n:=by
  rw[List.size_toArray,List.length_mergeSort,Array.length_toList,dR]
 exact vh h0 hsz h.2.2 λi hi=>xN (by omega)
theorem FJ (h:n<=1000/\n*2<=N/\∀q,q<n->gL 16777216 (aI L q)) (M:Nat->Nat->Prop) (w:World) (v1:Value) (_:dc M w) (_:∀o,¬M b o) (h0:One b N (JK n L) w) (h1:aL (mm M b) (λw=>cI (.slice (some ⟨b,0,none⟩) n c) w v1) w):
  Calls Tryz.prog 100 #[v1] w (ya M b N (cI (.tuple #[])) (JK n ((List.range n).map λi=>aI L (n-1-i))) w):=by
 obtain rfl:v1=.slice (some ⟨b,0,none⟩) n c:=h1.out
 have hH:=holds_of_one (d:=rF n L) h0 dR λi hi=>by rw[vz hi,EG (h.2.2 i hi)]
 have k:=AnyQ.slices_Reverse Pf 2 Tryz.isAgg68 Tryz.sizeOf68 su (λ_=>rfl) (λx v hv=>by
  rcases List.mem_cons.1 hv with rfl|hv
  ·rfl
  ·rw[List.mem_singleton.1 hv]; rfl) b 0 c (rF n L) w hH (by rw[dR]; omega)
 rw[dR]at k
 refine k.mono ?_
 rintro e w' ⟨rfl,m,rfl⟩
 have hsz:((rF n L).reverse).size=n:=by rw[Array.size_reverse,dR]
 have r:=vh (M:=M) (L':=(List.range n).map λi=>aI L (n-1-i)) (m:=m) (os:=#[]) h0 hsz h.2.1 λi hi=>by
  rw[getElem!_pos _ i (by omega),Array.getElem_reverse]
  have e:=vz (L:=L) (show n-1-i<n by omega)
  rw[getElem!_pos _ _ (by rw[dR]; omega)]at e
  simp only[dR]
  rw[e,EG (h.2.2 _ (by omega))]
  unfold aI
  rw[List.getD_eq_getElem?_getD (l:=List.map _ _),List.getElem?_map,List.getElem?_range hi]
  rfl
 have hg:∀W:World,Go.Sort.grow W #[]=W:=λW=>by unfold Go.Sort.grow; simp
 rw[hg]at r
 exact r
end
end Wx
