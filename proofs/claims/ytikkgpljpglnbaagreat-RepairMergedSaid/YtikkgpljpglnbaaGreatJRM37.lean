import Derived.Tactics2
import Derived.Laws.StructEq
import Derived.Test.YtikkgpljpglnbaaGreatCRMSemGr
import Derived.Test.YtikkgpljpglnbaaGreatJRM36
import Derived.Shelf.SlSortCmp.NoneTotal
import Derived.Shelf.SlicesQ.Reverse
namespace Wx
open Go Go.RowKit Go.Proofs
theorem cm (p:Pt):Fits 2 true (cT p):=pL (fs:=[⟨false,1,pI p.1⟩,⟨false,1,pI p.2⟩]) ⟨fits_int _,fits_int _,trivial⟩ rfl
section
variable {P:Program} {ops:Array Oper} {ms:List Nat} {c:cM} {V:List Vr} {A:List Al} {G:List aV} {i d:Nat} {x y z:Operand} {ty:TypeId} {pos:String} {aL:Array Edge}{T:TypeId}
theorem Vv {q:Pt} (E:TypeId) (ht:pD P T E 2:=by exact⟨by kernel_rfl,λ_=>by kernel_rfl⟩) (DC:∀w,(zeroValue E).run P w=.ok (.agg (sr (0,0)).toArray) w:=by exactλ_=>by kernel_rfl) (h1:Has ms G i x (cT q):=by exact hs) (hp:Post G i (bK 2 true 1 λ_=>cT q):=by exact pt rfl):
  OpOk P ops ms c V A G i ⟨some d,.buildSlice T 1 #[(0,x)],ty,pos,aL,none⟩:=
 td (agg:=true) ht DC rfl rfl ⟨by decide,by decide⟩ h1 (cm q) hp
theorem KO {X:Option Addr} {n cap:Nat} (h:Has ms G i x (bp (.slice X n cap)):=by exact hs) (ht:Jb P T=true:=by kernel_rfl) (hp:Post G i (pI (n:Int)):=by exact pt rfl):OpOk P ops ms c V A G i ⟨some d,.call ⟨.builtin .len,#[x],#[T]⟩,ty,pos,aL,none⟩:=by
 obtain⟨E,hE⟩:=Cu ht
 exact Gp h hE hp
end
variable {w:World}
theorem yx {c:cM} {V:List Vr} {G:List aV} {a:Act} {id sz m:Nat} {ag:Bool} {E:TypeId} {f:Nat->Pred} {s:Value} (hI:Inv c V [] G none_ a w) (k:Nat) (hk:V[k]?=some (kX id sz m ag E f s)):∃X cap,s=.slice X m cap/\m<=cap/\cap<=maxLen:=by
 obtain⟨β,h⟩:=hI
 have hB:pC sz m ag E f s (β id) w:=((aK rfl).1 (h.var _ (List.mem_of_getElem? hk) rfl)).2.out
 rcases hB with⟨e,hm,_⟩|⟨bb,cap,cur,e,_,_,_,k5,k6,_⟩
 ·exact⟨none,0,by rw[e,hm],by omega,Nat.zero_le _⟩
 ·exact⟨_,cap,e,k5,k6⟩
theorem wR {p:Pt} {v:Value} (h:cT p w v):v=.agg #[.int .i64 p.1,.int .i64 p.2]:=by
 obtain⟨cs,e,h⟩:=h
 have:=zn.1 (show cT p w (au true cs)from⟨cs,rfl,h⟩)
 rw[e,this]
 rfl
theorem GI (a b c d:Int) (w:World):(Op.equalIn 10000 38 (.agg #[.int .i64 a,.int .i64 b]) (.agg #[.int .i64 c,.int .i64 d])).run Tryz.prog w=.ok (a==c&&b==d) w:=by
 have u3:=Tryz.underlying3
 have a3:=Tryz.isAgg3
 have z3:=Tryz.sizeOf3
 have hS:Tryz.prog.underlying 38=some (.struct (Tryz.prog.fieldsOf 38)):=by kernel_rfl
 have hp:Tryz.prog.stoodInHeld 38=false:=by kernel_rfl
 rw[show(10000:Nat)=9999+1 from rfl,run_equalIn_agg w 9999 38 _ _ hS hp]
 simp only[Program.fieldsOf,Tryz.underlying38]
 go_simp
 by_cases h1:a=c<;>by_cases h2:b=d<;>simp[h1,h2]
section
variable {ops:Array Oper} {ms:List Nat} {c:cM} {V:List Vr} {A:List Al} {G:List aV} {i d:Nat} {x y z:Operand} {ty:TypeId} {pos:String} {aL:Array Edge}{p q:Pt}
theorem zH {op:BinOp} {x y:Operand} (b:Bool) (hop:op=.eql/\b=decide (p=q)\/op=.neq/\b=decide (p≠q)) (w:World):(do pure (Next.value (<-(do eqGuard op 38 x y (.agg #[.int .i64 p.1,.int .i64 p.2]) (.agg #[.int .i64 q.1,.int .i64 q.2]); Go.binOp op 38 (.agg #[.int .i64 p.1,.int .i64 p.2]) (.agg #[.int .i64 q.1,.int .i64 q.2])))):Sem Next).run Tryz.prog w=.ok (.value (.bool b)) w:=by
 have hm:Tryz.prog.eqGuardType Tryz.prog.depth 38=false:=by kernel_rfl
 have hpq:(p.1==q.1&&p.2==q.2)=decide (p=q):=by
  obtain⟨p1,p2⟩:=p
  obtain⟨q1,q2⟩:=q
  by_cases h1:p1=q1<;>by_cases h2:p2=q2<;>simp[h1,h2]
 simp only[Sem.run_bind,run_eqGuard_agg w op _ x y _ _ hm,Result.andThen_ok]
 rcases hop with⟨rfl,rfl⟩|⟨rfl,rfl⟩
 ·rw[run_eql_struct,GI,hpq]
  rfl
 ·rw[run_neq_struct,GI,hpq]
  rw[show decide (p≠q)=!decide (p=q)from decide_not]
  rfl
variable {u:TypeId}
theorem T7 (h1:Has ms G i x (cT p):=by exact hs) (h2:Has ms G i y (cT q):=by exact hs) (hp:Post G i (pB (decide (p=q))):=by exact pt rfl):OpOk Tryz.prog ops ms c V A G i ⟨some d,.binOp .eql 38 x y u,ty,pos,aL,none⟩:=
 jX rfl rfl rfl rfl h1 h2 hp λρ w h1 h2=>⟨.bool (decide (p=q)),by
  show(do pure (Next.value (<-(do eqGuard .eql 38 x y (ρ x) (ρ y); Go.binOp .eql 38 (ρ x) (ρ y)))):Sem Next).run Tryz.prog w=_
  rw[wR h1,wR h2]
  exact zH _ (.inl ⟨rfl,rfl⟩) w,λ_ _ _=>rfl⟩
theorem UO (h1:Has ms G i x (cT p):=by exact hs) (h2:Has ms G i y (cT q):=by exact hs) (hp:Post G i (pB (decide (p≠q))):=by exact pt rfl):OpOk Tryz.prog ops ms c V A G i ⟨some d,.binOp .neq 38 x y u,ty,pos,aL,none⟩:=
 jX rfl rfl rfl rfl h1 h2 hp λρ w h1 h2=>⟨.bool (decide (p≠q)),by
  show(do pure (Next.value (<-(do eqGuard .neq 38 x y (ρ x) (ρ y); Go.binOp .neq 38 (ρ x) (ρ y)))):Sem Next).run Tryz.prog w=_
  rw[wR h1,wR h2]
  exact zH _ (.inr ⟨rfl,rfl⟩) w,λ_ _ _=>rfl⟩
theorem My {P:Program} {T:TypeId} {v:Vr} {b n k off:Nat} {L:List Pt} (N q:Nat) (hv:lO N V=some v:=by exact rfl) (ho:bA ms i v=true:=by exact rfl) (bS:v.kd=.obj:=by exact rfl) (hst:(v.st.all λq=>(q.1==i||(ms.getD i 0).testBit q.1)||(ms.getD q.1 0).testBit i)=true:=by kernel_rfl)
  (hc:cont (λj=>(ms.getD i 0).testBit j) v.c0 v.st=tr b n (oF k L):=by exact rfl) (h:Has ms G i y (bp (.pointer (some ⟨b,off,none⟩))):=by exact hs) (hq:q<k:=by omega) (hoff:off=q*2:=by omega) (hlen:k*2<=n:=by omega) (hp:Post G i (cT (ae L q)):=by exact pt rfl) (ht:He P T true 2=true:=by kernel_rfl):OpOk P ops ms c V A G i ⟨some d,.load T y,ty,pos,aL,none⟩:=by
 obtain⟨⟨j,hj⟩,_⟩:=dX hv
 subst hoff
 exact Gq j hj ho bS hst hc h (by omega) (bE ht) (λw cs _ hcs=>zn.2 (G5.2 (Br.1 hcs q hq))) (cF _) hp
end
section
variable {P:Program} {c:cM} {V:List Vr} {G:List aV} {a:Act} {w:World}{fn:Func} {N b n:Nat} {q:Pred} {M:Nat->Nat->Prop}
theorem Qb {f:FuncId} {C:Code} {v1:Value} {p1:Pred} {R:Ending->World->Prop} (hf:P.funcs[f]?=some fn) (hb:fn.body=some C) (hN:fn.ntmps=N) (hM:cR M w) (OZ:∀o,¬M b o) (hq:aA q) (h0:One b n q w)
  (h1:aM (jA M b) (λw=>p1 w v1) w)
  (h:∀a,Inv ⟨N,w,M,(·=b)⟩ [dy N b n q] [] [Uz 0 p1] none_ a w->C.ww none [] P (bodyPost P fn R) a w) (hlen:decide (1<=N)=true:=by kernel_rfl):Calls P f #[v1] w R:=by
 have eo:∀k o,own ⟨N,w,M,(·=b)⟩ [dy N b n q] none_ (λ_ k=>k=b) k o->jA M b k o:=by
  rintro k o (h|⟨x,hx,_,h,_⟩)
  ·exact .inl h
  ·exact .inr h
 have kE:cR (own ⟨N,w,M,(·=b)⟩ [dy N b n q] none_ (λ_ k=>k=b)) w:=λk o hk=>(eo k o hk).elim (λh=>hM k o h) λh=>by subst h; exact⟨h0.lt,λv hv=>h0.KU o v hv⟩
 have hG:dH (jA M b) w [v1] [Uz 0 p1]:=⟨⟨rfl,_,rfl,h1⟩,trivial⟩
 have RJ:=dH.ok (m:=fn.ntmps-#[v1].size) hG
 refine calls_of_wp hf hb ((wpIn_wide (n:=0)).1 (wpIn_mono (h { tmps:=#[v1]++Array.replicate (fn.ntmps-#[v1].size) undef,defers:=[] } ?_ 0) λe a' w' ⟨a0,e0,h0⟩=>by subst e0; exact h0))
 refine⟨λ_ k=>k=b,by have:=of_decide_eq_true hlen; simp[hN]; omega,rfl,cz.refl _ _,(λk o h=>⟨⟨(hM k o h).1,λ(hb:k=b)=>OZ o (hb▸h)⟩,(hM k o h).2⟩),(λx hx _=>?_),(λx y g hx hy _ _ hne=>?_),(λp hp=>by cases hp),λe he _ _=>(RJ.get e he).2.sub λk o _ h=>eo k o h⟩
 ·rcases List.mem_singleton.1 hx with rfl
  exact(aK rfl).2 ⟨λk (hk:k=b)=>by subst hk; exact⟨.inr rfl,h0.lt,λo v hv=>h0.KU o v hv⟩,(h0.box (B:=(·=b)) rfl hq kE).imp λw h=>⟨λ_=>Iff.rfl,h⟩⟩
 ·rcases List.mem_singleton.1 hx with rfl
  rcases List.mem_singleton.1 hy with rfl
  exact absurd rfl hne
theorem OD {n0 s:Nat} {w0:World} {v:Value} (hI:Inv ⟨N,w0,M,(·=b)⟩ V [] G none_ a w) (hr:fn.results=#[.tmp s]) (hk:V[n0]?=some (dy N b n q)) (h1:fD s G=some (bp v):=by exact rfl):bodyPost P fn (rM M b n (bp v) q w0) .ret a w:=by
 obtain⟨β,hI⟩:=hI
 obtain⟨hβ,hone⟩:(∀k,β N k↔k=b)/\One b n q w:=((aK rfl).1 (hI.var _ (List.mem_of_getElem? hk) rfl)).2.out
 obtain⟨k1,nD⟩:=dn h1
 have es:sl a s=v:=(hI.gY _ (List.mem_of_getElem? nD) rfl rfl).out
 refine iN hI (v:=sl a s) ?_ ⟨_,rfl,λ_ _=>es,hI.below,hone⟩
 rw[dm,hr]
 simp[nw,sl]
end
end Wx

namespace Wx
set_option maxRecDepth 100000
open Go Go.RowKit Go.Proofs
set_option maxHeartbeats 2000000 in
theorem Mz {n:Nat} (h:0<n/\n<=1000000) (f:Nat->Pred) (w:World):Calls Tryz.prog 40 #[.slice none 0 0,.int .i64 n] w (vS 2 0 true 38 f w):=by
 obtain⟨h1,h2⟩:=h
 have hge:n<=(Question.appendCap n 0 38).cut (w.tape w.drawn (.appendCap n 0 38)):=grownCap_ge w n 0 38
 have hle:(Question.appendCap n 0 38).cut (w.tape w.drawn (.appendCap n 0 38))<=maxLen:=grownCap_le_maxLen w n 0 38 (by unfold maxLen; omega)
 have hb2:Builtin.nextslicecap n 0*16<=281474976710656:=growslice_fits (old:=0) (bytes:=16) h1 (by omega)
 have Uo:Tryz.t38.bytes=16:=by kernel_rfl
 go_enter Tryz.func40,Tryz.ntmps40
 go_wp2
 all_goals first
  |(exfalso; rename_i hx _ _; rw[Uo]at hx; omega)
  |(exfalso; rename_i hx _ _ _; rw[Uo]at hx; omega)
  |skip
 go_ret
 generalize (Question.appendCap n 0 38).cut (w.tape w.drawn (.appendCap n 0 38))=cap at *
 obtain⟨cs,hcs⟩:∃cs:Array Value,Builtin.zeroCells #[.int .i64 0,.int .i64 0] n++Builtin.zeroCells #[.int .i64 0,.int .i64 0] (cap-n)=cs:=⟨_,rfl⟩
 have hsz:cs.toList.length=cap*2:=by
  rw[<-hcs]
  rw[Array.toList_append,List.length_append,Array.length_toList,Array.length_toList,size_zeroCells,size_zeroCells]
  show n*2+(cap-n)*2=_
  omega
 have hno:∀u∈cs.toList,gv u:=λu hu=>by
  rw[<-hcs,Array.toList_append]at hu
  have hz:∀u∈(#[.int .i64 0,.int .i64 0]:Array Value).toList,gv u:=λu hu=>by
   rcases List.mem_cons.1 hu with rfl|hu
   ·exact me _
   ·rw[List.mem_singleton.1 hu]; exact me _
  rcases List.mem_append.1 hu with hu|hu
  ·exact eB hz _ u hu
  ·exact eB hz _ u hu
 rw[hcs]
 refine⟨w.heap.size,cap,rfl,Below.drew (Below.alloc (Below.refl _ _) (Nat.le_refl _) _),Nat.le_refl _,.inr ⟨w.heap.size,cap,cs.toList,rfl,λ_=>Iff.rfl,?_,hsz,Nat.zero_le _,hle,hno,λi hi=>absurd hi (Nat.not_lt_zero _)⟩⟩
 show(w.alloc (.cells cs 38)).heap[w.heap.size]?=_
 exact World.alloc_heap_new w _
section
variable {P:Program} {c:cM} {V:List Vr} {G:List aV} {a:Act} {w:World} {x y z:Operand} {d:Nat} {ty:TypeId} {pos:String} {aL:Array Edge}
theorem Rk {ops:Array Oper} {f:FuncId} {ts:Array TypeId} {EC m e:Nat} {Ew:Bool} {E:TypeId} {f2:Nat->Pred} {v1 v2:Value} {ty2:TypeId} {pos2:String} {aft2:Array Edge} (gO:∀w,Calls P f #[v1,v2] w (vS EC m Ew E f2 w)) (zV:∀i,aA (f2 i)) (h1:Has [0] G 0 x (bp v1):=by exact hs) (h2:Has [0] G 0 y (bp v2):=by exact hs)
  (hf:aN P f:=by exactλ_ _=>by kernel_rfl) (hd:decide (d<c.N)=true:=by kernel_rfl) (hV:(V.all λy=>(y.slot != d&&y.id != d)&&(y.born.isNone&&y.dead.isNone))=true:=by kernel_rfl) (hG:(G.all λe=>e.slot != d)=true:=by kernel_rfl) (he':decide (e<c.N/\d≠e)=true:=by kernel_rfl) (IP:(V.all λx=>x.slot != e)=true:=by kernel_rfl) (Ks:(G.all λx=>x.slot != e)=true:=by kernel_rfl):
  fL P ops (Inv c V [] G none_) [⟨some d,.call ⟨.value (.func f),#[x,y],ts⟩,ty,pos,aL,none⟩,⟨some e,.assign (.tmp d),ty2,pos2,aft2,none⟩] (λa w=>∃b2 dY,(m<=dY/\dY<=maxLen)/\Inv c (kX d EC m Ew E f2 (.slice (some ⟨b2,0,none⟩) m dY)::V) [] (⟨none,none,e,bp (.slice (some ⟨b2,0,none⟩) m dY)⟩::G) none_ a w):=by
 have he:=of_decide_eq_true he'
 rw[List.all_eq_true]at IP Ks
 refine⟨λa w=>∃b2 dY,Inv c (kX d EC m Ew E f2 (.slice (some ⟨b2,0,none⟩) m dY)::V) [] (⟨none,none,d,bp (.slice (some ⟨b2,0,none⟩) m dY)⟩::G) none_ a w,?_,_,?_,rfl⟩
 ·rintro a w ⟨β,hI⟩
  have e1:a.eval x=v1:=(h1.spec hI mS).out
  have e2:a.eval y=v2:=(h2.spec hI mS).out
  refine .of rfl (lX hf (Calls.mono (by
   rw[show(#[x,y]:Array Operand).map a.eval=#[a.eval x,a.eval y] by simp,e1,e2]
   exact gO w) ?_))
  rintro e w' ⟨b2,dY,rfl,hb,hrb,ho⟩
  have hblk:=je ho b2 rfl
  exact⟨_,rfl,b2,dY,hI.Ac (R:=λB w=>pC EC m Ew E f2 (.slice (some ⟨b2,0,none⟩) m dY) B w) hb hrb hblk.1 hblk.2 (λM hM w'' he=>ho.keep zV (λk o hk=>hM k o hk.1) he λk hk=>he.block k (je ho k hk).1 λo hh=>hh.2 hk) (of_decide_eq_true hd) hV hG⟩
 ·rintro a w ⟨b2,dY,hI⟩
  have hbd:m<=dY/\dY<=maxLen:=by
   obtain⟨β,h⟩:=hI
   exact pC.bound (((aK rfl).1 (h.var _ (List.mem_cons_self ..) rfl)).2.out)
  have h:=lJ (P:=P) (ops:=ops) (ty2:=ty2) (pos2:=pos2) (aft2:=aft2) he.1 (λx hx=>by
   rcases List.mem_cons.1 hx with rfl|hx
   ·exact he.2
   ·simpa using IP x hx) (λx hx=>by simpa using Ks x hx) hI
  exact h.mono λ_ _ h=>⟨b2,dY,hbd,h⟩
end
theorem Lz {P:Program} {ops:Array Oper} {ms:List Nat} {c:cM} {V:List Vr} {A:List Al} {G:List aV} {i d:Nat} {x y:Operand} {ty:TypeId} {pos:String} {aL:Array Edge} {T:TypeId} {sz:Nat} {agg:Bool} {p q:Pred} {zv:Value} (E:TypeId) (z:List Value) (F:Nat->Pred) (f1:Fits sz agg p) (f2:Fits sz agg q) (e0:F 0=p:=by rfl) (e1:F 1=q:=by rfl) (ht:pD P T E sz:=by exact⟨by kernel_rfl,λ_=>by kernel_rfl⟩) (DC:∀w,(zeroValue E).run P w=.ok zv w:=by exactλ_=>by kernel_rfl) (AR:zv.cells=z.toArray:=by rfl) (hsz:decide (0<sz/\0<2/\2*sz<=16777216)=true:=by decide) (xw:z.length=sz:=by rfl)
  (h1:Has ms G i x p:=by exact hs) (h2:Has ms G i y q:=by exact hs) (hp:Post G i (bK sz agg 2 F):=by exact pt rfl):OpOk P ops ms c V A G i ⟨some d,.buildSlice T 2 #[(0,x),(1,y)],ty,pos,aL,none⟩:=
 jg (p:=iC) (fs:=List.replicate 2 ⟨agg,sz,iC⟩) (ps:=[(0,p),(1,q)]) ht DC AR rfl hsz (λ_=>trivial) xw (show dI ms G i (List.replicate 2 ⟨agg,sz,iC⟩) [(0,x),(1,y)] [(0,p),(1,q)]from⟨⟨rfl,h1,_,rfl,f1⟩,⟨rfl,h2,_,rfl,f2⟩,trivial⟩) rfl F (λk f hf=>by
  match k,hf with
  |0,hf=>
   have hf:some (⟨agg,sz,p⟩:Fd)=some f:=hf
   injection hf with hf
   rw[<-hf,e0]
  |1,hf=>
   have hf:some (⟨agg,sz,q⟩:Fd)=some f:=hf
   injection hf with hf
   rw[<-hf,e1]
  |k+2,hf=>cases hf) hp
theorem bz (L:List Pt) (d:Int):Fits 2 true (fE L d):=pL (fs:=[⟨false,1,fF L⟩,⟨false,1,pI d⟩]) ⟨fk,fits_int _,trivial⟩ rfl
end Wx

namespace Wx
open Go Go.RowKit Go.Proofs
def jG (x y:Dc):Int:=if x.p.1≠y.p.1 then x.p.1-y.p.1 else x.p.2-y.p.2
set_option maxHeartbeats 2000000 in
theorem DL (x y:Dc) (W:World):Calls Tryz.prog 35 #[.agg (qK x).toArray,.agg (qK y).toArray] W λe w'=>e=.returned (.int .i64 (jG x y))/\∃q os',w'=Go.Sort.grow (W.drewN q) os':=by
 obtain⟨⟨x1,x2⟩,hx⟩:=x
 obtain⟨⟨y1,y2⟩,hy⟩:=y
 obtain⟨a1,a2,a3,a4⟩:=hx
 obtain⟨b1,b2,b3,b4⟩:=hy
 dsimp only at a1 a2 a3 a4 b1 b2 b3 b4
 unfold jG
 dsimp only[qK,sr]
 by_cases h:x1=y1
 ·subst h
  rw[if_neg (by simp)]
  go_enter Tryz.func35,Tryz.ntmps35
  go_wp2
  go_ret
  refine⟨rfl,0,#[.cells #[.int .i64 x1,.int .i64 x2] 38 (0,0),.cells #[.int .i64 x1,.int .i64 y2] 38 (0,0)],?_⟩
  rfl
 ·rw[if_pos h]
  have hb:(x1 != y1)=true:=by simpa using h
  go_enter Tryz.func35,Tryz.ntmps35
  go_wp2
  go_ret
  refine⟨rfl,0,#[.cells #[.int .i64 x1,.int .i64 x2] 38 (0,0),.cells #[.int .i64 y1,.int .i64 y2] 38 (0,0)],?_⟩
  rfl
end Wx

namespace Wx
open Go Go.RowKit Go.Proofs
def yQ:Go.Shelf.Ren:=⟨λ|6=>34|14=>64|15=>65|20=>86|21=>87|22=>88|23=>89|24=>90|25=>91|26=>92|27=>93|28=>94|29=>95|46=>105|47=>106|48=>107|49=>108|50=>109|57=>112|n=>n,λ|0=>0|3=>3|4=>4|5=>5|9=>9|22=>22|25=>68|39=>102|45=>121|46=>122|50=>126|53=>129|55=>86|66=>137|70=>141|76=>145|77=>146|24=>38|n=>n,λ|n=>n⟩
theorem Jj:Go.Proofs.SlLaysF0.n6 Tryz.prog yQ:={
 mixed:=by kernel_rfl
 f6 := ⟨"slices.SortFunc[[]wingworks/api.Point,wingworks/api.Point]", by kernel_rfl, Tryz.func34.trans (congrArg some (by kernel_rfl))⟩
 f14 := ⟨"slices.pdqsortCmpFunc[wingworks/api.Point]", by kernel_rfl, Tryz.func64.trans (congrArg some (by kernel_rfl))⟩
 f15:=Tryz.func65.trans (congrArg some (by kernel_rfl))
 f20 := ⟨"slices.insertionSortCmpFunc[wingworks/api.Point]", by kernel_rfl, Tryz.func86.trans (congrArg some (by kernel_rfl))⟩
 f21 := ⟨"slices.heapSortCmpFunc[wingworks/api.Point]", by kernel_rfl, Tryz.func87.trans (congrArg some (by kernel_rfl))⟩
 f22 := ⟨"slices.breakPatternsCmpFunc[wingworks/api.Point]", by kernel_rfl, Tryz.func88.trans (congrArg some (by kernel_rfl))⟩
 f23 := ⟨"slices.choosePivotCmpFunc[wingworks/api.Point]", by kernel_rfl, Tryz.func89.trans (congrArg some (by kernel_rfl))⟩
 f24 := ⟨"slices.reverseRangeCmpFunc[wingworks/api.Point]", by kernel_rfl, Tryz.func90.trans (congrArg some (by kernel_rfl))⟩
 f25 := ⟨"slices.partialInsertionSortCmpFunc[wingworks/api.Point]", by kernel_rfl, Tryz.func91.trans (congrArg some (by kernel_rfl))⟩
 f26 := ⟨"slices.partitionEqualCmpFunc[wingworks/api.Point]", by kernel_rfl, Tryz.func92.trans (congrArg some (by kernel_rfl))⟩
 f27 := ⟨"slices.partitionCmpFunc[wingworks/api.Point]", by kernel_rfl, Tryz.func93.trans (congrArg some (by kernel_rfl))⟩
 f28:=Tryz.func94.trans (congrArg some (by kernel_rfl))
 f29:=Tryz.func95.trans (congrArg some (by kernel_rfl))
 f46 := ⟨"slices.siftDownCmpFunc[wingworks/api.Point]", by kernel_rfl, Tryz.func105.trans (congrArg some (by kernel_rfl))⟩
 f47:=Tryz.func106.trans (congrArg some (by kernel_rfl))
 f48:=Tryz.func107.trans (congrArg some (by kernel_rfl))
 f49 := ⟨"slices.medianAdjacentCmpFunc[wingworks/api.Point]", by kernel_rfl, Tryz.func108.trans (congrArg some (by kernel_rfl))⟩
 f50 := ⟨"slices.medianCmpFunc[wingworks/api.Point]", by kernel_rfl, Tryz.func109.trans (congrArg some (by kernel_rfl))⟩
 f57 := ⟨"slices.order2CmpFunc[wingworks/api.Point]", by kernel_rfl, Tryz.func112.trans (congrArg some (by kernel_rfl))⟩
 t0:=Tryz.underlying0
 a0:=Tryz.isAgg0
 z0:=Tryz.sizeOf0
 v0:=Tryz.zeroValue0
 t3:=Tryz.underlying3
 a3:=Tryz.isAgg3
 z3:=Tryz.sizeOf3
 v3:=Tryz.zeroValue3
 t4:=Tryz.underlying4
 a4:=Tryz.isAgg4
 z4:=Tryz.sizeOf4
 v4:=Tryz.zeroValue4
 t5:=Tryz.underlying5
 a5:=Tryz.isAgg5
 z5:=Tryz.sizeOf5
 v5:=Tryz.zeroValue5
 t9:=Tryz.underlying9
 a9:=Tryz.isAgg9
 z9:=Tryz.sizeOf9
 v9:=Tryz.zeroValue9
 t22:=Tryz.underlying22
 a22:=Tryz.isAgg22
 z22:=Tryz.sizeOf22
 v22:=Tryz.zeroValue22
 t25:=Tryz.underlying68
 a25:=Tryz.isAgg68
 z25:=Tryz.sizeOf68
 v25:=Tryz.zeroValue68
 t39:=Tryz.underlying102
 a39:=Tryz.isAgg102
 z39:=Tryz.sizeOf102
 v39:=Tryz.zeroValue102
 t45:=Tryz.underlying121
 a45:=Tryz.isAgg121
 z45:=Tryz.sizeOf121
 v45:=Tryz.zeroValue121
 t46:=Tryz.underlying122
 a46:=Tryz.isAgg122
 z46:=Tryz.sizeOf122
 v46:=Tryz.zeroValue122
 t50:=Tryz.underlying126
 a50:=Tryz.isAgg126
 z50:=Tryz.sizeOf126
 v50:=Tryz.zeroValue126
 t53:=Tryz.underlying129
 a53:=Tryz.isAgg129
 z53:=Tryz.sizeOf129
 v53:=Tryz.zeroValue129
 t55:=Tryz.underlying86
 a55:=Tryz.isAgg86
 z55:=Tryz.sizeOf86
 v55:=Tryz.zeroValue86
 t66:=Tryz.underlying137
 a66:=Tryz.isAgg137
 z66:=Tryz.sizeOf137
 v66:=Tryz.zeroValue137
 t70:=Tryz.underlying141
 a70:=Tryz.isAgg141
 z70:=Tryz.sizeOf141
 v70:=Tryz.zeroValue141
 t76:=Tryz.underlying145
 a76:=Tryz.isAgg145
 z76:=Tryz.sizeOf145
 v76:=Tryz.zeroValue145
 t77:=Tryz.underlying146
 a77:=Tryz.isAgg146
 z77:=Tryz.sizeOf146
 v77:=Tryz.zeroValue146 }
def AW:Go.Shelf.Ren:=⟨λ|35=>39|n=>n,λ|0=>0|3=>3|4=>4|22=>22|23=>38|n=>n,λ|n=>n⟩
theorem MB:Go.Proofs.SlLaysE0.n35 Tryz.prog AW:={
 mixed:=by kernel_rfl
 f35 := ⟨"slices.Reverse[[]wingworks/api.Point,wingworks/api.Point]", by kernel_rfl, Tryz.func39.trans (congrArg some (by kernel_rfl))⟩
 t0:=Tryz.underlying0
 a0:=Tryz.isAgg0
 z0:=Tryz.sizeOf0
 v0:=Tryz.zeroValue0
 t3:=Tryz.underlying3
 a3:=Tryz.isAgg3
 z3:=Tryz.sizeOf3
 v3:=Tryz.zeroValue3
 t4:=Tryz.underlying4
 a4:=Tryz.isAgg4
 z4:=Tryz.sizeOf4
 v4:=Tryz.zeroValue4
 t22:=Tryz.underlying22
 a22:=Tryz.isAgg22
 z22:=Tryz.sizeOf22
 v22:=Tryz.zeroValue22 }
end Wx

namespace Wx
open Go Go.RowKit Go.Proofs
noncomputable def nA (n:Nat) (L:List Pt):Array Dc:=((List.range n).map λi=>QJ (ae L i)).toArray
variable {n:Nat} {L:List Pt}
theorem cB:(nA n L).size=n:=by simp[nA]
variable {i:Nat}
theorem tJ (h:i<n):(nA n L)[i]! = QJ (ae L i):=by
 rw[getElem!_pos _ i (by rw[cB]; exact h)]
 simp[nA]
def oH (d:Array Dc):List Pt:=d.toList.map (·.p)
theorem vE {d:Array Dc} (h:i<d.size):(d[i]!).p=ae (oH d) i:=by
 rw[getElem!_pos _ i h]
 unfold ae oH
 rw[List.getD_eq_getElem?_getD,List.getElem?_map]
 simp[h]
noncomputable def dN (n:Nat) (L:List Pt):List Pt:=oH ((nA n L).toList.mergeSort λx y=>!(ltOf jG) y x).toArray
theorem lt_iff (x y:Dc):ltOf jG x y=true↔x.p.1<y.p.1\/(x.p.1=y.p.1/\x.p.2<y.p.2):=by
 unfold ltOf jG
 rw[decide_eq_true_iff]
 by_cases h:x.p.1≠y.p.1
 ·rw[if_pos h]; omega
 ·rw[if_neg h]; omega
theorem jU (x y:Dc):ltOf jG x y=false↔¬(x.p.1<y.p.1\/(x.p.1=y.p.1/\x.p.2<y.p.2)):=by rw[<-lt_iff,Bool.not_eq_true]
theorem Nh:Go.Sort.SWO (ltOf jG) where
 irrefl x:=by rw[jU]; omega
 trans x y z h1 h2:=by rw[lt_iff]at *; omega
 ntrans x y z h1 h2:=by rw[jU]at *; omega
theorem Tt (x y:Dc) (h1:ltOf jG x y=false) (h2:ltOf jG y x=false):x=y:=by
 rw[jU]at h1 h2
 obtain⟨⟨a,b⟩,hx⟩:=x
 obtain⟨⟨c,d⟩,hy⟩:=y
 dsimp only at h1 h2
 obtain rfl:a=c:=by omega
 obtain rfl:b=d:=by omega
 rfl
section
variable {L:List Pt} {b N n c:Nat}
theorem FY (h:(∀q,q<n->bG 16777216 (ae L q))/\n<=1000/\n*2<=N) (M:Nat->Nat->Prop) (w:World) (v1 v2:Value) (_:cR M w) (_:∀o,¬M b o) (h0:One b N (oF n L) w) (h1:aM (jA M b) (λw=>bp (.slice (some ⟨b,0,none⟩) n c) w v1) w) (h2:aM (jA M b) (λw=>bp (.func (.func 35) #[] #[]) w v2) w):
  Calls Tryz.prog 34 #[v1,v2] w (rM M b N (bp (.tuple #[])) (oF n (dN n L)) w):=by
 obtain rfl:v1=.slice (some ⟨b,0,none⟩) n c:=h1.out
 obtain rfl:v2=.func (.func 35) #[] #[]:=h2.out
 have hH:=holds_of_one (d:=nA n L) h0 cB λi hi=>by rw[tJ hi,zQ (h.1 i hi)]
 have k:=AnyQ.slices_SortFunc_total Jj 2 Tryz.isAgg38 Tryz.sizeOf38 qK (λ_=>rfl) (λx v hv=>by
  rcases List.mem_cons.1 hv with rfl|hv
  ·rfl
  ·rw[List.mem_singleton.1 hv]; rfl) jG Nh 35 #[] b 0 c (nA n L) w (λ_ _=>by kernel_rfl) (λm os dk _ x y=>DL x y _) hH h0.lt (by rw[cB]; omega) Tt
 rw[cB]at k
 refine k.mono ?_
 rintro e w' ⟨rfl,m,os,rfl⟩
 have hsz:(((nA n L).toList.mergeSort λx y=>!(ltOf jG) y x).toArray).size=n:=by
  rw[List.size_toArray,List.length_mergeSort,Array.length_toList,cB]
 exact tG h0 hsz h.2.2 λi hi=>vE (by omega)
theorem uY (h:n<=1000/\n*2<=N/\∀q,q<n->bG 16777216 (ae L q)) (M:Nat->Nat->Prop) (w:World) (v1:Value) (_:cR M w) (_:∀o,¬M b o) (h0:One b N (oF n L) w) (h1:aM (jA M b) (λw=>bp (.slice (some ⟨b,0,none⟩) n c) w v1) w):
  Calls Tryz.prog 39 #[v1] w (rM M b N (bp (.tuple #[])) (oF n ((List.range n).map λi=>ae L (n-1-i))) w):=by
 obtain rfl:v1=.slice (some ⟨b,0,none⟩) n c:=h1.out
 have hH:=holds_of_one (d:=nA n L) h0 cB λi hi=>by rw[tJ hi,zQ (h.2.2 i hi)]
 have k:=AnyQ.slices_Reverse MB 2 Tryz.isAgg38 Tryz.sizeOf38 qK (λ_=>rfl) (λx v hv=>by
  rcases List.mem_cons.1 hv with rfl|hv
  ·rfl
  ·rw[List.mem_singleton.1 hv]; rfl) b 0 c (nA n L) w hH (by rw[cB]; omega)
 rw[cB]at k
 refine k.mono ?_
 rintro e w' ⟨rfl,m,rfl⟩
 have hsz:((nA n L).reverse).size=n:=by rw[Array.size_reverse,cB]
 have r:=tG (M:=M) (L':=(List.range n).map λi=>ae L (n-1-i)) (m:=m) (os:=#[]) h0 hsz h.2.1 λi hi=>by
  rw[getElem!_pos _ i (by omega),Array.getElem_reverse]
  have e:=tJ (L:=L) (show n-1-i<n by omega)
  rw[getElem!_pos _ _ (by rw[cB]; omega)]at e
  simp only[cB]
  rw[e,zQ (h.2.2 _ (by omega))]
  unfold ae
  rw[List.getD_eq_getElem?_getD (l:=List.map _ _),List.getElem?_map,List.getElem?_range hi]
  rfl
 have hg:∀W:World,Go.Sort.grow W #[]=W:=λW=>by unfold Go.Sort.grow; simp
 rw[hg]at r
 exact r
end
end Wx
