import Derived.Test.YtfnmkhlleanppaaGreatDoorJWC35
namespace Wx
set_option maxRecDepth 100000
set_option maxHeartbeats 1000000
open Go Go.RowKit Go.Proofs
attribute [local irreducible] OpOk
set_option linter.unusedVariables false
abbrev pn (u:Nat):Value:=.func (.func 65) #[] #[.pointer (some ⟨u,0,none⟩)]
abbrev B3 (t:ByteArray):Pred:=aI 1 false (aL t) λq=>pT (cZ t q)
section
variable {P:Program} {ops:Array Oper} {ms:List Nat} {c:bQ} {V:List Vr} {A:List Al} {G:List aN} {β:Nat->Nat->Prop} {i d:Nat} {x:Operand} {ty:TypeId} {pos:String} {aft:Array Edge} {a:Act} {w:World}{v:Value}
theorem MZ {f:FuncId} (h:Has ms G i x (aG v):=by exact hs) (hp:Post G i (aG (.func (.func f) #[] #[v])):=by exact pt rfl):OpOk P ops ms c V A G i ⟨some d,.makeFunc (.func f) #[] #[x],ty,pos,aft,none⟩:=
 eL rfl rfl rfl rfl h hp λρ w h=>⟨.func (.func f) #[] #[ρ x],by
  show(do pure (Next.value (<-Instr.makeFunc (.func f) ((#[]:Array Operand).map ρ) ((#[x]:Array Operand).map ρ)))).run P w=_
  rw[show(#[x]:Array Operand).map ρ=#[ρ x] by simp,show(#[]:Array Operand).map ρ=#[] by simp]
  rfl,λ_ h=>by show Value.func (.func f) #[] #[ρ x]=_; rw[show ρ x=v from h]⟩
variable {s:Nat}
theorem uc (h:aQ c V A G none_ β a w) (hs:dz s G=some (aG v)):a.eval (.tmp s)=v:=by
 obtain⟨k,hk⟩:=cx hs
 exact(h.ew _ (List.mem_of_getElem? hk) rfl rfl).out
theorem xH {fn:Func} {N n0 i u:Nat} {T:TypeId} {c0:Value} {w0:World} (hd:Nat->Value) (hI:Inv ⟨N,w0,λ_ _=>False,λ_=>False⟩ V [] G none_ a w) (hr:fn.results=#[.tmp s]) (h1:dz s G=some (aG (hd u))) (hp:dz i G=some (Kq u)) (hk:V[n0]?=some (Vz i i T 1 false (aG c0))):
  bodyPost P fn (λe w'=>∃u,e=.returned (hd u)/\Below w0.heap.size w0 w'/\w0.heap.size<=u/\iy u T c0 w') .ret a w:=by
 obtain⟨β,hI⟩:=hI
 obtain⟨kp,hkp⟩:=cx hp
 have MD:sl a i=.pointer (some ⟨u,0,none⟩):=(hI.ew _ (List.mem_of_getElem? hkp) rfl rfl).out
 have hx1:=List.mem_of_getElem? hk
 obtain⟨g,hg,hs,dV⟩:=(aY rfl).1 (hI.var _ hx1 rfl)
 have JM:g=u:=by
  have e:Value.pointer (some ⟨g,0,none⟩)=.pointer (some ⟨u,0,none⟩):=hs.symm.trans MD
  injection e with e; injection e with e; injection e
 subst JM
 obtain⟨k1,td⟩:=cx h1
 have da:sl a s=hd g:=(hI.ew _ (List.mem_of_getElem? td) rfl rfl).out
 obtain⟨cs,m1,m2,m3,m4⟩:=dV.held
 have e0:aq false cs=c0:=m4.out
 have hcs:cs=[c0]:=by
  match cs,m2 with
  |[y],_=>have:y=c0:=e0; rw[this]
 have hb:Below w0.heap.size w0 w:=hI.below.below λ_ h=>h
 refine fU hI (v:=hd g) ?_ ⟨g,rfl,hb,dV.new.elim (λh=>h) λh=>h.elim,by rw[hcs]at m1; exact m1⟩
 rw[cu,hr]
 have:a.tmps.getD s undef=hd g:=da
 simp[jq,this]
end
variable {t:ByteArray}
theorem Bz (w:World):Calls Tryz.prog 34 #[.string t] w λe w'=>∃u,e=.returned (pn u)/\Below w.heap.size w w'/\w.heap.size<=u/\iy u 9 (.string t) w':=by
 refine vw (N:=4) (vs:=[.string t]) (M:=λ_ _=>False) (G:=[Uz 0 (pT t)]) Tryz.func34 rfl rfl rfl (λ_ _ h=>h.elim) ⟨⟨rfl,_,rfl,λ_ _=>rfl⟩,trivial⟩ λa hI=>?_
 refine bO hI 2 [⟨1,1,some 0,none,.ptr,9,1,false,pv _,[]⟩] [] [Uc 1 2 _] .z (.k .z) ⟨bo,mv,trivial⟩ (.k .z) (.dd .z) λa w hI=>?_
 obtain⟨u,hI⟩:=Inv.qn hI 0 rfl rfl rfl
 refine bO hI 2 [] [] [Uc 0 3 _,Uc 1 2 _] (.k .z) (.k .z) ⟨MZ,mv,trivial⟩ (.k .z) (.nP .z) λa w hI=>?_
 refine av ?_
 exact xH (n0:=0) pn hI rfl rfl rfl rfl
theorem wK (ht:t.size<=1000000) (u:Nat) (w:World):uO Tryz.prog u 9 (.string t) (aL t) (λq=>pT (cZ t q)) w (pn u):=⟨_,rfl,λ_ _=>by kernel_rfl,yG ht u⟩
theorem rG (ht:t.size<=1000000) {M:Nat->Nat->Prop} {w:World} {u:Nat} (hM:cS M w) (kL:∀o,M u o) (hu:iy u 9 (.string t) w) (GQ:aJ M jd w):Calls Tryz.prog 64 #[.slice none 0 0,pn u] w (xj M u (B3 t) w):=by
 have hG:=dP GQ
 have lp:=lO t
 refine vv (N:=13) (vs:=[.slice none 0 0,pn u]) (G:=[Uz 0 (aG (.slice none 0 0)),Uz 1 (uO Tryz.prog u 9 (.string t) (aL t) (λq=>pT (cZ t q)))]) Tryz.func64 rfl rfl rfl hM ⟨⟨rfl,_,rfl,λ_ _=>rfl⟩,⟨rfl,_,rfl,λw _=>wK ht u w⟩,trivial⟩ λa hI=>?_
 refine bO hI 2 [⟨2,2,some 0,none,.ptr,28,1,false,pv _,[]⟩] [] [Uc 1 4 _] .z (.kk .z) ⟨bo,mv,trivial⟩ (.k .z) (.LW .z) λa w hI=>?_
 obtain⟨b2,hI⟩:=KG (sz:=1) (ag:=false) (E:=9) (λq=>pT (cZ t q)) hI 0 rfl
 dsimp only[List.set]at hI
 refine ah ?_
 refine bO hI 1 [] [] [Uc 0 6 _] (.k .z) (.kk .z) ⟨mv,trivial⟩ (.k .z) (.nP .z) λa w hI=>?_
 refine aD ?_
 refine wS (y0:=7) (τ:=Unit) hG kL hu (λk _=>[kE 2 b2 1 k false 9 (λq=>pT (cZ t q))]) (λ_ _=>[cr 2 2 λ_ _ _=>False]) [Uz 2 _,Uz 6 _] [2,6] () (hI.cv ⟨LD,trivial⟩ ⟨gc,gc,trivial⟩) rfl (λ_ _=>by kernel_rfl) (λ_ _=>by kernel_rfl) (by kernel_rfl) (by kernel_rfl) (by kernel_rfl) (λk _ w0 M1 B1 a w D l r hk hr hI=>?_) (λ_ w D l r w0 hoff hI=>?_) (λcd _ w D l r w0 hoff hI=>(vT hI).elim)
 ·
  dsimp only[List.append,List.map,HAppend.hAppend,Append.append,CH]at hI
  refine sG hI 1 [] [] [Uc 0 5 _] (.k (.k .z)) (.af (.k .z)) ⟨mv,trivial⟩ (.k (.k .z)) (.qV (.kk .z)) λa w hI=>?_
  refine ae ?_
  refine DK hI 1 hr (λw hI=>?_)
  dsimp only[List.set]at hI
  refine aD ?_
  obtain⟨s9,hI⟩:=Fg hI 0 rfl
  dsimp only[List.set]at hI
  refine KM hI 5 3 [] [] [Uc 0 8 _,Uc 1 9 _,Uc 2 10 _] (.k (.k .z)) (.af (.k .z)) ⟨MX 2,mv,vq 9,trivial⟩ (.k (.k .z)) (.af (.vD .z)) (Jf (n0:=0) (λq=>pT (cZ t q)) (oX (λ_ _ h=>h)) (hagg:=λ_=>rfl)) λa w hI=>?_
  dsimp only[List.set]at hI
  refine bk ?_
  exact⟨(),hI.cv ⟨LD,vA,trivial⟩ ⟨gc,gc,gq 2,gq 3,trivial⟩⟩
 ·
  dsimp only[List.append,HAppend.hAppend,Append.append]at hI
  refine bk ?_
  refine ae ?_
  refine Cv ?_
  have hI:=Fz hI 0 rfl (by kernel_rfl)
  dsimp only[List.eraseIdx]at hI
  refine bO hI 2 [] [] [Uc 0 12 _,Uc 1 4 _] (.k .z) (.aU .z) ⟨ld,mv,trivial⟩ (.k .z) (.bp (.k .z)) λa w hI=>?_
  refine av ?_
  exact GG hoff hI 0 rfl cm
theorem vU (ht:t.size<=1000000) {M:Nat->Nat->Prop} {w:World} {u:Nat} (hM:cS M w) (kL:∀o,M u o) (hu:iy u 9 (.string t) w) (GQ:aJ M jd w):Calls Tryz.prog 33 #[pn u] w (xj M u (B3 t) w):=by
 have hG:aJ (λk o=>qi M u k o\/k=u) jd w:=GQ.sub λk o _ hk=>hk.elim (λh=>h.1) λh=>h▸kL o
 refine oZ (N:=5) Tryz.func33 rfl rfl hM kL hu λa hI=>?_
 refine bO hI 1 [] [] [Uc 0 2 _] (.k .z) (.k .z) ⟨mv,trivial⟩ (.k .z) (.kd .z) λa w hI=>?_
 refine ju hI 3 1 [] [] [Uc 0 3 _] (.k .z) (.k .z) ⟨mv,trivial⟩ (.k .z) (.dk .z) (⟨_,λa w h=>nr (n0:=0) (p:=B3 t) hG (λ_ _=>by kernel_rfl) h rfl (λβ M' hI hM kL hu hG=>by
  rw[show(#[.const (.slice none 0 0),.tmp 3]:Array Operand).map a.eval=#[.slice none 0 0,a.eval (.tmp 3)] by simp[Act.eval],uc hI (v:=pn u) rfl]
  exact rG ht hM kL hu hG) (by kernel_rfl) (by kernel_rfl) (by kernel_rfl) (by kernel_rfl) (by kernel_rfl) (by kernel_rfl) (by kernel_rfl),⟨_,bF [] [] [Uc 0 2 _] (.k .z) (.kk .z) (mv) (.k .z) (.eC .z),rfl⟩⟩) λa w hI=>?_
 refine av ?_
 exact GK (n0:=0) kL hI rfl cm rfl
end Wx

namespace Wx
open Go Go.RowKit Go.Proofs
set_option linter.unusedVariables false
def wv (R:Nat->Int) (n o:Nat):Pred:=λ_ v=>∃cs:List Value,v=.agg cs.toArray/\cs.length=n/\(∀u∈cs,Ez u)/\∀k,o<=k->k<n->cs[k]?=some (.int .u8 (R k))
theorem EZ (R:Nat->Int) (n o:Nat):aO (wv R n o):=λ_ _ _ _ h _ _=>h
def xo (R:Nat->Int) (o k:Nat):ByteArray:=⟨((List.range k).map λj=>UInt8.ofNat (R (o+j)).toNat).toArray⟩
section
variable {P:Program} {ops:Array Oper} {ms:List Nat} {c:bQ} {V:List Vr} {A:List Al} {G:List aN} {i d:Nat} {x y z:Operand} {ty t u:TypeId} {pos:String} {aft:Array Edge} {R:Nat->Int}{T:TypeId} {v:Vr}
theorem LJ (n:Nat) (hv:sN i V=some v:=by exact rfl) (hT:v.T=T:=by exact rfl) (bR:v.kd=.ptr:=by exact rfl) (hc:v.c0=pv (wv R n n):=by exact rfl) (hag:v.agg=true:=by exact rfl)
  (hz:∀w,(zeroValue T).run P w=.ok (.agg (List.replicate n (.int .u8 0)).toArray) w:=by exactλ_=>by kernel_rfl) (hl:(List.replicate n (Value.int .u8 0)).length=v.n:=by kernel_rfl) (hst:((v.st.all λq=>(ms.getD q.1 0).testBit i)&&V.all λy=>y.dead != some i)=true:=by kernel_rfl) (hno:(G.all λe=>e.tag != some i)=true:=by kernel_rfl) (hal:(A.all λp=>p.var != v.id||p.tag.any λj=>(ms.getD j 0).testBit i)=true:=by kernel_rfl):
  OpOk P ops ms c V A G i ⟨some d,.alloc T,ty,pos,aft,none⟩:=by
 obtain⟨⟨k,hk⟩,hb⟩:=eP hv
 refine iL k hk hb hst hno hal hT bR hz rfl hl (λu hu=>by rw[(List.mem_replicate.1 hu).2]; exact kQ 0) hc λw=>?_
 rw[hag]
 exact⟨_,rfl,List.length_replicate,λu hu=>⟨0,by omega,(List.mem_replicate.1 hu).2⟩,λk h1 h2=>by omega⟩
variable {b n o:Nat}
theorem stA {off q':Nat} {r:List (Nat×Rel)} (N:Nat) (hR:0<=R off/\R off<=255) (hv:ia N V=some v:=by exact rfl) (ho:bC ms i v=true:=by exact rfl) (bR:v.kd=.obj:=by exact rfl) (hst:(v.st.all λq=>(q.1==i||(ms.getD i 0).testBit q.1)||(ms.getD q.1 0).testBit i)=true:=by kernel_rfl)
  (hc:cont (λj=>(ms.getD i 0).testBit j) v.c0 v.st=jo b n (wv R n o):=by exact rfl) (h:Has ms G i y (aG (.pointer (some ⟨b,q',none⟩))):=by exact hs) (hz:Has ms G i z (sM (R off)):=by exact hs) (hlt:off<n:=by omega) (hm:Ci i v.st=some (jo b n (wv R n off),r):=by exact rfl) (ht:wQ P T false 1=true:=by kernel_rfl)
  (hr:(r.all λr=>(ms.getD r.1 0).testBit i)=true:=by kernel_rfl) (eE:(V.all λy=>y.id==v.id||y.st.all λq=>q.1 != i)=true:=by kernel_rfl) (Mx:o=off+1:=by omega) (vP:q'=off:=by omega):OpOk P ops ms c V A G i ⟨none,.store T y z,ty,pos,aft,none⟩:=by
 have vP:=vP.symm
 subst vP
 subst Mx
 obtain⟨⟨k',hk⟩,_⟩:=cH hv
 obtain⟨m,h5,h6⟩:=iV hm
 refine kR (m:=1) (ag:=false) k' hk ho bR hst m h5 (by rw[h6]; exact hr) eE hc h hlt (bV ht) hz (cg (kQ _) rfl rfl) (λw cs ds hl hl2 hq hp=>?_) (EZ R n off)
 obtain⟨cs',e,e2,e3,e4⟩:=hq
 have e:Value.agg cs.toArray=.agg cs'.toArray:=e
 have e:cs=cs':=by simpa using e
 subst e
 match ds,hl2,hp with
 |[u'],_,hp=>
  have dH:u'=.int .u8 (R off):=hp
  subst dH
  have yn:(cs.take off).length=off:=by rw[List.length_take]; omega
  refine⟨_,rfl,by rw[List.length_append,List.length_append,List.length_take,List.length_drop]; show min off cs.length+1+_=n; omega,λu hu=>?_,λk h1 h2=>?_⟩
  ·rcases List.mem_append.1 hu with hu|hu
   ·rcases List.mem_append.1 hu with hu|hu
    ·exact e3 u (List.mem_of_mem_take hu)
    ·rw[List.mem_singleton.1 hu]; exact⟨_,hR,rfl⟩
   ·exact e3 u (List.mem_of_mem_drop hu)
  ·have ov:(cs.take off++[Value.int .u8 (R off)]).length=off+1:=by rw[List.length_append,yn]; rfl
   by_cases hk:k=off
   ·subst hk
    rw[List.getElem?_append_left (by rw[ov]; omega),List.getElem?_append_right (by rw[yn]; exact Nat.le_refl _),yn,Nat.sub_self]
    rfl
   ·rw[List.getElem?_append_right (by rw[ov]; omega),ov,List.getElem?_drop]
    rw[show off+1+(k-(off+1))=k by omega]
    exact e4 k (by omega) h2
theorem MU {s:ByteArray} {m:Int} (h:Has ms G i x (pT s):=by exact hs) (hy:Has ms G i y (dn m):=by exact hs) (hm:0<=m/\m<s.size:=by omega) (ht:isStr P T=true:=by kernel_rfl) (hp:Post G i (sM (bz s m.toNat)):=by exact pt rfl):OpOk P ops ms c V A G i ⟨some d,.index T x y,ty,pos,aft,none⟩:=
 bD rfl rfl rfl (.inl rfl) hp λL β a w hI hd=>by
  have e1:a.eval x=.string s:=(h.spec hI hd).out
  have e2:a.eval y=.int .u64 m:=(hy.spec hI hd).out
  have hlt:m.toNat<s.size:=by omega
  refine⟨.int .u8 ((s[m.toNat]'hlt).toNat:Int),w,?_,Below.refl _ _,λ_ _=>?_⟩
  ·show(do pure (Next.value (<-Instr.index T (a.eval x) (a.eval y)))).run P w=_
   rw[e1,e2,Sem.run_bind,run_index_string w T s .u64 m (dX ht),dif_pos hm]
   rfl
  ·show Value.int .u8 _=_
   rw[cG hlt]
theorem LV {S D:TypeId} {cap k:Nat} (N:Nat) (hR:∀j,j<k->0<=R (o+j)/\R (o+j)<=255) (hv:ia N V=some v:=by exact rfl) (ho:bC ms i v=true:=by exact rfl) (bR:v.kd=.obj:=by exact rfl) (hst:(v.st.all λq=>(q.1==i||(ms.getD i 0).testBit q.1)||(ms.getD q.1 0).testBit i)=true:=by kernel_rfl)
  (hc:cont (λj=>(ms.getD i 0).testBit j) v.c0 v.st=jo b n (wv R n o):=by exact rfl) (h:Has ms G i x (aG (.slice (some ⟨b,o,none⟩) k cap)):=by exact hs) (hk:o+k<=n:=by omega) (ht:Gk P D S=true:=by kernel_rfl) (hp:Post G i (pT (xo R o k)):=by exact pt rfl):OpOk P ops ms c V A G i ⟨some d,.convert S D x,ty,pos,aft,none⟩:=
 bD rfl rfl rfl (.inl rfl) hp λL β a w hI hd=>by
  obtain⟨⟨kk,hkk⟩,_⟩:=cH hv
  obtain⟨_,cs,t,h1,h2,h3,h4⟩:=ql hI hd (List.mem_of_getElem? hkk) ho bR hst hc
  obtain⟨cs',e,e2,e3,e4⟩:=h4
  have e:Value.agg cs.toArray=.agg cs'.toArray:=e
  have e:cs=cs':=by simpa using e
  subst e
  have hx:a.eval x=.slice (some ⟨b,o,none⟩) k cap:=(h.spec hI hd).out
  obtain⟨k1,E,k2,k3⟩:=sP ht
  let bs:List UInt8:=(List.range k).map λj=>UInt8.ofNat (R (o+j)).toNat
  have hbl:bs.length=k:=by simp[bs]
  have rq:=Go.run_convert_bytes_back w S D E ⟨b,o,none⟩ cap bs k2 k3 k1 λj hj=>by
   have hj':j<k:=by omega
   have hr:=hR j hj'
   rw[Addr.add_mid]
   have eb:bs[j]=UInt8.ofNat (R (o+j)).toNat:=by simp[bs]
   rw[eb,UInt8.toNat_ofNat_of_lt' (by show(R (o+j)).toNat<256; omega),show(((R (o+j)).toNat:Nat):Int)=R (o+j) by omega]
   simp only[World.cell?,h1]
   simpa using e4 (o+j) (by omega) (by omega)
  rw[hbl]at rq
  refine⟨.string ⟨bs.toArray⟩,w,?_,Below.refl _ _,λ_ _=>rfl⟩
  show(do pure (Next.value (<-Go.convert S D (a.eval x)))).run P w=_
  rw[hx,Sem.run_bind,rq]
  rfl
end
def pH (m:Int):Int:=if m<10 then 48+m else 87+m
theorem A0 {m:Int} (h:0<=m/\m<16):0<=pH m/\pH m<=255:=by
 unfold pH
 split<;>omega
def nL (n:Int) (k:Nat):Int:=pH (n/16^k%16)
theorem jP (n:Int) (k:Nat):0<=nL n k/\nL n k<=255:=A0 ⟨Int.emod_nonneg _ (by decide),Int.emod_lt_of_pos _ (by decide)⟩
def gR (n:Int) (k:Nat):ByteArray:=⟨((List.range k).map λj=>UInt8.ofNat (nL n (k-1-j)).toNat).toArray⟩
theorem cY (n:Int) (k:Nat):(gR n k).size=k:=by
 show((List.range k).map _).toArray.size=k
 simp
variable {k j:Nat}
theorem uH {f:Nat->Int} (hj:j<k) (hf:0<=f j/\f j<=255):bz ⟨((List.range k).map λj=>UInt8.ofNat (f j).toNat).toArray⟩ j=f j:=by
 unfold bz
 rw[List.getD_eq_getElem?_getD]
 have e:((List.range k).map λj=>UInt8.ofNat (f j).toNat)[j]?=some (UInt8.ofNat (f j).toNat):=by simp[hj]
 show(((((List.range k).map λj=>UInt8.ofNat (f j).toNat)[j]?).getD 0).toNat:Int)=f j
 rw[e]
 show((UInt8.ofNat (f j).toNat).toNat:Int)=f j
 rw[UInt8.toNat_ofNat_of_lt' (by show(f j).toNat<256; omega)]
 omega
variable {n:Int}
theorem jQ (hj:j<k):bz (gR n k) j=nL n (k-1-j):=uH (f:=λj=>nL n (k-1-j)) hj (jP _ _)
abbrev kM (n:Int) (k:Nat):Int:=nL n (64-k)
theorem AB {o:Nat} (h:o<=65):xo (kM n) o (65-o)=gR n (65-o):=by
 have hs:(xo (kM n) o (65-o)).size=65-o:=by
  show((List.range (65-o)).map _).toArray.size=_
  simp
 refine dN (by rw[hs,cY]) λj hj=>?_
 rw[hs]at hj
 rw[jQ hj]
 have:=uH (f:=λj=>kM n (o+j)) hj (jP _ _)
 refine(show bz (xo (kM n) o (65-o)) j=_ from this).trans ?_
 show nL n (64-(o+j))=_
 congr 1
 omega
theorem vL (h0:0<=n) (h:n<16^k) {j:Nat} (hj:k<=j):nL n j=48:=by
 have h1:(16:Int)^k<=16^j:=by
  have:=Nat.pow_le_pow_right (n:=16) (by decide) hj
  have e:∀j:Nat,((16:Int)^j)=((16^j:Nat):Int):=λj=>by rw[Int.natCast_pow]; rfl
  rw[e,e]
  exact Int.ofNat_le.2 this
 unfold nL
 rw[Int.ediv_eq_zero_of_lt h0 (by omega)]
 rfl
theorem xX (h0:0<=n) (h:n<16^k) (hk:k<=8) {z:ByteArray} (hz:z.size=8-k) (hz2:∀j,j<z.size->bz z j=48):z++gR n k=gR n 8:=by
 refine dN (by rw[ByteArray.size_append,hz,cY,cY]; omega) λj hj=>?_
 rw[ByteArray.size_append,hz,cY]at hj
 rw[uk,jQ (n:=n) (k:=8) (j:=j) (by omega)]
 by_cases JP:j<z.size
 ·rw[if_pos JP,hz2 j JP]
  exact(vL h0 h (by omega)).symm
 ·rw[if_neg JP,jQ (by omega)]
  congr 1
  omega
end Wx
