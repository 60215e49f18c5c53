import Derived.Laws.Concat
import Derived.Test.YtfnmkhlleanppaaGreatDoorJWF34
import Derived.Test.YtfnmkhlleanppaaGreatDoorJWF35
namespace Wx
open Go Go.RowKit Go.Proofs
set_option linter.unusedVariables false
def ru (k:Nat):Pred:=λ_ v=>∃s:ByteArray,v=.string s/\s.size<=k
def AR:Pred:=λ_ v=>∃m:Int,(0<=m/\m<4294967296)/\v=.int .u32 m
theorem yG (k:Nat):cw (ru k):=λ_ _ _ _ h _ _=>h
theorem yH:cw AR:=λ_ _ _ _ h _ _=>h
theorem wA (k:Nat):Fits 1 false (ru k):=by
 rintro w v ⟨s,rfl,_⟩
 exact aT s w _ rfl
theorem wC:Fits 1 false AR:=by
 rintro w v ⟨m,_,rfl⟩
 exact aZ (λ_=>⟨(by simp),by simp⟩) rfl rfl w _ rfl
structure HL where
 hb:Nat
 bb:Nat
 bc:Nat
 cb:Nat
 cc:Nat
 m:Value
def eU (b n c:Nat):Value:=if n=0 then .slice none 0 0 else .slice (some ⟨b,0,none⟩) n c
def tf (q:Nat) (l:HL) (nb nc:Nat):List It:=[wV (.slice none 0 0),wV l.m,wV (eU l.bb nb l.bc),wV (.slice none 0 0),wV (eU l.cb nc l.cc),⟨ru q,yG _⟩,⟨AR,yH⟩]
abbrev bI (b:Nat) (its:List It):Bk:=⟨b,1,false,its⟩
def gL (x:fW):List Value:=[.string x.1,.int .i64 x.2.1,.bool x.2.2]
def lg (b n:Nat) (vs:List Value) (p:Nat):List Bk:=if n=0 then[]else[fB b vs p]
def Ew (l:HL) (bs:List fW) (cs:List ByteArray):List Bk:=lg l.bb bs.length (bs.flatMap gL) (l.bc*3)++lg l.cb cs.length (cs.map Value.string) (l.cc*1)
def aY (q:Nat) (l:HL) (bs:List fW) (cs:List ByteArray):List Bk:=bI l.hb (tf q l bs.length cs.length)::Ew l bs cs
abbrev kW (H:List Bk):Prop:=H.Pairwise λx y=>x.b≠y.b
structure fC (l:HL) (bs:List fW) (cs:List ByteArray):Prop where
 b1:bs.length<=l.bc
 b2:l.bc<=maxLen
 c1:cs.length<=l.cc
 c2:l.cc<=maxLen
theorem cr (q:Nat) (l:HL) (bs:List fW) (cs:List ByteArray):bI l.hb (tf q l bs.length cs.length)∈aY q l bs cs:=List.mem_cons_self
variable {b n:Nat} {e:Bk}
theorem aF {p:Nat} {vs:List Value}:e∈lg b n vs p↔n≠0/\e=fB b vs p:=by
 unfold lg
 split
 ·rename_i h; simp[h]
 ·rename_i h; simp[h]
variable {q:Nat} {l:HL} {bs:List fW} {cs:List ByteArray}
theorem eu (h:bs.length≠0):fB l.bb (bs.flatMap gL) (l.bc*3)∈aY q l bs cs:=List.mem_cons_of_mem _ (List.mem_append_left _ (aF.2 ⟨h,rfl⟩))
theorem iG (h:cs.length≠0):fB l.cb (cs.map Value.string) (l.cc*1)∈aY q l bs cs:=List.mem_cons_of_mem _ (List.mem_append_right _ (aF.2 ⟨h,rfl⟩))
variable {i:Nat} {its:List It} {rest:List Bk} {it:It}
theorem wL (hp:kW (bI b its::rest)):dB (bI b its::rest) b i it=bI b (its.set i it)::rest:=by
 unfold dB
 rw[List.map_cons]
 congr 1
 ·exact if_pos rfl
 ·conv=>rhs; rw[<-List.map_id rest]
  refine List.map_congr_left λe he=>?_
  exact if_neg λh=>(List.pairwise_cons.1 hp).1 e he h.symm
variable {H:List Bk}
theorem qU (h:kW (dB H b i it)):kW H:=by
 unfold kW dB at h
 rw[List.pairwise_map]at h
 exact h.imp λ{x y} hne=>by rw[x.mb,y.mb]at hne; exact hne
theorem vv (h:kW (dB (bI b its::rest) b i it)):(∀e,e∈bI b (its.set i it)::rest->e∈dB (bI b its::rest) b i it)/\kW (bI b (its.set i it)::rest):=by
 have e:=wL (i:=i) (it:=it) (qU h)
 exact⟨λx hx=>by rw[e]; exact hx,by rw[<-e]; exact h⟩
variable {c:Nat}
theorem ug (h:n≠0):eU b n c=.slice (some ⟨b,0,none⟩) n c:=if_neg h
variable {N:Nat}
theorem oa {x:Nat} {A:List Bk} {y:Nat} (h:gK A (eU b n c) N (x,y)):(n≠0/\x=b)\/∀e,e∈A->e.b≠x:=by
 obtain⟨_,_,⟨n',c',e⟩|h3⟩:=h
 ·refine .inl ?_
  unfold eU at e
  split at e
  ·cases e
  ·rename_i h0
   injection e with e
   injection e with e
   injection e with e
   exact⟨h0,e.symm⟩
 ·exact .inr h3
variable {z:Nat×Nat}
theorem mE (hp:kW (aY q l bs cs)):(gK (aY q l bs cs) (eU l.cb cs.length l.cc) N z->l.hb≠z.1/\(bs.length≠0->l.bb≠z.1))/\(gK (aY q l bs cs) (eU l.bb bs.length l.bc) N z->l.hb≠z.1/\(cs.length≠0->l.cb≠z.1)):=by
 have h0:=List.pairwise_cons.1 hp
 have h1:=List.pairwise_append.1 h0.2
 refine⟨λh=>?_,λh=>?_⟩
 ·rcases oa h with⟨hc,e⟩|h2
  ·rw[e]
   exact⟨h0.1 _ (List.mem_append_right _ (aF.2 ⟨hc,rfl⟩)),λhb=>h1.2.2 _ (aF.2 ⟨hb,rfl⟩) _ (aF.2 ⟨hc,rfl⟩)⟩
  ·exact⟨h2 _ (cr q l bs cs),λhb=>h2 _ (eu hb)⟩
 ·rcases oa h with⟨hc,e⟩|h2
  ·rw[e]
   exact⟨h0.1 _ (List.mem_append_left _ (aF.2 ⟨hc,rfl⟩)),λhb=>(h1.2.2 _ (aF.2 ⟨hc,rfl⟩) _ (aF.2 ⟨hb,rfl⟩)).symm⟩
  ·exact⟨h2 _ (cr q l bs cs),λhb=>h2 _ (iG hb)⟩
theorem mD (h:l.hb≠b):bI l.hb (tf q l bs.length cs.length)∈ij (aY q l bs cs) b its:=fF (cr q l bs cs) h
def HL.jA (l:HL) (z:Nat×Nat):HL:={ l with cb:=z.1,cc:=z.2 }
def HL.nF (l:HL) (z:Nat×Nat):HL:={ l with bb:=z.1,bc:=z.2 }
theorem jj (h:e.b≠b):e.put b i it=e:=if_neg h
theorem xF {s:ByteArray} (hp:kW (aY q l bs cs)) (h:gK (aY q l bs cs) (eU l.cb cs.length l.cc) (cs.length+1) z):
  (∀e,e∈aY q (l.jA z) bs (cs++[s])->e∈dB (ij (aY q l bs cs) z.1 (dH (cs.map Value.string++[.string s]) (z.2*1))) l.hb 4 ⟨aL (.slice (some ⟨z.1,0,none⟩) (cs.length+1) z.2),br _⟩)/\kW (aY q (l.jA z) bs (cs++[s])):=by
 obtain⟨n1,n2⟩:=(mE hp).1 h
 have h0:=List.pairwise_cons.1 hp
 refine⟨λe he=>?_,?_⟩
 ·unfold dB
  rcases List.mem_cons.1 he with rfl|he
  ·refine List.mem_map.2 ⟨bI l.hb (tf q l bs.length cs.length),mD n1,?_⟩
   show Bk.put _ l.hb 4 _=_
   rw[show(bI l.hb (tf q l bs.length cs.length)).put l.hb 4 ⟨aL (.slice (some ⟨z.1,0,none⟩) (cs.length+1) z.2),br _⟩=bI l.hb ((tf q l bs.length cs.length).set 4 ⟨aL (.slice (some ⟨z.1,0,none⟩) (cs.length+1) z.2),br _⟩)from if_pos rfl]
   show _=bI l.hb (tf q (l.jA z) bs.length (cs++[s]).length)
   rw[List.length_append]
   rfl
  ·rcases List.mem_append.1 he with he|he
   ·obtain⟨hb,rfl⟩:=aF.1 he
    exact List.mem_map.2 ⟨_,fF (eu hb) (n2 hb),jj (h0.1 _ (List.mem_append_left _ (aF.2 ⟨hb,rfl⟩))).symm⟩
   ·obtain⟨_,rfl⟩:=aF.1 he
    refine List.mem_map.2 ⟨_,ik,?_⟩
    rw[jj (λe=>n1 e.symm)]
    show _=fB z.1 _ _
    rw[List.map_append]
    rfl
 ·refine List.pairwise_cons.2 ⟨λe he=>?_,List.pairwise_append.2 ⟨?_,?_,λx hx y hy=>?_⟩⟩
  ·rcases List.mem_append.1 he with he|he
   ·obtain⟨hb,rfl⟩:=aF.1 he
    exact h0.1 _ (List.mem_append_left _ (aF.2 ⟨hb,rfl⟩))
   ·obtain⟨_,rfl⟩:=aF.1 he
    exact n1
  ·unfold lg; split<;>simp
  ·unfold lg; split<;>simp
  ·obtain⟨hb,rfl⟩:=aF.1 hx
   obtain⟨_,rfl⟩:=aF.1 hy
   exact n2 hb
theorem xE {s:fW} (hp:kW (aY q l bs cs)) (h:gK (aY q l bs cs) (eU l.bb bs.length l.bc) (bs.length+1) z):
  (∀e,e∈aY q (l.nF z) (bs++[s]) cs->e∈dB (ij (aY q l bs cs) z.1 (dH (bs.flatMap gL++gL s) (z.2*3))) l.hb 2 ⟨aL (.slice (some ⟨z.1,0,none⟩) (bs.length+1) z.2),br _⟩)/\kW (aY q (l.nF z) (bs++[s]) cs):=by
 obtain⟨n1,n2⟩:=(mE hp).2 h
 have h0:=List.pairwise_cons.1 hp
 refine⟨λe he=>?_,?_⟩
 ·unfold dB
  rcases List.mem_cons.1 he with rfl|he
  ·refine List.mem_map.2 ⟨bI l.hb (tf q l bs.length cs.length),mD n1,?_⟩
   show Bk.put _ l.hb 2 _=_
   rw[show(bI l.hb (tf q l bs.length cs.length)).put l.hb 2 ⟨aL (.slice (some ⟨z.1,0,none⟩) (bs.length+1) z.2),br _⟩=bI l.hb ((tf q l bs.length cs.length).set 2 ⟨aL (.slice (some ⟨z.1,0,none⟩) (bs.length+1) z.2),br _⟩)from if_pos rfl]
   show _=bI l.hb (tf q (l.nF z) (bs++[s]).length cs.length)
   rw[List.length_append]
   rfl
  ·rcases List.mem_append.1 he with he|he
   ·obtain⟨_,rfl⟩:=aF.1 he
    refine List.mem_map.2 ⟨_,ik,?_⟩
    rw[jj (λe=>n1 e.symm)]
    show _=fB z.1 _ _
    rw[List.flatMap_append,List.flatMap_singleton]
    rfl
   ·obtain⟨hb,rfl⟩:=aF.1 he
    exact List.mem_map.2 ⟨_,fF (iG hb) (n2 hb),jj (h0.1 _ (List.mem_append_right _ (aF.2 ⟨hb,rfl⟩))).symm⟩
 ·refine List.pairwise_cons.2 ⟨λe he=>?_,List.pairwise_append.2 ⟨?_,?_,λx hx y hy=>?_⟩⟩
  ·rcases List.mem_append.1 he with he|he
   ·obtain⟨_,rfl⟩:=aF.1 he
    exact n1
   ·obtain⟨hb,rfl⟩:=aF.1 he
    exact h0.1 _ (List.mem_append_right _ (aF.2 ⟨hb,rfl⟩))
  ·unfold lg; split<;>simp
  ·unfold lg; split<;>simp
  ·obtain⟨_,rfl⟩:=aF.1 hx
   obtain⟨hb,rfl⟩:=aF.1 hy
   exact(n2 hb).symm
theorem bR.sub {B:Nat->Prop} {w:World} {H':List Bk} (h:bR B w H) (hm:∀e,e∈H'->e∈H) (hp:H'.Pairwise λx y=>x.b≠y.b):bR (λk=>∃e,e∈H'/\e.b=k) w H'/\∀k,(∃e,e∈H'/\e.b=k)->B k:=
 ⟨⟨λ_=>Iff.rfl,hp,λe he=>h.2.2 e (hm e he)⟩,λk ⟨e,he,hb⟩=>(h.1 k).2 ⟨e,hm e he,hb⟩⟩
section
variable {P:Program} {ops:Array Oper} {ms:List Nat} {c:bO} {V:List Vr} {A:List Al} {G:List aK} {i d:Nat} {x y z:Operand} {ty:TypeId} {pos:String} {ax:Array Edge} {a:Act} {w:World} {fn:Func}{id s:Nat} {H:List Bk}
theorem CT {H':List Bk} (n0:Nat) (h:Inv c V [] G none_ a w) (hk:V[n0]?=some (aQ id s H)) (e:H.Pairwise (λx y=>x.b≠y.b)->(∀e,e∈H'->e∈H)/\H'.Pairwise λx y=>x.b≠y.b) (hV:eX V=true:=by kernel_rfl) (hG:fQ G=true:=by kernel_rfl) (hu:mj V id n0=true:=by kernel_rfl):Inv c (V.set n0 (aQ id s H')) [] G none_ a w:=by
 obtain⟨β,hI⟩:=h
 obtain⟨hH,_,_⟩:=hI.obj hk
 obtain⟨e1,e2⟩:=e hH.2.1
 obtain⟨k1,k2⟩:=hH.sub e1 e2
 have hx:=List.mem_of_getElem? hk
 have FR:=((aR rfl).1 (hI.var _ hx rfl)).2
 exact⟨_,hI.move (R:=rq H) (R':=rq H') hV hG hk (λy n hn hy=>oV hu y n hn hy) (cY.refl _ _) (λk hk=>.inl (k2 k hk)) (λk hk=>hH.mY (k2 k hk)) (FR.imp λw h=>(bR.sub h e1 e2).1)⟩
variable {T:TypeId} {v:Vr} {b off:Nat} {its:List It} {p:Pred} {nl:cw p}
theorem lH (N idx:Nat) (he:bI b its∈H) (hi:its[idx]?=some ⟨p,nl⟩:=by exact rfl) (hv:pz N V=some v:=by exact rfl) (ho:bS ms i v=true:=by exact rfl) (cn:v.kd=.obj:=by exact rfl) (hst:(v.st.all λq=>(q.1==i||(ms.getD i 0).testBit q.1)||(ms.getD q.1 0).testBit i)=true:=by kernel_rfl)
  (hc:cont (λj=>(ms.getD i 0).testBit j) v.c0 v.st=rq H:=by exact rfl) (h:Has ms G i y (aL (.pointer (some ⟨b,off,none⟩))):=by exact hs) (hp:Post G i p:=by exact pt rfl) (hoff:off=idx:=by omega) (ht:Bc P T false 1=true:=by kernel_rfl):OpOk P ops ms c V A G i ⟨some d,.load T y,ty,pos,ax,none⟩:=by
 obtain⟨⟨k,hk⟩,_⟩:=ei hv
 exact uU (it:=⟨p,nl⟩) (idx:=idx) k hk ho cn hst hc h he rfl hi (by show off=idx*1; omega) (cP ht) hp
variable {q:Pred}
theorem sH {r:List (Nat×Rel)} (N idx:Nat) (he:bI b its∈H) (hf:Fits 1 false p) (hz:Has ms G i z q) (cz:∀w v,q w v->p w v) (hi:idx<its.length:=by exact of_decide_eq_true rfl) (hv:pz N V=some v:=by exact rfl) (ho:bS ms i v=true:=by exact rfl) (cn:v.kd=.obj:=by exact rfl) (hst:(v.st.all λq=>(q.1==i||(ms.getD i 0).testBit q.1)||(ms.getD q.1 0).testBit i)=true:=by kernel_rfl)
  (hc:cont (λj=>(ms.getD i 0).testBit j) v.c0 v.st=rq H:=by exact rfl) (h:Has ms G i y (aL (.pointer (some ⟨b,off,none⟩))):=by exact hs) (hm:A9 i v.st=some (rq (dB H b idx ⟨p,nl⟩),r):=by exact rfl) (hoff:off=idx:=by omega) (ht:Bc P T false 1=true:=by kernel_rfl)
  (hr:(r.all λr=>(ms.getD r.1 0).testBit i)=true:=by kernel_rfl) (dU:(V.all λy=>y.id==v.id||y.st.all λq=>q.1 != i)=true:=by kernel_rfl):OpOk P ops ms c V A G i ⟨none,.store T y z,ty,pos,ax,none⟩:=by
 obtain⟨⟨k',hk⟩,_⟩:=ei hv
 obtain⟨m,h5,h6⟩:=jO hm
 exact sE (e:=bI b its) (it:=⟨p,nl⟩) k' hk ho cn hst m h5 (by rw[h6]; exact hr) dU hc h he rfl hi (by show off=idx*1; omega) (cP ht) (hz.imp cz) hf
variable {f:FuncId} {ts:Array TypeId} {p0 p1 p2 q2:Pred}
theorem ES (N:Nat) (eR:K2 P f p1 p2 p) (hr:∀B w u,bR B w H->p0 w u->p1 w u) (hn:cw p) (hv:pz N V=some v:=by exact rfl) (ho:bS ms i v=true:=by exact rfl) (cn:v.kd=.obj:=by exact rfl) (hst:(v.st.all λq=>(q.1==i||(ms.getD i 0).testBit q.1)||(ms.getD q.1 0).testBit i)=true:=by kernel_rfl)
  (hc:cont (λj=>(ms.getD i 0).testBit j) v.c0 v.st=rq H:=by exact rfl) (h1:Has ms G i x p0:=by exact hs) (h2:Has ms G i y q2:=by exact hs) (c2:∀w v,q2 w v->p2 w v:=by exact ic) (hp:Post G i p:=by exact pt rfl) (hf:aC P f:=by exactλ_ _=>by kernel_rfl):
  OpOk P ops ms c V A G i ⟨some d,.call ⟨.value (.func f),#[x,y],ts⟩,ty,pos,ax,none⟩:=by
 obtain⟨⟨k,hk⟩,_⟩:=ei hv
 refine eJ hf hp λL β a w hI hd=>(by
  rw[show(#[x,y]:Array Operand).map a.eval=#[a.eval x,a.eval y] by simp]
  have hO:=jh hI hd (List.mem_of_getElem? hk) ho cn
  have hH:bR (β v.id) w H:=by
   have:=hO.2.out
   rw[fc hd hst,hc]at this
   exact this
  let M:=minus (own c V L β) (β v.id)
  have hM:da M w:=λk o hk=>aM hI k o hk.1
  have hsub:∀{w'},Ext M w w'->Ext (own c V L β) w w':=λhe=>he.mono' λk o hk=>hk.1
  refine(eR M w _ _ hM (λw' he=>?_) (λw' he=>(h2.imp c2).spec hI hd w' (hsub he))).mono λe w' zZ=>?_
  ·exact hr (β v.id) w' _ (hH.keep (aM hI) (hsub he) λe hm=>he.block e.b (Bk.gP (hH.2.2 e hm)) λo ho=>ho.2 ((hH.1 _).2 ⟨e,hm,rfl⟩)) (h1.spec hI hd w' (hsub he))
  ·obtain⟨v,rfl,dc,hv2⟩:=zZ
   exact⟨v,rfl,hn _ w' v ((aM hI).below hv2) dc.out,hv2⟩)
variable {t u:TypeId} {A':Option Addr}
theorem rN (r:Bool) (h:Has ms G i x (aL (.pointer A')):=by exact hs) (h2:Has ms G i y (aL (.pointer none)):=by exact hs) (hr:∀w,(do eqGuard .eql t x y (.pointer A') (.pointer none); Go.binOp .eql t (.pointer A') (.pointer none):Sem Value).run P w=.ok (.bool r) w:=by exactλ_=>by kernel_rfl) (hp:Post G i (pB r):=by exact pt rfl):OpOk P ops ms c V A G i ⟨some d,.binOp .eql t x y u,ty,pos,ax,none⟩:=
 eK rfl rfl rfl rfl h h2 hp λρ w h h2=>⟨.bool r,by
  have h:ρ x=.pointer A':=h
  have h2:ρ y=.pointer none:=h2
  show(do pure (Next.value (<-(do eqGuard .eql t x y (ρ x) (ρ y); Go.binOp .eql t (ρ x) (ρ y))))).run P w=_
  rw[h,h2,Sem.run_bind,hr]
  rfl,λ_ _ _=>rfl⟩
theorem Dv (r:Bool) (h:Has ms G i x (aL (.pointer A')):=by exact hs) (h2:Has ms G i y (aL (.pointer none)):=by exact hs) (hr:∀w,(do eqGuard .neq t x y (.pointer A') (.pointer none); Go.binOp .neq t (.pointer A') (.pointer none):Sem Value).run P w=.ok (.bool r) w:=by exactλ_=>by kernel_rfl) (hp:Post G i (pB r):=by exact pt rfl):OpOk P ops ms c V A G i ⟨some d,.binOp .neq t x y u,ty,pos,ax,none⟩:=
 eK rfl rfl rfl rfl h h2 hp λρ w h h2=>⟨.bool r,by
  have h:ρ x=.pointer A':=h
  have h2:ρ y=.pointer none:=h2
  show(do pure (Next.value (<-(do eqGuard .neq t x y (ρ x) (ρ y); Go.binOp .neq t (ρ x) (ρ y))))).run P w=_
  rw[h,h2,Sem.run_bind,hr]
  rfl,λ_ _ _=>rfl⟩
variable {k:Nat}
theorem mg {s:ByteArray} (h:s.size<=k):∀w v,pT s w v->ru k w v:=λ_ _ e=>⟨s,e,h⟩
theorem zc {j:Nat} (h:j<=k):∀w v,ru j w v->ru k w v:=λ_ _ ⟨s,e,h'⟩=>⟨s,e,Nat.le_trans h' h⟩
theorem zn (j k:Nat) (h1:Has ms G i x p) (c1:∀w v,p w v->ru j w v) (h2:Has ms G i y q) (c2:∀w v,q w v->ru k w v) (hz:j+k<=1000000:=by omega) (hp:Post G i (ru (j+k)):=by exact pt rfl):OpOk P ops ms c V A G i ⟨some d,.binOp .add t x y u,ty,pos,ax,none⟩:=
 bz rfl rfl rfl (.inl rfl) hp λL β a w hI hd=>by
  obtain⟨s,e1,k1⟩:=c1 _ _ (h1.spec hI hd).out
  obtain⟨r,e2,k2⟩:=c2 _ _ (h2.spec hI hd).out
  refine⟨.string (s++r),w,?_,Below.refl _ _,λ_ _=>⟨_,rfl,by rw[ByteArray.size_append]; omega⟩⟩
  show(do pure (Next.value (<-(do eqGuard .add t x y (a.eval x) (a.eval y); Go.binOp .add t (a.eval x) (a.eval y))))).run P w=_
  rw[e1,e2]
  have hgd:eqGuard .add t x y (.string s) (.string r)=pure ():=by unfold eqGuard; rfl
  have hb:Go.binOp .add t (.string s) (.string r)=Op.stringOp .add s r:=rfl
  rw[hgd,hb,pure_bind,Sem.run_bind,run_string_add_sum w s r (by omega)]
  rfl
theorem CI {α:Type} {φ:α->Prop} {f:α->Value} (n0:Nat) (h:Inv c V [] G none_ a w) (hk:G[n0]?=some ⟨none,none,s,λ_ v=>∃z,φ z/\v=f z⟩):∃z,φ z/\Inv c V [] (⟨none,none,s,aL (f z)⟩::G) none_ a w:=by
 obtain⟨β,hI⟩:=h
 obtain⟨z,h1,h2⟩:=(hI.gm _ (List.mem_of_getElem? hk) rfl rfl).out
 refine⟨z,h1,β,hI.oW λe he ho hf=>?_⟩
 rcases List.mem_cons.1 he with rfl|he
 ·exactλ_ _=>h2
 ·exact hI.gm e he ho hf
def ig {Λ:Type} (B:Nat->Prop) (C:Λ->Prop) (E:Λ->Ending) (H:Λ->List Bk) (w:World) (e:Ending) (w':World):Prop:=∃(l:Λ) (B':Nat->Prop),C l/\e=E l/\cY B w w'/\(∀k,B' k->B k\/w.heap.size<=k)/\bR B' w' (H l)
abbrev L1 {Λ:Type} (P:Program) (f:FuncId) (H0:List Bk) (p0:Pred) (C:Λ->Prop) (E:Λ->Ending) (H:Λ->List Bk):Prop:=∀(M:Nat->Nat->Prop) (B:Nat->Prop) (w:World) (v0:Value),da M w->(∀k,B k->∀o,¬M k o)->bR B w H0->aN (plus M B) jz w->aN (plus M B) (λw=>p0 w v0) w->Calls P f #[v0] w (ig B C E H w)
abbrev L2 {Λ:Type} (P:Program) (f:FuncId) (H0:List Bk) (p0 p1:Pred) (C:Λ->Prop) (E:Λ->Ending) (H:Λ->List Bk):Prop:=∀(M:Nat->Nat->Prop) (B:Nat->Prop) (w:World) (v0 v1:Value),da M w->(∀k,B k->∀o,¬M k o)->bR B w H0->aN (plus M B) jz w->aN (plus M B) (λw=>p0 w v0) w->aN (plus M B) (λw=>p1 w v1) w->Calls P f #[v0,v1] w (ig B C E H w)
variable {Λ:Type} {C:Λ->Prop} {E:Λ->Ending} {M:Nat->Nat->Prop} {B:Nat->Prop} {N:Nat}
theorem qw {H:Λ->List Bk} {D:Code} {v0 v1:Value} {H0:List Bk} (hf:P.funcs[f]?=some fn) (hb:fn.body=some D) (hN:fn.ntmps=N) (hlen:decide ([v0,v1].length<=N)=true) (hM:da M w) (jc:∀k,B k->∀o,¬M k o) (hH:bR B w H0)
  (h0:aN (plus M B) (λw=>p0 w v0) w) (h1:aN (plus M B) (λw=>p1 w v1) w) (h:∀a,Inv ⟨N,w,M,B⟩ [aQ N N H0] [] [Uz 0 p0,Uz 1 p1] none_ a w->D.ww none [] P (bodyPost P fn (ig B C E H w)) a w):Calls P f #[v0,v1] w (ig B C E H w):=
 rP (G:=[Uz 0 p0,Uz 1 p1]) hf hb hN hlen hM jc hH (show dV (plus M B) w [v0,v1] [Uz 0 p0,Uz 1 p1]from⟨⟨rfl,_,rfl,h0⟩,⟨rfl,_,rfl,h1⟩,trivial⟩) h
variable {Hl:Λ->List Bk} {n0:Nat} {w0:World}
theorem tO {v:Value} {β:Nat->Nat->Prop} (l:Λ) (hC:C l) (hI:aS ⟨N,w0,M,B⟩ V [] G none_ β a w) (hk:V[n0]?=some (aQ id s (Hl l))) (hr:(results fn a.tmps).run P w=.ok v w) (hE:E l=.returned v):bodyPost P fn (ig B C E Hl w0) .ret a w:=by
 obtain⟨h1,h2,_⟩:=hI.obj hk
 exact iz hI (v:=v) hr ⟨l,β id,hC,hE.symm,hI.below,λk hk'=>(h2 k hk').symm,h1⟩
theorem tP (l:Λ) (hC:C l) (hI:Inv ⟨N,w0,M,B⟩ V [] G none_ a w) (hk:V[n0]?=some (aQ id s (Hl l))) (hr:fn.results=#[]) (hE:E l=.returned (.tuple #[])):bodyPost P fn (ig B C E Hl w0) .ret a w:=by
 obtain⟨β,hI⟩:=hI
 exact tO l hC hI hk (results_none hr _ _ _) hE
variable {r:ResultVar}
theorem B3 {v:Value} (l:Λ) (hC:C l) (hI:Inv ⟨N,w0,M,B⟩ V [] G none_ a w) (hk:V[n0]?=some (aQ id s (Hl l))) (hr:fn.results=#[r]) (h:cy P V G r (aL v)) (hE:E l=.returned v):bodyPost P fn (ig B C E Hl w0) .ret a w:=by
 obtain⟨β,hI⟩:=hI
 obtain⟨v',k1,k2⟩:=h.run hI
 have e:v'=v:=k2.out
 subst e
 refine tO l hC hI hk ?_ hE
 rw[cG,hr]
 simp[k1]
theorem yl {r':ResultVar} {v v':Value} (l:Λ) (hC:C l) (hI:Inv ⟨N,w0,M,B⟩ V [] G none_ a w) (hk:V[n0]?=some (aQ id s (Hl l))) (hr:fn.results=#[r,r']) (h:cy P V G r (aL v)) (h':cy P V G r' (aL v')) (hE:E l=.returned (.tuple #[v,v'])):bodyPost P fn (ig B C E Hl w0) .ret a w:=by
 obtain⟨β,hI⟩:=hI
 obtain⟨u,k1,k2⟩:=h.run hI
 obtain⟨u',j1,j2⟩:=h'.run hI
 have e:u=v:=k2.out
 have e':u'=v':=j2.out
 subst e e'
 refine tO l hC hI hk ?_ hE
 rw[cG,hr]
 simp[k1,j1,Sem.run_bind]
variable {hd:Λ->Value}
theorem qx {args:Array Operand} {ops:Array Oper} (hf:aC P f) (h:Inv c V [] G none_ a w) (hk:V[n0]?=some (aQ id s H))
  (hc:∀β,aS c V [] G none_ β a w->Calls P f (args.map a.eval) w (ig (β id) C (λl=>.returned (hd l)) Hl w)) (hd':decide (d<c.N)=true)
  (hV:(V.all λy=>(y.slot != d)&&(y.born.isNone&&y.dead.isNone))=true) (hu:(V.filter λy=>y.id==id).length=1) (hG:(G.all λe=>e.slot != d)=true):
  aU P ops ⟨some d,.call ⟨.value (.func f),args,ts⟩,ty,pos,ax,none⟩ a w (λa w=>∃l,C l/\Inv c (V.set n0 (aQ id s (Hl l))) [] (⟨none,none,d,aL (hd l)⟩::G) none_ a w):=by
 obtain⟨β,hI⟩:=h
 refine .of rfl (ja hf ((hc β hI).mono ?_))
 rintro e w' ⟨l,B',k1,rfl,k2,k3,k4⟩
 exact⟨_,rfl,l,k1,hI.mW hk k2 k3 k4 (of_decide_eq_true hd') hV hu hG⟩
theorem DB {q1:Pred} {ops:Array Oper} (n0:Nat) (jB:aN (λk o=>c.M0 k o\/c.de k) jz c.w0) (eR:L2 P f H p1 p2 C (λl=>.returned (hd l)) Hl) (h1:Has [0] G 0 x q1:=by exact hs) (c1:∀w v,q1 w v->p1 w v:=by exact ic) (h2:Has [0] G 0 y q2:=by exact hs) (c2:∀w v,q2 w v->p2 w v:=by exact ic)
  (hk:V[n0]?=some (aQ id s H):=by exact rfl) (hf:aC P f:=by exactλ_ _=>by kernel_rfl) (hd':decide (d<c.N)=true:=by kernel_rfl)
  (hV:(V.all λy=>(y.slot != d)&&(y.born.isNone&&y.dead.isNone))=true:=by kernel_rfl) (hu:(V.filter λy=>y.id==id).length=1:=by kernel_rfl) (hG:(G.all λe=>e.slot != d)=true:=by kernel_rfl):∀a w,Inv c V [] G none_ a w ->
  aU P ops ⟨some d,.call ⟨.value (.func f),#[x,y],ts⟩,ty,pos,ax,none⟩ a w (λa w=>∃l,C l/\Inv c (V.set n0 (aQ id s (Hl l))) [] (⟨none,none,d,aL (hd l)⟩::G) none_ a w):=λa w h=>
 qx hf h hk (λβ hI=>by
  rw[show(#[x,y]:Array Operand).map a.eval=#[a.eval x,a.eval y] by simp]
  exact eR _ _ w _ _ (jg (aM hI)) (λk hk o ho=>ho.2 hk) (hI.obj hk).1 (dm hI hk (kC jB hI)) (dm hI hk ((h1.imp c1).spec hI gl)) (dm hI hk ((h2.imp c2).spec hI gl))) hd' hV hu hG
end
end Wx
