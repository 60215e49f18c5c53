import Derived.Laws.Concat
import Derived.Test.YtfnmkhlleanppaaGreatDoorCWBWkF
import Derived.Test.YtfnmkhlleanppaaGreatDoorJWB35
namespace Wx
open Go Go.RowKit Go.Proofs
set_option linter.unusedVariables false
def rG (k:Nat):Pred:=λ_ v=>∃s:ByteArray,v=.string s/\s.size<=k
def AW:Pred:=λ_ v=>∃m:Int,(0<=m/\m<4294967296)/\v=.int .u32 m
theorem yL (k:Nat):cr (rG k):=λ_ _ _ _ h _ _=>h
theorem yM:cr AW:=λ_ _ _ _ h _ _=>h
theorem wF (k:Nat):Fits 1 false (rG k):=by
 rintro w v ⟨s,rfl,_⟩
 exact aW s w _ rfl
theorem wH:Fits 1 false AW:=by
 rintro w v ⟨m,_,rfl⟩
 exact aX (λ_=>⟨(by simp),by simp⟩) rfl rfl w _ rfl
structure HL where
 hb:Nat
 bb:Nat
 bc:Nat
 cb:Nat
 cc:Nat
 m:Value
def fc (b n c:Nat):Value:=if n=0 then .slice none 0 0 else .slice (some ⟨b,0,none⟩) n c
def tE (q:Nat) (l:HL) (nb nc:Nat):List It:=[xh (.slice none 0 0),xh l.m,xh (fc l.bb nb l.bc),xh (.slice none 0 0),xh (fc l.cb nc l.cc),⟨rG q,yL _⟩,⟨AW,yM⟩]
abbrev bI (b:Nat) (its:List It):Bk:=⟨b,1,false,its⟩
def gQ (x:fZ):List Value:=[.string x.1,.int .i64 x.2.1,.bool x.2.2]
def lB (b n:Nat) (vs:List Value) (p:Nat):List Bk:=if n=0 then[]else[fB b vs p]
def Ev (l:HL) (bs:List fZ) (cs:List ByteArray):List Bk:=lB l.bb bs.length (bs.flatMap gQ) (l.bc*3)++lB l.cb cs.length (cs.map Value.string) (l.cc*1)
def aV (q:Nat) (l:HL) (bs:List fZ) (cs:List ByteArray):List Bk:=bI l.hb (tE q l bs.length cs.length)::Ev l bs cs
abbrev lg (H:List Bk):Prop:=H.Pairwise λx y=>x.b≠y.b
structure fG (l:HL) (bs:List fZ) (cs:List ByteArray):Prop where
 b1:bs.length<=l.bc
 b2:l.bc<=maxLen
 c1:cs.length<=l.cc
 c2:l.cc<=maxLen
theorem cg (q:Nat) (l:HL) (bs:List fZ) (cs:List ByteArray):bI l.hb (tE q l bs.length cs.length)∈aV q l bs cs:=List.mem_cons_self
variable {b n:Nat} {e:Bk}
theorem aF {p:Nat} {vs:List Value}:e∈lB b n vs p↔n≠0/\e=fB b vs p:=by
 unfold lB
 split
 ·rename_i h; simp[h]
 ·rename_i h; simp[h]
variable {q:Nat} {l:HL} {bs:List fZ} {cs:List ByteArray}
theorem eI (h:bs.length≠0):fB l.bb (bs.flatMap gQ) (l.bc*3)∈aV q l bs cs:=List.mem_cons_of_mem _ (List.mem_append_left _ (aF.2 ⟨h,rfl⟩))
theorem iH (h:cs.length≠0):fB l.cb (cs.map Value.string) (l.cc*1)∈aV q l bs cs:=List.mem_cons_of_mem _ (List.mem_append_right _ (aF.2 ⟨h,rfl⟩))
variable {i:Nat} {its:List It} {rest:List Bk} {it:It}
theorem wU (hp:lg (bI b its::rest)):dM (bI b its::rest) b i it=bI b (its.set i it)::rest:=by
 unfold dM
 rw[List.map_cons]
 congr 1
 ·exact if_pos rfl
 ·conv=>rhs; rw[<-List.map_id rest]
  refine List.map_congr_left λe he=>?_
  exact if_neg λh=>(List.pairwise_cons.1 hp).1 e he h.symm
variable {H:List Bk}
theorem ri (h:lg (dM H b i it)):lg H:=by
 unfold lg dM at h
 rw[List.pairwise_map]at h
 exact h.imp λ{x y} hne=>by rw[x.mm,y.mm]at hne; exact hne
theorem vF (h:lg (dM (bI b its::rest) b i it)):(∀e,e∈bI b (its.set i it)::rest->e∈dM (bI b its::rest) b i it)/\lg (bI b (its.set i it)::rest):=by
 have e:=wU (i:=i) (it:=it) (ri h)
 exact⟨λx hx=>by rw[e]; exact hx,by rw[<-e]; exact h⟩
variable {c:Nat}
theorem ux (h:n≠0):fc b n c=.slice (some ⟨b,0,none⟩) n c:=if_neg h
variable {N:Nat}
theorem ov {x:Nat} {A:List Bk} {y:Nat} (h:gN A (fc b n c) N (x,y)):(n≠0/\x=b)\/∀e,e∈A->e.b≠x:=by
 obtain⟨_,_,⟨n',c',e⟩|h3⟩:=h
 ·refine .inl ?_
  unfold fc at e
  split at e
  ·cases e
  ·rename_i h0
   injection e with e
   injection e with e
   injection e with e
   exact⟨h0,e.symm⟩
 ·exact .inr h3
variable {z:Nat×Nat}
theorem mK (hp:lg (aV q l bs cs)):(gN (aV q l bs cs) (fc l.cb cs.length l.cc) N z->l.hb≠z.1/\(bs.length≠0->l.bb≠z.1))/\(gN (aV q l bs cs) (fc l.bb bs.length l.bc) N z->l.hb≠z.1/\(cs.length≠0->l.cb≠z.1)):=by
 have h0:=List.pairwise_cons.1 hp
 have h1:=List.pairwise_append.1 h0.2
 refine⟨λh=>?_,λh=>?_⟩
 ·rcases ov h with⟨hc,e⟩|h2
  ·rw[e]
   exact⟨h0.1 _ (List.mem_append_right _ (aF.2 ⟨hc,rfl⟩)),λhb=>h1.2.2 _ (aF.2 ⟨hb,rfl⟩) _ (aF.2 ⟨hc,rfl⟩)⟩
  ·exact⟨h2 _ (cg q l bs cs),λhb=>h2 _ (eI hb)⟩
 ·rcases ov h with⟨hc,e⟩|h2
  ·rw[e]
   exact⟨h0.1 _ (List.mem_append_left _ (aF.2 ⟨hc,rfl⟩)),λhb=>(h1.2.2 _ (aF.2 ⟨hc,rfl⟩) _ (aF.2 ⟨hb,rfl⟩)).symm⟩
  ·exact⟨h2 _ (cg q l bs cs),λhb=>h2 _ (iH hb)⟩
theorem mJ (h:l.hb≠b):bI l.hb (tE q l bs.length cs.length)∈iq (aV q l bs cs) b its:=fI (cg q l bs cs) h
def HL.jH (l:HL) (z:Nat×Nat):HL:={ l with cb:=z.1,cc:=z.2 }
def HL.nP (l:HL) (z:Nat×Nat):HL:={ l with bb:=z.1,bc:=z.2 }
theorem jo (h:e.b≠b):e.put b i it=e:=if_neg h
theorem xO {s:ByteArray} (hp:lg (aV q l bs cs)) (h:gN (aV q l bs cs) (fc l.cb cs.length l.cc) (cs.length+1) z):
  (∀e,e∈aV q (l.jH z) bs (cs++[s])->e∈dM (iq (aV q l bs cs) z.1 (dQ (cs.map Value.string++[.string s]) (z.2*1))) l.hb 4 ⟨aJ (.slice (some ⟨z.1,0,none⟩) (cs.length+1) z.2),bj _⟩)/\lg (aV q (l.jH z) bs (cs++[s])):=by
 obtain⟨n1,n2⟩:=(mK hp).1 h
 have h0:=List.pairwise_cons.1 hp
 refine⟨λe he=>?_,?_⟩
 ·unfold dM
  rcases List.mem_cons.1 he with rfl|he
  ·refine List.mem_map.2 ⟨bI l.hb (tE q l bs.length cs.length),mJ n1,?_⟩
   show Bk.put _ l.hb 4 _=_
   rw[show(bI l.hb (tE q l bs.length cs.length)).put l.hb 4 ⟨aJ (.slice (some ⟨z.1,0,none⟩) (cs.length+1) z.2),bj _⟩=bI l.hb ((tE q l bs.length cs.length).set 4 ⟨aJ (.slice (some ⟨z.1,0,none⟩) (cs.length+1) z.2),bj _⟩)from if_pos rfl]
   show _=bI l.hb (tE q (l.jH z) bs.length (cs++[s]).length)
   rw[List.length_append]
   rfl
  ·rcases List.mem_append.1 he with he|he
   ·obtain⟨hb,rfl⟩:=aF.1 he
    exact List.mem_map.2 ⟨_,fI (eI hb) (n2 hb),jo (h0.1 _ (List.mem_append_left _ (aF.2 ⟨hb,rfl⟩))).symm⟩
   ·obtain⟨_,rfl⟩:=aF.1 he
    refine List.mem_map.2 ⟨_,ir,?_⟩
    rw[jo (λe=>n1 e.symm)]
    show _=fB z.1 _ _
    rw[List.map_append]
    rfl
 ·refine List.pairwise_cons.2 ⟨λe he=>?_,List.pairwise_append.2 ⟨?_,?_,λx hx y hy=>?_⟩⟩
  ·rcases List.mem_append.1 he with he|he
   ·obtain⟨hb,rfl⟩:=aF.1 he
    exact h0.1 _ (List.mem_append_left _ (aF.2 ⟨hb,rfl⟩))
   ·obtain⟨_,rfl⟩:=aF.1 he
    exact n1
  ·unfold lB; split<;>simp
  ·unfold lB; split<;>simp
  ·obtain⟨hb,rfl⟩:=aF.1 hx
   obtain⟨_,rfl⟩:=aF.1 hy
   exact n2 hb
theorem xN {s:fZ} (hp:lg (aV q l bs cs)) (h:gN (aV q l bs cs) (fc l.bb bs.length l.bc) (bs.length+1) z):
  (∀e,e∈aV q (l.nP z) (bs++[s]) cs->e∈dM (iq (aV q l bs cs) z.1 (dQ (bs.flatMap gQ++gQ s) (z.2*3))) l.hb 2 ⟨aJ (.slice (some ⟨z.1,0,none⟩) (bs.length+1) z.2),bj _⟩)/\lg (aV q (l.nP z) (bs++[s]) cs):=by
 obtain⟨n1,n2⟩:=(mK hp).2 h
 have h0:=List.pairwise_cons.1 hp
 refine⟨λe he=>?_,?_⟩
 ·unfold dM
  rcases List.mem_cons.1 he with rfl|he
  ·refine List.mem_map.2 ⟨bI l.hb (tE q l bs.length cs.length),mJ n1,?_⟩
   show Bk.put _ l.hb 2 _=_
   rw[show(bI l.hb (tE q l bs.length cs.length)).put l.hb 2 ⟨aJ (.slice (some ⟨z.1,0,none⟩) (bs.length+1) z.2),bj _⟩=bI l.hb ((tE q l bs.length cs.length).set 2 ⟨aJ (.slice (some ⟨z.1,0,none⟩) (bs.length+1) z.2),bj _⟩)from if_pos rfl]
   show _=bI l.hb (tE q (l.nP z) (bs++[s]).length cs.length)
   rw[List.length_append]
   rfl
  ·rcases List.mem_append.1 he with he|he
   ·obtain⟨_,rfl⟩:=aF.1 he
    refine List.mem_map.2 ⟨_,ir,?_⟩
    rw[jo (λe=>n1 e.symm)]
    show _=fB z.1 _ _
    rw[List.flatMap_append,List.flatMap_singleton]
    rfl
   ·obtain⟨hb,rfl⟩:=aF.1 he
    exact List.mem_map.2 ⟨_,fI (iH hb) (n2 hb),jo (h0.1 _ (List.mem_append_right _ (aF.2 ⟨hb,rfl⟩))).symm⟩
 ·refine List.pairwise_cons.2 ⟨λe he=>?_,List.pairwise_append.2 ⟨?_,?_,λx hx y hy=>?_⟩⟩
  ·rcases List.mem_append.1 he with he|he
   ·obtain⟨_,rfl⟩:=aF.1 he
    exact n1
   ·obtain⟨hb,rfl⟩:=aF.1 he
    exact h0.1 _ (List.mem_append_right _ (aF.2 ⟨hb,rfl⟩))
  ·unfold lB; split<;>simp
  ·unfold lB; split<;>simp
  ·obtain⟨_,rfl⟩:=aF.1 hx
   obtain⟨hb,rfl⟩:=aF.1 hy
   exact(n2 hb).symm
theorem bN.sub {B:Nat->Prop} {w:World} {H':List Bk} (h:bN B w H) (hm:∀e,e∈H'->e∈H) (hp:H'.Pairwise λx y=>x.b≠y.b):bN (λk=>∃e,e∈H'/\e.b=k) w H'/\∀k,(∃e,e∈H'/\e.b=k)->B k:=
 ⟨⟨λ_=>Iff.rfl,hp,λe he=>h.2.2 e (hm e he)⟩,λk ⟨e,he,hb⟩=>(h.1 k).2 ⟨e,hm e he,hb⟩⟩
section
variable {P:Program} {ops:Array Oper} {ms:List Nat} {c:bJ} {V:List Vr} {A:List Al} {G:List aI} {i d:Nat} {x y z:Operand} {ty:TypeId} {pos:String} {au:Array Edge} {a:Act} {w:World} {fn:Func}{id s:Nat} {H:List Bk}
theorem CZ {H':List Bk} (n0:Nat) (h:Inv c V [] G none_ a w) (hk:V[n0]?=some (aP id s H)) (e:H.Pairwise (λx y=>x.b≠y.b)->(∀e,e∈H'->e∈H)/\H'.Pairwise λx y=>x.b≠y.b) (hV:fh V=true:=by kernel_rfl) (hG:fQ G=true:=by kernel_rfl) (hu:mA V id n0=true:=by kernel_rfl):Inv c (V.set n0 (aP id s H')) [] G none_ a w:=by
 obtain⟨β,hI⟩:=h
 obtain⟨hH,_,_⟩:=hI.obj hk
 obtain⟨e1,e2⟩:=e hH.2.1
 obtain⟨k1,k2⟩:=hH.sub e1 e2
 have hx:=List.mem_of_getElem? hk
 have FX:=((aQ rfl).1 (hI.var _ hx rfl)).2
 exact⟨_,hI.move (R:=rF H) (R':=rF H') hV hG hk (λy n hn hy=>pA hu y n hn hy) (di.refl _ _) (λk hk=>.inl (k2 k hk)) (λk hk=>hH.nw (k2 k hk)) (FX.imp λw h=>(bN.sub h e1 e2).1)⟩
variable {T:TypeId} {v:Vr} {b off:Nat} {its:List It} {p:Pred} {nl:cr p}
theorem lH (N idx:Nat) (he:bI b its∈H) (hi:its[idx]?=some ⟨p,nl⟩:=by exact rfl) (hv:pC N V=some v:=by exact rfl) (ho:bD ms i v=true:=by exact rfl) (bT:v.kd=.obj:=by exact rfl) (hst:(v.st.all λq=>(q.1==i||(ms.getD i 0).testBit q.1)||(ms.getD q.1 0).testBit i)=true:=by kernel_rfl)
  (hc:cont (λj=>(ms.getD i 0).testBit j) v.c0 v.st=rF H:=by exact rfl) (h:Has ms G i y (aJ (.pointer (some ⟨b,off,none⟩))):=by exact hs) (hp:Post G i p:=by exact pt rfl) (hoff:off=idx:=by omega) (ht:Bf P T false 1=true:=by kernel_rfl):OpOk P ops ms c V A G i ⟨some d,.load T y,ty,pos,au,none⟩:=by
 obtain⟨⟨k,hk⟩,_⟩:=dW hv
 exact vi (it:=⟨p,nl⟩) (idx:=idx) k hk ho bT hst hc h he rfl hi (by show off=idx*1; omega) (cH ht) hp
variable {q:Pred}
theorem sH {r:List (Nat×Rel)} (N idx:Nat) (he:bI b its∈H) (hf:Fits 1 false p) (hz:Has ms G i z q) (cz:∀w v,q w v->p w v) (hi:idx<its.length:=by exact of_decide_eq_true rfl) (hv:pC N V=some v:=by exact rfl) (ho:bD ms i v=true:=by exact rfl) (bT:v.kd=.obj:=by exact rfl) (hst:(v.st.all λq=>(q.1==i||(ms.getD i 0).testBit q.1)||(ms.getD q.1 0).testBit i)=true:=by kernel_rfl)
  (hc:cont (λj=>(ms.getD i 0).testBit j) v.c0 v.st=rF H:=by exact rfl) (h:Has ms G i y (aJ (.pointer (some ⟨b,off,none⟩))):=by exact hs) (hm:Bb i v.st=some (rF (dM H b idx ⟨p,nl⟩),r):=by exact rfl) (hoff:off=idx:=by omega) (ht:Bf P T false 1=true:=by kernel_rfl)
  (hr:(r.all λr=>(ms.getD r.1 0).testBit i)=true:=by kernel_rfl) (dL:(V.all λy=>y.id==v.id||y.st.all λq=>q.1 != i)=true:=by kernel_rfl):OpOk P ops ms c V A G i ⟨none,.store T y z,ty,pos,au,none⟩:=by
 obtain⟨⟨k',hk⟩,_⟩:=dW hv
 obtain⟨m,h5,h6⟩:=jS hm
 exact sS (e:=bI b its) (it:=⟨p,nl⟩) k' hk ho bT hst m h5 (by rw[h6]; exact hr) dL hc h he rfl hi (by show off=idx*1; omega) (cH ht) (hz.imp cz) hf
variable {f:FuncId} {ts:Array TypeId} {p0 p1 p2 q2:Pred}
theorem EP (N:Nat) (eZ:K2 P f p1 p2 p) (hr:∀B w u,bN B w H->p0 w u->p1 w u) (hn:cr p) (hv:pC N V=some v:=by exact rfl) (ho:bD ms i v=true:=by exact rfl) (bT:v.kd=.obj:=by exact rfl) (hst:(v.st.all λq=>(q.1==i||(ms.getD i 0).testBit q.1)||(ms.getD q.1 0).testBit i)=true:=by kernel_rfl)
  (hc:cont (λj=>(ms.getD i 0).testBit j) v.c0 v.st=rF H:=by exact rfl) (h1:Has ms G i x p0:=by exact hs) (h2:Has ms G i y q2:=by exact hs) (c2:∀w v,q2 w v->p2 w v:=by exact ig) (hp:Post G i p:=by exact pt rfl) (hf:aA P f:=by exactλ_ _=>by kernel_rfl):
  OpOk P ops ms c V A G i ⟨some d,.call ⟨.value (.func f),#[x,y],ts⟩,ty,pos,au,none⟩:=by
 obtain⟨⟨k,hk⟩,_⟩:=dW hv
 refine eU hf hp λL β a w hI hd=>(by
  rw[show(#[x,y]:Array Operand).map a.eval=#[a.eval x,a.eval y] by simp]
  have hO:=jk hI hd (List.mem_of_getElem? hk) ho bT
  have hH:bN (β v.id) w H:=by
   have:=hO.2.out
   rw[fj hd hst,hc]at this
   exact this
  let M:=minus (own c V L β) (β v.id)
  have hM:dm M w:=λk o hk=>aL hI k o hk.1
  have hsub:∀{w'},Ext M w w'->Ext (own c V L β) w w':=λhe=>he.mono' λk o hk=>hk.1
  refine(eZ M w _ _ hM (λw' he=>?_) (λw' he=>(h2.imp c2).spec hI hd w' (hsub he))).mono λe w' Ac=>?_
  ·exact hr (β v.id) w' _ (hH.keep (aL hI) (hsub he) λe hm=>he.block e.b (Bk.gT (hH.2.2 e hm)) λo ho=>ho.2 ((hH.1 _).2 ⟨e,hm,rfl⟩)) (h1.spec hI hd w' (hsub he))
  ·obtain⟨v,rfl,dH,hv2⟩:=Ac
   exact⟨v,rfl,hn _ w' v ((aL hI).below hv2) dH.out,hv2⟩)
variable {t u:TypeId} {A':Option Addr}
theorem rW (r:Bool) (h:Has ms G i x (aJ (.pointer A')):=by exact hs) (h2:Has ms G i y (aJ (.pointer none)):=by exact hs) (hr:∀w,(do eqGuard .eql t x y (.pointer A') (.pointer none); Go.binOp .eql t (.pointer A') (.pointer none):Sem Value).run P w=.ok (.bool r) w:=by exactλ_=>by kernel_rfl) (hp:Post G i (pB r):=by exact pt rfl):OpOk P ops ms c V A G i ⟨some d,.binOp .eql t x y u,ty,pos,au,none⟩:=
 dz rfl rfl rfl rfl h h2 hp λρ w h h2=>⟨.bool r,by
  have h:ρ x=.pointer A':=h
  have h2:ρ y=.pointer none:=h2
  show(do pure (Next.value (<-(do eqGuard .eql t x y (ρ x) (ρ y); Go.binOp .eql t (ρ x) (ρ y))))).run P w=_
  rw[h,h2,Sem.run_bind,hr]
  rfl,λ_ _ _=>rfl⟩
theorem Dw (r:Bool) (h:Has ms G i x (aJ (.pointer A')):=by exact hs) (h2:Has ms G i y (aJ (.pointer none)):=by exact hs) (hr:∀w,(do eqGuard .neq t x y (.pointer A') (.pointer none); Go.binOp .neq t (.pointer A') (.pointer none):Sem Value).run P w=.ok (.bool r) w:=by exactλ_=>by kernel_rfl) (hp:Post G i (pB r):=by exact pt rfl):OpOk P ops ms c V A G i ⟨some d,.binOp .neq t x y u,ty,pos,au,none⟩:=
 dz rfl rfl rfl rfl h h2 hp λρ w h h2=>⟨.bool r,by
  have h:ρ x=.pointer A':=h
  have h2:ρ y=.pointer none:=h2
  show(do pure (Next.value (<-(do eqGuard .neq t x y (ρ x) (ρ y); Go.binOp .neq t (ρ x) (ρ y))))).run P w=_
  rw[h,h2,Sem.run_bind,hr]
  rfl,λ_ _ _=>rfl⟩
variable {k:Nat}
theorem mw {s:ByteArray} (h:s.size<=k):∀w v,pT s w v->rG k w v:=λ_ _ e=>⟨s,e,h⟩
theorem zg {j:Nat} (h:j<=k):∀w v,rG j w v->rG k w v:=λ_ _ ⟨s,e,h'⟩=>⟨s,e,Nat.le_trans h' h⟩
theorem zo (j k:Nat) (h1:Has ms G i x p) (c1:∀w v,p w v->rG j w v) (h2:Has ms G i y q) (c2:∀w v,q w v->rG k w v) (hz:j+k<=1000000:=by omega) (hp:Post G i (rG (j+k)):=by exact pt rfl):OpOk P ops ms c V A G i ⟨some d,.binOp .add t x y u,ty,pos,au,none⟩:=
 bk rfl rfl rfl (.inl rfl) hp λL β a w hI hd=>by
  obtain⟨s,e1,k1⟩:=c1 _ _ (h1.spec hI hd).out
  obtain⟨r,e2,k2⟩:=c2 _ _ (h2.spec hI hd).out
  refine⟨.string (s++r),w,?_,Below.refl _ _,λ_ _=>⟨_,rfl,by rw[ByteArray.size_append]; omega⟩⟩
  show(do pure (Next.value (<-(do eqGuard .add t x y (a.eval x) (a.eval y); Go.binOp .add t (a.eval x) (a.eval y))))).run P w=_
  rw[e1,e2]
  have hgd:eqGuard .add t x y (.string s) (.string r)=pure ():=by unfold eqGuard; rfl
  have hb:Go.binOp .add t (.string s) (.string r)=Op.stringOp .add s r:=rfl
  rw[hgd,hb,pure_bind,Sem.run_bind,run_string_add_sum w s r (by omega)]
  rfl
theorem CN {α:Type} {φ:α->Prop} {f:α->Value} (n0:Nat) (h:Inv c V [] G none_ a w) (hk:G[n0]?=some ⟨none,none,s,λ_ v=>∃z,φ z/\v=f z⟩):∃z,φ z/\Inv c V [] (⟨none,none,s,aJ (f z)⟩::G) none_ a w:=by
 obtain⟨β,hI⟩:=h
 obtain⟨z,h1,h2⟩:=(hI.gK _ (List.mem_of_getElem? hk) rfl rfl).out
 refine⟨z,h1,β,hI.pD λe he ho hf=>?_⟩
 rcases List.mem_cons.1 he with rfl|he
 ·exactλ_ _=>h2
 ·exact hI.gK e he ho hf
def ik {Λ:Type} (B:Nat->Prop) (C:Λ->Prop) (E:Λ->Ending) (H:Λ->List Bk) (w:World) (e:Ending) (w':World):Prop:=∃(l:Λ) (B':Nat->Prop),C l/\e=E l/\di B w w'/\(∀k,B' k->B k\/w.heap.size<=k)/\bN B' w' (H l)
abbrev L1 {Λ:Type} (P:Program) (f:FuncId) (H0:List Bk) (p0:Pred) (C:Λ->Prop) (E:Λ->Ending) (H:Λ->List Bk):Prop:=∀(M:Nat->Nat->Prop) (B:Nat->Prop) (w:World) (v0:Value),dm M w->(∀k,B k->∀o,¬M k o)->bN B w H0->aK (plus M B) jG w->aK (plus M B) (λw=>p0 w v0) w->Calls P f #[v0] w (ik B C E H w)
abbrev L2 {Λ:Type} (P:Program) (f:FuncId) (H0:List Bk) (p0 p1:Pred) (C:Λ->Prop) (E:Λ->Ending) (H:Λ->List Bk):Prop:=∀(M:Nat->Nat->Prop) (B:Nat->Prop) (w:World) (v0 v1:Value),dm M w->(∀k,B k->∀o,¬M k o)->bN B w H0->aK (plus M B) jG w->aK (plus M B) (λw=>p0 w v0) w->aK (plus M B) (λw=>p1 w v1) w->Calls P f #[v0,v1] w (ik B C E H w)
variable {Λ:Type} {C:Λ->Prop} {E:Λ->Ending} {M:Nat->Nat->Prop} {B:Nat->Prop} {N:Nat}
theorem qC {H:Λ->List Bk} {D:Code} {v0 v1:Value} {H0:List Bk} (hf:P.funcs[f]?=some fn) (hb:fn.body=some D) (hN:fn.ntmps=N) (hlen:decide ([v0,v1].length<=N)=true) (hM:dm M w) (jg:∀k,B k->∀o,¬M k o) (hH:bN B w H0)
  (h0:aK (plus M B) (λw=>p0 w v0) w) (h1:aK (plus M B) (λw=>p1 w v1) w) (h:∀a,Inv ⟨N,w,M,B⟩ [aP N N H0] [] [Uz 0 p0,Uz 1 p1] none_ a w->D.ww none [] P (bodyPost P fn (ik B C E H w)) a w):Calls P f #[v0,v1] w (ik B C E H w):=
 rY (G:=[Uz 0 p0,Uz 1 p1]) hf hb hN hlen hM jg hH (show eu (plus M B) w [v0,v1] [Uz 0 p0,Uz 1 p1]from⟨⟨rfl,_,rfl,h0⟩,⟨rfl,_,rfl,h1⟩,trivial⟩) h
variable {Hl:Λ->List Bk} {n0:Nat} {w0:World}
theorem tZ {v:Value} {β:Nat->Nat->Prop} (l:Λ) (hC:C l) (hI:aS ⟨N,w0,M,B⟩ V [] G none_ β a w) (hk:V[n0]?=some (aP id s (Hl l))) (hr:(results fn a.tmps).run P w=.ok v w) (hE:E l=.returned v):bodyPost P fn (ik B C E Hl w0) .ret a w:=by
 obtain⟨h1,h2,_⟩:=hI.obj hk
 exact iA hI (v:=v) hr ⟨l,β id,hC,hE.symm,hI.below,λk hk'=>(h2 k hk').symm,h1⟩
theorem ua (l:Λ) (hC:C l) (hI:Inv ⟨N,w0,M,B⟩ V [] G none_ a w) (hk:V[n0]?=some (aP id s (Hl l))) (hr:fn.results=#[]) (hE:E l=.returned (.tuple #[])):bodyPost P fn (ik B C E Hl w0) .ret a w:=by
 obtain⟨β,hI⟩:=hI
 exact tZ l hC hI hk (results_none hr _ _ _) hE
variable {r:ResultVar}
theorem B6 {v:Value} (l:Λ) (hC:C l) (hI:Inv ⟨N,w0,M,B⟩ V [] G none_ a w) (hk:V[n0]?=some (aP id s (Hl l))) (hr:fn.results=#[r]) (h:cu P V G r (aJ v)) (hE:E l=.returned v):bodyPost P fn (ik B C E Hl w0) .ret a w:=by
 obtain⟨β,hI⟩:=hI
 obtain⟨v',k1,k2⟩:=h.run hI
 have e:v'=v:=k2.out
 subst e
 refine tZ l hC hI hk ?_ hE
 rw[cF,hr]
 simp[k1]
theorem yw {r':ResultVar} {v v':Value} (l:Λ) (hC:C l) (hI:Inv ⟨N,w0,M,B⟩ V [] G none_ a w) (hk:V[n0]?=some (aP id s (Hl l))) (hr:fn.results=#[r,r']) (h:cu P V G r (aJ v)) (h':cu P V G r' (aJ v')) (hE:E l=.returned (.tuple #[v,v'])):bodyPost P fn (ik B C E Hl w0) .ret a w:=by
 obtain⟨β,hI⟩:=hI
 obtain⟨u,k1,k2⟩:=h.run hI
 obtain⟨u',j1,j2⟩:=h'.run hI
 have e:u=v:=k2.out
 have e':u'=v':=j2.out
 subst e e'
 refine tZ l hC hI hk ?_ hE
 rw[cF,hr]
 simp[k1,j1,Sem.run_bind]
variable {hd:Λ->Value}
theorem qD {args:Array Operand} {ops:Array Oper} (hf:aA P f) (h:Inv c V [] G none_ a w) (hk:V[n0]?=some (aP id s H))
  (hc:∀β,aS c V [] G none_ β a w->Calls P f (args.map a.eval) w (ik (β id) C (λl=>.returned (hd l)) Hl w)) (hd':decide (d<c.N)=true)
  (hV:(V.all λy=>(y.slot != d)&&(y.born.isNone&&y.dead.isNone))=true) (hu:(V.filter λy=>y.id==id).length=1) (hG:(G.all λe=>e.slot != d)=true):
  aU P ops ⟨some d,.call ⟨.value (.func f),args,ts⟩,ty,pos,au,none⟩ a w (λa w=>∃l,C l/\Inv c (V.set n0 (aP id s (Hl l))) [] (⟨none,none,d,aJ (hd l)⟩::G) none_ a w):=by
 obtain⟨β,hI⟩:=h
 refine .of rfl (je hf ((hc β hI).mono ?_))
 rintro e w' ⟨l,B',k1,rfl,k2,k3,k4⟩
 exact⟨_,rfl,l,k1,hI.nr hk k2 k3 k4 (of_decide_eq_true hd') hV hu hG⟩
theorem DD {q1:Pred} {ops:Array Oper} (n0:Nat) (jI:aK (λk o=>c.M0 k o\/c.dx k) jG c.w0) (eZ:L2 P f H p1 p2 C (λl=>.returned (hd l)) Hl) (h1:Has [0] G 0 x q1:=by exact hs) (c1:∀w v,q1 w v->p1 w v:=by exact ig) (h2:Has [0] G 0 y q2:=by exact hs) (c2:∀w v,q2 w v->p2 w v:=by exact ig)
  (hk:V[n0]?=some (aP id s H):=by exact rfl) (hf:aA P f:=by exactλ_ _=>by kernel_rfl) (hd':decide (d<c.N)=true:=by kernel_rfl)
  (hV:(V.all λy=>(y.slot != d)&&(y.born.isNone&&y.dead.isNone))=true:=by kernel_rfl) (hu:(V.filter λy=>y.id==id).length=1:=by kernel_rfl) (hG:(G.all λe=>e.slot != d)=true:=by kernel_rfl):∀a w,Inv c V [] G none_ a w ->
  aU P ops ⟨some d,.call ⟨.value (.func f),#[x,y],ts⟩,ty,pos,au,none⟩ a w (λa w=>∃l,C l/\Inv c (V.set n0 (aP id s (Hl l))) [] (⟨none,none,d,aJ (hd l)⟩::G) none_ a w):=λa w h=>
 qD hf h hk (λβ hI=>by
  rw[show(#[x,y]:Array Operand).map a.eval=#[a.eval x,a.eval y] by simp]
  exact eZ _ _ w _ _ (jj (aL hI)) (λk hk o ho=>ho.2 hk) (hI.obj hk).1 (dA hI hk (kL jI hI)) (dA hI hk ((h1.imp c1).spec hI gW)) (dA hI hk ((h2.imp c2).spec hI gW))) hd' hV hu hG
end
end Wx
