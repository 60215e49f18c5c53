import Derived.Laws.Concat
import Derived.Test.YtfnmkhlleanppaaGreatDoorJWC26
import Derived.Test.YtfnmkhlleanppaaGreatDoorJWC30
namespace Wx
open Go Go.RowKit Go.Proofs
set_option linter.unusedVariables false
def uP (k:Nat):Pred:=λ_ v=>∃s:ByteArray,v=.string s/\s.size<=k
def Fp:Pred:=λ_ v=>∃m:Int,(0<=m/\m<4294967296)/\v=.int .u32 m
theorem C7 (k:Nat):aO (uP k):=λ_ _ _ _ h _ _=>h
theorem C8:aO Fp:=λ_ _ _ _ h _ _=>h
theorem AR (k:Nat):Fits 1 false (uP k):=by
 rintro w v ⟨s,rfl,_⟩
 exact aE s w _ rfl
theorem AV:Fits 1 false Fp:=by
 rintro w v ⟨m,_,rfl⟩
 exact cg (λ_=>⟨(by simp),by simp⟩) rfl rfl w _ rfl
structure HL where
 hb:Nat
 bb:Nat
 bc:Nat
 cb:Nat
 cc:Nat
 m:Value
def gm (b n c:Nat):Value:=if n=0 then .slice none 0 0 else .slice (some ⟨b,0,none⟩) n c
def wX (q:Nat) (l:HL) (nb nc:Nat):List It:=[Bn (.slice none 0 0),Bn l.m,Bn (gm l.bb nb l.bc),Bn (.slice none 0 0),Bn (gm l.cb nc l.cc),⟨uP q,C7 _⟩,⟨Fp,C8⟩]
abbrev bI (b:Nat) (its:List It):Bk:=⟨b,1,false,its⟩
def ja (x:ig):List Value:=[.string x.1,.int .i64 x.2.1,.bool x.2.2]
def nF (b n:Nat) (vs:List Value) (p:Nat):List Bk:=if n=0 then[]else[fB b vs p]
def Kv (l:HL) (bs:List ig) (cs:List ByteArray):List Bk:=nF l.bb bs.length (bs.flatMap ja) (l.bc*3)++nF l.cb cs.length (cs.map Value.string) (l.cc*1)
def bq (q:Nat) (l:HL) (bs:List ig) (cs:List ByteArray):List Bk:=bI l.hb (wX q l bs.length cs.length)::Kv l bs cs
abbrev nB (H:List Bk):Prop:=H.Pairwise λx y=>x.b≠y.b
structure gN (l:HL) (bs:List ig) (cs:List ByteArray):Prop where
 b1:bs.length<=l.bc
 b2:l.bc<=maxLen
 c1:cs.length<=l.cc
 c2:l.cc<=maxLen
theorem cO (q:Nat) (l:HL) (bs:List ig) (cs:List ByteArray):bI l.hb (wX q l bs.length cs.length)∈bq q l bs cs:=List.mem_cons_self
variable {b n:Nat} {e:Bk}
theorem aR {p:Nat} {vs:List Value}:e∈nF b n vs p↔n≠0/\e=fB b vs p:=by
 unfold nF
 split
 ·rename_i h; simp[h]
 ·rename_i h; simp[h]
variable {q:Nat} {l:HL} {bs:List ig} {cs:List ByteArray}
theorem fH (h:bs.length≠0):fB l.bb (bs.flatMap ja) (l.bc*3)∈bq q l bs cs:=List.mem_cons_of_mem _ (List.mem_append_left _ (aR.2 ⟨h,rfl⟩))
theorem jS (h:cs.length≠0):fB l.cb (cs.map Value.string) (l.cc*1)∈bq q l bs cs:=List.mem_cons_of_mem _ (List.mem_append_right _ (aR.2 ⟨h,rfl⟩))
variable {i:Nat} {its:List It} {rest:List Bk} {it:It}
theorem Ba (hp:nB (bI b its::rest)):dm (bI b its::rest) b i it=bI b (its.set i it)::rest:=by
 unfold dm
 rw[List.map_cons]
 congr 1
 ·exact if_pos rfl
 ·conv=>rhs; rw[<-List.map_id rest]
  refine List.map_congr_left λe he=>?_
  exact if_neg λh=>(List.pairwise_cons.1 hp).1 e he h.symm
variable {H:List Bk}
theorem uA (h:nB (dm H b i it)):nB H:=by
 unfold nB dm at h
 rw[List.pairwise_map]at h
 exact h.imp λ{x y} hne=>by rw[x.oH,y.oH]at hne; exact hne
theorem zI (h:nB (dm (bI b its::rest) b i it)):(∀e,e∈bI b (its.set i it)::rest->e∈dm (bI b its::rest) b i it)/\nB (bI b (its.set i it)::rest):=by
 have e:=Ba (i:=i) (it:=it) (uA h)
 exact⟨λx hx=>by rw[e]; exact hx,by rw[<-e]; exact h⟩
variable {c:Nat}
theorem xW (h:n≠0):gm b n c=.slice (some ⟨b,0,none⟩) n c:=if_neg h
variable {N:Nat}
theorem ru {x:Nat} {A:List Bk} {y:Nat} (h:iX A (gm b n c) N (x,y)):(n≠0/\x=b)\/∀e,e∈A->e.b≠x:=by
 obtain⟨_,_,⟨n',c',e⟩|h3⟩:=h
 ·refine .inl ?_
  unfold gm at e
  split at e
  ·cases e
  ·rename_i h0
   injection e with e
   injection e with e
   injection e with e
   exact⟨h0,e.symm⟩
 ·exact .inr h3
variable {z:Nat×Nat}
theorem oV (hp:nB (bq q l bs cs)):(iX (bq q l bs cs) (gm l.cb cs.length l.cc) N z->l.hb≠z.1/\(bs.length≠0->l.bb≠z.1))/\(iX (bq q l bs cs) (gm l.bb bs.length l.bc) N z->l.hb≠z.1/\(cs.length≠0->l.cb≠z.1)):=by
 have h0:=List.pairwise_cons.1 hp
 have h1:=List.pairwise_append.1 h0.2
 refine⟨λh=>?_,λh=>?_⟩
 ·rcases ru h with⟨hc,e⟩|h2
  ·rw[e]
   exact⟨h0.1 _ (List.mem_append_right _ (aR.2 ⟨hc,rfl⟩)),λhb=>h1.2.2 _ (aR.2 ⟨hb,rfl⟩) _ (aR.2 ⟨hc,rfl⟩)⟩
  ·exact⟨h2 _ (cO q l bs cs),λhb=>h2 _ (fH hb)⟩
 ·rcases ru h with⟨hc,e⟩|h2
  ·rw[e]
   exact⟨h0.1 _ (List.mem_append_left _ (aR.2 ⟨hc,rfl⟩)),λhb=>(h1.2.2 _ (aR.2 ⟨hc,rfl⟩) _ (aR.2 ⟨hb,rfl⟩)).symm⟩
  ·exact⟨h2 _ (cO q l bs cs),λhb=>h2 _ (jS hb)⟩
theorem oT (h:l.hb≠b):bI l.hb (wX q l bs.length cs.length)∈jA (bq q l bs cs) b its:=gP (cO q l bs cs) h
def HL.lF (l:HL) (z:Nat×Nat):HL:={ l with cb:=z.1,cc:=z.2 }
def HL.qG (l:HL) (z:Nat×Nat):HL:={ l with bb:=z.1,bc:=z.2 }
theorem kW (h:e.b≠b):e.put b i it=e:=if_neg h
theorem B6 {s:ByteArray} (hp:nB (bq q l bs cs)) (h:iX (bq q l bs cs) (gm l.cb cs.length l.cc) (cs.length+1) z):
  (∀e,e∈bq q (l.lF z) bs (cs++[s])->e∈dm (jA (bq q l bs cs) z.1 (eI (cs.map Value.string++[.string s]) (z.2*1))) l.hb 4 ⟨aG (.slice (some ⟨z.1,0,none⟩) (cs.length+1) z.2),aV _⟩)/\nB (bq q (l.lF z) bs (cs++[s])):=by
 obtain⟨n1,n2⟩:=(oV hp).1 h
 have h0:=List.pairwise_cons.1 hp
 refine⟨λe he=>?_,?_⟩
 ·unfold dm
  rcases List.mem_cons.1 he with rfl|he
  ·refine List.mem_map.2 ⟨bI l.hb (wX q l bs.length cs.length),oT n1,?_⟩
   show Bk.put _ l.hb 4 _=_
   rw[show(bI l.hb (wX q l bs.length cs.length)).put l.hb 4 ⟨aG (.slice (some ⟨z.1,0,none⟩) (cs.length+1) z.2),aV _⟩=bI l.hb ((wX q l bs.length cs.length).set 4 ⟨aG (.slice (some ⟨z.1,0,none⟩) (cs.length+1) z.2),aV _⟩)from if_pos rfl]
   show _=bI l.hb (wX q (l.lF z) bs.length (cs++[s]).length)
   rw[List.length_append]
   rfl
  ·rcases List.mem_append.1 he with he|he
   ·obtain⟨hb,rfl⟩:=aR.1 he
    exact List.mem_map.2 ⟨_,gP (fH hb) (n2 hb),kW (h0.1 _ (List.mem_append_left _ (aR.2 ⟨hb,rfl⟩))).symm⟩
   ·obtain⟨_,rfl⟩:=aR.1 he
    refine List.mem_map.2 ⟨_,jC,?_⟩
    rw[kW (λe=>n1 e.symm)]
    show _=fB z.1 _ _
    rw[List.map_append]
    rfl
 ·refine List.pairwise_cons.2 ⟨λe he=>?_,List.pairwise_append.2 ⟨?_,?_,λx hx y hy=>?_⟩⟩
  ·rcases List.mem_append.1 he with he|he
   ·obtain⟨hb,rfl⟩:=aR.1 he
    exact h0.1 _ (List.mem_append_left _ (aR.2 ⟨hb,rfl⟩))
   ·obtain⟨_,rfl⟩:=aR.1 he
    exact n1
  ·unfold nF; split<;>simp
  ·unfold nF; split<;>simp
  ·obtain⟨hb,rfl⟩:=aR.1 hx
   obtain⟨_,rfl⟩:=aR.1 hy
   exact n2 hb
theorem B5 {s:ig} (hp:nB (bq q l bs cs)) (h:iX (bq q l bs cs) (gm l.bb bs.length l.bc) (bs.length+1) z):
  (∀e,e∈bq q (l.qG z) (bs++[s]) cs->e∈dm (jA (bq q l bs cs) z.1 (eI (bs.flatMap ja++ja s) (z.2*3))) l.hb 2 ⟨aG (.slice (some ⟨z.1,0,none⟩) (bs.length+1) z.2),aV _⟩)/\nB (bq q (l.qG z) (bs++[s]) cs):=by
 obtain⟨n1,n2⟩:=(oV hp).2 h
 have h0:=List.pairwise_cons.1 hp
 refine⟨λe he=>?_,?_⟩
 ·unfold dm
  rcases List.mem_cons.1 he with rfl|he
  ·refine List.mem_map.2 ⟨bI l.hb (wX q l bs.length cs.length),oT n1,?_⟩
   show Bk.put _ l.hb 2 _=_
   rw[show(bI l.hb (wX q l bs.length cs.length)).put l.hb 2 ⟨aG (.slice (some ⟨z.1,0,none⟩) (bs.length+1) z.2),aV _⟩=bI l.hb ((wX q l bs.length cs.length).set 2 ⟨aG (.slice (some ⟨z.1,0,none⟩) (bs.length+1) z.2),aV _⟩)from if_pos rfl]
   show _=bI l.hb (wX q (l.qG z) (bs++[s]).length cs.length)
   rw[List.length_append]
   rfl
  ·rcases List.mem_append.1 he with he|he
   ·obtain⟨_,rfl⟩:=aR.1 he
    refine List.mem_map.2 ⟨_,jC,?_⟩
    rw[kW (λe=>n1 e.symm)]
    show _=fB z.1 _ _
    rw[List.flatMap_append,List.flatMap_singleton]
    rfl
   ·obtain⟨hb,rfl⟩:=aR.1 he
    exact List.mem_map.2 ⟨_,gP (jS hb) (n2 hb),kW (h0.1 _ (List.mem_append_right _ (aR.2 ⟨hb,rfl⟩))).symm⟩
 ·refine List.pairwise_cons.2 ⟨λe he=>?_,List.pairwise_append.2 ⟨?_,?_,λx hx y hy=>?_⟩⟩
  ·rcases List.mem_append.1 he with he|he
   ·obtain⟨_,rfl⟩:=aR.1 he
    exact n1
   ·obtain⟨hb,rfl⟩:=aR.1 he
    exact h0.1 _ (List.mem_append_right _ (aR.2 ⟨hb,rfl⟩))
  ·unfold nF; split<;>simp
  ·unfold nF; split<;>simp
  ·obtain⟨_,rfl⟩:=aR.1 hx
   obtain⟨hb,rfl⟩:=aR.1 hy
   exact(n2 hb).symm
theorem cn.sub {B:Nat->Prop} {w:World} {H':List Bk} (h:cn B w H) (hm:∀e,e∈H'->e∈H) (hp:H'.Pairwise λx y=>x.b≠y.b):cn (λk=>∃e,e∈H'/\e.b=k) w H'/\∀k,(∃e,e∈H'/\e.b=k)->B k:=
 ⟨⟨λ_=>Iff.rfl,hp,λe he=>h.2.2 e (hm e he)⟩,λk ⟨e,he,hb⟩=>(h.1 k).2 ⟨e,hm e he,hb⟩⟩
section
variable {P:Program} {ops:Array Oper} {ms:List Nat} {c:bQ} {V:List Vr} {A:List Al} {G:List aN} {i d:Nat} {x y z:Operand} {ty:TypeId} {pos:String} {aft:Array Edge} {a:Act} {w:World} {fn:Func}{id s:Nat} {H:List Bk}
theorem Ig {H':List Bk} (n0:Nat) (h:Inv c V [] G none_ a w) (hk:V[n0]?=some (aZ id s H)) (e:H.Pairwise (λx y=>x.b≠y.b)->(∀e,e∈H'->e∈H)/\H'.Pairwise λx y=>x.b≠y.b) (hV:bE V=true:=by kernel_rfl) (hG:bT G=true:=by kernel_rfl) (hu:dG V id n0=true:=by kernel_rfl):Inv c (V.set n0 (aZ id s H')) [] G none_ a w:=by
 obtain⟨β,hI⟩:=h
 obtain⟨hH,_,_⟩:=hI.obj hk
 obtain⟨e1,e2⟩:=e hH.2.1
 obtain⟨k1,k2⟩:=hH.sub e1 e2
 have hx:=List.mem_of_getElem? hk
 have Mg:=((aB rfl).1 (hI.var _ hx rfl)).2
 exact⟨_,hI.move (R:=uN H) (R':=uN H') hV hG hk (λy n hn hy=>cX hu y n hn hy) (bX.refl _ _) (λk hk=>.inl (k2 k hk)) (λk hk=>hH.qf (k2 k hk)) (Mg.imp λw h=>(cn.sub h e1 e2).1)⟩
variable {T:TypeId} {v:Vr} {b off:Nat} {its:List It} {p:Pred} {nl:aO p}
theorem lH (N idx:Nat) (he:bI b its∈H) (hi:its[idx]?=some ⟨p,nl⟩:=by exact rfl) (hv:ia N V=some v:=by exact rfl) (ho:bC ms i v=true:=by exact rfl) (bR:v.kd=.obj:=by exact rfl) (hst:(v.st.all λq=>(q.1==i||(ms.getD i 0).testBit q.1)||(ms.getD q.1 0).testBit i)=true:=by kernel_rfl)
  (hc:cont (λj=>(ms.getD i 0).testBit j) v.c0 v.st=uN H:=by exact rfl) (h:Has ms G i y (aG (.pointer (some ⟨b,off,none⟩))):=by exact hs) (hp:Post G i p:=by exact pt rfl) (hoff:off=idx:=by omega) (ht:wQ P T false 1=true:=by kernel_rfl):OpOk P ops ms c V A G i ⟨some d,.load T y,ty,pos,aft,none⟩:=by
 obtain⟨⟨k,hk⟩,_⟩:=cH hv
 exact zl (it:=⟨p,nl⟩) (idx:=idx) k hk ho bR hst hc h he rfl hi (by show off=idx*1; omega) (bV ht) hp
variable {q:Pred}
theorem sH {r:List (Nat×Rel)} (N idx:Nat) (he:bI b its∈H) (hf:Fits 1 false p) (hz:Has ms G i z q) (cz:∀w v,q w v->p w v) (hi:idx<its.length:=by exact of_decide_eq_true rfl) (hv:ia N V=some v:=by exact rfl) (ho:bC ms i v=true:=by exact rfl) (bR:v.kd=.obj:=by exact rfl) (hst:(v.st.all λq=>(q.1==i||(ms.getD i 0).testBit q.1)||(ms.getD q.1 0).testBit i)=true:=by kernel_rfl)
  (hc:cont (λj=>(ms.getD i 0).testBit j) v.c0 v.st=uN H:=by exact rfl) (h:Has ms G i y (aG (.pointer (some ⟨b,off,none⟩))):=by exact hs) (hm:Ci i v.st=some (uN (dm H b idx ⟨p,nl⟩),r):=by exact rfl) (hoff:off=idx:=by omega) (ht:wQ P T false 1=true:=by kernel_rfl)
  (hr:(r.all λr=>(ms.getD r.1 0).testBit i)=true:=by kernel_rfl) (eE:(V.all λy=>y.id==v.id||y.st.all λq=>q.1 != i)=true:=by kernel_rfl):OpOk P ops ms c V A G i ⟨none,.store T y z,ty,pos,aft,none⟩:=by
 obtain⟨⟨k',hk⟩,_⟩:=cH hv
 obtain⟨m,h5,h6⟩:=iV hm
 exact wu (e:=bI b its) (it:=⟨p,nl⟩) k' hk ho bR hst m h5 (by rw[h6]; exact hr) eE hc h he rfl hi (by show off=idx*1; omega) (bV ht) (hz.imp cz) hf
variable {f:FuncId} {ts:Array TypeId} {p0 p1 p2 q2:Pred}
theorem KU (N:Nat) (gj:K2 P f p1 p2 p) (hr:∀B w u,cn B w H->p0 w u->p1 w u) (hn:aO p) (hv:ia N V=some v:=by exact rfl) (ho:bC ms i v=true:=by exact rfl) (bR:v.kd=.obj:=by exact rfl) (hst:(v.st.all λq=>(q.1==i||(ms.getD i 0).testBit q.1)||(ms.getD q.1 0).testBit i)=true:=by kernel_rfl)
  (hc:cont (λj=>(ms.getD i 0).testBit j) v.c0 v.st=uN H:=by exact rfl) (h1:Has ms G i x p0:=by exact hs) (h2:Has ms G i y q2:=by exact hs) (c2:∀w v,q2 w v->p2 w v:=by exact jw) (hp:Post G i p:=by exact pt rfl) (hf:aK P f:=by exactλ_ _=>by kernel_rfl):
  OpOk P ops ms c V A G i ⟨some d,.call ⟨.value (.func f),#[x,y],ts⟩,ty,pos,aft,none⟩:=by
 obtain⟨⟨k,hk⟩,_⟩:=cH hv
 refine fX hf hp λL β a w hI hd=>(by
  rw[show(#[x,y]:Array Operand).map a.eval=#[a.eval x,a.eval y] by simp]
  have hO:=jl hI hd (List.mem_of_getElem? hk) ho bR
  have hH:cn (β v.id) w H:=by
   have:=hO.2.out
   rw[fq hd hst,hc]at this
   exact this
  let M:=minus (own c V L β) (β v.id)
  have hM:cS M w:=λk o hk=>aF hI k o hk.1
  have hsub:∀{w'},Ext M w w'->Ext (own c V L β) w w':=λhe=>he.mono' λk o hk=>hk.1
  refine(gj M w _ _ hM (λw' he=>?_) (λw' he=>(h2.imp c2).spec hI hd w' (hsub he))).mono λe w' Eo=>?_
  ·exact hr (β v.id) w' _ (hH.keep (aF hI) (hsub he) λe hm=>he.block e.b (Bk.je (hH.2.2 e hm)) λo ho=>ho.2 ((hH.1 _).2 ⟨e,hm,rfl⟩)) (h1.spec hI hd w' (hsub he))
  ·obtain⟨v,rfl,da,hv2⟩:=Eo
   exact⟨v,rfl,hn _ w' v ((aF hI).below hv2) da.out,hv2⟩)
variable {t u:TypeId} {A':Option Addr}
theorem vp (r:Bool) (h:Has ms G i x (aG (.pointer A')):=by exact hs) (h2:Has ms G i y (aG (.pointer none)):=by exact hs) (hr:∀w,(do eqGuard .eql t x y (.pointer A') (.pointer none); Go.binOp .eql t (.pointer A') (.pointer none):Sem Value).run P w=.ok (.bool r) w:=by exactλ_=>by kernel_rfl) (hp:Post G i (pB r):=by exact pt rfl):OpOk P ops ms c V A G i ⟨some d,.binOp .eql t x y u,ty,pos,aft,none⟩:=
 eM rfl rfl rfl rfl h h2 hp λρ w h h2=>⟨.bool r,by
  have h:ρ x=.pointer A':=h
  have h2:ρ y=.pointer none:=h2
  show(do pure (Next.value (<-(do eqGuard .eql t x y (ρ x) (ρ y); Go.binOp .eql t (ρ x) (ρ y))))).run P w=_
  rw[h,h2,Sem.run_bind,hr]
  rfl,λ_ _ _=>rfl⟩
theorem Jb (r:Bool) (h:Has ms G i x (aG (.pointer A')):=by exact hs) (h2:Has ms G i y (aG (.pointer none)):=by exact hs) (hr:∀w,(do eqGuard .neq t x y (.pointer A') (.pointer none); Go.binOp .neq t (.pointer A') (.pointer none):Sem Value).run P w=.ok (.bool r) w:=by exactλ_=>by kernel_rfl) (hp:Post G i (pB r):=by exact pt rfl):OpOk P ops ms c V A G i ⟨some d,.binOp .neq t x y u,ty,pos,aft,none⟩:=
 eM rfl rfl rfl rfl h h2 hp λρ w h h2=>⟨.bool r,by
  have h:ρ x=.pointer A':=h
  have h2:ρ y=.pointer none:=h2
  show(do pure (Next.value (<-(do eqGuard .neq t x y (ρ x) (ρ y); Go.binOp .neq t (ρ x) (ρ y))))).run P w=_
  rw[h,h2,Sem.run_bind,hr]
  rfl,λ_ _ _=>rfl⟩
variable {k:Nat}
theorem oL {s:ByteArray} (h:s.size<=k):∀w v,pT s w v->uP k w v:=λ_ _ e=>⟨s,e,h⟩
theorem Dx {j:Nat} (h:j<=k):∀w v,uP j w v->uP k w v:=λ_ _ ⟨s,e,h'⟩=>⟨s,e,Nat.le_trans h' h⟩
theorem DD (j k:Nat) (h1:Has ms G i x p) (c1:∀w v,p w v->uP j w v) (h2:Has ms G i y q) (c2:∀w v,q w v->uP k w v) (hz:j+k<=1000000:=by omega) (hp:Post G i (uP (j+k)):=by exact pt rfl):OpOk P ops ms c V A G i ⟨some d,.binOp .add t x y u,ty,pos,aft,none⟩:=
 bD rfl rfl rfl (.inl rfl) hp λL β a w hI hd=>by
  obtain⟨s,e1,k1⟩:=c1 _ _ (h1.spec hI hd).out
  obtain⟨r,e2,k2⟩:=c2 _ _ (h2.spec hI hd).out
  refine⟨.string (s++r),w,?_,Below.refl _ _,λ_ _=>⟨_,rfl,by rw[ByteArray.size_append]; omega⟩⟩
  show(do pure (Next.value (<-(do eqGuard .add t x y (a.eval x) (a.eval y); Go.binOp .add t (a.eval x) (a.eval y))))).run P w=_
  rw[e1,e2]
  have hgd:eqGuard .add t x y (.string s) (.string r)=pure ():=by unfold eqGuard; rfl
  have hb:Go.binOp .add t (.string s) (.string r)=Op.stringOp .add s r:=rfl
  rw[hgd,hb,pure_bind,Sem.run_bind,run_string_add_sum w s r (by omega)]
  rfl
theorem Dn {α:Type} {φ:α->Prop} {f:α->Value} (n0:Nat) (h:Inv c V [] G none_ a w) (hk:G[n0]?=some ⟨none,none,s,λ_ v=>∃z,φ z/\v=f z⟩):∃z,φ z/\Inv c V [] (⟨none,none,s,aG (f z)⟩::G) none_ a w:=by
 obtain⟨β,hI⟩:=h
 obtain⟨z,h1,h2⟩:=(hI.ew _ (List.mem_of_getElem? hk) rfl rfl).out
 refine⟨z,h1,β,hI.sD λe he ho hf=>?_⟩
 rcases List.mem_cons.1 he with rfl|he
 ·exactλ_ _=>h2
 ·exact hI.ew e he ho hf
def jz {Λ:Type} (B:Nat->Prop) (C:Λ->Prop) (E:Λ->Ending) (H:Λ->List Bk) (w:World) (e:Ending) (w':World):Prop:=∃(l:Λ) (B':Nat->Prop),C l/\e=E l/\bX B w w'/\(∀k,B' k->B k\/w.heap.size<=k)/\cn B' w' (H l)
abbrev L1 {Λ:Type} (P:Program) (f:FuncId) (H0:List Bk) (p0:Pred) (C:Λ->Prop) (E:Λ->Ending) (H:Λ->List Bk):Prop:=∀(M:Nat->Nat->Prop) (B:Nat->Prop) (w:World) (v0:Value),cS M w->(∀k,B k->∀o,¬M k o)->cn B w H0->aJ (plus M B) jd w->aJ (plus M B) (λw=>p0 w v0) w->Calls P f #[v0] w (jz B C E H w)
abbrev L2 {Λ:Type} (P:Program) (f:FuncId) (H0:List Bk) (p0 p1:Pred) (C:Λ->Prop) (E:Λ->Ending) (H:Λ->List Bk):Prop:=∀(M:Nat->Nat->Prop) (B:Nat->Prop) (w:World) (v0 v1:Value),cS M w->(∀k,B k->∀o,¬M k o)->cn B w H0->aJ (plus M B) jd w->aJ (plus M B) (λw=>p0 w v0) w->aJ (plus M B) (λw=>p1 w v1) w->Calls P f #[v0,v1] w (jz B C E H w)
variable {Λ:Type} {C:Λ->Prop} {E:Λ->Ending} {M:Nat->Nat->Prop} {B:Nat->Prop} {N:Nat}
theorem tS {H:Λ->List Bk} {D:Code} {v0 v1:Value} {H0:List Bk} (hf:P.funcs[f]?=some fn) (hb:fn.body=some D) (hN:fn.ntmps=N) (hlen:decide ([v0,v1].length<=N)=true) (hM:cS M w) (jx:∀k,B k->∀o,¬M k o) (hH:cn B w H0)
  (h0:aJ (plus M B) (λw=>p0 w v0) w) (h1:aJ (plus M B) (λw=>p1 w v1) w) (h:∀a,Inv ⟨N,w,M,B⟩ [aZ N N H0] [] [Uz 0 p0,Uz 1 p1] none_ a w->D.ww none [] P (bodyPost P fn (jz B C E H w)) a w):Calls P f #[v0,v1] w (jz B C E H w):=
 vt (G:=[Uz 0 p0,Uz 1 p1]) hf hb hN hlen hM jx hH (show eR (plus M B) w [v0,v1] [Uz 0 p0,Uz 1 p1]from⟨⟨rfl,_,rfl,h0⟩,⟨rfl,_,rfl,h1⟩,trivial⟩) h
variable {Hl:Λ->List Bk} {n0:Nat} {w0:World}
theorem xE {v:Value} {β:Nat->Nat->Prop} (l:Λ) (hC:C l) (hI:aQ ⟨N,w0,M,B⟩ V [] G none_ β a w) (hk:V[n0]?=some (aZ id s (Hl l))) (hr:(results fn a.tmps).run P w=.ok v w) (hE:E l=.returned v):bodyPost P fn (jz B C E Hl w0) .ret a w:=by
 obtain⟨h1,h2,_⟩:=hI.obj hk
 exact fU hI (v:=v) hr ⟨l,β id,hC,hE.symm,hI.below,λk hk'=>(h2 k hk').symm,h1⟩
theorem xF (l:Λ) (hC:C l) (hI:Inv ⟨N,w0,M,B⟩ V [] G none_ a w) (hk:V[n0]?=some (aZ id s (Hl l))) (hr:fn.results=#[]) (hE:E l=.returned (.tuple #[])):bodyPost P fn (jz B C E Hl w0) .ret a w:=by
 obtain⟨β,hI⟩:=hI
 exact xE l hC hI hk (results_none hr _ _ _) hE
variable {r:ResultVar}
theorem GD {v:Value} (l:Λ) (hC:C l) (hI:Inv ⟨N,w0,M,B⟩ V [] G none_ a w) (hk:V[n0]?=some (aZ id s (Hl l))) (hr:fn.results=#[r]) (h:cw P V G r (aG v)) (hE:E l=.returned v):bodyPost P fn (jz B C E Hl w0) .ret a w:=by
 obtain⟨β,hI⟩:=hI
 obtain⟨v',k1,k2⟩:=h.run hI
 have e:v'=v:=k2.out
 subst e
 refine xE l hC hI hk ?_ hE
 rw[cu,hr]
 simp[k1]
theorem CK {r':ResultVar} {v v':Value} (l:Λ) (hC:C l) (hI:Inv ⟨N,w0,M,B⟩ V [] G none_ a w) (hk:V[n0]?=some (aZ id s (Hl l))) (hr:fn.results=#[r,r']) (h:cw P V G r (aG v)) (h':cw P V G r' (aG v')) (hE:E l=.returned (.tuple #[v,v'])):bodyPost P fn (jz B C E Hl w0) .ret a w:=by
 obtain⟨β,hI⟩:=hI
 obtain⟨u,k1,k2⟩:=h.run hI
 obtain⟨u',j1,j2⟩:=h'.run hI
 have e:u=v:=k2.out
 have e':u'=v':=j2.out
 subst e e'
 refine xE l hC hI hk ?_ hE
 rw[cu,hr]
 simp[k1,j1,Sem.run_bind]
variable {hd:Λ->Value}
theorem tU {args:Array Operand} {ops:Array Oper} (hf:aK P f) (h:Inv c V [] G none_ a w) (hk:V[n0]?=some (aZ id s H))
  (hc:∀β,aQ c V [] G none_ β a w->Calls P f (args.map a.eval) w (jz (β id) C (λl=>.returned (hd l)) Hl w)) (hd':decide (d<c.N)=true)
  (hV:(V.all λy=>(y.slot != d)&&(y.born.isNone&&y.dead.isNone))=true) (hu:(V.filter λy=>y.id==id).length=1) (hG:(G.all λe=>e.slot != d)=true):
  aW P ops ⟨some d,.call ⟨.value (.func f),args,ts⟩,ty,pos,aft,none⟩ a w (λa w=>∃l,C l/\Inv c (V.set n0 (aZ id s (Hl l))) [] (⟨none,none,d,aG (hd l)⟩::G) none_ a w):=by
 obtain⟨β,hI⟩:=h
 refine .of rfl (gB hf ((hc β hI).mono ?_))
 rintro e w' ⟨l,B',k1,rfl,k2,k3,k4⟩
 exact⟨_,rfl,l,k1,hI.pY hk k2 k3 k4 (of_decide_eq_true hd') hV hu hG⟩
theorem Jg {q1:Pred} {ops:Array Oper} (n0:Nat) (kK:aJ (λk o=>c.M0 k o\/c.dc k) jd c.w0) (gj:L2 P f H p1 p2 C (λl=>.returned (hd l)) Hl) (h1:Has [0] G 0 x q1:=by exact hs) (c1:∀w v,q1 w v->p1 w v:=by exact jw) (h2:Has [0] G 0 y q2:=by exact hs) (c2:∀w v,q2 w v->p2 w v:=by exact jw)
  (hk:V[n0]?=some (aZ id s H):=by exact rfl) (hf:aK P f:=by exactλ_ _=>by kernel_rfl) (hd':decide (d<c.N)=true:=by kernel_rfl)
  (hV:(V.all λy=>(y.slot != d)&&(y.born.isNone&&y.dead.isNone))=true:=by kernel_rfl) (hu:(V.filter λy=>y.id==id).length=1:=by kernel_rfl) (hG:(G.all λe=>e.slot != d)=true:=by kernel_rfl):∀a w,Inv c V [] G none_ a w ->
  aW P ops ⟨some d,.call ⟨.value (.func f),#[x,y],ts⟩,ty,pos,aft,none⟩ a w (λa w=>∃l,C l/\Inv c (V.set n0 (aZ id s (Hl l))) [] (⟨none,none,d,aG (hd l)⟩::G) none_ a w):=λa w h=>
 tU hf h hk (λβ hI=>by
  rw[show(#[x,y]:Array Operand).map a.eval=#[a.eval x,a.eval y] by simp]
  exact gj _ _ w _ _ (kP (aF hI)) (λk hk o ho=>ho.2 hk) (hI.obj hk).1 (ee hI hk (ki kK hI)) (ee hI hk ((h1.imp c1).spec hI gl)) (ee hI hk ((h2.imp c2).spec hI gl))) hd' hV hu hG
end
end Wx
