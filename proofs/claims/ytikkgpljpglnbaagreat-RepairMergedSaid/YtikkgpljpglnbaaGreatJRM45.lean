import Derived.Test.YtikkgpljpglnbaaGreatJRM44
import Derived.Test.YtikkgpljpglnbaaGreatJRM42
namespace Wx
set_option maxRecDepth 100000
open Go Go.RowKit Go.Proofs
set_option linter.unusedVariables false
attribute [local irreducible] OpOk
def qP (n:Nat) (S:List Pt) (q:Nat):List Pt:=(List.range n).map λi=>if i<(eu S q).length then ae (eu S q) i else ae S i
variable {n q i:Nat} {S:List Pt}
theorem nc (h:i<n):ae (qP n S q) i=if i<(eu S q).length then ae (eu S q) i else ae S i:=by
 unfold qP
 rw[show ae (List.map _ (List.range n)) i=_ from rfl]
 unfold ae
 rw[List.getD_eq_getElem?_getD,List.getElem?_map,List.getElem?_range h]
 rfl
theorem F8 (h1:(eu S q).length<=i) (h:i<n):ae (qP n S q) i=ae S i:=by
 rw[nc h,if_neg (by omega)]
theorem GB {L L':List Pt} (h:∀i,i<n->ae L i=ae L' i):∀w v,oF n L w v->oF n L' w v:=λw v ⟨cs,e,hc⟩=>⟨cs,e,λi hi=>by show cT (ae L' i) w _; rw[<-h i hi]; exact hc i hi⟩
variable {k:Nat}
theorem E9 (hk:1<=k) (hne:∀j,1<=j->j<k->ae S j≠ae S (j-1)) (he:ae S k=ae S (k-1)):(eu S (k+1)).length=k/\∀i,i<k->ae (eu S (k+1)) i=ae S i:=by
 obtain⟨j,rfl⟩:∃j,k=j+1:=⟨k-1,by omega⟩
 rw[Ar (show ae S (j+1)=ae S j from he)]
 exact rZ hne
theorem DR (h:(eu S (k+1)).length=k/\∀i,i<k->ae (eu S (k+1)) i=ae S i):∀i,i<n->ae S i=ae (qP n S (k+1)) i:=λi hi=>by
 rw[nc hi,h.1]
 by_cases g:i<k
 ·rw[if_pos g,h.2 i g]
 ·rw[if_neg g]
theorem Ki (hq:1<=q) (h:ae S q≠ae S (q-1)):eu S (q+1)=eu S q++[ae S q]:=by
 obtain⟨j,rfl⟩:∃j,q=j+1:=⟨q-1,by omega⟩
 exact Au h
theorem Kh (hq:1<=q) (h:ae S q=ae S (q-1)):eu S (q+1)=eu S q:=by
 obtain⟨j,rfl⟩:∃j,q=j+1:=⟨q-1,by omega⟩
 exact Ar h
theorem Jo (hq:1<=q) (h:ae S q≠ae S (q-1)):∀i,i<n->ae (qP n S (q+1)) i=if i=(eu S q).length then ae S q else ae (qP n S q) i:=λi hi=>by
 rw[nc hi,nc hi,Ki hq h,er]
 by_cases g:i=(eu S q).length
 ·rw[if_pos g,if_pos (by omega),g,lT]
 ·rw[if_neg g]
  by_cases g2:i<(eu S q).length
  ·rw[if_pos (by omega),if_pos g2,mM g2]
  ·rw[if_neg (by omega),if_neg g2]
theorem F9 (hq:1<=q) (h:ae S q=ae S (q-1)):∀i,i<n->ae (qP n S q) i=ae (qP n S (q+1)) i:=λi hi=>by
 rw[nc hi,nc hi,Kh hq h]
theorem MF (h1:i<(eu S q).length) (h:i<n):ae (eu S q) i=ae (qP n S q) i:=by
 rw[nc h,if_pos h1]
variable {b:Nat}
theorem Fo {P:Program} {V:List Vr} {G:List aV} {a:Act} {w:World} {fn:Func} {N n0 s:Nat} {w0:World} {M:Nat->Nat->Prop} {q q':Pred} {v v':Value} (hI:Inv ⟨N,w0,M,(·=b)⟩ V [] G none_ a w) (hr:fn.results=#[.tmp s]) (hk:V[n0]?=some (dy N b n q)) (hv:v=v') (hq:∀w u,q w u->q' w u) (h1:fD s G=some (bp v):=by exact rfl):bodyPost P fn (rM M b n (bp v') q' w0) .ret a w:=by
 subst hv
 obtain⟨β,hI⟩:=hI
 obtain⟨hβ,cs,T,m1,m2,m3,m4⟩:(∀k,β N k↔k=b)/\One b n q w:=((aK rfl).1 (hI.var _ (List.mem_of_getElem? hk) rfl)).2.out
 obtain⟨k1,nD⟩:=dn h1
 have es:sl a s=v:=(hI.gY _ (List.mem_of_getElem? nD) rfl rfl).out
 refine iN hI (v:=sl a s) ?_ ⟨_,rfl,λ_ _=>es,hI.below,cs,T,m1,m2,m3,hq _ _ m4⟩
 rw[dm,hr]
 simp[nw,sl]
theorem JF (h:(eu S n).length=n/\∀i,i<n->ae (eu S n) i=ae S i):∀w v,oF n S w v->oF (eu S n).length (eu S n) w v:=by
 rw[h.1]
 exact GB λi hi=>(h.2 i hi).symm
theorem MW (h:q=n):∀w v,oF (eu S q).length (eu S q) w v->oF (eu S n).length (eu S n) w v:=by
 subst h
 exactλ_ _ h=>h
set_option maxHeartbeats 2000000 in
theorem AV {m cap:Nat} (h:2<=n/\n<=1000/\n*2<=m/\n<=cap):∀(M:Nat->Nat->Prop) (w:World) (v0:Value),cR M w->(∀o,¬M b o)->One b m (oF n S) w->aM (jA M b) (λw=>bp (.slice (some ⟨b,0,none⟩) n cap) w v0) w->Calls Tryz.prog 36 #[v0] w (rM M b m (bp (.slice (some ⟨b,0,none⟩) (eu S n).length cap)) (oF (eu S n).length (eu S n)) w):=by
 obtain⟨h1,h2,h3,h4⟩:=h
 intro M w0 v0 hM OZ h0 hv0
 refine Qb (N:=61) Tryz.func36 rfl rfl hM OZ (bU λ_=>cF _) h0 hv0 λa hI=>?_
 refine aW hI 1 [] [] [Uc 0 2 _] (.k .z) (.k .z) ⟨mv,trivial⟩ (.k .z) (.kk .z) λa w hI=>?_
 refine av ?_
 refine aW hI 3 [] [] [Uc 0 6 _,Uc 1 7 _,Uc 2 8 _] (.k .z) (.kk .z) ⟨mv,KO,bn,trivial⟩ (.k .z) (.dx (.k .z)) λa w hI=>?_
 refine iK hI (λt1=>?_) (λt1=>?_)
 ·exfalso; omega
 refine aB ?_
 refine ah ?_
 refine av ?_
 refine aW hI 1 [] [] [Uc 0 3 _] (.k .z) (.cQ .z) ⟨mv,trivial⟩ (.k .z) (.mX .z) λa w hI=>?_
 refine aD ?_
 refine vL [dy 61 b m _] [Uz 0 _] (λ(k:Nat)=>[]) (λ(k:Nat)=>[Uz 3 (pI (k:Int))]) (λ(k:Nat)=>1<=k/\k<=n/\∀j,1<=j->j<k->ae S j≠ae S (j-1)) (λ(k:Nat)=>n-k) (1) ⟨Nat.le_refl _,by omega,λj h1 h2=>absurd h2 (Nat.not_lt.2 h1)⟩ hI ⟨vO,trivial⟩ ⟨gi,gc,trivial⟩ ?_
 intro k a w hk hI
 refine av ?_
 refine aW hI 4 [] [] [Uc 0 10 _,Uc 1 11 _,Uc 2 12 _,Uc 3 13 _] (.k .z) (.kk .z) ⟨mv,mv,KO,bn,trivial⟩ (.k .z) (.dx (.dk .z)) λa w hI=>?_
 refine iK hI (λt2=>?_) (λt2=>?_)
 ·
  refine aB ?_
  refine ah ?_
  refine av ?_
  refine aD ?_
  refine BP hI [0,0,3,7,0,0,32,112,240,511] [] [] [Uc 0 16 _,Uc 1 17 _,Uc 2 18 _,Uc 3 19 _,Uc 4 20 _,Uc 5 21 _,Uc 6 22 _,Uc 7 23 _,Uc 8 24 _,Uc 9 25 _] (.k .z) (.cQ .z) ⟨mv,mv,iX 2 k,My 61 k,mv,mv,bn,iX 2 (k-1),My 61 (k-1),T7,trivial⟩ (.k .z) (.dx (.d8 (.k .z))) λa w hI=>?_
  refine iK hI (λt3=>?_) (λt3=>?_)
  ·
   have R9:=E9 (S:=S) hk.1 hk.2.2 t3
   have uV:(k:Int)=(((eu S (k+1)).length:Nat):Int):=by rw[R9.1]
   refine aW hI 4 [] [] [Uc 0 26 _,Uc 1 27 _,Uc 2 28 _,Uc 3 4 _] (.k .z) (.cQ .z) ⟨mv,mv,P8 2 k,mv,trivial⟩ (.k .z) (.dx (.lW .z)) λa w hI=>?_
   refine av ?_
   refine aW hI 1 [] [] [Uc 0 5 _] (.k .z) (.cQ .z) ⟨mv,trivial⟩ (.k .z) (.aq .z) λa w hI=>?_
   refine aD ?_
   refine vL [] [Uz 0 _,Uz 4 _] (λ(j:Nat)=>[dy 61 b m (oF n (qP n S (k+(j))))]) (λ(j:Nat)=>[Uz 5 (pI (j:Int)),Uz 3 (pI (((eu S (k+(j))).length:Nat):Int))]) (λ(j:Nat)=>1<=j/\k+j<=n/\(eu S (k+(j))).length+1<=k+j) (λ(j:Nat)=>n-j) (1) ⟨Nat.le_refl _,by omega,by rw[R9.1]; exact Nat.le_refl _⟩ hI ⟨vO (GB (DR R9)),trivial⟩ ⟨gi,gi,gc,gC (cG uV),trivial⟩ ?_
   intro j a w hj hI
   have hW:=hj.2.2
   refine av ?_
   refine aW hI 4 [] [] [Uc 0 29 _,Uc 1 30 _,Uc 2 31 _,Uc 3 32 _] (.k .z) (.aq .z) ⟨mv,mv,KO,bn,trivial⟩ (.k .z) (.aq (.ew .z)) λa w hI=>?_
   refine iK hI (λt4=>?_) (λt4=>?_)
   ·
    have IX:=F8 (n:=n) (S:=S) (q:=k+j) (i:=k+j) (by omega) (by omega)
    have NC:=F8 (n:=n) (S:=S) (q:=k+j) (i:=k+j-1) (by omega) (by omega)
    refine aB ?_
    refine ah ?_
    refine av ?_
    refine aD ?_
    refine BP hI [0,0,3,7,0,0,32,112,240,511] [] [] [Uc 0 35 _,Uc 1 36 _,Uc 2 37 _,Uc 3 38 _,Uc 4 39 _,Uc 5 40 _,Uc 6 41 _,Uc 7 42 _,Uc 8 43 _,Uc 9 44 _] (.k .z) (.aq (.k .z)) ⟨mv,mv,iX 2 j,My 61 (k+j) (hp:=by rw[IX]; exact pt rfl),mv,mv,bn,iX 2 (j-1),My 61 (k+j-1) (hp:=by rw[NC]; exact pt rfl),UO,trivial⟩ (.k .z) (.aq (.d8 (.lW .z))) λa w hI=>?_
    refine iK hI (λt5=>?_) (λt5=>?_)
    ·
     have Pu:ae S (k+j)≠ae S (k+j-1):=t5
     have k3:(eu S (k+(j+1))).length=(eu S (k+j)).length+1:=by
      show(eu S (k+j+1)).length=_
      rw[Ki (by omega) Pu,er]
     have k4:((eu S (k+j)).length:Int)+1=(((eu S (k+(j+1))).length:Nat):Int):=by rw[k3]; rfl
     refine aW hI 8 [] [] [Uc 0 45 _,Uc 1 46 _,Uc 2 47 _,Uc 3 48 _,Uc 4 49 _,Uc 5 50 _,Uc 6 51 _] (.u none [(7,_)] .z) (.aq (.k .z)) ⟨mv,mv,mv,mv,iX 2 j,My 61 (k+j) (hp:=by rw[IX]; exact pt rfl),iX 2 ((eu S (k+j)).length),Ts 61 (q:=(eu S (k+j)).length) (qP n S (k+j+1)) (Jo (by omega) Pu),trivial⟩ (.s .o .z) (.aq (.d8 .z)) λa w hI=>?_
     refine tX hI 3 [] [] [Uc 0 52 _,Uc 1 53 _,Uc 2 3 _] (.k .z) (.cQ (.t 2 .z)) ⟨mv,bn,mv,trivial⟩ (.k .z) (.dg (.lW .z)) λa w hI=>?_
     refine aQ ?_
     refine ah ?_
     refine tX hI 3 [] [] [Uc 0 33 _,Uc 1 34 _,Uc 2 5 _] (.k .z) (.kk (.t 2 (.k .z))) ⟨mv,bn,mv,trivial⟩ (.k .z) (.mX (.lW .z)) λa w hI=>?_
     refine ah ?_
     exact uq (j+1) ⟨by omega,by omega,by rw[k3]; omega⟩ hI ⟨vO,trivial⟩ ⟨gc,gc,gc,gC (cG k4),trivial⟩ (by omega)
    ·
     have heq:ae S (k+j)=ae S (k+j-1):=Decidable.not_not.1 t5
     have k3:(eu S (k+(j+1))).length=(eu S (k+j)).length:=by
      show(eu S (k+j+1)).length=_
      rw[Kh (by omega) heq]
     have k4:(((eu S (k+j)).length:Nat):Int)=(((eu S (k+(j+1))).length:Nat):Int):=by rw[k3]
     refine aB ?_
     refine aQ ?_
     refine ah ?_
     refine tX hI 3 [] [] [Uc 0 33 _,Uc 1 34 _,Uc 2 5 _] (.k .z) (.kk (.t 2 (.kk .z))) ⟨mv,bn,mv,trivial⟩ (.k .z) (.mX (.ew .z)) λa w hI=>?_
     refine ah ?_
     exact uq (j+1) ⟨by omega,by omega,by rw[k3]; omega⟩ hI ⟨vO (GB (F9 (n:=n) (q:=k+j) (by omega) heq)),trivial⟩ ⟨gc,gc,gc,gC (cG k4),trivial⟩ (by omega)
   ·
    have Us:k+j=n:=by omega
    refine cj ?_
    refine aH ?_
    refine aH ?_
    refine aY ?_
    refine ah ?_
    refine nC hI 4 3 [] [] [Uc 0 54 _,Uc 1 55 _,Uc 2 56 _] (.k .z) (.aq (.k .z)) ⟨mv,mv,P8 2 ((eu S (k+j)).length),trivial⟩ (.k .z) (.wI (.ew .z)) (⟨_,Iq (n0:=0) (b:=b) (m:=m) (n:=n) (L:=qP n S (k+j)) (k:=(eu S (k+j)).length) (L':=eu S (k+j)) (hT:=Tryz.underlying22) (hz:=λ_=>by kernel_rfl) (λi hi=>MF hi (by omega)) (by omega) (by omega),rfl⟩) λa w hI=>?_
    dsimp only[List.set]at hI
    refine aW hI 4 [] [] [Uc 0 57 _,Uc 1 58 _,Uc 2 59 _,Uc 3 2 _] (.k .z) (.cQ .z) ⟨mv,mv,Tq 2 ((eu S (k+j)).length),mv,trivial⟩ (.k .z) (.dx (.lW .z)) λa w hI=>?_
    refine aJ ?_
    refine aO ?_
    refine aG ?_
    refine aG ?_
    refine aO ?_
    refine aG ?_
    exact Fo (n0:=0) hI rfl rfl (show Value.slice (some ⟨b,0,none⟩) (eu S (k+j)).length cap=.slice (some ⟨b,0,none⟩) (eu S n).length cap by rw[Us]) (MW Us)
  ·
   have hnk:ae S k≠ae S (k-1):=t3
   refine aB ?_
   refine aQ ?_
   refine ah ?_
   refine tX hI 3 [] [] [Uc 0 14 _,Uc 1 15 _,Uc 2 3 _] (.k .z) (.k (.t 2 (.k .z))) ⟨mv,bn,mv,trivial⟩ (.k .z) (.fN (.dk .z)) λa w hI=>?_
   refine ah ?_
   exact uq (k+1) ⟨by omega,by omega,λj a b=>if e:j=k then by rw[e]; exact hnk else hk.2.2 j a (by omega)⟩ hI ⟨vO,trivial⟩ ⟨gc,gc,trivial⟩ (by omega)
 ·
  have hkn:k=n:=by omega
  have hsm:=rZ (S:=S) (k:=n) (by rw[<-hkn]; exact hk.2.2)
  refine cj ?_
  refine aH ?_
  refine aH ?_
  refine aY ?_
  refine ah ?_
  refine aW hI 2 [] [] [Uc 0 60 _,Uc 1 2 _] (.k .z) (.cQ .z) ⟨mv,mv,trivial⟩ (.k .z) (.bL (.k .z)) λa w hI=>?_
  refine aJ ?_
  exact Fo (n0:=0) hI rfl rfl (show Value.slice (some ⟨b,0,none⟩) n cap=.slice (some ⟨b,0,none⟩) (eu S n).length cap by rw[hsm.1]) (JF hsm)
end Wx

namespace Wx
set_option maxRecDepth 100000
open Go Go.RowKit Go.Proofs
set_option linter.unusedVariables false
attribute [local irreducible] OpOk
noncomputable abbrev rC (L:List Pt):List Pt:=dV (cL L).length (cL L)
variable {L:List Pt}
set_option maxHeartbeats 2000000 in
theorem Jh (h:Ic L):K1 Tryz.prog 18 (fF L) (bK 2 true ((aj (cL L) (cL L).length).length-1+((aj (rC L) (cL L).length).length-1)) λi=>cT (ae (dL (cL L) (rC L) (cL L).length) i)):=by
 intro M w0 v0 hM hv0
 have h2:=h.two
 have hm:=h.max
 have hc:=EU (L:=L) (by omega)
 have nR:=hc.le
 have hc2:=h.c2
 obtain⟨hlo,SL⟩:=Dh hc.NK hc2
 have QF:2<=(aj (rC L) (cL L).length).length:=SL
 have Cn:=dP (cL L) (cL L).length
 have hl2:=dP (rC L) (cL L).length
 have Qw:∀q,q<(cL L).length->bG 16777216 (ae (cL L) q):=λq hq=>by
  obtain⟨j,hj,e⟩:=hc.mem q hq
  rw[e]
  exact kj _ hj
 have EA:∀q,q<(cL L).length->bG 16777216 (ae (rC L) q):=λq hq=>by rw[jZ hq]; exact Qw _ (by omega)
 refine uA (N:=21) Tryz.func18 rfl rfl rfl hM hv0 λa hI=>?_
 refine bH hI 1 [Uc 0 2 _] (.k .z) ⟨mv,trivial⟩ (.kk .z) λa w hI=>?_
 refine nC hI 3 1 [] [] [Uc 0 5 _] .z (.kk .z) ⟨mv,trivial⟩ .z (.Dn .z) (T4 (yO (L:=L)) ⟨by omega,by omega⟩ (λ_=>cF _)) λa w hI=>?_
 obtain⟨b6,c6,O3,hI⟩:=hI
 have Up:(cL L).length<=c6/\c6<=maxLen:=⟨by omega,O3.2⟩
 refine nC hI 2 1 [] [] [Uc 0 7 _] (.k .z) (.cQ .z) ⟨mv,trivial⟩ (.k .z) (.mX .z) ⟨_,TZ (n0:=0) (FY (L:=L) (b:=b6) (n:=L.length) (N:=c6*2) (c:=c6)) (c1:=λ_ _ h=>h) (c2:=λ_ _ h=>h) (hφ:=⟨h.near,hm,by omega⟩) (hp:=bO _) (hq:=bU λ_=>cF _),rfl⟩ λa w hI=>?_
 dsimp only[List.set]at hI
 refine nC hI 3 1 [] [] [Uc 0 9 _] (.k .z) (.aq .z) ⟨mv,trivial⟩ (.k .z) (.Fa (.k .z)) (Oh (n0:=0) (AV (S:=sL L) (b:=b6) (m:=c6*2) (n:=L.length) (cap:=c6)) ⟨h2,hm,by omega,O3.1⟩ (bU λ_=>cF _) (c1:=λ_ _ h=>h)) λa w hI=>?_
 dsimp only[List.set]at hI
 refine aW hI 1 [] [] [Uc 0 3 _] (.k .z) (.cQ .z) ⟨mv,trivial⟩ (.k .z) (.mX .z) λa w hI=>?_
 refine nC hI 4 2 [] [] [Uc 0 11 _,Uc 1 12 _] (.k .z) (.cQ .z) ⟨mv,mv,trivial⟩ (.k .z) (.aq (.k .z)) (T3 (n0:=0) (oh (S:=cL L) rfl) ⟨hc2,by omega,Qw,hlo⟩ (λ_=>cF _) (hc:=Up)) λa w hI=>?_
 obtain⟨Vs,c13,R1,hI⟩:=hI
 refine nC hI 2 1 [] [] [Uc 0 14 _] (.k (.k .z)) (.aq (.kk .z)) ⟨mv,trivial⟩ (.k (.k .z)) (.aq (.lW .z)) ⟨_,Ri (n0:=1) (uY (L:=cL L) (b:=b6) (n:=(cL L).length) (N:=c6*2) (c:=c6)) (c1:=λ_ _ h=>h) (hφ:=⟨by omega,by omega,Qw⟩) (hp:=bO _) (hq:=bU λ_=>cF _),rfl⟩ λa w hI=>?_
 dsimp only[List.set]at hI
 refine nC hI 6 4 [] [] [Uc 0 16 _,Uc 1 17 _,Uc 2 18 _,Uc 3 19 _] (.k (.k .z)) (.aq (.kk .z)) ⟨mv,mv,mv,T2 (oh (S:=rC L) oL) 6 ⟨hc2,by omega,EA,QF⟩ (λ_=>cF _) (hcap:=Up),trivial⟩ (.k (.k .z)) (.bL (.Fa (.dk .z))) (E5 (n0:=0) (λi=>cT (ae (dL (cL L) (rC L) (cL L).length) i)) yF (by omega) (hnf:=λ_=>cF _) (hng:=λ_=>cF _) (hfit:=λ_=>cm _)) λa w hI=>?_
 obtain⟨s',hI⟩:=hI
 dsimp only[List.set]at hI
 have hI:=Bz hI 0 2 rfl (by kernel_rfl)
 dsimp only[List.eraseIdx]at hI
 refine aJ ?_
 exact dB hI rfl fK
theorem FR (h:Ic L):K1 Tryz.prog 18 (fF L) (fF (hL L)):=by
 have k:=Jh h
 rw[<-pO]at k
 exact k
theorem GG (h:bJ L=0):ae L 0≠ae L 1:=λe=>by
 obtain⟨hn,_,he⟩:=bY h
 have h1:dS L.length 0=1:=Nat.mod_eq_of_lt (by omega)
 have:=he 0 (by omega) 2 (by omega) (by decide) (by rw[h1]; decide)
 rw[h1,e,Et]at this
 exact absurd this (by decide)
variable {K:List Pt} {q:Nat}
theorem kN (h:q<K.length):ae (K++L) q=ae K q:=by
 unfold ae
 rw[List.getD_eq_getElem?_getD,List.getD_eq_getElem?_getD,List.getElem?_append_left h]
theorem Ak (h:K.length<=q):ae (K++L) q=ae L (q-K.length):=by
 unfold ae
 rw[List.getD_eq_getElem?_getD,List.getD_eq_getElem?_getD,List.getElem?_append_right h]
theorem nX {k l:Int} (h1:aR K k=0) (h2:aR L l=0):Ic (K++L):=by
 have p1:=aP h1
 have p2:=aP h2
 have l1:=cA p1
 have l2:=cA p2
 have hlen:(K++L).length=K.length+L.length:=List.length_append
 have hn:tq (K++L):=λq hq=>by
  by_cases g:q<K.length
  ·rw[kN g]; exact di p1 q g
  ·rw[Ak (by omega)]; exact di p2 _ (by omega)
 refine⟨by omega,by omega,hn,?_⟩
 have hc:=EU (L:=K++L) (by omega)
 obtain⟨i,hi,ei⟩:=(oQ (n:=(K++L).length) (p:=ae (K++L) 0) hn).2 ⟨0,by omega,rfl⟩
 obtain⟨j,hj,ej⟩:=(oQ (n:=(K++L).length) (p:=ae (K++L) 1) hn).2 ⟨1,by omega,rfl⟩
 refine IA hc hi hj λe=>GG p1 ?_
 have e:ae (dN (K++L).length (K++L)) i=ae (dN (K++L).length (K++L)) j:=e
 rw[ei,ej,kN (by omega),kN (by omega)]at e
 exact e
noncomputable def bN (K L:List Pt) (k l:Int):Int:=if aR K k≠0 then aR K k else if aR L l≠0 then aR L l else if(hL (K++L)).length>10 then 4 else 0
noncomputable def js (K L:List Pt) (k l:Int):List Pt:=if bN K L k l=0 then hL (K++L)else[]
noncomputable def nh (K L:List Pt) (k l:Int):Int:=if bN K L k l=0 then dh k l else 0
section
variable {K L:List Pt} {k l:Int}
theorem PO (h:aR K k≠0):bN K L k l=aR K k:=if_pos h
theorem PR (h:aR K k=0) (h2:aR L l≠0):bN K L k l=aR L l:=by unfold bN; rw[if_neg (λg=>g h),if_pos h2]
theorem KQ (h:aR K k=0) (h2:aR L l=0) (h3:(hL (K++L)).length>10):bN K L k l=4:=by unfold bN; rw[if_neg (λg=>g h),if_neg (λg=>g h2),if_pos h3]
theorem KR (h:aR K k=0) (h2:aR L l=0) (h3:¬(hL (K++L)).length>10):bN K L k l=0:=by unfold bN; rw[if_neg (λg=>g h),if_neg (λg=>g h2),if_neg h3]
theorem Jp {i:Nat} (hi:i<2) (h:∀q,q<i->aR (dz K L q) (if q=0 then k else l)=0) (he:aR (dz K L i) (if i=0 then k else l)≠0):bN K L k l=aR (dz K L i) (if i=0 then k else l):=by
 match i,hi with
 |0,_=>exact PO he
 |1,_=>exact PR (h 0 (by decide)) he
theorem Gb (h:bN K L k l≠0):∀w v,pS [⟨false,1,bp (.slice none 0 0)⟩,⟨false,1,pI 0⟩] w v->fE (js K L k l) (nh K L k l) w v:=by
 unfold js nh
 rw[if_neg h,if_neg h]
 rintro w v ⟨cs,rfl,h1,h2,h3,h4,h5⟩
 refine⟨cs,rfl,h1,?_,h3,h4,h5⟩
 have h2:au false (cs.take 1)=.slice none 0 0:=h2
 show bK 2 true 0 _ w (au false (cs.take 1))
 rw[h2]
 exact⟨none,0,rfl,Nat.le_refl _,Nat.zero_le _,λh=>absurd h (Nat.lt_irrefl 0)⟩
theorem Jq (h:bN K L k l=0):∀w v,fE (hL (K++L)) (dh k l) w v->fE (js K L k l) (nh K L k l) w v:=by
 unfold js nh
 rw[if_pos h,if_pos h]
 exactλ_ _ h=>h
end
set_option maxHeartbeats 2000000 in
theorem yK {K L:List Pt} {k l:Int} (h:K.length<=1000/\L.length<=1000):K2 Tryz.prog 7 (fE K k) (fE L l) (fJ (fE (js K L k l) (nh K L k l)) (pI (bN K L k l))):=by
 intro M w0 v0 v1 hM hv0 iI
 have hT:∀i,(dz K L i).length<=1000:=λi=>by unfold dz; split<;>omega
 refine xn (N:=43) Tryz.func7 rfl rfl rfl hM hv0 iI λa hI=>?_
 refine aW hI 4 [⟨4,4,some 2,none,.ptr,24,2,true,pv _,[]⟩] [] [Uc 0 2 _,Uc 1 3 _,Uc 3 5 _] .z (.kk .z) ⟨rR 2 true (hf:=bz _ _),rR 2 true (hf:=bz _ _),pY [.n,.i],mv,trivial⟩ (.k .z) (.jI (.k .z)) λa w hI=>?_
 refine av ?_
 refine aW hI 5 [] [] [Uc 0 10 _,Uc 1 11 _,Uc 2 12 _,Uc 3 13 _,Uc 4 14 _] (.k .z) (.cQ .z) ⟨ld,ld,Lz (zv:=.agg #[.slice none 0 0,.int .i64 0]) 24 [.slice none 0 0,.int .i64 0] (λi=>fE (dz K L i) (if i=0 then k else l)) (bz K k) (bz L l),ln,mv,trivial⟩ (.k .z) (.dg (.qJ .z)) λa w hI=>?_
 refine aD ?_
 refine vL [Vz 4 4 24 2 true _] [Uz 2 _,Uz 3 _,Uz 12 _,Uz 13 _] (λ(i:Nat)=>[]) (λ(i:Nat)=>[Uz 14 (pI (i:Int))]) (λ(i:Nat)=>i<=2/\∀q,q<i->aR (dz K L q) (if q=0 then k else l)=0) (λ(i:Nat)=>2-i) (0) ⟨Nat.zero_le 2,λ_ h=>absurd h (Nat.not_lt_zero _)⟩ hI ⟨vi,trivial⟩ ⟨gi,gi,gi,gi,gc,trivial⟩ ?_
 intro i a w hi hI
 refine aW hI 1 [] [] [Uc 0 15 _] (.k .z) (.aq (.k .z)) ⟨bn,trivial⟩ (.k .z) (.aq (.kk .z)) λa w hI=>?_
 refine av ?_
 refine iK hI (λt1=>?_) (λt1=>?_)
 ·
  refine aB ?_
  refine ah ?_
  refine av ?_
  refine aD ?_
  refine aW hI 4 [⟨7,7,some 2,none,.ptr,24,2,true,pv _,[(3,pv _)]⟩] [] [Uc 0 16 _,Uc 1 17 _] (.k .z) (.aq (.kk .z)) ⟨ix,ld,pY [.n,.i],kI,trivial⟩ (.k (.s .o .z)) (.aq (.fN .z)) λa w hI=>?_
  refine aW hI 3 [] [] [Uc 0 18 _,Uc 1 19 _,Uc 2 8 _] (.k (.k .z)) (.aq (.k .z)) ⟨ld,qZ ct (hφ:=hT i),mv,trivial⟩ (.k (.d .z)) (.aq (.wI .z)) λa w hI=>?_
  refine aW hI 2 [] [] [Uc 0 20 _,Uc 1 21 _] (.k .z) (.aq (.kk .z)) ⟨mv,bn,trivial⟩ (.k .z) (.aq (.mX .z)) λa w hI=>?_
  refine iK hI (λt2=>?_) (λt2=>?_)
  ·
   have hE:=Jp (by omega) hi.2 t2
   refine aW hI 4 [] [] [Uc 0 22 _,Uc 1 23 _,Uc 3 5 _] (.u none [(2,pv _)] .z) (.aq (.cQ .z)) ⟨bd [.o .n,.o .i] [],mv,kI,mv,trivial⟩ (.s .o .z) (.aq (.fN (.dk .z))) λa w hI=>?_
   refine aJ ?_
   refine aO ?_
   refine aG ?_
   refine aG ?_
   refine aO ?_
   refine aG ?_
   exact kT hI rfl (xj (hq:=Gb (by rw[hE]; exact t2))) (fK (hq:=cG hE.symm))
  ·
   have hok:aR (dz K L i) (if i=0 then k else l)=0:=Decidable.not_not.1 t2
   refine aB ?_
   refine aQ ?_
   refine ah ?_
   refine tX hI 2 [] [] [Uc 0 24 _,Uc 1 14 _] (.k .z) (.aq (.t 1 (.kk .z))) ⟨bn,mv,trivial⟩ (.k .z) (.aq (.bL (.k .z))) λa w hI=>?_
   refine ah ?_
   exact uq (i+1) ⟨by omega,λq hq=>if e:q=i then by rw[e]; exact hok else hi.2 q (by omega)⟩ hI ⟨vc,trivial⟩ ⟨gc,gc,gc,gc,gc,trivial⟩ (by omega)
 ·
  have lZ:aR K k=0:=hi.2 0 (by omega)
  have hl0:aR L l=0:=hi.2 1 (by omega)
  have Fx:=nX lZ hl0
  have hK:=cA (aP lZ)
  have hL':=cA (aP hl0)
  refine cj ?_
  refine aH ?_
  refine aH ?_
  refine aY ?_
  refine ah ?_
  refine aW hI 8 [] [] [Uc 0 25 _,Uc 1 26 _,Uc 2 27 _,Uc 3 28 _,Uc 4 29 _,Uc 5 30 _,Uc 6 31 _,Uc 7 9 _] (.k .z) (.aq (.kk .z)) ⟨fP 0 1 false,ld,fP 0 1 false,ld,Lz (zv:=.slice none 0 0) 22 [.slice none 0 0] (λi=>fF (dz K L i)) fk fk,qZ (yN (K:=K) (L:=L)) (hφ:=⟨by omega,by omega,by omega,by omega⟩),qZ FR (hφ:=Fx),mv,trivial⟩ (.k .z) (.dx (.d8 (.dk .z))) λa w hI=>?_
  refine av ?_
  refine aW hI 3 [] [] [Uc 0 32 _,Uc 1 33 _,Uc 2 34 _] (.k .z) (.cQ .z) ⟨mv,ln,bn,trivial⟩ (.k .z) (.dg (.dk .z)) λa w hI=>?_
  refine iK hI (λt3=>?_) (λt3=>?_)
  ·
   have hE:=KQ lZ hl0 (by omega)
   refine aW hI 3 [] [] [Uc 0 35 _,Uc 2 5 _] (.u none [(1,pv _)] .z) (.aq .z) ⟨bd [.o .n,.o .i] [],kI,mv,trivial⟩ (.s .o .z) (.dg (.dk .z)) λa w hI=>?_
   refine aJ ?_
   refine aG ?_
   exact kT hI rfl (xj (hq:=Gb (by rw[hE]; decide))) (fK (hq:=cG hE.symm))
  ·
   have hE:=KR lZ hl0 (by omega)
   refine aB ?_
   refine ah ?_
   refine aW hI 9 [] [] [Uc 0 36 _,Uc 1 37 _,Uc 2 38 _,Uc 3 39 _,Uc 4 40 _,Uc 5 41 _,Uc 6 42 _,Uc 8 5 _] (.u none [(7,pv _)] .z) (.aq .z) ⟨mv,fP 1 1 false,ld,fP 1 1 false,ld,UN,bd [.o .n,.o .i] [(0,_),(1,_)],kI,mv,trivial⟩ (.s .o .z) (.d8 (.ew .z)) λa w hI=>?_
   refine aJ ?_
   exact kT hI rfl (xj (hq:=Jq hE)) (fK (hq:=cG hE.symm))
end Wx
