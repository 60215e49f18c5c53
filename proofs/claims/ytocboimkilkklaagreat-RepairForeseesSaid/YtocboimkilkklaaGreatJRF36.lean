import Derived.Test.YtocboimkilkklaaGreatJRF35
import Derived.Laws.IdiomStrings
import Derived.Maps.AppendAt
import Derived.Lib.IndexLaws
import Derived.Lib.Strings
import Derived.WalkSpells
import Derived.Lib.Slices
import Derived.Lib.Walk
import Derived.Lib.Builder
import Derived.Lib.AppendStr
import Derived.Lib.UnsafeStr
import Derived.Lib.MakeNoZero
import Derived.Laws.IdiomCopy
namespace Wx
set_option maxRecDepth 100000
set_option maxHeartbeats 1000000
open Go Go.RowKit Go.Proofs
set_option linter.unusedVariables false
attribute [local irreducible] OpOk
variable {K L:List Pt} {f:Int}
theorem Lz (h:K.length<=1000/\0<L.length/\Eu K/\Eu L/\Nj K (aI L 0)=true/\0<K.length):K3 Tryz.prog 64 (lU K) (lU L) (pI f) (pB false):=by
 intro M w0 v0 v1 v2 hM hv0 gb hv2
 have hL:=h.2.1
 have hin:=h.2.2.2.2.1
 have hK:=h.2.2.2.2.2
 refine PS (N:=80) Tryz.func64 rfl rfl rfl hM hv0 gb hv2 λa hI=>?_
 refine dQ hI 4 [⟨6,6,some 3,none,.ptr,4,1,false,pv _,[]⟩] [] [Uc 0 3 _,Uc 1 4 _,Uc 2 5 _] .z (.fS .z) ⟨EZ 1 false,EZ 1 false,EZ 1 false,Pg .b,trivial⟩ (.k .z) (.gV (.kk .z)) λa w hI=>?_
 refine aU ?_
 refine GX hI [0,0,2,6,15,31,63,63,191,447,1023,2047] [] [] [Uc 0 11 _,Uc 1 12 _,Uc 2 13 _,Uc 3 14 _,Uc 4 15 _,Uc 5 16 _,Uc 6 17 _,Uc 7 18 _,Uc 8 19 _,Uc 9 20 _,Uc 10 21 _,Uc 11 22 _] (.k .z) (.fS .z) ⟨ld,ld,ix,ld,zx (uv (L:=K) (p:=aI L 0)) (hφ:=⟨h.1,h.2.2.1,h.2.2.2.1 0 hL⟩),mv,gd λh=>yF h,gd λh=>yF h,gd λh=>T3 h,gd λh=>yF h,gd λh=>OA h (uv (L:=L) (p:=aI K 0)) (hφ:=by rw[hin]at h; cases h),pk,trivial⟩ (.k .z) (.lN (.d8 (.we .z))) λa w hI=>?_
 refine ZW hI (show(Nj K (aI L 0)||Nj L (aI K 0))=true by rw[hin]; rfl) ?_
 refine dQ hI 1 [] [] [] (.u none [(0,pv _)] .z) (.aK .z) ⟨nw,trivial⟩ (.s .o .z) (.lN .z) λa w hI=>?_
 refine bL ?_
 refine bM ?_
 exact dx hI rfl BQ
theorem Lx {k l:Int} (h:(mK K k=0/\mK L l=0)/\Nj K (aI L 0)=true/\1<=f/\f<=2097152):K3 Tryz.prog 23 (rC K k) (rC L l) (pI f) (fo (pB false) (pI 0)):=by
 intro M w0 v0 v1 v2 hM hv0 gb hv2
 have hK:=oa (gW h.1.1)
 have hL:=oa (gW h.1.2)
 have hE:∀i,mK (lY K L i) (if i=0 then k else l)=0:=λi=>by by_cases e:i=0<;>simp only[lY,e,if_true,if_false]; exact h.1.1; exact h.1.2
 have hT:∀i,(lY K L i).length<=1000:=λi=>by unfold lY; split<;>omega
 have hin:=h.2.1
 have hf:=h.2.2
 refine PS (N:=37) Tryz.func23 rfl rfl rfl hM hv0 gb hv2 λa hI=>?_
 refine eu hI 4 [Uc 0 3 _,Uc 1 4 _,Uc 2 6 _,Uc 3 7 _] (.fS .z) ⟨EZ 2 true (hf:=iw _ _),EZ 2 true (hf:=iw _ _),mv,mv,trivial⟩ (.yw (.fS .z)) λa w hI=>?_
 refine aU ?_
 refine eu hI 5 [Uc 0 11 _,Uc 1 12 _,Uc 2 13 _,Uc 3 14 _,Uc 4 15 _] (.aK (.k .z)) ⟨ld,ld,SQ (zv:=.agg #[.slice none 0 0,.int .i64 0]) 71 [.slice none 0 0,.int .i64 0] (λi=>rC (lY K L i) (if i=0 then k else l)) (iw K k) (iw L l),ln,mv,trivial⟩ (.aK (.CA (.kk .z))) λa w hI=>?_
 refine bN ?_
 refine GV [] [Uz 2 _,Uz 3 _,Uz 4 _,Uz 13 _,Uz 14 _] (λ(i:Nat)=>[]) (λ(i:Nat)=>[Uz 15 (pI (i:Int))]) (λ(i:Nat)=>i<=2) (λ(i:Nat)=>2-i) (0) (Nat.zero_le 2) hI trivial ⟨gi,gi,gi,gi,gi,gc,trivial⟩ ?_
 intro i a w hi hI
 refine eu hI 1 [Uc 0 16 _] (.aK (.kk .z)) ⟨bn,trivial⟩ (.aK (.fS .z)) λa w hI=>?_
 refine aU ?_
 refine sC hI (λt1=>?_) (λt1=>?_)
 ·
  refine bD ?_
  refine aj ?_
  refine aU ?_
  refine bN ?_
  refine dQ hI 4 [⟨9,9,some 2,none,.ptr,71,2,true,pv _,[(3,pv _)]⟩] [] [Uc 0 17 _,Uc 1 18 _] .z (.aK (.fS .z)) ⟨ix,ld,rA [.n,.i],nw,trivial⟩ (.s .o .z) (.aK (.gX (.d .z))) λa w hI=>?_
  refine dQ hI 3 [] [] [Uc 0 19 _,Uc 1 20 _,Uc 2 10 _] (.k .z) (.aK (.kk .z)) ⟨ld,vY kB (hφ:=hT i),mv,trivial⟩ (.d .z) (.aK (.gX (.k .z))) λa w hI=>?_
  refine eu hI 2 [Uc 0 21 _,Uc 1 22 _] (.aK (.fS .z)) ⟨mv,bn,trivial⟩ (.aK (.lN (.k .z))) λa w hI=>?_
  refine sC hI (λt2=>?_) (λt2=>?_)
  ·exfalso; exact t2 (hE i)
  refine bD ?_
  refine cz ?_
  refine aj ?_
  refine Kq hI 2 [Uc 0 24 _,Uc 1 15 _] (.aK (.k (.t 1 (.kk .z)))) ⟨bn,mv,trivial⟩ (.aK (.lM (.dk .z))) λa w hI=>?_
  refine aj ?_
  exact GR (i+1) (by omega) hI trivial ⟨gc,gc,gc,gc,gc,gc,trivial⟩ (by omega)
 ·
  refine gz ?_
  refine bw ?_
  refine bw ?_
  refine cM ?_
  refine aj ?_
  refine aU ?_
  refine eu hI 6 [Uc 0 25 _,Uc 1 26 _,Uc 2 27 _,Uc 3 28 _,Uc 4 29 _,Uc 5 30 _] (.aK (.fS .z)) ⟨mv,bn,mv,gd λh=>Fk h,gd λh=>DW h,pk,trivial⟩ (.lN (.d8 (.k .z))) λa w hI=>?_
  refine Kl hI (λt3=>?_) (λt3=>?_)
  ·exfalso; simp only[Bool.or_eq_true,decide_eq_true_eq]at t3; omega
  refine bD ?_
  refine aj ?_
  refine eu hI 8 [Uc 0 31 _,Uc 1 32 _,Uc 2 33 _,Uc 3 34 _,Uc 4 35 _,Uc 5 36 _,Uc 6 6 _,Uc 7 7 _] (.aK .z) ⟨fP 0 1 false,ld,fP 0 1 false,ld,mv,SR (Lz (K:=K) (L:=L)) (hφ:=⟨by omega,by omega,po (gW h.1.1),po (gW h.1.2),hin,by omega⟩),mv,mv,trivial⟩ (.d8 (.yw .z)) λa w hI=>?_
  refine bL ?_
  exact qY hI rfl pC pC
theorem PA (hl:K.length=L.length) (h:∀q,q<K.length->aI K q=aI L q):K=L:=by
 refine List.ext_getElem hl λq h1 h2=>?_
 have e:=h q h1
 unfold aI at e
 rw[List.getD_eq_getElem?_getD,List.getD_eq_getElem?_getD,List.getElem?_eq_getElem h1,List.getElem?_eq_getElem h2]at e
 exact e
theorem LD (h:K.length<=1000000/\L.length<=1000000):K2 Tryz.prog 26 (lU K) (lU L) (pB (decide (K=L))):=by
 intro M w0 v0 v1 hM hv0 gb
 refine Dk (N:=26) Tryz.func26 rfl rfl rfl hM hv0 gb λa hI=>?_
 refine eu hI 1 [Uc 0 4 _] (.kk .z) ⟨mv,trivial⟩ (.fS .z) λa w hI=>?_
 refine aU ?_
 refine eu hI 5 [Uc 0 6 _,Uc 1 7 _,Uc 2 8 _,Uc 3 9 _,Uc 4 10 _] (.fS .z) ⟨mv,ln,mv,ln,bn,trivial⟩ (.lN (.gV .z)) λa w hI=>?_
 refine sC hI (λt1=>?_) (λt1=>?_)
 ·
  refine eu hI 1 [Uc 0 4 _] (.kk (.t 0 (.k .z))) ⟨mv,trivial⟩ (.gX (.k .z)) λa w hI=>?_
  refine bL ?_
  refine bM ?_
  exact dx hI rfl (pC (hq:=jT (by rw[decide_eq_false]; intro e; rw[e]at t1; exact t1 rfl)))
 ·
  refine bD ?_
  refine aj ?_
  refine aU ?_
  refine eu hI 3 [Uc 0 11 _,Uc 1 12 _,Uc 2 13 _] (.aK .z) ⟨mv,ln,mv,trivial⟩ (.lN (.QH .z)) λa w hI=>?_
  refine bN ?_
  refine GV [] [Uz 0 _,Uz 1 _,Uz 12 _] (λ(i:Nat)=>[]) (λ(i:Nat)=>[Uz 13 (pI (i:Int))]) (λ(i:Nat)=>i<=K.length/\∀q,q<i->aI K q=aI L q) (λ(i:Nat)=>K.length-i) (0) ⟨Nat.zero_le _,λ_ h=>absurd h (Nat.not_lt_zero _)⟩ hI trivial ⟨gi,gi,gi,gc,trivial⟩ ?_
  intro i a w hi hI
  refine eu hI 1 [Uc 0 14 _] (.aK .z) ⟨bn,trivial⟩ (.aK (.k .z)) λa w hI=>?_
  refine aU ?_
  refine sC hI (λt2=>?_) (λt2=>?_)
  ·
   refine bD ?_
   refine aj ?_
   refine aU ?_
   refine bN ?_
   refine eu hI 2 [Uc 0 15 _,Uc 1 5 _] (.aK (.k .z)) ⟨mv,mv,trivial⟩ (.aK (.we .z)) λa w hI=>?_
   refine V7 hI [0,0,3,7,0,0,48,112,255] [Uc 0 16 _,Uc 1 17 _,Uc 2 18 _,Uc 3 19 _,Uc 4 20 _,Uc 5 21 _,Uc 6 22 _,Uc 7 23 _,Uc 8 24 _] (.aK (.k .z)) ⟨mv,mv,ix,ld,mv,mv,ix,ld,ZF,trivial⟩ (.aK (.d8 (.dk .z))) λa w hI=>?_
   refine sC hI (λt3=>?_) (λt3=>?_)
   ·
    refine eu hI 1 [Uc 0 4 _] (.aK (.k .z)) ⟨mv,trivial⟩ (.aK (.dk .z)) λa w hI=>?_
    refine bL ?_
    refine dz ?_
    refine bM ?_
    refine bM ?_
    refine dz ?_
    refine bM ?_
    exact dx hI rfl (pC (hq:=jT (by rw[decide_eq_false]; intro e; rw[e]at t3; exact t3 rfl)))
   ·
    refine bD ?_
    refine cz ?_
    refine aj ?_
    refine Kq hI 2 [Uc 0 25 _,Uc 1 13 _] (.fS (.t 1 (.k .z))) ⟨bn,mv,trivial⟩ (.lN (.we .z)) λa w hI=>?_
    refine aj ?_
    exact GR (i+1) ⟨by omega,λq hq=>if e:q=i then by rw[e]; exact Decidable.not_not.1 t3 else hi.2 q (by omega)⟩ hI trivial ⟨gc,gc,gc,gc,trivial⟩ (by omega)
  ·
   refine gz ?_
   refine bw ?_
   refine bw ?_
   refine cM ?_
   refine aj ?_
   refine eu hI 1 [Uc 0 4 _] (.aK (.k .z)) ⟨mv,trivial⟩ (.ek (.dk .z)) λa w hI=>?_
   refine bL ?_
   exact dx hI rfl (pC (hq:=jT (by rw[decide_eq_true]; exact PA (by omega) λq hq=>hi.2 q (by omega))))
end Wx

namespace Wx
open Go Go.RowKit Go.Proofs
abbrev Oy (p:Pt):Fd:=⟨true,2,gK p⟩
section
variable {P:Program} {ops:Array Oper} {ms:List Nat} {c:eL} {V:List Vr} {A:List Al} {G:List bI} {i d:Nat} {ty:TypeId} {pos:String} {aZ:Array Edge}
theorem LH (L:List Pt):∀(k:Nat) (f:Fd),(L.map Oy)[k]?=some f->f.p=gK (aI L k):=λk f hf=>by
 rw[List.getElem?_map]at hf
 unfold aI
 rw[List.getD_eq_getElem?_getD]
 cases h:L[k]? with
 |none=>rw[h]at hf; cases hf
 |some x=>
  rw[h]at hf
  injection hf with hf
  rw[<-hf]
  rfl
theorem TJ {T:TypeId} {n:Nat} {parts:Array (Nat×Operand)} (E:TypeId) (L:List Pt) (ps:List (Nat×Pred)) (hps:bS ms G i (List.replicate n (Oy (0,0))) parts.toList ps:=by repeat' (first|exact trivial|refine⟨⟨rfl,Wx.hs,_,rfl,lI _⟩,?_⟩)) (UW:nu (List.replicate n (Oy (0,0))) ps=L.map Oy:=by rfl) (ht:oq P T E 2:=by exact⟨by kernel_rfl,λ_=>by kernel_rfl⟩) (FB:∀w,(zeroValue E).run P w=.ok (.agg (tU (0,0)).toArray) w:=by exactλ_=>by kernel_rfl) (hsz:decide (0<2/\0<n/\n*2<=16777216)=true:=by decide) (hp:Post G i (dK 2 true n λk=>gK (aI L k)):=by exact pt rfl):
  OpOk P ops ms c V A G i ⟨some d,.buildSlice T n parts,ty,pos,aZ,none⟩:=
 fB (p:=gK (0,0)) (z:=tU (0,0)) ht FB rfl rfl hsz (λ_=>Bn.2 rfl) rfl hps UW _ (LH L) hp
theorem TX {φ:Prop} (hφ:φ) {T:TypeId} {n:Nat} {parts:Array (Nat×Operand)} (E:TypeId) (L:List Pt) (ps:List (Nat×Pred)) (hps:bS ms G i (List.replicate n (Oy (0,0))) parts.toList ps:=by repeat' (first|exact trivial|refine⟨⟨rfl,Wx.hg,_,rfl,lI _⟩,?_⟩)) (UW:nu (List.replicate n (Oy (0,0))) ps=L.map Oy:=by rfl) (ht:oq P T E 2:=by exact⟨by kernel_rfl,λ_=>by kernel_rfl⟩) (FB:∀w,(zeroValue E).run P w=.ok (.agg (tU (0,0)).toArray) w:=by exactλ_=>by kernel_rfl) (hsz:decide (0<2/\0<n/\n*2<=16777216)=true:=by decide) (hp:Post G i (dK 2 true n λk=>gK (aI L k)):=by exact pg (by assumption) rfl):
  OpOk P ops ms c V A G i ⟨some d,.buildSlice T n parts,ty,pos,aZ,none⟩:=(λ_:φ=>TJ E L ps hps UW ht FB hsz hp) hφ
end
end Wx

namespace Wx
open Go Go.RowKit Go.Proofs
abbrev Pz (a b:Pt):Prop:=a.1<b.1\/(a.1=b.1/\a.2<=b.2)
theorem J6 {n:Nat} {L S:List Pt} (hn:∀q,q<n->gL 16777216 (aI L q)) (hp:S.Perm ((List.range n).map λi=>aI L i)) (hs:S.Pairwise Pz):qG n L=S:=by
 have e1:(rF n L).toList.map (·.p)=(List.range n).map λi=>aI L i:=by
  unfold rF
  show List.map _ (List.map _ _)=_
  rw[List.map_map]
  exact List.map_congr_left λi hi=>EG (hn i (List.mem_range.1 hi))
 refine List.Perm.eq_of_pairwise (le:=Pz) ?_ ?_ hs ?_
 ·intro a b _ _ h1 h2
  obtain⟨a1,a2⟩:=a
  obtain⟨b1,b2⟩:=b
  have h1:a1<b1\/(a1=b1/\a2<=b2):=h1
  have h2:b1<a1\/(b1=a1/\b2<=a2):=h2
  obtain rfl:a1=b1:=by omega
  obtain rfl:a2=b2:=by omega
  rfl
 ·unfold qG uW
  show(List.map _ (List.mergeSort _ _)).Pairwise Pz
  rw[List.pairwise_map]
  refine(List.pairwise_mergeSort (le:=λx y=>!(ltOf oO) y x) ?_ ?_ _).imp λ{x y} h=>?_
  ·intro a b c h1 h2
   simp only[Bool.not_eq_true']at h1 h2 ⊢
   exact SD.ntrans c b a h2 h1
  ·intro a b
   cases h:ltOf oO b a with
   |false=>simp
   |true=>
    have:ltOf oO a b=false:=by
     rw[lt_iff]at h
     rw[qo]
     omega
    simp[this]
  ·have h:ltOf oO y x=false:=by simpa using h
   rw[qo]at h
   show x.p.1<y.p.1\/(x.p.1=y.p.1/\x.p.2<=y.p.2)
   omega
 ·unfold qG uW
  refine((List.mergeSort_perm _ _).map _).trans ?_
  rw[e1]
  exact hp.symm
def GK:List Pt:=[(0,0),(4,0),(0,4)]
def Ie:List Pt:=[(1,1),(5,1),(1,5)]
def Ot:List Pt:=[(0,0),(0,4),(1,1),(1,5),(4,0),(5,1)]
def QO:List Pt:=[(0,0),(4,0),(5,1),(1,5),(0,4)]
theorem DO:Eu (GK++Ie):=λq hq=>by
 have hq:q<6:=hq
 match q,hq with
 |0,_|1,_|2,_|3,_|4,_|5,_=>unfold gL; decide
theorem sP:sL (GK++Ie)=Ot:=J6 DO (by decide) (by decide)
theorem Ih:rL (GK++Ie)=[(5,1),(4,0),(1,5),(1,1),(0,4),(0,0)]:=by
 show Md 6 (sL (GK++Ie))=_
 rw[sP]
 decide
theorem MM:aF Ot 6=[(0,0),(4,0),(5,1)]:=by decide
theorem MN:aF [(5,1),(4,0),(1,5),(1,1),(0,4),(0,0)] 6=[(5,1),(1,5),(0,4),(0,0)]:=by decide
theorem K8:xX (GK++Ie) where
 two:=by decide
 max:=by decide
 near:=DO
 ne:=by
  rw[sP]
  have h:∀k,k<6->1<=k->aI Ot k≠aI Ot (k-1):=by decide
  exactλk h1 h2=>h k h2 h1
 lo:=by
  rw[sP]
  show 2<=(aF Ot 6).length
  rw[MM]
  decide
 up:=by
  rw[Ih]
  show 2<=(aF [(5,1),(4,0),(1,5),(1,1),(0,4),(0,0)] 6).length
  rw[MN]
  decide
theorem wX:uk (GK++Ie)=QO:=by
 unfold uk mS
 rw[sP,Ih]
 show(aF Ot 6).take ((aF Ot 6).length-1)++(aF [(5,1),(4,0),(1,5),(1,1),(0,4),(0,0)] 6).take ((aF [(5,1),(4,0),(1,5),(1,1),(0,4),(0,0)] 6).length-1)=_
 rw[MM,MN]
 decide
theorem Ov:mK GK 1=0:=by decide
theorem Ow:mK Ie 2=0:=by decide
theorem Ig:Dr GK Ie 1 2:=⟨Ov,Ow,K8,by rw[wX]; decide⟩
end Wx

namespace Wx
set_option maxRecDepth 100000
set_option maxHeartbeats 1000000
open Go Go.RowKit Go.Proofs
def bZ (n:Nat):List Nat:=((ae 10 n).map (·+48)).reverse
theorem je:bZ 0=[]:=rfl
variable {n:Nat}
theorem mH (h:0<n):bZ n=bZ (n/10)++[n%10+48]:=by
 unfold bZ
 rw[gN (by omega) h]
 simp
theorem mG {k:Nat} (h:n<10^k):(bZ n).length<=k:=by
 unfold bZ
 rw[List.length_reverse,List.length_map]
 exact gM (by omega) h
theorem lE (h:0<n):0<(bZ n).length:=by
 rw[mH h]; simp
def strOf (l:List Nat):ByteArray:=⟨(l.map UInt8.ofNat).toArray⟩
theorem BB {w:World} {g o c:Nat} {l:List Nat} (hw:Wf 256 l) (h:∀j,j<l.length->w.cell? ⟨g,o+j,none⟩=some (.int .u8 (l.getD j 0:Nat))) (n:Nat) (hn:n=l.length):
  (convert 150 9 (.slice (some ⟨g,o,none⟩) n c)).run Tryz.prog w=.ok (.string (strOf l)) w:=by
 subst hn
 have hl:l.length=(l.map UInt8.ofNat).length:=by simp
 rw[hl]
 refine run_convert_bytes_back w 150 9 5 ⟨g,o,none⟩ c (l.map UInt8.ofNat) Tryz.underlying150 Tryz.underlying5 Tryz.underlying9 (λj hj=>?_)
 rw[<-hl]at hj
 have h1:=h j hj
 have h2:=hw.get hj
 rw[List.getD_eq_getElem?_getD,List.getElem?_eq_getElem hj,Option.getD_some]at h1
 rw[show(⟨g,o,none⟩:Addr).add j=⟨g,o+j,none⟩ by simp[Addr.add],h1,List.getElem_map,UInt8.toNat_ofNat_of_lt' h2]
theorem zZ (w:World) (n:Nat) (hn:n<b64):Calls Tryz.prog 106 #[.int .u64 (n:Int)] w (dY w (.string (strOf (bZ n)))):=by
 have HL:=bx (mG (n:=n) (k:=20) (Nat.lt_of_lt_of_le hn (by unfold b64; decide)))
 have HN:=bx hn
 clear hn
 go_enter Tryz.func106,Tryz.ntmps106
 go_wp2_with fail
 have hrow:=Row.new w .u8 182 (List.replicate 20 0)
 have hb0:Below w.heap.size w (w.alloc (.cells (gl .u8 (List.replicate 20 0)).toArray 182)):=Below.alloc (Below.refl _ _) (Nat.le_refl _) _
 change (Code.wp _ _ _ _ (w.alloc (.cells (gl .u8 (List.replicate 20 0)).toArray 182)))
 generalize w.alloc (.cells (gl .u8 (List.replicate 20 0)).toArray 182)=w1 at *
 go_loopw [0,4] (λs0 s4 wr=>∃(m at_:Nat) (L:List Nat),s0=.int .u64 (m:Int)/\s4=.int .i64 (at_:Int)/\at_<=20/\Bx (L.length=20)/\Wf 256 L/\Row wr .u8 182 w.heap.size L/\Below w.heap.size w wr/\Bx (bZ n=bZ m++L.drop at_)/\Bx (m<b64)) (λs0 _ _=>(RowKit.intOf s0).toNat)
 case atStart=>exact⟨n,20,List.replicate 20 0,rfl,rfl,Nat.le_refl _,bx (by simp),Wf.replicate (by omega) _,hrow,hb0,bx (by simp),HN⟩
 case round=>
  clear hrow hb0
  obtain⟨m,at_,L,rfl,rfl,hat,PU,IL,hr,hbl,HD,HM⟩:=hrel
  rcases Nat.eq_zero_or_pos m with rfl|hm0
  ·have hai:(at_:Int)<=20:=by omega
   have YG:(0:Int)<=(at_:Int):=by omega
   have hu:=Tryz.underlying182
   have hdn:bZ n=L.drop at_:=HD.out
   have hwd:Wf 256 (bZ n):=by rw[hdn]; exact IL.drop _
   have P7:20-at_=(bZ n).length:=by rw[hdn,List.length_drop,PU.out]
   have hcs:∀j,j<(bZ n).length->wr.cell? ⟨w.heap.size,at_+j,none⟩=some (.int .u8 ((bZ n).getD j 0:Nat)):=λj hj=>by
    rw[hr.cell (i:=at_+j) (by rw[PU.out]; omega),hdn]
    simp[List.getD_eq_getElem?_getD]
   have hcv:=BB (c:=20-at_) hwd hcs _ P7
   have XO:=bx P7
   clear hdn hwd hcs P7 HD
   by_cases WH:at_=20
   ·subst WH
    have YR:=BB (w:=wr) (g:=w.heap.size) (o:=0) (c:=0) (Wf.nil 256) (λj hj=>absurd hj (by simp)) 0 rfl
    have hE:bZ n=[]:=List.eq_nil_of_length_eq_zero (by have:=XO.out; omega)
    clear hcv
    go_wp2
    go_ret
    rw[hE]
    exact⟨rfl,hbl⟩
   ·have hne:¬20=at_:=λh=>WH h.symm
    go_wp2
    go_ret
    exact⟨rfl,hbl⟩
  ·have YH:1<=at_:=by
    have h1:=congrArg List.length HD.out
    have h2:=lE hm0
    have h3:=HL.out
    have h4:=PU.out
    rw[List.length_append,List.length_drop]at h1
    omega
   obtain⟨k,rfl⟩:∃k,at_=k+1:=⟨at_-1,by omega⟩
   obtain⟨vo,DY,GI⟩:=hr.get (i:=k) (by have:=PU.out; omega)
   have vU:=hr.frozen k
   have jE:(k:Int)<20:=by omega
   have BO:(0:Int)<=(k:Int):=by omega
   have OS:(1:Int)<=(m:Int):=by omega
   have hw:IntKind.u64.wrap ((m:Int)/10)=((m/10:Nat):Int):=by
    have:=HM.out
    rw[wrap_u64 (by omega) (by unfold b64 at this; omega)]; omega
   have hv:48+(m:Int)%10=((m%10+48:Nat):Int):=by omega
   have HW:=bx hw
   have HV:=bx hv
   clear hw hv
   go_wp2_with fail
   rw[HW.out,HV.out]
   refine⟨⟨m/10,k,L.set k (m%10+48),rfl,rfl,by omega,bx (by rw[List.length_set]; exact PU.out),IL.set (by omega),hr.set k _,hbl.setCell (Nat.le_refl _) _,bx ?_,bx (Nat.lt_of_le_of_lt (Nat.div_le_self _ _) HM.out)⟩,by simp[RowKit.intOf]; omega⟩
   rw[HD.out,mH hm0,ku (by have:=PU.out; omega),List.append_assoc]
   rfl
end Wx

namespace Wx
open Go Go.RowKit Go.Proofs
theorem bj (l:List Nat):(strOf l).size=l.length:=by simp[strOf,ByteArray.size]
end Wx

namespace Wx
open Go Go.RowKit Go.Proofs
end Wx

namespace Wx
open Go Go.RowKit Go.Proofs
end Wx

namespace Wx
set_option maxRecDepth 100000
set_option maxHeartbeats 1000000
open Go Go.RowKit Go.Proofs
theorem xT:(Tryz.prog.info? 152).map (·.size)=some 2:=by kernel_rfl
theorem liesBuilder:liesAt Tryz.prog Tryz.prog.depth 152 (2/Tryz.prog.cellsOf 152) 0 152 1=true:=by kernel_rfl
theorem infoByte:(Tryz.prog.info? 5).map (λi=>(i.zero,i.size,i.bytes))=some (some (.int .u8 0),1,1):=by kernel_rfl
theorem tO (b:Nat) (w:World) (h0:w.cell? ⟨b,0,none⟩=some (.pointer (some ⟨b,0,none⟩))):
  Calls Tryz.prog 144 #[.pointer (some ⟨b,0,none⟩)] w λe w'=>e=.returned (.tuple #[])/\w'=w:=by
 obtain⟨j,hj,_⟩:=Option.map_eq_some_iff.1 xT
 go_enter Tryz.func144,Tryz.ntmps144
 go_wp2
 rw[Lib.run_neq_ptr_same w _ Tryz.underlying149 hj]
 go_wp2
 go_end0
 exact⟨rfl,rfl⟩
theorem sr (b:Nat) (w:World) (h0:w.cell? ⟨b,0,none⟩=some (.pointer none)) (hsh:w.shape? b=some (152,2)) (hfz:w.frozen? ⟨b,0,none⟩=false):
  Calls Tryz.prog 144 #[.pointer (some ⟨b,0,none⟩)] w λe w'=>e=.returned (.tuple #[])/\w'=w.setCell ⟨b,0,none⟩ (.pointer (some ⟨b,0,none⟩)):=by
 obtain⟨j,hj,S3⟩:=Option.map_eq_some_iff.1 xT
 go_enter Tryz.func144,Tryz.ntmps144
 go_wp2
 rw[Lib.run_to_unsafe w ⟨b,0,none⟩ Tryz.underlying149 Tryz.underlying202 hj (by rw[S3]; decide) hsh (Nat.zero_lt_succ 1)]
 simp only[Result.andThen]
 rw[Oper.upon_value]
 go_wp2
 rw[run_callFunc_extern Tryz.func164 (by kernel_rfl) (by kernel_rfl) (by kernel_rfl) (e:=Extern.AbiNoEscape.same) (by kernel_rfl)]
 rw[Lib.run_noEscape]
 simp only[Result.andThen]
 rw[Oper.upon_value]
 go_wp2
 rw[Lib.run_from_unsafe w ⟨b,0,none⟩ Tryz.underlying202 Tryz.underlying149 hj hsh liesBuilder]
 simp only[Result.andThen]
 rw[Oper.upon_value]
 go_wp2
 go_end0
 exact⟨rfl,rfl⟩
theorem vZ (B b:Nat) (bs:List Value) (w:World) (h:Lib.IsBuilder 152 5 B b bs w):
  Calls Tryz.prog 144 #[.pointer (some ⟨b,0,none⟩)] w λe w'=>e=.returned (.tuple #[])/\(Lib.BuilderAt 152 5 B b (.pointer (some ⟨b,0,none⟩)) bs w'/\Below B w w'):=by
 rcases h with h|h
 ·refine(sr b w h.cell0 h.shape h.frozen0).mono ?_
  rintro e w' ⟨rfl,rfl⟩
  exact⟨rfl,h.used _,(Below.refl B w).setCell (p:=⟨b,0,none⟩) h.1 _⟩
 ·refine(tO b w h.cell0).mono ?_
  rintro e w' ⟨rfl,rfl⟩
  exact⟨rfl,h,Below.refl B _⟩
set_option maxHeartbeats 2000000 in
theorem sD (B b:Nat) (bs:List Value) (s:ByteArray) (w:World) (h:Lib.IsBuilder 152 5 B b bs w) (hlen:bs.length+s.size<=140737488355328) (hBw:B<=w.heap.size):
  Calls Tryz.prog 108 #[.pointer (some ⟨b,0,none⟩),.string s] w λe w'=>e=.returned (.tuple #[.int .i64 s.size,.nilIface])/\(Lib.BuilderAt 152 5 B b (.pointer (some ⟨b,0,none⟩)) (bs++Lib.strCells s) w'/\Below B w w'):=by
 obtain⟨i0,hi,hz0,hz1,hz2⟩:=info_parts infoByte
 go_enter Tryz.func108,Tryz.ntmps108
 go_wp2_with (go_at_call 144; refine(vZ B b bs _ h).mono ?_)
 rintro e w1 ⟨rfl,h1,hb1⟩
 obtain⟨hB,v,hbk,hown,hne⟩:=h1
 have c0:w1.cell? ⟨b,0,none⟩=some (.pointer (some ⟨b,0,none⟩)):=by rw[Lib.cell_of_heap hbk]; rfl
 have c1:w1.cell? ⟨b,1,none⟩=some v:=by rw[Lib.cell_of_heap hbk]; rfl
 go_wp2_with (at_builtin; refine Lib.wpList_append_own_string _ rfl _ _ 150 9 rfl B 5 i0 Tryz.underlying150 Tryz.underlying9 hi hz0 hz1 hz2 _ _ _ rfl hown s rfl ?c3 ?c4 ?c5 ?_)
 case c3=>unfold maxLen; omega
 case c4=>omega
 case c5=>have:=hb1.size; omega
 intro v' w2 hown' hgrow _
 have hlt:b<w1.heap.size:=by
  rcases Nat.lt_or_ge b w1.heap.size with h'|h'
  ·exact h'
  ·simp[Array.getElem?_eq_none h']at hbk
 have hb2:w2.heap[b]?=some (.cells #[.pointer (some ⟨b,0,none⟩),v] 152 (0,0)):=by
  rw[hgrow.block b hlt (λe=>hne e.symm)]
  exact hbk
 have d0:w2.cell? ⟨b,0,none⟩=some (.pointer (some ⟨b,0,none⟩)):=by rw[Lib.cell_of_heap hb2]; rfl
 have d1:w2.cell? ⟨b,1,none⟩=some v:=by rw[Lib.cell_of_heap hb2]; rfl
 have f1:w2.frozen? ⟨b,1,none⟩=false:=Lib.frozen_of_heap hb2 1
 obtain⟨ao,n',cap,rfl⟩:∃ao n' cap,v'=.slice ao n' cap:=by
  rcases hown'.2 with⟨hv,_⟩|⟨g,cap,cur,hv,_⟩
  ·exact⟨_,_,_,hv⟩
  ·exact⟨_,_,_,hv⟩
 go_wp2
 go_ret2
 refine⟨rfl,?_,?_⟩
 ·exact Lib.BuilderAt.put (T:=152) (e:=5) hB hb2 (bs':=bs++Lib.strCells s) (by simpa [Lib.strCells_length] using hown') (by decide)
 ·exact(hb1.grown hgrow (by have:=hb1.size; omega) (λk hk=>(hown.lt k hk).1)).setCell (p:=⟨b,1,none⟩) hB _
end Wx
