import Derived.Test.YtfnmkhlleanppaaGreatDoorCWNHouse
namespace Wx
set_option maxRecDepth 100000
open Go Go.RowKit Go.Proofs
theorem oC (e:Int) (w:World):Calls Tryz.prog 127 #[.bool true,.int .i64 e] w λen w'=>en=.panicked [{ v:=.iface 123 (.agg #[.int .i64 e]),recovered:=false }]/\w'=w:=by
 go_enter Tryz.func127,Tryz.ntmps127
 go_wp2
 exact⟨rfl,rfl,rfl⟩
theorem qE (e:Int) (w:World):Calls Tryz.prog 127 #[.bool false,.int .i64 e] w λen w'=>en=.returned (.tuple #[])/\w'=w:=by
 go_enter Tryz.func127,Tryz.ntmps127
 go_wp2
 exact⟨rfl,_,results_none rfl _ _ _,rfl,rfl⟩
end Wx

namespace Wx
open Go Go.RowKit Go.Proofs
set_option linter.unusedVariables false
def ee:eN:=(⟨#[]⟩,0,false)
def Ba (l:HL) (bs:List eN):Pred:=λw v=>v=dU l.bb bs.length l.bc/\aK 3 true bs.length (λk=>fX (bs.getD k ee)) w v
variable {l:HL} {bs:List eN}
theorem kN:∀w v,Ba l bs w v->aK 3 true bs.length (λk=>fX (bs.getD k ee)) w v:=λ_ _ h=>h.2
theorem ua {x:eN}:∀w v,Ba l [x] w v->aE (.slice (some ⟨l.bb,0,none⟩) 1 l.bc) w v:=λ_ _ h=>h.1
theorem gB (l:HL) (bs:List eN):Fits 1 false (Ba l bs):=by
 rintro w v ⟨rfl,_⟩
 unfold dU
 split
 ·exact bG (aZ _ _ _) rfl rfl w _ rfl
 ·exact bG (aZ _ _ _) rfl rfl w _ rfl
def ym (l:HL) (bs:List eN):Pred:=cH 7 true (pS [⟨false,1,aG⟩,⟨false,1,aG⟩,⟨false,1,Ba l bs⟩,⟨false,1,aG⟩,⟨false,1,aG⟩,⟨false,1,aG⟩,⟨false,1,aG⟩])
variable {w:World}
theorem qZ {b:Nat} {its:List It} (h:(bI b its).ok w):∃(cs:List Value) (T:TypeId),w.heap[b]?=some (.cells cs.toArray T (0,0))/\its.length<=cs.length/\∀(i:Nat) (it:It) (v:Value),its[i]?=some it->cs[i]?=some v->it.p w v:=by
 obtain⟨cs,T,h1,h2,h3,h4⟩:=h
 refine⟨cs,T,h1,by simpa using h2,λi it v hi hv=>?_⟩
 have:=h4 i it hi
 obtain⟨hlt,e⟩:=List.getElem?_eq_some_iff.1 hv
 have this:it.p w (ae false ((cs.drop (i*1)).take 1)):=this
 rw[Nat.mul_one,List.drop_eq_getElem_cons hlt,e]at this
 exact this
variable {B:Nat->Prop} {q:Nat} {cs:List ByteArray}
theorem tZ (h:bE B w (aR q l bs cs)) (hl:eA l bs cs) (h1:bs.length<=1):aK 3 true bs.length (λk=>fX (bs.getD k ee)) w (dU l.bb bs.length l.bc):=by
 match bs,h,hl,h1 with
 |[],h,hl,_=>exact⟨none,0,rfl,Nat.le_refl _,Nat.zero_le _,λh=>absurd h (Nat.lt_irrefl _)⟩
 |[x],h,hl,_=>
  obtain⟨cs',T,k1,k2,k3⟩:=qZ (h.2.2 _ (dD (by simp)))
  refine⟨some ⟨l.bb,0,none⟩,l.bc,rfl,hl.b1,hl.b2,λ_=>⟨l.bb,0,rfl,λi hi=>?_⟩⟩
  obtain rfl:i=0:=by have hi:i<1:=hi; omega
  have hlen:3<=cs'.length:=by
   rw[er]at k2
   have:([x].flatMap fI).length=3:=rfl
   omega
  match cs',hlen,k1,k3 with
  |c0::c1::c2::r,_,k1,k3=>
   have e0:c0=.string x.1:=k3 0 _ c0 (dJ (k:=0) (l:=[x].flatMap fI) (by show 0<3; omega)) rfl
   have e1:c1=.int .i64 x.2.1:=k3 1 _ c1 (dJ (k:=1) (l:=[x].flatMap fI) (by show 1<3; omega)) rfl
   have e2:c2=.bool x.2.2:=k3 2 _ c2 (dJ (k:=2) (l:=[x].flatMap fI) (by show 2<3; omega)) rfl
   refine⟨[c0,c1,c2],rfl,λj u hj=>?_,[c0,c1,c2],rfl,?_⟩
   ·simp only[World.cell?,k1]
    match j,hj with
    |0,hj=>exact hj
    |1,hj=>exact hj
    |2,hj=>exact hj
    |j+3,hj=>simp at hj
   ·exact⟨by simp,e0,by simp,e1,by simp,e2,rfl⟩
theorem fA {u:Value} (hl:eA l bs cs) (h1:bs.length<=1) (h:bE B w (aR q l bs cs)) (hu:aE (.pointer (some ⟨l.hb,0,none⟩)) w u):ym l bs w u:=by
 obtain⟨cs',T,k1,k2,k3⟩:=qZ (h.2.2 _ (bN q l bs cs))
 have hrow:=tZ h hl h1
 have k2:7<=cs'.length:=k2
 match cs',k2,k1,k3 with
 |c0::c1::c2::c3::c4::c5::c6::r,_,k1,k3=>
  have e2:c2=dU l.bb bs.length l.bc:=k3 2 _ c2 rfl rfl
  refine⟨l.hb,0,[c0,c1,c2,c3,c4,c5,c6],hu,rfl,λj v hj=>?_,[c0,c1,c2,c3,c4,c5,c6],rfl,?_⟩
  ·simp only[World.cell?,k1]
   match j,hj with
   |0,hj=>exact hj
   |1,hj=>exact hj
   |2,hj=>exact hj
   |3,hj=>exact hj
   |4,hj=>exact hj
   |5,hj=>exact hj
   |6,hj=>exact hj
   |j+7,hj=>simp at hj
  ·exact⟨by simp,trivial,by simp,trivial,by simp,⟨e2,by show aK _ _ _ _ w c2; rw[e2]; exact hrow⟩,by simp,trivial,by simp,trivial,by simp,trivial,by simp,trivial,rfl⟩
section
variable {P:Program} {ops:Array Oper} {ms:List Nat} {c:bD} {V:List Vr} {A:List Al} {G:List aD} {i d:Nat} {x y z:Operand} {ty:TypeId} {pos:String} {aj:Array Edge} {a:Act} {w:World} {fn:Func}{q:Pred}
theorem yV {sz:Nat} {ag:Bool} (h:Has ms G i x (cH sz ag q):=by exact hs) (hp:Post G i (cH sz ag q):=by exact pt rfl):OpOk P ops ms c V A G i ⟨some d,.nilCheck x,ty,pos,aj,none⟩:=
 bu rfl rfl rfl (.inl rfl) hp λL β a w hI hd=>by
  have hr:=h.spec hI hd
  obtain⟨b,o,cs,e,_⟩:=hr.out
  refine⟨a.eval x,w,?_,Below.refl _ _,hr⟩
  simp only[execOp,e]
  rfl
variable {T:TypeId} {n:Nat}
theorem D7 {E:TypeId} {b o' cap:Nat} (sz:Nat) (m:Int) (h:Has ms G i x q) (cq:∀w v,q w v->aE (.slice (some ⟨b,o',none⟩) n cap) w v) (hy:Has ms G i y (pI m)) (ht:fS P T E sz) (h0:0<=m) (h1:m<n) (hp:Post G i (aE (.pointer (some ⟨b,o'+m.toNat*sz,none⟩))):=by exact pt rfl) (hA:(A.all λq=>q.tag != some i)=true:=by kernel_rfl):
  OpOk P ops ms c V A G i ⟨some d,.indexAddr T x y,ty,pos,aj,none⟩:=ov (h.imp cq) hy ht h0 h1 hA hp
theorem lR {α:Type} {C:α->Prop} {o:Oper} {K K1:α->Act->World->Prop} (h:∀x,C x->∀a w,K x a w->aQ P ops o a w (K1 x)):∀a w,(∃x,C x/\K x a w)->aQ P ops o a w (λa w=>∃x,C x/\K1 x a w):=λa w ⟨x,hc,hx⟩=>(h x hc a w hx).mono λa w h=>⟨x,hc,h⟩
variable {id s:Nat} {H:List Bk} {q1 q2:Pred}
theorem Bl {tx:TypeId} {m:Nat} {f:Nat->Pred} {hv:Value} (E:TypeId) (sz:Nat) (ag:Bool) (l l':List Value) (ht:oN P T tx E sz) (h1:Has [0] G 0 x q1) (c1:∀w v,q1 w v->aE hv w v) (h2:Has [0] G 0 y q2) (c2:∀w v,q2 w v->aK sz ag m f w v) (hl0:l.length=n*sz) (hag:ag=false->sz=1) (zK:∀i,i<m->Fits sz ag (f i)) (hnews:∀(w:World) (cs:List Value),cs.length=m*sz->(∀i,i<m->f i w (ae ag ((cs.drop (i*sz)).take sz)))->cs=l')
  (mz:(hv=.slice none 0 0/\n=0)\/∃b cap,hv=.slice (some ⟨b,0,none⟩) n cap/\n<=cap/\cap<=maxLen/\fB b l (cap*sz)∈H)
  (hmax:n+m<=1073741824) (hpos:0<m) (hd':decide (d<c.N)=true:=by kernel_rfl)
  (hV:((aM id s H::V).all λy=>(y.slot != d)&&(y.born.isNone&&y.dead.isNone))=true:=by kernel_rfl) (hu:((aM id s H::V).filter λy=>y.id==id).length=1:=by kernel_rfl) (hG:(G.all λe=>e.slot != d)=true:=by kernel_rfl):∀a w,Inv c (aM id s H::V) [] G none_ a w ->
  aQ P ops ⟨some d,.call ⟨.builtin .append,#[x,y],#[T,tx]⟩,ty,pos,aj,none⟩ a w (λa w=>∃z:Nat×Nat,fD H hv (n+m) z/\Inv c (aM id s (gq H z.1 (cX (l++l') (z.2*sz)))::V) [] (⟨none,none,d,aE (.slice (some ⟨z.1,0,none⟩) (n+m) z.2)⟩::G) none_ a w):=λa w h=>
 De (n0:=0) rfl (h1.imp c1) (h2.imp c2) hl0 hag zK hnews mz ht hmax hd' hV hu hG hpos h
theorem wV {Λ:Type} {C:Λ->Prop} {hd:Λ->Value} {Hl:Λ->List Bk} {f:FuncId} {p1 p2:Pred} {ts:Array TypeId} (iJ:aL (λk o=>c.M0 k o\/c.cU k) iM c.w0) (dS:L2 P f H p1 p2 C (λl=>.returned (hd l)) Hl) (h1:Has [0] G 0 x q1:=by exact hs) (c1:∀w v,q1 w v->p1 w v:=by exact gh) (h2:Has [0] G 0 y q2:=by exact hs) (c2:∀w v,q2 w v->p2 w v:=by exact gh)
  (hf:ax P f:=by exactλ_ _=>by kernel_rfl) (hd':decide (d<c.N)=true:=by kernel_rfl)
  (hV:((aM id s H::V).all λy=>(y.slot != d)&&(y.born.isNone&&y.dead.isNone))=true:=by kernel_rfl) (hu:((aM id s H::V).filter λy=>y.id==id).length=1:=by kernel_rfl) (hG:(G.all λe=>e.slot != d)=true:=by kernel_rfl):∀a w,Inv c (aM id s H::V) [] G none_ a w ->
  aQ P ops ⟨some d,.call ⟨.value (.func f),#[x,y],ts⟩,ty,pos,aj,none⟩ a w (λa w=>∃l,C l/\Inv c (aM id s (Hl l)::V) [] (⟨none,none,d,aE (hd l)⟩::G) none_ a w):=
 Bv 0 iJ dS h1 c1 h2 c2 rfl hf hd' hV hu hG
end
theorem gL {e:Int} (_:True):K2 Tryz.prog 127 (pB false) (pI e) (aE (.tuple #[])):=λM w v0 v1 hM h0 h1=>by
 obtain rfl:v0=.bool false:=h0.out
 obtain rfl:v1=.int .i64 e:=h1.out
 refine(qE e w).mono ?_
 rintro en w' ⟨rfl,rfl⟩
 exact⟨_,rfl,λ_ _=>rfl,Below.refl _ _⟩
end Wx
