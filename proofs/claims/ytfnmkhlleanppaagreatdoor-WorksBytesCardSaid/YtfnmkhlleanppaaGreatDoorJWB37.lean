import Derived.Test.YtfnmkhlleanppaaGreatDoorCWBHouse
namespace Wx
set_option maxRecDepth 100000
open Go Go.RowKit Go.Proofs
theorem qA (e:Int) (w:World):Calls Tryz.prog 127 #[.bool true,.int .i64 e] w λen w'=>en=.panicked [{ v:=.iface 123 (.agg #[.int .i64 e]),recovered:=false }]/\w'=w:=by
 go_enter Tryz.func127,Tryz.ntmps127
 go_wp2
 exact⟨rfl,rfl,rfl⟩
theorem tf (e:Int) (w:World):Calls Tryz.prog 127 #[.bool false,.int .i64 e] w λen w'=>en=.returned (.tuple #[])/\w'=w:=by
 go_enter Tryz.func127,Tryz.ntmps127
 go_wp2
 exact⟨rfl,_,results_none rfl _ _ _,rfl,rfl⟩
end Wx

namespace Wx
open Go Go.RowKit Go.Proofs
set_option linter.unusedVariables false
def fl:fZ:=(⟨#[]⟩,0,false)
def Dk (l:HL) (bs:List fZ):Pred:=λw v=>v=fc l.bb bs.length l.bc/\ax 3 true bs.length (λk=>gY (bs.getD k fl)) w v
variable {l:HL} {bs:List fZ}
theorem mM:∀w v,Dk l bs w v->ax 3 true bs.length (λk=>gY (bs.getD k fl)) w v:=λ_ _ h=>h.2
theorem wq {x:fZ}:∀w v,Dk l [x] w v->aJ (.slice (some ⟨l.bb,0,none⟩) 1 l.bc) w v:=λ_ _ h=>h.1
theorem iC (l:HL) (bs:List fZ):Fits 1 false (Dk l bs):=by
 rintro w v ⟨rfl,_⟩
 unfold fc
 split
 ·exact aX (bq _ _ _) rfl rfl w _ rfl
 ·exact aX (bq _ _ _) rfl rfl w _ rfl
def AR (l:HL) (bs:List fZ):Pred:=cZ 7 true (pS [⟨false,1,az⟩,⟨false,1,az⟩,⟨false,1,Dk l bs⟩,⟨false,1,az⟩,⟨false,1,az⟩,⟨false,1,az⟩,⟨false,1,az⟩])
variable {w:World}
theorem tP {b:Nat} {its:List It} (h:(bI b its).ok w):∃(cs:List Value) (T:TypeId),w.heap[b]?=some (.cells cs.toArray T (0,0))/\its.length<=cs.length/\∀(i:Nat) (it:It) (v:Value),its[i]?=some it->cs[i]?=some v->it.p w v:=by
 obtain⟨cs,T,h1,h2,h3,h4⟩:=h
 refine⟨cs,T,h1,by simpa using h2,λi it v hi hv=>?_⟩
 have:=h4 i it hi
 obtain⟨hlt,e⟩:=List.getElem?_eq_some_iff.1 hv
 have this:it.p w (ah false ((cs.drop (i*1)).take 1)):=this
 rw[Nat.mul_one,List.drop_eq_getElem_cons hlt,e]at this
 exact this
variable {B:Nat->Prop} {q:Nat} {cs:List ByteArray}
theorem wm (h:bN B w (aV q l bs cs)) (hl:fG l bs cs) (h1:bs.length<=1):ax 3 true bs.length (λk=>gY (bs.getD k fl)) w (fc l.bb bs.length l.bc):=by
 match bs,h,hl,h1 with
 |[],h,hl,_=>exact⟨none,0,rfl,Nat.le_refl _,Nat.zero_le _,λh=>absurd h (Nat.lt_irrefl _)⟩
 |[x],h,hl,_=>
  obtain⟨cs',T,k1,k2,k3⟩:=tP (h.2.2 _ (eI (by simp)))
  refine⟨some ⟨l.bb,0,none⟩,l.bc,rfl,hl.b1,hl.b2,λ_=>⟨l.bb,0,rfl,λi hi=>?_⟩⟩
  obtain rfl:i=0:=by have hi:i<1:=hi; omega
  have hlen:3<=cs'.length:=by
   rw[fA]at k2
   have:([x].flatMap gQ).length=3:=rfl
   omega
  match cs',hlen,k1,k3 with
  |c0::c1::c2::r,_,k1,k3=>
   have e0:c0=.string x.1:=k3 0 _ c0 (eN (k:=0) (l:=[x].flatMap gQ) (by show 0<3; omega)) rfl
   have e1:c1=.int .i64 x.2.1:=k3 1 _ c1 (eN (k:=1) (l:=[x].flatMap gQ) (by show 1<3; omega)) rfl
   have e2:c2=.bool x.2.2:=k3 2 _ c2 (eN (k:=2) (l:=[x].flatMap gQ) (by show 2<3; omega)) rfl
   refine⟨[c0,c1,c2],rfl,λj u hj=>?_,[c0,c1,c2],rfl,?_⟩
   ·simp only[World.cell?,k1]
    match j,hj with
    |0,hj=>exact hj
    |1,hj=>exact hj
    |2,hj=>exact hj
    |j+3,hj=>simp at hj
   ·exact⟨by simp,e0,by simp,e1,by simp,e2,rfl⟩
theorem gM {u:Value} (hl:fG l bs cs) (h1:bs.length<=1) (h:bN B w (aV q l bs cs)) (hu:aJ (.pointer (some ⟨l.hb,0,none⟩)) w u):AR l bs w u:=by
 obtain⟨cs',T,k1,k2,k3⟩:=tP (h.2.2 _ (cg q l bs cs))
 have hrow:=wm h hl h1
 have k2:7<=cs'.length:=k2
 match cs',k2,k1,k3 with
 |c0::c1::c2::c3::c4::c5::c6::r,_,k1,k3=>
  have e2:c2=fc l.bb bs.length l.bc:=k3 2 _ c2 rfl rfl
  refine⟨l.hb,0,[c0,c1,c2,c3,c4,c5,c6],hu,rfl,λj v hj=>?_,[c0,c1,c2,c3,c4,c5,c6],rfl,?_⟩
  ·simp only[World.cell?,k1]
   match j,hj with
   |0,hj=>exact hj
   |1,hj=>exact hj
   |2,hj=>exact hj
   |3,hj=>exact hj
   |4,hj=>exact hj
   |5,hj=>exact hj
   |6,hj=>exact hj
   |j+7,hj=>simp at hj
  ·exact⟨by simp,trivial,by simp,trivial,by simp,⟨e2,by show ax _ _ _ _ w c2; rw[e2]; exact hrow⟩,by simp,trivial,by simp,trivial,by simp,trivial,by simp,trivial,rfl⟩
section
variable {P:Program} {ops:Array Oper} {ms:List Nat} {c:bJ} {V:List Vr} {A:List Al} {G:List aI} {i d:Nat} {x y z:Operand} {ty:TypeId} {pos:String} {au:Array Edge} {a:Act} {w:World} {fn:Func}{q:Pred}
theorem By {sz:Nat} {ag:Bool} (h:Has ms G i x (cZ sz ag q):=by exact hs) (hp:Post G i (cZ sz ag q):=by exact pt rfl):OpOk P ops ms c V A G i ⟨some d,.nilCheck x,ty,pos,au,none⟩:=
 bk rfl rfl rfl (.inl rfl) hp λL β a w hI hd=>by
  have hr:=h.spec hI hd
  obtain⟨b,o,cs,e,_⟩:=hr.out
  refine⟨a.eval x,w,?_,Below.refl _ _,hr⟩
  simp only[execOp,e]
  rfl
variable {T:TypeId} {n:Nat}
theorem Gr {E:TypeId} {b o' cap:Nat} (sz:Nat) (m:Int) (h:Has ms G i x q) (cq:∀w v,q w v->aJ (.slice (some ⟨b,o',none⟩) n cap) w v) (hy:Has ms G i y (pI m)) (ht:eX P T E sz) (h0:0<=m) (h1:m<n) (hp:Post G i (aJ (.pointer (some ⟨b,o'+m.toNat*sz,none⟩))):=by exact pt rfl) (hA:(A.all λq=>q.tag != some i)=true:=by kernel_rfl):
  OpOk P ops ms c V A G i ⟨some d,.indexAddr T x y,ty,pos,au,none⟩:=qq (h.imp cq) hy ht h0 h1 hA hp
theorem nI {α:Type} {C:α->Prop} {o:Oper} {K K1:α->Act->World->Prop} (h:∀x,C x->∀a w,K x a w->aU P ops o a w (K1 x)):∀a w,(∃x,C x/\K x a w)->aU P ops o a w (λa w=>∃x,C x/\K1 x a w):=λa w ⟨x,hc,hx⟩=>(h x hc a w hx).mono λa w h=>⟨x,hc,h⟩
variable {id s:Nat} {H:List Bk} {q1 q2:Pred}
theorem Dt {tx:TypeId} {m:Nat} {f:Nat->Pred} {hv:Value} (E:TypeId) (sz:Nat) (ag:Bool) (l l':List Value) (ht:nL P T tx E sz) (h1:Has [0] G 0 x q1) (c1:∀w v,q1 w v->aJ hv w v) (h2:Has [0] G 0 y q2) (c2:∀w v,q2 w v->ax sz ag m f w v) (hl0:l.length=n*sz) (hag:ag=false->sz=1) (Cf:∀i,i<m->Fits sz ag (f i)) (hnews:∀(w:World) (cs:List Value),cs.length=m*sz->(∀i,i<m->f i w (ah ag ((cs.drop (i*sz)).take sz)))->cs=l')
  (ou:(hv=.slice none 0 0/\n=0)\/∃b cap,hv=.slice (some ⟨b,0,none⟩) n cap/\n<=cap/\cap<=maxLen/\fB b l (cap*sz)∈H)
  (hmax:n+m<=1073741824) (hpos:0<m) (hd':decide (d<c.N)=true:=by kernel_rfl)
  (hV:((aP id s H::V).all λy=>(y.slot != d)&&(y.born.isNone&&y.dead.isNone))=true:=by kernel_rfl) (hu:((aP id s H::V).filter λy=>y.id==id).length=1:=by kernel_rfl) (hG:(G.all λe=>e.slot != d)=true:=by kernel_rfl):∀a w,Inv c (aP id s H::V) [] G none_ a w ->
  aU P ops ⟨some d,.call ⟨.builtin .append,#[x,y],#[T,tx]⟩,ty,pos,au,none⟩ a w (λa w=>∃z:Nat×Nat,gN H hv (n+m) z/\Inv c (aP id s (iq H z.1 (dQ (l++l') (z.2*sz)))::V) [] (⟨none,none,d,aJ (.slice (some ⟨z.1,0,none⟩) (n+m) z.2)⟩::G) none_ a w):=λa w h=>
 Fx (n0:=0) rfl (h1.imp c1) (h2.imp c2) hl0 hag Cf hnews ou ht hmax hd' hV hu hG hpos h
theorem zF {Λ:Type} {C:Λ->Prop} {hd:Λ->Value} {Hl:Λ->List Bk} {f:FuncId} {p1 p2:Pred} {ts:Array TypeId} (jI:aK (λk o=>c.M0 k o\/c.dx k) jG c.w0) (eZ:L2 P f H p1 p2 C (λl=>.returned (hd l)) Hl) (h1:Has [0] G 0 x q1:=by exact hs) (c1:∀w v,q1 w v->p1 w v:=by exact ig) (h2:Has [0] G 0 y q2:=by exact hs) (c2:∀w v,q2 w v->p2 w v:=by exact ig)
  (hf:aA P f:=by exactλ_ _=>by kernel_rfl) (hd':decide (d<c.N)=true:=by kernel_rfl)
  (hV:((aP id s H::V).all λy=>(y.slot != d)&&(y.born.isNone&&y.dead.isNone))=true:=by kernel_rfl) (hu:((aP id s H::V).filter λy=>y.id==id).length=1:=by kernel_rfl) (hG:(G.all λe=>e.slot != d)=true:=by kernel_rfl):∀a w,Inv c (aP id s H::V) [] G none_ a w ->
  aU P ops ⟨some d,.call ⟨.value (.func f),#[x,y],ts⟩,ty,pos,au,none⟩ a w (λa w=>∃l,C l/\Inv c (aP id s (Hl l)::V) [] (⟨none,none,d,aJ (hd l)⟩::G) none_ a w):=
 DD 0 jI eZ h1 c1 h2 c2 rfl hf hd' hV hu hG
end
theorem iM {e:Int} (_:True):K2 Tryz.prog 127 (pB false) (pI e) (aJ (.tuple #[])):=λM w v0 v1 hM h0 h1=>by
 obtain rfl:v0=.bool false:=h0.out
 obtain rfl:v1=.int .i64 e:=h1.out
 refine(tf e w).mono ?_
 rintro en w' ⟨rfl,rfl⟩
 exact⟨_,rfl,λ_ _=>rfl,Below.refl _ _⟩
end Wx

namespace Wx
set_option maxRecDepth 100000
open Go Go.RowKit Go.Proofs
theorem uX (w:World):Calls Tryz.prog 29 #[] w λe w'=>e=.returned (.pointer (some ⟨w.heap.size+1,0,none⟩))/\w'=(w.alloc (.map #[] 0)).alloc (.cells #[.slice none 0 0,.map (some w.heap.size),.slice none 0 0,.slice none 0 0,.slice none 0 0,.string ⟨#[]⟩,.int .u32 0] 99):=by
 have hm:∀w,(Instr.makeMap 96 none).run Tryz.prog w=.ok (.map (some w.heap.size)) (w.alloc (.map #[] 0)):=λ_=>by kernel_rfl
 go_enter Tryz.func29,Tryz.ntmps29
 go_wp2
 go_ret
 exact⟨rfl,rfl⟩
theorem xD (r:Option Nat):dG (.map r):=λ_=>⟨(by simp),by simp⟩
theorem xE (n:Int):dG (.int .u32 n):=λ_=>⟨(by simp),by simp⟩
theorem CC (w:World):Calls Tryz.prog 29 #[] w (BD (λl:HL=>fG l [] []) (λl=>.pointer (some ⟨l.hb,0,none⟩)) (λl=>aV 0 l [] []) w):=by
 refine(uX w).mono ?_
 rintro e w' ⟨rfl,rfl⟩
 have h1:Below w.heap.size w (w.alloc (.map #[] 0)):=Below.alloc (Below.refl _ _) (Nat.le_refl _) _
 have hs:(w.alloc (.map #[] 0)).heap.size=w.heap.size+1:=by
  show(w.heap.push _).size=_
  rw[Array.size_push]
 have h2:=Below.alloc h1 h1.size (.cells #[.slice none 0 0,.map (some w.heap.size),.slice none 0 0,.slice none 0 0,.slice none 0 0,.string ⟨#[]⟩,.int .u32 0] 99)
 have hnew:=World.alloc_heap_new (w.alloc (.map #[] 0)) (.cells #[.slice none 0 0,.map (some w.heap.size),.slice none 0 0,.slice none 0 0,.slice none 0 0,.string ⟨#[]⟩,.int .u32 0] 99)
 rw[hs]at hnew
 refine⟨⟨w.heap.size+1,0,0,0,0,.map (some w.heap.size)⟩,λk=>k=w.heap.size+1,⟨Nat.le_refl _,Nat.zero_le _,Nat.le_refl _,Nat.zero_le _⟩,rfl,h2,λk hk=>by omega,λk=>⟨?_,?_⟩,?_,λe he=>?_⟩
 ·rintro rfl
  exact⟨_,List.mem_cons_self,rfl⟩
 ·rintro⟨e,he,rfl⟩
  rcases List.mem_cons.1 he with rfl|he
  ·rfl
  ·cases he
 ·exact List.pairwise_cons.2 ⟨λe he=>(List.not_mem_nil he).elim,List.Pairwise.nil⟩
 ·rcases List.mem_cons.1 he with rfl|he
  ·refine⟨[.slice none 0 0,.map (some w.heap.size),.slice none 0 0,.slice none 0 0,.slice none 0 0,.string ⟨#[]⟩,.int .u32 0],_,hnew,Nat.le_refl _,λv hv=>?_,λi it hi=>?_⟩
   ·simp only[List.mem_cons,List.not_mem_nil,or_false]at hv
    rcases hv with rfl|rfl|rfl|rfl|rfl|rfl|rfl
    ·exact bq _ _ _
    ·exact xD _
    ·exact bq _ _ _
    ·exact bq _ _ _
    ·exact bq _ _ _
    ·exact fM _
    ·exact xE _
   ·match i,hi with
    |0,hi=>injection hi with hi; subst hi; exact rfl
    |1,hi=>injection hi with hi; subst hi; exact rfl
    |2,hi=>injection hi with hi; subst hi; exact rfl
    |3,hi=>injection hi with hi; subst hi; exact rfl
    |4,hi=>injection hi with hi; subst hi; exact rfl
    |5,hi=>injection hi with hi; subst hi; exact⟨⟨#[]⟩,rfl,Nat.zero_le _⟩
    |6,hi=>injection hi with hi; subst hi; exact⟨0,⟨by decide,by decide⟩,rfl⟩
    |j+7,hi=>cases hi
  ·cases he
end Wx
