import Derived.Test.YtfnmkhlleanppaaGreatDoorCWNHeapW
import Derived.Test.YtfnmkhlleanppaaGreatDoorJWN32
namespace Wx
open Go Go.RowKit Go.Proofs
set_option linter.unusedVariables false
variable {q:Nat} {l:HL} {bs:List eN} {cs:List ByteArray} {s:ByteArray} {z:Nat×Nat}
theorem eA.iI (h:eA l bs cs) (hz:fD (aR q l bs cs) (dU l.cb cs.length l.cc) (cs.length+1) z):eA (l.iI z) bs (cs++[s]):=⟨h.b1,h.b2,by rw[List.length_append]; exact hz.1,hz.2.1⟩
theorem eA.lX {s:eN} (h:eA l bs cs) (hz:fD (aR q l bs cs) (dU l.bb bs.length l.bc) (bs.length+1) z):eA (l.lX z) (bs++[s]) cs:=⟨by rw[List.length_append]; exact hz.1,hz.2.1,h.c1,h.c2⟩
theorem zl (h:eA l bs cs):(dU l.cb cs.length l.cc=.slice none 0 0/\cs.length=0)\/∃b cap,dU l.cb cs.length l.cc=.slice (some ⟨b,0,none⟩) cs.length cap/\cs.length<=cap/\cap<=maxLen/\fB b (cs.map Value.string) (cap*1)∈aR q l bs cs:=by
 by_cases h0:cs.length=0
 ·exact .inl ⟨if_pos h0,h0⟩
 ·exact .inr ⟨l.cb,l.cc,if_neg h0,h.c1,h.c2,gG h0⟩
theorem zk (h:eA l bs cs):(dU l.bb bs.length l.bc=.slice none 0 0/\bs.length=0)\/∃b cap,dU l.bb bs.length l.bc=.slice (some ⟨b,0,none⟩) bs.length cap/\bs.length<=cap/\cap<=maxLen/\fB b (bs.flatMap fI) (cap*3)∈aR q l bs cs:=by
 by_cases h0:bs.length=0
 ·exact .inl ⟨if_pos h0,h0⟩
 ·exact .inr ⟨l.bb,l.bc,if_neg h0,h.b1,h.b2,dD h0⟩
theorem yb:∀(w:World) (cs:List Value),cs.length=1*1->(∀i,i<1->pT s w (ae false ((cs.drop (i*1)).take 1)))->cs=[.string s]:=λw cs hl h=>by
 match cs,hl,h with
 |[u],_,h=>
  have:u=.string s:=h 0 (by omega)
  rw[this]
variable {x:eN}
theorem ya:∀(w:World) (cs:List Value),cs.length=1*3->(∀i,i<1->fX x w (ae true ((cs.drop (i*3)).take 3)))->cs=fI x:=λw cs hl h=>by
 match cs,hl,h with
 |[u0,u1,u2],_,h=>
  obtain⟨ds,e,_,h0,_,h1,_,h2,_⟩:=h 0 (by omega)
  have e:Value.agg [u0,u1,u2].toArray=.agg ds.toArray:=e
  have e:[u0,u1,u2]=ds:=by simpa using e
  subst e
  have h0:u0=.string x.1:=h0
  have h1:u1=.int .i64 x.2.1:=h1
  have h2:u2=.bool x.2.2:=h2
  rw[h0,h1,h2]
  rfl
theorem uk:∀w v,aE (dU (l.iI z).cb (cs++[s]).length (l.iI z).cc) w v->aE (.slice (some ⟨z.1,0,none⟩) (cs.length+1) z.2) w v:=by
 rw[List.length_append,rP (by simp)]
 exactλ_ _ h=>h
theorem yA {v:Int} {nl:bQ (pI v)} (hp:jF (dm (aR q l [x] cs) l.bb 1 ⟨pI v,nl⟩)):(∀e,e∈aR q l [(x.1,v,x.2.2)] cs->e∈dm (aR q l [x] cs) l.bb 1 ⟨pI v,nl⟩)/\jF (aR q l [(x.1,v,x.2.2)] cs):=by
 have hp:=oX hp
 have h0:=List.pairwise_cons.1 hp
 have h1:=List.pairwise_append.1 h0.2
 refine⟨λe he=>?_,?_⟩
 ·unfold dm
  rcases List.mem_cons.1 he with rfl|he
  ·exact List.mem_map.2 ⟨bI l.hb (qP q l 1 cs.length),List.mem_cons_self,iy (h0.1 _ (List.mem_append_left _ (aB.2 ⟨by simp,rfl⟩)))⟩
  ·rcases List.mem_append.1 he with he|he
   ·obtain⟨_,rfl⟩:=aB.1 he
    refine List.mem_map.2 ⟨fB l.bb ([x].flatMap fI) (l.bc*3),dD (by simp),?_⟩
    refine(if_pos rfl).trans ?_
    have:=tu (l:=[x].flatMap fI) (p:=l.bc*3) (k:=1) (v:=.int .i64 v) (by show 1<3; omega)
    show bI l.bb ((cX ([x].flatMap fI) (l.bc*3)).set 1 (uD (.int .i64 v)))=_
    rw[this]
    rfl
   ·obtain⟨hc,rfl⟩:=aB.1 he
    exact List.mem_map.2 ⟨_,gG hc,iy (h1.2.2 _ (aB.2 ⟨by simp,rfl⟩) _ (aB.2 ⟨hc,rfl⟩)).symm⟩
 ·refine List.pairwise_cons.2 ⟨λe he=>?_,List.pairwise_append.2 ⟨?_,?_,λa ha b hb=>?_⟩⟩
  ·rcases List.mem_append.1 he with he|he
   ·obtain⟨_,rfl⟩:=aB.1 he
    exact h0.1 (fB l.bb ([x].flatMap fI) (l.bc*3)) (List.mem_append_left _ (aB.2 ⟨by simp,rfl⟩))
   ·exact h0.1 _ (List.mem_append_right _ he)
  ·unfold jJ; split<;>simp
  ·unfold jJ; split<;>simp
  ·obtain⟨_,rfl⟩:=aB.1 ha
   exact h1.2.2 (fB l.bb ([x].flatMap fI) (l.bc*3)) (aB.2 ⟨by simp,rfl⟩) b hb
theorem eA.Db {y:eN} (h:eA l [x] cs):eA l [y] cs:=⟨h.b1,h.b2,h.c1,h.c2⟩
section
variable {P:Program} {ops:Array Oper} {ms:List Nat} {c:bD} {V:List Vr} {A:List Al} {G:List aD} {i d:Nat} {x y z:Operand} {ty:TypeId} {pos:String} {aj:Array Edge}{T:TypeId}
theorem Bn {s:ByteArray} {n:Int} (h1:Has ms G i x (pT s):=by exact hs) (h2:Has ms G i y (pI n):=by exact hs) (hp:Post G i (fX (s,n,false)):=by exact pt rfl) (ht:kH P T #[(0,1),(1,1),(2,1)] [.string ⟨#[]⟩,.int .i64 0,.bool false]:=by exactλ_=>by kernel_rfl):
  OpOk P ops ms c V A G i ⟨some d,.build T #[(0,x),(1,y)],ty,pos,aj,none⟩:=
 mU (fs:=[⟨false,1,aG⟩,⟨false,1,aG⟩,⟨false,1,pB false⟩]) (ps:=[(0,pT s),(1,pI n)]) (gs:=[⟨false,1,pT s⟩,⟨false,1,pI n⟩,⟨false,1,pB false⟩]) ht (ku (by kernel_rfl)) (λw=>⟨by simp,trivial,by simp,trivial,by simp,rfl,rfl⟩) (show bw ms G i _ [(0,x),(1,y)] _ from⟨⟨rfl,h1,_,rfl,bh _⟩,⟨rfl,h2,_,rfl,fits_int _⟩,trivial⟩) rfl hp
theorem zj {b:eN} (E:TypeId) (ht:fS P T E 3:=by exact⟨by kernel_rfl,λ_=>by kernel_rfl⟩) (lf:∀w,(zeroValue E).run P w=.ok (.agg #[.string ⟨#[]⟩,.int .i64 0,.bool false]) w:=by exactλ_=>by kernel_rfl) (h1:Has ms G i x (fX b):=by exact hs) (hp:Post G i (aK 3 true 1 λ_=>fX b):=by exact pt rfl):
  OpOk P ops ms c V A G i ⟨some d,.buildSlice T 1 #[(0,x)],ty,pos,aj,none⟩:=
 cy (z:=[.string ⟨#[]⟩,.int .i64 0,.bool false]) (fs:=[⟨true,3,aG⟩]) (ps:=[(0,fX b)]) (gs:=[⟨true,3,fX b⟩]) (p:=aG) ht lf rfl rfl (by decide) (λ_=>trivial) rfl
  (show bw ms G i [⟨true,3,aG⟩] [(0,x)] [(0,fX b)]from⟨⟨rfl,h1,_,rfl,gA _⟩,trivial⟩) rfl (λ_=>fX b) (λk f h=>by
   match k,h with
   |0,h=>simp at h; rw[<-h]
   |k+1,h=>simp at h) hp
end
section
variable {P:Program} {ops:Array Oper} {c:bD} {V:List Vr} {G:List aD} {id s:Nat} {o:Oper}
theorem Dq {H:List Bk} {hv:Value} {N sz:Nat} {l:List Value} {K1:Nat×Nat->Act->World->Prop} (h:∀z:Nat×Nat,fD H hv N z->∀a w,Inv c (aM id s (gq H z.1 (cX l (z.2*sz)))::V) [] (⟨none,none,s,aE (.slice (some ⟨z.1,0,none⟩) N z.2)⟩::G) none_ a w->aQ P ops o a w (K1 z)) (hu:((aM id s H::V).filter λy=>y.id==id).length=1:=by kernel_rfl):
  ∀a w,Inv c (⟨id,s,none,none,.obj,0,0,false,sW H hv N sz l,[]⟩::V) [] G none_ a w->aQ P ops o a w (λa w=>∃z,fD H hv N z/\K1 z a w):=λa w hI=>by
 obtain⟨z,hz,hI⟩:=yj hI 0 rfl (by simp only[List.filter_cons,beq_self_eq_true,if_true,List.length_cons]at hu ⊢; exact hu)
 exact(h z hz a w hI).mono λa w hk=>⟨z,hz,hk⟩
end
end Wx

namespace Wx
set_option maxRecDepth 100000
open Go Go.RowKit Go.Proofs
theorem Cx (w:World) (h:w.cell? ⟨7,15,none⟩=some (.int .u8 4)):Calls Tryz.prog 198 #[.int .u64 16] w λen w'=>en=.returned (.int .i64 4)/\w'=w:=by
 go_enter Tryz.func198,Tryz.ntmps198
 have e:IntKind.u64.wrap (bits BinOp.and IntKind.u64 16 (IntKind.u64.wrap (-16))*285870213051353865)/288230376151711744=15:=by kernel_rfl
 go_wp2
 go_ret
 exact⟨rfl,rfl⟩
theorem Cw (w:World) (h:w.cell? ⟨7,15,none⟩=some (.int .u8 4)):Calls Tryz.prog 180 #[.int .u64 16] w λen w'=>en=.returned (.int .i64 4)/\w'=w:=by
 go_enter Tryz.func180,Tryz.ntmps180
 go_wp2_with (go_at_call 198; refine(Cx _ h).mono ?_; rintro e w' ⟨rfl,rfl⟩)
 go_ret
 exact⟨rfl,rfl⟩
theorem AG (w:World):Calls Tryz.prog 179 #[.int .i64 16] w λen w'=>en=.returned (.bool true)/\w'=w:=by
 go_enter Tryz.func179,Tryz.ntmps179
 go_wp2
 go_ret
 exact⟨rfl,rfl⟩
end Wx
