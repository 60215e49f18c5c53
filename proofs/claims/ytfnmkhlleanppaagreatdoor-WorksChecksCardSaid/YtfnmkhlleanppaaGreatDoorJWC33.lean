import Derived.Test.YtfnmkhlleanppaaGreatDoorJWC32
namespace Wx
set_option maxRecDepth 100000
open Go Go.RowKit Go.Proofs
theorem yX (w:World):Calls Tryz.prog 29 #[] w λe w'=>e=.returned (.pointer (some ⟨w.heap.size+1,0,none⟩))/\w'=(w.alloc (.map #[] 0)).alloc (.cells #[.slice none 0 0,.map (some w.heap.size),.slice none 0 0,.slice none 0 0,.slice none 0 0,.string ⟨#[]⟩,.int .u32 0] 99):=by
 have hm:∀w,(Instr.makeMap 96 none).run Tryz.prog w=.ok (.map (some w.heap.size)) (w.alloc (.map #[] 0)):=λ_=>by kernel_rfl
 go_enter Tryz.func29,Tryz.ntmps29
 go_wp2
 go_ret
 exact⟨rfl,rfl⟩
theorem BM (r:Option Nat):dB (.map r):=λ_=>⟨(by simp),by simp⟩
theorem BN (n:Int):dB (.int .u32 n):=λ_=>⟨(by simp),by simp⟩
theorem HC (w:World):Calls Tryz.prog 29 #[] w (Ga (λl:HL=>gN l [] []) (λl=>.pointer (some ⟨l.hb,0,none⟩)) (λl=>bq 0 l [] []) w):=by
 refine(yX w).mono ?_
 rintro e w' ⟨rfl,rfl⟩
 have h1:Below w.heap.size w (w.alloc (.map #[] 0)):=Below.alloc (Below.refl _ _) (Nat.le_refl _) _
 have hs:(w.alloc (.map #[] 0)).heap.size=w.heap.size+1:=by
  show(w.heap.push _).size=_
  rw[Array.size_push]
 have h2:=Below.alloc h1 h1.size (.cells #[.slice none 0 0,.map (some w.heap.size),.slice none 0 0,.slice none 0 0,.slice none 0 0,.string ⟨#[]⟩,.int .u32 0] 99)
 have hnew:=World.alloc_heap_new (w.alloc (.map #[] 0)) (.cells #[.slice none 0 0,.map (some w.heap.size),.slice none 0 0,.slice none 0 0,.slice none 0 0,.string ⟨#[]⟩,.int .u32 0] 99)
 rw[hs]at hnew
 refine⟨⟨w.heap.size+1,0,0,0,0,.map (some w.heap.size)⟩,λk=>k=w.heap.size+1,⟨Nat.le_refl _,Nat.zero_le _,Nat.le_refl _,Nat.zero_le _⟩,rfl,h2,λk hk=>by omega,λk=>⟨?_,?_⟩,?_,λe he=>?_⟩
 ·rintro rfl
  exact⟨_,List.mem_cons_self,rfl⟩
 ·rintro⟨e,he,rfl⟩
  rcases List.mem_cons.1 he with rfl|he
  ·rfl
  ·cases he
 ·exact List.pairwise_cons.2 ⟨λe he=>(List.not_mem_nil he).elim,List.Pairwise.nil⟩
 ·rcases List.mem_cons.1 he with rfl|he
  ·refine⟨[.slice none 0 0,.map (some w.heap.size),.slice none 0 0,.slice none 0 0,.slice none 0 0,.string ⟨#[]⟩,.int .u32 0],_,hnew,Nat.le_refl _,λv hv=>?_,λi it hi=>?_⟩
   ·simp only[List.mem_cons,List.not_mem_nil,or_false]at hv
    rcases hv with rfl|rfl|rfl|rfl|rfl|rfl|rfl
    ·exact bu _ _ _
    ·exact BM _
    ·exact bu _ _ _
    ·exact bu _ _ _
    ·exact bu _ _ _
    ·exact eH _
    ·exact BN _
   ·match i,hi with
    |0,hi=>injection hi with hi; subst hi; exact rfl
    |1,hi=>injection hi with hi; subst hi; exact rfl
    |2,hi=>injection hi with hi; subst hi; exact rfl
    |3,hi=>injection hi with hi; subst hi; exact rfl
    |4,hi=>injection hi with hi; subst hi; exact rfl
    |5,hi=>injection hi with hi; subst hi; exact⟨⟨#[]⟩,rfl,Nat.zero_le _⟩
    |6,hi=>injection hi with hi; subst hi; exact⟨0,⟨by decide,by decide⟩,rfl⟩
    |j+7,hi=>cases hi
  ·cases he
end Wx

namespace Wx
set_option maxRecDepth 100000
open Go Go.RowKit Go.Proofs
set_option linter.unusedVariables false
section
variable {P:Program} {ops:Array Oper} {ms:List Nat} {c:bQ} {V:List Vr} {A:List Al} {G:List aN} {i d:Nat} {x y z:Operand} {ty t u:TypeId} {pos:String} {aft:Array Edge} {a:Act} {w:World}{K:Act->World->Prop}
theorem Am {oj:Oper} {s:Nat} {dst:Option Nat} {op:Op} (j':Nat) (hj:ops[j']?=some oj) (gD:oj.dst=some s) (hk:dz s G=some (pB true)) (h:∀a w,Inv c V [] G none_ a w->aW P ops ⟨dst,op,ty,pos,aft,none⟩ a w K):∀a w,Inv c V [] G none_ a w->aW P ops ⟨dst,op,ty,pos,aft,some (j',true)⟩ a w K:=λa w hI=>by
 have h1:=h a w hI
 have hv:sl a s=.bool true:=fC hI hk
 have hy:yielded ops a.tmps j'=some true:=by
  unfold yielded
  rw[hj]
  show(match (oj.dst.bind λx=>a.tmps[x]?)with|some (.bool b)=>some b|_=>none)=_
  rw[gD]
  show(match a.tmps[s]? with|some (.bool b)=>some b|_=>none)=_
  unfold sl at hv
  rw[Array.getD_eq_getD_getElem?]at hv
  cases hs:a.tmps[s]? with
  |none=>rw[hs]at hv; cases hv
  |some v=>
   rw[hs]at hv
   have hv:v=.bool true:=hv
   rw[hv]
 unfold aW at h1 ⊢
 rw[if_pos (by simp[Region.wanted])]at h1
 rw[if_pos (by simp[Region.wanted,hy])]
 exact h1
variable {α:Type} {o:Oper}
theorem LX {β:Type} {C:α->Prop} {D:β->Prop} {K:α->Act->World->Prop} {K1:β->Act->World->Prop} (h:∀x,C x->∀a w,K x a w->aW P ops o a w (λa w=>∃y,D y/\K1 y a w)):∀a w,(∃x,C x/\K x a w)->aW P ops o a w (λa w=>∃y,D y/\K1 y a w):=λa w ⟨x,hc,hx⟩=>h x hc a w hx
theorem LZ {l:α} {K1:α->Act->World->Prop} (h:∀a w,K a w->aW P ops o a w (λa w=>∃y,y=l/\K1 y a w)):∀a w,K a w->aW P ops o a w (K1 l):=λa w hk=>(h a w hk).mono λa w ⟨y,e,hy⟩=>e▸hy
theorem Ca {s r:ByteArray} (e:s=r) (h1:Has ms G i x (pT s):=by exact hs) (h2:Has ms G i y (pT r):=by exact hs) (ht:isStr P t=true:=by kernel_rfl) (hp:Post G i (pB true):=by exact pt rfl):OpOk P ops ms c V A G i ⟨some d,.binOp .eql t x y u,ty,pos,aft,none⟩:=by
 subst e
 exact zg h1 h2 (Post.down hp (cQ (by simp)))
theorem Ia {q:Pred} (h:Has ms G i x (pB true):=by exact hs) (h2:Has ms G i y q:=by exact hs) (hp:Post G i q:=by exact pt rfl):OpOk P ops ms c V A G i ⟨some d,.pick x y z,ty,pos,aft,none⟩:=qm h (λ_=>h2) (λh=>by cases h) hp
end
theorem LR {c:bQ} {V:List Vr} {G:List aN} {ops:Array Oper} {d:Nat} {ty:TypeId} {pos:String} {aft:Array Edge} {ts:Array TypeId} (hf:aK Tryz.prog 29:=by exactλ_ _=>by kernel_rfl) (hd':decide (d<c.N)=true:=by kernel_rfl) (hV:(V.all λy=>(y.slot != d&&y.id != d)&&(y.born.isNone&&y.dead.isNone))=true:=by kernel_rfl) (hG:(G.all λe=>e.slot != d)=true:=by kernel_rfl):∀a w,Inv c V [] G none_ a w ->
  aW Tryz.prog ops ⟨some d,.call ⟨.value (.func 29),#[],ts⟩,ty,pos,aft,none⟩ a w (λa w=>∃l:HL,gN l [] []/\Inv c (aZ d d (bq 0 l [] [])::V) [] (⟨none,none,d,aG (.pointer (some ⟨l.hb,0,none⟩))⟩::G) none_ a w):=λa w h=>
 tV (C:=λl:HL=>gN l [] []) (hd:=λl=>.pointer (some ⟨l.hb,0,none⟩)) (H:=λl=>bq 0 l [] []) hf h (λβ hI=>by
  rw[show(#[]:Array Operand).map a.eval=#[] by simp]
  exact HC w) hd' hV hG
end Wx

namespace Wx
set_option maxRecDepth 100000
set_option maxHeartbeats 1000000
open Go Go.RowKit Go.Proofs
set_option linter.unusedVariables false
attribute [local irreducible] OpOk
variable {l:HL} {s:ByteArray}
theorem rH {bs:List ig} (hi:jg (λk=>bs.getD k gz) bs.length s = -1/\bs.length<=1000000):K2 Tryz.prog 48 (Fi l bs) (pT s) (aG (.pointer none)):=by
 intro M w0 v0 v1 hM hv0 da
 have hn:=hi.2
 have hc:jg (λk=>bs.getD k gz) bs.length s<0:=by rw[hi.1]; decide
 refine fT (N:=20) Tryz.func48 rfl rfl rfl hM hv0 da λa hI=>?_
 refine bO hI 2 [⟨3,3,some 0,none,.ptr,9,1,false,pv _,[]⟩] [] [Uc 1 4 _] .z (.kk .z) ⟨bo,mv,trivial⟩ (.k .z) (.nP .z) λa w hI=>?_
 have hI:=gY hI 0 rfl (by kernel_rfl)
 dsimp only[List.eraseIdx]at hI
 refine au hI 7 [Uc 0 6 _,Uc 1 7 _,Uc 2 8 _,Uc 3 9 _,Uc 4 10 _,Uc 5 11 _,Uc 6 5 _] (.aU .z) ⟨mv,F3,fP 2 1 false,ax hs (pt rfl) (by kernel_rfl) (jK _ _),IX,mz (pU (B:=λk=>bs.getD k gz) (s:=s)) (c1:=oW (bs:=bs)) (hφ:=hn),mv,trivial⟩ (.po (.bp (.dk .z))) λa w hI=>?_
 refine ah ?_
 refine au hI 2 [Uc 0 12 _,Uc 1 13 _] (.aU .z) ⟨mv,bn,trivial⟩ (.bj (.k .z)) λa w hI=>?_
 refine Ir hI (decide_eq_true hc) ?_
 refine au hI 1 [Uc 0 4 _] (.k (.t 0 (.kk .z))) ⟨mv,trivial⟩ (.pP (.k .z)) λa w hI=>?_
 refine av ?_
 refine aj ?_
 exact bW hI rfl cm
variable {x:ig}
theorem yB (hi:jg (λk=>[x].getD k gz) 1 s=0):K2 Tryz.prog 48 (Fi l [x]) (pT s) (aG (.pointer (some ⟨l.bb,0,none⟩))):=by
 intro M w0 v0 v1 hM hv0 da
 have hn:[x].length<=1000000:=by show 1<=1000000; omega
 have hc:¬jg (λk=>[x].getD k gz) [x].length s<0:=by rw[show jg (λk=>[x].getD k gz) [x].length s=0 from hi]; decide
 refine fT (N:=20) Tryz.func48 rfl rfl rfl hM hv0 da λa hI=>?_
 refine bO hI 2 [⟨3,3,some 0,none,.ptr,9,1,false,pv _,[]⟩] [] [Uc 1 4 _] .z (.kk .z) ⟨bo,mv,trivial⟩ (.k .z) (.nP .z) λa w hI=>?_
 have hI:=gY hI 0 rfl (by kernel_rfl)
 dsimp only[List.eraseIdx]at hI
 refine au hI 7 [Uc 0 6 _,Uc 1 7 _,Uc 2 8 _,Uc 3 9 _,Uc 4 10 _,Uc 5 11 _,Uc 6 5 _] (.aU .z) ⟨mv,F3,fP 2 1 false,ax hs (pt rfl) (by kernel_rfl) (jK _ _),IX,mz (pU (B:=λk=>[x].getD k gz) (s:=s)) (c1:=oW (bs:=[x])) (hφ:=hn),mv,trivial⟩ (.po (.bp (.dk .z))) λa w hI=>?_
 refine ah ?_
 refine au hI 2 [Uc 0 12 _,Uc 1 13 _] (.aU .z) ⟨mv,bn,trivial⟩ (.bj (.k .z)) λa w hI=>?_
 refine mb hI (decide_eq_false hc) ?_
 refine ak ?_
 refine ae ?_
 refine au hI 7 [Uc 0 14 _,Uc 1 15 _,Uc 2 16 _,Uc 3 17 _,Uc 4 18 _,Uc 5 19 _,Uc 6 4 _] (.k (.t 6 (.kk .z))) ⟨mv,F3,fP 2 1 false,ax hs (pt rfl) (by kernel_rfl) (jK _ _),mv,MT (E:=131) 3 0 hs AE ((Wx.hs).imp (bh hi)) ⟨by kernel_rfl,λ_=>by kernel_rfl⟩ (by decide) (by show(0:Int)<((1:Nat):Int); omega),mv,trivial⟩ (.d8 (.eC .z)) λa w hI=>?_
 refine av ?_
 exact bW hI rfl cm
theorem yC (hi:jg (λk=>[x].getD k gz) 1 s=0):K2 Tryz.prog 48 (Fi l [x]) (pT s) (dM 3 true (jn x)):=by
 intro M w0 v0 v1 hM hv0 da
 have hn:[x].length<=1000000:=by show 1<=1000000; omega
 have hc:¬jg (λk=>[x].getD k gz) [x].length s<0:=by rw[show jg (λk=>[x].getD k gz) [x].length s=0 from hi]; decide
 refine fT (N:=20) Tryz.func48 rfl rfl rfl hM hv0 da λa hI=>?_
 refine bO hI 2 [⟨3,3,some 0,none,.ptr,9,1,false,pv _,[]⟩] [] [Uc 1 4 _] .z (.kk .z) ⟨bo,mv,trivial⟩ (.k .z) (.nP .z) λa w hI=>?_
 have hI:=gY hI 0 rfl (by kernel_rfl)
 dsimp only[List.eraseIdx]at hI
 refine au hI 7 [Uc 0 6 _,Uc 1 7 _,Uc 2 8 _,Uc 3 9 _,Uc 4 10 _,Uc 5 11 _,Uc 6 5 _] (.aU .z) ⟨mv,F3,fP 2 1 false,ax hs (pt rfl) (by kernel_rfl) (jK _ _),IX,mz (pU (B:=λk=>[x].getD k gz) (s:=s)) (c1:=oW (bs:=[x])) (hφ:=hn),mv,trivial⟩ (.po (.bp (.dk .z))) λa w hI=>?_
 refine ah ?_
 refine au hI 2 [Uc 0 12 _,Uc 1 13 _] (.aU .z) ⟨mv,bn,trivial⟩ (.bj (.k .z)) λa w hI=>?_
 refine mb hI (decide_eq_false hc) ?_
 refine ak ?_
 refine ae ?_
 refine au hI 7 [Uc 0 14 _,Uc 1 15 _,Uc 2 16 _,Uc 3 17 _,Uc 4 18 _,Uc 5 19 _,Uc 6 4 _] (.k (.t 6 (.kk .z))) ⟨mv,F3,fP 2 1 false,ax hs (pt rfl) (by kernel_rfl) (jK _ _),mv,az 0 ((hs).imp (oW (bs:=[x]))) ((Wx.hs).imp (bh hi)) rfl (pt rfl) Nat.zero_lt_one (by kernel_rfl) (by kernel_rfl),mv,trivial⟩ (.d8 (.eC .z)) λa w hI=>?_
 refine av ?_
 exact bW hI rfl cm
end Wx
