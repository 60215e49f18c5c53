import Derived.Test.YtikkgpljpglnbaaGreatCRMRep1
namespace Wx
open Go Go.RowKit Go.Proofs Go.ChangeShapes Go.WideShapes Go.ChangeAt
set_option linter.unusedVariables false
section
variable {H:Type} {enc:TypeId×Value->H} {w:World}
theorem xA.MD {P:Program} {e:TypeId} {agg:Bool} {α β:Type} {C:α->Prop} {f:α->Pred} {C':β->Prop} {f':β->Pred} (h:xA enc P w e agg C f) (g:α->β) (hC:∀a,C a->C' (g a)) (hf:∀a w v,f a w v->f' (g a) w v):xA enc P w e agg C' f':=λfuel cs x hx=>by
 obtain⟨a,h1,h2⟩:=h fuel cs x hx
 exact⟨g a,hC a h1,λw' hw=>hf a w' _ (h2 w' hw)⟩
theorem MO:xA enc Tryz.prog w 38 true (λ_=>True) cT:=
 xA.MD (th (N:=2) Tryz.underlying38 (by kernel_rfl) (by kernel_rfl) (fS (n:=1) (oD Tryz.underlying3) (by kernel_rfl) (by omega) (fS (n:=1) (oD Tryz.underlying3) (by kernel_rfl) (by omega) qa))) (λa=>(a.1,a.2.1)) (λ_ _=>trivial) (λ_ _ _ h=>h)
end
theorem FZ {f:FuncId} {P:Program} {args:Array Value} {W:World} (h:Calls P f args W (bD (λ_ _=>False) (pB true) W)):Calls P f args W λe w'=>e=.returned (.bool true)/\Below W.heap.size W w':=
 h.mono λe w' h=>by
  obtain⟨v,rfl,hv,hb⟩:=h
  have:v=.bool true:=hv.out
  exact⟨by rw[this],hb⟩
theorem Jn {w:World}:cR (λ_ _=>False) w:=λ_ _ h=>h.elim
end Wx

namespace Wx
open Go Go.RowKit Go.Proofs Go.ChangeShapes Go.WideShapes Go.ChangeAt
set_option linter.unusedVariables false
section
variable {H:Type} {enc:TypeId×Value->H} {w:World}
theorem zi:xA enc Tryz.prog w 24 true (λa:List Pt×Int=>a.1.length<=9223372036854775807) (λa=>fE a.1 a.2):=
 xA.MD (th (N:=2) Tryz.underlying24 (by kernel_rfl) (by kernel_rfl) (fS (n:=1) (D6 (sz:=2) ((0,0):Pt) Tryz.underlying22 (by kernel_rfl) (by omega) MO) (by kernel_rfl) (by omega) (fS (n:=1) (oD Tryz.underlying3) (by kernel_rfl) (by omega) qa))) (λa=>(a.1,a.2.1)) (λa h=>by have k:=h.1.2; unfold maxLen at k; exact Nat.le_trans k (by decide)) (λ_ _ _ h=>h)
theorem MP:xA enc Tryz.prog w 35 true (λa:Int×Int=>(0<=a.1/\a.1<=255)/\0<=a.2/\a.2<=255) (λa=>pS [⟨false,1,bp (.int .u8 a.1)⟩,⟨false,1,bp (.int .u8 a.2)⟩]):=
 xA.MD (D5 (N:=2) (n:=1) Tryz.underlying35 (by kernel_rfl) (by kernel_rfl) (by kernel_rfl) (fS (n:=1) (oD Tryz.underlying5) (by kernel_rfl) (by omega) (fS (n:=1) (oD Tryz.underlying5) (by kernel_rfl) (by omega) qa))) (λa=>(a.1,a.2.1)) (λa h=>⟨wf_u8 h.1,wf_u8 h.2.1⟩) (λ_ _ _ h=>h)
end
end Wx

namespace Wx
open Go Go.RowKit
set_option linter.unusedVariables false
def pC (sz m:Nat) (ag:Bool) (E:TypeId) (f:Nat->Pred) (s:Value) (X:Nat->Prop) (w:World):Prop:=
 (s=.slice none 0 0/\m=0/\∀k,¬X k) \/
 ∃(bb cap:Nat) (cur:List Value),s=.slice (some ⟨bb,0,none⟩) m cap/\(∀k,X k↔k=bb)/\w.heap[bb]?=some (.cells cur.toArray E (0,0))/\cur.length=cap*sz/\m<=cap/\cap<=maxLen/\(∀u∈cur,gv u)/\∀i,i<m->f i w (au ag ((cur.drop (i*sz)).take sz))
section
variable {P:Program} {c:cM} {V:List Vr} {G:List aV} {a:Act} {w:World}{sz m:Nat} {ag:Bool} {E:TypeId} {f:Nat->Pred} {s:Value} {X:Nat->Prop} {M:Nat->Nat->Prop}
theorem pC.keep {w w':World} (h:pC sz m ag E f s X w) (hn:∀i,aA (f i)) (hM:cR M w) (he:Ext M w w') (hb:∀k,X k->w'.heap[k]?=w.heap[k]?):pC sz m ag E f s X w':=by
 refine h.imp (λh=>h) ?_
 rintro⟨bb,cap,cur,k1,k2,k3,k4,k5,k6,k7,k8⟩
 exact⟨bb,cap,cur,k1,k2,(hb bb ((k2 bb).2 rfl)).trans k3,k4,k5,k6,k7,λi hi=>hn i M w _ hM (k8 i hi) w' he⟩
theorem zO {olds news:List Value} {i:Nat} (h:olds.length=m*sz) (hi:m<=i):((olds++news).drop (i*sz)).take sz=(news.drop ((i-m)*sz)).take sz:=by
 have hle:=Nat.mul_le_mul_right sz hi
 rw[List.drop_append,List.drop_eq_nil_of_le (by rw[h]; exact hle),List.nil_append,h,Nat.sub_mul]
variable {T tx:TypeId} {yv:Value} {ty:TypeId}
theorem sE {n:Nat} {g:Nat->Pred} (IK:cR M w) (L8:∀k,X k->∀o,M k o) (c5:pC sz m ag E f s X w) (hy:aM M (λw=>bK sz ag n g w yv) w) (ht:xx P T tx E sz) (hagg:ag=false->sz=1) (hfit:∀i,Fits sz ag (g i)) (hn:∀i,aA (f i)) (hng:∀i,aA (g i)) (AJ:0<n) (hmax:m+n<=1073741824):
  ∃(w':World) (X':Nat->Prop) (s':Value),(Builtin.append_ #[T,tx] ty #[s,yv]).run P w=.ok s' w'/\cz X w w'/\(∀k,X' k->X k\/w.heap.size<=k)/\pC sz (m+n) ag E (λi=>if i<m then f i else g (i-m)) s' X' w':=by
 obtain⟨A2,dY,news,Ou,NC,hc2,hnl,zW,hnc,hnf⟩:=oM hagg (λk _=>hfit k) hy
 obtain⟨E',PD⟩:=ht.src
 obtain⟨ti,zv,hi,hsz,hz,hzs,PK,hby⟩:=ht.info
 subst hsz
 have hS:Src P ti.size tx yv n news w:=by
  rw[Ou]
  exact BD PD hnl (λu hu=>(zW u hu).2) λh=>by
   obtain⟨b,o,e,hc⟩:=hnc h
   exact⟨b,o,e,λj u hj=>(hc j u hj).1⟩
 have fresh:∀(bs:Option Addr) (sc:Nat) (olds:List Value),s=.slice bs m sc->sc<m+n->olds.length=m*ti.size->(∀u∈olds,gv u)->(∀i,i<m->f i w (au ag ((olds.drop (i*ti.size)).take ti.size)))->(Builtin.firstCells ti.size m (.slice bs m sc)).run P w.drew=.ok olds.toArray w.drew ->
   ∃(w':World) (X':Nat->Prop) (s':Value),(Builtin.append_ #[T,tx] ty #[s,yv]).run P w=.ok s' w'/\cz X w w'/\(∀k,X' k->X k\/w.heap.size<=k)/\pC ti.size (m+n) ag E (λi=>if i<m then f i else g (i-m)) s' X' w':=by
  intro bs sc olds e hlt ek SA NF hold
  have hrun:=run_append_grow_src (P:=P) w T tx ty E ti zv ht.under hi hz bs m sc olds hold yv n news hS hlt (by omega) (growslice_fits hlt (by
   have:(m+n)*ti.bytes<=1073741824*4096:=Nat.mul_le_mul hmax hby
   omega))
  have hge:=grownCap_ge w (m+n) sc E
  have hN:(olds++news).length=(m+n)*ti.size:=by rw[List.length_append,ek,hnl,Nat.add_mul]
  have hb0:Below w.heap.size w (w.drew.alloc (.cells (olds++news++(Builtin.zeroCells zv.cells (grownCap w (m+n) sc E-(m+n))).toList).toArray E)):=Below.alloc (Below.drew (Below.refl _ _)) (Nat.le_refl _) _
  have Pb:∀{q:Pred} {v:Value},aA q->q w v->q (w.drew.alloc (.cells (olds++news++(Builtin.zeroCells zv.cells (grownCap w (m+n) sc E-(m+n))).toList).toArray E)) v:=λhq hv=>hq _ w _ (IK) hv _ (Ext.bI hb0)
  refine⟨_,λk=>k=w.heap.size,.slice (some ⟨w.heap.size,0,none⟩) (m+n) (grownCap w (m+n) sc E),?_,cz.bI hb0,λk hk=>.inr (by omega),.inr ⟨w.heap.size,_,_,rfl,λ_=>Iff.rfl,heap_alloc_new w.drew _,?_,hge,grownCap_le_maxLen w (m+n) sc E (by unfold maxLen; omega),?_,λi hi=>?_⟩⟩
  ·rw[e,hrun]
   congr 3
   apply Array.ext'
   simp
  ·rw[List.length_append,hN,Array.length_toList,size_zeroCells,hzs,<-Nat.add_mul]
   congr 1; omega
  ·intro u hu
   rcases List.mem_append.1 hu with hu|hu
   ·rcases List.mem_append.1 hu with hu|hu
    ·exact SA u hu
    ·exact(zW u hu).1
   ·exact eB PK _ u hu
  ·have hle:(i+1)*ti.size<=(m+n)*ti.size:=Nat.mul_le_mul_right _ hi
   rw[Nat.succ_mul]at hle
   rw[List.drop_append_of_le_length (by rw[hN]; omega),List.take_append_of_le_length (by rw[List.length_drop,hN]; omega)]
   by_cases Dx:i<m
   ·have FC:(i+1)*ti.size<=m*ti.size:=Nat.mul_le_mul_right _ Dx
    rw[Nat.succ_mul]at FC
    simp only[Dx,if_true]
    rw[List.drop_append_of_le_length (by omega),List.take_append_of_le_length (by rw[List.length_drop]; omega)]
    exact Pb (hn i) (NF i Dx)
   ·simp only[Dx,if_false]
    rw[zO ek (by omega)]
    exact Pb (hng _) (hnf (i-m) (by omega)).out
 rcases c5 with⟨e,hm0,hX⟩|⟨bb,cap,cur,e,hX,hblk,nR,Ps,hcm,yA,hf⟩
 ·subst hm0
  refine fresh none 0 [] e (by omega) (by simp) (λu hu=>by cases hu) (λi hi=>absurd hi (Nat.not_lt_zero _)) (run_firstCells_none w.drew ti.size 0 0 0)
 ·have uo:(cur.take (m*ti.size)).length=m*ti.size:=by
   rw[List.length_take,nR,Nat.min_eq_left (Nat.mul_le_mul_right _ Ps)]
  have AL:∀i,i<m->((cur.take (m*ti.size)).drop (i*ti.size)).take ti.size=(cur.drop (i*ti.size)).take ti.size:=λi hi=>by
   have FC:(i+1)*ti.size<=m*ti.size:=Nat.mul_le_mul_right _ hi
   rw[Nat.succ_mul]at FC
   rw[List.drop_take,List.take_take,Nat.min_eq_left (by omega)]
  by_cases hroom:m+n<=cap
  ·have hN:m*ti.size+n*ti.size<=cap*ti.size:=by
    have:=Nat.mul_le_mul_right ti.size hroom
    rwa [Nat.add_mul]at this
   have hsome:∀j,j<news.length->(w.cell? ⟨bb,0+m*ti.size+j,none⟩).isSome=true:=by
    intro j hj
    simp only[World.cell?,hblk]
    rw[List.getElem?_toArray,List.getElem?_eq_getElem (by rw[nR]; omega)]
    rfl
   have hfz:∀j,j<news.length->w.frozen? ⟨bb,0+m*ti.size+j,none⟩=false:=by
    intro j hj
    simp[World.frozen?,hblk]
   have hrun:=run_append_room_src (P:=P) w T tx ty E ti ht.under hi bb 0 m cap yv n news hS hroom hsome hfz
   have yD:w.setCells bb (0+m*ti.size) news=w.setRow bb (cur.take (m*ti.size)++news++cur.drop (m*ti.size+news.length)).toArray:=by
    have r1:=run_storeCells_cells (P:=P) bb (0+m*ti.size) news 0 w (by simpa using hsome) (by simpa using hfz) λu hu=>(zW u hu).2
    have r2:=run_storeCells_at P bb (0+m*ti.size) E news 0 cur.toArray w hblk (by simp; omega) λu hu=>(zW u hu).2
    rw[r1]at r2
    injection r2 with _ r2
    simpa using r2
   rw[yD]at hrun
   have og:∀j,M bb j:=λj=>L8 bb ((hX bb).2 rfl) j
   have AI:Ext M w (w.setRow bb (cur.take (m*ti.size)++news++cur.drop (m*ti.size+news.length)).toArray):=⟨Nat.le_of_eq size_setRow.symm,λk hk hno=>aC λe'=>hno 0 (by rw[e']; exact og 0),λk o u hno gh=>by
    have xu:k≠bb:=λe'=>hno (by rw[e']; exact og o)
    rw[World.cell?_of_block (w:=w) (a:=⟨k,o,none⟩) (aC xu)]; exact gh⟩
   have Pb:∀{q:Pred} {v:Value},aA q->q w v->q (w.setRow bb (cur.take (m*ti.size)++news++cur.drop (m*ti.size+news.length)).toArray) v:=λhq hv=>hq _ w _ (IK) hv _ AI
   refine⟨w.setRow bb (cur.take (m*ti.size)++news++cur.drop (m*ti.size+news.length)).toArray,X,.slice (some ⟨bb,0,none⟩) (m+n) cap,by rw[e,hrun],⟨rfl,rfl,rfl,Nat.le_of_eq size_setRow.symm,λk hk hno=>aC λe'=>hno ((hX k).2 e')⟩,λk hk=>.inl hk,.inr ⟨bb,cap,cur.take (m*ti.size)++news++cur.drop (m*ti.size+news.length),rfl,hX,setRow_heap w _ _ _ _ _ hblk,?_,hroom,hcm,λu hu=>?_,λi hi=>?_⟩⟩
   ·rw[List.length_append,List.length_append,uo,List.length_drop,nR,hnl]; omega
   ·rcases List.mem_append.1 hu with hu|hu
    ·rcases List.mem_append.1 hu with hu|hu
     ·exact yA u (List.mem_of_mem_take hu)
     ·exact(zW u hu).1
    ·exact yA u (List.mem_of_mem_drop hu)
   ·have Ue:(cur.take (m*ti.size)++news).length=(m+n)*ti.size:=by rw[List.length_append,uo,hnl,Nat.add_mul]
    have hle:(i+1)*ti.size<=(m+n)*ti.size:=Nat.mul_le_mul_right _ hi
    rw[Nat.succ_mul]at hle
    rw[List.drop_append_of_le_length (by rw[Ue]; omega),List.take_append_of_le_length (by rw[List.length_drop,Ue]; omega)]
    by_cases Dx:i<m
    ·have FC:(i+1)*ti.size<=m*ti.size:=Nat.mul_le_mul_right _ Dx
     rw[Nat.succ_mul]at FC
     simp only[Dx,if_true]
     rw[List.drop_append_of_le_length (by rw[uo]; omega),List.take_append_of_le_length (by rw[List.length_drop,uo]; omega),AL i Dx]
     exact Pb (hn i) (hf i Dx)
    ·simp only[Dx,if_false]
     rw[zO uo (by omega)]
     exact Pb (hng _) (hnf (i-m) (by omega)).out
  ·refine fresh (some ⟨bb,0,none⟩) cap (cur.take (m*ti.size)) e (by omega) uo (λu hu=>yA u (List.mem_of_mem_take hu)) (λi hi=>by rw[AL i hi]; exact hf i hi) (run_firstCells_some w.drew ti.size m ⟨bb,0,none⟩ m cap _ uo λj u hj=>?_)
   rw[Addr.add_mid,Nat.zero_add]
   have hdr:w.drew.heap=w.heap:=rfl
   simp only[World.cell?,hdr,hblk]
   rw[List.getElem?_take]at hj
   split at hj
   ·simpa using hj
   ·cases hj
variable {p:Pred}
theorem Dt (IK:cR M w) (L8:∀k,X k->∀o,M k o) (c5:pC sz m ag E f s X w) (hy:aM M (λw=>bK sz ag 1 (λ_=>p) w yv) w) (ht:xx P T tx E sz) (hagg:ag=false->sz=1) (hfit:Fits sz ag p) (hn:∀i,aA (f i)) (hnp:aA p) (hmax:m+1<=1073741824):
  ∃(w':World) (X':Nat->Prop) (s':Value),(Builtin.append_ #[T,tx] ty #[s,yv]).run P w=.ok s' w'/\cz X w w'/\(∀k,X' k->X k\/w.heap.size<=k)/\pC sz (m+1) ag E (λi=>if i<m then f i else p) s' X' w':=by
 have e:(λi=>if i<m then f i else p)=λi=>if i<m then f i else(λ_:Nat=>p) (i-m):=rfl
 rw[e]
 exact sE IK L8 c5 hy ht hagg (λ_=>hfit) hn (λ_=>hnp) Nat.one_pos hmax
def JC (sz m:Nat) (ag:Bool) (E:TypeId) (f:Nat->Pred) (s:Value):Rel:=λB w _=>pC sz m ag E f s B w
abbrev kX (id sz m:Nat) (ag:Bool) (E:TypeId) (f:Nat->Pred) (s:Value):Vr:=cN id id (JC sz m ag E f s)
theorem je {B:Nat->Prop} {w:World} (h:pC sz m ag E f s B w):∀k,B k->k<w.heap.size/\∀o v,w.cell? ⟨k,o,none⟩=some v->gv v:=by
 intro k hk
 rcases h with⟨_,_,h6⟩|⟨bb,cap,cur,_,k2,k3,_,_,_,k7,_⟩
 ·exact absurd hk (h6 k)
 ·have:=(k2 k).1 hk
  subst this
  refine⟨(Array.getElem?_eq_some_iff.1 k3).1,λo v hc=>?_⟩
  simp only[World.cell?,k3]at hc
  have:cur[o]?=some v:=by simpa using hc
  exact k7 v (List.mem_of_getElem? this)
theorem NN {V:List Vr} {N m':Nat} {f':Nat->Pred} (hm:m=m':=by first|rfl|omega) (hf:∀i,i<m->∀w v,f i w v->f' i w v:=by exactλ_ _ _ _ h=>h) (h:lO N V=some (kX N sz m ag E f s):=by exact rfl):∃r:Rel,lO (kX N sz m' ag E f' s).id V=some ⟨(kX N sz m' ag E f' s).id,(kX N sz m' ag E f' s).slot,none,none,(kX N sz m' ag E f' s).kd,(kX N sz m' ag E f' s).T,(kX N sz m' ag E f' s).n,(kX N sz m' ag E f' s).agg,r,[]⟩/\((kX N sz m' ag E f' s).born=none/\(kX N sz m' ag E f' s).dead=none/\(kX N sz m' ag E f' s).st=[])/\∀F w v,r F w v->(kX N sz m' ag E f' s).c0 F w v:=by
 subst hm
 refine⟨_,h,⟨rfl,rfl,rfl⟩,λF w v h5=>h5.imp (λh=>h) ?_⟩
 rintro⟨bb,cap,cur,k1,k2,k3,k4,k5,k6,k7,k8⟩
 exact⟨bb,cap,cur,k1,k2,k3,k4,k5,k6,k7,λi hi=>hf i hi _ _ (k8 i hi)⟩
variable {id:Nat}
theorem PT (f:Nat->Pred) (hI:Inv c V [] G none_ a w) (hid:(V.all λy=>y.id != id)=true:=by kernel_rfl):Inv c (V++[kX id sz 0 ag E f (.slice none 0 0)]) [] G none_ a w:=by
 obtain⟨β,h⟩:=hI
 rw[List.all_eq_true]at hid
 have hne:∀y,y∈V->y.id≠id:=λy hy=>by simpa using hid y hy
 have e1:∀y,y∈V->jh β id (λ_=>False) y.id=β y.id:=λy hy=>rF (hne y hy)
 have eN:∀k,¬jh β id (λ_=>False) id k:=λk hk=>by rw[mj]at hk; exact hk
 have hmem:∀y,y∈V++[kX id sz 0 ag E f (.slice none 0 0)]->y∈V\/y=kX id sz 0 ag E f (.slice none 0 0):=λy hy=>by simpa using hy
 have hown:∀k o,own c (V++[kX id sz 0 ag E f (.slice none 0 0)]) none_ (jh β id λ_=>False) k o->own c V none_ β k o:=by
  rintro k o (h1|⟨y,hy,h1,h2,h3⟩)
  ·exact .inl h1
  ·rcases hmem y hy with hy|rfl
   ·rw[e1 y hy]at h2
    exact .inr ⟨y,hy,h1,h2,h3⟩
   ·exact absurd h2 (eN k)
 refine⟨jh β id λ_=>False,h.size,h.defers,h.below,h.old,λy hy hl=>?_,λy y' g hy hy' hl hl' IY=>?_,(λp hp=>by cases hp),λe he ho hf=>(h.gY e he ho hf).sub λk o _ hk=>hown k o hk⟩
 ·rcases hmem y hy with hy|rfl
  ·exact(h.var y hy hl).keep rfl (e1 y hy) (λ_ _=>rfl) (Nat.le_refl _) (λ_ hF=>hF.sub λk o _ hk=>hown k o hk) (λ_ hF=>hF.sub λk o _ hk=>⟨hown k o hk.1,hk.2⟩) rfl
  ·exact(aK rfl).2 ⟨λk hk=>absurd hk (eN k),λ_ _=>.inl ⟨rfl,rfl,eN⟩⟩
 ·rcases hmem y hy with hy|rfl<;>rcases hmem y' hy' with hy'|rfl
  ·rw[e1 y hy,e1 y' hy']
   exact h.apart y y' g hy hy' hl hl' IY
  ·exactλ_=>eN g
  ·exactλh2=>absurd h2 (eN g)
  ·exact absurd rfl IY
theorem Rl {ops:Array Oper} {n0 d e:Nat} {x y:Operand} {ty2:TypeId} {pos pos2:String} {aL aft2:Array Edge} (f':Nat->Pred) (hf':∀i w v,(if i<m then f i else p) w v->i<m+1->f' i w v) (hk:V[n0]?=some (kX id sz m ag E f s):=by exact rfl) (h1:Has [0] G 0 x (bp s):=by exact hs) (h2:Has [0] G 0 y (bK sz ag 1 λ_=>p):=by exact hs) (hmax:m+1<=1073741824:=by omega)
  (hnf:∀i,aA (f i):=by intro i; exact CI) (hnp:aA p:=by exact CI) (hfit:Fits sz ag p:=by exact uk) (hagg:ag=false->sz=1:=by intro h; first|cases h|rfl) (ht:De P T tx E sz=true:=by kernel_rfl) (hV:bj V=true:=by kernel_rfl) (hG:bV G=true:=by kernel_rfl) (hu:dO V id n0=true:=by kernel_rfl) (hfr:qp V G d e c.N=true:=by kernel_rfl):
  fL P ops (Inv c V [] G none_) [⟨some d,.call ⟨.builtin .append,#[x,y],#[T,tx]⟩,ty,pos,aL,none⟩,⟨some e,.assign (.tmp d),ty2,pos2,aft2,none⟩] (λa w=>∃s',Inv c (V.set n0 (kX id sz (m+1) ag E f' s')) [] (⟨none,none,e,bp s'⟩::G) none_ a w):=by
 unfold qp at hfr
 simp only[Bool.and_eq_true,List.all_eq_true,decide_eq_true_eq,bne_iff_ne]at hfr
 obtain⟨fV,fG,Kv,IQ,Qy⟩:=hfr
 refine⟨λa w=>∃s',Inv c (V.set n0 (kX id sz (m+1) ag E f' s')) [] (⟨none,none,d,bp s'⟩::G) none_ a w,?_,_,?_,rfl⟩
 ·rintro a w ⟨β,hI⟩
  have hx0:=List.mem_of_getElem? hk
  have hO:=(aK rfl).1 (hI.var _ hx0 rfl)
  have hB:aM (minus (own c V none_ β) (β id)) (λw=>pC sz m ag E f s (β id) w) w:=hO.2
  have L8:∀k,β id k->∀o,own c V none_ β k o:=λk hk o=>.inr ⟨_,hx0,rfl,hk,Nat.zero_le _⟩
  obtain⟨w',X',s',hr,hle,OX,hgr⟩:=Dt (ty:=ty) (yv:=a.eval y) (aZ hI) L8 hB.out (h2.spec hI mS) (nI ht) hagg hfit hnf hnp hmax
  have ex:a.eval x=s:=(h1.spec hI mS).out
  rw[<-ex]at hr
  have hn':∀i,aA (if i<m then f i else p):=λi=>by by_cases h:i<m<;>simp only[h,if_true,if_false]; exact hnf i; exact hnp
  refine .of rfl (eH hr ⟨s',jh β id X',?_⟩)
  have hm:=hI.move (B':=X') (R':=JC sz (m+1) ag E f' s') (w':=w') hV hG hk (eC hu) hle OX (je hgr) ?_
  ·refine hm.nu Kv (λx hx=>?_) (λe he=>(fG e he).1) λ_ _=>rfl
   rcases List.mem_or_eq_of_mem_set hx with hx|rfl
   ·exact(fV x hx).1
   ·exact(fV _ hx0).1
  ·intro w'' he
   have kE:cR (minus (own c V none_ β) (β id)) w':=λk o hk=>by
    obtain⟨k1,k2⟩:=aZ hI k o hk.1
    exact⟨Nat.lt_of_lt_of_le k1 hle.size,λu gh=>k2 u (by rw[<-World.cell?_of_block (w:=w) (w':=w') (a:=⟨k,o,none⟩) (hle.block k k1 hk.2)]; exact gh)⟩
   have hb:∀k,X' k->w''.heap[k]?=w'.heap[k]?:=λk hk=>he.block k (je hgr k hk).1 λo ho=>(OX k hk).elim ho.2 λh=>absurd (aZ hI k o ho.1).1 (Nat.not_lt.2 h)
   refine(hgr.keep hn' kE he hb).imp (λh=>h) ?_
   rintro⟨bb,cap,cur,j1,j2,j3,j4,j5,j6,j7,j8⟩
   exact⟨bb,cap,cur,j1,j2,j3,j4,j5,j6,j7,λi hi=>hf' i _ _ (j8 i hi) hi⟩
 ·rintro a w ⟨s',β,hI⟩
  have hv:a.eval (.tmp d)=s':=(hI.gY ⟨none,none,d,bp s'⟩ (List.mem_cons_self ..) rfl rfl).out
  have yz:=hI.sR (G':=G) λe he=>List.mem_cons_of_mem _ he
  have hx0:=List.mem_of_getElem? hk
  refine .of rfl ?_
  unfold Does
  have hr:(execOp a.eval ⟨some e,.assign (.tmp d),ty2,pos2,aft2,none⟩).run P w=.ok (.value s') w:=by rw[<-hv]; rfl
  rw[hr]
  refine⟨s',β,yz.nu IQ (λx hx=>?_) (λe he=>(fG e he).2) λ_ _=>rfl⟩
  rcases List.mem_or_eq_of_mem_set hx with hx|rfl
  ·exact(fV x hx).2
  ·exact(fV _ hx0).2
theorem Bz (hI:Inv c V [] G none_ a w) (k slot:Nat) (hk:V[k]?=some (kX id sz m ag E f s)) (hu:((V.eraseIdx k).all λy=>y.id != id)=true) (h1:fD slot G=some (bp s):=by exact rfl):Inv c (V.eraseIdx k) [] (⟨none,none,slot,bK sz ag m f⟩::G) none_ a w:=by
 obtain⟨β,h⟩:=hI
 have hx:=List.mem_of_getElem? hk
 have hsub:∀y,y∈V.eraseIdx k->y∈V/\y.id≠id:=λy hy=>⟨List.mem_of_mem_eraseIdx hy,by
  have:=List.all_eq_true.1 hu y hy
  simpa using this⟩
 have hO:=(aK rfl).1 (h.var _ hx rfl)
 have hB:aM (minus (own c V none_ β) (β id)) (λw=>pC sz m ag E f s (β id) w) w:=hO.2
 have gJ:∀k,β id k->mine c k:=λk hk'=>(hO.1 k hk').1
 obtain⟨k1,nD⟩:=dn h1
 have es:sl a slot=s:=(h.gY _ (List.mem_of_getElem? nD) rfl rfl).out
 have eo:∀k' o,own c (V.eraseIdx k) none_ β k' o->minus (own c V none_ β) (β id) k' o:=by
  rintro k' o (hM|⟨y,hy,q1,q2,q3⟩)
  ·exact⟨.inl hM,λhb=>gy h (gJ k' hb) hM⟩
  ·obtain⟨hy,hid⟩:=hsub y hy
   exact⟨.inr ⟨y,hy,q1,q2,q3⟩,λhb=>h.apart y _ k' hy hx q1 rfl hid q2 hb⟩
 refine⟨β,h.size,h.defers,h.below,h.old,λy hy hl=>(h.var y (hsub y hy).1 hl).keep rfl rfl (λ_ _=>rfl) (Nat.le_refl _) (λF hF=>hF.sub λk o _ hh=>(eo k o hh).1) (λF hF=>hF.sub λk o _ hh=>⟨(eo k o hh.1).1,hh.2⟩) rfl,λy z g hy hz=>h.apart y z g (hsub y hy).1 (hsub z hz).1,(λp hp=>by cases hp),λe he ho hf'=>?_⟩
 rcases List.mem_cons.1 he with rfl|he
 ·intro w' hw'
  show bK sz ag m f w' (sl a slot)
  rw[es]
  rcases hB w' (hw'.mono λk o _ hh=>eo k o hh)with⟨e,hm,_⟩|⟨bb,cap,cur,e,_,d3,d4,d5,d6,_,d8⟩
  ·subst e hm
   exact⟨none,0,rfl,Nat.le_refl _,Nat.zero_le _,λh=>absurd h (Nat.lt_irrefl 0)⟩
  ·subst e
   refine⟨_,cap,rfl,d5,d6,λ_=>⟨bb,0,rfl,λq hq=>⟨(cur.drop (q*sz)).take sz,?_,λj v hj=>?_,d8 q hq⟩⟩⟩
   ·have:=Nat.mul_le_mul_right sz (Nat.lt_of_lt_of_le hq d5)
    rw[Nat.succ_mul]at this
    rw[List.length_take,List.length_drop]
    omega
   ·rw[Nat.zero_add]
    exact iq d3 _ _ j v hj
 ·exact(h.gY e he ho hf').sub λk o _ hh=>(eo k o hh).1
end
end Wx
