import Derived.Test.YtocboimkilkklaaGreatCRFRep1
namespace Wx
open Go Go.RowKit Go.Proofs Go.ChangeShapes Go.WideShapes Go.ChangeAt
set_option linter.unusedVariables false
section
variable {H:Type} {enc:TypeId×Value->H} {w:World}
theorem EX.Sg {P:Program} {e:TypeId} {agg:Bool} {α β:Type} {C:α->Prop} {f:α->Pred} {C':β->Prop} {f':β->Pred} (h:EX enc P w e agg C f) (g:α->β) (hC:∀a,C a->C' (g a)) (hf:∀a w v,f a w v->f' (g a) w v):EX enc P w e agg C' f':=λfuel cs x hx=>by
 obtain⟨a,h1,h2⟩:=h fuel cs x hx
 exact⟨g a,hC a h1,λw' hw=>hf a w' _ (h2 w' hw)⟩
end
theorem I6 {f:FuncId} {P:Program} {args:Array Value} {W:World} (h:Calls P f args W (bu (λ_ _=>False) (pB true) W)):Calls P f args W λe w'=>e=.returned (.bool true)/\Below W.heap.size W w':=
 h.mono λe w' h=>by
  obtain⟨v,rfl,hv,hb⟩:=h
  have:v=.bool true:=hv.out
  exact⟨by rw[this],hb⟩
theorem LI {w:World}:dc (λ_ _=>False) w:=λ_ _ h=>h.elim
end Wx

namespace Wx
open Go Go.RowKit
set_option linter.unusedVariables false
section
variable {α:Type} {sz:Nat} {F:α->Pred} {d0:α} {l:List α}
def Kz (sz:Nat) (F:α->Pred) (x:α):Fd:=⟨true,sz,F x⟩
def pG (sz:Nat) (F:α->Pred) (l:List α):Pred:=pS (l.map (Kz sz F))
theorem Ip:∀{l:List α} {w:World} {cs:List Value},aJ (l.map (Kz sz F)) w cs->cs.length=l.length*sz
 |[],_,_,h=>by rw[show _=[]from h,List.length_nil,List.length_nil,Nat.zero_mul]
 |_::l,_,cs,⟨h1,_,h3⟩=>by
  have:=Ip h3
  have h1:sz<=cs.length:=h1
  have:cs.length-sz=l.length*sz:=by rw[<-List.length_drop]; exact this
  rw[List.length_cons,Nat.succ_mul]; omega
theorem DU:∀{l:List α} {w:World} {cs:List Value} (q:Nat),aJ (l.map (Kz sz F)) w cs->aJ ((l.drop q).map (Kz sz F)) w (cs.drop (q*sz))
 |l,_,_,0,h=>by rw[Nat.zero_mul,List.drop_zero,List.drop_zero]; exact h
 |[],_,_,_+1,h=>by rw[show _=[]from h,List.drop_nil,List.drop_nil]; rfl
 |_::_,_,_,q+1,⟨_,_,h3⟩=>by
  have:=DU q h3
  rw[List.drop_drop,show(Kz sz F _).n+q*sz=(q+1)*sz from(show sz+q*sz=(q+1)*sz by rw[Nat.succ_mul,Nat.add_comm])]at this
  exact this
theorem DV:∀{l:List α} {w:World} {cs:List Value} (q:Nat),aJ (l.map (Kz sz F)) w cs->aJ ((l.take q).map (Kz sz F)) w (cs.take (q*sz))
 |l,_,_,0,_=>by rw[Nat.zero_mul,List.take_zero,List.take_zero]; rfl
 |[],_,_,_+1,h=>by rw[show _=[]from h,List.take_nil,List.take_nil]; rfl
 |_::_,w,cs,q+1,⟨h1,h2,h3⟩=>by
  have h1:sz<=cs.length:=h1
  have hq:(q+1)*sz=q*sz+sz:=Nat.succ_mul q sz
  refine⟨?_,?_,?_⟩
  ·show sz<=(cs.take ((q+1)*sz)).length; rw[List.length_take]; omega
  ·show F _ w (aA true ((cs.take ((q+1)*sz)).take sz)); rw[List.take_take,Nat.min_eq_left (by omega)]; exact h2
  ·show aJ _ w ((cs.take ((q+1)*sz)).drop sz); rw[List.drop_take,show(q+1)*sz-sz=q*sz by omega]; exact DV q h3
theorem Oz {x:α} {w:World} {ds:List Value} (hl:ds.length=sz):aJ ([x].map (Kz sz F)) w ds↔F x w (aA true ds):=by
 refine⟨λ⟨_,h2,_⟩=>?_,λh=>⟨by show sz<=_; omega,?_,List.drop_eq_nil_iff.2 (by show _<=sz; omega)⟩⟩
 ·have h2:F x w (aA true (ds.take sz)):=h2
  rwa [List.take_of_length_le (by omega)]at h2
 ·show F x w (aA true (ds.take sz))
  rwa [List.take_of_length_le (by omega)]
theorem T2 {q:Nat} (h:q<l.length):(l.drop q).take 1=[l.getD q d0]:=by
 rw[List.drop_eq_getElem_cons h,List.take_succ_cons,List.take_zero,List.getD_eq_getElem?_getD,List.getElem?_eq_getElem h]; rfl
variable {off:Nat}
theorem JJ (q m:Nat) (ho:off=q*sz):∀w cs,pG sz F l w (aA true cs)->pG sz F ((l.drop q).take m) w (aA true ((cs.drop off).take (m*sz))):=by
 rintro w cs ⟨ds,e,h⟩
 have:=dF (show aA true cs=aA true ds from e)
 subst this ho
 exact⟨_,rfl,DV m (DU q h)⟩
theorem CW (q:Nat) (ho:off=q*sz) (hq:q<l.length):∀w cs,pG sz F l w (aA true cs)->F (l.getD q d0) w (aA true ((cs.drop off).take sz)):=by
 intro w cs h
 obtain⟨ds,e,h⟩:=JJ q 1 ho w cs h
 rw[T2 hq]at h
 have e:=dF (show aA true _=aA true ds from e)
 have hl:=Ip h
 rw[Nat.one_mul]at e
 rw[e]
 exact(Oz (by rw[hl,List.length_singleton,Nat.one_mul])).1 h
end
section
variable {P:Program} {ops:Array Oper} {ms:List Nat} {c:eL} {V:List Vr} {A:List Al} {G:List bI} {i:Nat}{d:Nat} {x y:Operand} {ty:TypeId} {pos:String} {aZ:Array Edge} {α:Type} {F:α->Pred} {l:List α}{S f sz N:Nat}
theorem hW (q m:Nat) (h:Has ms G i x (fL N true (pG sz F l)):=by exact hs) (hle:q*sz+m*sz<=N:=by decide) (hp:Post G i (fL (m*sz) true (pG sz F ((l.drop q).take m))):=by exact pt rfl) (hf:∀b o w,(Instr.fieldAt S (.pointer (some ⟨b,o,none⟩)) f).run P w=.ok (.pointer (some ⟨b,o+q*sz,none⟩)) w:=by exactλ_ _ _=>by kernel_rfl)
  (hA:(A.all λq=>q.tag != some i)=true:=by kernel_rfl):OpOk P ops ms c V A G i ⟨some d,.fieldAddr S x f,ty,pos,aZ,none⟩:=
 dW rfl rfl rfl (.inr hA) hp λL β a w hI hd=>by
  have hr:=h.spec hI hd
  obtain⟨b,o,cs,e,_⟩:=hr.out
  refine⟨.pointer (some ⟨b,o+q*sz,none⟩),w,?_,Below.refl _ _,λw' he=>uV he hr e (λw cs hl=>JJ q m rfl w cs) hle⟩
  show(do pure (Next.value (<-Instr.fieldAt S (a.eval x) f))).run P w=_
  rw[e,Sem.run_bind,hf]
  rfl
theorem hQ (q:Nat) (d0:α) (h:Has ms G i x (fL N true (pG sz F l)):=by exact hs) (hl:q<l.length:=by omega) (hle:q*sz+sz<=N:=by decide) (hp:Post G i (fL sz true (F (l.getD q d0))):=by exact pt rfl) (hf:∀b o w,(Instr.fieldAt S (.pointer (some ⟨b,o,none⟩)) f).run P w=.ok (.pointer (some ⟨b,o+q*sz,none⟩)) w:=by exactλ_ _ _=>by kernel_rfl)
  (hA:(A.all λq=>q.tag != some i)=true:=by kernel_rfl):OpOk P ops ms c V A G i ⟨some d,.fieldAddr S x f,ty,pos,aZ,none⟩:=
 dW rfl rfl rfl (.inr hA) hp λL β a w hI hd=>by
  have hr:=h.spec hI hd
  obtain⟨b,o,cs,e,_⟩:=hr.out
  refine⟨.pointer (some ⟨b,o+q*sz,none⟩),w,?_,Below.refl _ _,λw' he=>uV he hr e (λw cs hl2=>CW q rfl hl w cs) hle⟩
  show(do pure (Next.value (<-Instr.fieldAt S (a.eval x) f))).run P w=_
  rw[e,Sem.run_bind,hf]
  rfl
variable {o n:Nat}
theorem MT {l:List α} {q:Nat} {d0:α} (hq:q<n):((l.drop o).take n).getD q d0=l.getD (o+q) d0:=by
 rw[List.getD_eq_getElem?_getD,List.getD_eq_getElem?_getD,List.getElem?_take,if_pos hq,List.getElem?_drop]
variable {T:TypeId}
theorem hI' (n q:Nat) (d0:α) (h:Has ms G i x (fL N true (pG sz F ((l.drop o).take n))):=by exact hs) (hy:Has ms G i y (pI (q:Int)):=by exact(Wx.hs).imp (fl (by omega))) (hq:q<n:=by omega) (hl:o+n<=l.length:=by omega) (hp:Post G i (fL sz true (F (l.getD (o+q) d0))):=by exact pt rfl) (hsz:N=n*sz:=by exact rfl) (ht:PZ P T n sz=true:=by kernel_rfl) (hA:(A.all λq=>q.tag != some i)=true:=by kernel_rfl):
  OpOk P ops ms c V A G i ⟨some d,.indexAddr T x y,ty,pos,aZ,none⟩:=
 dW rfl rfl rfl (.inr hA) hp λL β a w hI hd=>by
  have hr:=h.spec hI hd
  have h2:a.eval y=.int .i64 (q:Int):=(hy.spec hI hd).out
  obtain⟨b,o',cs,e,_⟩:=hr.out
  have h1:=Nat.mul_le_mul_right sz (Nat.succ_le_of_lt hq)
  rw[Nat.succ_mul]at h1
  refine⟨.pointer (some ⟨b,o'+q*sz,none⟩),w,?_,Below.refl _ _,λw' he=>uV he hr e (λw cs hl2 hh=>?_) (by omega)⟩
  ·show(do pure (Next.value (<-Instr.indexAt T (a.eval x) (a.eval y)))).run P w=_
   rw[e,h2,Sem.run_bind]
   have:=zk ht (b:=b) (off:=o') (m:=(q:Int)) (by omega) (by omega) w
   rw[Int.toNat_natCast]at this
   rw[this]
   rfl
  ·have:=CW (d0:=d0) q rfl (by rw[List.length_take,List.length_drop]; omega) w cs hh
   rwa [MT hq]at this
theorem hS (n:Nat) (d0:α) (h:Has ms G i x (fL N true (pG sz F ((l.drop o).take n))):=by exact hs) (hl:o+n<=l.length:=by omega) (hp:Post G i (dK sz true n λk=>F (l.getD (o+k) d0)):=by exact pt rfl) (hN:N=n*sz:=by exact rfl) (hm:n<=1000000:=by decide) (ht:PZ P T n sz=true:=by kernel_rfl):OpOk P ops ms c V A G i ⟨some d,.slice T x none none none,ty,pos,aZ,none⟩:=
 lR rfl rfl rfl rfl h hp λρ w h1=>by
  obtain⟨b,o',cs,e,qO,hc,hv⟩:=h1
  refine⟨.slice (some ⟨b,o',none⟩) n n,?_,?_⟩
  ·show(do pure (Next.value (<-Instr.sliceAt T (ρ x) none none none))).run P w=_
   rw[e,Sem.run_bind,zl ht]
   rfl
  ·rintro w' ⟨b',o'',cs',e',hl',hc',hv'⟩
   rw[e]at e'
   cases e'
   refine⟨_,n,rfl,Nat.le_refl _,by unfold maxLen; omega,λ_=>⟨b,o',rfl,λk hk=>⟨(cs'.drop (k*sz)).take sz,?_,λq u hq=>?_,?_⟩⟩⟩
   ·have h1:=Nat.mul_le_mul_right sz (Nat.succ_le_of_lt hk)
    rw[Nat.succ_mul]at h1
    rw[List.length_take,List.length_drop,hl']; omega
   ·rw[List.getElem?_take]at hq
    split at hq
    ·rw[List.getElem?_drop]at hq
     have:=hc' _ _ hq
     rwa [Nat.add_assoc]
    ·cases hq
   ·have:=CW (d0:=d0) k rfl (by rw[List.length_take,List.length_drop]; omega) w' cs' hv'
    rwa [MT hk]at this
variable {yv:Vr}
theorem X5 {tx:TypeId} {e:Nat->α} (L:List α) (d0:α) (hF:∀x,Fits sz true (F x)) (he:∀k,k<n->e k=L.getD k d0:=by exactλ_ _=>rfl) (hv:GG i V=some yv:=by exact rfl) (h1:Has ms G i x ze:=by exact hs) (h2:Has ms G i y (dK sz true n λk=>F (e k)):=by exact hs) (hp:Post G i (dK sz true n λk=>F (L.getD k d0)):=by exact pt rfl) (ri:yv.kd=.grow n sz:=by exact rfl) (hn:0<n:=by decide) (hmax:n<=1073741824:=by decide)
  (ht:Hf P T tx yv.T sz=true:=by kernel_rfl) (iI:(A.all λp=>p.var != yv.id||p.tag.any λj=>(ms.getD j 0).testBit i)=true:=by kernel_rfl):OpOk P ops ms c V A G i ⟨some d,.call ⟨.builtin .append,#[x,y],#[T,tx]⟩,ty,pos,aZ,none⟩:=by
 obtain⟨⟨k,hk⟩,hb⟩:=mb hv
 exact CQ k hk hb ri rfl iI h1 h2 (tC ht) (λh=>by cases h) (λ_ _=>hF _) hn hmax (hp.down (JZ λk hk w v h=>by rw[<-he k hk]; exact h))
theorem X6 {p:Pred} {m s:Nat} {xv:Vr} (hx:Qg ms i s V=some xv:=by exact rfl) (hv:GG i V=some yv:=by exact rfl) (h1:Has ms G i (.tmp s) p:=by exact hs) (hp:Post G i p:=by exact pt rfl) (dI:xv.kd=.grow m sz:=by exact rfl) (AE:xv.dead=some i:=by exact rfl) (ri:yv.kd=.grow m sz:=by exact rfl) (hT:yv.T=xv.T:=by exact rfl) (iI:(A.all λp=>p.var != yv.id||p.tag.any λj=>(ms.getD j 0).testBit i)=true:=by kernel_rfl):
  OpOk P ops ms c V A G i ⟨some d,.assign (.tmp s),ty,pos,aZ,none⟩:=by
 obtain⟨⟨k,hk⟩,hb⟩:=mb hv
 obtain⟨⟨k1,jE⟩,Fv,ho⟩:=zq hx
 exact CR k1 jE Fv ho dI AE k hk hb ri hT iI h1 hp
end
end Wx

namespace Wx
open Go Go.RowKit
section
variable {g n:Nat} {R:List TG} {X:List (List Rat)} {H:List Bk}
end
end Wx

namespace Wx
end Wx

namespace Wx
section
variable {A B:List (List Rat)} {n k:Nat}
end
section
variable {L:List Rat} {p:Rat} {k:Nat}
end
section
variable {X:List (List Rat)} {c k:Nat}
end
section
variable {X:List (List Rat)} {m j c:Nat}
end
open Go Go.RowKit
section
variable {X:List (List Rat)} {n k:Nat}
end
end Wx

namespace Wx
open Go Go.RowKit
section
variable {L:List Int} {n f k j:Nat}
end
end Wx

namespace Wx
section
variable {b f:List Rat} {t j J K n:Nat}
end
section
variable {m x:List Rat} {r:Rat} {t:Nat}
end
end Wx

namespace Wx
set_option maxRecDepth 100000
open Go Go.RowKit Go.Proofs
def BP (n d:Int):Rat:=if d<=0 then(n:Rat)else uA n d
variable {n d:Int}
theorem KQ (h1:-9223372036854775808<=n) (h2:n<=9223372036854775807) (h3:-9223372036854775808<=d) (h4:d<=9223372036854775807) (hd:d≠0):bg 64 (uA n d):=
 jY (by omega) (by unfold Bd; omega) (by unfold Bd; omega)
theorem tG (h1:-9223372036854775808<=n) (h2:n<=9223372036854775807) (h4:d<=9223372036854775807):bg 64 (BP n d):=by
 unfold BP
 split
 ·exact⟨by unfold Bd; rw[Rat.num_intCast]; omega,by unfold Bd; rw[Rat.den_intCast]; omega⟩
 ·exact KQ h1 h2 (by omega) h4 (by omega)
theorem Jz (w:World) (n d:Int) (h1:-9223372036854775808<=n) (h2:n<=9223372036854775807) (h4:d<=9223372036854775807):
  Calls Tryz.prog 6 #[.agg #[.int .i64 n,.int .i64 d]] w (fD w (BP n d)):=by
 have HH:=bx (And.intro h1 (And.intro h2 h4))
 by_cases hd:d<=0
 ·have hq:BP n d=(n:Rat):=if_pos hd
  rw[hq]
  generalize hg:(n:Rat)=q
  have HG:=bx hg
  clear h1 h2 h4 hq hg
  go_enter Tryz.func6,Tryz.ntmps6
  go_wp2_with fail
  obtain⟨w1,e1,o1,b1,s1⟩:=dy w [.int .i64 n,.int .i64 d] 24
  obtain⟨w2,e2,o2,b2,s2⟩:=dy w1 [.bool false,.slice none 0 0,.slice none 0 0] 32
  rw[e1,e2]
  rw[s1]at o2
  have hz:aC w (w.heap.size+1) 3 32 [] w2:=⟨b1.trans (b2.mono b1.size),by omega,by simp,_,rfl,o2,bP⟩
  clear e1 e2 s2
  have hc:=D5 w2 n HH.out.1 HH.out.2.1
  rw[HG.out]at hc
  refine Calls.mono hc ?_
  clear hc
  rintro e w3 ⟨vr,rfl,hr,hb⟩
  obtain⟨Mr,Mq,rfl,pY,hrd⟩:=id hr
  obtain⟨mo,my,rfl,_⟩:=id pY
  obtain⟨mw,mz,rfl,_⟩:=id hrd
  have hz:=aC.call (And.intro hz trivial) hb
  have k0:=hz.dH (i:=0) (by omega)
  have k1:=hz.dH (i:=1) (by omega)
  have k2:=hz.dH (i:=2) (by omega)
  have k3:=hz.ou 0
  have k4:=hz.ou 1
  have k5:=hz.ou 2
  go_wp2
  obtain⟨wf,HW,ho,hB,hN⟩:=hz.fin [_,_,_] rfl (bP (b:=decide (q.num<0)) (A1:=mo) (l1:=(ae b64 q.num.natAbs).length) (c1:=my) (A2:=mw) (l2:=(ae b64 (ah q.den)).length) (c2:=mz))
  simp only[ct,Nat.reduceAdd]at HW
  rw[HW]
  (try simp only[Exit.inBlock,Exit.then])
  have f0:=ho.cell (i:=0) rfl
  have f1:=ho.cell (i:=1) rfl
  have f2:=ho.cell (i:=2) rfl
  refine bodyPost_ret (by simp[results,Tryz.results6,go_sem,f0,f1,f2]; try rfl) rfl ?_
  exact⟨_,rfl,hr.into hN,hB⟩
 ·have hq:BP n d=uA n d:=if_neg hd
  rw[hq]
  generalize hg:uA n d=q
  have HG:=bx hg
  have GM:d≠0:=by omega
  have HD:=bx (And.intro GM (show -9223372036854775808<=d by omega))
  clear h1 h2 h4 hq hg GM
  go_enter Tryz.func6,Tryz.ntmps6
  go_wp2_with fail
  obtain⟨w1,e1,o1,b1,s1⟩:=dy w [.int .i64 n,.int .i64 d] 24
  obtain⟨w2,e2,o2,b2,s2⟩:=dy w1 [.bool false,.slice none 0 0,.slice none 0 0] 32
  rw[e1,e2]
  rw[s1]at o2
  have hz:aC w (w.heap.size+1) 3 32 [] w2:=⟨b1.trans (b2.mono b1.size),by omega,by simp,_,rfl,o2,bP⟩
  clear e1 e2 s2
  have hc:=LL w2 n d HH.out.1 HH.out.2.1 HD.out.2 HH.out.2.2 HD.out.1
  rw[HG.out]at hc
  refine Calls.mono hc ?_
  clear hc
  rintro e w3 ⟨vr,rfl,hr,hb⟩
  obtain⟨Mr,Mq,rfl,pY,hrd⟩:=id hr
  obtain⟨mo,my,rfl,_⟩:=id pY
  obtain⟨mw,mz,rfl,_⟩:=id hrd
  have hz:=aC.call (And.intro hz trivial) hb
  obtain⟨w4,e4,o4,b4,s4⟩:=dy w3 [.bool (decide (q.num<0)),.slice mo (ae b64 q.num.natAbs).length my,.slice mw (ae b64 (ah q.den)).length mz] 32
  have hr4:=hr.below b4
  have hz:=aC.call (And.intro hz trivial) b4
  have k0:=hz.dH (i:=0) (by omega)
  have k1:=hz.dH (i:=1) (by omega)
  have k2:=hz.dH (i:=2) (by omega)
  have k3:=hz.ou 0
  have k4:=hz.ou 1
  have k5:=hz.ou 2
  have k6:=o4.cell (i:=0) rfl
  have k7:=o4.cell (i:=1) rfl
  have k8:=o4.cell (i:=2) rfl
  go_wp2
  obtain⟨wf,HW,ho,hB,hN⟩:=hz.fin [_,_,_] rfl (bP (b:=decide (q.num<0)) (A1:=mo) (l1:=(ae b64 q.num.natAbs).length) (c1:=my) (A2:=mw) (l2:=(ae b64 (ah q.den)).length) (c2:=mz))
  simp only[ct,Nat.reduceAdd]at HW
  rw[HW]
  (try simp only[Exit.inBlock,Exit.then])
  have f0:=ho.cell (i:=0) rfl
  have f1:=ho.cell (i:=1) rfl
  have f2:=ho.cell (i:=2) rfl
  refine bodyPost_ret (by simp[results,Tryz.results6,go_sem,f0,f1,f2]; try rfl) rfl ?_
  exact⟨_,rfl,hr4.into hN,hB⟩
end Wx
