import Derived.Test.YtkcceahelokheaaGreatCLTSemApp
namespace Wx
open Go Go.RowKit
def qM (r:ct):Value:=if r.n=0 then .slice none 0 0 else r.hdr
variable {r:ct}
theorem zq (h:r.n=0):qM r=.slice none 0 0:=if_pos h
theorem kW (h:r.n≠0):qM r=r.hdr:=if_neg h
def jn (R:List ct):List It:=R.map λr=>uD (qM r)
theorem r4 (R:List ct):(jn R).length=R.length:=List.length_map ..
variable {R:List ct} {i:Nat}
theorem rZ (h:i<R.length):(jn R)[i]?=some (uD (qM (rowAt R i))):=by
 unfold jn
 rw[List.getElem?_map,gX h]
 rfl
theorem Ni (R:List ct) (i:Nat) (r:ct):(jn R).set i (uD (qM r))=jn (R.set i r):=by
 unfold jn
 rw[List.map_set]
structure gD (g n:Nat) (R:List ct) (X:List (List Rat)) (H:List Bk):Prop where
 top:(⟨g,1,false,jn R⟩:Bk)∈H
 len:R.length=n/\X.length=n
 num:∀i,i<n->(rowAt R i).n=(X.getD i []).length
 rows:∀i,i<n->(rowAt R i).n≠0->(rowAt R i).n<=(rowAt R i).cap/\(rowAt R i).cap<=maxLen/\(⟨(rowAt R i).b,3,true,bq (X.getD i []) (rowAt R i).cap⟩:Bk)∈H/\(rowAt R i).b≠g
 apart:∀i j,i<n->j<n->i≠j->(rowAt R i).n≠0->(rowAt R j).n≠0->(rowAt R i).b≠(rowAt R j).b
theorem zz {H:List Bk} {b idx:Nat} {it:It} {e:Bk} (he:e∈H) (hb:e.b≠b):e∈gH H b idx it:=List.mem_map.2 ⟨e,he,if_neg hb⟩
variable {j:Nat}
theorem MO (hi:i<R.length):rowAt (R.set i r) j=if j=i then r else rowAt R j:=by
 unfold rowAt
 rw[List.getD_eq_getElem?_getD,List.getD_eq_getElem?_getD]
 by_cases h:j=i
 ·subst h
  rw[if_pos rfl,List.getElem?_set_self hi]
  rfl
 ·rw[if_neg h,List.getElem?_set_ne (Ne.symm h)]
theorem kU {α:Type} {X:List α} {x d:α} (hi:i<X.length):(X.set i x).getD j d=if j=i then x else X.getD j d:=by
 rw[List.getD_eq_getElem?_getD,List.getD_eq_getElem?_getD]
 by_cases h:j=i
 ·subst h
  rw[if_pos rfl,List.getElem?_set_self hi]
  rfl
 ·rw[if_neg h,List.getElem?_set_ne (Ne.symm h)]
section
variable {g n:Nat} {R:List ct} {X:List (List Rat)} {H:List Bk}
theorem gD.case (h:gD g n R X H) {i:Nat} (hi:i<n):(qM (rowAt R i)=.slice none 0 0/\X.getD i []=[])\/∃r:ct,qM (rowAt R i)=r.hdr/\r.n=(X.getD i []).length/\r.n<=r.cap/\r.cap<=maxLen/\(⟨r.b,3,true,bq (X.getD i []) r.cap⟩:Bk)∈H:=by
 by_cases h0:(rowAt R i).n=0
 ·exact .inl ⟨zq h0,List.eq_nil_of_length_eq_zero (by rw[<-h.num i hi]; exact h0)⟩
 ·obtain⟨k1,k2,k3,_⟩:=h.rows i hi h0
  exact .inr ⟨rowAt R i,kW h0,h.num i hi,k1,k2,k3⟩
theorem gD.off (h:gD g n R X H) {i:Nat} (hi:i<n) {r':ct} (hA:(∃r:ct,qM (rowAt R i)=r.hdr/\r'.b=r.b)\/∀e,e∈H->e.b≠r'.b):g≠r'.b:=by
 rcases hA with⟨r,e,e2⟩|hn
 ·by_cases h0:(rowAt R i).n=0
  ·rw[zq h0]at e
   unfold ct.hdr at e
   cases e
  ·rw[kW h0]at e
   have:=Dh _ _ e
   subst this
   rw[e2]
   exact Ne.symm (h.rows i hi h0).2.2.2
 ·exact hn _ h.top
theorem gD.put (h:gD g n R X H) {i:Nat} (hi:i<n) {l:List Rat} {r':ct} (hl:0<l.length) (h1:r'.n=l.length) (h2:r'.n<=r'.cap) (h3:r'.cap<=maxLen) (hA:(∃r:ct,qM (rowAt R i)=r.hdr/\r'.b=r.b)\/∀e,e∈H->e.b≠r'.b):
  gD g n (R.set i r') (X.set i l) (gH (appH H r'.b (bq l r'.cap)) g i (uD r'.hdr)):=by
 have hoff:=h.off hi hA
 have hRl:=h.len.1
 have hXl:=h.len.2
 have Fi:r'.n≠0:=by rw[h1]; omega
 have gg:∀j,j<n->j≠i->(rowAt R j).n≠0->(rowAt R j).b≠r'.b:=by
  intro j hj YX Ff
  rcases hA with⟨r,e,e2⟩|hn
  ·by_cases h0:(rowAt R i).n=0
   ·rw[zq h0]at e
    unfold ct.hdr at e
    cases e
   ·rw[kW h0]at e
    have:=Dh _ _ e
    subst this
    rw[e2]
    exact h.apart j i hj hi YX Ff h0
  ·exact hn _ (h.rows j hj Ff).2.2.1
 have eR:∀j,rowAt (R.set i r') j=if j=i then r' else rowAt R j:=λj=>MO (by omega)
 have eX:∀j,(X.set i l).getD j []=if j=i then l else X.getD j []:=λj=>kU (by omega)
 refine⟨?_,by rw[List.length_set,List.length_set]; exact h.len,λj hj=>?_,λj hj Ff=>?_,λj q hj hq hne Ff AD=>?_⟩
 ·rw[<-Ni,kW Fi]
  exact Fj (jS h.top hoff) rfl
 ·rw[eR,eX]
  split
  ·exact h1
  ·exact h.num j hj
 ·rw[eR]at Ff ⊢
  rw[eX]
  split at Ff
  ·rename_i e
   rw[if_pos e,if_pos e]
   exact⟨h2,h3,zz yN (Ne.symm hoff),Ne.symm hoff⟩
  ·rename_i e
   rw[if_neg e,if_neg e]
   obtain⟨k1,k2,k3,k4⟩:=h.rows j hj Ff
   exact⟨k1,k2,zz (jS k3 (gg j hj e Ff)) k4,k4⟩
 ·rw[eR]at Ff ⊢
  rw[eR]at AD ⊢
  by_cases e1:j=i
  ·have e2:q≠i:=λe=>hne (e1.trans e.symm)
   rw[if_pos e1,if_neg e2]
   rw[if_neg e2]at AD
   exact Ne.symm (gg q hq e2 AD)
  ·rw[if_neg e1]at Ff ⊢
   by_cases e2:q=i
   ·rw[if_pos e2]
    exact gg j hj e1 Ff
   ·rw[if_neg e2]at AD ⊢
    exact h.apart j q hj hq hne Ff AD
theorem gD.append (h:gD g n R X H) {i:Nat} (hi:i<n) {l':List Rat} {r':ct} (hl:0<l'.length) (hA:Bn H (qM (rowAt R i)) (X.getD i []) l' r'):
  gD g n (R.set i r') (X.set i (X.getD i []++l')) (gH (appH H r'.b (bq (X.getD i []++l') r'.cap)) g i (uD r'.hdr)):=
 h.put hi (by rw[List.length_append]; omega) (by rw[List.length_append]; exact hA.1) hA.2.1 hA.2.2.1 hA.2.2.2
theorem Rk (g n:Nat):gD g n (List.replicate n ⟨0,0,0⟩) (List.replicate n []) [⟨g,1,false,List.replicate n (uD (.slice none 0 0))⟩]:=by
 have e:∀i,rowAt (List.replicate n ⟨0,0,0⟩) i=⟨0,0,0⟩:=λi=>by
  unfold rowAt
  rw[List.getD_eq_getElem?_getD,List.getElem?_replicate]
  split<;>rfl
 refine⟨?_,by simp,λi hi=>?_,λi hi h0=>?_,λi j _ _ _ h0=>?_⟩
 ·unfold jn
  rw[List.map_replicate]
  exact List.mem_singleton.2 rfl
 ·rw[e,List.getD_eq_getElem?_getD,List.getElem?_replicate]
  split<;>rfl
 ·rw[e]at h0
  exact absurd rfl h0
 ·rw[e]at h0
  exact absurd rfl h0
variable {cap:Nat}
theorem gD.read (h:gD g n R X H) (hn:n<=cap) (hm:cap<=maxLen) (h0:∀i,i<n->0<(X.getD i []).length):∀B w,dn B w H->aA 1 false n (λi=>aD (X.getD i [])) w (.slice (some ⟨g,0,none⟩) n cap):=by
 intro B w hH
 obtain⟨cs,T,h1,h2,_,h4⟩:=hH.2.2 _ h.top
 have h1:w.heap[g]?=some (.cells cs.toArray T (0,0)):=h1
 have h2:(jn R).length*1<=cs.length:=h2
 rw[r4,h.len.1]at h2
 refine⟨_,_,rfl,hn,hm,λ_=>⟨g,0,rfl,λi hi=>⟨(cs.drop i).take 1,?_,λj v hj=>?_,?_⟩⟩⟩
 ·rw[List.length_take,List.length_drop]
  omega
 ·rw[Nat.mul_one,Nat.zero_add]
  exact fY h1 _ _ j v hj
 ·have h5:=h4 i _ (rZ (by rw[h.len.1]; exact hi))
  have h5:aj false ((cs.drop (i*1)).take 1)=qM (rowAt R i):=h5
  rw[Nat.mul_one]at h5
  have Fi:(rowAt R i).n≠0:=by
   have:=h0 i hi
   rw[h.num i hi]
   omega
  obtain⟨k1,k2,k3,_⟩:=h.rows i hi Fi
  show aD (X.getD i []) w (aj false ((cs.drop i).take 1))
  rw[h5,kW Fi]
  exact BP hH k3 (h.num i hi) k1 k2
theorem gD.gP (h:gD g n R X H) (hn:n<=cap) (hm:cap<=maxLen) (h0:∀i,i<n->0<(X.getD i []).length):fe g cap R X H:=by
 have Fi:∀i,i<n->(rowAt R i).n≠0:=λi hi=>by
  have:=h0 i hi
  rw[h.num i hi]
  omega
 have get:∀{i:Nat} {r:ct},R[i]?=some r->i<n/\r=rowAt R i:=λ{i r} hr=>by
  have nZ:i<R.length:=by
   rcases Nat.lt_or_ge i R.length with h'|h'
   ·exact h'
   ·rw[List.getElem?_eq_none h']at hr; cases hr
  rw[gX nZ]at hr
  exact⟨h.len.1▸nZ,(Option.some.inj hr).symm⟩
 have et:jn R=gv R:=by
  unfold jn gv
  refine List.map_congr_left λr hr=>?_
  obtain⟨i,hi⟩:=List.mem_iff_getElem?.1 hr
  obtain⟨nZ,rfl⟩:=get hi
  rw[kW (Fi i nZ)]
 refine⟨by rw[<-et]; exact h.top,λi r hr=>?_,h.len.1.trans h.len.2.symm,λi r hr=>?_,λi j r q hr hq hne=>?_,λr hr=>?_,by rw[h.len.1]; exact⟨hn,hm⟩⟩
 ·obtain⟨hi,rfl⟩:=get hr
  exact(h.rows i hi (Fi i hi)).2.2.1
 ·obtain⟨hi,rfl⟩:=get hr
  exact⟨h.num i hi,(h.rows i hi (Fi i hi)).1,(h.rows i hi (Fi i hi)).2.1⟩
 ·obtain⟨hi,rfl⟩:=get hr
  obtain⟨hj,rfl⟩:=get hq
  exact h.apart i j hi hj hne (Fi i hi) (Fi j hj)
 ·obtain⟨i,hi⟩:=List.mem_iff_getElem?.1 hr
  obtain⟨nZ,rfl⟩:=get hi
  exact(h.rows i nZ (Fi i nZ)).2.2.2
theorem fe.bld (h:fe g cap R X H) (h0:∀i,i<X.length->0<(X.getD i []).length):gD g X.length R X H:=by
 have hr:∀i,i<X.length->R[i]?=some (rowAt R i):=λi hi=>gX (by rw[h.len]; exact hi)
 have et:jn R=gv R:=by
  unfold jn gv
  refine List.map_congr_left λr hm=>?_
  obtain⟨i,hi⟩:=List.mem_iff_getElem?.1 hm
  have nZ:i<X.length:=by
   rw[<-h.len]
   rcases Nat.lt_or_ge i R.length with h'|h'
   ·exact h'
   ·rw[List.getElem?_eq_none h']at hi; cases hi
  rw[kW]
  rw[(h.fit i r hi).1]
  have:=h0 i nZ
  omega
 refine⟨by rw[et]; exact h.top,⟨h.len,rfl⟩,λi hi=>(h.fit i _ (hr i hi)).1,λi hi _=>⟨(h.fit i _ (hr i hi)).2.1,(h.fit i _ (hr i hi)).2.2,h.rows i _ (hr i hi),h.off _ (List.mem_of_getElem? (hr i hi))⟩,λi j hi hj hne _ _=>h.apart i j _ _ (hr i hi) (hr j hj) hne⟩
end
end Wx

namespace Wx
open Go Go.RowKit Go.Proofs
theorem Es {x y c:Operand} {ops:Array Oper} {Q:Exit->Act->World->Prop} {o:Oper} {rest:List Oper} {a:Act} {w:World} {X Y C:Int}
  (hx:a.eval x=.int .u64 X) (hy:a.eval y=.int .u64 Y) (hc:a.eval c=.int .u64 C) (x0:0<=X) (y0:0<=Y) (c0:0<=C) (c1:C<=1)
  (hK:wpList Tryz.prog ops Q rest (a.put o.dst (.tuple #[.int .u64 (Eu X Y C),.int .u64 (Et X Y C)])) w):GC Tryz.prog 118 x y c ops Q o rest a w:=
 add64_ext Tryz.func118 (by kernel_rfl) (by kernel_rfl) (by kernel_rfl) (by kernel_rfl) hx hy hc x0 y0 c0 c1 hK
theorem Bv (x y c:Nat):Eu (x:Int) y c=(((x+y+c)%b64:Nat):Int):=by unfold Eu b64; omega
theorem Bu (x y c:Nat):Et (x:Int) y c=(((x+y+c)/b64:Nat):Int):=by unfold Et b64; omega
theorem GK (x c:Nat):Eu (x:Int) 0 c=(((x+0+c)%b64:Nat):Int):=Bv x 0 c
theorem GJ (x c:Nat):Et (x:Int) 0 c=(((x+0+c)/b64:Nat):Int):=Bu x 0 c
theorem Oe {x y c:Nat} (hx:x<b64) (hy:y<b64) (hc:c<=1):(x+y+c)/b64<=1:=by unfold b64 at *; omega
variable {x y o:List Nat} {cr:Nat}
theorem zY {i vx vy g:Nat} {wr w0:World} (dB:o.length=i) (hlt:i<x.length) (wx:Wf b64 x) (wy:Wf b64 y) (OT:cr<=1) (gS:Wf b64 o)
  (hx:x[i]?=some vx) (hy:y.getD i 0=vy) (hr:Row wr .u64 207 g (o++List.replicate (x.length+1-i) 0)) (hbl:Below w0.heap.size w0 wr) (hg:w0.heap.size<=g)
  (hval:val b64 o+b64^i*cr=val b64 (x.take i)+val b64 (y.take i)):
  ∃(UT:Nat) (o':List Nat),((vx+vy+cr)/b64=UT)/\UT<=1/\o'.length=i+1/\Wf b64 o' /\
   Row (wr.setCell ⟨g,i,none⟩ (.int .u64 (((vx+vy+cr)%b64:Nat):Int))) .u64 207 g (o'++List.replicate (x.length+1-(i+1)) 0) /\
   Below w0.heap.size w0 (wr.setCell ⟨g,i,none⟩ (.int .u64 (((vx+vy+cr)%b64:Nat):Int)))/\val b64 o'+b64^(i+1)*UT=val b64 (x.take (i+1))+val b64 (y.take (i+1)):=by
 have sF:vx<b64:=wx _ (List.mem_of_getElem? hx)
 have Ki:vy<b64:=by
  rw[<-hy,List.getD_eq_getElem?_getD]
  cases h:y[i]? with
  |none=>simp[b64]
  |some z=>exact wy _ (List.mem_of_getElem? h)
 refine⟨_,o++[(vx+vy+cr)%b64],rfl,Oe sF Ki OT,by simp[dB],gS.append (Wf.cons (Nat.mod_lt _ (by unfold b64; omega)) (Wf.nil _)),?_,hbl.setCell hg _,?_⟩
 ·have h:=hr.set i ((vx+vy+cr)%b64)
  rw[show x.length+1-i=(x.length+1-(i+1))+1 by omega,List.replicate_succ,pX dB]at h
  rw[List.append_assoc]
  exact h
 ·exact Qs dB hval (cS hx) (by rw[jg,hy]) (by have:=Nat.mod_add_div (vx+vy+cr) b64; omega)
theorem P6 (hx:tR x) (wx:Wf b64 x) (wo:Wf b64 o) (dB:o.length=x.length) (Ik:2<=b64) (hval:val b64 o+b64^o.length*cr=val b64 x+val b64 y):cr=0->tR o:=by
 rintro rfl
 refine Jx wo ?_
 by_cases h:o=[]
 ·exact .inl h
 ·refine .inr ?_
  have hd:=qC Ik wx hx
  have hpos:0<val b64 x:=by
   rcases Nat.eq_zero_or_pos (val b64 x)with h0|h0
   ·rw[h0,bN]at hd
    rw[<-hd]at dB
    exact absurd (List.eq_nil_of_length_eq_zero dB) h
   ·exact h0
  have:=rh Ik hpos
  rw[hd]at this
  rw[dB]
  simp at hval
  omega
set_option maxHeartbeats 400000 in
theorem P5 (w:World) (v1 v2:Value) (m n:Nat) (h1:bQ .u64 b64 w v1 m) (h2:bQ .u64 b64 w v2 n) {j k:Nat} (hj:Bd j m) (hk:Bd k n) (fA:j<=1000000000) (ot:k<=1000000000):
  Calls Tryz.prog 68 #[v1,v2] w (jR .u64 b64 w (m+n)):=by
 obtain⟨A,c,rfl,ha⟩:=h1
 obtain⟨B,d,rfl,hb⟩:=h2
 have hla:=uH hj
 have hlb:=uH hk
 have hv:val b64 (af b64 m)+val b64 (af b64 n)=m+n:=by rw[bI av,bI av]
 have wa:=cj av m
 have wb:=cj av n
 have ta:=oH av m
 have tb:=oH av n
 clear hj hk
 generalize af b64 m=a at *
 generalize af b64 n=b at *
 generalize m+n=s at *
 go_enter Tryz.func68,Tryz.ntmps68
 go_upto_if 14 with fail
 go_cut [0,1] (λv0 v1 w'=>w'=w/\∃X cx x Y cy y,v0=.slice X x.length cx/\v1=.slice Y y.length cy/\Rd w .u64 X cx x/\Rd w .u64 Y cy y/\Wf b64 x/\Wf b64 y/\tR x/\y.length<=x.length/\x.length<=1000000000/\val b64 x+val b64 y=s)
 case first=>
  by_cases h:a.length<b.length
  ·go_wp2
   go_meet
   case rel=>exact⟨rfl,B,d,b,A,c,a,rfl,rfl,hb,ha,wb,wa,tb,by omega,by omega,by omega⟩
  ·go_wp2
   go_meet
   case rel=>exact⟨rfl,A,c,a,B,d,b,rfl,rfl,ha,hb,wa,wb,ta,by omega,by omega,hv⟩
 case rest=>
  obtain⟨rfl,X,cx,x,Y,cy,y,rfl,rfl,hx,hy,wx,wy,tx,xM,hx1,hs⟩:=hcut
  clear ha hb wa wb ta tb hla hlb hv
  have HS:=Lib.hid hs
  clear hs
  have BU:=hx.len
  have hly:=hy.len
  go_wp2_with (at_make; refine en _ rfl _ _ _ rfl .u64 207 Tryz.underlying38 n6 _ _ rfl rfl (by omega) (by omega) (by omega) ?_; intro w1 hrow dZ hsz)
  go_loopw [6,25] (λs6 Wt wr=>∃(i cr:Nat) (o:List Nat),i<=x.length/\Wt=.int .i64 i/\s6=.int .u64 cr/\cr<=1/\o.length=i/\Wf b64 o/\Row wr .u64 207 wc.heap.size (o++List.replicate (x.length+1-i) 0)/\Below wc.heap.size wc wr/\val b64 o+b64^i*cr=val b64 (x.take i)+val b64 (y.take i))
   (λ_ Wt _=>x.length-(intOf Wt).toNat)
  case atStart=>exact⟨0,0,[],by omega,rfl,rfl,by omega,rfl,Wf.nil _,by simpa using hrow,dZ,by simp[val]⟩
  case round=>
   obtain⟨i,cr,o,hi,rfl,rfl,OT,dB,gS,hr,hbl,hval⟩:=hrel
   have er:=Lib.hid hval
   have fK:=Lib.hid dB
   clear hval dB hrow dZ hsz
   by_cases hlt:i<x.length
   ·obtain⟨bx,ox,vx,rfl,Dg,pn⟩:=(hx.below hbl).get hlt
    obtain⟨vo,LO,NL⟩:=hr.get (i:=i) (by have:=fK.out; simp; omega)
    have AR:=hr.frozen i
    by_cases AE:i<y.length
    ·obtain⟨XD,oy,vy,rfl,RI,CE⟩:=(hy.below hbl).get AE
     go_wp2_with ((with_reducible refine kL 118 rfl rfl ?_); refine Es rfl rfl rfl (by omega) (by omega) (by omega) (by omega) ?_)
     go_roundw
     case rel=>
      rw[Bv,Bu]
      obtain⟨UT,o',e,r⟩:=zY (vy:=vy) fK.out hlt wx wy OT gS pn.out (by rw[List.getD_eq_getElem?_getD,CE.out]; rfl) hr hbl (Nat.le_refl _) er.out
      exact⟨i+1,UT,o',by omega,by go_num,by rw[e],r⟩
     case measure=>simp[intOf]; omega
    ·go_wp2_with ((with_reducible refine kL 118 rfl rfl ?_); refine Es rfl rfl rfl (by omega) (by omega) (by omega) (by omega) ?_)
     go_roundw
     case rel=>
      rw[GK,GJ]
      obtain⟨UT,o',e,r⟩:=zY (vy:=0) fK.out hlt wx wy OT gS pn.out (by rw[List.getD_eq_getElem?_getD,List.getElem?_eq_none (by omega)]; rfl) hr hbl (Nat.le_refl _) er.out
      exact⟨i+1,UT,o',by omega,by go_num,by rw[e],r⟩
     case measure=>simp[intOf]; omega
   ·obtain rfl:i=x.length:=by omega
    have dR:val b64 o+b64^o.length*cr=s:=by
     have:=er.out
     rw[fK.out,this,List.take_of_length_le (Nat.le_refl _),List.take_of_length_le (by omega)]; exact HS.out
    have HF:=Lib.hid dR
    clear dR
    rw[show x.length+1-x.length=1 by omega,show List.replicate 1 0=[0]from rfl]at hr
    rcases Nat.eq_zero_or_pos cr with rfl|hc0
    ·go_wp2
     go_ret
     refine⟨_,rfl,?_,hbl⟩
     have h:=hr.rd (n:=x.length) (c:=x.length+1) (by simp; have:=fK.out; omega) (by omega) (by unfold maxLen; omega)
     rw[<-fK.out,List.take_left]at h
     have hF:=HF.out
     rw[Nat.mul_zero,Nat.add_zero]at hF
     rw[<-hF,<-fK.out]
     exact bQ.of av h rfl gS (P6 (y:=y) tx wx gS fK.out av (by have h1:=HF.out; have h2:=HS.out; omega) rfl)
    ·have hA:=hr.keep ((Below.refl _ _).alloc (Nat.le_refl _) (.cells #[.int .u64 (cr:Int)] 207))
     obtain⟨vo,LO,_⟩:=hA.get (i:=x.length) (by simp; have:=fK.out; omega)
     have AR:=hA.frozen x.length
     go_wp2
     go_ret
     refine⟨_,rfl,?_,(hbl.alloc hbl.size _).setCell (Nat.le_refl _) _⟩
     have hR:=hA.set x.length cr
     rw[pX fK.out]at hR
     have hF:=HF.out
     rw[<-o9]at hF
     rw[<-hF]
     have hl:(o++[cr]).length=x.length+1:=by simp[fK.out]
     exact bQ.of av (hR.gL (by omega) (by unfold maxLen; omega)) hl (gS.append (Wf.cons (by unfold b64; omega) (Wf.nil _))) (by unfold tR; simp; omega)
end Wx

namespace Wx
open Go Go.RowKit Go.Proofs
theorem bY:Ty Tryz.prog 40 true 3:=⟨λ_=>by kernel_rfl,λ_=>by kernel_rfl,by decide⟩
theorem pc:∀w,(zeroValue 40).run Tryz.prog w=.ok (.agg #[.bool false,.slice none 0 0,.slice none 0 0]) w:=λ_=>by kernel_rfl
theorem mz:∀b o w,(Instr.fieldAt 40 (.pointer (some ⟨b,o,none⟩)) 0).run Tryz.prog w=.ok (.pointer (some ⟨b,o+0,none⟩)) w:=λ_ _ _=>by kernel_rfl
theorem y9:∀b o w,(Instr.fieldAt 40 (.pointer (some ⟨b,o,none⟩)) 1).run Tryz.prog w=.ok (.pointer (some ⟨b,o+1,none⟩)) w:=λ_ _ _=>by kernel_rfl
theorem za:∀b o w,(Instr.fieldAt 40 (.pointer (some ⟨b,o,none⟩)) 2).run Tryz.prog w=.ok (.pointer (some ⟨b,o+2,none⟩)) w:=λ_ _ _=>by kernel_rfl
theorem wX:Ty Tryz.prog 3 false 1:=⟨λ_=>by kernel_rfl,λ_=>by kernel_rfl,by decide⟩
theorem vz:Ty Tryz.prog 4 false 1:=⟨λ_=>by kernel_rfl,λ_=>by kernel_rfl,by decide⟩
theorem vB:Ty Tryz.prog 38 false 1:=⟨λ_=>by kernel_rfl,λ_=>by kernel_rfl,by decide⟩
theorem bF:mV Tryz.prog 153 40 3:=⟨by kernel_rfl,λ_=>by kernel_rfl⟩
theorem aX:mV Tryz.prog 152 153 1:=⟨by kernel_rfl,λ_=>by kernel_rfl⟩
end Wx

namespace Wx
open Go Go.RowKit Go.Proofs
def bD (n:Nat):Pred:=λw v=>bQ .u64 b64 w v n
theorem fH (n:Nat):aK (bD n):=λ_ _ _ hM h=>uN hM (.inl rfl) h
theorem E6 (n:Nat):Fits 1 false (bD n):=by
 rintro w v ⟨A,c,rfl,_⟩
 refine⟨[_],rfl,rfl,rfl,?_⟩
 intro u hu
 simp at hu
 subst hu
 exact⟨ee _ _ _,rfl⟩
def b8 (q:Rat):List Fd:=[⟨false,1,pB (decide (q.num<0))⟩,⟨false,1,bD q.num.natAbs⟩,⟨false,1,bD (aq q.den)⟩]
theorem Ug (q:Rat):∀w v,au q w v->pS (b8 q) w v:=by
 rintro w v ⟨vn,vd,rfl,h1,h2⟩
 exact Wd (cs:=[.bool (decide (q.num<0)),vn,vd]) ⟨by simp,rfl,by simp,h1,by simp,h2,rfl⟩
theorem BK (q:Rat):Fits 3 true (pS (b8 q)):=vY (fs:=b8 q) ⟨fits_bool _,E6 _,E6 _,trivial⟩ rfl
variable {n:Nat}
theorem KS {w:World} {e:Ending} {w':World} (h:jR .u64 b64 w n e w'):ie (bD n) w e w':=h
theorem UL (m n:Nat):∀w v1 v2,bD m w v1->bD n w v2->Calls Tryz.prog 69 #[v1,v2] w (ie (pI (bZ m n)) w):=λw v1 v2 h1 h2=>(ju w v1 v2 m n h1 h2).mono λ_ _ h=>⟨_,h.1,rfl,h.2⟩
theorem UM {m j k:Nat} (hj:Bd j m) (hk:Bd k n) (fA:j<=1000000000) (ot:k<=1000000000):∀w v1 v2,bD m w v1->bD n w v2->Calls Tryz.prog 68 #[v1,v2] w (ie (bD (m+n)) w):=λw v1 v2 h1 h2=>(P5 w v1 v2 m n h1 h2 hj hk fA ot).mono λ_ _=>KS
theorem JU {d:Nat} (hd:0<d):∀w v1,bD (aq d) w v1->Calls Tryz.prog 65 #[v1] w (ie (bD d) w):=λw v1 h1=>(kF w v1 d h1 hd).mono λ_ _=>KS
section
variable {P:Program} {ops:Array Oper} {ms:List Nat} {c:fT} {V:List Vr} {A:List Al} {G:List bz} {i:Nat} {L:Nat->Bool} {β:Nat->Nat->Prop} {a:Act} {w:World} {o:Oper}{d:Nat} {x y z:Operand} {ty:TypeId} {pos:String} {aft:Array Edge}
theorem MA {T:TypeId} {v:Value} (h:Has ms G i x (cZ 1 false (bg v))) (ht:Ty P T false 1) (hp:Post G i (bg v)):OpOk P ops ms c V A G i ⟨some d,.load T x,ty,pos,aft,none⟩:=
 iO rfl rfl rfl rfl h hp λρ w h=>by
  obtain⟨b,o,cs,e,hl,hc,hv⟩:=h
  refine⟨aj false cs,?_,λ_ _=>hv⟩
  show(do pure (Next.value (<-Instr.loadAt T (ρ x)))).run P w=_
  rw[e,Sem.run_bind,fJ ht hc hl]
  rfl
end
end Wx

namespace Wx
set_option maxRecDepth 100000
open Go Go.RowKit Go.Proofs
set_option linter.unusedVariables false
theorem yU (m n:Nat):(m<n/\bZ m n = -1)\/(m=n/\bZ m n=0)\/(n<m/\bZ m n=1):=by
 unfold bZ
 rcases Nat.lt_trichotomy m n with h|h|h
 ·exact .inl ⟨h,if_pos h⟩
 ·exact .inr (.inl ⟨h,by rw[if_neg (by omega),if_neg (by omega)]⟩)
 ·exact .inr (.inr ⟨h,by rw[if_neg (by omega),if_pos h]⟩)
variable {m n:Nat}
theorem JV (h:bZ m n>=(0:Int)):n<=m:=by
 rcases yU m n with⟨h1,e⟩|⟨h1,e⟩|⟨h1,e⟩<;>omega
theorem yT (h:¬bZ m n>=(0:Int)):m<=n:=by
 rcases yU m n with⟨h1,e⟩|⟨h1,e⟩|⟨h1,e⟩<;>omega
variable {x y:Rat}
theorem zV (h:x=y):∀w v,au x w v->au y w v:=λ_ _ k=>h▸k
variable {j k:Nat}
theorem yR (hj:Bd j m) (hk:Bd k n) (h1:j<=1000000000) (h2:k<=1000000000):∀w v1 v2,bD m w v1->bD n w v2->Calls Tryz.prog 66 #[v1,v2] w (ie (bD (m*n)) w):=λw v1 v2 a b=>kE w v1 v2 m n a b hj hk h1 h2
theorem ED (hnm:n<=m) (hj:Bd j m) (h1:j<=1000000000):∀w v1 v2,bD m w v1->bD n w v2->Calls Tryz.prog 70 #[v1,v2] w (ie (bD (m-n)) w):=λw v1 v2 a b=>Mo w v1 v2 m n a b hnm hj h1
theorem sY {neg:Bool} {d:Nat} (hj:Bd j n) (hk:Bd j d) (hd:0<d) (fA:j<=100000000):∀w v1 v2 v3,pB neg w v1->bD n w v2->bD d w v3->Calls Tryz.prog 67 #[v1,v2,v3] w (ie (au (gh neg n d)) w):=λw v1 v2 v3 h1 h2 h3=>by
 have h1:v1=.bool neg:=h1
 rw[h1]
 exact nM w neg v2 v3 n d h2 h3 hd hj hk fA
theorem UK (hx:aZ j x) (hy:aZ k y) (yh:j+k+j+k+1<=100000000):∀(M:Nat->Nat->Prop) (w:World) (v0 v1:Value),cL M w->aO M (λw=>(au x) w v0) w->aO M (λw=>(au y) w v1) w->Calls Tryz.prog 17 #[v0,v1] w (bH M (au (x+y)) w):=by
 intro M w0 v0 v1 hM hv0 eI
 have b1:=(hx.1.mul hy.2).add (hy.1.mul hx.2)
 have b2:Bd (j+k+(k+j)+1) (x.num.natAbs*y.den-y.num.natAbs*x.den):=((hx.1.mul hy.2).mono (by omega)).le (Nat.sub_le _ _)
 have b3:Bd (j+k+(k+j)+1) (y.num.natAbs*x.den-x.num.natAbs*y.den):=((hy.1.mul hx.2).mono (by omega)).le (Nat.sub_le _ _)
 have b4:Bd (j+k+(k+j)+1) (x.den*y.den):=(hx.2.mul hy.2).mono (by omega)
 have hd:0<x.den*y.den:=Nat.mul_pos x.den_pos y.den_pos
 refine eK (N:=58) Tryz.func17 rfl rfl rfl hM (show cF M w0 [v0,v1] [⟨none,none,0,au x⟩,⟨none,none,1,au y⟩]from⟨⟨rfl,_,rfl,hv0⟩,⟨rfl,_,rfl,eI⟩,trivial⟩) λa hI=>?_
 refine u9 (V1:=[⟨2,2,some 0,none,.ptr,40,3,true,pv (pS (b8 x)),[]⟩,⟨3,3,some 1,none,.ptr,40,3,true,pv (pS (b8 y)),[]⟩,⟨4,4,some 2,none,.ptr,40,3,true,pv (au 0),[]⟩]) (A1:=[]) (G1:=[⟨none,none,0,au x⟩,⟨none,none,1,au y⟩]) (V2:=[⟨2,2,none,none,.ptr,40,3,true,pv (pS (b8 x)),[]⟩,⟨3,3,none,none,.ptr,40,3,true,pv (pS (b8 y)),[]⟩,⟨4,4,none,none,.ptr,40,3,true,pv (au 0),[]⟩]) (G2:=[]) hI rfl rfl rfl [0,1,3] (by kernel_rfl) (by kernel_rfl) ?_ [0,1,2] [] rfl rfl λa w hI=>?_
 ·exact⟨wE 0 rfl rfl (by kernel_rfl) (by kernel_rfl) rfl rfl rfl (.imp (.tmp 0 rfl rfl) (Ug _)) (BK _) rfl,wE 1 rfl rfl (by kernel_rfl) (by kernel_rfl) rfl rfl rfl (.imp (.tmp 1 rfl rfl) (Ug _)) (BK _) rfl,kZ 2 rfl rfl (by kernel_rfl) (by kernel_rfl) rfl rfl rfl pc rfl rfl (by simp[iw]) rfl (λw=>ew w),trivial⟩
 refine oX (V1:=[⟨2,2,none,none,.ptr,40,3,true,pv (pS (b8 x)),[]⟩,⟨3,3,none,none,.ptr,40,3,true,pv (pS (b8 y)),[]⟩,⟨4,4,none,none,.ptr,40,3,true,pv (au 0),[]⟩]) (A1:=[⟨some 0,9,2,2,True⟩,⟨some 3,12,3,2,True⟩]) (G1:=[⟨some 1,none,10,bD (aq x.den)⟩,⟨some 2,none,11,bD x.den⟩,⟨some 4,none,13,bD (aq y.den)⟩,⟨some 5,none,14,bD y.den⟩,⟨some 6,none,5,bD x.den⟩,⟨some 7,none,6,bD y.den⟩]) (V2:=[⟨2,2,none,none,.ptr,40,3,true,pv (pS (b8 x)),[]⟩,⟨3,3,none,none,.ptr,40,3,true,pv (pS (b8 y)),[]⟩,⟨4,4,none,none,.ptr,40,3,true,pv (au 0),[]⟩]) (G2:=[⟨none,none,5,bD x.den⟩,⟨none,none,6,bD y.den⟩]) hI rfl rfl rfl [0,1,3,0,8,31,63,127] (by kernel_rfl) (by kernel_rfl) (by kernel_rfl) (by kernel_rfl) ?_ [0,1,2] [4,5] rfl rfl λa w hI=>?_
 ·exact⟨gK 0 rfl rfl rfl 0 rfl rfl rfl rfl (.inl ⟨rfl,rfl⟩) rfl (by kernel_rfl) (λb w=>za b 0 w),gm 0 rfl 0 rfl rfl rfl rfl rfl trivial rfl rfl (by kernel_rfl) vB rfl rfl (pE (fs:=(b8 x)) 2 (f:=⟨false,1,bD (aq x.den)⟩) rfl (off:=2) rfl) (.here 0 rfl),q7 (λ_ _=>by kernel_rfl) (fH _) (.tmp 0 rfl rfl) (.here 1 rfl) (JU (Rat.den_pos _)),gK 1 rfl rfl rfl 1 rfl rfl rfl rfl (.inl ⟨rfl,rfl⟩) rfl (by kernel_rfl) (λb w=>za b 0 w),gm 1 rfl 1 rfl rfl rfl rfl rfl trivial rfl rfl (by kernel_rfl) vB rfl rfl (pE (fs:=(b8 y)) 2 (f:=⟨false,1,bD (aq y.den)⟩) rfl (off:=2) rfl) (.here 2 rfl),q7 (λ_ _=>by kernel_rfl) (fH _) (.tmp 2 rfl rfl) (.here 3 rfl) (JU (Rat.den_pos _)),ej (.tmp 1 rfl rfl) (.here 4 rfl),ej (.tmp 3 rfl rfl) (.here 5 rfl),trivial⟩
 refine oX (V1:=[⟨2,2,none,none,.ptr,40,3,true,pv (pS (b8 x)),[]⟩,⟨3,3,none,none,.ptr,40,3,true,pv (pS (b8 y)),[]⟩,⟨4,4,none,none,.ptr,40,3,true,pv (au 0),[]⟩]) (A1:=[⟨some 0,15,2,1,True⟩,⟨some 4,19,3,1,True⟩]) (G1:=[⟨none,none,5,bD x.den⟩,⟨none,none,6,bD y.den⟩,⟨some 1,none,16,bD x.num.natAbs⟩,⟨some 2,none,17,bD y.den⟩,⟨some 3,none,18,bD (x.num.natAbs*y.den)⟩,⟨some 5,none,20,bD y.num.natAbs⟩,⟨some 6,none,21,bD x.den⟩,⟨some 7,none,22,bD (y.num.natAbs*x.den)⟩,⟨some 8,none,7,bD (x.num.natAbs*y.den)⟩,⟨some 9,none,8,bD (y.num.natAbs*x.den)⟩]) (V2:=[⟨2,2,none,none,.ptr,40,3,true,pv (pS (b8 x)),[]⟩,⟨3,3,none,none,.ptr,40,3,true,pv (pS (b8 y)),[]⟩,⟨4,4,none,none,.ptr,40,3,true,pv (au 0),[]⟩]) (G2:=[⟨none,none,5,bD x.den⟩,⟨none,none,6,bD y.den⟩,⟨none,none,7,bD (x.num.natAbs*y.den)⟩,⟨none,none,8,bD (y.num.natAbs*x.den)⟩]) hI rfl rfl rfl [0,1,0,7,0,16,0,127,255,511] (by kernel_rfl) (by kernel_rfl) (by kernel_rfl) (by kernel_rfl) ?_ [0,1,2] [0,1,8,9] rfl rfl λa w hI=>?_
 ·exact⟨gK 0 rfl rfl rfl 0 rfl rfl rfl rfl (.inl ⟨rfl,rfl⟩) rfl (by kernel_rfl) (λb w=>y9 b 0 w),gm 0 rfl 0 rfl rfl rfl rfl rfl trivial rfl rfl (by kernel_rfl) vB rfl rfl (pE (fs:=(b8 x)) 1 (f:=⟨false,1,bD x.num.natAbs⟩) rfl (off:=1) rfl) (.here 2 rfl),aW (.tmp 1 rfl rfl) (.here 3 rfl),iG (λ_ _=>by kernel_rfl) (fH _) (.tmp 2 rfl rfl) (.tmp 3 rfl rfl) (.here 4 rfl) (yR (hx).1 hy.2 (by omega) (by omega)),gK 1 rfl rfl rfl 1 rfl rfl rfl rfl (.inl ⟨rfl,rfl⟩) rfl (by kernel_rfl) (λb w=>y9 b 0 w),gm 1 rfl 1 rfl rfl rfl rfl rfl trivial rfl rfl (by kernel_rfl) vB rfl rfl (pE (fs:=(b8 y)) 1 (f:=⟨false,1,bD y.num.natAbs⟩) rfl (off:=1) rfl) (.here 5 rfl),aW (.tmp 0 rfl rfl) (.here 6 rfl),iG (λ_ _=>by kernel_rfl) (fH _) (.tmp 5 rfl rfl) (.tmp 6 rfl rfl) (.here 7 rfl) (yR (hy).1 hx.2 (by omega) (by omega)),ej (.tmp 4 rfl rfl) (.here 8 rfl),ej (.tmp 7 rfl rfl) (.here 9 rfl),trivial⟩
 refine u9 (V1:=[⟨2,2,none,none,.ptr,40,3,true,pv (pS (b8 x)),[]⟩,⟨3,3,none,none,.ptr,40,3,true,pv (pS (b8 y)),[]⟩,⟨4,4,none,none,.ptr,40,3,true,pv (au 0),[]⟩]) (A1:=[]) (G1:=[⟨none,some 3,5,bD x.den⟩,⟨none,none,6,bD y.den⟩,⟨none,none,7,bD (x.num.natAbs*y.den)⟩,⟨none,none,8,bD (y.num.natAbs*x.den)⟩,⟨some 0,none,23,bD x.den⟩,⟨some 1,none,24,bD y.den⟩,⟨some 2,none,25,bD (x.den*y.den)⟩,⟨some 3,none,5,bD (x.den*y.den)⟩]) (V2:=[⟨2,2,none,none,.ptr,40,3,true,pv (pS (b8 x)),[]⟩,⟨3,3,none,none,.ptr,40,3,true,pv (pS (b8 y)),[]⟩,⟨4,4,none,none,.ptr,40,3,true,pv (au 0),[]⟩]) (G2:=[⟨none,none,7,bD (x.num.natAbs*y.den)⟩,⟨none,none,8,bD (y.num.natAbs*x.den)⟩,⟨none,none,5,bD (x.den*y.den)⟩]) hI rfl rfl rfl [0,1,3,7] (by kernel_rfl) (by kernel_rfl) ?_ [0,1,2] [1,2,6] rfl rfl λa w hI=>?_
 ·exact⟨aW (.tmp 0 rfl rfl) (.here 4 rfl),aW (.tmp 1 rfl rfl) (.here 5 rfl),iG (λ_ _=>by kernel_rfl) (fH _) (.tmp 4 rfl rfl) (.tmp 5 rfl rfl) (.here 6 rfl) (yR hx.2 hy.2 (by omega) (by omega)),ej (.tmp 6 rfl rfl) (.here 7 rfl),trivial⟩
 refine wp_seq ?_
 refine wp_block ?_
 refine u9 (V1:=[⟨2,2,none,none,.ptr,40,3,true,pv (pS (b8 x)),[]⟩,⟨3,3,none,none,.ptr,40,3,true,pv (pS (b8 y)),[]⟩,⟨4,4,none,none,.ptr,40,3,true,pv (au 0),[]⟩]) (A1:=[⟨some 0,27,2,0,True⟩,⟨some 2,29,3,0,True⟩]) (G1:=[⟨none,none,7,bD (x.num.natAbs*y.den)⟩,⟨none,none,8,bD (y.num.natAbs*x.den)⟩,⟨none,none,5,bD (x.den*y.den)⟩,⟨some 1,none,28,pB (decide (x.num<0))⟩,⟨some 3,none,30,pB (decide (y.num<0))⟩,⟨some 4,none,31,pB ((decide (x.num<0))==(decide (y.num<0)))⟩,⟨some 5,none,26,pB ((decide (x.num<0))==(decide (y.num<0)))⟩]) (V2:=[⟨2,2,none,none,.ptr,40,3,true,pv (pS (b8 x)),[]⟩,⟨3,3,none,none,.ptr,40,3,true,pv (pS (b8 y)),[]⟩,⟨4,4,none,none,.ptr,40,3,true,pv (au 0),[]⟩]) (G2:=[⟨none,none,7,bD (x.num.natAbs*y.den)⟩,⟨none,none,8,bD (y.num.natAbs*x.den)⟩,⟨none,none,5,bD (x.den*y.den)⟩,⟨none,none,26,pB ((decide (x.num<0))==(decide (y.num<0)))⟩]) hI rfl rfl rfl [0,1,3,7,15,31] (by kernel_rfl) (by kernel_rfl) ?_ [0,1,2] [0,1,2,6] rfl rfl λa w hI=>?_
 ·exact⟨gK 0 rfl rfl rfl 0 rfl rfl rfl rfl (.inl ⟨rfl,rfl⟩) rfl (by kernel_rfl) (λb w=>mz b 0 w),gm 0 rfl 0 rfl rfl rfl rfl rfl trivial rfl rfl (by kernel_rfl) vz rfl rfl (pE (fs:=(b8 x)) 0 (f:=⟨false,1,pB (decide (x.num<0))⟩) rfl (off:=0) rfl) (.here 3 rfl),gK 1 rfl rfl rfl 1 rfl rfl rfl rfl (.inl ⟨rfl,rfl⟩) rfl (by kernel_rfl) (λb w=>mz b 0 w),gm 1 rfl 1 rfl rfl rfl rfl rfl trivial rfl rfl (by kernel_rfl) vz rfl rfl (pE (fs:=(b8 y)) 0 (f:=⟨false,1,pB (decide (y.num<0))⟩) rfl (off:=0) rfl) (.here 4 rfl),FL (v:=.bool ((decide (x.num<0))==(decide (y.num<0)))) (.tmp 3 rfl rfl) (.tmp 4 rfl rfl) (λ_=>by kernel_rfl) (.here 5 rfl),ej (.tmp 5 rfl rfl) (.here 6 rfl),trivial⟩
 refine dD hI 3 rfl (λht=>?_) (λht=>?_)
 ·have t1:=ht
  refine oX (V1:=[⟨2,2,none,none,.ptr,40,3,true,pv (pS (b8 x)),[]⟩,⟨3,3,none,none,.ptr,40,3,true,pv (pS (b8 y)),[]⟩,⟨4,4,none,none,.ptr,40,3,true,pv (au 0),[(7,pv (au (gh (decide (x.num<0)) ((x.num.natAbs*y.den)+(y.num.natAbs*x.den)) (x.den*y.den))))]⟩]) (A1:=[⟨some 0,32,2,0,True⟩]) (G1:=[⟨none,none,7,bD (x.num.natAbs*y.den)⟩,⟨none,none,8,bD (y.num.natAbs*x.den)⟩,⟨none,none,5,bD (x.den*y.den)⟩,⟨none,none,26,pB ((decide (x.num<0))==(decide (y.num<0)))⟩,⟨some 1,none,33,pB (decide (x.num<0))⟩,⟨some 2,none,34,bD (x.num.natAbs*y.den)⟩,⟨some 3,none,35,bD (y.num.natAbs*x.den)⟩,⟨some 4,none,36,bD ((x.num.natAbs*y.den)+(y.num.natAbs*x.den))⟩,⟨some 5,none,37,bD (x.den*y.den)⟩,⟨some 6,none,38,au (gh (decide (x.num<0)) ((x.num.natAbs*y.den)+(y.num.natAbs*x.den)) (x.den*y.den))⟩]) (V2:=[⟨2,2,none,none,.ptr,40,3,true,pv (pS (b8 x)),[]⟩,⟨3,3,none,none,.ptr,40,3,true,pv (pS (b8 y)),[]⟩,⟨4,4,none,none,.ptr,40,3,true,pv (au (gh (decide (x.num<0)) ((x.num.natAbs*y.den)+(y.num.natAbs*x.den)) (x.den*y.den))),[]⟩]) (G2:=[⟨none,none,7,bD (x.num.natAbs*y.den)⟩,⟨none,none,8,bD (y.num.natAbs*x.den)⟩,⟨none,none,5,bD (x.den*y.den)⟩]) hI rfl rfl rfl [0,1,0,0,12,0,63,127] (by kernel_rfl) (by kernel_rfl) (by kernel_rfl) (by kernel_rfl) ?_ [0,1,2] [0,1,2] rfl rfl λa w hI=>?_
  ·exact⟨gK 0 rfl rfl rfl 0 rfl rfl rfl rfl (.inl ⟨rfl,rfl⟩) rfl (by kernel_rfl) (λb w=>mz b 0 w),gm 0 rfl 0 rfl rfl rfl rfl rfl trivial rfl rfl (by kernel_rfl) vz rfl rfl (pE (fs:=(b8 x)) 0 (f:=⟨false,1,pB (decide (x.num<0))⟩) rfl (off:=0) rfl) (.here 4 rfl),aW (.tmp 0 rfl rfl) (.here 5 rfl),aW (.tmp 1 rfl rfl) (.here 6 rfl),iG (λ_ _=>by kernel_rfl) (fH _) (.tmp 5 rfl rfl) (.tmp 6 rfl rfl) (.here 7 rfl) (UM (((hx).1).mul hy.2) (((hy).1).mul hx.2) (by omega) (by omega)),aW (.tmp 2 rfl rfl) (.here 8 rfl),zQ (λ_ _=>by kernel_rfl) (cH _) (.tmp 4 rfl rfl) (.tmp 7 rfl rfl) (.tmp 8 rfl rfl) (.here 9 rfl) (sY b1 b4 hd (by omega)),mJ 2 rfl rfl rfl rfl 0 rfl (by kernel_rfl) (by kernel_rfl) bY (.tmp 9 rfl rfl) (cV _),trivial⟩
  refine wp_ret ?_
  refine bj ?_
  refine aB ?_
  exact ck hI rfl (.imp (.cell 2 rfl rfl rfl rfl bY rfl) (zV (add_same x y (beq_iff_eq.1 t1)).symm))
 ·have t2:=ht
  refine u9 (V1:=[⟨2,2,none,none,.ptr,40,3,true,pv (pS (b8 x)),[]⟩,⟨3,3,none,none,.ptr,40,3,true,pv (pS (b8 y)),[]⟩,⟨4,4,none,none,.ptr,40,3,true,pv (au 0),[]⟩]) (A1:=[]) (G1:=[⟨none,none,7,bD (x.num.natAbs*y.den)⟩,⟨none,none,8,bD (y.num.natAbs*x.den)⟩,⟨none,none,5,bD (x.den*y.den)⟩,⟨none,none,26,pB ((decide (x.num<0))==(decide (y.num<0)))⟩,⟨some 0,none,40,bD (x.num.natAbs*y.den)⟩,⟨some 1,none,41,bD (y.num.natAbs*x.den)⟩,⟨some 2,none,42,pI (bZ (x.num.natAbs*y.den) (y.num.natAbs*x.den))⟩,⟨some 3,none,43,pB (decide ((bZ (x.num.natAbs*y.den) (y.num.natAbs*x.den))>=(0:Int)))⟩,⟨some 4,none,39,pB (decide ((bZ (x.num.natAbs*y.den) (y.num.natAbs*x.den))>=(0:Int)))⟩]) (V2:=[⟨2,2,none,none,.ptr,40,3,true,pv (pS (b8 x)),[]⟩,⟨3,3,none,none,.ptr,40,3,true,pv (pS (b8 y)),[]⟩,⟨4,4,none,none,.ptr,40,3,true,pv (au 0),[]⟩]) (G2:=[⟨none,none,7,bD (x.num.natAbs*y.den)⟩,⟨none,none,8,bD (y.num.natAbs*x.den)⟩,⟨none,none,5,bD (x.den*y.den)⟩,⟨none,none,39,pB (decide ((bZ (x.num.natAbs*y.den) (y.num.natAbs*x.den))>=(0:Int)))⟩]) hI rfl rfl rfl [0,1,3,7,15] (by kernel_rfl) (by kernel_rfl) ?_ [0,1,2] [0,1,2,8] rfl rfl λa w hI=>?_
  ·exact⟨aW (.tmp 0 rfl rfl) (.here 4 rfl),aW (.tmp 1 rfl rfl) (.here 5 rfl),iG (λ_ _=>by kernel_rfl) (bU _) (.tmp 4 rfl rfl) (.tmp 5 rfl rfl) (.here 6 rfl) (UL _ _),dJ (v:=.bool (decide ((bZ (x.num.natAbs*y.den) (y.num.natAbs*x.den))>=(0:Int)))) (.tmp 6 rfl rfl) (.const _) (λ_=>rfl) (.here 7 rfl),ej (.tmp 7 rfl rfl) (.here 8 rfl),trivial⟩
  refine dD hI 3 rfl (λht=>?_) (λht=>?_)
  ·have t3:=of_decide_eq_true ht
   refine oX (V1:=[⟨2,2,none,none,.ptr,40,3,true,pv (pS (b8 x)),[]⟩,⟨3,3,none,none,.ptr,40,3,true,pv (pS (b8 y)),[]⟩,⟨4,4,none,none,.ptr,40,3,true,pv (au 0),[(7,pv (au (gh (decide (x.num<0)) ((x.num.natAbs*y.den)-(y.num.natAbs*x.den)) (x.den*y.den))))]⟩]) (A1:=[⟨some 0,44,2,0,True⟩]) (G1:=[⟨none,none,7,bD (x.num.natAbs*y.den)⟩,⟨none,none,8,bD (y.num.natAbs*x.den)⟩,⟨none,none,5,bD (x.den*y.den)⟩,⟨none,none,39,pB (decide ((bZ (x.num.natAbs*y.den) (y.num.natAbs*x.den))>=(0:Int)))⟩,⟨some 1,none,45,pB (decide (x.num<0))⟩,⟨some 2,none,46,bD (x.num.natAbs*y.den)⟩,⟨some 3,none,47,bD (y.num.natAbs*x.den)⟩,⟨some 4,none,48,bD ((x.num.natAbs*y.den)-(y.num.natAbs*x.den))⟩,⟨some 5,none,49,bD (x.den*y.den)⟩,⟨some 6,none,50,au (gh (decide (x.num<0)) ((x.num.natAbs*y.den)-(y.num.natAbs*x.den)) (x.den*y.den))⟩]) (V2:=[⟨2,2,none,none,.ptr,40,3,true,pv (pS (b8 x)),[]⟩,⟨3,3,none,none,.ptr,40,3,true,pv (pS (b8 y)),[]⟩,⟨4,4,none,none,.ptr,40,3,true,pv (au (gh (decide (x.num<0)) ((x.num.natAbs*y.den)-(y.num.natAbs*x.den)) (x.den*y.den))),[]⟩]) (G2:=[⟨none,none,7,bD (x.num.natAbs*y.den)⟩,⟨none,none,8,bD (y.num.natAbs*x.den)⟩,⟨none,none,5,bD (x.den*y.den)⟩]) hI rfl rfl rfl [0,1,0,0,12,0,63,127] (by kernel_rfl) (by kernel_rfl) (by kernel_rfl) (by kernel_rfl) ?_ [0,1,2] [0,1,2] rfl rfl λa w hI=>?_
   ·exact⟨gK 0 rfl rfl rfl 0 rfl rfl rfl rfl (.inl ⟨rfl,rfl⟩) rfl (by kernel_rfl) (λb w=>mz b 0 w),gm 0 rfl 0 rfl rfl rfl rfl rfl trivial rfl rfl (by kernel_rfl) vz rfl rfl (pE (fs:=(b8 x)) 0 (f:=⟨false,1,pB (decide (x.num<0))⟩) rfl (off:=0) rfl) (.here 4 rfl),aW (.tmp 0 rfl rfl) (.here 5 rfl),aW (.tmp 1 rfl rfl) (.here 6 rfl),iG (λ_ _=>by kernel_rfl) (fH _) (.tmp 5 rfl rfl) (.tmp 6 rfl rfl) (.here 7 rfl) (ED (JV t3) (((hx).1).mul hy.2) (by omega)),aW (.tmp 2 rfl rfl) (.here 8 rfl),zQ (λ_ _=>by kernel_rfl) (cH _) (.tmp 4 rfl rfl) (.tmp 7 rfl rfl) (.tmp 8 rfl rfl) (.here 9 rfl) (sY b2 b4 hd (by omega)),mJ 2 rfl rfl rfl rfl 0 rfl (by kernel_rfl) (by kernel_rfl) bY (.tmp 9 rfl rfl) (cV _),trivial⟩
   refine wp_ret ?_
   refine bj ?_
   refine aB ?_
   exact ck hI rfl (.imp (.cell 2 rfl rfl rfl rfl bY rfl) (zV (GL x y (beq_eq_false_iff_ne.1 t2) (JV t3)).symm))
  ·have t4:=of_decide_eq_false ht
   refine wp_skip ?_
   refine aG ?_
   refine ae ?_
   refine oX (V1:=[⟨2,2,none,none,.ptr,40,3,true,pv (pS (b8 x)),[]⟩,⟨3,3,none,none,.ptr,40,3,true,pv (pS (b8 y)),[]⟩,⟨4,4,none,none,.ptr,40,3,true,pv (au 0),[(7,pv (au (gh (decide (y.num<0)) ((y.num.natAbs*x.den)-(x.num.natAbs*y.den)) (x.den*y.den))))]⟩]) (A1:=[⟨some 0,51,3,0,True⟩]) (G1:=[⟨none,none,7,bD (x.num.natAbs*y.den)⟩,⟨none,none,8,bD (y.num.natAbs*x.den)⟩,⟨none,none,5,bD (x.den*y.den)⟩,⟨none,none,39,pB (decide ((bZ (x.num.natAbs*y.den) (y.num.natAbs*x.den))>=(0:Int)))⟩,⟨some 1,none,52,pB (decide (y.num<0))⟩,⟨some 2,none,53,bD (y.num.natAbs*x.den)⟩,⟨some 3,none,54,bD (x.num.natAbs*y.den)⟩,⟨some 4,none,55,bD ((y.num.natAbs*x.den)-(x.num.natAbs*y.den))⟩,⟨some 5,none,56,bD (x.den*y.den)⟩,⟨some 6,none,57,au (gh (decide (y.num<0)) ((y.num.natAbs*x.den)-(x.num.natAbs*y.den)) (x.den*y.den))⟩]) (V2:=[⟨2,2,none,none,.ptr,40,3,true,pv (pS (b8 x)),[]⟩,⟨3,3,none,none,.ptr,40,3,true,pv (pS (b8 y)),[]⟩,⟨4,4,none,none,.ptr,40,3,true,pv (au (gh (decide (y.num<0)) ((y.num.natAbs*x.den)-(x.num.natAbs*y.den)) (x.den*y.den))),[]⟩]) (G2:=[]) hI rfl rfl rfl [0,1,0,0,12,0,63,127] (by kernel_rfl) (by kernel_rfl) (by kernel_rfl) (by kernel_rfl) ?_ [0,1,2] [] rfl rfl λa w hI=>?_
   ·exact⟨gK 1 rfl rfl rfl 0 rfl rfl rfl rfl (.inl ⟨rfl,rfl⟩) rfl (by kernel_rfl) (λb w=>mz b 0 w),gm 1 rfl 0 rfl rfl rfl rfl rfl trivial rfl rfl (by kernel_rfl) vz rfl rfl (pE (fs:=(b8 y)) 0 (f:=⟨false,1,pB (decide (y.num<0))⟩) rfl (off:=0) rfl) (.here 4 rfl),aW (.tmp 1 rfl rfl) (.here 5 rfl),aW (.tmp 0 rfl rfl) (.here 6 rfl),iG (λ_ _=>by kernel_rfl) (fH _) (.tmp 5 rfl rfl) (.tmp 6 rfl rfl) (.here 7 rfl) (ED (yT t4) (((hy).1).mul hx.2) (by omega)),aW (.tmp 2 rfl rfl) (.here 8 rfl),zQ (λ_ _=>by kernel_rfl) (cH _) (.tmp 4 rfl rfl) (.tmp 7 rfl rfl) (.tmp 8 rfl rfl) (.here 9 rfl) (sY b3 b4 hd (by omega)),mJ 2 rfl rfl rfl rfl 0 rfl (by kernel_rfl) (by kernel_rfl) bY (.tmp 9 rfl rfl) (cV _),trivial⟩
   refine wp_ret ?_
   exact ck hI rfl (.imp (.cell 2 rfl rfl rfl rfl bY rfl) (zV (GM x y (beq_eq_false_iff_ne.1 t2) (yT t4)).symm))
theorem JL (w:World) (vx vy:Value) (x y:Rat) (hx:bL w vx x) (hy:bL w vy y) {j k:Nat} (hj:aZ j x) (hk:aZ k y) (yh:j+k+j+k+1<=100000000):Calls Tryz.prog 17 #[vx,vy] w (ig w (x+y)):=
 (UK hj hk yh (λ_ _=>False) w vx vy (zI w) (cH x _ w vx (zI w) hx) (cH y _ w vy (zI w) hy)).mono λ_ _ h=>h.ret
end Wx
