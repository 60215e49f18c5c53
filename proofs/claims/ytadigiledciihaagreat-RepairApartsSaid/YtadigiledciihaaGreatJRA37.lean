import Derived.Test.YtadigiledciihaaGreatCRANAddS
import Derived.Laws.IdiomStrings
import Derived.Maps.AppendAt
import Derived.Lib.IndexLaws
import Derived.Lib.Strings
import Derived.WalkSpells
import Derived.Lib.Slices
import Derived.Lib.Walk
import Derived.Lib.Builder
import Derived.Lib.AppendStr
import Derived.Lib.UnsafeStr
import Derived.Lib.MakeNoZero
import Derived.Laws.IdiomCopy
namespace Wx
open Go Go.RowKit Go.Proofs
end Wx

namespace Wx
set_option maxRecDepth 100000
open Go Go.RowKit Go.Proofs
set_option maxHeartbeats 2000000 in
theorem zF (w:World) (vx vy:Value) (x y:Rat) (hx:cZ w vx x) (hy:cZ w vy y) {j k:Nat} (hj:dx j x) (hk:dx k y) (sJ:j+k+j+k+1<=10000000):Calls Tryz.prog 66 #[vx,vy] w (iI w (x-y)):=by
 obtain⟨xK,xL,rfl,eF,dZ⟩:=id hx
 obtain⟨bO,bQ,rfl,_⟩:=id eF
 obtain⟨bP,bR,rfl,_⟩:=id dZ
 obtain⟨IB,IC,rfl,ia,gK⟩:=id hy
 obtain⟨da,de,rfl,_⟩:=id ia
 obtain⟨dc,dg,rfl,_⟩:=id gK
 have hx0:=hx
 have hy0:=hy
 clear hx hy eF dZ ia gK
 have HB:=bx (And.intro hj hk.neg)
 have HQ:=bx (Rat.sub_eq_add_neg x y)
 clear hj hk
 go_enter Tryz.func66,Tryz.ntmps66
 go_wp2_with fail
 obtain⟨w1,e1,o1,b1,s1⟩:=gL w [.bool (decide (x.num<0)),.slice bO (ae ah x.num.natAbs).length bQ,.slice bP (ae ah x.den).length bR] 61
 obtain⟨w2,e2,o2,b2,s2⟩:=gL w1 [.bool (decide (y.num<0)),.slice da (ae ah y.num.natAbs).length de,.slice dc (ae ah y.den).length dg] 61
 obtain⟨w3,e3,o3,b3,s3⟩:=gL w2 [.bool false,.slice none 0 0,.slice none 0 0] 61
 rw[e1,e2,e3]
 rw[s1]at o2
 rw[s2,s1]at o3
 have p1:=((o1.gone b2).gone b3)
 have p2:=(o2.gone b3)
 have p3:=o3
 have B0:=((b1.trans (b2.mono b1.size)).trans (b3.mono (b1.trans (b2.mono b1.size)).size))
 have hS:∀w',aX w (w.heap.size+2) 3 61 [(w.heap.size,[.bool (decide (x.num<0)),.slice bO (ae ah x.num.natAbs).length bQ,.slice bP (ae ah x.den).length bR],61),(w.heap.size+1,[.bool (decide (y.num<0)),.slice da (ae ah y.num.natAbs).length de,.slice dc (ae ah y.den).length dg],61)] w'->aX w (w.heap.size+2) 3 61 [(w.heap.size,[.bool (decide (x.num<0)),.slice bO (ae ah x.num.natAbs).length bQ,.slice bP (ae ah x.den).length bR],61),(w.heap.size+1,[.bool (decide (y.num<0)),.slice da (ae ah y.num.natAbs).length de,.slice dc (ae ah y.den).length dg],61)] w'/\w'.cell? ⟨w.heap.size,0,none⟩=some (.bool (decide (x.num<0)))/\w'.cell? ⟨w.heap.size,1,none⟩=some (.slice bO (ae ah x.num.natAbs).length bQ)/\w'.cell? ⟨w.heap.size,2,none⟩=some (.slice bP (ae ah x.den).length bR)/\w'.cell? ⟨w.heap.size+1,0,none⟩=some (.bool (decide (y.num<0)))/\w'.cell? ⟨w.heap.size+1,1,none⟩=some (.slice da (ae ah y.num.natAbs).length de)/\w'.cell? ⟨w.heap.size+1,2,none⟩=some (.slice dc (ae ah y.den).length dg)/\w'.cell? ⟨w.heap.size+2,0,none⟩=some (cv w' ⟨w.heap.size+2,0,none⟩)/\w'.cell? ⟨w.heap.size+2,1,none⟩=some (cv w' ⟨w.heap.size+2,1,none⟩)/\w'.cell? ⟨w.heap.size+2,2,none⟩=some (cv w' ⟨w.heap.size+2,2,none⟩)/\w'.frozen? ⟨w.heap.size+2,0,none⟩=false/\w'.frozen? ⟨w.heap.size+2,1,none⟩=false/\w'.frozen? ⟨w.heap.size+2,2,none⟩=false:=λw' hh=>by
  have r1:=hh.par (p:=(w.heap.size,[.bool (decide (x.num<0)),.slice bO (ae ah x.num.natAbs).length bQ,.slice bP (ae ah x.den).length bR],61)) (by simp)
  have r2:=hh.par (p:=(w.heap.size+1,[.bool (decide (y.num<0)),.slice da (ae ah y.num.natAbs).length de,.slice dc (ae ah y.den).length dg],61)) (by simp)
  exact⟨hh,r1.cell (i:=0) rfl,r1.cell (i:=1) rfl,r1.cell (i:=2) rfl,r2.cell (i:=0) rfl,r2.cell (i:=1) rfl,r2.cell (i:=2) rfl,hh.iJ (i:=0) (by omega),hh.iJ (i:=1) (by omega),hh.iJ (i:=2) (by omega),hh.AZ 0,hh.AZ 1,hh.AZ 2⟩
 have hz:aX w (w.heap.size+2) 3 61 [(w.heap.size,[.bool (decide (x.num<0)),.slice bO (ae ah x.num.natAbs).length bQ,.slice bP (ae ah x.den).length bR],61),(w.heap.size+1,[.bool (decide (y.num<0)),.slice da (ae ah y.num.natAbs).length de,.slice dc (ae ah y.den).length dg],61)] w3:=⟨B0,by omega,by intro q hq; simp at hq; rcases hq with rfl|rfl; exact⟨by simp,p1⟩; exact⟨by simp,p2⟩,_,rfl,p3,dH⟩
 clear e1 e2 e3 o1 b1 s1 p1 o2 b2 s2 p2 o3 b3 s3 p3
 clear B0
 have hz:=hz.drew
 go_region_held3 (λw'=>aX w (w.heap.size+2) 3 61 [(w.heap.size,[.bool (decide (x.num<0)),.slice bO (ae ah x.num.natAbs).length bQ,.slice bP (ae ah x.den).length bR],61),(w.heap.size+1,[.bool (decide (y.num<0)),.slice da (ae ah y.num.natAbs).length de,.slice dc (ae ah y.den).length dg],61)] w'/\w'.cell? ⟨w.heap.size,0,none⟩=some (.bool (decide (x.num<0)))/\w'.cell? ⟨w.heap.size,1,none⟩=some (.slice bO (ae ah x.num.natAbs).length bQ)/\w'.cell? ⟨w.heap.size,2,none⟩=some (.slice bP (ae ah x.den).length bR)/\w'.cell? ⟨w.heap.size+1,0,none⟩=some (.bool (decide (y.num<0)))/\w'.cell? ⟨w.heap.size+1,1,none⟩=some (.slice da (ae ah y.num.natAbs).length de)/\w'.cell? ⟨w.heap.size+1,2,none⟩=some (.slice dc (ae ah y.den).length dg)/\w'.cell? ⟨w.heap.size+2,0,none⟩=some (cv w' ⟨w.heap.size+2,0,none⟩)/\w'.cell? ⟨w.heap.size+2,1,none⟩=some (cv w' ⟨w.heap.size+2,1,none⟩)/\w'.cell? ⟨w.heap.size+2,2,none⟩=some (cv w' ⟨w.heap.size+2,2,none⟩)/\w'.frozen? ⟨w.heap.size+2,0,none⟩=false/\w'.frozen? ⟨w.heap.size+2,1,none⟩=false/\w'.frozen? ⟨w.heap.size+2,2,none⟩=false)
  (first|exact hS _ hz|exact hS _ (aX.Di hz))
  (first
   |(go_at_call 103; (with_reducible refine Calls.mono (GZ _ _ y (hy0.below hz.b)) ?_); rintro e wz ⟨vn,rfl,hn,hb⟩; have hz:=aX.call (And.intro hz trivial) hb)
   |(go_at_call 51; (with_reducible refine Calls.mono (GQ _ _ _ x (-y) (hx0.below hz.b) hn HB.out.1 HB.out.2 sJ) ?_); rintro e wz ⟨vr,rfl,hr,hb⟩; have hz:=aX.call (And.intro hz trivial) hb; rw[<-HQ.out]at hr; obtain⟨QT,QU,rfl,JD,hrb⟩:=id hr; obtain⟨Fg,Fk,rfl,_⟩:=id JD; obtain⟨Fh,Fl,rfl,_⟩:=id hrb))
 all_goals (
  go_wp2
  obtain⟨wf,HW,ho,hB,hN⟩:=hz.fin [.bool (decide ((x-y).num<0)),.slice Fg (ae ah (x-y).num.natAbs).length Fk,.slice Fh (ae ah (x-y).den).length Fl] rfl dH
  simp only[dh,Nat.reduceAdd]at HW
  (try rw[HW])
  (try simp only[Exit.inBlock,Exit.then])
  have f0:=ho.cell (i:=0) rfl
  have f1:=ho.cell (i:=1) rfl
  have f2:=ho.cell (i:=2) rfl
  refine bodyPost_ret (by simp[results,Tryz.results66,go_sem,f0,f1,f2]; try rfl) rfl ?_
  exact⟨_,rfl,hr.into hN,hB⟩)
end Wx

namespace Wx
set_option maxRecDepth 100000
set_option maxHeartbeats 1000000
open Go Go.RowKit Go.Proofs
theorem Ki (x y:Rat):dD (x-y)=gJ x y:=by rw[xD]; exact FR x y
theorem GU (w:World) (vx vy:Value) (x y:Rat) (hx:cZ w vx x) (hy:cZ w vy y) {j k:Nat} (hj:dx j x) (hk:dx k y) (sJ:j+k+j+k+1<=10000000):Calls Tryz.prog 41 #[vx,vy] w (eK w (.int .i64 (gJ x y))):=by
 obtain⟨xK,xL,rfl,eF,dZ⟩:=id hx
 obtain⟨bO,bQ,rfl,_⟩:=id eF
 obtain⟨bP,bR,rfl,_⟩:=id dZ
 obtain⟨IB,IC,rfl,ia,gK⟩:=id hy
 obtain⟨da,de,rfl,_⟩:=id ia
 obtain⟨dc,dg,rfl,_⟩:=id gK
 have hx0:=hx
 have hy0:=hy
 clear hx hy eF dZ ia gK
 have HB:=bx (And.intro hj hk)
 clear hj hk
 go_enter Tryz.func41,Tryz.ntmps41
 go_wp2_with fail
 obtain⟨w1,e1,oX,b1,s1⟩:=gL w [.bool (decide (x.num<0)),.slice bO (ae ah x.num.natAbs).length bQ,.slice bP (ae ah x.den).length bR] 61
 rw[e1]
 clear e1
 replace hx0:=hx0.below b1
 replace hy0:=hy0.below b1
 have B:=b1
 clear b1
 obtain⟨w2,e2,oY,b2,s2⟩:=gL w1 [.bool (decide (y.num<0)),.slice da (ae ah y.num.natAbs).length de,.slice dc (ae ah y.den).length dg] 61
 rw[e2]
 rw[s1]at oY
 clear e2
 replace hx0:=hx0.below b2
 replace hy0:=hy0.below b2
 replace oX:=oX.gone b2
 replace B:=B.trans (b2.mono B.size)
 clear b2
 refine Calls.mono (zF _ _ _ x y hx0 hy0 HB.out.1 HB.out.2 sJ) ?_
 rintro e w3 ⟨vr,rfl,hr,b3⟩
 replace hx0:=hx0.below b3
 replace hy0:=hy0.below b3
 replace oX:=oX.gone b3
 replace oY:=oY.gone b3
 replace B:=B.trans (b3.mono B.size)
 clear b3
 go_wp2_with fail
 have hc:=Ev _ _ (x-y) hr
 rw[Ki]at hc
 refine Calls.mono (hc) ?_
 rintro e w4 ⟨rfl,b4⟩
 replace hx0:=hx0.below b4
 replace hy0:=hy0.below b4
 replace oX:=oX.gone b4
 replace oY:=oY.gone b4
 replace hr:=hr.below b4
 replace B:=B.trans (b4.mono B.size)
 clear b4
 clear hc
 go_wp2
 go_ret
 exact⟨rfl,B⟩
end Wx

namespace Wx
set_option maxRecDepth 100000
set_option maxHeartbeats 1000000
open Go Go.RowKit Go.Proofs
def bH (n:Nat):List Nat:=((ae 10 n).map (·+48)).reverse
theorem jO:bH 0=[]:=rfl
variable {n:Nat}
theorem oq (h:0<n):bH n=bH (n/10)++[n%10+48]:=by
 unfold bH
 rw[fO (by omega) h]
 simp
theorem lQ {k:Nat} (h:n<10^k):(bH n).length<=k:=by
 unfold bH
 rw[List.length_reverse,List.length_map]
 exact fN (by omega) h
theorem kE (h:0<n):0<(bH n).length:=by
 rw[oq h]; simp
def strOf (l:List Nat):ByteArray:=⟨(l.map UInt8.ofNat).toArray⟩
theorem Ag {w:World} {g o c:Nat} {l:List Nat} (hw:Wf 256 l) (h:∀j,j<l.length->w.cell? ⟨g,o+j,none⟩=some (.int .u8 (l.getD j 0:Nat))) (n:Nat) (hn:n=l.length):
  (convert 133 9 (.slice (some ⟨g,o,none⟩) n c)).run Tryz.prog w=.ok (.string (strOf l)) w:=by
 subst hn
 have hl:l.length=(l.map UInt8.ofNat).length:=by simp
 rw[hl]
 refine run_convert_bytes_back w 133 9 5 ⟨g,o,none⟩ c (l.map UInt8.ofNat) Tryz.underlying133 Tryz.underlying5 Tryz.underlying9 (λj hj=>?_)
 rw[<-hl]at hj
 have h1:=h j hj
 have h2:=hw.get hj
 rw[List.getD_eq_getElem?_getD,List.getElem?_eq_getElem hj,Option.getD_some]at h1
 rw[show(⟨g,o,none⟩:Addr).add j=⟨g,o+j,none⟩ by simp[Addr.add],h1,List.getElem_map,UInt8.toNat_ofNat_of_lt' h2]
theorem yA (w:World) (n:Nat) (hn:n<b64):Calls Tryz.prog 97 #[.int .u64 (n:Int)] w (eK w (.string (strOf (bH n)))):=by
 have HL:=bx (lQ (n:=n) (k:=20) (Nat.lt_of_lt_of_le hn (by unfold b64; decide)))
 have HN:=bx hn
 clear hn
 go_enter Tryz.func97,Tryz.ntmps97
 go_wp2_with fail
 have hrow:=Row.new w .u8 161 (List.replicate 20 0)
 have hb0:Below w.heap.size w (w.alloc (.cells (fc .u8 (List.replicate 20 0)).toArray 161)):=Below.alloc (Below.refl _ _) (Nat.le_refl _) _
 change (Code.wp _ _ _ _ (w.alloc (.cells (fc .u8 (List.replicate 20 0)).toArray 161)))
 generalize w.alloc (.cells (fc .u8 (List.replicate 20 0)).toArray 161)=w1 at *
 go_loopw [0,4] (λs0 s4 wr=>∃(m at_:Nat) (L:List Nat),s0=.int .u64 (m:Int)/\s4=.int .i64 (at_:Int)/\at_<=20/\Bx (L.length=20)/\Wf 256 L/\Row wr .u8 161 w.heap.size L/\Below w.heap.size w wr/\Bx (bH n=bH m++L.drop at_)/\Bx (m<b64)) (λs0 _ _=>(intOf s0).toNat)
 case atStart=>exact⟨n,20,List.replicate 20 0,rfl,rfl,Nat.le_refl _,bx (by simp),Wf.replicate (by omega) _,hrow,hb0,bx (by simp),HN⟩
 case round=>
  clear hrow hb0
  obtain⟨m,at_,L,rfl,rfl,hat,NF,Gt,hr,hbl,HD,HM⟩:=hrel
  rcases Nat.eq_zero_or_pos m with rfl|hm0
  ·have hai:(at_:Int)<=20:=by omega
   have V0:(0:Int)<=(at_:Int):=by omega
   have hu:=Tryz.underlying161
   have hdn:bH n=L.drop at_:=HD.out
   have hwd:Wf 256 (bH n):=by rw[hdn]; exact Gt.drop _
   have NQ:20-at_=(bH n).length:=by rw[hdn,List.length_drop,NF.out]
   have hcs:∀j,j<(bH n).length->wr.cell? ⟨w.heap.size,at_+j,none⟩=some (.int .u8 ((bH n).getD j 0:Nat)):=λj hj=>by
    rw[hr.cell (i:=at_+j) (by rw[NF.out]; omega),hdn]
    simp[List.getD_eq_getElem?_getD]
   have hcv:=Ag (c:=20-at_) hwd hcs _ NQ
   have U7:=bx NQ
   clear hdn hwd hcs NQ HD
   by_cases T7:at_=20
   ·subst T7
    have Wd:=Ag (w:=wr) (g:=w.heap.size) (o:=0) (c:=0) (Wf.nil 256) (λj hj=>absurd hj (by simp)) 0 rfl
    have hE:bH n=[]:=List.eq_nil_of_length_eq_zero (by have:=U7.out; omega)
    clear hcv
    go_wp2
    go_ret
    rw[hE]
    exact⟨rfl,hbl⟩
   ·have hne:¬20=at_:=λh=>T7 h.symm
    go_wp2
    go_ret
    exact⟨rfl,hbl⟩
  ·have V3:1<=at_:=by
    have h1:=congrArg List.length HD.out
    have h2:=kE hm0
    have h3:=HL.out
    have h4:=NF.out
    rw[List.length_append,List.length_drop]at h1
    omega
   obtain⟨k,rfl⟩:∃k,at_=k+1:=⟨at_-1,by omega⟩
   obtain⟨vo,CF,Fi⟩:=hr.get (i:=k) (by have:=NF.out; omega)
   have uf:=hr.frozen k
   have lE:(k:Int)<20:=by omega
   have wR:(0:Int)<=(k:Int):=by omega
   have Py:(1:Int)<=(m:Int):=by omega
   have hw:IntKind.u64.wrap ((m:Int)/10)=((m/10:Nat):Int):=by
    have:=HM.out
    rw[wrap_u64 (by omega) (by unfold b64 at this; omega)]; omega
   have hv:48+(m:Int)%10=((m%10+48:Nat):Int):=by omega
   have HW:=bx hw
   have HV:=bx hv
   clear hw hv
   go_wp2_with fail
   rw[HW.out,HV.out]
   refine⟨⟨m/10,k,L.set k (m%10+48),rfl,rfl,by omega,bx (by rw[List.length_set]; exact NF.out),Gt.set (by omega),hr.set k _,hbl.setCell (Nat.le_refl _) _,bx ?_,bx (Nat.lt_of_le_of_lt (Nat.div_le_self _ _) HM.out)⟩,by simp[intOf]; omega⟩
   rw[HD.out,oq hm0,jy (by have:=NF.out; omega),List.append_assoc]
   rfl
end Wx

namespace Wx
open Go Go.RowKit Go.Proofs
theorem cg (l:List Nat):(strOf l).size=l.length:=by simp[strOf,ByteArray.size]
end Wx

namespace Wx
open Go Go.RowKit Go.Proofs
end Wx

namespace Wx
open Go Go.RowKit Go.Proofs
end Wx

namespace Wx
set_option maxRecDepth 100000
set_option maxHeartbeats 1000000
open Go Go.RowKit Go.Proofs
theorem vU:(Tryz.prog.info? 135).map (·.size)=some 2:=by kernel_rfl
theorem liesBuilder:liesAt Tryz.prog Tryz.prog.depth 135 (2/Tryz.prog.cellsOf 135) 0 135 1=true:=by kernel_rfl
theorem infoByte:(Tryz.prog.info? 5).map (λi=>(i.zero,i.size,i.bytes))=some (some (.int .u8 0),1,1):=by kernel_rfl
theorem rZ (b:Nat) (w:World) (h0:w.cell? ⟨b,0,none⟩=some (.pointer (some ⟨b,0,none⟩))):
  Calls Tryz.prog 127 #[.pointer (some ⟨b,0,none⟩)] w λe w'=>e=.returned (.tuple #[])/\w'=w:=by
 obtain⟨j,hj,_⟩:=Option.map_eq_some_iff.1 vU
 go_enter Tryz.func127,Tryz.ntmps127
 go_wp2
 rw[Lib.run_neq_ptr_same w _ Tryz.underlying132 hj]
 go_wp2
 go_end0
 exact⟨rfl,rfl⟩
theorem qL (b:Nat) (w:World) (h0:w.cell? ⟨b,0,none⟩=some (.pointer none)) (hsh:w.shape? b=some (135,2)) (hfz:w.frozen? ⟨b,0,none⟩=false):
  Calls Tryz.prog 127 #[.pointer (some ⟨b,0,none⟩)] w λe w'=>e=.returned (.tuple #[])/\w'=w.setCell ⟨b,0,none⟩ (.pointer (some ⟨b,0,none⟩)):=by
 obtain⟨j,hj,QH⟩:=Option.map_eq_some_iff.1 vU
 go_enter Tryz.func127,Tryz.ntmps127
 go_wp2
 rw[Lib.run_to_unsafe w ⟨b,0,none⟩ Tryz.underlying132 Tryz.underlying183 hj (by rw[QH]; decide) hsh (Nat.zero_lt_succ 1)]
 simp only[Result.andThen]
 rw[Oper.upon_value]
 go_wp2
 rw[run_callFunc_extern Tryz.func149 (by kernel_rfl) (by kernel_rfl) (by kernel_rfl) (e:=Extern.AbiNoEscape.same) (by kernel_rfl)]
 rw[Lib.run_noEscape]
 simp only[Result.andThen]
 rw[Oper.upon_value]
 go_wp2
 rw[Lib.run_from_unsafe w ⟨b,0,none⟩ Tryz.underlying183 Tryz.underlying132 hj hsh liesBuilder]
 simp only[Result.andThen]
 rw[Oper.upon_value]
 go_wp2
 go_end0
 exact⟨rfl,rfl⟩
theorem uo (B b:Nat) (bs:List Value) (w:World) (h:Lib.IsBuilder 135 5 B b bs w):
  Calls Tryz.prog 127 #[.pointer (some ⟨b,0,none⟩)] w λe w'=>e=.returned (.tuple #[])/\(Lib.BuilderAt 135 5 B b (.pointer (some ⟨b,0,none⟩)) bs w'/\Below B w w'):=by
 rcases h with h|h
 ·refine(qL b w h.cell0 h.shape h.frozen0).mono ?_
  rintro e w' ⟨rfl,rfl⟩
  exact⟨rfl,h.used _,(Below.refl B w).setCell (p:=⟨b,0,none⟩) h.1 _⟩
 ·refine(rZ b w h.cell0).mono ?_
  rintro e w' ⟨rfl,rfl⟩
  exact⟨rfl,h,Below.refl B _⟩
set_option maxHeartbeats 2000000 in
theorem qT (B b:Nat) (bs:List Value) (s:ByteArray) (w:World) (h:Lib.IsBuilder 135 5 B b bs w) (hlen:bs.length+s.size<=140737488355328) (hBw:B<=w.heap.size):
  Calls Tryz.prog 99 #[.pointer (some ⟨b,0,none⟩),.string s] w λe w'=>e=.returned (.tuple #[.int .i64 s.size,.nilIface])/\(Lib.BuilderAt 135 5 B b (.pointer (some ⟨b,0,none⟩)) (bs++Lib.strCells s) w'/\Below B w w'):=by
 obtain⟨i0,hi,hz0,hz1,hz2⟩:=info_parts infoByte
 go_enter Tryz.func99,Tryz.ntmps99
 go_wp2_with (go_at_call 127; refine(uo B b bs _ h).mono ?_)
 rintro e w1 ⟨rfl,h1,hb1⟩
 obtain⟨hB,v,hbk,hown,hne⟩:=h1
 have c0:w1.cell? ⟨b,0,none⟩=some (.pointer (some ⟨b,0,none⟩)):=by rw[Lib.cell_of_heap hbk]; rfl
 have c1:w1.cell? ⟨b,1,none⟩=some v:=by rw[Lib.cell_of_heap hbk]; rfl
 go_wp2_with (at_builtin; refine Lib.wpList_append_own_string _ rfl _ _ 133 9 rfl B 5 i0 Tryz.underlying133 Tryz.underlying9 hi hz0 hz1 hz2 _ _ _ rfl hown s rfl ?c3 ?c4 ?c5 ?_)
 case c3=>unfold maxLen; omega
 case c4=>omega
 case c5=>have:=hb1.size; omega
 intro v' w2 hown' hgrow _
 have hlt:b<w1.heap.size:=by
  rcases Nat.lt_or_ge b w1.heap.size with h'|h'
  ·exact h'
  ·simp[Array.getElem?_eq_none h']at hbk
 have hb2:w2.heap[b]?=some (.cells #[.pointer (some ⟨b,0,none⟩),v] 135 (0,0)):=by
  rw[hgrow.block b hlt (λe=>hne e.symm)]
  exact hbk
 have d0:w2.cell? ⟨b,0,none⟩=some (.pointer (some ⟨b,0,none⟩)):=by rw[Lib.cell_of_heap hb2]; rfl
 have d1:w2.cell? ⟨b,1,none⟩=some v:=by rw[Lib.cell_of_heap hb2]; rfl
 have f1:w2.frozen? ⟨b,1,none⟩=false:=Lib.frozen_of_heap hb2 1
 obtain⟨ao,n',cap,rfl⟩:∃ao n' cap,v'=.slice ao n' cap:=by
  rcases hown'.2 with⟨hv,_⟩|⟨g,cap,cur,hv,_⟩
  ·exact⟨_,_,_,hv⟩
  ·exact⟨_,_,_,hv⟩
 go_wp2
 go_ret2
 refine⟨rfl,?_,?_⟩
 ·exact Lib.BuilderAt.put (T:=135) (e:=5) hB hb2 (bs':=bs++Lib.strCells s) (by simpa [Lib.strCells_length] using hown') (by decide)
 ·exact(hb1.grown hgrow (by have:=hb1.size; omega) (λk hk=>(hown.lt k hk).1)).setCell (p:=⟨b,1,none⟩) hB _
end Wx
