import Derived.Test.YtpiniclogfefjaaCSylvesterDown
import Derived.Laws.IdiomStrings
import Derived.Maps.AppendAt
import Derived.Lib.IndexLaws
import Derived.Lib.Strings
import Derived.WalkSpells
import Derived.Lib.Slices
import Derived.Lib.Walk
import Derived.Lib.Builder
import Derived.Lib.AppendStr
import Derived.Lib.UnsafeStr
import Derived.Lib.MakeNoZero
import Derived.Laws.IdiomCopy
namespace Wx
open Go Go.RowKit Go.Proofs

theorem floor_num (w:World) (vx:Value) (x:Rat) (hx:IsRat w vx x) {j:Nat} (hj:BdR j x) (hjk:j≤10000000):Calls Try.prog 30 #[vx] w (RetRat w (Vn x 0)):=by
 obtain⟨vx1,vx2,rfl,hxa,hxb⟩:=id hx
 obtain⟨Ax1,cx1,rfl,_⟩:=id hxa
 obtain⟨Ax2,cx2,rfl,_⟩:=id hxb
 go_enter Try.func30,Try.ntmps30
 go_wp2_with fail
 obtain⟨w1,e1,o1,b1,s1⟩:=Yz w (.bool (decide (x.num<0))) (.slice Ax1 (digs Qb x.num.natAbs).length cx1) (.slice Ax2 (digs Qb (Qm x.den)).length cx2) 32
 obtain⟨w2,e2,o2,b2,s2⟩:=Yz w1 (.bool false) (.slice none 0 0) (.slice none 0 0) 32
 rw[e1,e2]
 rw[s1]at o2
 have p1:=(o1.gone b2)
 have p2:=o2
 have B0:=(b1.trans (b2.mono b1.size))
 have hS:∀w',HeldR w (w.heap.size+1) 32 [(w.heap.size,.bool (decide (x.num<0)),.slice Ax1 (digs Qb x.num.natAbs).length cx1,.slice Ax2 (digs Qb (Qm x.den)).length cx2)] w'→HeldR w (w.heap.size+1) 32 [(w.heap.size,.bool (decide (x.num<0)),.slice Ax1 (digs Qb x.num.natAbs).length cx1,.slice Ax2 (digs Qb (Qm x.den)).length cx2)] w'∧w'.cell? ⟨w.heap.size,0,none⟩=some (.bool (decide (x.num<0)))∧w'.cell? ⟨w.heap.size,1,none⟩=some (.slice Ax1 (digs Qb x.num.natAbs).length cx1)∧w'.cell? ⟨w.heap.size,2,none⟩=some (.slice Ax2 (digs Qb (Qm x.den)).length cx2)∧w'.cell? ⟨w.heap.size+1,0,none⟩=some (cv w' ⟨w.heap.size+1,0,none⟩)∧w'.cell? ⟨w.heap.size+1,1,none⟩=some (cv w' ⟨w.heap.size+1,1,none⟩)∧w'.cell? ⟨w.heap.size+1,2,none⟩=some (cv w' ⟨w.heap.size+1,2,none⟩)∧w'.frozen? ⟨w.heap.size+1,0,none⟩=false∧w'.frozen? ⟨w.heap.size+1,1,none⟩=false∧w'.frozen? ⟨w.heap.size+1,2,none⟩=false:=fun w' hh=>by
  obtain⟨f0,f1,f2,f3,f4,f5⟩:=hh.cells
  have q1:=(hh.2.2.1 (w.heap.size,.bool (decide (x.num<0)),.slice Ax1 (digs Qb x.num.natAbs).length cx1,.slice Ax2 (digs Qb (Qm x.den)).length cx2) (by simp)).2
  exact⟨hh,q1.c0,q1.c1,q1.c2,f0,f1,f2,f3,f4,f5⟩
 have H0:HeldR w (w.heap.size+1) 32 [(w.heap.size,.bool (decide (x.num<0)),.slice Ax1 (digs Qb x.num.natAbs).length cx1,.slice Ax2 (digs Qb (Qm x.den)).length cx2)] w2:=⟨B0,by omega,by intro p hp; simp at hp; subst hp; exact⟨by simp,p1⟩,_,_,_,p2,Yw _,Q7 _ _ _,Q7 _ _ _⟩
 clear e1 e2
 have hz:=H0
 obtain⟨_,k0,k1,k2,k3,k4,k5⟩:=hS _ hz
 refine(down_num _ _ x 0 (hx.below hz.1) hj hjk).mono ?_
 rintro e wy ⟨vr,rfl,hrr,hb⟩
 have hz:=HeldR.call (And.intro hz trivial) hb
 clear k0 k1 k2 k3 k4 k5
 obtain⟨vrn,vrd,rfl,hrn,hrd⟩:=id hrr
 obtain⟨Ar1,cr1,rfl,_⟩:=id hrn
 obtain⟨Ar2,cr2,rfl,_⟩:=id hrd
 obtain⟨_,k0,k1,k2,k3,k4,k5,k6,k7,k8⟩:=hS _ hz
 go_wp2
 obtain⟨wf,HW,f0,f1,f2,hfin⟩:=hz.fin rfl hrn hrd
 rw[HW]
 (try simp only[Exit.inBlock,Exit.then])
 refine bodyPost_ret (by simp[results,Try.results30,go_sem,f0,f1,f2]; try rfl) rfl ?_
 exact hfin
end Wx

namespace Wx
set_option maxRecDepth 100000
open Go Go.RowKit Go.Proofs

def Xp (n:Nat):List Nat:=((digs 10 n).map (·+48)).reverse
theorem Qaq:Xp 0=[]:=rfl
theorem Qcz {n:Nat} (h:0<n):Xp n=Xp (n/10)++[n%10+48]:=by
 unfold Xp
 rw[We (by omega) h]
 simp
theorem Qci {n k:Nat} (h:n<10^k):(Xp n).length≤k:=by
 unfold Xp
 rw[List.length_reverse,List.length_map]
 exact Vm (by omega) h
theorem Qbj {n:Nat} (h:0<n):0<(Xp n).length:=by
 rw[Qcz h]; simp

def Qu (l:List Nat):ByteArray:=⟨(l.map UInt8.ofNat).toArray⟩
theorem str_back {w:World} {g o c:Nat} {l:List Nat} (hw:Wf 256 l) (h:∀j,j<l.length→w.cell? ⟨g,o+j,none⟩=some (.int .u8 (l.getD j 0:Nat))) (n:Nat) (hn:n=l.length):
  (convert 92 9 (.slice (some ⟨g,o,none⟩) n c)).run Try.prog w=.ok (.string (Qu l)) w:=by
 subst hn
 have hl:l.length=(l.map UInt8.ofNat).length:=by simp
 rw[hl]
 refine run_convert_bytes_back w 92 9 5 ⟨g,o,none⟩ c (l.map UInt8.ofNat) Try.underlying92 Try.underlying5 Try.underlying9 (fun j hj=>?_)
 rw[← hl]at hj
 have h1:=h j hj
 have h2:=hw.get hj
 rw[List.getD_eq_getElem?_getD,List.getElem?_eq_getElem hj,Option.getD_some]at h1
 rw[show(⟨g,o,none⟩:Addr).add j=⟨g,o+j,none⟩ by simp[Addr.add],h1,List.getElem_map,UInt8.toNat_ofNat_of_lt' h2]

set_option maxHeartbeats 1000000 in
theorem decimal_num (w:World) (n:Nat) (hn:n<Qb):Calls Try.prog 75 #[.int .u64 (n:Int)] w (Zv w (.string (Qu (Xp n)))):=by
 have HL:=bx (Qci (n:=n) (k:=20) (Nat.lt_of_lt_of_le hn (by unfold Qb; decide)))
 have HN:=bx hn
 clear hn
 go_enter Try.func75,Try.ntmps75
 go_wp2_with fail
 have hrow:=Row.new w .u8 111 (List.replicate 20 0)
 have hb0:Below w.heap.size w (w.alloc (.cells (Jf .u8 (List.replicate 20 0)).toArray 111)):=Below.alloc (Below.refl _ _) (Nat.le_refl _) _
 change (Code.wp _ _ _ _ (w.alloc (.cells (Jf .u8 (List.replicate 20 0)).toArray 111)))
 generalize w.alloc (.cells (Jf .u8 (List.replicate 20 0)).toArray 111)=w1 at *
 go_loopw [0,4] (fun s0 s4 wr=>∃(m at_:Nat) (L:List Nat),s0=.int .u64 (m:Int)∧s4=.int .i64 (at_:Int)∧at_≤20∧Bx (L.length=20)∧Wf 256 L∧Row wr .u8 111 w.heap.size L∧Below w.heap.size w wr∧Bx (Xp n=Xp m++L.drop at_)∧Bx (m<Qb)) (fun s0 _ _=>(intOf s0).toNat)
 case atStart=>exact⟨n,20,List.replicate 20 0,rfl,rfl,Nat.le_refl _,bx (by simp),Wf.replicate (by omega) _,hrow,hb0,bx (by simp),HN⟩
 case round=>
  clear hrow hb0
  obtain⟨m,at_,L,rfl,rfl,hat,HLL,hwL,hr,hbl,HD,HM⟩:=hrel
  rcases Nat.eq_zero_or_pos m with rfl|hm0
  ·have hai:(at_:Int)≤20:=by omega
   have hai0:(0:Int)≤(at_:Int):=by omega
   have hu:=Try.underlying111
   have hdn:Xp n=L.drop at_:=HD.out
   have hwd:Wf 256 (Xp n):=by rw[hdn]; exact hwL.drop _
   have hln:20-at_=(Xp n).length:=by rw[hdn,List.length_drop,HLL.out]
   have hcs:∀j,j<(Xp n).length→wr.cell? ⟨w.heap.size,at_+j,none⟩=some (.int .u8 ((Xp n).getD j 0:Nat)):=fun j hj=>by
    rw[hr.cell (i:=at_+j) (by rw[HLL.out]; omega),hdn]
    simp[List.getD_eq_getElem?_getD]
   have hcv:=str_back (c:=20-at_) hwd hcs _ hln
   have HLN:=bx hln
   clear hdn hwd hcs hln HD
   by_cases h20:at_=20
   ·subst h20
    have hcv0:=str_back (w:=wr) (g:=w.heap.size) (o:=0) (c:=0) (Wf.nil 256) (fun j hj=>absurd hj (by simp)) 0 rfl
    have hE:Xp n=[]:=List.eq_nil_of_length_eq_zero (by have:=HLN.out; omega)
    clear hcv
    go_wp2
    go_ret
    rw[hE]
    exact⟨rfl,hbl⟩
   ·have hne:¬20=at_:=fun h=>h20 h.symm
    go_wp2
    go_ret
    exact⟨rfl,hbl⟩
  ·have hat0:1≤at_:=by
    have h1:=congrArg List.length HD.out
    have h2:=Qbj hm0
    have h3:=HL.out
    have h4:=HLL.out
    rw[List.length_append,List.length_drop]at h1
    omega
   obtain⟨k,rfl⟩:∃k,at_=k+1:=⟨at_-1,by omega⟩
   obtain⟨vo,hco,HVO⟩:=hr.get (i:=k) (by have:=HLL.out; omega)
   have hcf:=hr.frozen k
   have hk1:(k:Int)<20:=by omega
   have hk0:(0:Int)≤(k:Int):=by omega
   have hm1:(1:Int)≤(m:Int):=by omega
   have hw:IntKind.u64.wrap ((m:Int)/10)=((m/10:Nat):Int):=by
    have:=HM.out
    rw[wrap_u64 (by omega) (by unfold Qb at this; omega)]; omega
   have hv:48+(m:Int)%10=((m%10+48:Nat):Int):=by omega
   have HW:=bx hw
   have HV:=bx hv
   clear hw hv
   go_wp2_with fail
   rw[HW.out,HV.out]
   refine⟨⟨m/10,k,L.set k (m%10+48),rfl,rfl,by omega,bx (by rw[List.length_set]; exact HLL.out),hwL.set (by omega),hr.set k _,hbl.setCell (Nat.le_refl _) _,bx ?_,bx (Nat.lt_of_le_of_lt (Nat.div_le_self _ _) HM.out)⟩,by simp[intOf]; omega⟩
   rw[HD.out,Qcz hm0,Qds (by have:=HLL.out; omega),List.append_assoc]
   rfl
end Wx

namespace Wx
open Go Go.RowKit Go.Proofs

theorem baLoop (bs:ByteArray):∀(k i:Nat) (r:List UInt8),bs.size-i=k→ByteArray.toList.loop bs i r=r.reverse++bs.data.toList.drop i:=by
 intro k
 induction k with
 |zero=>
  intro i r h
  unfold ByteArray.toList.loop
  rw[if_neg (by omega),List.drop_eq_nil_of_le (by show bs.data.toList.length≤i; rw[Array.length_toList]; show bs.size≤i; omega),List.append_nil]
 |succ k ih=>
  intro i r h
  have hi:i<bs.data.toList.length:=by rw[Array.length_toList]; show i<bs.size; omega
  unfold ByteArray.toList.loop
  rw[if_pos (by omega),ih (i+1) _ (by omega),List.drop_eq_getElem_cons hi,List.reverse_cons,List.append_assoc]
  have hx:bs.get! i=bs.data.toList[i]:=by
   show bs.data[i]! = _
   rw[getElem!_pos bs.data i (by simpa using hi),Array.getElem_toList]
  rw[hx]; rfl
theorem baToList (bs:ByteArray):bs.toList=bs.data.toList:=by
 unfold ByteArray.toList
 rw[baLoop bs _ 0 [] rfl]; rfl
theorem Ji (l:List Nat):(Qu l).toList=l.map UInt8.ofNat:=by rw[baToList]; simp[Qu]
theorem Yc (l:List Nat):(Qu l).size=l.length:=by simp[Qu,ByteArray.size]
theorem V4 (l:List Nat) (a b:Nat):(Qu l).extract a b=Qu ((l.take b).drop a):=by
 apply ByteArray.ext
 rw[ByteArray.data_extract]
 simp[Qu,List.map_drop,List.map_take,List.drop_take]
theorem strOf_data {l:List Nat} (hw:Wf 256 l) {j:Nat} (hj:j<l.length):∃h:j<(Qu l).data.size,((Qu l).data[j]'h).toNat=l.getD j 0:=by
 refine⟨by simpa [Qu] using hj,?_⟩
 have h2:=hw.get hj
 rw[List.getD_eq_getElem?_getD,List.getElem?_eq_getElem hj,Option.getD_some]
 simp only[Qu,List.getElem_toArray,List.getElem_map]
 exact UInt8.toNat_ofNat_of_lt' h2
theorem str_bytes (w:World) {l:List Nat} (hw:Wf 256 l) (hl:l.length≤1000000000):∃c w',(convert 9 92 (.string (Qu l))).run Try.prog w=.ok (.slice (some ⟨w.heap.size,0,none⟩) l.length c) w'∧Rd w' .u8 (some ⟨w.heap.size,0,none⟩) c l∧Below w.heap.size w w':=by
 have hr:=run_bytes_of_string w 9 92 5 (Qu l) Try.underlying9 Try.underlying92 Try.underlying5
 have hsz:=Yc l
 have g1:=grownCap_ge w (Qu l).size 0 5
 have g2:=grownCap_le_maxLen w (Qu l).size 0 5 (by rw[hsz]; unfold maxLen; omega)
 generalize grownCap w (Qu l).size 0 5=c at *
 rw[hsz]at hr g1
 refine⟨c,_,hr,⟨g1,g2,fun _=>⟨_,_,rfl,fun i hi=>?_⟩⟩,(Below.refl _ _).drew.alloc (by simp) _⟩
 obtain⟨h,e⟩:=strOf_data hw hi
 have hc:=World.cell?_alloc_mark w.drew (bytesRow (Qu l) c) 5 ((bytesRow (Qu l) c).size,(bytesRow (Qu l) c).size+1) i
 rw[Nat.zero_add,← e]
 exact hc.trans (bytesRow_at _ _ _ h)
end Wx

namespace Wx
set_option maxRecDepth 100000
open Go Go.RowKit Go.Proofs

def isDig (x:Nat):Bool:=decide (48≤x)&&decide (x≤57)
def Jr (l:List Nat):Bool:=l.all isDig&&(decide (l=[48])||(decide (l≠[])&&decide (l.getD 0 0≠48)))

theorem Qeo {l:List Nat} {i x:Nat} (_h:∀j,j<i→isDig (l.getD j 0)=true) (hi:i<l.length) (hx:l.getD i 0=x) (hb:x<48∨57<x):Jr l=false:=by
 have:l.all isDig=false:=by
  rw[List.all_eq_false]
  refine⟨l[i],List.getElem_mem hi,?_⟩
  rw[List.getD_eq_getElem?_getD,List.getElem?_eq_getElem hi,Option.getD_some]at hx
  rw[hx]; unfold isDig; simp; omega
 unfold Jr
 rw[this]; rfl

theorem Qcc {l r:List Nat} (hl:Wf 256 l) (hr:Wf 256 r) (h:(Qu l).toList=(Qu r).toList):l=r:=by
 have e:∀{l:List Nat},Wf 256 l→((Qu l).data.toList.map UInt8.toNat)=l:=by
  intro l hl
  simp only[Qu,List.toList_toArray,List.map_map]
  conv=>rhs; rw[← List.map_id l]
  apply List.map_congr_left
  intro x hx
  exact UInt8.toNat_ofNat_of_lt' (hl x hx)
 have h2:(Qu l).data.toList=(Qu r).data.toList:=by rw[← baToList,← baToList]; exact h
 rw[← e hl,← e hr,h2]

set_option maxHeartbeats 1000000 in
theorem Qa4 (w:World) (l:List Nat) (hw:Wf 256 l) (hl:l.length≤1000000000):Calls Try.prog 55 #[.string (Qu l)] w (Zv w (.bool (Jr l))):=by
 obtain⟨c,w1,hcv,hrd,hb⟩:=str_bytes w hw hl
 go_enter Try.func55,Try.ntmps55
 go_wp2_with fail
 go_loop [8] (fun s8=>∃i:Nat,i≤l.length∧s8=.int .i64 (i:Int)∧Bx (∀j,j<i→isDig (l.getD j 0)=true)) (fun s8=>(l.length-(intOf s8).toNat))
 case atStart=>exact⟨0,Nat.zero_le _,rfl,bx (fun j hj=>absurd hj (by omega))⟩
 case round=>
  obtain⟨i,hi,rfl,HD⟩:=hrel
  rcases Nat.lt_or_ge i l.length with hlt|hge
  ·obtain⟨b,o,vx,hA,hcx,HVX⟩:=hrd.get (i:=i) hlt
   injection hA with hA
   injection hA with h1 h2 h3
   subst h1 h2
   clear h3
   have hi0:(0:Int)≤(i:Int):=by omega
   have hi1:(i:Int)<(l.length:Int):=by omega
   rw[Nat.zero_add]at hcx
   have hgd:l.getD i 0=vx:=by rw[List.getD_eq_getElem?_getD,HVX.out]; rfl
   have HGD:=bx hgd
   clear hgd
   by_cases h1:vx<48
   ·have h1':(vx:Int)<48:=by omega
    go_wp2
    go_ret
    exact⟨Qbu (Qeo HD.out hlt HGD.out (by omega)).symm,hb⟩
   ·have h1':¬((vx:Int)<48):=by omega
    by_cases h2:vx≤57
    ·have h2':(vx:Int)≤57:=by omega
     go_wp2
     refine⟨⟨i+1,by omega,by go_num,bx (fun j hj=>?_)⟩,by simp[intOf]; omega⟩
     rcases Nat.lt_or_ge j i with h|h
     ·exact HD.out j h
     ·obtain rfl:j=i:=by omega
      rw[HGD.out]; unfold isDig; simp; omega
    ·have h2':(57:Int)<(vx:Int):=by omega
     go_wp2
     go_ret
     exact⟨Qbu (Qeo HD.out hlt HGD.out (by omega)).symm,hb⟩
  ·obtain rfl:i=l.length:=by omega
   have hall:l.all isDig=true:=by
    rw[List.all_eq_true]
    intro x hx
    obtain⟨j,hj,rfl⟩:=List.getElem_of_mem hx
    have:=HD.out j hj
    rwa [List.getD_eq_getElem?_getD,List.getElem?_eq_getElem hj,Option.getD_some]at this
   have hval:Jr l=(decide (l=[48])||(decide (l≠[])&&decide (l.getD 0 0≠48))):=by unfold Jr; rw[hall]; rfl
   have HVL:=bx hval
   clear HD hval hall hge hi
   by_cases h0:l=[48]
   ·have ht:(Qu l).toList=[48]:=by rw[Ji,h0]; rfl
    have HR:=bx (show(decide (l=[48])||(decide (l≠[])&&decide (l.getD 0 0≠48)))=true by rw[decide_eq_true h0]; rfl)
    clear h0
    go_wp2
    go_ret
    exact⟨Qbu (by rw[HVL.out,HR.out]),hb⟩
   ·have ht:¬(Qu l).toList=[48]:=fun h=>h0 (Qcc hw (by intro x hx; simp at hx; omega) (by rw[h,Ji]; rfl))
    by_cases h1:l=[]
    ·have hn:(Qu l).toList=[]:=by rw[Ji,h1]; rfl
     have HR:=bx (show(decide (l=[48])||(decide (l≠[])&&decide (l.getD 0 0≠48)))=false by subst h1; rfl)
     clear h0 h1
     go_wp2
     go_ret
     exact⟨Qbu (by rw[HVL.out,HR.out]),hb⟩
    ·have hn:¬(Qu l).toList=[]:=fun h=>h1 (Qcc hw (Wf.nil _) (by rw[h,Ji]; rfl))
     have hs:0<(Qu l).size:=by rw[Yc]; exact List.length_pos_iff.2 h1
     obtain⟨x,hx⟩:∃x,(Qu l)[0].toNat=x:=⟨_,rfl⟩
     have hx':l.getD 0 0=x:=by
      obtain⟨_,e⟩:=strOf_data hw (List.length_pos_iff.2 h1)
      rw[← hx,← e]; rfl
     have HR:=bx (show(decide (l=[48])||(decide (l≠[])&&decide (l.getD 0 0≠48)))=((x:Int) != 48) by
      rw[decide_eq_false h0,decide_eq_true h1,hx']
      by_cases h:x=48
      ·subst h; rfl
      ·rw[decide_eq_true h]; simp; omega)
     clear h0 h1 hx'
     go_wp2
     go_ret
     refine⟨Qbu ?_,hb⟩
     rw[HVL.out,HR.out]
     rw[show((Qu l).toList==[48])=false from beq_eq_false_iff_ne.2 ht,show(Qu l).toList.isEmpty=false by simpa using hn]
     rfl
end Wx

namespace Wx
set_option maxRecDepth 100000
open Go Go.RowKit Go.Proofs

def Ye (l:List Nat):List Nat:=l.takeWhile (fun x=>decide (x≠47))
def J2 (l:List Nat):List Nat:=l.drop ((Ye l).length+1)
def Vy (l:List Nat):Int:=if 47∈l then((Ye l).length:Int)else -1
theorem Qcq {l:List Nat} (h:¬47∈l):Vy l = -1:=if_neg h
theorem befS_none {l:List Nat} (h:¬47∈l):Ye l=l:=by
 unfold Ye
 induction l with
 |nil=>rfl
 |cons x l ih=>
  have h1:x≠47:=by rintro rfl; exact h (by simp)
  rw[List.takeWhile_cons,ih (fun hm=>h (List.mem_cons_of_mem _ hm))]
  simp[h1]
theorem aftS_none {l:List Nat} (h:¬47∈l):J2 l=[]:=by
 unfold J2
 rw[befS_none h]
 exact List.drop_eq_nil_of_le (by omega)
theorem befS_lt {l:List Nat} (h:47∈l):(Ye l).length<l.length:=by
 unfold Ye
 induction l with
 |nil=>simp at h
 |cons x l ih=>
  rw[List.takeWhile_cons]
  by_cases hx:x=47
  ·subst hx; simp
  ·have:47∈l:=by simpa [Ne.symm hx] using h
   have:=ih this
   simp[hx]; simpa using this
theorem befS_take (l:List Nat):l.take (Ye l).length=Ye l:=by
 have:Ye l <+: l:=List.takeWhile_prefix _
 exact(List.prefix_iff_eq_take.1 this).symm
theorem u8ofNat_eq {a b:Nat} (ha:a<256) (hb:b<256):(UInt8.ofNat a=UInt8.ofNat b)↔a=b:=by
 constructor
 ·intro h
  have:=congrArg UInt8.toNat h
  rwa [UInt8.toNat_ofNat_of_lt' ha,UInt8.toNat_ofNat_of_lt' hb]at this
 ·rintro rfl; rfl
theorem slash_idx {l:List Nat} (hw:Wf 256 l):Lib.indexByte (l.map UInt8.ofNat) 47=Vy l:=by
 induction l with
 |nil=>rfl
 |cons x l ih=>
  have hx:=hw x (by simp)
  have ih:=ih (fun y hy=>hw y (List.mem_cons_of_mem _ hy))
  rw[List.map_cons]
  unfold Lib.indexByte
  by_cases h:x=47
  ·subst h
   rw[if_pos (by decide)]
   simp[Vy,Ye]
  ·have h1:(UInt8.ofNat x==(47:UInt8))=false:=by
    rw[beq_eq_false_iff_ne]
    intro e
    exact h ((u8ofNat_eq hx (by omega:47<256)).1 e)
   rw[h1,ih]
   by_cases hm:47∈l
   ·have e1:Vy l=((Ye l).length:Int):=if_pos hm
    have e2:Vy (x::l)=((Ye (x::l)).length:Int):=if_pos (List.mem_cons_of_mem _ hm)
    have e3:Ye (x::l)=x::Ye l:=by unfold Ye; rw[List.takeWhile_cons]; simp[h]
    rw[e1,e2,e3,List.length_cons]
    have:((((Ye l).length:Int)) == -1)=false:=beq_eq_false_iff_ne.2 (by omega)
    rw[this]
    simp
   ·have e1:=Qcq hm
    have e2:Vy (x::l) = -1:=Qcq (by simp[hm,Ne.symm h])
    rw[e1,e2]; rfl
theorem slashI_some {l:List Nat} (h:47∈l):Vy l=((Ye l).length:Int):=if_pos h

theorem Qet (w:World) (l:List Nat) (hw:Wf 256 l):Calls Try.prog 85 #[.string (Qu l),.string ⟨#[47]⟩] w fun e w'=>e=.returned (.int .i64 (Vy l))∧w=w':=by
 have hc:=fun w=>Try.stringslite_IndexByte (Qu l) 47 w
 have hs:Lib.indexByte (Qu l).data.toList (47:Int).toNat.toUInt8=Vy l:=slash_idx hw
 rw[hs]at hc
 have HC:=bx hc
 clear hc hs
 by_cases h0:l=[47]
 ·have hb:([47]==(Qu l).toList)=true:=by rw[Ji,h0]; rfl
  have HE:=bx (show Vy l=0 by rw[h0]; rfl)
  clear h0
  go_enter Try.func85,Try.ntmps85
  go_wp2
  go_ret
  exact⟨Qae HE.out.symm,rfl⟩
 ·have hb:([47]==(Qu l).toList)=false:=beq_eq_false_iff_ne.2 (fun h=>h0 (Qcc hw (by intro x hx; simp at hx; omega) (by rw[← h,Ji]; rfl)))
  clear h0
  go_enter Try.func85,Try.ntmps85
  go_wp2_with (go_at_call 94; refine(HC.out _).mono ?_; rintro e w' ⟨rfl,rfl⟩)
  go_ret
  exact⟨rfl,rfl⟩

theorem strOf_nil:Qu []=⟨#[]⟩:=rfl

theorem lcut_slash (w:World) (l:List Nat) (hw:Wf 256 l) (hl:l.length≤1000000000):Calls Try.prog 73 #[.string (Qu l),.string ⟨#[47]⟩] w (Zv w (.tuple #[.string (Qu (Ye l)),.string (Qu (J2 l)),.bool (decide (47∈l))])):=by
 by_cases h:47∈l
 ·have hi:=Qet w l hw
  rw[slashI_some h]at hi
  have h1:=befS_lt h
  have h2:=Yc l
  have e1:(Qu l).extract 0 (Ye l).length=Qu (Ye l):=by
   rw[V4,List.drop_zero,befS_take]
  have e2:(Qu l).extract ((Ye l).length+1) (Qu l).size=Qu (J2 l):=by
   rw[V4,h2,List.take_length]; rfl
  have HD:=bx (decide_eq_true h)
  have HI:=bx hi
  clear hi h
  have E1:=bx e1
  have E2:=bx e2
  clear e1 e2
  have hq1:((Ye l).length:Int)+1≤((Qu l).size:Int):=by omega
  have hq2:((Ye l).length:Int)≤((Qu l).size:Int):=by omega
  have hq3:IntKind.i64.wrap (((Ye l).length:Int)+1)=((Ye l).length:Int)+1:=IntWalk.i64_in _ (by omega)
  have hq4:(((Ye l).length:Int)+1).toNat=(Ye l).length+1:=by omega
  clear h2
  go_enter Try.func73,Try.ntmps73
  go_wp2_with (go_at_call 85; refine(HI.out).mono ?_; rintro e w' ⟨rfl,rfl⟩)
  go_quiet (fail)
  go_wp2
  go_ret3
  rw[E1.out,E2.out,HD.out]
  exact⟨rfl,below_drewN (Below.refl _ _) _⟩
 ·have hi:=Qet w l hw
  rw[Qcq h]at hi
  rw[befS_none h,aftS_none h,strOf_nil]
  have HD:=bx (decide_eq_false h)
  have HI:=bx hi
  clear hi h
  go_enter Try.func73,Try.ntmps73
  go_wp2_with (go_at_call 85; refine(HI.out).mono ?_; rintro e w' ⟨rfl,rfl⟩)
  go_ret3
  rw[HD.out]
  exact⟨rfl,Below.refl _ _⟩

theorem cut_slash (w:World) (l:List Nat) (hw:Wf 256 l) (hl:l.length≤1000000000):Calls Try.prog 54 #[.string (Qu l),.string ⟨#[47]⟩] w (Zv w (.tuple #[.string (Qu (Ye l)),.string (Qu (J2 l)),.bool (decide (47∈l))])):=by
 have hc:=lcut_slash w l hw hl
 go_enter Try.func54,Try.ntmps54
 go_wp2_with (go_at_call 73; refine hc.mono ?_; rintro e w1 ⟨rfl,hb⟩)
 go_ret3
 exact⟨rfl,hb⟩

def Ua (l:List Nat):Bool:=decide (l.head?=some 45)
def Xk (l:List Nat):List Nat:=if l.head?=some 45 then l.tail else l
theorem Qd7 {l:List Nat} (hw:Wf 256 l):Lib.hasPrefix (l.map UInt8.ofNat) [45]=Ua l:=by
 cases l with
 |nil=>rfl
 |cons x l=>
  have hx:=hw x (by simp)
  unfold Lib.hasPrefix Ua
  rw[List.map_cons,List.head?_cons]
  by_cases h:x=45
  ·subst h; rfl
  ·have:((45:UInt8)==UInt8.ofNat x)=false:=by
    rw[beq_eq_false_iff_ne]
    intro e
    exact h ((u8ofNat_eq hx (by omega:45<256)).1 e.symm)
   simp[List.isPrefixOf,this,h]
theorem minus_trim {l:List Nat} (hw:Wf 256 l):(⟨(Lib.trimPrefix (l.map UInt8.ofNat) [45]).toArray⟩:ByteArray)=Qu (Xk l):=by
 unfold Lib.trimPrefix
 rw[Qd7 hw]
 unfold Xk Ua
 by_cases h:l.head?=some 45
 ·rw[if_pos h,decide_eq_true h,if_pos rfl]
  cases l with
  |nil=>simp at h
  |cons x l=>rfl
 ·rw[if_neg h,decide_eq_false h]
  simp[Qu]
theorem Qb1 (w:World) (l:List Nat) (hw:Wf 256 l):Calls Try.prog 53 #[.string (Qu l),.string ⟨#[45]⟩] w fun e w'=>e=.returned (.tuple #[.string (Qu (Xk l)),.bool (Ua l)])∧w=w':=by
 refine(Try.strings_CutPrefix (Qu l) ⟨#[45]⟩ w).mono ?_
 rintro e w' ⟨rfl,rfl⟩
 refine⟨?_,rfl⟩
 have h1:(Qu l).data.toList=l.map UInt8.ofNat:=by simp[Qu]
 rw[h1]
 have h2:(⟨#[45]⟩:ByteArray).data.toList=[45]:=rfl
 rw[h2,minus_trim hw,Qd7 hw]
end Wx

namespace Wx
set_option maxRecDepth 100000
open Go Go.RowKit Go.Proofs

theorem szBuilder:(Try.prog.info? 100).map (·.size)=some 2:=by kernel_rfl
theorem liesBuilder:liesAt Try.prog Try.prog.depth 100 (2/Try.prog.cellsOf 100) 0 100 1=true:=by kernel_rfl
theorem infoByte:(Try.prog.info? 5).map (fun i=>(i.zero,i.size,i.bytes))=some (some (.int .u8 0),1,1):=by kernel_rfl

set_option maxHeartbeats 1000000 in
theorem copyCheck_used (b:Nat) (w:World) (h0:w.cell? ⟨b,0,none⟩=some (.pointer (some ⟨b,0,none⟩))):
  Calls Try.prog 91 #[.pointer (some ⟨b,0,none⟩)] w fun e w'=>e=.returned (.tuple #[])∧w'=w:=by
 obtain⟨j,hj,_⟩:=Option.map_eq_some_iff.1 szBuilder
 go_enter Try.func91,Try.ntmps91
 go_wp2
 rw[Lib.run_neq_ptr_same w _ Try.underlying98 hj]
 go_wp2
 go_end0
 exact⟨rfl,rfl⟩

set_option maxHeartbeats 1000000 in
theorem Qe8 (b:Nat) (w:World) (h0:w.cell? ⟨b,0,none⟩=some (.pointer none)) (hsh:w.shape? b=some (100,2)) (hfz:w.frozen? ⟨b,0,none⟩=false):
  Calls Try.prog 91 #[.pointer (some ⟨b,0,none⟩)] w fun e w'=>e=.returned (.tuple #[])∧w'=w.setCell ⟨b,0,none⟩ (.pointer (some ⟨b,0,none⟩)):=by
 obtain⟨j,hj,hjs⟩:=Option.map_eq_some_iff.1 szBuilder
 go_enter Try.func91,Try.ntmps91
 go_wp2
 rw[Lib.run_to_unsafe w ⟨b,0,none⟩ Try.underlying98 Try.underlying122 hj (by rw[hjs]; decide) hsh (Nat.zero_lt_succ 1)]
 simp only[Result.andThen]
 rw[Oper.upon_value]
 go_wp2
 rw[run_callFunc_extern Try.func100 (by kernel_rfl) (by kernel_rfl) (by kernel_rfl) (e:=Extern.AbiNoEscape.same) (by kernel_rfl)]
 rw[Lib.run_noEscape]
 simp only[Result.andThen]
 rw[Oper.upon_value]
 go_wp2
 rw[Lib.run_from_unsafe w ⟨b,0,none⟩ Try.underlying122 Try.underlying98 hj hsh liesBuilder]
 simp only[Result.andThen]
 rw[Oper.upon_value]
 go_wp2
 go_end0
 exact⟨rfl,rfl⟩

theorem copyCheck_any (B b:Nat) (bs:List Value) (w:World) (h:Lib.IsBuilder 100 5 B b bs w):
  Calls Try.prog 91 #[.pointer (some ⟨b,0,none⟩)] w fun e w'=>e=.returned (.tuple #[])∧(Lib.BuilderAt 100 5 B b (.pointer (some ⟨b,0,none⟩)) bs w'∧Below B w w'):=by
 rcases h with h|h
 ·refine(Qe8 b w h.cell0 h.shape h.frozen0).mono ?_
  rintro e w' ⟨rfl,rfl⟩
  exact⟨rfl,h.used _,(Below.refl B w).setCell (p:=⟨b,0,none⟩) h.1 _⟩
 ·refine(copyCheck_used b w h.cell0).mono ?_
  rintro e w' ⟨rfl,rfl⟩
  exact⟨rfl,h,Below.refl B _⟩

set_option maxHeartbeats 2000000 in
theorem Qe9 (B b:Nat) (bs:List Value) (s:ByteArray) (w:World) (h:Lib.IsBuilder 100 5 B b bs w) (hlen:bs.length+s.size≤140737488355328) (hBw:B≤w.heap.size):
  Calls Try.prog 77 #[.pointer (some ⟨b,0,none⟩),.string s] w fun e w'=>e=.returned (.tuple #[.int .i64 s.size,.nilIface])∧(Lib.BuilderAt 100 5 B b (.pointer (some ⟨b,0,none⟩)) (bs++Lib.strCells s) w'∧Below B w w'):=by
 obtain⟨i0,hi,hz0,hz1,hz2⟩:=info_parts infoByte
 go_enter Try.func77,Try.ntmps77
 go_wp2_with (go_at_call 91; refine(copyCheck_any B b bs _ h).mono ?_)
 rintro e w1 ⟨rfl,h1,hb1⟩
 obtain⟨hB,v,hbk,hown,hne⟩:=h1
 have c0:w1.cell? ⟨b,0,none⟩=some (.pointer (some ⟨b,0,none⟩)):=by rw[Lib.cell_of_heap hbk]; rfl
 have c1:w1.cell? ⟨b,1,none⟩=some v:=by rw[Lib.cell_of_heap hbk]; rfl
 go_wp2_with (at_builtin; refine Lib.wpList_append_own_string _ rfl _ _ 92 9 rfl B 5 i0 Try.underlying92 Try.underlying9 hi hz0 hz1 hz2 _ _ _ rfl hown s rfl ?c3 ?c4 ?c5 ?_)
 case c3=>unfold maxLen; omega
 case c4=>omega
 case c5=>have:=hb1.size; omega
 intro v' w2 hown' hgrow _
 have hlt:b<w1.heap.size:=by
  rcases Nat.lt_or_ge b w1.heap.size with h'|h'
  ·exact h'
  ·simp[Array.getElem?_eq_none h']at hbk
 have hb2:w2.heap[b]?=some (.cells #[.pointer (some ⟨b,0,none⟩),v] 100 (0,0)):=by
  rw[hgrow.block b hlt (fun e=>hne e.symm)]
  exact hbk
 have d0:w2.cell? ⟨b,0,none⟩=some (.pointer (some ⟨b,0,none⟩)):=by rw[Lib.cell_of_heap hb2]; rfl
 have d1:w2.cell? ⟨b,1,none⟩=some v:=by rw[Lib.cell_of_heap hb2]; rfl
 have f1:w2.frozen? ⟨b,1,none⟩=false:=Lib.frozen_of_heap hb2 1
 obtain⟨ao,n',cap,rfl⟩:∃ao n' cap,v'=.slice ao n' cap:=by
  rcases hown'.2 with⟨hv,_⟩|⟨g,cap,cur,hv,_⟩
  ·exact⟨_,_,_,hv⟩
  ·exact⟨_,_,_,hv⟩
 go_wp2
 go_ret2
 refine⟨rfl,?_,?_⟩
 ·exact Lib.BuilderAt.put (T:=100) (e:=5) hB hb2 (bs':=bs++Lib.strCells s) (by simpa [Lib.strCells_length] using hown') (by decide)
 ·exact(hb1.grown hgrow (by have:=hb1.size; omega) (fun k hk=>(hown.lt k hk).1)).setCell (p:=⟨b,1,none⟩) hB _
end Wx
