import Derived.Test.YtpiniclogfefjaaGreatJMatrices25
import Derived.Laws.IdiomStrings
import Derived.Maps.AppendAt
import Derived.Lib.IndexLaws
import Derived.Lib.Strings
import Derived.WalkSpells
import Derived.Lib.Slices
import Derived.Lib.Walk
import Derived.Lib.Builder
import Derived.Lib.AppendStr
import Derived.Lib.UnsafeStr
import Derived.Lib.MakeNoZero
import Derived.Laws.IdiomCopy
import Derived.Lib.Repeat
namespace Wx
open Go Go.RowKit Go.Proofs

theorem getD_mem {α:Type} {l:List α} {i:Nat} {d:α} (h:i<l.length):l.getD i d∈l:=by
  rw[List.getD_eq_getElem?_getD,List.getElem?_eq_getElem h]
  exact List.getElem_mem h
theorem fd_ok {p:FD} (h1:(Lit.int .i64 p.1).wf=true) (h2:(Lit.int .i64 p.2.1).wf=true):FdOk p:=⟨(wf_i64 h1).1,(wf_i64 h1).2,(wf_i64 h2).2⟩
end Wx

namespace Wx
set_option maxRecDepth 100000
open Go Go.RowKit Go.Proofs

def X6 (n:Nat):List Nat:=((digs 10 n).map (·+48)).reverse
theorem Uz:X6 0=[]:=rfl
theorem Qcz {n:Nat} (h:0<n):X6 n=X6 (n/10)++[n%10+48]:=by
  unfold X6
  rw[Vd (by omega) h]
  simp
theorem Qdv {n k:Nat} (h:n<10^k):(X6 n).length≤k:=by
  unfold X6
  rw[List.length_reverse,List.length_map]
  exact Ud (by omega) h
theorem Qco {n:Nat} (h:0<n):0<(X6 n).length:=by
  rw[Qcz h]; simp

def Qs (l:List Nat):ByteArray:=⟨(l.map UInt8.ofNat).toArray⟩
theorem str_back {w:World} {g o c:Nat} {l:List Nat} (hw:Wf 256 l) (h:∀j,j<l.length→w.cell? ⟨g,o+j,none⟩=some (.int .u8 (l.getD j 0:Nat))) (n:Nat) (hn:n=l.length):
    (convert 133 9 (.slice (some ⟨g,o,none⟩) n c)).run Tryz.prog w=.ok (.string (Qs l)) w:=by
  subst hn
  have hl:l.length=(l.map UInt8.ofNat).length:=by simp
  rw[hl]
  refine run_convert_bytes_back w 133 9 5 ⟨g,o,none⟩ c (l.map UInt8.ofNat) Tryz.underlying133 Tryz.underlying5 Tryz.underlying9 (fun j hj=>?_)
  rw[← hl]at hj
  have h1:=h j hj
  have h2:=hw.get hj
  rw[List.getD_eq_getElem?_getD,List.getElem?_eq_getElem hj,Option.getD_some]at h1
  rw[show(⟨g,o,none⟩:Addr).add j=⟨g,o+j,none⟩ by simp[Addr.add],h1,List.getElem_map,UInt8.toNat_ofNat_of_lt' h2]

set_option maxHeartbeats 1000000 in
theorem decimal_num (w:World) (n:Nat) (hn:n<Qb):Calls Tryz.prog 110 #[.int .u64 (n:Int)] w (Zz w (.string (Qs (X6 n)))):=by
  have HL:=bx (Qdv (n:=n) (k:=20) (Nat.lt_of_lt_of_le hn (by unfold Qb; decide)))
  have HN:=bx hn
  clear hn
  go_enter Tryz.func110,Tryz.ntmps110
  go_wp2_with fail
  have hrow:=Row.new w .u8 161 (List.replicate 20 0)
  have hb0:Below w.heap.size w (w.alloc (.cells (Ji .u8 (List.replicate 20 0)).toArray 161)):=Below.alloc (Below.refl _ _) (Nat.le_refl _) _
  change (Code.wp _ _ _ _ (w.alloc (.cells (Ji .u8 (List.replicate 20 0)).toArray 161)))
  generalize w.alloc (.cells (Ji .u8 (List.replicate 20 0)).toArray 161)=w1 at *
  go_loopw [0,4] (fun s0 s4 wr=>∃(m at_:Nat) (L:List Nat),s0=.int .u64 (m:Int)∧s4=.int .i64 (at_:Int)∧at_≤20∧Bx (L.length=20)∧Wf 256 L∧Row wr .u8 161 w.heap.size L∧Below w.heap.size w wr∧Bx (X6 n=X6 m++L.drop at_)∧Bx (m<Qb)) (fun s0 _ _=>(intOf s0).toNat)
  case atStart=>exact⟨n,20,List.replicate 20 0,rfl,rfl,Nat.le_refl _,bx (by simp),Wf.replicate (by omega) _,hrow,hb0,bx (by simp),HN⟩
  case round=>
    clear hrow hb0
    obtain⟨m,at_,L,rfl,rfl,hat,HLL,hwL,hr,hbl,HD,HM⟩:=hrel
    rcases Nat.eq_zero_or_pos m with rfl|hm0
    · have hai:(at_:Int)≤20:=by omega
      have hai0:(0:Int)≤(at_:Int):=by omega
      have hu:=Tryz.underlying161
      have hdn:X6 n=L.drop at_:=HD.out
      have hwd:Wf 256 (X6 n):=by rw[hdn]; exact hwL.drop _
      have hln:20-at_=(X6 n).length:=by rw[hdn,List.length_drop,HLL.out]
      have hcs:∀j,j<(X6 n).length→wr.cell? ⟨w.heap.size,at_+j,none⟩=some (.int .u8 ((X6 n).getD j 0:Nat)):=fun j hj=>by
        rw[hr.cell (i:=at_+j) (by rw[HLL.out]; omega),hdn]
        simp[List.getD_eq_getElem?_getD]
      have hcv:=str_back (c:=20-at_) hwd hcs _ hln
      have HLN:=bx hln
      clear hdn hwd hcs hln HD
      by_cases h20:at_=20
      · subst h20
        have hcv0:=str_back (w:=wr) (g:=w.heap.size) (o:=0) (c:=0) (Wf.nil 256) (fun j hj=>absurd hj (by simp)) 0 rfl
        have hE:X6 n=[]:=List.eq_nil_of_length_eq_zero (by have:=HLN.out; omega)
        clear hcv
        go_wp2
        go_ret
        rw[hE]
        exact⟨rfl,hbl⟩
      · have hne:¬20=at_:=fun h=>h20 h.symm
        go_wp2
        go_ret
        exact⟨rfl,hbl⟩
    · have hat0:1≤at_:=by
        have h1:=congrArg List.length HD.out
        have h2:=Qco hm0
        have h3:=HL.out
        have h4:=HLL.out
        rw[List.length_append,List.length_drop]at h1
        omega
      obtain⟨k,rfl⟩:∃k,at_=k+1:=⟨at_-1,by omega⟩
      obtain⟨vo,hco,HVO⟩:=hr.get (i:=k) (by have:=HLL.out; omega)
      have hcf:=hr.frozen k
      have hk1:(k:Int)<20:=by omega
      have hk0:(0:Int)≤(k:Int):=by omega
      have hm1:(1:Int)≤(m:Int):=by omega
      have hw:IntKind.u64.wrap ((m:Int)/10)=((m/10:Nat):Int):=by
        have:=HM.out
        rw[wrap_u64 (by omega) (by unfold Qb at this; omega)]; omega
      have hv:48+(m:Int)%10=((m%10+48:Nat):Int):=by omega
      have HW:=bx hw
      have HV:=bx hv
      clear hw hv
      go_wp2_with fail
      rw[HW.out,HV.out]
      refine⟨⟨m/10,k,L.set k (m%10+48),rfl,rfl,by omega,bx (by rw[List.length_set]; exact HLL.out),hwL.set (by omega),hr.set k _,hbl.setCell (Nat.le_refl _) _,bx ?_,bx (Nat.lt_of_le_of_lt (Nat.div_le_self _ _) HM.out)⟩,by simp[intOf]; omega⟩
      rw[HD.out,Qcz hm0,Qbl (by have:=HLL.out; omega),List.append_assoc]
      rfl
end Wx

namespace Wx
open Go Go.RowKit Go.Proofs

theorem baLoop (bs:ByteArray):∀(k i:Nat) (r:List UInt8),bs.size-i=k→ByteArray.toList.loop bs i r=r.reverse++bs.data.toList.drop i:=by
  intro k
  induction k with
  |zero=>
    intro i r h
    unfold ByteArray.toList.loop
    rw[if_neg (by omega),List.drop_eq_nil_of_le (by show bs.data.toList.length≤i; rw[Array.length_toList]; show bs.size≤i; omega),List.append_nil]
  |succ k ih=>
    intro i r h
    have hi:i<bs.data.toList.length:=by rw[Array.length_toList]; show i<bs.size; omega
    unfold ByteArray.toList.loop
    rw[if_pos (by omega),ih (i+1) _ (by omega),List.drop_eq_getElem_cons hi,List.reverse_cons,List.append_assoc]
    have hx:bs.get! i=bs.data.toList[i]:=by
      show bs.data[i]! = _
      rw[getElem!_pos bs.data i (by simpa using hi),Array.getElem_toList]
    rw[hx]; rfl
theorem baToList (bs:ByteArray):bs.toList=bs.data.toList:=by
  unfold ByteArray.toList
  rw[baLoop bs _ 0 [] rfl]; rfl
theorem Jy (l:List Nat):(Qs l).toList=l.map UInt8.ofNat:=by rw[baToList]; simp[Qs]
theorem Xm (l:List Nat):(Qs l).size=l.length:=by simp[Qs,ByteArray.size]
theorem Us (l:List Nat) (a b:Nat):(Qs l).extract a b=Qs ((l.take b).drop a):=by
  apply ByteArray.ext
  rw[ByteArray.data_extract]
  simp[Qs,List.map_drop,List.map_take,List.drop_take]
theorem strOf_data {l:List Nat} (hw:Wf 256 l) {j:Nat} (hj:j<l.length):∃h:j<(Qs l).data.size,((Qs l).data[j]'h).toNat=l.getD j 0:=by
  refine⟨by simpa [Qs] using hj,?_⟩
  have h2:=hw.get hj
  rw[List.getD_eq_getElem?_getD,List.getElem?_eq_getElem hj,Option.getD_some]
  simp only[Qs,List.getElem_toArray,List.getElem_map]
  exact UInt8.toNat_ofNat_of_lt' h2
theorem str_bytes (w:World) {l:List Nat} (hw:Wf 256 l) (hl:l.length≤1000000000):∃c w',(convert 9 133 (.string (Qs l))).run Tryz.prog w=.ok (.slice (some ⟨w.heap.size,0,none⟩) l.length c) w'∧Rd w' .u8 (some ⟨w.heap.size,0,none⟩) c l∧Below w.heap.size w w':=by
  have hr:=run_bytes_of_string w 9 133 5 (Qs l) Tryz.underlying9 Tryz.underlying133 Tryz.underlying5
  have hsz:=Xm l
  have g1:=grownCap_ge w (Qs l).size 0 5
  have g2:=grownCap_le_maxLen w (Qs l).size 0 5 (by rw[hsz]; unfold maxLen; omega)
  generalize grownCap w (Qs l).size 0 5=c at *
  rw[hsz]at hr g1
  refine⟨c,_,hr,⟨g1,g2,fun _=>⟨_,_,rfl,fun i hi=>?_⟩⟩,(Below.refl _ _).drew.alloc (by simp) _⟩
  obtain⟨h,e⟩:=strOf_data hw hi
  have hc:=World.cell?_alloc_mark w.drew (bytesRow (Qs l) c) 5 ((bytesRow (Qs l) c).size,(bytesRow (Qs l) c).size+1) i
  rw[Nat.zero_add,← e]
  exact hc.trans (bytesRow_at _ _ _ h)
end Wx

namespace Wx
set_option maxRecDepth 100000
open Go Go.RowKit Go.Proofs

def isDig (x:Nat):Bool:=decide (48≤x)&&decide (x≤57)
def J6 (l:List Nat):Bool:=l.all isDig&&(decide (l=[48])||(decide (l≠[])&&decide (l.getD 0 0≠48)))

theorem Qff {l:List Nat} {i x:Nat} (_h:∀j,j<i→isDig (l.getD j 0)=true) (hi:i<l.length) (hx:l.getD i 0=x) (hb:x<48∨57<x):J6 l=false:=by
  have:l.all isDig=false:=by
    rw[List.all_eq_false]
    refine⟨l[i],List.getElem_mem hi,?_⟩
    rw[List.getD_eq_getElem?_getD,List.getElem?_eq_getElem hi,Option.getD_some]at hx
    rw[hx]; unfold isDig; simp; omega
  unfold J6
  rw[this]; rfl

theorem Qdb {l r:List Nat} (hl:Wf 256 l) (hr:Wf 256 r) (h:(Qs l).toList=(Qs r).toList):l=r:=by
  have e:∀{l:List Nat},Wf 256 l→((Qs l).data.toList.map UInt8.toNat)=l:=by
    intro l hl
    simp only[Qs,List.toList_toArray,List.map_map]
    conv=>rhs; rw[← List.map_id l]
    apply List.map_congr_left
    intro x hx
    exact UInt8.toNat_ofNat_of_lt' (hl x hx)
  have h2:(Qs l).data.toList=(Qs r).data.toList:=by rw[← baToList,← baToList]; exact h
  rw[← e hl,← e hr,h2]

set_option maxHeartbeats 1000000 in
theorem Qbs (w:World) (l:List Nat) (hw:Wf 256 l) (hl:l.length≤1000000000):Calls Tryz.prog 74 #[.string (Qs l)] w (Zz w (.bool (J6 l))):=by
  obtain⟨c,w1,hcv,hrd,hb⟩:=str_bytes w hw hl
  go_enter Tryz.func74,Tryz.ntmps74
  go_wp2_with fail
  go_loop [8] (fun s8=>∃i:Nat,i≤l.length∧s8=.int .i64 (i:Int)∧Bx (∀j,j<i→isDig (l.getD j 0)=true)) (fun s8=>(l.length-(intOf s8).toNat))
  case atStart=>exact⟨0,Nat.zero_le _,rfl,bx (fun j hj=>absurd hj (by omega))⟩
  case round=>
    obtain⟨i,hi,rfl,HD⟩:=hrel
    rcases Nat.lt_or_ge i l.length with hlt|hge
    · obtain⟨b,o,vx,hA,hcx,HVX⟩:=hrd.get (i:=i) hlt
      injection hA with hA
      injection hA with h1 h2 h3
      subst h1 h2
      clear h3
      have hi0:(0:Int)≤(i:Int):=by omega
      have hi1:(i:Int)<(l.length:Int):=by omega
      rw[Nat.zero_add]at hcx
      have hgd:l.getD i 0=vx:=by rw[List.getD_eq_getElem?_getD,HVX.out]; rfl
      have HGD:=bx hgd
      clear hgd
      by_cases h1:vx<48
      · have h1':(vx:Int)<48:=by omega
        go_wp2
        go_ret
        exact⟨Qcf (Qff HD.out hlt HGD.out (by omega)).symm,hb⟩
      · have h1':¬((vx:Int)<48):=by omega
        by_cases h2:vx≤57
        · have h2':(vx:Int)≤57:=by omega
          go_wp2
          refine⟨⟨i+1,by omega,by go_num,bx (fun j hj=>?_)⟩,by simp[intOf]; omega⟩
          rcases Nat.lt_or_ge j i with h|h
          · exact HD.out j h
          · obtain rfl:j=i:=by omega
            rw[HGD.out]; unfold isDig; simp; omega
        · have h2':(57:Int)<(vx:Int):=by omega
          go_wp2
          go_ret
          exact⟨Qcf (Qff HD.out hlt HGD.out (by omega)).symm,hb⟩
    · obtain rfl:i=l.length:=by omega
      have hall:l.all isDig=true:=by
        rw[List.all_eq_true]
        intro x hx
        obtain⟨j,hj,rfl⟩:=List.getElem_of_mem hx
        have:=HD.out j hj
        rwa [List.getD_eq_getElem?_getD,List.getElem?_eq_getElem hj,Option.getD_some]at this
      have hval:J6 l=(decide (l=[48])||(decide (l≠[])&&decide (l.getD 0 0≠48))):=by unfold J6; rw[hall]; rfl
      have HVL:=bx hval
      clear HD hval hall hge hi
      by_cases h0:l=[48]
      · have ht:(Qs l).toList=[48]:=by rw[Jy,h0]; rfl
        have HR:=bx (show(decide (l=[48])||(decide (l≠[])&&decide (l.getD 0 0≠48)))=true by rw[decide_eq_true h0]; rfl)
        clear h0
        go_wp2
        go_ret
        exact⟨Qcf (by rw[HVL.out,HR.out]),hb⟩
      · have ht:¬(Qs l).toList=[48]:=fun h=>h0 (Qdb hw (by intro x hx; simp at hx; omega) (by rw[h,Jy]; rfl))
        by_cases h1:l=[]
        · have hn:(Qs l).toList=[]:=by rw[Jy,h1]; rfl
          have HR:=bx (show(decide (l=[48])||(decide (l≠[])&&decide (l.getD 0 0≠48)))=false by subst h1; rfl)
          clear h0 h1
          go_wp2
          go_ret
          exact⟨Qcf (by rw[HVL.out,HR.out]),hb⟩
        · have hn:¬(Qs l).toList=[]:=fun h=>h1 (Qdb hw (Wf.nil _) (by rw[h,Jy]; rfl))
          have hs:0<(Qs l).size:=by rw[Xm]; exact List.length_pos_iff.2 h1
          obtain⟨x,hx⟩:∃x,(Qs l)[0].toNat=x:=⟨_,rfl⟩
          have hx':l.getD 0 0=x:=by
            obtain⟨_,e⟩:=strOf_data hw (List.length_pos_iff.2 h1)
            rw[← hx,← e]; rfl
          have HR:=bx (show(decide (l=[48])||(decide (l≠[])&&decide (l.getD 0 0≠48)))=((x:Int) != 48) by
            rw[decide_eq_false h0,decide_eq_true h1,hx']
            by_cases h:x=48
            · subst h; rfl
            · rw[decide_eq_true h]; simp; omega)
          clear h0 h1 hx'
          go_wp2
          go_ret
          refine⟨Qcf ?_,hb⟩
          rw[HVL.out,HR.out]
          rw[show((Qs l).toList==[48])=false from beq_eq_false_iff_ne.2 ht,show(Qs l).toList.isEmpty=false by simpa using hn]
          rfl
end Wx

namespace Wx
set_option maxRecDepth 100000
open Go Go.RowKit Go.Proofs

def Y6 (l:List Nat):List Nat:=l.takeWhile (fun x=>decide (x≠47))
def Kk (l:List Nat):List Nat:=l.drop ((Y6 l).length+1)
def Uq (l:List Nat):Int:=if 47∈l then((Y6 l).length:Int)else -1
theorem Qdn {l:List Nat} (h:¬47∈l):Uq l = -1:=if_neg h
theorem befS_none {l:List Nat} (h:¬47∈l):Y6 l=l:=by
  unfold Y6
  induction l with
  |nil=>rfl
  |cons x l ih=>
    have h1:x≠47:=by rintro rfl; exact h (by simp)
    rw[List.takeWhile_cons,ih (fun hm=>h (List.mem_cons_of_mem _ hm))]
    simp[h1]
theorem aftS_none {l:List Nat} (h:¬47∈l):Kk l=[]:=by
  unfold Kk
  rw[befS_none h]
  exact List.drop_eq_nil_of_le (by omega)
theorem befS_lt {l:List Nat} (h:47∈l):(Y6 l).length<l.length:=by
  unfold Y6
  induction l with
  |nil=>simp at h
  |cons x l ih=>
    rw[List.takeWhile_cons]
    by_cases hx:x=47
    · subst hx; simp
    · have:47∈l:=by simpa [Ne.symm hx] using h
      have:=ih this
      simp[hx]; simpa using this
theorem befS_take (l:List Nat):l.take (Y6 l).length=Y6 l:=by
  have:Y6 l <+: l:=List.takeWhile_prefix _
  exact(List.prefix_iff_eq_take.1 this).symm
theorem u8ofNat_eq {a b:Nat} (ha:a<256) (hb:b<256):(UInt8.ofNat a=UInt8.ofNat b)↔a=b:=by
  constructor
  · intro h
    have:=congrArg UInt8.toNat h
    rwa [UInt8.toNat_ofNat_of_lt' ha,UInt8.toNat_ofNat_of_lt' hb]at this
  · rintro rfl; rfl
theorem slash_idx {l:List Nat} (hw:Wf 256 l):Lib.indexByte (l.map UInt8.ofNat) 47=Uq l:=by
  induction l with
  |nil=>rfl
  |cons x l ih=>
    have hx:=hw x (by simp)
    have ih:=ih (fun y hy=>hw y (List.mem_cons_of_mem _ hy))
    rw[List.map_cons]
    unfold Lib.indexByte
    by_cases h:x=47
    · subst h
      rw[if_pos (by decide)]
      simp[Uq,Y6]
    · have h1:(UInt8.ofNat x==(47:UInt8))=false:=by
        rw[beq_eq_false_iff_ne]
        intro e
        exact h ((u8ofNat_eq hx (by omega:47<256)).1 e)
      rw[h1,ih]
      by_cases hm:47∈l
      · have e1:Uq l=((Y6 l).length:Int):=if_pos hm
        have e2:Uq (x::l)=((Y6 (x::l)).length:Int):=if_pos (List.mem_cons_of_mem _ hm)
        have e3:Y6 (x::l)=x::Y6 l:=by unfold Y6; rw[List.takeWhile_cons]; simp[h]
        rw[e1,e2,e3,List.length_cons]
        have:((((Y6 l).length:Int)) == -1)=false:=beq_eq_false_iff_ne.2 (by omega)
        rw[this]
        simp
      · have e1:=Qdn hm
        have e2:Uq (x::l) = -1:=Qdn (by simp[hm,Ne.symm h])
        rw[e1,e2]; rfl
theorem slashI_some {l:List Nat} (h:47∈l):Uq l=((Y6 l).length:Int):=if_pos h

theorem Qfk (w:World) (l:List Nat) (hw:Wf 256 l):Calls Tryz.prog 129 #[.string (Qs l),.string ⟨#[47]⟩] w fun e w'=>e=.returned (.int .i64 (Uq l))∧w=w':=by
  have hc:=fun w=>Tryz.stringslite_IndexByte (Qs l) 47 w
  have hs:Lib.indexByte (Qs l).data.toList (47:Int).toNat.toUInt8=Uq l:=slash_idx hw
  rw[hs]at hc
  have HC:=bx hc
  clear hc hs
  by_cases h0:l=[47]
  · have hb:([47]==(Qs l).toList)=true:=by rw[Jy,h0]; rfl
    have HE:=bx (show Uq l=0 by rw[h0]; rfl)
    clear h0
    go_enter Tryz.func129,Tryz.ntmps129
    go_wp2
    go_ret
    exact⟨W3 HE.out.symm,rfl⟩
  · have hb:([47]==(Qs l).toList)=false:=beq_eq_false_iff_ne.2 (fun h=>h0 (Qdb hw (by intro x hx; simp at hx; omega) (by rw[← h,Jy]; rfl)))
    clear h0
    go_enter Tryz.func129,Tryz.ntmps129
    go_wp2_with (go_at_call 141; refine(HC.out _).mono ?_; rintro e w' ⟨rfl,rfl⟩)
    go_ret
    exact⟨rfl,rfl⟩

theorem strOf_nil:Qs []=⟨#[]⟩:=rfl

theorem lcut_slash (w:World) (l:List Nat) (hw:Wf 256 l) (hl:l.length≤1000000000):Calls Tryz.prog 108 #[.string (Qs l),.string ⟨#[47]⟩] w (Zz w (.tuple #[.string (Qs (Y6 l)),.string (Qs (Kk l)),.bool (decide (47∈l))])):=by
  by_cases h:47∈l
  · have hi:=Qfk w l hw
    rw[slashI_some h]at hi
    have h1:=befS_lt h
    have h2:=Xm l
    have e1:(Qs l).extract 0 (Y6 l).length=Qs (Y6 l):=by
      rw[Us,List.drop_zero,befS_take]
    have e2:(Qs l).extract ((Y6 l).length+1) (Qs l).size=Qs (Kk l):=by
      rw[Us,h2,List.take_length]; rfl
    have HD:=bx (decide_eq_true h)
    have HI:=bx hi
    clear hi h
    have E1:=bx e1
    have E2:=bx e2
    clear e1 e2
    have hq1:((Y6 l).length:Int)+1≤((Qs l).size:Int):=by omega
    have hq2:((Y6 l).length:Int)≤((Qs l).size:Int):=by omega
    have hq3:IntKind.i64.wrap (((Y6 l).length:Int)+1)=((Y6 l).length:Int)+1:=IntWalk.i64_in _ (by omega)
    have hq4:(((Y6 l).length:Int)+1).toNat=(Y6 l).length+1:=by omega
    clear h2
    go_enter Tryz.func108,Tryz.ntmps108
    go_wp2_with (go_at_call 129; refine(HI.out).mono ?_; rintro e w' ⟨rfl,rfl⟩)
    go_quiet (fail)
    go_wp2
    go_ret3
    rw[E1.out,E2.out,HD.out]
    exact⟨rfl,below_drewN (Below.refl _ _) _⟩
  · have hi:=Qfk w l hw
    rw[Qdn h]at hi
    rw[befS_none h,aftS_none h,strOf_nil]
    have HD:=bx (decide_eq_false h)
    have HI:=bx hi
    clear hi h
    go_enter Tryz.func108,Tryz.ntmps108
    go_wp2_with (go_at_call 129; refine(HI.out).mono ?_; rintro e w' ⟨rfl,rfl⟩)
    go_ret3
    rw[HD.out]
    exact⟨rfl,Below.refl _ _⟩

theorem cut_slash (w:World) (l:List Nat) (hw:Wf 256 l) (hl:l.length≤1000000000):Calls Tryz.prog 73 #[.string (Qs l),.string ⟨#[47]⟩] w (Zz w (.tuple #[.string (Qs (Y6 l)),.string (Qs (Kk l)),.bool (decide (47∈l))])):=by
  have hc:=lcut_slash w l hw hl
  go_enter Tryz.func73,Tryz.ntmps73
  go_wp2_with (go_at_call 108; refine hc.mono ?_; rintro e w1 ⟨rfl,hb⟩)
  go_ret3
  exact⟨rfl,hb⟩

def Uu (l:List Nat):Bool:=decide (l.head?=some 45)
def X7 (l:List Nat):List Nat:=if l.head?=some 45 then l.tail else l
theorem Qfa {l:List Nat} (hw:Wf 256 l):Lib.hasPrefix (l.map UInt8.ofNat) [45]=Uu l:=by
  cases l with
  |nil=>rfl
  |cons x l=>
    have hx:=hw x (by simp)
    unfold Lib.hasPrefix Uu
    rw[List.map_cons,List.head?_cons]
    by_cases h:x=45
    · subst h; rfl
    · have:((45:UInt8)==UInt8.ofNat x)=false:=by
        rw[beq_eq_false_iff_ne]
        intro e
        exact h ((u8ofNat_eq hx (by omega:45<256)).1 e.symm)
      simp[List.isPrefixOf,this,h]
theorem minus_trim {l:List Nat} (hw:Wf 256 l):(⟨(Lib.trimPrefix (l.map UInt8.ofNat) [45]).toArray⟩:ByteArray)=Qs (X7 l):=by
  unfold Lib.trimPrefix
  rw[Qfa hw]
  unfold X7 Uu
  by_cases h:l.head?=some 45
  · rw[if_pos h,decide_eq_true h,if_pos rfl]
    cases l with
    |nil=>simp at h
    |cons x l=>rfl
  · rw[if_neg h,decide_eq_false h]
    simp[Qs]
theorem Qda (w:World) (l:List Nat) (hw:Wf 256 l):Calls Tryz.prog 72 #[.string (Qs l),.string ⟨#[45]⟩] w fun e w'=>e=.returned (.tuple #[.string (Qs (X7 l)),.bool (Uu l)])∧w=w':=by
  refine(Tryz.strings_CutPrefix (Qs l) ⟨#[45]⟩ w).mono ?_
  rintro e w' ⟨rfl,rfl⟩
  refine⟨?_,rfl⟩
  have h1:(Qs l).data.toList=l.map UInt8.ofNat:=by simp[Qs]
  rw[h1]
  have h2:(⟨#[45]⟩:ByteArray).data.toList=[45]:=rfl
  rw[h2,minus_trim hw,Qfa hw]
end Wx

namespace Wx
set_option maxRecDepth 100000
open Go Go.RowKit Go.Proofs

theorem szBuilder:(Tryz.prog.info? 141).map (·.size)=some 2:=by kernel_rfl
theorem liesBuilder:liesAt Tryz.prog Tryz.prog.depth 141 (2/Tryz.prog.cellsOf 141) 0 141 1=true:=by kernel_rfl
theorem infoByte:(Tryz.prog.info? 5).map (fun i=>(i.zero,i.size,i.bytes))=some (some (.int .u8 0),1,1):=by kernel_rfl

set_option maxHeartbeats 1000000 in
theorem copyCheck_used (b:Nat) (w:World) (h0:w.cell? ⟨b,0,none⟩=some (.pointer (some ⟨b,0,none⟩))):
    Calls Tryz.prog 135 #[.pointer (some ⟨b,0,none⟩)] w fun e w'=>e=.returned (.tuple #[])∧w'=w:=by
  obtain⟨j,hj,_⟩:=Option.map_eq_some_iff.1 szBuilder
  go_enter Tryz.func135,Tryz.ntmps135
  go_wp2
  rw[Lib.run_neq_ptr_same w _ Tryz.underlying139 hj]
  go_wp2
  go_end0
  exact⟨rfl,rfl⟩

set_option maxHeartbeats 1000000 in
theorem Qgb (b:Nat) (w:World) (h0:w.cell? ⟨b,0,none⟩=some (.pointer none)) (hsh:w.shape? b=some (141,2)) (hfz:w.frozen? ⟨b,0,none⟩=false):
    Calls Tryz.prog 135 #[.pointer (some ⟨b,0,none⟩)] w fun e w'=>e=.returned (.tuple #[])∧w'=w.setCell ⟨b,0,none⟩ (.pointer (some ⟨b,0,none⟩)):=by
  obtain⟨j,hj,hjs⟩:=Option.map_eq_some_iff.1 szBuilder
  go_enter Tryz.func135,Tryz.ntmps135
  go_wp2
  rw[Lib.run_to_unsafe w ⟨b,0,none⟩ Tryz.underlying139 Tryz.underlying173 hj (by rw[hjs]; decide) hsh (Nat.zero_lt_succ 1)]
  simp only[Result.andThen]
  rw[Oper.upon_value]
  go_wp2
  rw[run_callFunc_extern Tryz.func147 (by kernel_rfl) (by kernel_rfl) (by kernel_rfl) (e:=Extern.AbiNoEscape.same) (by kernel_rfl)]
  rw[Lib.run_noEscape]
  simp only[Result.andThen]
  rw[Oper.upon_value]
  go_wp2
  rw[Lib.run_from_unsafe w ⟨b,0,none⟩ Tryz.underlying173 Tryz.underlying139 hj hsh liesBuilder]
  simp only[Result.andThen]
  rw[Oper.upon_value]
  go_wp2
  go_end0
  exact⟨rfl,rfl⟩

theorem copyCheck_any (B b:Nat) (bs:List Value) (w:World) (h:Lib.IsBuilder 141 5 B b bs w):
    Calls Tryz.prog 135 #[.pointer (some ⟨b,0,none⟩)] w fun e w'=>e=.returned (.tuple #[])∧(Lib.BuilderAt 141 5 B b (.pointer (some ⟨b,0,none⟩)) bs w'∧Below B w w'):=by
  rcases h with h|h
  · refine(Qgb b w h.cell0 h.shape h.frozen0).mono ?_
    rintro e w' ⟨rfl,rfl⟩
    exact⟨rfl,h.used _,(Below.refl B w).setCell (p:=⟨b,0,none⟩) h.1 _⟩
  · refine(copyCheck_used b w h.cell0).mono ?_
    rintro e w' ⟨rfl,rfl⟩
    exact⟨rfl,h,Below.refl B _⟩

set_option maxHeartbeats 2000000 in
theorem Qf6 (B b:Nat) (bs:List Value) (s:ByteArray) (w:World) (h:Lib.IsBuilder 141 5 B b bs w) (hlen:bs.length+s.size≤140737488355328) (hBw:B≤w.heap.size):
    Calls Tryz.prog 112 #[.pointer (some ⟨b,0,none⟩),.string s] w fun e w'=>e=.returned (.tuple #[.int .i64 s.size,.nilIface])∧(Lib.BuilderAt 141 5 B b (.pointer (some ⟨b,0,none⟩)) (bs++Lib.strCells s) w'∧Below B w w'):=by
  obtain⟨i0,hi,hz0,hz1,hz2⟩:=info_parts infoByte
  go_enter Tryz.func112,Tryz.ntmps112
  go_wp2_with (go_at_call 135; refine(copyCheck_any B b bs _ h).mono ?_)
  rintro e w1 ⟨rfl,h1,hb1⟩
  obtain⟨hB,v,hbk,hown,hne⟩:=h1
  have c0:w1.cell? ⟨b,0,none⟩=some (.pointer (some ⟨b,0,none⟩)):=by rw[Lib.cell_of_heap hbk]; rfl
  have c1:w1.cell? ⟨b,1,none⟩=some v:=by rw[Lib.cell_of_heap hbk]; rfl
  go_wp2_with (at_builtin; refine Lib.wpList_append_own_string _ rfl _ _ 133 9 rfl B 5 i0 Tryz.underlying133 Tryz.underlying9 hi hz0 hz1 hz2 _ _ _ rfl hown s rfl ?c3 ?c4 ?c5 ?_)
  case c3=>unfold maxLen; omega
  case c4=>omega
  case c5=>have:=hb1.size; omega
  intro v' w2 hown' hgrow _
  have hlt:b<w1.heap.size:=by
    rcases Nat.lt_or_ge b w1.heap.size with h'|h'
    · exact h'
    · simp[Array.getElem?_eq_none h']at hbk
  have hb2:w2.heap[b]?=some (.cells #[.pointer (some ⟨b,0,none⟩),v] 141 (0,0)):=by
    rw[hgrow.block b hlt (fun e=>hne e.symm)]
    exact hbk
  have d0:w2.cell? ⟨b,0,none⟩=some (.pointer (some ⟨b,0,none⟩)):=by rw[Lib.cell_of_heap hb2]; rfl
  have d1:w2.cell? ⟨b,1,none⟩=some v:=by rw[Lib.cell_of_heap hb2]; rfl
  have f1:w2.frozen? ⟨b,1,none⟩=false:=Lib.frozen_of_heap hb2 1
  obtain⟨ao,n',cap,rfl⟩:∃ao n' cap,v'=.slice ao n' cap:=by
    rcases hown'.2 with⟨hv,_⟩|⟨g,cap,cur,hv,_⟩
    · exact⟨_,_,_,hv⟩
    · exact⟨_,_,_,hv⟩
  go_wp2
  go_ret2
  refine⟨rfl,?_,?_⟩
  · exact Lib.BuilderAt.put (T:=141) (e:=5) hB hb2 (bs':=bs++Lib.strCells s) (by simpa [Lib.strCells_length] using hown') (by decide)
  · exact(hb1.grown hgrow (by have:=hb1.size; omega) (fun k hk=>(hown.lt k hk).1)).setCell (p:=⟨b,1,none⟩) hB _
end Wx

namespace Wx
set_option maxRecDepth 100000
open Go Go.RowKit Go.Proofs

def Ux (k:Nat) (s:List Nat):List Nat:=List.replicate (k-s.length) 48++s
def Q7 (n:Nat):List Nat:=if n=0 then[48]else X6 n
theorem decB_wf (n:Nat):Wf 256 (X6 n):=by
  intro x hx
  unfold X6 at hx
  rw[List.mem_reverse,List.mem_map]at hx
  obtain⟨y,hy,rfl⟩:=hx
  have:=Y1 (b:=10) (by omega) n y hy
  omega
theorem decB_chunk (k:Nat):∀m,0<m/10^k→X6 m=X6 (m/10^k)++Ux k (X6 (m%10^k)):=by
  induction k with
  |zero=>intro m _; simp[Ux,Nat.mod_one,Uz]
  |succ k ih=>
    intro m h
    have hm:0<m:=by
      rcases Nat.eq_zero_or_pos m with rfl|h'
      · simp at h
      · exact h'
    have e1:m/10/10^k=m/10^(k+1):=by rw[Nat.div_div_eq_div_mul,Nat.pow_succ,Nat.mul_comm]
    have e2:m%10^(k+1)/10=m/10%10^k:=by rw[Nat.pow_succ,Nat.mul_comm,Nat.mod_mul_right_div_self]
    have e3:m%10^(k+1)%10=m%10:=by
      rw[Nat.pow_succ,Nat.mul_comm]; exact Nat.mod_mul_right_mod _ _ _
    rw[Qcz hm,ih (m/10) (by rw[e1]; exact h),e1,List.append_assoc]
    congr 1
    rcases Nat.eq_zero_or_pos (m%10^(k+1))with h0|h0
    · rw[h0]at e2 e3 ⊢
      rw[← e2,← e3]
      simp[Ux,Uz,← List.replicate_succ']
    · rw[Qcz h0,e2,e3]
      unfold Ux
      rw[List.length_append,List.length_singleton,List.append_assoc]
      congr 2
      omega
theorem padK_wf {k:Nat} {s:List Nat} (h:Wf 256 s):Wf 256 (Ux k s):=by
  intro x hx
  rcases List.mem_append.1 hx with h'|h'
  · have:=(List.mem_replicate.1 h').2; omega
  · exact h x h'
theorem Z5 (a b:List Nat):Qs a++Qs b=Qs (a++b):=by
  apply ByteArray.ext
  rw[ByteArray.data_append]
  simp[Qs]
def strs (P:List (List Nat)):List Value:=P.map fun p=>Value.string (Qs p)
def Z8 (P:List (List Nat)):List Nat:=P.reverse.flatten
theorem flatR_drop {P:List (List Nat)} {k:Nat} {p:List Nat} (h:P[k]?=some p):Z8 (P.drop k)=Z8 (P.drop (k+1))++p:=by
  obtain⟨hk,e⟩:=List.getElem?_eq_some_iff.1 h
  rw[List.drop_eq_getElem_cons hk,e]
  simp[Z8]
theorem flatR_drop_len (P:List (List Nat)) (k:Nat):(Z8 (P.drop k)).length≤(Z8 P).length:=by
  have h:Z8 P=Z8 (P.drop k)++Z8 (P.take k):=by
    unfold Z8
    rw[← List.flatten_append,← List.reverse_append,List.take_append_drop]
  rw[h,List.length_append]; omega
def Vj (l:List Nat):List Value:=Lib.byteCells (l.map UInt8.ofNat)
theorem bcells_strOf (p:List Nat):Lib.strCells (Qs p)=Vj p:=by
  rw[Lib.strCells_eq]; simp[Qs,Vj]
theorem bcells_append (a b:List Nat):Vj (a++b)=Vj a++Vj b:=by
  unfold Vj; rw[List.map_append,Lib.byteCells_append]
theorem bcells_length (a:List Nat):(Vj a).length=a.length:=by
  unfold Vj; rw[Lib.byteCells_length,List.length_map]
theorem strs_cell {w:World} {base:Nat} {e:TypeId} {A:Option Addr} {c:Nat} {P:List (List Nat)} (h:w.ownsRow base e 1 (.slice A P.length c) P.length (strs P)) {k:Nat} {p:List Nat} (hk:P[k]?=some p):
    ∃g,A=some ⟨g,0,none⟩∧g<w.heap.size∧P.length≤c∧c≤maxLen∧w.cell? ⟨g,0+k,none⟩=some (.string (Qs p)):=by
  obtain⟨hk',_⟩:=List.getElem?_eq_some_iff.1 hk
  rcases h.2 with⟨h1,h2⟩|⟨g,cap,cur,hv,hb,hg,hn,hm,hs,ht⟩
  · omega
  · injection hv with e1 e2 e3
    subst e1 e3
    have:=h.cells (g:=g) rfl k (.string (Qs p)) (by simp[strs,hk])
    rw[show(⟨g,0,none⟩:Addr).add k=⟨g,0+k,none⟩ by simp[Addr.add]; omega]at this
    refine⟨g,rfl,?_,hn,hm,this⟩
    rcases Nat.lt_or_ge g w.heap.size with h'|h'
    · exact h'
    · simp[Array.getElem?_eq_none h']at hg
theorem flatR_snoc (P:List (List Nat)) (p:List Nat):Z8 (P++[p])=p++Z8 P:=by simp[Z8]
theorem repeat_zeros (c:Nat):(⟨(Lib.repeatL (⟨#[48]⟩:ByteArray).data.toList c).toArray⟩:ByteArray)=Qs (List.replicate c 48):=by
  have:∀c,Lib.repeatL [48] c=List.replicate c 48:=by
    intro c
    induction c with
    |zero=>rfl
    |succ c ih=>unfold Lib.repeatL; rw[ih]; rfl
  show(⟨(Lib.repeatL [48] c).toArray⟩:ByteArray)=_
  rw[this]
  simp[Qs]
theorem part_len {P:List (List Nat)} (h:∀p∈P,p≠[]):P.length≤(Z8 P).length:=by
  unfold Z8
  induction P with
  |nil=>simp
  |cons p P ih=>
    have h1:=ih (fun q hq=>h q (List.mem_cons_of_mem _ hq))
    have h2:=List.length_pos_iff.2 (h p (by simp))
    simp at h1 ⊢
    omega
theorem strInfo:(Tryz.prog.info? 9).map (fun i=>(i.zero,i.size,i.bytes))=some (some (.string ⟨#[]⟩),1,16):=by kernel_rfl
def decL (j n:Nat):Prop:=(X6 n).length≤j
theorem decL_of {j n:Nat} (h:Bd j n):decL j n:=Qdv (Nat.lt_of_lt_of_le h (Nat.pow_le_pow_left (by omega) j))
theorem textB_zero:Q7 0=[48]:=rfl
theorem textB_pos {n:Nat} (h:0<n):Q7 n=X6 n:=by unfold Q7; rw[if_neg (by omega)]

theorem Num.grown {k:IntKind} {bs:Nat} {w w':World} {b l c n:Nat} {row:Option Nat} (h:Num k bs w (.slice (some ⟨b,0,none⟩) l c) n) (hg:w.grownBy w' row) (hne:∀g,row=some g→g≠b):Num k bs w' (.slice (some ⟨b,0,none⟩) l c) n:=by
  obtain⟨A,c',e,h1,h2,h3⟩:=h
  refine⟨A,c',e,h1,h2,fun hl=>?_⟩
  obtain⟨b',o,e',hc⟩:=h3 hl
  refine⟨b',o,e',fun i hi=>?_⟩
  subst e'
  injection e with e1 e2 e3
  injection e1 with e1
  injection e1 with e4 e5
  subst e4
  exact hg.cell (hc i hi) (fun e=>hne _ e.symm rfl)
theorem Qev {P:Program} {ops:Array Oper} {rest:List Oper} {o:Oper} {a:Act} {Q:Exit→Act→World→Prop} (hgd:o.guard=none) (s x:Operand) (t:TypeId)
    (ho:o.op=.call { callee:=.builtin .append,args:=#[s,x],argTypes:=#[t,t] }) (base:Nat) (e:TypeId) (i:TypeInfo) (ht:P.underlying t=some (.slice e)) (hi:P.info? e=some i) (hz:i.zero=some (.string ⟨#[]⟩))
    (hsize:i.size=1) (hby:i.bytes=16) {A:Option Addr} {c:Nat} (L:List (List Nat)) (hs:a.eval s=.slice A L.length c) (w:World) (hown:w.ownsRow base e 1 (.slice A L.length c) L.length (strs L))
    (p:List Nat) (hx:a.eval x=.slice (some ⟨w.heap.size,0,none⟩) 1 1) (hL:L.length≤1000000000) (hbase:base≤w.heap.size)
    (h:∀A' c' w',w'.ownsRow base e 1 (.slice A' (L++[p]).length c') (L++[p]).length (strs (L++[p]))→Below base (w.alloc (.cells #[.string (Qs p)] e)) w'→(w.alloc (.cells #[.string (Qs p)] e)).grownBy w' (Value.slice A L.length c).ownBlock→wpList P ops Q rest (a.put o.dst (.slice A' (L++[p]).length c')) w'):
    wpList P ops Q (o::rest) a (w.alloc (.cells #[.string (Qs p)] e)):=by
  refine wpList_append_own _ hgd s x t ho base e i (.string ⟨#[]⟩) 1 16 ht hi hz hsize hby rfl (by decide) _ _ _ hs (hown.alloc _) ⟨w.heap.size,0,none⟩ 1 1 [.string (Qs p)] hx rfl ?_ ?_ (by unfold maxLen; omega) (by omega) (by simp; omega) ?_
  · intro j u hj
    match j,hj with
    |0,hj=>simp at hj; subst hj; simp[Addr.add]
  · intro u hu; simp at hu; subst hu; rfl
  · intro v' w' hown' hg _
    have e1:(L++[p]).length=L.length+1:=by simp
    have e2:strs (L++[p])=strs L++[.string (Qs p)]:=by simp[strs]
    have hb:Below base (w.alloc (.cells #[.string (Qs p)] e)) w':=(Below.refl _ _).grown hg (by simp; omega) (fun k hk=>(hown.lt k hk).1)
    rw[← e2,← e1]at hown'
    rcases hown'.2 with⟨h1,h2⟩|⟨g,cap,cur,hv,hr⟩
    · simp at h2
    · subst hv
      exact h _ _ _ hown' hb hg
set_option maxHeartbeats 1000000 in
theorem Qa3 (w:World) (v:Value) (n:Nat) (h:Num .u64 Qb w v n) {j:Nat} (hj:Bd j n) (hj1:j≤100000000):Calls Tryz.prog 77 #[v] w (Zz w (.string (Qs (Q7 n)))):=by
  have HL:=bx (decL_of hj)
  have HB:=bx hj
  clear hj
  go_enter Tryz.func77,Tryz.ntmps77
  go_wp2_with fail
  go_loopw [0,3] (fun s0 s3 wr=>∃(m:Nat) (P:List (List Nat)) (A:Option Addr) (c:Nat),Num .u64 Qb wr s0 m∧s3=.slice A P.length c∧wr.ownsRow w.heap.size 9 1 (.slice A P.length c) P.length (strs P)∧Below w.heap.size w wr∧Bx (X6 n=X6 m++Z8 P)∧Bx (∀p∈P,p≠[]∧Wf 256 p)∧Bx (Bd j m)) (fun s0 _ wr=>numOf wr s0)
  case atStart=>exact⟨n,[],none,0,h,rfl,World.ownsRow_nil _ _ _ _,Below.refl _ _,bx (by simp[Z8]),bx (by simp),HB⟩
  case round=>
    clear h HB
    obtain⟨m,P,A,c,hm,rfl,hown,hb,HD,HP,HB⟩:=hrel
    have hPl:P.length≤100000000:=by
      have h1:=part_len (fun p hp=>(HP.out p hp).1)
      have h2:(X6 n).length≤j:=HL.out
      rw[HD.out,List.length_append]at h2
      omega
    rcases Nat.eq_zero_or_pos m with rfl|hm0
    · obtain⟨A0,c0,rfl,hr⟩:=id hm
      rw[Yt]at hr ⊢
      have hj0:=HL
      have HD1:Bx (X6 n=Z8 P):=bx (by rw[HD.out,Uz,List.nil_append])
      clear HD HB hm hr
      by_cases hP0:P=[]
      · subst hP0
        have hn0:n=0:=by
          rcases Nat.eq_zero_or_pos n with h|h
          · exact h
          · have:=Qco h
            rw[HD1.out]at this
            simp[Z8]at this
        subst hn0
        rw[textB_zero]
        go_wp2
        go_ret
        exact⟨rfl,hb⟩
      · have hn0:0<n:=by
          rcases Nat.eq_zero_or_pos n with h|h
          · exfalso
            have h1:=part_len (fun p hp=>(HP.out p hp).1)
            have h2:=List.length_pos_iff.2 hP0
            rw[← HD1.out,h,Uz]at h1
            have h3:P.length≤0:=h1
            omega
          · exact h
        have HT:=bx (textB_pos hn0)
        have hp1:(1:Int)≤(P.length:Int):=by have:=List.length_pos_iff.2 hP0; omega
        have hpe:((P.length:Int)==0)=false:=beq_eq_false_iff_ne.2 (by omega)
        have hw2:Wf 256 (Z8 P):=by rw[← HD1.out]; exact decB_wf _
        have hlf:(Z8 P).length≤100000000:=by
          have h2:(X6 n).length≤j:=HL.out
          rw[HD1.out]at h2; omega
        clear hP0 hn0
        have HLF:=bx hlf
        have HW2:=bx hw2
        clear hlf hw2
        go_wp2_with fail
        have hbd0:=Lib.fresh_isBuilder 141 5 wr
        have hbl0:Below wr.heap.size wr (wr.alloc (.cells #[.pointer none,.slice none 0 0] 141)):=Below.alloc (Below.refl _ _) (Nat.le_refl _) _
        generalize wr.alloc (.cells #[.pointer none,.slice none 0 0] 141)=wb at *
        obtain⟨wo,rfl⟩:∃wo:World,wo=wr:=⟨_,rfl⟩
        go_loopw [8] (fun s8 wx=>∃k:Nat,k≤P.length∧s8=.int .i64 ((k:Int)-1)∧Lib.IsBuilder 141 5 wo.heap.size wo.heap.size (Vj (Z8 (P.drop k))) wx∧Below wo.heap.size wo wx) (fun s8 _=>(intOf s8+1).toNat)
        case atStart=>exact⟨P.length,Nat.le_refl _,rfl,by rw[List.drop_length]; exact hbd0,hbl0⟩
        case round=>
          clear hbd0 hbl0
          obtain⟨k,hk,rfl,hib,hbx⟩:=hrel
          rcases Nat.eq_zero_or_pos k with rfl|hpos
          · rw[show(((0:Nat):Int)-1) = -1 by omega]
            rw[List.drop_zero]at hib
            go_wp2_with fail
            refine Calls.mono (Tryz.Builder_String_any wo.heap.size wo.heap.size ((Z8 P).map UInt8.ofNat) wr hib hbx.size) ?_
            rintro e wf ⟨rfl,hbf⟩
            go_wp2
            go_ret
            rw[HT.out,HD1.out]
            exact⟨rfl,hb.trans ((hbx.trans hbf).mono hb.size)⟩
          · obtain⟨i,rfl⟩:∃i,k=i+1:=⟨k-1,by omega⟩
            rw[show(((i+1:Nat):Int)-1)=(i:Int) by omega]
            obtain⟨p,hp⟩:∃p,P[i]?=some p:=⟨P[i]'(by omega),List.getElem?_eq_getElem (by omega)⟩
            obtain⟨g,rfl,hg1,hg2,hg3,hcp⟩:=strs_cell hown hp
            have hcp1:wr.cell? ⟨g,0+i,none⟩=some (.string (Qs p)):=by rw[hbx.cell hg1]; exact hcp
            rw[Nat.zero_add]at hcp1
            have hfd:=flatR_drop hp
            have hln:=flatR_drop_len P i
            have HWS:=bx (Qf6 wo.heap.size wo.heap.size (Vj (Z8 (P.drop (i+1)))) (Qs p) wr hib (by
              rw[bcells_length,Xm]
              rw[hfd,List.length_append]at hln
              have:=HLF.out
              omega) hbx.size)
            have HFD:=bx (show Vj (Z8 (P.drop (i+1)))++Lib.strCells (Qs p)=Vj (Z8 (P.drop i)) by rw[bcells_strOf,hfd,bcells_append])
            have hi0:(0:Int)≤(i:Int):=by omega
            have hi1:(i:Int)<(P.length:Int):=by omega
            clear hcp hfd hln hp
            go_wp2_with fail
            refine Calls.mono HWS.out ?_
            rintro e wy ⟨rfl,hby,hbz⟩
            rw[HFD.out]at hby
            clear HWS hcp1
            go_wp2
            go_roundw
            case rel=>
              have hcnt:(Value.int .i64 (i:Int):Value)=.int .i64 (i:Int):=rfl
              (repeat apply Exists.intro)
              exact⟨⟨i,by omega,by go_num,.inr hby,hbx.trans hbz⟩,rfl⟩
            case measure=>simp[intOf]
    · have hm1:0<(digs Qb m).length:=(Xa (n:=m) Qu).2 hm0
      have hl1:(1:Int)≤((digs Qb m).length:Int):=by omega
      have hc:=Qfp wr _ m 10000000000000000000 hm HB.out (by omega) (by omega) (by unfold Qb; omega)
      obtain⟨q,hq⟩:∃q,q=m/10000000000000000000:=⟨_,rfl⟩
      obtain⟨r,hr⟩:∃r,r=m%10000000000000000000:=⟨_,rfl⟩
      have HR1:=bx (show r<10000000000000000000 by omega)
      have HR2:=bx (show q=0→r=m by omega)
      have HQ:=bx (show q<m by omega)
      have HQ1:=bx (show q≤m by omega)
      rw[← hq,← hr,show(((10000000000000000000:Nat):Int))=10000000000000000000 from rfl]at hc
      have HCH:Bx (0<q→X6 m=X6 q++Ux 19 (X6 r)):=bx (fun h=>by
        have:=decB_chunk 19 m
        rw[show(10:Nat)^19=10000000000000000000 by decide,← hq,← hr]at this
        exact this h)
      clear hq hr
      obtain⟨A0,c0,rfl,hr⟩:=id hm
      have HM:=bx hm0
      have HC:=bx hc
      clear hm0 hc hr
      go_wp2_with fail
      refine Calls.mono HC.out ?_
      rintro e w1 ⟨l1,c1,rfl,hq,hb1⟩
      have HRB:=bx (show r<Qb by have:=HR1.out; unfold Qb; omega)
      go_wp2_with fail
      refine Calls.mono (decimal_num w1 r HRB.out) ?_
      rintro e w2 ⟨rfl,hb2⟩
      have hq2:=hq.below hb2
      have hb3:=(hb.trans (hb1.mono hb.size)).trans (hb2.mono (hb.trans (hb1.mono hb.size)).size)
      have hb12:=hb1.trans (hb2.mono hb1.size)
      clear hq hb2
      have hdl:(X6 r).length≤19:=Qdv (by have:=HR1.out; omega)
      have hdl1:((X6 r).length:Int)≤19:=by omega
      have hsz:=Xm (X6 r)
      obtain⟨_,_,hsl,_⟩:=id hq2
      injection hsl with e1 e2 e3
      subst e1 e2 e3
      obtain⟨i0,hi,hz0,hz1,hz2⟩:=info_parts strInfo
      have hown2:=hown.kept (Jr hb12 none) (by cases A with|none=>exact .inl rfl|some a=>exact .inr (by simp[Value.ownBlock]))
      have HNE:Bx (∀g,(Value.slice A P.length c).ownBlock=some g→g≠wr.heap.size):=bx (fun g hg=>by have:=(hown.lt g hg).2; omega)
      rcases Nat.eq_zero_or_pos q with rfl|hq0
      · have hfin:Bx (X6 n=X6 0++Z8 (P++[X6 r])):=bx (by
          rw[flatR_snoc,Uz,List.nil_append,HR2.out rfl]; exact HD.out)
        have hpp:Bx (∀p∈P++[X6 r],p≠[]∧Wf 256 p):=bx (fun p hp=>by
          rcases List.mem_append.1 hp with h|h
          · exact HP.out p h
          · simp at h
            subst h
            exact⟨List.length_pos_iff.1 (Qco (by rw[HR2.out rfl]; exact HM.out)),decB_wf _⟩)
        have hbd:Bx (Bd j 0):=bx (HB.out.le (Nat.zero_le _))
        clear HC HCH HR2 hown
        rw[Yt]
        go_wp2_with (at_builtin; refine Qev rfl (.tmp 28) (.tmp 30) 134 rfl w.heap.size 9 i0 Tryz.underlying134 hi hz0 hz1 hz2 P rfl w2 hown2 (X6 r) rfl (by omega) hb3.size ?_; intro A3 c3 w4 hown4 hb4 hg4)
        have hz:=((hb3.alloc hb3.size (.cells #[.string (Qs (X6 r))] 9)).trans hb4)
        have hq4:=(hq2.below (Below.alloc (Below.refl _ _) (Nat.le_refl _) (.cells #[.string (Qs (X6 r))] 9))).grown hg4 HNE.out
        rw[Yt]at hq4
        have hq4:Num .u64 Qb w4 (.slice (some ⟨wr.heap.size,0,none⟩) 0 c1) 0:=hq4
        go_wp2
        go_roundw
        case rel=>
          exact⟨0,P++[X6 r],A3,c3,hq4,by simp,hown4,hz,hfin,hpp,hbd⟩
        case measure=>rw[hq4.of_eq,hm.of_eq]; exact HM.out
      · have hql:(1:Int)≤((digs Qb q).length:Int):=by have:=(Xa (n:=q) Qu).2 hq0; omega
        have hpad:Ux 19 (X6 r)=List.replicate (19-(X6 r).length) 48++X6 r:=rfl
        have hlz:(Ux 19 (X6 r)).length=19:=by rw[hpad,List.length_append,List.length_replicate]; omega
        have hfin:Bx (X6 n=X6 q++Z8 (P++[Ux 19 (X6 r)])):=bx (by
          rw[flatR_snoc,← List.append_assoc,← HCH.out hq0]; exact HD.out)
        have hpp:Bx (∀p∈P++[Ux 19 (X6 r)],p≠[]∧Wf 256 p):=bx (fun p hp=>by
          rcases List.mem_append.1 hp with h|h
          · exact HP.out p h
          · simp at h
            subst h
            exact⟨List.length_pos_iff.1 (by omega),padK_wf (decB_wf _)⟩)
        have hbd:Bx (Bd j q):=bx (HB.out.le HQ1.out)
        have HPAD:=bx hpad
        clear hq0 hpad hlz HC HCH HR2
        have hsz2:(Qs (List.replicate (19-(X6 r).length) 48)).size=19-(X6 r).length:=by rw[Xm,List.length_replicate]
        have hsz3:(19-(X6 r).length)+(X6 r).length≤9223372036854775807:=by omega
        have hsl3:19-(X6 r).length≤19:=by omega
        go_wp2_with fail
        rw[show(19:Int)-((X6 r).length:Int)=((19-(X6 r).length:Nat):Int) by omega]
        refine Calls.mono (Tryz.strings_Repeat ⟨#[48]⟩ (19-(X6 r).length) w2 (by omega) (by show 1*_≤_; omega)) ?_
        rw[repeat_zeros]
        rintro e w3 ⟨rfl,hb4⟩
        have hown3:=hown2.kept (Jr hb4 none) (by cases A with|none=>exact .inl rfl|some a=>exact .inr (by simp[Value.ownBlock]))
        have hq3:=hq2.below hb4
        have hb5:=hb3.trans (hb4.mono hb3.size)
        have hcat:Qs (List.replicate (19-(X6 r).length) 48)++Qs (X6 r)=Qs (Ux 19 (X6 r)):=by rw[Z5]; rfl
        go_wp2_with (at_builtin; refine Qev rfl (.tmp 28) (.tmp 30) 134 rfl w.heap.size 9 i0 Tryz.underlying134 hi hz0 hz1 hz2 P rfl w3 hown3 (Ux 19 (X6 r)) rfl (by omega) hb5.size ?_; intro A3 c3 w4 hown4 hb6 hg4)
        have hz:=((hb5.alloc hb5.size (.cells #[.string (Qs (Ux 19 (X6 r)))] 9)).trans hb6)
        have hq4:=(hq3.below (Below.alloc (Below.refl _ _) (Nat.le_refl _) (.cells #[.string (Qs (Ux 19 (X6 r)))] 9))).grown hg4 HNE.out
        clear hcat
        go_wp2
        go_roundw
        case rel=>
          exact⟨q,P++[Ux 19 (X6 r)],A3,c3,hq4,by simp,hown4,hz,hfin,hpp,hbd⟩
        case measure=>rw[hq4.of_eq,hm.of_eq]; exact HQ.out
end Wx
