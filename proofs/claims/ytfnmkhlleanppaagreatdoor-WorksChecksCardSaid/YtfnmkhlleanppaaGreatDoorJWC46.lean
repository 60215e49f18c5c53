import Derived.Test.YtfnmkhlleanppaaGreatDoorJWC45
import Derived.Test.YtfnmkhlleanppaaGreatDoorJWC44
import Derived.Tactics2
import Derived.Defers
import Derived.Recover
import Derived.Laws.Pointers
import Derived.OneCell
namespace Wx
set_option maxRecDepth 100000
set_option maxHeartbeats 1000000
open Go Go.RowKit Go.Proofs
set_option linter.unusedVariables false
attribute [local irreducible] OpOk
variable {l:HL} {bs:List ig}
theorem yF {s:ByteArray} (hi:jg (λk=>bs.getD k gz) bs.length s = -1/\bs.length<=1000000):P2 Tryz.prog 128 (Fi l bs) (pT s) (wG 5):=by
 intro M w0 v0 v1 hM hv0 da
 refine KD (N:=13) Tryz.func128 rfl rfl rfl hM hv0 da λa hI=>?_
 refine au hI 1 [Uc 0 4 _] (.kk .z) ⟨mv,trivial⟩ (.aU .z) λa w hI=>?_
 refine au hI 4 [Uc 0 6 _,Uc 1 7 _,Uc 2 8 _,Uc 3 5 _] (.aU .z) ⟨mv,mv,mz (rH (l:=l) (bs:=bs) (s:=s)) (hφ:=hi),mv,trivial⟩ (.qR (.eC .z)) λa w hI=>?_
 refine ah (LF hI 3 2 [] [] [Uc 0 9 _,Uc 1 10 _] .z (.kk .z) ⟨mv,vp true,trivial⟩ .z (.bS .z) rfl (Fq 5) λch a w hr=>?_)
 obtain⟨rfl,hI⟩:=hr
 exact jt (GH hI λ_ h=>h)
theorem yD {q:Nat} {cs:List ByteArray} {n:Nat} {g:Nat->ByteArray} (hl:gN l bs cs) (hc:bs.length<=1/\jg (λk=>bs.getD k gz) bs.length (g 0) = -1/\1<=n):L2 Tryz.prog 91 (bq q l bs cs) (aG (.pointer (some ⟨l.hb,0,none⟩))) (aI 1 false n λk=>pT (g k)) (λl':HL=>gN l' bs cs/\l'.hb=l.hb) (λ_=>.panicked (wG 5)) (λl'=>bq q l' bs cs):=by
 intro M B w0 v0 v1 hM jx hH kK hv0 da
 have hG:aJ (λk o=>M k o\/B k) jd w0:=kK
 have wZ:nB (bq q l bs cs):=hH.2.1
 refine tS (N:=23) Tryz.func91 rfl rfl rfl hM jx hH hv0 da λa hI=>?_
 refine ah (LF hI 6 4 [] [] [Uc 0 5 _,Uc 1 6 _,Uc 2 7 _,Uc 3 8 _] (.k .z) (.kk .z) ⟨mv,mv,az 0 hs hs rfl (pt rfl) (by omega) (by kernel_rfl) (by kernel_rfl),ax hs (pt rfl) (by kernel_rfl) (aE _),trivial⟩ (.k .z) (.po (.dk .z)) rfl (H9 (yF (l:=l) (bs:=bs) (s:=g 0) ⟨hc.2.1,by omega⟩) (λB w u h hu=>iR hl hc.1 h hu)) λch a w hr=>?_)
 obtain⟨rfl,hI⟩:=hr
 exact jt (GI l ⟨hl,rfl⟩ hI)
end Wx

namespace Wx
set_option maxRecDepth 100000
open Go Go.RowKit Go.Proofs
theorem sR (p:Addr) (w:World):CallsD Tryz.prog 59 #[.pointer (some p)] .returning w λe u' w'=>e=.returned (.tuple #[])/\u'=.returning/\w'=w:=by
 refine callsD_of_wpS Tryz.func59 rfl λc₀ cs hu=>?_
 apply wpS_seq
 apply wpS_region
 simp[wpOpsS,go_sem,recoverD,hu,Tryz.ntmps59,Exit.thenS]
 apply wpS_seq
 apply wpS_region
 simp[wpOpsS,go_sem,Exit.thenS]
 refine wpS_cond (t:=false) (by simp[Act.eval,Array.replicate]) ?_
 simp only[Bool.false_eq_true,if_false]
 refine wpS_of_wp (wp_skip ?_)
 cases c₀
 simp_all [bodyPostS,results,Tryz.results59]
theorem vy (g:Nat) (T:TypeId) (n x:Int) (w:World) (hg:w.heap[g]?=some (.cells #[.int .i64 x] T (0,0))):CallsD Tryz.prog 59 #[.pointer (some ⟨g,0,none⟩)] (.panicking [{ v:=.iface 123 (.agg #[.int .i64 n]),recovered:=false }]) w λe u' w'=>e=.returned (.tuple #[])/\u'=.panicking [{ v:=.iface 123 (.agg #[.int .i64 n]),recovered:=true }]/\w'=(w.alloc (.cells #[.int .i64 n] 123)).setCell ⟨g,0,none⟩ (.int .i64 n):=by
 have hlt:g<w.heap.size:=(Array.getElem?_eq_some_iff.1 hg).1
 have hg2:(w.alloc (.cells #[.int .i64 n] 123)).heap[g]?=some (.cells #[.int .i64 x] T (0,0)):=((Below.alloc (Below.refl _ w) (Nat.le_refl _) _).block g hlt).trans hg
 have hc:(w.alloc (.cells #[.int .i64 n] 123)).cell? ⟨g,0,none⟩=some (.int .i64 x):=by simp[World.cell?,hg2]
 have hz:(w.alloc (.cells #[.int .i64 n] 123)).frozen? ⟨g,0,none⟩=false:=by simp[World.frozen?,hg2]
 have MI:∀w,(Instr.typeAssert (.iface 123 (.agg #[.int .i64 n])) 20 123 true).run Tryz.prog w=.ok (.tuple #[.agg #[.int .i64 n],.bool true]) w:=λ_=>by kernel_rfl
 refine callsD_of_wpS Tryz.func59 rfl λc₀ cs hu=>?_
 apply wpS_seq
 apply wpS_region
 simp[wpOpsS,go_sem,recoverD,hu,Tryz.ntmps59,Exit.thenS]
 apply wpS_seq
 apply wpS_region
 simp[wpOpsS,go_sem,Exit.thenS]
 refine wpS_cond (t:=true) (by simp[Act.eval,Array.replicate]) ?_
 simp only[if_true]
 apply wpS_seq
 apply wpS_region
 simp[wpOpsS,go_sem,Exit.thenS,MI]
 apply wpS_seq
 apply wpS_seq
 apply wpS_region
 simp[wpOpsS,go_sem,Exit.thenS]
 refine wpS_cond (t:=false) (by simp[Act.eval,Array.replicate]) ?_
 simp only[Bool.false_eq_true,if_false]
 refine wpS_of_wp (wp_skip ?_)
 simp only[Exit.thenS]
 apply wpS_region
 simp[wpOpsS,go_sem,hc,hz,bodyPostS,results,Tryz.results59]
end Wx

namespace Wx
open Go Go.RowKit Go.Proofs
set_option linter.unusedVariables false
abbrev vB (f:FuncId) (u:Value):Deferred:={ target:=.fn (.func f) #[u],args:=#[] }
section
variable {P:Program} {Q:Exit->Act->World->Prop} {c:bQ} {V:List Vr} {G:List aN} {a:Act} {w:World} {fn:Func}{id s:Nat} {f:FuncId} {u:Value}
theorem sI {d:Nat} {y:Code} {ty zU:TypeId} {pos pos2:String} {aft mm:Array Edge} {ts:Array TypeId} (h:Inv c V [] G none_ a w) (h1:dz s G=some (aG u)) (hd:decide (d<c.N)=true) (hV:(V.all λx=>x.slot != d)=true) (hG:(G.all λe=>e.slot != d)=true)
  (hk:∀a w,Inv c V [] G none_ a w->y.ww none [vB f u] P (λe a w=>Q e (fo [vB f u] a) w) a w):
  (Code.seq (Code.region id #[⟨some d,.makeFunc (.func f) #[] #[.tmp s],ty,pos,aft,none⟩,⟨none,.defer ⟨.value (.tmp d),#[],ts⟩,zU,pos2,mm,none⟩] false) y).ww none [] P Q a w:=by
 intro n
 refine wpIn_seq (wpIn_region ?_)
 show wpOpsIn (rf none) n P _ _ [0,1] (fo [] a) w
 have hu:a.eval (.tmp s)=u:=fC h h1
 have hV:∀x,x∈V->x.slot≠d:=λx hx=>by simpa using List.all_eq_true.1 hV x hx
 have hG:∀e,e∈G->e.slot≠d:=λe he=>by simpa using List.all_eq_true.1 hG e he
 have hd:=of_decide_eq_true hd
 rw[wpOpsIn_cons]
 refine aW.nT (K:=λa' w'=>a'=a.put (some d) (.func (.func f) #[] #[u])/\w'=w) rfl rfl (aW.of rfl (cU (v:=.func (.func f) #[] #[u]) (w':=w) ?_ ⟨rfl,rfl⟩)) ?_
 ·show(do pure (Next.value (<-Instr.makeFunc (.func f) ((#[]:Array Operand).map a.eval) ((#[.tmp s]:Array Operand).map a.eval)))).run P w=_
  rw[show(#[.tmp s]:Array Operand).map a.eval=#[a.eval (.tmp s)] by simp,show(#[]:Array Operand).map a.eval=#[] by simp,hu]
  rfl
 ·rintro _ w' ⟨rfl,rfl⟩
  obtain⟨β,hI⟩:=h
  have FQ:Inv c V [] G none_ (a.put (some d) (.func (.func f) #[] #[u])) w':=by
   refine⟨β,(hI.qo (p:=aT) (v:=.func (.func f) #[] #[u]) hd hV hG λ_ _=>trivial).sD λe he ho hf=>?_⟩
   exact(hI.qo (p:=aT) (v:=.func (.func f) #[] #[u]) hd hV hG λ_ _=>trivial).ew e (List.mem_cons_of_mem _ he) ho hf
  have hv:(a.put (some d) (.func (.func f) #[] #[u])).eval (.tmp d)=.func (.func f) #[] #[u]:=by
   show sl _ d=_
   exact dr (by rw[hI.size]; exact hd)
  rw[wpOpsIn_cons]
  unfold wpOpIn
  have e1:∀o1 o2:Oper,(#[o1,o2]:Array Oper)[1]?=some o2:=λ_ _=>rfl
  rw[e1]
  simp only
  rw[if_pos (by simp[Region.wanted])]
  unfold Oper.wpIn
  refine⟨λ_ _=>trivial,?_⟩
  have hr:(execOp (a.put (some d) (.func (.func f) #[] #[u])).eval ⟨none,.defer ⟨.value (.tmp d),#[],ts⟩,zU,pos2,mm,none⟩).run P w'=.ok (.defer (vB f u)) w':=by
   simp only[execOp,resolve,hv,Deferred.ofValue,pure_bind]
   rw[show(#[]:Array Operand).map (a.put (some d) (.func (.func f) #[] #[u])).eval=#[] by simp]
   rfl
  rw[iA]
  show Oper.uponIn _ _ _ _ _ _ _ ((execOp (a.put (some d) (.func (.func f) #[] #[u])).eval ⟨none,.defer ⟨.value (.tmp d),#[],ts⟩,zU,pos2,mm,none⟩).run P w')
  rw[hr]
  exact wpIn_mono (hk _ _ FQ n) λe a' w'' ⟨a0,e0,h0⟩=>⟨fo [vB f u] a0,e0,h0⟩
def zG (P:Program) (fn:Func) (f:FuncId) (u:Value) (R:Ending->World->Prop):Exit->Act->World->Prop:=λe a w=>bodyPostD P fn R e (fo [vB f u] a) w
theorem vr {C:Code} {vs:List Value} {N:Nat} {M:Nat->Nat->Prop} {B:Nat->Prop} {H:List Bk} {R:Ending->World->Prop} (hf:P.funcs[f]?=some fn) (hb:fn.body=some C) (hN:fn.ntmps=N) (hlen:decide (vs.length<=N)=true)
  (hM:cS M w) (jx:∀k,B k->∀o,¬M k o) (hH:cn B w H) (hG:eR (plus M B) w vs G)
  (h:∀a,Inv ⟨N,w,M,B⟩ [aZ id s H] [] G none_ a w->C.ww none [] P (bodyPostD P fn R) a w):Calls P f vs.toArray w R:=
 calls_of_wp_defers hf hb ((wpIn_wide (n:=0)).1 (wpIn_mono (h _ (mG hM jx hH (by have:=of_decide_eq_true hlen; simp[hN]; omega) rfl hG.ok) 0) λe a' w' ⟨a0,e0,h0⟩=>by subst e0; exact h0))
theorem mH (hf:aK P f) (w:World):(invoke (.fn (.func f) #[u]) #[]).run P w=.ok (.enter f #[u]) w:=by
 have:=hf #[u] w
 simp only[invoke]
 first|exact this|simpa using this
end
variable {Λ:Type} {C:Λ->Prop} {E:Λ->Ending} {Hl:Λ->List Bk} {fn:Func} {V:List Vr} {G:List aN} {a:Act} {w w0:World} {N id s T sp g:Nat} {M:Nat->Nat->Prop} {B:Nat->Prop}
theorem xD {v:Value} (l:Λ) (hC:C l) (hI:Inv ⟨N,w0,M,B⟩ (aZ id s (Hl l)::V) [] G none_ a w) (hr:fn.results=#[.cell sp T]) (hR:cw Tryz.prog (aZ id s (Hl l)::V) G (.cell sp T) (aG v)) (hE:E l=.returned v):
  zG Tryz.prog fn 59 (.pointer (some ⟨g,0,none⟩)) (jz B C E Hl w0) .ret a w:=by
 obtain⟨β,hI⟩:=hI
 obtain⟨v',k1,k2⟩:=hR.run hI
 have e:v'=v:=k2.out
 subst e
 have hd:(fo [vB 59 (.pointer (some ⟨g,0,none⟩))] a).defers=[vB 59 (.pointer (some ⟨g,0,none⟩))]:=by
  show[vB 59 (.pointer (some ⟨g,0,none⟩))]++a.defers=_
  rw[hI.defers]
  rfl
 show Leaves Tryz.prog fn a.tmps _ (fo [vB 59 (.pointer (some ⟨g,0,none⟩))] a).defers .returning w
 rw[hd]
 refine leaves_cons (f:=59) (args:=#[.pointer (some ⟨g,0,none⟩)]) (by simp) (mH (λ_ _=>by kernel_rfl) w) ((sR ⟨g,0,none⟩ w).mono ?_)
 rintro e u' w' ⟨rfl,rfl,rfl⟩
 obtain⟨h1,h2,_⟩:=hI.obj (n0:=0) rfl
 refine⟨v',?_,l,β id,hC,hE.symm,hI.below,λk hk'=>(h2 k hk').symm,h1⟩
 rw[cu,hr]
 simp[k1]
theorem vE {Tv i:Nat} {n x:Int} (l:Λ) (hC:C l) (hI:Inv ⟨N,w0,M,B⟩ (aZ id s (Hl l)::V) [] G none_ a w) (hr:fn.results=#[.cell sp T]) (k:Nat) (hk:V[k]?=some (Vz i sp Tv 1 false (pI x))) (hne:id≠i) (hg:dz sp G=some (aG (.pointer (some ⟨g,0,none⟩)))) (ht:Ty Tryz.prog T false 1) (hE:E l=.returned (.int .i64 n)):
  zG Tryz.prog fn 59 (.pointer (some ⟨g,0,none⟩)) (jz B C E Hl w0) (.panic (wG n)) a w:=by
 obtain⟨β,hI⟩:=hI
 have hd:(fo [vB 59 (.pointer (some ⟨g,0,none⟩))] a).defers=[vB 59 (.pointer (some ⟨g,0,none⟩))]:=by
  show[vB 59 (.pointer (some ⟨g,0,none⟩))]++a.defers=_
  rw[hI.defers]
  rfl
 have hx:=List.mem_cons_of_mem (aZ id s (Hl l)) (List.mem_of_getElem? hk)
 obtain⟨g',hb,e1,hv⟩:=(aY rfl).1 (hI.var _ hx rfl)
 have hsp:sl a sp=.pointer (some ⟨g,0,none⟩):=fC ⟨β,hI⟩ hg
 have e1:sl a sp=.pointer (some ⟨g',0,none⟩):=e1
 rw[hsp]at e1
 injection e1 with e1
 injection e1 with e1
 injection e1 with e1
 subst e1
 have hbg:β i g:=(hb g).2 rfl
 obtain⟨cs,j1,j2,j3,j4⟩:=hv.held
 have j4:aq false cs=.int .i64 x:=j4.out
 have j1:w.heap[g]?=some (.cells #[.int .i64 x] Tv (0,0)):=by
  match cs,j2,j4,j1 with
  |[u],_,j4,j1=>
   have j4:u=.int .i64 x:=j4
   rw[j1,j4]
 have hlt:g<w.heap.size:=(Array.getElem?_eq_some_iff.1 j1).1
 show Leaves Tryz.prog fn a.tmps _ (fo [vB 59 (.pointer (some ⟨g,0,none⟩))] a).defers (.panicking (wG n)) w
 rw[hd]
 refine leaves_cons (f:=59) (args:=#[.pointer (some ⟨g,0,none⟩)]) (by simp) (mH (λ_ _=>by kernel_rfl) w) ((vy g Tv n x w j1).mono ?_)
 rintro e u' w' ⟨rfl,rfl,rfl⟩
 have ha:=(Below.alloc (Below.refl w.heap.size w) (Nat.le_refl _) (.cells #[.int .i64 n] 123))
 have hw':((w.alloc (.cells #[.int .i64 n] 123)).setCell ⟨g,0,none⟩ (.int .i64 n)).heap[g]?=some (.cells #[.int .i64 n] Tv (0,0)):=one_setCell ((ha.block g hlt).trans j1)
 have eE:∀k,k<w.heap.size->k≠g->((w.alloc (.cells #[.int .i64 n] 123)).setCell ⟨g,0,none⟩ (.int .i64 n)).heap[k]?=w.heap[k]?:=λk hk hne=>(Below.heap_setCell _ _ _ k hne).trans (ha.block k hk)
 have hsz:w.heap.size<=((w.alloc (.cells #[.int .i64 n] 123)).setCell ⟨g,0,none⟩ (.int .i64 n)).heap.size:=by
  show _<=((w.alloc (.cells #[.int .i64 n] 123)).heap.modify _ _).size
  rw[Array.size_modify]
  exact ha.size
 generalize MO:(w.alloc (.cells #[.int .i64 n] 123)).setCell ⟨g,0,none⟩ (.int .i64 n)=w' at *
 have hos:w'.os=w.os/\w'.tape=w.tape/\w'.output=w.output:=by subst MO; exact⟨rfl,rfl,rfl⟩
 show Leaves Tryz.prog fn a.tmps _ [] .returning w'
 obtain⟨h1,h2,h3⟩:=hI.obj (n0:=0) rfl
 have IP:¬β id g:=λh=>hI.apart (aZ id s (Hl l)) _ g List.mem_cons_self hx rfl rfl hne h hbg
 have dD:=(kB hI hx rfl hbg).1
 have og:∀o,own ⟨N,w0,M,B⟩ (aZ id s (Hl l)::V) none_ β g o:=λo=>.inr ⟨_,hx,rfl,hbg,Nat.zero_le _⟩
 have hU:Ext (own ⟨N,w0,M,B⟩ (aZ id s (Hl l)::V) none_ β) w w':=⟨hsz,λk hk hno=>eE k hk λe=>hno 0 (e▸og 0),λk o v hno hc=>by
  have hk:=World.block_lt_of_cell? w _ hc
  rw[World.cell?_of_block (w:=w) (a:=⟨k,o,none⟩) (eE k hk λe=>hno (e▸og o))]
  exact hc⟩
 refine⟨.int .i64 n,?_,l,β id,hC,hE.symm,⟨hos.1.trans hI.below.os,hos.2.1.trans hI.below.tape,hos.2.2.trans hI.below.output,Nat.le_trans hI.below.size hsz,λk hk hn=>?_⟩,λk hk'=>(h2 k hk').symm,h1.keep (aF hI) hU λe he=>eE e.b (Bk.je (h1.2.2 e he)) λe'=>IP (e'▸(h1.1 _).2 ⟨e,he,rfl⟩)⟩
 ·rw[cu,hr]
  have CV:=cT (P:=Tryz.prog) (w:=w') (b:=g) (off:=0) ht (cs:=[.int .i64 n]) (λj v hj=>by simp only[World.cell?,hw']; simpa using hj) rfl
  simp only[Instr.loadAt,Instr.sureAddr,Sem.run_bind,Sem.run_pure,Result.andThen_ok]at CV
  have e':a.tmps.getD sp undef=.pointer (some ⟨g,0,none⟩):=hsp
  have ME:(jq a.tmps (.cell sp T)).run Tryz.prog w'=.ok (.int .i64 n) w':=by
   simp only[jq]
   rw[e']
   simp only[asAddr,Sem.run_bind,Sem.run_pure,Result.andThen_ok]
   exact CV
  simp[ME]
 ·rw[eE k (Nat.lt_of_lt_of_le hk hI.below.size) λe=>by
   subst e
   rcases dD with h5|h5
   ·have h5:w0.heap.size<=k:=h5
    have hk:k<w0.heap.size:=hk
    omega
   ·exact hn h5]
  exact hI.below.block k hk hn
end Wx
