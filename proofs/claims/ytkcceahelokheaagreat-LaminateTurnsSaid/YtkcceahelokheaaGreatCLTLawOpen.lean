import Derived.Test.YtkcceahelokheaaGreatJLT33
namespace Wx
open Go Go.RowKit Go.Proofs Go.ChangeShapes Go.WideShapes Go.ChangeAt
set_option linter.unusedVariables false
section
variable {H:Type} {enc:TypeId×Value->H} {w:World}
theorem CH.map {P:Program} {e:TypeId} {agg:Bool} {α β:Type} {C:α->Prop} {f:α->Pred} {C':β->Prop} {f':β->Pred} (h:CH enc P w e agg C f) (g:α->β) (hC:∀a,C a->C' (g a)) (hf:∀a w v,f a w v->f' (g a) w v):CH enc P w e agg C' f':=λfuel cs x hx=>by
 obtain⟨a,h1,h2⟩:=h fuel cs x hx
 exact⟨g a,hC a h1,λw' hw=>hf a w' _ (h2 w' hw)⟩
def gFr (a:Int×(Int×Unit)):Int×Int:=(a.1,a.2.1)
theorem ir:CH enc Tryz.prog w 25 true J6 V7:=
 CH.map (mK (N:=2) Tryz.underlying25 (by kernel_rfl) (by kernel_rfl) (aV (n:=1) (nE Tryz.underlying2) (by kernel_rfl) (by omega) (aV (n:=1) (nE Tryz.underlying2) (by kernel_rfl) (by omega) gn))) gFr
  (λa h=>⟨(wf_i64 h.1).1,(wf_i64 h.1).2,(wf_i64 h.2.1).2⟩) (λa w v h=>h)
abbrev GA:Type:=Int×Int
def Yk (a:(GA×(GA×(GA×(GA×Unit))))×((GA×(GA×Unit))×((GA×(GA×Unit))×((GA×(GA×Unit))×(GA×((GA×(GA×(GA×(GA×(GA×Unit)))))×Unit)))))):List (Int×Int):=
 [a.1.1,a.1.2.1,a.1.2.2.1,a.1.2.2.2.1,a.2.1.1,a.2.1.2.1,a.2.2.1.1,a.2.2.1.2.1,a.2.2.2.1.1,a.2.2.2.1.2.1,a.2.2.2.2.1,a.2.2.2.2.2.1.1,a.2.2.2.2.2.1.2.1,a.2.2.2.2.2.1.2.2.1,a.2.2.2.2.2.1.2.2.2.1,a.2.2.2.2.2.1.2.2.2.2.1]
theorem Ye:J6 z2:=by unfold J6 z2; decide
theorem Rw {l:List (Int×Int)} (h:∀x,x∈l->J6 x) (q:Nat):J6 (l.getD q z2):=NY h Ye q
theorem Su:CH enc Tryz.prog w 115 true (λD=>D.length=16/\∀q,J6 (D.getD q z2)) V9:=
 CH.map (mK (N:=32) Tryz.underlying115 (by kernel_rfl) (by kernel_rfl)
  (aV (n:=8) (oT (N:=8) (n:=2) Tryz.underlying111 (by kernel_rfl) (by kernel_rfl) (by kernel_rfl) (aV (n:=2) ir (by kernel_rfl) (by omega) (aV (n:=2) ir (by kernel_rfl) (by omega) (aV (n:=2) ir (by kernel_rfl) (by omega) (aV (n:=2) ir (by kernel_rfl) (by omega) gn))))) (by kernel_rfl) (by omega)
  (aV (n:=4) (oT (N:=4) (n:=2) Tryz.underlying112 (by kernel_rfl) (by kernel_rfl) (by kernel_rfl) (aV (n:=2) ir (by kernel_rfl) (by omega) (aV (n:=2) ir (by kernel_rfl) (by omega) gn))) (by kernel_rfl) (by omega)
  (aV (n:=4) (oT (N:=4) (n:=2) Tryz.underlying112 (by kernel_rfl) (by kernel_rfl) (by kernel_rfl) (aV (n:=2) ir (by kernel_rfl) (by omega) (aV (n:=2) ir (by kernel_rfl) (by omega) gn))) (by kernel_rfl) (by omega)
  (aV (n:=4) (oT (N:=4) (n:=2) Tryz.underlying112 (by kernel_rfl) (by kernel_rfl) (by kernel_rfl) (aV (n:=2) ir (by kernel_rfl) (by omega) (aV (n:=2) ir (by kernel_rfl) (by omega) gn))) (by kernel_rfl) (by omega)
  (aV (n:=2) ir (by kernel_rfl) (by omega)
  (aV (n:=10) (oT (N:=10) (n:=2) Tryz.underlying113 (by kernel_rfl) (by kernel_rfl) (by kernel_rfl) (aV (n:=2) ir (by kernel_rfl) (by omega) (aV (n:=2) ir (by kernel_rfl) (by omega) (aV (n:=2) ir (by kernel_rfl) (by omega) (aV (n:=2) ir (by kernel_rfl) (by omega) (aV (n:=2) ir (by kernel_rfl) (by omega) gn)))))) (by kernel_rfl) (by omega) gn))))))) Yk
  (λa h=>⟨rfl,Rw (by
   obtain⟨⟨h1,h2,h3,h4,_⟩,⟨h5,h6,_⟩,⟨h7,h8,_⟩,⟨h9,h10,_⟩,h11,⟨h12,h13,h14,h15,h16,_⟩,_⟩:=h
   intro x hx
   simp only[Yk,List.mem_cons,List.not_mem_nil,or_false]at hx
   rcases hx with rfl|rfl|rfl|rfl|rfl|rfl|rfl|rfl|rfl|rfl|rfl|rfl|rfl|rfl|rfl|rfl<;>assumption)⟩)
  (λa w v h=>(eP.m (eP.m (eP.m (eP.m (eP.k (eP.m eP.z rfl)) rfl) rfl) rfl) rfl).pS w v h)
def abz (a:Int×((Int×(Int×Unit))×(Int×Unit))):bK:=⟨a.1,a.2.1.1,a.2.1.2.1,a.2.2.1⟩
theorem Sv:CH enc Tryz.prog w 68 true (λ_=>True) cP:=
 CH.map (mK (N:=4) Tryz.underlying68 (by kernel_rfl) (by kernel_rfl)
  (aV (n:=1) (nE Tryz.underlying3) (by kernel_rfl) (by omega)
  (aV (n:=2) (mK (N:=2) Tryz.underlying66 (by kernel_rfl) (by kernel_rfl) (aV (n:=1) (nE Tryz.underlying3) (by kernel_rfl) (by omega) (aV (n:=1) (nE Tryz.underlying3) (by kernel_rfl) (by omega) gn))) (by kernel_rfl) (by omega)
  (aV (n:=1) (nE Tryz.underlying3) (by kernel_rfl) (by omega) gn)))) abz (λ_ _=>trivial)
  (λa w v h=>(eP.k (eP.m (eP.k eP.z) rfl)).pS w v h)
end
theorem R8 {f:FuncId} {P:Program} {args:Array Value} {W:World} (h:Calls P f args W (bH (λ_ _=>False) (pB true) W)):Calls P f args W λe w'=>e=.returned (.bool true)/\Below W.heap.size W w':=
 h.mono λe w' h=>by
  obtain⟨v,rfl,hv,hb⟩:=h
  have:v=.bool true:=hv.out
  exact⟨by rw[this],hb⟩
theorem VU {w:World}:cL (λ_ _=>False) w:=λ_ _ h=>h.elim
theorem Pr {L:List (List (Int×Int))} (h:∀a∈L,a.length=16/\∀q,J6 (a.getD q z2)):∀k,k<L.length->(L.getD k []).length=16/\∀q,J6 ((L.getD k []).getD q z2):=λk hk=>by
 rw[show L.getD k []=L[k] by rw[List.getD_eq_getElem?_getD,List.getElem?_eq_getElem hk]; rfl]
 exact h _ (List.getElem_mem hk)
end Wx
