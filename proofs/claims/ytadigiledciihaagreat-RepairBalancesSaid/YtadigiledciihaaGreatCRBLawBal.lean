import Derived.Test.YtadigiledciihaaGreatJRB47
namespace Wx
set_option maxRecDepth 100000
set_option maxHeartbeats 1000000
open Go Go.RowKit Go.Proofs
set_option linter.unusedVariables false
attribute [local irreducible] OpOk
section
variable {P:Program} {ops:Array Oper} {ms:List Nat} {c:dg} {V:List Vr} {A:List Al} {G:List aX} {i d:Nat} {x y:Operand} {ty:TypeId} {pos:String} {aI:Array Edge}
theorem Lf {x:Rat} {j k:Nat} (h:j<=100000000):∀w v1 v2,pR j x w v1->pN k x w v2->Calls Tryz.prog 23 #[v1,v2] w (dK (pB true) w):=λw v1 v2 h1 h2=>QT h1.1 h rfl w v1 v2 h1.2 h2.2
theorem WM {T:TypeId} {sz n:Nat} {ag:Bool} {f:Nat->Pred} (m:Nat) (h:Has ms G i x (bk sz ag n f):=by exact hs) (hy:Has ms G i y (pI (m:Int)):=by exact hs) (hm:m<=n:=by omega) (hp:Post G i (bk sz ag (n-m) λk=>f (m+k)):=by exact pt rfl) (ht:Ia P T sz=true:=by kernel_rfl):OpOk P ops ms c V A G i ⟨some d,.slice T x (some y) none none,ty,pos,aI,none⟩:=by
 rcases Nat.lt_or_ge m n with hlt|hge
 ·exact WO m h hy hlt hp ht
 obtain rfl:m=n:=Nat.le_antisymm hm hge
 obtain⟨E,hE⟩:=nD ht
 exact cm rfl rfl rfl (.inl rfl) hp λL β a w hI hd=>by
  have k:=h.spec hI hd
  obtain⟨A',cap,ex,h1,h2,h3⟩:=k.out
  have ex:a.eval x=.slice A' m cap:=ex
  have ey:a.eval y=.int .i64 m:=(hy.spec hI hd).out
  refine⟨.slice (if cap=m then A' else A'.map (·.add (m*sz))) (m-m) (cap-m),w,?_,Below.refl _ _,λw' _=>⟨_,_,rfl,by omega,by omega,λh0=>by omega⟩⟩
  show(do pure (Next.value (<-Instr.sliceAt T (a.eval x) (some (a.eval y)) none none))).run P w=_
  rw[ex,ey]
  have hr:(Instr.sliceAt T (.slice A' m cap) (some (.int .i64 m)) none none).run P w=.ok (.slice (if cap=m then A' else A'.map (·.add (m*sz))) (m-m) (cap-m)) w:=by
   have e1:(Instr.sliceBound (.int .i64 m) m .sliceB).run P w=.ok m w:=by
    have:=run_sliceBound (P:=P) w .i64 (m:Int) m .sliceB (by omega) (by omega)
    simpa using this
   simp only[Instr.sliceAt,Sem.run_bind,run_underlying hE.under,Result.andThen_ok,Instr.slice,Instr.sliceBounds,Sem.run_pure]
   by_cases hne:cap=m
   ·simp only[Option.isSome_none,Bool.false_eq_true,if_false,e1,Result.andThen_ok,hE.size w,if_pos hne]
   ·simp only[Option.isSome_none,Bool.false_eq_true,if_false,e1,Result.andThen_ok,hE.size w,hne]
  rw[Sem.run_bind,hr]
  rfl
theorem QX {S D:TypeId} {m:Int} (h:Has ms G i x (bR (.int .u8 m)):=by exact hs) (hm:0<=m/\m<=255:=by omega) (hr:∀w,(Go.convert S D (.int .u8 m)).run P w=.ok (.int .i64 (IntKind.i64.wrap m)) w:=by exactλ_=>by kernel_rfl) (hp:Post G i (pI m):=by exact pt rfl):OpOk P ops ms c V A G i ⟨some d,.convert S D x,ty,pos,aI,none⟩:=
 Jm h hr (hp.down (Ju (by omega)))
end
theorem rI {n:Nat} {ms:Nat->List Rat} (h:ia n ms=0):n<=64:=by
 unfold ia at h
 by_cases h1:(decide ((n:Int)<1)||decide ((n:Int)>64))=true
 ·rw[if_pos h1]at h; exact absurd h (by decide)
 ·simp only[Bool.or_eq_true,decide_eq_true_eq]at h1
  omega
theorem Lk {a b:Int} (t:(decide (a≠0)||decide (b≠0))=false):a=0/\b=0:=by simpa [Bool.or_eq_false_iff] using t
variable {L:List (List (Int×Int))}
theorem sN (h:∀k,k<L.length->(L.getD k []).length=3/\∀q,Fh ((L.getD k []).getD q z2)):∀i,i<L.length->∀q,q<3->cN 64 ((qu (L.getD i [])).getD q 0):=λi hi q hq=>by
 have k:=(h i hi).2
 match q,hq with
 |0,_=>exact rJ (k 0).1 (k 0).2.1 (k 0).2.2
 |1,_=>exact rJ (k 1).1 (k 1).2.1 (k 1).2.2
 |2,_=>exact rJ (k 2).1 (k 2).2.1 (k 2).2.2
theorem AJ {u:Int} (h:(0<=u/\u<=255)/\∀k,k<L.length->(L.getD k []).length=3/\∀q,Fh ((L.getD k []).getD q z2)):K2 Tryz.prog 6 (bk 6 true L.length λk=>Qi (L.getD k [])) (bR (.int .u8 u)) (pB true):=by
 intro M w0 v0 v1 hM hv0 mL
 have hL:=h.2
 have hu:=h.1
 refine xB (N:=136) Tryz.func6 rfl rfl rfl hM hv0 mL λa hI=>?_
 refine cK hI 1 [Uc 0 4 _] (.kk .z) ⟨mv,trivial⟩ (.eH .z) λa w hI=>?_
 refine ax ?_
 refine cK hI 13 [Uc 0 17 _,Uc 1 18 _,Uc 2 19 _,Uc 3 20 _,Uc 4 21 _,Uc 5 22 _,Uc 6 23 _,Uc 7 24 _,Uc 8 25 _,Uc 9 26 _,Uc 10 27 _,Uc 11 28 _,Uc 12 29 _] (.eH .z) ⟨mv,ln,bn,mv,gd λh=>xF h,gd λh=>Nl h,gd λh=>yB h,pk,mv,gd λh=>xF h,gd λh=>Nl h,gd λh=>yB h,pk,trivial⟩ (.fE (.d8 (.kM .z))) λa w hI=>?_
 refine CS hI (λt1=>?_) (λt1=>?_)
 ·
  refine cK hI 2 [Uc 0 30 _,Uc 1 4 _] (.kk (.t 1 (.k .z))) ⟨PV oa,mv,trivial⟩ (.fM (.dk .z)) λa w hI=>?_
  refine aP ?_
  refine aH ?_
  exact fo hI rfl jP
 ·
  have hn:L.length<=70/\(L.length<=64->L.length<=12):=by
   simp only[Bool.or_eq_false_iff,Bool.and_eq_false_iff,decide_eq_false_iff_not]at t1
   omega
  have b0:rC L.length 64 8257 (λi=>qu (L.getD i [])):=we (by omega) (by decide) (by decide) (λ_ _=>rfl) (sN hL) (by omega) (by decide)
  refine aF ?_
  refine ai ?_
  refine cK hI 7 [Uc 0 32 _,Uc 1 33 _,Uc 2 31 _,Uc 3 34 _,Uc 4 35 _,Uc 5 5 _,Uc 6 6 _] (.aB .z) ⟨mv,Ag FV (hφ:=⟨by omega,hL⟩),mv,ext,ext,mv,mv,trivial⟩ (.Ir (.cU (.Nk .z))) λa w hI=>?_
  refine bN hI 8 [⟨7,7,some 5,none,.ptr,56,9,true,pv _,[(6,pv _)]⟩] [] [Uc 0 37 _,Uc 1 38 _,Uc 2 36 _,Uc 3 39 _,Uc 4 40 _,Uc 7 8 _] .z (.aB .z) ⟨mv,Ag (mo (ms:=(λi=>qu (L.getD i []))) (J:=8257)) (hφ:=b0),mv,ext,ext,qw [.r,.r,.r],iQ rfl rfl hs rfl rfl (bO (by kernel_rfl)) (ej (λ_=>eO) (by rw[bD])) (by kernel_rfl),mv,trivial⟩ (.s .o .z) (.aB (.cU (.dk .z))) λa w hI=>?_
  refine bN hI 8 [⟨9,9,some 5,none,.ptr,63,9,true,pv _,[(6,pv _)]⟩] [] [Uc 0 42 _,Uc 1 43 _,Uc 2 41 _,Uc 3 44 _,Uc 4 45 _,Uc 7 10 _] (.k .z) (.aB (.k .z)) ⟨mv,Ag (Ed (ms:=(λi=>qu (L.getD i []))) (J:=8257)) (hφ:=b0),mv,ext,ext,qw [.f,.f,.f],iQ rfl rfl hs rfl rfl (bO (by kernel_rfl)) (ej (λ_=>nU) (by rw[bD])) (by kernel_rfl),mv,trivial⟩ (.k (.s .o .z)) (.fE (.ju (.tZ .z))) λa w hI=>?_
  refine ax ?_
  refine bN hI 27 [] [⟨some 4,50,7,0,_⟩,⟨some 6,52,9,0,_⟩,⟨some 12,58,7,3,_⟩,⟨some 14,60,9,3,_⟩,⟨some 20,66,7,6,_⟩,⟨some 22,68,9,6,_⟩] [Uc 0 46 _,Uc 1 47 _,Uc 2 48 _,Uc 3 49 _,Uc 5 51 _,Uc 7 53 _,Uc 8 54 _,Uc 9 55 _,Uc 10 56 _,Uc 11 57 _,Uc 13 59 _,Uc 15 61 _,Uc 16 62 _,Uc 17 63 _,Uc 18 64 _,Uc 19 65 _,Uc 21 67 _,Uc 23 69 _,Uc 24 70 _,Uc 25 71 _,Uc 26 72 _] (.k (.k .z)) (.aB (.k .z)) ⟨mv,mv,bn,mv,gd λh=>uQ h,gd λh=>lV 0 (hcd:=h) (hq:=by rw[bD]; decide) (hp:=pg h rfl),gd λh=>uQ h,gd λh=>lV 0 (hcd:=h) (hq:=by rw[bD]; decide) (hp:=pg h rfl),gd λh=>Dj h Lf,gd λh=>PZ h,pk,mv,gd λh=>uQ h,gd λh=>lV 1 (hcd:=h) (hq:=by rw[bD]; decide) (hp:=pg h rfl),gd λh=>uQ h,gd λh=>lV 1 (hcd:=h) (hq:=by rw[bD]; decide) (hp:=pg h rfl),gd λh=>Dj h Lf,gd λh=>PZ h,pk,mv,gd λh=>uQ h,gd λh=>lV 2 (hcd:=h) (hq:=by rw[bD]; decide) (hp:=pg h rfl),gd λh=>uQ h,gd λh=>lV 2 (hcd:=h) (hq:=by rw[bD]; decide) (hp:=pg h rfl),gd λh=>Dj h Lf,gd λh=>PZ h,pk,trivial⟩ (.k (.d .z)) (.aB (.d8 (.d8 (.cU (.dk .z))))) λa w hI=>?_
  refine CS hI (λt2=>?_) (λt2=>?_)
  ·exfalso; simp at t2
  refine aF ?_
  refine ai ?_
  refine ax ?_
  refine bN hI 2 [] [] [Uc 0 73 _,Uc 1 74 _] (.k .z) (.aB (.k .z)) ⟨mv,bn,trivial⟩ (.k .z) (.fE (.tZ .z)) λa w hI=>?_
  refine mJ hI (λt3=>?_) (λt3=>?_)
  ·
   refine bN hI 2 [] [] [Uc 0 75 _,Uc 1 4 _] (.k .z) (.k (.t 1 (.kk .z))) ⟨PV oa,mv,trivial⟩ (.k .z) (.Pd (.dk .z)) λa w hI=>?_
   refine aP ?_
   refine aH ?_
   exact fo hI rfl jP
  ·
   have e0:=Decidable.not_not.1 t3
   refine aF ?_
   refine ai ?_
   obtain⟨k,hk⟩:∃k:Nat,u%((L.length:Int)+1)=(k:Int):=⟨(u%((L.length:Int)+1)).toNat,by rw[Int.toNat_of_nonneg (Int.emod_nonneg _ (by omega))]⟩
   have L8:k<=L.length:=by have:=Int.emod_lt_of_pos u (show(0:Int)<(L.length:Int)+1 by omega); omega
   have b1:rC k 64 8257 (λi=>qu (L.getD i [])):=we (by omega) (by decide) (by decide) (λ_ _=>rfl) (λi hi=>sN hL i (by omega)) (by omega) (by decide)
   have b2:rC (L.length-k) 64 8257 (λi=>qu (L.getD (k+i) [])):=we (by omega) (by decide) (by decide) (λ_ _=>rfl) (λi hi=>sN hL (k+i) (by omega)) (by omega) (by decide)
   refine bN hI 7 [] [] [Uc 0 76 _,Uc 1 77 _,Uc 2 78 _,Uc 3 79 _,Uc 4 80 _,Uc 5 81 _,Uc 6 11 _] (.k .z) (.aB .z) ⟨mv,QX,mv,ln,bn,rm,mv,trivial⟩ (.k .z) (.Ir (.cU (.tZ .z))) λa w hI=>?_
   refine bN hI 10 [⟨12,12,some 7,none,.ptr,56,9,true,pv _,[(8,pv _)]⟩] [] [Uc 0 83 _,Uc 1 84 _,Uc 2 85 _,Uc 3 86 _,Uc 4 82 _,Uc 5 87 _,Uc 6 88 _,Uc 9 13 _] (.k .z) (.eH .z) ⟨mv,mv,WN k (hy:=(hs).imp (dD hk)),Ag (mo (ms:=(λi=>qu (L.getD i []))) (J:=8257)) (hφ:=b1),mv,ext,ext,qw [.r,.r,.r],iQ rfl rfl hs rfl rfl (bO (by kernel_rfl)) (ej (λ_=>eO) (by rw[bD])) (by kernel_rfl),mv,trivial⟩ (.k (.s .o .z)) (.fE (.cU (.tZ .z))) λa w hI=>?_
   refine bN hI 10 [⟨14,14,some 7,none,.ptr,56,9,true,pv _,[(8,pv _)]⟩] [] [Uc 0 90 _,Uc 1 91 _,Uc 2 92 _,Uc 3 93 _,Uc 4 89 _,Uc 5 94 _,Uc 6 95 _,Uc 9 15 _] (.k (.k .z)) (.aB .z) ⟨mv,mv,WM k (hy:=(hs).imp (dD hk)),Ag (mo (ms:=(λi=>qu (L.getD (k+i) []))) (J:=8257)) (hφ:=b2),mv,ext,ext,qw [.r,.r,.r],iQ rfl rfl hs rfl rfl (bO (by kernel_rfl)) (ej (λ_=>eO) (by rw[bD])) (by kernel_rfl),mv,trivial⟩ (.k (.k (.s .o .z))) (.Dv (.cU (.kM .z))) λa w hI=>?_
   refine ax ?_
   refine bN hI 6 [] [] [Uc 0 96 _,Uc 1 97 _,Uc 2 98 _,Uc 3 99 _,Uc 4 100 _,Uc 5 101 _] (.k (.k (.k .z))) (.eH .z) ⟨mv,bn,mv,gd λh=>xF h,gd λh=>yB h,pk,trivial⟩ (.k (.k (.k .z))) (.ju (.cU (.k .z))) λa w hI=>?_
   refine CS hI (λt4=>?_) (λt4=>?_)
   ·
    refine bN hI 2 [] [] [Uc 0 102 _,Uc 1 4 _] (.k (.k (.k .z))) (.t 1 (.k .z)) ⟨PV oa,mv,trivial⟩ (.k (.k (.k .z))) (.kM .z) λa w hI=>?_
    refine aP ?_
    refine aH ?_
    exact fo hI rfl jP
   ·
    refine aF ?_
    refine ai ?_
    obtain⟨e1,e2⟩:=Lk t4
    have n0:=rI e0
    have n1:=rI e1
    have n2:=rI e2
    obtain⟨e3,e4⟩:=ES L8 e0 e1 e2
    have b3:rC 2 16514 66059 (Ep (fA (L.length-k) (λi=>qu (L.getD (k+i) []))) (fA k (λi=>qu (L.getD i [])))):=we (by decide) (by decide) (by decide) (λi hi=>by match i,hi with|0,_=>exact bD _ _|1,_=>exact bD _ _) (λi hi=>by match i,hi with|0,_=>exact BU (j:=64) (by decide) (λi hi=>sN hL (k+i) (by omega)) (by omega)|1,_=>exact BU (j:=64) (by decide) (λi hi=>sN hL i (by omega)) (by omega)) (by decide) (by decide)
    refine bN hI 10 [⟨16,16,some 7,none,.ptr,56,9,true,pv _,[(8,pv _)]⟩] [] [Uc 0 104 _,Uc 1 105 _,Uc 2 106 _,Uc 3 107 _,Uc 4 103 _,Uc 5 108 _,Uc 6 109 _,Uc 9 13 _] (.k (.k (.k .z))) (.kk .z) ⟨ld,ld,NI (p:=pV bg 16514 (fA (L.length-k) (λi=>qu (L.getD (k+i) [])))) (q:=pV bg 16514 (fA k (λi=>qu (L.getD i [])))) (zv:=.agg ([Zl.r,.r,.r].flatMap Zl.cs).toArray) 56 ([Zl.r,.r,.r].flatMap Zl.cs) (λi=>pV bg 16514 (Ep (fA (L.length-k) (λi=>qu (L.getD (k+i) []))) (fA k (λi=>qu (L.getD i []))) i)) (ej (λ_=>eO) (by rw[bD])) (ej (λ_=>eO) (by rw[bD])),Ag (mo (ms:=Ep (fA (L.length-k) (λi=>qu (L.getD (k+i) []))) (fA k (λi=>qu (L.getD i [])))) (J:=66059)) (hφ:=b3),mv,ext,ext,qw [.r,.r,.r],iQ rfl rfl hs rfl rfl (bO (by kernel_rfl)) (ej (λ_=>eO) (by rw[bD])) (by kernel_rfl),mv,trivial⟩ (.k (.d (.d (.s .o .z)))) (.ju (.cU (.dk .z))) λa w hI=>?_
    refine bN hI 27 [] [⟨some 3,113,16,0,_⟩,⟨some 5,115,7,0,_⟩,⟨some 10,120,16,3,_⟩,⟨some 12,122,7,3,_⟩,⟨some 17,127,16,6,_⟩,⟨some 19,129,7,6,_⟩] [Uc 0 110 _,Uc 1 111 _,Uc 2 112 _,Uc 4 114 _,Uc 6 116 _,Uc 7 117 _,Uc 8 118 _,Uc 9 119 _,Uc 11 121 _,Uc 13 123 _,Uc 14 124 _,Uc 15 125 _,Uc 16 126 _,Uc 18 128 _,Uc 20 130 _,Uc 21 131 _,Uc 22 132 _,Uc 23 133 _,Uc 24 134 _,Uc 25 135 _,Uc 26 4 _] (.k (.k .z)) (.t 26 (.k .z)) ⟨mv,bn,mv,gd λh=>uQ h,gd λh=>lV 0 (hcd:=h) (hq:=by rw[bD]; decide) (hp:=pg h rfl),gd λh=>uQ h,gd λh=>lV 0 (hcd:=h) (hq:=by rw[bD]; decide) (hp:=pg h rfl),gd λh=>Dj h zY,pk,mv,gd λh=>uQ h,gd λh=>lV 1 (hcd:=h) (hq:=by rw[bD]; decide) (hp:=pg h rfl),gd λh=>uQ h,gd λh=>lV 1 (hcd:=h) (hq:=by rw[bD]; decide) (hp:=pg h rfl),gd λh=>Dj h zY,pk,mv,gd λh=>uQ h,gd λh=>lV 2 (hcd:=h) (hq:=by rw[bD]; decide) (hp:=pg h rfl),gd λh=>uQ h,gd λh=>lV 2 (hcd:=h) (hq:=by rw[bD]; decide) (hp:=pg h rfl),gd λh=>Dj h zY,pk,mv,gd λh=>Q6 h oa,pk,mv,trivial⟩ (.d (.d .z)) (.d8 (.d8 (.cU (.tZ .z)))) λa w hI=>?_
    refine aP ?_
    exact fo hI rfl (jP (hq:=mN (by rw[e3,e4]; simp)))
end Wx
