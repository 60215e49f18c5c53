import Derived.Test.YtpiniclogfefjaaGreatCSolvesSolved
import Derived.Test.YtpiniclogfefjaaGreatJSolves44
import Derived.Test.YtpiniclogfefjaaGreatJSolves40
namespace Wx
attribute [local irreducible] Q0
set_option maxRecDepth 100000
open Go Go.RowKit Go.Proofs
set_option linter.unusedVariables false

theorem Qh6 {A B:List (List Rat)} {m j:Nat} (h0:0<A.length) (hn:A.length≤100000) (hm:0<m∧m≤100000) (hA:Rect A.length A) (hBl:B.length=A.length) (hBr:∀i,i<A.length→(B.getD i []).length=m) (hAb:BdX j A) (hBb:BdX j B) (h1:1≤j) (hj:Kx j A.length≤100000000) (hsl:¬Qa6 (Y8 A B) A.length):∀(M:Nat→Nat→Prop) (w:World) (v0 v1:Value),Mid M w→Box M (fun w=>(Qc 1 false A.length (fun i=>Qe (A.getD i []))) w v0) w→Box M (fun w=>(Qc 1 false A.length (fun i=>Qe (B.getD i []))) w v1) w→Calls Tryz.prog 68 #[v0,v1] w (RetB M (Xr (Qc 1 false A.length (fun i=>Qe ((Wk A B).getD i []))) (pB true)) w):=fun M w v0 v1 hM h2 h3=>
 (c_solved h0 hn hm hA hBl hBr hAb hBb h1 hj M w v0 v1 hM h2 h3).mono fun _ _ h=>Z6 h fun _ _ h=>h.1 hsl
theorem Qh5 {A B:List (List Rat)} {m j:Nat} (h0:0<A.length) (hn:A.length≤100000) (hm:0<m∧m≤100000) (hA:Rect A.length A) (hBl:B.length=A.length) (hBr:∀i,i<A.length→(B.getD i []).length=m) (hAb:BdX j A) (hBb:BdX j B) (h1:1≤j) (hj:Kx j A.length≤100000000) (hsl:Qa6 (Y8 A B) A.length):∀(M:Nat→Nat→Prop) (w:World) (v0 v1:Value),Mid M w→Box M (fun w=>(Qc 1 false A.length (fun i=>Qe (A.getD i []))) w v0) w→Box M (fun w=>(Qc 1 false A.length (fun i=>Qe (B.getD i []))) w v1) w→Calls Tryz.prog 68 #[v0,v1] w (RetB M (Xr (Qi (.slice none 0 0)) (pB false)) w):=fun M w v0 v1 hM h2 h3=>
 (c_solved h0 hn hm hA hBl hBr hAb hBb h1 hj M w v0 v1 hM h2 h3).mono fun _ _ h=>Z6 h fun _ _ h=>h.2 hsl
theorem c_solve_ok {A:List (List Rat)} {b:List Rat} {j:Nat} (h0:0<A.length) (hn:A.length≤100000) (hA:Rect A.length A) (hbl:b.length=A.length) (hAb:BdX j A) (hb:∀k,BdR j (b.getD k 0)) (h1:1≤j) (hj:Kx j A.length≤100000000) (hsl:¬Sing A b):∀(M:Nat→Nat→Prop) (w:World) (v0 v1:Value),Mid M w→Box M (fun w=>(Qc 1 false A.length (fun i=>Qe (A.getD i []))) w v0) w→Box M (fun w=>(Qe b) w v1) w→Calls Tryz.prog 65 #[v0,v1] w (RetB M (Xr (Qe (Jj A b)) (pI 0)) w):=by
 intro M w0 v0 v1 hM hv0 hv1
 have hr:Rect 1 (Wk A (Z1 b)):=Qhx hA (fun i hi=>Wv (by omega))
 refine Yk (N:=21) Tryz.func65 rfl rfl rfl hM (show EntsA M w0 [v0,v1] [⟨none,none,0,Qc 1 false A.length (fun i=>Qe (A.getD i []))⟩,⟨none,none,1,Qe b⟩]from⟨⟨rfl,_,rfl,hv0⟩,⟨rfl,_,rfl,hv1⟩,trivial⟩) fun a hI=>?_
 refine Qj hI 2 [Uc 0 4 _,Uc 1 5 _] (.kk .z) ⟨mv,mv,trivial⟩ (.kkkk .z) fun a w hI=>?_
 refine Qj hI 9 [Uc 0 9 _,Uc 1 10 _,Uc 2 11 _,Uc 3 12 _,Uc 4 8 _,Uc 5 13 _,Uc 6 14 _,Uc 7 6 _,Uc 8 7 _] (.kkkk .z) ⟨mv,mv,Z0 ((by have h:=Qga (b:=b) (by omega) hb; rw[hbl]at h; exact h)) (Ya rfl),Ui (Qh6 h0 hn (m:=1) (j:=j) (by omega) hA (by rw[Ko]; exact hbl) (fun i hi=>Wv (by omega)) hAb (Qbs hb h1) h1 hj hsl) (Ya rfl) (Ya rfl),mv,ext,ext,mv,mv,trivial⟩ (.ddkk (.dddd (.dddk (.k .z)))) fun a w hI=>?_
 refine wp_seq ?_
 refine Qj hI 2 [Uc 0 15 _,Uc 1 16 _] (.kkkk .z) ⟨mv,nt,trivial⟩ (.kkkd (.dk .z)) fun a w hI=>?_
 refine Xv hI 3 rfl ?_
 refine wp_skip ?_
 refine Qb ?_
 refine Qj hI 6 [Uc 0 17 _,Uc 1 18 _,Uc 2 19 _,Uc 3 20 (Qe ((Qq (Wk A (Z1 b))).getD 0 [])),Uc 4 4 _,Uc 5 5 _] (.t 4 (.t 5 (.kk .z))) ⟨mv,Z0 ((by have h:=Qcp (A:=Wk A (Z1 b)) (j:=Kx j A.length) (by rw[Jx]; exact h0) (by rw[Jx]; omega) (by rw[hr 0 (by rw[Jx]; exact h0)]; omega) (fun i hi=>by rw[hr i hi,hr 0 (by rw[Jx]; exact h0)]) (solX_bd hAb (Qbs hb h1) h1); rw[Jx,hr 0 (by rw[Jx]; exact h0)]at h; exact h)) (Ya rfl),ixL Qt,Q5 (.tmp 6 rfl rfl) Xn ((Yj _)) (.here 7 rfl),mv,mv,trivial⟩ (.d8 (.kk .z)) fun a w hI=>?_
 refine wp_ret ?_
 exact K3 hI rfl (.imp (.tmp 0 rfl) (fun w v h=>by have e:=We (A:=Wk A (Z1 b)) (k:=0) (by rw[hr 0 (by rw[Jx]; exact h0)]; omega); rw[e]at h; exact h)) (.tmp 1 rfl)
theorem c_solve_no {A:List (List Rat)} {b:List Rat} {j:Nat} (h0:0<A.length) (hn:A.length≤100000) (hA:Rect A.length A) (hbl:b.length=A.length) (hAb:BdX j A) (hb:∀k,BdR j (b.getD k 0)) (h1:1≤j) (hj:Kx j A.length≤100000000) (hsl:Sing A b):∀(M:Nat→Nat→Prop) (w:World) (v0 v1:Value),Mid M w→Box M (fun w=>(Qc 1 false A.length (fun i=>Qe (A.getD i []))) w v0) w→Box M (fun w=>(Qe b) w v1) w→Calls Tryz.prog 65 #[v0,v1] w (RetB M (Xr (Qi (.slice none 0 0)) (pI 6)) w):=by
 intro M w0 v0 v1 hM hv0 hv1
 refine Yk (N:=21) Tryz.func65 rfl rfl rfl hM (show EntsA M w0 [v0,v1] [⟨none,none,0,Qc 1 false A.length (fun i=>Qe (A.getD i []))⟩,⟨none,none,1,Qe b⟩]from⟨⟨rfl,_,rfl,hv0⟩,⟨rfl,_,rfl,hv1⟩,trivial⟩) fun a hI=>?_
 refine Qj hI 2 [Uc 0 4 _,Uc 1 5 _] (.kk .z) ⟨mv,mv,trivial⟩ (.kkkk .z) fun a w hI=>?_
 refine Qj hI 9 [Uc 0 9 _,Uc 1 10 _,Uc 2 11 _,Uc 3 12 _,Uc 4 8 _,Uc 5 13 _,Uc 6 14 _,Uc 7 6 _,Uc 8 7 _] (.kkkk .z) ⟨mv,mv,Z0 ((by have h:=Qga (b:=b) (by omega) hb; rw[hbl]at h; exact h)) (Ya rfl),Ui (Qh5 h0 hn (m:=1) (j:=j) (by omega) hA (by rw[Ko]; exact hbl) (fun i hi=>Wv (by omega)) hAb (Qbs hb h1) h1 hj hsl) (Ya rfl) (Ya rfl),mv,ext,ext,mv,mv,trivial⟩ (.ddkk (.dddd (.dddk (.k .z)))) fun a w hI=>?_
 refine wp_seq ?_
 refine Qj hI 2 [Uc 0 15 _,Uc 1 16 _] (.kkkk .z) ⟨mv,nt,trivial⟩ (.kkkd (.dk .z)) fun a w hI=>?_
 refine Y9 hI 3 rfl ?_
 refine Qj hI 2 [Uc 0 4 _,Uc 1 5 _] (.t 0 (.t 1 (.kk .z))) ⟨mv,mv,trivial⟩ (.ddkd (.kk .z)) fun a w hI=>?_
 refine wp_ret ?_
 refine Xf ?_
 exact K3 hI rfl (.tmp 1 rfl) (.tmp 2 rfl)
theorem c_Solve_ok {A:List (List Rat)} {b:List Rat} {j:Nat} (hR:Right A) (hA:Rect A.length A) (hbl:b.length=A.length) (hAb:BdX j A) (hb:∀k,BdR j (b.getD k 0)) (h1:1≤j) (hj:Kx j A.length≤100000000) (hsl:¬Sing A b):∀(M:Nat→Nat→Prop) (w:World) (v0 v1:Value),Mid M w→Box M (fun w=>(Qc 1 false A.length (fun i=>Qe (A.getD i []))) w v0) w→Box M (fun w=>(Qe b) w v1) w→Calls Tryz.prog 24 #[v0,v1] w (RetB M (Xr (Qe (Jj A b)) (pI 0)) w):=by
 intro M w0 v0 v1 hM hv0 hv1
 have h0:=hR.rows.1
 have hn:=hR.rows.2
 refine Yk (N:=22) Tryz.func24 rfl rfl rfl hM (show EntsA M w0 [v0,v1] [⟨none,none,0,Qc 1 false A.length (fun i=>Qe (A.getD i []))⟩,⟨none,none,1,Qe b⟩]from⟨⟨rfl,_,rfl,hv0⟩,⟨rfl,_,rfl,hv1⟩,trivial⟩) fun a hI=>?_
 refine Qj hI 2 [Uc 0 4 _,Uc 1 5 _] (.kk .z) ⟨mv,mv,trivial⟩ (.kkkk .z) fun a w hI=>?_
 refine wp_seq ?_
 refine Qj hI 3 [Uc 0 7 _,Uc 1 8 _,Uc 2 6 _] (.kkkk .z) ⟨mv,Z0 (Qa4 hR (hA 0 h0)),mv,trivial⟩ (.kkkk (.ddk .z)) fun a w hI=>?_
 refine Qj hI 2 [Uc 0 9 _,Uc 1 10 (pB false)] (.kkkk (.k .z)) ⟨mv,Q6 (v:=.bool (false)) (.tmp 5 rfl rfl) (.const _) (fun _=>rfl) (.here 6 rfl),trivial⟩ (.kkkk (.kdk .z)) fun a w hI=>?_
 refine Xv hI 5 rfl ?_
 refine wp_skip ?_
 refine Qb ?_
 refine wp_seq ?_
 refine Qj hI 5 [Uc 0 12 _,Uc 1 13 (pI (b.length:Int)),Uc 2 14 _,Uc 3 15 (pI (A.length:Int)),Uc 4 16 (pB false)] (.kkkk (.kk .z)) ⟨mv,Qm (.tmp 6 rfl rfl) (Xb).under (.here 7 rfl),mv,Qm (.tmp 8 rfl rfl) (Qt).under (.here 9 rfl),Q6 (v:=.bool (((b.length:Int) != (A.length:Int)))) (.tmp 7 rfl rfl) (.tmp 9 rfl rfl) (fun _=>rfl) (.at_ 10 _ _ rfl (Yt ((by rw[hbl]; exact bne_self_eq_false _)))),trivial⟩ (.kkkk (.dddd (.ddk .z))) fun a w hI=>?_
 refine Xv hI 4 rfl ?_
 refine wp_skip ?_
 refine Qb ?_
 refine Qj hI 7 [Uc 0 17 _,Uc 1 18 _,Uc 2 19 _,Uc 3 20 _,Uc 4 21 _,Uc 5 4 _,Uc 6 5 _] (.kk (.t 5 (.t 6 (.k .z)))) ⟨mv,mv,Ui (c_solve_ok h0 (by omega) hA hbl hAb hb h1 hj hsl),ext,ext,mv,mv,trivial⟩ (.d8 (.ddkk .z)) fun a w hI=>?_
 refine wp_ret ?_
 exact K3 hI rfl (.tmp 0 rfl) (.tmp 1 rfl)
theorem c_Solve_no {A:List (List Rat)} {b:List Rat} {j:Nat} (hR:Right A) (hA:Rect A.length A) (hbl:b.length=A.length) (hAb:BdX j A) (hb:∀k,BdR j (b.getD k 0)) (h1:1≤j) (hj:Kx j A.length≤100000000) (hsl:Sing A b):∀(M:Nat→Nat→Prop) (w:World) (v0 v1:Value),Mid M w→Box M (fun w=>(Qc 1 false A.length (fun i=>Qe (A.getD i []))) w v0) w→Box M (fun w=>(Qe b) w v1) w→Calls Tryz.prog 24 #[v0,v1] w (RetB M (Xr (Qi (.slice none 0 0)) (pI 6)) w):=by
 intro M w0 v0 v1 hM hv0 hv1
 have h0:=hR.rows.1
 have hn:=hR.rows.2
 refine Yk (N:=22) Tryz.func24 rfl rfl rfl hM (show EntsA M w0 [v0,v1] [⟨none,none,0,Qc 1 false A.length (fun i=>Qe (A.getD i []))⟩,⟨none,none,1,Qe b⟩]from⟨⟨rfl,_,rfl,hv0⟩,⟨rfl,_,rfl,hv1⟩,trivial⟩) fun a hI=>?_
 refine Qj hI 2 [Uc 0 4 _,Uc 1 5 _] (.kk .z) ⟨mv,mv,trivial⟩ (.kkkk .z) fun a w hI=>?_
 refine wp_seq ?_
 refine Qj hI 3 [Uc 0 7 _,Uc 1 8 _,Uc 2 6 _] (.kkkk .z) ⟨mv,Z0 (Qa4 hR (hA 0 h0)),mv,trivial⟩ (.kkkk (.ddk .z)) fun a w hI=>?_
 refine Qj hI 2 [Uc 0 9 _,Uc 1 10 (pB false)] (.kkkk (.k .z)) ⟨mv,Q6 (v:=.bool (false)) (.tmp 5 rfl rfl) (.const _) (fun _=>rfl) (.here 6 rfl),trivial⟩ (.kkkk (.kdk .z)) fun a w hI=>?_
 refine Xv hI 5 rfl ?_
 refine wp_skip ?_
 refine Qb ?_
 refine wp_seq ?_
 refine Qj hI 5 [Uc 0 12 _,Uc 1 13 (pI (b.length:Int)),Uc 2 14 _,Uc 3 15 (pI (A.length:Int)),Uc 4 16 (pB false)] (.kkkk (.kk .z)) ⟨mv,Qm (.tmp 6 rfl rfl) (Xb).under (.here 7 rfl),mv,Qm (.tmp 8 rfl rfl) (Qt).under (.here 9 rfl),Q6 (v:=.bool (((b.length:Int) != (A.length:Int)))) (.tmp 7 rfl rfl) (.tmp 9 rfl rfl) (fun _=>rfl) (.at_ 10 _ _ rfl (Yt ((by rw[hbl]; exact bne_self_eq_false _)))),trivial⟩ (.kkkk (.dddd (.ddk .z))) fun a w hI=>?_
 refine Xv hI 4 rfl ?_
 refine wp_skip ?_
 refine Qb ?_
 refine Qj hI 7 [Uc 0 17 _,Uc 1 18 _,Uc 2 19 _,Uc 3 20 _,Uc 4 21 _,Uc 5 4 _,Uc 6 5 _] (.kk (.t 5 (.t 6 (.k .z)))) ⟨mv,mv,Ui (c_solve_no h0 (by omega) hA hbl hAb hb h1 hj hsl),ext,ext,mv,mv,trivial⟩ (.d8 (.ddkk .z)) fun a w hI=>?_
 refine wp_ret ?_
 exact K3 hI rfl (.tmp 0 rfl) (.tmp 1 rfl)
theorem c_Least_ok {A:List (List Rat)} {b:List Rat} {j:Nat} (hR:Right A) (hbl:b.length=A.length) (hAb:BdX j A) (hb:∀k,BdR j (b.getD k 0)) (h1:1≤j) (hj:Kx (Z8 (j+j) A.length) (A.getD 0 []).length≤100000000) (hsl:¬Sing (Jy A) (Kl A b)):∀(M:Nat→Nat→Prop) (w:World) (v0 v1:Value),Mid M w→Box M (fun w=>(Qc 1 false A.length (fun i=>Qe (A.getD i []))) w v0) w→Box M (fun w=>(Qe b) w v1) w→Calls Tryz.prog 28 #[v0,v1] w (RetB M (Xr (Qe (Jj (Jy A) (Kl A b))) (pI 0)) w):=by
 intro M w0 v0 v1 hM hv0 hv1
 have h0:=hR.rows.1
 have hn:=hR.rows.2
 have c0:=hR.cols.1
 have cn:=hR.cols.2
 have hT:(Qq A).length=(A.getD 0 []).length:=Yu A
 have hTr:Rect A.length (Qq A):=Wu
 have hTb:=Wl hAb h1
 have hT0:((Qq A).getD 0 []).length=A.length:=hTr 0 (by omega)
 have hC0:((Z1 b).getD 0 []).length=1:=Wv (by omega)
 have hCb:=Qbs hb h1
 have hdj:Z8 (j+j) A.length≤100000000:=Nat.le_trans (gjJ_mono (j:=Z8 (j+j) A.length) (Nat.zero_le _)) hj
 have hMl:(Jy A).length=(A.getD 0 []).length:=by unfold Jy; rw[V7,hT]
 have hPl:(Je (Qq A) (Qq (Z1 b))).length=(A.getD 0 []).length:=by rw[V7,hT]
 have hPr:Rect 1 (Je (Qq A) (Qq (Z1 b))):=by have h:=Qdj (A:=Qq A) (C:=Qq (Z1 b)); rw[Yu,hC0]at h; exact h
 have hBl:(Kl A b).length=(Jy A).length:=by unfold Kl; rw[Kh,hPl,hMl]
 have hMr:Rect (Jy A).length (Jy A):=by have h:=Qdj (A:=Qq A) (C:=Qq A); rw[hMl]; rw[hT]at h; exact h
 have hMb:BdX (Z8 (j+j) A.length) (Jy A):=mulT_bd hTb hTb fun i hi=>Nat.le_of_eq (hTr i hi)
 have hPb:BdX (Z8 (j+j) A.length) (Je (Qq A) (Qq (Z1 b))):=mulT_bd hTb (Wl hCb h1) fun i hi=>Nat.le_of_eq (hTr i hi)
 have hBb:∀k,BdR (Z8 (j+j) A.length) ((Kl A b).getD k 0):=bd_col hPb (Qcu _ _) 0
 have hj2:Kx (Z8 (j+j) A.length) (Jy A).length≤100000000:=by rw[hMl]; exact hj
 refine Yk (N:=33) Tryz.func28 rfl rfl rfl hM (show EntsA M w0 [v0,v1] [⟨none,none,0,Qc 1 false A.length (fun i=>Qe (A.getD i []))⟩,⟨none,none,1,Qe b⟩]from⟨⟨rfl,_,rfl,hv0⟩,⟨rfl,_,rfl,hv1⟩,trivial⟩) fun a hI=>?_
 refine Qj hI 2 [Uc 0 4 _,Uc 1 5 _] (.kk .z) ⟨mv,mv,trivial⟩ (.kkkk .z) fun a w hI=>?_
 refine wp_seq ?_
 refine Qj hI 3 [Uc 0 8 _,Uc 1 9 _,Uc 2 6 _] (.kkkk .z) ⟨mv,Z0 (Qcc hR),mv,trivial⟩ (.kkkk (.ddk .z)) fun a w hI=>?_
 refine Qj hI 2 [Uc 0 10 _,Uc 1 11 (pB false)] (.kkkk (.k .z)) ⟨mv,Q6 (v:=.bool (false)) (.tmp 5 rfl rfl) (.const _) (fun _=>rfl) (.here 6 rfl),trivial⟩ (.kkkk (.kdk .z)) fun a w hI=>?_
 refine Xv hI 5 rfl ?_
 refine wp_skip ?_
 refine Qb ?_
 refine wp_seq ?_
 refine Qj hI 5 [Uc 0 13 _,Uc 1 14 (pI (b.length:Int)),Uc 2 15 _,Uc 3 16 (pI (A.length:Int)),Uc 4 17 (pB false)] (.kkkk (.kk .z)) ⟨mv,Qm (.tmp 6 rfl rfl) (Xb).under (.here 7 rfl),mv,Qm (.tmp 8 rfl rfl) (Qt).under (.here 9 rfl),Q6 (v:=.bool (((b.length:Int) != (A.length:Int)))) (.tmp 7 rfl rfl) (.tmp 9 rfl rfl) (fun _=>rfl) (.at_ 10 _ _ rfl (Yt ((by rw[hbl]; exact bne_self_eq_false _)))),trivial⟩ (.kkkk (.dddd (.ddk .z))) fun a w hI=>?_
 refine Xv hI 4 rfl ?_
 refine wp_skip ?_
 refine Qb ?_
 refine Qj hI 3 [Uc 0 18 _,Uc 1 19 _,Uc 2 7 _] (.kkkk (.k .z)) ⟨mv,Z0 (Qcp (j:=j) h0 (by omega) (by omega) hR.rect hAb),mv,trivial⟩ (.kkkk (.dddk .z)) fun a w hI=>?_
 refine Qj hI 15 [Uc 0 20 _,Uc 1 21 _,Uc 2 22 _,Uc 3 23 _,Uc 4 24 _,Uc 5 25 _,Uc 6 26 _,Uc 7 27 _,Uc 8 28 _,Uc 9 29 (Qe ((Qq (Je (Qq A) (Qq (Z1 b)))).getD 0 [])),Uc 10 30 _,Uc 11 31 _,Uc 12 32 _,Uc 13 4 _,Uc 14 5 _] (.kk (.t 13 (.t 14 (.k .z)))) ⟨mv,mv,Ui ((by have h:=Qfe (A:=Qq A) (B:=A) (j1:=j) (j2:=j) (by omega) (by omega) hTr hR.rect (by omega) hTb hAb h1 hdj; rw[hT]at h; exact h)) (Ya rfl) (Ya rfl),mv,mv,Z0 (Qga (by omega) hb),Ui ((by have h:=Qfe (A:=Qq A) (B:=Z1 b) (j1:=j) (j2:=j) (by omega) (by rw[Ko]; omega) (fun i hi=>by rw[hTr i hi,Ko,hbl]) (fun i hi=>by rw[hC0]; rw[Ko]at hi; exact Wv hi) (by omega) hTb hCb h1 (by rw[Ko,hbl]; exact hdj); rw[hT,Ko]at h; exact h)) (Ya rfl) (Ya rfl),Z0 ((by have h:=Qcp (A:=Je (Qq A) (Qq (Z1 b))) (j:=Z8 (j+j) A.length) (by omega) (by omega) (by rw[hPr 0 (by omega)]; omega) (fun i hi=>by rw[hPr i hi,hPr 0 (by omega)]) hPb; rw[hPl,hPr 0 (by omega)]at h; exact h)) (Ya rfl),ixL Qt,Q5 (.tmp 13 rfl rfl) Xn ((Yj _)) (.here 14 rfl),Ui ((by have h:=c_solve_ok (A:=Jy A) (b:=Kl A b) (by omega) (by omega) hMr hBl hMb hBb (Qcu _ _) hj2 hsl; rw[hMl]at h; exact fun M w v0 v1 hM k0 k1=>h M w v0 v1 hM k0 (by have e:=We (A:=Je (Qq A) (Qq (Z1 b))) (k:=0) (by rw[hPr 0 (by omega)]; omega); rw[e]at k1; exact k1))) (Ya rfl) (Ya rfl),ext,ext,mv,mv,trivial⟩ (.d8 (.d8 (.ddkk .z))) fun a w hI=>?_
 refine wp_ret ?_
 exact K3 hI rfl (.tmp 0 rfl) (.tmp 1 rfl)
theorem c_Least_no {A:List (List Rat)} {b:List Rat} {j:Nat} (hR:Right A) (hbl:b.length=A.length) (hAb:BdX j A) (hb:∀k,BdR j (b.getD k 0)) (h1:1≤j) (hj:Kx (Z8 (j+j) A.length) (A.getD 0 []).length≤100000000) (hsl:Sing (Jy A) (Kl A b)):∀(M:Nat→Nat→Prop) (w:World) (v0 v1:Value),Mid M w→Box M (fun w=>(Qc 1 false A.length (fun i=>Qe (A.getD i []))) w v0) w→Box M (fun w=>(Qe b) w v1) w→Calls Tryz.prog 28 #[v0,v1] w (RetB M (Xr (Qi (.slice none 0 0)) (pI 6)) w):=by
 intro M w0 v0 v1 hM hv0 hv1
 have h0:=hR.rows.1
 have hn:=hR.rows.2
 have c0:=hR.cols.1
 have cn:=hR.cols.2
 have hT:(Qq A).length=(A.getD 0 []).length:=Yu A
 have hTr:Rect A.length (Qq A):=Wu
 have hTb:=Wl hAb h1
 have hT0:((Qq A).getD 0 []).length=A.length:=hTr 0 (by omega)
 have hC0:((Z1 b).getD 0 []).length=1:=Wv (by omega)
 have hCb:=Qbs hb h1
 have hdj:Z8 (j+j) A.length≤100000000:=Nat.le_trans (gjJ_mono (j:=Z8 (j+j) A.length) (Nat.zero_le _)) hj
 have hMl:(Jy A).length=(A.getD 0 []).length:=by unfold Jy; rw[V7,hT]
 have hPl:(Je (Qq A) (Qq (Z1 b))).length=(A.getD 0 []).length:=by rw[V7,hT]
 have hPr:Rect 1 (Je (Qq A) (Qq (Z1 b))):=by have h:=Qdj (A:=Qq A) (C:=Qq (Z1 b)); rw[Yu,hC0]at h; exact h
 have hBl:(Kl A b).length=(Jy A).length:=by unfold Kl; rw[Kh,hPl,hMl]
 have hMr:Rect (Jy A).length (Jy A):=by have h:=Qdj (A:=Qq A) (C:=Qq A); rw[hMl]; rw[hT]at h; exact h
 have hMb:BdX (Z8 (j+j) A.length) (Jy A):=mulT_bd hTb hTb fun i hi=>Nat.le_of_eq (hTr i hi)
 have hPb:BdX (Z8 (j+j) A.length) (Je (Qq A) (Qq (Z1 b))):=mulT_bd hTb (Wl hCb h1) fun i hi=>Nat.le_of_eq (hTr i hi)
 have hBb:∀k,BdR (Z8 (j+j) A.length) ((Kl A b).getD k 0):=bd_col hPb (Qcu _ _) 0
 have hj2:Kx (Z8 (j+j) A.length) (Jy A).length≤100000000:=by rw[hMl]; exact hj
 refine Yk (N:=33) Tryz.func28 rfl rfl rfl hM (show EntsA M w0 [v0,v1] [⟨none,none,0,Qc 1 false A.length (fun i=>Qe (A.getD i []))⟩,⟨none,none,1,Qe b⟩]from⟨⟨rfl,_,rfl,hv0⟩,⟨rfl,_,rfl,hv1⟩,trivial⟩) fun a hI=>?_
 refine Qj hI 2 [Uc 0 4 _,Uc 1 5 _] (.kk .z) ⟨mv,mv,trivial⟩ (.kkkk .z) fun a w hI=>?_
 refine wp_seq ?_
 refine Qj hI 3 [Uc 0 8 _,Uc 1 9 _,Uc 2 6 _] (.kkkk .z) ⟨mv,Z0 (Qcc hR),mv,trivial⟩ (.kkkk (.ddk .z)) fun a w hI=>?_
 refine Qj hI 2 [Uc 0 10 _,Uc 1 11 (pB false)] (.kkkk (.k .z)) ⟨mv,Q6 (v:=.bool (false)) (.tmp 5 rfl rfl) (.const _) (fun _=>rfl) (.here 6 rfl),trivial⟩ (.kkkk (.kdk .z)) fun a w hI=>?_
 refine Xv hI 5 rfl ?_
 refine wp_skip ?_
 refine Qb ?_
 refine wp_seq ?_
 refine Qj hI 5 [Uc 0 13 _,Uc 1 14 (pI (b.length:Int)),Uc 2 15 _,Uc 3 16 (pI (A.length:Int)),Uc 4 17 (pB false)] (.kkkk (.kk .z)) ⟨mv,Qm (.tmp 6 rfl rfl) (Xb).under (.here 7 rfl),mv,Qm (.tmp 8 rfl rfl) (Qt).under (.here 9 rfl),Q6 (v:=.bool (((b.length:Int) != (A.length:Int)))) (.tmp 7 rfl rfl) (.tmp 9 rfl rfl) (fun _=>rfl) (.at_ 10 _ _ rfl (Yt ((by rw[hbl]; exact bne_self_eq_false _)))),trivial⟩ (.kkkk (.dddd (.ddk .z))) fun a w hI=>?_
 refine Xv hI 4 rfl ?_
 refine wp_skip ?_
 refine Qb ?_
 refine Qj hI 3 [Uc 0 18 _,Uc 1 19 _,Uc 2 7 _] (.kkkk (.k .z)) ⟨mv,Z0 (Qcp (j:=j) h0 (by omega) (by omega) hR.rect hAb),mv,trivial⟩ (.kkkk (.dddk .z)) fun a w hI=>?_
 refine Qj hI 15 [Uc 0 20 _,Uc 1 21 _,Uc 2 22 _,Uc 3 23 _,Uc 4 24 _,Uc 5 25 _,Uc 6 26 _,Uc 7 27 _,Uc 8 28 _,Uc 9 29 (Qe ((Qq (Je (Qq A) (Qq (Z1 b)))).getD 0 [])),Uc 10 30 _,Uc 11 31 _,Uc 12 32 _,Uc 13 4 _,Uc 14 5 _] (.kk (.t 13 (.t 14 (.k .z)))) ⟨mv,mv,Ui ((by have h:=Qfe (A:=Qq A) (B:=A) (j1:=j) (j2:=j) (by omega) (by omega) hTr hR.rect (by omega) hTb hAb h1 hdj; rw[hT]at h; exact h)) (Ya rfl) (Ya rfl),mv,mv,Z0 (Qga (by omega) hb),Ui ((by have h:=Qfe (A:=Qq A) (B:=Z1 b) (j1:=j) (j2:=j) (by omega) (by rw[Ko]; omega) (fun i hi=>by rw[hTr i hi,Ko,hbl]) (fun i hi=>by rw[hC0]; rw[Ko]at hi; exact Wv hi) (by omega) hTb hCb h1 (by rw[Ko,hbl]; exact hdj); rw[hT,Ko]at h; exact h)) (Ya rfl) (Ya rfl),Z0 ((by have h:=Qcp (A:=Je (Qq A) (Qq (Z1 b))) (j:=Z8 (j+j) A.length) (by omega) (by omega) (by rw[hPr 0 (by omega)]; omega) (fun i hi=>by rw[hPr i hi,hPr 0 (by omega)]) hPb; rw[hPl,hPr 0 (by omega)]at h; exact h)) (Ya rfl),ixL Qt,Q5 (.tmp 13 rfl rfl) Xn ((Yj _)) (.here 14 rfl),Ui ((by have h:=c_solve_no (A:=Jy A) (b:=Kl A b) (by omega) (by omega) hMr hBl hMb hBb (Qcu _ _) hj2 hsl; rw[hMl]at h; exact fun M w v0 v1 hM k0 k1=>h M w v0 v1 hM k0 (by have e:=We (A:=Je (Qq A) (Qq (Z1 b))) (k:=0) (by rw[hPr 0 (by omega)]; omega); rw[e]at k1; exact k1))) (Ya rfl) (Ya rfl),ext,ext,mv,mv,trivial⟩ (.d8 (.d8 (.ddkk .z))) fun a w hI=>?_
 refine wp_ret ?_
 exact K3 hI rfl (.tmp 0 rfl) (.tmp 1 rfl)
end Wx

namespace Wx
open Go Go.RowKit Go.Proofs
set_option linter.unusedVariables false

end Wx

namespace Wx
attribute [local irreducible] Q0
set_option maxRecDepth 100000
open Go Go.RowKit Go.Proofs
set_option linter.unusedVariables false

theorem c_Inverse_ok {A:List (List Rat)} {j:Nat} (hR:Right A) (hA:Rect A.length A) (hAb:BdX j A) (h1:1≤j) (hj:Kx j A.length≤100000000) (hsl:¬Qa6 (Y8 A (Um A.length)) A.length):∀(M:Nat→Nat→Prop) (w:World) (v0:Value),Mid M w→Box M (fun w=>(Qc 1 false A.length (fun i=>Qe (A.getD i []))) w v0) w→Calls Tryz.prog 26 #[v0] w (RetB M (Xr (Qc 1 false A.length (fun i=>Qe ((Wk A (Um A.length)).getD i []))) (pI 0)) w):=by
 intro M w0 v0 hM hv0
 have h0:=hR.rows.1
 have hn:=hR.rows.2
 refine Yk (N:=45) Tryz.func26 rfl rfl rfl hM (show EntsA M w0 [v0] [⟨none,none,0,Qc 1 false A.length (fun i=>Qe (A.getD i []))⟩]from⟨⟨rfl,_,rfl,hv0⟩,trivial⟩) fun a hI=>?_
 refine Qj hI 2 [Uc 0 2 _,Uc 1 3 _] (.k .z) ⟨mv,mv,trivial⟩ (.kkk .z) fun a w hI=>?_
 refine wp_seq ?_
 refine Qj hI 3 [Uc 0 9 _,Uc 1 10 _,Uc 2 4 _] (.kkk .z) ⟨mv,Z0 (Qa4 hR (hA 0 h0)),mv,trivial⟩ (.kkkd (.dk .z)) fun a w hI=>?_
 refine Qj hI 2 [Uc 0 11 _,Uc 1 12 (pB false)] (.kkkk .z) ⟨mv,Q6 (v:=.bool (false)) (.tmp 4 rfl rfl) (.const _) (fun _=>rfl) (.here 5 rfl),trivial⟩ (.kkkk (.dk .z)) fun a w hI=>?_
 refine Xv hI 4 rfl ?_
 refine wp_skip ?_
 refine Qb ?_
 refine Vz hI [⟨16,16,some 2,none,.obj,0,0,false,pMade 1 false A.length (Zm (.slice none 0 0)),[]⟩] [] [⟨some 0,none,14,Qc 1 false A.length (fun i=>Qe (A.getD i []))⟩,⟨some 1,none,15,pI (A.length:Int)⟩] .z (.kkkk (.k .z)) rfl [0,1,3,7] 3 (by kernel_rfl) ?_ (.k .z) (.kkkd (.ddd .z)) (fun a w hI=>hI.openMade 0 rfl (by kernel_rfl)) (⟨_,U2 fun l hC a w hI=>Jw hI [] [⟨some 0,none,5,Qi (.slice (some ⟨l,0,none⟩) A.length A.length)⟩] (.k .z) (.kkkk .z) (by kernel_rfl) (Ys (.tmp 0 rfl rfl) (.here 4 rfl)) (.k .z) (.dkkk (.k .z)),
   rfl⟩) ?_
 ·exact⟨Qx (.tmp 0 rfl rfl) (.here 5 rfl),Qm (.tmp 5 rfl rfl) (Qt).under (.here 6 rfl),Qbg (zv:=.slice none 0 0) (z:=[.slice none 0 0]) 0 rfl rfl rfl rfl rfl (by kernel_rfl) (.tmp 6 rfl rfl) (.tmp 6 rfl rfl) (Qt).under (by kernel_rfl) rfl rfl (by omega) (fun u hu=>by rw[List.mem_singleton.1 hu]; exact Jz _ _ _) (fun _=>rfl) (by omega) (.none (by kernel_rfl)),trivial⟩
 ·rintro a w ⟨g,hC,hI⟩
  have hC:True:=hC
  refine wp_seq ?_
  refine Q3 hI 3 [] [] [Uc 0 17 _,Uc 1 18 (pI (A.length:Int)),Uc 2 19 _] (.k .z) (.kkkk .z) ⟨mv,Uz (.tmp 4 rfl rfl) (Qt).under (.here 5 rfl),mv,trivial⟩ (.k .z) (.kkkk (.dkk .z)) fun a w hI=>?_
  refine wp_block ?_
  refine Q9 (fun(q:BI) a w=>(q.k≤A.length∧BldOk g A.length q.R (oneB A.length q.k) q.H)∧Inv ⟨45,w0,M,fun _=>False⟩ [⟨16,16,none,none,.obj,0,0,false,Zo q.H,[]⟩] [] [⟨none,none,0,Qc 1 false A.length (fun i=>Qe (A.getD i []))⟩,⟨none,none,2,Qi ((Value.slice none 0 0))⟩,⟨none,none,3,pI 0⟩,⟨none,none,5,Qi (.slice (some ⟨g,0,none⟩) A.length A.length)⟩,⟨none,none,18,pI (A.length:Int)⟩,⟨none,none,19,pI (q.k:Int)⟩] Qf a w) (fun(q:BI)=>A.length-q.k) (⟨0,List.replicate A.length ⟨0,0,0⟩,[⟨g,1,false,List.replicate A.length (Zm (.slice none 0 0))⟩]⟩) ⟨⟨Nat.zero_le _,by have h:=bld_nil g A.length; rw[← oneB_zero]at h; exact h⟩,(hI.conv ⟨⟨0,_,_,rfl,⟨rfl,rfl,rfl⟩,rfl,fun _=>(fun _ _ h=>h)⟩,trivial⟩ ⟨⟨rfl,rfl,0,_,rfl,fun _ _ h=>h⟩,⟨rfl,rfl,1,_,rfl,fun _ _ h=>h⟩,⟨rfl,rfl,2,_,rfl,fun _ _ h=>h⟩,⟨rfl,rfl,3,_,rfl,fun _ _ h=>h⟩,⟨rfl,rfl,4,_,rfl,fun _ _ h=>h⟩,⟨rfl,rfl,5,_,rfl,(Qw rfl)⟩,trivial⟩)⟩ ?_
  intro q a w hIk
  obtain⟨⟨hk,hB⟩,hI⟩:=hIk
  refine Q3 hI 1 [] [] [Uc 0 20 _] (.k .z) (.kkkk (.kk .z)) ⟨bl,trivial⟩ (.k .z) (.kkkk (.kkk .z)) fun a w hI=>?_
  refine wp_seq ?_
  refine Xa hI 6 rfl (fun ht=>?_) (fun ht=>?_)
  ·have t1:=of_decide_eq_true ht
   refine wp_skip ?_
   refine Qb ?_
   refine wp_seq ?_
   refine wp_block ?_
   refine Q3 hI 2 [] [] [Uc 0 21 _,Uc 1 6 _] (.k .z) (.kkkk (.kkk .z)) ⟨mv,mv,trivial⟩ (.k .z) (.kkkk (.kkdd (.k .z))) fun a w hI=>?_
   have hoff:∀r:RowL,(∀e,e∈q.H→e.b≠r.b)→g≠r.b:=fun r h=>h _ hB.top
   refine Vz hI [⟨26,26,some 4,none,.obj,0,0,false,pApp q.H (.slice none 0 0) [] (List.replicate A.length 0),[]⟩] [] [⟨some 0,none,22,Qi (.slice (some ⟨g,0,none⟩) A.length A.length)⟩,⟨some 1,none,23,pI (q.k:Int)⟩,⟨some 2,none,24,Qc 1 false A.length (fun i=>Qe (A.getD i []))⟩,⟨some 3,none,25,pI (A.length:Int)⟩] (.u (some 4) [] .z) (.kkkk (.kkk .z)) rfl [0,1,3,7,15,31,63] 5 (by kernel_rfl) ?_ (.d (.k .z)) (.k8 (.kdd .z)) (fun a w hI=>hI.openApp 0 rfl (by kernel_rfl)) (⟨_,U2 fun l hC a w hI=>Jw hI [] [⟨some 0,none,27,Qi (.pointer (some ⟨g,0+((q.k:Int)).toNat*1,none⟩))⟩] (.k .z) (.k8 (.kk .z)) (by kernel_rfl) (Qs (.tmp 8 rfl rfl) (.tmp 9 rfl rfl) Qt (by omega) (by omega) (by kernel_rfl) (.here 10 rfl)) (.k .z) (.k8 (.ddk .z)),
     _,U2 fun l hC a w hI=>Jw hI [] [] (.u none [(0,Zo (Ye (Kz q.H l.b (Xj (List.replicate A.length 0) l.cap)) g q.k (Zm l.hdr)))] .z) (.k8 (.k .z)) (by kernel_rfl) (Zn (e:=⟨g,1,false,J3 q.R⟩) (idx:=q.k) (it:=Zm l.hdr) 0 rfl rfl rfl (by kernel_rfl) 0 rfl (by kernel_rfl) (by kernel_rfl) rfl (.tmp 8 rfl rfl) (Vk hB.top (hoff l (Qbq hC).2)) rfl (by rw[Qb9]; have:=hB.len.1; omega) (show 0+((q.k:Int)).toNat*1=q.k*1 by omega) Xn (.tmp 0 rfl rfl) (Vo _ _ _)) (.s .o .z) (.dkkk (.kkkk (.d .z))),
     rfl⟩) ?_
   ·exact⟨Qx (.tmp 3 rfl rfl) (.here 7 rfl),Qx (.tmp 6 rfl rfl) (.here 8 rfl),Qx (.tmp 0 rfl rfl) (.here 9 rfl),Qm (.tmp 9 rfl rfl) (Qt).under (.here 10 rfl),Qg4 (n:=A.length) (zv:=.agg #[.bool false,.slice none 0 0,.slice none 0 0]) (z:=[.bool false,.slice none 0 0,.slice none 0 0]) 0 rfl rfl rfl rfl (by kernel_rfl) rfl 1 rfl rfl rfl rfl rfl (by kernel_rfl) (.tmp 10 rfl rfl) (.tmp 10 rfl rfl) (Xb).under (by kernel_rfl) rfl rfl (by simp[Yw]) (fun w=>Jd w) (by omega) (.none (by kernel_rfl)),trivial⟩
   ·rintro a w ⟨l,hC,hI⟩
    have hC:AppOk q.H (.slice none 0 0) [] (List.replicate A.length 0) l:=hC
    have hnew:=Qbq hC
    rw[List.length_replicate]at hnew
    have hB1:=hB.put (i:=q.k) (l:=List.replicate A.length 0) (r':=l) (by omega) (by rw[List.length_replicate]; omega) (Qbq hC).1 hC.2.1 hC.2.2.1 (.inr hnew.2)
    have hq1:=hB.len.1
    have hra:Xe (q.R.set q.k l) q.k=l:=by rw[Qhr (by omega),if_pos rfl]
    have htop:(J3 (q.R.set q.k l))[q.k]?=some (Zm l.hdr):=by rw[Qb8 (by rw[List.length_set]; omega),hra,V6 (by omega)]
    have hmem:(⟨l.b,3,true,Xj (List.replicate A.length 0) l.cap⟩:Bk)∈Ye (Kz q.H l.b (Xj (List.replicate A.length 0) l.cap)) g q.k (Zm l.hdr):=Qay Qei (Ne.symm (hoff l hnew.2))
    have hcap:=hC.2.1
    have hcap2:=hC.2.2.1
    refine srD hI [0,0,3,7,0,0,63,127] [] [] [Uc 0 28 _,Uc 1 29 _,Uc 2 30 (Qi (.pointer (some ⟨g,0+((q.k:Int)).toNat*1,none⟩))),Uc 3 31 (Qi (.slice (some ⟨l.b,0,none⟩) l.n l.cap)),Uc 4 32 _,Uc 5 33 _,Uc 6 34 (Qi (.pointer (some ⟨l.b,0+((q.k:Int)).toNat*3,none⟩)))] (.u none [(7,Zo (Ye (Ye (Kz q.H l.b (Xj (List.replicate A.length 0) l.cap)) g q.k (Zm l.hdr)) l.b q.k (itR 1)))] .z) (.kkkk (.kkk .z)) ⟨mv,mv,Qs (.tmp 7 rfl rfl) (.tmp 8 rfl rfl) Qt (by omega) (by omega) (by kernel_rfl) (.here 9 rfl),Yv (e:=⟨g,1,false,J3 (q.R.set q.k l)⟩) (idx:=q.k) 0 rfl rfl rfl (by kernel_rfl) rfl (.tmp 9 rfl rfl) hB1.top rfl htop (show 0+((q.k:Int)).toNat*1=q.k*1 by omega) Xn (.here 10 rfl),mv,ce1 (Zf _) ((by have h:=c_int 1 (by omega) (by omega); rw[show((1:Int):Rat)=1 from rfl]at h; exact h)) (.const _),Qs (.tmp 10 rfl rfl) (.tmp 11 rfl rfl) Xb (by omega) (by omega) (by kernel_rfl) (.here 13 rfl),Zn (e:=⟨l.b,3,true,Xj (List.replicate A.length 0) l.cap⟩) (idx:=q.k) (it:=itR 1) 0 rfl rfl rfl (by kernel_rfl) 0 rfl (by kernel_rfl) (by kernel_rfl) rfl (.tmp 13 rfl rfl) hmem rfl (Qgu (by rw[List.length_replicate]; omega)) (show 0+((q.k:Int)).toNat*3=q.k*3 by omega) Xx (.tmp 12 rfl rfl) (Ym _),trivial⟩ (.s .o .z) (.kkkk (.kkdd (.dddd (.dd .z)))) fun a w hI=>?_
    refine Xo ?_
    refine Qb ?_
    refine Z3 hI 2 [] [] [Uc 0 35 _,Uc 1 19 _] (.k .z) (.kkkk (.k (.t 1 .z))) ⟨bl,mv,trivial⟩ (.k .z) (.kkkk (.kddk .z)) fun a w hI=>?_
    refine Qb ?_
    replace hI:=hI.reobj 16 16 (n0:=0) rfl (by kernel_rfl) (by kernel_rfl)
    exact⟨⟨q.k+1,(q.R.set q.k l),Ye (Ye (Kz q.H l.b (Xj (List.replicate A.length 0) l.cap)) g q.k (Zm l.hdr)) l.b q.k (itR 1)⟩,⟨⟨by show q.k+1≤A.length; omega,by have h:=hB1.setItem (i:=q.k) (k:=q.k) (q:=1) (by omega) (by rw[oneB_at (by omega),List.length_replicate]; omega); rw[hra,oneB_step (by omega)]at h; exact h⟩,(hI.conv ⟨⟨0,_,_,rfl,⟨rfl,rfl,rfl⟩,rfl,fun _=>fun _ _ h=>h⟩,trivial⟩ ⟨⟨rfl,rfl,0,_,rfl,fun _ _ h=>h⟩,⟨rfl,rfl,1,_,rfl,fun _ _ h=>h⟩,⟨rfl,rfl,2,_,rfl,fun _ _ h=>h⟩,⟨rfl,rfl,3,_,rfl,fun _ _ h=>h⟩,⟨rfl,rfl,4,_,rfl,fun _ _ h=>h⟩,⟨rfl,rfl,5,_,rfl,(Qw (by show((q.k:Int)+1)=((q.k+1:Nat):Int); omega))⟩,trivial⟩)⟩,(show A.length-(q.k+1)<A.length-q.k by omega)⟩
  ·have t2:=of_decide_eq_false ht
   refine wp_exit ?_
   refine Ql ?_
   refine Ql ?_
   refine Q7 ?_
   refine Qb ?_
   replace hI:=hI.restObj (n0:=0) (k:=3) (p:=Qc 1 false A.length (fun i=>Qe ((Um A.length).getD i []))) rfl (by kernel_rfl) rfl (fun B w hH=>by have h:=hB.read (cap:=A.length) (Nat.le_refl _) (by unfold maxLen; omega) (fun i hi=>by rw[Qcy hi,if_pos (by omega),Qe0]; omega) B w hH; rw[show q.k=A.length by omega,oneB_end]at h; exact h)
   refine Qj hI 8 [Uc 0 37 _,Uc 1 38 _,Uc 2 39 _,Uc 3 36 _,Uc 4 40 _,Uc 5 41 _,Uc 6 7 _,Uc 7 8 _] (.kkkk (.kkk .z)) ⟨mv,mv,Ui (Qh6 h0 (m:=A.length) (j:=j) (by omega) (by omega) hA Qgp (fun i hi=>Qam hi) hAb (oneM_bd h1) h1 hj hsl),mv,ext,ext,mv,mv,trivial⟩ (.ddkk (.d8 (.dkk .z))) fun a w hI=>?_
   refine wp_seq ?_
   refine Qj hI 2 [Uc 0 42 _,Uc 1 43 _] (.kkkk .z) ⟨mv,nt,trivial⟩ (.kkkd (.dk .z)) fun a w hI=>?_
   refine Xv hI 3 rfl ?_
   refine wp_skip ?_
   refine Qb ?_
   refine Qj hI 3 [Uc 0 44 _,Uc 1 2 _,Uc 2 3 _] (.t 1 (.t 2 (.kk .z))) ⟨mv,mv,mv,trivial⟩ (.dddd (.dkk .z)) fun a w hI=>?_
   refine wp_ret ?_
   exact K3 hI rfl (.tmp 0 rfl) (.tmp 1 rfl)
theorem c_Inverse_no {A:List (List Rat)} {j:Nat} (hR:Right A) (hA:Rect A.length A) (hAb:BdX j A) (h1:1≤j) (hj:Kx j A.length≤100000000) (hsl:Qa6 (Y8 A (Um A.length)) A.length):∀(M:Nat→Nat→Prop) (w:World) (v0:Value),Mid M w→Box M (fun w=>(Qc 1 false A.length (fun i=>Qe (A.getD i []))) w v0) w→Calls Tryz.prog 26 #[v0] w (RetB M (Xr (Qi (.slice none 0 0)) (pI 6)) w):=by
 intro M w0 v0 hM hv0
 have h0:=hR.rows.1
 have hn:=hR.rows.2
 refine Yk (N:=45) Tryz.func26 rfl rfl rfl hM (show EntsA M w0 [v0] [⟨none,none,0,Qc 1 false A.length (fun i=>Qe (A.getD i []))⟩]from⟨⟨rfl,_,rfl,hv0⟩,trivial⟩) fun a hI=>?_
 refine Qj hI 2 [Uc 0 2 _,Uc 1 3 _] (.k .z) ⟨mv,mv,trivial⟩ (.kkk .z) fun a w hI=>?_
 refine wp_seq ?_
 refine Qj hI 3 [Uc 0 9 _,Uc 1 10 _,Uc 2 4 _] (.kkk .z) ⟨mv,Z0 (Qa4 hR (hA 0 h0)),mv,trivial⟩ (.kkkd (.dk .z)) fun a w hI=>?_
 refine Qj hI 2 [Uc 0 11 _,Uc 1 12 (pB false)] (.kkkk .z) ⟨mv,Q6 (v:=.bool (false)) (.tmp 4 rfl rfl) (.const _) (fun _=>rfl) (.here 5 rfl),trivial⟩ (.kkkk (.dk .z)) fun a w hI=>?_
 refine Xv hI 4 rfl ?_
 refine wp_skip ?_
 refine Qb ?_
 refine Vz hI [⟨16,16,some 2,none,.obj,0,0,false,pMade 1 false A.length (Zm (.slice none 0 0)),[]⟩] [] [⟨some 0,none,14,Qc 1 false A.length (fun i=>Qe (A.getD i []))⟩,⟨some 1,none,15,pI (A.length:Int)⟩] .z (.kkkk (.k .z)) rfl [0,1,3,7] 3 (by kernel_rfl) ?_ (.k .z) (.kkkd (.ddd .z)) (fun a w hI=>hI.openMade 0 rfl (by kernel_rfl)) (⟨_,U2 fun l hC a w hI=>Jw hI [] [⟨some 0,none,5,Qi (.slice (some ⟨l,0,none⟩) A.length A.length)⟩] (.k .z) (.kkkk .z) (by kernel_rfl) (Ys (.tmp 0 rfl rfl) (.here 4 rfl)) (.k .z) (.dkkk (.k .z)),
   rfl⟩) ?_
 ·exact⟨Qx (.tmp 0 rfl rfl) (.here 5 rfl),Qm (.tmp 5 rfl rfl) (Qt).under (.here 6 rfl),Qbg (zv:=.slice none 0 0) (z:=[.slice none 0 0]) 0 rfl rfl rfl rfl rfl (by kernel_rfl) (.tmp 6 rfl rfl) (.tmp 6 rfl rfl) (Qt).under (by kernel_rfl) rfl rfl (by omega) (fun u hu=>by rw[List.mem_singleton.1 hu]; exact Jz _ _ _) (fun _=>rfl) (by omega) (.none (by kernel_rfl)),trivial⟩
 ·rintro a w ⟨g,hC,hI⟩
  have hC:True:=hC
  refine wp_seq ?_
  refine Q3 hI 3 [] [] [Uc 0 17 _,Uc 1 18 (pI (A.length:Int)),Uc 2 19 _] (.k .z) (.kkkk .z) ⟨mv,Uz (.tmp 4 rfl rfl) (Qt).under (.here 5 rfl),mv,trivial⟩ (.k .z) (.kkkk (.dkk .z)) fun a w hI=>?_
  refine wp_block ?_
  refine Q9 (fun(q:BI) a w=>(q.k≤A.length∧BldOk g A.length q.R (oneB A.length q.k) q.H)∧Inv ⟨45,w0,M,fun _=>False⟩ [⟨16,16,none,none,.obj,0,0,false,Zo q.H,[]⟩] [] [⟨none,none,0,Qc 1 false A.length (fun i=>Qe (A.getD i []))⟩,⟨none,none,2,Qi ((Value.slice none 0 0))⟩,⟨none,none,3,pI 0⟩,⟨none,none,5,Qi (.slice (some ⟨g,0,none⟩) A.length A.length)⟩,⟨none,none,18,pI (A.length:Int)⟩,⟨none,none,19,pI (q.k:Int)⟩] Qf a w) (fun(q:BI)=>A.length-q.k) (⟨0,List.replicate A.length ⟨0,0,0⟩,[⟨g,1,false,List.replicate A.length (Zm (.slice none 0 0))⟩]⟩) ⟨⟨Nat.zero_le _,by have h:=bld_nil g A.length; rw[← oneB_zero]at h; exact h⟩,(hI.conv ⟨⟨0,_,_,rfl,⟨rfl,rfl,rfl⟩,rfl,fun _=>(fun _ _ h=>h)⟩,trivial⟩ ⟨⟨rfl,rfl,0,_,rfl,fun _ _ h=>h⟩,⟨rfl,rfl,1,_,rfl,fun _ _ h=>h⟩,⟨rfl,rfl,2,_,rfl,fun _ _ h=>h⟩,⟨rfl,rfl,3,_,rfl,fun _ _ h=>h⟩,⟨rfl,rfl,4,_,rfl,fun _ _ h=>h⟩,⟨rfl,rfl,5,_,rfl,(Qw rfl)⟩,trivial⟩)⟩ ?_
  intro q a w hIk
  obtain⟨⟨hk,hB⟩,hI⟩:=hIk
  refine Q3 hI 1 [] [] [Uc 0 20 _] (.k .z) (.kkkk (.kk .z)) ⟨bl,trivial⟩ (.k .z) (.kkkk (.kkk .z)) fun a w hI=>?_
  refine wp_seq ?_
  refine Xa hI 6 rfl (fun ht=>?_) (fun ht=>?_)
  ·have t1:=of_decide_eq_true ht
   refine wp_skip ?_
   refine Qb ?_
   refine wp_seq ?_
   refine wp_block ?_
   refine Q3 hI 2 [] [] [Uc 0 21 _,Uc 1 6 _] (.k .z) (.kkkk (.kkk .z)) ⟨mv,mv,trivial⟩ (.k .z) (.kkkk (.kkdd (.k .z))) fun a w hI=>?_
   have hoff:∀r:RowL,(∀e,e∈q.H→e.b≠r.b)→g≠r.b:=fun r h=>h _ hB.top
   refine Vz hI [⟨26,26,some 4,none,.obj,0,0,false,pApp q.H (.slice none 0 0) [] (List.replicate A.length 0),[]⟩] [] [⟨some 0,none,22,Qi (.slice (some ⟨g,0,none⟩) A.length A.length)⟩,⟨some 1,none,23,pI (q.k:Int)⟩,⟨some 2,none,24,Qc 1 false A.length (fun i=>Qe (A.getD i []))⟩,⟨some 3,none,25,pI (A.length:Int)⟩] (.u (some 4) [] .z) (.kkkk (.kkk .z)) rfl [0,1,3,7,15,31,63] 5 (by kernel_rfl) ?_ (.d (.k .z)) (.k8 (.kdd .z)) (fun a w hI=>hI.openApp 0 rfl (by kernel_rfl)) (⟨_,U2 fun l hC a w hI=>Jw hI [] [⟨some 0,none,27,Qi (.pointer (some ⟨g,0+((q.k:Int)).toNat*1,none⟩))⟩] (.k .z) (.k8 (.kk .z)) (by kernel_rfl) (Qs (.tmp 8 rfl rfl) (.tmp 9 rfl rfl) Qt (by omega) (by omega) (by kernel_rfl) (.here 10 rfl)) (.k .z) (.k8 (.ddk .z)),
     _,U2 fun l hC a w hI=>Jw hI [] [] (.u none [(0,Zo (Ye (Kz q.H l.b (Xj (List.replicate A.length 0) l.cap)) g q.k (Zm l.hdr)))] .z) (.k8 (.k .z)) (by kernel_rfl) (Zn (e:=⟨g,1,false,J3 q.R⟩) (idx:=q.k) (it:=Zm l.hdr) 0 rfl rfl rfl (by kernel_rfl) 0 rfl (by kernel_rfl) (by kernel_rfl) rfl (.tmp 8 rfl rfl) (Vk hB.top (hoff l (Qbq hC).2)) rfl (by rw[Qb9]; have:=hB.len.1; omega) (show 0+((q.k:Int)).toNat*1=q.k*1 by omega) Xn (.tmp 0 rfl rfl) (Vo _ _ _)) (.s .o .z) (.dkkk (.kkkk (.d .z))),
     rfl⟩) ?_
   ·exact⟨Qx (.tmp 3 rfl rfl) (.here 7 rfl),Qx (.tmp 6 rfl rfl) (.here 8 rfl),Qx (.tmp 0 rfl rfl) (.here 9 rfl),Qm (.tmp 9 rfl rfl) (Qt).under (.here 10 rfl),Qg4 (n:=A.length) (zv:=.agg #[.bool false,.slice none 0 0,.slice none 0 0]) (z:=[.bool false,.slice none 0 0,.slice none 0 0]) 0 rfl rfl rfl rfl (by kernel_rfl) rfl 1 rfl rfl rfl rfl rfl (by kernel_rfl) (.tmp 10 rfl rfl) (.tmp 10 rfl rfl) (Xb).under (by kernel_rfl) rfl rfl (by simp[Yw]) (fun w=>Jd w) (by omega) (.none (by kernel_rfl)),trivial⟩
   ·rintro a w ⟨l,hC,hI⟩
    have hC:AppOk q.H (.slice none 0 0) [] (List.replicate A.length 0) l:=hC
    have hnew:=Qbq hC
    rw[List.length_replicate]at hnew
    have hB1:=hB.put (i:=q.k) (l:=List.replicate A.length 0) (r':=l) (by omega) (by rw[List.length_replicate]; omega) (Qbq hC).1 hC.2.1 hC.2.2.1 (.inr hnew.2)
    have hq1:=hB.len.1
    have hra:Xe (q.R.set q.k l) q.k=l:=by rw[Qhr (by omega),if_pos rfl]
    have htop:(J3 (q.R.set q.k l))[q.k]?=some (Zm l.hdr):=by rw[Qb8 (by rw[List.length_set]; omega),hra,V6 (by omega)]
    have hmem:(⟨l.b,3,true,Xj (List.replicate A.length 0) l.cap⟩:Bk)∈Ye (Kz q.H l.b (Xj (List.replicate A.length 0) l.cap)) g q.k (Zm l.hdr):=Qay Qei (Ne.symm (hoff l hnew.2))
    have hcap:=hC.2.1
    have hcap2:=hC.2.2.1
    refine srD hI [0,0,3,7,0,0,63,127] [] [] [Uc 0 28 _,Uc 1 29 _,Uc 2 30 (Qi (.pointer (some ⟨g,0+((q.k:Int)).toNat*1,none⟩))),Uc 3 31 (Qi (.slice (some ⟨l.b,0,none⟩) l.n l.cap)),Uc 4 32 _,Uc 5 33 _,Uc 6 34 (Qi (.pointer (some ⟨l.b,0+((q.k:Int)).toNat*3,none⟩)))] (.u none [(7,Zo (Ye (Ye (Kz q.H l.b (Xj (List.replicate A.length 0) l.cap)) g q.k (Zm l.hdr)) l.b q.k (itR 1)))] .z) (.kkkk (.kkk .z)) ⟨mv,mv,Qs (.tmp 7 rfl rfl) (.tmp 8 rfl rfl) Qt (by omega) (by omega) (by kernel_rfl) (.here 9 rfl),Yv (e:=⟨g,1,false,J3 (q.R.set q.k l)⟩) (idx:=q.k) 0 rfl rfl rfl (by kernel_rfl) rfl (.tmp 9 rfl rfl) hB1.top rfl htop (show 0+((q.k:Int)).toNat*1=q.k*1 by omega) Xn (.here 10 rfl),mv,ce1 (Zf _) ((by have h:=c_int 1 (by omega) (by omega); rw[show((1:Int):Rat)=1 from rfl]at h; exact h)) (.const _),Qs (.tmp 10 rfl rfl) (.tmp 11 rfl rfl) Xb (by omega) (by omega) (by kernel_rfl) (.here 13 rfl),Zn (e:=⟨l.b,3,true,Xj (List.replicate A.length 0) l.cap⟩) (idx:=q.k) (it:=itR 1) 0 rfl rfl rfl (by kernel_rfl) 0 rfl (by kernel_rfl) (by kernel_rfl) rfl (.tmp 13 rfl rfl) hmem rfl (Qgu (by rw[List.length_replicate]; omega)) (show 0+((q.k:Int)).toNat*3=q.k*3 by omega) Xx (.tmp 12 rfl rfl) (Ym _),trivial⟩ (.s .o .z) (.kkkk (.kkdd (.dddd (.dd .z)))) fun a w hI=>?_
    refine Xo ?_
    refine Qb ?_
    refine Z3 hI 2 [] [] [Uc 0 35 _,Uc 1 19 _] (.k .z) (.kkkk (.k (.t 1 .z))) ⟨bl,mv,trivial⟩ (.k .z) (.kkkk (.kddk .z)) fun a w hI=>?_
    refine Qb ?_
    replace hI:=hI.reobj 16 16 (n0:=0) rfl (by kernel_rfl) (by kernel_rfl)
    exact⟨⟨q.k+1,(q.R.set q.k l),Ye (Ye (Kz q.H l.b (Xj (List.replicate A.length 0) l.cap)) g q.k (Zm l.hdr)) l.b q.k (itR 1)⟩,⟨⟨by show q.k+1≤A.length; omega,by have h:=hB1.setItem (i:=q.k) (k:=q.k) (q:=1) (by omega) (by rw[oneB_at (by omega),List.length_replicate]; omega); rw[hra,oneB_step (by omega)]at h; exact h⟩,(hI.conv ⟨⟨0,_,_,rfl,⟨rfl,rfl,rfl⟩,rfl,fun _=>fun _ _ h=>h⟩,trivial⟩ ⟨⟨rfl,rfl,0,_,rfl,fun _ _ h=>h⟩,⟨rfl,rfl,1,_,rfl,fun _ _ h=>h⟩,⟨rfl,rfl,2,_,rfl,fun _ _ h=>h⟩,⟨rfl,rfl,3,_,rfl,fun _ _ h=>h⟩,⟨rfl,rfl,4,_,rfl,fun _ _ h=>h⟩,⟨rfl,rfl,5,_,rfl,(Qw (by show((q.k:Int)+1)=((q.k+1:Nat):Int); omega))⟩,trivial⟩)⟩,(show A.length-(q.k+1)<A.length-q.k by omega)⟩
  ·have t2:=of_decide_eq_false ht
   refine wp_exit ?_
   refine Ql ?_
   refine Ql ?_
   refine Q7 ?_
   refine Qb ?_
   replace hI:=hI.restObj (n0:=0) (k:=3) (p:=Qc 1 false A.length (fun i=>Qe ((Um A.length).getD i []))) rfl (by kernel_rfl) rfl (fun B w hH=>by have h:=hB.read (cap:=A.length) (Nat.le_refl _) (by unfold maxLen; omega) (fun i hi=>by rw[Qcy hi,if_pos (by omega),Qe0]; omega) B w hH; rw[show q.k=A.length by omega,oneB_end]at h; exact h)
   refine Qj hI 8 [Uc 0 37 _,Uc 1 38 _,Uc 2 39 _,Uc 3 36 _,Uc 4 40 _,Uc 5 41 _,Uc 6 7 _,Uc 7 8 _] (.kkkk (.kkk .z)) ⟨mv,mv,Ui (Qh5 h0 (m:=A.length) (j:=j) (by omega) (by omega) hA Qgp (fun i hi=>Qam hi) hAb (oneM_bd h1) h1 hj hsl),mv,ext,ext,mv,mv,trivial⟩ (.ddkk (.d8 (.dkk .z))) fun a w hI=>?_
   refine wp_seq ?_
   refine Qj hI 2 [Uc 0 42 _,Uc 1 43 _] (.kkkk .z) ⟨mv,nt,trivial⟩ (.kkkd (.dk .z)) fun a w hI=>?_
   refine Y9 hI 3 rfl ?_
   refine Qj hI 2 [Uc 0 2 _,Uc 1 3 _] (.t 0 (.t 1 (.kk .z))) ⟨mv,mv,trivial⟩ (.ddkd (.kk .z)) fun a w hI=>?_
   refine wp_ret ?_
   refine Xf ?_
   exact K3 hI rfl (.tmp 1 rfl) (.tmp 2 rfl)
end Wx
