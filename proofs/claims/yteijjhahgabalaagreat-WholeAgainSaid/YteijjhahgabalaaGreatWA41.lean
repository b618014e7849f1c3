/- The contracts of package cna: looks. (Printed by gen_cna.py.) -/
import Derived.WalkMore
import Derived.ScopeJumps
import Derived.Deep.DeepCutAuto
import Derived.Test.YteijjhahgabalaaGreatWA33
import Derived.Test.YteijjhahgabalaaGreatWA06
set_option maxRecDepth 100000
set_option maxHeartbeats 8000000
set_option linter.all false
namespace Go.Proofs.YteijjhahgabalaaGreat
open Go.RowKit
open Tryz
theorem EB {P:Program} {a:Act} {w:World} {Q:Exit→Act→World→Prop} {c rest:Code} (l:Nat) (hf:findLabel c l=some rest) (first:c.wp P (Exit.jump l (fun a w=>rest.wp P (Exit.noGoto Q) a w) Q) a w):(Code.scope c).wp P Q a w:=
 wp_scope_jumps l (fun a w=>rest.wp P (Exit.noGoto Q) a w) (fun _ _=>0) hf first (fun a w h=>Code.wp_mono (fun e a w q=>by cases e<;>first|exact q|exact q.elim) h)
section
variable{w w':World} {B:BH} {M:B6} {X:An}
theorem A1.scan (h:A1 w B M X) {K:JU} (hf:ae [B.sc.kb] w w') (hK:BX w' B.sc M.sc K):A1 w' B M {X with K:=K}:=by
 have hn:=h.ne;have hq:dI w [B.sc.kb]:=h.free.sub (by simp[Aq]);exact h.re hf hq hK (h.row.frm hf aQ) (h.ar.frm hf aQ aQ)
theorem A1.walk (h:A1 w B M X) {K:JU} {A:AR} (hf:ae [B.sc.kb,B.sc.ab,B.wb] w w') (hK:BX w' B.sc M.sc K) (hA:aj w' B.sc.ab B.wb A):A1 w' B M ⟨A,X.S,K⟩:=by
 have hn:=h.ne;have hq:dI w [B.sc.kb,B.sc.ab,B.wb]:=h.free.sub (by simp[Aq,BH.ab]);refine h.re (X':=⟨A,X.S,K⟩) hf hq hK (h.row.frm hf ?_) hA;have n4:B.sb≠B.sc.ab:=hn.2.2.2.1;simp;omega
theorem Jg (h:A1 w B M X) {j:Nat} (hj:j<M.n) (h0:X.S j 0=17) (hb:M.bud≤(X.A.get (an M))):Calls prog 291 #[some B.lb,.pointer (some ⟨B.sb,j*4,none⟩),((j:Int)+1:Int)] w fun e w'=>e= .returned (Gl (decide (0<X.S j 2)) 25 29:Int)∧A1 w' B M ⟨X.A.load (an M),ac X.S j 3 (X.A.get (an M)),X.K⟩∧ae (Aq B) w w':=by
 obtain⟨cap,hbx⟩:=h.box;have c0:=hbx.cell (i:=0) rfl;have c2:=hbx.cell (i:=2) rfl;have c3:=hbx.cell (i:=3) rfl;have c4:=hbx.cell (i:=4) rfl;have j0:=h.row.cell (ag M.n X.S (t:=0) hj aO);rw[Nat.add_zero,h0] at j0;have HJ:=aH hj;have hn32:=h.n32;have l1:(j:Int)<M.n:=by omega
 have l2:decide (M.n≤j)=false:=aB;have l3:decide ((j:Int)<0)=false:=aB;have l4:decide ((M.n:Int)≤j)=false:=aB;have l5:IntKind.i64.wrap (j:Int)=j:=IntWalk.i64_in _ aO;have HN:=aH (fun(W:World) (hf:ae [] w W)=>Dt (h.same hf));have HS:=aH (fun(W:World) (hf:ae [] w W)=>(bq (h.same hf).ar (an M)).mono (fun e w' q=>(show e=_∧A1 w' B M {X with A:=X.A.load (an M)}∧ae [B.ab,B.wb] w w' from⟨q.1,(h.same hf).arena q.2.2 q.2.1,(hf.mono aS).trans q.2.2⟩)));have HD:=aH (decide_eq_true hb:decide (M.bud≤(X.A.get (an M)))=true);clear hb;clear h hbx h0 hj;go_enter func291,ntmps291;go_wp2_with fail;refine EB 1 rfl ?_;go_wp2_with fail
 go_cut[] (fun wx=>A1 wx B M ⟨X.A.load (an M),ac X.S j 3 (X.A.get (an M)),X.K⟩∧ae (Aq B) w wx)
 case first=>
  go_region_with(first|(go_at_call 296;refine(HN.o _ aD).mono ?_;rintro e w1 ⟨rfl,rfl⟩)|(go_at_call 106;refine(HS.o _ aD).mono ?_;rintro e w2 ⟨rfl,hC,hF⟩;have j9:=hC.row.cell (ag M.n X.S (t:=3) HJ.o aO);have jz:=hC.row.frozen;have HC:=aH hC;have HF:=aH hF;clear hC hF))
  all_goals
   have HE:=aH (HC.o.put j (t:=3) aO (X.A.get (an M)));have HG:=aH ((HF.o.mono (S':=Aq B) (by simp[Aq,BH.ab])).set ⟨B.sb,j*4+3,none⟩ (.int .i64 (X.A.get (an M))) (.inl (by simp[Aq])));go_wp2_with fail
   go_meet
   exact⟨HE.o,HG.o⟩
 case rest=>
  obtain⟨hC,hF⟩:=hcut;have HC:=aH hC;have HF:=aH hF;obtain⟨cap',hb'⟩:=hC.box;have b2:=hb'.cell (i:=2) rfl;have b3:=hb'.cell (i:=3) rfl;have b4:=hb'.cell (i:=4) rfl;have k1:=hC.row.cell (ag M.n (ac X.S j 3 (X.A.get (an M))) (t:=1) HJ.o aO);have k2:=hC.row.cell (ag M.n (ac X.S j 3 (X.A.get (an M))) (t:=2) HJ.o aO);have k3:=hC.row.cell (ag M.n (ac X.S j 3 (X.A.get (an M))) (t:=3) HJ.o aO);rw[show ac X.S j 3 (X.A.get (an M)) j 1=X.S j 1 from by simp[ac]] at k1;rw[show ac X.S j 3 (X.A.get (an M)) j 2=X.S j 2 from by simp[ac]] at k2;rw[show ac X.S j 3 (X.A.get (an M)) j 3=(X.A.get (an M)) from by simp[ac]] at k3;clear hC hF hb' HN HS j0 c0 c2 c3 c4;have d1:=HD.o;go_wp2_with fail
  go_quiet (fail)
  go_wp2_with fail
  go_step3
  refine⟨rfl,?_⟩;show Code.wp _ _ _ _ _;go_wp2_with fail;refine(Dh _ _ _ _).mono ?_;rintro e w3 ⟨rfl,rfl⟩;go_wp2;rw[Exit.noGoto_ret];go_ret;exact⟨rfl,HC.o.same aD,HF.o.trans aD⟩
theorem Bx:(∀{w:World} {B:BH} {M:B6} {X:An} (h:A1 w B M X) {j:Nat} (hj:j<M.n) (h0:X.S j 0=17) (hb:¬M.bud≤(X.A.get (an M))) (hw:(Cu M.sc X.K (X.S j 1) (M.N[j]?.getD 0)).way=false),Calls prog 291 #[some B.lb,.pointer (some ⟨B.sb,j*4,none⟩),((j:Int)+1:Int)] w fun e w'=>e= .returned (23:Int)∧A1 w' B M ⟨X.A.load (an M),ac X.S j 3 (X.A.get (an M)),Cu M.sc X.K (X.S j 1) (M.N[j]?.getD 0)⟩∧ae (Aq B) w w')∧(∀{w:World} {B:BH} {M:B6} {X:An} (h:A1 w B M X) {j:Nat} (hj:j<M.n) (h0:X.S j 0=17) (hb:¬M.bud≤(X.A.get (an M))) (hw:(Cu M.sc X.K (X.S j 1) (M.N[j]?.getD 0)).way=true),Calls prog 291 #[some B.lb,.pointer (some ⟨B.sb,j*4,none⟩),((j:Int)+1:Int)] w fun e w'=>e= .returned (18:Int)∧A1 w' B M ⟨X.A.load (an M),ac X.S j 3 (X.A.get (an M)),Cu M.sc X.K (X.S j 1) (M.N[j]?.getD 0)⟩∧ae (Aq B) w w')∧(∀{w:World} {B:BH} {M:B6} {X:An} (h:A1 w B M X) {j:Nat} (hj:j<M.n) (h0:X.S j 0=18) (hr:DX M.sc X.A X.K=false),Calls prog 291 #[some B.lb,.pointer (some ⟨B.sb,j*4,none⟩),((j:Int)+1:Int)] w fun e w'=>e= .returned (18:Int)∧A1 w' B M ⟨D9 M.sc X.A X.K,X.S,Bd M.sc X.A X.K⟩∧ae (Aq B) w w')∧(∀{w:World} {B:BH} {M:B6} {X:An} (h:A1 w B M X) {j:Nat} (hj:j<M.n) (h0:X.S j 0=18) (hr:DX M.sc X.A X.K=true) (hfo:(Bd M.sc X.A X.K).fo≠0),Calls prog 291 #[some B.lb,.pointer (some ⟨B.sb,j*4,none⟩),((j:Int)+1:Int)] w fun e w'=>e= .returned (19:Int)∧A1 w' B M ⟨D9 M.sc X.A X.K,X.S,Bd M.sc X.A X.K⟩∧ae (Aq B) w w')∧(∀{w:World} {B:BH} {M:B6} {X:An} (h:A1 w B M X) {j:Nat} (hj:j<M.n) (h0:X.S j 0=18) (hr:DX M.sc X.A X.K=true) (hfo:(Bd M.sc X.A X.K).fo=0),Calls prog 291 #[some B.lb,.pointer (some ⟨B.sb,j*4,none⟩),((j:Int)+1:Int)] w fun e w'=>e= .returned (Gl (decide (0<X.S j 2)) 25 29:Int)∧A1 w' B M ⟨D9 M.sc X.A X.K,X.S,Bd M.sc X.A X.K⟩∧ae (Aq B) w w'):=by
 refine⟨?_,?_,?_,?_,?_⟩;iterate 2
  intro w B M X h j hj h0 hb hw;rotate_left
 intro w B M X h j hj h0 hr;rotate_left;iterate 2
  intro w B M X h j hj h0 hr hfo;rotate_left
 all_goals
  obtain⟨cap,hbx⟩:=h.box;have c0:=hbx.cell (i:=0) rfl;have c2:=hbx.cell (i:=2) rfl;have c3:=hbx.cell (i:=3) rfl;have c4:=hbx.cell (i:=4) rfl;have j0:=h.row.cell (ag M.n X.S (t:=0) hj aO);rw[Nat.add_zero,h0] at j0;have HJ:=aH hj;have hn32:=h.n32;have l1:(j:Int)<M.n:=by omega
  have l2:decide (M.n≤j)=false:=aB;have l3:decide ((j:Int)<0)=false:=aB;have l4:decide ((M.n:Int)≤j)=false:=aB;have l5:IntKind.i64.wrap (j:Int)=j:=IntWalk.i64_in _ aO
 have HN:=aH (fun(W:World) (hf:ae [] w W)=>Dt (h.same hf));have HS:=aH (fun(W:World) (hf:ae [] w W)=>(bq (h.same hf).ar (an M)).mono (fun e w' q=>(show e=_∧A1 w' B M {X with A:=X.A.load (an M)}∧ae [B.ab,B.wb] w w' from⟨q.1,(h.same hf).arena q.2.2 q.2.1,(hf.mono aS).trans q.2.2⟩)));have HN2:=aH (fun(W W0:World) (hc:A1 W0 B M ⟨X.A.load (an M),ac X.S j 3 (X.A.get (an M)),X.K⟩) (hf:ae [] W0 W)=>(FQ (hc.same hf).sc (X.S j 1) (M.N[j]?.getD 0)).mono (fun e w' q=>(show e= .returned true∧A1 w' B M ⟨X.A.load (an M),ac X.S j 3 (X.A.get (an M)),Cu M.sc X.K (X.S j 1) (M.N[j]?.getD 0)⟩∧ae [B.sc.kb] W0 w' from⟨by rw[q.1];show Ending.returned (Value.bool (!(Cu M.sc X.K (X.S j 1) (M.N[j]?.getD 0)).way))=_;rw[hw];rfl,(hc.same hf).scan q.2.2 q.2.1,(hf.mono aS).trans q.2.2⟩)));have HD:=aH (decide_eq_false hb:decide (M.bud≤(X.A.get (an M)))=false);clear hb hw;rotate_left;have HN:=aH (fun(W:World) (hf:ae [] w W)=>Dt (h.same hf));have HS:=aH (fun(W:World) (hf:ae [] w W)=>(bq (h.same hf).ar (an M)).mono (fun e w' q=>(show e=_∧A1 w' B M {X with A:=X.A.load (an M)}∧ae [B.ab,B.wb] w w' from⟨q.1,(h.same hf).arena q.2.2 q.2.1,(hf.mono aS).trans q.2.2⟩)));have HN2:=aH (fun(W W0:World) (hc:A1 W0 B M ⟨X.A.load (an M),ac X.S j 3 (X.A.get (an M)),X.K⟩) (hf:ae [] W0 W)=>(FQ (hc.same hf).sc (X.S j 1) (M.N[j]?.getD 0)).mono (fun e w' q=>(show e= .returned false∧A1 w' B M ⟨X.A.load (an M),ac X.S j 3 (X.A.get (an M)),Cu M.sc X.K (X.S j 1) (M.N[j]?.getD 0)⟩∧ae [B.sc.kb] W0 w' from⟨by rw[q.1];show Ending.returned (Value.bool (!(Cu M.sc X.K (X.S j 1) (M.N[j]?.getD 0)).way))=_;rw[hw];rfl,(hc.same hf).scan q.2.2 q.2.1,(hf.mono aS).trans q.2.2⟩)));have HD:=aH (decide_eq_false hb:decide (M.bud≤(X.A.get (an M)))=false);clear hb hw;rotate_left;have HST:=aH (fun(W:World) (hf:ae [] w W)=>(Do (h.same hf).sc (h.same hf).ar).mono (fun e w' q=>(show e= .returned false∧A1 w' B M ⟨D9 M.sc X.A X.K,X.S,Bd M.sc X.A X.K⟩∧ae (Aq B) w w' from⟨by rw[q.1,hr],(h.same hf).walk q.2.2.2 q.2.1 q.2.2.1,(hf.mono aS).trans (q.2.2.2.mono (by simp[Aq,BH.ab]))⟩)));rotate_left;have HST:=aH (fun(W:World) (hf:ae [] w W)=>(Do (h.same hf).sc (h.same hf).ar).mono (fun e w' q=>(show e= .returned true∧A1 w' B M ⟨D9 M.sc X.A X.K,X.S,Bd M.sc X.A X.K⟩∧ae (Aq B) w w' from⟨by rw[q.1,hr],(h.same hf).walk q.2.2.2 q.2.1 q.2.2.1,(hf.mono aS).trans (q.2.2.2.mono (by simp[Aq,BH.ab]))⟩)));have e1:((Bd M.sc X.A X.K).fo !=0)=true:=by simpa using hfo
 clear hfo;rotate_left;have HST:=aH (fun(W:World) (hf:ae [] w W)=>(Do (h.same hf).sc (h.same hf).ar).mono (fun e w' q=>(show e= .returned true∧A1 w' B M ⟨D9 M.sc X.A X.K,X.S,Bd M.sc X.A X.K⟩∧ae (Aq B) w w' from⟨by rw[q.1,hr],(h.same hf).walk q.2.2.2 q.2.1 q.2.2.1,(hf.mono aS).trans (q.2.2.2.mono (by simp[Aq,BH.ab]))⟩)));have e1:((Bd M.sc X.A X.K).fo !=0)=false:=by simpa using hfo
 clear hfo;rotate_left;all_goals
  clear h hbx h0 hj;go_enter func291,ntmps291;go_wp2_with fail
 rotate_left 2;iterate 3
  focus
   refine EB 0 rfl ?_;go_wp2_with fail
  rotate_left
 all_goals
  go_step3
 rotate_left 2;iterate 3
  refine⟨rfl,?_⟩;show Code.wp _ _ _ _ _;clear hr;rotate_left
 all_goals
  go_wp2_with fail
 iterate 2
  focus
   go_cut[] (fun wx=>A1 wx B M ⟨X.A.load (an M),ac X.S j 3 (X.A.get (an M)),X.K⟩∧ae (Aq B) w wx)
   case first=>
    go_region_with(first|(go_at_call 296;refine(HN.o _ aD).mono ?_;rintro e w1 ⟨rfl,rfl⟩)|(go_at_call 106;refine(HS.o _ aD).mono ?_;rintro e w2 ⟨rfl,hC,hF⟩;have j9:=hC.row.cell (ag M.n X.S (t:=3) HJ.o aO);have jz:=hC.row.frozen;have HC:=aH hC;have HF:=aH hF;clear hC hF))
    all_goals
     have HE:=aH (HC.o.put j (t:=3) aO (X.A.get (an M)));have HG:=aH ((HF.o.mono (S':=Aq B) (by simp[Aq,BH.ab])).set ⟨B.sb,j*4+3,none⟩ (.int .i64 (X.A.get (an M))) (.inl (by simp[Aq])));go_wp2_with fail
     go_meet
     exact⟨HE.o,HG.o⟩
   case rest=>
    obtain⟨hC,hF⟩:=hcut;have HC:=aH hC;have HF:=aH hF;obtain⟨cap',hb'⟩:=hC.box;have b2:=hb'.cell (i:=2) rfl;have b3:=hb'.cell (i:=3) rfl;have b4:=hb'.cell (i:=4) rfl;have k1:=hC.row.cell (ag M.n (ac X.S j 3 (X.A.get (an M))) (t:=1) HJ.o aO);have k2:=hC.row.cell (ag M.n (ac X.S j 3 (X.A.get (an M))) (t:=2) HJ.o aO);have k3:=hC.row.cell (ag M.n (ac X.S j 3 (X.A.get (an M))) (t:=3) HJ.o aO);rw[show ac X.S j 3 (X.A.get (an M)) j 1=X.S j 1 from by simp[ac]] at k1;rw[show ac X.S j 3 (X.A.get (an M)) j 2=X.S j 2 from by simp[ac]] at k2;rw[show ac X.S j 3 (X.A.get (an M)) j 3=(X.A.get (an M)) from by simp[ac]] at k3;clear hC hF hb' HN HS j0 c0 c2 c3 c4;have d1:=HD.o;have HN3:=aH (fun(W:World) (hf:ae [] wc W)=>HN2.o W wc HC.o hf);obtain⟨v,cp,cur, -,hcur, -,hcc⟩:=HC.o.nds;have g1:=hcur.cell (i:=j) (hcc j HJ.o);clear HN2 hcur hcc;go_wp2_with fail
    go_quiet (fail)
    go_wp2_with fail;go_region_with(go_at_call 297;refine(HN3.o _ aD).mono ?_;rintro e w4 ⟨rfl,hC4,hF4⟩;have HC4:=aH hC4;have HF4:=aH (HF.o.trans (hF4.mono (S':=Aq B) (by simp[Aq])));clear hC4 hF4)
    all_goals
     go_wp2;rw[Exit.noGoto_ret];go_ret;exact⟨rfl,HC4.o.same aD,HF4.o.trans aD⟩
 ·refine(HST.o _ aD).mono ?_;rintro e w2 ⟨rfl,hC,hF⟩;obtain⟨cap',hb'⟩:=hC.box;have b4:=hb'.cell (i:=4) rfl;have k2:=hC.row.cell (ag M.n X.S (t:=2) HJ.o aO);clear hb' j0 c0 c2 c3 c4 HST;have HFD:=aH (fun(W:World) (hf:ae [] w2 W)=>Fj (hC.same hf).sc);have HC:=aH hC;have HF:=aH hF;clear hC hF;go_wp2;rw[Exit.noGoto_ret];go_ret;exact⟨rfl,HC.o.same aD,HF.o.trans aD⟩
 ·refine(HST.o _ aD).mono ?_;rintro e w2 ⟨rfl,hC,hF⟩;obtain⟨cap',hb'⟩:=hC.box;have b4:=hb'.cell (i:=4) rfl;have k2:=hC.row.cell (ag M.n X.S (t:=2) HJ.o aO);clear hb' j0 c0 c2 c3 c4 HST;have HFD:=aH (fun(W:World) (hf:ae [] w2 W)=>Fj (hC.same hf).sc);have HC:=aH hC;have HF:=aH hF;clear hC hF;go_wp2_with fail;refine(HFD.o _ aD).mono ?_;rintro e w3 ⟨rfl,rfl⟩;go_wp2;rw[Exit.noGoto_ret];go_ret;exact⟨rfl,HC.o.same aD,HF.o.trans aD⟩
 ·refine(HST.o _ aD).mono ?_;rintro e w2 ⟨rfl,hC,hF⟩;obtain⟨cap',hb'⟩:=hC.box;have b4:=hb'.cell (i:=4) rfl;have k2:=hC.row.cell (ag M.n X.S (t:=2) HJ.o aO);clear hb' j0 c0 c2 c3 c4 HST;have HFD:=aH (fun(W:World) (hf:ae [] w2 W)=>Fj (hC.same hf).sc);have HC:=aH hC;have HF:=aH hF;clear hC hF;go_wp2_with fail;refine(HFD.o _ aD).mono ?_;rintro e w3 ⟨rfl,rfl⟩;go_wp2_with fail
  go_step3
  go_wp2_with fail;refine(Dh _ _ _ _).mono ?_;rintro e w3 ⟨rfl,rfl⟩;go_wp2;rw[Exit.noGoto_ret];go_ret;exact⟨rfl,HC.o.same aD,HF.o.trans aD⟩
def Jj:= @And.left _ _ Bx
def Jl:= @And.left _ _ (@And.right _ _ Bx)
def Jm:= @And.left _ _ (@And.right _ _ (@And.right _ _ Bx))
def Jn:= @And.left _ _ (@And.right _ _ (@And.right _ _ (@And.right _ _ Bx)))
def Jp:= @And.right _ _ (@And.right _ _ (@And.right _ _ (@And.right _ _ Bx)))
end
end Go.Proofs.YteijjhahgabalaaGreat
