/- The contracts of package rung: in. (Printed by gen_rung.py.) -/
import Derived.Deep.RegionWith
import Derived.Test.YteijjhahgabalaaGreatWA33
import Derived.Test.YteijjhahgabalaaGreatWA06
import Derived.Test.YteijjhahgabalaaGreatWA08
import Derived.Test.YteijjhahgabalaaGreatWA31
import Derived.Test.YteijjhahgabalaaGreatWA32
import Derived.Test.YteijjhahgabalaaGreatWA25
import Derived.Test.YteijjhahgabalaaGreatWA34
import Derived.Test.YteijjhahgabalaaGreatWA35
set_option maxRecDepth 100000
set_option maxHeartbeats 8000000
set_option linter.all false
namespace Go.Proofs.YteijjhahgabalaaGreat
open Go.RowKit
open Tryz
section
variable{w w':World} {B:EC} {M:CP} {X:BQ}
theorem Hx:(∀{w:World} {B:EC} {M:CP} {X:BQ} (h:be w B M X) {j:Nat} (hj:j<M.n) (h0:X.S j 0=1) (x:Int),Calls prog 249 #[some B.lb,.pointer (some ⟨B.sb,j*4,none⟩),x] w fun e w'=>e= .returned (2:Int)∧be w' B M ⟨X.A.store (A5 M x) 0,X.S⟩∧ae [B.sb,B.ab,B.wb] w w')∧(∀{w:World} {B:EC} {M:CP} {X:BQ} (h:be w B M X) {j:Nat} (hj:j<M.n) (h0:X.S j 0=2) (x:Int),Calls prog 249 #[some B.lb,.pointer (some ⟨B.sb,j*4,none⟩),x] w fun e w'=>e= .returned (3:Int)∧be w' B M ⟨X.A.store (A6 M x) 0,X.S⟩∧ae [B.sb,B.ab,B.wb] w w'):=by
 refine⟨?_,?_⟩;all_goals
  intro w B M X h j hj h0 x
 all_goals
  have c0:=h.box.cell (i:=0) rfl;have c1:=h.box.cell (i:=1) rfl;have j0:=h.row.cell (ag M.n X.S (t:=0) hj aO);have j1:=h.row.cell (ag M.n X.S (t:=1) hj aO);have j2:=h.row.cell (ag M.n X.S (t:=2) hj aO);have j3:=h.row.cell (ag M.n X.S (t:=3) hj aO);rw[Nat.add_zero,h0] at j0
 have HN0:=aH (fun(W:World) (hf:ae [] w W)=>Kc (h.same hf) x);have HS:=aH (fun(W:World) (hf:ae [] w W)=>(au (h.same hf).ar (A5 M x) 0).mono (fun e w' q=>(show e=_∧be w' B M {X with A:=X.A.store (A5 M x) 0}∧ae [B.ab,B.wb] w w' from⟨q.1,(h.same hf).arena q.2.2 q.2.1,(hf.mono aS).trans q.2.2⟩)));rotate_left;have HN0:=aH (fun(W:World) (hf:ae [] w W)=>Ge (h.same hf) x);have HS:=aH (fun(W:World) (hf:ae [] w W)=>(au (h.same hf).ar (A6 M x) 0).mono (fun e w' q=>(show e=_∧be w' B M {X with A:=X.A.store (A6 M x) 0}∧ae [B.ab,B.wb] w w' from⟨q.1,(h.same hf).arena q.2.2 q.2.1,(hf.mono aS).trans q.2.2⟩)));rotate_left;all_goals
  have HJ:=aH hj;have H0:=aH h0;have HBX:=aH h.box;have HNB:=aH (show B.lb∉[B.ab,B.wb] from fun hm=>by have n1:=h.box.differ h.row aJ;have n2:=h.box.differ h.ar.box aJ;have n3:=h.box.differ h.ar.row aJ;simp at hm;omega);have hne:=aW [B.ab,B.wb] w;have z0:∀q:HW (fun wx=>ae [B.ab,B.wb] w wx),q.w.cell? (B.lb,0)=some (.pointer (some ⟨B.ab,0,none⟩)):=fun q=>(HBX.o.frm q.h HNB.o).cell (i:=0) rfl;have HRW:=aH (And.intro h.row (show B.sb∉[B.ab,B.wb] from by have:=h.ne;simp;omega));have z1:∀q:HW (fun wx=>ae [B.ab,B.wb] w wx),q.w.cell? (B.sb,j*4+1)=some (.int .i64 (X.S j 1)):=fun q=>(HRW.o.1.frm q.h HRW.o.2).cell (ag M.n X.S (t:=1) HJ.o aO);have z2:∀q:HW (fun wx=>ae [B.ab,B.wb] w wx),q.w.cell? (B.sb,j*4+2)=some (.int .i64 (X.S j 2)):=fun q=>(HRW.o.1.frm q.h HRW.o.2).cell (ag M.n X.S (t:=2) HJ.o aO);have z3:∀q:HW (fun wx=>ae [B.ab,B.wb] w wx),q.w.cell? (B.sb,j*4+3)=some (.int .i64 (X.S j 3)):=fun q=>(HRW.o.1.frm q.h HRW.o.2).cell (ag M.n X.S (t:=3) HJ.o aO);clear h h0 hj;go_enter func249,ntmps249;go_wp2_with fail;go_wp2_with fail;refine bv (S:=(fun wx=>ae [B.ab,B.wb] w wx)) aK ?_;refine aR (fuel:=2) [0,1,2,3,4,5] rfl (aF.drew1) ?_;intro Kq hKq;repeat (go_big_quiet_step (fail))
  refine wpQuiet_nil (hKq _ ?_);clear hKq Kq;refine aL 6 (fuel:=1) rfl ?_;go_wp2_with fail;refine(HN0.o _ aD).mono ?_;rintro e w1 ⟨rfl,rfl⟩;go_wp2_with fail;refine af ⟨aF.drew1,?_⟩;refine aL 7 (fuel:=0) rfl ?_;go_wp2_with fail;refine(HS.o _ aD).mono ?_;rintro e w2 ⟨rfl,hC,hF⟩;have q0:=hC.row.cell (ag M.n X.S (t:=0) HJ.o aO);have q1:=hC.row.cell (ag M.n X.S (t:=1) HJ.o aO);have q2:=hC.row.cell (ag M.n X.S (t:=2) HJ.o aO);have q3:=hC.row.cell (ag M.n X.S (t:=3) HJ.o aO);rw[Nat.add_zero,H0.o] at q0;have jz:=hC.row.frozen;have HC:=aH hC;have HF:=aH hF;clear hC hF;go_wp2_with fail;refine af ⟨HF.o,?_⟩;refine aN ?_;clear hne z0 z1 z2 z3;go_wp2;go_ret;exact⟨rfl,HC.o.same aD,(HF.o.mono aS).trans aD⟩
def xv:= @And.left _ _ Hx
def xw:= @And.right _ _ Hx
theorem I0:(∀{w:World} {B:EC} {M:CP} {X:BQ} (h:be w B M X) {j:Nat} (hj:j<M.n) (h0:X.S j 0=3) (x:Int) (hv:(X.A.get M.tail)=0),Calls prog 249 #[some B.lb,.pointer (some ⟨B.sb,j*4,none⟩),x] w fun e w'=>e= .returned (6:Int)∧be w' B M ⟨X.A.swap M.tail x,(ac X.S j 1 (X.A.get M.tail))⟩∧ae [B.sb,B.ab,B.wb] w w')∧(∀{w:World} {B:EC} {M:CP} {X:BQ} (h:be w B M X) {j:Nat} (hj:j<M.n) (h0:X.S j 0=3) (x:Int) (hv:(X.A.get M.tail)≠0),Calls prog 249 #[some B.lb,.pointer (some ⟨B.sb,j*4,none⟩),x] w fun e w'=>e= .returned (4:Int)∧be w' B M ⟨X.A.swap M.tail x,(ac X.S j 1 (X.A.get M.tail))⟩∧ae [B.sb,B.ab,B.wb] w w'):=by
 refine⟨?_,?_⟩;all_goals
  intro w B M X h j hj h0 x hv
 all_goals
  have c0:=h.box.cell (i:=0) rfl;have c1:=h.box.cell (i:=1) rfl;have j0:=h.row.cell (ag M.n X.S (t:=0) hj aO);have j1:=h.row.cell (ag M.n X.S (t:=1) hj aO);have j2:=h.row.cell (ag M.n X.S (t:=2) hj aO);have j3:=h.row.cell (ag M.n X.S (t:=3) hj aO);rw[Nat.add_zero,h0] at j0;have HS:=aH (fun(W:World) (hf:ae [] w W)=>(eo (h.same hf).ar M.tail x).mono (fun e w' q=>(show e=_∧be w' B M {X with A:=X.A.swap M.tail x}∧ae [B.ab,B.wb] w w' from⟨q.1,(h.same hf).arena q.2.2 q.2.1,(hf.mono aS).trans q.2.2⟩)));have HJ:=aH hj;have H0:=aH h0
 have e1:((X.A.get M.tail)==0)=true:=by simpa using hv
 rotate_left;have e1:((X.A.get M.tail)==0)=false:=by simpa using hv
 rotate_left;all_goals
  clear hv;clear h h0 hj;go_enter func249,ntmps249;go_wp2_with fail;go_wp2_with fail;go_region_with(first|(go_at_call 207;refine(HS.o _ aD).mono ?_;rintro e w2 ⟨rfl,hC,hF⟩;have q0:=hC.row.cell (ag M.n X.S (t:=0) HJ.o aO);have q1:=hC.row.cell (ag M.n X.S (t:=1) HJ.o aO);have q2:=hC.row.cell (ag M.n X.S (t:=2) HJ.o aO);have q3:=hC.row.cell (ag M.n X.S (t:=3) HJ.o aO);rw[Nat.add_zero,H0.o] at q0;have jz:=hC.row.frozen;have HC:=aH hC;have HF:=aH hF;clear hC hF))
  all_goals
   have HP0:=aH (HC.o.put j (t:=1) aO (X.A.get M.tail));have HG0:=aH ((HF.o.mono (S':=[B.sb,B.ab,B.wb]) aS).set ⟨B.sb,j*4+1,none⟩ (.int .i64 (X.A.get M.tail)) (.inl aS));have r0:=HP0.o.row.cell (ag M.n (ac X.S j 1 (X.A.get M.tail)) (t:=1) HJ.o aO);rw[show(ac X.S j 1 (X.A.get M.tail)) j 1=(X.A.get M.tail) from by simp[ac]] at r0;have p0:=HP0.o.row.cell (ag M.n (ac X.S j 1 (X.A.get M.tail)) (t:=0) HJ.o aO);rw[Nat.add_zero,show(ac X.S j 1 (X.A.get M.tail)) j 0=X.S j 0 from by simp[ac],H0.o] at p0;have jz0:=HP0.o.row.frozen;go_wp2;go_ret;exact⟨rfl,HP0.o.same aD,(HG0.o).trans aD⟩
def uJ:= @And.left _ _ I0
def uL:= @And.right _ _ I0
theorem DQ:(∀{w:World} {B:EC} {M:CP} {X:BQ} (h:be w B M X) {j:Nat} (hj:j<M.n) (h0:X.S j 0=4) (x:Int),Calls prog 249 #[some B.lb,.pointer (some ⟨B.sb,j*4,none⟩),x] w fun e w'=>e= .returned (5:Int)∧be w' B M ⟨X.A.store (A5 M (X.S j 1)) x,X.S⟩∧ae [B.sb,B.ab,B.wb] w w')∧(∀{w:World} {B:EC} {M:CP} {X:BQ} (h:be w B M X) {j:Nat} (hj:j<M.n) (h0:X.S j 0=5) (x:Int) (hv:0<(X.A.get (A6 M x))),Calls prog 249 #[some B.lb,.pointer (some ⟨B.sb,j*4,none⟩),x] w fun e w'=>e= .returned (10:Int)∧be w' B M ⟨X.A.load (A6 M x),(ac (ac X.S j 1 (X.A.get (A6 M x))) j 2 0)⟩∧ae [B.sb,B.ab,B.wb] w w')∧(∀{w:World} {B:EC} {M:CP} {X:BQ} (h:be w B M X) {j:Nat} (hj:j<M.n) (h0:X.S j 0=5) (x:Int) (hv:(X.A.get (A6 M x))<0),Calls prog 249 #[some B.lb,.pointer (some ⟨B.sb,j*4,none⟩),x] w fun e w'=>e= .returned (6:Int)∧be w' B M ⟨X.A.load (A6 M x),(ac X.S j 1 (X.A.get (A6 M x)))⟩∧ae [B.sb,B.ab,B.wb] w w')∧(∀{w:World} {B:EC} {M:CP} {X:BQ} (h:be w B M X) {j:Nat} (hj:j<M.n) (h0:X.S j 0=5) (x:Int) (hv:(X.A.get (A6 M x))=0),Calls prog 249 #[some B.lb,.pointer (some ⟨B.sb,j*4,none⟩),x] w fun e w'=>e= .returned (5:Int)∧be w' B M ⟨X.A.load (A6 M x),(ac X.S j 1 (X.A.get (A6 M x)))⟩∧ae [B.sb,B.ab,B.wb] w w'):=by
 refine⟨?_,?_,?_,?_⟩;intro w B M X h j hj h0 x;rotate_left;iterate 3
  intro w B M X h j hj h0 x hv;rotate_left
 all_goals
  have c0:=h.box.cell (i:=0) rfl;have c1:=h.box.cell (i:=1) rfl;have j0:=h.row.cell (ag M.n X.S (t:=0) hj aO);have j1:=h.row.cell (ag M.n X.S (t:=1) hj aO);have j2:=h.row.cell (ag M.n X.S (t:=2) hj aO);have j3:=h.row.cell (ag M.n X.S (t:=3) hj aO);rw[Nat.add_zero,h0] at j0
 have HN0:=aH (fun(W:World) (hf:ae [] w W)=>Kc (h.same hf) (X.S j 1));have HS:=aH (fun(W:World) (hf:ae [] w W)=>(au (h.same hf).ar (A5 M (X.S j 1)) x).mono (fun e w' q=>(show e=_∧be w' B M {X with A:=X.A.store (A5 M (X.S j 1)) x}∧ae [B.ab,B.wb] w w' from⟨q.1,(h.same hf).arena q.2.2 q.2.1,(hf.mono aS).trans q.2.2⟩)));rotate_left;iterate 3
  have HN0:=aH (fun(W:World) (hf:ae [] w W)=>Ge (h.same hf) x);have HS:=aH (fun(W:World) (hf:ae [] w W)=>(bq (h.same hf).ar (A6 M x)).mono (fun e w' q=>(show e=_∧be w' B M {X with A:=X.A.load (A6 M x)}∧ae [B.ab,B.wb] w w' from⟨q.1,(h.same hf).arena q.2.2 q.2.1,(hf.mono aS).trans q.2.2⟩)));rotate_left
 all_goals
  have HJ:=aH hj;have H0:=aH h0;have HBX:=aH h.box
 have HNB:=aH (show B.lb∉[B.ab,B.wb] from fun hm=>by have n1:=h.box.differ h.row aJ;have n2:=h.box.differ h.ar.box aJ;have n3:=h.box.differ h.ar.row aJ;simp at hm;omega);have hne:=aW [B.ab,B.wb] w;have z0:∀q:HW (fun wx=>ae [B.ab,B.wb] w wx),q.w.cell? (B.lb,0)=some (.pointer (some ⟨B.ab,0,none⟩)):=fun q=>(HBX.o.frm q.h HNB.o).cell (i:=0) rfl;have HRW:=aH (And.intro h.row (show B.sb∉[B.ab,B.wb] from by have:=h.ne;simp;omega));have z1:∀q:HW (fun wx=>ae [B.ab,B.wb] w wx),q.w.cell? (B.sb,j*4+1)=some (.int .i64 (X.S j 1)):=fun q=>(HRW.o.1.frm q.h HRW.o.2).cell (ag M.n X.S (t:=1) HJ.o aO);have z2:∀q:HW (fun wx=>ae [B.ab,B.wb] w wx),q.w.cell? (B.sb,j*4+2)=some (.int .i64 (X.S j 2)):=fun q=>(HRW.o.1.frm q.h HRW.o.2).cell (ag M.n X.S (t:=2) HJ.o aO);have z3:∀q:HW (fun wx=>ae [B.ab,B.wb] w wx),q.w.cell? (B.sb,j*4+3)=some (.int .i64 (X.S j 3)):=fun q=>(HRW.o.1.frm q.h HRW.o.2).cell (ag M.n X.S (t:=3) HJ.o aO);rotate_left;have HNB:=aH (show B.lb∉[B.sb,B.ab,B.wb] from fun hm=>by have n1:=h.box.differ h.row aJ;have n2:=h.box.differ h.ar.box aJ;have n3:=h.box.differ h.ar.row aJ;simp at hm;omega);have hne:=aW [B.sb,B.ab,B.wb] w;have z0:∀q:HW (fun wx=>ae [B.sb,B.ab,B.wb] w wx),q.w.cell? (B.lb,0)=some (.pointer (some ⟨B.ab,0,none⟩)):=fun q=>(HBX.o.frm q.h HNB.o).cell (i:=0) rfl;have e1:decide (0<(X.A.get (A6 M x)))=true:=decide_eq_true hv;clear hv;rotate_left;have HNB:=aH (show B.lb∉[B.sb,B.ab,B.wb] from fun hm=>by have n1:=h.box.differ h.row aJ;have n2:=h.box.differ h.ar.box aJ;have n3:=h.box.differ h.ar.row aJ;simp at hm;omega);have hne:=aW [B.sb,B.ab,B.wb] w;have z0:∀q:HW (fun wx=>ae [B.sb,B.ab,B.wb] w wx),q.w.cell? (B.lb,0)=some (.pointer (some ⟨B.ab,0,none⟩)):=fun q=>(HBX.o.frm q.h HNB.o).cell (i:=0) rfl;have e1:decide (0<(X.A.get (A6 M x)))=false:=aB;have e2:decide ((X.A.get (A6 M x))<0)=true:=decide_eq_true hv;clear hv;rotate_left;have HNB:=aH (show B.lb∉[B.sb,B.ab,B.wb] from fun hm=>by have n1:=h.box.differ h.row aJ;have n2:=h.box.differ h.ar.box aJ;have n3:=h.box.differ h.ar.row aJ;simp at hm;omega);have hne:=aW [B.sb,B.ab,B.wb] w;have z0:∀q:HW (fun wx=>ae [B.sb,B.ab,B.wb] w wx),q.w.cell? (B.lb,0)=some (.pointer (some ⟨B.ab,0,none⟩)):=fun q=>(HBX.o.frm q.h HNB.o).cell (i:=0) rfl;have e1:decide (0<(X.A.get (A6 M x)))=false:=aB;have e2:decide ((X.A.get (A6 M x))<0)=false:=aB;clear hv;rotate_left;all_goals
  clear h h0 hj;go_enter func249,ntmps249;go_wp2_with fail;go_wp2_with fail
 refine bv (S:=(fun wx=>ae [B.ab,B.wb] w wx)) aK ?_;refine aR (fuel:=2) [0,1,2,3,4,5,6,7,8,10] rfl (aF.drew1) ?_;rotate_left;iterate 3
  refine bv (S:=(fun wx=>ae [B.sb,B.ab,B.wb] w wx)) aK ?_;refine aR (fuel:=5) [0,1,2,3,4,5,6] rfl (aF.drew1) ?_;rotate_left
 all_goals
  intro Kq hKq;repeat (go_big_quiet_step (fail))
  refine wpQuiet_nil (hKq _ ?_);clear hKq Kq
 refine aL 9 (fuel:=1) rfl ?_;rotate_left;iterate 3
  refine aL 7 (fuel:=4) rfl ?_;rotate_left
 all_goals
  go_wp2_with fail;refine(HN0.o _ aD).mono ?_;rintro e w1 ⟨rfl,rfl⟩;go_wp2_with fail;refine af ⟨aF.drew1,?_⟩
 refine aL 11 (fuel:=0) rfl ?_;rotate_left;iterate 3
  refine aL 8 (fuel:=3) rfl ?_;rotate_left
 all_goals
  go_wp2_with fail;refine(HS.o _ aD).mono ?_;rintro e w2 ⟨rfl,hC,hF⟩;have q0:=hC.row.cell (ag M.n X.S (t:=0) HJ.o aO);have q1:=hC.row.cell (ag M.n X.S (t:=1) HJ.o aO);have q2:=hC.row.cell (ag M.n X.S (t:=2) HJ.o aO);have q3:=hC.row.cell (ag M.n X.S (t:=3) HJ.o aO);rw[Nat.add_zero,H0.o] at q0;have jz:=hC.row.frozen;have HC:=aH hC;have HF:=aH hF;clear hC hF;go_wp2_with fail
 refine af ⟨HF.o,?_⟩;rotate_left;iterate 3
  focus
   refine af ⟨HF.o.mono aS,?_⟩;refine aR (fuel:=1) [9,10] rfl (HF.o.mono aS) ?_;intro Kq hKq;repeat (go_big_quiet_step (fail))
   refine wpQuiet_nil (hKq _ ?_);clear hKq Kq;refine aL 11 (fuel:=0) rfl ?_;go_wp2_with fail;refine af ⟨(HF.o.mono (S':=[B.sb,B.ab,B.wb]) aS).set ⟨B.sb,j*4+1,none⟩ (.int .i64 (X.A.get (A6 M x))) (.inl aS),?_⟩
  rotate_left
 all_goals
  refine aN ?_
 clear hne z0 z1 z2 z3;rotate_left;clear hne z0;have HP0:=aH (HC.o.put j (t:=1) aO (X.A.get (A6 M x)));have HG0:=aH ((HF.o.mono (S':=[B.sb,B.ab,B.wb]) aS).set ⟨B.sb,j*4+1,none⟩ (.int .i64 (X.A.get (A6 M x))) (.inl aS));have r0:=HP0.o.row.cell (ag M.n (ac X.S j 1 (X.A.get (A6 M x))) (t:=1) HJ.o aO);rw[show(ac X.S j 1 (X.A.get (A6 M x))) j 1=(X.A.get (A6 M x)) from by simp[ac]] at r0;have p0:=HP0.o.row.cell (ag M.n (ac X.S j 1 (X.A.get (A6 M x))) (t:=0) HJ.o aO);rw[Nat.add_zero,show(ac X.S j 1 (X.A.get (A6 M x))) j 0=X.S j 0 from by simp[ac],H0.o] at p0;have jz0:=HP0.o.row.frozen;have HP1:=aH (HP0.o.put j (t:=2) aO 0);have HG1:=aH (HG0.o.set ⟨B.sb,j*4+2,none⟩ (.int .i64 0) (.inl aS));have r1:=HP1.o.row.cell (ag M.n (ac (ac X.S j 1 (X.A.get (A6 M x))) j 2 0) (t:=2) HJ.o aO);rw[show(ac (ac X.S j 1 (X.A.get (A6 M x))) j 2 0) j 2=0 from by simp[ac]] at r1;have p1:=HP1.o.row.cell (ag M.n (ac (ac X.S j 1 (X.A.get (A6 M x))) j 2 0) (t:=0) HJ.o aO);rw[Nat.add_zero,show(ac (ac X.S j 1 (X.A.get (A6 M x))) j 2 0) j 0=X.S j 0 from by simp[ac],H0.o] at p1;have jz1:=HP1.o.row.frozen;rotate_left;iterate 2
  clear hne z0;have HP0:=aH (HC.o.put j (t:=1) aO (X.A.get (A6 M x)));have HG0:=aH ((HF.o.mono (S':=[B.sb,B.ab,B.wb]) aS).set ⟨B.sb,j*4+1,none⟩ (.int .i64 (X.A.get (A6 M x))) (.inl aS));have r0:=HP0.o.row.cell (ag M.n (ac X.S j 1 (X.A.get (A6 M x))) (t:=1) HJ.o aO);rw[show(ac X.S j 1 (X.A.get (A6 M x))) j 1=(X.A.get (A6 M x)) from by simp[ac]] at r0;have p0:=HP0.o.row.cell (ag M.n (ac X.S j 1 (X.A.get (A6 M x))) (t:=0) HJ.o aO);rw[Nat.add_zero,show(ac X.S j 1 (X.A.get (A6 M x))) j 0=X.S j 0 from by simp[ac],H0.o] at p0;have jz0:=HP0.o.row.frozen;rotate_left
 all_goals
  go_wp2;go_ret
 ·exact⟨rfl,HC.o.same aD,(HF.o.mono aS).trans aD⟩
 ·exact⟨rfl,HP1.o.same aD,(HG1.o).trans aD⟩
 iterate 2
  focus
   exact⟨rfl,HP0.o.same aD,(HG0.o).trans aD⟩
def xx:= @And.left _ _ DQ
def uN:= @And.left _ _ (@And.right _ _ DQ)
def uO:= @And.left _ _ (@And.right _ _ (@And.right _ _ DQ))
def uQ:= @And.right _ _ (@And.right _ _ (@And.right _ _ DQ))
theorem xz (h:be w B M X) {j:Nat} (hj:j<M.n) (h0:X.S j 0=6) (x:Int):Calls prog 249 #[some B.lb,.pointer (some ⟨B.sb,j*4,none⟩),x] w fun e w'=>e= .returned (10:Int)∧be w' B M ⟨X.A.store (A6 M x) 1,(ac (ac X.S j 1 1) j 2 1)⟩∧ae [B.sb,B.ab,B.wb] w w':=by
 have c0:=h.box.cell (i:=0) rfl;have c1:=h.box.cell (i:=1) rfl;have j0:=h.row.cell (ag M.n X.S (t:=0) hj aO);have j1:=h.row.cell (ag M.n X.S (t:=1) hj aO);have j2:=h.row.cell (ag M.n X.S (t:=2) hj aO);have j3:=h.row.cell (ag M.n X.S (t:=3) hj aO);rw[Nat.add_zero,h0] at j0;have HN0:=aH (fun(W:World) (hf:ae [] w W)=>Ge (h.same hf) x);have HS:=aH (fun(W:World) (hf:ae [] w W)=>(au (h.same hf).ar (A6 M x) 1).mono (fun e w' q=>(show e=_∧be w' B M {X with A:=X.A.store (A6 M x) 1}∧ae [B.ab,B.wb] w w' from⟨q.1,(h.same hf).arena q.2.2 q.2.1,(hf.mono aS).trans q.2.2⟩)));have HJ:=aH hj;have H0:=aH h0;clear h h0 hj;go_enter func249,ntmps249;go_wp2_with fail;go_wp2_with fail;go_region_with(first|(go_at_call 253;refine(HN0.o _ aD).mono ?_;rintro e w1 ⟨rfl,rfl⟩)|(go_at_call 63;refine(HS.o _ aD).mono ?_;rintro e w2 ⟨rfl,hC,hF⟩;have q0:=hC.row.cell (ag M.n X.S (t:=0) HJ.o aO);have q1:=hC.row.cell (ag M.n X.S (t:=1) HJ.o aO);have q2:=hC.row.cell (ag M.n X.S (t:=2) HJ.o aO);have q3:=hC.row.cell (ag M.n X.S (t:=3) HJ.o aO);rw[Nat.add_zero,H0.o] at q0;have jz:=hC.row.frozen;have HC:=aH hC;have HF:=aH hF;clear hC hF))
 all_goals
  have HP0:=aH (HC.o.put j (t:=1) aO 1);have HG0:=aH ((HF.o.mono (S':=[B.sb,B.ab,B.wb]) aS).set ⟨B.sb,j*4+1,none⟩ (.int .i64 1) (.inl aS));have r0:=HP0.o.row.cell (ag M.n (ac X.S j 1 1) (t:=1) HJ.o aO);rw[show(ac X.S j 1 1) j 1=1 from by simp[ac]] at r0;have p0:=HP0.o.row.cell (ag M.n (ac X.S j 1 1) (t:=0) HJ.o aO);rw[Nat.add_zero,show(ac X.S j 1 1) j 0=X.S j 0 from by simp[ac],H0.o] at p0;have jz0:=HP0.o.row.frozen;have HP1:=aH (HP0.o.put j (t:=2) aO 1);have HG1:=aH (HG0.o.set ⟨B.sb,j*4+2,none⟩ (.int .i64 1) (.inl aS));have r1:=HP1.o.row.cell (ag M.n (ac (ac X.S j 1 1) j 2 1) (t:=2) HJ.o aO);rw[show(ac (ac X.S j 1 1) j 2 1) j 2=1 from by simp[ac]] at r1;have p1:=HP1.o.row.cell (ag M.n (ac (ac X.S j 1 1) j 2 1) (t:=0) HJ.o aO);rw[Nat.add_zero,show(ac (ac X.S j 1 1) j 2 1) j 0=X.S j 0 from by simp[ac],H0.o] at p1;have jz1:=HP1.o.row.frozen;go_wp2;go_ret;exact⟨rfl,HP1.o.same aD,(HG1.o).trans aD⟩
end
section
variable{w w':World} {B:EC} {M:CP} {X:BQ}
theorem GF:(∀{w:World} {B:EC} {M:CP} {X:BQ} (h:be w B M X) {j:Nat} (hj:j<M.n) (h0:X.S j 0=12) (x:Int) (hv:X.A.casOk M.tail x=true),Calls prog 250 #[some B.lb,.pointer (some ⟨B.sb,j*4,none⟩),x] w fun e w'=>e= .returned (0:Int)∧be w' B M ⟨X.A.cas M.tail x 0,X.S⟩∧ae [B.sb,B.ab,B.wb] w w')∧(∀{w:World} {B:EC} {M:CP} {X:BQ} (h:be w B M X) {j:Nat} (hj:j<M.n) (h0:X.S j 0=12) (x:Int) (hv:X.A.casOk M.tail x=false),Calls prog 250 #[some B.lb,.pointer (some ⟨B.sb,j*4,none⟩),x] w fun e w'=>e= .returned (13:Int)∧be w' B M ⟨X.A.cas M.tail x 0,X.S⟩∧ae [B.sb,B.ab,B.wb] w w'):=by
 refine⟨?_,?_⟩;all_goals
  intro w B M X h j hj h0 x hv
 all_goals
  have c0:=h.box.cell (i:=0) rfl;have c1:=h.box.cell (i:=1) rfl;have j0:=h.row.cell (ag M.n X.S (t:=0) hj aO);have j1:=h.row.cell (ag M.n X.S (t:=1) hj aO);have j2:=h.row.cell (ag M.n X.S (t:=2) hj aO);have j3:=h.row.cell (ag M.n X.S (t:=3) hj aO);rw[Nat.add_zero,h0] at j0;have HS:=aH (fun(W:World) (hf:ae [] w W)=>(ii (h.same hf).ar M.tail x 0).mono (fun e w' q=>(show e=_∧be w' B M {X with A:=X.A.cas M.tail x 0}∧ae [B.ab,B.wb] w w' from⟨q.1,(h.same hf).arena q.2.2 q.2.1,(hf.mono aS).trans q.2.2⟩)));have HJ:=aH hj;have H0:=aH h0;rw[hv] at HS;clear hv;clear h h0 hj;go_enter func250,ntmps250;go_wp2_with fail;go_wp2_with fail;go_region_with(first|(go_at_call 165;refine(HS.o _ aD).mono ?_;rintro e w2 ⟨rfl,hC,hF⟩;have q0:=hC.row.cell (ag M.n X.S (t:=0) HJ.o aO);have q1:=hC.row.cell (ag M.n X.S (t:=1) HJ.o aO);have q2:=hC.row.cell (ag M.n X.S (t:=2) HJ.o aO);have q3:=hC.row.cell (ag M.n X.S (t:=3) HJ.o aO);rw[Nat.add_zero,H0.o] at q0;have jz:=hC.row.frozen;have HC:=aH hC;have HF:=aH hF;clear hC hF))
  all_goals
   go_wp2;go_ret;exact⟨rfl,HC.o.same aD,(HF.o.mono aS).trans aD⟩
def l8:= @And.left _ _ GF
def l9:= @And.right _ _ GF
theorem BJ:(∀{w:World} {B:EC} {M:CP} {X:BQ} (h:be w B M X) {j:Nat} (hj:j<M.n) (h0:X.S j 0=14) (x:Int),Calls prog 250 #[some B.lb,.pointer (some ⟨B.sb,j*4,none⟩),x] w fun e w'=>e= .returned (0:Int)∧be w' B M ⟨X.A.store (A6 M (X.S j 1)) (X.S j 3),X.S⟩∧ae [B.sb,B.ab,B.wb] w w')∧(∀{w:World} {B:EC} {M:CP} {X:BQ} (h:be w B M X) {j:Nat} (hj:j<M.n) (h0:X.S j 0=16) (x:Int),Calls prog 250 #[some B.lb,.pointer (some ⟨B.sb,j*4,none⟩),x] w fun e w'=>e= .returned (0:Int)∧be w' B M ⟨X.A.store (A6 M (X.S j 2)) (X.S j 3),X.S⟩∧ae [B.sb,B.ab,B.wb] w w')∧(∀{w:World} {B:EC} {M:CP} {X:BQ} (h:be w B M X) {j:Nat} (hj:j<M.n) (h0:X.S j 0=15) (x:Int) (hv:(X.A.get (A5 M x))=0),Calls prog 250 #[some B.lb,.pointer (some ⟨B.sb,j*4,none⟩),x] w fun e w'=>e= .returned (10:Int)∧be w' B M ⟨X.A.load (A5 M x),(ac X.S j 2 (X.A.get (A5 M x)))⟩∧ae [B.sb,B.ab,B.wb] w w')∧(∀{w:World} {B:EC} {M:CP} {X:BQ} (h:be w B M X) {j:Nat} (hj:j<M.n) (h0:X.S j 0=15) (x:Int) (hv:(X.A.get (A5 M x))≠0),Calls prog 250 #[some B.lb,.pointer (some ⟨B.sb,j*4,none⟩),x] w fun e w'=>e= .returned (16:Int)∧be w' B M ⟨X.A.load (A5 M x),(ac X.S j 2 (X.A.get (A5 M x)))⟩∧ae [B.sb,B.ab,B.wb] w w')∧(∀{w:World} {B:EC} {M:CP} {X:BQ} (h:be w B M X) {j:Nat} (hj:j<M.n) (h0:X.S j 0=11) (x:Int) (hv:(X.A.get (A5 M x))=0),Calls prog 250 #[some B.lb,.pointer (some ⟨B.sb,j*4,none⟩),x] w fun e w'=>e= .returned (12:Int)∧be w' B M ⟨X.A.load (A5 M x),(ac X.S j 1 (X.A.get (A5 M x)))⟩∧ae [B.sb,B.ab,B.wb] w w')∧(∀{w:World} {B:EC} {M:CP} {X:BQ} (h:be w B M X) {j:Nat} (hj:j<M.n) (h0:X.S j 0=13) (x:Int) (hv:(X.A.get (A5 M x))=0),Calls prog 250 #[some B.lb,.pointer (some ⟨B.sb,j*4,none⟩),x] w fun e w'=>e= .returned (13:Int)∧be w' B M ⟨X.A.load (A5 M x),(ac X.S j 1 (X.A.get (A5 M x)))⟩∧ae [B.sb,B.ab,B.wb] w w')∧(∀{w:World} {B:EC} {M:CP} {X:BQ} (h:be w B M X) {j:Nat} (hj:j<M.n) (h0:X.S j 0=11) (x:Int) (hv:(X.A.get (A5 M x))≠0),Calls prog 250 #[some B.lb,.pointer (some ⟨B.sb,j*4,none⟩),x] w fun e w'=>e= .returned (14:Int)∧be w' B M ⟨X.A.load (A5 M x),(ac X.S j 1 (X.A.get (A5 M x)))⟩∧ae [B.sb,B.ab,B.wb] w w')∧(∀{w:World} {B:EC} {M:CP} {X:BQ} (h:be w B M X) {j:Nat} (hj:j<M.n) (h0:X.S j 0=13) (x:Int) (hv:(X.A.get (A5 M x))≠0),Calls prog 250 #[some B.lb,.pointer (some ⟨B.sb,j*4,none⟩),x] w fun e w'=>e= .returned (14:Int)∧be w' B M ⟨X.A.load (A5 M x),(ac X.S j 1 (X.A.get (A5 M x)))⟩∧ae [B.sb,B.ab,B.wb] w w'):=by
 refine⟨?_,?_,?_,?_,?_,?_,?_,?_⟩;iterate 2
  intro w B M X h j hj h0 x;rotate_left
 iterate 6
  intro w B M X h j hj h0 x hv;rotate_left
 all_goals
  have c0:=h.box.cell (i:=0) rfl;have c1:=h.box.cell (i:=1) rfl;have j0:=h.row.cell (ag M.n X.S (t:=0) hj aO);have j1:=h.row.cell (ag M.n X.S (t:=1) hj aO);have j2:=h.row.cell (ag M.n X.S (t:=2) hj aO);have j3:=h.row.cell (ag M.n X.S (t:=3) hj aO);rw[Nat.add_zero,h0] at j0
 have HN0:=aH (fun(W:World) (hf:ae [] w W)=>Ge (h.same hf) (X.S j 1));have HS:=aH (fun(W:World) (hf:ae [] w W)=>(au (h.same hf).ar (A6 M (X.S j 1)) (X.S j 3)).mono (fun e w' q=>(show e=_∧be w' B M {X with A:=X.A.store (A6 M (X.S j 1)) (X.S j 3)}∧ae [B.ab,B.wb] w w' from⟨q.1,(h.same hf).arena q.2.2 q.2.1,(hf.mono aS).trans q.2.2⟩)));rotate_left;have HN0:=aH (fun(W:World) (hf:ae [] w W)=>Ge (h.same hf) (X.S j 2));have HS:=aH (fun(W:World) (hf:ae [] w W)=>(au (h.same hf).ar (A6 M (X.S j 2)) (X.S j 3)).mono (fun e w' q=>(show e=_∧be w' B M {X with A:=X.A.store (A6 M (X.S j 2)) (X.S j 3)}∧ae [B.ab,B.wb] w w' from⟨q.1,(h.same hf).arena q.2.2 q.2.1,(hf.mono aS).trans q.2.2⟩)));rotate_left;iterate 6
  have HN0:=aH (fun(W:World) (hf:ae [] w W)=>Kc (h.same hf) x);have HS:=aH (fun(W:World) (hf:ae [] w W)=>(bq (h.same hf).ar (A5 M x)).mono (fun e w' q=>(show e=_∧be w' B M {X with A:=X.A.load (A5 M x)}∧ae [B.ab,B.wb] w w' from⟨q.1,(h.same hf).arena q.2.2 q.2.1,(hf.mono aS).trans q.2.2⟩)));rotate_left
 all_goals
  have HJ:=aH hj;have H0:=aH h0;have HBX:=aH h.box
 iterate 2
  have HNB:=aH (show B.lb∉[B.ab,B.wb] from fun hm=>by have n1:=h.box.differ h.row aJ;have n2:=h.box.differ h.ar.box aJ;have n3:=h.box.differ h.ar.row aJ;simp at hm;omega);have hne:=aW [B.ab,B.wb] w;have z0:∀q:HW (fun wx=>ae [B.ab,B.wb] w wx),q.w.cell? (B.lb,0)=some (.pointer (some ⟨B.ab,0,none⟩)):=fun q=>(HBX.o.frm q.h HNB.o).cell (i:=0) rfl;have HRW:=aH (And.intro h.row (show B.sb∉[B.ab,B.wb] from by have:=h.ne;simp;omega));have z1:∀q:HW (fun wx=>ae [B.ab,B.wb] w wx),q.w.cell? (B.sb,j*4+1)=some (.int .i64 (X.S j 1)):=fun q=>(HRW.o.1.frm q.h HRW.o.2).cell (ag M.n X.S (t:=1) HJ.o aO);have z2:∀q:HW (fun wx=>ae [B.ab,B.wb] w wx),q.w.cell? (B.sb,j*4+2)=some (.int .i64 (X.S j 2)):=fun q=>(HRW.o.1.frm q.h HRW.o.2).cell (ag M.n X.S (t:=2) HJ.o aO);have z3:∀q:HW (fun wx=>ae [B.ab,B.wb] w wx),q.w.cell? (B.sb,j*4+3)=some (.int .i64 (X.S j 3)):=fun q=>(HRW.o.1.frm q.h HRW.o.2).cell (ag M.n X.S (t:=3) HJ.o aO);rotate_left
 have HNB:=aH (show B.lb∉[B.sb,B.ab,B.wb] from fun hm=>by have n1:=h.box.differ h.row aJ;have n2:=h.box.differ h.ar.box aJ;have n3:=h.box.differ h.ar.row aJ;simp at hm;omega);have hne:=aW [B.sb,B.ab,B.wb] w;have z0:∀q:HW (fun wx=>ae [B.sb,B.ab,B.wb] w wx),q.w.cell? (B.lb,0)=some (.pointer (some ⟨B.ab,0,none⟩)):=fun q=>(HBX.o.frm q.h HNB.o).cell (i:=0) rfl;have e1:((X.A.get (A5 M x))==0)=true:=by simpa using hv
 clear hv;rotate_left;have HNB:=aH (show B.lb∉[B.sb,B.ab,B.wb] from fun hm=>by have n1:=h.box.differ h.row aJ;have n2:=h.box.differ h.ar.box aJ;have n3:=h.box.differ h.ar.row aJ;simp at hm;omega);have hne:=aW [B.sb,B.ab,B.wb] w;have z0:∀q:HW (fun wx=>ae [B.sb,B.ab,B.wb] w wx),q.w.cell? (B.lb,0)=some (.pointer (some ⟨B.ab,0,none⟩)):=fun q=>(HBX.o.frm q.h HNB.o).cell (i:=0) rfl;have e1:((X.A.get (A5 M x))==0)=false:=by simpa using hv
 clear hv;rotate_left;iterate 2
  have HNB:=aH (show B.lb∉[B.sb,B.ab,B.wb] from fun hm=>by have n1:=h.box.differ h.row aJ;have n2:=h.box.differ h.ar.box aJ;have n3:=h.box.differ h.ar.row aJ;simp at hm;omega);have hne:=aW [B.sb,B.ab,B.wb] w;have z0:∀q:HW (fun wx=>ae [B.sb,B.ab,B.wb] w wx),q.w.cell? (B.lb,0)=some (.pointer (some ⟨B.ab,0,none⟩)):=fun q=>(HBX.o.frm q.h HNB.o).cell (i:=0) rfl;have e1:((X.A.get (A5 M x))!=0)=false:=by simpa using hv
  clear hv;rotate_left
 iterate 2
  have HNB:=aH (show B.lb∉[B.sb,B.ab,B.wb] from fun hm=>by have n1:=h.box.differ h.row aJ;have n2:=h.box.differ h.ar.box aJ;have n3:=h.box.differ h.ar.row aJ;simp at hm;omega);have hne:=aW [B.sb,B.ab,B.wb] w;have z0:∀q:HW (fun wx=>ae [B.sb,B.ab,B.wb] w wx),q.w.cell? (B.lb,0)=some (.pointer (some ⟨B.ab,0,none⟩)):=fun q=>(HBX.o.frm q.h HNB.o).cell (i:=0) rfl;have e1:((X.A.get (A5 M x))!=0)=true:=by simpa using hv
  clear hv;rotate_left
 all_goals
  clear h h0 hj;go_enter func250,ntmps250;go_wp2_with fail;go_wp2_with fail
 iterate 2
  refine bv (S:=(fun wx=>ae [B.ab,B.wb] w wx)) aK ?_;refine aR (fuel:=2) [0,1,2,3,4,5,6,7,8,10,11,12,13] rfl (aF.drew1) ?_;rotate_left
 iterate 6
  refine bv (S:=(fun wx=>ae [B.sb,B.ab,B.wb] w wx)) aK ?_;refine aR (fuel:=5) [0,1,2,3,4,5,6] rfl (aF.drew1) ?_;rotate_left
 all_goals
  intro Kq hKq;repeat (go_big_quiet_step (fail))
  refine wpQuiet_nil (hKq _ ?_);clear hKq Kq
 iterate 2
  refine aL 9 (fuel:=1) rfl ?_;rotate_left
 iterate 6
  refine aL 7 (fuel:=4) rfl ?_;rotate_left
 all_goals
  go_wp2_with fail;refine(HN0.o _ aD).mono ?_;rintro e w1 ⟨rfl,rfl⟩;go_wp2_with fail;refine af ⟨aF.drew1,?_⟩
 iterate 2
  refine aL 14 (fuel:=0) rfl ?_;rotate_left
 iterate 6
  refine aL 8 (fuel:=3) rfl ?_;rotate_left
 all_goals
  go_wp2_with fail;refine(HS.o _ aD).mono ?_;rintro e w2 ⟨rfl,hC,hF⟩;have q0:=hC.row.cell (ag M.n X.S (t:=0) HJ.o aO);have q1:=hC.row.cell (ag M.n X.S (t:=1) HJ.o aO);have q2:=hC.row.cell (ag M.n X.S (t:=2) HJ.o aO);have q3:=hC.row.cell (ag M.n X.S (t:=3) HJ.o aO);rw[Nat.add_zero,H0.o] at q0;have jz:=hC.row.frozen;have HC:=aH hC;have HF:=aH hF;clear hC hF;go_wp2_with fail
 iterate 2
  refine af ⟨HF.o,?_⟩;rotate_left
 iterate 2
  focus
   refine af ⟨HF.o.mono aS,?_⟩;refine aR (fuel:=1) [9,10] rfl (HF.o.mono aS) ?_;intro Kq hKq;repeat (go_big_quiet_step (fail))
   refine wpQuiet_nil (hKq _ ?_);clear hKq Kq;refine aL 11 (fuel:=0) rfl ?_;go_wp2_with fail;refine af ⟨(HF.o.mono (S':=[B.sb,B.ab,B.wb]) aS).set ⟨B.sb,j*4+2,none⟩ (.int .i64 (X.A.get (A5 M x))) (.inl aS),?_⟩
  rotate_left
 iterate 4
  focus
   refine af ⟨HF.o.mono aS,?_⟩;refine aR (fuel:=1) [9,10] rfl (HF.o.mono aS) ?_;intro Kq hKq;repeat (go_big_quiet_step (fail))
   refine wpQuiet_nil (hKq _ ?_);clear hKq Kq;refine aL 11 (fuel:=0) rfl ?_;go_wp2_with fail;refine af ⟨(HF.o.mono (S':=[B.sb,B.ab,B.wb]) aS).set ⟨B.sb,j*4+1,none⟩ (.int .i64 (X.A.get (A5 M x))) (.inl aS),?_⟩
  rotate_left
 all_goals
  refine aN ?_
 iterate 2
  clear hne z0 z1 z2 z3;rotate_left
 iterate 2
  clear hne z0;have HP0:=aH (HC.o.put j (t:=2) aO (X.A.get (A5 M x)));have HG0:=aH ((HF.o.mono (S':=[B.sb,B.ab,B.wb]) aS).set ⟨B.sb,j*4+2,none⟩ (.int .i64 (X.A.get (A5 M x))) (.inl aS));have r0:=HP0.o.row.cell (ag M.n (ac X.S j 2 (X.A.get (A5 M x))) (t:=2) HJ.o aO);rw[show(ac X.S j 2 (X.A.get (A5 M x))) j 2=(X.A.get (A5 M x)) from by simp[ac]] at r0;have p0:=HP0.o.row.cell (ag M.n (ac X.S j 2 (X.A.get (A5 M x))) (t:=0) HJ.o aO);rw[Nat.add_zero,show(ac X.S j 2 (X.A.get (A5 M x))) j 0=X.S j 0 from by simp[ac],H0.o] at p0;have jz0:=HP0.o.row.frozen;rotate_left
 iterate 4
  clear hne z0;have HP0:=aH (HC.o.put j (t:=1) aO (X.A.get (A5 M x)));have HG0:=aH ((HF.o.mono (S':=[B.sb,B.ab,B.wb]) aS).set ⟨B.sb,j*4+1,none⟩ (.int .i64 (X.A.get (A5 M x))) (.inl aS));have r0:=HP0.o.row.cell (ag M.n (ac X.S j 1 (X.A.get (A5 M x))) (t:=1) HJ.o aO);rw[show(ac X.S j 1 (X.A.get (A5 M x))) j 1=(X.A.get (A5 M x)) from by simp[ac]] at r0;have p0:=HP0.o.row.cell (ag M.n (ac X.S j 1 (X.A.get (A5 M x))) (t:=0) HJ.o aO);rw[Nat.add_zero,show(ac X.S j 1 (X.A.get (A5 M x))) j 0=X.S j 0 from by simp[ac],H0.o] at p0;have jz0:=HP0.o.row.frozen;rotate_left
 all_goals
  go_wp2;go_ret
 iterate 2
  focus
   exact⟨rfl,HC.o.same aD,(HF.o.mono aS).trans aD⟩
 iterate 6
  focus
   exact⟨rfl,HP0.o.same aD,(HG0.o).trans aD⟩
def pK:= @And.left _ _ BJ
def pL:= @And.left _ _ (@And.right _ _ BJ)
def lI:= @And.left _ _ (@And.right _ _ (@And.right _ _ BJ))
def lJ:= @And.left _ _ (@And.right _ _ (@And.right _ _ (@And.right _ _ BJ)))
def kw:= @And.left _ _ (@And.right _ _ (@And.right _ _ (@And.right _ _ (@And.right _ _ BJ))))
def lE:= @And.left _ _ (@And.right _ _ (@And.right _ _ (@And.right _ _ (@And.right _ _ (@And.right _ _ BJ)))))
def l6:= @And.left _ _ (@And.right _ _ (@And.right _ _ (@And.right _ _ (@And.right _ _ (@And.right _ _ (@And.right _ _ BJ))))))
def lF:= @And.right _ _ (@And.right _ _ (@And.right _ _ (@And.right _ _ (@And.right _ _ (@And.right _ _ (@And.right _ _ BJ))))))
end
def GV (M:CP) (X:BQ) (j:Nat):BQ×Int:=(⟨X.A.store (A5 M ((j:Int)+1)) 0,X.S⟩,2)
def GW (M:CP) (X:BQ) (j:Nat):BQ×Int:=(⟨X.A.store (A6 M ((j:Int)+1)) 0,X.S⟩,3)
def GY (M:CP) (X:BQ) (j:Nat):BQ×Int:=(⟨X.A.swap M.tail ((j:Int)+1),ac X.S j 1 (X.A.get M.tail)⟩,if X.A.get M.tail=0 then 6 else 4)
def GZ (M:CP) (X:BQ) (j:Nat):BQ×Int:=(⟨X.A.store (A5 M (X.S j 1)) ((j:Int)+1),X.S⟩,5)
def Ga (M:CP) (X:BQ) (j:Nat):BQ×Int:=if 0<(X.A.get (A6 M ((j:Int)+1))) then(⟨X.A.load (A6 M ((j:Int)+1)),ac (ac X.S j 1 (X.A.get (A6 M ((j:Int)+1)))) j 2 0⟩,10) else(⟨X.A.load (A6 M ((j:Int)+1)),ac X.S j 1 (X.A.get (A6 M ((j:Int)+1)))⟩,if(X.A.get (A6 M ((j:Int)+1)))<0 then 6 else 5)
def Gd (M:CP) (X:BQ) (j:Nat):BQ×Int:=(⟨X.A.store (A6 M ((j:Int)+1)) 1,ac (ac X.S j 1 1) j 2 1⟩,10)
def Dj (M:CP) (X:BQ) (j:Nat):BQ×Int:=(⟨X.A.load (A5 M ((j:Int)+1)),ac X.S j 1 (X.A.get (A5 M ((j:Int)+1)))⟩,if(X.A.get (A5 M ((j:Int)+1)))=0 then 12 else 14)
def Dk (M:CP) (X:BQ) (j:Nat):BQ×Int:=(⟨X.A.cas M.tail ((j:Int)+1) 0,X.S⟩,if X.A.casOk M.tail ((j:Int)+1)=true then 0 else 13)
def Dl (M:CP) (X:BQ) (j:Nat):BQ×Int:=(⟨X.A.load (A5 M ((j:Int)+1)),ac X.S j 1 (X.A.get (A5 M ((j:Int)+1)))⟩,if(X.A.get (A5 M ((j:Int)+1)))=0 then 13 else 14)
def F8 (M:CP) (X:BQ) (j:Nat):BQ×Int:=(⟨X.A.store (A6 M (X.S j 1)) (X.S j 3),X.S⟩,0)
def Dm (M:CP) (X:BQ) (j:Nat):BQ×Int:=(⟨X.A.load (A5 M ((j:Int)+1)),ac X.S j 2 (X.A.get (A5 M ((j:Int)+1)))⟩,if(X.A.get (A5 M ((j:Int)+1)))=0 then 10 else 16)
def F9 (M:CP) (X:BQ) (j:Nat):BQ×Int:=(⟨X.A.store (A6 M (X.S j 2)) (X.S j 3),X.S⟩,0)
def BM (M:CP) (X:BQ) (j:Nat):BQ×Int:=
 if X.S j 0=1 then GV M X j else
 if X.S j 0=2 then GW M X j else
 if X.S j 0=3 then GY M X j else
 if X.S j 0=4 then GZ M X j else
 if X.S j 0=5 then Ga M X j else
 if X.S j 0=6 then Gd M X j else
 if X.S j 0=11 then Dj M X j else
 if X.S j 0=12 then Dk M X j else
 if X.S j 0=13 then Dl M X j else
 if X.S j 0=14 then F8 M X j else
 if X.S j 0=15 then Dm M X j else
 if X.S j 0=16 then F9 M X j else
 (X,X.S j 0)
def FV (pc:Int):Prop:=(0≤pc∧pc≤6)∨(10≤pc∧pc≤16)
def Bn (X:BQ) (j:Nat):Bool:= !(X.S j 0==0)&& !(X.S j 0==10)
def Fe (M:CP) (X:BQ) (j:Nat):Bool:=Bn X j&&((BM M X j).2==0||(BM M X j).2==10)
def D7 (M:CP) (X:BQ) (j:Nat):BQ:=if Bn X j then{(BM M X j).1 with S:=ac (BM M X j).1.S j 0 (BM M X j).2} else X
section
variable{w w':World} {B:EC} {M:CP} {X:BQ} {j:Nat}
theorem xm (h:be w B M X) (hj:j<M.n) (h0:X.S j 0=1):Calls prog 249 #[some B.lb,.pointer (some ⟨B.sb,j*4,none⟩),((j:Int)+1:Int)] w fun e w'=>e= .returned (.int .i64 (GV M X j).2)∧be w' B M (GV M X j).1∧ae [B.sb,B.ab,B.wb] w w':=by
 unfold GV;exact xv h hj h0 _
theorem xo (h:be w B M X) (hj:j<M.n) (h0:X.S j 0=2):Calls prog 249 #[some B.lb,.pointer (some ⟨B.sb,j*4,none⟩),((j:Int)+1:Int)] w fun e w'=>e= .returned (.int .i64 (GW M X j).2)∧be w' B M (GW M X j).1∧ae [B.sb,B.ab,B.wb] w w':=by
 unfold GW;exact xw h hj h0 _
theorem xp (h:be w B M X) (hj:j<M.n) (h0:X.S j 0=3):Calls prog 249 #[some B.lb,.pointer (some ⟨B.sb,j*4,none⟩),((j:Int)+1:Int)] w fun e w'=>e= .returned (.int .i64 (GY M X j).2)∧be w' B M (GY M X j).1∧ae [B.sb,B.ab,B.wb] w w':=by
 unfold GY;by_cases hv:X.A.get M.tail=0
 ·rw[if_pos hv];exact uJ h hj h0 _ hv
 ·rw[if_neg hv];exact uL h hj h0 _ hv
theorem xq (h:be w B M X) (hj:j<M.n) (h0:X.S j 0=4):Calls prog 249 #[some B.lb,.pointer (some ⟨B.sb,j*4,none⟩),((j:Int)+1:Int)] w fun e w'=>e= .returned (.int .i64 (GZ M X j).2)∧be w' B M (GZ M X j).1∧ae [B.sb,B.ab,B.wb] w w':=by
 unfold GZ;exact xx h hj h0 _
theorem xr (h:be w B M X) (hj:j<M.n) (h0:X.S j 0=5):Calls prog 249 #[some B.lb,.pointer (some ⟨B.sb,j*4,none⟩),((j:Int)+1:Int)] w fun e w'=>e= .returned (.int .i64 (Ga M X j).2)∧be w' B M (Ga M X j).1∧ae [B.sb,B.ab,B.wb] w w':=by
 unfold Ga;by_cases hv:0<(X.A.get (A6 M ((j:Int)+1)))
 ·rw[if_pos hv];exact uN h hj h0 _ hv
 ·rw[if_neg hv];by_cases hw:(X.A.get (A6 M ((j:Int)+1)))<0
  ·rw[if_pos hw];exact uO h hj h0 _ hw
  ·rw[if_neg hw];exact uQ h hj h0 _ aO
theorem xu (h:be w B M X) (hj:j<M.n) (h0:X.S j 0=6):Calls prog 249 #[some B.lb,.pointer (some ⟨B.sb,j*4,none⟩),((j:Int)+1:Int)] w fun e w'=>e= .returned (.int .i64 (Gd M X j).2)∧be w' B M (Gd M X j).1∧ae [B.sb,B.ab,B.wb] w w':=by
 unfold Gd;exact xz h hj h0 _
theorem u9 (h:be w B M X) (hj:j<M.n) (h0:X.S j 0=11):Calls prog 250 #[some B.lb,.pointer (some ⟨B.sb,j*4,none⟩),((j:Int)+1:Int)] w fun e w'=>e= .returned (.int .i64 (Dj M X j).2)∧be w' B M (Dj M X j).1∧ae [B.sb,B.ab,B.wb] w w':=by
 unfold Dj;by_cases hv:(X.A.get (A5 M ((j:Int)+1)))=0
 ·rw[if_pos hv];exact kw h hj h0 _ hv
 ·rw[if_neg hv];exact l6 h hj h0 _ hv
theorem uA (h:be w B M X) (hj:j<M.n) (h0:X.S j 0=12):Calls prog 250 #[some B.lb,.pointer (some ⟨B.sb,j*4,none⟩),((j:Int)+1:Int)] w fun e w'=>e= .returned (.int .i64 (Dk M X j).2)∧be w' B M (Dk M X j).1∧ae [B.sb,B.ab,B.wb] w w':=by
 unfold Dk;cases hv:X.A.casOk M.tail ((j:Int)+1) with
 |true=>rw[if_pos rfl];exact l8 h hj h0 _ hv
 |false=>rw[if_neg aS];exact l9 h hj h0 _ hv
theorem uC (h:be w B M X) (hj:j<M.n) (h0:X.S j 0=13):Calls prog 250 #[some B.lb,.pointer (some ⟨B.sb,j*4,none⟩),((j:Int)+1:Int)] w fun e w'=>e= .returned (.int .i64 (Dl M X j).2)∧be w' B M (Dl M X j).1∧ae [B.sb,B.ab,B.wb] w w':=by
 unfold Dl;by_cases hv:(X.A.get (A5 M ((j:Int)+1)))=0
 ·rw[if_pos hv];exact lE h hj h0 _ hv
 ·rw[if_neg hv];exact lF h hj h0 _ hv
theorem uD (h:be w B M X) (hj:j<M.n) (h0:X.S j 0=14):Calls prog 250 #[some B.lb,.pointer (some ⟨B.sb,j*4,none⟩),((j:Int)+1:Int)] w fun e w'=>e= .returned (.int .i64 (F8 M X j).2)∧be w' B M (F8 M X j).1∧ae [B.sb,B.ab,B.wb] w w':=by
 unfold F8;exact pK h hj h0 _
theorem uE (h:be w B M X) (hj:j<M.n) (h0:X.S j 0=15):Calls prog 250 #[some B.lb,.pointer (some ⟨B.sb,j*4,none⟩),((j:Int)+1:Int)] w fun e w'=>e= .returned (.int .i64 (Dm M X j).2)∧be w' B M (Dm M X j).1∧ae [B.sb,B.ab,B.wb] w w':=by
 unfold Dm;by_cases hv:(X.A.get (A5 M ((j:Int)+1)))=0
 ·rw[if_pos hv];exact lI h hj h0 _ hv
 ·rw[if_neg hv];exact lJ h hj h0 _ hv
theorem uI (h:be w B M X) (hj:j<M.n) (h0:X.S j 0=16):Calls prog 250 #[some B.lb,.pointer (some ⟨B.sb,j*4,none⟩),((j:Int)+1:Int)] w fun e w'=>e= .returned (.int .i64 (F9 M X j).2)∧be w' B M (F9 M X j).1∧ae [B.sb,B.ab,B.wb] w w':=by
 unfold F9;exact pL h hj h0 _
theorem FN:(∀{w:World} {B:EC} {M:CP} {X:BQ} {j:Nat} (h:be w B M X) (hj:j<M.n) {q:Int} (hp:X.S j 0=q) (h00:(q==0)=false) (h10:(q==10)=false) (hq:q<10) {X2:BQ} {r:Int} (B7:∀W,ae [] w W→Calls prog 249 #[some B.lb,.pointer (some ⟨B.sb,j*4,none⟩),((j:Int)+1:Int)] W fun e w'=>e= .returned r∧be w' B M X2∧ae [B.sb,B.ab,B.wb] W w'),Calls prog 242 #[some B.lb,j] w fun e w'=>e= .returned (.bool (r==0||r==10))∧be w' B M {X2 with S:=ac X2.S j 0 r}∧ae [B.sb,B.ab,B.wb] w w')∧(∀{w:World} {B:EC} {M:CP} {X:BQ} {j:Nat} (h:be w B M X) (hj:j<M.n) {q:Int} (hp:X.S j 0=q) (h00:(q==0)=false) (h10:(q==10)=false) (hq:10≤q) {X2:BQ} {r:Int} (B7:∀W,ae [] w W→Calls prog 250 #[some B.lb,.pointer (some ⟨B.sb,j*4,none⟩),((j:Int)+1:Int)] W fun e w'=>e= .returned r∧be w' B M X2∧ae [B.sb,B.ab,B.wb] W w'),Calls prog 242 #[some B.lb,j] w fun e w'=>e= .returned (.bool (r==0||r==10))∧be w' B M {X2 with S:=ac X2.S j 0 r}∧ae [B.sb,B.ab,B.wb] w w'):=by
 refine⟨?_,?_⟩;all_goals
  intro w B M X j h hj q hp h00 h10 hq X2 r B7
 all_goals
  have hS:=Jz h hj;rw[hp] at hS;have HS:=aH hS;have HGO:=aH B7;have H:=aH h;have HJ:=aH hj;have hn:=h.n32;have l1:(j:Int)<M.n:=by omega
  have l2:decide (M.n≤j)=false:=aB;have l3:decide ((j:Int)<0)=false:=aB;have l4:decide ((M.n:Int)≤j)=false:=aB
 have d1:decide (q<10)=true:=decide_eq_true hq;rotate_left;have d1:decide (q<10)=false:=aB;rotate_left;all_goals
  have fd:=bY;generalize X.S j 1=s1 at*;generalize X.S j 2=s2 at*;generalize X.S j 3=s3 at*;clear h hj hS hq hp B7;cases hr:(r==0)
  all_goals
   go_enter func242,ntmps242;go_wp2_with fail;refine HS.o.mono ?_;rintro e w1 ⟨rfl,hF1⟩;have HF1:=aH hF1;have c2:=(H.o.same hF1).box.cell (i:=2) rfl;clear hF1;go_wp2_with fail;refine(HGO.o _ HF1.o).mono ?_;rintro e w2 ⟨rfl,hC,hF2⟩;have k0:=hC.row.cell (ag M.n X2.S (i:=j) (t:=0) HJ.o aO);rw[Nat.add_zero] at k0;have kz:=hC.row.frozen;have hP:=hC.put j (t:=0) aO r;rw[Nat.add_zero] at hP;have HP:=aH hP;have HF2:=aH (((HF1.o.mono (S':=[B.sb,B.ab,B.wb]) aS).trans hF2).set ⟨B.sb,j*4,none⟩ (.int .i64 r) (.inl aS));clear hC hF2 hP c2;go_wp2;go_ret;exact⟨rfl,HP.o,HF2.o⟩
def Cs:= @And.left _ _ FN
def CD:= @And.right _ _ FN
theorem uU (h:be w B M X) (hj:j<M.n) (hp:Bn X j=false):Calls prog 242 #[some B.lb,j] w fun e w'=>e= .returned false∧be w' B M X∧ae [B.sb,B.ab,B.wb] w w':=by
 have HS:=aH (Jz h hj);have H:=aH h;have fd:=bY;have hq:X.S j 0=0∨X.S j 0=10:=by
  unfold Bn at hp;by_cases h1:X.S j 0=0
  ·exact .inl h1
  ·by_cases h2:X.S j 0=10
   ·exact .inr h2
   ·simp[h1,h2] at hp
 generalize X.S j 0=q at*;clear h hj hp;rcases hq with rfl|rfl;all_goals
  go_enter func242,ntmps242;go_wp2_with fail;refine HS.o.mono ?_;rintro e w1 ⟨rfl,hF1⟩;have HF1:=aH hF1;clear hF1;go_wp2;go_ret;exact⟨rfl,H.o.same HF1.o,HF1.o.mono aS⟩
theorem uT (h:be w B M X) (hj:j<M.n) (hpc:FV (X.S j 0)):Calls prog 242 #[some B.lb,j] w fun e w'=>e= .returned (.bool (Fe M X j))∧be w' B M (D7 M X j)∧ae [B.sb,B.ab,B.wb] w w':=by
 unfold Fe D7;cases hm:Bn X j with
 |false=>rw[if_neg aS];exact uU h hj hm
 |true=>
  rw[if_pos rfl,Bool.true_and];have hm0:X.S j 0≠0∧X.S j 0≠10:=by unfold Bn at hm;simpa using hm
  have h00:(X.S j 0==0)=false:=by simpa using hm0.1
  have h10:(X.S j 0==10)=false:=by simpa using hm0.2
  have hc:X.S j 0=1∨X.S j 0=2∨X.S j 0=3∨X.S j 0=4∨X.S j 0=5∨X.S j 0=6∨X.S j 0=11∨X.S j 0=12∨X.S j 0=13∨X.S j 0=14∨X.S j 0=15∨X.S j 0=16:=by unfold FV at hpc;omega
  rcases hc with hp|hp|hp|hp|hp|hp|hp|hp|hp|hp|hp|hp
  ·have e:BM M X j=GV M X j:=by unfold BM;rw[if_pos hp]
   rw[e];exact Cs h hj rfl h00 h10 aO (fun W hf=>xm (h.same hf) hj hp)
  ·have e:BM M X j=GW M X j:=by unfold BM;rw[if_neg aO];rw[if_pos hp]
   rw[e];exact Cs h hj rfl h00 h10 aO (fun W hf=>xo (h.same hf) hj hp)
  ·have e:BM M X j=GY M X j:=by unfold BM;rw[if_neg aO];rw[if_neg aO];rw[if_pos hp]
   rw[e];exact Cs h hj rfl h00 h10 aO (fun W hf=>xp (h.same hf) hj hp)
  ·have e:BM M X j=GZ M X j:=by unfold BM;rw[if_neg aO];rw[if_neg aO];rw[if_neg aO];rw[if_pos hp]
   rw[e];exact Cs h hj rfl h00 h10 aO (fun W hf=>xq (h.same hf) hj hp)
  ·have e:BM M X j=Ga M X j:=by unfold BM;rw[if_neg aO];rw[if_neg aO];rw[if_neg aO];rw[if_neg aO];rw[if_pos hp]
   rw[e];exact Cs h hj rfl h00 h10 aO (fun W hf=>xr (h.same hf) hj hp)
  ·have e:BM M X j=Gd M X j:=by unfold BM;rw[if_neg aO];rw[if_neg aO];rw[if_neg aO];rw[if_neg aO];rw[if_neg aO];rw[if_pos hp]
   rw[e];exact Cs h hj rfl h00 h10 aO (fun W hf=>xu (h.same hf) hj hp)
  ·have e:BM M X j=Dj M X j:=by unfold BM;rw[if_neg aO];rw[if_neg aO];rw[if_neg aO];rw[if_neg aO];rw[if_neg aO];rw[if_neg aO];rw[if_pos hp]
   rw[e];exact CD h hj rfl h00 h10 aO (fun W hf=>u9 (h.same hf) hj hp)
  ·have e:BM M X j=Dk M X j:=by unfold BM;rw[if_neg aO];rw[if_neg aO];rw[if_neg aO];rw[if_neg aO];rw[if_neg aO];rw[if_neg aO];rw[if_neg aO];rw[if_pos hp]
   rw[e];exact CD h hj rfl h00 h10 aO (fun W hf=>uA (h.same hf) hj hp)
  ·have e:BM M X j=Dl M X j:=by unfold BM;rw[if_neg aO];rw[if_neg aO];rw[if_neg aO];rw[if_neg aO];rw[if_neg aO];rw[if_neg aO];rw[if_neg aO];rw[if_neg aO];rw[if_pos hp]
   rw[e];exact CD h hj rfl h00 h10 aO (fun W hf=>uC (h.same hf) hj hp)
  ·have e:BM M X j=F8 M X j:=by unfold BM;rw[if_neg aO];rw[if_neg aO];rw[if_neg aO];rw[if_neg aO];rw[if_neg aO];rw[if_neg aO];rw[if_neg aO];rw[if_neg aO];rw[if_neg aO];rw[if_pos hp]
   rw[e];exact CD h hj rfl h00 h10 aO (fun W hf=>uD (h.same hf) hj hp)
  ·have e:BM M X j=Dm M X j:=by unfold BM;rw[if_neg aO];rw[if_neg aO];rw[if_neg aO];rw[if_neg aO];rw[if_neg aO];rw[if_neg aO];rw[if_neg aO];rw[if_neg aO];rw[if_neg aO];rw[if_neg aO];rw[if_pos hp]
   rw[e];exact CD h hj rfl h00 h10 aO (fun W hf=>uE (h.same hf) hj hp)
  ·have e:BM M X j=F9 M X j:=by unfold BM;rw[if_neg aO];rw[if_neg aO];rw[if_neg aO];rw[if_neg aO];rw[if_neg aO];rw[if_neg aO];rw[if_neg aO];rw[if_neg aO];rw[if_neg aO];rw[if_neg aO];rw[if_neg aO];rw[if_pos hp]
   rw[e];exact CD h hj rfl h00 h10 aO (fun W hf=>uI (h.same hf) hj hp)
end
section
variable{w:World} {ab wb:Nat} {A:AR} {n:Nat}
theorem ku (hA:aj w ab wb A) (hn:1≤n∧n≤32) (hr:A.taken+(2*n+1)≤A.ws.length):Calls prog 90 #[some ab,n] w fun e w'=>∃lb sb,e= .returned (.tuple #[some lb,(0:Int)])∧w.heap.size≤lb∧w.heap.size≤sb∧be w' ⟨lb,sb,ab,wb⟩ ⟨n,A.taken+1⟩ ⟨{A with taken:=A.taken+(2*n+1)},fun _ _=>0⟩∧ae [ab,wb] w w':=by
 have mk:=dZ n aO;have hroom:=hA.room;obtain⟨t1,t2,t3⟩:=D8 (A:=A) (k:=2*n+1) hr;have hT:=cY hA (2*(n:Int)+1);rw[show 2*(n:Int)+1=((2*n+1:Nat):Int) by omega,t1,t2,t3,show((2*n+1:Nat):Int)=2*(n:Int)+1 by omega] at hT;have HT:=aH hT;have hab:=hA.box.lt;have hwb:=hA.row.lt;have HRR:=aH hr;clear hA t1 t2 t3 hT hr;have d1:decide ((n:Int)<1)=false:=aB;have d2:decide ((32:Int)<n)=false:=aB;go_enter func90,ntmps90;go_wp2_with fail;refine HT.o.mono ?_;rintro e w1 ⟨rfl,hA1,hF⟩;have HA1:=aH hA1;have HF:=aH hF;clear hA1 hF;go_wp2;go_ret2;have hr:=HRR.o;have g1:=am.new w1 (cq n (fun _ _=>0)).toArray 138;have g2:=am.new (w1.alloc (.cells (cq n (fun _ _=>0)).toArray 138)) #[some ab,((A.taken:Int)+1:Int),.slice (some ⟨w1.heap.size,0,none⟩) n n] 247;have hf:ae [] w1 ((w1.alloc (.cells (cq n (fun _ _=>0)).toArray 138)).alloc (.cells #[some ab,((A.taken:Int)+1:Int),.slice (some ⟨w1.heap.size,0,none⟩) n n] 247)):=(aF.alloc _).alloc _;have hs:=HF.o.size;refine⟨w1.heap.size+1,w1.heap.size,rfl,by omega,hs,?_,HF.o.trans (hf.mono aS)⟩;exact{box:=by simpa using g2,row:=by simpa using g1.alloc _,ar:=HA1.o.frm hf aS aS,n32:=hn.2,tl:=by show A.taken+1≤5000;omega}
end
structure BN where
 n:Nat
 bud:Int
 nv:Nat
 d:Nat→Nat
 pl:Nat→Nat→Nat
 sl:Nat→Nat→Nat
 sz:Nat→Nat
 tl:Nat→Nat
structure Be where
 A:AR
 R:Nat→Nat→Nat→Int
 S:Nat→Nat→Int
structure FR where
 lb:Nat
 vb:Nat
 lv:Nat→Nat
 sb:Nat
 ab:Nat
 wb:Nat
 rl:Nat→Nat
 rs:Nat→Nat
def FR.rg (B:FR) (v:Nat):EC:=⟨B.rl v,B.rs v,B.ab,B.wb⟩
def BN.rg (M:BN) (v:Nat):CP:=⟨M.sz v,M.tl v⟩
def Be.rg (X:Be) (v:Nat):BQ:=⟨X.A,X.R v⟩
structure BN.Ok (M:BN):Prop where
 n32:M.n≤32
 d1:∀t,t<M.n→1≤M.d t∧M.d t≤40
 pl:∀t l,t<M.n→l<M.d t→M.pl t l<M.nv
 sl:∀t l,t<M.n→l<M.d t→M.sl t l<M.sz (M.pl t l)
 bud:0≤M.bud∧M.bud≤1000
structure AG (w:World) (B:FR) (M:BN) (X:Be):Prop where
 box:∃vr cap,am w B.lb [M.bud,vr,.slice (some ⟨B.vb,0,none⟩) M.n cap,.slice (some ⟨B.sb,0,none⟩) M.n M.n] 207
 lvs:∃cells,am w B.vb cells 212∧∀t,t<M.n→∃cap,cells[t]? =some (.slice (some ⟨B.lv t,0,none⟩) (M.d t) cap)
 lev:∀t,t<M.n→∃cells,am w (B.lv t) cells 215∧∀l,l<M.d t→cells[l*2]? =some (.pointer (some ⟨B.rl (M.pl t l),0,none⟩))∧cells[l*2+1]? =some (.int .i64 (M.sl t l))
 rg:∀v,v<M.nv→be w (B.rg v) (M.rg v) (X.rg v)
 row:am w B.sb (cq M.n X.S) 138
 ar:aj w B.ab B.wb X.A
 dif:(∀v,v<M.nv→B.sb≠B.rs v)∧∀u v,u<M.nv→v<M.nv→B.rs u=B.rs v→u=v
 ok:M.Ok
def JT (B:FR) (M:BN):List Nat:=B.sb::B.ab::B.wb::(List.range M.nv).map B.rs
section
variable{w w':World} {B:FR} {M:BN} {X:Be}
theorem CW {z:Nat}:z∈JT B M↔z=B.sb∨z=B.ab∨z=B.wb∨∃v,v<M.nv∧B.rs v=z:=by unfold JT;simp
theorem AG.free (h:AG w B M X):dI w (JT B M):=fun z hz=>by
 rcases CW.1 hz with e|e|e|⟨v,hv,e⟩
 ·subst e;exact⟨_,_,h.row,by decide⟩
 ·exact h.ar.fre (.inl e)
 ·exact h.ar.fre (.inr e)
 ·subst e;exact⟨_,_,(h.rg v hv).row,by decide⟩
theorem AG.re (h:AG w B M X) {Z:List Nat} (hf:ae Z w w') (hq:dI w Z) {X':Be} (h1:∀v,v<M.nv→be w' (B.rg v) (M.rg v) (X'.rg v)) (h2:am w' B.sb (cq M.n X'.S) 138) (h3:aj w' B.ab B.wb X'.A):AG w' B M X':=by
 obtain⟨vr,cap,hb⟩:=h.box;obtain⟨cells,hl,hc⟩:=h.lvs;exact{
  box:=⟨vr,cap,hb.frm hf (hq.not hb)⟩,lvs:=⟨cells,hl.frm hf (hq.not hl),hc⟩,lev:=fun t ht=>by
   obtain⟨cs,q1,q2⟩:=h.lev t ht;exact⟨cs,q1.frm hf (hq.not q1),q2⟩,rg:=h1,row:=h2,ar:=h3,dif:=h.dif,ok:=h.ok}
theorem be.stays {B:EC} {M:CP} {X:BQ} (h:be w B M X) {Z:List Nat} (hf:ae Z w w') (hq:dI w Z) (hn:B.sb∉Z) {A':AR} (hA:aj w' B.ab B.wb A'):be w' B M ⟨A',X.S⟩:=h.re hf hq (h.row.frm hf hn) hA
theorem AG.stays (h:AG w B M X) {Z:List Nat} (hf:ae Z w w') (hq:dI w Z) (hn:∀z∈Z,z∉JT B M):AG w' B M X:=by
 have hx:∀z,z∈JT B M→z∉Z:=fun z h1 h2=>hn z h2 h1;have hA:=h.ar.frm hf (hx _ (CW.2 aS)) (hx _ (CW.2 aS));exact h.re hf hq (fun v hv=>(h.rg v hv).stays hf hq (hx _ (CW.2 (.inr (.inr (.inr ⟨v,hv,rfl⟩))))) hA) (h.row.frm hf (hx _ (CW.2 aS))) hA
theorem AG.same (h:AG w B M X) (hf:ae [] w w'):AG w' B M X:=h.stays hf (dI.nil _) aS
theorem AG.rung (h:AG w B M X) {v:Nat} (hv:v<M.nv) {A:AR} {R:Nat→Nat→Int} (hf:ae [B.rs v,B.ab,B.wb] w w') (hR:be w' (B.rg v) (M.rg v) ⟨A,R⟩):AG w' B M {X with A:=A,R:=C1 X.R v R}:=by
 have hq:dI w [B.rs v,B.ab,B.wb]:=h.free.sub (fun z hz=>CW.2 (by
  simp at hz;rcases hz with e|e|e
  ·exact .inr (.inr (.inr ⟨v,hv,e.symm⟩))
  ·omega
  ·omega))
 have hA:aj w' B.ab B.wb A:=hR.ar;refine h.re hf hq (fun u hu=>?_) ?_ hA
 ·show be w' (B.rg u) (M.rg u) ⟨A,C1 X.R v R u⟩;unfold C1;by_cases e:u=v
  ·subst e;rw[if_pos rfl];exact hR
  ·rw[if_neg e];have n1:=(h.rg u hu).ne;have n2:B.rs u≠B.rs v:=fun x=>e (h.dif.2 u v hu hv x);have n3:(B.rg u).sb=B.rs u:=rfl;have n4:B.rs u≠B.ab∧B.rs u≠B.wb:=n1;exact(h.rg u hu).stays hf hq (by rw[n3];simp;omega) hA
 ·have n1:=h.row.differ h.ar.box aJ;have n2:=h.row.differ h.ar.row aJ;have n3:=h.dif.1 v hv;exact h.row.frm hf aQ
theorem AG.put (h:AG w B M X) (j:Nat) {t:Nat} (ht:t<4) (v:Int):AG (w.setCell (B.sb,j*4+t) (.int .i64 v)) B M {X with S:=ac X.S j t v}:=by
 have hf:ae [B.sb] w (w.setCell (B.sb,j*4+t) (.int .i64 v)):=aU;have n1:=h.row.differ h.ar.box aJ;have n2:=h.row.differ h.ar.row aJ;have hr:=h.row.set (j*4+t) (.int .i64 v);rw[dP M.n X.S ht v] at hr;have hA:=h.ar.frm hf aQ aQ;exact h.re hf (dI.one h.row) (fun u hu=>(h.rg u hu).stays hf (dI.one h.row) (by have:=h.dif.1 u hu;have e:(B.rg u).sb=B.rs u:=rfl;rw[e];simp;omega) hA) hr hA
theorem AG.put0 (h:AG w B M X) (j:Nat) (v:Int):AG (w.setCell (B.sb,j*4) (.int .i64 v)) B M {X with S:=ac X.S j 0 v}:=by
 have:=h.put j (t:=0) aO v
 rwa [Nat.add_zero] at this
theorem AG.frm0 (M:BN) {o:Nat} {v:Value}:ae (JT B M) w (w.setCell (B.sb,o) v):=aF.set _ _ (.inl (by simp[JT]))
theorem AG.sp (h:AG w B M X) {j:Nat} (hj:j<M.n):w.cell? (B.sb,j*4)=some (.int .i64 (X.S j 0))∧w.cell? (B.sb,j*4+1)=some (.int .i64 (X.S j 1))∧w.cell? (B.sb,j*4+2)=some (.int .i64 (X.S j 2))∧w.cell? (B.sb,j*4+3)=some (.int .i64 (X.S j 3)):=
 ⟨h.row.cell (ag M.n X.S (t:=0) hj aO),h.row.cell (ag M.n X.S (t:=1) hj aO),h.row.cell (ag M.n X.S (t:=2) hj aO),h.row.cell (ag M.n X.S (t:=3) hj aO)⟩
theorem Il {v:Nat} (hv:v<M.nv):∀z∈[B.rs v,B.ab,B.wb],z∈JT B M:=fun z hz=>CW.2 (by
 simp at hz;rcases hz with e|e|e
 ·exact .inr (.inr (.inr ⟨v,hv,e.symm⟩))
 ·omega
 ·omega)
theorem AG.way (h:AG w B M X) {t l:Nat} (ht:t<M.n) (hl:l<M.d t):∃cap cap',w.cell? (B.lb,2)=some (.slice (some ⟨B.vb,0,none⟩) M.n cap)∧w.cell? (B.vb,t)=some (.slice (some ⟨B.lv t,0,none⟩) (M.d t) cap')∧w.cell? (B.lv t,l*2)=some (.pointer (some ⟨B.rl (M.pl t l),0,none⟩))∧w.cell? (B.lv t,l*2+1)=some (.int .i64 (M.sl t l)):=by
 obtain⟨vr,cap,hb⟩:=h.box;obtain⟨cells,q1,q2⟩:=h.lvs;obtain⟨cap',q3⟩:=q2 t ht;obtain⟨cs,q4,q5⟩:=h.lev t ht;exact⟨cap,cap',hb.cell (i:=2) rfl,q1.cell q3,q4.cell (q5 l hl).1,q4.cell (q5 l hl).2⟩
theorem AG.c3 (h:AG w B M X):w.cell? (B.lb,3)=some (.slice (some ⟨B.sb,0,none⟩) M.n M.n):=by
 obtain⟨vr,cap,hb⟩:=h.box;exact hb.cell (i:=3) rfl
theorem AG.c0 (h:AG w B M X):w.cell? (B.lb,0)=some (.int .i64 M.bud):=by
 obtain⟨vr,cap,hb⟩:=h.box;exact hb.cell (i:=0) rfl
theorem AG.n32 (h:AG w B M X):M.n≤32:=h.ok.n32
theorem Es (h:AG w B M X):Calls prog 238 #[some B.lb] w fun e w'=>e= .returned M.n∧w=w':=by
 have c3:=h.c3;clear h;go_enter func238,ntmps238;go_wp2;go_ret;exact⟨rfl,rfl⟩
theorem GL (h:AG w B M X) {j:Nat} (hj:j<M.n):Calls prog 236 #[some B.lb,j] w fun e w'=>e= .returned (.agg #[(X.S j 0:Int),(X.S j 1:Int),(X.S j 2:Int),(X.S j 3:Int)])∧ae [] w w':=by
 have hF:ae [] w (w.alloc (.cells #[(0:Int),(0:Int),(0:Int),(0:Int)] 138)):=aF.alloc _;have h2:=h.same hF;have HT:=aH (Es h2);have c3:=h2.c3;have j0:=h2.row.cell (ag M.n X.S (t:=0) hj aO);have j1:=h2.row.cell (ag M.n X.S (t:=1) hj aO);have j2:=h2.row.cell (ag M.n X.S (t:=2) hj aO);have j3:=h2.row.cell (ag M.n X.S (t:=3) hj aO);rw[Nat.add_zero] at j0;have hn:=h.n32;obtain⟨d1,d2,d3⟩:=aI (j:=j) (n:=M.n);have l1:(j:Int)<M.n:=by omega
 have HF:=aH hF;generalize X.S j 0=a0 at*;generalize X.S j 1=a1 at*;generalize X.S j 2=a2 at*;generalize X.S j 3=a3 at*;clear h h2 hF;go_enter func236,ntmps236;go_wp2_with fail;refine HT.o.mono ?_;rintro e w' ⟨rfl,rfl⟩;go_wp2_with fail;exact bodyPost_ret (v:=.agg #[a0,a1,a2,a3]) (by simp[results,results236,go_sem]) rfl ⟨rfl,aF.alloc _⟩
end
theorem QL.congr0 {S S':Nat→Nat→Int} {nx:Nat→Int}:∀{Q:List Nat},QL S nx Q→(∀j∈Q.tail,S' j 0=S j 0∧(S j 0=4→S' j 1=S j 1))→QL S' nx Q
 | [],_,_=>trivial
 | [_],h,_=>h
 |p::q::r,h,hs=>by
  obtain⟨h1,h2⟩:=h;have e2:=hs q aS;refine⟨?_,QL.congr0 h2 (fun j hj=>hs j (by simp at hj⊢;exact .inr hj))⟩;rcases h1 with h1|h1
  ·exact .inl ⟨e2.1.trans h1.1,(e2.2 h1.1).trans h1.2.1,h1.2.2⟩
  ·exact .inr ⟨e2.1.trans h1.1,h1.2⟩
section
variable{n b:Nat} {w:CV} {S S':Nat→Nat→Int} {Q:List Nat} {o:Option Nat} {A:AR} {j:Nat}
theorem MC.congr (h:MC n w S Q o) (h0:∀k,S' k 0=S k 0) (h1:∀k,S k 0=4∨S k 0=14→S' k 1=S k 1):MC n w S' Q o where
 nd:=h.nd
 lt:=h.lt
 mem k hk hc:=h.mem k hk (by rw[h0] at hc;exact hc)
 idle k hk hc:=by rw[h0];exact h.idle k hk hc
 ownr k hk hc:=h.ownr k hk (by rw[h0] at hc;exact hc)
 own2 x hx:=by
  have:=h.own2 x hx;rw[h0];refine⟨this.1,?_⟩;rcases this.2 with q|q|⟨q,a,r,e,q1,q2⟩
  ·exact .inl q
  ·exact .inr (.inl q)
  ·exact .inr (.inr ⟨q,a,r,e,(h1 x (.inr q)).trans q1,(h0 a).trans q2⟩)
 non e a r e2:=by rw[h0];exact h.non e a r e2
 pcs k hk:=by rw[h0];exact h.pcs k hk
 tl:=h.tl
 ql:=h.ql.congr0 fun k _=>⟨h0 k,fun e=>h1 k (.inl e)⟩
 w1:=h.w1
 p2 k hk hc:=h.p2 k hk (by rw[h0] at hc;exact hc)
 p3 k hk hc:=h.p3 k hk (by rw[h0] at hc;exact hc)
def cw (w:CV):CV:=⟨w.tl,w.nx,fun k=>if w.wt k=0 then 1 else 0⟩
def fI (pc:Int):Int:=if pc=6∨pc=15 then 10 else if pc=16 then 14 else pc
def rv (S:Nat→Nat→Int) (j t:Nat):Int:=if t=0 then fI (S j 0) else if S j 0=16∧t=1 then S j 2 else S j t
theorem Gq:rv S j 0=fI (S j 0):=rfl
theorem yk (h:S j 0≠16):rv S j 1=S j 1:=by simp[rv,h]
theorem zy (h:S j 0=16):rv S j 1=S j 2:=by simp[rv,h]
theorem Kd {k:Nat} (h:∀t,S' k t=S k t) (t:Nat):rv S' k t=rv S k t:=by unfold rv;rw[h,h,h]
theorem JH (pc:Int):(fI pc=10∧(pc=6∨pc=15))∨(fI pc=14∧pc=16)∨(fI pc=pc∧pc≠6∧pc≠15∧pc≠16):=by
 unfold fI;by_cases h:pc=6∨pc=15
 ·rw[if_pos h];exact .inl ⟨rfl,h⟩
 ·rw[if_neg h];by_cases h':pc=16
  ·rw[if_pos h'];exact .inr (.inl ⟨rfl,h'⟩)
  ·rw[if_neg h'];exact .inr (.inr ⟨rfl,by omega,by omega,h'⟩)
structure RI (n b:Nat) (A:AR) (S:Nat→Nat→Int) (Q:List Nat) (o:Option Nat):Prop where
 mc:MC n (cw (cv b n A)) (rv S) Q o
 va:∀j,j<n→(S j 0=10∨S j 0=15∨S j 0=16→1≤S j 1)∧(S j 0=15∨S j 0=16→1≤S j 3)∧(11≤S j 0∧S j 0≤14→S j 3≠0)
def Cb (n:Nat) (w:CV) (S:Nat→Nat→Int):Prop:=((∃j,j<n∧(S j 0=6∨(11≤S j 0∧S j 0≤14)))∨∀j,j<n→S j 0<6)∧∀j,j<n→S j 0=5→w.wt j≤0
def CE (n:Nat) (w:CV) (S:Nat→Nat→Int):Prop:=(∃j,j<n∧(S j 0=15∨S j 0=16))∨∃j,j<n∧S j 0=5∧0<w.wt j
theorem RI.pc (h:RI n b A S Q o) (hj:j<n):FV (S j 0):=by
 have:=h.mc.pcs j hj;rw[Gq] at this;have:=JH (S j 0);unfold FV;omega
theorem RI.ow (h:RI n b A S Q o) (hj:j<n) (h6:6≤S j 0):o=some j:=by
 have hp:=h.pc hj;unfold FV at hp;exact h.mc.ownr j hj (by rw[Gq];have:=JH (S j 0);omega)
theorem RI.one (h:RI n b A S Q o) {k:Nat} (hj:j<n) (hk:k<n) (h1:6≤S j 0) (h2:6≤S k 0):j=k:=by
 have e1:=h.ow hj h1;rw[h.ow hk h2] at e1;exact(Option.some.inj e1).symm
theorem RI.told (h:RI n b A S Q o) (hj:j<n) (h5:S j 0=5) (hw:(cv b n A).wt j≠0):o=none:=by
 refine(h.mc.enter hj (by rw[Gq,h5];rfl) ?_).1;show(if(cv b n A).wt j=0 then(1:Int) else 0)=0;rw[if_neg hw]
theorem RI.low (h:RI n b A S Q o) (hj:j<n) (h6:S j 0=6∨(11≤S j 0∧S j 0≤14)):Cb n (cv b n A) S:=by
 refine⟨.inl ⟨j,hj,h6⟩,fun k hk h5=>Int.not_lt.1 fun hw=>?_⟩;have:=h.told hk h5 aO;rw[h.ow hj aO] at this;simp at this
theorem RI.nlow (h:RI n b A S Q o) (hj:j<n) (h1:S j 0=10∨S j 0=15∨S j 0=16):¬Cb n (cv b n A) S:=fun hl=>by
 rcases hl.1 with⟨k,hk,q⟩|q
 ·have:=h.one hj hk aO aO;subst this;omega
 ·have:=q j hj;omega
theorem RI.nhigh (h:RI n b A S Q o) (hj:j<n) (h1:S j 0=6∨(10≤S j 0∧S j 0≤14)):¬CE n (cv b n A) S:=fun hl=>by
 rcases hl with⟨k,hk,q⟩|⟨k,hk,q1,q2⟩
 ·have:=h.one hj hk aO aO;subst this;omega
 ·have:=h.told hk q1 aO;rw[h.ow hj aO] at this;simp at this
end
theorem lM {b n:Nat} (hb:b≤4096) (hn:n≤32) {p:Nat} (hp:p<n):A5 ⟨n,b⟩ ((p:Int)+1)=(b:Int)+2*p+1:=by
 unfold A5;dsimp only;rw[cW (x:=2*((p:Int)+1)) aO,cW (x:=(b:Int)+2*((p:Int)+1)) aO,cW aO];omega
theorem pM {b n:Nat} (hb:b≤4096) (hn:n≤32) {p:Nat} (hp:p<n):A6 ⟨n,b⟩ ((p:Int)+1)=(b:Int)+2*p+2:=by
 unfold A6;dsimp only;rw[cW (x:=2*((p:Int)+1)) aO,cW aO];omega
section
variable{n b:Nat} {w w':CV} {S T U:Nat→Nat→Int} {Q:List Nat} {o:Option Nat} {A:AR} {j:Nat} {pc:Int}
theorem MC.wts {x:Nat} (h:MC n w S Q (some x)) (ht:w'.tl=w.tl) (hn:w'.nx=w.nx) (hw:∀k,k≠x→w'.wt k=w.wt k):MC n w' S Q (some x):=by
 obtain⟨⟨r,rfl⟩,hp⟩:=h.own2 x rfl;have hnd:=List.nodup_cons.1 h.nd;exact{nd:=h.nd,lt:=h.lt,mem:=h.mem,idle:=h.idle,ownr:=h.ownr,own2:=h.own2,non:=fun e=>by simp at e,pcs:=h.pcs,tl:=ht.trans h.tl,ql:=by rw[hn];exact h.ql,w1:=fun k hk=>by rw[hw k (fun e=>hnd.1 (e ▸ hk))];exact h.w1 k hk,p2:=by rw[hn];exact h.p2,p3:=fun k hk hc=>by rw[hn,hw k (fun e=>by have:=h.own_lt.2;subst e;omega)];exact h.p3 k hk hc}
theorem DN (h:MC n w U Q o) (hU:∀k,k≠j→∀t,U k t=rv S k t) (hT:∀k,k≠j→∀t,T k t=S k t) (h0:U j 0=fI pc) (h16:pc≠16) (h4:pc=4∨pc=14→T j 1=U j 1):MC n w (rv (ac T j 0 pc)) Q o:=by
 have e:∀k,k≠j→∀t,rv (ac T j 0 pc) k t=U k t:=fun k hk t=>by rw[hU k hk t];exact Kd (fun t=>(a6 _ _ _ _ hk).trans (hT k hk t)) t
 refine h.congr (fun k=>?_) fun k hk=>?_
 ·by_cases q:k=j
  ·subst q;rw[Gq,ba,h0]
  ·exact e k q 0
 ·by_cases q:k=j
  ·subst q;rw[yk (by rw[ba];exact h16),cN _ _ _ _ aO];rw[h0] at hk;exact h4 (by have:=JH pc;omega)
  ·exact e k q 1
theorem By (h:RI n b A S Q o) (hT:∀k,k≠j→∀t,T k t=S k t) (hj:(pc=10∨pc=15∨pc=16→1≤T j 1)∧(pc=15∨pc=16→1≤T j 3)∧(11≤pc∧pc≤14→T j 3≠0)):∀k,k<n→(ac T j 0 pc k 0=10∨ac T j 0 pc k 0=15∨ac T j 0 pc k 0=16→1≤ac T j 0 pc k 1)∧(ac T j 0 pc k 0=15∨ac T j 0 pc k 0=16→1≤ac T j 0 pc k 3)∧(11≤ac T j 0 pc k 0∧ac T j 0 pc k 0≤14→ac T j 0 pc k 3≠0):=by
 intro k hk;by_cases e:k=j
 ·subst e;rw[ba,cN _ _ _ _ aO,cN _ _ _ _ aO];exact hj
 ·rw[a6 _ _ _ _ e,a6 _ _ _ _ e,a6 _ _ _ _ e,hT k e,hT k e,hT k e];exact h.va k hk
theorem eU (h5:S j 0≤5) (hp:pc≤5) (hT:∀k,k≠j→∀t,T k t=S k t) (hw:∀k,k≠j→w'.wt k=w.wt k) (hz:S j 0=5→w.wt j≤0) (h:Cb n w' (ac T j 0 pc)):Cb n w S:=by
 refine⟨?_,fun k hk q=>?_⟩
 ·rcases h.1 with⟨k,hk,q⟩|q
  ·have e:k≠j:=fun e=>by subst e;rw[ba] at q;omega
   rw[a6 _ _ _ _ e,hT k e] at q;exact .inl ⟨k,hk,q⟩
  ·refine .inr fun k hk=>?_;by_cases e:k=j
   ·subst e;omega
   ·have:=q k hk;rw[a6 _ _ _ _ e,hT k e] at this;exact this
 ·by_cases e:k=j
  ·subst e;exact hz q
  ·have:=h.2 k hk (by rw[a6 _ _ _ _ e,hT k e];exact q);rw[hw k e] at this;exact this
theorem xO (hno:∀k,k<n→S k 0<6) (hT:∀k,k≠j→∀t,T k t=S k t) (hp:pc≠5) (hw:∀k,k≠j→w'.wt k=w.wt k) (hz:S j 0=5→w.wt j≤0) (h:Cb n w' (ac T j 0 pc)):Cb n w S:=by
 refine⟨.inr hno,fun k hk q=>?_⟩;by_cases e:k=j
 ·subst e;exact hz q
 ·have:=h.2 k hk (by rw[a6 _ _ _ _ e,hT k e];exact q);rw[hw k e] at this;exact this
theorem J4 (hp:pc≤6) (hT:∀k,k≠j→∀t,T k t=S k t) (hw:∀k,k≠j→w'.wt k=w.wt k) (hz:pc=5→w'.wt j≤0) (h:CE n w' (ac T j 0 pc)):CE n w S:=by
 rcases h with⟨k,hk,q⟩|⟨k,hk,q1,q2⟩
 ·have e:k≠j:=fun e=>by subst e;rw[ba] at q;omega
  rw[a6 _ _ _ _ e,hT k e] at q;exact .inl ⟨k,hk,q⟩
 ·by_cases e:k=j
  ·subst e;rw[ba] at q1;have:=hz q1;omega
  ·rw[a6 _ _ _ _ e,hT k e] at q1;rw[hw k e] at q2;exact .inr ⟨k,hk,q1,q2⟩
structure Iu (n b:Nat) (A:AR) (S:Nat→Nat→Int) (j:Nat) (x:BQ×Int):Prop where
 ri:∃Q o,RI n b x.1.A (ac x.1.S j 0 x.2) Q o
 op:jg b (1+2*n) A x.1.A
 ops:x.1.A.ops=A.ops+1
 ot:∀k,k≠j→∀t,x.1.S k t=S k t
 c3:x.1.S j 3=S j 3
 lo:Cb n (cv b n x.1.A) (ac x.1.S j 0 x.2)→Cb n (cv b n A) S
 hi:CE n (cv b n x.1.A) (ac x.1.S j 0 x.2)→CE n (cv b n A) S∨(S j 0=14∧0<S j 3)
 tr:(1≤S j 0∧S j 0≤5∧1≤x.2∧x.2≤6)∨(S j 0=5∧x.2=10∧CE n (cv b n A) S∧x.1.S j 2=0)∨(S j 0=6∧x.2=10∧Cb n (cv b n A) S∧x.1.S j 2=1)∨(11≤S j 0∧S j 0≤14∧(x.2=0∨(11≤x.2∧x.2≤14)))∨(S j 0=15∧(x.2=10∨x.2=16))∨(S j 0=16∧x.2=0)
theorem aq {B:AR} (hw:(cv b n B).wt=(cv b n A).wt):(cw (cv b n B)).wt=(cw (cv b n A)).wt:=by unfold cw;rw[hw]
variable(h:RI n b A S Q o) (hf:A.Fit) (hb:1≤b) (hn:n≤32) (hr:b+(1+2*n)≤A.taken+1) (hj:j<n)
include h hf hb hn hr hj
theorem zS (q:S j 0=1):Iu n b A S j (GV ⟨n,b⟩ ⟨A,S⟩ j):=by
 have hl2:=hf.1;have hl3:=hf.2.1;unfold GV;dsimp only;rw[lM aO hn hj];have i1:A.has ((b:Int)+2*j+1)=true:=bA.2 aO;obtain⟨o1,o2⟩:=cM (b:=b) (m:=1+2*n) (v:=0) hf i1 aO aO;obtain⟨c1,c2,c3⟩:=mZ (B:=A.store ((b:Int)+2*j+1) 0) (v:=0) hj (fun k=>ch hf.1 i1);have rj:rv S j 0=1:=by rw[Gq,q];rfl
 have hm:=h.mc.early (w':=cw (cv b n (A.store ((b:Int)+2*j+1) 0))) (pc:=2) hj aO aO (fun k hk=>by show(cv b n _).nx k=(cv b n A).nx k;rw[c2,fu _ _ hk]) (fun k _=>by rw[aq c3]) c1 (fun _=>by show(cv b n _).nx j=0;rw[c2,kf]) aO;have hw:∀k,k≠j→(cv b n (A.store ((b:Int)+2*j+1) 0)).wt k=(cv b n A).wt k:=fun k _=>by rw[c3]
 exact{ri:=⟨Q,o,DN hm (fun k hk t=>a6 _ _ _ _ hk) (fun _ _ _=>rfl) (by rw[ba];rfl) aO aO,By h (fun _ _ _=>rfl) aO⟩,op:=o1,ops:=o2,ot:=fun _ _ _=>rfl,c3:=rfl,lo:=eU aO aO (fun _ _ _=>rfl) hw aO,hi:=fun x=>.inl (J4 aO (fun _ _ _=>rfl) hw aO x),tr:=.inl (by dsimp only;omega)}
theorem zT (q:S j 0=2):Iu n b A S j (GW ⟨n,b⟩ ⟨A,S⟩ j):=by
 have hl2:=hf.1;have hl3:=hf.2.1;unfold GW;dsimp only;rw[pM aO hn hj];have i1:A.has ((b:Int)+2*j+2)=true:=bA.2 aO;obtain⟨o1,o2⟩:=cM (b:=b) (m:=1+2*n) (v:=0) hf i1 aO aO;obtain⟨c1,c2,c3⟩:=kL (B:=A.store ((b:Int)+2*j+2) 0) (v:=0) hj (fun k=>ch hf.1 i1);have rj:rv S j 0=2:=by rw[Gq,q];rfl
 have hw:∀k,k≠j→(cv b n (A.store ((b:Int)+2*j+2) 0)).wt k=(cv b n A).wt k:=fun k hk=>by rw[c3,fu _ _ hk]
 have hm:=h.mc.early (w':=cw (cv b n (A.store ((b:Int)+2*j+2) 0))) (pc:=3) hj aO aO (fun k hk=>by show(cv b n _).nx k=(cv b n A).nx k;rw[c2]) (fun k hk=>by show(if(cv b n _).wt k=0 then(1:Int) else 0)=if(cv b n A).wt k=0 then(1:Int) else 0;rw[hw k hk]) c1 aO (fun _=>⟨by show(cv b n _).nx j=0;rw[c2];exact h.mc.p2 j hj rj,by show(if(cv b n _).wt j=0 then(1:Int) else 0)=1;rw[c3,kf];rfl⟩);exact{ri:=⟨Q,o,DN hm (fun k hk t=>a6 _ _ _ _ hk) (fun _ _ _=>rfl) (by rw[ba];rfl) aO aO,By h (fun _ _ _=>rfl) aO⟩,op:=o1,ops:=o2,ot:=fun _ _ _=>rfl,c3:=rfl,lo:=eU aO aO (fun _ _ _=>rfl) hw aO,hi:=fun x=>.inl (J4 aO (fun _ _ _=>rfl) hw aO x),tr:=.inl (by dsimp only;omega)}
theorem zV (q:S j 0=4):Iu n b A S j (GZ ⟨n,b⟩ ⟨A,S⟩ j):=by
 have hl2:=hf.1;have hl3:=hf.2.1;have rj:rv S j 0=4:=by rw[Gq,q];rfl
 obtain⟨p,hp,e,hl⟩:=h.mc.link hj rj;rw[yk aO] at e;unfold GZ;dsimp only;rw[e,lM aO hn hp];have i1:A.has ((b:Int)+2*p+1)=true:=bA.2 aO;obtain⟨o1,o2⟩:=cM (b:=b) (m:=1+2*n) (v:=(j:Int)+1) hf i1 aO aO;obtain⟨c1,c2,c3⟩:=mZ (B:=A.store ((b:Int)+2*p+1) ((j:Int)+1)) (v:=(j:Int)+1) hp (fun k=>ch hf.1 i1);have hw:∀k,k≠j→(cv b n (A.store ((b:Int)+2*p+1) ((j:Int)+1))).wt k=(cv b n A).wt k:=fun k _=>by rw[c3]
 have hm:=hl (cw (cv b n (A.store ((b:Int)+2*p+1) ((j:Int)+1)))) c1 c2 (aq c3);have hri:RI n b (A.store ((b:Int)+2*p+1) ((j:Int)+1)) (ac S j 0 5) Q o:=⟨DN hm (fun k hk t=>a6 _ _ _ _ hk) (fun _ _ _=>rfl) (by rw[ba];rfl) aO aO,By h (fun _ _ _=>rfl) aO⟩
 have hz:(cv b n (A.store ((b:Int)+2*p+1) ((j:Int)+1))).wt j≤0:=by
  refine Int.not_lt.1 fun hw'=>?_;have ht:=hri.told hj (ba _ _ _ _) aO;subst ht;have hmem:=h.mc.mem j hj (.inl rj);cases Q with
  |nil=>simp at hmem
  |cons a r=>
   rcases List.mem_cons.1 hmem with e'|e'
   ·have:=(h.mc.non rfl j r (by rw[e'])).1;omega
   ·have h1:=h.mc.w1 j e';have:(cw (cv b n A)).wt j=if(cv b n A).wt j=0 then 1 else 0:=rfl
    rw[c3] at hw';rw[this,if_neg aO] at h1;omega
 exact{ri:=⟨Q,o,hri⟩,op:=o1,ops:=o2,ot:=fun _ _ _=>rfl,c3:=rfl,lo:=eU aO aO (fun _ _ _=>rfl) hw aO,hi:=fun x=>.inl (J4 aO (fun _ _ _=>rfl) hw (fun _=>hz) x),tr:=.inl (by dsimp only;omega)}
theorem zU (q:S j 0=3):Iu n b A S j (GY ⟨n,b⟩ ⟨A,S⟩ j):=by
 have hl2:=hf.1;have hl3:=hf.2.1;have rj:rv S j 0=3:=by rw[Gq,q];rfl
 unfold GY;dsimp only;have i1:A.has (b:Int)=true:=bA.2 aO;obtain⟨o1,o2⟩:=qd (b:=b) (m:=1+2*n) (v:=(j:Int)+1) hf i1 aO aO;obtain⟨c1,c2,c3⟩:=nj (n:=n) (B:=A.swap b ((j:Int)+1)) (v:=(j:Int)+1) (fun k=>kW hf.1 i1);obtain⟨d1,d2⟩:=h.mc.door (w':=cw (cv b n (A.swap b ((j:Int)+1)))) hj rj c1 c2 (aq c3);have hT:∀k,k≠j→∀t,ac S j 1 (A.get b) k t=S k t:=fun k hk t=>a6 _ _ _ _ hk;have hU:∀pc k,k≠j→∀t,ac (ac (rv S) j 1 (A.get b)) j 0 pc k t=rv S k t:=fun pc k hk t=>by rw[a6 _ _ _ _ hk,a6 _ _ _ _ hk]
 have hw:∀k,k≠j→(cv b n (A.swap b ((j:Int)+1))).wt k=(cv b n A).wt k:=fun k _=>by rw[c3]
 have h3:ac S j 1 (A.get b) j 3=S j 3:=cN _ _ _ _ aO;by_cases z:A.get b=0
 ·have hno:∀k,k<n→S k 0<6:=fun k hk=>Int.not_le.1 fun h6=>by
   have e:=h.ow hk h6;subst e;obtain⟨⟨r,e⟩, -⟩:=h.mc.own2 k rfl;have:=uz.1 (h.mc.tl.symm.trans z);rw[e] at this;simp at this
  rw[if_pos z];exact{ri:=⟨_,_,DN (d1 z) (hU 10) hT (by rw[ba];rfl) aO aO,By h hT aO⟩,op:=o1,ops:=o2,ot:=hT,c3:=h3,lo:=xO hno hT aO hw aO,hi:=fun x=>.inl (J4 aO hT hw aO x),tr:=.inl (by dsimp only;omega)}
 ·rw[if_neg z];exact{ri:=⟨_,_,DN (d2 z) (hU 4) hT (by rw[ba];rfl) aO (fun _=>(ba S j 1 (A.get b)).trans ((cN _ _ _ _ aO).trans (ba _ _ _ _)).symm),By h hT aO⟩,op:=o1,ops:=o2,ot:=hT,c3:=h3,lo:=eU aO aO hT hw aO,hi:=fun x=>.inl (J4 aO hT hw aO x),tr:=.inl (by dsimp only;omega)}
theorem zY (q:S j 0=5):Iu n b A S j (Ga ⟨n,b⟩ ⟨A,S⟩ j):=by
 have hl2:=hf.1;have hl3:=hf.2.1;have rj:rv S j 0=5:=by rw[Gq,q];rfl
 unfold Ga;dsimp only;rw[pM aO hn hj];have i1:A.has ((b:Int)+2*j+2)=true:=bA.2 aO;obtain⟨o1,o2⟩:=gc (b:=b) (m:=1+2*n) hf i1 aO aO;have c:cv b n (A.load ((b:Int)+2*j+2))=cv b n A:=eA fun i _ _=>cB;have ew:(cv b n A).wt j=A.get ((b:Int)+2*j+2):=if_pos hj;have hw:∀k,k≠j→(cv b n (A.load ((b:Int)+2*j+2))).wt k=(cv b n A).wt k:=fun k _=>by rw[c]
 generalize A.get ((b:Int)+2*j+2)=v at*;have hT1:∀k,k≠j→∀t,ac S j 1 v k t=S k t:=fun k hk t=>a6 _ _ _ _ hk;have hent:v≠0→o=none∧MC n (cw (cv b n (A.load ((b:Int)+2*j+2)))) (ac (rv S) j 0 10) Q (some j):=fun hv=>by
  obtain⟨e1,e2⟩:=h.mc.enter hj rj (by show(if(cv b n A).wt j=0 then(1:Int) else 0)=0;rw[ew,if_neg hv]);exact⟨e1,by rw[c];exact e2 _ rfl rfl rfl⟩
 by_cases hp:0<v
 ·rw[if_pos hp];obtain⟨rfl,hm⟩:=hent aO;have hT:∀k,k≠j→∀t,ac (ac S j 1 v) j 2 0 k t=S k t:=fun k hk t=>by rw[a6 _ _ _ _ hk,a6 _ _ _ _ hk]
  have hv1:ac (ac S j 1 v) j 2 0 j 1=v:=by rw[cN _ _ _ _ aO,ba]
  have hri:RI n b (A.load ((b:Int)+2*j+2)) (ac (ac (ac S j 1 v) j 2 0) j 0 10) Q (some j):=⟨DN hm (fun k hk t=>a6 _ _ _ _ hk) hT (by rw[ba];rfl) aO aO,By h hT aO⟩
  exact{ri:=⟨_,_,hri⟩,op:=o1,ops:=o2,ot:=hT,c3:=(cN _ _ _ _ aO).trans (cN _ _ _ _ aO),lo:=fun x=>absurd x (hri.nlow hj (by rw[ba];omega)),hi:=fun x=>absurd x (hri.nhigh hj (by rw[ba];omega)),tr:=.inr (.inl ⟨q,rfl,.inr ⟨j,hj,q,by omega⟩,ba _ _ _ _⟩)}
 ·rw[if_neg hp];by_cases hm':v<0
  ·rw[if_pos hm'];obtain⟨rfl,hm⟩:=hent aO;have hno:∀k,k<n→S k 0<6:=fun k hk=>Int.not_le.1 fun h6=>by have:=h.ow hk h6;simp at this
   exact{ri:=⟨_,_,DN hm (fun k hk t=>a6 _ _ _ _ hk) hT1 (by rw[ba];rfl) aO aO,By h hT1 aO⟩,op:=o1,ops:=o2,ot:=hT1,c3:=cN _ _ _ _ aO,lo:=xO hno hT1 aO hw aO,hi:=fun x=>.inl (J4 aO hT1 hw aO x),tr:=.inl (by dsimp only;omega)}
  ·rw[if_neg hm'];have ez:(cv b n (A.load ((b:Int)+2*j+2))).wt j=v:=by rw[c,ew]
   exact{ri:=⟨Q,o,DN (U:=rv S) (by rw[c];exact h.mc) (fun _ _ _=>rfl) hT1 (by rw[Gq,q]) aO aO,By h hT1 aO⟩,op:=o1,ops:=o2,ot:=hT1,c3:=cN _ _ _ _ aO,lo:=eU aO aO hT1 hw aO,hi:=fun x=>.inl (J4 aO hT1 hw aO x),tr:=.inl (by dsimp only;omega)}
theorem za (q:S j 0=6):Iu n b A S j (Gd ⟨n,b⟩ ⟨A,S⟩ j):=by
 have hl2:=hf.1;have hl3:=hf.2.1;obtain rfl:=h.ow hj aO;unfold Gd;dsimp only;rw[pM aO hn hj];have i1:A.has ((b:Int)+2*j+2)=true:=bA.2 aO;obtain⟨o1,o2⟩:=cM (b:=b) (m:=1+2*n) (v:=1) hf i1 aO aO;obtain⟨c1,c2,c3⟩:=kL (B:=A.store ((b:Int)+2*j+2) 1) (v:=1) hj (fun k=>ch hf.1 i1);have hw:∀k,k≠j→(cv b n (A.store ((b:Int)+2*j+2) 1)).wt k=(cv b n A).wt k:=fun k hk=>by rw[c3,fu _ _ hk]
 have hT:∀k,k≠j→∀t,ac (ac S j 1 1) j 2 1 k t=S k t:=fun k hk t=>by rw[a6 _ _ _ _ hk,a6 _ _ _ _ hk]
 have hv1:ac (ac S j 1 1) j 2 1 j 1=1:=by rw[cN _ _ _ _ aO,ba]
 have hm1:=h.mc.wts (w':=cw (cv b n (A.store ((b:Int)+2*j+2) 1))) c1 c2 (fun k hk=>by show(if(cv b n _).wt k=0 then(1:Int) else 0)=if(cv b n A).wt k=0 then(1:Int) else 0;rw[hw k hk]);have hm:=hm1.own (w':=cw (cv b n (A.store ((b:Int)+2*j+2) 1))) (S':=rv (ac (ac (ac S j 1 1) j 2 1) j 0 10)) (fun k hk t=>Kd (fun t=>(a6 _ _ _ _ hk).trans (hT k hk t)) t) (.inl (.inl (by rw[Gq,ba];rfl))) rfl rfl rfl;have hri:RI n b (A.store ((b:Int)+2*j+2) 1) (ac (ac (ac S j 1 1) j 2 1) j 0 10) Q (some j):=⟨hm,By h hT aO⟩
 exact{ri:=⟨_,_,hri⟩,op:=o1,ops:=o2,ot:=hT,c3:=(cN _ _ _ _ aO).trans (cN _ _ _ _ aO),lo:=fun x=>absurd x (hri.nlow hj (by rw[ba];omega)),hi:=fun x=>absurd x (hri.nhigh hj (by rw[ba];omega)),tr:=.inr (.inr (.inl ⟨q,rfl,h.low hj (.inl q),ba _ _ _ _⟩))}
theorem yC (q:S j 0=11∨S j 0=13):Iu n b A S j (⟨A.load ((b:Int)+2*j+1),ac S j 1 (A.get ((b:Int)+2*j+1))⟩,if A.get ((b:Int)+2*j+1)=0 then(if S j 0=11 then 12 else 13) else 14):=by
 have hl2:=hf.1;have hl3:=hf.2.1;obtain rfl:=h.ow hj aO;obtain⟨⟨r,hQ⟩,hph⟩:=h.mc.own2 j rfl;have HPH:=aH hph;clear hph;have i1:A.has ((b:Int)+2*j+1)=true:=bA.2 aO;obtain⟨o1,o2⟩:=gc (b:=b) (m:=1+2*n) hf i1 aO aO;have en:(cw (cv b n A)).nx j=A.get ((b:Int)+2*j+1):=if_pos hj;have c:cv b n (A.load ((b:Int)+2*j+1))=cv b n A:=eA fun i _ _=>cB;generalize A.get ((b:Int)+2*j+1)=v at*;have hT:∀k,k≠j→∀t,ac S j 1 v k t=S k t:=fun k hk t=>a6 _ _ _ _ hk;have h3:ac S j 1 v j 3=S j 3:=cN _ _ _ _ aO;have hva:=(h.va j hj).2.2;have go:∀pc:Int,11≤pc∧pc≤14→((fI pc=10∨fI pc=11∨fI pc=12)∨(fI pc=13∧Q≠[j])∨(fI pc=14∧∃q r,Q=j::q::r∧v=(q:Int)+1∧rv S q 0=5))→Iu n b A S j (⟨A.load ((b:Int)+2*j+1),ac S j 1 v⟩,pc):=fun pc hpc hw=>by
  have HW:=aH hw;clear hw;have hri:RI n b (A.load ((b:Int)+2*j+1)) (ac (ac S j 1 v) j 0 pc) Q (some j):=⟨by
   rw[c];refine h.mc.own (fun k hk t=>Kd (fun t=>(a6 _ _ _ _ hk).trans (hT k hk t)) t) ?_ rfl rfl rfl;rw[Gq,ba,yk (by rw[ba];omega),cN _ _ _ _ aO,ba];rcases HW.o with w1|w1|⟨w1,a,r',e1,e2,e3⟩
   ·exact .inl w1
   ·exact .inr (.inl w1)
   ·have haj:a≠j:=fun e=>by
     have:=h.mc.nd;rw[e1,e] at this;exact(List.nodup_cons.1 this).1 aS
    exact .inr (.inr ⟨w1,a,r',e1,e2,by rw[Kd (fun t=>(a6 _ _ _ _ haj).trans (hT a haj t))];exact e3⟩),By h hT aO⟩
  exact{ri:=⟨_,_,hri⟩,op:=o1,ops:=o2,ot:=hT,c3:=h3,lo:=fun _=>h.low hj aO,hi:=fun x=>absurd x (hri.nhigh hj (by rw[ba];omega)),tr:=.inr (.inr (.inr (.inl ⟨by omega,by omega,.inr hpc⟩)))}
 by_cases z:v=0
 ·rw[if_pos z];by_cases e:S j 0=11
  ·rw[if_pos e];exact go 12 aO (.inl (.inr (.inr rfl)))
  ·rw[if_neg e];refine go 13 aO (.inr (.inl ⟨rfl,?_⟩));have rj:rv S j 0=13:=by rw[Gq,show S j 0=13 by omega];rfl
   rcases HPH.o with w1|w1|w1
   ·omega
   ·exact w1.2
   ·exact absurd w1.1 (by clear w1;omega)
 ·rw[if_neg z];have hql:=h.mc.ql;rw[hQ] at hql;obtain⟨a,r',e,en2,e5⟩:=hql.second (by rw[en];exact z);exact go 14 aO (.inr (.inr ⟨rfl,a,r',by rw[hQ,e],by rw[←en];exact en2,e5⟩))
theorem y4 (q:S j 0=11):Iu n b A S j (Dj ⟨n,b⟩ ⟨A,S⟩ j):=by
 have hl2:=hf.1;have hl3:=hf.2.1;have:=yC h hf hb hn hr hj (.inl q);rw[if_pos q] at this;unfold Dj;dsimp only;rw[lM aO hn hj];exact this
theorem y7 (q:S j 0=13):Iu n b A S j (Dl ⟨n,b⟩ ⟨A,S⟩ j):=by
 have hl2:=hf.1;have hl3:=hf.2.1;have:=yC h hf hb hn hr hj (.inr q);rw[if_neg (show¬S j 0=11 by omega)] at this;unfold Dl;dsimp only;rw[lM aO hn hj];exact this
theorem y5 (q:S j 0=12):Iu n b A S j (Dk ⟨n,b⟩ ⟨A,S⟩ j):=by
 have hl2:=hf.1;have hl3:=hf.2.1;obtain rfl:=h.ow hj aO;obtain⟨⟨r,rfl⟩, -⟩:=h.mc.own2 j rfl;unfold Dk;dsimp only;have i0:A.has (b:Int)=true:=bA.2 aO;obtain⟨o1,o2⟩:=tM (b:=b) (m:=1+2*n) (o:=(j:Int)+1) (v:=0) hf i0 aO aO;have g:=fun k=>ni (A:=A) (i:=(b:Int)) (o:=(j:Int)+1) (v:=0) (j:=k) hf.1 i0;have hva:=(h.va j hj).2.2;by_cases z:A.casOk b ((j:Int)+1)=true
 ·have z':=(mp i0).1 z;rw[if_pos z];have er:r=[]:=uB h.mc.nd (h.mc.tl.symm.trans z');subst er;obtain⟨c1,c2,c3⟩:=nj (b:=b) (n:=n) (A:=A) (B:=A.cas b ((j:Int)+1) 0) (v:=0) (fun k=>by rw[g];by_cases e:k=b<;>simp[e,z']);have hm:=h.mc.quit (w':=cw (cv b n (A.cas b ((j:Int)+1) 0))) c1 c2 (fun k _=>by rw[aq c3]) (fun a r' e=>by simp at e);have hri:RI n b (A.cas b ((j:Int)+1) 0) (ac S j 0 0) [] none:=⟨DN hm (fun k hk t=>a6 _ _ _ _ hk) (fun _ _ _=>rfl) (by rw[ba];rfl) aO aO,By h (fun _ _ _=>rfl) aO⟩
  refine{ri:=⟨_,_,hri⟩,op:=o1,ops:=o2,ot:=fun _ _ _=>rfl,c3:=rfl,lo:=fun _=>h.low hj aO,hi:=fun x=>?_,tr:=.inr (.inr (.inr (.inl ⟨by omega,by omega,.inl rfl⟩)))};rcases x with⟨k,hk,x⟩|⟨k,hk,x, -⟩
  ·have:=hri.ow hk (by dsimp only at x;omega);simp at this
  ·have:=hri.mc.mem k hk (.inr (by dsimp only at x;rw[Gq,x];rfl));simp at this
 ·have z':A.get b≠(j:Int)+1:=fun e=>z ((mp i0).2 e);rw[if_neg z];have c':cv b n (A.cas b ((j:Int)+1) 0)=cv b n A:=eA fun i _ _=>by rw[g,if_neg (fun e=>z' e.2)]
  have hri:RI n b (A.cas b ((j:Int)+1) 0) (ac S j 0 13) (j::r) (some j):=⟨by
   rw[c'];refine h.mc.own (fun k hk t=>Kd (fun t=>a6 _ _ _ _ hk) t) (.inr (.inl ⟨by rw[Gq,ba];rfl,fun e=>?_⟩)) rfl rfl rfl;have:=h.mc.tl;rw[e] at this;exact z' this,By h (fun _ _ _=>rfl) aO⟩
  exact{ri:=⟨_,_,hri⟩,op:=o1,ops:=o2,ot:=fun _ _ _=>rfl,c3:=rfl,lo:=fun _=>h.low hj aO,hi:=fun x=>absurd x (hri.nhigh hj (by rw[ba];omega)),tr:=.inr (.inr (.inr (.inl ⟨by omega,by omega,.inr (by dsimp only;omega)⟩)))}
theorem y9 (q:S j 0=15):Iu n b A S j (Dm ⟨n,b⟩ ⟨A,S⟩ j):=by
 have hl2:=hf.1;have hl3:=hf.2.1;obtain rfl:=h.ow hj aO;obtain⟨⟨r,hQ⟩, -⟩:=h.mc.own2 j rfl;unfold Dm;dsimp only;rw[lM aO hn hj];have i1:A.has ((b:Int)+2*j+1)=true:=bA.2 aO;obtain⟨o1,o2⟩:=gc (b:=b) (m:=1+2*n) hf i1 aO aO;have en:(cw (cv b n A)).nx j=A.get ((b:Int)+2*j+1):=if_pos hj;have c:cv b n (A.load ((b:Int)+2*j+1))=cv b n A:=eA fun i _ _=>cB;generalize A.get ((b:Int)+2*j+1)=v at*;have hT:∀k,k≠j→∀t,ac S j 2 v k t=S k t:=fun k hk t=>a6 _ _ _ _ hk;have h3:ac S j 2 v j 3=S j 3:=cN _ _ _ _ aO;have h1:ac S j 2 v j 1=S j 1:=cN _ _ _ _ aO;have hva:=h.va j hj;have hhi:CE n (cv b n A) S:=.inl ⟨j,hj,.inl q⟩;have hk:∀pc:Int,∀k,k≠j→∀t,rv (ac (ac S j 2 v) j 0 pc) k t=rv S k t:=fun pc k hk t=>Kd (fun t=>(a6 _ _ _ _ hk).trans (hT k hk t)) t;by_cases z:v=0
 ·rw[if_pos z];have hri:RI n b (A.load ((b:Int)+2*j+1)) (ac (ac S j 2 v) j 0 10) Q (some j):=⟨by
   rw[c];exact h.mc.own (hk 10) (.inl (.inl (by rw[Gq,ba];rfl))) rfl rfl rfl,By h hT aO⟩
  exact{ri:=⟨_,_,hri⟩,op:=o1,ops:=o2,ot:=hT,c3:=h3,lo:=fun x=>absurd x (hri.nlow hj (by rw[ba];omega)),hi:=fun _=>.inl hhi,tr:=.inr (.inr (.inr (.inr (.inl ⟨q,.inl rfl⟩))))}
 ·rw[if_neg z];have hql:=h.mc.ql;rw[hQ] at hql;obtain⟨a,r',e,en2,e5⟩:=hql.second (by rw[en];exact z);have hnd:=h.mc.nd;rw[hQ,e] at hnd;have haj:a≠j:=fun e=>(List.nodup_cons.1 hnd).1 (by simp[e]);have hri:RI n b (A.load ((b:Int)+2*j+1)) (ac (ac S j 2 v) j 0 16) Q (some j):=⟨by
   rw[c];refine h.mc.own (hk 16) (.inr (.inr ⟨by rw[Gq,ba];rfl,a,r',by rw[hQ,e],?_,by rw[hk 16 a haj];exact e5⟩)) rfl rfl rfl;rw[zy (ba _ _ _ _),cN _ _ _ _ aO,ba,←en];exact en2,By h hT aO⟩
  exact{ri:=⟨_,_,hri⟩,op:=o1,ops:=o2,ot:=hT,c3:=h3,lo:=fun x=>absurd x (hri.nlow hj (by rw[ba];omega)),hi:=fun _=>.inl hhi,tr:=.inr (.inr (.inr (.inr (.inl ⟨q,.inr rfl⟩))))}
theorem yD (q:S j 0=14∨S j 0=16) (y:Int) (hy:rv S j 1=y):Iu n b A S j (⟨A.store (A6 ⟨n,b⟩ y) (S j 3),S⟩,0):=by
 have hl2:=hf.1;have hl3:=hf.2.1;obtain rfl:=h.ow hj aO;obtain⟨⟨r,hQ⟩,hph⟩:=h.mc.own2 j rfl;have HPH:=aH hph;clear hph;have rj:rv S j 0=14:=by rw[Gq];rcases q with q|q<;>rw[q]<;>rfl
 have hva:=h.va j hj;have hv:S j 3≠0:=by omega
 obtain⟨a,r',hQ',ha,h5⟩:∃a r',Q=j::a::r'∧rv S j 1=(a:Int)+1∧rv S a 0=5:=by
  rcases HPH.o with w1|w1|w1
  ·omega
  ·omega
  ·exact w1.2
 subst hQ';have han:a<n:=h.mc.lt a aS;rw[←hy,ha,pM aO hn han];have i1:A.has ((b:Int)+2*a+2)=true:=bA.2 aO;obtain⟨o1,o2⟩:=cM (b:=b) (m:=1+2*n) (v:=S j 3) hf i1 aO aO;obtain⟨c1,c2,c3⟩:=kL (B:=A.store ((b:Int)+2*a+2) (S j 3)) (v:=S j 3) han (fun k=>ch hf.1 i1);have haj:a≠j:=fun e=>(List.nodup_cons.1 h.mc.nd).1 (by simp[e]);have ea:(cv b n (A.store ((b:Int)+2*a+2) (S j 3))).wt a=S j 3:=by rw[c3,kf]
 have hm:=h.mc.quit (w':=cw (cv b n (A.store ((b:Int)+2*a+2) (S j 3)))) (c1.trans h.mc.tl) c2 (fun k hk=>by
  show(if(cv b n _).wt k=0 then(1:Int) else 0)=if(cv b n A).wt k=0 then(1:Int) else 0
  rw[c3,fu _ _ (fun e=>hk (by simp[e]))]) (fun x r2 e=>by
   obtain⟨rfl, -⟩:=List.cons.inj e;exact⟨h5,by show(if(cv b n _).wt a=0 then(1:Int) else 0)=0;rw[ea,if_neg hv]⟩)
 have hri:RI n b (A.store ((b:Int)+2*a+2) (S j 3)) (ac S j 0 0) (a::r') none:=⟨DN hm (fun k hk t=>a6 _ _ _ _ hk) (fun _ _ _=>rfl) (by rw[ba];rfl) aO aO,By h (fun _ _ _=>rfl) aO⟩
 have a5:S a 0=5:=by have:=JH (S a 0);rw[Gq] at h5;omega
 refine{ri:=⟨_,_,hri⟩,op:=o1,ops:=o2,ot:=fun _ _ _=>rfl,c3:=rfl,lo:=fun x=>?_,hi:=fun x=>?_,tr:=?_}
 ·rcases q with q|q
  ·exact h.low hj aO
  ·have:=x.2 a han (by dsimp only;rw[a6 _ _ _ _ haj];exact a5);dsimp only at this;omega
 ·rcases q with q|q
  ·rcases x with⟨k,hk,x⟩|⟨k,hk,x,x2⟩
   ·have:=hri.ow hk (by dsimp only at x;omega);simp at this
   ·dsimp only at x x2;have hkj:k≠j:=fun e=>by subst e;rw[ba] at x;omega
    rw[a6 _ _ _ _ hkj] at x;by_cases e:k=a
    ·subst e;exact .inr ⟨q,by omega⟩
    ·rw[c3,fu _ _ e] at x2;exact .inl (.inr ⟨k,hk,x,x2⟩)
  ·exact .inl (.inl ⟨j,hj,.inr q⟩)
 ·rcases q with q|q
  ·exact .inr (.inr (.inr (.inl ⟨by omega,by omega,.inl rfl⟩)))
  ·exact .inr (.inr (.inr (.inr (.inr ⟨q,rfl⟩))))
theorem y8 (q:S j 0=14):Iu n b A S j (F8 ⟨n,b⟩ ⟨A,S⟩ j):=yD h hf hb hn hr hj (.inl q) _ (yk aO)
theorem yA (q:S j 0=16):Iu n b A S j (F9 ⟨n,b⟩ ⟨A,S⟩ j):=yD h hf hb hn hr hj (.inr q) _ (zy q)
theorem rgo (h0:S j 0≠0) (h1:S j 0≠10):Iu n b A S j (BM ⟨n,b⟩ ⟨A,S⟩ j):=by
 have hp:=h.pc hj;unfold FV at hp;unfold BM;dsimp only;rcases(by omega:S j 0=1∨S j 0=2∨S j 0=3∨S j 0=4∨S j 0=5∨S j 0=6∨S j 0=11∨S j 0=12∨S j 0=13∨S j 0=14∨S j 0=15∨S j 0=16) with q|q|q|q|q|q|q|q|q|q|q|q
 ·rw[if_pos q];exact zS h hf hb hn hr hj q
 ·rw[if_neg aO,if_pos q];exact zT h hf hb hn hr hj q
 ·rw[if_neg aO,if_neg aO,if_pos q];exact zU h hf hb hn hr hj q
 ·iterate 3 rw[if_neg aO]
  rw[if_pos q];exact zV h hf hb hn hr hj q
 ·iterate 4 rw[if_neg aO]
  rw[if_pos q];exact zY h hf hb hn hr hj q
 ·iterate 5 rw[if_neg aO]
  rw[if_pos q];exact za h hf hb hn hr hj q
 ·iterate 6 rw[if_neg aO]
  rw[if_pos q];exact y4 h hf hb hn hr hj q
 ·iterate 7 rw[if_neg aO]
  rw[if_pos q];exact y5 h hf hb hn hr hj q
 ·iterate 8 rw[if_neg aO]
  rw[if_pos q];exact y7 h hf hb hn hr hj q
 ·iterate 9 rw[if_neg aO]
  rw[if_pos q];exact y8 h hf hb hn hr hj q
 ·iterate 10 rw[if_neg aO]
  rw[if_pos q];exact y9 h hf hb hn hr hj q
 ·iterate 11 rw[if_neg aO]
  rw[if_pos q];exact yA h hf hb hn hr hj q
end
theorem Ki (S:Nat→Nat→Int) (j:Nat) {t t':Nat} (h:t≠t') (a c:Int):ac (ac S j t a) j t' c=ac (ac S j t' c) j t a:=by
 funext x y
 simp only[ac];by_cases e:x=j∧y=t'
 ·rw[if_pos e,if_neg (fun q=>h (q.2.symm.trans e.2)),if_pos e]
 ·rw[if_neg e,if_neg e]
section
variable{n b:Nat} {S T:Nat→Nat→Int} {Q:List Nat} {o:Option Nat} {A B:AR} {j:Nat} {v:Int}
theorem RI.frame (h:RI n b A S Q o) (hg:∀i:Int,(b:Int)≤i→i<(b:Int)+((1+2*n:Nat):Int)→B.get i=A.get i):RI n b B S Q o:=⟨by rw[eA hg];exact h.mc,h.va⟩
theorem RI.ask (h:RI n b A S Q o) (hj:j<n) (h0:S j 0=0):RI n b A (ac S j 0 1) Q o∧(Cb n (cv b n A) (ac S j 0 1)→Cb n (cv b n A) S)∧(CE n (cv b n A) (ac S j 0 1)→CE n (cv b n A) S):=by
 have rj:rv S j 0=0:=by rw[Gq,h0];rfl
 have hm:=h.mc.early (w':=cw (cv b n A)) (pc:=1) hj aO aO (fun _ _=>rfl) (fun _ _=>rfl) rfl aO aO;exact⟨⟨DN hm (fun k hk t=>a6 _ _ _ _ hk) (fun _ _ _=>rfl) (by rw[ba];rfl) aO aO,By h (fun _ _ _=>rfl) aO⟩,eU aO aO (fun _ _ _=>rfl) (fun _ _=>rfl) aO,J4 aO (fun _ _ _=>rfl) (fun _ _=>rfl) aO⟩
theorem RI.hand (h:RI n b A S Q o) (hj:j<n) (h0:S j 0=10) {pc:Int} (hp:(pc=11∧v≠0)∨(pc=15∧1≤v)):RI n b A (ac (ac S j 0 pc) j 3 v) Q o:=by
 obtain rfl:=h.ow hj aO;rw[Ki _ _ aO];have hT:∀k,k≠j→∀t,ac S j 3 v k t=S k t:=fun k hk t=>a6 _ _ _ _ hk;have hva:=(h.va j hj).1 (.inl h0);have h1:ac S j 3 v j 1=S j 1:=cN _ _ _ _ aO;have h3:ac S j 3 v j 3=v:=ba _ _ _ _;refine⟨h.mc.own (fun k hk t=>Kd (fun t=>(a6 _ _ _ _ hk).trans (hT k hk t)) t) (.inl ?_) rfl rfl rfl,By h hT aO⟩;rw[Gq,ba];have:=JH pc;omega
theorem RI.zero (h0:∀i:Int,(b:Int)≤i→i<(b:Int)+((1+2*n:Nat):Int)→A.get i=0):RI n b A (fun _ _=>0) [] none:=
 ⟨by
  have e:rv (fun _ _=>0)=fun _ _=>0:=by
   funext j t
   unfold rv
   split
   ·rfl
   ·split<;>rfl
  rw[e];exact MC.zero (h0 b aO aO),fun j hj=>by omega⟩
end
def BB (m:Nat) (M:Ak) (X:AS) (i:Int) (r:Bool):AS:=
 if ah M.n X.S i 0 then(if r then{X with S:=DZ X.S i.toNat 1 1} else if m=2 then{X with S:=DZ X.S i.toNat 5 0} else{X with C:=B4 M.K X.C i.toNat,S:=DZ X.S i.toNat 7 0}) else X
def Ad (M:Ak) (X:AS) (i:Int):AS:=if ah M.n X.S i 10 then{X with S:=ac X.S i.toNat 0 (12 - X.S i.toNat 1)} else X
def lW (m:Nat) (M:Ak) (X:AS) (j:Nat):AS:=if m=0 then Fa M X j else if m=1 then Fd M X j else Fm M X j
def yH (m:Nat) (M:Ak) (X:AS) (j:Nat):Bool:=if m=0 then IZ M X j else if m=1 then Ic M X j else In M X j
def Ct (v:Int):Prop:=0≤v∧v≤13
def DW (M:Ak) (X:AS):Prop:=Ax M.K X.C∧∀j,j<M.n→Ct (X.S j 0)∧(X.S j 1=0∨X.S j 1=1)
def Gt (m:Nat) (M:Ak):LP where
 σ:=AS
 n:=M.n
 shares:=true
 ar:=fun s=>s.C.A
 I:=fun _ s=>DW M s
 askR:=fun s i _=>ah M.n s.S i 0
 askS:=fun s i r=>BB m M s i r
 leaveR:=fun s i=>ah M.n s.S i 10
 leaveS:=fun s i=>Ad M s i
 stepR:=fun s i=>yH m M s i.toNat
 stepS:=fun s i=>lW m M s i.toNat
 sp:=fun s i t=>s.S i.toNat t
 cnt:=fun s i=>if s.S i.toNat 0=10 then 1 else 0
section
variable{M:Ak} {X:AS} {j:Nat}
theorem DW.put (h:DW M X) {C:CS} {D:DR} (hC:Ax M.K C) {v:Int} (hv:Ct v):DW M ⟨C,D,ac X.S j 0 v⟩:=⟨hC,fun i hi=>by
 obtain⟨h1,h2⟩:=h.2 i hi;show Ct (ac X.S j 0 v i 0)∧(ac X.S j 0 v i 1=0∨ac X.S j 0 v i 1=1)
 refine⟨?_,by rw[show ac X.S j 0 v i 1=X.S i 1 from by simp[ac]];exact h2⟩;unfold ac
 split
 ·exact hv
 ·exact h1⟩
theorem DW.put4 (h:DW M X) {C:CS} {D:DR} (hC:Ax M.K C) {a b:Int} (ha:Ct a) (hb:b=0∨b=1):DW M ⟨C,D,DZ X.S j a b⟩:=⟨hC,fun i hi=>by
 obtain⟨h1,h2⟩:=h.2 i hi;show Ct (DZ X.S j a b i 0)∧(DZ X.S j a b i 1=0∨DZ X.S j a b i 1=1)
 by_cases e:i=j
 ·subst e;rw[show DZ X.S i a b i 0=a from by simp[DZ,ac],show DZ X.S i a b i 1=b from by simp[DZ,ac]];exact⟨ha,hb⟩
 ·rw[show DZ X.S j a b i 0=X.S i 0 from by simp[DZ,ac,e],show DZ X.S j a b i 1=X.S i 1 from by simp[DZ,ac,e]];exact⟨h1,h2⟩⟩
structure vZ (M:Ak) (X:AS) (x:AS×Int):Prop where
 co:Ax M.K x.1.C
 s:x.1.S=X.S
 pc:Ct x.2
theorem vZ.put (h:DW M X) {x:AS×Int} (q:vZ M X x):DW M {x.1 with S:=ac x.1.S j 0 x.2}:=by
 rw[q.s];exact h.put q.co q.pc
theorem Kh {C:CS} (h:Ax M.K C):Ax M.K (AN M.K C j)∧∀A,Ax M.K {C with A:=A}∧Ax M.K (B4 M.K {C with A:=A} j)∧Ax M.K (Am M.K {C with A:=A} j):=⟨h.step _,fun A=>⟨h.ar A,(h.ar A).ask _,(h.ar A).leave _⟩⟩
theorem je (h:DW M X):Ax M.K (E9 M X j).1.C∧(E9 M X j).1.S=X.S:=by
 obtain⟨t1,t2⟩:=Kh (j:=j) h.1;unfold E9
 repeat' (refine BW (fun x:AS×Bool=>Ax M.K x.1.C∧x.1.S=X.S) ?_ ?_)
 all_goals first|exact⟨t1,rfl⟩|exact⟨(t2 _).1,rfl⟩|exact⟨(t2 _).2.1,rfl⟩|exact⟨(t2 _).2.2,rfl⟩
theorem oz {v:Int} (h:Ct v):Ct (Ev v):=by
 unfold Ct at h⊢;unfold Ev
 split
 ·omega
 ·split
  ·omega
  ·omega
theorem tg (h:DW M X):vZ M X (JG M X j):=by
 obtain⟨t1,t2⟩:=Kh (j:=j) h.1;unfold JG kZ kh
 repeat' (refine BW (vZ M X) ?_ ?_)
 all_goals first|refine⟨t1,rfl,?_⟩|refine⟨(t2 _).1,rfl,?_⟩|refine⟨(t2 _).2.2,rfl,?_⟩|refine⟨h.1,rfl,?_⟩
 all_goals
  dsimp only
  repeat' (refine BW Ct ?_ ?_)
  all_goals(unfold Ct;omega)
theorem vF (h:DW M X) (hj:j<M.n):vZ M X (JL M X j):=by
 obtain⟨t1,t2⟩:=Kh (j:=j) h.1;have hp:=(h.2 j hj).1;unfold JL mI mL
 repeat' (refine BW (vZ M X) ?_ ?_)
 all_goals first|exact⟨h.1,rfl,hp⟩|refine⟨t1,rfl,?_⟩|refine⟨(t2 _).1,rfl,?_⟩|refine⟨(t2 _).2.1,rfl,?_⟩|refine⟨(t2 _).2.2,rfl,?_⟩
 all_goals
  dsimp only
  repeat' (refine BW Ct ?_ ?_)
  all_goals(unfold Ct;omega)
theorem uX (m:Nat) (h:DW M X) (hj:j<M.n):DW M (lW m M X j):=by
 have hp:=(h.2 j hj).1;unfold lW Fa Fd Fm;refine BW (DW M) (BW (DW M) h (BW (DW M) (h.put (h.1.ar _) ?_) (BW (DW M) ?_ ?_))) (BW (DW M) (BW (DW M) h ((tg h).put h)) (BW (DW M) h ((vF h hj).put h)))
 ·refine BW Ct ?_ ?_<;>(unfold Ct;omega)
 ·obtain⟨q1,q2⟩:=je (j:=j) h;rw[q2];exact h.put q1 (oz hp)
 ·obtain⟨q1,q2⟩:=je (j:=j) h;exact⟨q1,by rw[q2];exact h.2⟩
theorem pO (m:Nat) (h:DW M X) (i:Int) (r:Bool):DW M (BB m M X i r):=by
 unfold BB;refine BW (DW M) (BW (DW M) (h.put4 h.1 (by unfold Ct;omega) (.inr rfl)) (BW (DW M) (h.put4 h.1 (by unfold Ct;omega) (.inl rfl)) (h.put4 (h.1.ask _) (by unfold Ct;omega) (.inl rfl)))) h
theorem f7 (h:DW M X) (i:Int):DW M (Ad M X i):=by
 unfold Ad
 split
 ·rename_i hk
  have hi:0≤i∧i<(M.n:Int):=by unfold ah aZ at hk;simp at hk;exact hk.1
  have:=(h.2 i.toNat aO).2;exact h.put h.1 (by unfold Ct;omega)
 ·exact h
theorem uW (m:Nat) (M:Ak):(Gt m M).Ok:=LP.keep_of (fun k s hk h=>h) (fun k s j r hk h hj _=>pO m h _ _) (fun k s j hk h hj=>f7 h _) (fun k s j hk h hj=>uX m h hj)
end
theorem B8 {n:Nat} {S:Nat→Nat→Int} {j:Nat} (hj:j<n) (pc:Int):ah n S j pc=decide (S j 0=pc):=by unfold ah;rw[bP hj,Int.toNat_natCast,Bool.true_and]
section
variable{w:World} {B:B3} {M:Ak} {X:AS} {j:Nat}
theorem xP (h:A3 258 w B M X) (hj:j<M.n) (r:Bool):AP 258 B M 334 #[some B.lb,j,r] w (.bool (ah M.n X.S j 0)) (BB 0 M X j r):=by
 rw[B8 hj];by_cases h0:X.S j 0=0
 ·have e:BB 0 M X j r=if r then{X with S:=DZ X.S j 1 1} else{X with C:=B4 M.K X.C j,S:=DZ X.S j 7 0}:=by
   unfold BB;rw[B8 hj,h0];rfl
  rw[e,h0];cases r with
  |true=>exact sq h hj h0
  |false=>exact sw h hj h0
 ·have e:BB 0 M X j r=X:=by unfold BB;rw[B8 hj,decide_eq_false h0];rfl
  rw[e,decide_eq_false h0];exact sn h hj h0 r
theorem oy (h:A3 258 w B M X) (hj:j<M.n) (ha:X.S j 1=0∨X.S j 1=1):AP 258 B M 335 #[some B.lb,j] w (.bool (ah M.n X.S j 10)) (Ad M X j):=by
 rw[B8 hj];by_cases h0:X.S j 0=10
 ·have e:Ad M X j={X with S:=ac X.S j 0 (12 - X.S j 1)}:=by unfold Ad;rw[B8 hj,h0];rfl
  rw[e,decide_eq_true h0];exact kK h hj h0 ha
 ·have e:Ad M X j=X:=by unfold Ad;rw[B8 hj,decide_eq_false h0];rfl
  rw[e,decide_eq_false h0];exact kD h hj h0
theorem xS (h:A3 263 w B M X) (hj:j<M.n) (r:Bool):AP 263 B M 358 #[some B.lb,j,r] w (.bool (ah M.n X.S j 0)) (BB 1 M X j r):=by
 rw[B8 hj];by_cases h0:X.S j 0=0
 ·have e:BB 1 M X j r=if r then{X with S:=DZ X.S j 1 1} else{X with C:=B4 M.K X.C j,S:=DZ X.S j 7 0}:=by
   unfold BB;rw[B8 hj,h0];rfl
  rw[e,h0];cases r with
  |true=>exact tY h hj h0
  |false=>exact ta h hj h0
 ·have e:BB 1 M X j r=X:=by unfold BB;rw[B8 hj,decide_eq_false h0];rfl
  rw[e,decide_eq_false h0];exact tV h hj h0 r
theorem pE (h:A3 263 w B M X) (hj:j<M.n) (ha:X.S j 1=0∨X.S j 1=1):AP 263 B M 359 #[some B.lb,j] w (.bool (ah M.n X.S j 10)) (Ad M X j):=by
 rw[B8 hj];by_cases h0:X.S j 0=10
 ·have e:Ad M X j={X with S:=ac X.S j 0 (12 - X.S j 1)}:=by unfold Ad;rw[B8 hj,h0];rfl
  rw[e,decide_eq_true h0];exact kV h hj h0 ha
 ·have e:Ad M X j=X:=by unfold Ad;rw[B8 hj,decide_eq_false h0];rfl
  rw[e,decide_eq_false h0];exact kS h hj h0
theorem yQ (h:A3 265 w B M X) (hj:j<M.n) (r:Bool):AP 265 B M 369 #[some B.lb,j,r] w (.bool (ah M.n X.S j 0)) (BB 2 M X j r):=by
 rw[B8 hj];by_cases h0:X.S j 0=0
 ·have e:BB 2 M X j r=if r then{X with S:=DZ X.S j 1 1} else{X with S:=DZ X.S j 5 0}:=by
   unfold BB;rw[B8 hj,h0];rfl
  rw[e,h0];cases r with
  |true=>exact v9 h hj h0
  |false=>exact vA h hj h0
 ·have e:BB 2 M X j r=X:=by unfold BB;rw[B8 hj,decide_eq_false h0];rfl
  rw[e,decide_eq_false h0];exact v7 h hj h0 r
theorem pV (h:A3 265 w B M X) (hj:j<M.n) (ha:X.S j 1=0∨X.S j 1=1):AP 265 B M 370 #[some B.lb,j] w (.bool (ah M.n X.S j 10)) (Ad M X j):=by
 rw[B8 hj];by_cases h0:X.S j 0=10
 ·have e:Ad M X j={X with S:=ac X.S j 0 (12 - X.S j 1)}:=by unfold Ad;rw[B8 hj,h0];rfl
  rw[e,decide_eq_true h0];exact mG h hj h0 ha
 ·have e:Ad M X j=X:=by unfold Ad;rw[B8 hj,decide_eq_false h0];rfl
  rw[e,decide_eq_false h0];exact mF h hj h0
theorem sx (h:A3 258 w B M X) (hj:j<M.n) (hp:Ax M.K X.C):AP 258 B M 341 #[some B.lb,j] w (.bool (E9 M X j).2) (E9 M X j).1:=by
 unfold E9;by_cases h1:X.S j 0=1
 ·rw[if_pos h1];exact oZ h hj h1
 by_cases h3:X.S j 0=3
 ·rw[if_neg h1];rw[if_pos h3];exact od h hj h3
 by_cases h5:X.S j 0=5
 ·rw[if_neg h1];rw[if_neg h3];rw[if_pos h5];exact oe h hj h5
 by_cases h8:X.S j 0=8
 ·rw[if_neg h1];rw[if_neg h3];rw[if_neg h5];rw[if_pos h8];exact oq h hj h8
 by_cases h9:X.S j 0=9
 ·rw[if_neg h1];rw[if_neg h3];rw[if_neg h5];rw[if_neg h8];rw[if_pos h9];exact ou h hj h9
 by_cases h11:X.S j 0=11
 ·rw[if_neg h1];rw[if_neg h3];rw[if_neg h5];rw[if_neg h8];rw[if_neg h9];rw[if_pos h11];exact jm h hj h11
 by_cases h12:X.S j 0=12
 ·rw[if_neg h1];rw[if_neg h3];rw[if_neg h5];rw[if_neg h8];rw[if_neg h9];rw[if_neg h11];rw[if_pos h12];exact jt h hj h12
 rw[if_neg h1];rw[if_neg h3];rw[if_neg h5];rw[if_neg h8];rw[if_neg h9];rw[if_neg h11];rw[if_neg h12];exact ox h hj ⟨h1,h3,h5,h8,h9,h11,h12⟩ hp
theorem tC (h:A3 258 w B M X) (hj:j<M.n) (hI:DW M X):AP 258 B M 338 #[some B.lb,j] w (.bool (IZ M X j)) (Fa M X j):=by
 unfold IZ Fa;cases hm:B2 X j with
 |false=>rw[if_pos rfl,if_pos rfl];exact tH h hj hm
 |true=>
  rw[if_neg (show¬(true=false) by simp),if_neg (show¬(true=false) by simp)];have hq:=(hI.2 j hj).1;unfold Ct at hq;have hm0:X.S j 0≠0∧X.S j 0≠10:=by unfold B2 at hm;simpa using hm
  by_cases h2:X.S j 0=2
  ·rw[if_pos h2,if_pos h2];by_cases hv:X.C.A.get M.fl=0
   ·rw[decide_eq_true hv,if_pos hv];exact p9 h hj h2 hv
   ·rw[decide_eq_false hv,if_neg hv];exact pA h hj h2 hv
  ·rw[if_neg h2,if_neg h2];have B7:∀W,ae [] w W→AP 258 B M 341 #[some B.lb,j] W (.bool (E9 M X j).2) (E9 M X j).1:=fun W hf=>sx (h.same hf) hj hI.1;cases hb:(E9 M X j).2 with
   |true=>
    rw[hb] at B7;rw[if_pos rfl,Bool.true_and];exact tS h hj rfl (by simpa using hm0.1) (by simpa using hm0.2) (by simpa using h2) aO B7
   |false=>
    rw[hb] at B7;rw[if_neg (show¬(false=true) by simp),Bool.false_and];exact tO h hj rfl (by simpa using hm0.1) (by simpa using hm0.2) (by simpa using h2) aO B7
theorem pG (h:A3 263 w B M X) (hj:j<M.n):AP 263 B M 365 #[some B.lb,(X.S j 0:Int),(M.K.nd j:Int)] w (.int .i64 (kZ M X j).2) (kZ M X j).1:=by
 unfold kZ;by_cases h1:X.S j 0=1
 ·rw[if_pos h1];rw[h1];exact zP h hj
 by_cases h2:X.S j 0=2
 ·rw[if_neg h1];rw[if_pos h2];rw[h2];by_cases hv:X.C.A.get M.fl=0
  ·rw[if_pos hv];exact xY h hj hv
  ·rw[if_neg hv];exact xZ h hj hv
 rw[if_neg h1];rw[if_neg h2];exact zQ h hj h1 h2
theorem ki (h:A3 263 w B M X) (hj:j<M.n) (hp:Ax M.K X.C):AP 263 B M 366 #[some B.lb,j,(X.S j 0:Int)] w (.int .i64 (kh M X j).2) (kh M X j).1:=by
 unfold kh;by_cases h7:X.S j 0=7
 ·rw[if_pos h7];rw[h7];cases hr:Ab M.K X.C j with
  |true=>rw[if_pos rfl];exact xg h hj hr hp
  |false=>rw[if_neg aS];exact xh h hj hr hp
 by_cases h12:X.S j 0=12
 ·rw[if_neg h7];rw[if_pos h12];rw[h12];exact xb h hj
 by_cases h13:X.S j 0=13
 ·rw[if_neg h7];rw[if_neg h12];rw[if_pos h13];rw[h13];cases hr:Ab M.K X.C j with
  |true=>rw[if_pos rfl];exact u3 h hj hr hp
  |false=>rw[if_neg aS];exact u6 h hj hr hp
 by_cases h5:X.S j 0=5
 ·rw[if_neg h7];rw[if_neg h12];rw[if_neg h13];rw[if_pos h5];rw[h5];refine ko h hj aO aO aO (fun W hf=>?_);exact zK (h.same hf) hj
 by_cases h8:X.S j 0=8
 ·rw[if_neg h7];rw[if_neg h12];rw[if_neg h13];rw[if_neg h5];rw[if_pos h8];rw[h8];refine ko h hj aO aO aO (fun W hf=>?_);exact zM (h.same hf) hj
 by_cases h6:X.S j 0=6
 ·rw[if_neg h7];rw[if_neg h12];rw[if_neg h13];rw[if_neg h5];rw[if_neg h8];rw[if_pos h6];rw[h6];refine ko h hj aO aO aO (fun W hf=>?_);cases hr:DV M X with
  |true=>rw[if_pos rfl];exact xU (h.same hf) hj hr
  |false=>rw[if_neg aS];exact xT (h.same hf) hj hr
 by_cases h9:X.S j 0=9
 ·rw[if_neg h7];rw[if_neg h12];rw[if_neg h13];rw[if_neg h5];rw[if_neg h8];rw[if_neg h6];rw[if_pos h9];rw[h9];refine ko h hj aO aO aO (fun W hf=>?_);cases hr:DV M X with
  |true=>
   rw[if_pos rfl];cases hc:(C3 M X).D.clear with
   |true=>rw[if_pos rfl];exact xW (h.same hf) hj hr hc
   |false=>rw[if_neg (show¬(false=true) by simp)];exact xX (h.same hf) hj hr hc
  |false=>rw[if_neg aS];exact xV (h.same hf) hj hr
 rw[if_neg h7];rw[if_neg h12];rw[if_neg h13];rw[if_neg h5];rw[if_neg h8];rw[if_neg h6];rw[if_neg h9];exact ko h hj h7 h12 h13 (fun W hf=>zJ (h.same hf) hj h5 h6 h8 h9)
theorem vG (h:A3 265 w B M X) (hj:j<M.n):AP 265 B M 377 #[some B.lb,j,(X.S j 0:Int)] w (.int .i64 (mI M X j).2) (mI M X j).1:=by
 unfold mI;by_cases h1:X.S j 0=1
 ·rw[if_pos h1];rw[h1];by_cases hv:X.C.A.get M.fl=0
  ·rw[if_pos hv];exact yS h hj hv
  ·rw[if_neg hv];exact yR h hj hv
 by_cases h2:X.S j 0=2
 ·rw[if_neg h1];rw[if_pos h2];rw[h2];exact zk h hj
 by_cases h3:X.S j 0=3
 ·rw[if_neg h1];rw[if_neg h2];rw[if_pos h3];rw[h3];by_cases hv:X.C.A.get M.fl=0
  ·rw[if_pos hv];exact yW h hj hv
  ·rw[if_neg hv];exact yU h hj hv
 by_cases h4:X.S j 0=4
 ·rw[if_neg h1];rw[if_neg h2];rw[if_neg h3];rw[if_pos h4];rw[h4];exact zl h hj
 rw[if_neg h1];rw[if_neg h2];rw[if_neg h3];rw[if_neg h4];exact zh h hj h1 h2 h3 h4
theorem pg (h:A3 265 w B M X) (hj:j<M.n) (hp:Ax M.K X.C):AP 265 B M 376 #[some B.lb,j,(X.S j 0:Int)] w (.int .i64 (mL M X j).2) (mL M X j).1:=by
 unfold mL;by_cases h5:X.S j 0=5
 ·rw[if_pos h5];rw[h5];exact zo h hj
 by_cases h7:X.S j 0=7
 ·rw[if_neg h5];rw[if_pos h7];rw[h7];cases hr:Ab M.K X.C j with
  |true=>rw[if_pos rfl];exact yZ h hj hr hp
  |false=>rw[if_neg aS];exact yd h hj hr hp
 by_cases h9:X.S j 0=9
 ·rw[if_neg h5];rw[if_neg h7];rw[if_pos h9];rw[h9];cases hr:DV M X with
  |true=>rw[if_pos rfl];exact ye h hj hr
  |false=>rw[if_neg aS];exact yf h hj hr
 by_cases h12:X.S j 0=12
 ·rw[if_neg h5];rw[if_neg h7];rw[if_neg h9];rw[if_pos h12];rw[h12];exact yY h hj
 by_cases h13:X.S j 0=13
 ·rw[if_neg h5];rw[if_neg h7];rw[if_neg h9];rw[if_neg h12];rw[if_pos h13];rw[h13];cases hr:Ab M.K X.C j with
  |true=>rw[if_pos rfl];exact vS h hj hr hp
  |false=>rw[if_neg aS];exact vV h hj hr hp
 rw[if_neg h5];rw[if_neg h7];rw[if_neg h9];rw[if_neg h12];rw[if_neg h13];exact zm h hj h5 h7 h9 h12 h13
theorem ti (h:A3 263 w B M X) (hj:j<M.n) (hI:DW M X):AP 263 B M 362 #[some B.lb,j] w (.bool (Ic M X j)) (Fd M X j):=by
 unfold Ic Fd;cases hm:B2 X j with
 |false=>rw[if_pos rfl,if_pos rfl];exact tq h hj hm
 |true=>
  rw[if_neg (show¬(true=false) by simp),if_neg (show¬(true=false) by simp)];have hm0:X.S j 0≠0∧X.S j 0≠10:=by unfold B2 at hm;simpa using hm
  unfold JG;by_cases ha:X.S j 1=1
  ·rw[if_pos ha];exact tw h hj rfl (by simpa using hm0.1) (by simpa using hm0.2) (by simpa using ha) (fun W hf=>pG (h.same hf) hj)
  ·rw[if_neg ha];exact u2 h hj rfl (by simpa using hm0.1) (by simpa using hm0.2) (by simpa using ha) (fun W hf=>ki (h.same hf) hj hI.1)
theorem vH (h:A3 265 w B M X) (hj:j<M.n) (hI:DW M X):AP 265 B M 373 #[some B.lb,j] w (.bool (In M X j)) (Fm M X j):=by
 unfold In Fm;cases hm:B2 X j with
 |false=>rw[if_pos rfl,if_pos rfl];exact vI h hj hm
 |true=>
  rw[if_neg (show¬(true=false) by simp),if_neg (show¬(true=false) by simp)];have hm0:X.S j 0≠0∧X.S j 0≠10:=by unfold B2 at hm;simpa using hm
  unfold JL;by_cases ha:X.S j 1=1
  ·rw[if_pos ha];exact vM h hj rfl (by simpa using hm0.1) (by simpa using hm0.2) (by simpa using ha) (fun W hf=>vG (h.same hf) hj)
  ·rw[if_neg ha];exact vQ h hj rfl (by simpa using hm0.1) (by simpa using hm0.2) (by simpa using ha) (fun W hf=>pg (h.same hf) hj hI.1)
def jw (M:Ak) (B:B3):iH (Gt 0 M) where
 T:=234
 q:=.pointer (some ⟨B.lb,0,none⟩)
 Z:=AY B M.K
 ab:=B.co.ab
 wb:=B.co.wb
 At:=fun w s=>A3 258 w B M s
 nAsk:=334
 rAsk:=.pointer (some ⟨B.lb,0,none⟩)
 nLeave:=335
 rLeave:=.pointer (some ⟨B.lb,0,none⟩)
 nStep:=338
 rStep:=.pointer (some ⟨B.lb,0,none⟩)
 nSpot:=337
 rSpot:=.pointer (some ⟨B.lb,0,none⟩)
 nCount:=0
 rCount:=.nilIface
theorem kC (hn:M.n≤32):(jw M B).OkR where
 n32:=hn
 sh:=rfl
 cnt:=fun s i=>rfl
 mAsk:=fun F w=>by kernel_rfl
 eAsk:=fun args w=>by kernel_rfl
 mLeave:=fun F w=>by kernel_rfl
 eLeave:=fun args w=>by kernel_rfl
 mStep:=fun F w=>by kernel_rfl
 eStep:=fun args w=>by kernel_rfl
 mSpot:=fun F w=>by kernel_rfl
 eSpot:=fun args w=>by kernel_rfl
 cAsk:=fun w k s i r hI ha hi=>by
  obtain⟨j,rfl,hj⟩:=AQ hi;exact xP ha hj r
 cLeave:=fun w k s i hI ha hi=>by
  obtain⟨j,rfl,hj⟩:=AQ hi;exact oy ha hj (hI.2 j hj).2
 cStep:=fun w k s i hI ha hi=>by
  obtain⟨j,rfl,hj⟩:=AQ hi;exact tC ha hj hI
 cSpot:=fun w s i ha hi=>by
  obtain⟨j,rfl,hj⟩:=AQ hi;exact IY ha hj
 ar:=fun w s ha=>ha.co.ar
 free:=fun w s ha=>A3.free ha
 stay:=fun w w' s S ha hf hs hz=>A3.stays ha hf hs hz
def kQ (M:Ak) (B:B3):iH (Gt 1 M) where
 T:=237
 q:=.pointer (some ⟨B.lb,0,none⟩)
 Z:=AY B M.K
 ab:=B.co.ab
 wb:=B.co.wb
 At:=fun w s=>A3 263 w B M s
 nAsk:=358
 rAsk:=.pointer (some ⟨B.lb,0,none⟩)
 nLeave:=359
 rLeave:=.pointer (some ⟨B.lb,0,none⟩)
 nStep:=362
 rStep:=.pointer (some ⟨B.lb,0,none⟩)
 nSpot:=361
 rSpot:=.pointer (some ⟨B.lb,0,none⟩)
 nCount:=0
 rCount:=.nilIface
theorem kR (hn:M.n≤32):(kQ M B).OkR where
 n32:=hn
 sh:=rfl
 cnt:=fun s i=>rfl
 mAsk:=fun F w=>by kernel_rfl
 eAsk:=fun args w=>by kernel_rfl
 mLeave:=fun F w=>by kernel_rfl
 eLeave:=fun args w=>by kernel_rfl
 mStep:=fun F w=>by kernel_rfl
 eStep:=fun args w=>by kernel_rfl
 mSpot:=fun F w=>by kernel_rfl
 eSpot:=fun args w=>by kernel_rfl
 cAsk:=fun w k s i r hI ha hi=>by
  obtain⟨j,rfl,hj⟩:=AQ hi;exact xS ha hj r
 cLeave:=fun w k s i hI ha hi=>by
  obtain⟨j,rfl,hj⟩:=AQ hi;exact pE ha hj (hI.2 j hj).2
 cStep:=fun w k s i hI ha hi=>by
  obtain⟨j,rfl,hj⟩:=AQ hi;exact ti ha hj hI
 cSpot:=fun w s i ha hi=>by
  obtain⟨j,rfl,hj⟩:=AQ hi;exact Ia ha hj
 ar:=fun w s ha=>ha.co.ar
 free:=fun w s ha=>A3.free ha
 stay:=fun w w' s S ha hf hs hz=>A3.stays ha hf hs hz
def mC (M:Ak) (B:B3):iH (Gt 2 M) where
 T:=240
 q:=.pointer (some ⟨B.lb,0,none⟩)
 Z:=AY B M.K
 ab:=B.co.ab
 wb:=B.co.wb
 At:=fun w s=>A3 265 w B M s
 nAsk:=369
 rAsk:=.pointer (some ⟨B.lb,0,none⟩)
 nLeave:=370
 rLeave:=.pointer (some ⟨B.lb,0,none⟩)
 nStep:=373
 rStep:=.pointer (some ⟨B.lb,0,none⟩)
 nSpot:=372
 rSpot:=.pointer (some ⟨B.lb,0,none⟩)
 nCount:=0
 rCount:=.nilIface
theorem mD (hn:M.n≤32):(mC M B).OkR where
 n32:=hn
 sh:=rfl
 cnt:=fun s i=>rfl
 mAsk:=fun F w=>by kernel_rfl
 eAsk:=fun args w=>by kernel_rfl
 mLeave:=fun F w=>by kernel_rfl
 eLeave:=fun args w=>by kernel_rfl
 mStep:=fun F w=>by kernel_rfl
 eStep:=fun args w=>by kernel_rfl
 mSpot:=fun F w=>by kernel_rfl
 eSpot:=fun args w=>by kernel_rfl
 cAsk:=fun w k s i r hI ha hi=>by
  obtain⟨j,rfl,hj⟩:=AQ hi;exact yQ ha hj r
 cLeave:=fun w k s i hI ha hi=>by
  obtain⟨j,rfl,hj⟩:=AQ hi;exact pV ha hj (hI.2 j hj).2
 cStep:=fun w k s i hI ha hi=>by
  obtain⟨j,rfl,hj⟩:=AQ hi;exact vH ha hj hI
 cSpot:=fun w s i ha hi=>by
  obtain⟨j,rfl,hj⟩:=AQ hi;exact Gi ha hj
 ar:=fun w s ha=>ha.co.ar
 free:=fun w s ha=>A3.free ha
 stay:=fun w w' s S ha hf hs hz=>A3.stays ha hf hs hz
end
end Go.Proofs.YteijjhahgabalaaGreat
