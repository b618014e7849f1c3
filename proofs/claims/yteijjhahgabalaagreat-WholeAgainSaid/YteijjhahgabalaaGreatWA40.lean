/- The contracts of package cna: aside, where it cuts. (Printed by gen_cna.py.) -/
import Derived.Test.YteijjhahgabalaaGreatWA33
import Derived.Test.YteijjhahgabalaaGreatWA06
set_option maxRecDepth 100000
set_option maxHeartbeats 8000000
set_option linter.all false
namespace Go.Proofs.YteijjhahgabalaaGreat
open Go.RowKit
open Tryz
section
variable{w w':World} {B:BH} {M:B6} {X:An}
theorem Hv:(∀{w:World} {B:BH} {M:B6} {X:An} (h:A1 w B M X) {j:Nat} (hj:j<M.n) (h0:X.S j 0=19) (hB:decide (0<X.S j 2)=true),Calls prog 292 #[some B.lb,.pointer (some ⟨B.sb,j*4,none⟩)] w fun e w'=>e= .returned (20:Int)∧A1 w' B M {X with A:=X.A.store (A8 M X.K.last) 0}∧ae [B.ab,B.wb] w w')∧(∀{w:World} {B:BH} {M:B6} {X:An} (h:A1 w B M X) {j:Nat} (hj:j<M.n) (h0:X.S j 0=19) (hB:decide (0<X.S j 2)=false),Calls prog 292 #[some B.lb,.pointer (some ⟨B.sb,j*4,none⟩)] w fun e w'=>e= .returned (22:Int)∧A1 w' B M {X with A:=X.A.store (A8 M X.K.last) 0,S:=ac X.S j 2 (X.S j 1)}∧ae [B.sb,B.ab,B.wb] w w'):=by
 refine⟨?_,?_⟩;all_goals
  intro w B M X h j hj h0 hB
 all_goals
  obtain⟨cap,hbx⟩:=h.box;have c0:=hbx.cell (i:=0) rfl;have c4:=hbx.cell (i:=4) rfl;have j0:=h.row.cell (ag M.n X.S (t:=0) hj aO);have j1:=h.row.cell (ag M.n X.S (t:=1) hj aO);have j2:=h.row.cell (ag M.n X.S (t:=2) hj aO);have j3:=h.row.cell (ag M.n X.S (t:=3) hj aO);rw[Nat.add_zero,h0] at j0;have HN0:=aH (fun(W:World) (hf:ae [] w W)=>Ek (h.same hf) X.K.last);have HN1:=aH (fun(W:World) (hf:ae [] w W)=>ld (h.same hf).sc);have HS:=aH (fun(W:World) (hf:ae [] w W)=>(au (h.same hf).ar (A8 M X.K.last) 0).mono (fun e w' q=>(show e=_∧A1 w' B M {X with A:=X.A.store (A8 M X.K.last) 0}∧ae [B.ab,B.wb] w w' from⟨q.1,(h.same hf).arena q.2.2 q.2.1,(hf.mono aS).trans q.2.2⟩)));have HJ:=aH hj;have H0:=aH h0;clear h hbx h0 hj;go_enter func292,ntmps292;go_wp2_with fail
 ·go_region_with(first|(go_at_call 96;refine(HN0.o _ aD).mono ?_;rintro e w1 ⟨rfl,rfl⟩)|(go_at_call 300;refine(HN1.o _ aD).mono ?_;rintro e w1 ⟨rfl,rfl⟩)|(go_at_call 63;refine(HS.o _ aD).mono ?_;rintro e w2 ⟨rfl,hC,hF⟩;have q0:=hC.row.cell (ag M.n X.S (t:=0) HJ.o aO);have q1:=hC.row.cell (ag M.n X.S (t:=1) HJ.o aO);have q2:=hC.row.cell (ag M.n X.S (t:=2) HJ.o aO);have q3:=hC.row.cell (ag M.n X.S (t:=3) HJ.o aO);rw[Nat.add_zero,H0.o] at q0;obtain⟨cap2,hb2⟩:=hC.box;have b4:=hb2.cell (i:=4) rfl;have jz:=hC.row.frozen;clear hb2;have HC:=aH hC;have HF:=aH hF;clear hC hF))
  all_goals
   go_wp2;go_ret;exact⟨rfl,HC.o,HF.o⟩
 ·go_region_with(first|(go_at_call 96;refine(HN0.o _ aD).mono ?_;rintro e w1 ⟨rfl,rfl⟩)|(go_at_call 300;refine(HN1.o _ aD).mono ?_;rintro e w1 ⟨rfl,rfl⟩)|(go_at_call 63;refine(HS.o _ aD).mono ?_;rintro e w2 ⟨rfl,hC,hF⟩;have q0:=hC.row.cell (ag M.n X.S (t:=0) HJ.o aO);have q1:=hC.row.cell (ag M.n X.S (t:=1) HJ.o aO);have q2:=hC.row.cell (ag M.n X.S (t:=2) HJ.o aO);have q3:=hC.row.cell (ag M.n X.S (t:=3) HJ.o aO);rw[Nat.add_zero,H0.o] at q0;obtain⟨cap2,hb2⟩:=hC.box;have b4:=hb2.cell (i:=4) rfl;have jz:=hC.row.frozen;clear hb2;have HC:=aH hC;have HF:=aH hF;clear hC hF))
  all_goals
   have HE:=aH (HC.o.put j (t:=2) aO (X.S j 1));have q9:=HE.o.row.cell (ag M.n (ac X.S j 2 (X.S j 1)) (t:=0) HJ.o aO);rw[Nat.add_zero,show ac X.S j 2 (X.S j 1) j 0=X.S j 0 from by simp[ac],H0.o] at q9;have HG:=aH ((HF.o.mono (S':=[B.sb,B.ab,B.wb]) aS).set ⟨B.sb,j*4+2,none⟩ (.int .i64 (X.S j 1)) (.inl aS));go_wp2;go_ret;exact⟨rfl,HE.o,HG.o⟩
def Je:= @And.left _ _ Hv
def Jd:= @And.right _ _ Hv
theorem cR (h:A1 w B M X) {j:Nat} (hj:j<M.n) (h0:X.S j 0=22):Calls prog 292 #[some B.lb,.pointer (some ⟨B.sb,j*4,none⟩)] w fun e w'=>e= .returned (23:Int)∧A1 w' B M {X with A:=X.A.store (AL M (X.S j 2)) X.K.last,S:=ac X.S j 1 X.K.fo}∧ae [B.sb,B.ab,B.wb] w w':=by
 obtain⟨cap,hbx⟩:=h.box;have c0:=hbx.cell (i:=0) rfl;have c4:=hbx.cell (i:=4) rfl;have j0:=h.row.cell (ag M.n X.S (t:=0) hj aO);have j1:=h.row.cell (ag M.n X.S (t:=1) hj aO);have j2:=h.row.cell (ag M.n X.S (t:=2) hj aO);have j3:=h.row.cell (ag M.n X.S (t:=3) hj aO);rw[Nat.add_zero,h0] at j0;have HN0:=aH (fun(W:World) (hf:ae [] w W)=>Jr (h.same hf) (X.S j 2));have HN1:=aH (fun(W:World) (hf:ae [] w W)=>ld (h.same hf).sc);have HS:=aH (fun(W:World) (hf:ae [] w W)=>(au (h.same hf).ar (AL M (X.S j 2)) X.K.last).mono (fun e w' q=>(show e=_∧A1 w' B M {X with A:=X.A.store (AL M (X.S j 2)) X.K.last}∧ae [B.ab,B.wb] w w' from⟨q.1,(h.same hf).arena q.2.2 q.2.1,(hf.mono aS).trans q.2.2⟩)));have HJ:=aH hj;have H0:=aH h0;clear h hbx h0 hj;go_enter func292,ntmps292;go_wp2_with fail;go_region_with(first|(go_at_call 295;refine(HN0.o _ aD).mono ?_;rintro e w1 ⟨rfl,rfl⟩)|(go_at_call 300;refine(HN1.o _ aD).mono ?_;rintro e w1 ⟨rfl,rfl⟩)|(go_at_call 63;refine(HS.o _ aD).mono ?_;rintro e w2 ⟨rfl,hC,hF⟩;have q0:=hC.row.cell (ag M.n X.S (t:=0) HJ.o aO);have q1:=hC.row.cell (ag M.n X.S (t:=1) HJ.o aO);have q2:=hC.row.cell (ag M.n X.S (t:=2) HJ.o aO);have q3:=hC.row.cell (ag M.n X.S (t:=3) HJ.o aO);rw[Nat.add_zero,H0.o] at q0;obtain⟨cap2,hb2⟩:=hC.box;have b4:=hb2.cell (i:=4) rfl;have jz:=hC.row.frozen;clear hb2;have HC:=aH hC;have HF:=aH hF;clear hC hF))
 all_goals
  have HFD:=aH (Fj HC.o.sc);go_wp2_with fail;refine HFD.o.mono ?_;rintro e w3 ⟨rfl,rfl⟩;have HE:=aH (HC.o.put j (t:=1) aO X.K.fo);have q9:=HE.o.row.cell (ag M.n (ac X.S j 1 X.K.fo) (t:=0) HJ.o aO);rw[Nat.add_zero,show ac X.S j 1 X.K.fo j 0=X.S j 0 from by simp[ac],H0.o] at q9;have HG:=aH ((HF.o.mono (S':=[B.sb,B.ab,B.wb]) aS).set ⟨B.sb,j*4+1,none⟩ (.int .i64 X.K.fo) (.inl aS));go_wp2;go_ret;exact⟨rfl,HE.o,HG.o⟩
end
end Go.Proofs.YteijjhahgabalaaGreat
