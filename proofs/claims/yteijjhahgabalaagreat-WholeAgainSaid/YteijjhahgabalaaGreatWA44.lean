/- The contracts of package cna: ends, where it looks behind itself. (Printed by gen_cna.py.) -/
import Derived.Test.YteijjhahgabalaaGreatWA33
import Derived.Test.YteijjhahgabalaaGreatWA06
set_option maxRecDepth 100000
set_option maxHeartbeats 8000000
set_option linter.all false
namespace Go.Proofs.YteijjhahgabalaaGreat
open Go.RowKit
open Tryz
section
variable{w w':World} {B:BH} {M:B6} {X:An}
theorem fc (h:A1 w B M X) {j:Nat} (hj:j<M.n) (h0:X.S j 0=12) (x:Int):Calls prog 290 #[some B.lb,.pointer (some ⟨B.sb,j*4,none⟩),x] w fun e w'=>e= .returned (Gl (X.A.get (A8 M x)!=0) 17 (Gl (decide (0<X.S j 2)) 14 13):Int)∧A1 w' B M {X with A:=X.A.load (A8 M x),S:=ac X.S j 1 (X.A.get (A8 M x))}∧ae [B.sb,B.ab,B.wb] w w':=by
 obtain⟨cap,hbx⟩:=h.box;have c0:=hbx.cell (i:=0) rfl;have j0:=h.row.cell (ag M.n X.S (t:=0) hj aO);rw[Nat.add_zero,h0] at j0;have HN:=aH (fun(W:World) (hf:ae [] w W)=>Ek (h.same hf) x);have HS:=aH (fun(W:World) (hf:ae [] w W)=>(bq (h.same hf).ar (A8 M x)).mono (fun e w' q=>(show e=_∧A1 w' B M {X with A:=X.A.load (A8 M x)}∧ae [B.ab,B.wb] w w' from⟨q.1,(h.same hf).arena q.2.2 q.2.1,(hf.mono aS).trans q.2.2⟩)));have HJ:=aH hj;clear h hbx h0;go_enter func290,ntmps290;go_wp2_with fail;go_region_with(first|(go_at_call 96;refine(HN.o _ aD).mono ?_;rintro e w1 ⟨rfl,rfl⟩)|(go_at_call 106;refine(HS.o _ aD).mono ?_;rintro e w2 ⟨rfl,hC,hF⟩;have j9:=hC.row.cell (ag M.n X.S (t:=1) HJ.o aO);have jz:=hC.row.frozen;have HC:=aH hC;have HF:=aH hF;clear hC hF))
 all_goals
  have HE:=aH (HC.o.put j (t:=1) aO (X.A.get (A8 M x)));have j2:=HE.o.row.cell (ag M.n (ac X.S j 1 (X.A.get (A8 M x))) (t:=1) HJ.o aO);rw[show ac X.S j 1 (X.A.get (A8 M x)) j 1=X.A.get (A8 M x) from by simp[ac]] at j2;have k2:=HE.o.row.cell (ag M.n (ac X.S j 1 (X.A.get (A8 M x))) (t:=2) HJ.o aO);rw[show ac X.S j 1 (X.A.get (A8 M x)) j 2=X.S j 2 from by simp[ac]] at k2;have HG:=aH ((HF.o.mono (S':=[B.sb,B.ab,B.wb]) aS).set ⟨B.sb,j*4+1,none⟩ (.int .i64 (X.A.get (A8 M x))) (.inl aS));have HH:=aH (And.intro HE.o HG.o);clear HE HG;generalize w2.setCell (B.sb,j*4+1) (.int .i64 (X.A.get (A8 M x)))=w4 at*;go_wp2_with fail;go_region_with(go_at_call 294;refine(Dh _ _ _ _).mono ?_;rintro e w3 ⟨rfl,rfl⟩)
 all_goals
  go_wp2;go_ret;exact⟨rfl,HH.o.1.same aD,HH.o.2.trans aD⟩
theorem fk (h:A1 w B M X) {j:Nat} (hj:j<M.n) (h0:X.S j 0=16) (x:Int):Calls prog 290 #[some B.lb,.pointer (some ⟨B.sb,j*4,none⟩),x] w fun e w'=>e= .returned (Gl (X.A.get (A8 M x)!=0) 17 16:Int)∧A1 w' B M {X with A:=X.A.load (A8 M x),S:=ac X.S j 1 (X.A.get (A8 M x))}∧ae [B.sb,B.ab,B.wb] w w':=by
 obtain⟨cap,hbx⟩:=h.box;have c0:=hbx.cell (i:=0) rfl;have j0:=h.row.cell (ag M.n X.S (t:=0) hj aO);rw[Nat.add_zero,h0] at j0;have HN:=aH (fun(W:World) (hf:ae [] w W)=>Ek (h.same hf) x);have HS:=aH (fun(W:World) (hf:ae [] w W)=>(bq (h.same hf).ar (A8 M x)).mono (fun e w' q=>(show e=_∧A1 w' B M {X with A:=X.A.load (A8 M x)}∧ae [B.ab,B.wb] w w' from⟨q.1,(h.same hf).arena q.2.2 q.2.1,(hf.mono aS).trans q.2.2⟩)));have HJ:=aH hj;clear h hbx h0;go_enter func290,ntmps290;go_wp2_with fail;go_region_with(first|(go_at_call 96;refine(HN.o _ aD).mono ?_;rintro e w1 ⟨rfl,rfl⟩)|(go_at_call 106;refine(HS.o _ aD).mono ?_;rintro e w2 ⟨rfl,hC,hF⟩;have j9:=hC.row.cell (ag M.n X.S (t:=1) HJ.o aO);have jz:=hC.row.frozen;have HC:=aH hC;have HF:=aH hF;clear hC hF))
 all_goals
  have HE:=aH (HC.o.put j (t:=1) aO (X.A.get (A8 M x)));have j2:=HE.o.row.cell (ag M.n (ac X.S j 1 (X.A.get (A8 M x))) (t:=1) HJ.o aO);rw[show ac X.S j 1 (X.A.get (A8 M x)) j 1=X.A.get (A8 M x) from by simp[ac]] at j2;have HG:=aH ((HF.o.mono (S':=[B.sb,B.ab,B.wb]) aS).set ⟨B.sb,j*4+1,none⟩ (.int .i64 (X.A.get (A8 M x))) (.inl aS));have HH:=aH (And.intro HE.o HG.o);clear HE HG;generalize w2.setCell (B.sb,j*4+1) (.int .i64 (X.A.get (A8 M x)))=w4 at*;go_wp2_with fail;refine(Dh _ _ _ _).mono ?_;rintro e w3 ⟨rfl,rfl⟩
 all_goals
  go_wp2;go_ret;exact⟨rfl,HH.o.1.same aD,HH.o.2.trans aD⟩
end
section
variable{w w':World} {B:BH} {M:B6} {X:An}
theorem fY (h:A1 w B M X) {j:Nat} (hj:j<M.n) (h0:X.S j 0=11) (x:Int):Calls prog 290 #[some B.lb,.pointer (some ⟨B.sb,j*4,none⟩),x] w fun e w'=>e= .returned (12:Int)∧A1 w' B M {X with A:=X.A.load (AC M x),S:=ac X.S j 2 (X.A.get (AC M x))}∧ae [B.sb,B.ab,B.wb] w w':=by
 obtain⟨cap,hbx⟩:=h.box;have c0:=hbx.cell (i:=0) rfl;have j0:=h.row.cell (ag M.n X.S (t:=0) hj aO);rw[Nat.add_zero,h0] at j0;have HN:=aH (fun(W:World) (hf:ae [] w W)=>Di (h.same hf) x);have HS:=aH (fun(W:World) (hf:ae [] w W)=>(bq (h.same hf).ar (AC M x)).mono (fun e w' q=>(show e=_∧A1 w' B M {X with A:=X.A.load (AC M x)}∧ae [B.ab,B.wb] w w' from⟨q.1,(h.same hf).arena q.2.2 q.2.1,(hf.mono aS).trans q.2.2⟩)));have HJ:=aH hj;clear h hbx h0;go_enter func290,ntmps290;go_wp2_with fail;go_region_with(first|(go_at_call 293;refine(HN.o _ aD).mono ?_;rintro e w1 ⟨rfl,rfl⟩)|(go_at_call 106;refine(HS.o _ aD).mono ?_;rintro e w2 ⟨rfl,hC,hF⟩;have j9:=hC.row.cell (ag M.n X.S (t:=2) HJ.o aO);have jz:=hC.row.frozen;have HC:=aH hC;have HF:=aH hF;clear hC hF))
 all_goals
  have HE:=aH (HC.o.put j (t:=2) aO (X.A.get (AC M x)));have HG:=aH ((HF.o.mono (S':=[B.sb,B.ab,B.wb]) aS).set ⟨B.sb,j*4+2,none⟩ (.int .i64 (X.A.get (AC M x))) (.inl aS));go_wp2;go_ret;exact⟨rfl,HE.o,HG.o⟩
theorem fh (h:A1 w B M X) {j:Nat} (hj:j<M.n) (h0:X.S j 0=14) (x:Int):Calls prog 290 #[some B.lb,.pointer (some ⟨B.sb,j*4,none⟩),x] w fun e w'=>e= .returned (15:Int)∧A1 w' B M {X with A:=X.A.load (AL M (X.S j 2)),S:=ac X.S j 3 (X.A.get (AL M (X.S j 2)))}∧ae [B.sb,B.ab,B.wb] w w':=by
 obtain⟨cap,hbx⟩:=h.box;have c0:=hbx.cell (i:=0) rfl;have j0:=h.row.cell (ag M.n X.S (t:=0) hj aO);rw[Nat.add_zero,h0] at j0;have j2:=h.row.cell (ag M.n X.S (t:=2) hj aO);have HN:=aH (fun(W:World) (hf:ae [] w W)=>Jr (h.same hf) (X.S j 2));have HS:=aH (fun(W:World) (hf:ae [] w W)=>(bq (h.same hf).ar (AL M (X.S j 2))).mono (fun e w' q=>(show e=_∧A1 w' B M {X with A:=X.A.load (AL M (X.S j 2))}∧ae [B.ab,B.wb] w w' from⟨q.1,(h.same hf).arena q.2.2 q.2.1,(hf.mono aS).trans q.2.2⟩)));have HJ:=aH hj;clear h hbx h0;go_enter func290,ntmps290;go_wp2_with fail;go_region_with(first|(go_at_call 295;refine(HN.o _ aD).mono ?_;rintro e w1 ⟨rfl,rfl⟩)|(go_at_call 106;refine(HS.o _ aD).mono ?_;rintro e w2 ⟨rfl,hC,hF⟩;have j9:=hC.row.cell (ag M.n X.S (t:=3) HJ.o aO);have jz:=hC.row.frozen;have HC:=aH hC;have HF:=aH hF;clear hC hF))
 all_goals
  have HE:=aH (HC.o.put j (t:=3) aO (X.A.get (AL M (X.S j 2))));have HG:=aH ((HF.o.mono (S':=[B.sb,B.ab,B.wb]) aS).set ⟨B.sb,j*4+3,none⟩ (.int .i64 (X.A.get (AL M (X.S j 2)))) (.inl aS));go_wp2;go_ret;exact⟨rfl,HE.o,HG.o⟩
end
end Go.Proofs.YteijjhahgabalaaGreat
