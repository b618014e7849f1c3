/- The contracts of package cna: in. (Printed by gen_cna.py.) -/
import Derived.Test.YteijjhahgabalaaGreatWA33
import Derived.Test.YteijjhahgabalaaGreatWA06
set_option maxRecDepth 100000
set_option maxHeartbeats 8000000
set_option linter.all false
namespace Go.Proofs.YteijjhahgabalaaGreat
open Go.RowKit
open Tryz
section
variable{w w':World} {B:BH} {M:B6} {X:An}
theorem wd (h:A1 w B M X) {j:Nat} (hj:j<M.n) (h0:X.S j 0=1) (x:Int):Calls prog 289 #[some B.lb,.pointer (some ⟨B.sb,j*4,none⟩),x] w fun e w'=>e= .returned (2:Int)∧A1 w' B M {X with A:=X.A.store (A8 M x) 0}∧ae [B.ab,B.wb] w w':=by
 obtain⟨cap,hbx⟩:=h.box;have c0:=hbx.cell (i:=0) rfl;have j0:=h.row.cell (ag M.n X.S (t:=0) hj aO);rw[Nat.add_zero,h0] at j0;have HN:=aH (fun(W:World) (hf:ae [] w W)=>Ek (h.same hf) x);have HS:=aH (fun(W:World) (hf:ae [] w W)=>(au (h.same hf).ar (A8 M x) 0).mono (fun e w' q=>(show e=_∧A1 w' B M {X with A:=X.A.store (A8 M x) 0}∧ae [B.ab,B.wb] w w' from⟨q.1,(h.same hf).arena q.2.2 q.2.1,(hf.mono aS).trans q.2.2⟩)));clear h hbx h0;go_enter func289,ntmps289;go_wp2_with fail;go_region_with(first|(go_at_call 96;refine(HN.o _ aD).mono ?_;rintro e w1 ⟨rfl,rfl⟩)|(go_at_call 63;refine(HS.o _ aD).mono ?_;rintro e w2 ⟨rfl,hC,hF⟩;have HC:=aH hC;have HF:=aH hF;clear hC hF))
 all_goals(go_wp2;go_ret;exact⟨rfl,HC.o,HF.o⟩)
theorem wi (h:A1 w B M X) {j:Nat} (hj:j<M.n) (h0:X.S j 0=2) (x:Int):Calls prog 289 #[some B.lb,.pointer (some ⟨B.sb,j*4,none⟩),x] w fun e w'=>e= .returned (3:Int)∧A1 w' B M {X with A:=X.A.store (AC M x) 0}∧ae [B.ab,B.wb] w w':=by
 obtain⟨cap,hbx⟩:=h.box;have c0:=hbx.cell (i:=0) rfl;have j0:=h.row.cell (ag M.n X.S (t:=0) hj aO);rw[Nat.add_zero,h0] at j0;have HN:=aH (fun(W:World) (hf:ae [] w W)=>Di (h.same hf) x);have HS:=aH (fun(W:World) (hf:ae [] w W)=>(au (h.same hf).ar (AC M x) 0).mono (fun e w' q=>(show e=_∧A1 w' B M {X with A:=X.A.store (AC M x) 0}∧ae [B.ab,B.wb] w w' from⟨q.1,(h.same hf).arena q.2.2 q.2.1,(hf.mono aS).trans q.2.2⟩)));clear h hbx h0;go_enter func289,ntmps289;go_wp2_with fail;go_region_with(first|(go_at_call 293;refine(HN.o _ aD).mono ?_;rintro e w1 ⟨rfl,rfl⟩)|(go_at_call 63;refine(HS.o _ aD).mono ?_;rintro e w2 ⟨rfl,hC,hF⟩;have HC:=aH hC;have HF:=aH hF;clear hC hF))
 all_goals(go_wp2;go_ret;exact⟨rfl,HC.o,HF.o⟩)
theorem wm (h:A1 w B M X) {j:Nat} (hj:j<M.n) (h0:X.S j 0=4) (x:Int):Calls prog 289 #[some B.lb,.pointer (some ⟨B.sb,j*4,none⟩),x] w fun e w'=>e= .returned (5:Int)∧A1 w' B M {X with A:=X.A.store (A8 M (X.S j 1)) x}∧ae [B.ab,B.wb] w w':=by
 obtain⟨cap,hbx⟩:=h.box;have c0:=hbx.cell (i:=0) rfl;have j0:=h.row.cell (ag M.n X.S (t:=0) hj aO);rw[Nat.add_zero,h0] at j0;have j1:=h.row.cell (ag M.n X.S (t:=1) hj aO);have HN:=aH (fun(W:World) (hf:ae [] w W)=>Ek (h.same hf) (X.S j 1));have HS:=aH (fun(W:World) (hf:ae [] w W)=>(au (h.same hf).ar (A8 M (X.S j 1)) x).mono (fun e w' q=>(show e=_∧A1 w' B M {X with A:=X.A.store (A8 M (X.S j 1)) x}∧ae [B.ab,B.wb] w w' from⟨q.1,(h.same hf).arena q.2.2 q.2.1,(hf.mono aS).trans q.2.2⟩)));clear h hbx h0;go_enter func289,ntmps289;go_wp2_with fail;go_region_with(first|(go_at_call 96;refine(HN.o _ aD).mono ?_;rintro e w1 ⟨rfl,rfl⟩)|(go_at_call 63;refine(HS.o _ aD).mono ?_;rintro e w2 ⟨rfl,hC,hF⟩;have HC:=aH hC;have HF:=aH hF;clear hC hF))
 all_goals(go_wp2;go_ret;exact⟨rfl,HC.o,HF.o⟩)
theorem wq (h:A1 w B M X) {j:Nat} (hj:j<M.n) (h0:X.S j 0=6) (x:Int):Calls prog 289 #[some B.lb,.pointer (some ⟨B.sb,j*4,none⟩),x] w fun e w'=>e= .returned (10:Int)∧A1 w' B M {X with A:=X.A.store (AC M x) (-1)}∧ae [B.ab,B.wb] w w':=by
 obtain⟨cap,hbx⟩:=h.box;have c0:=hbx.cell (i:=0) rfl;have j0:=h.row.cell (ag M.n X.S (t:=0) hj aO);rw[Nat.add_zero,h0] at j0;have HN:=aH (fun(W:World) (hf:ae [] w W)=>Di (h.same hf) x);have HS:=aH (fun(W:World) (hf:ae [] w W)=>(au (h.same hf).ar (AC M x) (-1)).mono (fun e w' q=>(show e=_∧A1 w' B M {X with A:=X.A.store (AC M x) (-1)}∧ae [B.ab,B.wb] w w' from⟨q.1,(h.same hf).arena q.2.2 q.2.1,(hf.mono aS).trans q.2.2⟩)));clear h hbx h0;go_enter func289,ntmps289;go_wp2_with fail;go_region_with(first|(go_at_call 293;refine(HN.o _ aD).mono ?_;rintro e w1 ⟨rfl,rfl⟩)|(go_at_call 63;refine(HS.o _ aD).mono ?_;rintro e w2 ⟨rfl,hC,hF⟩;have HC:=aH hC;have HF:=aH hF;clear hC hF))
 all_goals(go_wp2;go_ret;exact⟨rfl,HC.o,HF.o⟩)
end
end Go.Proofs.YteijjhahgabalaaGreat
