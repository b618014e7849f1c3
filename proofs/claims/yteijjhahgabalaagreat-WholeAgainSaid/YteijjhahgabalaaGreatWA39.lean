/- The contracts of package cna: aside, what it stores. (Printed by gen_cna.py.) -/
import Derived.Test.YteijjhahgabalaaGreatWA33
import Derived.Test.YteijjhahgabalaaGreatWA06
set_option maxRecDepth 100000
set_option maxHeartbeats 8000000
set_option linter.all false
namespace Go.Proofs.YteijjhahgabalaaGreat
open Go.RowKit
open Tryz
section
variable{w w':World} {B:BH} {M:B6} {X:An}
theorem Hr:(∀{w:World} {B:BH} {M:B6} {X:An} (h:A1 w B M X) {j:Nat} (hj:j<M.n) (h0:X.S j 0=21),Calls prog 292 #[some B.lb,.pointer (some ⟨B.sb,j*4,none⟩)] w fun e w'=>e= .returned (22:Int)∧A1 w' B M {X with A:=X.A.store (A8 M (X.S j 3)) (X.S j 1)}∧ae [B.ab,B.wb] w w')∧(∀{w:World} {B:BH} {M:B6} {X:An} (h:A1 w B M X) {j:Nat} (hj:j<M.n) (h0:X.S j 0=26),Calls prog 292 #[some B.lb,.pointer (some ⟨B.sb,j*4,none⟩)] w fun e w'=>e= .returned (27:Int)∧A1 w' B M {X with A:=X.A.store (A8 M (X.S j 3)) (X.S j 1)}∧ae [B.ab,B.wb] w w'):=by
 refine⟨?_,?_⟩;all_goals
  intro w B M X h j hj h0
 all_goals
  obtain⟨cap,hbx⟩:=h.box;have c0:=hbx.cell (i:=0) rfl;have c4:=hbx.cell (i:=4) rfl;have j0:=h.row.cell (ag M.n X.S (t:=0) hj aO);have j1:=h.row.cell (ag M.n X.S (t:=1) hj aO);have j2:=h.row.cell (ag M.n X.S (t:=2) hj aO);have j3:=h.row.cell (ag M.n X.S (t:=3) hj aO);rw[Nat.add_zero,h0] at j0;have HN0:=aH (fun(W:World) (hf:ae [] w W)=>Ek (h.same hf) (X.S j 3));have HS:=aH (fun(W:World) (hf:ae [] w W)=>(au (h.same hf).ar (A8 M (X.S j 3)) (X.S j 1)).mono (fun e w' q=>(show e=_∧A1 w' B M {X with A:=X.A.store (A8 M (X.S j 3)) (X.S j 1)}∧ae [B.ab,B.wb] w w' from⟨q.1,(h.same hf).arena q.2.2 q.2.1,(hf.mono aS).trans q.2.2⟩)));have HJ:=aH hj;have H0:=aH h0;clear h hbx h0 hj;go_enter func292,ntmps292;go_wp2_with fail;go_region_with(first|(go_at_call 96;refine(HN0.o _ aD).mono ?_;rintro e w1 ⟨rfl,rfl⟩)|(go_at_call 63;refine(HS.o _ aD).mono ?_;rintro e w2 ⟨rfl,hC,hF⟩;have q0:=hC.row.cell (ag M.n X.S (t:=0) HJ.o aO);have q1:=hC.row.cell (ag M.n X.S (t:=1) HJ.o aO);have q2:=hC.row.cell (ag M.n X.S (t:=2) HJ.o aO);have q3:=hC.row.cell (ag M.n X.S (t:=3) HJ.o aO);rw[Nat.add_zero,H0.o] at q0;obtain⟨cap2,hb2⟩:=hC.box;have b4:=hb2.cell (i:=4) rfl;have jz:=hC.row.frozen;clear hb2;have HC:=aH hC;have HF:=aH hF;clear hC hF))
  all_goals
   go_wp2;go_ret;exact⟨rfl,HC.o,HF.o⟩
def cO:= @And.left _ _ Hr
def ce:= @And.right _ _ Hr
theorem En:(∀{w:World} {B:BH} {M:B6} {X:An} (h:A1 w B M X) {j:Nat} (hj:j<M.n) (h0:X.S j 0=24),Calls prog 292 #[some B.lb,.pointer (some ⟨B.sb,j*4,none⟩)] w fun e w'=>e= .returned (0:Int)∧A1 w' B M {X with A:=X.A.store (AC M (X.S j 1)) (X.S j 2)}∧ae [B.ab,B.wb] w w')∧(∀{w:World} {B:BH} {M:B6} {X:An} (h:A1 w B M X) {j:Nat} (hj:j<M.n) (h0:X.S j 0=28),Calls prog 292 #[some B.lb,.pointer (some ⟨B.sb,j*4,none⟩)] w fun e w'=>e= .returned (0:Int)∧A1 w' B M {X with A:=X.A.store (AC M (X.S j 2)) (-1)}∧ae [B.ab,B.wb] w w')∧(∀{w:World} {B:BH} {M:B6} {X:An} (h:A1 w B M X) {j:Nat} (hj:j<M.n) (h0:X.S j 0=30),Calls prog 292 #[some B.lb,.pointer (some ⟨B.sb,j*4,none⟩)] w fun e w'=>e= .returned (0:Int)∧A1 w' B M {X with A:=X.A.store (AC M (X.S j 1)) (-1)}∧ae [B.ab,B.wb] w w'):=by
 refine⟨?_,?_,?_⟩;all_goals
  intro w B M X h j hj h0
 all_goals
  obtain⟨cap,hbx⟩:=h.box;have c0:=hbx.cell (i:=0) rfl;have c4:=hbx.cell (i:=4) rfl;have j0:=h.row.cell (ag M.n X.S (t:=0) hj aO);have j1:=h.row.cell (ag M.n X.S (t:=1) hj aO);have j2:=h.row.cell (ag M.n X.S (t:=2) hj aO);have j3:=h.row.cell (ag M.n X.S (t:=3) hj aO);rw[Nat.add_zero,h0] at j0
 have HN0:=aH (fun(W:World) (hf:ae [] w W)=>Di (h.same hf) (X.S j 1));have HS:=aH (fun(W:World) (hf:ae [] w W)=>(au (h.same hf).ar (AC M (X.S j 1)) (X.S j 2)).mono (fun e w' q=>(show e=_∧A1 w' B M {X with A:=X.A.store (AC M (X.S j 1)) (X.S j 2)}∧ae [B.ab,B.wb] w w' from⟨q.1,(h.same hf).arena q.2.2 q.2.1,(hf.mono aS).trans q.2.2⟩)));rotate_left;have HN0:=aH (fun(W:World) (hf:ae [] w W)=>Di (h.same hf) (X.S j 2));have HS:=aH (fun(W:World) (hf:ae [] w W)=>(au (h.same hf).ar (AC M (X.S j 2)) (-1)).mono (fun e w' q=>(show e=_∧A1 w' B M {X with A:=X.A.store (AC M (X.S j 2)) (-1)}∧ae [B.ab,B.wb] w w' from⟨q.1,(h.same hf).arena q.2.2 q.2.1,(hf.mono aS).trans q.2.2⟩)));rotate_left;have HN0:=aH (fun(W:World) (hf:ae [] w W)=>Di (h.same hf) (X.S j 1));have HS:=aH (fun(W:World) (hf:ae [] w W)=>(au (h.same hf).ar (AC M (X.S j 1)) (-1)).mono (fun e w' q=>(show e=_∧A1 w' B M {X with A:=X.A.store (AC M (X.S j 1)) (-1)}∧ae [B.ab,B.wb] w w' from⟨q.1,(h.same hf).arena q.2.2 q.2.1,(hf.mono aS).trans q.2.2⟩)));rotate_left;all_goals
  have HJ:=aH hj;have H0:=aH h0;clear h hbx h0 hj;go_enter func292,ntmps292;go_wp2_with fail;go_region_with(first|(go_at_call 293;refine(HN0.o _ aD).mono ?_;rintro e w1 ⟨rfl,rfl⟩)|(go_at_call 63;refine(HS.o _ aD).mono ?_;rintro e w2 ⟨rfl,hC,hF⟩;have q0:=hC.row.cell (ag M.n X.S (t:=0) HJ.o aO);have q1:=hC.row.cell (ag M.n X.S (t:=1) HJ.o aO);have q2:=hC.row.cell (ag M.n X.S (t:=2) HJ.o aO);have q3:=hC.row.cell (ag M.n X.S (t:=3) HJ.o aO);rw[Nat.add_zero,H0.o] at q0;obtain⟨cap2,hb2⟩:=hC.box;have b4:=hb2.cell (i:=4) rfl;have jz:=hC.row.frozen;clear hb2;have HC:=aH hC;have HF:=aH hF;clear hC hF))
  all_goals
   go_wp2;go_ret;exact⟨rfl,HC.o,HF.o⟩
def cX:= @And.left _ _ En
def ct:= @And.left _ _ (@And.right _ _ En)
def dB:= @And.right _ _ (@And.right _ _ En)
end
end Go.Proofs.YteijjhahgabalaaGreat
