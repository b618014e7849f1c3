/- A step of a cna lock. (Printed by gen_cna.py.) -/
import Derived.Test.YteijjhahgabalaaGreatWA47
import Derived.Test.YteijjhahgabalaaGreatWA45
import Derived.Test.YteijjhahgabalaaGreatWA44
import Derived.Test.YteijjhahgabalaaGreatWA41
import Derived.Test.YteijjhahgabalaaGreatWA43
import Derived.Test.YteijjhahgabalaaGreatWA39
import Derived.Test.YteijjhahgabalaaGreatWA40
import Derived.Test.YteijjhahgabalaaGreatWA33
set_option maxRecDepth 100000
set_option maxHeartbeats 8000000
set_option linter.all false
namespace Go.Proofs.YteijjhahgabalaaGreat
open Go.RowKit
open Tryz
def py (M:B6) (X:An) (j:Nat):An×Int:=(⟨X.A.store (A8 M ((j:Int)+1)) 0,X.S,X.K⟩,2)
def Gz (M:B6) (X:An) (j:Nat):An×Int:=(⟨X.A.store (AC M ((j:Int)+1)) 0,X.S,X.K⟩,3)
def H8 (M:B6) (X:An) (j:Nat):An×Int:=(⟨X.A.swap M.tail ((j:Int)+1),ac X.S j 1 (X.A.get M.tail),X.K⟩,Gl (X.A.get M.tail==0) 6 4)
def H9 (M:B6) (X:An) (j:Nat):An×Int:=(⟨X.A.store (A8 M (X.S j 1)) ((j:Int)+1),X.S,X.K⟩,5)
def Ha (M:B6) (X:An) (j:Nat):An×Int:=(⟨X.A.load (AC M ((j:Int)+1)),ac X.S j 1 (X.A.get (AC M ((j:Int)+1))),X.K⟩,Gl (X.A.get (AC M ((j:Int)+1))!=0) 10 5)
def Hd (M:B6) (X:An) (j:Nat):An×Int:=(⟨X.A.store (AC M ((j:Int)+1)) (-1),X.S,X.K⟩,10)
def ED (M:B6) (X:An) (j:Nat):An×Int:=(⟨X.A.load (AC M ((j:Int)+1)),ac X.S j 2 (X.A.get (AC M ((j:Int)+1))),X.K⟩,12)
def EF (M:B6) (X:An) (j:Nat):An×Int:=(⟨X.A.load (A8 M ((j:Int)+1)),ac X.S j 1 (X.A.get (A8 M ((j:Int)+1))),X.K⟩,Gl (X.A.get (A8 M ((j:Int)+1))!=0) 17 (Gl (decide (0<X.S j 2)) 14 13))
def EH (M:B6) (X:An) (j:Nat):An×Int:=(⟨X.A.cas M.tail ((j:Int)+1) 0,X.S,X.K⟩,Gl (X.A.casOk M.tail ((j:Int)+1)) 0 16)
def EI (M:B6) (X:An) (j:Nat):An×Int:=(⟨X.A.load (AL M (X.S j 2)),ac X.S j 3 (X.A.get (AL M (X.S j 2))),X.K⟩,15)
def EK (M:B6) (X:An) (j:Nat):An×Int:=(⟨X.A.cas M.tail ((j:Int)+1) (X.S j 3),X.S,X.K⟩,Gl (X.A.casOk M.tail ((j:Int)+1)) 28 16)
def EL (M:B6) (X:An) (j:Nat):An×Int:=(⟨X.A.load (A8 M ((j:Int)+1)),ac X.S j 1 (X.A.get (A8 M ((j:Int)+1))),X.K⟩,Gl (X.A.get (A8 M ((j:Int)+1))!=0) 17 16)
def EO (M:B6) (X:An) (j:Nat):An×Int:=if M.bud≤(X.A.get (an M)) then(⟨X.A.load (an M),ac X.S j 3 (X.A.get (an M)),X.K⟩,(Gl (decide (0<X.S j 2)) 25 29)) else(⟨X.A.load (an M),ac X.S j 3 (X.A.get (an M)),(Cu M.sc X.K (X.S j 1) (M.N[j]?.getD 0))⟩,if(Cu M.sc X.K (X.S j 1) (M.N[j]?.getD 0)).way=true then 18 else 23)
def EP (M:B6) (X:An) (j:Nat):An×Int:=(⟨D9 M.sc X.A X.K,X.S,Bd M.sc X.A X.K⟩,if DX M.sc X.A X.K=true then(if(Bd M.sc X.A X.K).fo=0 then(Gl (decide (0<X.S j 2)) 25 29) else 19) else 18)
def EQ (M:B6) (X:An) (j:Nat):An×Int:=if 0<X.S j 2 then(⟨X.A.store (A8 M X.K.last) 0,X.S,X.K⟩,20) else(⟨X.A.store (A8 M X.K.last) 0,ac X.S j 2 (X.S j 1),X.K⟩,22)
def ET (M:B6) (X:An) (j:Nat):An×Int:=(⟨X.A.load (AL M (X.S j 2)),ac X.S j 3 (X.A.get (AL M (X.S j 2))),X.K⟩,21)
def EU (M:B6) (X:An) (j:Nat):An×Int:=(⟨X.A.store (A8 M (X.S j 3)) (X.S j 1),X.S,X.K⟩,22)
def EV (M:B6) (X:An) (j:Nat):An×Int:=(⟨X.A.store (AL M (X.S j 2)) X.K.last,ac X.S j 1 X.K.fo,X.K⟩,23)
def EW (M:B6) (X:An) (j:Nat):An×Int:=(⟨X.A.add (an M) 1,X.S,X.K⟩,24)
def EZ (M:B6) (X:An) (j:Nat):An×Int:=(⟨X.A.store (AC M (X.S j 1)) (X.S j 2),X.S,X.K⟩,0)
def Ea (M:B6) (X:An) (j:Nat):An×Int:=(⟨X.A.load (AL M (X.S j 2)),ac X.S j 3 (X.A.get (AL M (X.S j 2))),X.K⟩,26)
def Eb (M:B6) (X:An) (j:Nat):An×Int:=(⟨X.A.store (A8 M (X.S j 3)) (X.S j 1),X.S,X.K⟩,27)
def Ec (M:B6) (X:An) (j:Nat):An×Int:=(⟨X.A.store (an M) 0,X.S,X.K⟩,28)
def Ef (M:B6) (X:An) (j:Nat):An×Int:=(⟨X.A.store (AC M (X.S j 2)) (-1),X.S,X.K⟩,0)
def Eg (M:B6) (X:An) (j:Nat):An×Int:=(⟨X.A.store (an M) 0,X.S,X.K⟩,30)
def Ei (M:B6) (X:An) (j:Nat):An×Int:=(⟨X.A.store (AC M (X.S j 1)) (-1),X.S,X.K⟩,0)
def AW (M:B6) (X:An) (j:Nat):An×Int:=
 if X.S j 0=1 then py M X j else
 if X.S j 0=2 then Gz M X j else
 if X.S j 0=3 then H8 M X j else
 if X.S j 0=4 then H9 M X j else
 if X.S j 0=5 then Ha M X j else
 if X.S j 0=6 then Hd M X j else
 if X.S j 0=11 then ED M X j else
 if X.S j 0=12 then EF M X j else
 if X.S j 0=13 then EH M X j else
 if X.S j 0=14 then EI M X j else
 if X.S j 0=15 then EK M X j else
 if X.S j 0=16 then EL M X j else
 if X.S j 0=17 then EO M X j else
 if X.S j 0=18 then EP M X j else
 if X.S j 0=19 then EQ M X j else
 if X.S j 0=20 then ET M X j else
 if X.S j 0=21 then EU M X j else
 if X.S j 0=22 then EV M X j else
 if X.S j 0=23 then EW M X j else
 if X.S j 0=24 then EZ M X j else
 if X.S j 0=25 then Ea M X j else
 if X.S j 0=26 then Eb M X j else
 if X.S j 0=27 then Ec M X j else
 if X.S j 0=28 then Ef M X j else
 if X.S j 0=29 then Eg M X j else
 if X.S j 0=30 then Ei M X j else
 (X,X.S j 0)
def C7 (pc:Int):Prop:=(0≤pc∧pc≤6)∨(10≤pc∧pc≤30)
def DO (X:An) (j:Nat):Bool:= !(X.S j 0==0)&& !(X.S j 0==10)
def IK (M:B6) (X:An) (j:Nat):Bool:=DO X j&&((AW M X j).2==0||(AW M X j).2==10)
def Dr (M:B6) (X:An) (j:Nat):An:=if DO X j then{(AW M X j).1 with S:=ac (AW M X j).1.S j 0 (AW M X j).2} else X
section
variable{w w':World} {B:BH} {M:B6} {X:An} {j:Nat}
theorem wR (h:A1 w B M X) (hj:j<M.n) (h0:X.S j 0=1):Calls prog 289 #[some B.lb,.pointer (some ⟨B.sb,j*4,none⟩),((j:Int)+1:Int)] w fun e w'=>e= .returned (.int .i64 (py M X j).2)∧A1 w' B M (py M X j).1∧ae (Aq B) w w':=by
 unfold py;exact(wd h hj h0 ((j:Int)+1)).mono (fun e w' ⟨q1,q2,q3⟩=>⟨q1,q2,q3.mono (by simp[Aq,BH.ab])⟩)
theorem wS (h:A1 w B M X) (hj:j<M.n) (h0:X.S j 0=2):Calls prog 289 #[some B.lb,.pointer (some ⟨B.sb,j*4,none⟩),((j:Int)+1:Int)] w fun e w'=>e= .returned (.int .i64 (Gz M X j).2)∧A1 w' B M (Gz M X j).1∧ae (Aq B) w w':=by
 unfold Gz;exact(wi h hj h0 ((j:Int)+1)).mono (fun e w' ⟨q1,q2,q3⟩=>⟨q1,q2,q3.mono (by simp[Aq,BH.ab])⟩)
theorem wU (h:A1 w B M X) (hj:j<M.n) (h0:X.S j 0=3):Calls prog 289 #[some B.lb,.pointer (some ⟨B.sb,j*4,none⟩),((j:Int)+1:Int)] w fun e w'=>e= .returned (.int .i64 (H8 M X j).2)∧A1 w' B M (H8 M X j).1∧ae (Aq B) w w':=by
 unfold H8;exact(wk h hj h0 ((j:Int)+1)).mono (fun e w' ⟨q1,q2,q3⟩=>⟨q1,q2,q3.mono (by simp[Aq,BH.ab])⟩)
theorem wW (h:A1 w B M X) (hj:j<M.n) (h0:X.S j 0=4):Calls prog 289 #[some B.lb,.pointer (some ⟨B.sb,j*4,none⟩),((j:Int)+1:Int)] w fun e w'=>e= .returned (.int .i64 (H9 M X j).2)∧A1 w' B M (H9 M X j).1∧ae (Aq B) w w':=by
 unfold H9;exact(wm h hj h0 ((j:Int)+1)).mono (fun e w' ⟨q1,q2,q3⟩=>⟨q1,q2,q3.mono (by simp[Aq,BH.ab])⟩)
theorem wY (h:A1 w B M X) (hj:j<M.n) (h0:X.S j 0=5):Calls prog 289 #[some B.lb,.pointer (some ⟨B.sb,j*4,none⟩),((j:Int)+1:Int)] w fun e w'=>e= .returned (.int .i64 (Ha M X j).2)∧A1 w' B M (Ha M X j).1∧ae (Aq B) w w':=by
 unfold Ha;exact(wn h hj h0 ((j:Int)+1)).mono (fun e w' ⟨q1,q2,q3⟩=>⟨q1,q2,q3.mono (by simp[Aq,BH.ab])⟩)
theorem wZ (h:A1 w B M X) (hj:j<M.n) (h0:X.S j 0=6):Calls prog 289 #[some B.lb,.pointer (some ⟨B.sb,j*4,none⟩),((j:Int)+1:Int)] w fun e w'=>e= .returned (.int .i64 (Hd M X j).2)∧A1 w' B M (Hd M X j).1∧ae (Aq B) w w':=by
 unfold Hd;exact(wq h hj h0 ((j:Int)+1)).mono (fun e w' ⟨q1,q2,q3⟩=>⟨q1,q2,q3.mono (by simp[Aq,BH.ab])⟩)
theorem qU (h:A1 w B M X) (hj:j<M.n) (h0:X.S j 0=11):Calls prog 290 #[some B.lb,.pointer (some ⟨B.sb,j*4,none⟩),((j:Int)+1:Int)] w fun e w'=>e= .returned (.int .i64 (ED M X j).2)∧A1 w' B M (ED M X j).1∧ae (Aq B) w w':=by
 unfold ED;exact(fY h hj h0 ((j:Int)+1)).mono (fun e w' ⟨q1,q2,q3⟩=>⟨q1,q2,q3.mono (by simp[Aq,BH.ab])⟩)
theorem qX (h:A1 w B M X) (hj:j<M.n) (h0:X.S j 0=12):Calls prog 290 #[some B.lb,.pointer (some ⟨B.sb,j*4,none⟩),((j:Int)+1:Int)] w fun e w'=>e= .returned (.int .i64 (EF M X j).2)∧A1 w' B M (EF M X j).1∧ae (Aq B) w w':=by
 unfold EF;exact(fc h hj h0 ((j:Int)+1)).mono (fun e w' ⟨q1,q2,q3⟩=>⟨q1,q2,q3.mono (by simp[Aq,BH.ab])⟩)
theorem qY (h:A1 w B M X) (hj:j<M.n) (h0:X.S j 0=13):Calls prog 290 #[some B.lb,.pointer (some ⟨B.sb,j*4,none⟩),((j:Int)+1:Int)] w fun e w'=>e= .returned (.int .i64 (EH M X j).2)∧A1 w' B M (EH M X j).1∧ae (Aq B) w w':=by
 unfold EH;exact(fg h hj h0 ((j:Int)+1)).mono (fun e w' ⟨q1,q2,q3⟩=>⟨q1,q2,q3.mono (by simp[Aq,BH.ab])⟩)
theorem qb (h:A1 w B M X) (hj:j<M.n) (h0:X.S j 0=14):Calls prog 290 #[some B.lb,.pointer (some ⟨B.sb,j*4,none⟩),((j:Int)+1:Int)] w fun e w'=>e= .returned (.int .i64 (EI M X j).2)∧A1 w' B M (EI M X j).1∧ae (Aq B) w w':=by
 unfold EI;exact(fh h hj h0 ((j:Int)+1)).mono (fun e w' ⟨q1,q2,q3⟩=>⟨q1,q2,q3.mono (by simp[Aq,BH.ab])⟩)
theorem qc (h:A1 w B M X) (hj:j<M.n) (h0:X.S j 0=15):Calls prog 290 #[some B.lb,.pointer (some ⟨B.sb,j*4,none⟩),((j:Int)+1:Int)] w fun e w'=>e= .returned (.int .i64 (EK M X j).2)∧A1 w' B M (EK M X j).1∧ae (Aq B) w w':=by
 unfold EK;exact(fj h hj h0 ((j:Int)+1)).mono (fun e w' ⟨q1,q2,q3⟩=>⟨q1,q2,q3.mono (by simp[Aq,BH.ab])⟩)
theorem qf (h:A1 w B M X) (hj:j<M.n) (h0:X.S j 0=16):Calls prog 290 #[some B.lb,.pointer (some ⟨B.sb,j*4,none⟩),((j:Int)+1:Int)] w fun e w'=>e= .returned (.int .i64 (EL M X j).2)∧A1 w' B M (EL M X j).1∧ae (Aq B) w w':=by
 unfold EL;exact(fk h hj h0 ((j:Int)+1)).mono (fun e w' ⟨q1,q2,q3⟩=>⟨q1,q2,q3.mono (by simp[Aq,BH.ab])⟩)
theorem qh (h:A1 w B M X) (hj:j<M.n) (h0:X.S j 0=17):Calls prog 291 #[some B.lb,.pointer (some ⟨B.sb,j*4,none⟩),((j:Int)+1:Int)] w fun e w'=>e= .returned (.int .i64 (EO M X j).2)∧A1 w' B M (EO M X j).1∧ae (Aq B) w w':=by
 unfold EO;by_cases hb:M.bud≤(X.A.get (an M))
 ·rw[if_pos hb];exact Jg h hj h0 hb
 ·rw[if_neg hb];cases hw:(Cu M.sc X.K (X.S j 1) (M.N[j]?.getD 0)).way with
  |true=>rw[if_pos rfl];exact Jl h hj h0 hb hw
  |false=>rw[if_neg aS];exact Jj h hj h0 hb hw
theorem qi (h:A1 w B M X) (hj:j<M.n) (h0:X.S j 0=18):Calls prog 291 #[some B.lb,.pointer (some ⟨B.sb,j*4,none⟩),((j:Int)+1:Int)] w fun e w'=>e= .returned (.int .i64 (EP M X j).2)∧A1 w' B M (EP M X j).1∧ae (Aq B) w w':=by
 unfold EP;cases hr:DX M.sc X.A X.K with
 |false=>rw[if_neg aS];exact Jm h hj h0 hr
 |true=>
  rw[if_pos rfl];by_cases hfo:(Bd M.sc X.A X.K).fo=0
  ·rw[if_pos hfo];exact Jp h hj h0 hr hfo
  ·rw[if_neg hfo];exact Jn h hj h0 hr hfo
theorem qm (h:A1 w B M X) (hj:j<M.n) (h0:X.S j 0=19):Calls prog 292 #[some B.lb,.pointer (some ⟨B.sb,j*4,none⟩)] w fun e w'=>e= .returned (.int .i64 (EQ M X j).2)∧A1 w' B M (EQ M X j).1∧ae (Aq B) w w':=by
 unfold EQ;by_cases hb:0<X.S j 2
 ·rw[if_pos hb];exact(Je h hj h0 (decide_eq_true hb)).mono (fun e w' ⟨q1,q2,q3⟩=>⟨q1,q2,q3.mono (by simp[Aq,BH.ab])⟩)
 ·rw[if_neg hb];exact(Jd h hj h0 (decide_eq_false hb)).mono (fun e w' ⟨q1,q2,q3⟩=>⟨q1,q2,q3.mono (by simp[Aq,BH.ab])⟩)
theorem qs (h:A1 w B M X) (hj:j<M.n) (h0:X.S j 0=20):Calls prog 292 #[some B.lb,.pointer (some ⟨B.sb,j*4,none⟩)] w fun e w'=>e= .returned (.int .i64 (ET M X j).2)∧A1 w' B M (ET M X j).1∧ae (Aq B) w w':=by
 unfold ET;exact(cI h hj h0).mono (fun e w' ⟨q1,q2,q3⟩=>⟨q1,q2,q3.mono (by simp[Aq,BH.ab])⟩)
theorem qt (h:A1 w B M X) (hj:j<M.n) (h0:X.S j 0=21):Calls prog 292 #[some B.lb,.pointer (some ⟨B.sb,j*4,none⟩)] w fun e w'=>e= .returned (.int .i64 (EU M X j).2)∧A1 w' B M (EU M X j).1∧ae (Aq B) w w':=by
 unfold EU;exact(cO h hj h0).mono (fun e w' ⟨q1,q2,q3⟩=>⟨q1,q2,q3.mono (by simp[Aq,BH.ab])⟩)
theorem qu (h:A1 w B M X) (hj:j<M.n) (h0:X.S j 0=22):Calls prog 292 #[some B.lb,.pointer (some ⟨B.sb,j*4,none⟩)] w fun e w'=>e= .returned (.int .i64 (EV M X j).2)∧A1 w' B M (EV M X j).1∧ae (Aq B) w w':=by
 unfold EV;exact(cR h hj h0).mono (fun e w' ⟨q1,q2,q3⟩=>⟨q1,q2,q3.mono (by simp[Aq,BH.ab])⟩)
theorem qx (h:A1 w B M X) (hj:j<M.n) (h0:X.S j 0=23):Calls prog 292 #[some B.lb,.pointer (some ⟨B.sb,j*4,none⟩)] w fun e w'=>e= .returned (.int .i64 (EW M X j).2)∧A1 w' B M (EW M X j).1∧ae (Aq B) w w':=by
 unfold EW;exact(cS h hj h0).mono (fun e w' ⟨q1,q2,q3⟩=>⟨q1,q2,q3.mono (by simp[Aq,BH.ab])⟩)
theorem r8 (h:A1 w B M X) (hj:j<M.n) (h0:X.S j 0=24):Calls prog 292 #[some B.lb,.pointer (some ⟨B.sb,j*4,none⟩)] w fun e w'=>e= .returned (.int .i64 (EZ M X j).2)∧A1 w' B M (EZ M X j).1∧ae (Aq B) w w':=by
 unfold EZ;exact(cX h hj h0).mono (fun e w' ⟨q1,q2,q3⟩=>⟨q1,q2,q3.mono (by simp[Aq,BH.ab])⟩)
theorem rA (h:A1 w B M X) (hj:j<M.n) (h0:X.S j 0=25):Calls prog 292 #[some B.lb,.pointer (some ⟨B.sb,j*4,none⟩)] w fun e w'=>e= .returned (.int .i64 (Ea M X j).2)∧A1 w' B M (Ea M X j).1∧ae (Aq B) w w':=by
 unfold Ea;exact(cd h hj h0).mono (fun e w' ⟨q1,q2,q3⟩=>⟨q1,q2,q3.mono (by simp[Aq,BH.ab])⟩)
theorem rC (h:A1 w B M X) (hj:j<M.n) (h0:X.S j 0=26):Calls prog 292 #[some B.lb,.pointer (some ⟨B.sb,j*4,none⟩)] w fun e w'=>e= .returned (.int .i64 (Eb M X j).2)∧A1 w' B M (Eb M X j).1∧ae (Aq B) w w':=by
 unfold Eb;exact(ce h hj h0).mono (fun e w' ⟨q1,q2,q3⟩=>⟨q1,q2,q3.mono (by simp[Aq,BH.ab])⟩)
theorem rE (h:A1 w B M X) (hj:j<M.n) (h0:X.S j 0=27):Calls prog 292 #[some B.lb,.pointer (some ⟨B.sb,j*4,none⟩)] w fun e w'=>e= .returned (.int .i64 (Ec M X j).2)∧A1 w' B M (Ec M X j).1∧ae (Aq B) w w':=by
 unfold Ec;exact(cf h hj h0).mono (fun e w' ⟨q1,q2,q3⟩=>⟨q1,q2,q3.mono (by simp[Aq,BH.ab])⟩)
theorem rH (h:A1 w B M X) (hj:j<M.n) (h0:X.S j 0=28):Calls prog 292 #[some B.lb,.pointer (some ⟨B.sb,j*4,none⟩)] w fun e w'=>e= .returned (.int .i64 (Ef M X j).2)∧A1 w' B M (Ef M X j).1∧ae (Aq B) w w':=by
 unfold Ef;exact(ct h hj h0).mono (fun e w' ⟨q1,q2,q3⟩=>⟨q1,q2,q3.mono (by simp[Aq,BH.ab])⟩)
theorem rK (h:A1 w B M X) (hj:j<M.n) (h0:X.S j 0=29):Calls prog 292 #[some B.lb,.pointer (some ⟨B.sb,j*4,none⟩)] w fun e w'=>e= .returned (.int .i64 (Eg M X j).2)∧A1 w' B M (Eg M X j).1∧ae (Aq B) w w':=by
 unfold Eg;exact(cy h hj h0).mono (fun e w' ⟨q1,q2,q3⟩=>⟨q1,q2,q3.mono (by simp[Aq,BH.ab])⟩)
theorem rN (h:A1 w B M X) (hj:j<M.n) (h0:X.S j 0=30):Calls prog 292 #[some B.lb,.pointer (some ⟨B.sb,j*4,none⟩)] w fun e w'=>e= .returned (.int .i64 (Ei M X j).2)∧A1 w' B M (Ei M X j).1∧ae (Aq B) w w':=by
 unfold Ei;exact(dB h hj h0).mono (fun e w' ⟨q1,q2,q3⟩=>⟨q1,q2,q3.mono (by simp[Aq,BH.ab])⟩)
theorem Cy:(∀{w:World} {B:BH} {M:B6} {X:An} {j:Nat} (h:A1 w B M X) (hj:j<M.n) {q:Int} (hp:X.S j 0=q) (h00:(q==0)=false) (h10:(q==10)=false) (hq:q<10) {X2:An} {r:Int} (B7:∀W,ae [] w W→Calls prog 289 #[some B.lb,.pointer (some ⟨B.sb,j*4,none⟩),((j:Int)+1:Int)] W fun e w'=>e= .returned r∧A1 w' B M X2∧ae (Aq B) W w'),Calls prog 286 #[some B.lb,j] w fun e w'=>e= .returned (.bool (r==0||r==10))∧A1 w' B M {X2 with S:=ac X2.S j 0 r}∧ae (Aq B) w w')∧(∀{w:World} {B:BH} {M:B6} {X:An} {j:Nat} (h:A1 w B M X) (hj:j<M.n) {q:Int} (hp:X.S j 0=q) (h00:(q==0)=false) (h10:(q==10)=false) (hq:10<q∧q≤16) {X2:An} {r:Int} (B7:∀W,ae [] w W→Calls prog 290 #[some B.lb,.pointer (some ⟨B.sb,j*4,none⟩),((j:Int)+1:Int)] W fun e w'=>e= .returned r∧A1 w' B M X2∧ae (Aq B) W w'),Calls prog 286 #[some B.lb,j] w fun e w'=>e= .returned (.bool (r==0||r==10))∧A1 w' B M {X2 with S:=ac X2.S j 0 r}∧ae (Aq B) w w')∧(∀{w:World} {B:BH} {M:B6} {X:An} {j:Nat} (h:A1 w B M X) (hj:j<M.n) {q:Int} (hp:X.S j 0=q) (h00:(q==0)=false) (h10:(q==10)=false) (hq:16<q∧q≤18) {X2:An} {r:Int} (B7:∀W,ae [] w W→Calls prog 291 #[some B.lb,.pointer (some ⟨B.sb,j*4,none⟩),((j:Int)+1:Int)] W fun e w'=>e= .returned r∧A1 w' B M X2∧ae (Aq B) W w'),Calls prog 286 #[some B.lb,j] w fun e w'=>e= .returned (.bool (r==0||r==10))∧A1 w' B M {X2 with S:=ac X2.S j 0 r}∧ae (Aq B) w w')∧(∀{w:World} {B:BH} {M:B6} {X:An} {j:Nat} (h:A1 w B M X) (hj:j<M.n) {q:Int} (hp:X.S j 0=q) (h00:(q==0)=false) (h10:(q==10)=false) (hq:18<q) {X2:An} {r:Int} (B7:∀W,ae [] w W→Calls prog 292 #[some B.lb,.pointer (some ⟨B.sb,j*4,none⟩)] W fun e w'=>e= .returned r∧A1 w' B M X2∧ae (Aq B) W w'),Calls prog 286 #[some B.lb,j] w fun e w'=>e= .returned (.bool (r==0||r==10))∧A1 w' B M {X2 with S:=ac X2.S j 0 r}∧ae (Aq B) w w'):=by
 refine⟨?_,?_,?_,?_⟩;all_goals
  intro w B M X j h hj q hp h00 h10 hq X2 r B7
 all_goals
  have hS:=Jq h hj;rw[hp] at hS;have HS:=aH hS;have HGO:=aH B7;have H:=aH h;have HJ:=aH hj;have hn:=h.n32;have l1:(j:Int)<M.n:=by omega
  have l2:decide (M.n≤j)=false:=aB;have l3:decide ((j:Int)<0)=false:=aB;have l4:decide ((M.n:Int)≤j)=false:=aB
 have d1:decide (q<10)=true:=aT;rotate_left;have d1:decide (q<10)=false:=aB;have d2:decide (q≤16)=true:=aT;rotate_left;have d1:decide (q<10)=false:=aB;have d2:decide (q≤16)=false:=aB;have d3:decide (q≤18)=true:=aT;rotate_left;have d1:decide (q<10)=false:=aB;have d2:decide (q≤16)=false:=aB;have d3:decide (q≤18)=false:=aB;rotate_left;all_goals
  have fd:=bY;generalize X.S j 1=s1 at*;generalize X.S j 2=s2 at*;generalize X.S j 3=s3 at*;clear h hj hS hq hp B7;cases hr:(r==0)
  all_goals
   go_enter func286,ntmps286;go_wp2_with fail;refine HS.o.mono ?_;rintro e w1 ⟨rfl,hF1⟩;have HF1:=aH hF1;obtain⟨cap,hb⟩:=(H.o.same hF1).box;have c5:=hb.cell (i:=5) rfl;clear hF1 hb;go_wp2_with fail;refine(HGO.o _ HF1.o).mono ?_;rintro e w2 ⟨rfl,hC,hF2⟩;have k0:=hC.row.cell (ag M.n X2.S (i:=j) (t:=0) HJ.o aO);rw[Nat.add_zero] at k0;have kz:=hC.row.frozen;have hP:=hC.put j (t:=0) aO r;rw[Nat.add_zero] at hP;have HP:=aH hP;have HF2:=aH (((HF1.o.mono (S':=Aq B) aS).trans hF2).set ⟨B.sb,j*4,none⟩ (.int .i64 r) (.inl (by simp[Aq])));clear hC hF2 hP c5;go_wp2;go_ret;exact⟨rfl,HP.o,HF2.o⟩
def Cf:= @And.left _ _ Cy
def Bg:= @And.left _ _ (@And.right _ _ Cy)
def FD:= @And.left _ _ (@And.right _ _ (@And.right _ _ Cy))
def Aa:= @And.right _ _ (@And.right _ _ (@And.right _ _ Cy))
theorem rR (h:A1 w B M X) (hj:j<M.n) (hp:DO X j=false):Calls prog 286 #[some B.lb,j] w fun e w'=>e= .returned false∧A1 w' B M X∧ae (Aq B) w w':=by
 have HS:=aH (Jq h hj);have H:=aH h;have fd:=bY;have hq:X.S j 0=0∨X.S j 0=10:=by
  unfold DO at hp;by_cases h1:X.S j 0=0
  ·exact .inl h1
  ·by_cases h2:X.S j 0=10
   ·exact .inr h2
   ·simp[h1,h2] at hp
 generalize X.S j 0=q at*;clear h hj hp;rcases hq with rfl|rfl;all_goals
  go_enter func286,ntmps286;go_wp2_with fail;refine HS.o.mono ?_;rintro e w1 ⟨rfl,hF1⟩;have HF1:=aH hF1;clear hF1;go_wp2;go_ret;exact⟨rfl,H.o.same HF1.o,HF1.o.mono aS⟩
theorem rP (h:A1 w B M X) (hj:j<M.n) (hpc:C7 (X.S j 0)):Calls prog 286 #[some B.lb,j] w fun e w'=>e= .returned (.bool (IK M X j))∧A1 w' B M (Dr M X j)∧ae (Aq B) w w':=by
 unfold IK Dr;cases hm:DO X j with
 |false=>rw[if_neg aS];exact rR h hj hm
 |true=>
  rw[if_pos rfl,Bool.true_and];have hm0:X.S j 0≠0∧X.S j 0≠10:=by unfold DO at hm;simpa using hm
  have h00:(X.S j 0==0)=false:=by simpa using hm0.1
  have h10:(X.S j 0==10)=false:=by simpa using hm0.2
  have hc:X.S j 0=1∨X.S j 0=2∨X.S j 0=3∨X.S j 0=4∨X.S j 0=5∨X.S j 0=6∨X.S j 0=11∨X.S j 0=12∨X.S j 0=13∨X.S j 0=14∨X.S j 0=15∨X.S j 0=16∨X.S j 0=17∨X.S j 0=18∨X.S j 0=19∨X.S j 0=20∨X.S j 0=21∨X.S j 0=22∨X.S j 0=23∨X.S j 0=24∨X.S j 0=25∨X.S j 0=26∨X.S j 0=27∨X.S j 0=28∨X.S j 0=29∨X.S j 0=30:=by unfold C7 at hpc;omega
  rcases hc with hp|hp|hp|hp|hp|hp|hp|hp|hp|hp|hp|hp|hp|hp|hp|hp|hp|hp|hp|hp|hp|hp|hp|hp|hp|hp
  ·have e:AW M X j=py M X j:=by unfold AW;rw[if_pos hp]
   rw[e];exact Cf h hj rfl h00 h10 aO (fun W hf=>wR (h.same hf) hj hp)
  ·have e:AW M X j=Gz M X j:=by unfold AW;rw[if_neg aO];rw[if_pos hp]
   rw[e];exact Cf h hj rfl h00 h10 aO (fun W hf=>wS (h.same hf) hj hp)
  ·have e:AW M X j=H8 M X j:=by unfold AW;rw[if_neg aO];rw[if_neg aO];rw[if_pos hp]
   rw[e];exact Cf h hj rfl h00 h10 aO (fun W hf=>wU (h.same hf) hj hp)
  ·have e:AW M X j=H9 M X j:=by unfold AW;rw[if_neg aO];rw[if_neg aO];rw[if_neg aO];rw[if_pos hp]
   rw[e];exact Cf h hj rfl h00 h10 aO (fun W hf=>wW (h.same hf) hj hp)
  ·have e:AW M X j=Ha M X j:=by unfold AW;rw[if_neg aO];rw[if_neg aO];rw[if_neg aO];rw[if_neg aO];rw[if_pos hp]
   rw[e];exact Cf h hj rfl h00 h10 aO (fun W hf=>wY (h.same hf) hj hp)
  ·have e:AW M X j=Hd M X j:=by unfold AW;rw[if_neg aO];rw[if_neg aO];rw[if_neg aO];rw[if_neg aO];rw[if_neg aO];rw[if_pos hp]
   rw[e];exact Cf h hj rfl h00 h10 aO (fun W hf=>wZ (h.same hf) hj hp)
  ·have e:AW M X j=ED M X j:=by unfold AW;rw[if_neg aO];rw[if_neg aO];rw[if_neg aO];rw[if_neg aO];rw[if_neg aO];rw[if_neg aO];rw[if_pos hp]
   rw[e];exact Bg h hj rfl h00 h10 aO (fun W hf=>qU (h.same hf) hj hp)
  ·have e:AW M X j=EF M X j:=by unfold AW;rw[if_neg aO];rw[if_neg aO];rw[if_neg aO];rw[if_neg aO];rw[if_neg aO];rw[if_neg aO];rw[if_neg aO];rw[if_pos hp]
   rw[e];exact Bg h hj rfl h00 h10 aO (fun W hf=>qX (h.same hf) hj hp)
  ·have e:AW M X j=EH M X j:=by unfold AW;rw[if_neg aO];rw[if_neg aO];rw[if_neg aO];rw[if_neg aO];rw[if_neg aO];rw[if_neg aO];rw[if_neg aO];rw[if_neg aO];rw[if_pos hp]
   rw[e];exact Bg h hj rfl h00 h10 aO (fun W hf=>qY (h.same hf) hj hp)
  ·have e:AW M X j=EI M X j:=by unfold AW;rw[if_neg aO];rw[if_neg aO];rw[if_neg aO];rw[if_neg aO];rw[if_neg aO];rw[if_neg aO];rw[if_neg aO];rw[if_neg aO];rw[if_neg aO];rw[if_pos hp]
   rw[e];exact Bg h hj rfl h00 h10 aO (fun W hf=>qb (h.same hf) hj hp)
  ·have e:AW M X j=EK M X j:=by unfold AW;rw[if_neg aO];rw[if_neg aO];rw[if_neg aO];rw[if_neg aO];rw[if_neg aO];rw[if_neg aO];rw[if_neg aO];rw[if_neg aO];rw[if_neg aO];rw[if_neg aO];rw[if_pos hp]
   rw[e];exact Bg h hj rfl h00 h10 aO (fun W hf=>qc (h.same hf) hj hp)
  ·have e:AW M X j=EL M X j:=by unfold AW;rw[if_neg aO];rw[if_neg aO];rw[if_neg aO];rw[if_neg aO];rw[if_neg aO];rw[if_neg aO];rw[if_neg aO];rw[if_neg aO];rw[if_neg aO];rw[if_neg aO];rw[if_neg aO];rw[if_pos hp]
   rw[e];exact Bg h hj rfl h00 h10 aO (fun W hf=>qf (h.same hf) hj hp)
  ·have e:AW M X j=EO M X j:=by unfold AW;rw[if_neg aO];rw[if_neg aO];rw[if_neg aO];rw[if_neg aO];rw[if_neg aO];rw[if_neg aO];rw[if_neg aO];rw[if_neg aO];rw[if_neg aO];rw[if_neg aO];rw[if_neg aO];rw[if_neg aO];rw[if_pos hp]
   rw[e];exact FD h hj rfl h00 h10 aO (fun W hf=>qh (h.same hf) hj hp)
  ·have e:AW M X j=EP M X j:=by unfold AW;rw[if_neg aO];rw[if_neg aO];rw[if_neg aO];rw[if_neg aO];rw[if_neg aO];rw[if_neg aO];rw[if_neg aO];rw[if_neg aO];rw[if_neg aO];rw[if_neg aO];rw[if_neg aO];rw[if_neg aO];rw[if_neg aO];rw[if_pos hp]
   rw[e];exact FD h hj rfl h00 h10 aO (fun W hf=>qi (h.same hf) hj hp)
  ·have e:AW M X j=EQ M X j:=by unfold AW;rw[if_neg aO];rw[if_neg aO];rw[if_neg aO];rw[if_neg aO];rw[if_neg aO];rw[if_neg aO];rw[if_neg aO];rw[if_neg aO];rw[if_neg aO];rw[if_neg aO];rw[if_neg aO];rw[if_neg aO];rw[if_neg aO];rw[if_neg aO];rw[if_pos hp]
   rw[e];exact Aa h hj rfl h00 h10 aO (fun W hf=>qm (h.same hf) hj hp)
  ·have e:AW M X j=ET M X j:=by unfold AW;rw[if_neg aO];rw[if_neg aO];rw[if_neg aO];rw[if_neg aO];rw[if_neg aO];rw[if_neg aO];rw[if_neg aO];rw[if_neg aO];rw[if_neg aO];rw[if_neg aO];rw[if_neg aO];rw[if_neg aO];rw[if_neg aO];rw[if_neg aO];rw[if_neg aO];rw[if_pos hp]
   rw[e];exact Aa h hj rfl h00 h10 aO (fun W hf=>qs (h.same hf) hj hp)
  ·have e:AW M X j=EU M X j:=by unfold AW;rw[if_neg aO];rw[if_neg aO];rw[if_neg aO];rw[if_neg aO];rw[if_neg aO];rw[if_neg aO];rw[if_neg aO];rw[if_neg aO];rw[if_neg aO];rw[if_neg aO];rw[if_neg aO];rw[if_neg aO];rw[if_neg aO];rw[if_neg aO];rw[if_neg aO];rw[if_neg aO];rw[if_pos hp]
   rw[e];exact Aa h hj rfl h00 h10 aO (fun W hf=>qt (h.same hf) hj hp)
  ·have e:AW M X j=EV M X j:=by unfold AW;rw[if_neg aO];rw[if_neg aO];rw[if_neg aO];rw[if_neg aO];rw[if_neg aO];rw[if_neg aO];rw[if_neg aO];rw[if_neg aO];rw[if_neg aO];rw[if_neg aO];rw[if_neg aO];rw[if_neg aO];rw[if_neg aO];rw[if_neg aO];rw[if_neg aO];rw[if_neg aO];rw[if_neg aO];rw[if_pos hp]
   rw[e];exact Aa h hj rfl h00 h10 aO (fun W hf=>qu (h.same hf) hj hp)
  ·have e:AW M X j=EW M X j:=by unfold AW;rw[if_neg aO];rw[if_neg aO];rw[if_neg aO];rw[if_neg aO];rw[if_neg aO];rw[if_neg aO];rw[if_neg aO];rw[if_neg aO];rw[if_neg aO];rw[if_neg aO];rw[if_neg aO];rw[if_neg aO];rw[if_neg aO];rw[if_neg aO];rw[if_neg aO];rw[if_neg aO];rw[if_neg aO];rw[if_neg aO];rw[if_pos hp]
   rw[e];exact Aa h hj rfl h00 h10 aO (fun W hf=>qx (h.same hf) hj hp)
  ·have e:AW M X j=EZ M X j:=by unfold AW;rw[if_neg aO];rw[if_neg aO];rw[if_neg aO];rw[if_neg aO];rw[if_neg aO];rw[if_neg aO];rw[if_neg aO];rw[if_neg aO];rw[if_neg aO];rw[if_neg aO];rw[if_neg aO];rw[if_neg aO];rw[if_neg aO];rw[if_neg aO];rw[if_neg aO];rw[if_neg aO];rw[if_neg aO];rw[if_neg aO];rw[if_neg aO];rw[if_pos hp]
   rw[e];exact Aa h hj rfl h00 h10 aO (fun W hf=>r8 (h.same hf) hj hp)
  ·have e:AW M X j=Ea M X j:=by unfold AW;rw[if_neg aO];rw[if_neg aO];rw[if_neg aO];rw[if_neg aO];rw[if_neg aO];rw[if_neg aO];rw[if_neg aO];rw[if_neg aO];rw[if_neg aO];rw[if_neg aO];rw[if_neg aO];rw[if_neg aO];rw[if_neg aO];rw[if_neg aO];rw[if_neg aO];rw[if_neg aO];rw[if_neg aO];rw[if_neg aO];rw[if_neg aO];rw[if_neg aO];rw[if_pos hp]
   rw[e];exact Aa h hj rfl h00 h10 aO (fun W hf=>rA (h.same hf) hj hp)
  ·have e:AW M X j=Eb M X j:=by unfold AW;rw[if_neg aO];rw[if_neg aO];rw[if_neg aO];rw[if_neg aO];rw[if_neg aO];rw[if_neg aO];rw[if_neg aO];rw[if_neg aO];rw[if_neg aO];rw[if_neg aO];rw[if_neg aO];rw[if_neg aO];rw[if_neg aO];rw[if_neg aO];rw[if_neg aO];rw[if_neg aO];rw[if_neg aO];rw[if_neg aO];rw[if_neg aO];rw[if_neg aO];rw[if_neg aO];rw[if_pos hp]
   rw[e];exact Aa h hj rfl h00 h10 aO (fun W hf=>rC (h.same hf) hj hp)
  ·have e:AW M X j=Ec M X j:=by unfold AW;rw[if_neg aO];rw[if_neg aO];rw[if_neg aO];rw[if_neg aO];rw[if_neg aO];rw[if_neg aO];rw[if_neg aO];rw[if_neg aO];rw[if_neg aO];rw[if_neg aO];rw[if_neg aO];rw[if_neg aO];rw[if_neg aO];rw[if_neg aO];rw[if_neg aO];rw[if_neg aO];rw[if_neg aO];rw[if_neg aO];rw[if_neg aO];rw[if_neg aO];rw[if_neg aO];rw[if_neg aO];rw[if_pos hp]
   rw[e];exact Aa h hj rfl h00 h10 aO (fun W hf=>rE (h.same hf) hj hp)
  ·have e:AW M X j=Ef M X j:=by unfold AW;rw[if_neg aO];rw[if_neg aO];rw[if_neg aO];rw[if_neg aO];rw[if_neg aO];rw[if_neg aO];rw[if_neg aO];rw[if_neg aO];rw[if_neg aO];rw[if_neg aO];rw[if_neg aO];rw[if_neg aO];rw[if_neg aO];rw[if_neg aO];rw[if_neg aO];rw[if_neg aO];rw[if_neg aO];rw[if_neg aO];rw[if_neg aO];rw[if_neg aO];rw[if_neg aO];rw[if_neg aO];rw[if_neg aO];rw[if_pos hp]
   rw[e];exact Aa h hj rfl h00 h10 aO (fun W hf=>rH (h.same hf) hj hp)
  ·have e:AW M X j=Eg M X j:=by unfold AW;rw[if_neg aO];rw[if_neg aO];rw[if_neg aO];rw[if_neg aO];rw[if_neg aO];rw[if_neg aO];rw[if_neg aO];rw[if_neg aO];rw[if_neg aO];rw[if_neg aO];rw[if_neg aO];rw[if_neg aO];rw[if_neg aO];rw[if_neg aO];rw[if_neg aO];rw[if_neg aO];rw[if_neg aO];rw[if_neg aO];rw[if_neg aO];rw[if_neg aO];rw[if_neg aO];rw[if_neg aO];rw[if_neg aO];rw[if_neg aO];rw[if_pos hp]
   rw[e];exact Aa h hj rfl h00 h10 aO (fun W hf=>rK (h.same hf) hj hp)
  ·have e:AW M X j=Ei M X j:=by unfold AW;rw[if_neg aO];rw[if_neg aO];rw[if_neg aO];rw[if_neg aO];rw[if_neg aO];rw[if_neg aO];rw[if_neg aO];rw[if_neg aO];rw[if_neg aO];rw[if_neg aO];rw[if_neg aO];rw[if_neg aO];rw[if_neg aO];rw[if_neg aO];rw[if_neg aO];rw[if_neg aO];rw[if_neg aO];rw[if_neg aO];rw[if_neg aO];rw[if_neg aO];rw[if_neg aO];rw[if_neg aO];rw[if_neg aO];rw[if_neg aO];rw[if_neg aO];rw[if_pos hp]
   rw[e];exact Aa h hj rfl h00 h10 aO (fun W hf=>rN (h.same hf) hj hp)
end
section
variable{M:B6} {X:An} {j:Nat}
theorem rO {c:Bool} {a b:Int} (ha:C7 a) (hb:C7 b):C7 (Gl c a b):=by
 unfold Gl;split
 ·exact ha
 ·exact hb
theorem Iw (Q:An×Int→Prop) (h0:Q (X,X.S j 0)) (h:∀A K r,C7 r→Q (⟨A,X.S,K⟩,r)) (h':∀A K t v r,C7 r→Q (⟨A,ac X.S j t v,K⟩,r)):Q (AW M X j):=by
 unfold AW py Gz H8 H9 Ha Hd ED EF EH EI EK EL EO EP EQ ET EU EV EW EZ Ea Eb Ec Ef Eg Ei
 repeat' (refine IX Q ?_ ?_)
 all_goals first|exact h0|exact h _ _ _ (by unfold C7;omega)|exact h' _ _ _ _ _ (by unfold C7;omega)|(refine h _ _ _ ?_)|(refine h' _ _ _ _ _ ?_)
 all_goals repeat' (first|(refine rO ?_ ?_)|(unfold C7;omega)|(refine IX C7 ?_ ?_))
theorem mV (h:C7 (X.S j 0)):C7 (AW M X j).2:=Iw (fun x=>C7 x.2) h (fun _ _ _ hr=>hr) (fun _ _ _ _ _ hr=>hr)
theorem fm {i:Nat} (h:i≠j):(AW M X j).1.S i 0=X.S i 0:=
 Iw (fun x=>x.1.S i 0=X.S i 0) rfl (fun _ _ _ _=>rfl) (fun _ _ t v _ _=>by show ac X.S j t v i 0=X.S i 0;unfold ac;rw[if_neg (fun e=>h e.1)])
theorem rS {n:Nat} {S:Nat→Nat→Int} (h:∀j,j<n→C7 (S j 0)) {v:Int} (hv:C7 v) (a:Nat):∀j,j<n→C7 (ac S a 0 v j 0):=fun j hj=>by
 unfold ac;split
 ·exact hv
 ·exact h j hj
theorem a9 {n:Nat} {S:Nat→Nat→Int} (h:∀j,j<n→C7 (S j 0)) (i a:Int) {b:Int} (hb:C7 b):∀j,j<n→C7 (a8 n S i a b j 0):=by
 unfold a8;split
 ·exact rS h hb _
 ·exact h
theorem mY (h:∀j,j<M.n→C7 (X.S j 0)) (hj:j<M.n):∀i,i<M.n→C7 ((Dr M X j).S i 0):=fun i hi=>by
 unfold Dr
 split
 ·show C7 (ac (AW M X j).1.S j 0 (AW M X j).2 i 0);unfold ac;by_cases e:i=j
  ·rw[if_pos ⟨e,rfl⟩];exact mV (h j hj)
  ·rw[if_neg (fun q=>e q.1),fm e];exact h i hi
 ·exact h i hi
end
def fs (M:B6):LP where
 σ:=An
 n:=M.n
 shares:=false
 ar:=fun s=>s.A
 I:=fun _ s=>∀j,j<M.n→C7 (s.S j 0)
 askR:=fun s i _=>ah M.n s.S i 0
 askS:=fun s i _=>{s with S:=a8 M.n s.S i 0 1}
 leaveR:=fun s i=>ah M.n s.S i 10
 leaveS:=fun s i=>{s with S:=a8 M.n s.S i 10 11}
 stepR:=fun s i=>IK M s i.toNat
 stepS:=fun s i=>Dr M s i.toNat
 sp:=fun s i t=>s.S i.toNat t
 cnt:=fun s i=>if s.S i.toNat 0=10 then 1 else 0
theorem yw (M:B6):(fs M).Ok:=by
 refine LP.keep_of (fun k s hk h=>h) (fun k s j r hk h hj _=>a9 h _ _ (.inl aO)) (fun k s j hk h hj=>a9 h _ _ (.inr aO)) (fun k s j hk h hj=>?_);exact mY (X:=s) h (j:=(j:Int).toNat) hj
section
variable{w:World} {B:BH} {M:B6}
def Ix (M:B6) (B:BH):iH (fs M) where
 T:=180
 q:=.pointer (some ⟨B.lb,0,none⟩)
 Z:=Aq B
 ab:=B.ab
 wb:=B.wb
 At:=fun w s=>A1 w B M s
 nAsk:=283
 rAsk:=.pointer (some ⟨B.lb,0,none⟩)
 nLeave:=284
 rLeave:=.pointer (some ⟨B.lb,0,none⟩)
 nStep:=286
 rStep:=.pointer (some ⟨B.lb,0,none⟩)
 nSpot:=285
 rSpot:=.pointer (some ⟨B.lb,0,none⟩)
 nCount:=0
 rCount:=.nilIface
theorem fp (hn:M.n≤32):(Ix M B).Ok where
 n32:=hn
 sh:=rfl
 mAsk:=fun F w=>by kernel_rfl
 mLeave:=fun F w=>by kernel_rfl
 mStep:=fun F w=>by kernel_rfl
 mSpot:=fun F w=>by kernel_rfl
 eAsk:=fun args w=>by kernel_rfl
 eLeave:=fun args w=>by kernel_rfl
 eStep:=fun args w=>by kernel_rfl
 eSpot:=fun args w=>by kernel_rfl
 cAsk:=fun w k s i hI ha hi=>by
  obtain⟨j,rfl,hj⟩:=AQ hi;exact(wP ha hj).mono (fun e w' ⟨h1,h2,h3⟩=>⟨h1,h2,h3.mono (by simp[Ix,Aq])⟩)
 cLeave:=fun w k s i hI ha hi=>by
  obtain⟨j,rfl,hj⟩:=AQ hi;exact(mW ha hj).mono (fun e w' ⟨h1,h2,h3⟩=>⟨h1,h2,h3.mono (by simp[Ix,Aq])⟩)
 cStep:=fun w k s i hI ha hi=>by
  obtain⟨j,rfl,hj⟩:=AQ hi;exact rP ha hj (hI j hj)
 cSpot:=fun w s i ha hi=>by
  obtain⟨j,rfl,hj⟩:=AQ hi;exact Jq ha hj
 ar:=fun w s ha=>A1.ar ha
 free:=fun w s ha=>A1.free ha
 stay:=fun w w' s S ha hf hs hz=>A1.stays ha hf hs hz
end
end Go.Proofs.YteijjhahgabalaaGreat
