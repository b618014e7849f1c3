/- The contracts of package cna: aside, what it loads, counts. (Printed by gen_cna.py.) -/
import Derived.Test.YteijjhahgabalaaGreatWA33
import Derived.Test.YteijjhahgabalaaGreatWA06
import Derived.Test.YteijjhahgabalaaGreatWA42
set_option maxRecDepth 100000
set_option maxHeartbeats 8000000
set_option linter.all false
namespace Go.Proofs.YteijjhahgabalaaGreat
open Go.RowKit
open Tryz
section
variable{w w':World} {B:BH} {M:B6} {X:An}
theorem Hl:(∀{w:World} {B:BH} {M:B6} {X:An} (h:A1 w B M X) {j:Nat} (hj:j<M.n) (h0:X.S j 0=20),Calls prog 292 #[some B.lb,.pointer (some ⟨B.sb,j*4,none⟩)] w fun e w'=>e= .returned (21:Int)∧A1 w' B M {X with A:=X.A.load (AL M (X.S j 2)),S:=ac X.S j 3 (X.A.get (AL M (X.S j 2)))}∧ae [B.sb,B.ab,B.wb] w w')∧(∀{w:World} {B:BH} {M:B6} {X:An} (h:A1 w B M X) {j:Nat} (hj:j<M.n) (h0:X.S j 0=25),Calls prog 292 #[some B.lb,.pointer (some ⟨B.sb,j*4,none⟩)] w fun e w'=>e= .returned (26:Int)∧A1 w' B M {X with A:=X.A.load (AL M (X.S j 2)),S:=ac X.S j 3 (X.A.get (AL M (X.S j 2)))}∧ae [B.sb,B.ab,B.wb] w w'):=by
 refine⟨?_,?_⟩;all_goals
  intro w B M X h j hj h0
 all_goals
  obtain⟨cap,hbx⟩:=h.box;have c0:=hbx.cell (i:=0) rfl;have c4:=hbx.cell (i:=4) rfl;have j0:=h.row.cell (ag M.n X.S (t:=0) hj aO);have j1:=h.row.cell (ag M.n X.S (t:=1) hj aO);have j2:=h.row.cell (ag M.n X.S (t:=2) hj aO);have j3:=h.row.cell (ag M.n X.S (t:=3) hj aO);rw[Nat.add_zero,h0] at j0;have HN0:=aH (fun(W:World) (hf:ae [] w W)=>Jr (h.same hf) (X.S j 2));have HS:=aH (fun(W:World) (hf:ae [] w W)=>(bq (h.same hf).ar (AL M (X.S j 2))).mono (fun e w' q=>(show e=_∧A1 w' B M {X with A:=X.A.load (AL M (X.S j 2))}∧ae [B.ab,B.wb] w w' from⟨q.1,(h.same hf).arena q.2.2 q.2.1,(hf.mono aS).trans q.2.2⟩)));have HJ:=aH hj;have H0:=aH h0;clear h hbx h0 hj;go_enter func292,ntmps292;go_wp2_with fail;go_region_with(first|(go_at_call 295;refine(HN0.o _ aD).mono ?_;rintro e w1 ⟨rfl,rfl⟩)|(go_at_call 106;refine(HS.o _ aD).mono ?_;rintro e w2 ⟨rfl,hC,hF⟩;have q0:=hC.row.cell (ag M.n X.S (t:=0) HJ.o aO);have q1:=hC.row.cell (ag M.n X.S (t:=1) HJ.o aO);have q2:=hC.row.cell (ag M.n X.S (t:=2) HJ.o aO);have q3:=hC.row.cell (ag M.n X.S (t:=3) HJ.o aO);rw[Nat.add_zero,H0.o] at q0;obtain⟨cap2,hb2⟩:=hC.box;have b4:=hb2.cell (i:=4) rfl;have jz:=hC.row.frozen;clear hb2;have HC:=aH hC;have HF:=aH hF;clear hC hF))
  all_goals
   have HE:=aH (HC.o.put j (t:=3) aO (X.A.get (AL M (X.S j 2))));have q9:=HE.o.row.cell (ag M.n (ac X.S j 3 (X.A.get (AL M (X.S j 2)))) (t:=0) HJ.o aO);rw[Nat.add_zero,show ac X.S j 3 (X.A.get (AL M (X.S j 2))) j 0=X.S j 0 from by simp[ac],H0.o] at q9;have HG:=aH ((HF.o.mono (S':=[B.sb,B.ab,B.wb]) aS).set ⟨B.sb,j*4+3,none⟩ (.int .i64 (X.A.get (AL M (X.S j 2)))) (.inl aS));go_wp2;go_ret;exact⟨rfl,HE.o,HG.o⟩
def cI:= @And.left _ _ Hl
def cd:= @And.right _ _ Hl
theorem Hn:(∀{w:World} {B:BH} {M:B6} {X:An} (h:A1 w B M X) {j:Nat} (hj:j<M.n) (h0:X.S j 0=27),Calls prog 292 #[some B.lb,.pointer (some ⟨B.sb,j*4,none⟩)] w fun e w'=>e= .returned (28:Int)∧A1 w' B M {X with A:=X.A.store (an M) 0}∧ae [B.ab,B.wb] w w')∧(∀{w:World} {B:BH} {M:B6} {X:An} (h:A1 w B M X) {j:Nat} (hj:j<M.n) (h0:X.S j 0=29),Calls prog 292 #[some B.lb,.pointer (some ⟨B.sb,j*4,none⟩)] w fun e w'=>e= .returned (30:Int)∧A1 w' B M {X with A:=X.A.store (an M) 0}∧ae [B.ab,B.wb] w w'):=by
 refine⟨?_,?_⟩;all_goals
  intro w B M X h j hj h0
 all_goals
  obtain⟨cap,hbx⟩:=h.box;have c0:=hbx.cell (i:=0) rfl;have c4:=hbx.cell (i:=4) rfl;have j0:=h.row.cell (ag M.n X.S (t:=0) hj aO);have j1:=h.row.cell (ag M.n X.S (t:=1) hj aO);have j2:=h.row.cell (ag M.n X.S (t:=2) hj aO);have j3:=h.row.cell (ag M.n X.S (t:=3) hj aO);rw[Nat.add_zero,h0] at j0;have HN0:=aH (fun(W:World) (hf:ae [] w W)=>Dt (h.same hf));have HS:=aH (fun(W:World) (hf:ae [] w W)=>(au (h.same hf).ar (an M) 0).mono (fun e w' q=>(show e=_∧A1 w' B M {X with A:=X.A.store (an M) 0}∧ae [B.ab,B.wb] w w' from⟨q.1,(h.same hf).arena q.2.2 q.2.1,(hf.mono aS).trans q.2.2⟩)));have HJ:=aH hj;have H0:=aH h0;clear h hbx h0 hj;go_enter func292,ntmps292;go_wp2_with fail;go_region_with(first|(go_at_call 296;refine(HN0.o _ aD).mono ?_;rintro e w1 ⟨rfl,rfl⟩)|(go_at_call 63;refine(HS.o _ aD).mono ?_;rintro e w2 ⟨rfl,hC,hF⟩;have q0:=hC.row.cell (ag M.n X.S (t:=0) HJ.o aO);have q1:=hC.row.cell (ag M.n X.S (t:=1) HJ.o aO);have q2:=hC.row.cell (ag M.n X.S (t:=2) HJ.o aO);have q3:=hC.row.cell (ag M.n X.S (t:=3) HJ.o aO);rw[Nat.add_zero,H0.o] at q0;obtain⟨cap2,hb2⟩:=hC.box;have b4:=hb2.cell (i:=4) rfl;have jz:=hC.row.frozen;clear hb2;have HC:=aH hC;have HF:=aH hF;clear hC hF))
  all_goals
   go_wp2;go_ret;exact⟨rfl,HC.o,HF.o⟩
def cf:= @And.left _ _ Hn
def cy:= @And.right _ _ Hn
theorem cS (h:A1 w B M X) {j:Nat} (hj:j<M.n) (h0:X.S j 0=23):Calls prog 292 #[some B.lb,.pointer (some ⟨B.sb,j*4,none⟩)] w fun e w'=>e= .returned (24:Int)∧A1 w' B M {X with A:=X.A.add (an M) 1}∧ae [B.ab,B.wb] w w':=by
 obtain⟨cap,hbx⟩:=h.box;have c0:=hbx.cell (i:=0) rfl;have c4:=hbx.cell (i:=4) rfl;have j0:=h.row.cell (ag M.n X.S (t:=0) hj aO);have j1:=h.row.cell (ag M.n X.S (t:=1) hj aO);have j2:=h.row.cell (ag M.n X.S (t:=2) hj aO);have j3:=h.row.cell (ag M.n X.S (t:=3) hj aO);rw[Nat.add_zero,h0] at j0;have HN0:=aH (fun(W:World) (hf:ae [] w W)=>Dt (h.same hf));have HS:=aH (fun(W:World) (hf:ae [] w W)=>(iB (h.same hf).ar (an M) 1).mono (fun e w' q=>(show e=_∧A1 w' B M {X with A:=X.A.add (an M) 1}∧ae [B.ab,B.wb] w w' from⟨q.1,(h.same hf).arena q.2.2 q.2.1,(hf.mono aS).trans q.2.2⟩)));have HJ:=aH hj;have H0:=aH h0;clear h hbx h0 hj;go_enter func292,ntmps292;go_wp2_with fail;go_region_with(first|(go_at_call 296;refine(HN0.o _ aD).mono ?_;rintro e w1 ⟨rfl,rfl⟩)|(go_at_call 179;refine(HS.o _ aD).mono ?_;rintro e w2 ⟨rfl,hC,hF⟩;have q0:=hC.row.cell (ag M.n X.S (t:=0) HJ.o aO);have q1:=hC.row.cell (ag M.n X.S (t:=1) HJ.o aO);have q2:=hC.row.cell (ag M.n X.S (t:=2) HJ.o aO);have q3:=hC.row.cell (ag M.n X.S (t:=3) HJ.o aO);rw[Nat.add_zero,H0.o] at q0;obtain⟨cap2,hb2⟩:=hC.box;have b4:=hb2.cell (i:=4) rfl;have jz:=hC.row.frozen;clear hb2;have HC:=aH hC;have HF:=aH hF;clear hC hF))
 all_goals
  go_wp2;go_ret;exact⟨rfl,HC.o,HF.o⟩
end
def IU (S:Nat→Nat→Int) (j:Nat):Nat→Nat→Int:=ac (ac (ac (ac S j 0 1) j 1 0) j 2 0) j 3 0
def CJ (M:BN) (R:Nat→Nat→Nat→Int) (j l:Nat):Nat→Nat→Nat→Int:=C1 R (M.pl j l) (a8 (M.sz (M.pl j l)) (R (M.pl j l)) (M.sl j l) 0 1)
def Aw (M:BN) (R:Nat→Nat→Nat→Int) (j l:Nat) (tt v:Int):Nat→Nat→Nat→Int:=C1 R (M.pl j l) (D5 (M.sz (M.pl j l)) (R (M.pl j l)) (M.sl j l) tt v)
abbrev Dd (B:FR) (M:BN) (f:FuncId) (args:Array Value) (w:World) (v:Value) (X:Be):Prop:=Calls prog f args w fun e w'=>e= .returned v∧AG w' B M X∧ae (JT B M) w w'
section
variable{w w':World} {B:FR} {M:BN} {X:Be} {j l:Nat}
theorem bC (h:AG w B M X) (hj:j<M.n) (hl:l<M.d j):∃r,Dd B M 239 #[some (B.rl (M.pl j l)),(M.sl j l:Int)] w r {X with R:=CJ M X.R j l}:=by
 have hv:=h.ok.pl j l hj hl;exact⟨_,(xk (h.rg _ hv) (h.ok.sl j l hj hl)).mono (fun e w' ⟨q1,q2,q3⟩=>⟨q1,h.rung hv (q3.mono (by simp[FR.rg])) q2,q3.mono (fun z hz=>Il hv z (by simp[FR.rg] at hz;simp[hz]))⟩)⟩
theorem I2 (h:AG w B M X) (hj:j<M.n) (hl:l<M.d j) (v:Int):∃r,Dd B M 247 #[some (B.rl (M.pl j l)),(M.sl j l:Int),v] w r {X with R:=Aw M X.R j l 11 v}:=by
 have hv:=h.ok.pl j l hj hl;exact⟨_,(pI (h.rg _ hv) (h.ok.sl j l hj hl) v).mono (fun e w' ⟨q1,q2,q3⟩=>⟨q1,h.rung hv (q3.mono (by simp[FR.rg])) q2,q3.mono (fun z hz=>Il hv z (by simp[FR.rg] at hz;simp[hz]))⟩)⟩
theorem iX (h:AG w B M X) (hj:j<M.n) (hl:l<M.d j) (v:Int):∃r,Dd B M 248 #[some (B.rl (M.pl j l)),(M.sl j l:Int),v] w r {X with R:=Aw M X.R j l 15 v}:=by
 have hv:=h.ok.pl j l hj hl;exact⟨_,(uR (h.rg _ hv) (h.ok.sl j l hj hl) v).mono (fun e w' ⟨q1,q2,q3⟩=>⟨q1,h.rung hv (q3.mono (by simp[FR.rg])) q2,q3.mono (fun z hz=>Il hv z (by simp[FR.rg] at hz;simp[hz]))⟩)⟩
def As (M:BN) (X:Be) (j l t:Nat):Int:=X.R (M.pl j l) (M.sl j l) t
theorem Cr (h:AG w B M X) (hj:j<M.n) (hl:l<M.d j):Calls prog 240 #[some (B.rl (M.pl j l)),(M.sl j l:Int)] w fun e w'=>e= .returned (.agg #[(As M X j l 0:Int),(As M X j l 1:Int),(As M X j l 2:Int),(As M X j l 3:Int)])∧ae [] w w':=
 Jz (h.rg _ (h.ok.pl j l hj hl)) (h.ok.sl j l hj hl)
def BL (M:BN) (X:Be) (j l:Nat):Bool:=Fe (M.rg (M.pl j l)) (X.rg (M.pl j l)) (M.sl j l)
def AD (M:BN) (X:Be) (j l:Nat):Be:={X with A:=(D7 (M.rg (M.pl j l)) (X.rg (M.pl j l)) (M.sl j l)).A,R:=C1 X.R (M.pl j l) (D7 (M.rg (M.pl j l)) (X.rg (M.pl j l)) (M.sl j l)).S}
theorem ij (h:AG w B M X) (hj:j<M.n) (hl:l<M.d j) (hp:FV (As M X j l 0)):Dd B M 242 #[some (B.rl (M.pl j l)),(M.sl j l:Int)] w (.bool (BL M X j l)) (AD M X j l):=by
 have hv:=h.ok.pl j l hj hl;exact(uT (h.rg _ hv) (h.ok.sl j l hj hl) hp).mono (fun e w' ⟨q1,q2,q3⟩=>⟨q1,h.rung hv q3 q2,q3.mono (fun z hz=>Il hv z hz)⟩)
theorem uj (a b c d:Int) (W:World):(Instr.field 138 (.agg #[a,b,c,d]) 2).run prog W= .ok (.int .i64 c) W:=by kernel_rfl
theorem sH (h:AG w B M X) (hj:j<M.n) (h0:X.S j 0≠0):Dd B M 233 #[some B.lb,j] w (.bool false) X:=by
 unfold Dd;have HT:=aH (Es h);have c3:=h.c3;obtain⟨j0,j1,j2,j3⟩:=h.sp hj;have hn:=h.n32;obtain⟨d1,d2,d3⟩:=aI (j:=j) (n:=M.n);have l1:(j:Int)<M.n:=by omega
 have e3:(X.S j 0 !=0)=true:=by simpa using h0
 have H:=aH h;generalize X.S j 0=a0 at*;clear h h0;go_enter func233,ntmps233;go_wp2_with fail;refine HT.o.mono ?_;rintro e w' ⟨rfl,rfl⟩;go_wp2;go_ret;exact⟨rfl,H.o,aF⟩
theorem sI (h:AG w B M X) (hj:j<M.n) (h0:X.S j 0=0):Dd B M 233 #[some B.lb,j] w (.bool true) {X with R:=CJ M X.R j 0,S:=IU X.S j}:=by
 unfold Dd;have HT:=aH (Es h);have c3:=h.c3;obtain⟨j0,j1,j2,j3⟩:=h.sp hj;rw[h0] at j0;have hn:=h.n32;obtain⟨d1,d2,d3⟩:=aI (j:=j) (n:=M.n);have l1:(j:Int)<M.n:=by omega
 have hd:=(h.ok.d1 j hj).1;obtain⟨cap,cap',k2,kv,kr,ks⟩:=h.way hj (l:=0) hd;rw[Nat.zero_mul] at kr;rw[Nat.zero_mul,Nat.zero_add] at ks;have m1:decide (M.d j≤0)=false:=aB;have m2:decide ((M.d j:Int)≤0)=false:=aB;have m3:(0:Int)<M.d j:=by omega
 have m4:0<M.d j:=hd;have hal:ae [] w (w.alloc (.cells #[some (B.rl (M.pl j 0)),(M.sl j 0:Int)] 215)):=aF.alloc _;have h2:=h.same hal;obtain⟨r,hA⟩:=bC h2 hj hd;have HA:=aH hA;have HAL:=aH hal;have HJ:=aH hj;clear h h0 h2 hA hal;go_enter func233,ntmps233;go_wp2_with fail;refine HT.o.mono ?_;rintro e w' ⟨rfl,rfl⟩;go_wp2_with fail;refine HA.o.mono ?_;rintro e w1 ⟨rfl,hX,hF⟩;have c3:=hX.c3;obtain⟨j0,j1,j2,j3⟩:=hX.sp HJ.o;have jz:=hX.row.frozen;have HX:=aH hX;have HF:=aH ((HAL.o.mono aS).trans hF);clear hX hF;go_wp2;go_ret;exact⟨rfl,((HX.o.put0 j 1).put j (t:=1) aO 0 |>.put j (t:=2) aO 0).put j (t:=3) aO 0,(((HF.o.trans (AG.frm0 M)).trans (AG.frm0 M)).trans (AG.frm0 M)).trans (AG.frm0 M)⟩
theorem AG.loc (h:AG w B M X) {bx:Nat} {vs:List Value} (hb:am w bx vs 215) (hlt:∀t,t<M.n→B.lv t<bx) (hf:ae [bx] w w'):AG w' B M X:=by
 have q:∀{b:Nat} {us:List Value} {U:TypeId},am w b us U→U≠215→b∉[bx]:=fun h1 hu hm=>h1.differ hb hu (by simpa using hm);obtain⟨vr,cap,h1⟩:=h.box;obtain⟨cells,h2,h3⟩:=h.lvs;have hA:=h.ar.frm hf (q h.ar.box aJ) (q h.ar.row aJ);exact{
  box:=⟨vr,cap,h1.frm hf (q h1 aJ)⟩,lvs:=⟨cells,h2.frm hf (q h2 aJ),h3⟩,lev:=fun t ht=>by
   obtain⟨cs,q1,q2⟩:=h.lev t ht;exact⟨cs,q1.frm hf (by have:=hlt t ht;simp;omega),q2⟩,rg:=fun v hv=>{box:=(h.rg v hv).box.frm hf (q (h.rg v hv).box aJ),row:=(h.rg v hv).row.frm hf (q (h.rg v hv).row aJ),ar:=hA,n32:=(h.rg v hv).n32,tl:=(h.rg v hv).tl},row:=h.row.frm hf (q h.row aJ),ar:=hA,dif:=h.dif,ok:=h.ok}
theorem AG.sp3 (h:AG w B M X) (hj:j<M.n) {v:Int} (e:X.S j 3=v):w.cell? (B.sb,j*4+3)=some (.int .i64 v):=by rw[←e];exact(h.sp hj).2.2.2
theorem AG.lvlt (h:AG w B M X):∀t,t<M.n→B.lv t<w.heap.size:=fun t ht=>by obtain⟨_,q,_⟩:=h.lev t ht;exact q.lt
theorem nS (h:AG w B M X) (hj:j<M.n):Calls prog 234 #[some B.lb,j] w fun e w'=>e= .returned (.int .i64 (if X.S j 0=10 then As M X j 0 1 else 0))∧ae [] w w':=by
 have hS:=GL h hj;have fd:=bY;have fa:=sX;have H:=aH h;have HJ:=aH hj;have hd:=(h.ok.d1 j hj).1;have HL:=aH hd;have hn:=h.n32;obtain⟨d1,d2,d3⟩:=aI (j:=j) (n:=M.n);have l1:(j:Int)<M.n:=by omega
 have m1:decide (M.d j≤0)=false:=aB;have m2:decide ((M.d j:Int)≤0)=false:=aB;have m3:(0:Int)<M.d j:=by omega
 have m4:0<M.d j:=hd;by_cases h0:X.S j 0=10
 ·rw[if_pos h0];rw[h0] at hS;have HS:=aH hS;clear h hS h0 hj;go_enter func234,ntmps234;go_wp2_with fail;refine HS.o.mono ?_;rintro e w1 ⟨rfl,hF1⟩;have hX:=H.o.same hF1;obtain⟨cap,cap',k2,kv,kr,ks⟩:=hX.way HJ.o (l:=0) HL.o;rw[Nat.zero_mul] at kr;rw[Nat.zero_mul,Nat.zero_add] at ks;have hal:ae [] w1 (w1.alloc (.cells #[some (B.rl (M.pl j 0)),(M.sl j 0:Int)] 215)):=aF.alloc _;have HC:=aH (Cr (hX.same hal) HJ.o HL.o);have HF:=aH (hF1.trans hal);generalize As M X j 0 0=q0 at*;generalize As M X j 0 2=q2 at*;generalize As M X j 0 3=q3 at*;clear hX hF1 hal;go_wp2_with fail;refine HC.o.mono ?_;rintro e w2 ⟨rfl,hF⟩;have HF2:=aH (HF.o.trans hF);clear hF;go_wp2;go_ret;exact⟨rfl,HF2.o⟩
 ·rw[if_neg h0];have e3:(X.S j 0 !=10)=true:=by simpa using h0
  have HS:=aH hS;generalize X.S j 0=a0 at*;clear h hS h0 hj;go_enter func234,ntmps234;go_wp2_with fail;refine HS.o.mono ?_;rintro e w1 ⟨rfl,hF1⟩;have HF:=aH hF1;clear hF1;go_wp2;go_ret;exact⟨rfl,HF.o⟩
theorem IS:(∀{w:World} {B:FR} {M:BN} {X:Be} {j:Nat} (h:AG w B M X) (hj:j<M.n) {c:Nat} (hc:X.S j 3=(c:Nat)) (hl:c<M.d j) (hb:As M X j c 2=0),Dd B M 243 #[some B.lb,j] w (.tuple #[]) {X with S:=ac X.S j 0 10})∧(∀{w:World} {B:FR} {M:BN} {X:Be} {j:Nat} (h:AG w B M X) (hj:j<M.n) {c:Nat} (hc:X.S j 3=(c:Nat)) (hl:c<M.d j) (hb:As M X j c 2≠0) (ht:c+1=M.d j),Dd B M 243 #[some B.lb,j] w (.tuple #[]) {X with S:=ac X.S j 0 10})∧(∀{w:World} {B:FR} {M:BN} {X:Be} {j:Nat} (h:AG w B M X) (hj:j<M.n) {c:Nat} (hc:X.S j 3=(c:Nat)) (hl:c<M.d j) (hb:As M X j c 2≠0) (ht:c+1<M.d j),Dd B M 243 #[some B.lb,j] w (.tuple #[]) {X with R:=CJ M X.R j (c+1),S:=ac X.S j 3 ((c:Int)+1)}):=by
 refine⟨?_,?_,?_⟩;intro w B M X j h hj c hc hl hb;rotate_left;iterate 2
  intro w B M X j h hj c hc hl hb ht;rotate_left
 all_goals
  unfold Dd;have fb:=uj;have c3:=h.c3;have HJ:=aH hj;have HL:=aH hl;have HCC:=aH hc;have H:=aH h;obtain⟨cap,cap',k2,kv,kr,ks⟩:=h.way HJ.o (l:=c) HL.o;have hn:=h.n32;obtain⟨d1,d2,d3⟩:=aI (j:=j) (n:=M.n);have l1:(j:Int)<M.n:=by omega
  have m1:decide (M.d j≤c)=false:=aB;have m2:decide ((M.d j:Int)≤((c:Nat):Int))=false:=aB;have m3:((c:Nat):Int)<M.d j:=by omega
  have m5:decide (((c:Nat):Int)<0)=false:=aB;have hd40:=(h.ok.d1 j hj).2
 have e1:(As M X j c 2==0)=true:=by simpa using hb
 rotate_left;have e1:(As M X j c 2==0)=false:=by simpa using hb
 have e2:((c:Int)==(M.d j:Int) - 1)=true:=by simp;omega
 rotate_left;have e1:(As M X j c 2==0)=false:=by simpa using hb
 have e2:((c:Int)==(M.d j:Int) - 1)=false:=by simp;omega
 have HL1:=aH ht;have m1n:decide (M.d j≤(c+1))=false:=aB;have m2n:decide ((M.d j:Int)≤(((c+1):Nat):Int))=false:=aB;have m3n:(((c+1):Nat):Int)<M.d j:=by omega
 have m5n:decide ((((c+1):Nat):Int)<0)=false:=aB;rotate_left;all_goals
  generalize hb2:As M X j c 2=b2 at*;have HB2:=aH hb2
 clear h hj hl hc hb2 hb;rotate_left;iterate 2
  clear h hj hl hc hb2 hb ht;rotate_left
 all_goals
  go_enter func243,ntmps243;go_wp2_with fail
  go_quiet (fail)
  have hX0:=H.o.same ((ae.refl [] w).drew nq);have F0:=aH ((ae.refl (JT B M) w).drew nq);generalize w.drewN nq=w0 at*;clear k2 kv kr ks c3;obtain⟨cap,cap',k2,kv,kr,ks⟩:=hX0.way HJ.o (l:=c) HL.o;obtain⟨j0,j1,j2,j3⟩:=hX0.sp HJ.o;rw[HCC.o] at j3;have hlv:=hX0.lvlt;have hB:=am.new w0 #[some (B.rl (M.pl j c)),(M.sl j c:Int)] 215;have hal:ae [] w0 (w0.alloc (.cells #[some (B.rl (M.pl j c)),(M.sl j c:Int)] 215)):=aF.alloc _;have h2:=hX0.same hal;have hSP:=Cr h2 HJ.o HL.o;rw[HB2.o] at hSP;have HSP:=aH hSP;have HX2:=aH h2;have HB:=aH hB;have HLV:=aH hlv;have F2:=aH (F0.o.trans (hal.mono aS));clear hX0 hB hal h2 hSP hlv;go_wp2_with fail;refine HSP.o.mono ?_;rintro e w1 ⟨rfl,hF⟩;have hX:=HX2.o.same hF;have hB1:=HB.o.frm hF aS;obtain⟨j0,j1,j2,j3⟩:=hX.sp HJ.o;rw[HCC.o] at j3;have jz:=hX.row.frozen;have HX:=aH hX;have HB1:=aH hB1;have F1:=aH (F2.o.trans (hF.mono aS))
 iterate 2
  clear hX hF hB1;rotate_left
 focus
  have hX3:=hX.put j (t:=3) aO ((c:Int)+1);have hB3:am (w1.setCell (B.sb,j*4+3) (.int .i64 ((c:Int)+1))) w0.heap.size [some (B.rl (M.pl j c)),(M.sl j c:Int)] 215:=hB1.frm (S:=[B.sb]) aU (by have:=hB1.differ hX.row aJ;simp;omega);obtain⟨cap1,cap'1,k21,kv1,kr1,ks1⟩:=hX3.way HJ.o (l:=(c+1)) HL1.o;have kv9:=hB3.frozen;have b0:=hB3.cell (i:=0) rfl;have b1:=hB3.cell (i:=1) rfl;have hX5:AG (((w1.setCell (B.sb,j*4+3) (.int .i64 ((c:Int)+1))).setCell (w0.heap.size,0) (.pointer (some ⟨B.rl (M.pl j (c+1)),0,none⟩))).setCell (w0.heap.size,1) (.int .i64 (M.sl j (c+1)))) B M {X with S:=ac X.S j 3 ((c:Int)+1)}:=hX3.loc hB3 HLV.o (aU.set _ _ (.inl aS));obtain⟨r,hAS⟩:=bC hX5 HJ.o HL1.o;have hF5:ae (JT B M) w (((w1.setCell (B.sb,j*4+3) (.int .i64 ((c:Int)+1))).setCell (w0.heap.size,0) (.pointer (some ⟨B.rl (M.pl j (c+1)),0,none⟩))).setCell (w0.heap.size,1) (.int .i64 (M.sl j (c+1)))):=((F1.o.trans (AG.frm0 M)).set _ _ (.inr (by have:=F0.o.size;show w.heap.size≤w0.heap.size;omega))).set _ _ (.inr (by have:=F0.o.size;show w.heap.size≤w0.heap.size;omega));have HAS:=aH hAS;have F5:=aH hF5;clear hX hF hB1 hX3 hB3 hX5 hAS hF5;go_wp2_with fail;refine HAS.o.mono ?_;rintro e w6 ⟨rfl,hX,hF⟩;have H6:=aH (And.intro hX (F5.o.trans hF));clear hX hF
 rotate_left;all_goals
  go_wp2
 iterate 2
  exact bodyPost_ret (results_none rfl _ _ _) rfl ⟨rfl,HX.o.put0 j 10,F1.o.trans (AG.frm0 M)⟩
 ·go_end0;exact⟨rfl,H6.o⟩
def iC:= @And.left _ _ IS
def iD:= @And.left _ _ (@And.right _ _ IS)
def nR:= @And.right _ _ (@And.right _ _ IS)
end
end Go.Proofs.YteijjhahgabalaaGreat
