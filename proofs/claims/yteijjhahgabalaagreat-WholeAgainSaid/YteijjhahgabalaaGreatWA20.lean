/- The contracts of package mcs, step by step. (Printed by gen_mcs.py.) -/
import Derived.Test.YteijjhahgabalaaGreatWA13
import Derived.Test.YteijjhahgabalaaGreatWA06
import Derived.Test.YteijjhahgabalaaGreatWA08
set_option maxRecDepth 100000
set_option maxHeartbeats 8000000
set_option linter.all false
namespace Go.Proofs.YteijjhahgabalaaGreat
open Go.RowKit
open Tryz
structure bD (w:World) (lb sb ab wb tail n:Nat) (A:AR) (S:Nat→Nat→Int):Prop where
 box:am w lb [some ab,tail,.slice (some ⟨sb,0,none⟩) n n] 153
 row:am w sb (cq n S) 138
 ar:aj w ab wb A
 ne:lb≠sb∧lb≠ab∧lb≠wb∧sb≠ab∧sb≠wb
 n1:1≤n
 n32:n≤32
 tb:tail≤4096
section
variable{w w':World} {lb sb ab wb tail n:Nat} {A A':AR} {S:Nat→Nat→Int}
theorem bD.frm (h:bD w lb sb ab wb tail n A S) {Z:List Nat} (hf:ae Z w w') (hz:∀k∈[lb,sb,ab,wb],k∉Z):bD w' lb sb ab wb tail n A S:=
 {h with box:=h.box.frm hf (hz _ aS),row:=h.row.frm hf (hz _ aS),ar:=h.ar.frm hf (hz _ aS) (hz _ aS)}
theorem bD.ar_ (h:bD w lb sb ab wb tail n A S) (hf:ae [ab,wb] w w') (hA:aj w' ab wb A'):bD w' lb sb ab wb tail n A' S:=
 {h with box:=h.box.frm hf (by simp;have:=h.ne;omega),row:=h.row.frm hf (by simp;have:=h.ne;omega),ar:=hA}
theorem bD.put (h:bD w lb sb ab wb tail n A S) (j:Nat) {t:Nat} (ht:t<4) (v:Int):
 bD (w.setCell (sb,j*4+t) (.int .i64 v)) lb sb ab wb tail n A (ac S j t v):=by
 have hr:=h.row.set (j*4+t) (.int .i64 v);rw[dP n S ht v] at hr;have hf:ae [sb] w (w.setCell (sb,j*4+t) (.int .i64 v)):=aU;have hn:=h.ne;exact{h with box:=h.box.frm hf aQ,row:=hr,ar:=h.ar.frm hf aQ aQ}
theorem bD.p (h:bD w lb sb ab wb tail n A S) {j:Nat} (hj:j<n) {t:Nat} (ht:t<4):w.cell? (sb,j*4+t)=some (.int .i64 (S j t)):=h.row.cell (ag n S hj ht)
theorem bD.p0 (h:bD w lb sb ab wb tail n A S) {j:Nat} (hj:j<n):w.cell? (sb,j*4)=some (.int .i64 (S j 0)):=h.row.cell (ag n S (t:=0) hj aO)
def cA (tail:Nat) (y:Int):Int:=wrap64 (wrap64 ((tail:Int)+wrap64 (2*y)) - 1)
def eq (tail:Nat) (y:Int):Int:=wrap64 ((tail:Int)+wrap64 (2*y))
theorem fH (h:bD w lb sb ab wb tail n A S) (y:Int):Calls prog 205 #[some lb,y] w fun e w'=>e= .returned (cA tail y:Int)∧w=w':=by
 have c1:=h.box.cell (i:=1) rfl;have htb:=h.tb;clear h;unfold cA;go_enter func205,ntmps205;go_wp2;go_ret;exact⟨rfl,rfl⟩
theorem g6 (h:bD w lb sb ab wb tail n A S) (y:Int):Calls prog 206 #[some lb,y] w fun e w'=>e= .returned (eq tail y:Int)∧w=w':=by
 have c1:=h.box.cell (i:=1) rfl;have htb:=h.tb;clear h;unfold eq;go_enter func206,ntmps206;go_wp2;go_ret;exact⟨rfl,rfl⟩
theorem zi:(∀{w:World} {lb sb ab wb tail n:Nat} {A:AR} {S:Nat→Nat→Int} (h:bD w lb sb ab wb tail n A S) {j:Nat} (hj:j<n) (h0:S j 0=1),Calls prog 203 #[some lb,.pointer (some ⟨sb,j*4,none⟩),((j:Int)+1:Int)] w fun e w'=>e= .returned (2:Int)∧bD w' lb sb ab wb tail n (A.store (cA tail ((j:Int)+1)) 0) (S)∧ae [sb,ab,wb] w w')∧(∀{w:World} {lb sb ab wb tail n:Nat} {A:AR} {S:Nat→Nat→Int} (h:bD w lb sb ab wb tail n A S) {j:Nat} (hj:j<n) (h0:S j 0=2),Calls prog 203 #[some lb,.pointer (some ⟨sb,j*4,none⟩),((j:Int)+1:Int)] w fun e w'=>e= .returned (3:Int)∧bD w' lb sb ab wb tail n (A.store (eq tail ((j:Int)+1)) 1) (S)∧ae [sb,ab,wb] w w'):=by
 refine⟨?_,?_⟩;all_goals
  intro w lb sb ab wb tail n A S h j hj h0
 all_goals
  have HN:=aH h.ne;have HJ:=aH hj;have hn32:=h.n32;have htb:=h.tb
 have c0:w.cell? (sb,j*4)=some (.int .i64 1):=by rw[←h0];exact h.p0 hj
 rotate_left;have c0:w.cell? (sb,j*4)=some (.int .i64 2):=by rw[←h0];exact h.p0 hj
 rotate_left;all_goals
  have c1:=h.p hj (t:=1) aO;have c2:=h.p hj (t:=2) aO;have c3:=h.p hj (t:=3) aO;have l0:=h.box.cell (i:=0) rfl;have l1:=h.box.cell (i:=1) rfl;have H:=aH h;have H0:=aH h0;have HNX:=aH (fun(W:World) (hf:ae [] w W) (y:Int)=>fH (h.frm hf aS) y);have HWT:=aH (fun(W:World) (hf:ae [] w W) (y:Int)=>g6 (h.frm hf aS) y);have hne:=aW [ab,wb] w;have hz0:∀q:HW (fun wx=>ae [ab,wb] w wx),q.w.cell? (lb,0)=some (.pointer (some ⟨ab,0,none⟩)):=fun q=>(h.box.frm q.h aV).cell (i:=0) rfl;have hz1:∀q:HW (fun wx=>ae [ab,wb] w wx),q.w.cell? (lb,1)=some (.int .i64 tail):=fun q=>(h.box.frm q.h aV).cell (i:=1) rfl;have hy1:∀q:HW (fun wx=>ae [ab,wb] w wx),q.w.cell? (sb,j*4+1)=some (.int .i64 (S j 1)):=fun q=>(h.row.frm q.h aV).cell (ag n S hj aO);have hy2:∀q:HW (fun wx=>ae [ab,wb] w wx),q.w.cell? (sb,j*4+2)=some (.int .i64 (S j 2)):=fun q=>(h.row.frm q.h aV).cell (ag n S hj aO);have hy3:∀q:HW (fun wx=>ae [ab,wb] w wx),q.w.cell? (sb,j*4+3)=some (.int .i64 (S j 3)):=fun q=>(h.row.frm q.h aV).cell (ag n S hj aO);clear h h0 hj;go_enter func203,ntmps203;go_wp2_with fail;refine aG (fun wx=>ae [ab,wb] w wx) ?_;refine aR (fuel:=2) [0,1,2,3,4,5] rfl aF.drew1 ?_;intro K hK;repeat (go_big_quiet_step (fail))
  refine wpQuiet_nil (hK _ ?_);clear hK K;refine aL 6 (fuel:=1) rfl ?_;go_wp2_with fail
 refine(HNX.o _ (aF.drew1) _).mono ?_;rintro e w' ⟨rfl,rfl⟩;rotate_left;refine(HWT.o _ (aF.drew1) _).mono ?_;rintro e w' ⟨rfl,rfl⟩;rotate_left;all_goals
  go_wp2_with fail;refine af ⟨aF.drew1,?_⟩;refine aL 7 (fuel:=0) rfl ?_;go_wp2_with fail
 refine(au (H.o.ar.frm (S:=[]) (aF.drew1) aS aS) (cA tail ((j:Int)+1)) (0)).mono ?_;rintro e w1 ⟨rfl,hA,hF⟩;have HF1:=aH (((ae.refl [ab,wb] w).drew1).trans hF);have H1:=aH (H.o.ar_ HF1.o hA);have j1:=H1.o.p HJ.o (t:=1) aO;have j2:=H1.o.p HJ.o (t:=2) aO;have j3:=H1.o.p HJ.o (t:=3) aO;have jz:=H1.o.row.frozen;clear hA hF;rotate_left;refine(au (H.o.ar.frm (S:=[]) (aF.drew1) aS aS) (eq tail ((j:Int)+1)) (1)).mono ?_;rintro e w1 ⟨rfl,hA,hF⟩;have HF1:=aH (((ae.refl [ab,wb] w).drew1).trans hF);have H1:=aH (H.o.ar_ HF1.o hA);have j1:=H1.o.p HJ.o (t:=1) aO;have j2:=H1.o.p HJ.o (t:=2) aO;have j3:=H1.o.p HJ.o (t:=3) aO;have jz:=H1.o.row.frozen;clear hA hF;rotate_left;all_goals
  go_wp2_with fail;refine af ⟨HF1.o,?_⟩;refine aN ?_;clear hne hz0 hz1 hy1 hy2 hy3;have HB:=aH H1.o;have HF2:=aH (HF1.o.mono (S':=[sb,ab,wb]) aS)
 have k0:w1.cell? (sb,j*4)=some (.int .i64 1):=by rw[←H0.o];exact HB.o.p0 HJ.o
 rotate_left;have k0:w1.cell? (sb,j*4)=some (.int .i64 2):=by rw[←H0.o];exact HB.o.p0 HJ.o
 rotate_left;all_goals
  have k1:=HB.o.p HJ.o (t:=1) aO;clear H1 HF1 j1 j2 j3 jz;go_wp2;go_ret;exact⟨rfl,HB.o,HF2.o⟩
def Is:= @And.left _ _ zi
def Jc:= @And.right _ _ zi
theorem AE:(∀{w:World} {lb sb ab wb tail n:Nat} {A:AR} {S:Nat→Nat→Int} (h:bD w lb sb ab wb tail n A S) {j:Nat} (hj:j<n) (h0:S j 0=3) (hg:A.get tail=0),Calls prog 203 #[some lb,.pointer (some ⟨sb,j*4,none⟩),((j:Int)+1:Int)] w fun e w'=>e= .returned (10:Int)∧bD w' lb sb ab wb tail n (A.swap tail ((j:Int)+1)) (ac S j 1 (A.get tail))∧ae [sb,ab,wb] w w')∧(∀{w:World} {lb sb ab wb tail n:Nat} {A:AR} {S:Nat→Nat→Int} (h:bD w lb sb ab wb tail n A S) {j:Nat} (hj:j<n) (h0:S j 0=3) (hg:¬A.get tail=0),Calls prog 203 #[some lb,.pointer (some ⟨sb,j*4,none⟩),((j:Int)+1:Int)] w fun e w'=>e= .returned (4:Int)∧bD w' lb sb ab wb tail n (A.swap tail ((j:Int)+1)) (ac S j 1 (A.get tail))∧ae [sb,ab,wb] w w'):=by
 refine⟨?_,?_⟩;all_goals
  intro w lb sb ab wb tail n A S h j hj h0 hg
 all_goals
  have HN:=aH h.ne;have HJ:=aH hj;have hn32:=h.n32;have htb:=h.tb;have c0:w.cell? (sb,j*4)=some (.int .i64 3):=by rw[←h0];exact h.p0 hj
  have c1:=h.p hj (t:=1) aO;have c2:=h.p hj (t:=2) aO;have c3:=h.p hj (t:=3) aO;have l0:=h.box.cell (i:=0) rfl;have l1:=h.box.cell (i:=1) rfl;have H:=aH h;have H0:=aH h0;have HNX:=aH (fun(W:World) (hf:ae [] w W) (y:Int)=>fH (h.frm hf aS) y);have HWT:=aH (fun(W:World) (hf:ae [] w W) (y:Int)=>g6 (h.frm hf aS) y)
 have HG:=aH hg;rw[hg];rotate_left;generalize hv:A.get (tail:Int)=v at hg⊢;have HG:=aH hv;clear hv;have e0:(v==0)=false:=by simpa using hg
 have e1:(v !=0)=true:=by simpa using hg
 rotate_left;all_goals
  clear hg;have hne:=aW [sb,ab,wb] w;have hz0:∀q:HW (fun wx=>ae [sb,ab,wb] w wx),q.w.cell? (lb,0)=some (.pointer (some ⟨ab,0,none⟩)):=fun q=>(h.box.frm q.h aV).cell (i:=0) rfl;have hz1:∀q:HW (fun wx=>ae [sb,ab,wb] w wx),q.w.cell? (lb,1)=some (.int .i64 tail):=fun q=>(h.box.frm q.h aV).cell (i:=1) rfl;clear h h0 hj;go_enter func203,ntmps203;go_wp2_with fail;refine aG (fun wx=>ae [sb,ab,wb] w wx) ?_;refine aR (fuel:=4) [0,1,2,3,4,5,6,7,8,9] rfl aF.drew1 ?_;intro K hK;repeat (go_big_quiet_step (fail))
  refine wpQuiet_nil (hK _ ?_);clear hK K;refine aL 10 (fuel:=3) rfl ?_;go_wp2_with fail;refine(eo (H.o.ar.frm (S:=[]) (aF.drew1) aS aS) (tail) ((j:Int)+1)).mono ?_;rw[HG.o];rintro e w1 ⟨rfl,hA,hF⟩;have HF1:=aH (((ae.refl [ab,wb] w).drew1).trans hF);have H1:=aH (H.o.ar_ HF1.o hA);have j1:=H1.o.p HJ.o (t:=1) aO;have j2:=H1.o.p HJ.o (t:=2) aO;have j3:=H1.o.p HJ.o (t:=3) aO;have jz:=H1.o.row.frozen;clear hA hF;go_wp2_with fail;refine af ⟨(HF1.o.mono (S':=[sb,ab,wb]) aS),?_⟩;refine aR (fuel:=1) [11,12] rfl (HF1.o.mono (S':=[sb,ab,wb]) aS) ?_;intro K hK;repeat (go_big_quiet_step (fail))
  refine wpQuiet_nil (hK _ ?_);clear hK K;refine aL 13 (fuel:=0) rfl ?_;go_wp2_with fail
 refine af ⟨((HF1.o.mono (S':=[sb,ab,wb]) aS).set ⟨sb,j*4+1,none⟩ (.int .i64 0) (.inl aS)),?_⟩;rotate_left;refine af ⟨((HF1.o.mono (S':=[sb,ab,wb]) aS).set ⟨sb,j*4+1,none⟩ (.int .i64 v) (.inl aS)),?_⟩;rotate_left;all_goals
  refine aN ?_;clear hne hz0 hz1
 have HB:=aH (H1.o.put j (t:=1) aO 0);have HF2:=aH ((HF1.o.mono (S':=[sb,ab,wb]) aS).set ⟨sb,j*4+1,none⟩ (.int .i64 0) (.inl aS));rotate_left;have HB:=aH (H1.o.put j (t:=1) aO v);have HF2:=aH ((HF1.o.mono (S':=[sb,ab,wb]) aS).set ⟨sb,j*4+1,none⟩ (.int .i64 v) (.inl aS));rotate_left;all_goals
  clear H1 HF1 j1 j2 j3 jz
 generalize(w1.setCell (sb,j*4+1) (.int .i64 0))=W2 at*;rotate_left;generalize(w1.setCell (sb,j*4+1) (.int .i64 v))=W2 at*;rotate_left;all_goals
  have k0:W2.cell? (sb,j*4)=some (.int .i64 3):=by rw[←H0.o];exact(HB.o.p0 HJ.o).trans (by unfold ac;simp)
 have kt:W2.cell? (sb,j*4+1)=some (.int .i64 0):=(HB.o.p HJ.o (t:=1) aO).trans (by unfold ac;simp);rotate_left;have kt:W2.cell? (sb,j*4+1)=some (.int .i64 v):=(HB.o.p HJ.o (t:=1) aO).trans (by unfold ac;simp);rotate_left;all_goals
  go_wp2;go_ret;exact⟨rfl,HB.o,HF2.o⟩
def Ee:= @And.left _ _ AE
def DA:= @And.right _ _ AE
theorem tZ:(∀{w:World} {lb sb ab wb tail n:Nat} {A:AR} {S:Nat→Nat→Int} (h:bD w lb sb ab wb tail n A S) {j:Nat} (hj:j<n) (h0:S j 0=4),Calls prog 203 #[some lb,.pointer (some ⟨sb,j*4,none⟩),((j:Int)+1:Int)] w fun e w'=>e= .returned (5:Int)∧bD w' lb sb ab wb tail n (A.store (cA tail (S j 1)) ((j:Int)+1)) (S)∧ae [sb,ab,wb] w w')∧(∀{w:World} {lb sb ab wb tail n:Nat} {A:AR} {S:Nat→Nat→Int} (h:bD w lb sb ab wb tail n A S) {j:Nat} (hj:j<n) (h0:S j 0=5) (hg:A.get (eq tail ((j:Int)+1))=0),Calls prog 203 #[some lb,.pointer (some ⟨sb,j*4,none⟩),((j:Int)+1:Int)] w fun e w'=>e= .returned (10:Int)∧bD w' lb sb ab wb tail n (A.load (eq tail ((j:Int)+1))) (S)∧ae [sb,ab,wb] w w')∧(∀{w:World} {lb sb ab wb tail n:Nat} {A:AR} {S:Nat→Nat→Int} (h:bD w lb sb ab wb tail n A S) {j:Nat} (hj:j<n) (h0:S j 0=5) (hg:¬A.get (eq tail ((j:Int)+1))=0),Calls prog 203 #[some lb,.pointer (some ⟨sb,j*4,none⟩),((j:Int)+1:Int)] w fun e w'=>e= .returned (5:Int)∧bD w' lb sb ab wb tail n (A.load (eq tail ((j:Int)+1))) (S)∧ae [sb,ab,wb] w w'):=by
 refine⟨?_,?_,?_⟩;intro w lb sb ab wb tail n A S h j hj h0;rotate_left;iterate 2
  intro w lb sb ab wb tail n A S h j hj h0 hg;rotate_left
 all_goals
  have HN:=aH h.ne;have HJ:=aH hj;have hn32:=h.n32;have htb:=h.tb
 have c0:w.cell? (sb,j*4)=some (.int .i64 4):=by rw[←h0];exact h.p0 hj
 rotate_left;iterate 2
  have c0:w.cell? (sb,j*4)=some (.int .i64 5):=by rw[←h0];exact h.p0 hj
  rotate_left
 all_goals
  have c1:=h.p hj (t:=1) aO;have c2:=h.p hj (t:=2) aO;have c3:=h.p hj (t:=3) aO;have l0:=h.box.cell (i:=0) rfl;have l1:=h.box.cell (i:=1) rfl;have H:=aH h;have H0:=aH h0;have HNX:=aH (fun(W:World) (hf:ae [] w W) (y:Int)=>fH (h.frm hf aS) y);have HWT:=aH (fun(W:World) (hf:ae [] w W) (y:Int)=>g6 (h.frm hf aS) y)
 rotate_left;have HG:=aH hg;clear hg;rotate_left;generalize hv:A.get (eq tail ((j:Int)+1))=v at hg⊢;have HG:=aH hv;clear hv;have e0:(v==0)=false:=by simpa using hg
 have e1:(v !=0)=true:=by simpa using hg
 clear hg;rotate_left;all_goals
  have hne:=aW [ab,wb] w;have hz0:∀q:HW (fun wx=>ae [ab,wb] w wx),q.w.cell? (lb,0)=some (.pointer (some ⟨ab,0,none⟩)):=fun q=>(h.box.frm q.h aV).cell (i:=0) rfl;have hz1:∀q:HW (fun wx=>ae [ab,wb] w wx),q.w.cell? (lb,1)=some (.int .i64 tail):=fun q=>(h.box.frm q.h aV).cell (i:=1) rfl;have hy1:∀q:HW (fun wx=>ae [ab,wb] w wx),q.w.cell? (sb,j*4+1)=some (.int .i64 (S j 1)):=fun q=>(h.row.frm q.h aV).cell (ag n S hj aO);have hy2:∀q:HW (fun wx=>ae [ab,wb] w wx),q.w.cell? (sb,j*4+2)=some (.int .i64 (S j 2)):=fun q=>(h.row.frm q.h aV).cell (ag n S hj aO);have hy3:∀q:HW (fun wx=>ae [ab,wb] w wx),q.w.cell? (sb,j*4+3)=some (.int .i64 (S j 3)):=fun q=>(h.row.frm q.h aV).cell (ag n S hj aO);clear h h0 hj;go_enter func203,ntmps203;go_wp2_with fail;refine aG (fun wx=>ae [ab,wb] w wx) ?_
 refine aR (fuel:=2) [0,1,2,3,4,5,6,7,8,10] rfl aF.drew1 ?_;rotate_left;iterate 2
  refine aR (fuel:=3) [0,1,2,3,4,5] rfl aF.drew1 ?_;rotate_left
 all_goals
  intro K hK;repeat (go_big_quiet_step (fail))
  refine wpQuiet_nil (hK _ ?_);clear hK K
 refine aL 9 (fuel:=1) rfl ?_;rotate_left;iterate 2
  refine aL 6 (fuel:=2) rfl ?_;rotate_left
 all_goals
  go_wp2_with fail
 refine(HNX.o _ (aF.drew1) _).mono ?_;rintro e w' ⟨rfl,rfl⟩;rotate_left;iterate 2
  refine(HWT.o _ (aF.drew1) _).mono ?_;rintro e w' ⟨rfl,rfl⟩;rotate_left
 all_goals
  go_wp2_with fail;refine af ⟨aF.drew1,?_⟩
 refine aL 11 (fuel:=0) rfl ?_;rotate_left;iterate 2
  refine aL 7 (fuel:=1) rfl ?_;rotate_left
 all_goals
  go_wp2_with fail
 refine(au (H.o.ar.frm (S:=[]) (aF.drew1) aS aS) (cA tail (S j 1)) ((j:Int)+1)).mono ?_;rintro e w1 ⟨rfl,hA,hF⟩;have HF1:=aH (((ae.refl [ab,wb] w).drew1).trans hF);have H1:=aH (H.o.ar_ HF1.o hA);have j1:=H1.o.p HJ.o (t:=1) aO;have j2:=H1.o.p HJ.o (t:=2) aO;have j3:=H1.o.p HJ.o (t:=3) aO;have jz:=H1.o.row.frozen;clear hA hF;rotate_left;iterate 2
  refine(bq (H.o.ar.frm (S:=[]) (aF.drew1) aS aS) (eq tail ((j:Int)+1))).mono ?_;rw[HG.o];rintro e w1 ⟨rfl,hA,hF⟩;have HF1:=aH (((ae.refl [ab,wb] w).drew1).trans hF);have H1:=aH (H.o.ar_ HF1.o hA);have j1:=H1.o.p HJ.o (t:=1) aO;have j2:=H1.o.p HJ.o (t:=2) aO;have j3:=H1.o.p HJ.o (t:=3) aO;have jz:=H1.o.row.frozen;clear hA hF;rotate_left
 all_goals
  go_wp2_with fail;refine af ⟨HF1.o,?_⟩
 rotate_left;iterate 2
  focus
   refine aR (fuel:=0) [8] rfl HF1.o ?_;intro K hK;repeat (go_big_quiet_step (fail))
   refine wpQuiet_nil (hK _ ?_);clear hK K
  rotate_left
 all_goals
  refine aN ?_;clear hne hz0 hz1 hy1 hy2 hy3;have HB:=aH H1.o;have HF2:=aH (HF1.o.mono (S':=[sb,ab,wb]) aS)
 have k0:w1.cell? (sb,j*4)=some (.int .i64 4):=by rw[←H0.o];exact HB.o.p0 HJ.o
 rotate_left;iterate 2
  have k0:w1.cell? (sb,j*4)=some (.int .i64 5):=by rw[←H0.o];exact HB.o.p0 HJ.o
  rotate_left
 all_goals
  have k1:=HB.o.p HJ.o (t:=1) aO;clear H1 HF1 j1 j2 j3 jz;go_wp2;go_ret;exact⟨rfl,HB.o,HF2.o⟩
def I4:= @And.left _ _ tZ
def DB:= @And.left _ _ (@And.right _ _ tZ)
def ER:= @And.right _ _ (@And.right _ _ tZ)
theorem qg:(∀{w:World} {lb sb ab wb tail n:Nat} {A:AR} {S:Nat→Nat→Int} (h:bD w lb sb ab wb tail n A S) {j:Nat} (hj:j<n) (h0:S j 0=11) (hg:A.get (cA tail ((j:Int)+1))=0),Calls prog 204 #[some lb,.pointer (some ⟨sb,j*4,none⟩),((j:Int)+1:Int)] w fun e w'=>e= .returned (12:Int)∧bD w' lb sb ab wb tail n (A.load (cA tail ((j:Int)+1))) (ac S j 1 (A.get (cA tail ((j:Int)+1))))∧ae [sb,ab,wb] w w')∧(∀{w:World} {lb sb ab wb tail n:Nat} {A:AR} {S:Nat→Nat→Int} (h:bD w lb sb ab wb tail n A S) {j:Nat} (hj:j<n) (h0:S j 0=13) (hg:A.get (cA tail ((j:Int)+1))=0),Calls prog 204 #[some lb,.pointer (some ⟨sb,j*4,none⟩),((j:Int)+1:Int)] w fun e w'=>e= .returned (13:Int)∧bD w' lb sb ab wb tail n (A.load (cA tail ((j:Int)+1))) (ac S j 1 (A.get (cA tail ((j:Int)+1))))∧ae [sb,ab,wb] w w')∧(∀{w:World} {lb sb ab wb tail n:Nat} {A:AR} {S:Nat→Nat→Int} (h:bD w lb sb ab wb tail n A S) {j:Nat} (hj:j<n) (h0:S j 0=13) (hg:¬A.get (cA tail ((j:Int)+1))=0),Calls prog 204 #[some lb,.pointer (some ⟨sb,j*4,none⟩),((j:Int)+1:Int)] w fun e w'=>e= .returned (14:Int)∧bD w' lb sb ab wb tail n (A.load (cA tail ((j:Int)+1))) (ac S j 1 (A.get (cA tail ((j:Int)+1))))∧ae [sb,ab,wb] w w')∧(∀{w:World} {lb sb ab wb tail n:Nat} {A:AR} {S:Nat→Nat→Int} (h:bD w lb sb ab wb tail n A S) {j:Nat} (hj:j<n) (h0:S j 0=11) (hg:¬A.get (cA tail ((j:Int)+1))=0),Calls prog 204 #[some lb,.pointer (some ⟨sb,j*4,none⟩),((j:Int)+1:Int)] w fun e w'=>e= .returned (14:Int)∧bD w' lb sb ab wb tail n (A.load (cA tail ((j:Int)+1))) (ac S j 1 (A.get (cA tail ((j:Int)+1))))∧ae [sb,ab,wb] w w'):=by
 refine⟨?_,?_,?_,?_⟩;all_goals
  intro w lb sb ab wb tail n A S h j hj h0 hg
 all_goals
  have HN:=aH h.ne;have HJ:=aH hj;have hn32:=h.n32;have htb:=h.tb
 have c0:w.cell? (sb,j*4)=some (.int .i64 11):=by rw[←h0];exact h.p0 hj
 rotate_left;iterate 2
  have c0:w.cell? (sb,j*4)=some (.int .i64 13):=by rw[←h0];exact h.p0 hj
  rotate_left
 have c0:w.cell? (sb,j*4)=some (.int .i64 11):=by rw[←h0];exact h.p0 hj
 rotate_left;all_goals
  have c1:=h.p hj (t:=1) aO;have c2:=h.p hj (t:=2) aO;have c3:=h.p hj (t:=3) aO;have l0:=h.box.cell (i:=0) rfl;have l1:=h.box.cell (i:=1) rfl;have H:=aH h;have H0:=aH h0;have HNX:=aH (fun(W:World) (hf:ae [] w W) (y:Int)=>fH (h.frm hf aS) y);have HWT:=aH (fun(W:World) (hf:ae [] w W) (y:Int)=>g6 (h.frm hf aS) y)
 iterate 2
  have HG:=aH hg;rw[hg];rotate_left
 iterate 2
  generalize hv:A.get (cA tail ((j:Int)+1))=v at hg⊢;have HG:=aH hv;clear hv;have e0:(v==0)=false:=by simpa using hg
  have e1:(v !=0)=true:=by simpa using hg
  rotate_left
 all_goals
  clear hg;have hne:=aW [sb,ab,wb] w;have hz0:∀q:HW (fun wx=>ae [sb,ab,wb] w wx),q.w.cell? (lb,0)=some (.pointer (some ⟨ab,0,none⟩)):=fun q=>(h.box.frm q.h aV).cell (i:=0) rfl;have hz1:∀q:HW (fun wx=>ae [sb,ab,wb] w wx),q.w.cell? (lb,1)=some (.int .i64 tail):=fun q=>(h.box.frm q.h aV).cell (i:=1) rfl;clear h h0 hj;go_enter func204,ntmps204;go_wp2_with fail;refine aG (fun wx=>ae [sb,ab,wb] w wx) ?_;refine aR (fuel:=5) [0,1,2,3,4,5,6] rfl aF.drew1 ?_;intro K hK;repeat (go_big_quiet_step (fail))
  refine wpQuiet_nil (hK _ ?_);clear hK K;refine aL 7 (fuel:=4) rfl ?_;go_wp2_with fail;refine(HNX.o _ (aF.drew1) _).mono ?_;rintro e w' ⟨rfl,rfl⟩;go_wp2_with fail;refine af ⟨aF.drew1,?_⟩;refine aL 8 (fuel:=3) rfl ?_;go_wp2_with fail;refine(bq (H.o.ar.frm (S:=[]) (aF.drew1) aS aS) (cA tail ((j:Int)+1))).mono ?_;rw[HG.o];rintro e w1 ⟨rfl,hA,hF⟩;have HF1:=aH (((ae.refl [ab,wb] w).drew1).trans hF);have H1:=aH (H.o.ar_ HF1.o hA);have j1:=H1.o.p HJ.o (t:=1) aO;have j2:=H1.o.p HJ.o (t:=2) aO;have j3:=H1.o.p HJ.o (t:=3) aO;have jz:=H1.o.row.frozen;clear hA hF;go_wp2_with fail;refine af ⟨(HF1.o.mono (S':=[sb,ab,wb]) aS),?_⟩;refine aR (fuel:=1) [9,10] rfl (HF1.o.mono (S':=[sb,ab,wb]) aS) ?_;intro K hK;repeat (go_big_quiet_step (fail))
  refine wpQuiet_nil (hK _ ?_);clear hK K;refine aL 11 (fuel:=0) rfl ?_;go_wp2_with fail
 iterate 2
  refine af ⟨((HF1.o.mono (S':=[sb,ab,wb]) aS).set ⟨sb,j*4+1,none⟩ (.int .i64 0) (.inl aS)),?_⟩;rotate_left
 iterate 2
  refine af ⟨((HF1.o.mono (S':=[sb,ab,wb]) aS).set ⟨sb,j*4+1,none⟩ (.int .i64 v) (.inl aS)),?_⟩;rotate_left
 all_goals
  refine aN ?_;clear hne hz0 hz1
 iterate 2
  have HB:=aH (H1.o.put j (t:=1) aO 0);have HF2:=aH ((HF1.o.mono (S':=[sb,ab,wb]) aS).set ⟨sb,j*4+1,none⟩ (.int .i64 0) (.inl aS));rotate_left
 iterate 2
  have HB:=aH (H1.o.put j (t:=1) aO v);have HF2:=aH ((HF1.o.mono (S':=[sb,ab,wb]) aS).set ⟨sb,j*4+1,none⟩ (.int .i64 v) (.inl aS));rotate_left
 all_goals
  clear H1 HF1 j1 j2 j3 jz
 generalize(w1.setCell (sb,j*4+1) (.int .i64 0))=W2 at*;have k0:W2.cell? (sb,j*4)=some (.int .i64 11):=by rw[←H0.o];exact(HB.o.p0 HJ.o).trans (by unfold ac;simp)
 have kt:W2.cell? (sb,j*4+1)=some (.int .i64 0):=(HB.o.p HJ.o (t:=1) aO).trans (by unfold ac;simp);rotate_left;generalize(w1.setCell (sb,j*4+1) (.int .i64 0))=W2 at*;have k0:W2.cell? (sb,j*4)=some (.int .i64 13):=by rw[←H0.o];exact(HB.o.p0 HJ.o).trans (by unfold ac;simp)
 have kt:W2.cell? (sb,j*4+1)=some (.int .i64 0):=(HB.o.p HJ.o (t:=1) aO).trans (by unfold ac;simp);rotate_left;generalize(w1.setCell (sb,j*4+1) (.int .i64 v))=W2 at*;have k0:W2.cell? (sb,j*4)=some (.int .i64 13):=by rw[←H0.o];exact(HB.o.p0 HJ.o).trans (by unfold ac;simp)
 have kt:W2.cell? (sb,j*4+1)=some (.int .i64 v):=(HB.o.p HJ.o (t:=1) aO).trans (by unfold ac;simp);rotate_left;generalize(w1.setCell (sb,j*4+1) (.int .i64 v))=W2 at*;have k0:W2.cell? (sb,j*4)=some (.int .i64 11):=by rw[←H0.o];exact(HB.o.p0 HJ.o).trans (by unfold ac;simp)
 have kt:W2.cell? (sb,j*4+1)=some (.int .i64 v):=(HB.o.p HJ.o (t:=1) aO).trans (by unfold ac;simp);rotate_left;all_goals
  go_wp2;go_ret;exact⟨rfl,HB.o,HF2.o⟩
def Hs:= @And.left _ _ qg
def G9:= @And.left _ _ (@And.right _ _ qg)
def Hg:= @And.left _ _ (@And.right _ _ (@And.right _ _ qg))
def Ik:= @And.right _ _ (@And.right _ _ (@And.right _ _ qg))
theorem tK:(∀{w:World} {lb sb ab wb tail n:Nat} {A:AR} {S:Nat→Nat→Int} (h:bD w lb sb ab wb tail n A S) {j:Nat} (hj:j<n) (h0:S j 0=12) (hg:A.casOk tail ((j:Int)+1)=true),Calls prog 204 #[some lb,.pointer (some ⟨sb,j*4,none⟩),((j:Int)+1:Int)] w fun e w'=>e= .returned (0:Int)∧bD w' lb sb ab wb tail n (A.cas tail ((j:Int)+1) 0) (S)∧ae [sb,ab,wb] w w')∧(∀{w:World} {lb sb ab wb tail n:Nat} {A:AR} {S:Nat→Nat→Int} (h:bD w lb sb ab wb tail n A S) {j:Nat} (hj:j<n) (h0:S j 0=12) (hg:A.casOk tail ((j:Int)+1)=false),Calls prog 204 #[some lb,.pointer (some ⟨sb,j*4,none⟩),((j:Int)+1:Int)] w fun e w'=>e= .returned (13:Int)∧bD w' lb sb ab wb tail n (A.cas tail ((j:Int)+1) 0) (S)∧ae [sb,ab,wb] w w')∧(∀{w:World} {lb sb ab wb tail n:Nat} {A:AR} {S:Nat→Nat→Int} (h:bD w lb sb ab wb tail n A S) {j:Nat} (hj:j<n) (h0:S j 0=14),Calls prog 204 #[some lb,.pointer (some ⟨sb,j*4,none⟩),((j:Int)+1:Int)] w fun e w'=>e= .returned (0:Int)∧bD w' lb sb ab wb tail n (A.store (eq tail (S j 1)) 0) (S)∧ae [sb,ab,wb] w w'):=by
 refine⟨?_,?_,?_⟩;iterate 2
  intro w lb sb ab wb tail n A S h j hj h0 hg;rotate_left
 intro w lb sb ab wb tail n A S h j hj h0;rotate_left;all_goals
  have HN:=aH h.ne;have HJ:=aH hj;have hn32:=h.n32;have htb:=h.tb
 iterate 2
  have c0:w.cell? (sb,j*4)=some (.int .i64 12):=by rw[←h0];exact h.p0 hj
  rotate_left
 have c0:w.cell? (sb,j*4)=some (.int .i64 14):=by rw[←h0];exact h.p0 hj
 rotate_left;all_goals
  have c1:=h.p hj (t:=1) aO;have c2:=h.p hj (t:=2) aO;have c3:=h.p hj (t:=3) aO;have l0:=h.box.cell (i:=0) rfl;have l1:=h.box.cell (i:=1) rfl;have H:=aH h;have H0:=aH h0;have HNX:=aH (fun(W:World) (hf:ae [] w W) (y:Int)=>fH (h.frm hf aS) y);have HWT:=aH (fun(W:World) (hf:ae [] w W) (y:Int)=>g6 (h.frm hf aS) y)
 iterate 2
  have HG:=aH hg;clear hg;rotate_left
 rotate_left;all_goals
  have hne:=aW [ab,wb] w;have hz0:∀q:HW (fun wx=>ae [ab,wb] w wx),q.w.cell? (lb,0)=some (.pointer (some ⟨ab,0,none⟩)):=fun q=>(h.box.frm q.h aV).cell (i:=0) rfl;have hz1:∀q:HW (fun wx=>ae [ab,wb] w wx),q.w.cell? (lb,1)=some (.int .i64 tail):=fun q=>(h.box.frm q.h aV).cell (i:=1) rfl;have hy1:∀q:HW (fun wx=>ae [ab,wb] w wx),q.w.cell? (sb,j*4+1)=some (.int .i64 (S j 1)):=fun q=>(h.row.frm q.h aV).cell (ag n S hj aO);have hy2:∀q:HW (fun wx=>ae [ab,wb] w wx),q.w.cell? (sb,j*4+2)=some (.int .i64 (S j 2)):=fun q=>(h.row.frm q.h aV).cell (ag n S hj aO);have hy3:∀q:HW (fun wx=>ae [ab,wb] w wx),q.w.cell? (sb,j*4+3)=some (.int .i64 (S j 3)):=fun q=>(h.row.frm q.h aV).cell (ag n S hj aO);clear h h0 hj;go_enter func204,ntmps204;go_wp2_with fail;refine aG (fun wx=>ae [ab,wb] w wx) ?_
 iterate 2
  refine aR (fuel:=1) [0,1,2,3,4,5,6,7,8] rfl aF.drew1 ?_;rotate_left
 refine aR (fuel:=2) [0,1,2,3,4,5,6,7,8] rfl aF.drew1 ?_;rotate_left;all_goals
  intro K hK;repeat (go_big_quiet_step (fail))
  refine wpQuiet_nil (hK _ ?_);clear hK K
 iterate 2
  refine aL 9 (fuel:=0) rfl ?_;rotate_left
 refine aL 9 (fuel:=1) rfl ?_;rotate_left;all_goals
  go_wp2_with fail
 iterate 2
  refine(ii (H.o.ar.frm (S:=[]) (aF.drew1) aS aS) (tail) ((j:Int)+1) (0)).mono ?_;rw[HG.o];rintro e w1 ⟨rfl,hA,hF⟩;have HF1:=aH (((ae.refl [ab,wb] w).drew1).trans hF);have H1:=aH (H.o.ar_ HF1.o hA);have j1:=H1.o.p HJ.o (t:=1) aO;have j2:=H1.o.p HJ.o (t:=2) aO;have j3:=H1.o.p HJ.o (t:=3) aO;have jz:=H1.o.row.frozen;clear hA hF;rotate_left
 refine(HWT.o _ (aF.drew1) _).mono ?_;rintro e w' ⟨rfl,rfl⟩;rotate_left;all_goals
  go_wp2_with fail
 rotate_left 2
 focus
  refine af ⟨aF.drew1,?_⟩;refine aL 10 (fuel:=0) rfl ?_;go_wp2_with fail;refine(au (H.o.ar.frm (S:=[]) (aF.drew1) aS aS) (eq tail (S j 1)) (0)).mono ?_;rintro e w1 ⟨rfl,hA,hF⟩;have HF1:=aH (((ae.refl [ab,wb] w).drew1).trans hF);have H1:=aH (H.o.ar_ HF1.o hA);have j1:=H1.o.p HJ.o (t:=1) aO;have j2:=H1.o.p HJ.o (t:=2) aO;have j3:=H1.o.p HJ.o (t:=3) aO;have jz:=H1.o.row.frozen;clear hA hF;go_wp2_with fail
 rotate_left;all_goals
  refine af ⟨HF1.o,?_⟩;refine aN ?_;clear hne hz0 hz1 hy1 hy2 hy3;have HB:=aH H1.o;have HF2:=aH (HF1.o.mono (S':=[sb,ab,wb]) aS)
 iterate 2
  have k0:w1.cell? (sb,j*4)=some (.int .i64 12):=by rw[←H0.o];exact HB.o.p0 HJ.o
  rotate_left
 have k0:w1.cell? (sb,j*4)=some (.int .i64 14):=by rw[←H0.o];exact HB.o.p0 HJ.o
 rotate_left;all_goals
  have k1:=HB.o.p HJ.o (t:=1) aO;clear H1 HF1 j1 j2 j3 jz;go_wp2;go_ret;exact⟨rfl,HB.o,HF2.o⟩
def IQ:= @And.left _ _ tK
def Ib:= @And.left _ _ (@And.right _ _ tK)
def JM:= @And.right _ _ (@And.right _ _ tK)
end
end Go.Proofs.YteijjhahgabalaaGreat
