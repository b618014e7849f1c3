/- The contracts of package malthus, step by step. (Printed by gen_mal.py.) -/
import Derived.Test.YteijjhahgabalaaGreatWA16
import Derived.Test.YteijjhahgabalaaGreatWA06
import Derived.Test.YteijjhahgabalaaGreatWA13
set_option maxRecDepth 100000
set_option maxHeartbeats 8000000
set_option linter.all false
namespace Go.Proofs.YteijjhahgabalaaGreat
open Go.RowKit
open Tryz
structure bG (w:World) (lb sb bb ab wb tail first n:Nat) (bud:Int) (A:AR) (B:BK) (d:Int) (S:Nat→Nat→Int):Prop where
 box:am w lb [some ab,tail,bud,some bb,d,.slice (some ⟨sb,0,none⟩) n n] 229
 row:am w sb (cq n S) 138
 bn:bX w bb ab first n B
 ar:aj w ab wb A
 ne:lb≠sb∧lb≠bb∧lb≠ab∧lb≠wb∧sb≠bb∧sb≠ab∧sb≠wb∧bb≠ab∧bb≠wb
 n1:1≤n
 n32:n≤32
 tb:tail≤4096
 b0:0≤bud
 b1:bud≤1000
section
variable{w w':World} {lb sb bb ab wb tail first n:Nat} {bud:Int} {A A':AR} {B B':BK} {d:Int} {S:Nat→Nat→Int}
theorem bG.frm (h:bG w lb sb bb ab wb tail first n bud A B d S) {Z:List Nat} (hf:ae Z w w') (hz:∀k∈[lb,sb,bb,ab,wb],k∉Z):bG w' lb sb bb ab wb tail first n bud A B d S:=
 {h with box:=h.box.frm hf (hz _ aS),row:=h.row.frm hf (hz _ aS),bn:=h.bn.frm hf (hz _ aS),ar:=h.ar.frm hf (hz _ aS) (hz _ aS)}
theorem bG.ar_ (h:bG w lb sb bb ab wb tail first n bud A B d S) (hf:ae [ab,wb] w w') (hA:aj w' ab wb A'):bG w' lb sb bb ab wb tail first n bud A' B d S:=
 {h with box:=h.box.frm hf (by simp;have:=h.ne;omega),row:=h.row.frm hf (by simp;have:=h.ne;omega),bn:=h.bn.frm hf (by simp;have:=h.ne;omega),ar:=hA}
theorem bG.bn_ (h:bG w lb sb bb ab wb tail first n bud A B d S) (hf:ae [bb,ab,wb] w w') (hB:bX w' bb ab first n B') (hA:aj w' ab wb A'):bG w' lb sb bb ab wb tail first n bud A' B' d S:=
 {h with box:=h.box.frm hf (by simp;have:=h.ne;omega),row:=h.row.frm hf (by simp;have:=h.ne;omega),bn:=hB,ar:=hA}
theorem bG.put (h:bG w lb sb bb ab wb tail first n bud A B d S) (j:Nat) {t:Nat} (ht:t<4) (v:Int):
 bG (w.setCell (sb,j*4+t) (.int .i64 v)) lb sb bb ab wb tail first n bud A B d (ac S j t v):=by
 have hr:=h.row.set (j*4+t) (.int .i64 v);rw[dP n S ht v] at hr;have hf:ae [sb] w (w.setCell (sb,j*4+t) (.int .i64 v)):=aU;have hn:=h.ne;exact{h with box:=h.box.frm hf aQ,row:=hr,bn:=h.bn.frm hf aQ,ar:=h.ar.frm hf aQ aQ}
theorem bG.setD (h:bG w lb sb bb ab wb tail first n bud A B d S) (v:Int):bG (w.setCell (lb,4) (.int .i64 v)) lb sb bb ab wb tail first n bud A B v S:=by
 have hf:ae [lb] w (w.setCell (lb,4) (.int .i64 v)):=aU;have hn:=h.ne;exact{h with box:=h.box.set 4 (.int .i64 v),row:=h.row.frm hf aQ,bn:=h.bn.frm hf aQ,ar:=h.ar.frm hf aQ aQ}
theorem bG.p (h:bG w lb sb bb ab wb tail first n bud A B d S) {j:Nat} (hj:j<n) {t:Nat} (ht:t<4):w.cell? (sb,j*4+t)=some (.int .i64 (S j t)):=h.row.cell (ag n S hj ht)
theorem bG.p0 (h:bG w lb sb bb ab wb tail first n bud A B d S) {j:Nat} (hj:j<n):w.cell? (sb,j*4)=some (.int .i64 (S j 0)):=h.row.cell (ag n S (t:=0) hj aO)
def bj (tail:Nat) (y:Int):Int:=wrap64 ((tail:Int)+wrap64 (2*y))
def dD (tail:Nat) (y:Int):Int:=wrap64 (wrap64 ((tail:Int)+wrap64 (2*y))+1)
theorem cL (h:bG w lb sb bb ab wb tail first n bud A B d S) (y:Int):Calls prog 313 #[some lb,y] w fun e w'=>e= .returned (bj tail y:Int)∧w=w':=by
 have c1:=h.box.cell (i:=1) rfl;have htb:=h.tb;clear h;unfold bj;go_enter func313,ntmps313;go_wp2;go_ret;exact⟨rfl,rfl⟩
theorem cK (h:bG w lb sb bb ab wb tail first n bud A B d S) (y:Int):Calls prog 314 #[some lb,y] w fun e w'=>e= .returned (dD tail y:Int)∧w=w':=by
 have c1:=h.box.cell (i:=1) rfl;have htb:=h.tb;clear h;unfold dD;go_enter func314,ntmps314;go_wp2;go_ret;exact⟨rfl,rfl⟩
theorem Ds:(∀{w:World} {lb sb bb ab wb tail first n:Nat} {bud:Int} {A:AR} {B:BK} {d:Int} {S:Nat→Nat→Int} (h:bG w lb sb bb ab wb tail first n bud A B d S) {j:Nat} (hj:j<n) (h0:S j 0=1),Calls prog 310 #[some lb,.pointer (some ⟨sb,j*4,none⟩),((j:Int)+1:Int)] w fun e w'=>e= .returned (2:Int)∧bG w' lb sb bb ab wb tail first n bud (A.store (bj tail ((j:Int)+1)) 0) (B) (d) (S)∧ae [lb,sb,bb,ab,wb] w w')∧(∀{w:World} {lb sb bb ab wb tail first n:Nat} {bud:Int} {A:AR} {B:BK} {d:Int} {S:Nat→Nat→Int} (h:bG w lb sb bb ab wb tail first n bud A B d S) {j:Nat} (hj:j<n) (h0:S j 0=2),Calls prog 310 #[some lb,.pointer (some ⟨sb,j*4,none⟩),((j:Int)+1:Int)] w fun e w'=>e= .returned (3:Int)∧bG w' lb sb bb ab wb tail first n bud (A.store (dD tail ((j:Int)+1)) 1) (B) (d) (S)∧ae [lb,sb,bb,ab,wb] w w'):=by
 refine⟨?_,?_⟩;all_goals
  intro w lb sb bb ab wb tail first n bud A B d S h j hj h0
 all_goals
  have HN:=aH h.ne;have HJ:=aH hj;have hn32:=h.n32;have htb:=h.tb
 have c0:w.cell? (sb,j*4)=some (.int .i64 1):=by rw[←h0];exact h.p0 hj
 rotate_left;have c0:w.cell? (sb,j*4)=some (.int .i64 2):=by rw[←h0];exact h.p0 hj
 rotate_left;all_goals
  have c1:=h.p hj (t:=1) aO;have c2:=h.p hj (t:=2) aO;have c3:=h.p hj (t:=3) aO;have l0:=h.box.cell (i:=0) rfl;have l1:=h.box.cell (i:=1) rfl;have l2:=h.box.cell (i:=2) rfl;have l3:=h.box.cell (i:=3) rfl;have H:=aH h;have H0:=aH h0;have HNX:=aH (fun(W:World) (hf:ae [] w W) (y:Int)=>cL (h.frm hf aS) y);have HWT:=aH (fun(W:World) (hf:ae [] w W) (y:Int)=>cK (h.frm hf aS) y);have hne:=aW [ab,wb] w;have hz0:∀q:HW (fun wx=>ae [ab,wb] w wx),q.w.cell? (lb,0)=some (.pointer (some ⟨ab,0,none⟩)):=fun q=>(h.box.frm q.h aV).cell (i:=0) rfl;have hz1:∀q:HW (fun wx=>ae [ab,wb] w wx),q.w.cell? (lb,1)=some (.int .i64 tail):=fun q=>(h.box.frm q.h aV).cell (i:=1) rfl;have hz2:∀q:HW (fun wx=>ae [ab,wb] w wx),q.w.cell? (lb,2)=some (.int .i64 bud):=fun q=>(h.box.frm q.h aV).cell (i:=2) rfl;have hz3:∀q:HW (fun wx=>ae [ab,wb] w wx),q.w.cell? (lb,3)=some (.pointer (some ⟨bb,0,none⟩)):=fun q=>(h.box.frm q.h aV).cell (i:=3) rfl;have hz4:∀q:HW (fun wx=>ae [ab,wb] w wx),q.w.cell? (lb,4)=some (.int .i64 d):=fun q=>(h.box.frm q.h aV).cell (i:=4) rfl;have hy1:∀q:HW (fun wx=>ae [ab,wb] w wx),q.w.cell? (sb,j*4+1)=some (.int .i64 (S j 1)):=fun q=>(h.row.frm q.h aV).cell (ag n S hj aO);have hy2:∀q:HW (fun wx=>ae [ab,wb] w wx),q.w.cell? (sb,j*4+2)=some (.int .i64 (S j 2)):=fun q=>(h.row.frm q.h aV).cell (ag n S hj aO);have hy3:∀q:HW (fun wx=>ae [ab,wb] w wx),q.w.cell? (sb,j*4+3)=some (.int .i64 (S j 3)):=fun q=>(h.row.frm q.h aV).cell (ag n S hj aO);clear h h0 hj;go_enter func310,ntmps310;go_wp2_with fail;refine aG (fun wx=>ae [ab,wb] w wx) ?_;refine aR (fuel:=2) [0,1,2,3,4,5] rfl aF.drew1 ?_;intro K hK;repeat (go_big_quiet_step (fail))
  refine wpQuiet_nil (hK _ ?_);clear hK K;refine aL 6 (fuel:=1) rfl ?_;go_wp2_with fail
 refine(HNX.o _ (aF.drew1) _).mono ?_;rintro e w' ⟨rfl,rfl⟩;rotate_left;refine(HWT.o _ (aF.drew1) _).mono ?_;rintro e w' ⟨rfl,rfl⟩;rotate_left;all_goals
  go_wp2_with fail;refine af ⟨aF.drew1,?_⟩;refine aL 7 (fuel:=0) rfl ?_;go_wp2_with fail
 refine(au (H.o.ar.frm (S:=[]) (aF.drew1) aS aS) (bj tail ((j:Int)+1)) (0)).mono ?_;rintro e w1 ⟨rfl,hA,hF⟩;have HF1:=aH (((ae.refl [ab,wb] w).drew1).trans hF);have H1:=aH (H.o.ar_ HF1.o hA);have j1:=H1.o.p HJ.o (t:=1) aO;have j2:=H1.o.p HJ.o (t:=2) aO;have j3:=H1.o.p HJ.o (t:=3) aO;have jd:=H1.o.box.cell (i:=4) rfl;have jz:=H1.o.row.frozen;have jy:=H1.o.box.frozen;clear hA hF;rotate_left;refine(au (H.o.ar.frm (S:=[]) (aF.drew1) aS aS) (dD tail ((j:Int)+1)) (1)).mono ?_;rintro e w1 ⟨rfl,hA,hF⟩;have HF1:=aH (((ae.refl [ab,wb] w).drew1).trans hF);have H1:=aH (H.o.ar_ HF1.o hA);have j1:=H1.o.p HJ.o (t:=1) aO;have j2:=H1.o.p HJ.o (t:=2) aO;have j3:=H1.o.p HJ.o (t:=3) aO;have jd:=H1.o.box.cell (i:=4) rfl;have jz:=H1.o.row.frozen;have jy:=H1.o.box.frozen;clear hA hF;rotate_left;all_goals
  go_wp2_with fail;refine af ⟨HF1.o,?_⟩;refine aN ?_;clear hne hz0 hz1 hz2 hz3 hz4 hy1 hy2 hy3;have HB:=aH H1.o;have HF2:=aH (HF1.o.mono (S':=[lb,sb,bb,ab,wb]) aS)
 have k0:w1.cell? (sb,j*4)=some (.int .i64 1):=by rw[←H0.o];exact HB.o.p0 HJ.o
 rotate_left;have k0:w1.cell? (sb,j*4)=some (.int .i64 2):=by rw[←H0.o];exact HB.o.p0 HJ.o
 rotate_left;all_goals
  have k1:=HB.o.p HJ.o (t:=1) aO;clear H1 HF1 j1 j2 j3 jd jz jy;go_wp2;go_ret;exact⟨rfl,HB.o,HF2.o⟩
def Gr:= @And.left _ _ Ds
def G8:= @And.right _ _ Ds
theorem Dg:(∀{w:World} {lb sb bb ab wb tail first n:Nat} {bud:Int} {A:AR} {B:BK} {d:Int} {S:Nat→Nat→Int} (h:bG w lb sb bb ab wb tail first n bud A B d S) {j:Nat} (hj:j<n) (h0:S j 0=3) (hg:A.get tail=0),Calls prog 310 #[some lb,.pointer (some ⟨sb,j*4,none⟩),((j:Int)+1:Int)] w fun e w'=>e= .returned (10:Int)∧bG w' lb sb bb ab wb tail first n bud (A.swap tail ((j:Int)+1)) (B) (d) (ac S j 1 (A.get tail))∧ae [lb,sb,bb,ab,wb] w w')∧(∀{w:World} {lb sb bb ab wb tail first n:Nat} {bud:Int} {A:AR} {B:BK} {d:Int} {S:Nat→Nat→Int} (h:bG w lb sb bb ab wb tail first n bud A B d S) {j:Nat} (hj:j<n) (h0:S j 0=3) (hg:¬A.get tail=0),Calls prog 310 #[some lb,.pointer (some ⟨sb,j*4,none⟩),((j:Int)+1:Int)] w fun e w'=>e= .returned (4:Int)∧bG w' lb sb bb ab wb tail first n bud (A.swap tail ((j:Int)+1)) (B) (d) (ac S j 1 (A.get tail))∧ae [lb,sb,bb,ab,wb] w w'):=by
 refine⟨?_,?_⟩;all_goals
  intro w lb sb bb ab wb tail first n bud A B d S h j hj h0 hg
 all_goals
  have HN:=aH h.ne;have HJ:=aH hj;have hn32:=h.n32;have htb:=h.tb;have c0:w.cell? (sb,j*4)=some (.int .i64 3):=by rw[←h0];exact h.p0 hj
  have c1:=h.p hj (t:=1) aO;have c2:=h.p hj (t:=2) aO;have c3:=h.p hj (t:=3) aO;have l0:=h.box.cell (i:=0) rfl;have l1:=h.box.cell (i:=1) rfl;have l2:=h.box.cell (i:=2) rfl;have l3:=h.box.cell (i:=3) rfl;have H:=aH h;have H0:=aH h0;have HNX:=aH (fun(W:World) (hf:ae [] w W) (y:Int)=>cL (h.frm hf aS) y);have HWT:=aH (fun(W:World) (hf:ae [] w W) (y:Int)=>cK (h.frm hf aS) y)
 have HG:=aH hg;rw[hg];rotate_left;generalize hv:A.get (tail:Int)=v at hg⊢;have HG:=aH hv;clear hv;have e0:(v==0)=false:=by simpa using hg
 have e1:(v !=0)=true:=by simpa using hg
 rotate_left;all_goals
  clear hg;have hne:=aW [sb,ab,wb] w;have hz0:∀q:HW (fun wx=>ae [sb,ab,wb] w wx),q.w.cell? (lb,0)=some (.pointer (some ⟨ab,0,none⟩)):=fun q=>(h.box.frm q.h aV).cell (i:=0) rfl;have hz1:∀q:HW (fun wx=>ae [sb,ab,wb] w wx),q.w.cell? (lb,1)=some (.int .i64 tail):=fun q=>(h.box.frm q.h aV).cell (i:=1) rfl;have hz2:∀q:HW (fun wx=>ae [sb,ab,wb] w wx),q.w.cell? (lb,2)=some (.int .i64 bud):=fun q=>(h.box.frm q.h aV).cell (i:=2) rfl;have hz3:∀q:HW (fun wx=>ae [sb,ab,wb] w wx),q.w.cell? (lb,3)=some (.pointer (some ⟨bb,0,none⟩)):=fun q=>(h.box.frm q.h aV).cell (i:=3) rfl;have hz4:∀q:HW (fun wx=>ae [sb,ab,wb] w wx),q.w.cell? (lb,4)=some (.int .i64 d):=fun q=>(h.box.frm q.h aV).cell (i:=4) rfl;clear h h0 hj;go_enter func310,ntmps310;go_wp2_with fail;refine aG (fun wx=>ae [sb,ab,wb] w wx) ?_;refine aR (fuel:=4) [0,1,2,3,4,5,6,7,8,9] rfl aF.drew1 ?_;intro K hK;repeat (go_big_quiet_step (fail))
  refine wpQuiet_nil (hK _ ?_);clear hK K;refine aL 10 (fuel:=3) rfl ?_;go_wp2_with fail;refine(eo (H.o.ar.frm (S:=[]) (aF.drew1) aS aS) (tail) ((j:Int)+1)).mono ?_;rw[HG.o];rintro e w1 ⟨rfl,hA,hF⟩;have HF1:=aH (((ae.refl [ab,wb] w).drew1).trans hF);have H1:=aH (H.o.ar_ HF1.o hA);have j1:=H1.o.p HJ.o (t:=1) aO;have j2:=H1.o.p HJ.o (t:=2) aO;have j3:=H1.o.p HJ.o (t:=3) aO;have jd:=H1.o.box.cell (i:=4) rfl;have jz:=H1.o.row.frozen;have jy:=H1.o.box.frozen;clear hA hF;go_wp2_with fail;refine af ⟨(HF1.o.mono (S':=[sb,ab,wb]) aS),?_⟩;refine aR (fuel:=1) [11,12] rfl (HF1.o.mono (S':=[sb,ab,wb]) aS) ?_;intro K hK;repeat (go_big_quiet_step (fail))
  refine wpQuiet_nil (hK _ ?_);clear hK K;refine aL 13 (fuel:=0) rfl ?_;go_wp2_with fail
 refine af ⟨((HF1.o.mono (S':=[sb,ab,wb]) aS).set ⟨sb,j*4+1,none⟩ (.int .i64 0) (.inl aS)),?_⟩;rotate_left;refine af ⟨((HF1.o.mono (S':=[sb,ab,wb]) aS).set ⟨sb,j*4+1,none⟩ (.int .i64 v) (.inl aS)),?_⟩;rotate_left;all_goals
  refine aN ?_;clear hne hz0 hz1 hz2 hz3 hz4
 have HB:=aH (H1.o.put j (t:=1) aO 0);have HF2:=aH ((HF1.o.mono (S':=[lb,sb,bb,ab,wb]) aS).set ⟨sb,j*4+1,none⟩ (.int .i64 0) (.inl aS));rotate_left;have HB:=aH (H1.o.put j (t:=1) aO v);have HF2:=aH ((HF1.o.mono (S':=[lb,sb,bb,ab,wb]) aS).set ⟨sb,j*4+1,none⟩ (.int .i64 v) (.inl aS));rotate_left;all_goals
  clear H1 HF1 j1 j2 j3 jd jz jy
 generalize(w1.setCell (sb,j*4+1) (.int .i64 0))=W2 at*;rotate_left;generalize(w1.setCell (sb,j*4+1) (.int .i64 v))=W2 at*;rotate_left;all_goals
  have k0:W2.cell? (sb,j*4)=some (.int .i64 3):=by rw[←H0.o];exact(HB.o.p0 HJ.o).trans (by unfold ac;simp)
 have kt:W2.cell? (sb,j*4+1)=some (.int .i64 0):=(HB.o.p HJ.o (t:=1) aO).trans (by unfold ac;simp);rotate_left;have kt:W2.cell? (sb,j*4+1)=some (.int .i64 v):=(HB.o.p HJ.o (t:=1) aO).trans (by unfold ac;simp);rotate_left;all_goals
  go_wp2;go_ret;exact⟨rfl,HB.o,HF2.o⟩
def Ew:= @And.left _ _ Dg
def DY:= @And.right _ _ Dg
theorem yP:(∀{w:World} {lb sb bb ab wb tail first n:Nat} {bud:Int} {A:AR} {B:BK} {d:Int} {S:Nat→Nat→Int} (h:bG w lb sb bb ab wb tail first n bud A B d S) {j:Nat} (hj:j<n) (h0:S j 0=4),Calls prog 310 #[some lb,.pointer (some ⟨sb,j*4,none⟩),((j:Int)+1:Int)] w fun e w'=>e= .returned (5:Int)∧bG w' lb sb bb ab wb tail first n bud (A.store (bj tail (S j 1)) ((j:Int)+1)) (B) (d) (S)∧ae [lb,sb,bb,ab,wb] w w')∧(∀{w:World} {lb sb bb ab wb tail first n:Nat} {bud:Int} {A:AR} {B:BK} {d:Int} {S:Nat→Nat→Int} (h:bG w lb sb bb ab wb tail first n bud A B d S) {j:Nat} (hj:j<n) (h0:S j 0=5) (hg:A.get (dD tail ((j:Int)+1))=0),Calls prog 310 #[some lb,.pointer (some ⟨sb,j*4,none⟩),((j:Int)+1:Int)] w fun e w'=>e= .returned (10:Int)∧bG w' lb sb bb ab wb tail first n bud (A.load (dD tail ((j:Int)+1))) (B) (d) (S)∧ae [lb,sb,bb,ab,wb] w w')∧(∀{w:World} {lb sb bb ab wb tail first n:Nat} {bud:Int} {A:AR} {B:BK} {d:Int} {S:Nat→Nat→Int} (h:bG w lb sb bb ab wb tail first n bud A B d S) {j:Nat} (hj:j<n) (h0:S j 0=5) (hg:¬A.get (dD tail ((j:Int)+1))=0),Calls prog 310 #[some lb,.pointer (some ⟨sb,j*4,none⟩),((j:Int)+1:Int)] w fun e w'=>e= .returned (5:Int)∧bG w' lb sb bb ab wb tail first n bud (A.load (dD tail ((j:Int)+1))) (B) (d) (S)∧ae [lb,sb,bb,ab,wb] w w'):=by
 refine⟨?_,?_,?_⟩;intro w lb sb bb ab wb tail first n bud A B d S h j hj h0;rotate_left;iterate 2
  intro w lb sb bb ab wb tail first n bud A B d S h j hj h0 hg;rotate_left
 all_goals
  have HN:=aH h.ne;have HJ:=aH hj;have hn32:=h.n32;have htb:=h.tb
 have c0:w.cell? (sb,j*4)=some (.int .i64 4):=by rw[←h0];exact h.p0 hj
 rotate_left;iterate 2
  have c0:w.cell? (sb,j*4)=some (.int .i64 5):=by rw[←h0];exact h.p0 hj
  rotate_left
 all_goals
  have c1:=h.p hj (t:=1) aO;have c2:=h.p hj (t:=2) aO;have c3:=h.p hj (t:=3) aO;have l0:=h.box.cell (i:=0) rfl;have l1:=h.box.cell (i:=1) rfl;have l2:=h.box.cell (i:=2) rfl;have l3:=h.box.cell (i:=3) rfl;have H:=aH h;have H0:=aH h0;have HNX:=aH (fun(W:World) (hf:ae [] w W) (y:Int)=>cL (h.frm hf aS) y);have HWT:=aH (fun(W:World) (hf:ae [] w W) (y:Int)=>cK (h.frm hf aS) y)
 rotate_left;have HG:=aH hg;clear hg;rotate_left;generalize hv:A.get (dD tail ((j:Int)+1))=v at hg⊢;have HG:=aH hv;clear hv;have e0:(v==0)=false:=by simpa using hg
 have e1:(v !=0)=true:=by simpa using hg
 clear hg;rotate_left;all_goals
  have hne:=aW [ab,wb] w;have hz0:∀q:HW (fun wx=>ae [ab,wb] w wx),q.w.cell? (lb,0)=some (.pointer (some ⟨ab,0,none⟩)):=fun q=>(h.box.frm q.h aV).cell (i:=0) rfl;have hz1:∀q:HW (fun wx=>ae [ab,wb] w wx),q.w.cell? (lb,1)=some (.int .i64 tail):=fun q=>(h.box.frm q.h aV).cell (i:=1) rfl;have hz2:∀q:HW (fun wx=>ae [ab,wb] w wx),q.w.cell? (lb,2)=some (.int .i64 bud):=fun q=>(h.box.frm q.h aV).cell (i:=2) rfl;have hz3:∀q:HW (fun wx=>ae [ab,wb] w wx),q.w.cell? (lb,3)=some (.pointer (some ⟨bb,0,none⟩)):=fun q=>(h.box.frm q.h aV).cell (i:=3) rfl;have hz4:∀q:HW (fun wx=>ae [ab,wb] w wx),q.w.cell? (lb,4)=some (.int .i64 d):=fun q=>(h.box.frm q.h aV).cell (i:=4) rfl;have hy1:∀q:HW (fun wx=>ae [ab,wb] w wx),q.w.cell? (sb,j*4+1)=some (.int .i64 (S j 1)):=fun q=>(h.row.frm q.h aV).cell (ag n S hj aO);have hy2:∀q:HW (fun wx=>ae [ab,wb] w wx),q.w.cell? (sb,j*4+2)=some (.int .i64 (S j 2)):=fun q=>(h.row.frm q.h aV).cell (ag n S hj aO);have hy3:∀q:HW (fun wx=>ae [ab,wb] w wx),q.w.cell? (sb,j*4+3)=some (.int .i64 (S j 3)):=fun q=>(h.row.frm q.h aV).cell (ag n S hj aO);clear h h0 hj;go_enter func310,ntmps310;go_wp2_with fail;refine aG (fun wx=>ae [ab,wb] w wx) ?_
 refine aR (fuel:=2) [0,1,2,3,4,5,6,7,8,10] rfl aF.drew1 ?_;rotate_left;iterate 2
  refine aR (fuel:=3) [0,1,2,3,4,5] rfl aF.drew1 ?_;rotate_left
 all_goals
  intro K hK;repeat (go_big_quiet_step (fail))
  refine wpQuiet_nil (hK _ ?_);clear hK K
 refine aL 9 (fuel:=1) rfl ?_;rotate_left;iterate 2
  refine aL 6 (fuel:=2) rfl ?_;rotate_left
 all_goals
  go_wp2_with fail
 refine(HNX.o _ (aF.drew1) _).mono ?_;rintro e w' ⟨rfl,rfl⟩;rotate_left;iterate 2
  refine(HWT.o _ (aF.drew1) _).mono ?_;rintro e w' ⟨rfl,rfl⟩;rotate_left
 all_goals
  go_wp2_with fail;refine af ⟨aF.drew1,?_⟩
 refine aL 11 (fuel:=0) rfl ?_;rotate_left;iterate 2
  refine aL 7 (fuel:=1) rfl ?_;rotate_left
 all_goals
  go_wp2_with fail
 refine(au (H.o.ar.frm (S:=[]) (aF.drew1) aS aS) (bj tail (S j 1)) ((j:Int)+1)).mono ?_;rintro e w1 ⟨rfl,hA,hF⟩;have HF1:=aH (((ae.refl [ab,wb] w).drew1).trans hF);have H1:=aH (H.o.ar_ HF1.o hA);have j1:=H1.o.p HJ.o (t:=1) aO;have j2:=H1.o.p HJ.o (t:=2) aO;have j3:=H1.o.p HJ.o (t:=3) aO;have jd:=H1.o.box.cell (i:=4) rfl;have jz:=H1.o.row.frozen;have jy:=H1.o.box.frozen;clear hA hF;rotate_left;iterate 2
  refine(bq (H.o.ar.frm (S:=[]) (aF.drew1) aS aS) (dD tail ((j:Int)+1))).mono ?_;rw[HG.o];rintro e w1 ⟨rfl,hA,hF⟩;have HF1:=aH (((ae.refl [ab,wb] w).drew1).trans hF);have H1:=aH (H.o.ar_ HF1.o hA);have j1:=H1.o.p HJ.o (t:=1) aO;have j2:=H1.o.p HJ.o (t:=2) aO;have j3:=H1.o.p HJ.o (t:=3) aO;have jd:=H1.o.box.cell (i:=4) rfl;have jz:=H1.o.row.frozen;have jy:=H1.o.box.frozen;clear hA hF;rotate_left
 all_goals
  go_wp2_with fail;refine af ⟨HF1.o,?_⟩
 rotate_left;iterate 2
  focus
   refine aR (fuel:=0) [8] rfl HF1.o ?_;intro K hK;repeat (go_big_quiet_step (fail))
   refine wpQuiet_nil (hK _ ?_);clear hK K
  rotate_left
 all_goals
  refine aN ?_;clear hne hz0 hz1 hz2 hz3 hz4 hy1 hy2 hy3;have HB:=aH H1.o;have HF2:=aH (HF1.o.mono (S':=[lb,sb,bb,ab,wb]) aS)
 have k0:w1.cell? (sb,j*4)=some (.int .i64 4):=by rw[←H0.o];exact HB.o.p0 HJ.o
 rotate_left;iterate 2
  have k0:w1.cell? (sb,j*4)=some (.int .i64 5):=by rw[←H0.o];exact HB.o.p0 HJ.o
  rotate_left
 all_goals
  have k1:=HB.o.p HJ.o (t:=1) aO;clear H1 HF1 j1 j2 j3 jd jz jy;go_wp2;go_ret;exact⟨rfl,HB.o,HF2.o⟩
def GH:= @And.left _ _ yP
def EG:= @And.left _ _ (@And.right _ _ yP)
def DI:= @And.right _ _ (@And.right _ _ yP)
theorem uY:(∀{w:World} {lb sb bb ab wb tail first n:Nat} {bud:Int} {A:AR} {B:BK} {d:Int} {S:Nat→Nat→Int} (h:bG w lb sb bb ab wb tail first n bud A B d S) {j:Nat} (hj:j<n) (h0:S j 0=11),Calls prog 311 #[some lb,.pointer (some ⟨sb,j*4,none⟩),((j:Int)+1:Int)] w fun e w'=>e= .returned (12:Int)∧bG w' lb sb bb ab wb tail first n bud (A.add (tail+1) 1) (B) (d) (ac S j 3 (A.addRes (tail+1) 1))∧ae [lb,sb,bb,ab,wb] w w')∧(∀{w:World} {lb sb bb ab wb tail first n:Nat} {bud:Int} {A:AR} {B:BK} {d:Int} {S:Nat→Nat→Int} (h:bG w lb sb bb ab wb tail first n bud A B d S) {j:Nat} (hj:j<n) (h0:S j 0=12) (hg:¬A.get (bj tail ((j:Int)+1))=0) (hm:¬(S j 3).tmod (bud+1)=0),Calls prog 311 #[some lb,.pointer (some ⟨sb,j*4,none⟩),((j:Int)+1:Int)] w fun e w'=>e= .returned (21:Int)∧bG w' lb sb bb ab wb tail first n bud (A.load (bj tail ((j:Int)+1))) (B) (d) (ac S j 1 (A.get (bj tail ((j:Int)+1))))∧ae [lb,sb,bb,ab,wb] w w')∧(∀{w:World} {lb sb bb ab wb tail first n:Nat} {bud:Int} {A:AR} {B:BK} {d:Int} {S:Nat→Nat→Int} (h:bG w lb sb bb ab wb tail first n bud A B d S) {j:Nat} (hj:j<n) (h0:S j 0=12) (hg:¬A.get (bj tail ((j:Int)+1))=0) (hm:(S j 3).tmod (bud+1)=0),Calls prog 311 #[some lb,.pointer (some ⟨sb,j*4,none⟩),((j:Int)+1:Int)] w fun e w'=>e= .returned (13:Int)∧bG w' lb sb bb ab wb tail first n bud (A.load (bj tail ((j:Int)+1))) (lN B) (d) (ac S j 1 (A.get (bj tail ((j:Int)+1))))∧ae [lb,sb,bb,ab,wb] w w')∧(∀{w:World} {lb sb bb ab wb tail first n:Nat} {bud:Int} {A:AR} {B:BK} {d:Int} {S:Nat→Nat→Int} (h:bG w lb sb bb ab wb tail first n bud A B d S) {j:Nat} (hj:j<n) (h0:S j 0=12) (hg:A.get (bj tail ((j:Int)+1))=0),Calls prog 311 #[some lb,.pointer (some ⟨sb,j*4,none⟩),((j:Int)+1:Int)] w fun e w'=>e= .returned (13:Int)∧bG w' lb sb bb ab wb tail first n bud (A.load (bj tail ((j:Int)+1))) (lN B) (d) (ac S j 1 (A.get (bj tail ((j:Int)+1))))∧ae [lb,sb,bb,ab,wb] w w'):=by
 refine⟨?_,?_,?_,?_⟩;intro w lb sb bb ab wb tail first n bud A B d S h j hj h0;rotate_left;iterate 2
  intro w lb sb bb ab wb tail first n bud A B d S h j hj h0 hg hm;rotate_left
 intro w lb sb bb ab wb tail first n bud A B d S h j hj h0 hg;rotate_left;all_goals
  have HN:=aH h.ne;have HJ:=aH hj;have hn32:=h.n32;have htb:=h.tb
 have c0:w.cell? (sb,j*4)=some (.int .i64 11):=by rw[←h0];exact h.p0 hj
 rotate_left;iterate 3
  have c0:w.cell? (sb,j*4)=some (.int .i64 12):=by rw[←h0];exact h.p0 hj
  rotate_left
 all_goals
  have c1:=h.p hj (t:=1) aO;have c2:=h.p hj (t:=2) aO;have c3:=h.p hj (t:=3) aO;have l0:=h.box.cell (i:=0) rfl;have l1:=h.box.cell (i:=1) rfl;have l2:=h.box.cell (i:=2) rfl;have l3:=h.box.cell (i:=3) rfl;have H:=aH h;have H0:=aH h0;have HNX:=aH (fun(W:World) (hf:ae [] w W) (y:Int)=>cL (h.frm hf aS) y);have HWT:=aH (fun(W:World) (hf:ae [] w W) (y:Int)=>cK (h.frm hf aS) y)
 rotate_left;generalize hv:A.get (bj tail ((j:Int)+1))=v at hg⊢;have HG:=aH hv;clear hv;have e0:(v==0)=false:=by simpa using hg
 have e1:(v !=0)=true:=by simpa using hg
 clear hg;have hb0:=h.b0;have hb1:=h.b1;have e2:((S j 3).tmod (bud+1)==0)=false:=by simpa using hm
 have e3:((S j 3).tmod (bud+1)!=0)=true:=by simpa using hm
 clear hm;rotate_left;generalize hv:A.get (bj tail ((j:Int)+1))=v at hg⊢;have HG:=aH hv;clear hv;have e0:(v==0)=false:=by simpa using hg
 have e1:(v !=0)=true:=by simpa using hg
 clear hg;have hb0:=h.b0;have hb1:=h.b1;have e2:((S j 3).tmod (bud+1)==0)=true:=by simpa using hm
 have e3:((S j 3).tmod (bud+1)!=0)=false:=by simpa using hm
 clear hm;rotate_left;have HG:=aH hg;rw[hg];clear hg;rotate_left;all_goals
  have hne:=aW [sb,ab,wb] w;have hz0:∀q:HW (fun wx=>ae [sb,ab,wb] w wx),q.w.cell? (lb,0)=some (.pointer (some ⟨ab,0,none⟩)):=fun q=>(h.box.frm q.h aV).cell (i:=0) rfl;have hz1:∀q:HW (fun wx=>ae [sb,ab,wb] w wx),q.w.cell? (lb,1)=some (.int .i64 tail):=fun q=>(h.box.frm q.h aV).cell (i:=1) rfl;have hz2:∀q:HW (fun wx=>ae [sb,ab,wb] w wx),q.w.cell? (lb,2)=some (.int .i64 bud):=fun q=>(h.box.frm q.h aV).cell (i:=2) rfl;have hz3:∀q:HW (fun wx=>ae [sb,ab,wb] w wx),q.w.cell? (lb,3)=some (.pointer (some ⟨bb,0,none⟩)):=fun q=>(h.box.frm q.h aV).cell (i:=3) rfl;have hz4:∀q:HW (fun wx=>ae [sb,ab,wb] w wx),q.w.cell? (lb,4)=some (.int .i64 d):=fun q=>(h.box.frm q.h aV).cell (i:=4) rfl;clear h h0 hj;go_enter func311,ntmps311;go_wp2_with fail;refine aG (fun wx=>ae [sb,ab,wb] w wx) ?_
 refine aR (fuel:=4) [0,1,2,3,4,5,6,7,8,9] rfl aF.drew1 ?_;rotate_left;iterate 3
  refine aR (fuel:=5) [0,1,2,3,4,5,6] rfl aF.drew1 ?_;rotate_left
 all_goals
  intro K hK;repeat (go_big_quiet_step (fail))
  refine wpQuiet_nil (hK _ ?_);clear hK K
 refine aL 10 (fuel:=3) rfl ?_;rotate_left;iterate 3
  refine aL 7 (fuel:=4) rfl ?_;rotate_left
 all_goals
  go_wp2_with fail
 refine(iB (H.o.ar.frm (S:=[]) (aF.drew1) aS aS) (tail+1) (1)).mono ?_;rintro e w1 ⟨rfl,hA,hF⟩;have HF1:=aH (((ae.refl [ab,wb] w).drew1).trans hF);have H1:=aH (H.o.ar_ HF1.o hA);have j1:=H1.o.p HJ.o (t:=1) aO;have j2:=H1.o.p HJ.o (t:=2) aO;have j3:=H1.o.p HJ.o (t:=3) aO;have jd:=H1.o.box.cell (i:=4) rfl;have jz:=H1.o.row.frozen;have jy:=H1.o.box.frozen;clear hA hF;rotate_left;iterate 3
  refine(HNX.o _ (aF.drew1) _).mono ?_;rintro e w' ⟨rfl,rfl⟩;rotate_left
 all_goals
  go_wp2_with fail
 rotate_left;iterate 3
  focus
   refine af ⟨aF.drew1,?_⟩;refine aL 8 (fuel:=3) rfl ?_;go_wp2_with fail;refine(bq (H.o.ar.frm (S:=[]) (aF.drew1) aS aS) (bj tail ((j:Int)+1))).mono ?_;rw[HG.o];rintro e w1 ⟨rfl,hA,hF⟩;have HF1:=aH (((ae.refl [ab,wb] w).drew1).trans hF);have H1:=aH (H.o.ar_ HF1.o hA);have j1:=H1.o.p HJ.o (t:=1) aO;have j2:=H1.o.p HJ.o (t:=2) aO;have j3:=H1.o.p HJ.o (t:=3) aO;have jd:=H1.o.box.cell (i:=4) rfl;have jz:=H1.o.row.frozen;have jy:=H1.o.box.frozen;clear hA hF;go_wp2_with fail
  rotate_left
 all_goals
  refine af ⟨(HF1.o.mono (S':=[sb,ab,wb]) aS),?_⟩
 refine aR (fuel:=1) [11,12] rfl (HF1.o.mono (S':=[sb,ab,wb]) aS) ?_;rotate_left;iterate 3
  refine aR (fuel:=1) [9,10] rfl (HF1.o.mono (S':=[sb,ab,wb]) aS) ?_;rotate_left
 all_goals
  intro K hK;repeat (go_big_quiet_step (fail))
  refine wpQuiet_nil (hK _ ?_);clear hK K
 refine aL 13 (fuel:=0) rfl ?_;rotate_left;iterate 3
  refine aL 11 (fuel:=0) rfl ?_;rotate_left
 all_goals
  go_wp2_with fail
 refine af ⟨((HF1.o.mono (S':=[sb,ab,wb]) aS).set ⟨sb,j*4+3,none⟩ (.int .i64 (A.addRes (tail+1) 1)) (.inl aS)),?_⟩;rotate_left;iterate 2
  refine af ⟨((HF1.o.mono (S':=[sb,ab,wb]) aS).set ⟨sb,j*4+1,none⟩ (.int .i64 v) (.inl aS)),?_⟩;rotate_left
 refine af ⟨((HF1.o.mono (S':=[sb,ab,wb]) aS).set ⟨sb,j*4+1,none⟩ (.int .i64 0) (.inl aS)),?_⟩;rotate_left;all_goals
  refine aN ?_;clear hne hz0 hz1 hz2 hz3 hz4
 have HB:=aH (H1.o.put j (t:=3) aO (A.addRes (tail+1) 1));have HF2:=aH ((HF1.o.mono (S':=[lb,sb,bb,ab,wb]) aS).set ⟨sb,j*4+3,none⟩ (.int .i64 (A.addRes (tail+1) 1)) (.inl aS));rotate_left;iterate 2
  have HB:=aH (H1.o.put j (t:=1) aO v);have HF2:=aH ((HF1.o.mono (S':=[lb,sb,bb,ab,wb]) aS).set ⟨sb,j*4+1,none⟩ (.int .i64 v) (.inl aS));rotate_left
 have HB:=aH (H1.o.put j (t:=1) aO 0);have HF2:=aH ((HF1.o.mono (S':=[lb,sb,bb,ab,wb]) aS).set ⟨sb,j*4+1,none⟩ (.int .i64 0) (.inl aS));rotate_left;all_goals
  clear H1 HF1 j1 j2 j3 jd jz jy
 generalize(w1.setCell (sb,j*4+3) (.int .i64 (A.addRes (tail+1) 1)))=W2 at*;have k0:W2.cell? (sb,j*4)=some (.int .i64 11):=by rw[←H0.o];exact(HB.o.p0 HJ.o).trans (by unfold ac;simp)
 have kt:W2.cell? (sb,j*4+3)=some (.int .i64 (A.addRes (tail+1) 1)):=(HB.o.p HJ.o (t:=3) aO).trans (by unfold ac;simp);rotate_left
 focus
  generalize(w1.setCell (sb,j*4+1) (.int .i64 v))=W2 at*;have k0:W2.cell? (sb,j*4)=some (.int .i64 12):=by rw[←H0.o];exact(HB.o.p0 HJ.o).trans (by unfold ac;simp)
  have kt:W2.cell? (sb,j*4+1)=some (.int .i64 v):=(HB.o.p HJ.o (t:=1) aO).trans (by unfold ac;simp);have k3:=(HB.o.p HJ.o (t:=3) aO).trans (show some (Value.int .i64 (ac S j 1 v j 3))=some (.int .i64 (S j 3)) by unfold ac;simp);have m2:=HB.o.box.cell (i:=2) rfl;have m3:=HB.o.box.cell (i:=3) rfl;go_wp2_with fail;obtain⟨W3,rfl⟩:∃W,W=W2:=⟨_,rfl⟩
  have hne:=aW [] W3;have hzt:∀q:HW (fun wx=>ae [] W3 wx),q.w.cell? (sb,j*4+1)=some (.int .i64 v):=fun q=>q.h.cell kt aS;have hz3:∀q:HW (fun wx=>ae [] W3 wx),q.w.cell? (sb,j*4+3)=some (.int .i64 (S j 3)):=fun q=>q.h.cell k3 aS;have hzb:∀q:HW (fun wx=>ae [] W3 wx),q.w.cell? (lb,2)=some (.int .i64 bud):=fun q=>q.h.cell m2 aS;refine aG (fun wx=>ae [] W3 wx) ?_;refine aR (fuel:=0) [0,1,2,3,4,5,6,7,8,9,10,11,12,13,14,15,16,17] rfl aF.drew1 ?_;intro K hK;repeat (go_big_quiet_step (fail))
  refine wpQuiet_nil (hK _ ?_);clear hK K;refine aN ?_;have HB4:=aH (HB.o.frm (ae.refl [] _).drew1 aS);have HF4:=aH HF2.o.drew1;clear hne hzt hz3 hzb HB HF2 kt k3 k0 m2 m3;generalize W3.drew=W4 at*;have m3:=HB4.o.box.cell (i:=3) rfl;obtain⟨HB,rfl⟩:∃H,H=HB4:=⟨_,rfl⟩
  obtain⟨HF2,rfl⟩:∃H,H=HF4:=⟨_,rfl⟩
  go_wp2_with fail
 rotate_left
 focus
  generalize(w1.setCell (sb,j*4+1) (.int .i64 v))=W2 at*;have k0:W2.cell? (sb,j*4)=some (.int .i64 12):=by rw[←H0.o];exact(HB.o.p0 HJ.o).trans (by unfold ac;simp)
  have kt:W2.cell? (sb,j*4+1)=some (.int .i64 v):=(HB.o.p HJ.o (t:=1) aO).trans (by unfold ac;simp);have k3:=(HB.o.p HJ.o (t:=3) aO).trans (show some (Value.int .i64 (ac S j 1 v j 3))=some (.int .i64 (S j 3)) by unfold ac;simp);have m2:=HB.o.box.cell (i:=2) rfl;have m3:=HB.o.box.cell (i:=3) rfl;go_wp2_with fail;obtain⟨W3,rfl⟩:∃W,W=W2:=⟨_,rfl⟩
  have hne:=aW [] W3;have hzt:∀q:HW (fun wx=>ae [] W3 wx),q.w.cell? (sb,j*4+1)=some (.int .i64 v):=fun q=>q.h.cell kt aS;have hz3:∀q:HW (fun wx=>ae [] W3 wx),q.w.cell? (sb,j*4+3)=some (.int .i64 (S j 3)):=fun q=>q.h.cell k3 aS;have hzb:∀q:HW (fun wx=>ae [] W3 wx),q.w.cell? (lb,2)=some (.int .i64 bud):=fun q=>q.h.cell m2 aS;refine aG (fun wx=>ae [] W3 wx) ?_;refine aR (fuel:=0) [0,1,2,3,4,5,6,7,8,9,10,11,12,13,14,15,16,17] rfl aF.drew1 ?_;intro K hK;repeat (go_big_quiet_step (fail))
  refine wpQuiet_nil (hK _ ?_);clear hK K;refine aN ?_;have HB4:=aH (HB.o.frm (ae.refl [] _).drew1 aS);have HF4:=aH HF2.o.drew1;clear hne hzt hz3 hzb HB HF2 kt k3 k0 m2 m3;generalize W3.drew=W4 at*;have m3:=HB4.o.box.cell (i:=3) rfl;obtain⟨HB,rfl⟩:∃H,H=HB4:=⟨_,rfl⟩
  obtain⟨HF2,rfl⟩:∃H,H=HF4:=⟨_,rfl⟩
  go_wp2_with fail;refine(pz HB.o.bn).mono ?_;rintro e w3 ⟨rfl,hB,hF⟩;have HM:=aH (HB.o.bn_ (hF.mono aS) hB (HB.o.ar.frm hF aV aV));have HF3:=aH (HF2.o.trans (hF.mono aS));clear hB hF
 rotate_left
 focus
  generalize(w1.setCell (sb,j*4+1) (.int .i64 0))=W2 at*;have k0:W2.cell? (sb,j*4)=some (.int .i64 12):=by rw[←H0.o];exact(HB.o.p0 HJ.o).trans (by unfold ac;simp)
  have kt:W2.cell? (sb,j*4+1)=some (.int .i64 0):=(HB.o.p HJ.o (t:=1) aO).trans (by unfold ac;simp);have k3:=(HB.o.p HJ.o (t:=3) aO).trans (show some (Value.int .i64 (ac S j 1 0 j 3))=some (.int .i64 (S j 3)) by unfold ac;simp);have m2:=HB.o.box.cell (i:=2) rfl;have m3:=HB.o.box.cell (i:=3) rfl;go_wp2_with fail;obtain⟨W3,rfl⟩:∃W,W=W2:=⟨_,rfl⟩
  have hne:=aW [] W3;have hzt:∀q:HW (fun wx=>ae [] W3 wx),q.w.cell? (sb,j*4+1)=some (.int .i64 0):=fun q=>q.h.cell kt aS;have hz3:∀q:HW (fun wx=>ae [] W3 wx),q.w.cell? (sb,j*4+3)=some (.int .i64 (S j 3)):=fun q=>q.h.cell k3 aS;have hzb:∀q:HW (fun wx=>ae [] W3 wx),q.w.cell? (lb,2)=some (.int .i64 bud):=fun q=>q.h.cell m2 aS;refine aG (fun wx=>ae [] W3 wx) ?_;refine aR (fuel:=0) [0,1,2,3,4,5,6,7,8,9,10,11,12,13,14,15,16,17] rfl aF.drew1 ?_;intro K hK;repeat (go_big_quiet_step (fail))
  refine wpQuiet_nil (hK _ ?_);clear hK K;refine aN ?_;have HB4:=aH (HB.o.frm (ae.refl [] _).drew1 aS);have HF4:=aH HF2.o.drew1;clear hne hzt hz3 hzb HB HF2 kt k3 k0 m2 m3;generalize W3.drew=W4 at*;have m3:=HB4.o.box.cell (i:=3) rfl;obtain⟨HB,rfl⟩:∃H,H=HB4:=⟨_,rfl⟩
  obtain⟨HF2,rfl⟩:∃H,H=HF4:=⟨_,rfl⟩
  go_wp2_with fail;refine(pz HB.o.bn).mono ?_;rintro e w3 ⟨rfl,hB,hF⟩;have HM:=aH (HB.o.bn_ (hF.mono aS) hB (HB.o.ar.frm hF aV aV));have HF3:=aH (HF2.o.trans (hF.mono aS));clear hB hF
 rotate_left;all_goals
  go_wp2;go_ret
 iterate 2
  exact⟨rfl,HB.o,HF2.o⟩
 iterate 2
  exact⟨rfl,HM.o,HF3.o⟩
def Ke:= @And.left _ _ uY
def Hm:= @And.left _ _ (@And.right _ _ uY)
def GN:= @And.left _ _ (@And.right _ _ (@And.right _ _ uY))
def ID:= @And.right _ _ (@And.right _ _ (@And.right _ _ uY))
end
section
variable{w w':World} {lb sb bb ab wb tail first n:Nat} {bud:Int} {A A':AR} {B B':BK} {d:Int} {S:Nat→Nat→Int}
theorem qv:(∀{w:World} {lb sb bb ab wb tail first n:Nat} {bud:Int} {A:AR} {B:BK} {d:Int} {S:Nat→Nat→Int} (h:bG w lb sb bb ab wb tail first n bud A B d S) {j:Nat} (hj:j<n) (h0:S j 0=17) (hg:A.get (bj tail ((j:Int)+1))=0),Calls prog 312 #[some lb,.pointer (some ⟨sb,j*4,none⟩),((j:Int)+1:Int)] w fun e w'=>e= .returned (17:Int)∧bG w' lb sb bb ab wb tail first n bud (A.load (bj tail ((j:Int)+1))) (B) (d) (ac S j 1 (A.get (bj tail ((j:Int)+1))))∧ae [lb,sb,bb,ab,wb] w w')∧(∀{w:World} {lb sb bb ab wb tail first n:Nat} {bud:Int} {A:AR} {B:BK} {d:Int} {S:Nat→Nat→Int} (h:bG w lb sb bb ab wb tail first n bud A B d S) {j:Nat} (hj:j<n) (h0:S j 0=20) (hg:A.get (bj tail ((j:Int)+1))=0),Calls prog 312 #[some lb,.pointer (some ⟨sb,j*4,none⟩),((j:Int)+1:Int)] w fun e w'=>e= .returned (20:Int)∧bG w' lb sb bb ab wb tail first n bud (A.load (bj tail ((j:Int)+1))) (B) (d) (ac S j 1 (A.get (bj tail ((j:Int)+1))))∧ae [lb,sb,bb,ab,wb] w w')∧(∀{w:World} {lb sb bb ab wb tail first n:Nat} {bud:Int} {A:AR} {B:BK} {d:Int} {S:Nat→Nat→Int} (h:bG w lb sb bb ab wb tail first n bud A B d S) {j:Nat} (hj:j<n) (h0:S j 0=20) (hg:¬A.get (bj tail ((j:Int)+1))=0),Calls prog 312 #[some lb,.pointer (some ⟨sb,j*4,none⟩),((j:Int)+1:Int)] w fun e w'=>e= .returned (21:Int)∧bG w' lb sb bb ab wb tail first n bud (A.load (bj tail ((j:Int)+1))) (B) (d) (ac S j 1 (A.get (bj tail ((j:Int)+1))))∧ae [lb,sb,bb,ab,wb] w w')∧(∀{w:World} {lb sb bb ab wb tail first n:Nat} {bud:Int} {A:AR} {B:BK} {d:Int} {S:Nat→Nat→Int} (h:bG w lb sb bb ab wb tail first n bud A B d S) {j:Nat} (hj:j<n) (h0:S j 0=17) (hg:¬A.get (bj tail ((j:Int)+1))=0),Calls prog 312 #[some lb,.pointer (some ⟨sb,j*4,none⟩),((j:Int)+1:Int)] w fun e w'=>e= .returned (14:Int)∧bG w' lb sb bb ab wb tail first n bud (A.load (bj tail ((j:Int)+1))) (B) (d) (ac S j 1 (A.get (bj tail ((j:Int)+1))))∧ae [lb,sb,bb,ab,wb] w w'):=by
 refine⟨?_,?_,?_,?_⟩;all_goals
  intro w lb sb bb ab wb tail first n bud A B d S h j hj h0 hg
 all_goals
  have HN:=aH h.ne;have HJ:=aH hj;have hn32:=h.n32;have htb:=h.tb
 have c0:w.cell? (sb,j*4)=some (.int .i64 17):=by rw[←h0];exact h.p0 hj
 rotate_left;iterate 2
  have c0:w.cell? (sb,j*4)=some (.int .i64 20):=by rw[←h0];exact h.p0 hj
  rotate_left
 have c0:w.cell? (sb,j*4)=some (.int .i64 17):=by rw[←h0];exact h.p0 hj
 rotate_left;all_goals
  have c1:=h.p hj (t:=1) aO;have c2:=h.p hj (t:=2) aO;have c3:=h.p hj (t:=3) aO;have l0:=h.box.cell (i:=0) rfl;have l1:=h.box.cell (i:=1) rfl;have l2:=h.box.cell (i:=2) rfl;have l3:=h.box.cell (i:=3) rfl;have H:=aH h;have H0:=aH h0;have HNX:=aH (fun(W:World) (hf:ae [] w W) (y:Int)=>cL (h.frm hf aS) y);have HWT:=aH (fun(W:World) (hf:ae [] w W) (y:Int)=>cK (h.frm hf aS) y)
 iterate 2
  have HG:=aH hg;rw[hg];rotate_left
 iterate 2
  generalize hv:A.get (bj tail ((j:Int)+1))=v at hg⊢;have HG:=aH hv;clear hv;have e0:(v==0)=false:=by simpa using hg
  have e1:(v !=0)=true:=by simpa using hg
  rotate_left
 all_goals
  clear hg;have hne:=aW [sb,ab,wb] w;have hz0:∀q:HW (fun wx=>ae [sb,ab,wb] w wx),q.w.cell? (lb,0)=some (.pointer (some ⟨ab,0,none⟩)):=fun q=>(h.box.frm q.h aV).cell (i:=0) rfl;have hz1:∀q:HW (fun wx=>ae [sb,ab,wb] w wx),q.w.cell? (lb,1)=some (.int .i64 tail):=fun q=>(h.box.frm q.h aV).cell (i:=1) rfl;have hz2:∀q:HW (fun wx=>ae [sb,ab,wb] w wx),q.w.cell? (lb,2)=some (.int .i64 bud):=fun q=>(h.box.frm q.h aV).cell (i:=2) rfl;have hz3:∀q:HW (fun wx=>ae [sb,ab,wb] w wx),q.w.cell? (lb,3)=some (.pointer (some ⟨bb,0,none⟩)):=fun q=>(h.box.frm q.h aV).cell (i:=3) rfl;have hz4:∀q:HW (fun wx=>ae [sb,ab,wb] w wx),q.w.cell? (lb,4)=some (.int .i64 d):=fun q=>(h.box.frm q.h aV).cell (i:=4) rfl;clear h h0 hj;go_enter func312,ntmps312;go_wp2_with fail;refine aG (fun wx=>ae [sb,ab,wb] w wx) ?_;refine aR (fuel:=5) [0,1,2,3,4,5,6] rfl aF.drew1 ?_;intro K hK;repeat (go_big_quiet_step (fail))
  refine wpQuiet_nil (hK _ ?_);clear hK K;refine aL 7 (fuel:=4) rfl ?_;go_wp2_with fail;refine(HNX.o _ (aF.drew1) _).mono ?_;rintro e w' ⟨rfl,rfl⟩;go_wp2_with fail;refine af ⟨aF.drew1,?_⟩;refine aL 8 (fuel:=3) rfl ?_;go_wp2_with fail;refine(bq (H.o.ar.frm (S:=[]) (aF.drew1) aS aS) (bj tail ((j:Int)+1))).mono ?_;rw[HG.o];rintro e w1 ⟨rfl,hA,hF⟩;have HF1:=aH (((ae.refl [ab,wb] w).drew1).trans hF);have H1:=aH (H.o.ar_ HF1.o hA);have j1:=H1.o.p HJ.o (t:=1) aO;have j2:=H1.o.p HJ.o (t:=2) aO;have j3:=H1.o.p HJ.o (t:=3) aO;have jd:=H1.o.box.cell (i:=4) rfl;have jz:=H1.o.row.frozen;have jy:=H1.o.box.frozen;clear hA hF;go_wp2_with fail;refine af ⟨(HF1.o.mono (S':=[sb,ab,wb]) aS),?_⟩;refine aR (fuel:=1) [9,10] rfl (HF1.o.mono (S':=[sb,ab,wb]) aS) ?_;intro K hK;repeat (go_big_quiet_step (fail))
  refine wpQuiet_nil (hK _ ?_);clear hK K;refine aL 11 (fuel:=0) rfl ?_;go_wp2_with fail
 iterate 2
  refine af ⟨((HF1.o.mono (S':=[sb,ab,wb]) aS).set ⟨sb,j*4+1,none⟩ (.int .i64 0) (.inl aS)),?_⟩;rotate_left
 iterate 2
  refine af ⟨((HF1.o.mono (S':=[sb,ab,wb]) aS).set ⟨sb,j*4+1,none⟩ (.int .i64 v) (.inl aS)),?_⟩;rotate_left
 all_goals
  refine aN ?_;clear hne hz0 hz1 hz2 hz3 hz4
 iterate 2
  have HB:=aH (H1.o.put j (t:=1) aO 0);have HF2:=aH ((HF1.o.mono (S':=[lb,sb,bb,ab,wb]) aS).set ⟨sb,j*4+1,none⟩ (.int .i64 0) (.inl aS));rotate_left
 iterate 2
  have HB:=aH (H1.o.put j (t:=1) aO v);have HF2:=aH ((HF1.o.mono (S':=[lb,sb,bb,ab,wb]) aS).set ⟨sb,j*4+1,none⟩ (.int .i64 v) (.inl aS));rotate_left
 all_goals
  clear H1 HF1 j1 j2 j3 jd jz jy
 generalize(w1.setCell (sb,j*4+1) (.int .i64 0))=W2 at*;have k0:W2.cell? (sb,j*4)=some (.int .i64 17):=by rw[←H0.o];exact(HB.o.p0 HJ.o).trans (by unfold ac;simp)
 have kt:W2.cell? (sb,j*4+1)=some (.int .i64 0):=(HB.o.p HJ.o (t:=1) aO).trans (by unfold ac;simp);rotate_left;generalize(w1.setCell (sb,j*4+1) (.int .i64 0))=W2 at*;have k0:W2.cell? (sb,j*4)=some (.int .i64 20):=by rw[←H0.o];exact(HB.o.p0 HJ.o).trans (by unfold ac;simp)
 have kt:W2.cell? (sb,j*4+1)=some (.int .i64 0):=(HB.o.p HJ.o (t:=1) aO).trans (by unfold ac;simp);rotate_left;generalize(w1.setCell (sb,j*4+1) (.int .i64 v))=W2 at*;have k0:W2.cell? (sb,j*4)=some (.int .i64 20):=by rw[←H0.o];exact(HB.o.p0 HJ.o).trans (by unfold ac;simp)
 have kt:W2.cell? (sb,j*4+1)=some (.int .i64 v):=(HB.o.p HJ.o (t:=1) aO).trans (by unfold ac;simp);rotate_left;generalize(w1.setCell (sb,j*4+1) (.int .i64 v))=W2 at*;have k0:W2.cell? (sb,j*4)=some (.int .i64 17):=by rw[←H0.o];exact(HB.o.p0 HJ.o).trans (by unfold ac;simp)
 have kt:W2.cell? (sb,j*4+1)=some (.int .i64 v):=(HB.o.p HJ.o (t:=1) aO).trans (by unfold ac;simp);rotate_left;all_goals
  go_wp2;go_ret;exact⟨rfl,HB.o,HF2.o⟩
def GP:= @And.left _ _ qv
def IM:= @And.left _ _ (@And.right _ _ qv)
def Hw:= @And.left _ _ (@And.right _ _ (@And.right _ _ qv))
def GX:= @And.right _ _ (@And.right _ _ (@And.right _ _ qv))
theorem sW:(∀{w:World} {lb sb bb ab wb tail first n:Nat} {bud:Int} {A:AR} {B:BK} {d:Int} {S:Nat→Nat→Int} (h:bG w lb sb bb ab wb tail first n bud A B d S) {j:Nat} (hj:j<n) (h0:S j 0=18),Calls prog 312 #[some lb,.pointer (some ⟨sb,j*4,none⟩),((j:Int)+1:Int)] w fun e w'=>e= .returned (0:Int)∧bG w' lb sb bb ab wb tail first n bud (A.store (dD tail (S j 2)) 0) (B) (d) (S)∧ae [lb,sb,bb,ab,wb] w w')∧(∀{w:World} {lb sb bb ab wb tail first n:Nat} {bud:Int} {A:AR} {B:BK} {d:Int} {S:Nat→Nat→Int} (h:bG w lb sb bb ab wb tail first n bud A B d S) {j:Nat} (hj:j<n) (h0:S j 0=19) (hg:A.casOk tail ((j:Int)+1)=true),Calls prog 312 #[some lb,.pointer (some ⟨sb,j*4,none⟩),((j:Int)+1:Int)] w fun e w'=>e= .returned (0:Int)∧bG w' lb sb bb ab wb tail first n bud (A.cas tail ((j:Int)+1) 0) (B) (d) (S)∧ae [lb,sb,bb,ab,wb] w w')∧(∀{w:World} {lb sb bb ab wb tail first n:Nat} {bud:Int} {A:AR} {B:BK} {d:Int} {S:Nat→Nat→Int} (h:bG w lb sb bb ab wb tail first n bud A B d S) {j:Nat} (hj:j<n) (h0:S j 0=19) (hg:A.casOk tail ((j:Int)+1)=false),Calls prog 312 #[some lb,.pointer (some ⟨sb,j*4,none⟩),((j:Int)+1:Int)] w fun e w'=>e= .returned (20:Int)∧bG w' lb sb bb ab wb tail first n bud (A.cas tail ((j:Int)+1) 0) (B) (d) (S)∧ae [lb,sb,bb,ab,wb] w w'):=by
 refine⟨?_,?_,?_⟩;intro w lb sb bb ab wb tail first n bud A B d S h j hj h0;rotate_left;iterate 2
  intro w lb sb bb ab wb tail first n bud A B d S h j hj h0 hg;rotate_left
 all_goals
  have HN:=aH h.ne;have HJ:=aH hj;have hn32:=h.n32;have htb:=h.tb
 have c0:w.cell? (sb,j*4)=some (.int .i64 18):=by rw[←h0];exact h.p0 hj
 rotate_left;iterate 2
  have c0:w.cell? (sb,j*4)=some (.int .i64 19):=by rw[←h0];exact h.p0 hj
  rotate_left
 all_goals
  have c1:=h.p hj (t:=1) aO;have c2:=h.p hj (t:=2) aO;have c3:=h.p hj (t:=3) aO;have l0:=h.box.cell (i:=0) rfl;have l1:=h.box.cell (i:=1) rfl;have l2:=h.box.cell (i:=2) rfl;have l3:=h.box.cell (i:=3) rfl;have H:=aH h;have H0:=aH h0;have HNX:=aH (fun(W:World) (hf:ae [] w W) (y:Int)=>cL (h.frm hf aS) y);have HWT:=aH (fun(W:World) (hf:ae [] w W) (y:Int)=>cK (h.frm hf aS) y)
 rotate_left;iterate 2
  have HG:=aH hg;clear hg;rotate_left
 all_goals
  have hne:=aW [ab,wb] w;have hz0:∀q:HW (fun wx=>ae [ab,wb] w wx),q.w.cell? (lb,0)=some (.pointer (some ⟨ab,0,none⟩)):=fun q=>(h.box.frm q.h aV).cell (i:=0) rfl;have hz1:∀q:HW (fun wx=>ae [ab,wb] w wx),q.w.cell? (lb,1)=some (.int .i64 tail):=fun q=>(h.box.frm q.h aV).cell (i:=1) rfl;have hz2:∀q:HW (fun wx=>ae [ab,wb] w wx),q.w.cell? (lb,2)=some (.int .i64 bud):=fun q=>(h.box.frm q.h aV).cell (i:=2) rfl;have hz3:∀q:HW (fun wx=>ae [ab,wb] w wx),q.w.cell? (lb,3)=some (.pointer (some ⟨bb,0,none⟩)):=fun q=>(h.box.frm q.h aV).cell (i:=3) rfl;have hz4:∀q:HW (fun wx=>ae [ab,wb] w wx),q.w.cell? (lb,4)=some (.int .i64 d):=fun q=>(h.box.frm q.h aV).cell (i:=4) rfl;have hy1:∀q:HW (fun wx=>ae [ab,wb] w wx),q.w.cell? (sb,j*4+1)=some (.int .i64 (S j 1)):=fun q=>(h.row.frm q.h aV).cell (ag n S hj aO);have hy2:∀q:HW (fun wx=>ae [ab,wb] w wx),q.w.cell? (sb,j*4+2)=some (.int .i64 (S j 2)):=fun q=>(h.row.frm q.h aV).cell (ag n S hj aO);have hy3:∀q:HW (fun wx=>ae [ab,wb] w wx),q.w.cell? (sb,j*4+3)=some (.int .i64 (S j 3)):=fun q=>(h.row.frm q.h aV).cell (ag n S hj aO);clear h h0 hj;go_enter func312,ntmps312;go_wp2_with fail;refine aG (fun wx=>ae [ab,wb] w wx) ?_;refine aR (fuel:=2) [0,1,2,3,4,5,6,7,8] rfl aF.drew1 ?_;intro K hK;repeat (go_big_quiet_step (fail))
  refine wpQuiet_nil (hK _ ?_);clear hK K;refine aL 9 (fuel:=1) rfl ?_;go_wp2_with fail
 refine(HWT.o _ (aF.drew1) _).mono ?_;rintro e w' ⟨rfl,rfl⟩;rotate_left;iterate 2
  refine(ii (H.o.ar.frm (S:=[]) (aF.drew1) aS aS) (tail) ((j:Int)+1) (0)).mono ?_;rw[HG.o];rintro e w1 ⟨rfl,hA,hF⟩;have HF1:=aH (((ae.refl [ab,wb] w).drew1).trans hF);have H1:=aH (H.o.ar_ HF1.o hA);have j1:=H1.o.p HJ.o (t:=1) aO;have j2:=H1.o.p HJ.o (t:=2) aO;have j3:=H1.o.p HJ.o (t:=3) aO;have jd:=H1.o.box.cell (i:=4) rfl;have jz:=H1.o.row.frozen;have jy:=H1.o.box.frozen;clear hA hF;rotate_left
 all_goals
  go_wp2_with fail
 focus
  refine af ⟨aF.drew1,?_⟩;refine aL 10 (fuel:=0) rfl ?_;go_wp2_with fail;refine(au (H.o.ar.frm (S:=[]) (aF.drew1) aS aS) (dD tail (S j 2)) (0)).mono ?_;rintro e w1 ⟨rfl,hA,hF⟩;have HF1:=aH (((ae.refl [ab,wb] w).drew1).trans hF);have H1:=aH (H.o.ar_ HF1.o hA);have j1:=H1.o.p HJ.o (t:=1) aO;have j2:=H1.o.p HJ.o (t:=2) aO;have j3:=H1.o.p HJ.o (t:=3) aO;have jd:=H1.o.box.cell (i:=4) rfl;have jz:=H1.o.row.frozen;have jy:=H1.o.box.frozen;clear hA hF;go_wp2_with fail
 rotate_left;rotate_left 2;all_goals
  refine af ⟨HF1.o,?_⟩
 rotate_left;iterate 2
  focus
   refine aR (fuel:=0) [10] rfl HF1.o ?_;intro K hK;repeat (go_big_quiet_step (fail))
   refine wpQuiet_nil (hK _ ?_);clear hK K
  rotate_left
 all_goals
  refine aN ?_;clear hne hz0 hz1 hz2 hz3 hz4 hy1 hy2 hy3;have HB:=aH H1.o;have HF2:=aH (HF1.o.mono (S':=[lb,sb,bb,ab,wb]) aS)
 have k0:w1.cell? (sb,j*4)=some (.int .i64 18):=by rw[←H0.o];exact HB.o.p0 HJ.o
 rotate_left;iterate 2
  have k0:w1.cell? (sb,j*4)=some (.int .i64 19):=by rw[←H0.o];exact HB.o.p0 HJ.o
  rotate_left
 all_goals
  have k1:=HB.o.p HJ.o (t:=1) aO;clear H1 HF1 j1 j2 j3 jd jz jy;go_wp2;go_ret;exact⟨rfl,HB.o,HF2.o⟩
def Ka:= @And.left _ _ sW
def IF:= @And.left _ _ (@And.right _ _ sW)
def IB:= @And.right _ _ (@And.right _ _ sW)
theorem ze:(∀{w:World} {lb sb bb ab wb tail first n:Nat} {bud:Int} {A:AR} {B:BK} {d:Int} {S:Nat→Nat→Int} (h:bG w lb sb bb ab wb tail first n bud A B d S) {j:Nat} (hj:j<n) (h0:S j 0=21) (hg:A.get (bj tail (S j 1))=0),Calls prog 312 #[some lb,.pointer (some ⟨sb,j*4,none⟩),((j:Int)+1:Int)] w fun e w'=>e= .returned (24:Int)∧bG w' lb sb bb ab wb tail first n bud (A.load (bj tail (S j 1))) (B) (A.get (bj tail (S j 1))) (S)∧ae [lb,sb,bb,ab,wb] w w')∧(∀{w:World} {lb sb bb ab wb tail first n:Nat} {bud:Int} {A:AR} {B:BK} {d:Int} {S:Nat→Nat→Int} (h:bG w lb sb bb ab wb tail first n bud A B d S) {j:Nat} (hj:j<n) (h0:S j 0=21) (hg:¬A.get (bj tail (S j 1))=0),Calls prog 312 #[some lb,.pointer (some ⟨sb,j*4,none⟩),((j:Int)+1:Int)] w fun e w'=>e= .returned (22:Int)∧bG w' lb sb bb ab wb tail first n bud (A.load (bj tail (S j 1))) (rq n B (S j 1)) (A.get (bj tail (S j 1))) (S)∧ae [lb,sb,bb,ab,wb] w w'):=by
 refine⟨?_,?_⟩;all_goals
  intro w lb sb bb ab wb tail first n bud A B d S h j hj h0 hg
 all_goals
  have HN:=aH h.ne;have HJ:=aH hj;have hn32:=h.n32;have htb:=h.tb;have c0:w.cell? (sb,j*4)=some (.int .i64 21):=by rw[←h0];exact h.p0 hj
  have c1:=h.p hj (t:=1) aO;have c2:=h.p hj (t:=2) aO;have c3:=h.p hj (t:=3) aO;have l0:=h.box.cell (i:=0) rfl;have l1:=h.box.cell (i:=1) rfl;have l2:=h.box.cell (i:=2) rfl;have l3:=h.box.cell (i:=3) rfl;have H:=aH h;have H0:=aH h0;have HNX:=aH (fun(W:World) (hf:ae [] w W) (y:Int)=>cL (h.frm hf aS) y);have HWT:=aH (fun(W:World) (hf:ae [] w W) (y:Int)=>cK (h.frm hf aS) y)
 have HG:=aH hg;rw[hg];rotate_left;generalize hv:A.get (bj tail (S j 1))=v at hg⊢;have HG:=aH hv;clear hv;have e0:(v==0)=false:=by simpa using hg
 have e1:(v !=0)=true:=by simpa using hg
 rotate_left;all_goals
  clear hg;have hne:Nonempty (HW (fun wx=>ae [lb,ab,wb] w wx∧wx.cell? (lb,0)=some (.pointer (some ⟨ab,0,none⟩)))):=⟨⟨w,⟨aF,l0⟩⟩⟩
  have hz0:∀q:HW (fun wx=>ae [lb,ab,wb] w wx∧wx.cell? (lb,0)=some (.pointer (some ⟨ab,0,none⟩))),q.w.cell? (lb,0)=some (.pointer (some ⟨ab,0,none⟩)):=fun q=>q.h.2;have hy1:∀q:HW (fun wx=>ae [lb,ab,wb] w wx∧wx.cell? (lb,0)=some (.pointer (some ⟨ab,0,none⟩))),q.w.cell? (sb,j*4+1)=some (.int .i64 (S j 1)):=fun q=>(h.row.frm q.h.1 aV).cell (ag n S hj aO);have hy2:∀q:HW (fun wx=>ae [lb,ab,wb] w wx∧wx.cell? (lb,0)=some (.pointer (some ⟨ab,0,none⟩))),q.w.cell? (sb,j*4+2)=some (.int .i64 (S j 2)):=fun q=>(h.row.frm q.h.1 aV).cell (ag n S hj aO);have hy3:∀q:HW (fun wx=>ae [lb,ab,wb] w wx∧wx.cell? (lb,0)=some (.pointer (some ⟨ab,0,none⟩))),q.w.cell? (sb,j*4+3)=some (.int .i64 (S j 3)):=fun q=>(h.row.frm q.h.1 aV).cell (ag n S hj aO);clear h h0 hj;go_enter func312,ntmps312;go_wp2_with fail;refine aG (fun wx=>ae [lb,ab,wb] w wx∧wx.cell? (lb,0)=some (.pointer (some ⟨ab,0,none⟩))) ?_;refine aR (fuel:=5) [0,1,2,3,4,5,6,7,8,9] rfl ⟨aF.drew1,H.o.box.drew1.cell (i:=0) rfl⟩ ?_;intro K hK;repeat (go_big_quiet_step (fail))
  refine wpQuiet_nil (hK _ ?_);clear hK K;refine aL 10 (fuel:=4) rfl ?_;go_wp2_with fail;refine(HNX.o _ (aF.drew1) _).mono ?_;rintro e w' ⟨rfl,rfl⟩;go_wp2_with fail;refine af ⟨⟨aF.drew1,H.o.box.drew1.cell (i:=0) rfl⟩,?_⟩;refine aL 11 (fuel:=3) rfl ?_;go_wp2_with fail;refine(bq (H.o.ar.frm (S:=[]) (aF.drew1) aS aS) (bj tail (S j 1))).mono ?_;rw[HG.o];rintro e w1 ⟨rfl,hA,hF⟩;have HF1:=aH (((ae.refl [ab,wb] w).drew1).trans hF);have H1:=aH (H.o.ar_ HF1.o hA);have j1:=H1.o.p HJ.o (t:=1) aO;have j2:=H1.o.p HJ.o (t:=2) aO;have j3:=H1.o.p HJ.o (t:=3) aO;have jd:=H1.o.box.cell (i:=4) rfl;have jz:=H1.o.row.frozen;have jy:=H1.o.box.frozen;clear hA hF;go_wp2_with fail;refine af ⟨⟨HF1.o.mono (S':=[lb,ab,wb]) aS,H1.o.box.cell (i:=0) rfl⟩,?_⟩;refine aR (fuel:=1) [12,13] rfl ⟨HF1.o.mono (S':=[lb,ab,wb]) aS,H1.o.box.cell (i:=0) rfl⟩ ?_;intro K hK;repeat (go_big_quiet_step (fail))
  refine wpQuiet_nil (hK _ ?_);clear hK K;refine aL 14 (fuel:=0) rfl ?_;go_wp2_with fail
 refine af ⟨⟨(HF1.o.mono (S':=[lb,ab,wb]) aS).set ⟨lb,4,none⟩ (.int .i64 0) (.inl aS),(H1.o.box.set 4 (.int .i64 0)).cell (i:=0) rfl⟩,?_⟩;rotate_left;refine af ⟨⟨(HF1.o.mono (S':=[lb,ab,wb]) aS).set ⟨lb,4,none⟩ (.int .i64 v) (.inl aS),(H1.o.box.set 4 (.int .i64 v)).cell (i:=0) rfl⟩,?_⟩;rotate_left;all_goals
  refine aN ?_;clear hne hz0 hy1 hy2 hy3
 have HB:=aH (H1.o.setD 0);have HF2:=aH ((HF1.o.mono (S':=[lb,sb,bb,ab,wb]) aS).set ⟨lb,4,none⟩ (.int .i64 0) (.inl aS));rotate_left;have HB:=aH (H1.o.setD v);have HF2:=aH ((HF1.o.mono (S':=[lb,sb,bb,ab,wb]) aS).set ⟨lb,4,none⟩ (.int .i64 v) (.inl aS));rotate_left;all_goals
  clear H1 HF1 j1 j2 j3 jd jz jy
 generalize(w1.setCell (lb,4) (.int .i64 0))=W2 at*;rotate_left;generalize(w1.setCell (lb,4) (.int .i64 v))=W2 at*;rotate_left;all_goals
  have k0:W2.cell? (sb,j*4)=some (.int .i64 21):=by rw[←H0.o];exact HB.o.p0 HJ.o
  have k1:=HB.o.p HJ.o (t:=1) aO;have m4:=HB.o.box.cell (i:=4) rfl;have m3:=HB.o.box.cell (i:=3) rfl
 rotate_left
 focus
  go_wp2_with fail;obtain⟨W3,rfl⟩:∃W,W=W2:=⟨_,rfl⟩
  have hne:=aW [bb] W3;have hz3:∀q:HW (fun wx=>ae [bb] W3 wx),q.w.cell? (lb,3)=some (.pointer (some ⟨bb,0,none⟩)):=fun q=>q.h.cell m3 aV;have hy1:∀q:HW (fun wx=>ae [bb] W3 wx),q.w.cell? (sb,j*4+1)=some (.int .i64 (S j 1)):=fun q=>q.h.cell k1 aV;refine aG (fun wx=>ae [bb] W3 wx) ?_;refine aR (fuel:=1) [0,1,2,3,4,5,6,7] rfl aF.drew1 ?_;intro K hK;repeat (go_big_quiet_step (fail))
  refine wpQuiet_nil (hK _ ?_);clear hK K;refine aL 8 (fuel:=0) rfl ?_;go_wp2_with fail;have HB3:=aH (HB.o.frm (ae.refl [] _).drew1 aS);refine(Az HB3.o.bn (S j 1)).mono ?_;rintro e w3 ⟨rfl,hB,hF⟩;have HB4:=aH (HB3.o.bn_ (hF.mono aS) hB (HB3.o.ar.frm hF aV aV));have HF3:=aH (((ae.refl [bb] W3).drew1).trans hF);clear hB hF;go_wp2_with fail;refine af ⟨HF3.o,?_⟩;refine aN ?_;clear hne hz3 hy1;have HF4:=aH (HF2.o.trans (HF3.o.mono aS))
 rotate_left;all_goals
  go_wp2;go_ret
 ·exact⟨rfl,HB.o,HF2.o⟩
 ·exact⟨rfl,HB4.o,HF4.o⟩
def I6:= @And.left _ _ ze
def Hu:= @And.right _ _ ze
theorem qV:(∀{w:World} {lb sb bb ab wb tail first n:Nat} {bud:Int} {A:AR} {B:BK} {d:Int} {S:Nat→Nat→Int} (h:bG w lb sb bb ab wb tail first n bud A B d S) {j:Nat} (hj:j<n) (h0:S j 0=22) (hg:gi first A B=true),Calls prog 312 #[some lb,.pointer (some ⟨sb,j*4,none⟩),((j:Int)+1:Int)] w fun e w'=>e= .returned (23:Int)∧bG w' lb sb bb ab wb tail first n bud (gy first A B) (eh first A B) (d) (S)∧ae [lb,sb,bb,ab,wb] w w')∧(∀{w:World} {lb sb bb ab wb tail first n:Nat} {bud:Int} {A:AR} {B:BK} {d:Int} {S:Nat→Nat→Int} (h:bG w lb sb bb ab wb tail first n bud A B d S) {j:Nat} (hj:j<n) (h0:S j 0=22) (hg:gi first A B=false),Calls prog 312 #[some lb,.pointer (some ⟨sb,j*4,none⟩),((j:Int)+1:Int)] w fun e w'=>e= .returned (22:Int)∧bG w' lb sb bb ab wb tail first n bud (gy first A B) (eh first A B) (d) (S)∧ae [lb,sb,bb,ab,wb] w w')∧(∀{w:World} {lb sb bb ab wb tail first n:Nat} {bud:Int} {A:AR} {B:BK} {d:Int} {S:Nat→Nat→Int} (h:bG w lb sb bb ab wb tail first n bud A B d S) {j:Nat} (hj:j<n) (h0:S j 0=23),Calls prog 312 #[some lb,.pointer (some ⟨sb,j*4,none⟩),((j:Int)+1:Int)] w fun e w'=>e= .returned (0:Int)∧bG w' lb sb bb ab wb tail first n bud (A.store (dD tail (d)) 0) (B) (d) (S)∧ae [lb,sb,bb,ab,wb] w w')∧(∀{w:World} {lb sb bb ab wb tail first n:Nat} {bud:Int} {A:AR} {B:BK} {d:Int} {S:Nat→Nat→Int} (h:bG w lb sb bb ab wb tail first n bud A B d S) {j:Nat} (hj:j<n) (h0:S j 0=24),Calls prog 312 #[some lb,.pointer (some ⟨sb,j*4,none⟩),((j:Int)+1:Int)] w fun e w'=>e= .returned (0:Int)∧bG w' lb sb bb ab wb tail first n bud (A.store (dD tail (S j 1)) 0) (B) (d) (S)∧ae [lb,sb,bb,ab,wb] w w'):=by
 refine⟨?_,?_,?_,?_⟩;iterate 2
  intro w lb sb bb ab wb tail first n bud A B d S h j hj h0 hg;rotate_left
 iterate 2
  intro w lb sb bb ab wb tail first n bud A B d S h j hj h0;rotate_left
 all_goals
  have HN:=aH h.ne;have HJ:=aH hj;have hn32:=h.n32;have htb:=h.tb
 iterate 2
  have c0:w.cell? (sb,j*4)=some (.int .i64 22):=by rw[←h0];exact h.p0 hj
  rotate_left
 have c0:w.cell? (sb,j*4)=some (.int .i64 23):=by rw[←h0];exact h.p0 hj
 rotate_left;have c0:w.cell? (sb,j*4)=some (.int .i64 24):=by rw[←h0];exact h.p0 hj
 rotate_left;all_goals
  have c1:=h.p hj (t:=1) aO;have c2:=h.p hj (t:=2) aO;have c3:=h.p hj (t:=3) aO;have l0:=h.box.cell (i:=0) rfl;have l1:=h.box.cell (i:=1) rfl;have l2:=h.box.cell (i:=2) rfl;have l3:=h.box.cell (i:=3) rfl;have H:=aH h;have H0:=aH h0;have HNX:=aH (fun(W:World) (hf:ae [] w W) (y:Int)=>cL (h.frm hf aS) y);have HWT:=aH (fun(W:World) (hf:ae [] w W) (y:Int)=>cK (h.frm hf aS) y)
 iterate 2
  have HG:=aH hg;clear hg;rotate_left
 have l4:=h.box.cell (i:=4) rfl;have hne:=aW [ab,wb] w;have hz0:∀q:HW (fun wx=>ae [ab,wb] w wx),q.w.cell? (lb,0)=some (.pointer (some ⟨ab,0,none⟩)):=fun q=>(h.box.frm q.h aV).cell (i:=0) rfl;have hz1:∀q:HW (fun wx=>ae [ab,wb] w wx),q.w.cell? (lb,1)=some (.int .i64 tail):=fun q=>(h.box.frm q.h aV).cell (i:=1) rfl;have hz2:∀q:HW (fun wx=>ae [ab,wb] w wx),q.w.cell? (lb,2)=some (.int .i64 bud):=fun q=>(h.box.frm q.h aV).cell (i:=2) rfl;have hz3:∀q:HW (fun wx=>ae [ab,wb] w wx),q.w.cell? (lb,3)=some (.pointer (some ⟨bb,0,none⟩)):=fun q=>(h.box.frm q.h aV).cell (i:=3) rfl;have hz4:∀q:HW (fun wx=>ae [ab,wb] w wx),q.w.cell? (lb,4)=some (.int .i64 d):=fun q=>(h.box.frm q.h aV).cell (i:=4) rfl;have hy1:∀q:HW (fun wx=>ae [ab,wb] w wx),q.w.cell? (sb,j*4+1)=some (.int .i64 (S j 1)):=fun q=>(h.row.frm q.h aV).cell (ag n S hj aO);have hy2:∀q:HW (fun wx=>ae [ab,wb] w wx),q.w.cell? (sb,j*4+2)=some (.int .i64 (S j 2)):=fun q=>(h.row.frm q.h aV).cell (ag n S hj aO);have hy3:∀q:HW (fun wx=>ae [ab,wb] w wx),q.w.cell? (sb,j*4+3)=some (.int .i64 (S j 3)):=fun q=>(h.row.frm q.h aV).cell (ag n S hj aO);rotate_left;have hne:=aW [ab,wb] w;have hz0:∀q:HW (fun wx=>ae [ab,wb] w wx),q.w.cell? (lb,0)=some (.pointer (some ⟨ab,0,none⟩)):=fun q=>(h.box.frm q.h aV).cell (i:=0) rfl;have hz1:∀q:HW (fun wx=>ae [ab,wb] w wx),q.w.cell? (lb,1)=some (.int .i64 tail):=fun q=>(h.box.frm q.h aV).cell (i:=1) rfl;have hz2:∀q:HW (fun wx=>ae [ab,wb] w wx),q.w.cell? (lb,2)=some (.int .i64 bud):=fun q=>(h.box.frm q.h aV).cell (i:=2) rfl;have hz3:∀q:HW (fun wx=>ae [ab,wb] w wx),q.w.cell? (lb,3)=some (.pointer (some ⟨bb,0,none⟩)):=fun q=>(h.box.frm q.h aV).cell (i:=3) rfl;have hz4:∀q:HW (fun wx=>ae [ab,wb] w wx),q.w.cell? (lb,4)=some (.int .i64 d):=fun q=>(h.box.frm q.h aV).cell (i:=4) rfl;have hy1:∀q:HW (fun wx=>ae [ab,wb] w wx),q.w.cell? (sb,j*4+1)=some (.int .i64 (S j 1)):=fun q=>(h.row.frm q.h aV).cell (ag n S hj aO);have hy2:∀q:HW (fun wx=>ae [ab,wb] w wx),q.w.cell? (sb,j*4+2)=some (.int .i64 (S j 2)):=fun q=>(h.row.frm q.h aV).cell (ag n S hj aO);have hy3:∀q:HW (fun wx=>ae [ab,wb] w wx),q.w.cell? (sb,j*4+3)=some (.int .i64 (S j 3)):=fun q=>(h.row.frm q.h aV).cell (ag n S hj aO);rotate_left;all_goals
  clear h h0 hj;go_enter func312,ntmps312;go_wp2_with fail
 iterate 2
  refine(lX H.o.bn H.o.ar (by have:=HN.o;omega)).mono ?_;rw[HG.o];rintro e w1 ⟨rfl,hB,hA,hF⟩;have HB:=aH (H.o.bn_ hF hB hA);have HF2:=aH (hF.mono (S':=[lb,sb,bb,ab,wb]) aS);clear hB hA hF;rotate_left
 focus
  refine aG (fun wx=>ae [ab,wb] w wx) ?_;refine aR (fuel:=2) [0,1,2,3,4,5,6,7,8] rfl aF.drew1 ?_;intro K hK;repeat (go_big_quiet_step (fail))
  refine wpQuiet_nil (hK _ ?_);clear hK K;refine aL 9 (fuel:=1) rfl ?_;go_wp2_with fail;refine(HWT.o _ (aF.drew1) _).mono ?_;rintro e w' ⟨rfl,rfl⟩;go_wp2_with fail;refine af ⟨aF.drew1,?_⟩;refine aL 10 (fuel:=0) rfl ?_;go_wp2_with fail;refine(au (H.o.ar.frm (S:=[]) (aF.drew1) aS aS) (dD tail (d)) (0)).mono ?_;rintro e w1 ⟨rfl,hA,hF⟩;have HF1:=aH (((ae.refl [ab,wb] w).drew1).trans hF);have H1:=aH (H.o.ar_ HF1.o hA);have j1:=H1.o.p HJ.o (t:=1) aO;have j2:=H1.o.p HJ.o (t:=2) aO;have j3:=H1.o.p HJ.o (t:=3) aO;have jd:=H1.o.box.cell (i:=4) rfl;have jz:=H1.o.row.frozen;have jy:=H1.o.box.frozen;clear hA hF;go_wp2_with fail;refine af ⟨HF1.o,?_⟩;refine aN ?_;clear hne hz0 hz1 hz2 hz3 hz4 hy1 hy2 hy3;have HB:=aH H1.o;have HF2:=aH (HF1.o.mono (S':=[lb,sb,bb,ab,wb]) aS);have k0:w1.cell? (sb,j*4)=some (.int .i64 23):=by rw[←H0.o];exact HB.o.p0 HJ.o
  have k1:=HB.o.p HJ.o (t:=1) aO;clear H1 HF1 j1 j2 j3 jd jz jy
 rotate_left
 focus
  refine aG (fun wx=>ae [ab,wb] w wx) ?_;refine aR (fuel:=2) [0,1,2,3,4,5,6,7,8] rfl aF.drew1 ?_;intro K hK;repeat (go_big_quiet_step (fail))
  refine wpQuiet_nil (hK _ ?_);clear hK K;refine aL 9 (fuel:=1) rfl ?_;go_wp2_with fail;refine(HWT.o _ (aF.drew1) _).mono ?_;rintro e w' ⟨rfl,rfl⟩;go_wp2_with fail;refine af ⟨aF.drew1,?_⟩;refine aL 10 (fuel:=0) rfl ?_;go_wp2_with fail;refine(au (H.o.ar.frm (S:=[]) (aF.drew1) aS aS) (dD tail (S j 1)) (0)).mono ?_;rintro e w1 ⟨rfl,hA,hF⟩;have HF1:=aH (((ae.refl [ab,wb] w).drew1).trans hF);have H1:=aH (H.o.ar_ HF1.o hA);have j1:=H1.o.p HJ.o (t:=1) aO;have j2:=H1.o.p HJ.o (t:=2) aO;have j3:=H1.o.p HJ.o (t:=3) aO;have jd:=H1.o.box.cell (i:=4) rfl;have jz:=H1.o.row.frozen;have jy:=H1.o.box.frozen;clear hA hF;go_wp2_with fail;refine af ⟨HF1.o,?_⟩;refine aN ?_;clear hne hz0 hz1 hz2 hz3 hz4 hy1 hy2 hy3;have HB:=aH H1.o;have HF2:=aH (HF1.o.mono (S':=[lb,sb,bb,ab,wb]) aS);have k0:w1.cell? (sb,j*4)=some (.int .i64 24):=by rw[←H0.o];exact HB.o.p0 HJ.o
  have k1:=HB.o.p HJ.o (t:=1) aO;clear H1 HF1 j1 j2 j3 jd jz jy
 rotate_left;all_goals
  go_wp2;go_ret;exact⟨rfl,HB.o,HF2.o⟩
def H4:= @And.left _ _ qV
def Iv:= @And.left _ _ (@And.right _ _ qV)
def JO:= @And.left _ _ (@And.right _ _ (@And.right _ _ qV))
def Kb:= @And.right _ _ (@And.right _ _ (@And.right _ _ qV))
end
section
variable{w w':World} {lb sb bb ab wb tail first n:Nat} {bud:Int} {A A':AR} {B B':BK} {d:Int} {S:Nat→Nat→Int}
def Go (g a:Int):Int:=if g=0 then(if a=0 then 19 else 21) else if a=0 then 15 else 14
theorem Hk (h:bG w lb sb bb ab wb tail first n bud A B d S) {j:Nat} (hj:j<n) (hg:B.got=0) (ha:S j 1=0):Calls prog 317 #[some lb,.pointer (some ⟨sb,j*4,none⟩)] w fun e w'=>e= .returned (19:Int)∧
 bG w' lb sb bb ab wb tail first n bud (A) (B) (d) (ac S j 2 B.got)∧ae [lb,sb,bb,ab,wb] w w':=by
 have HN:=aH h.ne;have HJ:=aH hj;have hn32:=h.n32;have htb:=h.tb;have c1:=h.p hj (t:=1) aO;have c2:=h.p hj (t:=2) aO;have c3:=h.p hj (t:=3) aO;have l0:=h.box.cell (i:=0) rfl;have l1:=h.box.cell (i:=1) rfl;have l2:=h.box.cell (i:=2) rfl;have l3:=h.box.cell (i:=3) rfl;have H:=aH h;have HNX:=aH (fun(W:World) (hf:ae [] w W) (y:Int)=>cL (h.frm hf aS) y);have HWT:=aH (fun(W:World) (hf:ae [] w W) (y:Int)=>cK (h.frm hf aS) y);have e0:(B.got==0)=true:=by simpa using hg
 have f0:(S j 1==0)=true:=by simpa using ha
 clear hg ha;clear h hj;go_enter func317,ntmps317;go_wp2_with fail;refine(nk H.o.bn).mono ?_;rintro e w1 ⟨rfl,rfl⟩;have jz:=H.o.row.frozen;have HB:=aH (H.o.put j (t:=2) aO B.got);have HF2:=aH ((ae.refl [lb,sb,bb,ab,wb] w).set ⟨sb,j*4+2,none⟩ (.int .i64 B.got) (.inl aS));have HT:=aH ((HB.o.p HJ.o (t:=2) aO).trans (show some (Value.int .i64 (ac S j 2 B.got j 2))=some (.int .i64 B.got) by unfold ac;simp));have HO:=aH ((HB.o.p HJ.o (t:=1) aO).trans (show some (Value.int .i64 (ac S j 2 B.got j 1))=some (.int .i64 (S j 1)) by unfold ac;simp));go_wp2;go_ret;exact⟨rfl,HB.o,HF2.o⟩
theorem IN (h:bG w lb sb bb ab wb tail first n bud A B d S) {j:Nat} (hj:j<n) (hg:B.got=0) (ha:¬S j 1=0):Calls prog 317 #[some lb,.pointer (some ⟨sb,j*4,none⟩)] w fun e w'=>e= .returned (21:Int)∧
 bG w' lb sb bb ab wb tail first n bud (A) (B) (d) (ac S j 2 B.got)∧ae [lb,sb,bb,ab,wb] w w':=by
 have HN:=aH h.ne;have HJ:=aH hj;have hn32:=h.n32;have htb:=h.tb;have c1:=h.p hj (t:=1) aO;have c2:=h.p hj (t:=2) aO;have c3:=h.p hj (t:=3) aO;have l0:=h.box.cell (i:=0) rfl;have l1:=h.box.cell (i:=1) rfl;have l2:=h.box.cell (i:=2) rfl;have l3:=h.box.cell (i:=3) rfl;have H:=aH h;have HNX:=aH (fun(W:World) (hf:ae [] w W) (y:Int)=>cL (h.frm hf aS) y);have HWT:=aH (fun(W:World) (hf:ae [] w W) (y:Int)=>cK (h.frm hf aS) y);have e0:(B.got==0)=true:=by simpa using hg
 have f0:(S j 1==0)=false:=by simpa using ha
 clear hg ha;clear h hj;go_enter func317,ntmps317;go_wp2_with fail;refine(nk H.o.bn).mono ?_;rintro e w1 ⟨rfl,rfl⟩;have jz:=H.o.row.frozen;have HB:=aH (H.o.put j (t:=2) aO B.got);have HF2:=aH ((ae.refl [lb,sb,bb,ab,wb] w).set ⟨sb,j*4+2,none⟩ (.int .i64 B.got) (.inl aS));have HT:=aH ((HB.o.p HJ.o (t:=2) aO).trans (show some (Value.int .i64 (ac S j 2 B.got j 2))=some (.int .i64 B.got) by unfold ac;simp));have HO:=aH ((HB.o.p HJ.o (t:=1) aO).trans (show some (Value.int .i64 (ac S j 2 B.got j 1))=some (.int .i64 (S j 1)) by unfold ac;simp));go_wp2;go_ret;exact⟨rfl,HB.o,HF2.o⟩
theorem Hq (h:bG w lb sb bb ab wb tail first n bud A B d S) {j:Nat} (hj:j<n) (hg:¬B.got=0) (ha:S j 1=0):Calls prog 317 #[some lb,.pointer (some ⟨sb,j*4,none⟩)] w fun e w'=>e= .returned (15:Int)∧
 bG w' lb sb bb ab wb tail first n bud (A) (B) (d) (ac S j 2 B.got)∧ae [lb,sb,bb,ab,wb] w w':=by
 have HN:=aH h.ne;have HJ:=aH hj;have hn32:=h.n32;have htb:=h.tb;have c1:=h.p hj (t:=1) aO;have c2:=h.p hj (t:=2) aO;have c3:=h.p hj (t:=3) aO;have l0:=h.box.cell (i:=0) rfl;have l1:=h.box.cell (i:=1) rfl;have l2:=h.box.cell (i:=2) rfl;have l3:=h.box.cell (i:=3) rfl;have H:=aH h;have HNX:=aH (fun(W:World) (hf:ae [] w W) (y:Int)=>cL (h.frm hf aS) y);have HWT:=aH (fun(W:World) (hf:ae [] w W) (y:Int)=>cK (h.frm hf aS) y);have e0:(B.got==0)=false:=by simpa using hg
 have f0:(S j 1==0)=true:=by simpa using ha
 clear hg ha;clear h hj;go_enter func317,ntmps317;go_wp2_with fail;refine(nk H.o.bn).mono ?_;rintro e w1 ⟨rfl,rfl⟩;have jz:=H.o.row.frozen;have HB:=aH (H.o.put j (t:=2) aO B.got);have HF2:=aH ((ae.refl [lb,sb,bb,ab,wb] w).set ⟨sb,j*4+2,none⟩ (.int .i64 B.got) (.inl aS));have HT:=aH ((HB.o.p HJ.o (t:=2) aO).trans (show some (Value.int .i64 (ac S j 2 B.got j 2))=some (.int .i64 B.got) by unfold ac;simp));have HO:=aH ((HB.o.p HJ.o (t:=1) aO).trans (show some (Value.int .i64 (ac S j 2 B.got j 1))=some (.int .i64 (S j 1)) by unfold ac;simp));go_wp2;go_ret;exact⟨rfl,HB.o,HF2.o⟩
theorem GG (h:bG w lb sb bb ab wb tail first n bud A B d S) {j:Nat} (hj:j<n) (hg:¬B.got=0) (ha:¬S j 1=0):Calls prog 317 #[some lb,.pointer (some ⟨sb,j*4,none⟩)] w fun e w'=>e= .returned (14:Int)∧
 bG w' lb sb bb ab wb tail first n bud (A) (B) (d) (ac S j 2 B.got)∧ae [lb,sb,bb,ab,wb] w w':=by
 have HN:=aH h.ne;have HJ:=aH hj;have hn32:=h.n32;have htb:=h.tb;have c1:=h.p hj (t:=1) aO;have c2:=h.p hj (t:=2) aO;have c3:=h.p hj (t:=3) aO;have l0:=h.box.cell (i:=0) rfl;have l1:=h.box.cell (i:=1) rfl;have l2:=h.box.cell (i:=2) rfl;have l3:=h.box.cell (i:=3) rfl;have H:=aH h;have HNX:=aH (fun(W:World) (hf:ae [] w W) (y:Int)=>cL (h.frm hf aS) y);have HWT:=aH (fun(W:World) (hf:ae [] w W) (y:Int)=>cK (h.frm hf aS) y);have e0:(B.got==0)=false:=by simpa using hg
 have f0:(S j 1==0)=false:=by simpa using ha
 clear hg ha;clear h hj;go_enter func317,ntmps317;go_wp2_with fail;refine(nk H.o.bn).mono ?_;rintro e w1 ⟨rfl,rfl⟩;have jz:=H.o.row.frozen;have HB:=aH (H.o.put j (t:=2) aO B.got);have HF2:=aH ((ae.refl [lb,sb,bb,ab,wb] w).set ⟨sb,j*4+2,none⟩ (.int .i64 B.got) (.inl aS));have HT:=aH ((HB.o.p HJ.o (t:=2) aO).trans (show some (Value.int .i64 (ac S j 2 B.got j 2))=some (.int .i64 B.got) by unfold ac;simp));have HO:=aH ((HB.o.p HJ.o (t:=1) aO).trans (show some (Value.int .i64 (ac S j 2 B.got j 1))=some (.int .i64 (S j 1)) by unfold ac;simp));go_wp2;go_ret;exact⟨rfl,HB.o,HF2.o⟩
theorem Db (h:bG w lb sb bb ab wb tail first n bud A B d S) {j:Nat} (hj:j<n):Calls prog 317 #[some lb,.pointer (some ⟨sb,j*4,none⟩)] w fun e w'=>e= .returned (Go B.got (S j 1):Int)∧
 bG w' lb sb bb ab wb tail first n bud A B d (ac S j 2 B.got)∧ae [lb,sb,bb,ab,wb] w w':=by
 unfold Go;by_cases hg:B.got=0
 ·by_cases ha:S j 1=0
  ·exact(Hk h hj hg ha).mono fun e w' ⟨h1,h2,h3⟩=>⟨by rw[h1];exact cP (by simp[hg,ha]),h2,h3⟩
  ·exact(IN h hj hg ha).mono fun e w' ⟨h1,h2,h3⟩=>⟨by rw[h1];exact cP (by simp[hg,ha]),h2,h3⟩
 ·by_cases ha:S j 1=0
  ·exact(Hq h hj hg ha).mono fun e w' ⟨h1,h2,h3⟩=>⟨by rw[h1];exact cP (by simp[hg,ha]),h2,h3⟩
  ·exact(GG h hj hg ha).mono fun e w' ⟨h1,h2,h3⟩=>⟨by rw[h1];exact cP (by simp[hg,ha]),h2,h3⟩
theorem mi:(∀{w:World} {lb sb bb ab wb tail first n:Nat} {bud:Int} {A:AR} {B:BK} {d:Int} {S:Nat→Nat→Int} (h:bG w lb sb bb ab wb tail first n bud A B d S) {j:Nat} (hj:j<n) (h0:S j 0=13) (hg:gi first A B=true),Calls prog 311 #[some lb,.pointer (some ⟨sb,j*4,none⟩),((j:Int)+1:Int)] w fun e w'=>e= .returned (Go (eh first A B).got (S j 1):Int)∧bG w' lb sb bb ab wb tail first n bud (gy first A B) (eh first A B) (d) (ac S j 2 (eh first A B).got)∧ae [lb,sb,bb,ab,wb] w w')∧(∀{w:World} {lb sb bb ab wb tail first n:Nat} {bud:Int} {A:AR} {B:BK} {d:Int} {S:Nat→Nat→Int} (h:bG w lb sb bb ab wb tail first n bud A B d S) {j:Nat} (hj:j<n) (h0:S j 0=13) (hg:gi first A B=false),Calls prog 311 #[some lb,.pointer (some ⟨sb,j*4,none⟩),((j:Int)+1:Int)] w fun e w'=>e= .returned (13:Int)∧bG w' lb sb bb ab wb tail first n bud (gy first A B) (eh first A B) (d) (S)∧ae [lb,sb,bb,ab,wb] w w')∧(∀{w:World} {lb sb bb ab wb tail first n:Nat} {bud:Int} {A:AR} {B:BK} {d:Int} {S:Nat→Nat→Int} (h:bG w lb sb bb ab wb tail first n bud A B d S) {j:Nat} (hj:j<n) (h0:S j 0=16) (hg:A.casOk tail ((j:Int)+1)=true),Calls prog 311 #[some lb,.pointer (some ⟨sb,j*4,none⟩),((j:Int)+1:Int)] w fun e w'=>e= .returned (18:Int)∧bG w' lb sb bb ab wb tail first n bud (A.cas tail ((j:Int)+1) (S j 2)) (B) (d) (S)∧ae [lb,sb,bb,ab,wb] w w')∧(∀{w:World} {lb sb bb ab wb tail first n:Nat} {bud:Int} {A:AR} {B:BK} {d:Int} {S:Nat→Nat→Int} (h:bG w lb sb bb ab wb tail first n bud A B d S) {j:Nat} (hj:j<n) (h0:S j 0=16) (hg:A.casOk tail ((j:Int)+1)=false),Calls prog 311 #[some lb,.pointer (some ⟨sb,j*4,none⟩),((j:Int)+1:Int)] w fun e w'=>e= .returned (17:Int)∧bG w' lb sb bb ab wb tail first n bud (A.cas tail ((j:Int)+1) (S j 2)) (B) (d) (S)∧ae [lb,sb,bb,ab,wb] w w')∧(∀{w:World} {lb sb bb ab wb tail first n:Nat} {bud:Int} {A:AR} {B:BK} {d:Int} {S:Nat→Nat→Int} (h:bG w lb sb bb ab wb tail first n bud A B d S) {j:Nat} (hj:j<n) (h0:S j 0=14),Calls prog 311 #[some lb,.pointer (some ⟨sb,j*4,none⟩),((j:Int)+1:Int)] w fun e w'=>e= .returned (18:Int)∧bG w' lb sb bb ab wb tail first n bud (A.store (bj tail (S j 2)) (S j 1)) (B) (d) (S)∧ae [lb,sb,bb,ab,wb] w w')∧(∀{w:World} {lb sb bb ab wb tail first n:Nat} {bud:Int} {A:AR} {B:BK} {d:Int} {S:Nat→Nat→Int} (h:bG w lb sb bb ab wb tail first n bud A B d S) {j:Nat} (hj:j<n) (h0:S j 0=15),Calls prog 311 #[some lb,.pointer (some ⟨sb,j*4,none⟩),((j:Int)+1:Int)] w fun e w'=>e= .returned (16:Int)∧bG w' lb sb bb ab wb tail first n bud (A.store (bj tail (S j 2)) 0) (B) (d) (S)∧ae [lb,sb,bb,ab,wb] w w'):=by
 refine⟨?_,?_,?_,?_,?_,?_⟩;iterate 4
  intro w lb sb bb ab wb tail first n bud A B d S h j hj h0 hg;rotate_left
 iterate 2
  intro w lb sb bb ab wb tail first n bud A B d S h j hj h0;rotate_left
 all_goals
  have HN:=aH h.ne;have HJ:=aH hj;have hn32:=h.n32;have htb:=h.tb
 iterate 2
  have c0:w.cell? (sb,j*4)=some (.int .i64 13):=by rw[←h0];exact h.p0 hj
  rotate_left
 iterate 2
  have c0:w.cell? (sb,j*4)=some (.int .i64 16):=by rw[←h0];exact h.p0 hj
  rotate_left
 have c0:w.cell? (sb,j*4)=some (.int .i64 14):=by rw[←h0];exact h.p0 hj
 rotate_left;have c0:w.cell? (sb,j*4)=some (.int .i64 15):=by rw[←h0];exact h.p0 hj
 rotate_left;all_goals
  have c1:=h.p hj (t:=1) aO;have c2:=h.p hj (t:=2) aO;have c3:=h.p hj (t:=3) aO;have l0:=h.box.cell (i:=0) rfl;have l1:=h.box.cell (i:=1) rfl;have l2:=h.box.cell (i:=2) rfl;have l3:=h.box.cell (i:=3) rfl;have H:=aH h;have H0:=aH h0;have HNX:=aH (fun(W:World) (hf:ae [] w W) (y:Int)=>cL (h.frm hf aS) y);have HWT:=aH (fun(W:World) (hf:ae [] w W) (y:Int)=>cK (h.frm hf aS) y)
 iterate 2
  have HG:=aH hg;clear hg;rotate_left
 iterate 2
  have HG:=aH hg;clear hg;have hne:=aW [ab,wb] w;have hz0:∀q:HW (fun wx=>ae [ab,wb] w wx),q.w.cell? (lb,0)=some (.pointer (some ⟨ab,0,none⟩)):=fun q=>(h.box.frm q.h aV).cell (i:=0) rfl;have hz1:∀q:HW (fun wx=>ae [ab,wb] w wx),q.w.cell? (lb,1)=some (.int .i64 tail):=fun q=>(h.box.frm q.h aV).cell (i:=1) rfl;have hz2:∀q:HW (fun wx=>ae [ab,wb] w wx),q.w.cell? (lb,2)=some (.int .i64 bud):=fun q=>(h.box.frm q.h aV).cell (i:=2) rfl;have hz3:∀q:HW (fun wx=>ae [ab,wb] w wx),q.w.cell? (lb,3)=some (.pointer (some ⟨bb,0,none⟩)):=fun q=>(h.box.frm q.h aV).cell (i:=3) rfl;have hz4:∀q:HW (fun wx=>ae [ab,wb] w wx),q.w.cell? (lb,4)=some (.int .i64 d):=fun q=>(h.box.frm q.h aV).cell (i:=4) rfl;have hy1:∀q:HW (fun wx=>ae [ab,wb] w wx),q.w.cell? (sb,j*4+1)=some (.int .i64 (S j 1)):=fun q=>(h.row.frm q.h aV).cell (ag n S hj aO);have hy2:∀q:HW (fun wx=>ae [ab,wb] w wx),q.w.cell? (sb,j*4+2)=some (.int .i64 (S j 2)):=fun q=>(h.row.frm q.h aV).cell (ag n S hj aO);have hy3:∀q:HW (fun wx=>ae [ab,wb] w wx),q.w.cell? (sb,j*4+3)=some (.int .i64 (S j 3)):=fun q=>(h.row.frm q.h aV).cell (ag n S hj aO);rotate_left
 iterate 2
  have hne:=aW [ab,wb] w;have hz0:∀q:HW (fun wx=>ae [ab,wb] w wx),q.w.cell? (lb,0)=some (.pointer (some ⟨ab,0,none⟩)):=fun q=>(h.box.frm q.h aV).cell (i:=0) rfl;have hz1:∀q:HW (fun wx=>ae [ab,wb] w wx),q.w.cell? (lb,1)=some (.int .i64 tail):=fun q=>(h.box.frm q.h aV).cell (i:=1) rfl;have hz2:∀q:HW (fun wx=>ae [ab,wb] w wx),q.w.cell? (lb,2)=some (.int .i64 bud):=fun q=>(h.box.frm q.h aV).cell (i:=2) rfl;have hz3:∀q:HW (fun wx=>ae [ab,wb] w wx),q.w.cell? (lb,3)=some (.pointer (some ⟨bb,0,none⟩)):=fun q=>(h.box.frm q.h aV).cell (i:=3) rfl;have hz4:∀q:HW (fun wx=>ae [ab,wb] w wx),q.w.cell? (lb,4)=some (.int .i64 d):=fun q=>(h.box.frm q.h aV).cell (i:=4) rfl;have hy1:∀q:HW (fun wx=>ae [ab,wb] w wx),q.w.cell? (sb,j*4+1)=some (.int .i64 (S j 1)):=fun q=>(h.row.frm q.h aV).cell (ag n S hj aO);have hy2:∀q:HW (fun wx=>ae [ab,wb] w wx),q.w.cell? (sb,j*4+2)=some (.int .i64 (S j 2)):=fun q=>(h.row.frm q.h aV).cell (ag n S hj aO);have hy3:∀q:HW (fun wx=>ae [ab,wb] w wx),q.w.cell? (sb,j*4+3)=some (.int .i64 (S j 3)):=fun q=>(h.row.frm q.h aV).cell (ag n S hj aO);rotate_left
 all_goals
  clear h h0 hj;go_enter func311,ntmps311;go_wp2_with fail
 focus
  refine(lX H.o.bn H.o.ar (by have:=HN.o;omega)).mono ?_;rw[HG.o];rintro e w1 ⟨rfl,hB,hA,hF⟩;have HB:=aH (H.o.bn_ hF hB hA);have HF2:=aH (hF.mono (S':=[lb,sb,bb,ab,wb]) aS);clear hB hA hF;go_wp2_with fail;refine(Db HB.o HJ.o).mono ?_;rintro e w2 ⟨rfl,hM,hF⟩;have HM:=aH hM;have HF3:=aH (HF2.o.trans hF);clear hM hF
 rotate_left;refine(lX H.o.bn H.o.ar (by have:=HN.o;omega)).mono ?_;rw[HG.o];rintro e w1 ⟨rfl,hB,hA,hF⟩;have HB:=aH (H.o.bn_ hF hB hA);have HF2:=aH (hF.mono (S':=[lb,sb,bb,ab,wb]) aS);clear hB hA hF;rotate_left;iterate 2
  focus
   refine aG (fun wx=>ae [ab,wb] w wx) ?_;refine aR (fuel:=1) [0,1,2,3,4,5,6,7,8,9,10,11,12] rfl aF.drew1 ?_;intro K hK;repeat (go_big_quiet_step (fail))
   refine wpQuiet_nil (hK _ ?_);clear hK K;refine aL 13 (fuel:=0) rfl ?_;go_wp2_with fail;refine(ii (H.o.ar.frm (S:=[]) (aF.drew1) aS aS) (tail) ((j:Int)+1) (S j 2)).mono ?_;rw[HG.o];rintro e w1 ⟨rfl,hA,hF⟩;have HF1:=aH (((ae.refl [ab,wb] w).drew1).trans hF);have H1:=aH (H.o.ar_ HF1.o hA);have j1:=H1.o.p HJ.o (t:=1) aO;have j2:=H1.o.p HJ.o (t:=2) aO;have j3:=H1.o.p HJ.o (t:=3) aO;have jd:=H1.o.box.cell (i:=4) rfl;have jz:=H1.o.row.frozen;have jy:=H1.o.box.frozen;clear hA hF;go_wp2_with fail;refine af ⟨HF1.o,?_⟩;refine aN ?_;clear hne hz0 hz1 hz2 hz3 hz4 hy1 hy2 hy3;have HB:=aH H1.o;have HF2:=aH (HF1.o.mono (S':=[lb,sb,bb,ab,wb]) aS);have k0:w1.cell? (sb,j*4)=some (.int .i64 16):=by rw[←H0.o];exact HB.o.p0 HJ.o
   have k1:=HB.o.p HJ.o (t:=1) aO;clear H1 HF1 j1 j2 j3 jd jz jy
  rotate_left
 focus
  refine aG (fun wx=>ae [ab,wb] w wx) ?_;refine aR (fuel:=2) [0,1,2,3,4,5,6,7,8,10,11,12,13] rfl aF.drew1 ?_;intro K hK;repeat (go_big_quiet_step (fail))
  refine wpQuiet_nil (hK _ ?_);clear hK K;refine aL 9 (fuel:=1) rfl ?_;go_wp2_with fail;refine(HNX.o _ (aF.drew1) _).mono ?_;rintro e w' ⟨rfl,rfl⟩;go_wp2_with fail;refine af ⟨aF.drew1,?_⟩;refine aL 14 (fuel:=0) rfl ?_;go_wp2_with fail;refine(au (H.o.ar.frm (S:=[]) (aF.drew1) aS aS) (bj tail (S j 2)) (S j 1)).mono ?_;rintro e w1 ⟨rfl,hA,hF⟩;have HF1:=aH (((ae.refl [ab,wb] w).drew1).trans hF);have H1:=aH (H.o.ar_ HF1.o hA);have j1:=H1.o.p HJ.o (t:=1) aO;have j2:=H1.o.p HJ.o (t:=2) aO;have j3:=H1.o.p HJ.o (t:=3) aO;have jd:=H1.o.box.cell (i:=4) rfl;have jz:=H1.o.row.frozen;have jy:=H1.o.box.frozen;clear hA hF;go_wp2_with fail;refine af ⟨HF1.o,?_⟩;refine aN ?_;clear hne hz0 hz1 hz2 hz3 hz4 hy1 hy2 hy3;have HB:=aH H1.o;have HF2:=aH (HF1.o.mono (S':=[lb,sb,bb,ab,wb]) aS);have k0:w1.cell? (sb,j*4)=some (.int .i64 14):=by rw[←H0.o];exact HB.o.p0 HJ.o
  have k1:=HB.o.p HJ.o (t:=1) aO;clear H1 HF1 j1 j2 j3 jd jz jy
 rotate_left
 focus
  refine aG (fun wx=>ae [ab,wb] w wx) ?_;refine aR (fuel:=2) [0,1,2,3,4,5,6,7,8] rfl aF.drew1 ?_;intro K hK;repeat (go_big_quiet_step (fail))
  refine wpQuiet_nil (hK _ ?_);clear hK K;refine aL 9 (fuel:=1) rfl ?_;go_wp2_with fail;refine(HNX.o _ (aF.drew1) _).mono ?_;rintro e w' ⟨rfl,rfl⟩;go_wp2_with fail;refine af ⟨aF.drew1,?_⟩;refine aL 10 (fuel:=0) rfl ?_;go_wp2_with fail;refine(au (H.o.ar.frm (S:=[]) (aF.drew1) aS aS) (bj tail (S j 2)) (0)).mono ?_;rintro e w1 ⟨rfl,hA,hF⟩;have HF1:=aH (((ae.refl [ab,wb] w).drew1).trans hF);have H1:=aH (H.o.ar_ HF1.o hA);have j1:=H1.o.p HJ.o (t:=1) aO;have j2:=H1.o.p HJ.o (t:=2) aO;have j3:=H1.o.p HJ.o (t:=3) aO;have jd:=H1.o.box.cell (i:=4) rfl;have jz:=H1.o.row.frozen;have jy:=H1.o.box.frozen;clear hA hF;go_wp2_with fail;refine af ⟨HF1.o,?_⟩;refine aN ?_;clear hne hz0 hz1 hz2 hz3 hz4 hy1 hy2 hy3;have HB:=aH H1.o;have HF2:=aH (HF1.o.mono (S':=[lb,sb,bb,ab,wb]) aS);have k0:w1.cell? (sb,j*4)=some (.int .i64 15):=by rw[←H0.o];exact HB.o.p0 HJ.o
  have k1:=HB.o.p HJ.o (t:=1) aO;clear H1 HF1 j1 j2 j3 jd jz jy
 rotate_left;all_goals
  go_wp2;go_ret
 ·exact⟨rfl,HM.o,HF3.o⟩
 iterate 5
  exact⟨rfl,HB.o,HF2.o⟩
def Hb:= @And.left _ _ mi
def Hc:= @And.left _ _ (@And.right _ _ mi)
def IE:= @And.left _ _ (@And.right _ _ (@And.right _ _ mi))
def IG:= @And.left _ _ (@And.right _ _ (@And.right _ _ (@And.right _ _ mi)))
def JV:= @And.left _ _ (@And.right _ _ (@And.right _ _ (@And.right _ _ (@And.right _ _ mi))))
def JX:= @And.right _ _ (@And.right _ _ (@And.right _ _ (@And.right _ _ (@And.right _ _ mi))))
end
theorem Ar (a b c d:Int) (W:World):(Instr.field 138 (.agg #[a,b,c,d]) 0).run prog W= .ok (.int .i64 a) W:=by kernel_rfl
section
variable{w w':World} {lb sb bb ab wb tail first n:Nat} {bud:Int} {A A':AR} {B B':BK} {d d':Int} {S S':Nat→Nat→Int}
theorem ik (h:bG w lb sb bb ab wb tail first n bud A B d S):Calls prog 308 #[some lb] w fun e w'=>e= .returned n∧w=w':=by
 have c5:=h.box.cell (i:=5) rfl;clear h;go_enter func308,ntmps308;go_wp2;go_ret;exact⟨rfl,rfl⟩
theorem mr (h:bG w lb sb bb ab wb tail first n bud A B d S) (i:Int):Calls prog 306 #[some lb,i] w fun e w'=>e= .returned (dq n S i)∧ae [] w w':=by
 have HT:=aH (fun(W:World) (hf:ae [] w W)=>ik (h.frm hf aS));cases hi:aZ n i with
 |false=>
  have hr:dq n S i= .agg #[(0:Int),(0:Int),(0:Int),(0:Int)]:=by unfold dq;rw[hi];rfl
  rw[hr];by_cases hneg:i<0
  ·have d1:decide (i<0)=true:=by simpa using hneg
   clear h hr hi;go_enter func306,ntmps306;go_wp2_with fail;refine bodyPost_ret (v:=.agg #[(0:Int),(0:Int),(0:Int),(0:Int)]) (by simp[results,results306,go_sem]) rfl ⟨rfl,?_⟩;repeat (first|exact aF|exact aF.alloc _|refine ae.set ?_ _ _ (.inr (Nat.le_refl _)))
  ·have d1:decide (i<0)=false:=by simpa using hneg
   have d2:decide ((n:Int)≤i)=true:=by unfold aZ at hi;simp at hi;simp;omega
   clear h hr hi;go_enter func306,ntmps306;go_wp2_with fail;refine(HT.o _ (aF.alloc _)).mono ?_;rintro e w' ⟨rfl,rfl⟩;go_wp2_with fail;refine bodyPost_ret (v:=.agg #[(0:Int),(0:Int),(0:Int),(0:Int)]) (by simp[results,results306,go_sem]) rfl ⟨rfl,?_⟩;repeat (first|exact aF|exact aF.alloc _|refine ae.set ?_ _ _ (.inr (Nat.le_refl _)))
 |true=>
  have hi':0≤i∧i<(n:Int):=by unfold aZ at hi;simpa using hi
  obtain⟨j,rfl⟩:=Int.eq_ofNat_of_zero_le hi'.1;have hj:j<n:=by omega
  have hr:dq n S j= .agg #[(S j 0:Int),(S j 1:Int),(S j 2:Int),(S j 3:Int)]:=by unfold dq;rw[hi];rfl
  rw[hr];have d1:decide ((j:Int)<0)=false:=by simp
  have d2:decide ((n:Int)≤j)=false:=by simp;omega
  have d3:decide (n≤j)=false:=by simp;omega
  have l1:(j:Int)<n:=by omega
  have hkk:∀wx,ae [] w wx→wx.cell? (sb,j*4)=some (.int .i64 (S j 0))∧wx.cell? (sb,j*4+1)=some (.int .i64 (S j 1))∧wx.cell? (sb,j*4+2)=some (.int .i64 (S j 2))∧wx.cell? (sb,j*4+3)=some (.int .i64 (S j 3))∧wx.cell? (lb,5)=some (.slice (some ⟨sb,0,none⟩) n n):=fun wx hf=>
   ⟨(h.frm hf aS).p0 hj,(h.frm hf aS).p hj aO,(h.frm hf aS).p hj aO,(h.frm hf aS).p hj aO,(h.frm hf aS).box.cell (i:=5) rfl⟩
  have KK:=aH hkk;clear h hr hi hkk hi';go_enter func306,ntmps306;go_wp2_with fail;refine(HT.o _ (aF.alloc _)).mono ?_;rintro e w' ⟨rfl,rfl⟩;obtain⟨c0,c1,c2,c3,c5⟩:=KK.o _ ((ae.refl [] w).alloc (.cells #[(0:Int),(0:Int),(0:Int),(0:Int)] 138));go_wp2_with fail;refine bodyPost_ret (v:=.agg #[(S j 0:Int),(S j 1:Int),(S j 2:Int),(S j 3:Int)]) (by simp[results,results306,go_sem]) rfl ⟨rfl,?_⟩;repeat (first|exact aF|exact aF.alloc _|refine ae.set ?_ _ _ (.inr (Nat.le_refl _)))
theorem zn (h:bG w lb sb bb ab wb tail first n bud A B d S) (i:Int) (hi:aZ n i=false∨S i.toNat 0=0∨S i.toNat 0=10):Calls prog 307 #[some lb,i] w fun e w'=>e= .returned false∧ae [] w w':=by
 have HS:=aH (mr h i);have fd:=Ar;have hv:∃a b c p:Int,(p=0∨p=10)∧dq n S i= .agg #[p,a,b,c]:=by
  unfold dq;rcases hi with hi|hi|hi
  ·rw[if_neg (by simp[hi])];exact⟨0,0,0,0,.inl rfl,rfl⟩
  ·by_cases hh:aZ n i
   ·rw[if_pos hh];exact⟨_,_,_,_,.inl hi,rfl⟩
   ·rw[if_neg hh];exact⟨0,0,0,0,.inl rfl,rfl⟩
  ·by_cases hh:aZ n i
   ·rw[if_pos hh];exact⟨_,_,_,_,.inr hi,rfl⟩
   ·rw[if_neg hh];exact⟨0,0,0,0,.inl rfl,rfl⟩
 obtain⟨a,b,c,p,hp,hv⟩:=hv;rw[hv] at HS;clear hv hi h;rcases hp with rfl|rfl
 ·go_enter func307,ntmps307;go_wp2_with fail;refine HS.o.mono ?_;rintro e w1 ⟨rfl,hF⟩;have HF:=aH hF;clear hF;go_wp2;go_ret;exact⟨rfl,HF.o.alloc _⟩
 ·go_enter func307,ntmps307;go_wp2_with fail;refine HS.o.mono ?_;rintro e w1 ⟨rfl,hF⟩;have HF:=aH hF;clear hF;go_wp2;go_ret;exact⟨rfl,HF.o.alloc _⟩
theorem lD:(∀{w:World} {lb sb bb ab wb tail first n:Nat} {bud:Int} {A A':AR} {B B':BK} {d d':Int} {S S':Nat→Nat→Int} (h:bG w lb sb bb ab wb tail first n bud A B d S) {j:Nat} (hj:j<n) {pc res:Int} (h0:S j 0=pc) (hpc:1≤pc∧pc<10) (HC:∀W,ae [] w W→Calls prog 310 #[some lb,.pointer (some ⟨sb,j*4,none⟩),((j:Int)+1:Int)] W fun e w'=>e= .returned res∧bG w' lb sb bb ab wb tail first n bud A' B' d' S'∧ae [lb,sb,bb,ab,wb] W w'),Calls prog 307 #[some lb,j] w fun e w'=>e= .returned (.bool (res==0||res==10))∧bG w' lb sb bb ab wb tail first n bud A' B' d' (ac S' j 0 res)∧ae [lb,sb,bb,ab,wb] w w')∧(∀{w:World} {lb sb bb ab wb tail first n:Nat} {bud:Int} {A A':AR} {B B':BK} {d d':Int} {S S':Nat→Nat→Int} (h:bG w lb sb bb ab wb tail first n bud A B d S) {j:Nat} (hj:j<n) {pc res:Int} (h0:S j 0=pc) (hpc:11≤pc∧pc<17) (HC:∀W,ae [] w W→Calls prog 311 #[some lb,.pointer (some ⟨sb,j*4,none⟩),((j:Int)+1:Int)] W fun e w'=>e= .returned res∧bG w' lb sb bb ab wb tail first n bud A' B' d' S'∧ae [lb,sb,bb,ab,wb] W w'),Calls prog 307 #[some lb,j] w fun e w'=>e= .returned (.bool (res==0||res==10))∧bG w' lb sb bb ab wb tail first n bud A' B' d' (ac S' j 0 res)∧ae [lb,sb,bb,ab,wb] w w')∧(∀{w:World} {lb sb bb ab wb tail first n:Nat} {bud:Int} {A A':AR} {B B':BK} {d d':Int} {S S':Nat→Nat→Int} (h:bG w lb sb bb ab wb tail first n bud A B d S) {j:Nat} (hj:j<n) {pc res:Int} (h0:S j 0=pc) (hpc:17≤pc) (HC:∀W,ae [] w W→Calls prog 312 #[some lb,.pointer (some ⟨sb,j*4,none⟩),((j:Int)+1:Int)] W fun e w'=>e= .returned res∧bG w' lb sb bb ab wb tail first n bud A' B' d' S'∧ae [lb,sb,bb,ab,wb] W w'),Calls prog 307 #[some lb,j] w fun e w'=>e= .returned (.bool (res==0||res==10))∧bG w' lb sb bb ab wb tail first n bud A' B' d' (ac S' j 0 res)∧ae [lb,sb,bb,ab,wb] w w'):=by
 refine⟨?_,?_,?_⟩;all_goals
  intro w lb sb bb ab wb tail first n bud A A' B B' d d' S S' h j hj pc res h0 hpc HC
 all_goals
  have HS:=aH (mr h j);have fd:=Ar;have hr:dq n S j= .agg #[pc,(S j 1:Int),(S j 2:Int),(S j 3:Int)]:=by unfold dq;rw[if_pos (by unfold aZ;simpa using hj),←h0];rfl
  rw[hr] at HS;have d1:(pc==0)=false:=by simp;omega
  have d2:(pc==10)=false:=by simp;omega
 have d3:decide (pc<10)=true:=by simp;omega
 rotate_left;have d3:decide (pc<10)=false:=by simp;omega
 have d4:decide (pc<17)=true:=by simp;omega
 rotate_left;have d3:decide (pc<10)=false:=by simp;omega
 have d4:decide (pc<17)=false:=by simp;omega
 rotate_left;all_goals
  have l1:(j:Int)<n:=by omega
  have hn:=h.n32;have HK:=aH (fun(W:World) (hf:ae [] w W)=>(h.frm hf aS).box.cell (i:=5) rfl);have HN:=aH h.ne;have HJ:=aH hj;have HC:=aH HC;clear h hr h0 hpc hj;cases hb0:(res==0)<;>cases hb1:(res==10)
  all_goals
   go_enter func307,ntmps307;go_wp2_with fail;refine HS.o.mono ?_;rintro e w1 ⟨rfl,hF⟩;have HF:=aH (hF.alloc (.cells #[(0:Int),(0:Int),(0:Int),(0:Int)] 138));have c5:=HK.o _ HF.o;clear hF;go_wp2_with fail;refine(HC.o _ HF.o).mono ?_;rintro e w2 ⟨rfl,hM,hF⟩;have hz:=hM.row.frozen;have hk0:=hM.p0 HJ.o;have HM:=aH (hM.put j (t:=0) aO res);have HF2:=aH (((HF.o.mono (S':=[lb,sb,bb,ab,wb]) aS).trans hF).set ⟨sb,j*4,none⟩ (.int .i64 res) (.inl aS));clear hM hF;go_wp2_with fail;go_ret;exact⟨rfl,HM.o,HF2.o⟩
def im:= @And.left _ _ lD
def dc:= @And.left _ _ (@And.right _ _ lD)
def cl:= @And.right _ _ (@And.right _ _ lD)
end
structure MS where
 A:AR
 B:BK
 d:Int
 S:Nat→Nat→Int
def pd (tail first n:Nat) (bud:Int) (m:MS) (j:Nat):MS×Int:=(⟨m.A.store (bj tail ((j:Int)+1)) 0,m.B,m.d,m.S⟩,2)
def o9 (tail first n:Nat) (bud:Int) (m:MS) (j:Nat):MS×Int:=(⟨m.A.store (dD tail ((j:Int)+1)) 1,m.B,m.d,m.S⟩,3)
def o3 (tail first n:Nat) (bud:Int) (m:MS) (j:Nat):MS×Int:=(if m.A.get tail=0 then(⟨m.A.swap tail ((j:Int)+1),m.B,m.d,ac m.S j 1 (m.A.get tail)⟩,10) else(⟨m.A.swap tail ((j:Int)+1),m.B,m.d,ac m.S j 1 (m.A.get tail)⟩,4))
def o4 (tail first n:Nat) (bud:Int) (m:MS) (j:Nat):MS×Int:=(⟨m.A.store (bj tail (m.S j 1)) ((j:Int)+1),m.B,m.d,m.S⟩,5)
def pf (tail first n:Nat) (bud:Int) (m:MS) (j:Nat):MS×Int:=(if m.A.get (dD tail ((j:Int)+1))=0 then(⟨m.A.load (dD tail ((j:Int)+1)),m.B,m.d,m.S⟩,10) else(⟨m.A.load (dD tail ((j:Int)+1)),m.B,m.d,m.S⟩,5))
def jD (tail first n:Nat) (bud:Int) (m:MS) (j:Nat):MS×Int:=(⟨m.A.add (tail+1) 1,m.B,m.d,ac m.S j 3 (m.A.addRes (tail+1) 1)⟩,12)
def jn (tail first n:Nat) (bud:Int) (m:MS) (j:Nat):MS×Int:=(if¬m.A.get (bj tail ((j:Int)+1))=0∧¬(m.S j 3).tmod (bud+1)=0 then(⟨m.A.load (bj tail ((j:Int)+1)),m.B,m.d,ac m.S j 1 (m.A.get (bj tail ((j:Int)+1)))⟩,21) else(⟨m.A.load (bj tail ((j:Int)+1)),lN m.B,m.d,ac m.S j 1 (m.A.get (bj tail ((j:Int)+1)))⟩,13))
def jo (tail first n:Nat) (bud:Int) (m:MS) (j:Nat):MS×Int:=(if gi first m.A m.B=true then(⟨gy first m.A m.B,eh first m.A m.B,m.d,ac m.S j 2 (eh first m.A m.B).got⟩,Go (eh first m.A m.B).got (m.S j 1)) else(⟨gy first m.A m.B,eh first m.A m.B,m.d,m.S⟩,13))
def jF (tail first n:Nat) (bud:Int) (m:MS) (j:Nat):MS×Int:=(⟨m.A.store (bj tail (m.S j 2)) (m.S j 1),m.B,m.d,m.S⟩,18)
def jx (tail first n:Nat) (bud:Int) (m:MS) (j:Nat):MS×Int:=(⟨m.A.store (bj tail (m.S j 2)) 0,m.B,m.d,m.S⟩,16)
def jr (tail first n:Nat) (bud:Int) (m:MS) (j:Nat):MS×Int:=(if m.A.casOk tail ((j:Int)+1)=true then(⟨m.A.cas tail ((j:Int)+1) (m.S j 2),m.B,m.d,m.S⟩,18) else(⟨m.A.cas tail ((j:Int)+1) (m.S j 2),m.B,m.d,m.S⟩,17))
def jJ (tail first n:Nat) (bud:Int) (m:MS) (j:Nat):MS×Int:=(if m.A.get (bj tail ((j:Int)+1))=0 then(⟨m.A.load (bj tail ((j:Int)+1)),m.B,m.d,ac m.S j 1 (m.A.get (bj tail ((j:Int)+1)))⟩,17) else(⟨m.A.load (bj tail ((j:Int)+1)),m.B,m.d,ac m.S j 1 (m.A.get (bj tail ((j:Int)+1)))⟩,14))
def jE (tail first n:Nat) (bud:Int) (m:MS) (j:Nat):MS×Int:=(⟨m.A.store (dD tail (m.S j 2)) 0,m.B,m.d,m.S⟩,0)
def js (tail first n:Nat) (bud:Int) (m:MS) (j:Nat):MS×Int:=(if m.A.casOk tail ((j:Int)+1)=true then(⟨m.A.cas tail ((j:Int)+1) 0,m.B,m.d,m.S⟩,0) else(⟨m.A.cas tail ((j:Int)+1) 0,m.B,m.d,m.S⟩,20))
def jp (tail first n:Nat) (bud:Int) (m:MS) (j:Nat):MS×Int:=(if m.A.get (bj tail ((j:Int)+1))=0 then(⟨m.A.load (bj tail ((j:Int)+1)),m.B,m.d,ac m.S j 1 (m.A.get (bj tail ((j:Int)+1)))⟩,20) else(⟨m.A.load (bj tail ((j:Int)+1)),m.B,m.d,ac m.S j 1 (m.A.get (bj tail ((j:Int)+1)))⟩,21))
def jC (tail first n:Nat) (bud:Int) (m:MS) (j:Nat):MS×Int:=(if m.A.get (bj tail (m.S j 1))=0 then(⟨m.A.load (bj tail (m.S j 1)),m.B,0,m.S⟩,24) else(⟨m.A.load (bj tail (m.S j 1)),rq n m.B (m.S j 1),m.A.get (bj tail (m.S j 1)),m.S⟩,22))
def jq (tail first n:Nat) (bud:Int) (m:MS) (j:Nat):MS×Int:=(if gi first m.A m.B=true then(⟨gy first m.A m.B,eh first m.A m.B,m.d,m.S⟩,23) else(⟨gy first m.A m.B,eh first m.A m.B,m.d,m.S⟩,22))
def jB (tail first n:Nat) (bud:Int) (m:MS) (j:Nat):MS×Int:=(⟨m.A.store (dD tail m.d) 0,m.B,m.d,m.S⟩,0)
def jA (tail first n:Nat) (bud:Int) (m:MS) (j:Nat):MS×Int:=(⟨m.A.store (dD tail (m.S j 1)) 0,m.B,m.d,m.S⟩,0)
def fx (tail first n:Nat) (bud:Int) (m:MS) (j:Nat):MS×Int:=
 if m.S j 0=1 then pd tail first n bud m j else
 if m.S j 0=2 then o9 tail first n bud m j else
 if m.S j 0=3 then o3 tail first n bud m j else
 if m.S j 0=4 then o4 tail first n bud m j else
 if m.S j 0=5 then pf tail first n bud m j else
 if m.S j 0=11 then jD tail first n bud m j else
 if m.S j 0=12 then jn tail first n bud m j else
 if m.S j 0=13 then jo tail first n bud m j else
 if m.S j 0=14 then jF tail first n bud m j else
 if m.S j 0=15 then jx tail first n bud m j else
 if m.S j 0=16 then jr tail first n bud m j else
 if m.S j 0=17 then jJ tail first n bud m j else
 if m.S j 0=18 then jE tail first n bud m j else
 if m.S j 0=19 then js tail first n bud m j else
 if m.S j 0=20 then jp tail first n bud m j else
 if m.S j 0=21 then jC tail first n bud m j else
 if m.S j 0=22 then jq tail first n bud m j else
 if m.S j 0=23 then jB tail first n bud m j else
 if m.S j 0=24 then jA tail first n bud m j else
 (m,m.S j 0)
def mStep (tail first n:Nat) (bud:Int) (m:MS) (j:Nat):MS:={(fx tail first n bud m j).1 with S:=ac (fx tail first n bud m j).1.S j 0 (fx tail first n bud m j).2}
def fD (pc:Int):Prop:=(0≤pc∧pc≤5)∨(10≤pc∧pc≤24)
def qr (tail first n:Nat) (bud:Int) (m:MS) (j:Nat):Bool:= !(m.S j 0==0)&& !(m.S j 0==10)&&((fx tail first n bud m j).2==0||(fx tail first n bud m j).2==10)
theorem tP (S:Nat→Nat→Int) (j t:Nat):ac S j t (S j t)=S:=by
 funext a b
 unfold ac
 split
 ·rename_i h;rw[h.1,h.2]
 ·rfl
def dX (w:World) (lb sb bb ab wb tail first n:Nat) (bud:Int) (m:MS):Prop:=bG w lb sb bb ab wb tail first n bud m.A m.B m.d m.S
section
variable{w w':World} {lb sb bb ab wb tail first n:Nat} {bud:Int} {m:MS}
theorem dX.frm (h:dX w lb sb bb ab wb tail first n bud m) {Z:List Nat} (hf:ae Z w w') (hz:∀k∈[lb,sb,bb,ab,wb],k∉Z):dX w' lb sb bb ab wb tail first n bud m:=bG.frm h hf hz
theorem G7 {j:Nat} (h0:m.S j 0=1):fx tail first n bud m j=pd tail first n bud m j:=by unfold fx;simp[h0]
theorem GR {j:Nat} (h0:m.S j 0=2):fx tail first n bud m j=o9 tail first n bud m j:=by unfold fx;simp[h0]
theorem G5 {j:Nat} (h0:m.S j 0=3):fx tail first n bud m j=o3 tail first n bud m j:=by unfold fx;simp[h0]
theorem Gs {j:Nat} (h0:m.S j 0=4):fx tail first n bud m j=o4 tail first n bud m j:=by unfold fx;simp[h0]
theorem I7 {j:Nat} (h0:m.S j 0=5):fx tail first n bud m j=pf tail first n bud m j:=by unfold fx;simp[h0]
theorem FO {j:Nat} (h0:m.S j 0=11):fx tail first n bud m j=jD tail first n bud m j:=by unfold fx;simp[h0]
theorem EN {j:Nat} (h0:m.S j 0=12):fx tail first n bud m j=jn tail first n bud m j:=by unfold fx;simp[h0]
theorem Em {j:Nat} (h0:m.S j 0=13):fx tail first n bud m j=jo tail first n bud m j:=by unfold fx;simp[h0]
theorem D6 {j:Nat} (h0:m.S j 0=14):fx tail first n bud m j=jF tail first n bud m j:=by unfold fx;simp[h0]
theorem Ej {j:Nat} (h0:m.S j 0=15):fx tail first n bud m j=jx tail first n bud m j:=by unfold fx;simp[h0]
theorem EJ {j:Nat} (h0:m.S j 0=16):fx tail first n bud m j=jr tail first n bud m j:=by unfold fx;simp[h0]
theorem D3 {j:Nat} (h0:m.S j 0=17):fx tail first n bud m j=jJ tail first n bud m j:=by unfold fx;simp[h0]
theorem FB {j:Nat} (h0:m.S j 0=18):fx tail first n bud m j=jE tail first n bud m j:=by unfold fx;simp[h0]
theorem Ep {j:Nat} (h0:m.S j 0=19):fx tail first n bud m j=js tail first n bud m j:=by unfold fx;simp[h0]
theorem DJ {j:Nat} (h0:m.S j 0=20):fx tail first n bud m j=jp tail first n bud m j:=by unfold fx;simp[h0]
theorem FG {j:Nat} (h0:m.S j 0=21):fx tail first n bud m j=jC tail first n bud m j:=by unfold fx;simp[h0]
theorem Dx {j:Nat} (h0:m.S j 0=22):fx tail first n bud m j=jq tail first n bud m j:=by unfold fx;simp[h0]
theorem EA {j:Nat} (h0:m.S j 0=23):fx tail first n bud m j=jB tail first n bud m j:=by unfold fx;simp[h0]
theorem Ff {j:Nat} (h0:m.S j 0=24):fx tail first n bud m j=jA tail first n bud m j:=by unfold fx;simp[h0]
theorem bJ {x:MS×Int} {A':AR} {B':BK} {d':Int} {S':Nat→Nat→Int} {res:Int} {j:Nat} (e:x=(⟨A',B',d',S'⟩,res))
 (h:Calls prog 307 #[some lb,j] w fun e w'=>e= .returned (.bool (res==0||res==10))∧bG w' lb sb bb ab wb tail first n bud A' B' d' (ac S' j 0 res)∧ae [lb,sb,bb,ab,wb] w w'):
 Calls prog 307 #[some lb,j] w fun e w'=>e= .returned (.bool (x.2==0||x.2==10))∧bG w' lb sb bb ab wb tail first n bud x.1.A x.1.B x.1.d (ac x.1.S j 0 x.2)∧ae [lb,sb,bb,ab,wb] w w':=by
 subst e;exact h
theorem bL {x:MS×Int} {j:Nat}
 (h:Calls prog 307 #[some lb,j] w fun e w'=>e= .returned (.bool (x.2==0||x.2==10))∧bG w' lb sb bb ab wb tail first n bud x.1.A x.1.B x.1.d (ac x.1.S j 0 x.2)∧ae [lb,sb,bb,ab,wb] w w'):
 Calls prog 307 #[some lb,j] w fun e w'=>e= .returned (.bool (x.2==0||x.2==10))∧dX w' lb sb bb ab wb tail first n bud {x.1 with S:=ac x.1.S j 0 x.2}∧ae [lb,sb,bb,ab,wb] w w':=h
theorem Bp (m:MS) (j:Nat):({m with S:=ac m.S j 0 (m.S j 0)}:MS)=m:=by rw[tP]
theorem Ir {j:Nat} (h0:m.S j 0=0∨m.S j 0=10):fx tail first n bud m j=(m,m.S j 0):=by unfold fx;rcases h0 with h0|h0<;>simp[h0]
theorem JK (h:dX w lb sb bb ab wb tail first n bud m) {j:Nat} (hj:j<n) (h0:m.S j 0=1):Calls prog 307 #[some lb,j] w fun e w'=>e= .returned (.bool ((pd tail first n bud m j).2==0||(pd tail first n bud m j).2==10))∧
 bG w' lb sb bb ab wb tail first n bud (pd tail first n bud m j).1.A (pd tail first n bud m j).1.B (pd tail first n bud m j).1.d (ac (pd tail first n bud m j).1.S j 0 (pd tail first n bud m j).2)∧ae [lb,sb,bb,ab,wb] w w':=by
 unfold dX at h;exact bJ (rfl) (im h hj h0 aO fun W hf=>Gr (bG.frm h hf aS) hj h0)
theorem JR (h:dX w lb sb bb ab wb tail first n bud m) {j:Nat} (hj:j<n) (h0:m.S j 0=2):Calls prog 307 #[some lb,j] w fun e w'=>e= .returned (.bool ((o9 tail first n bud m j).2==0||(o9 tail first n bud m j).2==10))∧
 bG w' lb sb bb ab wb tail first n bud (o9 tail first n bud m j).1.A (o9 tail first n bud m j).1.B (o9 tail first n bud m j).1.d (ac (o9 tail first n bud m j).1.S j 0 (o9 tail first n bud m j).2)∧ae [lb,sb,bb,ab,wb] w w':=by
 unfold dX at h;exact bJ (rfl) (im h hj h0 aO fun W hf=>G8 (bG.frm h hf aS) hj h0)
theorem JN (h:dX w lb sb bb ab wb tail first n bud m) {j:Nat} (hj:j<n) (h0:m.S j 0=3):Calls prog 307 #[some lb,j] w fun e w'=>e= .returned (.bool ((o3 tail first n bud m j).2==0||(o3 tail first n bud m j).2==10))∧
 bG w' lb sb bb ab wb tail first n bud (o3 tail first n bud m j).1.A (o3 tail first n bud m j).1.B (o3 tail first n bud m j).1.d (ac (o3 tail first n bud m j).1.S j 0 (o3 tail first n bud m j).2)∧ae [lb,sb,bb,ab,wb] w w':=by
 unfold dX at h;by_cases hg:m.A.get tail=0
 ·exact bJ (if_pos hg) (im h hj h0 aO fun W hf=>Ew (bG.frm h hf aS) hj h0 hg)
 ·exact bJ (if_neg hg) (im h hj h0 aO fun W hf=>DY (bG.frm h hf aS) hj h0 hg)
theorem JW (h:dX w lb sb bb ab wb tail first n bud m) {j:Nat} (hj:j<n) (h0:m.S j 0=4):Calls prog 307 #[some lb,j] w fun e w'=>e= .returned (.bool ((o4 tail first n bud m j).2==0||(o4 tail first n bud m j).2==10))∧
 bG w' lb sb bb ab wb tail first n bud (o4 tail first n bud m j).1.A (o4 tail first n bud m j).1.B (o4 tail first n bud m j).1.d (ac (o4 tail first n bud m j).1.S j 0 (o4 tail first n bud m j).2)∧ae [lb,sb,bb,ab,wb] w w':=by
 unfold dX at h;exact bJ (rfl) (im h hj h0 aO fun W hf=>GH (bG.frm h hf aS) hj h0)
theorem J2 (h:dX w lb sb bb ab wb tail first n bud m) {j:Nat} (hj:j<n) (h0:m.S j 0=5):Calls prog 307 #[some lb,j] w fun e w'=>e= .returned (.bool ((pf tail first n bud m j).2==0||(pf tail first n bud m j).2==10))∧
 bG w' lb sb bb ab wb tail first n bud (pf tail first n bud m j).1.A (pf tail first n bud m j).1.B (pf tail first n bud m j).1.d (ac (pf tail first n bud m j).1.S j 0 (pf tail first n bud m j).2)∧ae [lb,sb,bb,ab,wb] w w':=by
 unfold dX at h;by_cases hg:m.A.get (dD tail ((j:Int)+1))=0
 ·exact bJ (if_pos hg) (im h hj h0 aO fun W hf=>EG (bG.frm h hf aS) hj h0 hg)
 ·exact bJ (if_neg hg) (im h hj h0 aO fun W hf=>DI (bG.frm h hf aS) hj h0 hg)
theorem Ht (h:dX w lb sb bb ab wb tail first n bud m) {j:Nat} (hj:j<n) (h0:m.S j 0=11):Calls prog 307 #[some lb,j] w fun e w'=>e= .returned (.bool ((jD tail first n bud m j).2==0||(jD tail first n bud m j).2==10))∧
 bG w' lb sb bb ab wb tail first n bud (jD tail first n bud m j).1.A (jD tail first n bud m j).1.B (jD tail first n bud m j).1.d (ac (jD tail first n bud m j).1.S j 0 (jD tail first n bud m j).2)∧ae [lb,sb,bb,ab,wb] w w':=by
 unfold dX at h;exact bJ (rfl) (dc h hj h0 aO fun W hf=>Ke (bG.frm h hf aS) hj h0)
theorem Gy (h:dX w lb sb bb ab wb tail first n bud m) {j:Nat} (hj:j<n) (h0:m.S j 0=12):Calls prog 307 #[some lb,j] w fun e w'=>e= .returned (.bool ((jn tail first n bud m j).2==0||(jn tail first n bud m j).2==10))∧
 bG w' lb sb bb ab wb tail first n bud (jn tail first n bud m j).1.A (jn tail first n bud m j).1.B (jn tail first n bud m j).1.d (ac (jn tail first n bud m j).1.S j 0 (jn tail first n bud m j).2)∧ae [lb,sb,bb,ab,wb] w w':=by
 unfold dX at h;by_cases hg:m.A.get (bj tail ((j:Int)+1))=0
 ·exact bJ (if_neg (fun hc=>hc.1 hg)) (dc h hj h0 aO fun W hf=>ID (bG.frm h hf aS) hj h0 hg)
 ·by_cases hm:(m.S j 3).tmod (bud+1)=0
  ·exact bJ (if_neg (fun hc=>hc.2 hm)) (dc h hj h0 aO fun W hf=>GN (bG.frm h hf aS) hj h0 hg hm)
  ·exact bJ (if_pos ⟨hg,hm⟩) (dc h hj h0 aO fun W hf=>Hm (bG.frm h hf aS) hj h0 hg hm)
theorem H7 (h:dX w lb sb bb ab wb tail first n bud m) {j:Nat} (hj:j<n) (h0:m.S j 0=13):Calls prog 307 #[some lb,j] w fun e w'=>e= .returned (.bool ((jo tail first n bud m j).2==0||(jo tail first n bud m j).2==10))∧
 bG w' lb sb bb ab wb tail first n bud (jo tail first n bud m j).1.A (jo tail first n bud m j).1.B (jo tail first n bud m j).1.d (ac (jo tail first n bud m j).1.S j 0 (jo tail first n bud m j).2)∧ae [lb,sb,bb,ab,wb] w w':=by
 unfold dX at h;cases hg:gi first m.A m.B
 ·exact bJ (if_neg (by simp[hg])) (dc h hj h0 aO fun W hf=>Hc (bG.frm h hf aS) hj h0 hg)
 ·exact bJ (if_pos hg) (dc h hj h0 aO fun W hf=>Hb (bG.frm h hf aS) hj h0 hg)
theorem I8 (h:dX w lb sb bb ab wb tail first n bud m) {j:Nat} (hj:j<n) (h0:m.S j 0=14):Calls prog 307 #[some lb,j] w fun e w'=>e= .returned (.bool ((jF tail first n bud m j).2==0||(jF tail first n bud m j).2==10))∧
 bG w' lb sb bb ab wb tail first n bud (jF tail first n bud m j).1.A (jF tail first n bud m j).1.B (jF tail first n bud m j).1.d (ac (jF tail first n bud m j).1.S j 0 (jF tail first n bud m j).2)∧ae [lb,sb,bb,ab,wb] w w':=by
 unfold dX at h;exact bJ (rfl) (dc h hj h0 aO fun W hf=>JV (bG.frm h hf aS) hj h0)
theorem Hj (h:dX w lb sb bb ab wb tail first n bud m) {j:Nat} (hj:j<n) (h0:m.S j 0=15):Calls prog 307 #[some lb,j] w fun e w'=>e= .returned (.bool ((jx tail first n bud m j).2==0||(jx tail first n bud m j).2==10))∧
 bG w' lb sb bb ab wb tail first n bud (jx tail first n bud m j).1.A (jx tail first n bud m j).1.B (jx tail first n bud m j).1.d (ac (jx tail first n bud m j).1.S j 0 (jx tail first n bud m j).2)∧ae [lb,sb,bb,ab,wb] w w':=by
 unfold dX at h;exact bJ (rfl) (dc h hj h0 aO fun W hf=>JX (bG.frm h hf aS) hj h0)
theorem II (h:dX w lb sb bb ab wb tail first n bud m) {j:Nat} (hj:j<n) (h0:m.S j 0=16):Calls prog 307 #[some lb,j] w fun e w'=>e= .returned (.bool ((jr tail first n bud m j).2==0||(jr tail first n bud m j).2==10))∧
 bG w' lb sb bb ab wb tail first n bud (jr tail first n bud m j).1.A (jr tail first n bud m j).1.B (jr tail first n bud m j).1.d (ac (jr tail first n bud m j).1.S j 0 (jr tail first n bud m j).2)∧ae [lb,sb,bb,ab,wb] w w':=by
 unfold dX at h;cases hg:m.A.casOk tail ((j:Int)+1)
 ·exact bJ (if_neg (by simp[hg])) (dc h hj h0 aO fun W hf=>IG (bG.frm h hf aS) hj h0 hg)
 ·exact bJ (if_pos hg) (dc h hj h0 aO fun W hf=>IE (bG.frm h hf aS) hj h0 hg)
theorem Ig (h:dX w lb sb bb ab wb tail first n bud m) {j:Nat} (hj:j<n) (h0:m.S j 0=17):Calls prog 307 #[some lb,j] w fun e w'=>e= .returned (.bool ((jJ tail first n bud m j).2==0||(jJ tail first n bud m j).2==10))∧
 bG w' lb sb bb ab wb tail first n bud (jJ tail first n bud m j).1.A (jJ tail first n bud m j).1.B (jJ tail first n bud m j).1.d (ac (jJ tail first n bud m j).1.S j 0 (jJ tail first n bud m j).2)∧ae [lb,sb,bb,ab,wb] w w':=by
 unfold dX at h;by_cases hg:m.A.get (bj tail ((j:Int)+1))=0
 ·exact bJ (if_pos hg) (cl h hj h0 aO fun W hf=>GP (bG.frm h hf aS) hj h0 hg)
 ·exact bJ (if_neg hg) (cl h hj h0 aO fun W hf=>GX (bG.frm h hf aS) hj h0 hg)
theorem GC (h:dX w lb sb bb ab wb tail first n bud m) {j:Nat} (hj:j<n) (h0:m.S j 0=18):Calls prog 307 #[some lb,j] w fun e w'=>e= .returned (.bool ((jE tail first n bud m j).2==0||(jE tail first n bud m j).2==10))∧
 bG w' lb sb bb ab wb tail first n bud (jE tail first n bud m j).1.A (jE tail first n bud m j).1.B (jE tail first n bud m j).1.d (ac (jE tail first n bud m j).1.S j 0 (jE tail first n bud m j).2)∧ae [lb,sb,bb,ab,wb] w w':=by
 unfold dX at h;exact bJ (rfl) (cl h hj h0 aO fun W hf=>Ka (bG.frm h hf aS) hj h0)
theorem Hz (h:dX w lb sb bb ab wb tail first n bud m) {j:Nat} (hj:j<n) (h0:m.S j 0=19):Calls prog 307 #[some lb,j] w fun e w'=>e= .returned (.bool ((js tail first n bud m j).2==0||(js tail first n bud m j).2==10))∧
 bG w' lb sb bb ab wb tail first n bud (js tail first n bud m j).1.A (js tail first n bud m j).1.B (js tail first n bud m j).1.d (ac (js tail first n bud m j).1.S j 0 (js tail first n bud m j).2)∧ae [lb,sb,bb,ab,wb] w w':=by
 unfold dX at h;cases hg:m.A.casOk tail ((j:Int)+1)
 ·exact bJ (if_neg (by simp[hg])) (cl h hj h0 aO fun W hf=>IB (bG.frm h hf aS) hj h0 hg)
 ·exact bJ (if_pos hg) (cl h hj h0 aO fun W hf=>IF (bG.frm h hf aS) hj h0 hg)
theorem Ji (h:dX w lb sb bb ab wb tail first n bud m) {j:Nat} (hj:j<n) (h0:m.S j 0=20):Calls prog 307 #[some lb,j] w fun e w'=>e= .returned (.bool ((jp tail first n bud m j).2==0||(jp tail first n bud m j).2==10))∧
 bG w' lb sb bb ab wb tail first n bud (jp tail first n bud m j).1.A (jp tail first n bud m j).1.B (jp tail first n bud m j).1.d (ac (jp tail first n bud m j).1.S j 0 (jp tail first n bud m j).2)∧ae [lb,sb,bb,ab,wb] w w':=by
 unfold dX at h;by_cases hg:m.A.get (bj tail ((j:Int)+1))=0
 ·exact bJ (if_pos hg) (cl h hj h0 aO fun W hf=>IM (bG.frm h hf aS) hj h0 hg)
 ·exact bJ (if_neg hg) (cl h hj h0 aO fun W hf=>Hw (bG.frm h hf aS) hj h0 hg)
theorem GB (h:dX w lb sb bb ab wb tail first n bud m) {j:Nat} (hj:j<n) (h0:m.S j 0=21):Calls prog 307 #[some lb,j] w fun e w'=>e= .returned (.bool ((jC tail first n bud m j).2==0||(jC tail first n bud m j).2==10))∧
 bG w' lb sb bb ab wb tail first n bud (jC tail first n bud m j).1.A (jC tail first n bud m j).1.B (jC tail first n bud m j).1.d (ac (jC tail first n bud m j).1.S j 0 (jC tail first n bud m j).2)∧ae [lb,sb,bb,ab,wb] w w':=by
 unfold dX at h;by_cases hg:m.A.get (bj tail (m.S j 1))=0
 ·have hq:=fun(W:World) (hf:ae [] w W)=>I6 (bG.frm h hf aS) hj h0 hg;rw[hg] at hq;exact bJ (if_pos hg) (cl h hj h0 aO hq)
 ·exact bJ (if_neg hg) (cl h hj h0 aO fun W hf=>Hu (bG.frm h hf aS) hj h0 hg)
theorem G0 (h:dX w lb sb bb ab wb tail first n bud m) {j:Nat} (hj:j<n) (h0:m.S j 0=22):Calls prog 307 #[some lb,j] w fun e w'=>e= .returned (.bool ((jq tail first n bud m j).2==0||(jq tail first n bud m j).2==10))∧
 bG w' lb sb bb ab wb tail first n bud (jq tail first n bud m j).1.A (jq tail first n bud m j).1.B (jq tail first n bud m j).1.d (ac (jq tail first n bud m j).1.S j 0 (jq tail first n bud m j).2)∧ae [lb,sb,bb,ab,wb] w w':=by
 unfold dX at h;cases hg:gi first m.A m.B
 ·exact bJ (if_neg (by simp[hg])) (cl h hj h0 aO fun W hf=>Iv (bG.frm h hf aS) hj h0 hg)
 ·exact bJ (if_pos hg) (cl h hj h0 aO fun W hf=>H4 (bG.frm h hf aS) hj h0 hg)
theorem I9 (h:dX w lb sb bb ab wb tail first n bud m) {j:Nat} (hj:j<n) (h0:m.S j 0=23):Calls prog 307 #[some lb,j] w fun e w'=>e= .returned (.bool ((jB tail first n bud m j).2==0||(jB tail first n bud m j).2==10))∧
 bG w' lb sb bb ab wb tail first n bud (jB tail first n bud m j).1.A (jB tail first n bud m j).1.B (jB tail first n bud m j).1.d (ac (jB tail first n bud m j).1.S j 0 (jB tail first n bud m j).2)∧ae [lb,sb,bb,ab,wb] w w':=by
 unfold dX at h;exact bJ (rfl) (cl h hj h0 aO fun W hf=>JO (bG.frm h hf aS) hj h0)
theorem Jf (h:dX w lb sb bb ab wb tail first n bud m) {j:Nat} (hj:j<n) (h0:m.S j 0=24):Calls prog 307 #[some lb,j] w fun e w'=>e= .returned (.bool ((jA tail first n bud m j).2==0||(jA tail first n bud m j).2==10))∧
 bG w' lb sb bb ab wb tail first n bud (jA tail first n bud m j).1.A (jA tail first n bud m j).1.B (jA tail first n bud m j).1.d (ac (jA tail first n bud m j).1.S j 0 (jA tail first n bud m j).2)∧ae [lb,sb,bb,ab,wb] w w':=by
 unfold dX at h;exact bJ (rfl) (cl h hj h0 aO fun W hf=>Kb (bG.frm h hf aS) hj h0)
theorem yG (h:dX w lb sb bb ab wb tail first n bud m) {j:Nat} (hj:j<n) (hp:fD (m.S j 0)):Calls prog 307 #[some lb,j] w fun e w'=>e= .returned (.bool (qr tail first n bud m j))∧
 dX w' lb sb bb ab wb tail first n bud (mStep tail first n bud m j)∧ae [lb,sb,bb,ab,wb] w w':=by
 unfold mStep qr;by_cases hi:m.S j 0=0∨m.S j 0=10
 ·rw[Ir hi];refine(zn h j (.inr (by simpa using hi))).mono fun e w' ⟨h1,h2⟩=>?_;refine⟨by rw[h1];exact bH (by rcases hi with hi|hi<;>simp[hi]),?_,h2.mono aS⟩;rw[Bp];exact dX.frm h h2 aS
 have e0:(!(m.S j 0==0)&& !(m.S j 0==10))=true:=by simp;omega
 rw[e0,Bool.true_and];have hh:m.S j 0=1∨m.S j 0=2∨m.S j 0=3∨m.S j 0=4∨m.S j 0=5∨m.S j 0=11∨m.S j 0=12∨m.S j 0=13∨m.S j 0=14∨m.S j 0=15∨m.S j 0=16∨m.S j 0=17∨m.S j 0=18∨m.S j 0=19∨m.S j 0=20∨m.S j 0=21∨m.S j 0=22∨m.S j 0=23∨m.S j 0=24:=by
  unfold fD at hp;omega
 clear hp hi e0;rcases hh with h0|h0|h0|h0|h0|h0|h0|h0|h0|h0|h0|h0|h0|h0|h0|h0|h0|h0|h0
 ·rw[G7 h0];exact bL (JK h hj h0)
 ·rw[GR h0];exact bL (JR h hj h0)
 ·rw[G5 h0];exact bL (JN h hj h0)
 ·rw[Gs h0];exact bL (JW h hj h0)
 ·rw[I7 h0];exact bL (J2 h hj h0)
 ·rw[FO h0];exact bL (Ht h hj h0)
 ·rw[EN h0];exact bL (Gy h hj h0)
 ·rw[Em h0];exact bL (H7 h hj h0)
 ·rw[D6 h0];exact bL (I8 h hj h0)
 ·rw[Ej h0];exact bL (Hj h hj h0)
 ·rw[EJ h0];exact bL (II h hj h0)
 ·rw[D3 h0];exact bL (Ig h hj h0)
 ·rw[FB h0];exact bL (GC h hj h0)
 ·rw[Ep h0];exact bL (Hz h hj h0)
 ·rw[DJ h0];exact bL (Ji h hj h0)
 ·rw[FG h0];exact bL (GB h hj h0)
 ·rw[Dx h0];exact bL (G0 h hj h0)
 ·rw[EA h0];exact bL (I9 h hj h0)
 ·rw[Ff h0];exact bL (Jf h hj h0)
end
end Go.Proofs.YteijjhahgabalaaGreat
