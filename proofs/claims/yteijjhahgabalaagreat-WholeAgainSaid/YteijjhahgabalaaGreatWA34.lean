/- The contracts of package neutral. (Printed by gen_rw.py.) -/
import Derived.Deep.RegionWith
import Derived.Deep.DeepCutAuto
import Derived.Test.YteijjhahgabalaaGreatWA32
set_option maxRecDepth 100000
set_option maxHeartbeats 8000000
set_option linter.all false
namespace Go.Proofs.YteijjhahgabalaaGreat
open Go.RowKit
open Tryz
section
variable{w w':World} {B:B3} {M:Ak} {X:AS} {j:Nat}
theorem eW (h:A3 258 w B M X):Calls prog 339 #[some B.lb] w fun e w'=>e= .returned M.n∧w=w':=by
 have c6:=h.box.cell (i:=6) rfl;clear h;go_enter func339,ntmps339;go_wp2;go_ret;exact⟨rfl,rfl⟩
theorem qG (h:A3 258 w B M X) (hj:j<M.n):Calls prog 340 #[some B.lb,j] w fun e w'=>e= .returned true∧w=w':=by
 have HT:=aH (eW h);have hn:=h.n32;obtain⟨d1,d2,d3⟩:=aI (j:=j) (n:=M.n);obtain⟨d4,d5,d6⟩:=aP (j:=j) (n:=M.n);have l1:(j:Int)<M.n:=by omega
 clear h;go_enter func340,ntmps340;go_wp2_with fail;refine HT.o.mono ?_;rintro e w' ⟨rfl,rfl⟩;go_wp2;go_ret;exact⟨rfl,rfl⟩
theorem Dy:(∀{w:World} {B:B3} {M:Ak} {X:AS} {j:Nat} (h:A3 258 w B M X) (hj:j<M.n),Calls prog 337 #[some B.lb,j] w fun e w'=>e= .returned (.agg #[(X.S j 0:Int),(X.S j 1:Int),(X.S j 2:Int),(X.S j 3:Int)])∧ae [] w w')∧(∀{w:World} {B:B3} {M:Ak} {X:AS} {j:Nat} (h:A3 258 w B M X) (hj:j<M.n) (h0:X.S j 0≠0) (r:Bool),AP 258 B M 334 #[some B.lb,j,r] w (.bool false) X)∧(∀{w:World} {B:B3} {M:Ak} {X:AS} {j:Nat} (h:A3 258 w B M X) (hj:j<M.n) (h0:X.S j 0=0),AP 258 B M 334 #[some B.lb,j,true] w (.bool true) {X with S:=DZ X.S j 1 1})∧(∀{w:World} {B:B3} {M:Ak} {X:AS} {j:Nat} (h:A3 258 w B M X) (hj:j<M.n) (h0:X.S j 0=0),AP 258 B M 334 #[some B.lb,j,false] w (.bool true) {X with C:=B4 M.K X.C j,S:=DZ X.S j 7 0}):=by
 refine⟨?_,?_,?_,?_⟩;intro w B M X j h hj;have hF:ae [] w (w.alloc (.cells #[(0:Int),(0:Int),(0:Int),(0:Int)] 138)):=aF.alloc _;have h2:=h.same hF;have HT:=aH (qG h2 hj);have c6:=h2.box.cell (i:=6) rfl;obtain⟨j0,j1,j2,j3⟩:=h2.sp hj;rotate_left;intro w B M X j h hj h0 r;unfold AP;rotate_left;iterate 2
  intro w B M X j h hj h0;unfold AP;rotate_left
 all_goals
  have hn:=h.n32;obtain⟨d1,d2,d3⟩:=aI (j:=j) (n:=M.n);obtain⟨d4,d5,d6⟩:=aP (j:=j) (n:=M.n);have l1:(j:Int)<M.n:=by omega
 generalize X.S j 0=a0 at*;generalize X.S j 1=a1 at*;generalize X.S j 2=a2 at*;generalize X.S j 3=a3 at*;rotate_left;iterate 3
  obtain⟨c0,c1,c2,c3,c4,c5,c6⟩:=h.cells;obtain⟨j0,j1,j2,j3⟩:=h.sp hj;have jz:=h.row.frozen;have HT:=aH (qG h hj);rotate_left
 all_goals
  have hnot:= @aX prog
 focus
  clear h h2 hF;go_enter func337,ntmps337
 rotate_left
 focus
  have e3:(X.S j 0 !=0)=true:=by simpa using h0
  generalize X.S j 0=a0 at*;have H0:=aH h;have F0:=aH (ae.refl (AY B M.K) w);have HJ:=aH hj;clear h hj h0;go_enter func334,ntmps334
 rotate_left;iterate 2
  focus
   rw[h0] at j0;have H0:=aH h;have F0:=aH (ae.refl (AY B M.K) w);have HJ:=aH hj;clear h hj h0;go_enter func334,ntmps334
  rotate_left
 all_goals
  go_wp2_with fail;refine HT.o.mono ?_;rintro e w' ⟨rfl,rfl⟩
 ·go_wp2_with fail;exact bodyPost_ret (v:=.agg #[a0,a1,a2,a3]) (by simp[results,results337,go_sem]) rfl ⟨rfl,aF.alloc _⟩
 ·go_wp2;go_ret;exact⟨rfl,H0.o.same aD,F0.o.trans aD⟩
 ·go_wp2;go_ret;have hP:=H0.o.put4 j 1 1;exact⟨rfl,hP.1,F0.o.trans hP.2⟩
 ·go_wp2_with fail;refine Calls.mono (Id H0.o j) ?_;rintro e w1 ⟨rfl,hX,hF⟩;obtain⟨c0,c1,c2,c3,c4,c5,c6⟩:=hX.cells;obtain⟨j0,j1,j2,j3⟩:=hX.sp HJ.o;have jz:=hX.row.frozen;have HX:=aH hX;have HF:=aH (F0.o.trans hF);clear hX hF;go_wp2;go_ret;have hP:=HX.o.put4 j 7 0;exact⟨rfl,hP.1,HF.o.trans hP.2⟩
def IY:= @And.left _ _ Dy
def sn:= @And.left _ _ (@And.right _ _ Dy)
def sq:= @And.left _ _ (@And.right _ _ (@And.right _ _ Dy))
def sw:= @And.right _ _ (@And.right _ _ (@And.right _ _ Dy))
theorem kD (h:A3 258 w B M X) (hj:j<M.n) (h0:X.S j 0≠10):AP 258 B M 335 #[some B.lb,j] w (.bool false) X:=by
 unfold AP;have hn:=h.n32;obtain⟨d1,d2,d3⟩:=aI (j:=j) (n:=M.n);obtain⟨d4,d5,d6⟩:=aP (j:=j) (n:=M.n);have l1:(j:Int)<M.n:=by omega
 have hS:=IY h hj;have fd:=bY;have e3:(X.S j 0 !=10)=true:=by simpa using h0
 have H0:=aH h;have HJ:=aH hj;have HS:=aH hS;generalize X.S j 0=a0 at*;clear h hj hS h0;all_goals
  go_enter func335,ntmps335;go_wp2_with fail;refine HS.o.mono ?_;rintro e w1 ⟨rfl,hF1⟩;have hX:=H0.o.same hF1;obtain⟨c0,c1,c2,c3,c4,c5,c6⟩:=hX.cells;have jz:=hX.row.frozen;have HX:=aH hX;have HF1:=aH (hF1.mono (S':=AY B M.K) aS);clear hX hF1;go_wp2;go_ret;exact⟨rfl,HX.o.same aE,HF1.o.trans aE⟩
theorem kK (h:A3 258 w B M X) (hj:j<M.n) (h0:X.S j 0=10) (ha:X.S j 1=0∨X.S j 1=1):AP 258 B M 335 #[some B.lb,j] w (.bool true) {X with S:=ac X.S j 0 (12 - X.S j 1)}:=by
 unfold AP;have hn:=h.n32;obtain⟨d1,d2,d3⟩:=aI (j:=j) (n:=M.n);obtain⟨d4,d5,d6⟩:=aP (j:=j) (n:=M.n);have l1:(j:Int)<M.n:=by omega
 have hS:=IY h hj;have fd:=bY;rw[h0] at hS;have H0:=aH h;have HJ:=aH hj;clear h hj;rcases ha with ha|ha;all_goals
  have HA:=aH ha;rw[ha] at hS;have HS:=aH hS;have H00:=aH h0;clear hS ha h0;go_enter func335,ntmps335;go_wp2_with fail;refine HS.o.mono ?_;rintro e w1 ⟨rfl,hF1⟩;have hX:=H0.o.same hF1;obtain⟨c0,c1,c2,c3,c4,c5,c6⟩:=hX.cells;obtain⟨j0,j1,j2,j3⟩:=hX.sp HJ.o;rw[H00.o] at j0;rw[HA.o] at j1;have jz:=hX.row.frozen;have HX:=aH hX;have HF1:=aH (hF1.mono (S':=AY B M.K) aS);clear hX hF1;go_wp2_with fail;go_region;all_goals
   go_wp2;go_ret;rw[HA.o];exact⟨rfl,(HX.o.put0 j _).same aD,(HF1.o.trans (A3.frm0 M.K)).trans aD⟩
end
def E9 (M:Ak) (X:AS) (j:Nat):AS×Bool:=
 if X.S j 0=1 then(⟨{X.C with A:=X.C.A.gAdd M.gf M.K.E (M.K.nd j) 0},X.D,X.S⟩,true) else
 if X.S j 0=3 then(⟨B4 M.K {X.C with A:=X.C.A.gAdd M.gf M.K.E (M.K.nd j) 1} j,X.D,X.S⟩,true) else
 if X.S j 0=5 then(⟨Am M.K {X.C with A:=X.C.A.gAdd M.gf M.K.E (M.K.nd j) 0} j,X.D,X.S⟩,true) else
 if X.S j 0=8 then(⟨{X.C with A:=X.C.A.store M.fl 1},X.D.begins 0 M.K.E false,X.S⟩,true) else
 if X.S j 0=9 then(C3 M X,DV M X) else
 if X.S j 0=11 then(⟨{X.C with A:=X.C.A.gAdd M.gf M.K.E (M.K.nd j) 1},X.D,X.S⟩,true) else
 if X.S j 0=12 then(⟨Am M.K {X.C with A:=X.C.A.store M.fl 0} j,X.D,X.S⟩,true) else
 (⟨AN M.K X.C j,X.D,X.S⟩,Ab M.K X.C j)
def Ev (pc:Int):Int:=if pc=6∨pc=9 then 10 else if pc=11∨pc=13 then 0 else pc+1
section
variable{w w':World} {B:B3} {M:Ak} {X:AS} {j:Nat}
theorem t9 (pc:Int) (hp:0≤pc∧pc≤20) (w:World):Calls prog 342 #[pc] w fun e w'=>e= .returned (Ev pc:Int)∧w=w':=by
 have hc:pc=6∨pc=9∨pc=11∨pc=13∨((pc==6)=false∧(pc==9)=false∧(pc==11)=false∧(pc==13)=false):=by simp;omega
 rcases hc with rfl|rfl|rfl|rfl|⟨q1,q2,q3,q4⟩
 case inr.inr.inr.inr=>
  have HE:=aH (show Ev pc=pc+1 by unfold Ev;simp at q1 q2 q3 q4;rw[if_neg aO,if_neg aO]);go_enter func342,ntmps342;go_wp2;go_ret;exact⟨cP HE.o.symm,rfl⟩
 all_goals
  go_enter func342,ntmps342;go_wp2;go_ret;exact⟨rfl,rfl⟩
theorem qF (h:A3 258 w B M X) {bx:Nat} (hb:am w bx [some B.lb] 234) (v:Int):AP 258 B M 343 #[v,some bx] w (.tuple #[]) ⟨{X.C with A:=X.C.A.store M.fl v},X.D,X.S⟩:=by
 unfold AP;obtain⟨c0,c1,c2,c3,c4,c5,c6⟩:=h.cells;have b0:=hb.cell (i:=0) rfl;have H0:=aH h;have HB0:=aH hb;have F0:=aH (ae.refl (AY B M.K) w);clear h hb;obtain⟨w0,rfl⟩:∃W,W=w:=⟨_,rfl⟩
 go_enter func343,ntmps343;have HN:=aH (H0.o.free.not H0.o.box H0.o.ty.free);have hne:Nonempty (HW (fun wx=>ae (AY B M.K) w0 wx)):=⟨⟨w0,aF⟩⟩
 have z0:∀q:HW (fun wx=>ae (AY B M.K) w0 wx),q.w.cell? (B.lb,0)=some (.pointer (some ⟨B.co.ab,0,none⟩)):=fun q=>(H0.o.box.frm q.h HN.o).cell (i:=0) rfl;have z4:∀q:HW (fun wx=>ae (AY B M.K) w0 wx),q.w.cell? (B.lb,4)=some (.int .i64 M.fl):=fun q=>(H0.o.box.frm q.h HN.o).cell (i:=4) rfl;have HNB:=aH (H0.o.free.not HB0.o);have zb:∀q:HW (fun wx=>ae (AY B M.K) w0 wx),q.w.cell? (bx,0)=some (.pointer (some ⟨B.lb,0,none⟩)):=fun q=>(HB0.o.frm q.h HNB.o).cell (i:=0) rfl;go_wp2_with fail;refine bv (S:=(fun wx=>ae (AY B M.K) w0 wx)) aK ?_;refine aR (fuel:=1) [0,1,2,3,4,5,6,7,8] rfl aF.drew1 ?_;intro Kq hKq;repeat (go_big_quiet_step (fail))
 refine wpQuiet_nil (hKq _ ?_);clear hKq Kq;refine aL 9 (fuel:=0) rfl ?_;go_wp2_with fail;refine Calls.mono (Fi (H0.o.same aD) M.fl v) ?_;rintro e w1 ⟨rfl,hX,hF⟩;have hG:=ae.trans (S:=AY B M.K) (a:=w0) aD hF;obtain⟨c0,c1,c2,c3,c4,c5,c6⟩:=hX.cells;have jz:=hX.row.frozen;have hB:=HB0.o.frm hG HNB.o;have b0:=hB.cell (i:=0) rfl;have HB1:=aH hB;have H1:=aH hX;have G1:=aH hG;have F1:=aH (F0.o.trans hG);clear hX hF hG hB;go_wp2_with fail;refine af ⟨G1.o,?_⟩;refine aN ?_;clear hne z0 z4 zb;go_wp2;go_end0;exact⟨rfl,H1.o.same aD,F1.o.trans aD⟩
theorem BS:(∀{w:World} {B:B3} {M:Ak} {X:AS} {j:Nat} (h:A3 258 w B M X) (hj:j<M.n) (h0:X.S j 0≠1∧X.S j 0≠3∧X.S j 0≠5∧X.S j 0≠8∧X.S j 0≠9∧X.S j 0≠11∧X.S j 0≠12) (hp:Ax M.K X.C),AP 258 B M 341 #[some B.lb,j] w (.bool (Ab M.K X.C j)) (⟨AN M.K X.C j,X.D,X.S⟩))∧(∀{w:World} {B:B3} {M:Ak} {X:AS} {j:Nat} (h:A3 258 w B M X) (hj:j<M.n) (h0:X.S j 0=1),AP 258 B M 341 #[some B.lb,j] w (.bool (true)) (⟨{X.C with A:=X.C.A.gAdd M.gf M.K.E (M.K.nd j) 0},X.D,X.S⟩))∧(∀{w:World} {B:B3} {M:Ak} {X:AS} {j:Nat} (h:A3 258 w B M X) (hj:j<M.n) (h0:X.S j 0=9),AP 258 B M 341 #[some B.lb,j] w (.bool (DV M X)) (C3 M X))∧(∀{w:World} {B:B3} {M:Ak} {X:AS} {j:Nat} (h:A3 258 w B M X) (hj:j<M.n) (h0:X.S j 0=11),AP 258 B M 341 #[some B.lb,j] w (.bool (true)) (⟨{X.C with A:=X.C.A.gAdd M.gf M.K.E (M.K.nd j) 1},X.D,X.S⟩))∧(∀{w:World} {B:B3} {M:Ak} {X:AS} {j:Nat} (h:A3 258 w B M X) (hj:j<M.n) (h0:X.S j 0=3),AP 258 B M 341 #[some B.lb,j] w (.bool (true)) (⟨B4 M.K {X.C with A:=X.C.A.gAdd M.gf M.K.E (M.K.nd j) 1} j,X.D,X.S⟩))∧(∀{w:World} {B:B3} {M:Ak} {X:AS} {j:Nat} (h:A3 258 w B M X) (hj:j<M.n) (h0:X.S j 0=5),AP 258 B M 341 #[some B.lb,j] w (.bool (true)) (⟨Am M.K {X.C with A:=X.C.A.gAdd M.gf M.K.E (M.K.nd j) 0} j,X.D,X.S⟩))∧(∀{w:World} {B:B3} {M:Ak} {X:AS} {j:Nat} (h:A3 258 w B M X) (hj:j<M.n) (h0:X.S j 0=12),AP 258 B M 341 #[some B.lb,j] w (.bool (true)) (⟨Am M.K {X.C with A:=X.C.A.store M.fl 0} j,X.D,X.S⟩))∧(∀{w:World} {B:B3} {M:Ak} {X:AS} {j:Nat} (h:A3 258 w B M X) (hj:j<M.n) (h0:X.S j 0=8),AP 258 B M 341 #[some B.lb,j] w (.bool (true)) (⟨{X.C with A:=X.C.A.store M.fl 1},X.D.begins 0 M.K.E false,X.S⟩)):=by
 refine⟨?_,?_,?_,?_,?_,?_,?_,?_⟩;intro w B M X j h hj h0 hp;rotate_left;iterate 7
  intro w B M X j h hj h0;rotate_left
 all_goals
  unfold AP;have hn:=h.n32;obtain⟨d1,d2,d3⟩:=aI (j:=j) (n:=M.n);obtain⟨d4,d5,d6⟩:=aP (j:=j) (n:=M.n);have l1:(j:Int)<M.n:=by omega
  have hf0:ae [] w (w.alloc (.cells #[some B.lb] 234)):=aF.alloc _;have h0':=h.same hf0;obtain⟨c0,c1,c2,c3,c4,c5,c6⟩:=h0'.cells;obtain⟨j0,j1,j2,j3⟩:=h0'.sp hj;have jz:=h0'.row.frozen;have hB0:=am.new w #[some B.lb] 234;have b0:=hB0.cell (i:=0) rfl;have hmf:= @aY prog
 have e1:(X.S j 0==1)=false:=by simp;omega
 have e3:(X.S j 0==3)=false:=by simp;omega
 have e5:(X.S j 0==5)=false:=by simp;omega
 have e8:(X.S j 0==8)=false:=by simp;omega
 have e9:(X.S j 0==9)=false:=by simp;omega
 have e11:(X.S j 0==11)=false:=by simp;omega
 have e12:(X.S j 0==12)=false:=by simp;omega
 have HP:=aH hp;generalize X.S j 0=a0 at*;rotate_left;iterate 7
  rw[h0] at j0;rotate_left
 all_goals
  have H0:=aH h0';have HB0:=aH hB0;have F0:=aH (hf0.mono (S':=AY B M.K) aS);have HJ:=aH hj
 clear h hj h0' hB0 hf0 h0 hp;rotate_left;iterate 7
  clear h hj h0' hB0 hf0 h0;rotate_left
 all_goals
  go_enter func341,ntmps341;go_wp2_with fail;generalize w.alloc (.cells #[some B.lb] 234)=w0 at*;refine(fC H0.o.tab HJ.o).mono ?_;rintro e w9 ⟨rfl,rfl⟩;go_wp2_with fail
 refine Calls.mono (DT H0.o HP.o j) ?_;rotate_left;refine Calls.mono (Fh H0.o (M.K.nd j)) ?_;rotate_left;refine Calls.mono (DU H0.o) ?_;rotate_left;iterate 2
  refine Calls.mono (Kf H0.o (M.K.nd j)) ?_;rotate_left
 refine Calls.mono (Fh H0.o (M.K.nd j)) ?_;rotate_left;refine Calls.mono (qF H0.o HB0.o 0) ?_;rotate_left;refine Calls.mono (qF H0.o HB0.o 1) ?_;rotate_left;all_goals
  rintro e w1 ⟨rfl,hX,hF⟩;have hG:=hF;obtain⟨c0,c1,c2,c3,c4,c5,c6⟩:=hX.cells;have jz:=hX.row.frozen;have hB:=HB0.o.frm hG (H0.o.free.not HB0.o);have b0:=hB.cell (i:=0) rfl;have HB1:=aH hB;have H1:=aH hX;have F1:=aH (F0.o.trans hG);clear hX hF hG hB
 rotate_left 4
 focus
  go_wp2_with fail;refine Calls.mono (Id H1.o j) ?_;rintro e w2 ⟨rfl,hX,hF⟩;have hG:=hF;obtain⟨c0,c1,c2,c3,c4,c5,c6⟩:=hX.cells;have jz:=hX.row.frozen;have hB:=HB1.o.frm hG (H1.o.free.not HB1.o);have b0:=hB.cell (i:=0) rfl;have HB2:=aH hB;have H2:=aH hX;have F2:=aH (F1.o.trans hG);clear hX hF hG hB
 rotate_left;iterate 2
  focus
   go_wp2_with fail;refine Calls.mono (Gf H1.o j) ?_;rintro e w2 ⟨rfl,hX,hF⟩;have hG:=hF;obtain⟨c0,c1,c2,c3,c4,c5,c6⟩:=hX.cells;have jz:=hX.row.frozen;have hB:=HB1.o.frm hG (H1.o.free.not HB1.o);have b0:=hB.cell (i:=0) rfl;have HB2:=aH hB;have H2:=aH hX;have F2:=aH (F1.o.trans hG);clear hX hF hG hB
  rotate_left
 focus
  have HN:=aH (H1.o.free.not H1.o.box H1.o.ty.free);have hne:Nonempty (HW (fun wx=>ae (AY B M.K) w1 wx)):=⟨⟨w1,aF⟩⟩
  have z1:∀q:HW (fun wx=>ae (AY B M.K) w1 wx),q.w.cell? (B.lb,1)=some (.pointer (some ⟨B.tb,0,none⟩)):=fun q=>(H1.o.box.frm q.h HN.o).cell (i:=1) rfl;have z3:∀q:HW (fun wx=>ae (AY B M.K) w1 wx),q.w.cell? (B.lb,3)=some (.pointer (some ⟨B.db,0,none⟩)):=fun q=>(H1.o.box.frm q.h HN.o).cell (i:=3) rfl;have HNB:=aH (H1.o.free.not HB1.o);have zb:∀q:HW (fun wx=>ae (AY B M.K) w1 wx),q.w.cell? (w.heap.size,0)=some (.pointer (some ⟨B.lb,0,none⟩)):=fun q=>(HB1.o.frm q.h HNB.o).cell (i:=0) rfl;go_wp2_with fail;refine bv (S:=(fun wx=>ae (AY B M.K) w1 wx)) aK ?_;refine aR (fuel:=2) [0,1,2,3,4,5,6,7] rfl aF.drew1 ?_;intro Kq hKq;repeat (go_big_quiet_step (fail))
  refine wpQuiet_nil (hKq _ ?_);clear hKq Kq;refine aL 8 (fuel:=1) rfl ?_;go_wp2_with fail;refine(gE (H1.o.same aD).tab).mono ?_;rintro e w9 ⟨rfl,rfl⟩;go_wp2_with fail;refine af ⟨aF.drew1,?_⟩;refine aL 9 (fuel:=0) rfl ?_;go_wp2_with fail;refine Calls.mono (Fg (H1.o.same aD) 0 M.K.E false) ?_;rintro e w2 ⟨rfl,hX,hF⟩;have hG:=ae.trans (S:=AY B M.K) (a:=w1) aD hF;obtain⟨c0,c1,c2,c3,c4,c5,c6⟩:=hX.cells;have jz:=hX.row.frozen;have hB:=HB1.o.frm hG HNB.o;have b0:=hB.cell (i:=0) rfl;have HB2:=aH hB;have H2:=aH hX;have G2:=aH hG;have F2:=aH (F1.o.trans hG);clear hX hF hG hB;go_wp2_with fail;refine af ⟨G2.o,?_⟩;refine aN ?_;clear hne z1 z3 zb
 rotate_left;all_goals
  go_wp2;go_ret
 iterate 4
  focus
   exact⟨rfl,H1.o.same aD,F1.o.trans aD⟩
 iterate 4
  focus
   exact⟨rfl,H2.o.same aD,F2.o.trans aD⟩
def ox:= @And.left _ _ BS
def oZ:= @And.left _ _ (@And.right _ _ BS)
def ou:= @And.left _ _ (@And.right _ _ (@And.right _ _ BS))
def jm:= @And.left _ _ (@And.right _ _ (@And.right _ _ (@And.right _ _ BS)))
def od:= @And.left _ _ (@And.right _ _ (@And.right _ _ (@And.right _ _ (@And.right _ _ BS))))
def oe:= @And.left _ _ (@And.right _ _ (@And.right _ _ (@And.right _ _ (@And.right _ _ (@And.right _ _ BS)))))
def jt:= @And.left _ _ (@And.right _ _ (@And.right _ _ (@And.right _ _ (@And.right _ _ (@And.right _ _ (@And.right _ _ BS))))))
def oq:= @And.right _ _ (@And.right _ _ (@And.right _ _ (@And.right _ _ (@And.right _ _ (@And.right _ _ (@And.right _ _ BS))))))
end
section
variable{w w':World} {B:B3} {M:Ak} {X:AS} {j:Nat}
theorem f8 (h:A3 265 w B M X):Calls prog 374 #[some B.lb] w fun e w'=>e= .returned M.n∧w=w':=by
 have c6:=h.box.cell (i:=6) rfl;clear h;go_enter func374,ntmps374;go_wp2;go_ret;exact⟨rfl,rfl⟩
theorem qQ (h:A3 265 w B M X) (hj:j<M.n):Calls prog 375 #[some B.lb,j] w fun e w'=>e= .returned true∧w=w':=by
 have HT:=aH (f8 h);have hn:=h.n32;obtain⟨d1,d2,d3⟩:=aI (j:=j) (n:=M.n);obtain⟨d4,d5,d6⟩:=aP (j:=j) (n:=M.n);have l1:(j:Int)<M.n:=by omega
 clear h;go_enter func375,ntmps375;go_wp2_with fail;refine HT.o.mono ?_;rintro e w' ⟨rfl,rfl⟩;go_wp2;go_ret;exact⟨rfl,rfl⟩
theorem E4:(∀{w:World} {B:B3} {M:Ak} {X:AS} {j:Nat} (h:A3 265 w B M X) (hj:j<M.n),Calls prog 372 #[some B.lb,j] w fun e w'=>e= .returned (.agg #[(X.S j 0:Int),(X.S j 1:Int),(X.S j 2:Int),(X.S j 3:Int)])∧ae [] w w')∧(∀{w:World} {B:B3} {M:Ak} {X:AS} {j:Nat} (h:A3 265 w B M X) (hj:j<M.n) (h0:X.S j 0≠0) (r:Bool),AP 265 B M 369 #[some B.lb,j,r] w (.bool false) X)∧(∀{w:World} {B:B3} {M:Ak} {X:AS} {j:Nat} (h:A3 265 w B M X) (hj:j<M.n) (h0:X.S j 0=0),AP 265 B M 369 #[some B.lb,j,true] w (.bool true) {X with S:=DZ X.S j 1 1})∧(∀{w:World} {B:B3} {M:Ak} {X:AS} {j:Nat} (h:A3 265 w B M X) (hj:j<M.n) (h0:X.S j 0=0),AP 265 B M 369 #[some B.lb,j,false] w (.bool true) {X with S:=DZ X.S j 5 0}):=by
 refine⟨?_,?_,?_,?_⟩;intro w B M X j h hj;have hF:ae [] w (w.alloc (.cells #[(0:Int),(0:Int),(0:Int),(0:Int)] 138)):=aF.alloc _;have h2:=h.same hF;have HT:=aH (qQ h2 hj);have c6:=h2.box.cell (i:=6) rfl;obtain⟨j0,j1,j2,j3⟩:=h2.sp hj;rotate_left;intro w B M X j h hj h0 r;unfold AP;rotate_left;iterate 2
  intro w B M X j h hj h0;unfold AP;rotate_left
 all_goals
  have hn:=h.n32;obtain⟨d1,d2,d3⟩:=aI (j:=j) (n:=M.n);obtain⟨d4,d5,d6⟩:=aP (j:=j) (n:=M.n);have l1:(j:Int)<M.n:=by omega
 generalize X.S j 0=a0 at*;generalize X.S j 1=a1 at*;generalize X.S j 2=a2 at*;generalize X.S j 3=a3 at*;rotate_left;iterate 3
  obtain⟨c0,c1,c2,c3,c4,c5,c6⟩:=h.cells;obtain⟨j0,j1,j2,j3⟩:=h.sp hj;have jz:=h.row.frozen;have HT:=aH (qQ h hj);rotate_left
 all_goals
  have hnot:= @aX prog
 focus
  clear h h2 hF;go_enter func372,ntmps372
 rotate_left
 focus
  have e3:(X.S j 0 !=0)=true:=by simpa using h0
  generalize X.S j 0=a0 at*;have H0:=aH h;have F0:=aH (ae.refl (AY B M.K) w);have HJ:=aH hj;clear h hj h0;go_enter func369,ntmps369
 rotate_left
 focus
  rw[h0] at j0;have hQ:=(h.put4 j 5 0).1;obtain⟨k0,k1,k2,k3⟩:=hQ.sp hj;have kz:=hQ.row.frozen;have k6:=hQ.cells.2.2.2.2.2.2;have H0:=aH h;have F0:=aH (ae.refl (AY B M.K) w);have HJ:=aH hj;clear h hj h0 hQ;go_enter func369,ntmps369
 rotate_left
 focus
  rw[h0] at j0;have H0:=aH h;have F0:=aH (ae.refl (AY B M.K) w);have HJ:=aH hj;clear h hj h0;go_enter func369,ntmps369
 rotate_left;all_goals
  go_wp2_with fail;refine HT.o.mono ?_;rintro e w' ⟨rfl,rfl⟩
 ·go_wp2_with fail;exact bodyPost_ret (v:=.agg #[a0,a1,a2,a3]) (by simp[results,results372,go_sem]) rfl ⟨rfl,aF.alloc _⟩
 ·go_wp2;go_ret;exact⟨rfl,H0.o.same aD,F0.o.trans aD⟩
 ·go_wp2;go_ret;have hQ:=H0.o.put4 j 5 0;have hP:=hQ.1.put4 j 1 1;rw[pQ] at hP;exact⟨rfl,hP.1,F0.o.trans (hQ.2.trans hP.2)⟩
 ·go_wp2;go_ret;have hP:=H0.o.put4 j 5 0;exact⟨rfl,hP.1,F0.o.trans hP.2⟩
def Gi:= @And.left _ _ E4
def v7:= @And.left _ _ (@And.right _ _ E4)
def v9:= @And.left _ _ (@And.right _ _ (@And.right _ _ E4))
def vA:= @And.right _ _ (@And.right _ _ (@And.right _ _ E4))
theorem mF (h:A3 265 w B M X) (hj:j<M.n) (h0:X.S j 0≠10):AP 265 B M 370 #[some B.lb,j] w (.bool false) X:=by
 unfold AP;have hn:=h.n32;obtain⟨d1,d2,d3⟩:=aI (j:=j) (n:=M.n);obtain⟨d4,d5,d6⟩:=aP (j:=j) (n:=M.n);have l1:(j:Int)<M.n:=by omega
 have hS:=Gi h hj;have fd:=bY;have e3:(X.S j 0 !=10)=true:=by simpa using h0
 have H0:=aH h;have HJ:=aH hj;have HS:=aH hS;generalize X.S j 0=a0 at*;clear h hj hS h0;all_goals
  go_enter func370,ntmps370;go_wp2_with fail;refine HS.o.mono ?_;rintro e w1 ⟨rfl,hF1⟩;have hX:=H0.o.same hF1;obtain⟨c0,c1,c2,c3,c4,c5,c6⟩:=hX.cells;have jz:=hX.row.frozen;have HX:=aH hX;have HF1:=aH (hF1.mono (S':=AY B M.K) aS);clear hX hF1;go_wp2;go_ret;exact⟨rfl,HX.o.same aE,HF1.o.trans aE⟩
theorem mG (h:A3 265 w B M X) (hj:j<M.n) (h0:X.S j 0=10) (ha:X.S j 1=0∨X.S j 1=1):AP 265 B M 370 #[some B.lb,j] w (.bool true) {X with S:=ac X.S j 0 (12 - X.S j 1)}:=by
 unfold AP;have hn:=h.n32;obtain⟨d1,d2,d3⟩:=aI (j:=j) (n:=M.n);obtain⟨d4,d5,d6⟩:=aP (j:=j) (n:=M.n);have l1:(j:Int)<M.n:=by omega
 have hS:=Gi h hj;have fd:=bY;rw[h0] at hS;have H0:=aH h;have HJ:=aH hj;clear h hj;rcases ha with ha|ha;all_goals
  have HA:=aH ha;rw[ha] at hS;have HS:=aH hS;have H00:=aH h0;clear hS ha h0;go_enter func370,ntmps370;go_wp2_with fail;refine HS.o.mono ?_;rintro e w1 ⟨rfl,hF1⟩;have hX:=H0.o.same hF1;obtain⟨c0,c1,c2,c3,c4,c5,c6⟩:=hX.cells;obtain⟨j0,j1,j2,j3⟩:=hX.sp HJ.o;rw[H00.o] at j0;rw[HA.o] at j1;have jz:=hX.row.frozen;have HX:=aH hX;have HF1:=aH (hF1.mono (S':=AY B M.K) aS);clear hX hF1;have hY:=HX.o.same ((ae.refl [] w1).alloc (.cells #[(10:Int),(X.S j 1:Int),(X.S j 2:Int),(X.S j 3:Int)] 138));rw[HA.o] at hY;have k6:=hY.cells.2.2.2.2.2.2;have k0:=(hY.sp HJ.o).1;rw[H00.o] at k0;have kz:=hY.row.frozen;have HY:=aH hY;clear hY;go_wp2_with fail;go_region;all_goals
   go_wp2;go_ret;rw[HA.o];exact⟨rfl,(HY.o.put0 j _).same aD,(HF1.o.trans ((aF.alloc _).trans (A3.frm0 M.K))).trans aD⟩
end
def B2 (X:AS) (j:Nat):Bool:= !(X.S j 0==0)&& !(X.S j 0==10)
def Fa (M:Ak) (X:AS) (j:Nat):AS:=
 if B2 X j=false then X else
 if X.S j 0=2 then⟨{X.C with A:=X.C.A.load M.fl},X.D,ac X.S j 0 (if X.C.A.get M.fl=0 then 10 else 3)⟩ else
 if(E9 M X j).2 then{(E9 M X j).1 with S:=ac (E9 M X j).1.S j 0 (Ev (X.S j 0))} else(E9 M X j).1
def IZ (M:Ak) (X:AS) (j:Nat):Bool:=
 if B2 X j=false then false else
 if X.S j 0=2 then decide (X.C.A.get M.fl=0) else(E9 M X j).2&&(Ev (X.S j 0)==10||Ev (X.S j 0)==0)
section
variable{w w':World} {B:B3} {M:Ak} {X:AS} {j:Nat}
theorem Gg (h:B2 X j=false):X.S j 0=0∨X.S j 0=10:=by
 unfold B2 at h;by_cases h1:X.S j 0=0
 ·exact .inl h1
 ·by_cases h2:X.S j 0=10
  ·exact .inr h2
  ·simp[h1,h2] at h
theorem Cj:(∀{w:World} {B:B3} {M:Ak} {X:AS} {j:Nat} (h:A3 258 w B M X) (hj:j<M.n) (hp:B2 X j=false),AP 258 B M 338 #[some B.lb,j] w (.bool false) X)∧(∀{w:World} {B:B3} {M:Ak} {X:AS} {j:Nat} (h:A3 258 w B M X) (hj:j<M.n) (h0:X.S j 0=2) (hv:X.C.A.get M.fl=0),AP 258 B M 338 #[some B.lb,j] w (.bool true) ⟨{X.C with A:=X.C.A.load M.fl},X.D,ac X.S j 0 10⟩)∧(∀{w:World} {B:B3} {M:Ak} {X:AS} {j:Nat} (h:A3 258 w B M X) (hj:j<M.n) (h0:X.S j 0=2) (hv:X.C.A.get M.fl≠0),AP 258 B M 338 #[some B.lb,j] w (.bool false) ⟨{X.C with A:=X.C.A.load M.fl},X.D,ac X.S j 0 3⟩)∧(∀{w:World} {B:B3} {M:Ak} {X:AS} {j:Nat} (h:A3 258 w B M X) (hj:j<M.n) {q:Int} (hp:X.S j 0=q) (h00:(q==0)=false) (h10:(q==10)=false) (h2:(q==2)=false) (hq:0≤q∧q≤20) {X2:AS} (B7:∀W,ae [] w W→AP 258 B M 341 #[some B.lb,j] W (.bool true) X2),AP 258 B M 338 #[some B.lb,j] w (.bool (Ev q==10||Ev q==0)) {X2 with S:=ac X2.S j 0 (Ev q)})∧(∀{w:World} {B:B3} {M:Ak} {X:AS} {j:Nat} (h:A3 258 w B M X) (hj:j<M.n) {q:Int} (hp:X.S j 0=q) (h00:(q==0)=false) (h10:(q==10)=false) (h2:(q==2)=false) (hq:0≤q∧q≤20) {X2:AS} (B7:∀W,ae [] w W→AP 258 B M 341 #[some B.lb,j] W (.bool false) X2),AP 258 B M 338 #[some B.lb,j] w (.bool false) X2):=by
 refine⟨?_,?_,?_,?_,?_⟩;intro w B M X j h hj hp;rotate_left;iterate 2
  intro w B M X j h hj h0 hv;rotate_left
 iterate 2
  intro w B M X j h hj q hp h00 h10 h2 hq X2 B7;rotate_left
 all_goals
  unfold AP;have hn:=h.n32;obtain⟨d1,d2,d3⟩:=aI (j:=j) (n:=M.n);obtain⟨d4,d5,d6⟩:=aP (j:=j) (n:=M.n);have l1:(j:Int)<M.n:=by omega
  have hS:=IY h hj;have fd:=bY
 have hq:=Gg hp;generalize X.S j 0=q at*;generalize X.S j 1=s1 at*;generalize X.S j 2=s2 at*;generalize X.S j 3=s3 at*;rotate_left;have e1:(X.C.A.get M.fl==0)=true:=by simpa using hv
 rw[h0] at hS;have H00:=aH h0;rotate_left;have e1:(X.C.A.get M.fl==0)=false:=by simpa using hv
 rw[h0] at hS;have H00:=aH h0;rotate_left;iterate 2
  rw[hp] at hS;have HQ:=aH hq;have HQN:=aH (show True from trivial);have HGO:=aH B7;have HPX:=aH hp;generalize X.S j 1=s1 at hS;generalize X.S j 2=s2 at hS;generalize X.S j 3=s3 at hS;rotate_left
 all_goals
  have HS:=aH hS;have H0:=aH h;have HJ:=aH hj
 ·clear h hj hS hp;rcases hq with rfl|rfl;all_goals
   go_enter func338,ntmps338;go_wp2_with fail;refine HS.o.mono ?_;rintro e w1 ⟨rfl,hF1⟩;have HF1:=aH hF1;clear hF1;go_wp2;go_ret;exact⟨rfl,H0.o.same (HF1.o.trans aE),(HF1.o.trans aE).mono aS⟩
 ·clear h hj hS h0 hv;go_enter func338,ntmps338;go_wp2_with fail;refine HS.o.mono ?_;rintro e w1 ⟨rfl,hF1⟩;have hX:=H0.o.same hF1;obtain⟨c0,c1,c2,c3,c4,c5,c6⟩:=hX.cells;obtain⟨j0,j1,j2,j3⟩:=hX.sp HJ.o;rw[H00.o] at j0;have jz:=hX.row.frozen;have H1:=aH hX;have F1:=aH (hF1.mono (S':=AY B M.K) aS);have HF1:=aH hF1;clear hX hF1;have HN:=aH (H1.o.free.not H1.o.box H1.o.ty.free);have hne:Nonempty (HW (fun wx=>ae (AY B M.K) w1 wx)):=⟨⟨w1,aF⟩⟩
  have z0:∀q:HW (fun wx=>ae (AY B M.K) w1 wx),q.w.cell? (B.lb,0)=some (.pointer (some ⟨B.co.ab,0,none⟩)):=fun q=>(H1.o.box.frm q.h HN.o).cell (i:=0) rfl;have z4:∀q:HW (fun wx=>ae (AY B M.K) w1 wx),q.w.cell? (B.lb,4)=some (.int .i64 M.fl):=fun q=>(H1.o.box.frm q.h HN.o).cell (i:=4) rfl;go_wp2_with fail;refine aG (fun wx=>ae (AY B M.K) w1 wx) ?_;refine aR (fuel:=4) [0,1,2,3,4,5,6,7,8,9,10] rfl aF.drew1 ?_;intro Kq hKq;repeat (go_big_quiet_step (fail))
  refine wpQuiet_nil (hKq _ ?_);clear hKq Kq;refine aL 11 (fuel:=3) rfl ?_;go_wp2_with fail;refine Calls.mono (Ie (H1.o.same aD) M.fl) ?_;rintro e w2 ⟨rfl,hX,hF⟩;have hG:=ae.trans (S:=AY B M.K) (a:=w1) aD hF;have q0:=hX.sp0 HJ.o H00.o;have jz:=hX.row.frozen;have H2:=aH hX;have G2:=aH hG;have F2:=aH (F1.o.trans hG);clear hX hF hG;go_wp2_with fail;refine af ⟨G2.o,?_⟩;refine aR (fuel:=0) [12,13,14] rfl G2.o ?_;intro Kq hKq;repeat (go_big_quiet_step (fail))
  refine wpQuiet_nil (hKq _ ?_);clear hKq Kq;refine aN ?_;clear hne z0 z4;go_wp2;go_ret;exact⟨rfl,(H2.o.same aD).put0 j 10,F2.o.trans (ae.trans aD (A3.frm0 M.K))⟩
 ·clear h hj hS h0 hv;go_enter func338,ntmps338;go_wp2_with fail;refine HS.o.mono ?_;rintro e w1 ⟨rfl,hF1⟩;have hX:=H0.o.same hF1;obtain⟨c0,c1,c2,c3,c4,c5,c6⟩:=hX.cells;obtain⟨j0,j1,j2,j3⟩:=hX.sp HJ.o;rw[H00.o] at j0;have jz:=hX.row.frozen;have H1:=aH hX;have F1:=aH (hF1.mono (S':=AY B M.K) aS);have HF1:=aH hF1;clear hX hF1;have HN:=aH (H1.o.free.not H1.o.box H1.o.ty.free);have hne:Nonempty (HW (fun wx=>ae (AY B M.K) w1 wx)):=⟨⟨w1,aF⟩⟩
  have z0:∀q:HW (fun wx=>ae (AY B M.K) w1 wx),q.w.cell? (B.lb,0)=some (.pointer (some ⟨B.co.ab,0,none⟩)):=fun q=>(H1.o.box.frm q.h HN.o).cell (i:=0) rfl;have z4:∀q:HW (fun wx=>ae (AY B M.K) w1 wx),q.w.cell? (B.lb,4)=some (.int .i64 M.fl):=fun q=>(H1.o.box.frm q.h HN.o).cell (i:=4) rfl;go_wp2_with fail;refine aG (fun wx=>ae (AY B M.K) w1 wx) ?_;refine aR (fuel:=4) [0,1,2,3,4,5,6,7,8,9,10] rfl aF.drew1 ?_;intro Kq hKq;repeat (go_big_quiet_step (fail))
  refine wpQuiet_nil (hKq _ ?_);clear hKq Kq;refine aL 11 (fuel:=3) rfl ?_;go_wp2_with fail;refine Calls.mono (Ie (H1.o.same aD) M.fl) ?_;rintro e w2 ⟨rfl,hX,hF⟩;have hG:=ae.trans (S:=AY B M.K) (a:=w1) aD hF;have q0:=hX.sp0 HJ.o H00.o;have jz:=hX.row.frozen;have H2:=aH hX;have G2:=aH hG;have F2:=aH (F1.o.trans hG);clear hX hF hG;go_wp2_with fail;refine af ⟨G2.o,?_⟩;refine aR (fuel:=0) [12,13,14] rfl G2.o ?_;intro Kq hKq;repeat (go_big_quiet_step (fail))
  refine wpQuiet_nil (hKq _ ?_);clear hKq Kq;refine aN ?_;clear hne z0 z4;go_wp2;go_ret;exact⟨rfl,(H2.o.same aD).put0 j 3,F2.o.trans (ae.trans aD (A3.frm0 M.K))⟩
 ·clear h hj hS hp hq B7;go_enter func338,ntmps338;go_wp2_with fail;refine HS.o.mono ?_;rintro e w1 ⟨rfl,hF1⟩;have hX:=H0.o.same hF1;obtain⟨c0,c1,c2,c3,c4,c5,c6⟩:=hX.cells;obtain⟨j0,j1,j2,j3⟩:=hX.sp HJ.o;rw[HPX.o] at j0;have jz:=hX.row.frozen;have H1:=aH hX;have F1:=aH (hF1.mono (S':=AY B M.K) aS);have HF1:=aH hF1;clear hX hF1;go_wp2_with fail
  go_quiet (fail)
  go_wp2_with fail;refine Calls.mono (HGO.o _ (by repeat (first|exact HF1.o|exact aF|apply ae.drew1|apply ae.drew))) ?_;rintro e w2 ⟨rfl,hX,hF⟩;obtain⟨c0,c1,c2,c3,c4,c5,c6⟩:=hX.cells;obtain⟨q0,q1,q2,q3⟩:=hX.sp HJ.o;have jz:=hX.row.frozen;have H2:=aH hX;have F2:=aH (F1.o.trans (ae.trans (S:=AY B M.K) (a:=w1) aD hF));clear hX hF;have hp2:=H2.o.put0 j (Ev q);have HP2:=aH hp2;clear hp2;go_wp2_with fail;refine(t9 _ HQ.o _).mono ?_;rintro e w9 ⟨rfl,rfl⟩;cases hr:(Ev q==10)
  all_goals
   have HR:=aH hr;go_wp2;go_ret;exact⟨by rw[HR.o];rfl,HP2.o,F2.o.trans (A3.frm0 M.K)⟩
 ·clear h hj hS hp hq B7;go_enter func338,ntmps338;go_wp2_with fail;refine HS.o.mono ?_;rintro e w1 ⟨rfl,hF1⟩;have hX:=H0.o.same hF1;obtain⟨c0,c1,c2,c3,c4,c5,c6⟩:=hX.cells;obtain⟨j0,j1,j2,j3⟩:=hX.sp HJ.o;rw[HPX.o] at j0;have jz:=hX.row.frozen;have H1:=aH hX;have F1:=aH (hF1.mono (S':=AY B M.K) aS);have HF1:=aH hF1;clear hX hF1;go_wp2_with fail
  go_quiet (fail)
  go_wp2_with fail;refine Calls.mono (HGO.o _ (by repeat (first|exact HF1.o|exact aF|apply ae.drew1|apply ae.drew))) ?_;rintro e w2 ⟨rfl,hX,hF⟩;obtain⟨c0,c1,c2,c3,c4,c5,c6⟩:=hX.cells;obtain⟨q0,q1,q2,q3⟩:=hX.sp HJ.o;have jz:=hX.row.frozen;have H2:=aH hX;have F2:=aH (F1.o.trans (ae.trans (S:=AY B M.K) (a:=w1) aD hF));clear hX hF;go_wp2;go_ret;exact⟨rfl,H2.o.same aD,F2.o.trans aD⟩
def tH:= @And.left _ _ Cj
def p9:= @And.left _ _ (@And.right _ _ Cj)
def pA:= @And.left _ _ (@And.right _ _ (@And.right _ _ Cj))
def tS:= @And.left _ _ (@And.right _ _ (@And.right _ _ (@And.right _ _ Cj)))
def tO:= @And.right _ _ (@And.right _ _ (@And.right _ _ (@And.right _ _ Cj)))
end
section
variable{w w':World} {B:B3} {M:Ak} {X:AS} {j:Nat}
theorem f6 (h:A3 263 w B M X):Calls prog 363 #[some B.lb] w fun e w'=>e= .returned M.n∧w=w':=by
 have c6:=h.box.cell (i:=6) rfl;clear h;go_enter func363,ntmps363;go_wp2;go_ret;exact⟨rfl,rfl⟩
theorem qI (h:A3 263 w B M X) (hj:j<M.n):Calls prog 364 #[some B.lb,j] w fun e w'=>e= .returned true∧w=w':=by
 have HT:=aH (f6 h);have hn:=h.n32;obtain⟨d1,d2,d3⟩:=aI (j:=j) (n:=M.n);obtain⟨d4,d5,d6⟩:=aP (j:=j) (n:=M.n);have l1:(j:Int)<M.n:=by omega
 clear h;go_enter func364,ntmps364;go_wp2_with fail;refine HT.o.mono ?_;rintro e w' ⟨rfl,rfl⟩;go_wp2;go_ret;exact⟨rfl,rfl⟩
theorem Dz:(∀{w:World} {B:B3} {M:Ak} {X:AS} {j:Nat} (h:A3 263 w B M X) (hj:j<M.n),Calls prog 361 #[some B.lb,j] w fun e w'=>e= .returned (.agg #[(X.S j 0:Int),(X.S j 1:Int),(X.S j 2:Int),(X.S j 3:Int)])∧ae [] w w')∧(∀{w:World} {B:B3} {M:Ak} {X:AS} {j:Nat} (h:A3 263 w B M X) (hj:j<M.n) (h0:X.S j 0≠0) (r:Bool),AP 263 B M 358 #[some B.lb,j,r] w (.bool false) X)∧(∀{w:World} {B:B3} {M:Ak} {X:AS} {j:Nat} (h:A3 263 w B M X) (hj:j<M.n) (h0:X.S j 0=0),AP 263 B M 358 #[some B.lb,j,true] w (.bool true) {X with S:=DZ X.S j 1 1})∧(∀{w:World} {B:B3} {M:Ak} {X:AS} {j:Nat} (h:A3 263 w B M X) (hj:j<M.n) (h0:X.S j 0=0),AP 263 B M 358 #[some B.lb,j,false] w (.bool true) {X with C:=B4 M.K X.C j,S:=DZ X.S j 7 0}):=by
 refine⟨?_,?_,?_,?_⟩;intro w B M X j h hj;have hF:ae [] w (w.alloc (.cells #[(0:Int),(0:Int),(0:Int),(0:Int)] 138)):=aF.alloc _;have h2:=h.same hF;have HT:=aH (qI h2 hj);have c6:=h2.box.cell (i:=6) rfl;obtain⟨j0,j1,j2,j3⟩:=h2.sp hj;rotate_left;intro w B M X j h hj h0 r;unfold AP;rotate_left;iterate 2
  intro w B M X j h hj h0;unfold AP;rotate_left
 all_goals
  have hn:=h.n32;obtain⟨d1,d2,d3⟩:=aI (j:=j) (n:=M.n);obtain⟨d4,d5,d6⟩:=aP (j:=j) (n:=M.n);have l1:(j:Int)<M.n:=by omega
 generalize X.S j 0=a0 at*;generalize X.S j 1=a1 at*;generalize X.S j 2=a2 at*;generalize X.S j 3=a3 at*;rotate_left;iterate 3
  obtain⟨c0,c1,c2,c3,c4,c5,c6⟩:=h.cells;obtain⟨j0,j1,j2,j3⟩:=h.sp hj;have jz:=h.row.frozen;have HT:=aH (qI h hj);rotate_left
 all_goals
  have hnot:= @aX prog
 focus
  clear h h2 hF;go_enter func361,ntmps361
 rotate_left
 focus
  have e3:(X.S j 0 !=0)=true:=by simpa using h0
  generalize X.S j 0=a0 at*;have H0:=aH h;have F0:=aH (ae.refl (AY B M.K) w);have HJ:=aH hj;clear h hj h0;go_enter func358,ntmps358
 rotate_left;iterate 2
  focus
   rw[h0] at j0;have H0:=aH h;have F0:=aH (ae.refl (AY B M.K) w);have HJ:=aH hj;clear h hj h0;go_enter func358,ntmps358
  rotate_left
 all_goals
  go_wp2_with fail;refine HT.o.mono ?_;rintro e w' ⟨rfl,rfl⟩
 ·go_wp2_with fail;exact bodyPost_ret (v:=.agg #[a0,a1,a2,a3]) (by simp[results,results361,go_sem]) rfl ⟨rfl,aF.alloc _⟩
 ·go_wp2;go_ret;exact⟨rfl,H0.o.same aD,F0.o.trans aD⟩
 ·go_wp2;go_ret;have hP:=H0.o.put4 j 1 1;exact⟨rfl,hP.1,F0.o.trans hP.2⟩
 ·go_wp2_with fail;refine Calls.mono (Id H0.o j) ?_;rintro e w1 ⟨rfl,hX,hF⟩;obtain⟨c0,c1,c2,c3,c4,c5,c6⟩:=hX.cells;obtain⟨j0,j1,j2,j3⟩:=hX.sp HJ.o;have jz:=hX.row.frozen;have HX:=aH hX;have HF:=aH (F0.o.trans hF);clear hX hF;go_wp2;go_ret;have hP:=HX.o.put4 j 7 0;exact⟨rfl,hP.1,HF.o.trans hP.2⟩
def Ia:= @And.left _ _ Dz
def tV:= @And.left _ _ (@And.right _ _ Dz)
def tY:= @And.left _ _ (@And.right _ _ (@And.right _ _ Dz))
def ta:= @And.right _ _ (@And.right _ _ (@And.right _ _ Dz))
theorem kS (h:A3 263 w B M X) (hj:j<M.n) (h0:X.S j 0≠10):AP 263 B M 359 #[some B.lb,j] w (.bool false) X:=by
 unfold AP;have hn:=h.n32;obtain⟨d1,d2,d3⟩:=aI (j:=j) (n:=M.n);obtain⟨d4,d5,d6⟩:=aP (j:=j) (n:=M.n);have l1:(j:Int)<M.n:=by omega
 have hS:=Ia h hj;have fd:=bY;have e3:(X.S j 0 !=10)=true:=by simpa using h0
 have H0:=aH h;have HJ:=aH hj;have HS:=aH hS;generalize X.S j 0=a0 at*;clear h hj hS h0;all_goals
  go_enter func359,ntmps359;go_wp2_with fail;refine HS.o.mono ?_;rintro e w1 ⟨rfl,hF1⟩;have hX:=H0.o.same hF1;obtain⟨c0,c1,c2,c3,c4,c5,c6⟩:=hX.cells;have jz:=hX.row.frozen;have HX:=aH hX;have HF1:=aH (hF1.mono (S':=AY B M.K) aS);clear hX hF1;go_wp2;go_ret;exact⟨rfl,HX.o.same aE,HF1.o.trans aE⟩
theorem kV (h:A3 263 w B M X) (hj:j<M.n) (h0:X.S j 0=10) (ha:X.S j 1=0∨X.S j 1=1):AP 263 B M 359 #[some B.lb,j] w (.bool true) {X with S:=ac X.S j 0 (12 - X.S j 1)}:=by
 unfold AP;have hn:=h.n32;obtain⟨d1,d2,d3⟩:=aI (j:=j) (n:=M.n);obtain⟨d4,d5,d6⟩:=aP (j:=j) (n:=M.n);have l1:(j:Int)<M.n:=by omega
 have hS:=Ia h hj;have fd:=bY;rw[h0] at hS;have H0:=aH h;have HJ:=aH hj;clear h hj;rcases ha with ha|ha;all_goals
  have HA:=aH ha;rw[ha] at hS;have HS:=aH hS;have H00:=aH h0;clear hS ha h0;go_enter func359,ntmps359;go_wp2_with fail;refine HS.o.mono ?_;rintro e w1 ⟨rfl,hF1⟩;have hX:=H0.o.same hF1;obtain⟨c0,c1,c2,c3,c4,c5,c6⟩:=hX.cells;obtain⟨j0,j1,j2,j3⟩:=hX.sp HJ.o;rw[H00.o] at j0;rw[HA.o] at j1;have jz:=hX.row.frozen;have HX:=aH hX;have HF1:=aH (hF1.mono (S':=AY B M.K) aS);clear hX hF1;have hY:=HX.o.same ((ae.refl [] w1).alloc (.cells #[(10:Int),(X.S j 1:Int),(X.S j 2:Int),(X.S j 3:Int)] 138));rw[HA.o] at hY;have k6:=hY.cells.2.2.2.2.2.2;have k0:=(hY.sp HJ.o).1;rw[H00.o] at k0;have kz:=hY.row.frozen;have HY:=aH hY;clear hY;go_wp2;go_ret;rw[HA.o];exact⟨rfl,HY.o.put0 j _,HF1.o.trans ((aF.alloc _).trans (A3.frm0 M.K))⟩
end
def mI (M:Ak) (X:AS) (j:Nat):AS×Int:=
 if X.S j 0=1 then(⟨{X.C with A:=X.C.A.load M.fl},X.D,X.S⟩,if X.C.A.get M.fl=0 then 2 else 1) else
 if X.S j 0=2 then(⟨{X.C with A:=X.C.A.gAdd M.gf M.K.E (M.K.nd j) 0},X.D,X.S⟩,3) else
 if X.S j 0=3 then(⟨{X.C with A:=X.C.A.load M.fl},X.D,X.S⟩,if X.C.A.get M.fl=0 then 10 else 4) else
 if X.S j 0=4 then(⟨{X.C with A:=X.C.A.gAdd M.gf M.K.E (M.K.nd j) 1},X.D,X.S⟩,1) else(⟨{X.C with A:=X.C.A.gAdd M.gf M.K.E (M.K.nd j) 1},X.D,X.S⟩,0)
def mL (M:Ak) (X:AS) (j:Nat):AS×Int:=
 if X.S j 0=5 then(⟨B4 M.K {X.C with A:=X.C.A.add M.fl 1} j,X.D,X.S⟩,7) else
 if X.S j 0=7 then(if Ab M.K X.C j then(⟨AN M.K X.C j,X.D.begins 0 M.K.E false,X.S⟩,9) else(⟨AN M.K X.C j,X.D,X.S⟩,7)) else
 if X.S j 0=9 then(C3 M X,if DV M X then 10 else 9) else
 if X.S j 0=12 then(⟨Am M.K {X.C with A:=X.C.A.add M.fl (-1)} j,X.D,X.S⟩,13) else
 if X.S j 0=13 then(⟨AN M.K X.C j,X.D,X.S⟩,if Ab M.K X.C j then 0 else 13) else(X,X.S j 0)
def JL (M:Ak) (X:AS) (j:Nat):AS×Int:=if X.S j 1=1 then mI M X j else mL M X j
def Fm (M:Ak) (X:AS) (j:Nat):AS:=if B2 X j=false then X else{(JL M X j).1 with S:=ac (JL M X j).1.S j 0 (JL M X j).2}
def In (M:Ak) (X:AS) (j:Nat):Bool:=if B2 X j=false then false else(JL M X j).2==10||(JL M X j).2==0
section
variable{w w':World} {B:B3} {M:Ak} {X:AS} {j:Nat}
theorem bu (h:A3 265 w B M X):AP 265 B M 378 #[some B.lb] w (.bool (X.C.A.get M.fl==0)) ⟨{X.C with A:=X.C.A.load M.fl},X.D,X.S⟩:=by
 unfold AP;obtain⟨c0,c1,c2,c3,c4,c5,c6⟩:=h.cells;have H0:=aH h;have F0:=aH (ae.refl (AY B M.K) w);clear h;go_enter func378,ntmps378;have HN:=aH (H0.o.free.not H0.o.box H0.o.ty.free);have hne:Nonempty (HW (fun wx=>ae (AY B M.K) w wx)):=⟨⟨w,aF⟩⟩
 have z0:∀q:HW (fun wx=>ae (AY B M.K) w wx),q.w.cell? (B.lb,0)=some (.pointer (some ⟨B.co.ab,0,none⟩)):=fun q=>(H0.o.box.frm q.h HN.o).cell (i:=0) rfl;have z4:∀q:HW (fun wx=>ae (AY B M.K) w wx),q.w.cell? (B.lb,4)=some (.int .i64 M.fl):=fun q=>(H0.o.box.frm q.h HN.o).cell (i:=4) rfl;go_wp2_with fail;refine bv (S:=(fun wx=>ae (AY B M.K) w wx)) aK ?_;refine aR (fuel:=3) [0,1,2,3,4,5,6,7] rfl aF.drew1 ?_;intro Kq hKq;repeat (go_big_quiet_step (fail))
 refine wpQuiet_nil (hKq _ ?_);clear hKq Kq;refine aL 8 (fuel:=2) rfl ?_;go_wp2_with fail;refine Calls.mono (Ie (H0.o.same aD) M.fl) ?_;rintro e w1 ⟨rfl,hX,hF⟩;have hG:=ae.trans (S:=AY B M.K) (a:=w) aD hF;obtain⟨c0,c1,c2,c3,c4,c5,c6⟩:=hX.cells;have jz:=hX.row.frozen;have H1:=aH hX;have G1:=aH hG;have F1:=aH (F0.o.trans hG);clear hX hF hG;go_wp2_with fail;refine af ⟨G1.o,?_⟩;refine aR (fuel:=0) [9,10] rfl G1.o ?_;intro Kq hKq;repeat (go_big_quiet_step (fail))
 refine wpQuiet_nil (hKq _ ?_);clear hKq Kq;refine aN ?_;clear hne z0 z4;go_wp2;go_ret;exact⟨rfl,H1.o.same aD,F1.o.trans aD⟩
theorem Ap:(∀{w:World} {B:B3} {M:Ak} {X:AS} {j:Nat} (h:A3 265 w B M X) (hj:j<M.n),AP 265 B M 376 #[some B.lb,j,(5:Int)] w (.int .i64 7) ⟨B4 M.K {X.C with A:=X.C.A.add M.fl 1} j,X.D,X.S⟩)∧(∀{w:World} {B:B3} {M:Ak} {X:AS} {j:Nat} (h:A3 265 w B M X) (hj:j<M.n),AP 265 B M 376 #[some B.lb,j,(12:Int)] w (.int .i64 13) ⟨Am M.K {X.C with A:=X.C.A.add M.fl (-1)} j,X.D,X.S⟩)∧(∀{w:World} {B:B3} {M:Ak} {X:AS} {j:Nat} (h:A3 265 w B M X) (hj:j<M.n) (hr:Ab M.K X.C j=true) (hp:Ax M.K X.C),AP 265 B M 376 #[some B.lb,j,(7:Int)] w (.int .i64 9) ⟨AN M.K X.C j,X.D.begins 0 M.K.E false,X.S⟩)∧(∀{w:World} {B:B3} {M:Ak} {X:AS} {j:Nat} (h:A3 265 w B M X) (hj:j<M.n) (hr:Ab M.K X.C j=true) (hp:Ax M.K X.C),AP 265 B M 376 #[some B.lb,j,(13:Int)] w (.int .i64 0) ⟨AN M.K X.C j,X.D,X.S⟩)∧(∀{w:World} {B:B3} {M:Ak} {X:AS} {j:Nat} (h:A3 265 w B M X) (hj:j<M.n) (hr:Ab M.K X.C j=false) (hp:Ax M.K X.C),AP 265 B M 376 #[some B.lb,j,(7:Int)] w (.int .i64 7) ⟨AN M.K X.C j,X.D,X.S⟩)∧(∀{w:World} {B:B3} {M:Ak} {X:AS} {j:Nat} (h:A3 265 w B M X) (hj:j<M.n) (hv:X.C.A.get M.fl=0),AP 265 B M 377 #[some B.lb,j,(1:Int)] w (.int .i64 2) ⟨{X.C with A:=X.C.A.load M.fl},X.D,X.S⟩)∧(∀{w:World} {B:B3} {M:Ak} {X:AS} {j:Nat} (h:A3 265 w B M X) (hj:j<M.n) (hv:X.C.A.get M.fl=0),AP 265 B M 377 #[some B.lb,j,(3:Int)] w (.int .i64 10) ⟨{X.C with A:=X.C.A.load M.fl},X.D,X.S⟩)∧(∀{w:World} {B:B3} {M:Ak} {X:AS} {j:Nat} (h:A3 265 w B M X) (hj:j<M.n) (hv:X.C.A.get M.fl≠0),AP 265 B M 377 #[some B.lb,j,(1:Int)] w (.int .i64 1) ⟨{X.C with A:=X.C.A.load M.fl},X.D,X.S⟩)∧(∀{w:World} {B:B3} {M:Ak} {X:AS} {j:Nat} (h:A3 265 w B M X) (hj:j<M.n) (hv:X.C.A.get M.fl≠0),AP 265 B M 377 #[some B.lb,j,(3:Int)] w (.int .i64 4) ⟨{X.C with A:=X.C.A.load M.fl},X.D,X.S⟩)∧(∀{w:World} {B:B3} {M:Ak} {X:AS} {j:Nat} (h:A3 265 w B M X) (hj:j<M.n),AP 265 B M 377 #[some B.lb,j,(2:Int)] w (.int .i64 3) ⟨{X.C with A:=X.C.A.gAdd M.gf M.K.E (M.K.nd j) 0},X.D,X.S⟩)∧(∀{w:World} {B:B3} {M:Ak} {X:AS} {j:Nat} (h:A3 265 w B M X) (hj:j<M.n),AP 265 B M 377 #[some B.lb,j,(4:Int)] w (.int .i64 1) ⟨{X.C with A:=X.C.A.gAdd M.gf M.K.E (M.K.nd j) 1},X.D,X.S⟩)∧(∀{w:World} {B:B3} {M:Ak} {X:AS} {j:Nat} (h:A3 265 w B M X) (hj:j<M.n) {pc:Int} (n1:pc≠1) (n2:pc≠2) (n3:pc≠3) (n4:pc≠4),AP 265 B M 377 #[some B.lb,j,pc] w (.int .i64 0) ⟨{X.C with A:=X.C.A.gAdd M.gf M.K.E (M.K.nd j) 1},X.D,X.S⟩)∧(∀{w:World} {B:B3} {M:Ak} {X:AS} {j:Nat} (h:A3 265 w B M X) (hj:j<M.n) (hr:DV M X=true),AP 265 B M 376 #[some B.lb,j,(9:Int)] w (.int .i64 10) (C3 M X))∧(∀{w:World} {B:B3} {M:Ak} {X:AS} {j:Nat} (h:A3 265 w B M X) (hj:j<M.n) (hr:DV M X=false),AP 265 B M 376 #[some B.lb,j,(9:Int)] w (.int .i64 9) (C3 M X)):=by
 refine⟨?_,?_,?_,?_,?_,?_,?_,?_,?_,?_,?_,?_,?_,?_⟩;iterate 2
  intro w B M X j h hj;rotate_left
 iterate 3
  intro w B M X j h hj hr hp;rotate_left
 iterate 4
  intro w B M X j h hj hv;rotate_left
 iterate 2
  intro w B M X j h hj;rotate_left
 intro w B M X j h hj pc n1 n2 n3 n4;rotate_left;iterate 2
  intro w B M X j h hj hr;rotate_left
 all_goals
  unfold AP;have hn:=h.n32;obtain⟨d1,d2,d3⟩:=aI (j:=j) (n:=M.n);obtain⟨d4,d5,d6⟩:=aP (j:=j) (n:=M.n);have l1:(j:Int)<M.n:=by omega
  obtain⟨c0,c1,c2,c3,c4,c5,c6⟩:=h.cells;obtain⟨j0,j1,j2,j3⟩:=h.sp hj;have jz:=h.row.frozen
 rotate_left 2;iterate 3
  have HR:=aH hr;have HP:=aH hp;rotate_left
 iterate 2
  have HV:=aH (show(X.C.A.get M.fl==0)=true by simpa using hv);rotate_left
 iterate 2
  have HV:=aH (show(X.C.A.get M.fl==0)=false by simpa using hv);rotate_left
 rotate_left 2;have e1:(pc==1)=false:=by simpa using n1
 have e2:(pc==2)=false:=by simpa using n2
 have e3:(pc==3)=false:=by simpa using n3
 have e4:(pc==4)=false:=by simpa using n4
 rotate_left;iterate 2
  have HR:=aH hr;rotate_left
 all_goals
  have H0:=aH h;have F0:=aH (ae.refl (AY B M.K) w);have HJ:=aH hj
 iterate 2
  focus
   clear h hj;go_enter func376,ntmps376;have HN:=aH (H0.o.free.not H0.o.box H0.o.ty.free);have hne:Nonempty (HW (fun wx=>ae (AY B M.K) w wx)):=⟨⟨w,aF⟩⟩
   have z0:∀q:HW (fun wx=>ae (AY B M.K) w wx),q.w.cell? (B.lb,0)=some (.pointer (some ⟨B.co.ab,0,none⟩)):=fun q=>(H0.o.box.frm q.h HN.o).cell (i:=0) rfl;have z4:∀q:HW (fun wx=>ae (AY B M.K) w wx),q.w.cell? (B.lb,4)=some (.int .i64 M.fl):=fun q=>(H0.o.box.frm q.h HN.o).cell (i:=4) rfl
  rotate_left
 iterate 3
  focus
   clear h hj hr hp;go_enter func376,ntmps376
  rotate_left
 iterate 4
  focus
   clear h hj hv;go_enter func377,ntmps377
  rotate_left
 iterate 2
  focus
   clear h hj;go_enter func377,ntmps377
  rotate_left
 focus
  clear h hj n1 n2 n3 n4;go_enter func377,ntmps377
 rotate_left;iterate 2
  focus
   clear h hj hr;go_enter func376,ntmps376
  rotate_left
 all_goals
  go_wp2_with fail
 focus
  refine bv (S:=(fun wx=>ae (AY B M.K) w wx)) aK ?_;refine aR (fuel:=1) [0,1,2,3,4,5,6,7] rfl aF.drew1 ?_;intro Kq hKq;repeat (go_big_quiet_step (fail))
  refine wpQuiet_nil (hKq _ ?_);clear hKq Kq;refine aL 8 (fuel:=0) rfl ?_;go_wp2_with fail;refine Calls.mono (qJ (H0.o.same aD) M.fl 1) ?_
 rotate_left
 focus
  refine bv (S:=(fun wx=>ae (AY B M.K) w wx)) aK ?_;refine aR (fuel:=1) [0,1,2,3,4,5,6,7] rfl aF.drew1 ?_;intro Kq hKq;repeat (go_big_quiet_step (fail))
  refine wpQuiet_nil (hKq _ ?_);clear hKq Kq;refine aL 8 (fuel:=0) rfl ?_;go_wp2_with fail;refine Calls.mono (qJ (H0.o.same aD) M.fl (-1)) ?_
 rotate_left;iterate 2
  refine Calls.mono ((show AP _ B M _ _ _ (.bool true) ⟨AN M.K X.C j,X.D,X.S⟩ from HR.o ▸ DT H0.o HP.o j)) ?_;rotate_left
 refine Calls.mono ((show AP _ B M _ _ _ (.bool false) ⟨AN M.K X.C j,X.D,X.S⟩ from HR.o ▸ DT H0.o HP.o j)) ?_;rotate_left;iterate 2
  focus
   refine(fC H0.o.tab HJ.o).mono ?_;rintro e w9 ⟨rfl,rfl⟩;go_wp2_with fail;refine Calls.mono ((show AP _ B M _ _ _ (.bool true) ⟨{X.C with A:=X.C.A.load M.fl},X.D,X.S⟩ from HV.o ▸ bu H0.o)) ?_
  rotate_left
 iterate 2
  focus
   refine(fC H0.o.tab HJ.o).mono ?_;rintro e w9 ⟨rfl,rfl⟩;go_wp2_with fail;refine Calls.mono ((show AP _ B M _ _ _ (.bool false) ⟨{X.C with A:=X.C.A.load M.fl},X.D,X.S⟩ from HV.o ▸ bu H0.o)) ?_
  rotate_left
 focus
  refine(fC H0.o.tab HJ.o).mono ?_;rintro e w9 ⟨rfl,rfl⟩;go_wp2_with fail;refine Calls.mono (Fh H0.o (M.K.nd j)) ?_
 rotate_left;iterate 2
  focus
   refine(fC H0.o.tab HJ.o).mono ?_;rintro e w9 ⟨rfl,rfl⟩;go_wp2_with fail;refine Calls.mono (Kf H0.o (M.K.nd j)) ?_
  rotate_left
 refine Calls.mono ((show AP _ B M _ _ _ (.bool true) (C3 M X) from HR.o ▸ DU H0.o)) ?_;rotate_left;refine Calls.mono ((show AP _ B M _ _ _ (.bool false) (C3 M X) from HR.o ▸ DU H0.o)) ?_;rotate_left;all_goals
  rintro e w1 ⟨rfl,hX,hF⟩
 iterate 2
  focus
   have hG:=ae.trans (S:=AY B M.K) (a:=w) aD hF
  rotate_left
 iterate 12
  have hG:=hF;rotate_left
 all_goals
  obtain⟨c0,c1,c2,c3,c4,c5,c6⟩:=hX.cells;have jz:=hX.row.frozen;have H1:=aH hX
 iterate 2
  have G1:=aH hG;rotate_left
 rotate_left 12;all_goals
  have F1:=aH (F0.o.trans hG);clear hX hF hG
 focus
  go_wp2_with fail;refine af ⟨G1.o,?_⟩;refine aN ?_;clear hne z0 z4;go_wp2_with fail;refine Calls.mono (Id H1.o j) ?_;rintro e w2 ⟨rfl,hX,hF⟩;have hG:=hF;obtain⟨c0,c1,c2,c3,c4,c5,c6⟩:=hX.cells;have jz:=hX.row.frozen;have H2:=aH hX;have F2:=aH (F1.o.trans hG);clear hX hF hG
 rotate_left
 focus
  go_wp2_with fail;refine af ⟨G1.o,?_⟩;refine aN ?_;clear hne z0 z4;go_wp2_with fail;refine Calls.mono (Gf H1.o j) ?_;rintro e w2 ⟨rfl,hX,hF⟩;have hG:=hF;obtain⟨c0,c1,c2,c3,c4,c5,c6⟩:=hX.cells;have jz:=hX.row.frozen;have H2:=aH hX;have F2:=aH (F1.o.trans hG);clear hX hF hG
 rotate_left
 focus
  have HN:=aH (H1.o.free.not H1.o.box H1.o.ty.free);have hne:Nonempty (HW (fun wx=>ae (AY B M.K) w1 wx)):=⟨⟨w1,aF⟩⟩
  have z1:∀q:HW (fun wx=>ae (AY B M.K) w1 wx),q.w.cell? (B.lb,1)=some (.pointer (some ⟨B.tb,0,none⟩)):=fun q=>(H1.o.box.frm q.h HN.o).cell (i:=1) rfl;have z3:∀q:HW (fun wx=>ae (AY B M.K) w1 wx),q.w.cell? (B.lb,3)=some (.pointer (some ⟨B.db,0,none⟩)):=fun q=>(H1.o.box.frm q.h HN.o).cell (i:=3) rfl;go_wp2_with fail;refine bv (S:=(fun wx=>ae (AY B M.K) w1 wx)) aK ?_;refine aR (fuel:=2) [0,1,2,3,4,5,6,7] rfl aF.drew1 ?_;intro Kq hKq;repeat (go_big_quiet_step (fail))
  refine wpQuiet_nil (hKq _ ?_);clear hKq Kq;refine aL 8 (fuel:=1) rfl ?_;go_wp2_with fail;refine(gE (H1.o.same aD).tab).mono ?_;rintro e w9 ⟨rfl,rfl⟩;go_wp2_with fail;refine af ⟨aF.drew1,?_⟩;refine aL 9 (fuel:=0) rfl ?_;go_wp2_with fail;refine Calls.mono (Fg (H1.o.same aD) 0 M.K.E false) ?_;rintro e w2 ⟨rfl,hX,hF⟩;have hG:=ae.trans (S:=AY B M.K) (a:=w1) aD hF;obtain⟨c0,c1,c2,c3,c4,c5,c6⟩:=hX.cells;have jz:=hX.row.frozen;have H2:=aH hX;have G2:=aH hG;have F2:=aH (F1.o.trans hG);clear hX hF hG;go_wp2_with fail;refine af ⟨G2.o,?_⟩;refine aN ?_;clear hne z1 z3
 rotate_left;rotate_left 11;all_goals
  go_wp2;go_ret
 iterate 3
  focus
   exact⟨rfl,H2.o.same aD,F2.o.trans aD⟩
 iterate 11
  focus
   exact⟨rfl,H1.o.same aD,F1.o.trans aD⟩
def zo:= @And.left _ _ Ap
def yY:= @And.left _ _ (@And.right _ _ Ap)
def yZ:= @And.left _ _ (@And.right _ _ (@And.right _ _ Ap))
def vS:= @And.left _ _ (@And.right _ _ (@And.right _ _ (@And.right _ _ Ap)))
def yd:= @And.left _ _ (@And.right _ _ (@And.right _ _ (@And.right _ _ (@And.right _ _ Ap))))
def yS:= @And.left _ _ (@And.right _ _ (@And.right _ _ (@And.right _ _ (@And.right _ _ (@And.right _ _ Ap)))))
def yW:= @And.left _ _ (@And.right _ _ (@And.right _ _ (@And.right _ _ (@And.right _ _ (@And.right _ _ (@And.right _ _ Ap))))))
def yR:= @And.left _ _ (@And.right _ _ (@And.right _ _ (@And.right _ _ (@And.right _ _ (@And.right _ _ (@And.right _ _ (@And.right _ _ Ap)))))))
def yU:= @And.left _ _ (@And.right _ _ (@And.right _ _ (@And.right _ _ (@And.right _ _ (@And.right _ _ (@And.right _ _ (@And.right _ _ (@And.right _ _ Ap))))))))
def zk:= @And.left _ _ (@And.right _ _ (@And.right _ _ (@And.right _ _ (@And.right _ _ (@And.right _ _ (@And.right _ _ (@And.right _ _ (@And.right _ _ (@And.right _ _ Ap)))))))))
def zl:= @And.left _ _ (@And.right _ _ (@And.right _ _ (@And.right _ _ (@And.right _ _ (@And.right _ _ (@And.right _ _ (@And.right _ _ (@And.right _ _ (@And.right _ _ (@And.right _ _ Ap))))))))))
def zh:= @And.left _ _ (@And.right _ _ (@And.right _ _ (@And.right _ _ (@And.right _ _ (@And.right _ _ (@And.right _ _ (@And.right _ _ (@And.right _ _ (@And.right _ _ (@And.right _ _ (@And.right _ _ Ap)))))))))))
def ye:= @And.left _ _ (@And.right _ _ (@And.right _ _ (@And.right _ _ (@And.right _ _ (@And.right _ _ (@And.right _ _ (@And.right _ _ (@And.right _ _ (@And.right _ _ (@And.right _ _ (@And.right _ _ (@And.right _ _ Ap))))))))))))
def yf:= @And.right _ _ (@And.right _ _ (@And.right _ _ (@And.right _ _ (@And.right _ _ (@And.right _ _ (@And.right _ _ (@And.right _ _ (@And.right _ _ (@And.right _ _ (@And.right _ _ (@And.right _ _ (@And.right _ _ Ap))))))))))))
theorem Ck:(∀{w:World} {B:B3} {M:Ak} {X:AS} {j:Nat} (h:A3 265 w B M X) (hj:j<M.n) (hr:Ab M.K X.C j=false) (hp:Ax M.K X.C),AP 265 B M 376 #[some B.lb,j,(13:Int)] w (.int .i64 13) ⟨AN M.K X.C j,X.D,X.S⟩)∧(∀{w:World} {B:B3} {M:Ak} {X:AS} {j:Nat} (h:A3 265 w B M X) (hj:j<M.n) {pc:Int} (n5:pc≠5) (n7:pc≠7) (n9:pc≠9) (n2:pc≠12) (n3:pc≠13),AP 265 B M 376 #[some B.lb,j,pc] w (.int .i64 pc) X)∧(∀{w:World} {B:B3} {M:Ak} {X:AS} {j:Nat} (h:A3 265 w B M X) (hj:j<M.n) (hp:B2 X j=false),AP 265 B M 373 #[some B.lb,j] w (.bool false) X)∧(∀{w:World} {B:B3} {M:Ak} {X:AS} {j:Nat} (h:A3 265 w B M X) (hj:j<M.n) {q:Int} (hp:X.S j 0=q) (h00:(q==0)=false) (h10:(q==10)=false) (ha:(X.S j 1==1)=true) {X2:AS} {r:Int} (B7:∀W,ae [] w W→AP 265 B M 377 #[some B.lb,j,q] W (.int .i64 r) X2),AP 265 B M 373 #[some B.lb,j] w (.bool (r==10||r==0)) {X2 with S:=ac X2.S j 0 r})∧(∀{w:World} {B:B3} {M:Ak} {X:AS} {j:Nat} (h:A3 265 w B M X) (hj:j<M.n) {q:Int} (hp:X.S j 0=q) (h00:(q==0)=false) (h10:(q==10)=false) (ha:(X.S j 1==1)=false) {X2:AS} {r:Int} (B7:∀W,ae [] w W→AP 265 B M 376 #[some B.lb,j,q] W (.int .i64 r) X2),AP 265 B M 373 #[some B.lb,j] w (.bool (r==10||r==0)) {X2 with S:=ac X2.S j 0 r}):=by
 refine⟨?_,?_,?_,?_,?_⟩;intro w B M X j h hj hr hp;rotate_left;intro w B M X j h hj pc n5 n7 n9 n2 n3;rotate_left;intro w B M X j h hj hp;rotate_left;iterate 2
  intro w B M X j h hj q hp h00 h10 ha X2 r B7;rotate_left
 all_goals
  unfold AP;have hn:=h.n32;obtain⟨d1,d2,d3⟩:=aI (j:=j) (n:=M.n);obtain⟨d4,d5,d6⟩:=aP (j:=j) (n:=M.n);have l1:(j:Int)<M.n:=by omega
 obtain⟨c0,c1,c2,c3,c4,c5,c6⟩:=h.cells;obtain⟨j0,j1,j2,j3⟩:=h.sp hj;have jz:=h.row.frozen;have HR:=aH hr;have HP:=aH hp;rotate_left;obtain⟨c0,c1,c2,c3,c4,c5,c6⟩:=h.cells;obtain⟨j0,j1,j2,j3⟩:=h.sp hj;have jz:=h.row.frozen;have e5:(pc==5)=false:=by simpa using n5
 have e7:(pc==7)=false:=by simpa using n7
 have e9:(pc==9)=false:=by simpa using n9
 have e12:(pc==12)=false:=by simpa using n2
 have e13:(pc==13)=false:=by simpa using n3
 rotate_left;have hS:=Gi h hj;have fd:=bY;have hq:=Gg hp;generalize X.S j 0=q at*;generalize X.S j 1=s1 at*;generalize X.S j 2=s2 at*;generalize X.S j 3=s3 at*;have HS:=aH hS;rotate_left;iterate 2
  have hS:=Gi h hj;have fd:=bY;rw[hp] at hS;have HGO:=aH B7;generalize X.S j 1=s1 at hS ha;generalize X.S j 2=s2 at hS;generalize X.S j 3=s3 at hS;have HS:=aH hS;rotate_left
 all_goals
  have H0:=aH h
 iterate 2
  have F0:=aH (ae.refl (AY B M.K) w);rotate_left
 rotate_left 3;all_goals
  have HJ:=aH hj
 ·clear h hj hr hp;go_enter func376,ntmps376;go_wp2_with fail;refine Calls.mono ((show AP _ B M _ _ _ (.bool false) ⟨AN M.K X.C j,X.D,X.S⟩ from HR.o ▸ DT H0.o HP.o j)) ?_;rintro e w1 ⟨rfl,hX,hF⟩;have hG:=hF;obtain⟨c0,c1,c2,c3,c4,c5,c6⟩:=hX.cells;have jz:=hX.row.frozen;have H1:=aH hX;have F1:=aH (F0.o.trans hG);clear hX hF hG;go_wp2;go_ret;exact⟨rfl,H1.o.same aD,F1.o.trans aD⟩
 ·clear h hj n5 n7 n9 n2 n3;go_enter func376,ntmps376;go_wp2;go_ret;exact⟨rfl,H0.o.same aD,F0.o.trans aD⟩
 ·clear h hj hS hp;rcases hq with rfl|rfl;all_goals
   go_enter func373,ntmps373;go_wp2_with fail;refine HS.o.mono ?_;rintro e w1 ⟨rfl,hF1⟩;have HF1:=aH hF1;clear hF1;go_wp2;go_ret;exact⟨rfl,H0.o.same (HF1.o.trans aE),(HF1.o.trans aE).mono aS⟩
 iterate 2
  focus
   clear h hj hS hp B7;go_enter func373,ntmps373;go_wp2_with fail;refine HS.o.mono ?_;rintro e w1 ⟨rfl,hF1⟩;have hX1:=H0.o.same hF1;have hfr:=hX1.free;have hal:ae [] w1 (w1.alloc (.cells #[q,s1,s2,s3] 138)):=aF.alloc _;have hX:=hX1.same hal;have hB:=am.new w1 #[q,s1,s2,s3] 138;have b0:=hB.cell (i:=0) rfl;have b1:=hB.cell (i:=1) rfl;obtain⟨c0,c1,c2,c3,c4,c5,c6⟩:=hX.cells;have H2:=aH hX;have HB:=aH hB;have HNB:=aH (show w1.heap.size∉AY B M.K from fun hm=>by obtain⟨_,_,q,_⟩:=hfr _ hm;exact absurd q.lt aO);have HF2:=aH (hF1.trans hal);clear hX hX1 hF1 hB hfr hal;go_wp2_with fail;generalize(w1.alloc (.cells #[q,s1,s2,s3] 138))=w2 at*;refine Calls.mono (HGO.o _ HF2.o) ?_;rintro e w3 ⟨rfl,hX,hF⟩;obtain⟨c0,c1,c2,c3,c4,c5,c6⟩:=hX.cells;obtain⟨q0,q1,q2,q3⟩:=hX.sp HJ.o;have jz:=hX.row.frozen;have H3:=aH hX;have F3:=aH ((HF2.o.mono (S':=AY B M.K) aS).trans hF);clear hX hF;cases hr:(r==10)
   all_goals
    have HR:=aH hr;go_wp2;go_ret;exact⟨by rw[HR.o];rfl,H3.o.put0 j _,F3.o.trans (A3.frm0 M.K)⟩
def vV:= @And.left _ _ Ck
def zm:= @And.left _ _ (@And.right _ _ Ck)
def vI:= @And.left _ _ (@And.right _ _ (@And.right _ _ Ck))
def vM:= @And.left _ _ (@And.right _ _ (@And.right _ _ (@And.right _ _ Ck)))
def vQ:= @And.right _ _ (@And.right _ _ (@And.right _ _ (@And.right _ _ Ck)))
end
section
variable{w w':World} {B:B3} {M:Ak} {X:AS} {j:Nat}
theorem B5:(∀{w:World} {B:B3} {M:Ak} {X:AS} {j:Nat} (h:A3 263 w B M X) (hj:j<M.n),AP 263 B M 365 #[some B.lb,(1:Int),(M.K.nd j:Int)] w (.int .i64 2) ⟨{X.C with A:=X.C.A.gAdd M.gf M.K.E (M.K.nd j) 0},X.D,X.S⟩)∧(∀{w:World} {B:B3} {M:Ak} {X:AS} {j:Nat} (h:A3 263 w B M X) (hj:j<M.n) {pc:Int} (n1:pc≠1) (n2:pc≠2),AP 263 B M 365 #[some B.lb,pc,(M.K.nd j:Int)] w (.int .i64 0) ⟨{X.C with A:=X.C.A.gAdd M.gf M.K.E (M.K.nd j) 1},X.D,X.S⟩)∧(∀{w:World} {B:B3} {M:Ak} {X:AS} {j:Nat} (h:A3 263 w B M X) (hj:j<M.n) (hr:DV M X=false),AP 263 B M 367 #[some B.lb,(6:Int)] w (.int .i64 6) (C3 M X))∧(∀{w:World} {B:B3} {M:Ak} {X:AS} {j:Nat} (h:A3 263 w B M X) (hj:j<M.n) (hr:DV M X=false),AP 263 B M 367 #[some B.lb,(9:Int)] w (.int .i64 9) (C3 M X))∧(∀{w:World} {B:B3} {M:Ak} {X:AS} {j:Nat} (h:A3 263 w B M X) (hj:j<M.n) (hr:DV M X=true),AP 263 B M 367 #[some B.lb,(6:Int)] w (.int .i64 8) (C3 M X))∧(∀{w:World} {B:B3} {M:Ak} {X:AS} {j:Nat} (h:A3 263 w B M X) (hj:j<M.n) (hv:X.C.A.get M.fl=0),AP 263 B M 365 #[some B.lb,(2:Int),(M.K.nd j:Int)] w (.int .i64 10) ⟨{X.C with A:=X.C.A.load M.fl},X.D,X.S⟩)∧(∀{w:World} {B:B3} {M:Ak} {X:AS} {j:Nat} (h:A3 263 w B M X) (hj:j<M.n) (hv:X.C.A.get M.fl≠0),AP 263 B M 365 #[some B.lb,(2:Int),(M.K.nd j:Int)] w (.int .i64 2) ⟨{X.C with A:=X.C.A.load M.fl},X.D,X.S⟩)∧(∀{w:World} {B:B3} {M:Ak} {X:AS} {j:Nat} (h:A3 263 w B M X) (hj:j<M.n),AP 263 B M 367 #[some B.lb,(5:Int)] w (.int .i64 6) ⟨{X.C with A:=X.C.A.store M.fl 0},X.D.begins 0 M.K.E false,X.S⟩)∧(∀{w:World} {B:B3} {M:Ak} {X:AS} {j:Nat} (h:A3 263 w B M X) (hj:j<M.n),AP 263 B M 367 #[some B.lb,(8:Int)] w (.int .i64 9) ⟨{X.C with A:=X.C.A.store M.fl 1},X.D.begins 0 M.K.E true,X.S⟩)∧(∀{w:World} {B:B3} {M:Ak} {X:AS} {j:Nat} (h:A3 263 w B M X) (hj:j<M.n) (hr:DV M X=true) (hc:(C3 M X).D.clear=true),AP 263 B M 367 #[some B.lb,(9:Int)] w (.int .i64 10) (C3 M X))∧(∀{w:World} {B:B3} {M:Ak} {X:AS} {j:Nat} (h:A3 263 w B M X) (hj:j<M.n) (hr:DV M X=true) (hc:(C3 M X).D.clear=false),AP 263 B M 367 #[some B.lb,(9:Int)] w (.int .i64 5) (C3 M X)):=by
 refine⟨?_,?_,?_,?_,?_,?_,?_,?_,?_,?_,?_⟩;intro w B M X j h hj;rotate_left;intro w B M X j h hj pc n1 n2;rotate_left;iterate 3
  intro w B M X j h hj hr;rotate_left
 iterate 2
  intro w B M X j h hj hv;rotate_left
 iterate 2
  intro w B M X j h hj;rotate_left
 iterate 2
  intro w B M X j h hj hr hc;rotate_left
 all_goals
  unfold AP;have hn:=h.n32;obtain⟨d1,d2,d3⟩:=aI (j:=j) (n:=M.n);obtain⟨d4,d5,d6⟩:=aP (j:=j) (n:=M.n);have l1:(j:Int)<M.n:=by omega
  obtain⟨c0,c1,c2,c3,c4,c5,c6⟩:=h.cells;obtain⟨j0,j1,j2,j3⟩:=h.sp hj;have jz:=h.row.frozen
 rotate_left;have e1:(pc==1)=false:=by simpa using n1
 have e2:(pc==2)=false:=by simpa using n2
 rotate_left;iterate 3
  have HR:=aH hr;rotate_left
 have e1:(X.C.A.get M.fl==0)=true:=by simpa using hv
 rotate_left;have e1:(X.C.A.get M.fl==0)=false:=by simpa using hv
 rotate_left;rotate_left 2;iterate 2
  have HR:=aH hr;have HC:=aH hc;rotate_left
 all_goals
  have H0:=aH h;have F0:=aH (ae.refl (AY B M.K) w);have HJ:=aH hj
 focus
  clear h hj;go_enter func365,ntmps365
 rotate_left
 focus
  clear h hj n1 n2;go_enter func365,ntmps365
 rotate_left;iterate 3
  focus
   clear h hj hr;go_enter func367,ntmps367
  rotate_left
 iterate 2
  focus
   clear h hj hv;go_enter func365,ntmps365;have HN:=aH (H0.o.free.not H0.o.box H0.o.ty.free);have hne:Nonempty (HW (fun wx=>ae (AY B M.K) w wx)):=⟨⟨w,aF⟩⟩
   have z0:∀q:HW (fun wx=>ae (AY B M.K) w wx),q.w.cell? (B.lb,0)=some (.pointer (some ⟨B.co.ab,0,none⟩)):=fun q=>(H0.o.box.frm q.h HN.o).cell (i:=0) rfl;have z4:∀q:HW (fun wx=>ae (AY B M.K) w wx),q.w.cell? (B.lb,4)=some (.int .i64 M.fl):=fun q=>(H0.o.box.frm q.h HN.o).cell (i:=4) rfl
  rotate_left
 iterate 2
  focus
   clear h hj;go_enter func367,ntmps367;have HN:=aH (H0.o.free.not H0.o.box H0.o.ty.free);have hne:Nonempty (HW (fun wx=>ae (AY B M.K) w wx)):=⟨⟨w,aF⟩⟩
   have z0:∀q:HW (fun wx=>ae (AY B M.K) w wx),q.w.cell? (B.lb,0)=some (.pointer (some ⟨B.co.ab,0,none⟩)):=fun q=>(H0.o.box.frm q.h HN.o).cell (i:=0) rfl;have z4:∀q:HW (fun wx=>ae (AY B M.K) w wx),q.w.cell? (B.lb,4)=some (.int .i64 M.fl):=fun q=>(H0.o.box.frm q.h HN.o).cell (i:=4) rfl
  rotate_left
 iterate 2
  focus
   clear h hj hr hc;go_enter func367,ntmps367
  rotate_left
 all_goals
  go_wp2_with fail
 refine Calls.mono (Fh H0.o (M.K.nd j)) ?_;rotate_left;refine Calls.mono (Kf H0.o (M.K.nd j)) ?_;rotate_left;iterate 2
  refine Calls.mono ((show AP _ B M _ _ _ (.bool false) (C3 M X) from HR.o ▸ DU H0.o)) ?_;rotate_left
 refine Calls.mono ((show AP _ B M _ _ _ (.bool true) (C3 M X) from HR.o ▸ DU H0.o)) ?_;rotate_left;iterate 2
  focus
   refine bv (S:=(fun wx=>ae (AY B M.K) w wx)) aK ?_;refine aR (fuel:=2) [0,1,2,3,4,5,6,7] rfl aF.drew1 ?_;intro Kq hKq;repeat (go_big_quiet_step (fail))
   refine wpQuiet_nil (hKq _ ?_);clear hKq Kq;refine aL 8 (fuel:=1) rfl ?_;go_wp2_with fail;refine Calls.mono (Ie (H0.o.same aD) M.fl) ?_
  rotate_left
 focus
  refine bv (S:=(fun wx=>ae (AY B M.K) w wx)) aK ?_;refine aR (fuel:=1) [0,1,2,3,4,5,6,7] rfl aF.drew1 ?_;intro Kq hKq;repeat (go_big_quiet_step (fail))
  refine wpQuiet_nil (hKq _ ?_);clear hKq Kq;refine aL 8 (fuel:=0) rfl ?_;go_wp2_with fail;refine Calls.mono (Fi (H0.o.same aD) M.fl 0) ?_
 rotate_left
 focus
  refine bv (S:=(fun wx=>ae (AY B M.K) w wx)) aK ?_;refine aR (fuel:=1) [0,1,2,3,4,5,6,7] rfl aF.drew1 ?_;intro Kq hKq;repeat (go_big_quiet_step (fail))
  refine wpQuiet_nil (hKq _ ?_);clear hKq Kq;refine aL 8 (fuel:=0) rfl ?_;go_wp2_with fail;refine Calls.mono (Fi (H0.o.same aD) M.fl 1) ?_
 rotate_left;iterate 2
  refine Calls.mono ((show AP _ B M _ _ _ (.bool true) (C3 M X) from HR.o ▸ DU H0.o)) ?_;rotate_left
 all_goals
  rintro e w1 ⟨rfl,hX,hF⟩
 iterate 5
  have hG:=hF;rotate_left
 iterate 4
  focus
   have hG:=ae.trans (S:=AY B M.K) (a:=w) aD hF
  rotate_left
 iterate 2
  have hG:=hF;rotate_left
 all_goals
  obtain⟨c0,c1,c2,c3,c4,c5,c6⟩:=hX.cells;have jz:=hX.row.frozen;have H1:=aH hX
 rotate_left 5;iterate 4
  have G1:=aH hG;rotate_left
 rotate_left 2;all_goals
  have F1:=aH (F0.o.trans hG);clear hX hF hG
 rotate_left 5;iterate 2
  focus
   go_wp2_with fail;refine af ⟨G1.o,?_⟩;refine aR (fuel:=0) [9] rfl G1.o ?_;intro Kq hKq;repeat (go_big_quiet_step (fail))
   refine wpQuiet_nil (hKq _ ?_);clear hKq Kq;refine aN ?_;clear hne z0 z4
  rotate_left
 focus
  go_wp2_with fail;refine af ⟨G1.o,?_⟩;refine aN ?_;clear hne z0 z4;have HN:=aH (H1.o.free.not H1.o.box H1.o.ty.free);have hne:Nonempty (HW (fun wx=>ae (AY B M.K) w1 wx)):=⟨⟨w1,aF⟩⟩
  have z1:∀q:HW (fun wx=>ae (AY B M.K) w1 wx),q.w.cell? (B.lb,1)=some (.pointer (some ⟨B.tb,0,none⟩)):=fun q=>(H1.o.box.frm q.h HN.o).cell (i:=1) rfl;have z3:∀q:HW (fun wx=>ae (AY B M.K) w1 wx),q.w.cell? (B.lb,3)=some (.pointer (some ⟨B.db,0,none⟩)):=fun q=>(H1.o.box.frm q.h HN.o).cell (i:=3) rfl;go_wp2_with fail;refine bv (S:=(fun wx=>ae (AY B M.K) w1 wx)) aK ?_;refine aR (fuel:=2) [0,1,2,3,4,5,6,7] rfl aF.drew1 ?_;intro Kq hKq;repeat (go_big_quiet_step (fail))
  refine wpQuiet_nil (hKq _ ?_);clear hKq Kq;refine aL 8 (fuel:=1) rfl ?_;go_wp2_with fail;refine(gE (H1.o.same aD).tab).mono ?_;rintro e w9 ⟨rfl,rfl⟩;go_wp2_with fail;refine af ⟨aF.drew1,?_⟩;refine aL 9 (fuel:=0) rfl ?_;go_wp2_with fail;refine Calls.mono (Fg (H1.o.same aD) 0 M.K.E false) ?_;rintro e w2 ⟨rfl,hX,hF⟩;have hG:=ae.trans (S:=AY B M.K) (a:=w1) aD hF;obtain⟨c0,c1,c2,c3,c4,c5,c6⟩:=hX.cells;have jz:=hX.row.frozen;have H2:=aH hX;have G2:=aH hG;have F2:=aH (F1.o.trans hG);clear hX hF hG;go_wp2_with fail;refine af ⟨G2.o,?_⟩;refine aN ?_;clear hne z1 z3
 rotate_left
 focus
  go_wp2_with fail;refine af ⟨G1.o,?_⟩;refine aN ?_;clear hne z0 z4;have HN:=aH (H1.o.free.not H1.o.box H1.o.ty.free);have hne:Nonempty (HW (fun wx=>ae (AY B M.K) w1 wx)):=⟨⟨w1,aF⟩⟩
  have z1:∀q:HW (fun wx=>ae (AY B M.K) w1 wx),q.w.cell? (B.lb,1)=some (.pointer (some ⟨B.tb,0,none⟩)):=fun q=>(H1.o.box.frm q.h HN.o).cell (i:=1) rfl;have z3:∀q:HW (fun wx=>ae (AY B M.K) w1 wx),q.w.cell? (B.lb,3)=some (.pointer (some ⟨B.db,0,none⟩)):=fun q=>(H1.o.box.frm q.h HN.o).cell (i:=3) rfl;go_wp2_with fail;refine bv (S:=(fun wx=>ae (AY B M.K) w1 wx)) aK ?_;refine aR (fuel:=2) [0,1,2,3,4,5,6,7] rfl aF.drew1 ?_;intro Kq hKq;repeat (go_big_quiet_step (fail))
  refine wpQuiet_nil (hKq _ ?_);clear hKq Kq;refine aL 8 (fuel:=1) rfl ?_;go_wp2_with fail;refine(gE (H1.o.same aD).tab).mono ?_;rintro e w9 ⟨rfl,rfl⟩;go_wp2_with fail;refine af ⟨aF.drew1,?_⟩;refine aL 9 (fuel:=0) rfl ?_;go_wp2_with fail;refine Calls.mono (Fg (H1.o.same aD) 0 M.K.E true) ?_;rintro e w2 ⟨rfl,hX,hF⟩;have hG:=ae.trans (S:=AY B M.K) (a:=w1) aD hF;obtain⟨c0,c1,c2,c3,c4,c5,c6⟩:=hX.cells;have jz:=hX.row.frozen;have H2:=aH hX;have G2:=aH hG;have F2:=aH (F1.o.trans hG);clear hX hF hG;go_wp2_with fail;refine af ⟨G2.o,?_⟩;refine aN ?_;clear hne z1 z3
 rotate_left
 focus
  go_wp2_with fail;refine Calls.mono ((show AP _ B M _ _ _ (.bool true) (C3 M X) from HC.o ▸ bf H1.o)) ?_;rintro e w2 ⟨rfl,hX,hF⟩;have hG:=hF;obtain⟨c0,c1,c2,c3,c4,c5,c6⟩:=hX.cells;have jz:=hX.row.frozen;have H2:=aH hX;have F2:=aH (F1.o.trans hG);clear hX hF hG
 rotate_left
 focus
  go_wp2_with fail;refine Calls.mono ((show AP _ B M _ _ _ (.bool false) (C3 M X) from HC.o ▸ bf H1.o)) ?_;rintro e w2 ⟨rfl,hX,hF⟩;have hG:=hF;obtain⟨c0,c1,c2,c3,c4,c5,c6⟩:=hX.cells;have jz:=hX.row.frozen;have H2:=aH hX;have F2:=aH (F1.o.trans hG);clear hX hF hG
 rotate_left;all_goals
  go_wp2;go_ret
 iterate 7
  focus
   exact⟨rfl,H1.o.same aD,F1.o.trans aD⟩
 iterate 4
  focus
   exact⟨rfl,H2.o.same aD,F2.o.trans aD⟩
def zP:= @And.left _ _ B5
def zQ:= @And.left _ _ (@And.right _ _ B5)
def xT:= @And.left _ _ (@And.right _ _ (@And.right _ _ B5))
def xV:= @And.left _ _ (@And.right _ _ (@And.right _ _ (@And.right _ _ B5)))
def xU:= @And.left _ _ (@And.right _ _ (@And.right _ _ (@And.right _ _ (@And.right _ _ B5))))
def xY:= @And.left _ _ (@And.right _ _ (@And.right _ _ (@And.right _ _ (@And.right _ _ (@And.right _ _ B5)))))
def xZ:= @And.left _ _ (@And.right _ _ (@And.right _ _ (@And.right _ _ (@And.right _ _ (@And.right _ _ (@And.right _ _ B5))))))
def zK:= @And.left _ _ (@And.right _ _ (@And.right _ _ (@And.right _ _ (@And.right _ _ (@And.right _ _ (@And.right _ _ (@And.right _ _ B5)))))))
def zM:= @And.left _ _ (@And.right _ _ (@And.right _ _ (@And.right _ _ (@And.right _ _ (@And.right _ _ (@And.right _ _ (@And.right _ _ (@And.right _ _ B5))))))))
def xW:= @And.left _ _ (@And.right _ _ (@And.right _ _ (@And.right _ _ (@And.right _ _ (@And.right _ _ (@And.right _ _ (@And.right _ _ (@And.right _ _ (@And.right _ _ B5)))))))))
def xX:= @And.right _ _ (@And.right _ _ (@And.right _ _ (@And.right _ _ (@And.right _ _ (@And.right _ _ (@And.right _ _ (@And.right _ _ (@And.right _ _ (@And.right _ _ B5)))))))))
theorem Bh:(∀{w:World} {B:B3} {M:Ak} {X:AS} {j:Nat} (h:A3 263 w B M X) (hj:j<M.n) {pc:Int} (n5:pc≠5) (n6:pc≠6) (n8:pc≠8) (n9:pc≠9),AP 263 B M 367 #[some B.lb,pc] w (.int .i64 5) X)∧(∀{w:World} {B:B3} {M:Ak} {X:AS} {j:Nat} (h:A3 263 w B M X) (hj:j<M.n) (hr:Ab M.K X.C j=true) (hp:Ax M.K X.C),AP 263 B M 366 #[some B.lb,j,(7:Int)] w (.int .i64 8) ⟨AN M.K X.C j,X.D,X.S⟩)∧(∀{w:World} {B:B3} {M:Ak} {X:AS} {j:Nat} (h:A3 263 w B M X) (hj:j<M.n) (hr:Ab M.K X.C j=true) (hp:Ax M.K X.C),AP 263 B M 366 #[some B.lb,j,(13:Int)] w (.int .i64 0) ⟨AN M.K X.C j,X.D,X.S⟩)∧(∀{w:World} {B:B3} {M:Ak} {X:AS} {j:Nat} (h:A3 263 w B M X) (hj:j<M.n) (hr:Ab M.K X.C j=false) (hp:Ax M.K X.C),AP 263 B M 366 #[some B.lb,j,(7:Int)] w (.int .i64 7) ⟨AN M.K X.C j,X.D,X.S⟩)∧(∀{w:World} {B:B3} {M:Ak} {X:AS} {j:Nat} (h:A3 263 w B M X) (hj:j<M.n) (hr:Ab M.K X.C j=false) (hp:Ax M.K X.C),AP 263 B M 366 #[some B.lb,j,(13:Int)] w (.int .i64 13) ⟨AN M.K X.C j,X.D,X.S⟩)∧(∀{w:World} {B:B3} {M:Ak} {X:AS} {j:Nat} (h:A3 263 w B M X) (hj:j<M.n) {pc:Int} (n7:pc≠7) (n12:pc≠12) (n13:pc≠13) {X2:AS} {r:Int} (B7:∀W,ae [] w W→AP 263 B M 367 #[some B.lb,pc] W (.int .i64 r) X2),AP 263 B M 366 #[some B.lb,j,pc] w (.int .i64 r) X2)∧(∀{w:World} {B:B3} {M:Ak} {X:AS} {j:Nat} (h:A3 263 w B M X) (hj:j<M.n),AP 263 B M 366 #[some B.lb,j,(12:Int)] w (.int .i64 13) ⟨Am M.K {X.C with A:=X.C.A.store M.fl 0} j,X.D,X.S⟩):=by
 refine⟨?_,?_,?_,?_,?_,?_,?_⟩;intro w B M X j h hj pc n5 n6 n8 n9;rotate_left;iterate 4
  intro w B M X j h hj hr hp;rotate_left
 intro w B M X j h hj pc n7 n12 n13 X2 r B7;rotate_left;intro w B M X j h hj;rotate_left;all_goals
  unfold AP;have hn:=h.n32;obtain⟨d1,d2,d3⟩:=aI (j:=j) (n:=M.n);obtain⟨d4,d5,d6⟩:=aP (j:=j) (n:=M.n);have l1:(j:Int)<M.n:=by omega
  obtain⟨c0,c1,c2,c3,c4,c5,c6⟩:=h.cells;obtain⟨j0,j1,j2,j3⟩:=h.sp hj;have jz:=h.row.frozen
 have e5:(pc==5)=false:=by simpa using n5
 have e6:(pc==6)=false:=by simpa using n6
 have e8:(pc==8)=false:=by simpa using n8
 have e9:(pc==9)=false:=by simpa using n9
 rotate_left;iterate 4
  have HR:=aH hr;have HP:=aH hp;rotate_left
 have e7:(pc==7)=false:=by simpa using n7
 have e12:(pc==12)=false:=by simpa using n12
 have e13:(pc==13)=false:=by simpa using n13
 have HGO:=aH B7;rotate_left;rotate_left;all_goals
  have H0:=aH h;have F0:=aH (ae.refl (AY B M.K) w);have HJ:=aH hj
 focus
  clear h hj n5 n6 n8 n9;go_enter func367,ntmps367
 rotate_left;iterate 2
  focus
   clear h hj hr hp;go_enter func366,ntmps366;go_wp2_with fail;refine Calls.mono ((show AP _ B M _ _ _ (.bool true) ⟨AN M.K X.C j,X.D,X.S⟩ from HR.o ▸ DT H0.o HP.o j)) ?_;rintro e w1 ⟨rfl,hX,hF⟩;have hG:=hF;obtain⟨c0,c1,c2,c3,c4,c5,c6⟩:=hX.cells;have jz:=hX.row.frozen;have H1:=aH hX;have F1:=aH (F0.o.trans hG);clear hX hF hG
  rotate_left
 iterate 2
  focus
   clear h hj hr hp;go_enter func366,ntmps366;go_wp2_with fail;refine Calls.mono ((show AP _ B M _ _ _ (.bool false) ⟨AN M.K X.C j,X.D,X.S⟩ from HR.o ▸ DT H0.o HP.o j)) ?_;rintro e w1 ⟨rfl,hX,hF⟩;have hG:=hF;obtain⟨c0,c1,c2,c3,c4,c5,c6⟩:=hX.cells;have jz:=hX.row.frozen;have H1:=aH hX;have F1:=aH (F0.o.trans hG);clear hX hF hG
  rotate_left
 focus
  clear h hj n7 n12 n13 B7;go_enter func366,ntmps366;go_wp2_with fail;refine Calls.mono (HGO.o _ aF) ?_;rintro e w1 ⟨rfl,hX,hF⟩;have hG:=hF;obtain⟨c0,c1,c2,c3,c4,c5,c6⟩:=hX.cells;have jz:=hX.row.frozen;have H1:=aH hX;have F1:=aH (F0.o.trans hG);clear hX hF hG
 rotate_left
 focus
  clear h hj;go_enter func366,ntmps366;have HN:=aH (H0.o.free.not H0.o.box H0.o.ty.free);have hne:Nonempty (HW (fun wx=>ae (AY B M.K) w wx)):=⟨⟨w,aF⟩⟩
  have z0:∀q:HW (fun wx=>ae (AY B M.K) w wx),q.w.cell? (B.lb,0)=some (.pointer (some ⟨B.co.ab,0,none⟩)):=fun q=>(H0.o.box.frm q.h HN.o).cell (i:=0) rfl;have z4:∀q:HW (fun wx=>ae (AY B M.K) w wx),q.w.cell? (B.lb,4)=some (.int .i64 M.fl):=fun q=>(H0.o.box.frm q.h HN.o).cell (i:=4) rfl;go_wp2_with fail;refine bv (S:=(fun wx=>ae (AY B M.K) w wx)) aK ?_;refine aR (fuel:=1) [0,1,2,3,4,5,6,7] rfl aF.drew1 ?_;intro Kq hKq;repeat (go_big_quiet_step (fail))
  refine wpQuiet_nil (hKq _ ?_);clear hKq Kq;refine aL 8 (fuel:=0) rfl ?_;go_wp2_with fail;refine Calls.mono (Fi (H0.o.same aD) M.fl 0) ?_;rintro e w1 ⟨rfl,hX,hF⟩;have hG:=ae.trans (S:=AY B M.K) (a:=w) aD hF;obtain⟨c0,c1,c2,c3,c4,c5,c6⟩:=hX.cells;have jz:=hX.row.frozen;have H1:=aH hX;have G1:=aH hG;have F1:=aH (F0.o.trans hG);clear hX hF hG;go_wp2_with fail;refine af ⟨G1.o,?_⟩;refine aN ?_;clear hne z0 z4;go_wp2_with fail;refine Calls.mono (Gf H1.o j) ?_;rintro e w2 ⟨rfl,hX,hF⟩;have hG:=hF;obtain⟨c0,c1,c2,c3,c4,c5,c6⟩:=hX.cells;have jz:=hX.row.frozen;have H2:=aH hX;have F2:=aH (F1.o.trans hG);clear hX hF hG
 rotate_left;all_goals
  go_wp2;go_ret
 ·exact⟨rfl,H0.o.same aD,F0.o.trans aD⟩
 iterate 5
  focus
   exact⟨rfl,H1.o.same aD,F1.o.trans aD⟩
 ·exact⟨rfl,H2.o.same aD,F2.o.trans aD⟩
def zJ:= @And.left _ _ Bh
def xg:= @And.left _ _ (@And.right _ _ Bh)
def u3:= @And.left _ _ (@And.right _ _ (@And.right _ _ Bh))
def xh:= @And.left _ _ (@And.right _ _ (@And.right _ _ (@And.right _ _ Bh)))
def u6:= @And.left _ _ (@And.right _ _ (@And.right _ _ (@And.right _ _ (@And.right _ _ Bh))))
def ko:= @And.left _ _ (@And.right _ _ (@And.right _ _ (@And.right _ _ (@And.right _ _ (@And.right _ _ Bh)))))
def xb:= @And.right _ _ (@And.right _ _ (@And.right _ _ (@And.right _ _ (@And.right _ _ (@And.right _ _ Bh)))))
end
def kZ (M:Ak) (X:AS) (j:Nat):AS×Int:=
 if X.S j 0=1 then(⟨{X.C with A:=X.C.A.gAdd M.gf M.K.E (M.K.nd j) 0},X.D,X.S⟩,2) else
 if X.S j 0=2 then(⟨{X.C with A:=X.C.A.load M.fl},X.D,X.S⟩,if X.C.A.get M.fl=0 then 10 else 2) else(⟨{X.C with A:=X.C.A.gAdd M.gf M.K.E (M.K.nd j) 1},X.D,X.S⟩,0)
def kh (M:Ak) (X:AS) (j:Nat):AS×Int:=
 if X.S j 0=7 then(⟨AN M.K X.C j,X.D,X.S⟩,if Ab M.K X.C j then 8 else 7) else
 if X.S j 0=12 then(⟨Am M.K {X.C with A:=X.C.A.store M.fl 0} j,X.D,X.S⟩,13) else
 if X.S j 0=13 then(⟨AN M.K X.C j,X.D,X.S⟩,if Ab M.K X.C j then 0 else 13) else
 if X.S j 0=5 then(⟨{X.C with A:=X.C.A.store M.fl 0},X.D.begins 0 M.K.E false,X.S⟩,6) else
 if X.S j 0=8 then(⟨{X.C with A:=X.C.A.store M.fl 1},X.D.begins 0 M.K.E true,X.S⟩,9) else
 if X.S j 0=6 then(C3 M X,if DV M X then 8 else 6) else
 if X.S j 0=9 then(C3 M X,if DV M X then(if(C3 M X).D.clear then 10 else 5) else 9) else(X,5)
def JG (M:Ak) (X:AS) (j:Nat):AS×Int:=if X.S j 1=1 then kZ M X j else kh M X j
def Fd (M:Ak) (X:AS) (j:Nat):AS:=if B2 X j=false then X else{(JG M X j).1 with S:=ac (JG M X j).1.S j 0 (JG M X j).2}
def Ic (M:Ak) (X:AS) (j:Nat):Bool:=if B2 X j=false then false else(JG M X j).2==10||(JG M X j).2==0
section
variable{w w':World} {B:B3} {M:Ak} {X:AS} {j:Nat}
theorem Er:(∀{w:World} {B:B3} {M:Ak} {X:AS} {j:Nat} (h:A3 263 w B M X) (hj:j<M.n) (hp:B2 X j=false),AP 263 B M 362 #[some B.lb,j] w (.bool false) X)∧(∀{w:World} {B:B3} {M:Ak} {X:AS} {j:Nat} (h:A3 263 w B M X) (hj:j<M.n) {q:Int} (hp:X.S j 0=q) (h00:(q==0)=false) (h10:(q==10)=false) (ha:(X.S j 1==1)=true) {X2:AS} {r:Int} (B7:∀W,ae [] w W→AP 263 B M 365 #[some B.lb,q,(M.K.nd j:Int)] W (.int .i64 r) X2),AP 263 B M 362 #[some B.lb,j] w (.bool (r==10||r==0)) {X2 with S:=ac X2.S j 0 r})∧(∀{w:World} {B:B3} {M:Ak} {X:AS} {j:Nat} (h:A3 263 w B M X) (hj:j<M.n) {q:Int} (hp:X.S j 0=q) (h00:(q==0)=false) (h10:(q==10)=false) (ha:(X.S j 1==1)=false) {X2:AS} {r:Int} (B7:∀W,ae [] w W→AP 263 B M 366 #[some B.lb,j,q] W (.int .i64 r) X2),AP 263 B M 362 #[some B.lb,j] w (.bool (r==10||r==0)) {X2 with S:=ac X2.S j 0 r}):=by
 refine⟨?_,?_,?_⟩;intro w B M X j h hj hp;rotate_left;iterate 2
  intro w B M X j h hj q hp h00 h10 ha X2 r B7;rotate_left
 all_goals
  unfold AP;have hn:=h.n32;obtain⟨d1,d2,d3⟩:=aI (j:=j) (n:=M.n);obtain⟨d4,d5,d6⟩:=aP (j:=j) (n:=M.n);have l1:(j:Int)<M.n:=by omega
  have hS:=Ia h hj;have fd:=bY
 have hq:=Gg hp;generalize X.S j 0=q at*;generalize X.S j 1=s1 at*;generalize X.S j 2=s2 at*;generalize X.S j 3=s3 at*;rotate_left;iterate 2
  rw[hp] at hS;have HGO:=aH B7;generalize X.S j 1=s1 at hS ha;generalize X.S j 2=s2 at hS;generalize X.S j 3=s3 at hS;rotate_left
 all_goals
  have HS:=aH hS;have H0:=aH h;have HJ:=aH hj
 ·clear h hj hS hp;rcases hq with rfl|rfl;all_goals
   go_enter func362,ntmps362;go_wp2_with fail;refine HS.o.mono ?_;rintro e w1 ⟨rfl,hF1⟩;have HF1:=aH hF1;clear hF1;go_wp2;go_ret;exact⟨rfl,H0.o.same (HF1.o.trans aE),(HF1.o.trans aE).mono aS⟩
 ·clear h hj hS hp B7;go_enter func362,ntmps362;go_wp2_with fail;refine HS.o.mono ?_;rintro e w1 ⟨rfl,hF1⟩;have hX1:=H0.o.same hF1;have hfr:=hX1.free;have hal:ae [] w1 (w1.alloc (.cells #[q,s1,s2,s3] 138)):=aF.alloc _;have hX:=hX1.same hal;have hB:=am.new w1 #[q,s1,s2,s3] 138;have b0:=hB.cell (i:=0) rfl;have b1:=hB.cell (i:=1) rfl;obtain⟨c0,c1,c2,c3,c4,c5,c6⟩:=hX.cells;have H2:=aH hX;have HB:=aH hB;have HNB:=aH (show w1.heap.size∉AY B M.K from fun hm=>by obtain⟨_,_,q,_⟩:=hfr _ hm;exact absurd q.lt aO);have HF2:=aH (hF1.trans hal);clear hX hX1 hF1 hB hfr hal;go_wp2_with fail;generalize(w1.alloc (.cells #[q,s1,s2,s3] 138))=w2 at*;have HN:=aH (H2.o.free.not H2.o.box H2.o.ty.free);have hne:Nonempty (HW (fun wx=>ae (AY B M.K) w2 wx)):=⟨⟨w2,aF⟩⟩
  have z1:∀q:HW (fun wx=>ae (AY B M.K) w2 wx),q.w.cell? (B.lb,1)=some (.pointer (some ⟨B.tb,0,none⟩)):=fun q=>(H2.o.box.frm q.h HN.o).cell (i:=1) rfl;have zb:∀x:HW (fun wx=>ae (AY B M.K) w2 wx),x.w.cell? (w1.heap.size,0)=some (.int .i64 q):=fun x=>(HB.o.frm x.h HNB.o).cell (i:=0) rfl;refine bv (S:=(fun wx=>ae (AY B M.K) w2 wx)) aK ?_;refine aR (fuel:=3) [0,1,2,3,4,5,6,7] rfl aF.drew1 ?_;intro Kq hKq;repeat (go_big_quiet_step (fail))
  refine wpQuiet_nil (hKq _ ?_);clear hKq Kq;refine aL 8 (fuel:=2) rfl ?_;go_wp2_with fail;refine(fC (H2.o.same aD).tab HJ.o).mono ?_;rintro e w9 ⟨rfl,rfl⟩;go_wp2_with fail;refine af ⟨aF.drew1,?_⟩;refine aL 9 (fuel:=1) rfl ?_;go_wp2_with fail;refine Calls.mono (HGO.o _ (by repeat (first|exact HF2.o|exact aF|apply ae.drew1|apply ae.drew))) ?_;rintro e w3 ⟨rfl,hX,hF⟩;have hG:=ae.trans (S:=AY B M.K) (a:=w2) aD hF;obtain⟨c0,c1,c2,c3,c4,c5,c6⟩:=hX.cells;obtain⟨q0,q1,q2,q3⟩:=hX.sp HJ.o;have jz:=hX.row.frozen;have H3:=aH hX;have G3:=aH hG;have F3:=aH ((HF2.o.mono (S':=AY B M.K) aS).trans hG);clear hX hF hG;go_wp2_with fail;refine af ⟨G3.o,?_⟩;refine aR (fuel:=0) [10] rfl G3.o ?_;intro Kq hKq;repeat (go_big_quiet_step (fail))
  refine wpQuiet_nil (hKq _ ?_);clear hKq Kq;refine aN ?_;clear hne z1 zb;cases hr:(r==10)
  all_goals
   have HR:=aH hr;go_wp2;go_ret;exact⟨by rw[HR.o];rfl,H3.o.put0 j _,F3.o.trans (A3.frm0 M.K)⟩
 ·clear h hj hS hp B7;go_enter func362,ntmps362;go_wp2_with fail;refine HS.o.mono ?_;rintro e w1 ⟨rfl,hF1⟩;have hX1:=H0.o.same hF1;have hfr:=hX1.free;have hal:ae [] w1 (w1.alloc (.cells #[q,s1,s2,s3] 138)):=aF.alloc _;have hX:=hX1.same hal;have hB:=am.new w1 #[q,s1,s2,s3] 138;have b0:=hB.cell (i:=0) rfl;have b1:=hB.cell (i:=1) rfl;obtain⟨c0,c1,c2,c3,c4,c5,c6⟩:=hX.cells;have H2:=aH hX;have HB:=aH hB;have HNB:=aH (show w1.heap.size∉AY B M.K from fun hm=>by obtain⟨_,_,q,_⟩:=hfr _ hm;exact absurd q.lt aO);have HF2:=aH (hF1.trans hal);clear hX hX1 hF1 hB hfr hal;go_wp2_with fail;generalize(w1.alloc (.cells #[q,s1,s2,s3] 138))=w2 at*;refine Calls.mono (HGO.o _ HF2.o) ?_;rintro e w3 ⟨rfl,hX,hF⟩;obtain⟨c0,c1,c2,c3,c4,c5,c6⟩:=hX.cells;obtain⟨q0,q1,q2,q3⟩:=hX.sp HJ.o;have jz:=hX.row.frozen;have H3:=aH hX;have F3:=aH ((HF2.o.mono (S':=AY B M.K) aS).trans hF);clear hX hF;cases hr:(r==10)
  all_goals
   have HR:=aH hr;go_wp2;go_ret;exact⟨by rw[HR.o];rfl,H3.o.put0 j _,F3.o.trans (A3.frm0 M.K)⟩
def tq:= @And.left _ _ Er
def tw:= @And.left _ _ (@And.right _ _ Er)
def u2:= @And.right _ _ (@And.right _ _ Er)
end
end Go.Proofs.YteijjhahgabalaaGreat
