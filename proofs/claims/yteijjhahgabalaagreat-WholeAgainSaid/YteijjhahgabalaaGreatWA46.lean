/- The contracts of package hmcs: down, begin. (Printed by gen_hmdo.py.) -/
import Derived.WalkMore
import Derived.Test.YteijjhahgabalaaGreatWA43
import Derived.Test.YteijjhahgabalaaGreatWA42
import Derived.Test.YteijjhahgabalaaGreatWA28
import Derived.Test.YteijjhahgabalaaGreatWA31
import Derived.Test.YteijjhahgabalaaGreatWA32
import Derived.Test.YteijjhahgabalaaGreatWA33
set_option maxRecDepth 100000
set_option maxHeartbeats 8000000
set_option linter.all false
namespace Go.Proofs.YteijjhahgabalaaGreat
open Go.RowKit
open Tryz
section
variable{w w':World} {B:FR} {M:BN} {X:Be} {j l:Nat}
theorem nT (h:AG w B M X) (hj:j<M.n) (hc:X.S j 3=0):Dd B M 244 #[some B.lb,j] w (.tuple #[]) {X with S:=ac X.S j 0 0}:=by
 unfold Dd;have c3:=h.c3;obtain⟨j0,j1,j2,j3⟩:=h.sp hj;rw[hc] at j3;have jz:=h.row.frozen;have hn:=h.n32;obtain⟨d1,d2,d3⟩:=aI (j:=j) (n:=M.n);have l1:(j:Int)<M.n:=by omega
 have H:=aH h;clear h hc;go_enter func244,ntmps244;go_wp2;exact bodyPost_ret (results_none rfl _ _ _) rfl ⟨rfl,H.o.put0 j 0,AG.frm0 M⟩
theorem nX (h:AG w B M X) (hj:j<M.n) {c:Nat} (hc:X.S j 3=((c:Int)+1)) (hl:c<M.d j):Dd B M 244 #[some B.lb,j] w (.tuple #[]) {X with R:=Aw M X.R j c 11 (-1),S:=ac (ac X.S j 3 c) j 0 12}:=by
 unfold Dd;have c3:=h.c3;obtain⟨j0,j1,j2,j3⟩:=h.sp hj;rw[hc] at j3;have jz:=h.row.frozen;have hd40:=(h.ok.d1 j hj).2;have hn:=h.n32;obtain⟨d1,d2,d3⟩:=aI (j:=j) (n:=M.n);have l1:(j:Int)<M.n:=by omega
 have m1:decide (M.d j≤c)=false:=aB;have m2:decide ((M.d j:Int)≤((c:Nat):Int))=false:=aB;have m3:((c:Nat):Int)<M.d j:=by omega
 have m5:decide (((c:Nat):Int)<0)=false:=aB;have e1:((c:Int)+1==0)=false:=by simp;omega
 have hX1:=(h.put j (t:=3) aO (c:Int)).put0 j 12;have HJ:=aH hj;have HL:=aH hl;obtain⟨cap,cap',k2,kv,kr,ks⟩:=hX1.way HJ.o (l:=c) HL.o;have HX1:=aH hX1;have i3:=hX1.sp3 hj (v:=(c:Int)) (by show ac (ac X.S j 3 c) j 0 12 j 3=c;simp[ac]);have F1:=aH (show ae (JT B M) w ((w.setCell (B.sb,j*4+3) (.int .i64 (c:Int))).setCell (B.sb,j*4) (.int .i64 12)) from(AG.frm0 M).trans (AG.frm0 M));clear h hc hj hl hX1;go_enter func244,ntmps244;go_wp2_with fail;clear c3 j0 j1 j2 j3 jz;generalize(w.setCell (B.sb,j*4+3) (.int .i64 (c:Int))).setCell (B.sb,j*4) (.int .i64 12)=w1 at*;have j3:=i3;have hne:=aW [] w1;have zk2:=fun q:HW (fun wx=>ae [] w1 wx)=>q.h.cell k2 aS;have zkv:=fun q:HW (fun wx=>ae [] w1 wx)=>q.h.cell kv aS;have zkr:=fun q:HW (fun wx=>ae [] w1 wx)=>q.h.cell kr aS;have zks:=fun q:HW (fun wx=>ae [] w1 wx)=>q.h.cell ks aS;have zj3:=fun q:HW (fun wx=>ae [] w1 wx)=>q.h.cell j3 aS;go_wp2_with fail;refine bv (S:=(fun wx=>ae [] w1 wx)) aK ?_;refine aR (fuel:=2) [0,1,2,3,4,5,6,7,8,9,10,11,12] rfl aF.drew1 ?_;intro Kq hKq;repeat (go_big_quiet_step (fail))
 refine wpQuiet_nil (hKq _ ?_);clear hKq Kq;refine aL 13 (fuel:=1) rfl ?_;go_wp2_with fail;refine af ⟨aE,?_⟩;refine aL 14 (fuel:=0) rfl ?_;go_wp2_with fail;refine af ⟨aE,?_⟩;refine aN ?_;clear hne zk2 zkv zkr zks zj3;have hal:ae [] w1 ((w1.alloc (.cells #[some (B.rl (M.pl j c)),(M.sl j c:Int)] 215)).drew):=(aF.alloc _).drew1;have hB:=(am.new w1 #[some (B.rl (M.pl j c)),(M.sl j c:Int)] 215).drew1;have b0:=hB.cell (i:=0) rfl;have b1:=hB.cell (i:=1) rfl;have HB:=aH hB;have HAL:=aH hal;clear hal hB;generalize(w1.alloc (.cells #[some (B.rl (M.pl j c)),(M.sl j c:Int)] 215)).drew=w1a at*;obtain⟨r,hLS⟩:=I2 (HX1.o.same HAL.o) HJ.o HL.o (-1);have HLS:=aH hLS;clear hLS;go_wp2_with fail;refine HLS.o.mono ?_;rintro e w3 ⟨rfl,hX,hF⟩;have H3:=aH (And.intro hX (F1.o.trans ((HAL.o.mono aS).trans hF)));clear hX hF;go_wp2;go_end0;exact⟨rfl,H3.o⟩
def Bl (M:BN) (X:Be) (j:Nat):Nat→Nat→Nat
 | 0,l=>l
 |f+1,l=>if l+1=M.d j∨As M X j l 1≤M.bud then l else Bl M X j f (l+1)
def C2 (M:BN) (X:Be) (j l:Nat):Nat:=Bl M X j (M.d j - l) l
theorem I5 (hl:l<M.d j) (h:l+1=M.d j∨As M X j l 1≤M.bud):C2 M X j l=l:=by
 unfold C2;obtain⟨f,hf⟩:∃f,M.d j - l=f+1:=⟨M.d j - l - 1,by omega⟩
 rw[hf];unfold Bl;rw[if_pos h]
theorem eI (hl:l<M.d j) (h:¬(l+1=M.d j∨As M X j l 1≤M.bud)):C2 M X j (l+1)=C2 M X j l:=by
 have e:C2 M X j l=Bl M X j (M.d j - l) l:=rfl;obtain⟨f,hf⟩:∃f,M.d j - l=f+1:=⟨M.d j - l - 1,by omega⟩
 rw[e,hf];unfold Bl;rw[if_neg h];unfold C2;rw[show M.d j - (l+1)=f by omega]
def DS (M:BN) (X:Be) (j l:Nat):Be:=
 if l+1=M.d j then{X with R:=Aw M X.R j l 11 1,S:=ac (ac X.S j 3 l) j 0 12}
 else{X with R:=Aw M X.R j l 15 (wrap64 (As M X j l 1+1)),S:=ac (ac X.S j 3 l) j 0 11}
def C6 (M:BN) (X:Be) (j l:Nat):Be:=DS M X j (C2 M X j l)
theorem lg (S:Nat→Nat→Int) (j t:Nat):ac S j t (S j t)=S:=by
 funext a b
 unfold ac
 split
 ·rename_i h;rw[h.1,h.2]
 ·rfl
theorem F6 (S:Nat→Nat→Int) (j:Nat) (a b:Int):ac (ac S j 3 a) j 3 b=ac S j 3 b:=by
 funext x y
 simp only[ac]
 split<;>rfl
theorem bE (h:AG w B M X) (hj:j<M.n) {l0:Nat} (hl:l0<M.d j):Dd B M 241 #[some B.lb,j,l0] w (.tuple #[]) (C6 M X j l0):=by
 unfold Dd;have c3:=h.c3;have hn:=h.n32;obtain⟨d1,d2,d3⟩:=aI (j:=j) (n:=M.n);have l1:(j:Int)<M.n:=by omega
 have hd40:=(h.ok.d1 j hj).2;have hbud:=h.ok.bud;have HJ:=aH hj;have HL:=aH hl;have H:=aH h;obtain⟨cap,cap',k2,kv,kr,ks⟩:=h.way hj (l:=l0) hl;have hnd:∃dd:Nat,dd=M.d j:=⟨_,rfl⟩
 clear h hj hl hnd kr ks;go_enter func241,ntmps241;go_wp2_with fail
 go_step3
 go_wp2_with fail
 go_quiet (fail)
 have hX0:=H.o.same ((ae.refl [] w).drew nq);have F0:=aH ((ae.refl (JT B M) w).drew nq);generalize w.drewN nq=w0 at*;have HX0:=aH hX0;clear hX0 c3 k2 kv;go_wp2_with fail
 go_step3
 go_wp2_with fail;go_loopw[2] (fun lv wr=>∃(l:Nat) (cc:Int),lv= .int .i64 l∧l<M.d j∧C2 M X j l=C2 M X j l0∧AG wr B M {X with S:=ac X.S j 3 cc}∧ae (JT B M) w wr) (fun lv _=>M.d j - (intOf lv).toNat)
 case atStart=>exact⟨l0,X.S j 3,rfl,HL.o,rfl,by rw[lg];exact HX0.o,F0.o⟩
 case round=>
  obtain⟨l,cc,rfl,hl,hst,hX,hF⟩:=hrel;have HST:=aH hst;have HLT:=aH hl;have HX:=aH hX;have HF:=aH hF;obtain⟨cap,cap',k2,kv,kr,ks⟩:=hX.way HJ.o (l:=l) HLT.o;have hlv:=hX.lvlt;have hB:=am.new wr #[some (B.rl (M.pl j l)),(M.sl j l:Int)] 215;have hal:ae [] wr (wr.alloc (.cells #[some (B.rl (M.pl j l)),(M.sl j l:Int)] 215)):=aF.alloc _;have h2:=hX.same hal;have fa:=sX;have hbd:M.bud≤1000:=hbud.2;have m1:decide (M.d j≤l)=false:=aB;have m2:decide ((M.d j:Int)≤((l:Nat):Int))=false:=aB;have m3:((l:Nat):Int)<M.d j:=by omega
  have m5:decide (((l:Nat):Int)<0)=false:=aB;have HSP:=aH (Cr h2 HJ.o HLT.o);have HX2:=aH h2;have HB:=aH hB;have HLV:=aH hlv;have F2:=aH (hF.trans (hal.mono aS));have hsp1:As M {X with S:=ac X.S j 3 cc} j l 1=As M X j l 1:=rfl;rw[hsp1] at HSP;generalize As M {X with S:=ac X.S j 3 cc} j l 0=q0 at HSP;generalize As M {X with S:=ac X.S j 3 cc} j l 2=q2 at HSP;generalize As M {X with S:=ac X.S j 3 cc} j l 3=q3 at HSP;clear hX hF hst hl hB hal h2 hlv hsp1;have HLT':=HLT.o;obtain⟨v,hv⟩:∃v,v=As M X j l 1:=⟨_,rfl⟩
  rw[←hv] at HSP;have HV:=aH hv;clear hv;by_cases ht:l+1=M.d j
  ·have e1:((l:Int)==(M.d j:Int) - 1)=true:=by simp;omega
   have HE:=aH (show C6 M X j l0={X with R:=Aw M X.R j l 11 1,S:=ac (ac X.S j 3 l) j 0 12} from by unfold C6;rw[←HST.o,I5 HLT.o (.inl ht)];unfold DS;rw[if_pos ht]);clear ht;go_wp2_with fail;refine HSP.o.mono ?_;rintro e w1 ⟨rfl,hF1⟩;have hX1:=HX2.o.same hF1;have hB1:=HB.o.frm hF1 aS;obtain⟨j0,j1,j2,j3⟩:=hX1.sp HJ.o;have jz:=hX1.row.frozen;have c0:=hX1.c0;have hX3:=hX1.put j (t:=3) aO (l:Int);have c0':=hX3.c0;have hB3:=hB1.frm (S:=[B.sb]) ((ae.refl [B.sb] w1).set ⟨B.sb,j*4+3,none⟩ (.int .i64 (l:Int)) (.inl aS)) (by have:=hB1.differ hX1.row aJ;simp;omega);have b0:=hB3.cell (i:=0) rfl;have b1:=hB3.cell (i:=1) rfl;have F3:=aH ((F2.o.trans (hF1.mono aS)).trans (AG.frm0 M (o:=j*4+3) (v:=.int .i64 (l:Int))));have e3:ac (ac X.S j 3 cc) j 3 l=ac X.S j 3 l:=F6 _ _ _ _;obtain⟨r,hLS⟩:=I2 hX3 HJ.o HLT.o 1;have HLS:=aH hLS;have E3:=aH e3;clear hX1 hB1 hX3 hB3 hF1 hLS e3;go_wp2_with fail;refine HLS.o.mono ?_;rintro e w4 ⟨rfl,hX4,hF4⟩;have c3:=hX4.c3;obtain⟨i0, -, -, -⟩:=hX4.sp HJ.o;have iz:=hX4.row.frozen;have HX4:=aH (hX4.put0 j 12);have F4:=aH ((F3.o.trans hF4).trans (AG.frm0 M (o:=j*4) (v:=.int .i64 12)));clear hX4 hF4;go_wp2;rw[Exit.noGoto_normal];go_end0;rw[HE.o];refine⟨rfl,?_,F4.o⟩;have:=HX4.o;simp only[E3.o] at this;exact this
  ·by_cases hv:As M X j l 1≤M.bud
   ·have e1:((l:Int)==(M.d j:Int) - 1)=false:=by simp;omega
    have e2:decide (v≤M.bud)=true:=by rw[HV.o];exact decide_eq_true hv
    have HE:=aH (show C6 M X j l0={X with R:=Aw M X.R j l 15 (wrap64 (v+1)),S:=ac (ac X.S j 3 l) j 0 11} from by unfold C6;rw[←HST.o,I5 HLT.o (.inr hv)];unfold DS;rw[if_neg ht,HV.o]);clear ht hv;go_wp2_with fail;refine HSP.o.mono ?_;rintro e w1 ⟨rfl,hF1⟩;have hX1:=HX2.o.same hF1;have hB1:=HB.o.frm hF1 aS;obtain⟨j0,j1,j2,j3⟩:=hX1.sp HJ.o;have jz:=hX1.row.frozen;have c0:=hX1.c0;have hX3:=hX1.put j (t:=3) aO (l:Int);have c0':=hX3.c0;have hB3:=hB1.frm (S:=[B.sb]) ((ae.refl [B.sb] w1).set ⟨B.sb,j*4+3,none⟩ (.int .i64 (l:Int)) (.inl aS)) (by have:=hB1.differ hX1.row aJ;simp;omega);have b0:=hB3.cell (i:=0) rfl;have b1:=hB3.cell (i:=1) rfl;have F3:=aH ((F2.o.trans (hF1.mono aS)).trans (AG.frm0 M (o:=j*4+3) (v:=.int .i64 (l:Int))));have e3:ac (ac X.S j 3 cc) j 3 l=ac X.S j 3 l:=F6 _ _ _ _;obtain⟨r,hLS⟩:=iX hX3 HJ.o HLT.o (wrap64 (v+1));have HLS:=aH hLS;have E3:=aH e3;clear hX1 hB1 hX3 hB3 hF1 hLS e3;go_wp2_with fail;refine HLS.o.mono ?_;rintro e w4 ⟨rfl,hX4,hF4⟩;have c3:=hX4.c3;obtain⟨i0, -, -, -⟩:=hX4.sp HJ.o;have iz:=hX4.row.frozen;have HX4:=aH (hX4.put0 j 11);have F4:=aH ((F3.o.trans hF4).trans (AG.frm0 M (o:=j*4) (v:=.int .i64 11)));clear hX4 hF4;go_wp2;rw[Exit.noGoto_normal];go_end0;rw[HE.o];refine⟨rfl,?_,F4.o⟩;have:=HX4.o;simp only[E3.o] at this;exact this
   ·have e1:((l:Int)==(M.d j:Int) - 1)=false:=by simp;omega
    have e2:decide (v≤M.bud)=false:=by rw[HV.o];exact decide_eq_false hv
    have HE:=aH (show C2 M X j (l+1)=C2 M X j l0 from(eI HLT.o (fun h=>h.elim ht hv)).trans HST.o);have HNT:=aH (show l+1<M.d j by omega);clear ht hv;go_wp2_with fail;refine HSP.o.mono ?_;rintro e w1 ⟨rfl,hF1⟩;have hX1:=HX2.o.same hF1;have hB1:=HB.o.frm hF1 aS;obtain⟨j0,j1,j2,j3⟩:=hX1.sp HJ.o;have jz:=hX1.row.frozen;have c0:=hX1.c0;have hX3:=hX1.put j (t:=3) aO (l:Int);have c0':=hX3.c0;have hB3:=hB1.frm (S:=[B.sb]) ((ae.refl [B.sb] w1).set ⟨B.sb,j*4+3,none⟩ (.int .i64 (l:Int)) (.inl aS)) (by have:=hB1.differ hX1.row aJ;simp;omega);have b0:=hB3.cell (i:=0) rfl;have b1:=hB3.cell (i:=1) rfl;have F3:=aH ((F2.o.trans (hF1.mono aS)).trans (AG.frm0 M (o:=j*4+3) (v:=.int .i64 (l:Int))));have e3:ac (ac X.S j 3 cc) j 3 l=ac X.S j 3 l:=F6 _ _ _ _;have HX3:=aH hX3;have E3:=aH e3;clear hX1 hB1 hX3 hB3 hF1 e3;go_wp2_with fail;go_roundw
    case rel=>exact⟨l+1,(l:Int),by go_num,HNT.o,HE.o,by have:=HX3.o;simp only[E3.o] at this;exact this,F3.o⟩
    case measure=>have:=HNT.o;simp[intOf];omega
end
section
variable{w w':World} {B:FR} {M:BN} {X:Be} {j l:Nat}
def E7 (M:BN) (X:Be) (j:Nat):Be:=if X.S j 0=10 then C6 M X j 0 else X
def Gm (M:BN) (X:Be) (j c:Nat):Be:=if As M X j c 2=0∨c+1=M.d j then{X with S:=ac X.S j 0 10} else{X with R:=CJ M X.R j (c+1),S:=ac X.S j 3 ((c:Int)+1)}
def Gp (M:BN) (X:Be) (j c:Nat):Be:=if c=0 then{X with S:=ac X.S j 0 0} else{X with R:=Aw M X.R j (c - 1) 11 (-1),S:=ac (ac X.S j 3 ((c - 1:Nat):Int)) j 0 12}
def E6 (M:BN) (X:Be) (j c:Nat) (was:Int):Be:=if was=1 then Gm M X j c else if As M X j c 0=0 then Gp M X j c else C6 M X j (c+1)
def CU (M:BN) (X:Be) (j c:Nat):Be:=if X.S j 0=0∨X.S j 0=10 then X else if BL M X j c=false then AD M X j c else E6 M (AD M X j c) j c (X.S j 0)
def ig (M:BN) (X:Be) (j c:Nat):Bool:= !decide (X.S j 0=0∨X.S j 0=10)&&(BL M X j c&&(((CU M X j c).S j 0==10)||((CU M X j c).S j 0==0)))
theorem ng (h:AG w B M X) (hj:j<M.n):Dd B M 235 #[some B.lb,j] w (.bool (X.S j 0==10)) (E7 M X j):=by
 unfold Dd;have fd:=bY;have H:=aH h;have HJ:=aH hj;have hd:=(h.ok.d1 j hj).1;have HL:=aH hd;have hS:=GL h hj;have hn:=h.n32;obtain⟨d1,d2,d3⟩:=aI (j:=j) (n:=M.n);have l1:(j:Int)<M.n:=by omega
 by_cases h0:X.S j 0=10
 ·have e1:(X.S j 0==10)=true:=by simpa using h0
  have HE:=aH (show E7 M X j=C6 M X j 0 from if_pos h0);rw[e1];rw[h0] at hS;have HS:=aH hS;clear h hj hS h0 hd e1;go_enter func235,ntmps235;go_wp2_with fail;refine HS.o.mono ?_;rintro e w1 ⟨rfl,hF⟩;have hX:=H.o.same hF;have HB:=aH (bE hX HJ.o HL.o);have HF:=aH hF;clear hX hF;go_wp2_with fail;refine HB.o.mono ?_;rintro e w2 ⟨rfl,hX,hF⟩;have H2:=aH (And.intro hX ((HF.o.mono aS).trans hF));clear hX hF;go_wp2;go_ret;rw[HE.o];exact⟨rfl,H2.o⟩
 ·have e1:(X.S j 0==10)=false:=by simpa using h0
  have e2:(X.S j 0 !=10)=true:=by simpa using h0
  have HE:=aH (show E7 M X j=X from if_neg h0);rw[e1];obtain⟨a0,ha⟩:∃a,a=X.S j 0:=⟨_,rfl⟩
  rw[←ha] at hS e2;have HS:=aH hS;clear h hj hS h0 ha e1;go_enter func235,ntmps235;go_wp2_with fail;refine HS.o.mono ?_;rintro e w1 ⟨rfl,hF⟩;have H2:=aH (And.intro (H.o.same hF) hF);clear hF;go_wp2;go_ret;rw[HE.o];exact⟨rfl,H2.o.1,H2.o.2.mono aS⟩
theorem sJ (h:AG w B M X) (hj:j<M.n) {c:Nat} (hc:X.S j 3=(c:Nat)) (hl:c<M.d j):Dd B M 243 #[some B.lb,j] w (.tuple #[]) (Gm M X j c):=by
 unfold Gm;by_cases hb:As M X j c 2=0
 ·rw[if_pos (.inl hb)];exact iC h hj hc hl hb
 ·by_cases ht:c+1=M.d j
  ·rw[if_pos (.inr ht)];exact iD h hj hc hl hb ht
  ·rw[if_neg (fun q=>q.elim hb ht)];exact nR h hj hc hl hb aO
theorem sQ (h:AG w B M X) (hj:j<M.n) {c:Nat} (hc:X.S j 3=(c:Nat)) (hl:c<M.d j):Dd B M 244 #[some B.lb,j] w (.tuple #[]) (Gp M X j c):=by
 unfold Gp;cases c with
 |zero=>rw[if_pos rfl];exact nT h hj hc
 |succ c=>rw[if_neg aO];exact nX h hj (by rw[hc];omega) aO
theorem oB (h:AG w B M X) (hj:j<M.n) (h0:X.S j 0=0∨X.S j 0=10):Dd B M 237 #[some B.lb,j] w (.bool false) X:=by
 unfold Dd;have fd:=bY;have H:=aH h;have hS:=GL h hj;have hn:=h.n32;obtain⟨d1,d2,d3⟩:=aI (j:=j) (n:=M.n);have l1:(j:Int)<M.n:=by omega
 rcases h0 with h0|h0
 ·rw[h0] at hS;have HS:=aH hS;clear h hj hS h0;go_enter func237,ntmps237;go_wp2_with fail;refine HS.o.mono ?_;rintro e w1 ⟨rfl,hF⟩;have H2:=aH (And.intro (H.o.same hF) hF);clear hF;go_wp2;go_ret;exact⟨rfl,H2.o.1,H2.o.2.mono aS⟩
 ·rw[h0] at hS;have HS:=aH hS;clear h hj hS h0;go_enter func237,ntmps237;go_wp2_with fail;refine HS.o.mono ?_;rintro e w1 ⟨rfl,hF⟩;have H2:=aH (And.intro (H.o.same hF) hF);clear hF;go_wp2;go_ret;exact⟨rfl,H2.o.1,H2.o.2.mono aS⟩
theorem DP:(∀{w:World} {B:FR} {M:BN} {X:Be} {j:Nat} (h:AG w B M X) (hj:j<M.n) (h0:¬(X.S j 0=0∨X.S j 0=10)) {c:Nat} (hc:X.S j 3=(c:Nat)) (hl:c<M.d j) (hp:FV (As M X j c 0)) (hr:BL M X j c=false),Dd B M 237 #[some B.lb,j] w (.bool false) (AD M X j c))∧(∀{w:World} {B:FR} {M:BN} {X:Be} {j:Nat} (h:AG w B M X) (hj:j<M.n) (h0:¬(X.S j 0=0∨X.S j 0=10)) {c:Nat} (hc:X.S j 3=(c:Nat)) (hl:c<M.d j) (hp:FV (As M X j c 0)) (hr:BL M X j c=true) (hw:X.S j 0=1),∃p:Int,p=(Gm M (AD M X j c) j c).S j 0∧Dd B M 237 #[some B.lb,j] w (.bool ((p==10)||(p==0))) (Gm M (AD M X j c) j c))∧(∀{w:World} {B:FR} {M:BN} {X:Be} {j:Nat} (h:AG w B M X) (hj:j<M.n) (h0:¬(X.S j 0=0∨X.S j 0=10)) {c:Nat} (hc:X.S j 3=(c:Nat)) (hl:c<M.d j) (hp:FV (As M X j c 0)) (hr:BL M X j c=true) (hw:X.S j 0≠1) (hq:As M (AD M X j c) j c 0=0),∃p:Int,p=(Gp M (AD M X j c) j c).S j 0∧Dd B M 237 #[some B.lb,j] w (.bool ((p==10)||(p==0))) (Gp M (AD M X j c) j c))∧(∀{w:World} {B:FR} {M:BN} {X:Be} {j:Nat} (h:AG w B M X) (hj:j<M.n) (h0:¬(X.S j 0=0∨X.S j 0=10)) {c:Nat} (hc:X.S j 3=(c:Nat)) (hl:c<M.d j) (hp:FV (As M X j c 0)) (hr:BL M X j c=true) (hw:X.S j 0≠1) (hq:As M (AD M X j c) j c 0≠0) (ht:c+1<M.d j),∃p:Int,p=(C6 M (AD M X j c) j (c+1)).S j 0∧Dd B M 237 #[some B.lb,j] w (.bool ((p==10)||(p==0))) (C6 M (AD M X j c) j (c+1))):=by
 refine⟨?_,?_,?_,?_⟩;intro w B M X j h hj h0 c hc hl hp hr;rotate_left;intro w B M X j h hj h0 c hc hl hp hr hw;refine⟨_,rfl,?_⟩;have HX':=aH (show True from trivial);rotate_left;intro w B M X j h hj h0 c hc hl hp hr hw hq;refine⟨_,rfl,?_⟩;have HX':=aH (show True from trivial);rotate_left;intro w B M X j h hj h0 c hc hl hp hr hw hq ht;refine⟨_,rfl,?_⟩;have HX':=aH (show True from trivial);rotate_left;all_goals
  unfold Dd;have fd:=bY;have hnot:= @aX prog;have HJ:=aH hj;have HL:=aH hl;have hS:=GL h hj;have hn:=h.n32;obtain⟨d1,d2,d3⟩:=aI (j:=j) (n:=M.n);have l1:(j:Int)<M.n:=by omega
  have m1:decide (M.d j≤c)=false:=aB;have m2:decide ((M.d j:Int)≤((c:Nat):Int))=false:=aB;have m3:((c:Nat):Int)<M.d j:=by omega
  have m5:decide (((c:Nat):Int)<0)=false:=aB;have hd40:=(h.ok.d1 j hj).2;have e1:(X.S j 0==0)=false:=by simpa using fun q=>h0 (.inl q)
  have e2:(X.S j 0==10)=false:=by simpa using fun q=>h0 (.inr q)
 rotate_left;have e3:(X.S j 0==1)=true:=by simpa using hw
 clear hw;rotate_left;have e3:(X.S j 0==1)=false:=by simpa using hw
 have e4:(As M (AD M X j c) j c 0==0)=true:=by simpa using hq
 clear hw hq;rotate_left;have e3:(X.S j 0==1)=false:=by simpa using hw
 have e4:(As M (AD M X j c) j c 0==0)=false:=by simpa using hq
 have HT:=aH ht;clear hw hq ht;rotate_left;all_goals
  obtain⟨a0,ha⟩:∃a,a=X.S j 0:=⟨_,rfl⟩
  rw[←ha] at*;have HS:=aH hS;have H:=aH h;have HC:=aH hc;have HP:=aH hp;have HR:=aH hr;clear h hj hl hS hc hp hr h0 ha;go_enter func237,ntmps237;go_wp2_with fail;refine HS.o.mono ?_;rintro e w1 ⟨rfl,hF⟩;have hX:=H.o.same hF;have c3:=hX.c3;have HX:=aH hX;have F1:=aH hF;have j3:=hX.sp3 HJ.o HC.o;obtain⟨cap,cap',k2,kv,kr,ks⟩:=hX.way HJ.o (l:=c) HL.o;clear hX hF;have hne:=aW [] w1;have zk2:=fun q:HW (fun wx=>ae [] w1 wx)=>q.h.cell k2 aS;have zkv:=fun q:HW (fun wx=>ae [] w1 wx)=>q.h.cell kv aS;have zkr:=fun q:HW (fun wx=>ae [] w1 wx)=>q.h.cell kr aS;have zks:=fun q:HW (fun wx=>ae [] w1 wx)=>q.h.cell ks aS;have zj3:=fun q:HW (fun wx=>ae [] w1 wx)=>q.h.cell j3 aS;go_wp2_with fail;refine bv (S:=(fun wx=>ae [] w1 wx)) aK ?_;refine aR (fuel:=2) [0,1,2,3,4,5,6,7,8,9,10,11,12] rfl aF.drew1 ?_;intro Kq hKq;repeat (go_big_quiet_step (fail))
  refine wpQuiet_nil (hKq _ ?_);clear hKq Kq;refine aL 13 (fuel:=1) rfl ?_;go_wp2_with fail;refine af ⟨aE,?_⟩;refine aL 14 (fuel:=0) rfl ?_;go_wp2_with fail;refine af ⟨aE,?_⟩;refine aN ?_;clear hne zk2 zkv zkr zks zj3;have hal:ae [] w1 ((w1.alloc (.cells #[some (B.rl (M.pl j c)),(M.sl j c:Int)] 215)).drew):=(aF.alloc _).drew1;have hB:=(am.new w1 #[some (B.rl (M.pl j c)),(M.sl j c:Int)] 215).drew1;have b0:=hB.cell (i:=0) rfl;have b1:=hB.cell (i:=1) rfl;have HB:=aH hB;have HAL:=aH hal;clear hal hB;generalize(w1.alloc (.cells #[some (B.rl (M.pl j c)),(M.sl j c:Int)] 215)).drew=w1a at*;have hX1:=HX.o.same HAL.o;have HN:=aH (hX1.free.not HB.o);have hST:=ij hX1 HJ.o HL.o HP.o;rw[HR.o] at hST;have HST:=aH hST;have F2:=aH ((F1.o.trans HAL.o).mono (S':=JT B M) aS);clear hX1 hST;go_wp2_with fail;refine HST.o.mono ?_;rintro e w3 ⟨rfl,hX,hF⟩
 have H3:=aH (And.intro hX (F2.o.trans hF));rotate_left
 focus
  have hB3:=HB.o.frm hF HN.o;have b0:=hB3.cell (i:=0) rfl;have b1:=hB3.cell (i:=1) rfl;have j3:w3.cell? (B.sb,j*4+3)=some (.int .i64 (c:Nat)):=hX.sp3 HJ.o HC.o;have HX3:=aH hX;have hSQ:=Cr hX HJ.o HL.o;obtain⟨q0,hq0⟩:∃q,q=As M (AD M X j c) j c 0:=⟨_,rfl⟩
  rw[←hq0] at*;have HSQ:=aH hSQ;have F3:=aH (F2.o.trans hF);clear hX hF hB3 hSQ hq0;go_wp2_with fail;refine HSQ.o.mono ?_;rintro e w4 ⟨rfl,hF⟩;have HX3:=aH (HX3.o.same hF);have HC3:=aH (show(AD M X j c).S j 3=(c:Nat) from HC.o);have j3:=HX3.o.sp3 HJ.o HC.o;have F4:=aH (F3.o.trans (hF.mono aS));have HCM:=aH (sJ HX3.o HJ.o HC3.o HL.o);clear hF;go_wp2_with fail;refine HCM.o.mono ?_;rintro e w5 ⟨rfl,hX,hF⟩;have H5:=aH (And.intro hX (F4.o.trans hF));obtain⟨i0, -, -, -⟩:=hX.sp HJ.o;have j3:=True.intro
 rotate_left
 focus
  have hB3:=HB.o.frm hF HN.o;have b0:=hB3.cell (i:=0) rfl;have b1:=hB3.cell (i:=1) rfl;have j3:w3.cell? (B.sb,j*4+3)=some (.int .i64 (c:Nat)):=hX.sp3 HJ.o HC.o;have HX3:=aH hX;have hSQ:=Cr hX HJ.o HL.o;obtain⟨q0,hq0⟩:∃q,q=As M (AD M X j c) j c 0:=⟨_,rfl⟩
  rw[←hq0] at*;have HSQ:=aH hSQ;have F3:=aH (F2.o.trans hF);clear hX hF hB3 hSQ hq0;go_wp2_with fail;refine HSQ.o.mono ?_;rintro e w4 ⟨rfl,hF⟩;have HX3:=aH (HX3.o.same hF);have HC3:=aH (show(AD M X j c).S j 3=(c:Nat) from HC.o);have j3:=HX3.o.sp3 HJ.o HC.o;have F4:=aH (F3.o.trans (hF.mono aS));have HCM:=aH (sQ HX3.o HJ.o HC3.o HL.o);clear hF;go_wp2_with fail;refine HCM.o.mono ?_;rintro e w5 ⟨rfl,hX,hF⟩;have H5:=aH (And.intro hX (F4.o.trans hF));obtain⟨i0, -, -, -⟩:=hX.sp HJ.o;have j3:=True.intro
 rotate_left
 focus
  have hB3:=HB.o.frm hF HN.o;have b0:=hB3.cell (i:=0) rfl;have b1:=hB3.cell (i:=1) rfl;have j3:w3.cell? (B.sb,j*4+3)=some (.int .i64 (c:Nat)):=hX.sp3 HJ.o HC.o;have HX3:=aH hX;have hSQ:=Cr hX HJ.o HL.o;obtain⟨q0,hq0⟩:∃q,q=As M (AD M X j c) j c 0:=⟨_,rfl⟩
  rw[←hq0] at*;have HSQ:=aH hSQ;have F3:=aH (F2.o.trans hF);clear hX hF hB3 hSQ hq0;go_wp2_with fail;refine HSQ.o.mono ?_;rintro e w4 ⟨rfl,hF⟩;have HX3:=aH (HX3.o.same hF);have HC3:=aH (show(AD M X j c).S j 3=(c:Nat) from HC.o);have j3:=HX3.o.sp3 HJ.o HC.o;have F4:=aH (F3.o.trans (hF.mono aS));have HCM:=aH (bE HX3.o HJ.o HT.o);clear hF;go_wp2_with fail;refine HCM.o.mono ?_;rintro e w5 ⟨rfl,hX,hF⟩;have H5:=aH (And.intro hX (F4.o.trans hF));obtain⟨i0, -, -, -⟩:=hX.sp HJ.o;have j3:=True.intro
 rotate_left;all_goals
  clear hX hF
 ·go_wp2;go_ret;exact⟨rfl,H3.o⟩
 ·by_cases p1:(Gm M (AD M X j c) j c).S j 0=10
  ·rw[p1] at i0;go_wp2;go_ret;exact⟨by rw[p1];rfl,H5.o⟩
  ·have p2:((Gm M (AD M X j c) j c).S j 0==10)=false:=by simpa using p1
   clear p1;go_wp2;go_ret;exact⟨by rw[p2];rfl,H5.o⟩
 ·by_cases p1:(Gp M (AD M X j c) j c).S j 0=10
  ·rw[p1] at i0;go_wp2;go_ret;exact⟨by rw[p1];rfl,H5.o⟩
  ·have p2:((Gp M (AD M X j c) j c).S j 0==10)=false:=by simpa using p1
   clear p1;go_wp2;go_ret;exact⟨by rw[p2];rfl,H5.o⟩
 ·by_cases p1:(C6 M (AD M X j c) j (c+1)).S j 0=10
  ·rw[p1] at i0;go_wp2;go_ret;exact⟨by rw[p1];rfl,H5.o⟩
  ·have p2:((C6 M (AD M X j c) j (c+1)).S j 0==10)=false:=by simpa using p1
   clear p1;go_wp2;go_ret;exact⟨by rw[p2];rfl,H5.o⟩
def o8:= @And.left _ _ DP
def nr:= @And.left _ _ (@And.right _ _ DP)
def nt:= @And.left _ _ (@And.right _ _ (@And.right _ _ DP))
def nm:= @And.right _ _ (@And.right _ _ (@And.right _ _ DP))
def Cl (X:Be) (j:Nat):Nat:=(X.S j 3).toNat
def wG (M:BN) (X:Be) (j:Nat):Prop:=¬(X.S j 0=0∨X.S j 0=10)→0≤X.S j 3∧Cl X j<M.d j∧FV (As M X j (Cl X j) 0)∧(BL M X j (Cl X j)=true→X.S j 0≠1→As M (AD M X j (Cl X j)) j (Cl X j) 0≠0→Cl X j+1<M.d j)
theorem sY (h:AG w B M X) (hj:j<M.n) (hg:wG M X j):Dd B M 237 #[some B.lb,j] w (.bool (ig M X j (Cl X j))) (CU M X j (Cl X j)):=by
 unfold ig CU;by_cases h0:X.S j 0=0∨X.S j 0=10
 ·rw[if_pos h0,decide_eq_true h0];exact oB h hj h0
 ·obtain⟨g1,g2,g3,g4⟩:=hg h0;have hc:X.S j 3=(Cl X j:Nat):=by unfold Cl;omega
  rw[if_neg h0,decide_eq_false h0];cases hr:BL M X j (Cl X j) with
  |false=>rw[if_pos rfl];exact o8 h hj h0 hc g2 g3 hr
  |true=>
   rw[if_neg aS];unfold E6;by_cases hw:X.S j 0=1
   ·rw[if_pos hw];obtain⟨p,rfl,hp⟩:=nr h hj h0 hc g2 g3 hr hw;exact hp
   ·rw[if_neg hw];by_cases hq:As M (AD M X j (Cl X j)) j (Cl X j) 0=0
    ·rw[if_pos hq];obtain⟨p,rfl,hp⟩:=nt h hj h0 hc g2 g3 hr hw hq;exact hp
    ·rw[if_neg hq];obtain⟨p,rfl,hp⟩:=nm h hj h0 hc g2 g3 hr hw hq (g4 hr hw hq);exact hp
end
structure JS (M:BN):Prop where
 up:∀t u l l',t<M.n→u<M.n→l<M.d t→l'<M.d u→M.pl t l=M.pl u l'→M.d t+l'=M.d u+l∧∀k,0<k→l+k<M.d t→M.pl t (l+k)=M.pl u (l'+k)∧M.sl t (l+k)=M.sl u (l'+k)
 dn:∀t u l l',t<M.n→u<M.n→l<M.d t→l'<M.d u→M.pl t l=M.pl u l'→M.sl t l=M.sl u l'→(l=0∧l'=0∧t=u)∨(0<l∧0<l'∧M.pl t (l - 1)=M.pl u (l' - 1))
 ok:M.Ok
 sz:∀v,v<M.nv→M.sz v≤32
def cg (M:BN) (R:Nat→Nat→Nat→Int) (t l:Nat):Int:=R (M.pl t l) (M.sl t l) 0
inductive HP
 |rest|in_ (c:Nat)|mid (c:Nat)|hold|pass (c:Nat)|out (c:Nat)|down (c:Nat)
def HP.ok (M:BN) (R:Nat→Nat→Nat→Int) (t:Nat):HP→Prop
 | .rest=>cg M R t 0=0
 | .in_ c=>c<M.d t∧(∀l,l<c→cg M R t l=10)∧1≤cg M R t c∧cg M R t c≤6
 | .mid c=>c+1<M.d t∧(∀l,l<c+1→cg M R t l=10)∧cg M R t (c+1)=0
 | .hold=>∀l,l<M.d t→cg M R t l=10
 | .pass c=>c+1<M.d t∧(∀l,l<M.d t→l≠c→cg M R t l=10)∧(cg M R t c=15∨cg M R t c=16)
 | .out c=>c<M.d t∧(∀l,l<c→cg M R t l=10)∧(11≤cg M R t c∧cg M R t c≤14)∧R (M.pl t c) (M.sl t c) 3=if c+1=M.d t then 1 else -1
 | .down c=>c<M.d t∧(∀l,l<c→cg M R t l=10)∧cg M R t c=0
def vX (M:BN) (A:AR) (R:Nat→Nat→Nat→Int):Prop:=∀v,v<M.nv→∃Q o,RI (M.sz v) (M.tl v) A (R v) Q o
def IJ (M:BN) (R:Nat→Nat→Nat→Int) (t l:Nat):Prop:=∀k,k<l→cg M R t k=10∨cg M R t k=15∨cg M R t k=16
def J5 (M:BN) (A:AR) (R:Nat→Nat→Nat→Int) (v:Nat):Prop:=Cb (M.sz v) (cv (M.tl v) (M.sz v) A) (R v)
def FP (M:BN) (A:AR) (R:Nat→Nat→Nat→Int) (v:Nat):Prop:=CE (M.sz v) (cv (M.tl v) (M.sz v) A) (R v)
def mM (M:BN) (A:AR) (R:Nat→Nat→Nat→Int) (t l:Nat):Prop:=(J5 M A R (M.pl t l)→l+1<M.d t→cg M R t (l+1)=0)∧(FP M A R (M.pl t l)→∀k,l<k→k<M.d t→cg M R t k=10)
section
variable{M:BN} {A A':AR} {R R':Nat→Nat→Nat→Int} {t u:Nat}
theorem iq (T:JS M) (hR:vX M A R) {l l':Nat} (ht:t<M.n) (hu:u<M.n) (hl:l<M.d t) (hl':l'<M.d u) (e:M.pl t l=M.pl u l') (h1:6≤cg M R t l) (h2:6≤cg M R u l'):M.sl t l=M.sl u l':=by
 obtain⟨Q,o,h⟩:=hR _ (T.ok.pl t l ht hl);have s2:=T.ok.sl u l' hu hl';unfold cg at h1 h2;rw[←e] at s2 h2;exact h.one (T.ok.sl t l ht hl) s2 h1 h2
theorem zw (T:JS M) (hR:vX M A R) (ht:t<M.n) (hu:u<M.n):∀l l',l<M.d t→l'<M.d u→IJ M R t l→IJ M R u l'→M.pl t l=M.pl u l'→M.sl t l=M.sl u l'→t=u∧l=l'
 | 0,l',hl,hl',_,_,e1,e2=>by
  rcases T.dn t u 0 l' ht hu hl hl' e1 e2 with⟨_,q,r⟩|⟨q,_⟩
  ·exact⟨r,q.symm⟩
  ·omega
 |l+1,l',hl,hl',lo,lo',e1,e2=>by
  rcases T.dn t u (l+1) l' ht hu hl hl' e1 e2 with⟨q,_⟩|⟨_,q,e⟩
  ·omega
  ·obtain⟨m,rfl⟩:∃m,l'=m+1:=⟨l' - 1,by omega⟩
   simp only[Nat.add_sub_cancel] at e;have a1:=lo l aO;have a2:=lo' m aO;have es:=iq T hR ht hu aO aO e aO aO;obtain⟨r1,r2⟩:=zw T hR ht hu l m aO aO (fun k hk=>lo k aO) (fun k hk=>lo' k aO) e es;exact⟨r1,by omega⟩
theorem HP.keep {p:HP} (hp:p.ok M R u) (hd:0<M.d u) (hk:∀k,k<M.d u→IJ M R u k→R' (M.pl u k) (M.sl u k) 0=R (M.pl u k) (M.sl u k) 0∧R' (M.pl u k) (M.sl u k) 3=R (M.pl u k) (M.sl u k) 3):p.ok M R' u:=by
 have hk0:∀k,k<M.d u→IJ M R u k→cg M R' u k=cg M R u k:=fun k h1 h2=>(hk k h1 h2).1;cases p with
 |rest=>exact(hk0 0 hd (fun k h=>by omega)).trans hp
 |in_ c=>
  obtain⟨h1,h2,h3⟩:=hp;have lo:∀l,l≤c→IJ M R u l:=fun l hl k hk=>.inl (h2 k aO);exact⟨h1,fun l hl=>(hk0 l aO (lo l aO)).trans (h2 l hl),by rw[hk0 c h1 (lo c aO)];exact h3⟩
 |mid c=>
  obtain⟨h1,h2,h3⟩:=hp;have lo:∀l,l≤c+1→IJ M R u l:=fun l hl k hk=>.inl (h2 k aO);exact⟨h1,fun l hl=>(hk0 l aO (lo l aO)).trans (h2 l hl),by rw[hk0 (c+1) h1 (lo _ aO)];exact h3⟩
 |hold=>exact fun l hl=>(hk0 l hl (fun k hk=>.inl (hp k aO))).trans (hp l hl)
 |pass c=>
  obtain⟨h1,h2,h3⟩:=hp;have lo:∀l,l<M.d u→IJ M R u l:=fun l hl k hk=>by
   by_cases e:k=c
   ·subst e;exact .inr h3
   ·exact .inl (h2 k aO e)
  exact⟨h1,fun l hl e=>(hk0 l hl (lo l hl)).trans (h2 l hl e),by rw[hk0 c aO (lo c aO)];exact h3⟩
 |out c=>
  obtain⟨h1,h2,h3,h4⟩:=hp;have lo:∀l,l≤c→IJ M R u l:=fun l hl k hk=>.inl (h2 k aO);exact⟨h1,fun l hl=>(hk0 l aO (lo l aO)).trans (h2 l hl),by rw[hk0 c h1 (lo c aO)];exact h3,by rw[(hk c h1 (lo c aO)).2];exact h4⟩
 |down c=>
  obtain⟨h1,h2,h3⟩:=hp;have lo:∀l,l≤c→IJ M R u l:=fun l hl k hk=>.inl (h2 k aO);exact⟨h1,fun l hl=>(hk0 l aO (lo l aO)).trans (h2 l hl),by rw[hk0 c h1 (lo c aO)];exact h3⟩
theorem zD (T:JS M) (hR:vX M A R) (ht:t<M.n) (hu:u<M.n) {l':Nat}:∀k l,l'<k→k<M.d u→l<M.d t→(∀m,m<l→cg M R t m=10)→(∀m,l'<m→m<k→cg M R u m=10)→M.pl u k=M.pl t l→M.sl u k=M.sl t l→∃m,m<l∧M.pl t m=M.pl u l'
 | 0,_,h,_,_,_,_,_,_=>by omega
 |k+1,l,h,hk,hl,lt,lu,e1,e2=>by
  rcases T.dn u t (k+1) l hu ht hk hl e1 e2 with⟨q,_⟩|⟨_,q,e⟩
  ·omega
  ·obtain⟨m,rfl⟩:∃m,l=m+1:=⟨l - 1,by omega⟩
   simp only[Nat.add_sub_cancel] at e;by_cases c:k=l'
   ·subst c;exact⟨m,by omega,e.symm⟩
   ·have a1:=lu k aO aO;have a2:=lt m aO;have es:=iq T hR hu ht aO aO e aO aO;obtain⟨x,hx,ex⟩:=zD T hR ht hu k m aO aO aO (fun m hm=>lt m aO) (fun m h1 h2=>lu m h1 aO) e es;exact⟨x,by omega,ex⟩
theorem bK (T:JS M) (hR:vX M A R) (ht:t<M.n) {l:Nat} (hl:l<M.d t) (h:cg M R t l=10):¬J5 M A R (M.pl t l)∧¬FP M A R (M.pl t l):=by
 obtain⟨Q,o,hq⟩:=hR _ (T.ok.pl t l ht hl);exact⟨hq.nlow (T.ok.sl t l ht hl) (.inl h),hq.nhigh (T.ok.sl t l ht hl) (.inr ⟨by unfold cg at h;omega,by unfold cg at h;omega⟩)⟩
theorem mM.keep (T:JS M) (hR:vX M A R) (ht:t<M.n) (hu:u<M.n) {l l':Nat} (hl:l<M.d t) (hl':l'<M.d u) (hlo:∀m,m<l→cg M R t m=10) (hJ:mM M A R u l') (hk:∀v i,¬(v=M.pl t l∧i=M.sl t l)→R' v i 0=R v i 0) (h1:J5 M A' R' (M.pl u l')→J5 M A R (M.pl u l')) (h2:FP M A' R' (M.pl u l')→FP M A R (M.pl u l')):mM M A' R' u l':=by
 refine⟨fun hL hd=>?_,fun hH k hlk hkd=>?_⟩
 ·have hL:=h1 hL;by_cases e:M.pl u (l'+1)=M.pl t l∧M.sl u (l'+1)=M.sl t l
  ·obtain⟨m,hm,em⟩:=zD T hR ht hu (l':=l') (l'+1) l aO hd hl hlo (fun m h1 h2=>by omega) e.1 e.2;exact absurd (em ▸ hL) (bK T hR ht aO (hlo m hm)).1
  ·exact(hk _ _ e).trans (hJ.1 hL hd)
 ·have hH:=h2 hH;by_cases e:M.pl u k=M.pl t l∧M.sl u k=M.sl t l
  ·obtain⟨m,hm,em⟩:=zD T hR ht hu (l':=l') k l hlk hkd hl hlo (fun m h1 h2=>hJ.2 hH m h1 aO) e.1 e.2;exact absurd (em ▸ hH) (bK T hR ht aO (hlo m hm)).2
  ·exact(hk _ _ e).trans (hJ.2 hH k hlk hkd)
end
structure yq (M:BN) (A:AR):Prop where
 fit:A.Fit
 lo:∀v,v<M.nv→1≤M.tl v∧M.tl v+(1+2*M.sz v)≤A.taken+1
 ap:∀u v,u<M.nv→v<M.nv→u≠v→M.tl u+(1+2*M.sz u)≤M.tl v∨M.tl v+(1+2*M.sz v)≤M.tl u
structure C5 (M:BN) (A:AR) (R:Nat→Nat→Nat→Int) (ph:Nat→HP):Prop where
 T:JS M
 G:yq M A
 rg:vX M A R
 P:∀t,t<M.n→(ph t).ok M R t
 J:∀t l,t<M.n→l<M.d t→mM M A R t l
def FC (ph:Nat→HP) (t:Nat) (p:HP):Nat→HP:=fun u=>if u=t then p else ph u
section
variable{M:BN} {A A':AR} {R R':Nat→Nat→Nat→Int} {ph:Nat→HP} {t u l l':Nat} {p:HP} {S':Nat→Nat→Int}
theorem JS.ne (T:JS M) (ht:t<M.n) {k:Nat} (hl:l<M.d t) (hk:k<M.d t) (h:k≠l):M.pl t k≠M.pl t l:=fun e=>by
 have:=(T.up t t k l ht ht hk hl e).1;omega
theorem mM.same (T:JS M) (ht:t<M.n) (hu:u<M.n) (hl:l<M.d t) (hl':l'<M.d u) (e:M.pl u l'=M.pl t l) (h:mM M A R t l):mM M A R u l':=by
 obtain⟨e1,e2⟩:=T.up t u l l' ht hu hl hl' e.symm;have es:∀k,0<k→l+k<M.d t→cg M R u (l'+k)=cg M R t (l+k):=fun k h0 hk=>by unfold cg;rw[(e2 k h0 hk).1,(e2 k h0 hk).2]
 refine⟨fun hL hd=>?_,fun hH k hlk hkd=>?_⟩
 ·rw[es 1 aO aO];exact h.1 (e ▸ hL) aO
 ·have:=es (k - l') aO aO;rw[show l'+(k - l')=k by omega] at this;rw[this];exact h.2 (e ▸ hH) _ aO aO
theorem C5.turn (h:C5 M A R ph) (ht:t<M.n) (hl:l<M.d t) (hlo:∀m,m<l→cg M R t m=10) (hS:∀k,k≠M.sl t l→∀τ,S' k τ=R (M.pl t l) k τ) (hri:∃Q o,RI (M.sz (M.pl t l)) (M.tl (M.pl t l)) A' S' Q o) (hop:jg (M.tl (M.pl t l)) (1+2*M.sz (M.pl t l)) A A') (hfit:A'.Fit) (hJ:mM M A' (C1 R (M.pl t l) S') t l) (hp:p.ok M (C1 R (M.pl t l) S') t):C5 M A' (C1 R (M.pl t l) S') (FC ph t p):=by
 have hv:=h.T.ok.pl t l ht hl;have hsame:∀v,v<M.nv→v≠M.pl t l→C1 R (M.pl t l) S' v=R v:=fun v _ e=>by unfold C1;rw[if_neg e]
 have hk:∀v i τ,¬(v=M.pl t l∧i=M.sl t l)→C1 R (M.pl t l) S' v i τ=R v i τ:=fun v i τ e=>by
  unfold C1;by_cases q:v=M.pl t l
  ·rw[if_pos q,hS i (fun x=>e ⟨q,x⟩),q]
  ·rw[if_neg q]
 have hget:∀v,v<M.nv→v≠M.pl t l→∀i:Int,(M.tl v:Int)≤i→i<(M.tl v:Int)+((1+2*M.sz v:Nat):Int)→A'.get i=A.get i:=fun v hv' e i h1 h2=>hop.out i (by have:=h.G.ap v _ hv' hv e;omega);refine{T:=h.T,G:=⟨hfit,fun v hv=>by rw[hop.taken];exact h.G.lo v hv,h.G.ap⟩,rg:=fun v hv'=>?_,P:=fun u hu=>?_,J:=fun u l' hu hl'=>?_}
 ·by_cases e:v=M.pl t l
  ·subst e;unfold C1;rw[if_pos rfl];exact hri
  ·rw[hsame v hv' e];obtain⟨Q,o,hq⟩:=h.rg v hv';exact⟨Q,o,hq.frame (hget v hv' e)⟩
 ·unfold FC;by_cases e:u=t
  ·subst e;rw[if_pos rfl];exact hp
  ·rw[if_neg e];refine HP.keep (p:=ph u) (h.P u hu) (by have:=(h.T.ok.d1 u hu).1;omega) fun k hkd lo=>?_;have hne:¬(M.pl u k=M.pl t l∧M.sl u k=M.sl t l):=fun x=>e (zw h.T h.rg hu ht k l hkd hl lo (fun m hm=>.inl (hlo m hm)) x.1 x.2).1;exact⟨hk _ _ _ hne,hk _ _ _ hne⟩
 ·by_cases e:M.pl u l'=M.pl t l
  ·exact hJ.same h.T ht hu hl hl' e
  ·have hv':=h.T.ok.pl u l' hu hl';have ec:=eA (hget _ hv' e);exact mM.keep h.T h.rg ht hu hl hl' hlo (h.J u l' hu hl') (fun v i=>hk v i 0) (fun x=>by unfold J5 at x⊢;rw[hsame _ hv' e,ec] at x;exact x) (fun x=>by unfold FP at x⊢;rw[hsame _ hv' e,ec] at x;exact x)
theorem C5.own (h:C5 M A R ph) (ht:t<M.n) (hl:l<M.d t) (h1:Cb (M.sz (M.pl t l)) (cv (M.tl (M.pl t l)) (M.sz (M.pl t l)) A') S'→J5 M A R (M.pl t l)) (h2:CE (M.sz (M.pl t l)) (cv (M.tl (M.pl t l)) (M.sz (M.pl t l)) A') S'→FP M A R (M.pl t l)∨l+1=M.d t):mM M A' (C1 R (M.pl t l) S') t l:=by
 have hs:∀k,l<k→k<M.d t→cg M (C1 R (M.pl t l) S') t k=cg M R t k:=fun k hlk hkd=>by unfold cg C1;rw[if_neg (h.T.ne ht hl hkd aO)]
 have e:C1 R (M.pl t l) S' (M.pl t l)=S':=by unfold C1;rw[if_pos rfl]
 refine⟨fun hL hd=>?_,fun hH k hlk hkd=>?_⟩
 ·unfold J5 at hL;rw[e] at hL;rw[hs _ aO hd];exact(h.J t l ht hl).1 (h1 hL) hd
 ·unfold FP at hH;rw[e] at hH;rw[hs k hlk hkd];rcases h2 hH with q|q
  ·exact(h.J t l ht hl).2 q k hlk hkd
  ·omega
end
section
variable{M:BN} {A A':AR} {R R':Nat→Nat→Nat→Int} {ph:Nat→HP} {t u l l' c:Nat} {p:HP} {S':Nat→Nat→Int}
theorem GQ (T:JS M) (ht:t<M.n) (hl:l<M.d t):cg M (C1 R (M.pl t l) S') t l=S' (M.sl t l) 0:=by unfold cg C1;rw[if_pos rfl]
theorem Eu (T:JS M) (ht:t<M.n) (hl:l<M.d t) {k:Nat} (hk:k<M.d t) (h:k≠l):cg M (C1 R (M.pl t l) S') t k=cg M R t k:=by unfold cg C1;rw[if_neg (T.ne ht hl hk h)]
def B7 (M:BN) (A:AR) (R:Nat→Nat→Nat→Int) (t l:Nat):BQ×Int:=BM ⟨M.sz (M.pl t l),M.tl (M.pl t l)⟩ ⟨A,R (M.pl t l)⟩ (M.sl t l)
def Ba (M:BN) (A:AR) (R:Nat→Nat→Nat→Int) (t l:Nat):Nat→Nat→Nat→Int:=C1 R (M.pl t l) (ac (B7 M A R t l).1.S (M.sl t l) 0 (B7 M A R t l).2)
theorem GO (h:C5 M A R ph) (ht:t<M.n) (hl:l<M.d t) (h0:cg M R t l≠0) (h1:cg M R t l≠10):Iu (M.sz (M.pl t l)) (M.tl (M.pl t l)) A (R (M.pl t l)) (M.sl t l) (B7 M A R t l):=by
 have hv:=h.T.ok.pl t l ht hl;obtain⟨Q,o,hq⟩:=h.rg _ hv;have g:=h.G.lo _ hv;exact rgo hq h.G.fit g.1 (h.T.sz _ hv) g.2 (h.T.ok.sl t l ht hl) h0 h1
theorem C5.step (h:C5 M A R ph) (ht:t<M.n) (hl:l<M.d t) (hlo:∀m,m<l→cg M R t m=10) (h0:cg M R t l≠0) (h1:cg M R t l≠10) (ho:A.ops<1000000000) (hx:cg M R t l=14→0<R (M.pl t l) (M.sl t l) 3→l+1=M.d t) (hp:p.ok M (Ba M A R t l) t):C5 M (B7 M A R t l).1.A (Ba M A R t l) (FC ph t p):=by
 have g:=GO h ht hl h0 h1;refine h.turn ht hl hlo (fun k hk τ=>(a6 _ _ _ _ hk).trans (g.ot k hk τ)) g.ri g.op (g.op.fit h.G.fit ho) (h.own ht hl g.lo fun x=>?_) hp;rcases g.hi x with q|q
 ·exact .inl q
 ·exact .inr (hx q.1 q.2)
theorem C5.inn (h:C5 M A R ph) (ht:t<M.n) (hp:ph t= .in_ c) (ho:A.ops<1000000000):(1≤(B7 M A R t c).2∧(B7 M A R t c).2≤6∧C5 M (B7 M A R t c).1.A (Ba M A R t c) (FC ph t (.in_ c)))∨((B7 M A R t c).2=10∧(((B7 M A R t c).1.S (M.sl t c) 2=0∨c+1=M.d t)∧C5 M (B7 M A R t c).1.A (Ba M A R t c) (FC ph t .hold)∨(B7 M A R t c).1.S (M.sl t c) 2=1∧c+1<M.d t∧C5 M (B7 M A R t c).1.A (Ba M A R t c) (FC ph t (.mid c)))):=by
 have hq:=h.P t ht;rw[hp] at hq;obtain⟨hc,h2,h3⟩:=hq;have h0:cg M R t c≠0:=by omega
 have h1:cg M R t c≠10:=by omega
 have g:=GO h ht hc h0 h1;have st:=fun p hp=>h.step (p:=p) ht hc h2 h0 h1 ho aO hp;have e0:cg M (Ba M A R t c) t c=(B7 M A R t c).2:=(GQ h.T ht hc).trans (ba _ _ _ _);have ek:∀k,k<M.d t→k≠c→cg M (Ba M A R t c) t k=cg M R t k:=fun k hk e=>Eu h.T ht hc hk e;have et:cg M R t c=R (M.pl t c) (M.sl t c) 0:=rfl;have hJ:=h.J t c ht hc;rcases g.tr with q|q|q|q|q|q
 ·exact .inl ⟨q.2.2.1,q.2.2.2,st _ ⟨hc,fun l hl=>(ek l aO aO).trans (h2 l hl),by rw[e0];exact⟨q.2.2.1,q.2.2.2⟩⟩⟩
 ·refine .inr ⟨q.2.1,.inl ⟨.inl q.2.2.2,st _ fun l hl=>?_⟩⟩;by_cases e:l=c
  ·subst e;exact e0.trans q.2.1
  ·rw[ek l hl e];by_cases e2:l<c
   ·exact h2 l e2
   ·exact hJ.2 q.2.2.1 l aO hl
 ·refine .inr ⟨q.2.1,?_⟩;have hall:∀l,l<c+1→cg M (Ba M A R t c) t l=10:=fun l hl=>by
   by_cases e:l=c
   ·subst e;exact e0.trans q.2.1
   ·exact(ek l aO e).trans (h2 l aO)
  by_cases e:c+1=M.d t
  ·exact .inl ⟨.inr e,st _ fun l hl=>hall l aO⟩
  ·exact .inr ⟨q.2.2.2,by omega,st _ ⟨by omega,hall,(ek _ aO aO).trans (hJ.1 q.2.2.1 aO)⟩⟩
 ·omega
 ·omega
 ·omega
theorem C5.passes (h:C5 M A R ph) (ht:t<M.n) (hp:ph t= .pass c) (ho:A.ops<1000000000):c+1<M.d t∧(((B7 M A R t c).2=16∧C5 M (B7 M A R t c).1.A (Ba M A R t c) (FC ph t (.pass c)))∨((B7 M A R t c).2=10∧C5 M (B7 M A R t c).1.A (Ba M A R t c) (FC ph t .hold))∨((B7 M A R t c).2=0∧C5 M (B7 M A R t c).1.A (Ba M A R t c) (FC ph t (.down c)))):=by
 have hq:=h.P t ht;rw[hp] at hq;obtain⟨hc,h2,h3⟩:=hq;have hcd:c<M.d t:=by omega
 have h0:cg M R t c≠0:=by omega
 have h1:cg M R t c≠10:=by omega
 have g:=GO h ht hcd h0 h1;have st:=fun p hp=>h.step (p:=p) ht hcd (fun m hm=>h2 m aO aO) h0 h1 ho aO hp;have e0:cg M (Ba M A R t c) t c=(B7 M A R t c).2:=(GQ h.T ht hcd).trans (ba _ _ _ _);have ek:∀k,k<M.d t→k≠c→cg M (Ba M A R t c) t k=10:=fun k hk e=>(Eu h.T ht hcd hk e).trans (h2 k hk e);have et:cg M R t c=R (M.pl t c) (M.sl t c) 0:=rfl;refine⟨hc,?_⟩;rcases g.tr with q|q|q|q|q|q
 ·omega
 ·omega
 ·omega
 ·omega
 ·rcases q.2 with q2|q2
  ·refine .inr (.inl ⟨q2,st _ fun l hl=>?_⟩);by_cases e:l=c
   ·subst e;exact e0.trans q2
   ·exact ek l hl e
  ·exact .inl ⟨q2,st _ ⟨hc,ek,.inr (e0.trans q2)⟩⟩
 ·exact .inr (.inr ⟨q.2,st _ ⟨hcd,fun l hl=>ek l aO aO,e0.trans q.2⟩⟩)
theorem C5.outs (h:C5 M A R ph) (ht:t<M.n) (hp:ph t= .out c) (ho:A.ops<1000000000):c<M.d t∧((11≤(B7 M A R t c).2∧(B7 M A R t c).2≤14∧C5 M (B7 M A R t c).1.A (Ba M A R t c) (FC ph t (.out c)))∨((B7 M A R t c).2=0∧C5 M (B7 M A R t c).1.A (Ba M A R t c) (FC ph t (.down c)))):=by
 have hq:=h.P t ht;rw[hp] at hq;obtain⟨hc,h2,h3,h4⟩:=hq;have h0:cg M R t c≠0:=by omega
 have h1:cg M R t c≠10:=by omega
 have g:=GO h ht hc h0 h1;have st:=fun p hp=>h.step (p:=p) ht hc h2 h0 h1 ho (fun _ hx=>by
  by_cases e:c+1=M.d t
  ·exact e
  ·rw[h4,if_neg e] at hx;omega) hp
 have e0:cg M (Ba M A R t c) t c=(B7 M A R t c).2:=(GQ h.T ht hc).trans (ba _ _ _ _);have e3:Ba M A R t c (M.pl t c) (M.sl t c) 3=R (M.pl t c) (M.sl t c) 3:=by
  unfold Ba C1;rw[if_pos rfl,cN _ _ _ _ aO];exact g.c3
 have ek:∀k,k<c→cg M (Ba M A R t c) t k=10:=fun k hk=>(Eu h.T ht hc aO aO).trans (h2 k hk);have et:cg M R t c=R (M.pl t c) (M.sl t c) 0:=rfl;refine⟨hc,?_⟩;rcases g.tr with q|q|q|q|q|q
 ·omega
 ·omega
 ·omega
 ·rcases q.2.2 with q2|q2
  ·exact .inr ⟨q2,st _ ⟨hc,ek,e0.trans q2⟩⟩
  ·exact .inl ⟨q2.1,q2.2,st _ ⟨hc,ek,by rw[e0];exact q2,e3.trans h4⟩⟩
 ·omega
 ·omega
end
section
variable{M:BN} {A A':AR} {R R':Nat→Nat→Nat→Int} {ph:Nat→HP} {t u l l' c:Nat} {p:HP} {v:Int}
theorem m6 {n i:Nat} {S:Nat→Nat→Int} {pc:Int} (hi:i<n) (h:S i 0=pc):ah n S (i:Int) pc=true:=by
 unfold ah aZ;simp[hi,h]
theorem eF (T:JS M) (ht:t<M.n) (hl:l<M.d t) (h:cg M R t l=0):CJ M R t l=C1 R (M.pl t l) (ac (R (M.pl t l)) (M.sl t l) 0 1):=by
 unfold CJ a8;rw[m6 (T.ok.sl t l ht hl) h,if_pos rfl];rfl
theorem GK (T:JS M) (ht:t<M.n) (hl:l<M.d t) (h:cg M R t l=10) (pc:Int):Aw M R t l pc v=C1 R (M.pl t l) (ac (ac (R (M.pl t l)) (M.sl t l) 0 pc) (M.sl t l) 3 v):=by
 unfold Aw D5 a8;rw[m6 (T.ok.sl t l ht hl) h,if_pos rfl,if_pos rfl];rfl
theorem C5.ask (h:C5 M A R ph) (ht:t<M.n) (hl:l<M.d t) (hlo:∀m,m<l→cg M R t m=10) (h0:cg M R t l=0):C5 M A (CJ M R t l) (FC ph t (.in_ l)):=by
 rw[eF h.T ht hl h0];obtain⟨Q,o,hq⟩:=h.rg _ (h.T.ok.pl t l ht hl);obtain⟨r1,r2,r3⟩:=hq.ask (h.T.ok.sl t l ht hl) h0;refine h.turn ht hl hlo (fun k hk τ=>a6 _ _ _ _ hk) ⟨Q,o,r1⟩ (jg.refl _ _ _) h.G.fit (h.own ht hl r2 fun x=>.inl (r3 x)) ⟨hl,fun k hk=>(Eu h.T ht hl aO aO).trans (hlo k hk),?_⟩;rw[GQ h.T ht hl,ba];omega
theorem C5.hand (h:C5 M A R ph) (ht:t<M.n) (hl:l<M.d t) (hlo:∀m,m<l→cg M R t m=10) (h0:cg M R t l=10) {pc:Int} (hv:(pc=11∧v≠0∧(l+1<M.d t→cg M R t (l+1)=0))∨(pc=15∧1≤v∧∀k,l<k→k<M.d t→cg M R t k=10)) (hp:p.ok M (Aw M R t l pc v) t):C5 M A (Aw M R t l pc v) (FC ph t p):=by
 rw[GK h.T ht hl h0] at hp⊢;have hsl:=h.T.ok.sl t l ht hl;obtain⟨Q,o,hq⟩:=h.rg _ (h.T.ok.pl t l ht hl);have hr:=hq.hand (pc:=pc) (v:=v) hsl h0 aO;have e0:ac (ac (R (M.pl t l)) (M.sl t l) 0 pc) (M.sl t l) 3 v (M.sl t l) 0=pc:=by rw[cN _ _ _ _ aO,ba]
 have hs:∀k,l<k→k<M.d t→cg M (C1 R (M.pl t l) (ac (ac (R (M.pl t l)) (M.sl t l) 0 pc) (M.sl t l) 3 v)) t k=cg M R t k:=fun k h1 h2=>Eu h.T ht hl h2 aO;have eR:C1 R (M.pl t l) (ac (ac (R (M.pl t l)) (M.sl t l) 0 pc) (M.sl t l) 3 v) (M.pl t l)=ac (ac (R (M.pl t l)) (M.sl t l) 0 pc) (M.sl t l) 3 v:=by unfold C1;rw[if_pos rfl]
 refine h.turn ht hl hlo (fun k hk τ=>by rw[a6 _ _ _ _ hk,a6 _ _ _ _ hk]) ⟨Q,o,hr⟩ (jg.refl _ _ _) h.G.fit ⟨fun hL hd=>?_,fun hH k hlk hkd=>?_⟩ hp
 ·unfold J5 at hL;rw[eR] at hL;rcases hv with⟨q, -,q2⟩|⟨q, -, -⟩
  ·rw[hs _ aO hd];exact q2 hd
  ·exact absurd hL (hr.nlow hsl (by rw[e0];omega))
 ·unfold FP at hH;rw[eR] at hH;rcases hv with⟨q, -, -⟩|⟨q, -,q2⟩
  ·exact absurd hH (hr.nhigh hsl (by rw[e0];omega))
  ·rw[hs k hlk hkd];exact q2 k hlk hkd
theorem gP (T:JS M) (ht:t<M.n) (hl:l<M.d t) (h:cg M R t l=10) (pc:Int):cg M (Aw M R t l pc v) t l=pc∧Aw M R t l pc v (M.pl t l) (M.sl t l) 3=v∧∀k,k<M.d t→k≠l→cg M (Aw M R t l pc v) t k=cg M R t k:=by
 rw[GK T ht hl h];refine⟨(GQ T ht hl).trans (by rw[cN _ _ _ _ aO,ba]),by unfold C1;rw[if_pos rfl,ba],fun k hk e=>Eu T ht hl hk e⟩
theorem C5.toPass (h:C5 M A R ph) (ht:t<M.n) (hp:ph t= .hold) (hl:l+1<M.d t) (hv:1≤v):C5 M A (Aw M R t l 15 v) (FC ph t (.pass l)):=by
 have hq:=h.P t ht;rw[hp] at hq;obtain⟨e1,e2,e3⟩:=gP (v:=v) h.T ht aO (hq l aO) 15;exact h.hand ht aO (fun m hm=>hq m aO) (hq l aO) (.inr ⟨rfl,hv,fun k _ hk=>hq k hk⟩) ⟨hl,fun k hk e=>(e3 k hk e).trans (hq k hk),.inl e1⟩
theorem C5.toOut (h:C5 M A R ph) (ht:t<M.n) (hp:ph t= .hold) (hl:l+1=M.d t):C5 M A (Aw M R t l 11 1) (FC ph t (.out l)):=by
 have hq:=h.P t ht;rw[hp] at hq;obtain⟨e1,e2,e3⟩:=gP (v:=1) h.T ht aO (hq l aO) 11;exact h.hand ht aO (fun m hm=>hq m aO) (hq l aO) (.inl ⟨rfl,by omega,fun x=>by omega⟩) ⟨by omega,fun k hk=>(e3 k aO aO).trans (hq k aO),by rw[e1];omega,by rw[e2,if_pos hl]⟩
theorem C5.toDown (h:C5 M A R ph) (ht:t<M.n) (hp:ph t= .down (l+1)):C5 M A (Aw M R t l 11 (-1)) (FC ph t (.out l)):=by
 have hq:=h.P t ht;rw[hp] at hq;obtain⟨hc,h2,h3⟩:=hq;obtain⟨e1,e2,e3⟩:=gP (v:= -1) h.T ht aO (h2 l aO) 11;exact h.hand ht aO (fun m hm=>h2 m aO) (h2 l aO) (.inl ⟨rfl,by omega,fun _=>h3⟩) ⟨by omega,fun k hk=>(e3 k aO aO).trans (h2 k aO),by rw[e1];omega,by rw[e2,if_neg aO]⟩
theorem C5.name (h:C5 M A R ph) (hp:p.ok M R t):C5 M A R (FC ph t p):=⟨h.T,h.G,h.rg,fun u hu=>by
 unfold FC;by_cases e:u=t
 ·subst e;rw[if_pos rfl];exact hp
 ·rw[if_neg e];exact h.P u hu,h.J⟩
end
def HP.at_ (S:Nat→Nat→Int) (t:Nat):HP→Prop
 | .rest=>S t 0=0
 | .in_ c=>S t 0=1∧S t 3=(c:Nat)
 | .hold=>S t 0=10
 | .pass c=>S t 0=11∧S t 3=(c:Nat)
 | .out c=>S t 0=12∧S t 3=(c:Nat)
 | .mid _=>False
 | .down _=>False
def JP (M:BN) (X:Be):Prop:=∃ph,C5 M X.A X.R ph∧∀t,t<M.n→(ph t).at_ X.S t
def JQ (M:BN) (X X':Be) (ph:Nat→HP) (t:Nat):Prop:=∃p,C5 M X'.A X'.R (FC ph t p)∧p.at_ X'.S t∧∀k,k≠t→∀τ,X'.S k τ=X.S k τ
section
variable{M:BN} {X X':Be} {ph:Nat→HP} {t j l c:Nat} {p:HP} {v:Int} {S S':Nat→Nat→Int}
theorem HP.at_ot (hS:∀τ,S' t τ=S t τ) (h:p.at_ S t):p.at_ S' t:=by
 cases p<;>simp only[HP.at_,hS] at h⊢<;>exact h
theorem JQ.all (h:JQ M X X' ph t) (ha:∀k,k<M.n→(ph k).at_ X.S k):JP M X':=by
 obtain⟨p,h1,h2,h3⟩:=h;refine⟨_,h1,fun k hk=>?_⟩;unfold FC;by_cases e:k=t
 ·subst e;rw[if_pos rfl];exact h2
 ·rw[if_neg e];exact HP.at_ot (h3 k e) (ha k hk)
theorem GM:∀f l,l+f=M.d t→0<f→Bl M X t f l<M.d t∧(Bl M X t f l+1=M.d t∨As M X t (Bl M X t f l) 1≤M.bud)
 | 0,_,_,h=>by omega
 |f+1,l,h,_=>by
  unfold Bl;by_cases e:l+1=M.d t∨As M X t l 1≤M.bud
  ·rw[if_pos e];exact⟨by omega,e⟩
  ·rw[if_neg e];exact GM f (l+1) aO aO
theorem C5.beg (h:C5 M X.A X.R ph) (ht:t<M.n) (hp:ph t= .hold) {l0:Nat} (hl:l0<M.d t):JQ M X (C6 M X t l0) ph t:=by
 obtain⟨h1,h2⟩:=GM (M:=M) (X:=X) (t:=t) (M.d t - l0) l0 aO aO;unfold C6 DS C2;generalize Bl M X t (M.d t - l0) l0=l at*;have hq:=h.P t ht;rw[hp] at hq;by_cases e:l+1=M.d t
 ·rw[if_pos e];exact⟨.out l,h.toOut ht hp e,⟨ba _ _ _ _,(cN _ _ _ _ aO).trans (ba _ _ _ _)⟩,fun k hk τ=>(a6 _ _ _ _ hk).trans (a6 _ _ _ _ hk)⟩
 ·rw[if_neg e];obtain⟨Q,o,hri⟩:=h.rg _ (h.T.ok.pl t l ht h1);have hva:1≤As M X t l 1:=(hri.va _ (h.T.ok.sl t l ht h1)).1 (.inl (hq l h1));have hb:=h.T.ok.bud;have hle:=h2.resolve_left e;exact⟨.pass l,h.toPass ht hp aO (by rw[cW aO];omega),⟨ba _ _ _ _,(cN _ _ _ _ aO).trans (ba _ _ _ _)⟩,fun k hk τ=>(a6 _ _ _ _ hk).trans (a6 _ _ _ _ hk)⟩
theorem C5.dn (h:C5 M X.A X.R ph) (ht:t<M.n) (hp:ph t= .down c):JQ M X (Gp M X t c) ph t:=by
 have hq:=h.P t ht;rw[hp] at hq;unfold Gp;cases c with
 |zero=>
  rw[if_pos rfl];exact⟨.rest,h.name hq.2.2,ba _ _ _ _,fun k hk τ=>a6 _ _ _ _ hk⟩
 |succ c=>
  rw[if_neg aO];exact⟨.out c,h.toDown ht hp,⟨ba _ _ _ _,(cN _ _ _ _ aO).trans (ba _ _ _ _)⟩,fun k hk τ=>(a6 _ _ _ _ hk).trans (a6 _ _ _ _ hk)⟩
theorem m9 (q:HP):FC (FC ph t q) t p=FC ph t p:=by funext u;unfold FC;split<;>rfl
theorem Im:FC ph t p t=p:=by unfold FC;rw[if_pos rfl]
theorem JQ.on {X1:Be} {q:HP} (h:JQ M X1 X' (FC ph t q) t) (hS:X1.S=X.S):JQ M X X' ph t:=by
 obtain⟨p,h1,h2,h3⟩:=h;rw[m9] at h1;exact⟨p,h1,h2,fun k hk τ=>by rw[h3 k hk τ,hS]⟩
theorem lm (h0:cg M X.R t c≠0) (h1:cg M X.R t c≠10):AD M X t c={X with A:=(B7 M X.A X.R t c).1.A,R:=Ba M X.A X.R t c}∧BL M X t c=((B7 M X.A X.R t c).2==0||(B7 M X.A X.R t c).2==10):=by
 have hm:Bn (X.rg (M.pl t c)) (M.sl t c)=true:=by
  unfold Bn;simp only[Bool.and_eq_true,Bool.not_eq_true',beq_eq_false_iff_ne];exact⟨h0,h1⟩
 unfold AD BL Fe D7;rw[hm];exact⟨rfl,rfl⟩
theorem JP.ask (h:JP M X) (hj:j<M.n) (h0:X.S j 0=0):JP M {X with R:=CJ M X.R j 0,S:=IU X.S j}:=by
 obtain⟨ph,hI,ha⟩:=h;have hp:ph j= .rest:=by
  have:=ha j hj;cases e:ph j<;>rw[e] at this<;>simp only[HP.at_] at this<;>omega
 have hq:=hI.P j hj;rw[hp] at hq;refine JQ.all (X:=X) (ph:=ph) (t:=j) ⟨.in_ 0,hI.ask hj (hI.T.ok.d1 j hj).1 (fun m hm=>by omega) hq,⟨?_,ba _ _ _ _⟩,fun k hk τ=>?_⟩ ha
 ·show IU X.S j j 0=1;unfold IU;rw[cN _ _ _ _ aO,cN _ _ _ _ aO,cN _ _ _ _ aO,ba]
 ·show IU X.S j k τ=X.S k τ;unfold IU;rw[a6 _ _ _ _ hk,a6 _ _ _ _ hk,a6 _ _ _ _ hk,a6 _ _ _ _ hk]
theorem JP.leave (h:JP M X) (hj:j<M.n):JP M (E7 M X j):=by
 unfold E7;by_cases h0:X.S j 0=10
 ·rw[if_pos h0];obtain⟨ph,hI,ha⟩:=h;have hp:ph j= .hold:=by
   have:=ha j hj;cases e:ph j<;>rw[e] at this<;>simp only[HP.at_] at this<;>omega
  exact(hI.beg hj hp (hI.T.ok.d1 j hj).1).all ha
 ·rw[if_neg h0];exact h
end
section
variable{M:BN} {X:Be} {ph:Nat→HP} {j c:Nat}
theorem xJ {A:AR} {R:Nat→Nat→Nat→Int} {t:Nat}:Ba M A R t c (M.pl t c) (M.sl t c) 2=(B7 M A R t c).1.S (M.sl t c) 2∧Ba M A R t c (M.pl t c) (M.sl t c) 0=(B7 M A R t c).2:=by
 unfold Ba C1;rw[if_pos rfl,cN _ _ _ _ aO,ba];exact⟨rfl,rfl⟩
theorem i8:As M {X with A:=(B7 M X.A X.R j c).1.A,R:=Ba M X.A X.R j c} j c 2=(B7 M X.A X.R j c).1.S (M.sl j c) 2∧As M {X with A:=(B7 M X.A X.R j c).1.A,R:=Ba M X.A X.R j c} j c 0=(B7 M X.A X.R j c).2:=xJ
theorem DM (h:X.S j 3=(c:Nat)):Cl X j=c:=by unfold Cl;rw[h];rfl
theorem bF {x:Int} (h:x≠0) (h':x≠10):(x==0||x==10)=false:=by simp[h,h']
theorem JP.step (h:JP M X) (hj:j<M.n) (ho:X.A.ops<1000000000):JP M (CU M X j (Cl X j))∧wG M X j:=by
 obtain⟨ph,hI,ha⟩:=h;have hq:=hI.P j hj;have hs:=ha j hj;cases e:ph j with
 |rest=>
  rw[e] at hs;have hs:X.S j 0=0:=hs;unfold CU;rw[if_pos (.inl hs)];exact⟨⟨ph,hI,ha⟩,fun q=>absurd (.inl hs) q⟩
 |hold=>
  rw[e] at hs;have hs:X.S j 0=10:=hs;unfold CU;rw[if_pos (.inr hs)];exact⟨⟨ph,hI,ha⟩,fun q=>absurd (.inr hs) q⟩
 |mid c=>rw[e] at hs;exact hs.elim
 |down c=>rw[e] at hs;exact hs.elim
 |in_ c=>
  rw[e] at hs hq;obtain⟨s0,s3⟩:=hs;obtain⟨hc,h2,h3⟩:=hq;obtain⟨eX,eR⟩:=lm (M:=M) (X:=X) (t:=j) (c:=c) aO aO;rw[DM s3];refine⟨?_,fun _=>⟨by omega,by rw[DM s3];exact hc,by rw[DM s3];exact .inl ⟨by show 0≤cg M X.R j c;omega,by show cg M X.R j c≤6;omega⟩,fun _ q=>absurd s0 q⟩⟩;unfold CU;rw[if_neg aO,eR,eX];rcases hI.inn hj e ho with⟨q1,q2,hI'⟩|⟨q,⟨q2,hI'⟩|⟨q2,q3,hI'⟩⟩
  ·rw[bF aO aO,if_pos rfl];exact JQ.all (X:=X) ⟨.in_ c,hI',⟨s0,s3⟩,fun _ _ _=>rfl⟩ ha
  ·rw[q,if_neg aS];unfold E6 Gm;rw[if_pos s0,if_pos (by rw[i8.1];exact q2)];exact JQ.all (X:=X) ⟨.hold,hI',ba _ _ _ _,fun k hk τ=>a6 _ _ _ _ hk⟩ ha
  ·rw[q,if_neg aS];unfold E6 Gm;rw[if_pos s0,if_neg (by rw[i8.1];omega)];have hq':=hI'.P j hj;rw[Im] at hq';have:=hI'.ask hj q3 hq'.2.1 hq'.2.2;rw[m9] at this;exact JQ.all (X:=X) ⟨.in_ (c+1),this,⟨(cN _ _ _ _ aO).trans s0,(ba _ _ _ _).trans aO⟩,fun k hk τ=>a6 _ _ _ _ hk⟩ ha
 |pass c=>
  rw[e] at hs hq;obtain⟨s0,s3⟩:=hs;obtain⟨hc,h2,h3⟩:=hq;obtain⟨eX,eR⟩:=lm (M:=M) (X:=X) (t:=j) (c:=c) aO aO;rw[DM s3];refine⟨?_,fun _=>⟨by omega,by rw[DM s3];omega,by rw[DM s3];exact .inr ⟨by show 10≤cg M X.R j c;omega,by show cg M X.R j c≤16;omega⟩,fun _ _ _=>by rw[DM s3];exact hc⟩⟩;unfold CU;rw[if_neg aO,eR,eX];rcases(hI.passes hj e ho).2 with⟨q,hI'⟩|⟨q,hI'⟩|⟨q,hI'⟩
  ·rw[bF aO aO,if_pos rfl];exact JQ.all (X:=X) ⟨.pass c,hI',⟨s0,s3⟩,fun _ _ _=>rfl⟩ ha
  ·rw[q,if_neg aS];unfold E6;rw[if_neg aO,if_neg (by rw[i8.2,q];omega)];exact JQ.all ((C5.beg (X:={X with A:=(B7 M X.A X.R j c).1.A,R:=Ba M X.A X.R j c}) hI' hj Im hc).on rfl) ha
  ·rw[q,if_neg aS];unfold E6;rw[if_neg aO,if_pos (by rw[i8.2,q])];exact JQ.all ((C5.dn (X:={X with A:=(B7 M X.A X.R j c).1.A,R:=Ba M X.A X.R j c}) hI' hj Im).on rfl) ha
 |out c=>
  rw[e] at hs hq;obtain⟨s0,s3⟩:=hs;obtain⟨hc,h2,h3,h4⟩:=hq;obtain⟨eX,eR⟩:=lm (M:=M) (X:=X) (t:=j) (c:=c) aO aO;rw[DM s3];have ho':=(hI.outs hj e ho).2;refine⟨?_,fun _=>⟨by omega,by rw[DM s3];exact hc,by rw[DM s3];exact .inr ⟨by show 10≤cg M X.R j c;omega,by show cg M X.R j c≤16;omega⟩,fun r _ q=>?_⟩⟩
  ·unfold CU;rw[if_neg aO,eR,eX];rcases ho' with⟨q1,q2,hI'⟩|⟨q,hI'⟩
   ·rw[bF aO aO,if_pos rfl];exact JQ.all (X:=X) ⟨.out c,hI',⟨s0,s3⟩,fun _ _ _=>rfl⟩ ha
   ·rw[q,if_neg aS];unfold E6;rw[if_neg aO,if_pos (by rw[i8.2,q])];exact JQ.all ((C5.dn (X:={X with A:=(B7 M X.A X.R j c).1.A,R:=Ba M X.A X.R j c}) hI' hj Im).on rfl) ha
  ·exfalso;rw[DM s3] at r q;rw[eX] at q;rw[eR] at r;have q:(B7 M X.A X.R j c).2≠0:=fun x=>q (xJ.2.trans x);rcases ho' with⟨q1,q2, -⟩|⟨q1, -⟩
   ·rw[bF aO aO] at r;simp at r
   ·exact q q1
theorem JP.zero {A:AR} (T:JS M) (G:yq M A) (h0:∀v,v<M.nv→∀i:Int,(M.tl v:Int)≤i→i<(M.tl v:Int)+((1+2*M.sz v:Nat):Int)→A.get i=0):JP M ⟨A,fun _ _ _=>0,fun _ _=>0⟩:=
 ⟨fun _=>.rest,⟨T,G,fun v hv=>⟨[],none,RI.zero (h0 v hv)⟩,fun _ _=>rfl,fun t l ht hl=>⟨fun _ _=>rfl,fun hH k _ _=>by
  rcases hH with⟨i,_,q⟩|⟨i,_,q,_⟩
  ·exact absurd q aS
  ·exact absurd q aS⟩⟩,fun _ _=>rfl⟩
end
def CQ (P T:List Int) (v:Nat):Nat:=if(cJ P (v:Int) P.length).length=0 then max 1 (T.count (v:Int)) else(cJ P (v:Int) P.length).length
def BF (P T:List Int):Nat→Nat
 | 0=>0
 |v+1=>BF P T v+(2*CQ P T v+1)
def AJ (P T:List Int) (t:Nat):List Int:=dh P 40 (T[t]?.getD 0)
def BP (P T:List Int) (t l:Nat):Nat:=((AJ P T t)[l]?.getD 0).toNat
def Cq (P T:List Int) (t l:Nat):Nat:=if l=0 then(T.take t).count (T[t]?.getD 0) else(cJ P ((AJ P T t)[l]?.getD 0) P.length).idxOf ((AJ P T t)[l - 1]?.getD 0)
def xK (P T:List Int) (A:AR) (bud:Int):BN:=⟨T.length,bud,P.length,fun t=>(AJ P T t).length,BP P T,Cq P T,CQ P T,fun v=>A.taken+1+BF P T v⟩
def dp (P T:List Int) (A:AR) (v:Nat):AR:={A with taken:=A.taken+BF P T v}
section
variable{P T:List Int}
theorem Fk (hT:gK P) {y:Int} (h0:0≤y) (h1:y<P.length): -1≤P[y.toNat]?.getD 0∧P[y.toNat]?.getD 0<y:=by
 obtain⟨n,rfl⟩:=Int.eq_ofNat_of_zero_le h0;rw[Int.toNat_natCast];obtain⟨t0,t1⟩:=hT;by_cases e:n=0
 ·subst e;rw[t0];omega
 ·have:=t1 n aO aO;omega
theorem IC (hT:gK P):∀(f g:Nat) (y:Int),y<f→y<g→y<P.length→dh P f y=dh P g y
 | 0,g,y,h1,_,_=>by
  cases g with
  |zero=>rfl
  |succ g=>show[]=if y<0 then[] else _;rw[if_pos aO]
 |f+1,0,y,_,h2,_=>by show(if y<0 then[] else _)=[];rw[if_pos aO]
 |f+1,g+1,y,h1,h2,h3=>by
  show(if y<0 then[] else _)=if y<0 then[] else _
  by_cases e:y<0
  ·rw[if_pos e,if_pos e]
  ·rw[if_neg e,if_neg e];have:=Fk hT (by omega:0≤y) h3;rw[IC hT f g _ aO aO aO]
theorem CA (hT:gK P) (hs:P.length≤32) {y:Int} (h0:0≤y) (h1:y<P.length):dh P 40 y=y::dh P 40 (P[y.toNat]?.getD 0):=by
 have:=Fk hT h0 h1;rw[IC hT 40 39 (P[y.toNat]?.getD 0) aO aO aO];show(if y<0 then[] else _)=_;rw[if_neg aO]
theorem GU {y:Int} (h0:y<0):dh P 40 y=[]:=by
 show(if y<0 then[] else _)=_;rw[if_pos h0]
theorem JF (P:List Int):∀(f:Nat) (y:Int),(dh P f y).length≤f
 | 0,_=>Nat.le_refl _
 |f+1,y=>by
  show(if y<0 then[] else _).length≤_
  split
  ·exact Nat.zero_le _
  ·have:=JF P f (P[y.toNat]?.getD 0);rw[List.length_cons];omega
theorem JJ (hT:gK P) (hs:P.length≤32):∀(l:Nat) (y:Int),y<P.length→l<(dh P 40 y).length→(dh P 40 y).drop l=dh P 40 ((dh P 40 y)[l]?.getD 0)∧0≤(dh P 40 y)[l]?.getD 0∧(dh P 40 y)[l]?.getD 0<P.length:=by
 intro l;induction l with
 |zero=>
  intro y h1 hl;by_cases e:y<0
  ·rw[GU e] at hl;simp at hl
  ·have hc:=CA hT hs (by omega:0≤y) h1;have e0:(dh P 40 y)[0]?.getD 0=y:=by rw[hc];rfl
   rw[e0];exact⟨rfl,by omega,h1⟩
 |succ l ih=>
  intro y h1 hl;by_cases e:y<0
  ·rw[GU e] at hl;simp at hl
  ·have hc:=CA hT hs (by omega:0≤y) h1;have hu:=Fk hT (by omega:0≤y) h1;rw[hc] at hl⊢;rw[List.length_cons] at hl;have e1:(y::dh P 40 (P[y.toNat]?.getD 0))[l+1]? =(dh P 40 (P[y.toNat]?.getD 0))[l]? :=List.getElem?_cons_succ;rw[e1,List.drop_succ_cons];exact ih _ aO aO
theorem mB (hT:gK P) (hs:P.length≤32) {l:Nat} {y:Int} (h1:y<P.length) (hl:l+1<(dh P 40 y).length):P[((dh P 40 y)[l]?.getD 0).toNat]?.getD 0=(dh P 40 y)[l+1]?.getD 0:=by
 obtain⟨d1,d2,d3⟩:=JJ hT hs l y h1 aO;have hc:=CA hT hs d2 d3;rw[hc] at d1;have e2:(dh P 40 y)[l+1]? =((dh P 40 y).drop l)[1]? :=by rw[List.getElem?_drop]
 rw[e2,d1];rw[List.getElem?_cons_succ];have hlen:=congrArg List.length d1;rw[List.length_drop,List.length_cons] at hlen;by_cases e:P[((dh P 40 y)[l]?.getD 0).toNat]?.getD 0<0
 ·rw[GU e,List.length_nil] at hlen;omega
 ·rw[CA hT hs (y:=P[((dh P 40 y)[l]?.getD 0).toNat]?.getD 0) aO (by have:=Fk hT d2 d3;omega)];rfl
theorem E8 {q x:Int} {k:Nat}:x∈cJ P q k↔∃i:Nat,i<k∧P[i]?.getD 0=q∧x=i:=by
 unfold cJ;rw[List.mem_map];constructor
 ·rintro⟨i,hi,rfl⟩;rw[List.mem_filter,List.mem_range] at hi;exact⟨i,hi.1,by simpa using hi.2,rfl⟩
 ·rintro⟨i,hi,hq,rfl⟩;exact⟨i,by rw[List.mem_filter,List.mem_range];exact⟨hi,by simpa using hq⟩,rfl⟩
theorem oF {E:List Int} {x y:Int} (hx:x∈E) (hy:y∈E) (h:E.idxOf x=E.idxOf y):x=y:=by
 have h1:=List.getElem_idxOf (List.idxOf_lt_length_iff.2 hx);have h2:=List.getElem_idxOf (List.idxOf_lt_length_iff.2 hy);rw[←h1,←h2];congr 1
theorem Bk {x:Int}:∀{T:List Int} {a b:Nat},a<b→a<T.length→T[a]?.getD 0=x→(T.take a).count x<(T.take b).count x
 | [],a,b,_,h,_=>by simp at h
 |y::T,0,b+1,_,_,h=>by
  have:y=x:=by simpa using h
  subst this;simp
 |y::T,a+1,b+1,h1,h2,h3=>by
  have:=Bk (T:=T) (a:=a) (b:=b) (x:=x) aO (by simpa using h2) (by simpa using h3);rw[List.take_succ_cons,List.take_succ_cons,List.count_cons,List.count_cons];omega
variable{A:AR} {bud:Int}
theorem cC (h:du P T) {t:Nat} (ht:t<T.length):0≤T[t]?.getD 0∧T[t]?.getD 0<P.length∧T[t]?.getD 0∉P:=by
 have:=h.ends (T[t]?.getD 0) (by rw[List.getElem?_eq_getElem ht];exact List.getElem_mem ht);unfold df at this;simp at this;exact⟨this.1.1,this.1.2,this.2⟩
theorem DK (h:du P T) {t l:Nat} (ht:t<T.length) (hl:l<(AJ P T t).length):(AJ P T t)[l]?.getD 0=(BP P T t l:Int)∧BP P T t l<P.length∧(AJ P T t).drop l=dh P 40 (BP P T t l):=by
 obtain⟨d1,d2,d3⟩:=JJ h.tree h.size.2.1 l _ (cC h ht).2.1 hl;have e:(AJ P T t)[l]?.getD 0=(BP P T t l:Int):=by
  show _=(((AJ P T t)[l]?.getD 0).toNat:Int)
  unfold AJ;omega
 refine⟨e,?_,?_⟩
 ·have:(AJ P T t)[l]?.getD 0<P.length:=d3;omega
 ·rw[←e];exact d1
theorem qC (h:du P T) {t l:Nat} (ht:t<T.length) (hl:l+1<(AJ P T t).length):P[BP P T t l]?.getD 0=(BP P T t (l+1):Int):=by
 have:=mB h.tree h.size.2.1 (cC h ht).2.1 hl;rw[←(DK h ht hl).1];exact this
theorem Jy (h:du P T) {t:Nat} (ht:t<T.length):1≤(AJ P T t).length∧(AJ P T t).length≤40:=by
 obtain⟨h1,h2,h3⟩:=cC h ht;refine⟨?_,JF _ _ _⟩;unfold AJ;rw[CA h.tree h.size.2.1 h1 h2];simp
theorem FZ (h:du P T) {t:Nat} (ht:t<T.length):BP P T t 0=(T[t]?.getD 0).toNat∧(BP P T t 0:Int)=T[t]?.getD 0:=by
 obtain⟨h1,h2,h3⟩:=cC h ht;have e:BP P T t 0=(T[t]?.getD 0).toNat:=by
  unfold BP AJ;rw[CA h.tree h.size.2.1 h1 h2];rfl
 exact⟨e,by omega⟩
theorem IW (h:du P T) {t l:Nat} (ht:t<T.length) (hl:l+1<(AJ P T t).length):((AJ P T t)[l]?.getD 0)∈cJ P ((AJ P T t)[l+1]?.getD 0) P.length:=by
 obtain⟨e,e1,_⟩:=DK h ht (by omega:l<_);rw[e,(DK h ht hl).1];exact E8.2 ⟨_,e1,qC h ht hl,rfl⟩
theorem eL (h:du P T) {t:Nat} (ht:t<T.length):(cJ P (T[t]?.getD 0) P.length).length=0:=by
 rw[List.length_eq_zero_iff,List.eq_nil_iff_forall_not_mem];intro x hx;obtain⟨i,hi,hp,_⟩:=E8.1 hx;refine(cC h ht).2.2 ?_;rw[←hp,List.getElem?_eq_getElem hi];exact List.getElem_mem hi
theorem bM (h:du P T) (v:Nat):1≤CQ P T v∧CQ P T v≤32:=by
 obtain⟨s1,s2,s3,s4⟩:=h.size;have:=List.count_le_length (a:=(v:Int)) (l:=T);have:=j4 P (v:Int) P.length;unfold CQ
 split<;>omega
theorem ip (h:du P T) (v:Nat):BF P T v≤65*v:=by
 induction v with
 |zero=>exact Nat.le_refl _
 |succ v ih=>
  show BF P T v+_≤_;have:=bM h v;omega
theorem Et (P T:List Int) {u v:Nat} (h:u<v):BF P T u+(2*CQ P T u+1)≤BF P T v:=by
 induction v with
 |zero=>omega
 |succ v ih=>
  show _≤BF P T v+_;by_cases e:u=v
  ·subst e;omega
  ·have:=ih aO;omega
theorem xL (h:du P T) (hb:0≤bud∧bud≤1000):JS (xK P T A bud) where
 up:=fun t u l l' ht hu hl hl' e=>by
  have ht:t<T.length:=ht;have hu:u<T.length:=hu;have hl:l<(AJ P T t).length:=hl;have hl':l'<(AJ P T u).length:=hl';have e:BP P T t l=BP P T u l':=e;have d:(AJ P T t).drop l=(AJ P T u).drop l':=by rw[(DK h ht hl).2.2,(DK h hu hl').2.2,e]
  have dl:=congrArg List.length d;rw[List.length_drop,List.length_drop] at dl;have dk:∀k,(AJ P T t)[l+k]? =(AJ P T u)[l'+k]? :=fun k=>by rw[←List.getElem?_drop,d,List.getElem?_drop]
  refine⟨by show(AJ P T t).length+l'=(AJ P T u).length+l;omega,fun k h0 hk=>⟨?_,?_⟩⟩
  ·show((AJ P T t)[l+k]?.getD 0).toNat=((AJ P T u)[l'+k]?.getD 0).toNat;rw[dk]
  ·show Cq P T t (l+k)=Cq P T u (l'+k);unfold Cq;rw[if_neg aO,if_neg aO,dk];have:=dk (k - 1);rw[show l+k - 1=l+(k - 1) by omega,show l'+k - 1=l'+(k - 1) by omega,this]
 dn:=fun t u l l' ht hu hl hl' e es=>by
  have ht:t<T.length:=ht;have hu:u<T.length:=hu;have hl:l<(AJ P T t).length:=hl;have hl':l'<(AJ P T u).length:=hl';have e:BP P T t l=BP P T u l':=e;have es:Cq P T t l=Cq P T u l':=es;have no:∀{t u l':Nat},t<T.length→u<T.length→l'+1<(AJ P T u).length→BP P T t 0≠BP P T u (l'+1):=fun{t u l'} ht hu hl' e=>by
   have a1:=qC h hu hl';have a2:=(DK h hu (by omega:l'<_)).2.1;rw[←e,(FZ h ht).2] at a1;refine(cC h ht).2.2 ?_;rw[←a1,List.getElem?_eq_getElem a2];exact List.getElem_mem a2
  cases l with
  |zero=>
   cases l' with
   |zero=>
    refine .inl ⟨rfl,rfl,?_⟩;have ex:T[t]?.getD 0=T[u]?.getD 0:=by rw[←(FZ h ht).2,←(FZ h hu).2,e]
    unfold Cq at es;rw[if_pos rfl,if_pos rfl,←ex] at es;rcases Nat.lt_trichotomy t u with q|q|q
    ·have:=Bk q ht rfl;omega
    ·exact q
    ·have:=Bk q hu ex.symm;omega
   |succ l'=>exact absurd e (no ht hu hl')
  |succ l=>
   cases l' with
   |zero=>exact absurd e.symm (no hu ht hl)
   |succ l'=>
    refine .inr ⟨by omega,by omega,?_⟩;unfold Cq at es;rw[if_neg aO,if_neg aO] at es;simp only[Nat.add_sub_cancel] at es⊢;have k1:=IW h ht hl;have k2:=IW h hu hl';have e2:(AJ P T t)[l+1]?.getD 0=(AJ P T u)[l'+1]?.getD 0:=by rw[(DK h ht hl).1,(DK h hu hl').1,e]
    rw[e2] at k1 es;have:=oF k1 k2 es;show((AJ P T t)[l]?.getD 0).toNat=((AJ P T u)[l']?.getD 0).toNat;rw[this]
 ok:={
  n32:=h.size.2.2.2
  d1:=fun t ht=>Jy h ht
  pl:=fun t l ht hl=>(DK h ht hl).2.1
  sl:=fun t l ht hl=>by
   have ht:t<T.length:=ht;have hl:l<(AJ P T t).length:=hl;show Cq P T t l<CQ P T (BP P T t l);cases l with
   |zero=>
    have e1:=(FZ h ht).2;have h0:=eL h ht;unfold Cq CQ;rw[e1,if_pos rfl,if_pos h0];have:=Bk (T:=T) (a:=t) (b:=T.length) ht ht rfl;rw[List.take_length] at this;omega
   |succ l=>
    have k1:=IW h ht hl;have e1:=(DK h ht hl).1;unfold Cq CQ;rw[if_neg aO,←e1];simp only[Nat.add_sub_cancel];have:=List.idxOf_lt_length_iff.2 k1;rw[if_neg aO];exact this
  bud:=hb}
 sz:=fun v hv=>(bM h v).2
theorem zF (h:du P T) (hF:A.Fit) (hr:A.taken+2080≤A.ws.length):yq (xK P T A bud) (dp P T A P.length) where
 fit:=⟨by show A.taken+BF P T P.length≤A.ws.length;have:=ip h P.length;have:=h.size.2.1;omega,hF.2⟩
 lo:=fun v hv=>by
  have hv:v<P.length:=hv;have:=Et P T hv;show 1≤A.taken+1+BF P T v∧A.taken+1+BF P T v+(1+2*CQ P T v)≤A.taken+BF P T P.length+1;omega
 ap:=fun u v hu hv hne=>by
  show A.taken+1+BF P T u+(1+2*CQ P T u)≤A.taken+1+BF P T v∨A.taken+1+BF P T v+(1+2*CQ P T v)≤A.taken+1+BF P T u;rcases Nat.lt_or_ge u v with q|q
  ·have:=Et P T q;omega
  ·have:=Et P T (show v<u by omega);omega
end
def Bz (w:World) (Z:List Nat) (L:List TypeId):Prop:=∀z∈Z,∃vs U,am w z vs U∧U∈L
theorem Bz.not {w:World} {Z:List Nat} {L:List TypeId} (h:Bz w Z L) {b:Nat} {vs:List Value} {T:TypeId} (hb:am w b vs T) (ht:T∉L):b∉Z:=fun hm=>by
 obtain⟨us,U,hu,hl⟩:=h b hm;exact absurd rfl (hb.differ hu (fun e=>ht (e ▸ hl)))
theorem Bz.nil (w:World) (L:List TypeId):Bz w [] L:=fun z hz=>by simp at hz
theorem Bz.one {w:World} {b:Nat} {vs:List Value} {T:TypeId} (h:am w b vs T):Bz w [b] [T]:=fun z hz=>by
 obtain rfl:z=b:=by simpa using hz
 exact⟨vs,T,h,by simp⟩
theorem kP {w:World} {b s k:Nat} {T:TypeId} {v:Value} {xs:List Value} (h:w.ownsRow b T s v k xs) {g:Nat} (hg:v.ownBlock=some g):∃vs,am w g vs T:=by
 rcases h.2 with⟨rfl,_⟩|⟨g',cap,cur,rfl,_,hh,_⟩
 ·simp[Value.ownBlock] at hg
 ·have:g'=g:=Option.some.inj hg;subst this;exact⟨cur.toList,by unfold am;simpa using hh⟩
theorem Bz.own {w:World} {b s k:Nat} {T:TypeId} {v:Value} {xs:List Value} (h:w.ownsRow b T s v k xs):Bz w v.ownBlock.toList [T]:=fun z hz=>by
 obtain⟨vs,hv⟩:=kP h (g:=z) (by simpa using hz);exact⟨vs,T,hv,by simp⟩
theorem D4 {w w':World} {b s k:Nat} {T:TypeId} {v:Value} {xs:List Value} (h:w.ownsRow b T s v k xs) {Z:List Nat} {L:List TypeId} (hf:ae Z w w') (hz:Bz w Z L) (ht:T∉L):w'.ownsRow b T s v k xs:=
 bk h hf fun g hg=>by
  obtain⟨vs,hv⟩:=kP h hg;exact hz.not hv ht
theorem IR.typ {w w':World} {g:Nat} {v:Value} {zs:List Int} (h:IR w g v zs) {Z:List Nat} {L:List TypeId} (hf:ae Z w w') (hz:Bz w Z L) (ht:3∉L):IR w' g v zs:=by
 have h0:=h;obtain⟨_,_,_,hh,_⟩:=h;exact h0.frm hf (hz.not hh ht)
theorem aj.typ {w w':World} {ab wb:Nat} {A:AR} (h:aj w ab wb A) {Z:List Nat} {L:List TypeId} (hf:ae Z w w') (hz:Bz w Z L) (h1:93∉L) (h2:158∉L):aj w' ab wb A:=h.frm hf (hz.not h.box h1) (hz.not h.row h2)
theorem Fb {w:World} {b k:Nat} {T:TypeId} {v:Value} {xs:List Value} (h:w.ownsRow b T 1 v k xs) (hk:1≤k):∃g cap,v= .slice (some ⟨g,0,none⟩) k cap∧∀i u,xs[i]? =some u→w.cell? ⟨g,i,none⟩=some u:=by
 obtain⟨h1,⟨_,h2⟩|⟨g,cap,cur,rfl,hg,hh,hn,hc,hcur,ht⟩⟩:=h
 ·omega
 ·refine⟨g,cap,rfl,fun i u hu=>?_⟩;unfold World.cell?;dsimp only;rw[hh];show cur[i]? =_;have hi:=(List.getElem?_eq_some_iff.1 hu).1;have h3:(cur.toList.take (k*1))[i]? =some u:=by rw[ht,hu]
  rw[List.getElem?_take_of_lt aO] at h3;rw[←Array.getElem?_toList,h3]
def mU (w:World) (tb:Nat) (P T:List Int):Prop:=oW w tb P T∨(gh w tb P T∧vw w tb P T)
section
variable{w w':World} {tb:Nat} {P T:List Int} {Z:List Nat} {L:List TypeId}
theorem gh.typ (h:gh w tb P T) (hf:ae Z w w') (hz:Bz w Z L) (h1:136∉L) (h2:3∉L):gh w' tb P T:=by
 obtain⟨vp,vt,vup,vnode,vslot,vm,gt,gn,gs,gm,a1,a2,a3,a4,a5⟩:=h;exact⟨vp,vt,vup,vnode,vslot,vm,gt,gn,gs,gm,a1.frm hf (hz.not a1 h1),a2.typ hf hz h2,a3.typ hf hz h2,a4.typ hf hz h2,a5.typ hf hz h2⟩
theorem vw.typ (h:vw w tb P T) (hf:ae Z w w') (hz:Bz w Z L) (h1:136∉L) (h2:3∉L) (h3:22∉L):vw w' tb P T:=by
 obtain⟨vp,vt,vup,vnode,vslot,vm,U,a1,a2,a3⟩:=h;exact⟨vp,vt,vup,vnode,vslot,vm,U,a1.frm hf (hz.not a1 h1),D4 a2 hf hz h3,fun i hi=>by
  obtain⟨v,q1,q2⟩:=a3 i hi;exact⟨v,q1,D4 q2 hf hz h2⟩⟩
theorem oW.typ (h:oW w tb P T) (hf:ae Z w w') (hz:Bz w Z L) (h1:136∉L) (h2:3∉L):oW w' tb P T:=by
 obtain⟨vp,vt,gp,gt,a1,a2,a3⟩:=h;exact⟨vp,vt,gp,gt,a1.frm hf (hz.not a1 h1),a2.typ hf hz h2,a3.typ hf hz h2⟩
theorem mU.box (h:mU w tb P T):∃vs,am w tb vs 136:=by
 rcases h with⟨_,_,_,_,h,_⟩|⟨⟨_,_,_,_,_,_,_,_,_,_,h,_⟩,_⟩
 ·exact⟨_,h⟩
 ·exact⟨_,h⟩
theorem ly (h:oW w tb P T) (hs:du P T):Calls prog 87 #[some tb] w fun e w'=>e= .returned (.int .i64 (tE P).length)∧(gh w' tb P T∧vw w' tb P T)∧ae [tb] w w':=by
 have HF:=aH (kG h hs);clear h hs;go_enter func87,ntmps87;go_wp2_with fail;refine HF.o.mono ?_;rintro e w' ⟨rfl,hT,hU,hFr⟩;have HQ:=aH (And.intro (And.intro hT hU) hFr);obtain⟨vp,vt,vup,vnode,vslot,vm,gt,gn,gs,gm,h1, -, -, -,⟨cap,cur,rfl, -⟩⟩:=hT;have c8:=h1.cell (i:=8) rfl;rw[List.length_map] at c8;clear h1 hFr hU;go_wp2;go_ret;exact⟨rfl,HQ.o⟩
theorem lx (h:oW w tb P T) (hs:du P T) {v:Nat} (hv:v<(tE P).length):Calls prog 88 #[some tb,v] w fun e w'=>e= .returned (T.count ((tE P)[v]?.getD 0):Nat)∧(gh w' tb P T∧vw w' tb P T)∧ae [tb] w w':=by
 have HN:=aH (ly h hs);have d1:decide ((v:Int)<0)=false:=by simp
 have d2:decide (((tE P).length:Int)≤(v:Int))=false:=by simp;omega
 have d3:decide ((tE P).length≤v)=false:=by simp;omega
 have HV:=aH hv;obtain⟨y,hy⟩:∃y,y=((T.count ((tE P)[v]?.getD 0):Nat):Int):=⟨_,rfl⟩
 rw[←hy];have HY:=aH hy;have l1:(v:Int)<(tE P).length:=by omega
 clear h hs hv hy;go_enter func88,ntmps88;go_wp2_with fail;refine HN.o.mono ?_;rintro e w' ⟨rfl,⟨hT,hU⟩,hFr⟩;have HQ:=aH (And.intro (And.intro hT hU) hFr);have HF:=aH (dU hT);obtain⟨vp,vt,vup,vnode,vslot,vm,gt,gn,gs,gm,h1, -, -, -,h3⟩:=hT;have ci:=jN h3 (k:=v) (by have:=HV.o;simpa using this);have ei:((tE P).map fun x=>(T.count x:Int))[v]?.getD 0=((T.count ((tE P)[v]?.getD 0):Nat):Int):=by have:=HV.o;simp[this]
 rw[ei,←HY.o] at ci;obtain⟨cap,cur,rfl, -⟩:=h3;have c8:=h1.cell (i:=8) rfl;rw[List.length_map] at c8;clear h1 ei hU hFr;go_wp2_with fail;refine HF.o.mono ?_;rintro e w' ⟨rfl,rfl⟩;go_wp2;go_ret;exact⟨rfl,HQ.o⟩
theorem ls (h:mU w tb P T) (hs:du P T) {v:Nat} (hv:v<(tE P).length):Calls prog 88 #[some tb,v] w fun e w'=>e= .returned (T.count ((tE P)[v]?.getD 0):Nat)∧(gh w' tb P T∧vw w' tb P T)∧ae [tb] w w':=by
 rcases h with h|⟨h,q⟩
 ·exact lx h hs hv
 ·exact(rc h hv).mono (fun e w' r=>⟨r.1,r.2 ▸ ⟨h,q⟩,r.2 ▸ aF⟩)
theorem yL (h:gh w tb P T) (hU:vw w tb P T) {i:Nat} (hi:i<T.length) (hs:du P T):Calls prog 91 #[some tb,i] w fun e w'=>∃u,e= .returned u∧ju w' w.heap.size u (AJ P T i)∧ae [] w w':=by
 have HH:=aH (td h hi);have HF:=aH (dU h);obtain⟨vp,vt,vup,vnode,vslot,vm,U,h1,h2,h3⟩:=hU;obtain⟨g,cap,rfl,hc⟩:=Fb h2 aO;obtain⟨u,q1,q2⟩:=h3 i hi;have cu:=hc i u q1;have hl:=Jy hs hi;have HC:=aH (lL (w:=w) (v:=u) (zs:=AJ P T i) (ju.row (base:=0) q2) hl.1 aO);have c5:=h1.cell (i:=5) rfl;have l1:(i:Int)<T.length:=by omega
 have hnot:= @aX prog;obtain⟨ua,ul,uc,rfl⟩:=b9 q2;clear h h1 h2 h3 hc q1 q2 hs hl;go_enter func91,ntmps91;go_wp2_with fail;refine HH.o.mono ?_;rintro e w' ⟨rfl,rfl⟩;go_wp2_with fail;refine HF.o.mono ?_;rintro e w' ⟨rfl,rfl⟩;go_wp2_with fail;refine HC.o.mono ?_;rintro e w' ⟨x,rfl,hO,hF⟩;have HO:=aH hO;have HF2:=aH hF;clear hO hF;go_wp2;go_ret;exact⟨x,rfl,HO.o,HF2.o⟩
end
def CH (P:List Int) (v:Nat):Nat:=((List.range v).filter fun u:Nat=> !decide ((u:Int)∈P)).length
theorem eB (P:List Int) (v:Nat):CH P (v+1)=if(v:Int)∈P then CH P v else CH P v+1:=by
 unfold CH;rw[List.range_succ,List.filter_append,List.length_append];by_cases h:(v:Int)∈P<;>simp[h]
theorem nh {P:List Int} {v:Nat} (hv:v<P.length) (h:(v:Int)∉P):CH P v<(tE P).length∧(tE P)[CH P v]?.getD 0=(v:Int):=by
 have key:∀(n m:Nat),v<n→n≤m→(((List.range n).filter fun u:Nat=> !decide ((u:Int)∈P)))[CH P v]? =some v:=by
  intro n m hn hm;induction n with
  |zero=>omega
  |succ n ih=>
   rw[List.range_succ,List.filter_append];by_cases e:v=n
   ·subst e;have e2:(List.filter (fun u:Nat=> !decide ((u:Int)∈P)) [v])=[v]:=by simp[h]
    unfold CH;rw[e2,List.getElem?_append_right (Nat.le_refl _),Nat.sub_self];rfl
   ·have:=ih aO aO;rw[List.getElem?_append_left (List.getElem?_eq_some_iff.1 this).1];exact this
 have k:=key P.length P.length hv (Nat.le_refl _);have e:(tE P)[CH P v]? =some (v:Int):=by
  unfold tE cD;rw[List.getElem?_map,k];rfl
 exact⟨(List.getElem?_eq_some_iff.1 e).1,by rw[e];rfl⟩
theorem eJ {P:List Int} {v:Nat}:(cJ P (v:Int) P.length).length=0↔(v:Int)∉P:=by
 constructor
 ·intro h hm;obtain⟨i,hi⟩:=List.getElem?_of_mem hm;have hl:=(List.getElem?_eq_some_iff.1 hi).1;have:((i:Nat):Int)∈cJ P (v:Int) P.length:=E8.2 ⟨i,hl,by rw[hi];rfl,rfl⟩;rw[List.length_eq_zero_iff.1 h] at this;simp at this
 ·intro h;rw[List.length_eq_zero_iff,List.eq_nil_iff_forall_not_mem];intro x hx;obtain⟨i,hi,hp,_⟩:=E8.1 hx;refine h ?_;rw[←hp,List.getElem?_eq_getElem hi];exact List.getElem_mem hi
theorem lT:(prog.info? 209).map (fun i=>(i.zero,i.size,i.bytes))=some (some (.pointer none),1,8):=by kernel_rfl
theorem oH:(prog.info? 212).map (fun i=>(i.zero,i.size,i.bytes))=some (some (.slice none 0 0),1,24):=by kernel_rfl
theorem lj:(prog.info? 215).map (fun i=>(i.zero,i.size,i.bytes))=some (some (.agg #[.pointer none,(0:Int)]),2,16):=by kernel_rfl
def FT (P T:List Int) (rl:Nat→Nat) (i:Nat):Nat→List Value
 | 0=>[]
 |j+1=>FT P T rl i j++[.pointer (some ⟨rl (BP P T i j),0,none⟩),.int .i64 (Cq P T i j)]
theorem iI (P T:List Int) (rl:Nat→Nat) (i j:Nat):(FT P T rl i j).length=j*2:=by
 induction j with
 |zero=>rfl
 |succ j ih=>
  show(FT P T rl i j++_).length=_;rw[List.length_append,ih,List.length_cons,List.length_cons,List.length_nil];omega
theorem iF (P T:List Int) (rl:Nat→Nat) (i:Nat) {j l:Nat} (h:l<j):(FT P T rl i j)[l*2]? =some (.pointer (some ⟨rl (BP P T i l),0,none⟩))∧(FT P T rl i j)[l*2+1]? =some (.int .i64 (Cq P T i l)):=by
 induction j with
 |zero=>omega
 |succ j ih=>
  show(FT P T rl i j++_)[l*2]? =_∧(FT P T rl i j++_)[l*2+1]? =_;have hl:=iI P T rl i j;by_cases e:l=j
  ·subst e;rw[List.getElem?_append_right aO,List.getElem?_append_right aO,hl,Nat.sub_self,Nat.add_sub_cancel_left];exact⟨rfl,rfl⟩
  ·rw[List.getElem?_append_left aO,List.getElem?_append_left aO];exact ih aO
structure Dq (w:World) (P T:List Int) (A:AR) (bud:Int) (lb sb ab wb:Nat) (rl rs:Nat→Nat) (vr vl:Value) (base v m:Nat):Prop where
 box:am w lb [bud,vr,vl,.slice (some ⟨sb,0,none⟩) T.length T.length] 207
 row:am w sb (cq T.length fun _ _=>0) 138
 rgs:w.ownsRow base 209 1 vr v ((List.range v).map fun u=>Value.pointer (some ⟨rl u,0,none⟩))
 rg:∀u,u<m→be w ⟨rl u,rs u,ab,wb⟩ ⟨CQ P T u,A.taken+1+BF P T u⟩ ⟨dp P T A m,fun _ _=>0⟩
 ar:aj w ab wb (dp P T A m)
 dif:(∀u,u<m→sb≠rs u∧base≤rs u)∧∀a b,a<m→b<m→rs a=rs b→a=b
 bs:base≤w.heap.size
structure fJ (w:World) (P T:List Int) (rl lv:Nat→Nat) (vl:Value) (base k:Nat) (L:List Value):Prop where
 vls:w.ownsRow base 212 1 vl k L
 at_:∀i,i<k→∃cap,L[i]? =some (.slice (some ⟨lv i,0,none⟩) (AJ P T i).length cap)
 lev:∀i,i<k→∃cells,am w (lv i) cells 215∧∀l,l<(AJ P T i).length→cells[l*2]? =some (.pointer (some ⟨rl (BP P T i l),0,none⟩))∧cells[l*2+1]? =some (.int .i64 (Cq P T i l))
section
variable{w w' w1:World} {P T:List Int} {A:AR} {bud:Int} {lb sb ab wb:Nat} {rl rs lv:Nat→Nat} {vr vl v':Value} {base v m k:Nat} {L:List Value} {Z:List Nat} {Ts:List TypeId} {o:Obj}
theorem be.typ {B:EC} {M:CP} {X:BQ} (h:be w B M X) (hf:ae Z w w') (hz:Bz w Z Ts) (h1:247∉Ts) (h2:138∉Ts) (h3:93∉Ts) (h4:158∉Ts):be w' B M X:=
 {box:=h.box.frm hf (hz.not h.box h1),row:=h.row.frm hf (hz.not h.row h2),ar:=h.ar.typ hf hz h3 h4,n32:=h.n32,tl:=h.tl}
def HMW:List TypeId:=[207,138,209,247,93,158]
theorem Dq.typ (h:Dq w P T A bud lb sb ab wb rl rs vr vl base v m) (hf:ae Z w w') (hz:Bz w Z Ts) (hn:∀U∈HMW,U∉Ts:=by decide):Dq w' P T A bud lb sb ab wb rl rs vr vl base v m where
 box:=h.box.frm hf (hz.not h.box (hn _ aJ))
 row:=h.row.frm hf (hz.not h.row (hn _ aJ))
 rgs:=D4 h.rgs hf hz (hn _ aJ)
 rg:=fun u hu=>(h.rg u hu).typ hf hz (hn _ aJ) (hn _ aJ) (hn _ aJ) (hn _ aJ)
 ar:=h.ar.typ hf hz (hn _ aJ) (hn _ aJ)
 dif:=h.dif
 bs:=Nat.le_trans h.bs hf.size
theorem Dq.same (h:Dq w P T A bud lb sb ab wb rl rs vr vl base v m) (hf:ae [] w w'):Dq w' P T A bud lb sb ab wb rl rs vr vl base v m:=h.typ (Ts:=[]) hf (Bz.nil _ _)
theorem aj.typs (h:aj w ab wb A):Bz w [ab,wb] [93,158]:=fun z hz=>by
 simp at hz;rcases hz with e|e
 ·subst e;exact⟨_,_,h.box,by simp⟩
 ·subst e;exact⟨_,_,h.row,by simp⟩
theorem Dq.rung (h:Dq w P T A bud lb sb ab wb rl rs vr vl base v v) (hf:ae [ab,wb] w w') {rb sr:Nat} (h1:w.heap.size≤rb) (h2:w.heap.size≤sr) (hr:be w' ⟨rb,sr,ab,wb⟩ ⟨CQ P T v,A.taken+1+BF P T v⟩ ⟨dp P T A (v+1),fun _ _=>0⟩):
 Dq w' P T A bud lb sb ab wb (fun u=>if u=v then rb else rl u) (fun u=>if u=v then sr else rs u) vr vl base v (v+1) where
 box:=h.box.frm hf (h.ar.typs.not h.box aJ)
 row:=h.row.frm hf (h.ar.typs.not h.row aJ)
 rgs:=by
  have:=D4 h.rgs hf h.ar.typs aJ;have e:((List.range v).map fun u=>Value.pointer (some ⟨rl u,0,none⟩))=((List.range v).map fun u=>Value.pointer (some ⟨if u=v then rb else rl u,0,none⟩)):=by
   refine List.map_congr_left fun u hu=>?_;rw[if_neg (by rw[List.mem_range] at hu;omega)]
  rw[e] at this;exact this
 rg:=fun u hu=>by
  by_cases e:u=v
  ·subst e;rw[if_pos rfl,if_pos rfl];exact hr
  ·rw[if_neg e,if_neg e];have q:=h.rg u aO;exact{box:=q.box.frm hf (h.ar.typs.not q.box aJ),row:=q.row.frm hf (h.ar.typs.not q.row aJ),ar:=hr.ar,n32:=q.n32,tl:=q.tl}
 ar:=hr.ar
 dif:=by
  have hs:=h.row.lt;have hb:=h.bs;refine⟨fun u hu=>?_,fun a b ha hb' e=>?_⟩
  ·by_cases e:u=v
   ·rw[if_pos e];omega
   ·rw[if_neg e];exact h.dif.1 u aO
  ·by_cases ea:a=v
   ·by_cases eb:b=v
    ·omega
    ·rw[if_pos ea,if_neg eb] at e;have q:rs b<w.heap.size:=(h.rg b aO).row.lt;omega
   ·by_cases eb:b=v
    ·rw[if_neg ea,if_pos eb] at e;have q:rs a<w.heap.size:=(h.rg a aO).row.lt;omega
    ·rw[if_neg ea,if_neg eb] at e;exact h.dif.2 a b aO aO e
 bs:=Nat.le_trans h.bs hf.size
theorem Dq.box_at (h:Dq w P T A bud lb sb ab wb rl rs vr vl base v m) (hg:(w.alloc o).grownBy w1 vr.ownBlock):am w1 lb [bud,vr,vl,.slice (some ⟨sb,0,none⟩) T.length T.length] 207:=
 h.box.frm (br hg) ((Bz.own h.rgs).not h.box aJ)
theorem Dq.grow (h:Dq w P T A bud lb sb ab wb rl rs vr vl base v (v+1)) (hown:w1.ownsRow base 209 1 v' (v+1) (((List.range v).map fun u=>Value.pointer (some ⟨rl u,0,none⟩))++[.pointer (some ⟨rl v,0,none⟩)])) (hg:(w.alloc o).grownBy w1 vr.ownBlock):
 Dq (w1.setCell (lb,1) v') P T A bud lb sb ab wb rl rs v' vl base (v+1) (v+1):=by
 have hf:=br hg;have hz:=Bz.own h.rgs;have hb:=h.box_at hg;have hst:ae [lb] w1 (w1.setCell (lb,1) v'):=aU;have hz2:=Bz.one hb;have ha:=h.ar.typ hf hz aJ aJ;refine{box:=hb.set 1 v',row:=(h.row.frm hf (hz.not h.row aJ)).frm hst (hz2.not (h.row.frm hf (hz.not h.row aJ)) aJ),rgs:=?_,rg:=fun u hu=>((h.rg u hu).typ hf hz aJ aJ aJ aJ).typ hst hz2 aJ aJ aJ aJ,ar:=ha.typ hst hz2 aJ aJ,dif:=h.dif,bs:=Nat.le_trans h.bs (Nat.le_trans hf.size hst.size)};have:=D4 hown hst hz2 aJ;rw[List.range_succ,List.map_append];exact this
theorem Dq.box_at2 (h:Dq w P T A bud lb sb ab wb rl rs vr vl base v m) (hv:fJ w P T rl lv vl base k L) (hg:(w.alloc o).grownBy w1 vl.ownBlock):am w1 lb [bud,vr,vl,.slice (some ⟨sb,0,none⟩) T.length T.length] 207:=
 h.box.frm (br hg) ((Bz.own hv.vls).not h.box aJ)
theorem Dq.lvl (h:Dq w P T A bud lb sb ab wb rl rs vr vl base v m) (hv:fJ w P T rl lv vl base k L) (hg:(w.alloc o).grownBy w1 vl.ownBlock):Dq (w1.setCell (lb,2) v') P T A bud lb sb ab wb rl rs vr v' base v m:=by
 have h1:=h.typ (br hg) (Bz.own hv.vls);have hst:ae [lb] w1 (w1.setCell (lb,2) v'):=aU;have hz2:=Bz.one h1.box;exact{box:=h1.box.set 2 v',row:=h1.row.frm hst (hz2.not h1.row aJ),rgs:=D4 h1.rgs hst hz2 aJ,rg:=fun u hu=>(h1.rg u hu).typ hst hz2 aJ aJ aJ aJ,ar:=h1.ar.typ hst hz2 aJ aJ,dif:=h.dif,bs:=Nat.le_trans h1.bs hst.size}
def HMV:List TypeId:=[212,215]
theorem fJ.typ (h:fJ w P T rl lv vl base k L) (hf:ae Z w w') (hz:Bz w Z Ts) (hn:∀U∈HMV,U∉Ts:=by decide):fJ w' P T rl lv vl base k L where
 vls:=D4 h.vls hf hz (hn _ aJ)
 at_:=h.at_
 lev:=fun i hi=>by
  obtain⟨cells,q1,q2⟩:=h.lev i hi;exact⟨cells,q1.frm hf (hz.not q1 (hn _ aJ)),q2⟩
theorem fJ.grow (h:fJ w P T rl lv vl base k L) (hW:Dq w P T A bud lb sb ab wb rl rs vr vl base v m) {g cap b2:Nat} {x:Value} (hx:x= .slice (some ⟨g,0,none⟩) (AJ P T k).length cap) (hl:w.ownsRow b2 215 2 x (AJ P T k).length (FT P T rl k (AJ P T k).length)) (hd:1≤(AJ P T k).length)
 (hown:w1.ownsRow base 212 1 v' (k+1) (L++[x])) (hg:(w.alloc o).grownBy w1 vl.ownBlock):fJ (w1.setCell (lb,2) v') P T rl (fun i=>if i=k then g else lv i) v' base (k+1) (L++[x]):=by
 have hf:=br hg;have hz:=Bz.own h.vls;have h1:=hW.typ hf hz;have hst:ae [lb] w1 (w1.setCell (lb,2) v'):=aU;have hz2:=Bz.one h1.box;have hL:L.length=k:=by have:=h.vls.1;omega
 refine{vls:=D4 hown hst hz2 aJ,at_:=fun i hi=>?_,lev:=fun i hi=>?_}
 ·by_cases e:i=k
  ·subst e;rw[if_pos rfl,←hL];refine⟨cap,?_⟩;rw[List.getElem?_append_right (Nat.le_refl _),Nat.sub_self,hL,←hx];rfl
  ·rw[if_neg e];obtain⟨c,hc⟩:=h.at_ i aO;exact⟨c,by rw[List.getElem?_append_left aO];exact hc⟩
 ·by_cases e:i=k
  ·subst e;rw[if_pos rfl];subst hx;obtain⟨q1,⟨q,_⟩|⟨g',c',cur,hv,_,hh,hn,hc,hcur,ht⟩⟩:=hl
   ·simp at q
   ·have e1:g=g':=by injection hv with e1;injection e1 with e1;injection e1
    subst e1;have ha:am w g cur.toList 215:=by unfold am;simpa using hh
    refine⟨cur.toList,(ha.frm hf (hz.not ha aJ)).frm hst (hz2.not (ha.frm hf (hz.not ha aJ)) aJ),fun l hl=>?_⟩;have hg:=iF P T rl i hl;rw[←ht,List.getElem?_take_of_lt aO,List.getElem?_take_of_lt aO] at hg;exact hg
  ·rw[if_neg e];obtain⟨cells,q1,q2⟩:=h.lev i aO;exact⟨cells,(q1.frm hf (hz.not q1 aJ)).frm hst (hz2.not (q1.frm hf (hz.not q1 aJ)) aJ),q2⟩
theorem Dq.done (h:Dq w P T A bud lb sb ab wb rl rs vr vl base P.length P.length) (hv:fJ w P T rl lv vl base T.length L) (hT:du P T) (hb:0≤bud∧bud≤1000):∃vb,AG w ⟨lb,vb,lv,sb,ab,wb,rl,rs⟩ (xK P T A bud) ⟨dp P T A P.length,fun _ _ _=>0,fun _ _=>0⟩:=by
 obtain⟨s1,s2,s3,s4⟩:=hT.size;obtain⟨q1,⟨_,q⟩|⟨g,cap,cur,hvv,_,hh,hn,hc,hcur,ht⟩⟩:=hv.vls
 ·omega
 ·subst hvv;have ha:am w g cur.toList 212:=by unfold am;simpa using hh
  refine⟨g,{box:=⟨vr,cap,h.box⟩,lvs:=⟨cur.toList,ha,fun t htl=>?_⟩,lev:=hv.lev,rg:=h.rg,row:=h.row,ar:=h.ar,dif:=⟨fun v hv=>(h.dif.1 v hv).1,h.dif.2⟩,ok:=(xL hT hb).ok}⟩;have htl:t<T.length:=htl;obtain⟨c,hc⟩:=hv.at_ t htl;rw[←ht,List.getElem?_take_of_lt aO] at hc;exact⟨c,hc⟩
end
theorem nO (M:BN) (X:Be) (j c:Nat) (was:Int):(E6 M X j c was).A=X.A:=by
 unfold E6 Gm Gp C6 DS;repeat (first|rfl|split)
theorem J6 {M:BN} {X:Be} {j c:Nat} (h:JP M X) (hj:j<M.n) (hc:c<M.d j):(AD M X j c).A.ops≤X.A.ops+1:=by
 obtain⟨ph,hI,_⟩:=h;show(D7 (M.rg (M.pl j c)) (X.rg (M.pl j c)) (M.sl j c)).A.ops≤_;unfold D7;cases hm:Bn (X.rg (M.pl j c)) (M.sl j c) with
 |false=>rw[if_neg aS];show X.A.ops≤_;omega
 |true=>
  rw[if_pos rfl];unfold Bn at hm;simp only[Bool.and_eq_true,Bool.not_eq_true',beq_eq_false_iff_ne] at hm;have:=(GO hI hj hc hm.1 hm.2).ops;unfold B7 at this;show(BM (M.rg (M.pl j c)) (X.rg (M.pl j c)) (M.sl j c)).1.A.ops≤_;have e:BM (M.rg (M.pl j c)) (X.rg (M.pl j c)) (M.sl j c)=BM ⟨M.sz (M.pl j c),M.tl (M.pl j c)⟩ ⟨X.A,X.R (M.pl j c)⟩ (M.sl j c):=rfl;rw[e];omega
theorem eG {M:BN} {X:Be} {j:Nat} (h:JP M X) (hj:j<M.n) (ho:X.A.ops<1000000000):(CU M X j (Cl X j)).A.ops≤X.A.ops+1:=by
 have hg:=(h.step hj ho).2;unfold CU;by_cases h0:X.S j 0=0∨X.S j 0=10
 ·rw[if_pos h0];omega
 ·rw[if_neg h0];have:=J6 h hj (hg h0).2.1
  split
  ·exact this
  ·rw[nO];exact this
theorem nl (M:BN) (X:Be) (j:Nat):(E7 M X j).A=X.A:=by
 unfold E7 C6 DS;repeat (first|rfl|split)
structure Io (M:BN) (k:Nat) (X:Be):Prop where
 k1:k≤100000
 l:JP M X
 o:X.A.ops≤(k:Int)
theorem Io.ask {M:BN} {k j:Nat} {s:Be} (h:Io M k s) (hk:k<100000) (hj:j<M.n):Io M (k+1) (if s.S j 0=0 then{s with R:=CJ M s.R j 0,S:=IU s.S j} else s):=by
 by_cases h0:s.S j 0=0
 ·rw[if_pos h0];exact⟨hk,h.l.ask hj h0,by have:=h.o;show s.A.ops≤_;omega⟩
 ·rw[if_neg h0];exact⟨hk,h.l,by have:=h.o;omega⟩
theorem Io.leave {M:BN} {k j:Nat} {s:Be} (h:Io M k s) (hk:k<100000) (hj:j<M.n):Io M (k+1) (E7 M s j):=⟨hk,h.l.leave hj,by rw[nl];have:=h.o;omega⟩
theorem Io.step {M:BN} {k j:Nat} {s:Be} (h:Io M k s) (hk:k<100000) (hj:j<M.n):Io M (k+1) (CU M s j (Cl s j)):=by
 have ho:s.A.ops<1000000000:=by have:=h.o;omega
 exact⟨hk,(h.l.step hj ho).1,by have:=eG h.l hj ho;have:=h.o;omega⟩
def iP (M:BN):LP where
 σ:=Be
 n:=M.n
 shares:=false
 ar:=fun s=>s.A
 I:=Io M
 askR:=fun s i _=>s.S i.toNat 0==0
 askS:=fun s i _=>if s.S i.toNat 0=0 then{s with R:=CJ M s.R i.toNat 0,S:=IU s.S i.toNat} else s
 leaveR:=fun s i=>s.S i.toNat 0==10
 leaveS:=fun s i=>E7 M s i.toNat
 stepR:=fun s i=>ig M s i.toNat (Cl s i.toNat)
 stepS:=fun s i=>CU M s i.toNat (Cl s i.toNat)
 sp:=fun s i t=>s.S i.toNat t
 cnt:=fun s i=>if s.S i.toNat 0=10 then As M s i.toNat 0 1 else 0
theorem zE (M:BN):(iP M).Ok:=
 LP.keep_of (fun k s hk h=>(⟨hk,Io.l (X:=s) h,by have:=Io.o (X:=s) h;omega⟩:Io M (k+1) s)) (fun k s j r hk h hj _=>Io.ask (s:=s) (j:=(j:Int).toNat) h hk hj) (fun k s j hk h hj=>Io.leave (s:=s) (j:=(j:Int).toNat) h hk hj) (fun k s j hk h hj=>Io.step (s:=s) (j:=(j:Int).toNat) h hk hj)
section
variable{w w':World} {B:FR} {M:BN} {X:Be}
def iL (M:BN) (B:FR):iH (iP M) where
 T:=172
 q:=.pointer (some ⟨B.lb,0,none⟩)
 Z:=JT B M
 ab:=B.ab
 wb:=B.wb
 At:=fun w s=>AG w B M s
 nAsk:=233
 rAsk:=.pointer (some ⟨B.lb,0,none⟩)
 nLeave:=235
 rLeave:=.pointer (some ⟨B.lb,0,none⟩)
 nStep:=237
 rStep:=.pointer (some ⟨B.lb,0,none⟩)
 nSpot:=236
 rSpot:=.pointer (some ⟨B.lb,0,none⟩)
 nCount:=234
 rCount:=.pointer (some ⟨B.lb,0,none⟩)
theorem iA {j:Nat} (h:AG w B M X) (hj:j<M.n):Dd B M 233 #[some B.lb,j] w (.bool (X.S j 0==0)) (if X.S j 0=0 then{X with R:=CJ M X.R j 0,S:=IU X.S j} else X):=by
 by_cases h0:X.S j 0=0
 ·rw[if_pos h0,show(X.S j 0==0)=true by simpa using h0];exact sI h hj h0
 ·rw[if_neg h0,show(X.S j 0==0)=false by simpa using h0];exact sH h hj h0
theorem iN (hn:M.n≤32):(iL M B).Ok where
 n32:=hn
 sh:=rfl
 mAsk:=fun F w=>by kernel_rfl
 mLeave:=fun F w=>by kernel_rfl
 mStep:=fun F w=>by kernel_rfl
 mSpot:=fun F w=>by kernel_rfl
 eAsk:=fun args w=>by kernel_rfl
 eLeave:=fun args w=>by kernel_rfl
 eStep:=fun args w=>by kernel_rfl
 eSpot:=fun args w=>by kernel_rfl
 cAsk:=fun w k s i hI ha hi=>by
  obtain⟨j,rfl,hj⟩:=AQ hi;exact iA (X:=s) (j:=(j:Int).toNat) ha hj
 cLeave:=fun w k s i hI ha hi=>by
  obtain⟨j,rfl,hj⟩:=AQ hi;exact ng ha hj
 cStep:=fun w k s i hI ha hi=>by
  obtain⟨j,rfl,hj⟩:=AQ hi;have hI':Io M k s:=hI;exact sY ha hj (hI'.l.step hj (by have:=hI'.o;have:=hI'.k1;omega)).2
 cSpot:=fun w s i ha hi=>by
  obtain⟨j,rfl,hj⟩:=AQ hi;exact GL ha hj
 ar:=fun w s ha=>AG.ar ha
 free:=fun w s ha=>AG.free ha
 stay:=fun w w' s S ha hf hs hz=>AG.stays ha hf hs hz
theorem dw:(iL M B).Cnt where
 mCount:=fun F w=>by kernel_rfl
 eCount:=fun args w=>by kernel_rfl
 cCount:=fun w s i ha hi=>by
  obtain⟨j,rfl,hj⟩:=AQ hi;exact nS ha hj
end
end Go.Proofs.YteijjhahgabalaaGreat
