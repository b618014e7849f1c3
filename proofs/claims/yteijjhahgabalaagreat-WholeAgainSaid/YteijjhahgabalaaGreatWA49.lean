/- cna.New. -/
import Derived.Deep.DeepMust
import Derived.Test.YteijjhahgabalaaGreatWA36
import Derived.Test.YteijjhahgabalaaGreatWA33
set_option maxRecDepth 100000
set_option maxHeartbeats 8000000
set_option linter.all false
namespace Go.Proofs.YteijjhahgabalaaGreat
open Go.RowKit
open Tryz
def fG (P T:List Int):List Int:=T.map fun x=>(jl P x:Int)
def yh (P T:List Int) (A:AR) (bud:Int):B6:=⟨fG P T,A.taken+1,bud⟩
def zr (T:List Int) (A:AR):An:=⟨{A with taken:=A.taken+(2+3*T.length)},fun _ _=>0,⟨0,false,0,0,0⟩⟩
def fQ (w:World) (tb:Nat) (P T:List Int) (lb base:Nat):Prop:=∀w' S,ae S w w'→(∀k∈S,base≤k∨k=lb)→gh w' tb P T
structure qR (w:World) (lb tb sb ab wb:Nat) (P T:List Int) (A:AR) (tail:Nat) (bud:Int) (k:Nat) (vn:Value) (base:Nat):Prop where
 box:am w lb [some ab,tail,bud,vn,.pointer none,.slice (some ⟨sb,0,none⟩) T.length T.length] 223
 nod:w.ownsRow base 3 1 vn k ((T.take k).map fun x=>Value.int .i64 (jl P x))
 tab:fQ w tb P T lb base
 row:am w sb (cq T.length fun _ _=>0) 138
 ar:aj w ab wb A
 low:lb<base∧tb<base∧sb<base∧ab<base∧wb<base
 b3:base≤w.heap.size
structure vW (w:World) (lb tb sb ab wb:Nat) (P T:List Int) (A:AR) (tail:Nat) (bud:Int) (k:Nat) (vn:Value) (base:Nat):Prop where
 box:am w lb [some ab,tail,bud,vn,.pointer none,.slice (some ⟨sb,0,none⟩) T.length T.length] 223
 nod:w.ownsRow base 3 1 vn k ((T.take k).map fun x=>Value.int .i64 (jl P x))
 tab:(k=0∧vn= .slice none 0 0∧oW w tb P T)∨fQ w tb P T lb base
 row:am w sb (cq T.length fun _ _=>0) 138
 ar:aj w ab wb A
 low:lb<base∧tb<base∧sb<base∧ab<base∧wb<base
 b3:base≤w.heap.size
section
variable{w w' w1:World} {lb tb sb ab wb:Nat} {P T:List Int} {A:AR} {tail:Nat} {bud:Int} {k:Nat} {vn v':Value} {base:Nat}
theorem fQ.now (h:fQ w tb P T lb base):gh w tb P T:=h w [] aF aS
theorem fQ.of {vs:List Value} (h:gh w tb P T) (hl:am w lb vs 223):fQ w tb P T lb w.heap.size:=by
 intro w' S hf hs;have hn:∀{b:Nat} {vs:List Value} {U:TypeId},am w b vs U→U≠223→b∉S:=fun h hu hm=>by
  have:=hs _ hm;have:=h.lt;have:=h.differ hl hu;omega
 obtain⟨vp,vt,vup,vnode,vslot,vm,gt,gn,gs,gm,h1,h2,h3,h4,h5⟩:=h;have hi:∀{g:Nat} {v:Value} {zs:List Int},IR w g v zs→IR w' g v zs:=fun h=>by
  have h0:=h;obtain⟨_,_,_,hh,_⟩:=h;exact h0.frm hf (hn hh aJ)
 exact⟨vp,vt,vup,vnode,vslot,vm,gt,gn,gs,gm,h1.frm hf (hn h1 aJ),hi h2,hi h3,hi h4,hi h5⟩
theorem fQ.frm (h:fQ w tb P T lb base) {S:List Nat} (hf:ae S w w') (hs:∀k∈S,base≤k∨k=lb):fQ w' tb P T lb base:=fun w2 S2 hf2 hs2=>
 h w2 (S++S2) ((hf.mono (by intro z hz;simp[hz])).trans (hf2.mono (by intro z hz;simp[hz]))) (by intro z hz;rcases List.mem_append.1 hz with h|h;exact hs z h;exact hs2 z h)
theorem vW.node (h:vW w lb tb sb ab wb P T A tail bud k vn base) (hs:du P T) (hk:k<T.length):Calls prog 94 #[some tb,k] w fun e w'=>e= .returned (jl P (T[k]?.getD 0):Int)∧∃base',qR w' lb tb sb ab wb P T A tail bud k vn base'∧base≤base'∧ae [tb] w w':=by
 rcases h.tab with⟨rfl,rfl,h0⟩|h0
 ·refine(pR h0 hs hk).mono ?_;rintro e w' ⟨rfl,hT,hF⟩;have hsz:=hF.size;obtain⟨l1,l2,l3,l4,l5⟩:=h.low;have hb:=h.b3;obtain⟨vp,vt,gp,gt,n1,_⟩:=h0;have hbx:=h.box.frm hF (by have:=h.box.differ n1 aJ;simp;omega);refine⟨rfl,w'.heap.size,⟨hbx,⟨by simp,.inl ⟨rfl,rfl⟩⟩,fQ.of hT hbx,h.row.frm hF (by have:=h.row.differ n1 aJ;simp;omega),h.ar.frm hF (by have:=h.ar.box.differ n1 aJ;simp;omega) (by have:=h.ar.row.differ n1 aJ;simp;omega),by omega,Nat.le_refl _⟩,by omega,hF⟩
 ·refine(fC h0.now hk).mono ?_;rintro e w' ⟨rfl,rfl⟩;exact⟨rfl,base,⟨h.box,h.nod,h0,h.row,h.ar,h.low,h.b3⟩,Nat.le_refl _,aF⟩
theorem qR.blk (h:qR w lb tb sb ab wb P T A tail bud k vn base):∀z∈vn.ownBlock.toList,base≤z:=fun z hz=>rQ h.nod z (by simpa using hz)
theorem qR.box_at {o:Obj} (h:qR w lb tb sb ab wb P T A tail bud k vn base) (hg:(w.alloc o).grownBy w1 vn.ownBlock):am w1 lb [some ab,tail,bud,vn,.pointer none,.slice (some ⟨sb,0,none⟩) T.length T.length] 223:=
 h.box.frm (br hg) (fun hm=>by have:=h.blk _ hm;have:=h.low.1;omega)
theorem qR.grow {o:Obj} (h:qR w lb tb sb ab wb P T A tail bud k vn base) (hk:k<T.length) (hown:w1.ownsRow base 3 1 v' (k+1) (((T.take k).map fun x=>Value.int .i64 (jl P x))++[.int .i64 (jl P (T[k]?.getD 0))])) (hg:(w.alloc o).grownBy w1 vn.ownBlock):
 vW (w1.setCell (lb,3) v') lb tb sb ab wb P T A tail bud (k+1) v' base:=by
 have hf:=br hg;have hb:=h.blk;obtain⟨l1,l2,l3,l4,l5⟩:=h.low;have hno:∀z,z<base→z∉vn.ownBlock.toList:=fun z hz hm=>by have:=hb z hm;omega
 have hst:ae [lb] w1 (w1.setCell (lb,3) v'):=aU;have e:((T.take k).map fun x=>Value.int .i64 (jl P x))++[.int .i64 (jl P (T[k]?.getD 0))]=(T.take (k+1)).map fun x=>Value.int .i64 (jl P x):=by
  rw[List.take_add_one,List.getElem?_eq_getElem hk,List.map_append];rfl
 rw[e] at hown;have r1:=h.row.frm hf (hno _ l3);have r2:=h.ar.frm hf (hno _ l4) (hno _ l5);have hbx:=h.box_at hg;have ht:fQ (w1.setCell (lb,3) v') tb P T lb base:=(h.tab.frm hf (fun z hz=>.inl (hb z hz))).frm hst aS;exact⟨hbx.set 3 v',tc hown hst aQ,.inr ht,r1.frm hst (by have:=r1.differ hbx aJ;simp;omega),r2.frm hst (by have:=r2.box.differ hbx aJ;simp;omega) (by have:=r2.row.differ hbx aJ;simp;omega),h.low,Nat.le_trans h.b3 (Nat.le_trans hf.size hst.size)⟩
theorem g7 (c1:w.cell? (lb,1)=some (.int .i64 tail)) (ht:tail≤4096):Calls prog 96 #[some lb,(1:Int)] w fun e w'=>e= .returned ((tail:Int)+2:Int)∧w=w':=by
 have HE:=aH (show wrap64 (wrap64 ((tail:Int)+3) - 1)=(tail:Int)+2 by unfold wrap64;omega);clear ht;go_enter func96,ntmps96;go_wp2;go_ret;exact⟨cP HE.o,rfl⟩
theorem fz {x y:Value} (hx:a7 w 0 x P) (hy:a7 w 0 y T) (hT:du P T) (hA:aj w ab wb A) (hr:A.taken+(2+3*T.length)≤A.ws.length) (ht:A.taken≤3000) (hd:0≤bud∧bud≤1000):
 Calls prog 75 #[some ab,.agg #[x,y],bud] w fun e w'=>∃B:BH,e= .returned (.tuple #[some B.lb,(0:Int)])∧(B.ab=ab∧B.wb=wb∧w.heap.size≤B.sc.kb∧w.heap.size≤B.sb)∧A1 w' B (yh P T A bud) (zr T A)∧ae [ab,wb] w w':=by
 obtain⟨s1,s2,s3,s4⟩:=hT.size;have mk:=dZ T.length aO;obtain⟨i0,ia,ib,ic,id_⟩:=info_parts J9;have HIN:=aH (And.intro ia (And.intro ib (And.intro ic id_)));have HPN:=aH (fun(W:World) (hf:ae [] w W)=>eH (hx.frm hf aS) (hy.frm hf aS) hT);have HBR:=aH (fun(W:World)=>Ce bud W);have hbr:(decide ((0:Int)≤bud)&&decide (bud≤1000))=true:=by simp;omega
 rw[hbr] at HBR;have HF0:=aH ((ae.refl [] w).alloc (.cells #[x,y] 24));have hB:=am.new w #[x,y] 24;have t0:=hB.cell (i:=0) rfl;have t1:=hB.cell (i:=1) rfl;have hnot:= @aX prog;have HAR:=aH hA;have HT:=aH hT;have hab:=hA.box.lt;have hwb:=hA.row.lt;obtain⟨e1,e3,e2⟩:=D8 (A:=A) (k:=2+3*T.length) hr;have HTK:=aH (And.intro e1 (And.intro e3 e2));have HTT:=aH ht;obtain⟨a1,cap1,rfl, -, -⟩:=hx;obtain⟨a2,cap2,rfl, -, -⟩:=hy;clear hbr hA hT hB ia ib ic id_ e1 e2 e3 hr ht;go_enter func75,ntmps75;go_wp2_with fail;refine(HPN.o _ HF0.o).mono ?_;rintro e w1 ⟨tb,rfl,htb,hTb,hF⟩;have HF1:=aH (HF0.o.trans hF);have HT1:=aH hTb;clear hF hTb t0 t1;go_wp2_with fail;refine(HBR.o _).mono ?_;rintro e w' ⟨rfl,rfl⟩;go_wp2_with fail;refine(fS HT1.o).mono ?_;rintro e w' ⟨rfl,rfl⟩;have htb0:w.heap.size≤tb:=Nat.le_trans HF0.o.size htb;have hTk:=cY (HAR.o.frm HF1.o aS aS) (2+3*(T.length:Int));have ec:(2+3*(T.length:Int))=((2+3*T.length:Nat):Int):=by omega
 rw[ec,HTK.o.1,HTK.o.2.1,HTK.o.2.2,←ec] at hTk;have HTK2:=aH hTk;clear hTk ec;go_wp2_with fail;refine HTK2.o.mono ?_;rintro e w3 ⟨rfl,hA3,hF⟩;have hq3:dI w1 [ab,wb]:=fun z hz=>(HAR.o.frm HF1.o aS aS).fre (by simpa using hz);have hT3:oW w3 tb P T:=by
  obtain⟨vp,vt,gp,gt,h1,h2,h3⟩:=HT1.o;exact⟨vp,vt,gp,gt,h1.frm hF (hq3.not h1),h2.fre hF hq3,h3.fre hF hq3⟩
 have HT3:=aH hT3;have HF3:=aH ((HF1.o.mono (S':=[ab,wb]) aS).trans hF);have HA3:=aH hA3;have hsz3:=hF.size;have htb3:tb<w3.heap.size:=by obtain⟨_,_,_,_,q,_⟩:=hT3;exact q.lt
 clear hF hA3 hq3 HTK2 hT3;have hs1:=(am.new w3 (cq T.length fun _ _=>0).toArray 138).alloc (.cells #[some ab,((A.taken:Int)+1:Int),bud,.slice none 0 0,.pointer none,.slice (some ⟨w3.heap.size,0,none⟩) T.length T.length] 223);have hb1:=am.new (w3.alloc (.cells (cq T.length fun _ _=>0).toArray 138)) #[some ab,((A.taken:Int)+1:Int),bud,.slice none 0 0,.pointer none,.slice (some ⟨w3.heap.size,0,none⟩) T.length T.length] 223;rw[World.size_alloc] at hb1;have hf5:ae [] w3 ((w3.alloc (.cells (cq T.length fun _ _=>0).toArray 138)).alloc (.cells #[some ab,((A.taken:Int)+1:Int),bud,.slice none 0 0,.pointer none,.slice (some ⟨w3.heap.size,0,none⟩) T.length T.length] 223)):=(aF.alloc _).alloc _;have hsz5:((w3.alloc (.cells (cq T.length fun _ _=>0).toArray 138)).alloc (.cells #[some ab,((A.taken:Int)+1:Int),bud,.slice none 0 0,.pointer none,.slice (some ⟨w3.heap.size,0,none⟩) T.length T.length] 223)).heap.size=w3.heap.size+2:=by rw[World.size_alloc,World.size_alloc]
 have HBX:=aH (And.intro hs1 (And.intro hb1 (And.intro hf5 hsz5)));clear hs1 hb1 hf5 hsz5;have hN:vW ((w3.alloc (.cells (cq T.length fun _ _=>0).toArray 138)).alloc (.cells #[some ab,((A.taken:Int)+1:Int),bud,.slice none 0 0,.pointer none,.slice (some ⟨w3.heap.size,0,none⟩) T.length T.length] 223)) (w3.heap.size+1) tb w3.heap.size ab wb P T {A with taken:=A.taken+(2+3*T.length)} (A.taken+1) bud 0 (.slice none 0 0) (w3.heap.size+2):=by
  obtain⟨q1,q2,q3,q4⟩:=HBX.o;have hTb:=HT3.o;obtain⟨vp,vt,gp,gt,h1,h2,h3⟩:=hTb;exact⟨q2,World.ownsRow_nil _ _ _ _,.inl ⟨rfl,rfl,⟨vp,vt,gp,gt,h1.frm q3 aS,h2.frm q3 aS,h3.frm q3 aS⟩⟩,q1,HA3.o.frm q3 aS aS,⟨by omega,by omega,by omega,by have:=HA3.o.box.lt;omega,by have:=HA3.o.row.lt;omega⟩,by omega⟩
 have HN5:=aH hN;have HF5:=aH (HF3.o.trans (HBX.o.2.2.1.mono aS));have hsz0:=HF3.o.size;obtain⟨lb,hlb⟩:∃lb,lb=w3.heap.size+1:=⟨_,rfl⟩
 have HLB:=aH hlb;clear hN hlb;go_wp2_with fail;rw[←HLB.o];rw[←HLB.o] at HN5;generalize((w3.alloc (.cells (cq T.length fun _ _=>0).toArray 138)).alloc (.cells #[some ab,((A.taken:Int)+1:Int),bud,.slice none 0 0,.pointer none,.slice (some ⟨w3.heap.size,0,none⟩) T.length T.length] 223))=W5 at*;go_loopw[48] (fun iv wr=>∃(k:Nat) (vn:Value) (base:Nat),iv= .int .i64 k∧k≤T.length∧w3.heap.size+2≤base∧vW wr lb tb w3.heap.size ab wb P T {A with taken:=A.taken+(2+3*T.length)} (A.taken+1) bud k vn base∧ae [ab,wb] w wr) (fun iv _=>T.length - (intOf iv).toNat)
 case atStart=>exact⟨0,_,_,rfl,Nat.zero_le _,Nat.le_refl _,HN5.o,HF5.o⟩
 case round=>
  obtain⟨k,vn,base,rfl,hk,hbs,hN,hF⟩:=hrel;have HN:=aH hN;have HF:=aH hF;clear hN hF;by_cases hlt:k<T.length
  ·have l1:(k:Int)<T.length:=by omega
   have HLT:=aH hlt;have HND:=aH (fun(W:World) (hf:ae [] wr W)=>vW.node (w:=W) (by
    obtain⟨q1,q2,q3,q4,q5,q6,q7⟩:=HN.o;exact⟨q1.frm hf aS,tc q2 hf aS,by
     rcases q3 with⟨r1,r2,r3⟩|r
     ·obtain⟨vp,vt,gp,gt,h1,h2,h3⟩:=r3;exact .inl ⟨r1,r2,vp,vt,gp,gt,h1.frm hf aS,h2.frm hf aS,h3.frm hf aS⟩
     ·exact .inr (r.frm hf aS),q4.frm hf aS,q5.frm hf aS aS,q6,Nat.le_trans q7 hf.size⟩) HT.o hlt)
   have c3:=HN.o.box.cell (i:=3) rfl;generalize hy:(jl P (T[k]?.getD 0):Int)=yy at*;have HY:=aH hy;clear hlt hy;have hk63:k+1≤maxLen:=by unfold maxLen;omega
   have hk8:(k+1)*8≤140737488355328:=by omega
   go_wp2_with fail
   go_region_law (first
    |(refine FX rfl (.tmp 55) (.tmp 59) 22 rfl base2 3 i0 (.int .i64 0) 1 8 underlying22 HIN.o.1 HIN.o.2.1 HIN.o.2.2.1 HIN.o.2.2.2 rfl aJ vn k _ rfl (HV.o.nod.alloc _) ⟨w2.heap.size,0,none⟩ 1 1 [yy] rfl rfl (cell_one_new _ _ _) aC hk63 hk8 (by rw[World.size_alloc];have:=HV.o.b3;omega) ?_;intro v' wA hown hgrow;obtain⟨va,vl,vc,rfl⟩:=b9 hown;have hbx:=HV.o.box_at hgrow;have bc:=hbx.cell (i:=3) rfl;have bz:=hbx.frozen;have HG:=aH (HV.o.grow HLT.o (by rw[HY.o];exact hown) hgrow);have HFA:=aH (br hgrow);clear hown hgrow hbx)
    |(go_simp;go_wp2_with(go_at_call 94;refine(HND.o _ aD).mono ?_;rintro e w2 ⟨rfl,base2,hV,hb2,hF2⟩;have c9:=hV.box.cell (i:=3) rfl;have c10:∀o:Obj,(w2.alloc o).cell? (lb,3)=some vn:=fun o=>(hV.box.alloc o).cell (i:=3) rfl;have HV:=aH hV;have HF2:=aH hF2;clear hV hF2)))
   all_goals
    go_wp2_with fail;go_roundw
    case rel=>exact⟨k+1,_,base2,by go_num,by omega,by omega,HG.o,((HF.o.drew1.widen HF2.o (fun z hz=>.inr (by simp at hz;omega))).widen HFA.o (fun z hz=>.inr (by have:=HV.o.blk z hz;omega))).set _ _ (.inr (by have:=HLB.o;show w.heap.size≤lb;omega))⟩
    case measure=>simp[intOf];omega
  ·have hke:k=T.length:=by omega
   subst hke;have hne:fG P T≠[]:=fun h0=>by
    have:=congrArg List.length h0;unfold fG at this;rw[List.length_map,List.length_nil] at this;omega
   have hnl:(fG P T).length=T.length:=by unfold fG;rw[List.length_map]
   have hnod:=HN.o.nod;have hcm:((T.take T.length).map fun x=>Value.int .i64 (jl P x))=(fG P T).map (Value.int .i64):=by unfold fG;rw[List.take_length,List.map_map];rfl
   rw[hcm,←hnl] at hnod;obtain⟨gb,hgb,hIR, -⟩:=IR.of_rows hne hnod;have hIR0:=hIR;obtain⟨cap,cur,rfl, -, -, -⟩:=hIR0;have hab2:=HN.o.ar.box.lt;have HSN:=aH (fun(W:World) (hf:ae [] wr W)=>(lf (w:=W) (ab:=ab) (at_:=(A.taken:Int)+1+2) (st:=3) (Nat.lt_of_lt_of_le hab2 hf.size) (hIR.frm hf aS) (by rw[hnl];exact⟨s3,s4⟩)).mono (fun e w' q=>(show∃B:mO,e= .returned (some B.kb)∧B.ab=ab∧wr.heap.size≤B.kb∧BX w' B ⟨fG P T,(A.taken:Int)+1+2,3⟩ ⟨0,false,0,0,0⟩∧ae [] wr w' from by obtain⟨B,q1,q2,q3,q4,q5⟩:=q;exact⟨B,q1,q2,Nat.le_trans hf.size q3,q4,hf.trans q5⟩)));have HNX:=aH (fun(W:World) (hf:ae [] wr W)=>g7 (w:=W) ((HN.o.box.frm hf aS).cell (i:=1) rfl) (by have:=HTT.o;omega));have c3:=HN.o.box.cell (i:=3) rfl;have c1:=HN.o.box.cell (i:=1) rfl;have HIR:=aH hIR;have HNL:=aH hnl;clear hne hnl hnod hcm hIR hgb;go_wp2_with fail;go_region_with(first|(go_at_call 96;refine(HNX.o _ aD).mono ?_;rintro e w5 ⟨rfl,rfl⟩)|(go_at_call 95;(refine(HSN.o _ aD).mono ?_;rintro e w6 ⟨Bs,rfl,hBa,hBk,hSc,hF6⟩);have hbx6:=HN.o.box.frm hF6 aS;have d4:=hbx6.cell (i:=4) rfl;have dz:=hbx6.frozen;have HBX6:=aH hbx6;have HSC:=aH hSc;have HF6:=aH hF6;have HBK:=aH (And.intro hBa hBk);clear hSc hF6 hbx6 hBa hBk))
   all_goals
    go_wp2;go_ret2;obtain⟨hBa,hBk⟩:=HBK.o;have hst:ae [lb] w6 (w6.setCell (lb,4) (.pointer (some ⟨Bs.kb,0,none⟩))):=aU;have hsc:=HSC.o;have q:∀{b:Nat} {vs:List Value} {U:TypeId},am w6 b vs U→U≠223→b∉[lb]:=fun h hu hm=>by
     have:=h.differ HBX6.o hu;simp at hm;omega
    have hir:=HIR.o.frm HF6.o aS;have hir2:IR (w6.setCell (lb,4) (.pointer (some ⟨Bs.kb,0,none⟩))) gb (.slice (some ⟨gb,0,none⟩) (fG P T).length cap) (fG P T):=by
     have h0:=hir;obtain⟨_,_,_,hh,_⟩:=hir;exact h0.frm hst (q hh aJ)
    have hrow:=HN.o.row.frm HF6.o aS;have har:=HN.o.ar.frm HF6.o aS aS;have hM:(yh P T A bud).n=T.length:=HNL.o;refine⟨⟨lb,w3.heap.size,gb,wb,Bs⟩,rfl,⟨hBa,rfl,Nat.le_trans HF.o.size hBk,hsz0⟩,{box:=⟨cap,?_⟩,nds:=⟨_,hir2⟩,sc:={box:=hsc.box.frm hst (q hsc.box aJ),row:=hsc.row.frm hst (q hsc.row aJ),h1:=hsc.h1.frm hst (q hsc.h1 aJ),h2:=hsc.h2.frm hst (q hsc.h2 aJ),h3:=hsc.h3.frm hst (q hsc.h3 aJ),n32:=hsc.n32},row:=?_,ar:=?_,n32:=by rw[hM];exact s4,tl:=by have:=HTT.o;show A.taken+1≤4096;omega},?_⟩
    ·rw[hM];show am _ lb [some Bs.ab,_,_,_,_,_] _;rw[hBa];have:=HBX6.o.set 4 (.pointer (some ⟨Bs.kb,0,none⟩));rw[HNL.o] at this;exact this
    ·rw[hM];exact hrow.frm hst (q hrow aJ)
    ·show aj _ Bs.ab wb _;rw[hBa];exact har.frm hst (q har.box aJ) (q har.row aJ)
    ·exact(HF.o.trans (HF6.o.mono aS)).set _ _ (.inr (by have:=HLB.o;show w.heap.size≤lb;omega))
end
end Go.Proofs.YteijjhahgabalaaGreat
