/- hmcs.New. -/
import Derived.Deep.DeepMust
import Derived.Test.YteijjhahgabalaaGreatWA46
import Derived.Test.YteijjhahgabalaaGreatWA31
set_option maxRecDepth 100000
set_option maxHeartbeats 8000000
set_option linter.all false
namespace Go.Proofs.YteijjhahgabalaaGreat
open Go.RowKit
open Tryz
theorem i9 (P T:List Int) (A:AR) (v:Nat):{dp P T A v with taken:=(dp P T A v).taken+(2*CQ P T v+1)}=dp P T A (v+1):=by
 unfold dp;have e:A.taken+BF P T v+(2*CQ P T v+1)=A.taken+BF P T (v+1):=by
  show _=A.taken+(BF P T v+(2*CQ P T v+1));omega
 simp only[e]
def Gk (w:World) (tb:Nat) (P T:List Int) (n:Nat):Prop:=(n=0∧oW w tb P T)∨(gh w tb P T∧vw w tb P T)
theorem Gk.typ {w w':World} {tb:Nat} {P T:List Int} {n:Nat} (h:Gk w tb P T n) {Z:List Nat} {L:List TypeId} (hf:ae Z w w') (hz:Bz w Z L) (h1:136∉L:=by decide) (h2:3∉L:=by decide) (h3:22∉L:=by decide):Gk w' tb P T n:=by
 rcases h with⟨e,h⟩|⟨h,q⟩
 ·exact .inl ⟨e,h.typ hf hz h1 h2⟩
 ·exact .inr ⟨h.typ hf hz h1 h2,q.typ hf hz h1 h2 h3⟩
theorem Gk.tb {w:World} {tb:Nat} {P T:List Int} {n:Nat} (h:Gk w tb P T n):mU w tb P T:=by
 rcases h with⟨_,h⟩|h
 ·exact .inl h
 ·exact .inr h
theorem iS {P T:List Int} (hT:du P T):CH P P.length≠0:=by
 have h3:=hT.size.2.2.1;have hx:T[0]?.getD 0∈T:=by rw[List.getElem?_eq_getElem aO];exact List.getElem_mem aO
 have hm:=j8 hT hx;have e:(tE P).length=CH P P.length:=by unfold tE cD CH;rw[List.length_map]
 rw[←e];intro h0;rw[List.length_eq_zero_iff.1 h0] at hm;simp at hm
theorem Dq.rcell {w:World} {P T:List Int} {A:AR} {bud:Int} {lb sb ab wb:Nat} {rl rs:Nat→Nat} {gr cr:Nat} {vl:Value} {base v m:Nat} (h:Dq w P T A bud lb sb ab wb rl rs (.slice (some ⟨gr,0,none⟩) v cr) vl base v m) {u:Nat} (hu:u<v):w.cell? (gr,u)=some (.pointer (some ⟨rl u,0,none⟩)):=by
 obtain⟨g,cap,hv,hc⟩:=Fb h.rgs aO;have e:gr=g:=by injection hv with e1;injection e1 with e1;injection e1
 rw[e];exact hc u _ (by rw[List.getElem?_map,List.getElem?_range hu];rfl)
theorem ie {w:World} {P T:List Int} {A:AR} {bud:Int} {lb sb ab wb:Nat} {rl rs:Nat→Nat} {vr vl:Value} {base v:Nat} (h:Dq w P T A bud lb sb ab wb rl rs vr vl base v v) (hT:du P T) (hv:v<P.length) (hr:A.taken+2080≤A.ws.length):
 Calls prog 90 #[some ab,(CQ P T v:Int)] w fun e w'=>∃rl' rs':Nat→Nat,e= .returned (.tuple #[some (rl' v),(0:Int)])∧Dq w' P T A bud lb sb ab wb rl' rs' vr vl base v (v+1)∧ae [ab,wb] w w':=by
 have hz:=bM hT v;have ho:=ip hT v;have hs:=hT.size.2.1;refine(ku h.ar hz (by show A.taken+BF P T v+(2*CQ P T v+1)≤A.ws.length;omega)).mono ?_;rintro e w' ⟨rb,sr,rfl,h1,h2,hR,hF⟩;rw[i9] at hR;have e1:(dp P T A v).taken+1=A.taken+1+BF P T v:=by show A.taken+BF P T v+1=_;omega
 rw[e1] at hR;refine⟨_,_,?_,h.rung hF h1 h2 hR,hF⟩;rw[if_pos rfl]
section
variable{w:World} {b1 b2 ab wb:Nat} {A:AR} {P T:List Int} {bud:Int}
theorem iT {x y:Value} (hkx:fq w ab wb x P) (hx:a7 w 0 x P) (hy:a7 w 0 y T) (hT:du P T) (hA:aj w ab wb A) (hr:A.taken+2080≤A.ws.length) (hd:0≤bud∧bud≤1000):
 Calls prog 73 #[some ab,.agg #[x,y],bud] w fun e w'=>∃B:FR,e= .returned (.tuple #[some B.lb,(0:Int)])∧(B.ab=ab∧B.wb=wb∧w.heap.size≤B.sb∧∀v,v<P.length→w.heap.size≤B.rs v)∧AG w' B (xK P T A bud) ⟨dp P T A P.length,fun _ _ _=>0,fun _ _=>0⟩∧ae [ab,wb] w w':=by
 obtain⟨s1,s2,s3,s4⟩:=hT.size;have mk:=dZ T.length aO;obtain⟨i0,ia,ib,ic,id_⟩:=info_parts lT;have HI0:=aH (And.intro ia (And.intro ib (And.intro ic id_)));clear ia ib ic id_;obtain⟨j0,ia,ib,ic,id_⟩:=info_parts oH;have HI1:=aH (And.intro ia (And.intro ib (And.intro ic id_)));clear ia ib ic id_;obtain⟨k0,ia,ib,ic,id_⟩:=info_parts lj;have HI2:=aH (And.intro ia (And.intro ib (And.intro ic id_)));clear ia ib ic id_;have HPN:=aH (fun(W:World) (hf:ae [] w W)=>eH (hx.frm hf aS) (hy.frm hf aS) hT);have HBR:=aH (fun(W:World)=>Ce bud W);have hbr:(decide ((0:Int)≤bud)&&decide (bud≤1000))=true:=by simp;omega
 rw[hbr] at HBR;have HF0:=aH ((ae.refl [] w).alloc (.cells #[x,y] 24));have HB0:=aH (am.new w #[x,y] 24);have HKX:=aH (hkx.next HF0.o aS);have HKW:=aH hkx;have HAR:=aH hA;have HTO:=aH hT;have HRM:=aH hr;have HBD:=aH hd;have hab:=hA.box.lt;have hwb:=hA.row.lt;have hnot:= @aX prog;obtain⟨a1,cap1,rfl, -, -⟩:=hx;obtain⟨a2,cap2,rfl, -, -⟩:=hy;clear hbr hA hT hr hd hkx;go_enter func73,ntmps73;go_wp2_with fail;refine(HPN.o _ HF0.o).mono ?_;rintro e w1 ⟨tb,rfl,htb,hTb,hF⟩;have HF1:=aH (HF0.o.trans hF);have HB1:=aH (HB0.o.frm hF aS);have HK1:=aH (HKX.o.next hF aS);have HT1:=aH hTb;clear hF hTb;go_wp2_with fail;refine(HBR.o _).mono ?_;rintro e w' ⟨rfl,rfl⟩;go_wp2_with fail;refine(fS HT1.o).mono ?_;rintro e w' ⟨rfl,rfl⟩;have htb0:w.heap.size≤tb:=Nat.le_trans HF0.o.size htb;have htbl:tb<w1.heap.size:=by obtain⟨_,_,_,_,q,_⟩:=HT1.o;exact q.lt
 have hs1:=(am.new w1 (cq T.length fun _ _=>0).toArray 138).alloc (.cells #[bud,.slice none 0 0,.slice none 0 0,.slice (some ⟨w1.heap.size,0,none⟩) T.length T.length] 207);have hb1:=am.new (w1.alloc (.cells (cq T.length fun _ _=>0).toArray 138)) #[bud,.slice none 0 0,.slice none 0 0,.slice (some ⟨w1.heap.size,0,none⟩) T.length T.length] 207;rw[World.size_alloc] at hb1;have hf5:ae [] w1 ((w1.alloc (.cells (cq T.length fun _ _=>0).toArray 138)).alloc (.cells #[bud,.slice none 0 0,.slice none 0 0,.slice (some ⟨w1.heap.size,0,none⟩) T.length T.length] 207)):=(aF.alloc _).alloc _;have hsz5:((w1.alloc (.cells (cq T.length fun _ _=>0).toArray 138)).alloc (.cells #[bud,.slice none 0 0,.slice none 0 0,.slice (some ⟨w1.heap.size,0,none⟩) T.length T.length] 207)).heap.size=w1.heap.size+2:=by rw[World.size_alloc,World.size_alloc]
 have HBX:=aH (And.intro hs1 (And.intro hb1 (And.intro hf5 hsz5)));clear hs1 hb1 hf5 hsz5;obtain⟨lb,sb,base,hlb,hsb,hbase,hN⟩:∃lb sb base,lb=w1.heap.size+1∧sb=w1.heap.size∧base=w1.heap.size+2∧Dq ((w1.alloc (.cells (cq T.length fun _ _=>0).toArray 138)).alloc (.cells #[bud,.slice none 0 0,.slice none 0 0,.slice (some ⟨w1.heap.size,0,none⟩) T.length T.length] 207)) P T A bud lb sb ab wb (fun _=>0) (fun _=>0) (.slice none 0 0) (.slice none 0 0) base 0 0:=by
  obtain⟨q1,q2,q3,q4⟩:=HBX.o;exact⟨_,_,_,rfl,rfl,rfl,{box:=q2,row:=q1,rgs:=World.ownsRow_nil _ _ _ _,rg:=fun u hu=>by omega,ar:=(HAR.o.frm HF1.o aS aS).frm q3 aS aS,dif:=⟨fun u hu=>by omega,fun a b ha=>by omega⟩,bs:=by omega}⟩
 have HN5:=aH hN;have HF5:=aH (HF1.o.trans HBX.o.2.2.1);have HT5:=aH (show Gk _ tb P T (CH P 0) from Gk.typ (.inl ⟨rfl,HT1.o⟩) HBX.o.2.2.1 (Bz.nil _ []));have HB5:=aH (HB1.o.frm HBX.o.2.2.1 aS);have HK5:=aH (HK1.o.next HBX.o.2.2.1 aS);have hw5:=HBX.o.2.2.2;have hww:=HF1.o.size;have HLB:=aH (And.intro hlb (And.intro hsb hbase));clear hN hlb hsb hbase;have t0:=HB5.o.cell (i:=0) rfl;go_wp2_with fail;rw[←HLB.o.1];clear hw5 HBX;generalize((w1.alloc (.cells (cq T.length fun _ _=>0).toArray 138)).alloc (.cells #[bud,.slice none 0 0,.slice none 0 0,.slice (some ⟨w1.heap.size,0,none⟩) T.length T.length] 207))=W5 at*;have hKXW:fq w ab wb (.slice a1 P.length cap1) P:=HKW.o;go_loopw[44,11] (fun iv lv wr=>∃(v:Nat) (rl rs:Nat→Nat) (vr:Value),iv= .int .i64 v∧lv= .int .i64 (CH P v)∧v≤P.length∧Dq wr P T A bud lb sb ab wb rl rs vr (.slice none 0 0) base v v∧Gk wr tb P T (CH P v)∧am wr w.heap.size [.slice a1 P.length cap1,.slice a2 T.length cap2] 24∧ae [ab,wb] w wr) (fun iv _ _=>P.length - (intOf iv).toNat)
 case atStart=>exact⟨0,_,_,_,rfl,rfl,Nat.zero_le _,HN5.o,HT5.o,HB5.o,HF5.o.mono aS⟩
 case round=>
  obtain⟨v,rl,rs,vr,rfl,rfl,hv,hN,hTb,hTp,hF⟩:=hrel;have HN:=aH hN;have HTB:=aH hTb;have HTP:=aH hTp;have HF:=aH hF;clear hN hTb hTp hF;by_cases hlt:v<P.length
  ·have e0:decide ((v:Int)<P.length)=true:=by simpa using hlt
   have e0':decide (v<P.length)=true:=by simpa using hlt
   have t0:=HTP.o.cell (i:=0) rfl;have t1:=HTP.o.cell (i:=1) rfl;have HBW:=aH (oh (u:=.slice a2 T.length cap2) wr (hKXW wr _ HF.o aS) aO (v:Int));go_wp2_with fail;refine HBW.o.mono ?_;rintro e w2 ⟨kx,rfl,hO,hF2⟩;obtain⟨ka,kc,rfl, -, -⟩:=hO.row;have HF2:=aH (HF.o.trans (hF2.mono aS));have HN2:=aH (HN.o.same hF2);have HTB2:=aH (HTB.o.typ hF2 (Bz.nil _ []));have HTP2:=aH (HTP.o.frm hF2 aS);have HSZ:=aH (show CQ P T v=if(cJ P (v:Int) P.length).length=0 then max 1 (T.count (v:Int)) else(cJ P (v:Int) P.length).length from rfl);have HKL:=aH (eJ (P:=P) (v:=v));have HLS:=aH (eB P v);have HSB:=aH (bM HTO.o v);generalize hkl:(cJ P (v:Int) P.length).length=kl at*;clear hO hF2 t0 t1 hkl HBW;obtain⟨m,hm⟩:∃m,m=CQ P T v:=⟨_,rfl⟩
   by_cases hk0:kl=0
   ·subst hk0;have hnp:(v:Int)∉P:=HKL.o.1 rfl;have hlf:=nh hlt hnp;have hM:=ls HTB2.o.tb HTO.o hlf.1;rw[hlf.2] at hM;have HM:=aH hM;have hls:CH P (v+1)=CH P v+1:=by rw[HLS.o,if_neg hnp]
    have HL1:=aH hls;have hmz:m=max 1 (T.count (v:Int)):=by rw[hm,HSZ.o,if_pos rfl]
    have hcl:=List.count_le_length (a:=(v:Int)) (l:=T);have hlv:CH P v≤v:=by unfold CH;exact Nat.le_trans (List.length_filter_le _ _) aS
    have HMM:=aH (And.intro hm hmz);generalize T.count (v:Int)=c at*;clear hm hmz hnp hlf hM hls;go_wp2_with fail;refine HM.o.mono ?_;rintro e w3 ⟨rfl,⟨hT3,hU3⟩,hF3⟩;obtain⟨_,htb3⟩:=HTB2.o.tb.box;have HN3:=aH (HN2.o.typ hF3 (Bz.one htb3));have HTB3:=aH (show Gk w3 tb P T (CH P (v+1)) from .inr ⟨hT3,hU3⟩);have HTP3:=aH (HTP2.o.frm hF3 ((Bz.one htb3).not HTP2.o aJ));have HF3:=aH (HF2.o.widen hF3 (fun z hz=>.inr (by simp at hz;omega)));have hRN:=aH (ie HN3.o HTO.o hlt HRM.o);clear hT3 hU3 hF3 htb3 HM;rw[←HMM.o.1] at hRN;rcases Nat.lt_or_ge 1 c with hc|hc;rotate_left
    ·have e1:m=1:=by have:=HMM.o.2;omega
     rw[e1] at hRN;have d1:(c:Int)≤1:=by omega
     have d2:decide ((c:Int)≤1)=true:=decide_eq_true d1;clear e1;go_wp2_with fail;refine hRN.o.mono ?_;rintro e w4 ⟨rl',rs',rfl,hN4,hF4⟩;have HN4:=aH hN4;have HF4:=aH (HF3.o.trans hF4);have HTB4:=aH (HTB3.o.typ hF4 HN3.o.ar.typs);have HTP4:=aH (HTP3.o.frm hF4 (HN3.o.ar.typs.not HTP3.o aJ));have c1:=HN4.o.box.cell (i:=1) rfl;clear hN4 hF4 hRN;go_wp2_with(at_builtin;go_must(refine wpList_append_own _ rfl _ _ 204 rfl base 209 i0 (.pointer none) 1 8 underlying204 HI0.o.1 HI0.o.2.1 HI0.o.2.2.1 HI0.o.2.2.2 rfl aJ vr v _ rfl (HN4.o.rgs.alloc _) ⟨w4.heap.size,0,none⟩ 1 1 [some (rl' v)] rfl rfl (cell_one_new _ _ _) aC aM aO (by rw[World.size_alloc];have:=HN4.o.bs;omega) ?_;intro v2 wA hown hgrow _;obtain⟨xa,xl,xc,rfl⟩:=b9 hown;have hbx:=HN4.o.box_at hgrow;have bc:=hbx.cell (i:=1) rfl;have bz:=hbx.frozen;have HG:=aH (HN4.o.grow hown hgrow);have HZ:=aH (And.intro (br hgrow) (And.intro (Bz.own HN4.o.rgs) hbx));have HOB:=aH (bh HN4.o.rgs);clear hown hgrow hbx))
     go_roundw
     case rel=>
      obtain⟨z1,z2,z3⟩:=HZ.o;have hst:ae [lb] wA (wA.setCell (lb,1) (.slice xa xl xc)):=aU;have hb5:=HLB.o;have h5:=HF1.o.size;refine⟨v+1,rl',rs',_,by go_num,by rw[HL1.o];go_num,by omega,HG.o,(HTB4.o.typ z1 z2).typ hst (Bz.one z3),(HTP4.o.frm z1 (z2.not HTP4.o aJ)).frm hst ((Bz.one z3).not (HTP4.o.frm z1 (z2.not HTP4.o aJ)) aJ),(HF4.o.widen z1 (fun z hz=>.inr ?_)).set _ _ (.inr (by show w.heap.size≤lb;omega))⟩;have:=(HOB.o z (by simpa using hz)).1;omega
     case measure=>simp[intOf];omega
    ·have e1:m=c:=by have:=HMM.o.2;omega
     rw[e1] at hRN;have d1:¬(c:Int)≤1:=by omega
     have d2:decide ((c:Int)≤1)=false:=decide_eq_false d1;clear e1;go_wp2_with fail;refine hRN.o.mono ?_;rintro e w4 ⟨rl',rs',rfl,hN4,hF4⟩;have HN4:=aH hN4;have HF4:=aH (HF3.o.trans hF4);have HTB4:=aH (HTB3.o.typ hF4 HN3.o.ar.typs);have HTP4:=aH (HTP3.o.frm hF4 (HN3.o.ar.typs.not HTP3.o aJ));have c1:=HN4.o.box.cell (i:=1) rfl;clear hN4 hF4 hRN;go_wp2_with(at_builtin;go_must(refine wpList_append_own _ rfl _ _ 204 rfl base 209 i0 (.pointer none) 1 8 underlying204 HI0.o.1 HI0.o.2.1 HI0.o.2.2.1 HI0.o.2.2.2 rfl aJ vr v _ rfl (HN4.o.rgs.alloc _) ⟨w4.heap.size,0,none⟩ 1 1 [some (rl' v)] rfl rfl (cell_one_new _ _ _) aC aM aO (by rw[World.size_alloc];have:=HN4.o.bs;omega) ?_;intro v2 wA hown hgrow _;obtain⟨xa,xl,xc,rfl⟩:=b9 hown;have hbx:=HN4.o.box_at hgrow;have bc:=hbx.cell (i:=1) rfl;have bz:=hbx.frozen;have HG:=aH (HN4.o.grow hown hgrow);have HZ:=aH (And.intro (br hgrow) (And.intro (Bz.own HN4.o.rgs) hbx));have HOB:=aH (bh HN4.o.rgs);clear hown hgrow hbx))
     go_roundw
     case rel=>
      obtain⟨z1,z2,z3⟩:=HZ.o;have hst:ae [lb] wA (wA.setCell (lb,1) (.slice xa xl xc)):=aU;have hb5:=HLB.o;have h5:=HF1.o.size;refine⟨v+1,rl',rs',_,by go_num,by rw[HL1.o];go_num,by omega,HG.o,(HTB4.o.typ z1 z2).typ hst (Bz.one z3),(HTP4.o.frm z1 (z2.not HTP4.o aJ)).frm hst ((Bz.one z3).not (HTP4.o.frm z1 (z2.not HTP4.o aJ)) aJ),(HF4.o.widen z1 (fun z hz=>.inr ?_)).set _ _ (.inr (by show w.heap.size≤lb;omega))⟩;have:=(HOB.o z (by simpa using hz)).1;omega
     case measure=>simp[intOf];omega
   ·have d0:((kl:Int)==0)=false:=by simpa using hk0
    have d0':(kl==0)=false:=by simpa using hk0
    have hnp:(v:Int)∈P:=by
     refine Classical.byContradiction fun q=>hk0 (HKL.o.2 q)
    have HL1:=aH (show CH P (v+1)=CH P v by rw[HLS.o,if_pos hnp]);have hRN:=aH (ie HN2.o HTO.o hlt HRM.o);have e1:CQ P T v=kl:=by rw[HSZ.o,if_neg hk0]
    rw[e1] at hRN;have HN3:=HN2;have HTB3:=aH (show Gk w2 tb P T (CH P (v+1)) by rw[HL1.o];exact HTB2.o);have HTP3:=HTP2;have HF3:=HF2;clear e1 hm hnp;go_wp2_with fail;refine hRN.o.mono ?_;rintro e w4 ⟨rl',rs',rfl,hN4,hF4⟩;have HN4:=aH hN4;have HF4:=aH (HF3.o.trans hF4);have HTB4:=aH (HTB3.o.typ hF4 HN3.o.ar.typs);have HTP4:=aH (HTP3.o.frm hF4 (HN3.o.ar.typs.not HTP3.o aJ));have c1:=HN4.o.box.cell (i:=1) rfl;clear hN4 hF4 hRN;go_wp2_with(at_builtin;go_must(refine wpList_append_own _ rfl _ _ 204 rfl base 209 i0 (.pointer none) 1 8 underlying204 HI0.o.1 HI0.o.2.1 HI0.o.2.2.1 HI0.o.2.2.2 rfl aJ vr v _ rfl (HN4.o.rgs.alloc _) ⟨w4.heap.size,0,none⟩ 1 1 [some (rl' v)] rfl rfl (cell_one_new _ _ _) aC aM aO (by rw[World.size_alloc];have:=HN4.o.bs;omega) ?_;intro v2 wA hown hgrow _;obtain⟨xa,xl,xc,rfl⟩:=b9 hown;have hbx:=HN4.o.box_at hgrow;have bc:=hbx.cell (i:=1) rfl;have bz:=hbx.frozen;have HG:=aH (HN4.o.grow hown hgrow);have HZ:=aH (And.intro (br hgrow) (And.intro (Bz.own HN4.o.rgs) hbx));have HOB:=aH (bh HN4.o.rgs);clear hown hgrow hbx))
    go_roundw
    case rel=>
     obtain⟨z1,z2,z3⟩:=HZ.o;have hst:ae [lb] wA (wA.setCell (lb,1) (.slice xa xl xc)):=aU;have hb5:=HLB.o;have h5:=HF1.o.size;refine⟨v+1,rl',rs',_,by go_num,by rw[HL1.o],by omega,HG.o,(HTB4.o.typ z1 z2).typ hst (Bz.one z3),(HTP4.o.frm z1 (z2.not HTP4.o aJ)).frm hst ((Bz.one z3).not (HTP4.o.frm z1 (z2.not HTP4.o aJ)) aJ),(HF4.o.widen z1 (fun z hz=>.inr ?_)).set _ _ (.inr (by show w.heap.size≤lb;omega))⟩;have:=(HOB.o z (by simpa using hz)).1;omega
    case measure=>simp[intOf];omega
  ·have hve:v=P.length:=by omega
   subst hve;have e0:decide ((P.length:Int)<P.length)=false:=by simp
   have e0':decide (P.length<P.length)=false:=by simp
   obtain⟨hTF,hTU⟩:=(show gh wr tb P T∧vw wr tb P T from by
    rcases HTB.o with⟨q,_⟩|q
    ·exact absurd q (iS HTO.o)
    ·exact q)
   have HTF:=aH (And.intro hTF hTU);obtain⟨gr,cr,evr, -⟩:=Fb HN.o.rgs aO;subst evr;have c3:=HN.o.box.cell (i:=3) rfl;have HV0:=aH (show fJ wr P T rl (fun _=>0) (.slice none 0 0) base 0 [] from⟨World.ownsRow_nil _ _ _ _,fun i hi=>by omega,fun i hi=>by omega⟩);clear hTF hTU HTB hv hlt HN5 HF5 HT5 HB5 HK5 t0;go_wp2_with fail;generalize wr=W6 at*;go_loopw[84] (fun iv wr=>∃(k:Nat) (lv:Nat→Nat) (vl:Value) (L:List Value),iv= .int .i64 k∧k≤T.length∧Dq wr P T A bud lb sb ab wb rl rs (.slice (some ⟨gr,0,none⟩) P.length cr) vl base P.length P.length∧fJ wr P T rl lv vl base k L∧(gh wr tb P T∧vw wr tb P T)∧am wr w.heap.size [.slice a1 P.length cap1,.slice a2 T.length cap2] 24∧ae [ab,wb] w wr) (fun iv _=>T.length - (intOf iv).toNat)
   case atStart=>exact⟨0,_,_,_,rfl,Nat.zero_le _,HN.o,HV0.o,HTF.o,HTP.o,HF.o⟩
   case round=>
    obtain⟨k,lv,vl,L,rfl,hk,hN,hV,hTb,hTp,hF⟩:=hrel;have HN:=aH hN;have HV:=aH hV;have HTB:=aH hTb;have HTP:=aH hTp;have HF:=aH hF;clear hN hV hTb hTp hF HV0 HTF;by_cases hlt:k<T.length
    ·have e0:decide ((k:Int)<T.length)=true:=by simpa using hlt
     have e0':decide (k<T.length)=true:=by simpa using hlt
     have HUP:=aH (yL HTB.o.1 HTB.o.2 hlt HTO.o);have hlen:=Jy HTO.o hlt;have HAT:=aH (fun(l:Nat) (hl:l<(AJ P T k).length)=>DK HTO.o hlt hl);go_wp2_with fail;refine HUP.o.mono ?_;rintro e w7 ⟨u,rfl,hO,hF7⟩;obtain⟨gu,cu,rfl,hcu⟩:=Fb hO hlen.1;have HCU:=aH hcu;have HN7:=aH (HN.o.same hF7);have HV7:=aH (HV.o.typ hF7 (Bz.nil _ []));have HTB7:=aH (show gh w7 tb P T∧vw w7 tb P T from⟨HTB.o.1.typ hF7 (Bz.nil _ []) aJ aJ,HTB.o.2.typ hF7 (Bz.nil _ []) aJ aJ aJ⟩);have HTP7:=aH (HTP.o.frm hF7 aS);have HF7:=aH (HF.o.trans (hF7.mono aS));clear hO hF7 hcu HUP HN HV HTB HTP HF;generalize hdd:(AJ P T k).length=d at*;have HDD:=aH hdd;clear hdd;go_wp2_with fail;go_loopw[92,17] (fun jv sv wx=>∃(j:Nat),jv= .int .i64 j∧j≤d∧wx.ownsRow w7.heap.size 215 2 sv j (FT P T rl k j)∧ae [] w7 wx) (fun jv _ _=>d - (intOf jv).toNat)
     case atStart=>exact⟨0,rfl,Nat.zero_le _,World.ownsRow_nil _ _ _ _,aF⟩
     case round=>
      obtain⟨j,rfl,hj,hO,hF8⟩:=hrel;have HO:=aH hO;have HF8:=aH hF8;obtain⟨oa,ol,oc,rfl⟩:=b9 hO;clear hO hF8;by_cases hjd:j<d
      ·have e1:decide ((j:Int)<d)=true:=by simpa using hjd
       have e1':decide (j<d)=true:=by simpa using hjd
       have hpl:=HAT.o j hjd;have hcj:=HF8.o.cell (HCU.o j (.int .i64 (BP P T k j)) (by rw[List.getElem?_map,←hpl.1,List.getElem?_eq_getElem (by rw[HDD.o];exact hjd)];rfl)) aS;have HPL:=aH (And.intro hpl.1 hpl.2.1);have HSL:=aH (uG (HTB7.o.1.typ HF8.o (Bz.nil _ []) aJ aJ) hlt);have lju:(j:Int)<d:=by omega
       clear hpl;by_cases hj0:j=0
       ·subst hj0;have e2:(((T.take k).count (T[k]?.getD 0):Nat):Int)=(Cq P T k 0:Int):=by unfold Cq;rw[if_pos rfl]
        rw[e2] at HSL;have HN9:=aH (HN7.o.same HF8.o);have HF9:=HF8;have HO9:=HO;clear e2;go_wp2_with fail;refine HSL.o.mono ?_;rintro e w' ⟨rfl,rfl⟩;have c1:=HN9.o.box.cell (i:=1) rfl;have cr1:=HN9.o.rcell HPL.o.2;have l2:(BP P T k 0:Int)<P.length:=by have:=HPL.o.2;omega
        go_wp2_with(at_builtin;go_must(refine wpList_append_own _ rfl _ _ 212 rfl w7.heap.size 215 k0 (.agg #[.pointer none,(0:Int)]) 2 16 underlying212 HI2.o.1 HI2.o.2.1 HI2.o.2.2.1 HI2.o.2.2.2 rfl aJ (.slice oa ol oc) 0 _ rfl (HO9.o.alloc _) ⟨wr.heap.size,0,none⟩ 1 1 [some (rl (BP P T k 0)),(Cq P T k 0:Int)] rfl rfl (Cw _ _ _ _) aC aM aO (by rw[World.size_alloc];have:=HF9.o.size;omega) ?_;intro v2 wA hown hgrow _;obtain⟨xa,xl,xc,rfl⟩:=b9 hown;have HOA:=aH (show wA.ownsRow w7.heap.size 215 2 (.slice xa xl xc) (0+1) (FT P T rl k (0+1)) from hown);have HFA:=aH (HF9.o.widen (br hgrow) (fun z hz=>.inr (bh HO9.o z (by simpa using hz)).1));clear hown hgrow))
        go_roundw
        case rel=>exact⟨0+1,by go_num,by omega,HOA.o,HFA.o⟩
        case measure=>simp[intOf];omega
       ·obtain⟨i,rfl⟩:∃i,j=i+1:=⟨j - 1,by omega⟩
        have hid_:=IW HTO.o hlt (l:=i) (by rw[HDD.o];exact hjd);have hpi:=HAT.o i aO;rw[HPL.o.1,hpi.1] at hid_;have hci:=HF8.o.cell (HCU.o i (.int .i64 (BP P T k i)) (by rw[List.getElem?_map,←hpi.1,List.getElem?_eq_getElem (by rw[HDD.o];omega)];rfl)) aS;have esl:(((cJ P (BP P T k (i+1):Int) P.length).idxOf (BP P T k i:Int):Nat):Int)=(Cq P T k (i+1):Int):=by
         unfold Cq;rw[if_neg aO,HPL.o.1,Nat.add_sub_cancel,hpi.1]
        have HKM:=aH (And.intro hid_ esl);have HTP8:=aH (HTP7.o.frm HF8.o aS);have HBW:=aH (fun(W:World) (hf:ae [] wr W)=>oh (u:=.slice a2 T.length cap2) W (hKXW W _ (HF7.o.trans ((HF8.o.trans hf).mono aS)) aS) aO (BP P T k (i+1):Int));have hne:=aW [] wr;have hz0:∀q:HW (fun wx=>ae [] wr wx),q.w.cell? (w.heap.size,0)=some (.slice a1 P.length cap1):=fun q=>(HTP8.o.frm q.h aS).cell (i:=0) rfl;have hz1:∀q:HW (fun wx=>ae [] wr wx),q.w.cell? (w.heap.size,1)=some (.slice a2 T.length cap2):=fun q=>(HTP8.o.frm q.h aS).cell (i:=1) rfl;have hz2:∀q:HW (fun wx=>ae [] wr wx),q.w.cell? (gu,i)=some (.int .i64 (BP P T k i)):=fun q=>q.h.cell hci aS;have li:(i:Int)<d:=by omega
        have li0:decide ((0:Int)<(i:Int)+1)=true:=aT;clear hid_ hpi esl hj0;go_wp2_with fail;refine HSL.o.mono ?_;rintro e w' ⟨rfl,rfl⟩;go_wp2_with fail;refine aG (fun wx=>ae [] wr wx) ?_;refine aR (fuel:=3) [0,1,3,4,5,6,7] rfl aF.drew1 ?_;intro Kq hK;repeat (go_big_quiet_step (fail))
        refine wpQuiet_nil (hK _ ?_);clear hK Kq;refine aL 2 (fuel:=2) rfl ?_;go_wp2_with fail;refine(HBW.o _ (aF.drew1)).mono ?_;rintro e w9 ⟨kx,rfl,hO9,hF9⟩;have hkl:=j4 P (BP P T k (i+1):Int) P.length;have HIX:=aH (r6 hO9.row aO HKM.o.1);rw[HKM.o.2] at HIX;have HF9:=aH (((ae.refl [] wr).drew1).trans hF9);clear hO9 hF9 hkl;go_wp2_with fail;refine af ⟨HF9.o,?_⟩;refine aL 8 (fuel:=1) rfl ?_;go_wp2_with fail;refine HIX.o.mono ?_;rintro e w' ⟨rfl,rfl⟩;go_wp2_with fail;refine af ⟨HF9.o,?_⟩;refine aR (fuel:=0) [9] rfl HF9.o ?_;intro Kq hK;repeat (go_big_quiet_step (fail))
        refine wpQuiet_nil (hK _ ?_);clear hK Kq;refine aN ?_;have HF9':=aH (HF8.o.trans HF9.o);have HN9:=aH (HN7.o.same HF9'.o);have HO9:=aH (D4 HO.o HF9.o (Bz.nil _ []) aJ);clear HIX hz0 hz1 hz2 hne HBW HF9;have HF9:=HF9';clear HF9';have c1:=HN9.o.box.cell (i:=1) rfl;have cr1:=HN9.o.rcell HPL.o.2;have l2:(BP P T k (i+1):Int)<P.length:=by have:=HPL.o.2;omega
        go_wp2_with(at_builtin;go_must(refine wpList_append_own _ rfl _ _ 212 rfl w7.heap.size 215 k0 (.agg #[.pointer none,(0:Int)]) 2 16 underlying212 HI2.o.1 HI2.o.2.1 HI2.o.2.2.1 HI2.o.2.2.2 rfl aJ (.slice oa ol oc) (i+1) _ rfl (HO9.o.alloc _) ⟨w9.heap.size,0,none⟩ 1 1 [some (rl (BP P T k (i+1))),(Cq P T k (i+1):Int)] rfl rfl (Cw _ _ _ _) aC aM aO (by rw[World.size_alloc];have:=HF9.o.size;omega) ?_;intro v2 wA hown hgrow _;obtain⟨xa,xl,xc,rfl⟩:=b9 hown;have HOA:=aH (show wA.ownsRow w7.heap.size 215 2 (.slice xa xl xc) (i+1+1) (FT P T rl k (i+1+1)) from hown);have HFA:=aH (HF9.o.widen (br hgrow) (fun z hz=>.inr (bh HO9.o z (by simpa using hz)).1));clear hown hgrow))
        go_roundw
        case rel=>exact⟨i+1+1,by go_num,by omega,HOA.o,HFA.o⟩
        case measure=>simp[intOf];omega
      ·have hje:j=d:=by omega
       subst hje;have e1:decide ((j:Int)<j)=false:=by simp
       have e1':decide (j<j)=false:=by simp
       have HN8:=aH (HN7.o.same HF8.o);have HV8:=aH (HV7.o.typ HF8.o (Bz.nil _ []));obtain⟨gx,cx,hxx⟩:∃g cap,Value.slice oa ol oc= .slice (some ⟨g,0,none⟩) j cap:=by
        rcases HO.o.2 with⟨_,q⟩|⟨g,cap,cur,hv,_⟩
        ·omega
        ·exact⟨g,cap,hv⟩
       have HXX:=aH hxx;have HO8:=aH (show wr.ownsRow w7.heap.size 215 2 (.slice oa ol oc) (AJ P T k).length (FT P T rl k (AJ P T k).length) by rw[HDD.o];exact HO.o);have c2:=HN8.o.box.cell (i:=2) rfl;clear hxx;go_wp2_with(at_builtin;go_must(refine wpList_append_own _ rfl _ _ 205 rfl base 212 j0 (.slice none 0 0) 1 24 underlying205 HI1.o.1 HI1.o.2.1 HI1.o.2.2.1 HI1.o.2.2.2 rfl aJ vl k _ rfl (HV8.o.vls.alloc _) ⟨wr.heap.size,0,none⟩ 1 1 [.slice oa ol oc] rfl rfl (cell_one_new _ _ _) aC aM aO (by rw[World.size_alloc];have:=HN8.o.bs;omega) ?_;intro v2 wA hown hgrow _;obtain⟨xa,xl,xc,rfl⟩:=b9 hown;have hbx:=HN8.o.box_at2 HV8.o hgrow;have bc:=hbx.cell (i:=2) rfl;have bz:=hbx.frozen;have HG:=aH (HN8.o.lvl (v':=.slice xa xl xc) HV8.o hgrow);have HGV:=aH (HV8.o.grow HN8.o (by rw[HDD.o];exact HXX.o) HO8.o (by rw[HDD.o];exact hlen.1) hown hgrow);have HZ:=aH (And.intro (br hgrow) (And.intro (Bz.own HV8.o.vls) hbx));have HOB:=aH (bh HV8.o.vls);clear hown hgrow hbx))
       go_roundw
       case rel=>
        obtain⟨z1,z2,z3⟩:=HZ.o;have hst:ae [lb] wA (wA.setCell (lb,2) (.slice xa xl xc)):=aU;have hb5:=HLB.o;have h5:=HF1.o.size;have hz4:=Bz.one z3;refine⟨k+1,_,_,_,by go_num,by omega,HG.o,HGV.o,⟨((HTB7.o.1.typ HF8.o (Bz.nil _ []) aJ aJ).typ z1 z2 aJ aJ).typ hst hz4 aJ aJ,((HTB7.o.2.typ HF8.o (Bz.nil _ []) aJ aJ aJ).typ z1 z2 aJ aJ aJ).typ hst hz4 aJ aJ aJ⟩,?_,((HF7.o.trans (HF8.o.mono aS)).widen z1 (fun z hz=>.inr ?_)).set _ _ (.inr (by show w.heap.size≤lb;omega))⟩
        ·have q1:=HTP7.o.frm HF8.o aS;have q2:=q1.frm z1 (z2.not q1 aJ);exact q2.frm hst (hz4.not q2 aJ)
        ·have:=(HOB.o z (by simpa using hz)).1;omega
       case measure=>simp[intOf];omega
    ·have hke:k=T.length:=by omega
     subst hke;have e0:decide ((T.length:Int)<T.length)=false:=by simp
     have e0':decide (T.length<T.length)=false:=by simp
     go_wp2;go_ret2;obtain⟨vb,hD⟩:=HN.o.done HV.o HTO.o HBD.o;have hb5:=HLB.o;have hdf:=HN.o.dif;exact⟨⟨lb,vb,lv,sb,ab,wb,rl,rs⟩,rfl,⟨rfl,rfl,by show w.heap.size≤sb;omega,fun v hv=>by have:=(hdf.1 v hv).2;show w.heap.size≤rs v;omega⟩,hD,HF.o⟩
end
section
variable{P T:List Int} {g l par bud:Int}
abbrev rp (P T:List Int) (bud:Int):BN:=xK P T (AR.fresh 4096) bud
abbrev wv (P T:List Int):Be:=⟨dp P T (AR.fresh 4096) P.length,fun _ _ _=>0,fun _ _=>0⟩
theorem h7I (hT:du P T) (hb:0≤bud∧bud≤1000):(iP (rp P T bud)).I 0 (wv P T):=by
 have hl:(AR.fresh 4096).ws.length=4096:=List.length_replicate;refine(show Io (rp P T bud) 0 (wv P T) from⟨by omega,JP.zero (xL hT hb) (zF hT ⟨by rw[hl];show 0≤4096;omega,by rw[hl];omega,by show(0:Int)≤0;omega,by show(0:Int)≤_;omega⟩ (by rw[hl];show 0+2080≤4096;omega)) fun v _ i _ _=>?_,by show(0:Int)≤0;omega⟩);have ea:(dp P T (AR.fresh 4096) P.length).ws=List.replicate 4096 0:=rfl;unfold AR.get;split
 ·rw[ea,List.getElem?_replicate];split<;>rfl
 ·rfl
theorem rt (hT:du P T) (hb:0≤bud∧bud≤1000):fN P T 7 g l par bud (iP (rp P T bud)) (wv P T) where
 n:=rfl
 kd13:=by omega
 sh:=rfl
 mks:=fun w ab wb lk x y hx hy hA hL hkx _=>by
  have n1:=hA.lockNot hL;have HF0:=aH (((ae.refl [] w).alloc (.cells #[x,y] 24)).alloc (.cells #[g,l,par,bud] 42));have HN:=aH (iT (hkx.next HF0.o aS) (hx.frm HF0.o aS) (hy.frm HF0.o aS) hT (hA.frm HF0.o aS aS) (by rw[show(AR.fresh 4096).ws.length=4096 from List.length_replicate];show 0+2080≤4096;omega) hb);have HB1:=aH ((am.new w #[x,y] 24).frm ((ae.refl [] _).alloc (.cells #[g,l,par,bud] 42)) aS);have hb2:=am.new (w.alloc (.cells #[x,y] 24)) #[g,l,par,bud] 42;rw[World.size_alloc] at hb2;have HL:=aH (hL.frm HF0.o aS);have c0:=HL.o.cell (i:=0) rfl;have t0:=HB1.o.cell (i:=0) rfl;have t1:=HB1.o.cell (i:=1) rfl;have t3:=hb2.cell (i:=3) rfl;have HT32:=aH (show(rp P T bud).n≤32 from hT.size.2.2.2);have hls:=HF0.o.size;obtain⟨a1,cap1,rfl, -, -⟩:=hx;obtain⟨a2,cap2,rfl, -, -⟩:=hy;clear hA hL hb hkx hb2;go_enter func57,ntmps57;go_wp2_with fail;refine HN.o.mono ?_;rintro e w1 ⟨B,rfl,⟨hb1,hb2,hb3,hb4⟩,hC,hF⟩;have hL1:=HL.o.frm hF aQ;have l0:=hL1.cell (i:=2) rfl;have lz:=hL1.frozen;have HL1:=aH hL1;have HF:=aH ((HF0.o.mono (S':=[ab,wb]) aS).trans hF);have HBB:=aH (And.intro hb1 (And.intro hb2 (And.intro (Nat.le_trans hls hb3) (fun v hv=>Nat.le_trans hls (hb4 v hv)))));have HST:=aH (show∀v,AG (w1.setCell (lk,2) v) B (rp P T bud) (wv P T) from fun v=>by
   have hf:ae [lk] w1 (w1.setCell (lk,2) v):=aU;have hz:=Bz.one hL1;obtain⟨vr,cap,h1⟩:=hC.box;obtain⟨cells,h2,h3⟩:=hC.lvs;exact{
    box:=⟨vr,cap,h1.frm hf (hz.not h1 aJ)⟩,lvs:=⟨cells,h2.frm hf (hz.not h2 aJ),h3⟩,lev:=fun t ht=>by
     obtain⟨cs,q1,q2⟩:=hC.lev t ht;exact⟨cs,q1.frm hf (hz.not q1 aJ),q2⟩,rg:=fun v hv=>(hC.rg v hv).typ hf hz aJ aJ aJ aJ,row:=hC.row.frm hf (hz.not hC.row aJ),ar:=hC.ar.typ hf hz aJ aJ,dif:=hC.dif,ok:=hC.ok})
  clear hF hC hL1 hb1 hb2 hb3 hb4;go_wp2;go_ret;refine⟨(iL (rp P T bud) B).counted 7,(iN HT32.o).counted_ok dw 7 aO,⟨HBB.o.1,rfl⟩,rfl,⟨HL1.o.set 2 _,HST.o _⟩,fun z hz=>?_,(HF.o.mono (S':=[ab,wb,lk]) aS).set _ _ (.inl aS)⟩;obtain⟨e1,e2,e3,e4⟩:=HBB.o;rcases CW.1 hz with e|e|e|⟨v,hv,e⟩
  ·rw[e];exact .inr (.inr e3)
  ·rw[e];exact .inl e1
  ·rw[e];exact .inr (.inl e2)
  ·rw[←e];exact .inr (.inr (e4 v hv))
theorem ms (hT:du P T) (hb:0≤bud∧bud≤1000):fR P T (.agg #[(7:Int),g,l,par,bud]) (iP (rp P T bud)) (wv P T) where
 ok:=zE _
 i0:=h7I hT hb
 mks:=fun _ _ _ hx hy=>ey hx hy hT (rt hT hb)
end
end Go.Proofs.YteijjhahgabalaaGreat
