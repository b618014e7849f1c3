/- hmcs.New. -/
import Derived.Deep.DeepMust
import Derived.Test.YteijjhahgabalaaGreatWF27
import Derived.Test.YteijjhahgabalaaGreatWF24
import Derived.Test.YteijjhahgabalaaGreatWF26
import Derived.Test.YteijjhahgabalaaGreatWF14
set_option maxRecDepth 100000
set_option maxHeartbeats 8000000
set_option linter.all false
namespace Go.Proofs.YteijjhahgabalaaGreat
open Go.RowKit
open Tryz
theorem Du(P T:List Int)(A:AR)(v:Nat):{A2 P T A v with taken:=(A2 P T A v).taken+(2*jk P T v+1)}=A2 P T A (v+1):=by
 unfold A2;have e:A.taken+eV P T v+(2*jk P T v+1)=A.taken+eV P T (v+1):=by
  show _=A.taken+(eV P T v+(2*jk P T v+1));omega
 simp only[e]
def sQ(w:World)(tb:Nat)(P T:List Int)(n:Nat):Prop:=(n=0/\sO w tb P T)\/(jG w tb P T/\Aw w tb P T)
theorem sQ.Si{w w':World}{tb:Nat}{P T:List Int}{n:Nat}(h:sQ w tb P T n){Z:List Nat}{L:List TypeId}(a:af Z w w')(b:ik w Z L)(h1:136∉L:=by decide)(h2:3∉L:=by decide)(h3:22∉L:=by decide):sQ w' tb P T n:=by
 rcases h with⟨e,h⟩|⟨h,q⟩
 ·exact .inl ⟨e,h.Si a b h1 h2⟩
 ·exact .inr ⟨h.Si a b h1 h2,q.Si a b h1 h2 h3⟩
variable{w:World}{P T:List Int}
theorem sQ.tb{tb:Nat}{n:Nat}(h:sQ w tb P T n):Gk w tb P T:=by
 rcases h with⟨_,h⟩|h
 ·exact .inl h
 ·exact .inr h
theorem DD(a:ea P T):iZ P P.length≠0:=by
 have h3:=a.size.2.2.1;have c:T[0]?.getD 0∈T:=by rw[eB aO];exact lB aO
 have hm:=kT a c;have e:(tE P).length=iZ P P.length:=by unfold tE du iZ;rw[kZ]
 rw[<-e];intro b;rw[BL.1 b] at hm;simp at hm
variable{A:AR}{bud:Int}{lb sb ab wb base v:Nat}{rl rs:Nat->Nat}
theorem nG.Up{gr b:Nat}{f:Value}{m:Nat}(h:nG w P T A bud lb sb ab wb rl rs (.slice (some ⟨gr,0,none⟩) v b) f base v m){u:Nat}(d:u<v):w.cell? (gr,u)=some (.pointer (some ⟨rl u,0,none⟩)):=by
 obtain⟨g,cap,hv,c⟩:=qF h.Td aO;have e:gr=g:=by injection hv with a;injection a with a;injection a
 rw[e];exact c u _ (by rw[iL,qo d];rfl)
theorem DG{i g:Value}(h:nG w P T A bud lb sb ab wb rl rs i g base v v)(c:ea P T)(hv:v<P.length)(l:A.taken+2080<=A.ws.length):
 Calls prog 90 #[some ab,(jk P T v:Int)] w λe w'=>∃a d:Nat->Nat,e= .returned (.tuple #[some (a v),(0:Int)])/\nG w' P T A bud lb sb ab wb a d i g base v (v+1)/\af [ab,wb] w w':=by
 have k:=zu c v;have ho:=DK c v;have hs:=c.size.2.1;refine(ER h.ar k (by show A.taken+eV P T v+(2*jk P T v+1)<=A.ws.length;omega)).mono ?_;rintro e w' ⟨m,n,rfl,h1,h2,b,f⟩;rw[Du] at b;have j:(A2 P T A v).taken+1=A.taken+1+eV P T v:=by show A.taken+eV P T v+1=_;omega
 rw[j] at b;refine⟨_,_,?_,h.TU f h1 h2 b,f⟩;rw[ad rfl]
section
variable{w:World}{b1 b2 ab wb:Nat}{A:AR}{P T:List Int}{bud:Int}
theorem DE{x y:Value}(hkx:im w ab wb x P)(hx:aZ w 0 x P)(hy:aZ w 0 y T)(hT:ea P T)(hA:ax w ab wb A)(hr:A.taken+2080<=A.ws.length)(hd:0<=bud/\bud<=1000):
 Calls prog 73 #[some ab,.agg #[x,y],bud] w λe w'=>∃B:p6,e= .returned (.tuple #[some B.lb,(0:Int)])/\(B.ab=ab/\B.wb=wb/\w.heap.size<=B.sb/\∀v,v<P.length->w.heap.size<=B.rs v)/\bQ w' B (NK P T A bud) ⟨A2 P T A P.length,λ_ _ _=>0,λ_ _=>0⟩/\af [ab,wb] w w':=by
 obtain⟨s1,s2,s3,s4⟩:=hT.size;have mk:=iE T.length aO;obtain⟨i0,ia,ib,ic,V⟩:=mN EV;have F:=aH (ae ia (ae ib (ae ic V)));clear ia ib ic V;obtain⟨j0,ia,ib,ic,V⟩:=mN H4;have HI1:=aH (ae ia (ae ib (ae ic V)));clear ia ib ic V;obtain⟨k0,ia,ib,ic,V⟩:=mN Fa;have O:=aH (ae ia (ae ib (ae ic V)));clear ia ib ic V;have HPN:=aH (λ(W:World) (hf:af [] w W)=>gQ (hx.Rr hf aS) (hy.Rr hf aS) hT);have HBR:=aH (λ(W:World)=>jQ bud W);have hbr:(decide ((0:Int)<=bud)&&decide (bud<=1000))=true:=by simp;omega
 rw[hbr] at HBR;have HF0:=aH ((af.refl [] w).alloc (.cells #[x,y] 24));have HB0:=aH (aq.new w #[x,y] 24);have HKX:=aH (hkx.next HF0.o aS);have HKW:=aH hkx;have HAR:=aH hA;have J:=aH hT;have HRM:=aH hr;have HBD:=aH hd;have hab:=hA.box.lt;have hwb:=hA.row.lt;have hnot:= @aX prog;obtain⟨a1,cap1,rfl, -, -⟩:=hx;obtain⟨a2,cap2,rfl, -, -⟩:=hy;clear hbr hA hT hr hd hkx;go_enter func73,ntmps73;go_wp2_with fail;refine(HPN.o _ HF0.o).mono ?_;rintro e w1 ⟨tb,rfl,htb,U,hF⟩;have Z:=aH (HF0.o.trans hF);have HB1:=aH (HB0.o.Rr hF aS);have HK1:=aH (HKX.o.next hF aS);have HT1:=aH U;clear hF U;go_wp2_with fail;refine gF (HBR.o _) ?_;rintro w' rfl;go_wp2_with fail;refine gF (jf HT1.o) ?_;rintro w' rfl;have htb0:w.heap.size<=tb:=dv HF0.o.size htb;have htbl:tb<w1.heap.size:=by obtain⟨_,_,_,_,q,_⟩:=HT1.o;exact q.lt
 have hs1:=(aq.new w1 (dJ T.length λ_ _=>0).toArray 138).alloc (.cells #[bud,.slice none 0 0,.slice none 0 0,.slice (some ⟨w1.heap.size,0,none⟩) T.length T.length] 207);have hb1:=aq.new (w1.alloc (.cells (dJ T.length λ_ _=>0).toArray 138)) #[bud,.slice none 0 0,.slice none 0 0,.slice (some ⟨w1.heap.size,0,none⟩) T.length T.length] 207;rw[bP] at hb1;have hf5:af [] w1 ((w1.alloc (.cells (dJ T.length λ_ _=>0).toArray 138)).alloc (.cells #[bud,.slice none 0 0,.slice none 0 0,.slice (some ⟨w1.heap.size,0,none⟩) T.length T.length] 207)):=(aF.alloc _).alloc _;have hsz5:((w1.alloc (.cells (dJ T.length λ_ _=>0).toArray 138)).alloc (.cells #[bud,.slice none 0 0,.slice none 0 0,.slice (some ⟨w1.heap.size,0,none⟩) T.length T.length] 207)).heap.size=w1.heap.size+2:=by rw[bP,bP]
 have Y:=aH (ae hs1 (ae hb1 (ae hf5 hsz5)));clear hs1 hb1 hf5 hsz5;obtain⟨lb,sb,base,hlb,hsb,hbase,hN⟩:∃lb sb base,lb=w1.heap.size+1/\sb=w1.heap.size/\base=w1.heap.size+2/\nG ((w1.alloc (.cells (dJ T.length λ_ _=>0).toArray 138)).alloc (.cells #[bud,.slice none 0 0,.slice none 0 0,.slice (some ⟨w1.heap.size,0,none⟩) T.length T.length] 207)) P T A bud lb sb ab wb (λ_=>0) (λ_=>0) (.slice none 0 0) (.slice none 0 0) base 0 0:=by
  obtain⟨q1,q2,q3,q4⟩:=Y.o;exact⟨_,_,_,rfl,rfl,rfl,{box:=q2,row:=q1,Td:=sL _ _ _ _,rg:=λu hu=>by omega,ar:=(HAR.o.Rr Z.o aS aS).Rr q3 aS aS,Sg:=⟨λu hu=>by omega,λa b ha=>by omega⟩,bs:=by omega}⟩
 have HN5:=aH hN;have HF5:=aH (Z.o.trans Y.o.2.2.1);have HT5:=aH (show sQ _ tb P T (iZ P 0) from sQ.Si (.inl ⟨rfl,HT1.o⟩) Y.o.2.2.1 (ik.nil _ []));have HB5:=aH (HB1.o.Rr Y.o.2.2.1 aS);have HK5:=aH (HK1.o.next Y.o.2.2.1 aS);have hw5:=Y.o.2.2.2;have hww:=Z.o.size;have HLB:=aH (ae hlb (ae hsb hbase));clear hN hlb hsb hbase;have t0:=HB5.o.cell (i:=0) rfl;go_wp2_with fail;rw[<-HLB.o.1];clear hw5 Y;generalize((w1.alloc (.cells (dJ T.length λ_ _=>0).toArray 138)).alloc (.cells #[bud,.slice none 0 0,.slice none 0 0,.slice (some ⟨w1.heap.size,0,none⟩) T.length T.length] 207))=W5 at*;have hKXW:im w ab wb (.slice a1 P.length cap1) P:=HKW.o;go_loopw[44,11] (λiv lv wr=>∃(v:Nat)(rl rs:Nat->Nat)(vr:Value),iv= .int .i64 v/\lv= .int .i64 (iZ P v)/\v<=P.length/\nG wr P T A bud lb sb ab wb rl rs vr (.slice none 0 0) base v v/\sQ wr tb P T (iZ P v)/\aq wr w.heap.size [.slice a1 P.length cap1,.slice a2 T.length cap2] 24/\af [ab,wb] w wr) (λiv _ _=>P.length - (intOf iv).toNat)
 case atStart=>exact⟨0,_,_,_,rfl,rfl,fA _,HN5.o,HT5.o,HB5.o,HF5.o.mono aS⟩
 case round=>
  obtain⟨v,rl,rs,vr,rfl,rfl,hv,hN,U,hTp,hF⟩:=hrel;have HN:=aH hN;have M:=aH U;have HTP:=aH hTp;have HF:=aH hF;clear hN U hTp hF;by_cases D:v<P.length
  ·have e0:decide ((v:Int)<P.length)=true:=by simpa using D
   have e0':decide (v<P.length)=true:=by simpa using D
   have t0:=HTP.o.cell (i:=0) rfl;have t1:=HTP.o.cell (i:=1) rfl;have HBW:=aH (rL (u:=.slice a2 T.length cap2) wr (hKXW wr _ HF.o aS) aO (v:Int));go_wp2_with fail;refine HBW.o.mono ?_;rintro e w2 ⟨kx,rfl,hO,hF2⟩;obtain⟨ka,kc,rfl, -, -⟩:=hO.row;have HF2:=aH (HF.o.trans (hF2.mono aS));have HN2:=aH (HN.o.same hF2);have HTB2:=aH (M.o.Si hF2 (ik.nil _ []));have HTP2:=aH (HTP.o.Rr hF2 aS);have HSZ:=aH (show jk P T v=if(dM P (v:Int) P.length).length=0 then max 1 (T.count (v:Int)) else(dM P (v:Int) P.length).length from rfl);have HKL:=aH (A7 (P:=P) (v:=v));have HLS:=aH (A4 P v);have HSB:=aH (zu J.o v);generalize hkl:(dM P (v:Int) P.length).length=kl at*;clear hO hF2 t0 t1 hkl HBW;obtain⟨m,hm⟩:∃m,m=jk P T v:=⟨_,rfl⟩
   by_cases hk0:kl=0
   ·subst hk0;have hnp:(v:Int)∉P:=HKL.o.1 rfl;have hlf:=Hg D hnp;have hM:=Fg HTB2.o.tb J.o hlf.1;rw[hlf.2] at hM;have HM:=aH hM;have hls:iZ P (v+1)=iZ P v+1:=by rw[HLS.o,ac hnp]
    have HL1:=aH hls;have hmz:m=max 1 (T.count (v:Int)):=by rw[hm,HSZ.o,ad rfl]
    have hcl:=FP (a:=(v:Int)) (l:=T);have hlv:iZ P v<=v:=by unfold iZ;exact dv (FN _ _) aS
    have HMM:=aH (ae hm hmz);generalize T.count (v:Int)=c at*;clear hm hmz hnp hlf hM hls;go_wp2_with fail;refine gF HM.o ?_;rintro w3 ⟨⟨hT3,hU3⟩,hF3⟩;obtain⟨_,htb3⟩:=HTB2.o.tb.box;have Q:=aH (HN2.o.Si hF3 (ik.one htb3));have HTB3:=aH (show sQ w3 tb P T (iZ P (v+1)) from .inr ⟨hT3,hU3⟩);have H:=aH (HTP2.o.Rr hF3 ((ik.one htb3).not HTP2.o aJ));have HF3:=aH (HF2.o.Rx hF3 (λz hz=>.inr (by simp at hz;omega)));have I:=aH (DG Q.o J.o D HRM.o);clear hT3 hU3 hF3 htb3 HM;rw[<-HMM.o.1] at I;rcases Nat.lt_or_ge 1 c with hc|hc;rotate_left
    ·have e1:m=1:=by have:=HMM.o.2;omega
     rw[e1] at I;have d1:(c:Int)<=1:=by omega
     have d2:decide ((c:Int)<=1)=true:=ef d1;clear e1;go_wp2_with fail;refine I.o.mono ?_;rintro e w4 ⟨X,rs',rfl,S,t⟩;have o:=aH S;have HF4:=aH (HF3.o.trans t);have R:=aH (HTB3.o.Si t Q.o.ar.S8);have p:=aH (H.o.Rr t (Q.o.ar.S8.not H.o aJ));have c1:=o.o.box.cell (i:=1) rfl;clear S t I;go_wp2_with(at_builtin;go_must(refine sK _ rfl _ _ 204 rfl base 209 i0 (.pointer none) 1 8 underlying204 F.o.1 F.o.2.1 F.o.2.2.1 F.o.2.2.2 rfl aJ vr v _ rfl (o.o.Td.alloc _) ⟨w4.heap.size,0,none⟩ 1 1 [some (X v)] rfl rfl (cell_one_new _ _ _) aC aM aO (by rw[bP];have:=o.o.bs;omega) ?_;intro v2 wA n f _;obtain⟨xa,xl,xc,rfl⟩:=dm n;have r:=o.o.Ss f;have bc:=r.cell (i:=1) rfl;have bz:=r.frozen;have HG:=aH (o.o.grow n f);have HZ:=aH (ae (bE f) (ae (ik.own o.o.Td) r));have HOB:=aH (bN o.o.Td);clear n f r))
     go_roundw
     case rel=>
      obtain⟨N,z2,z3⟩:=HZ.o;have G:af [lb] wA (wA.setCell (lb,1) (.slice xa xl xc)):=aU;have hb5:=HLB.o;have h5:=Z.o.size;refine⟨v+1,X,rs',_,by go_num,by rw[HL1.o];go_num,by omega,HG.o,(R.o.Si N z2).Si G (ik.one z3),(p.o.Rr N (z2.not p.o aJ)).Rr G ((ik.one z3).not (p.o.Rr N (z2.not p.o aJ)) aJ),(HF4.o.Rx N (λz hz=>.inr ?_)).set _ _ (.inr (by show w.heap.size<=lb;omega))⟩;have:=(HOB.o z (by simpa using hz)).1;omega
     case measure=>simp[intOf];omega
    ·have e1:m=c:=by have:=HMM.o.2;omega
     rw[e1] at I;have d1:¬(c:Int)<=1:=by omega
     have d2:decide ((c:Int)<=1)=false:=dh d1;clear e1;go_wp2_with fail;refine I.o.mono ?_;rintro e w4 ⟨X,rs',rfl,S,t⟩;have o:=aH S;have HF4:=aH (HF3.o.trans t);have R:=aH (HTB3.o.Si t Q.o.ar.S8);have p:=aH (H.o.Rr t (Q.o.ar.S8.not H.o aJ));have c1:=o.o.box.cell (i:=1) rfl;clear S t I;go_wp2_with(at_builtin;go_must(refine sK _ rfl _ _ 204 rfl base 209 i0 (.pointer none) 1 8 underlying204 F.o.1 F.o.2.1 F.o.2.2.1 F.o.2.2.2 rfl aJ vr v _ rfl (o.o.Td.alloc _) ⟨w4.heap.size,0,none⟩ 1 1 [some (X v)] rfl rfl (cell_one_new _ _ _) aC aM aO (by rw[bP];have:=o.o.bs;omega) ?_;intro v2 wA n f _;obtain⟨xa,xl,xc,rfl⟩:=dm n;have r:=o.o.Ss f;have bc:=r.cell (i:=1) rfl;have bz:=r.frozen;have HG:=aH (o.o.grow n f);have HZ:=aH (ae (bE f) (ae (ik.own o.o.Td) r));have HOB:=aH (bN o.o.Td);clear n f r))
     go_roundw
     case rel=>
      obtain⟨N,z2,z3⟩:=HZ.o;have G:af [lb] wA (wA.setCell (lb,1) (.slice xa xl xc)):=aU;have hb5:=HLB.o;have h5:=Z.o.size;refine⟨v+1,X,rs',_,by go_num,by rw[HL1.o];go_num,by omega,HG.o,(R.o.Si N z2).Si G (ik.one z3),(p.o.Rr N (z2.not p.o aJ)).Rr G ((ik.one z3).not (p.o.Rr N (z2.not p.o aJ)) aJ),(HF4.o.Rx N (λz hz=>.inr ?_)).set _ _ (.inr (by show w.heap.size<=lb;omega))⟩;have:=(HOB.o z (by simpa using hz)).1;omega
     case measure=>simp[intOf];omega
   ·have d0:((kl:Int)==0)=false:=by simpa using hk0
    have d0':(kl==0)=false:=by simpa using hk0
    have hnp:(v:Int)∈P:=by
     refine FM λq=>hk0 (HKL.o.2 q)
    have HL1:=aH (show iZ P (v+1)=iZ P v by rw[HLS.o,ad hnp]);have I:=aH (DG HN2.o J.o D HRM.o);have e1:jk P T v=kl:=by rw[HSZ.o,ac hk0]
    rw[e1] at I;have Q:=HN2;have HTB3:=aH (show sQ w2 tb P T (iZ P (v+1)) by rw[HL1.o];exact HTB2.o);have H:=HTP2;have HF3:=HF2;clear e1 hm hnp;go_wp2_with fail;refine I.o.mono ?_;rintro e w4 ⟨X,rs',rfl,S,t⟩;have o:=aH S;have HF4:=aH (HF3.o.trans t);have R:=aH (HTB3.o.Si t Q.o.ar.S8);have p:=aH (H.o.Rr t (Q.o.ar.S8.not H.o aJ));have c1:=o.o.box.cell (i:=1) rfl;clear S t I;go_wp2_with(at_builtin;go_must(refine sK _ rfl _ _ 204 rfl base 209 i0 (.pointer none) 1 8 underlying204 F.o.1 F.o.2.1 F.o.2.2.1 F.o.2.2.2 rfl aJ vr v _ rfl (o.o.Td.alloc _) ⟨w4.heap.size,0,none⟩ 1 1 [some (X v)] rfl rfl (cell_one_new _ _ _) aC aM aO (by rw[bP];have:=o.o.bs;omega) ?_;intro v2 wA n f _;obtain⟨xa,xl,xc,rfl⟩:=dm n;have r:=o.o.Ss f;have bc:=r.cell (i:=1) rfl;have bz:=r.frozen;have HG:=aH (o.o.grow n f);have HZ:=aH (ae (bE f) (ae (ik.own o.o.Td) r));have HOB:=aH (bN o.o.Td);clear n f r))
    go_roundw
    case rel=>
     obtain⟨N,z2,z3⟩:=HZ.o;have G:af [lb] wA (wA.setCell (lb,1) (.slice xa xl xc)):=aU;have hb5:=HLB.o;have h5:=Z.o.size;refine⟨v+1,X,rs',_,by go_num,by rw[HL1.o],by omega,HG.o,(R.o.Si N z2).Si G (ik.one z3),(p.o.Rr N (z2.not p.o aJ)).Rr G ((ik.one z3).not (p.o.Rr N (z2.not p.o aJ)) aJ),(HF4.o.Rx N (λz hz=>.inr ?_)).set _ _ (.inr (by show w.heap.size<=lb;omega))⟩;have:=(HOB.o z (by simpa using hz)).1;omega
    case measure=>simp[intOf];omega
  ·have hve:v=P.length:=by omega
   subst hve;have e0:decide ((P.length:Int)<P.length)=false:=by simp
   have e0':decide (P.length<P.length)=false:=by simp
   obtain⟨hTF,hTU⟩:=(show jG wr tb P T/\Aw wr tb P T from by
    rcases M.o with⟨q,_⟩|q
    ·exact am q (DD J.o)
    ·exact q)
   have HTF:=aH (ae hTF hTU);obtain⟨gr,cr,evr, -⟩:=qF HN.o.Td aO;subst evr;have c3:=HN.o.box.cell (i:=3) rfl;have HV0:=aH (show B6 wr P T rl (λ_=>0) (.slice none 0 0) base 0 [] from⟨sL _ _ _ _,λi hi=>by omega,λi hi=>by omega⟩);clear hTF hTU M hv D HN5 HF5 HT5 HB5 HK5 t0;go_wp2_with fail;generalize wr=W6 at*;go_loopw[84] (λiv wr=>∃(k:Nat)(lv:Nat->Nat)(vl:Value)(L:List Value),iv= .int .i64 k/\k<=T.length/\nG wr P T A bud lb sb ab wb rl rs (.slice (some ⟨gr,0,none⟩) P.length cr) vl base P.length P.length/\B6 wr P T rl lv vl base k L/\(jG wr tb P T/\Aw wr tb P T)/\aq wr w.heap.size [.slice a1 P.length cap1,.slice a2 T.length cap2] 24/\af [ab,wb] w wr) (λiv _=>T.length - (intOf iv).toNat)
   case atStart=>exact⟨0,_,_,_,rfl,fA _,HN.o,HV0.o,HTF.o,HTP.o,HF.o⟩
   case round=>
    obtain⟨k,lv,vl,L,rfl,hk,hN,hV,U,hTp,hF⟩:=hrel;have HN:=aH hN;have HV:=aH hV;have M:=aH U;have HTP:=aH hTp;have HF:=aH hF;clear hN hV U hTp hF HV0 HTF;by_cases D:k<T.length
    ·have e0:decide ((k:Int)<T.length)=true:=by simpa using D
     have e0':decide (k<T.length)=true:=by simpa using D
     have HUP:=aH (OQ M.o.1 M.o.2 D J.o);have hlen:=uw J.o D;have HAT:=aH (λ(l:Nat) (hl:l<(cg P T k).length)=>lV J.o D hl);go_wp2_with fail;refine HUP.o.mono ?_;rintro e w7 ⟨u,rfl,hO,hF7⟩;obtain⟨gu,cu,rfl,hcu⟩:=qF hO hlen.1;have HCU:=aH hcu;have HN7:=aH (HN.o.same hF7);have HV7:=aH (HV.o.Si hF7 (ik.nil _ []));have HTB7:=aH (show jG w7 tb P T/\Aw w7 tb P T from⟨M.o.1.Si hF7 (ik.nil _ []) aJ aJ,M.o.2.Si hF7 (ik.nil _ []) aJ aJ aJ⟩);have HTP7:=aH (HTP.o.Rr hF7 aS);have HF7:=aH (HF.o.trans (hF7.mono aS));clear hO hF7 hcu HUP HN HV M HTP HF;generalize hdd:(cg P T k).length=d at*;have HDD:=aH hdd;clear hdd;go_wp2_with fail;go_loopw[92,17] (λjv sv wx=>∃(j:Nat),jv= .int .i64 j/\j<=d/\wx.ownsRow w7.heap.size 215 2 sv j (qc P T rl k j)/\af [] w7 wx) (λjv _ _=>d - (intOf jv).toNat)
     case atStart=>exact⟨0,rfl,fA _,sL _ _ _ _,aF⟩
     case round=>
      obtain⟨j,rfl,hj,hO,hF8⟩:=hrel;have HO:=aH hO;have s:=aH hF8;obtain⟨oa,ol,oc,rfl⟩:=dm hO;clear hO hF8;by_cases hjd:j<d
      ·have e1:decide ((j:Int)<d)=true:=by simpa using hjd
       have e1':decide (j<d)=true:=by simpa using hjd
       have hpl:=HAT.o j hjd;have hcj:=s.o.cell (HCU.o j (.int .i64 (fP P T k j)) (by rw[iL,<-hpl.1,eB (by rw[HDD.o];exact hjd)];rfl)) aS;have HPL:=aH (ae hpl.1 hpl.2.1);have HSL:=aH (Af (HTB7.o.1.Si s.o (ik.nil _ []) aJ aJ) D);have lju:(j:Int)<d:=by omega
       clear hpl;by_cases hj0:j=0
       ·subst hj0;have e2:(((T.take k).count (T[k]?.getD 0):Nat):Int)=(jY P T k 0:Int):=by unfold jY;rw[ad rfl]
        rw[e2] at HSL;have HN9:=aH (HN7.o.same s.o);have E:=s;have HO9:=HO;clear e2;go_wp2_with fail;refine gF HSL.o ?_;rintro w' rfl;have c1:=HN9.o.box.cell (i:=1) rfl;have cr1:=HN9.o.Up HPL.o.2;have l2:(fP P T k 0:Int)<P.length:=by have:=HPL.o.2;omega
        go_wp2_with(at_builtin;go_must(refine sK _ rfl _ _ 212 rfl w7.heap.size 215 k0 (.agg #[.pointer none,(0:Int)]) 2 16 underlying212 O.o.1 O.o.2.1 O.o.2.2.1 O.o.2.2.2 rfl aJ (.slice oa ol oc) 0 _ rfl (HO9.o.alloc _) ⟨wr.heap.size,0,none⟩ 1 1 [some (rl (fP P T k 0)),(jY P T k 0:Int)] rfl rfl (kC _ _ _ _) aC aM aO (by rw[bP];have:=E.o.size;omega) ?_;intro v2 wA n f _;obtain⟨xa,xl,xc,rfl⟩:=dm n;have HOA:=aH (show wA.ownsRow w7.heap.size 215 2 (.slice xa xl xc) (0+1) (qc P T rl k (0+1)) from n);have HFA:=aH (E.o.Rx (bE f) (λz hz=>.inr (bN HO9.o z (by simpa using hz)).1));clear n f))
        go_roundw
        case rel=>exact⟨0+1,by go_num,by omega,HOA.o,HFA.o⟩
        case measure=>simp[intOf];omega
       ·obtain⟨i,rfl⟩:∃i,j=i+1:=⟨j - 1,by omega⟩
        have hid_:=uu J.o D (l:=i) (by rw[HDD.o];exact hjd);have hpi:=HAT.o i aO;rw[HPL.o.1,hpi.1] at hid_;have hci:=s.o.cell (HCU.o i (.int .i64 (fP P T k i)) (by rw[iL,<-hpi.1,eB (by rw[HDD.o];omega)];rfl)) aS;have esl:(((dM P (fP P T k (i+1):Int) P.length).idxOf (fP P T k i:Int):Nat):Int)=(jY P T k (i+1):Int):=by
         unfold jY;rw[ac aO,HPL.o.1,FQ,hpi.1]
        have HKM:=aH (ae hid_ esl);have HTP8:=aH (HTP7.o.Rr s.o aS);have HBW:=aH (λ(W:World) (hf:af [] wr W)=>rL (u:=.slice a2 T.length cap2) W (hKXW W _ (HF7.o.trans ((s.o.trans hf).mono aS)) aS) aO (fP P T k (i+1):Int));have hne:=aW [] wr;have hz0:=zF (L:=[]) HTP8.o aS 0 rfl;have hz1:=zF (L:=[]) HTP8.o aS 1 rfl;have hz2:∀q:HW (λwx=>af [] wr wx),q.w.cell? (gu,i)=some (.int .i64 (fP P T k i)):=λq=>q.h.cell hci aS;have li:(i:Int)<d:=by omega
        have li0:decide ((0:Int)<(i:Int)+1)=true:=aT;clear hid_ hpi esl hj0;go_wp2_with fail;refine gF HSL.o ?_;rintro w' rfl;go_wp2_with fail;refine aG (λwx=>af [] wr wx) ?_;refine eQ (fuel:=3) [0,1,3,4,5,6,7] rfl aF.Rs ?_;refine aL 2 (fuel:=2) rfl ?_;go_wp2_with fail;refine(HBW.o _ (aF.Rs)).mono ?_;rintro e w9 ⟨kx,rfl,hO9,hF9⟩;have hkl:=ni P (fP P T k (i+1):Int) P.length;have HIX:=aH (v7 hO9.row aO HKM.o.1);rw[HKM.o.2] at HIX;have E:=aH (((af.refl [] wr).Rs).trans hF9);clear hO9 hF9 hkl;go_wp2_with fail;refine ah ⟨E.o,?_⟩;refine aL 8 (fuel:=1) rfl ?_;go_wp2_with fail;refine gF HIX.o ?_;rintro w' rfl;go_wp2_with fail;refine ah ⟨E.o,?_⟩;refine eQ (fuel:=0) [9] rfl E.o ?_;refine aN ?_;have HF9':=aH (s.o.trans E.o);have HN9:=aH (HN7.o.same HF9'.o);have HO9:=aH (kN HO.o E.o (ik.nil _ []) aJ);clear HIX hz0 hz1 hz2 hne HBW E;have E:=HF9';clear HF9';have c1:=HN9.o.box.cell (i:=1) rfl;have cr1:=HN9.o.Up HPL.o.2;have l2:(fP P T k (i+1):Int)<P.length:=by have:=HPL.o.2;omega
        go_wp2_with(at_builtin;go_must(refine sK _ rfl _ _ 212 rfl w7.heap.size 215 k0 (.agg #[.pointer none,(0:Int)]) 2 16 underlying212 O.o.1 O.o.2.1 O.o.2.2.1 O.o.2.2.2 rfl aJ (.slice oa ol oc) (i+1) _ rfl (HO9.o.alloc _) ⟨w9.heap.size,0,none⟩ 1 1 [some (rl (fP P T k (i+1))),(jY P T k (i+1):Int)] rfl rfl (kC _ _ _ _) aC aM aO (by rw[bP];have:=E.o.size;omega) ?_;intro v2 wA n f _;obtain⟨xa,xl,xc,rfl⟩:=dm n;have HOA:=aH (show wA.ownsRow w7.heap.size 215 2 (.slice xa xl xc) (i+1+1) (qc P T rl k (i+1+1)) from n);have HFA:=aH (E.o.Rx (bE f) (λz hz=>.inr (bN HO9.o z (by simpa using hz)).1));clear n f))
        go_roundw
        case rel=>exact⟨i+1+1,by go_num,by omega,HOA.o,HFA.o⟩
        case measure=>simp[intOf];omega
      ·have hje:j=d:=by omega
       subst hje;have e1:decide ((j:Int)<j)=false:=by simp
       have e1':decide (j<j)=false:=by simp
       have HN8:=aH (HN7.o.same s.o);have HV8:=aH (HV7.o.Si s.o (ik.nil _ []));obtain⟨gx,cx,hxx⟩:∃g cap,Value.slice oa ol oc= .slice (some ⟨g,0,none⟩) j cap:=by
        rcases HO.o.2 with⟨_,q⟩|⟨g,cap,cur,hv,_⟩
        ·omega
        ·exact⟨g,cap,hv⟩
       have HXX:=aH hxx;have HO8:=aH (show wr.ownsRow w7.heap.size 215 2 (.slice oa ol oc) (cg P T k).length (qc P T rl k (cg P T k).length) by rw[HDD.o];exact HO.o);have c2:=HN8.o.box.cell (i:=2) rfl;clear hxx;go_wp2_with(at_builtin;go_must(refine sK _ rfl _ _ 205 rfl base 212 j0 (.slice none 0 0) 1 24 underlying205 HI1.o.1 HI1.o.2.1 HI1.o.2.2.1 HI1.o.2.2.2 rfl aJ vl k _ rfl (HV8.o.T9.alloc _) ⟨wr.heap.size,0,none⟩ 1 1 [.slice oa ol oc] rfl rfl (cell_one_new _ _ _) aC aM aO (by rw[bP];have:=HN8.o.bs;omega) ?_;intro v2 wA n f _;obtain⟨xa,xl,xc,rfl⟩:=dm n;have r:=HN8.o.Ub HV8.o f;have bc:=r.cell (i:=2) rfl;have bz:=r.frozen;have HG:=aH (HN8.o.Vs (v':=.slice xa xl xc) HV8.o f);have HGV:=aH (HV8.o.grow HN8.o (by rw[HDD.o];exact HXX.o) HO8.o (by rw[HDD.o];exact hlen.1) n f);have HZ:=aH (ae (bE f) (ae (ik.own HV8.o.T9) r));have HOB:=aH (bN HV8.o.T9);clear n f r))
       go_roundw
       case rel=>
        obtain⟨N,z2,z3⟩:=HZ.o;have G:af [lb] wA (wA.setCell (lb,2) (.slice xa xl xc)):=aU;have hb5:=HLB.o;have h5:=Z.o.size;have hz4:=ik.one z3;refine⟨k+1,_,_,_,by go_num,by omega,HG.o,HGV.o,⟨((HTB7.o.1.Si s.o (ik.nil _ []) aJ aJ).Si N z2 aJ aJ).Si G hz4 aJ aJ,((HTB7.o.2.Si s.o (ik.nil _ []) aJ aJ aJ).Si N z2 aJ aJ aJ).Si G hz4 aJ aJ aJ⟩,?_,((HF7.o.trans (s.o.mono aS)).Rx N (λz hz=>.inr ?_)).set _ _ (.inr (by show w.heap.size<=lb;omega))⟩
        ·have q1:=HTP7.o.Rr s.o aS;have q2:=q1.Rr N (z2.not q1 aJ);exact q2.Rr G (hz4.not q2 aJ)
        ·have:=(HOB.o z (by simpa using hz)).1;omega
       case measure=>simp[intOf];omega
    ·have hke:k=T.length:=by omega
     subst hke;have e0:decide ((T.length:Int)<T.length)=false:=by simp
     have e0':decide (T.length<T.length)=false:=by simp
     go_wp2;go_ret2;obtain⟨vb,hD⟩:=HN.o.done HV.o J.o HBD.o;have hb5:=HLB.o;have hdf:=HN.o.Sg;exact⟨⟨lb,vb,lv,sb,ab,wb,rl,rs⟩,rfl,⟨rfl,rfl,by show w.heap.size<=sb;omega,λv hv=>by have:=(hdf.1 v hv).2;show w.heap.size<=rs v;omega⟩,hD,HF.o⟩
end
section
variable{P T:List Int}{g l par bud:Int}
abbrev B1(P T:List Int)(bud:Int):eD:=NK P T (AR.fresh 4096) bud
abbrev Mv(P T:List Int):fB:=⟨A2 P T (AR.fresh 4096) P.length,λ_ _ _=>0,λ_ _=>0⟩
theorem Rh(a:ea P T)(c:0<=bud/\bud<=1000):(yi (B1 P T bud)).I 0 (Mv P T):=by
 have hl:(AR.fresh 4096).ws.length=4096:=lA;refine(show qr (B1 P T bud) 0 (Mv P T) from⟨by omega,qs.zero (NM a c) (Qh a ⟨by rw[hl];show 0<=4096;omega,by rw[hl];omega,by show(0:Int)<=0;omega,by show(0:Int)<=_;omega⟩ (by rw[hl];show 0+2080<=4096;omega)) λv _ i _ _=>?_,by show(0:Int)<=0;omega⟩);have b:(A2 P T (AR.fresh 4096) P.length).ws=List.replicate 4096 0:=rfl;unfold AR.get;split
 ·rw[b,xo];split<;>rfl
 ·rfl
theorem Kf(I:ea P T)(J:0<=bud/\bud<=1000):iQ P T 7 g l par bud (yi (B1 P T bud)) (Mv P T) where
 n:=rfl
 Tb:=by omega
 sh:=rfl
 S9:=λw ab wb lk x y K L C E r _=>by
  have n1:=C.Sn E;have a:=aH (((af.refl [] w).alloc (.cells #[x,y] 24)).alloc (.cells #[g,l,par,bud] 42));have O:=aH (DE (r.next a.o aS) (K.Rr a.o aS) (L.Rr a.o aS) I (C.Rr a.o aS aS) (by rw[show(AR.fresh 4096).ws.length=4096 from lA];show 0+2080<=4096;omega) J);have j:=aH ((aq.new w #[x,y] 24).Rr ((af.refl [] _).alloc (.cells #[g,l,par,bud] 42)) aS);have b:=aq.new (w.alloc (.cells #[x,y] 24)) #[g,l,par,bud] 42;rw[bP] at b;have F:=aH (E.Rr a.o aS);have c0:=F.o.cell (i:=0) rfl;have t0:=j.o.cell (i:=0) rfl;have t1:=j.o.cell (i:=1) rfl;have t3:=b.cell (i:=3) rfl;have m:=aH (show(B1 P T bud).n<=32 from I.size.2.2.2);have s:=a.o.size;obtain⟨a1,G,rfl, -, -⟩:=K;obtain⟨a2,H,rfl, -, -⟩:=L;clear C E J r b;go_enter func57,ntmps57;go_wp2_with fail;refine O.o.mono ?_;rintro e w1 ⟨B,rfl,⟨o,b,p,q⟩,d,D⟩;have c:=F.o.Rr D aQ;have l0:=c.cell (i:=2) rfl;have X:=c.frozen;have u:=aH c;have N:=aH ((a.o.mono (S':=[ab,wb]) aS).trans D);have k:=aH (ae o (ae b (ae (dv s p) (λv hv=>dv s (q v hv)))));have A:=aH (show∀v,bQ (w1.setCell (lk,2) v) B (B1 P T bud) (Mv P T) fromλv=>by
   have h:af [lk] w1 (w1.setCell (lk,2) v):=aU;have f:=ik.one c;obtain⟨W,cap,h1⟩:=d.box;obtain⟨cells,h2,h3⟩:=d.Un;exact{
    box:=⟨W,cap,h1.Rr h (f.not h1 aJ)⟩,Un:=⟨cells,h2.Rr h (f.not h2 aJ),h3⟩,TD:=λt ht=>by
     obtain⟨cs,M,V⟩:=d.TD t ht;exact⟨cs,M.Rr h (f.not M aJ),V⟩,rg:=λv hv=>(d.rg v hv).Si h f aJ aJ aJ aJ,row:=d.row.Rr h (f.not d.row aJ),ar:=d.ar.Si h f aJ aJ,Sg:=d.Sg,ok:=d.ok})
  clear D d c o b p q;go_wp2;go_ret;refine⟨(DB (B1 P T bud) B).Tl 7,(DC m.o).S5 A3 7 aO,⟨k.o.1,rfl⟩,rfl,⟨u.o.set 2 _,A.o _⟩,λz f=>?_,(N.o.mono (S':=[ab,wb,lk]) aS).set _ _ (.inl aS)⟩;obtain⟨Q,R,S,U⟩:=k.o;rcases jy.1 f with e|e|e|⟨v,hv,e⟩
  ·rw[e];exact .inr (.inr S)
  ·rw[e];exact .inl Q
  ·rw[e];exact .inr (.inl R)
  ·rw[<-e];exact .inr (.inr (U v hv))
theorem G3(a:ea P T)(b:0<=bud/\bud<=1000):jO P T (.agg #[(7:Int),g,l,par,bud]) (yi (B1 P T bud)) (Mv P T) where
 ok:=Qf _
 i0:=Rh a b
 S9:=λ_ _ _ c d=>gJ c d a (Kf a b)
end
section
variable{M:eD}{X:fB}{j l c k:Nat}{R:Nat->Nat->Nat->Int}{S':Nat->Nat->Int}
theorem gq.up(h:gq M R)(hj:j<M.n)(hl:l<M.d j)(b:∀i,i≠M.sl j l->S' i 0=R (M.pl j l) i 0):gq M (dL R (M.pl j l) S'):=λv i a=>by
 unfold dL at a;by_cases e:v=M.pl j l
 ·rw[ad e] at a;by_cases f:i=M.sl j l
  ·exact⟨j,l,hj,hl,e.symm,f.symm⟩
  ·rw[b i f] at a;rw[e];exact h _ i a
 ·rw[ac e] at a;exact h v i a
theorem wg{n:Nat}{S:Nat->Nat->Int}{j:Nat}{a b:Int}{i t:Nat}(h:i≠j):bo n S j a b i t=S i t:=by
 unfold bo;rw[cH];split
 ·exact aj _ _ _ _ h
 ·rfl
theorem gq.ask(h:gq M R)(hj:j<M.n)(hl:l<M.d j):gq M (eR M R j l):=h.up hj hl λi hi=>wg hi
theorem gq.hand(h:gq M R)(hj:j<M.n)(hl:l<M.d j){pc v:Int}:gq M (cY M R j l pc v):=h.up hj hl λi hi=>by
 unfold kP;split
 ·exact(aj _ _ _ _ hi).trans (wg hi)
 ·rfl
theorem gq.UA(h:gq M X.R)(hj:j<M.n)(hl:l<M.d j):gq M (es M X j l).R:=by
 obtain⟨h1, -⟩:=kJ (M:=M) (X:=X) (t:=j) (M.d j - l) l aO aO;unfold es gZ gz
 split
 ·exact h.hand hj h1
 ·exact h.hand hj h1
theorem gq.dn(h:gq M X.R)(hj:j<M.n)(a:c<M.d j):gq M (kI M X j c).R:=by
 unfold kI;split
 ·exact h
 ·exact h.hand hj aO
theorem gq.leave(h:gq M X.R)(hj:j<M.n)(hd:0<M.d j):gq M (i1 M X j).R:=by
 unfold i1;split
 ·exact h.UA hj hd
 ·exact h
theorem qs.z(o:qs M X)(h:gq M X.R)(hj:j<M.n)(ho:X.A.ops<1000000000):gq M (eK M X j (dk X j)).R:=by
 by_cases f:X.S j 0=0\/X.S j 0=10
 ·unfold eK;rw[ad f];exact h
 obtain⟨m,lo,RC⟩:=o.lo hj (λx=>f (.inl x)) (λx=>f (.inr x));obtain⟨ph,n,ha⟩:=o;have v:X.S j 0=11->dk X j+1<M.d j:=λq=>by
  have a:=ha j hj;have b:=n.P j hj;cases e:ph j with
  |rest=>rw[e] at a;have r:X.S j 0=0:=a;omega
  |hold=>rw[e] at a;have r:X.S j 0=10:=a;omega
  |T3 c=>rw[e] at a;exact a.elim
  |down c=>rw[e] at a;exact a.elim
  |Tf c=>rw[e] at a;have:=a.1;omega
  |pass c=>rw[e] at a b;rw[fq a.2];exact b.1
  |out c=>rw[e] at a;have:=a.1;omega
 generalize dk X j=c at*;have h1:bB M X.R j c≠0:=by omega
 have h2:bB M X.R j c≠10:=by omega
 obtain⟨u,s⟩:=wU (M:=M) (X:=X) (t:=j) (c:=c) h1 h2;have g:=lY n hj m h1 h2;unfold eK;rw[ac f,u];have d:gq M (en M X.A X.R j c):=h.up hj m λi hi=>(aj _ _ _ _ hi).trans (g.ot i hi 0)
 split
 ·exact d
 ·rename_i nf
  rw[s] at nf;unfold iY
  split
  ·unfold o8;split
   ·exact d
   ·rename_i q
    exact d.ask hj (by have:c+1≠M.d j:=λe=>q (.inr e);omega)
  ·split
   ·exact d.dn hj m
   ·rename_i q p
    rw[rJ.2] at p;rcases RC with⟨a,_⟩|⟨a,b⟩|⟨a,b⟩
    ·exact am a q
    ·exact d.UA hj (v a)
    ·have tr:=g.tr;have e:X.R (M.pl j c) (M.sl j c) 0=bB M X.R j c:=rfl;rw[e] at tr;have n1:(dA M X.A X.R j c).2=10:=FM λx=>nf (by simp[p,x]);omega
theorem NO{p:Prop}[Decidable p]{a b c:Nat}(h:a<=c)(d:b<=c):(if p then a else b)<=c:=by split;exact h;exact d
theorem zr{X':fB}(c1:X'.S=X.S)(c2:∀i,X'.A.get i=X.A.get i)(c3:∀v i,X'.R v i 0=X.R v i 0)(i:Nat):lh M X' i=lh M X i/\(dY M X i->dY M X' i):=by
 have lv:dk X' i=dk X i:=by unfold dk;rw[c1]
 refine⟨by unfold lh bB;rw[lv,c1,c3],λq=>?_⟩;unfold dY jI at q⊢;rw[lv,c1,c2,c2,c3];exact q
theorem DO(e:qs M X)(hj:j<M.n)(hd:M.d j<=5):lh M X j<=99:=by
 have b:∀q,rk q<=6:=λq=>by unfold rk;repeat (first|exact fA _|refine NO aJ ?_)
 have:=b (bB M X.R j (dk X j));unfold lh tI;by_cases d:X.S j 0=0
 ·rw[d];simp
 ·by_cases h1:X.S j 0=10
  ·rw[h1];simp;omega
  ·obtain⟨f, -,RC⟩:=e.lo hj d h1;rcases RC with⟨a,_⟩|⟨a,_⟩|⟨a,_⟩<;>simp only[a,Int.reduceEq,bt,br]<;>omega
structure ME(M:eD)(k:Nat)(X:fB):Prop where
 k:qr M k X
 z:gq M X.R
theorem qr.RC(h:qr M k X)(hj:j<M.n):X.S j 0=0\/X.S j 0=1\/X.S j 0=10\/X.S j 0=11\/X.S j 0=12:=by
 by_cases a:X.S j 0=0
 ·exact .inl a
 ·by_cases h1:X.S j 0=10
  ·exact .inr (.inr (.inl h1))
  ·have:=(h.l.lo hj a h1).2.2;omega
theorem NL(hd:∀t,t<M.n->M.d t<=5)(h1:∀t,t<M.n->1<=M.d t):(yi M).Row (ME M) (λX=>sm (lh M X) M.n) (dY M) where
 I:=λk s m h=>⟨⟨m,h.k.l,by have:=h.k.o;omega⟩,h.z⟩
 V:=λk s h=>h.k
 aR:=λs j _ hj d=>by show(s.S j 0==0)=true;rw[show s.S j 0=0 from d];rfl
 aN:=λs j r d=>ac d
 aS:=λk s j r m h hj d=>by
  have o:s.S j 0=0:=d;have e:(yi M).R3 s j r={s with R:=eR M s.R j 0,S:=qd s.S j}:=ad d;refine⟨⟨qr.ask (s:=s) (j:=j) h.k m hj,?_⟩,⟨1,by omega,λi=>?_⟩,nofun⟩
  ·rw[e];exact h.z.ask hj (h1 j hj)
  ·rw[e];show qd s.S j i 0=_;unfold qd up;by_cases c:i=j
   ·subst c;simp[ag]
   ·simp[ag,c];rfl
 lR:=λs j hj d=>by show(s.S j 0==10)=true;rw[show s.S j 0=10 from d];rfl
 lN:=λs j d=>ac d
 lS:=λk s j m h hj d=>by
  have e:i1 M s j=es M s j 0:=ad d;refine⟨⟨qr.leave (s:=s) (j:=j) h.k m hj,h.z.leave hj (h1 j hj)⟩,?_⟩;show∃x:Int,10<x/\∀i:Nat,(i1 M s j).S i 0=_;rw[e];unfold es gZ;have q:∀(a b:Int)(i:Nat),aa (aa s.S j 3 a) j 0 b i 0=up (λi=>s.S i 0) j b i:=λa b i=>by
   unfold up;by_cases c:i=j
   ·subst c;simp[ag]
   ·simp[ag,c]
  split
  ·exact⟨12,by omega,q _ _⟩
  ·exact⟨11,by omega,q _ _⟩
 lW:=λk s j h hj d=>by
  have o:s.S j 0=10:=d;have e:i1 M s j=es M s j 0:=ad d;obtain⟨ph,p,ha⟩:=h.k.l;have D:ph j= .hold:=by
   have a:=ha j hj;cases e:ph j with
   |rest=>rw[e] at a;have:s.S j 0=0:=a;omega
   |hold=>rfl
   |T3 c=>rw[e] at a;exact a.elim
   |down c=>rw[e] at a;exact a.elim
   |Tf c=>rw[e] at a;have:=a.1;omega
   |pass c=>rw[e] at a;have:=a.1;omega
   |out c=>rw[e] at a;have:=a.1;omega
  obtain⟨b1,z, -⟩:=p.Uj hj D (h1 j hj);show sm (lh M (i1 M s j)) M.n<_;rw[e];have w0:lh M s j=10*M.d j+3:=by unfold lh tI;rw[o];rfl
  have:=cd (n:=M.n) (f:=lh M s) (g:=lh M (es M s j 0)) hj λi hi hne=>b1.w h.k.l hi hne;show _<sm (lh M s) M.n;omega
 st:=λk s j m h hj=>by
  have ho:s.A.ops<1000000000:=by have:=h.k.o;omega
  obtain⟨b1,z,b3,A⟩:=h.k.l.live hj ho;refine⟨⟨qr.step (s:=s) (j:=j) h.k m hj,h.k.l.z h.z hj ho⟩,⟨λx y=>?_,λhs=>?_⟩,A,nofun⟩
  ·rcases z x y with q|q
   ·exact .inl q
   ·have:=cd (n:=M.n) (f:=lh M s) (g:=lh M (eK M s j (dk s j))) hj λi hi hne=>b1.w h.k.l hi hne;exact .inr (by show sm (lh M (eK M s j (dk s j))) M.n<sm (lh M s) M.n;omega)
  ·obtain⟨c1,c2,c3⟩:=b3 hs;refine⟨xm (gE λi _=>(zr c1 c2 c3 i).1),λi hi=>⟨(zr c1 c2 c3 i).2,?_,?_⟩⟩
   ·show(eK M s j (dk s j)).S i 0=0↔s.S i 0=0;rw[c1]
   ·show(eK M s j (dk s j)).S i 0=10↔s.S i 0=10;rw[c1]
 pc:=λk s j h hj=>by have:=h.k.RC hj;show 0<=s.S j 0;omega
 sp:=λs j h=>by have:=h.1;show s.S j 0≠0/\s.S j 0≠10;omega
 stuck:=λk s h hs=>by
  by_cases c:∃j,j<M.n/\s.S j 0=10
  ·exact .inl c
  ·obtain⟨ph,p,ha⟩:=h.k.l;refine .inr λj hj=>DN p ha (λt ht=>?_) h.z hj;rcases hs t ht with a|a|a
   ·exact .inl a
   ·exact am ⟨t,ht,a⟩ c
   ·exact .inr a
 top:=λk s h hn=>by
  have a:sm (lh M s) M.n<=M.n*99:=lj λj hj=>DO h.k.l hj (hd j hj);have c:M.n<=6:=hn;omega
 S2:=nofun
 out:=nofun
 lone:=λ_ k s u hn h v ho=>by
  have a:=DO h.k.l v (hd u v);have b:sm (lh M s) M.n=lh M s u:=i8 v λi hi hne=>by
   have:s.S i 0=0:=ho i hi hne;unfold lh tI;rw[this];rfl
  omega
end
section
variable{P T:List Int}{bud:Int}
theorem tS(a:jD P):∀(f:Nat)(y:Int),y<P.length->(dZ P f y).length=cM P f y
 | 0,_,_=>rfl
 |f+1,y,b=>by
  unfold dZ cM;by_cases h:y<0
  ·rw[ad h,ac aO];rfl
  ·obtain⟨v,rfl⟩:=ix (show 0<=y by omega);rw[ac h,ad ⟨by omega,b⟩,xp,tS a f _ ?_]
   ·omega
   ·rw[cH];by_cases e:v=0
    ·subst e;rw[a.1];omega
    ·have:=a.2 v aO aO;omega
theorem Hi(a:ea P T)(e:0<=bud/\bud<=1000):ME (B1 P T bud) 0 (Mv P T)/\(∀t,t<(B1 P T bud).n->(B1 P T bud).d t<=5)/\∀t,t<(B1 P T bud).n->1<=(B1 P T bud).d t:=by
 refine⟨⟨Rh a e,λv i h=>am rfl h⟩,λt ht=>?_,λt ht=>(uw a ht).1⟩;have ht:t<T.length:=ht;show(dZ P 40 (T[t]?.getD 0)).length<=5;have hm:=a.ends (T[t]?.getD 0) (by rw[eB ht];exact lB ht);generalize T[t]?.getD 0=y at*;have b:=hm;unfold ee at hm;simp only[xn,O6] at hm;obtain⟨v,rfl⟩:=ix hm.1.1;have hv:v<P.length:=by omega
 have:=a.size.2.1;rw[tS a.tree 40 _ aO,iH a.tree v hv 40 aO,<-iH a.tree v hv P.length aO];exact(a.even v v hv hv b b).2
end
end Go.Proofs.YteijjhahgabalaaGreat
