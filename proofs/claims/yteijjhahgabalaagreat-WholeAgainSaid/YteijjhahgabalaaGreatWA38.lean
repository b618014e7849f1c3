/- The walk of the law WholeAgain, out of what a world of a spec comes to. -/
import Derived.Laws.OwnMore
import Derived.OwnWalk
import Derived.Test.YteijjhahgabalaaGreatWA32
import Derived.Test.YteijjhahgabalaaGreatWA35
set_option maxRecDepth 100000
set_option maxHeartbeats 8000000
set_option linter.all false
namespace Go.Proofs.YteijjhahgabalaaGreat
open Go.RowKit
open Tryz
section
variable{P:Program} {ops:Array Oper} {rest:List Oper} {o:Oper} {a:Act} {Q:Exit→Act→World→Prop} {w:World}
theorem CM (hg:o.guard=none) (s x:Operand) (t:TypeId) (hop:o.op= .call {callee:=.builtin .append,args:=#[s,x],argTypes:=#[t,t]})
 (base:Nat) (e:TypeId) (i:TypeInfo) (z:Value) (size bytes:Nat) (ht:P.underlying t=some (.slice e)) (hi:P.info? e=some i) (hz:i.zero=some z)
 (hsize:i.size=size) (hby:i.bytes=bytes) (hzs:z.cells.size=size) (hsz:0<size)
 (v:Value) (n:Nat) (xs:List Value) (hs:a.eval s=v) (hown:w.ownsRow base e size v n xs)
 (v2:Value) (base2 m:Nat) (news:List Value) (hx:a.eval x=v2) (hown2:w.ownsRow base2 e size v2 m news) (h1:∀u∈news,u.oneCell'=true)
 (h63:n+m≤maxLen) (hbytes:(n+m)*bytes≤140737488355328) (hbase:base≤w.heap.size)
 (h:∀v' w',w'.ownsRow base e size v' (n+m) (xs++news)→w.grownBy w' v.ownBlock→wpList P ops Q rest (a.put o.dst v') w'):wpList P ops Q (o::rest) a w:=by
 obtain⟨hl,h2⟩:=hown2;rcases h2 with⟨rfl,rfl⟩|⟨g,cap,cur,rfl,hgb,hh,hn,hc,hcur,htk⟩
 ·have hnews:news=[]:=List.eq_nil_of_length_eq_zero (by simpa using hl);subst hnews;refine wpList_plain hg fun K hK'=>?_;have hrun:=run_append_owned_none (P:=P) w base t o.type e i size ht hi v n xs hown;unfold Oper.wp;simp[execOp,hop,resolve,invoke,builtin,hs,hx,hrun,Result.andThen];exact hK' _ _ (h v w (by simpa using hown) (World.grownBy.refl _ _))
 ·refine wpList_append_own w hg s x t hop base e i z size bytes ht hi hz hsize hby hzs hsz v n xs hs hown ⟨g,0,none⟩ m cap news hx hl (fun j u hu=>?_) h1 h63 hbytes hbase (fun v' w' q1 q2 _=>h v' w' q1 q2);have hH:am w g cur.toList e:=by unfold am;simpa using hh
  have hj:j<news.length:=(List.getElem?_eq_some_iff.1 hu).1;have e1:(⟨g,0,none⟩:Addr).add j=⟨g,j,none⟩:=by simp[Addr.add];omega
  rw[e1];refine hH.cell ?_;rw[←htk,List.getElem?_take_of_lt aO] at hu;exact hu
end
theorem iw.take {n:Nat} {w:World} {la:Option Addr} {lc:Nat} {acts:List (Int×Int)} (h:iw n w (.slice la acts.length lc) acts) {k:Nat} (hk:k≤acts.length):iw n w (.slice la k lc) (acts.take k):=by
 obtain⟨a,cap,hv,h2,h4,h5,h3⟩:=h;obtain⟨rfl,rfl⟩:la=a∧lc=cap:=by injection hv with q1 q2 q3;exact⟨q1,q3⟩
 have hl:(acts.take k).length=k:=by rw[List.length_take];omega
 refine⟨la,lc,by rw[hl],by omega,by omega,h5,fun h0=>?_⟩;obtain⟨b,off,e,hb,hc⟩:=h3 aO;exact⟨b,off,e,hb,fun i x hx=>hc i x (by rw[List.getElem?_take] at hx;split at hx;exact hx;cases hx)⟩
theorem iw.drop1 {n:Nat} {w:World} {la:Option Addr} {lc:Nat} {acts:List (Int×Int)} (h:iw n w (.slice la acts.length lc) acts) {k:Nat} (hk:k≤acts.length) (hc:lc=k):iw n w (.slice la (acts.length - k) 0) (acts.drop k):=by
 obtain⟨a,cap,hv,h2,h4,h5,h3⟩:=h;obtain⟨rfl,rfl⟩:la=a∧lc=cap:=by injection hv with q1 q2 q3;exact⟨q1,q3⟩
 have hl:(acts.drop k).length=acts.length - k:=List.length_drop;exact⟨la,0,by rw[hl],by omega,by omega,fun _=>rfl,fun h0=>by omega⟩
theorem iw.drop2 {n:Nat} {w:World} {ad:Addr} {lc:Nat} {acts:List (Int×Int)} (h:iw n w (.slice (some ad) acts.length lc) acts) {k:Nat} (hk:k≤acts.length):iw n w (.slice (some (ad.add (k*2))) (acts.length - k) (lc - k)) (acts.drop k):=by
 obtain⟨a,cap,hv,h2,h4,h5,h3⟩:=h;obtain⟨rfl,rfl⟩:some ad=a∧lc=cap:=by injection hv with q1 q2 q3;exact⟨q1,q3⟩
 have hl:(acts.drop k).length=acts.length - k:=List.length_drop;refine⟨_,_,by rw[hl],by omega,by omega,fun e=>(by cases e),fun h0=>?_⟩;obtain⟨b,off,e,hb,hc⟩:=h3 aO;obtain rfl:=Option.some.inj e;refine⟨b,off+k*2,?_,hb,fun i x hx=>?_⟩
 ·congr 1;unfold Addr.add;split
  ·rename_i h0;rw[h0];rfl
  ·rfl
 ·rw[List.getElem?_drop] at hx;obtain⟨c0,c1⟩:=hc _ _ hx;have e1:off+k*2+i*2=off+(k+i)*2:=by omega
  rw[e1];exact⟨c0,c1⟩
theorem FH (es:List AU):∀u∈bT es,u.oneCell'=true:=by
 intro u hu;unfold bT at hu;obtain⟨e,_,he⟩:=List.mem_flatMap.1 hu;simp at he;rcases he with rfl|rfl|rfl|rfl<;>rfl
section
variable{w:World} {a b l:Value} {P T:List Int} {x0 x1 x2 x3 x4:Int} {acts:List (Int×Int)} {p:LP} {s0:p.σ}
theorem JZ (hN:fR P T (kM x0 x1 x2 x3) p s0) (hx:a7 w 0 a P) (hy:a7 w 0 b T) (h0:0≤x0∧x0<256) (h1:0≤x1∧x1<256) (h2:0≤x2∧x2<256) (h3:0≤x3∧x3<256) (h4:0≤x4∧x4<256) (hl:iw w.heap.size w l acts) (hn:acts.length≤100) (hs:fw P T 8) (HAW:∀W,Calls prog 8 #[] W fun e w'=>e= .returned true∧ae [] W w'):
 Calls prog 5 #[.agg #[a,b],.agg #[.int .u8 x0,.int .u8 x1,.int .u8 x2,.int .u8 x3],.agg #[l,.int .u8 x4]] w fun e w'=>e= .returned true∧Below w.heap.size w w':=by
 obtain⟨i0,hi,hz0,hz1,hz2⟩:=info_parts tf;have HI:=aH (And.intro hi (And.intro hz0 (And.intro hz1 hz2)));have HMD:=aH (fun(W:World) (hf:ae [] w W)=>uu (m:=8) W (fun _=>hN) (hx.frm hf aS) (hy.frm hf aS) h0 h1 h2 h3);have HSM:=aH (fun(W:World) (hf:ae [] w W)=>lB W (hx.frm hf aS) (hy.frm hf aS) 8);have HX:=aH hx;have HY:=aH hy;have HS:=aH hs;have HNW:=aH hN;have HL:=aH hl;obtain⟨la,lc,rfl, -,hlc,hlz, -⟩:=hl;have d1:decide ((100:Int)<acts.length)=false:=aB;have d2:decide (100<acts.length)=false:=aB;obtain⟨a1,cap1,rfl, -, -⟩:=hx;obtain⟨a2,cap2,rfl, -, -⟩:=hy;have HAWK:=aH HAW;clear HAW;have hnot:= @aX prog;have hB0:=((am.new w #[.slice a1 P.length cap1,.slice a2 T.length cap2] 24).alloc (.cells #[.int .u8 x0,.int .u8 x1,.int .u8 x2,.int .u8 x3] 25)).alloc (.cells #[.slice la acts.length lc,.int .u8 x4] 57);have hB1:=(am.new (w.alloc (.cells #[.slice a1 P.length cap1,.slice a2 T.length cap2] 24)) #[.int .u8 x0,.int .u8 x1,.int .u8 x2,.int .u8 x3] 25).alloc (.cells #[.slice la acts.length lc,.int .u8 x4] 57);have hB2:=am.new ((w.alloc (.cells #[.slice a1 P.length cap1,.slice a2 T.length cap2] 24)).alloc (.cells #[.int .u8 x0,.int .u8 x1,.int .u8 x2,.int .u8 x3] 25)) #[.slice la acts.length lc,.int .u8 x4] 57;rw[World.size_alloc] at hB1;rw[World.size_alloc,World.size_alloc] at hB2;have HB0:=aH hB0;have HB1:=aH hB1;have HB2:=aH hB2;have HF0:=aH ((((ae.refl [] w).alloc (.cells #[.slice a1 P.length cap1,.slice a2 T.length cap2] 24)).alloc (.cells #[.int .u8 x0,.int .u8 x1,.int .u8 x2,.int .u8 x3] 25)).alloc (.cells #[.slice la acts.length lc,.int .u8 x4] 57));clear h0 h1 h2 h3 hs hN hi hz0 hz1 hz2 hB0 hB1 hB2;go_enter func5,ntmps5;go_wp2_with fail;generalize((w.alloc (.cells #[.slice a1 P.length cap1,.slice a2 T.length cap2] 24)).alloc (.cells #[.int .u8 x0,.int .u8 x1,.int .u8 x2,.int .u8 x3] 25)).alloc (.cells #[.slice la acts.length lc,.int .u8 x4] 57)=W0 at*;have hne:=aW [] W0;have g0:∀q:HW (fun wx=>ae [] W0 wx),q.w.cell? (w.heap.size,0)=some (.slice a1 P.length cap1):=fun q=>(HB0.o.frm q.h aS).cell (i:=0) rfl;have g1:∀q:HW (fun wx=>ae [] W0 wx),q.w.cell? (w.heap.size,1)=some (.slice a2 T.length cap2):=fun q=>(HB0.o.frm q.h aS).cell (i:=1) rfl;have k0:∀q:HW (fun wx=>ae [] W0 wx),q.w.cell? (w.heap.size+1,0)=some (.int .u8 x0):=fun q=>(HB1.o.frm q.h aS).cell (i:=0) rfl;have k1:∀q:HW (fun wx=>ae [] W0 wx),q.w.cell? (w.heap.size+1,1)=some (.int .u8 x1):=fun q=>(HB1.o.frm q.h aS).cell (i:=1) rfl;have k2:∀q:HW (fun wx=>ae [] W0 wx),q.w.cell? (w.heap.size+1,2)=some (.int .u8 x2):=fun q=>(HB1.o.frm q.h aS).cell (i:=2) rfl;have k3:∀q:HW (fun wx=>ae [] W0 wx),q.w.cell? (w.heap.size+1,3)=some (.int .u8 x3):=fun q=>(HB1.o.frm q.h aS).cell (i:=3) rfl;refine aG (fun wx=>ae [] W0 wx) ?_;refine aR (fuel:=4) [0,1,3,4] rfl aF.drew1 ?_;intro Kq hK;repeat (go_big_quiet_step (fail))
 refine wpQuiet_nil (hK _ ?_);clear hK Kq;refine aL 2 (fuel:=3) rfl ?_;go_wp2_with fail;refine(HMD.o _ (HF0.o.drew1)).mono ?_;rintro e w1 ⟨hF,hm⟩;have HF1:=aH (((ae.refl [] W0).drew1).trans hF);rcases hm with⟨hm, -⟩|⟨-,b1,wo,tb,lk,hb1,rfl,hW1,hz1⟩
 ·exact absurd HS.o hm
 have HK1:=aH hb1;have HW1:=aH hW1;have HZ1:=aH (fun z h=>Nat.le_trans HF0.o.size (hz1 z h));clear hF hb1 hW1 hz1;go_wp2_with fail;refine af ⟨HF1.o,?_⟩;refine aL 5 (fuel:=2) rfl ?_;go_wp2_with fail;refine(HMD.o _ (HF0.o.trans HF1.o)).mono ?_;rintro e w2 ⟨hF,hm⟩;have HF2:=aH (HF1.o.trans hF);rcases hm with⟨hm, -⟩|⟨-,b2,wo2,tb2,lk2,hb2,rfl,hW2,hz2⟩
 ·exact absurd HS.o hm
 have HK2:=aH hb2;have HW2:=aH hW2;have HV2:=aH (HW1.o.same HK1.o hF);have HZ2:=aH (fun z h=>Nat.le_trans (HF0.o.trans HF1.o).size (hz2 z h));have HZC:=aH (show∀z∈b1.Z,z<w2.heap.size from fun z h=>by obtain⟨_,_,hh,_⟩:=HK1.o.free _ _ HW1.o.lo.at_ z h;have:=hh.lt;have:=hF.size;omega);have HZB:=aH (show∀z∈b2.Z,z<w2.heap.size from fun z h=>by obtain⟨_,_,hh,_⟩:=HK2.o.free _ _ HW2.o.lo.at_ z h;exact hh.lt);have HAP:=aH (show∀z∈b1.Z,z∉b2.Z from fun z h1 h2=>by
  obtain⟨_,_,hh,_⟩:=HK1.o.free _ _ HW1.o.lo.at_ z h1;have:=hh.lt;have:=hz2 z h2;omega)
 clear hF hb2 hW2 hz2 HW1;go_wp2_with fail;refine af ⟨HF2.o,?_⟩;refine aR (fuel:=0) [6,7] rfl HF2.o ?_;intro Kq hK;repeat (go_big_quiet_step (fail))
 refine wpQuiet_nil (hK _ ?_);clear hK Kq hne g0 g1 k0 k1 k2 k3;refine aN ?_;have hb0:=HB0.o.frm HF2.o aS;have hb2:=HB2.o.frm HF2.o aS;have c0:=hb0.cell (i:=0) rfl;have c1:=hb0.cell (i:=1) rfl;have q0:=hb2.cell (i:=0) rfl;have q1:=hb2.cell (i:=1) rfl;have HB2':=aH hb2;have HFA:=aH (HF0.o.trans HF2.o);clear hb0 hb2 HF1 HF2 HMD HB0 HB1 HB2 HF0;go_wp2_with fail;refine(HSM.o _ HFA.o).mono ?_;rintro e w3 ⟨r,rfl,hr,hF⟩;obtain rfl:r=true:=hr.2 HS.o;have HF3:=aH (HFA.o.trans hF);have HV3:=aH (HV2.o.same HK1.o hF);have HW3:=aH (HW2.o.same HK2.o hF);have HB3:=aH (HB2'.o.frm hF aS);have hsz23:=hF.size;clear hF hr c0 c1 q0 q1 HFA HV2 HW2 HB2';have q0:=HB3.o.cell (i:=0) rfl;have q1:=HB3.o.cell (i:=1) rfl;have l1:(acts.length:Int)+1≠0:=by omega
 go_wp2_with fail;refine(qM HK1.o HNW.o.ok HNW.o.i0 aO HV3.o (HL.o.old HF3.o aS) HF3.o.size HZ1.o).mono ?_;rintro e w4 ⟨va,rfl,hO,hV,hF⟩;have HW4:=aH (HW3.o.stay HK2.o hF (HK1.o.free _ _ HV3.o.lo.at_) HAP.o);have HV4:=aH hV;have HOA:=aH hO;have HL4:=aH (show∀g,va.ownBlock=some g→g<w4.heap.size from fun g hg=>(bh hO g hg).2);have HB4:=aH (HB3.o.frm hF ((HK1.o.free _ _ HV3.o.lo.at_).not HB3.o));have HF4:=aH ((HF3.o.mono (S':=b1.Z++b2.Z) aS).trans (hF.mono (by intro z hz;exact List.mem_append_left _ hz)));have hsz3:=HF3.o.size;have hsz4:=hF.size;clear hO hV hF q0 q1 HB3 HF3 HV3 HW3;have q0:=HB4.o.cell (i:=0) rfl;have q1:=HB4.o.cell (i:=1) rfl;obtain⟨kk,hkk⟩:∃kk:Nat,x4%((acts.length:Int)+1)=kk:=⟨(x4%((acts.length:Int)+1)).toNat,by have:=Int.emod_nonneg x4 l1;omega⟩
 have hkl:kk≤acts.length:=by have:=Int.emod_lt_of_pos x4 (show(0:Int)<(acts.length:Int)+1 by omega);omega
 rw[hkk];clear hkk l1;go_wp2_with fail;have hpk:=HL.o.take hkl;have htl:(acts.take kk).length=kk:=by rw[List.length_take];omega
 refine(qM HK2.o HNW.o.ok HNW.o.i0 aO HW4.o (hpk.old HF4.o (fun z hz=>by rcases List.mem_append.1 hz with e|e;exact HZ1.o z e;exact HZ2.o z e)) HF4.o.size HZ2.o).mono ?_;rintro e w5 ⟨vb,rfl,hO,hW,hF⟩;have hfr:=HK2.o.free _ _ HW4.o.lo.at_;have HV5:=aH (HV4.o.stay HK1.o hF hfr (fun z h1 h2=>HAP.o z h2 h1));have HW5:=aH hW;rw[htl] at hO;have HOB:=aH hO;have HOA5:=aH (bk HOA.o hF (fun g hg hm=>by
  have:=(bh HOA.o g hg).1;have:=HZB.o g hm;omega))
 have HB5:=aH (HB4.o.frm hF (hfr.not HB4.o));have HF5:=aH (HF4.o.trans (hF.mono (by intro z hz;exact List.mem_append_right _ hz)));have hsz5:=hF.size;clear hO hW hF hfr q0 q1 HB4 HF4 HV4 HW4 HOA hpk htl;have q0:=HB5.o.cell (i:=0) rfl;have q1:=HB5.o.cell (i:=1) rfl;have HI2:=aH (show p.I kk (p.aft s0 (acts.take kk)) from by
  have:=HNW.o.ok.aft HNW.o.i0 (acts.take kk) (by rw[List.length_take];omega)
  rwa [List.length_take,Nat.min_eq_left hkl,Nat.zero_add] at this)
 by_cases hck:lc=kk
 ·have HPD:=aH (HL.o.drop1 hkl hck);go_wp2_with fail;have hpk:=HPD.o;have htl:(acts.drop kk).length=acts.length - kk:=List.length_drop;refine(qM HK2.o HNW.o.ok HI2.o aO HW5.o (hpk.old HF5.o (fun z hz=>by rcases List.mem_append.1 hz with e|e;exact HZ1.o z e;exact HZ2.o z e)) HF5.o.size HZ2.o).mono ?_;rintro e w6 ⟨vc,rfl,hO,hW,hF⟩;have hfr:=HK2.o.free _ _ HW5.o.lo.at_;have HV6:=aH (HV5.o.stay HK1.o hF hfr (fun z h1 h2=>HAP.o z h2 h1));have HW6:=aH hW;rw[htl] at hO;have HOC:=aH hO;have HOA6:=aH (bk HOA5.o hF (fun g hg hm=>by
   have:=(bh HOA5.o g hg).1;have:=HZB.o g hm;omega))
  have HOB6:=aH (bk HOB.o hF (fun g hg hm=>by
   have:=(bh HOB.o g hg).1;have:=HZB.o g hm;omega))
  have HF6:=aH (HF5.o.trans (hF.mono (by intro z hz;exact List.mem_append_right _ hz)));have hsz6:=hF.size;clear hO hW hF hfr q0 q1 HB5 HF5 HV5 HW5 HOA5 HOB hpk htl HPD;go_wp2_with(at_builtin;go_must(refine CM rfl _ _ 58 rfl w4.heap.size 35 i0 (.agg #[(0:Int),(0:Int),false,(0:Int)]) 4 32 underlying58 HI.o.1 HI.o.2.1 HI.o.2.2.1 HI.o.2.2.2 rfl aJ vb kk _ rfl HOB6.o vc w5.heap.size (acts.length - kk) _ rfl HOC.o (FH _) aM aO aO ?_;intro vd w7 hown hgrow;have HOD:=aH hown;have HGR:=aH (ae.of_grown (S:=vb.ownBlock.toList) hgrow (fun k hk=>.inl (by simp[hk])));clear hown hgrow))
  have hvb:∀g∈vb.ownBlock.toList,w4.heap.size≤g:=fun g hg=>(bh HOB6.o g (by simpa using hg)).1;have hfre:dI w6 vb.ownBlock.toList:=fun z hz=>by
   rcases HOB6.o.2 with⟨e,_⟩|⟨g,cp,cur,e,hg,hh,_⟩
   ·rw[e] at hz;simp[Value.ownBlock] at hz
   ·have e2:z=g:=by rw[e] at hz;simpa[Value.ownBlock] using hz
    subst e2;exact⟨cur.toList,35,by unfold am;simpa using hh,by decide⟩
  have HV7:=aH (HV6.o.stay HK1.o HGR.o hfre (fun z h1 h2=>by have:=hvb z h1;have:=HZC.o z h2;omega));have hW7:=HW6.o.stay HK2.o HGR.o hfre (fun z h1 h2=>by have:=hvb z h1;have:=HZB.o z h2;omega);rw[←LP.aft_append,List.take_append_drop] at hW7;have HW7:=aH hW7;have hA7:=bk HOA6.o HGR.o (fun g hg hm=>by have:=hvb g hm;have:=(bh HOA6.o g hg).2;have:=HL4.o g hg;omega);have hD7:=HOD.o;have hl:=LP.evs_len (p:=p) s0 acts;have he:bT (p.evs s0 (acts.take kk))++bT (p.evs (p.aft s0 (acts.take kk)) (acts.drop kk))=bT (p.evs s0 acts):=by
   have:=LP.evs_append (p:=p) s0 (acts.take kk) (acts.drop kk);rw[List.take_append_drop] at this;rw[this];unfold bT;rw[List.flatMap_append]
  rw[he,show kk+(acts.length - kk)=acts.length by omega] at hD7;rw[←hl] at hA7 hD7;have HE1:=aH (gL.of hA7);have HE2:=aH (gL.of hD7);have HF7:=aH (HF6.o.widen HGR.o (fun z hz=>.inr (by have:=hvb z hz;have:=HF6.o.size;omega)));have hl2:(p.evs s0 acts).length≤100000:=by omega
  clear hvb hfre hW7 hA7 hD7 he hl;refine(Al HE1.o HE2.o hl2).mono ?_;rintro e w8 ⟨rfl,hF8⟩;have HF8:=aH (HF7.o.trans (hF8.mono aS));have HV8:=aH (HV7.o.same HK1.o hF8);have HW8:=aH (HW7.o.same HK2.o hF8);clear hF8;go_wp2_with fail;refine(zx HK1.o HK2.o HV8.o HW8.o).mono ?_;rintro e w9 ⟨rfl,hF9⟩;have HF9:=aH (HF8.o.trans (hF9.mono aS));clear hF9;go_wp2_with fail;refine(HAWK.o _).mono ?_;rintro e w10 ⟨rfl,hF10⟩;have HF10:=aH (HF9.o.trans (hF10.mono aS));clear hF10;go_wp2;go_ret;exact⟨rfl,HF10.o.below (Nat.le_refl _) (fun z hz=>by rcases List.mem_append.1 hz with e|e;exact HZ1.o z e;exact HZ2.o z e)⟩
 ·cases la with
  |none=>exact absurd (hlz rfl) aO
  |some ad=>
   have HPD:=aH (HL.o.drop2 hkl);go_wp2_with fail;have hpk:=HPD.o;have htl:(acts.drop kk).length=acts.length - kk:=List.length_drop;refine(qM HK2.o HNW.o.ok HI2.o aO HW5.o (hpk.old HF5.o (fun z hz=>by rcases List.mem_append.1 hz with e|e;exact HZ1.o z e;exact HZ2.o z e)) HF5.o.size HZ2.o).mono ?_;rintro e w6 ⟨vc,rfl,hO,hW,hF⟩;have hfr:=HK2.o.free _ _ HW5.o.lo.at_;have HV6:=aH (HV5.o.stay HK1.o hF hfr (fun z h1 h2=>HAP.o z h2 h1));have HW6:=aH hW;rw[htl] at hO;have HOC:=aH hO;have HOA6:=aH (bk HOA5.o hF (fun g hg hm=>by
    have:=(bh HOA5.o g hg).1;have:=HZB.o g hm;omega))
   have HOB6:=aH (bk HOB.o hF (fun g hg hm=>by
    have:=(bh HOB.o g hg).1;have:=HZB.o g hm;omega))
   have HF6:=aH (HF5.o.trans (hF.mono (by intro z hz;exact List.mem_append_right _ hz)));have hsz6:=hF.size;clear hO hW hF hfr q0 q1 HB5 HF5 HV5 HW5 HOA5 HOB hpk htl HPD;go_wp2_with(at_builtin;go_must(refine CM rfl _ _ 58 rfl w4.heap.size 35 i0 (.agg #[(0:Int),(0:Int),false,(0:Int)]) 4 32 underlying58 HI.o.1 HI.o.2.1 HI.o.2.2.1 HI.o.2.2.2 rfl aJ vb kk _ rfl HOB6.o vc w5.heap.size (acts.length - kk) _ rfl HOC.o (FH _) aM aO aO ?_;intro vd w7 hown hgrow;have HOD:=aH hown;have HGR:=aH (ae.of_grown (S:=vb.ownBlock.toList) hgrow (fun k hk=>.inl (by simp[hk])));clear hown hgrow))
   have hvb:∀g∈vb.ownBlock.toList,w4.heap.size≤g:=fun g hg=>(bh HOB6.o g (by simpa using hg)).1;have hfre:dI w6 vb.ownBlock.toList:=fun z hz=>by
    rcases HOB6.o.2 with⟨e,_⟩|⟨g,cp,cur,e,hg,hh,_⟩
    ·rw[e] at hz;simp[Value.ownBlock] at hz
    ·have e2:z=g:=by rw[e] at hz;simpa[Value.ownBlock] using hz
     subst e2;exact⟨cur.toList,35,by unfold am;simpa using hh,by decide⟩
   have HV7:=aH (HV6.o.stay HK1.o HGR.o hfre (fun z h1 h2=>by have:=hvb z h1;have:=HZC.o z h2;omega));have hW7:=HW6.o.stay HK2.o HGR.o hfre (fun z h1 h2=>by have:=hvb z h1;have:=HZB.o z h2;omega);rw[←LP.aft_append,List.take_append_drop] at hW7;have HW7:=aH hW7;have hA7:=bk HOA6.o HGR.o (fun g hg hm=>by have:=hvb g hm;have:=(bh HOA6.o g hg).2;have:=HL4.o g hg;omega);have hD7:=HOD.o;have hl:=LP.evs_len (p:=p) s0 acts;have he:bT (p.evs s0 (acts.take kk))++bT (p.evs (p.aft s0 (acts.take kk)) (acts.drop kk))=bT (p.evs s0 acts):=by
    have:=LP.evs_append (p:=p) s0 (acts.take kk) (acts.drop kk);rw[List.take_append_drop] at this;rw[this];unfold bT;rw[List.flatMap_append]
   rw[he,show kk+(acts.length - kk)=acts.length by omega] at hD7;rw[←hl] at hA7 hD7;have HE1:=aH (gL.of hA7);have HE2:=aH (gL.of hD7);have HF7:=aH (HF6.o.widen HGR.o (fun z hz=>.inr (by have:=hvb z hz;have:=HF6.o.size;omega)));have hl2:(p.evs s0 acts).length≤100000:=by omega
   clear hvb hfre hW7 hA7 hD7 he hl;refine(Al HE1.o HE2.o hl2).mono ?_;rintro e w8 ⟨rfl,hF8⟩;have HF8:=aH (HF7.o.trans (hF8.mono aS));have HV8:=aH (HV7.o.same HK1.o hF8);have HW8:=aH (HW7.o.same HK2.o hF8);clear hF8;go_wp2_with fail;refine(zx HK1.o HK2.o HV8.o HW8.o).mono ?_;rintro e w9 ⟨rfl,hF9⟩;have HF9:=aH (HF8.o.trans (hF9.mono aS));clear hF9;go_wp2_with fail;refine(HAWK.o _).mono ?_;rintro e w10 ⟨rfl,hF10⟩;have HF10:=aH (HF9.o.trans (hF10.mono aS));clear hF10;go_wp2;go_ret;exact⟨rfl,HF10.o.below (Nat.le_refl _) (fun z hz=>by rcases List.mem_append.1 hz with e|e;exact HZ1.o z e;exact HZ2.o z e)⟩
theorem GD:(∀{w:World} {a b l:Value} {P T:List Int} {x0 x1 x2 x3 x4:Int} {acts:List (Int×Int)} {p:LP} {s0:p.σ} (hN:fw P T 8→fR P T (kM x0 x1 x2 x3) p s0) (hx:a7 w 0 a P) (hy:a7 w 0 b T) (h0:0≤x0∧x0<256) (h1:0≤x1∧x1<256) (h2:0≤x2∧x2<256) (h3:0≤x3∧x3<256) (h4:0≤x4∧x4<256) (hl:iw w.heap.size w l acts) (hn:100<acts.length) (HAW:∀W,Calls prog 8 #[] W fun e w'=>e= .returned true∧ae [] W w'),Calls prog 5 #[.agg #[a,b],.agg #[.int .u8 x0,.int .u8 x1,.int .u8 x2,.int .u8 x3],.agg #[l,.int .u8 x4]] w fun e w'=>e= .returned true∧Below w.heap.size w w')∧(∀{w:World} {a b l:Value} {P T:List Int} {x0 x1 x2 x3 x4:Int} {acts:List (Int×Int)} {p:LP} {s0:p.σ} (hN:fw P T 8→fR P T (kM x0 x1 x2 x3) p s0) (hx:a7 w 0 a P) (hy:a7 w 0 b T) (h0:0≤x0∧x0<256) (h1:0≤x1∧x1<256) (h2:0≤x2∧x2<256) (h3:0≤x3∧x3<256) (h4:0≤x4∧x4<256) (hl:iw w.heap.size w l acts) (hn:acts.length≤100) (hs:¬fw P T 8) (HAW:∀W,Calls prog 8 #[] W fun e w'=>e= .returned true∧ae [] W w'),Calls prog 5 #[.agg #[a,b],.agg #[.int .u8 x0,.int .u8 x1,.int .u8 x2,.int .u8 x3],.agg #[l,.int .u8 x4]] w fun e w'=>e= .returned true∧Below w.heap.size w w'):=by
 refine⟨?_,?_⟩;intro w a b l P T x0 x1 x2 x3 x4 acts p s0 hN hx hy h0 h1 h2 h3 h4 hl hn HAW;rotate_left;intro w a b l P T x0 x1 x2 x3 x4 acts p s0 hN hx hy h0 h1 h2 h3 h4 hl hn hs HAW;rotate_left;all_goals
  obtain⟨i0,hi,hz0,hz1,hz2⟩:=info_parts tf;have HI:=aH (And.intro hi (And.intro hz0 (And.intro hz1 hz2)));have HMD:=aH (fun(W:World) (hf:ae [] w W)=>uu (m:=8) W hN (hx.frm hf aS) (hy.frm hf aS) h0 h1 h2 h3);have HSM:=aH (fun(W:World) (hf:ae [] w W)=>lB W (hx.frm hf aS) (hy.frm hf aS) 8);have HX:=aH hx;have HY:=aH hy
 rotate_left;have HS:=aH hs;rotate_left;all_goals
  obtain⟨la,lc,rfl, -, -, -, -⟩:=hl
 have d1:decide ((100:Int)<acts.length)=true:=aT;have d2:decide (100<acts.length)=true:=aT;rotate_left;have d1:decide ((100:Int)<acts.length)=false:=aB;have d2:decide (100<acts.length)=false:=aB;rotate_left;all_goals
  obtain⟨a1,cap1,rfl, -, -⟩:=hx;obtain⟨a2,cap2,rfl, -, -⟩:=hy;have HAWK:=aH HAW;clear HAW;have hnot:= @aX prog;have hB0:=((am.new w #[.slice a1 P.length cap1,.slice a2 T.length cap2] 24).alloc (.cells #[.int .u8 x0,.int .u8 x1,.int .u8 x2,.int .u8 x3] 25)).alloc (.cells #[.slice la acts.length lc,.int .u8 x4] 57);have hB1:=(am.new (w.alloc (.cells #[.slice a1 P.length cap1,.slice a2 T.length cap2] 24)) #[.int .u8 x0,.int .u8 x1,.int .u8 x2,.int .u8 x3] 25).alloc (.cells #[.slice la acts.length lc,.int .u8 x4] 57);have hB2:=am.new ((w.alloc (.cells #[.slice a1 P.length cap1,.slice a2 T.length cap2] 24)).alloc (.cells #[.int .u8 x0,.int .u8 x1,.int .u8 x2,.int .u8 x3] 25)) #[.slice la acts.length lc,.int .u8 x4] 57;rw[World.size_alloc] at hB1;rw[World.size_alloc,World.size_alloc] at hB2;have HB0:=aH hB0;have HB1:=aH hB1;have HB2:=aH hB2;have HF0:=aH ((((ae.refl [] w).alloc (.cells #[.slice a1 P.length cap1,.slice a2 T.length cap2] 24)).alloc (.cells #[.int .u8 x0,.int .u8 x1,.int .u8 x2,.int .u8 x3] 25)).alloc (.cells #[.slice la acts.length lc,.int .u8 x4] 57))
 clear h0 h1 h2 h3 hN hi hz0 hz1 hz2 hB0 hB1 hB2;rotate_left;clear h0 h1 h2 h3 hs hN hi hz0 hz1 hz2 hB0 hB1 hB2;rotate_left;all_goals
  go_enter func5,ntmps5;go_wp2_with fail;generalize((w.alloc (.cells #[.slice a1 P.length cap1,.slice a2 T.length cap2] 24)).alloc (.cells #[.int .u8 x0,.int .u8 x1,.int .u8 x2,.int .u8 x3] 25)).alloc (.cells #[.slice la acts.length lc,.int .u8 x4] 57)=W0 at*;have hne:=aW [] W0;have g0:∀q:HW (fun wx=>ae [] W0 wx),q.w.cell? (w.heap.size,0)=some (.slice a1 P.length cap1):=fun q=>(HB0.o.frm q.h aS).cell (i:=0) rfl;have g1:∀q:HW (fun wx=>ae [] W0 wx),q.w.cell? (w.heap.size,1)=some (.slice a2 T.length cap2):=fun q=>(HB0.o.frm q.h aS).cell (i:=1) rfl;have k0:∀q:HW (fun wx=>ae [] W0 wx),q.w.cell? (w.heap.size+1,0)=some (.int .u8 x0):=fun q=>(HB1.o.frm q.h aS).cell (i:=0) rfl;have k1:∀q:HW (fun wx=>ae [] W0 wx),q.w.cell? (w.heap.size+1,1)=some (.int .u8 x1):=fun q=>(HB1.o.frm q.h aS).cell (i:=1) rfl;have k2:∀q:HW (fun wx=>ae [] W0 wx),q.w.cell? (w.heap.size+1,2)=some (.int .u8 x2):=fun q=>(HB1.o.frm q.h aS).cell (i:=2) rfl;have k3:∀q:HW (fun wx=>ae [] W0 wx),q.w.cell? (w.heap.size+1,3)=some (.int .u8 x3):=fun q=>(HB1.o.frm q.h aS).cell (i:=3) rfl;refine aG (fun wx=>ae [] W0 wx) ?_;refine aR (fuel:=4) [0,1,3,4] rfl aF.drew1 ?_;intro Kq hK;repeat (go_big_quiet_step (fail))
  refine wpQuiet_nil (hK _ ?_);clear hK Kq;refine aL 2 (fuel:=3) rfl ?_;go_wp2_with fail;refine(HMD.o _ (HF0.o.drew1)).mono ?_;rintro e w1 ⟨hF,hm⟩;have HF1:=aH (((ae.refl [] W0).drew1).trans hF);clear hF;obtain⟨r1,rfl⟩:∃r1,e= .returned (.pointer r1):=by
   rcases hm with⟨-,rfl⟩|⟨-,_,_,_,_, -,rfl, -⟩
   ·exact⟨_,rfl⟩
   ·exact⟨_,rfl⟩
  clear hm;go_wp2_with fail;refine af ⟨HF1.o,?_⟩;refine aL 5 (fuel:=2) rfl ?_;go_wp2_with fail;refine(HMD.o _ (HF0.o.trans HF1.o)).mono ?_;rintro e w2 ⟨hF,hm⟩;have HF2:=aH (HF1.o.trans hF);clear hF;obtain⟨r2,rfl⟩:∃r2,e= .returned (.pointer r2):=by
   rcases hm with⟨-,rfl⟩|⟨-,_,_,_,_, -,rfl, -⟩
   ·exact⟨_,rfl⟩
   ·exact⟨_,rfl⟩
  clear hm;go_wp2_with fail;refine af ⟨HF2.o,?_⟩;refine aR (fuel:=0) [6,7] rfl HF2.o ?_;intro Kq hK;repeat (go_big_quiet_step (fail))
  refine wpQuiet_nil (hK _ ?_);clear hK Kq hne g0 g1 k0 k1 k2 k3;refine aN ?_;have hb0:=HB0.o.frm HF2.o aS;have hb2:=HB2.o.frm HF2.o aS;have c0:=hb0.cell (i:=0) rfl;have c1:=hb0.cell (i:=1) rfl;have q0:=hb2.cell (i:=0) rfl;have q1:=hb2.cell (i:=1) rfl;have HFA:=aH (HF0.o.trans HF2.o);clear hb0 hb2 HF1 HF2 HMD HB0 HB1 HB2 HF0;go_wp2_with fail
 rotate_left
 focus
  refine(HSM.o _ HFA.o).mono ?_;rintro e w3 ⟨r,rfl,hr,hF⟩;obtain rfl:r=false:=by cases r;rfl;exact absurd (hr.1 rfl) HS.o
  have HFA:=aH (HFA.o.trans hF);clear hF hr;go_wp2_with fail
 rotate_left;all_goals
  refine(HAWK.o _).mono ?_;rintro e w10 ⟨rfl,hF10⟩;have HF10:=aH (HFA.o.trans hF10);clear hF10;go_wp2;go_ret;exact⟨rfl,HF10.o.below (Nat.le_refl _) aS⟩
def Fq:= @And.left _ _ GD
def cF:= @And.right _ _ GD
def xR:LP:={σ:=Unit,n:=0,shares:=false,ar:=fun _=>AR.fresh 0,I:=fun _ _=>True,askR:=fun _ _ _=>false,askS:=fun s _ _=>s,leaveR:=fun _ _=>false,leaveS:=fun s _=>s,stepR:=fun _ _=>false,stepS:=fun s _=>s,sp:=fun _ _ _=>0,cnt:=fun _ _=>0}
theorem cE (HN:fw P T 8→∃(p:LP) (s0:p.σ),fR P T (kM x0 x1 x2 x3) p s0) (hx:a7 w 0 a P) (hy:a7 w 0 b T) (h0:0≤x0∧x0<256) (h1:0≤x1∧x1<256) (h2:0≤x2∧x2<256) (h3:0≤x3∧x3<256) (h4:0≤x4∧x4<256) (hl:iw w.heap.size w l acts) (HAW:∀W,Calls prog 8 #[] W fun e w'=>e= .returned true∧ae [] W w'):
 Calls prog 5 #[.agg #[a,b],.agg #[.int .u8 x0,.int .u8 x1,.int .u8 x2,.int .u8 x3],.agg #[l,.int .u8 x4]] w fun e w'=>e= .returned true∧Below w.heap.size w w':=by
 by_cases hs:fw P T 8
 ·obtain⟨p,s0,hN⟩:=HN hs;by_cases hn:acts.length≤100
  ·exact JZ hN hx hy h0 h1 h2 h3 h4 hl hn hs HAW
  ·exact Fq (fun _=>hN) hx hy h0 h1 h2 h3 h4 hl aO HAW
 ·by_cases hn:acts.length≤100
  ·exact cF (p:=xR) (s0:=()) (fun h=>absurd h hs) hx hy h0 h1 h2 h3 h4 hl hn hs HAW
  ·exact Fq (p:=xR) (s0:=()) (fun h=>absurd h hs) hx hy h0 h1 h2 h3 h4 hl aO HAW
end
end Go.Proofs.YteijjhahgabalaaGreat
