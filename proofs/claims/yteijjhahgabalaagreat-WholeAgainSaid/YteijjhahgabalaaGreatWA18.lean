/- Topologies: the program's own Check lets pass what may be. (Printed by gen_topoall.py.) -/
import Derived.Deep.RegionWith
import Derived.Test.YteijjhahgabalaaGreatWA17
set_option maxRecDepth 100000
set_option maxHeartbeats 8000000
set_option linter.all false
namespace Go.Proofs.YteijjhahgabalaaGreat
open Go.RowKit
open Tryz
def TC6 (P:List Int) (w0 wx:World) (s5 s6:Value):Prop:=∃(eb g:Nat) (u:Value),s5= .pointer (some ⟨eb,0,none⟩)∧s6= .slice (some ⟨g,0,none⟩) P.length P.length∧wx.cell? (eb,0)=some u∧a7 wx 0 u (cD P P.length)∧am wx g (fA P.length (fun v=>(bR P P.length v:Int))) 3∧ae [] w0 wx
theorem iZ (w:World) {b1 b2:Nat} {v u:Value} {P T:List Int} (hx:a7 w b1 v P) (hy:a7 w b2 u T) (hs:du P T):
 Calls prog 56 #[.agg #[v,u]] w fun e w'=>e= .returned (0:Int)∧ae [] w w':=by
 have HOK:=aH hs;have hlen:(cD P P.length).length≤P.length:=by unfold cD;rw[List.length_map];exact Nat.le_trans (List.length_filter_le _ _) aS
 obtain⟨s1,s2,s3,s4⟩:=hs.size;have HX:=aH (fun(W:World) (hf:ae [] w W)=>hx.frm hf aS);have HY:=aH (fun(W:World) (hf:ae [] w W)=>hy.frm hf aS);have HT:=aH (fun(W:World) (hf:ae [] w W)=>BT (hx.frm hf aS) aO hs.tree);have HLV:=aH (fun(W:World) (hf:ae [] w W)=>pt (hx.frm hf aS) aO hs.tree);have HDP:=aH (fun(W:World) (hf:ae [] w W)=>vD (hx.frm hf aS) aO hs.tree);have hends:=hs.ends;have HEV:=aH hs.even;have HCF:=aH (fun(W:World) (hf:ae [] w W) (u':Value) (eb:Nat) (h1:a7 W 0 u' (cD P P.length)) (h2:W.cell? (eb,0)=some u')=>mN (hy.frm hf aS) h1 aO aO (fun t ht=>r4 (hends t ht)) h2);obtain⟨a,cap,rfl, -, -⟩:=hx;obtain⟨a',cap',rfl, -, -⟩:=hy;have d1:decide ((P.length:Int)<1)=false:=aB;have d2:decide ((32:Int)<P.length)=false:=aB;have d3:decide ((T.length:Int)<1)=false:=aB;have d4:decide ((32:Int)<T.length)=false:=aB;have d5:decide (P.length<1)=false:=aB;have d6:decide (32<P.length)=false:=aB;have d7:decide (T.length<1)=false:=aB;have d8:decide (32<T.length)=false:=aB;clear hs hends;go_enter func56,ntmps56
 go_upto_region 1 with fail
 generalize hW:World.alloc _ _=W;have hB:am W w.heap.size [.slice a P.length cap,.slice a' T.length cap'] 24:=by subst hW;exact am.new w _ _
 have hF:ae [] w W:=by subst hW;exact aF.alloc _
 have HB:=aH hB;have HF:=aH hF;clear hW hB hF;have hne:=aW [] W;have hz0:∀q:HW (fun wx=>ae [] W wx),q.w.cell? (w.heap.size,0)=some (.slice a P.length cap):=fun q=>(HB.o.frm q.h aS).cell (i:=0) rfl;have hz1:∀q:HW (fun wx=>ae [] W wx),q.w.cell? (w.heap.size,1)=some (.slice a' T.length cap'):=fun q=>(HB.o.frm q.h aS).cell (i:=1) rfl;refine aG (fun wx=>ae [] W wx) ?_;refine aR (fuel:=0) [0,1,2,3,4,5,6,7] rfl aF.drew1 ?_;intro K hK;repeat (go_big_quiet_step (fail))
 refine wpQuiet_nil (hK _ ?_);clear hK K;refine aN ?_;have HB2:=aH HB.o.drew1;have HF2:=aH HF.o.drew1;clear HB HF hne hz0 hz1;generalize W.drew=W2 at*;have k0:=HB2.o.cell (i:=0) rfl;have k1:=HB2.o.cell (i:=1) rfl;go_wp2_with fail;refine(HT.o _ HF2.o).mono ?_;rintro e w' ⟨rfl,rfl⟩;go_wp2_with fail
 go_cut[5,6] (fun s5 s6 wx=>TC6 P W2 wx s5 s6)
 case rest=>
  obtain⟨eb,g,ux,rfl,rfl,hc,hr,hg,hF⟩:=hcut;have HRW:=aH hr;have HG:=aH hg;have HC:=aH hc;have HF3:=aH (HF2.o.trans hF);have HB3:=aH (HB2.o.frm hF aS);obtain⟨a3,cap3,rfl, -,hrow⟩:=hr;have HROW:=aH hrow;have hle:=hlen;generalize hE:cD P P.length=E at*;have HE:=aH (show∀x∈E,∃v:Nat,x=v∧v<P.length∧df P v=true from fun x hx=>wj (by rw[hE];exact hx));clear hg hF hrow hE k0 k1 hlen;go_wp2_with fail;go_loopw[41] (fun iv wx=>∃k:Nat,iv= .int .i64 k∧k≤E.length∧ae [] wc wx) (fun iv _=>E.length - (intOf iv).toNat)
  case atStart=>exact⟨0,rfl,by omega,aF⟩
  case round=>
   obtain⟨k,rfl,hk,hF⟩:=hrel;have HFR:=aH hF;clear hF;by_cases hlt:k<E.length
   ·have e0:decide ((k:Int)<E.length)=true:=by simpa using hlt
    have e0':decide (k<E.length)=true:=by simpa using hlt
    have l1:(k:Int)<E.length:=by omega
    have l0:(0:Int)<E.length:=by omega
    obtain⟨b,off, -,rfl,hcc⟩:=HROW.o aO;have ck:=hcc k hlt;have cz:=hcc 0 aO;obtain⟨vk,hvk,hvl,hvt⟩:=HE.o (E[k]?.getD 0) (by rw[List.getElem?_eq_getElem hlt];exact List.getElem_mem _);obtain⟨vz,hvz,hzl,hzt⟩:=HE.o (E[0]?.getD 0) (by rw[List.getElem?_eq_getElem aO];exact List.getElem_mem _);obtain⟨q1,q2⟩:=HEV.o vk vz hvl hzl hvt hzt;rw[hvk] at ck;rw[hvz] at cz;have g1:=HG.o.cell (i:=vk) (di _ hvl);have g2:=HG.o.cell (i:=vz) (di _ hzl);rw[←q1] at g2;simp only[Nat.add_zero] at cz;generalize bR P P.length vk=dd at*;have m1:(vk:Int)<P.length:=by omega
    have m2:(vz:Int)<P.length:=by omega
    have m3:decide ((5:Int)<dd)=false:=aB;have m4:decide (5<dd)=false:=aB;have x1:=HFR.o.cell ck aS;clear hcc q1 hvt hzt hvk hvz HE;have hne:=aW [] wr;have hz0:∀q:HW (fun wx=>ae [] wr wx),q.w.cell? (b,off+k)=some (.int .i64 vk):=fun q=>q.h.cell x1 aS;have hz1:∀q:HW (fun wx=>ae [] wr wx),q.w.cell? (b,off)=some (.int .i64 vz):=fun q=>q.h.cell (HFR.o.cell cz aS) aS;have hz2:∀q:HW (fun wx=>ae [] wr wx),q.w.cell? (g,vk)=some (.int .i64 dd):=fun q=>q.h.cell (HFR.o.cell g1 aS) aS;have hz3:∀q:HW (fun wx=>ae [] wr wx),q.w.cell? (g,vz)=some (.int .i64 dd):=fun q=>q.h.cell (HFR.o.cell g2 aS) aS;have hz4:∀q:HW (fun wx=>ae [] wr wx),q.w.cell? (eb,0)=some (.slice (some ⟨b,off,none⟩) E.length cap3):=fun q=>q.h.cell (HFR.o.cell HC.o aS) aS
    go_upto_region 10 with fail
    refine aG (fun wx=>ae [] wr wx) ?_;refine aR (fuel:=0) [0,1,2,3,4,5,6,7,8,9,10,11,12,13,14,15,16,17] rfl aF.drew1 ?_;intro K hK;repeat (go_big_quiet_step (fail))
    refine wpQuiet_nil (hK _ ?_);clear hK K;refine aN ?_;have HFR2:=aH HFR.o.drew1;clear hne hz0 hz1 hz2 hz3 hz4;go_wp2_with fail;go_roundw
    case rel=>exact⟨k+1,by go_num,by omega,HFR2.o⟩
    case measure=>simp[intOf];omega
   ·have e0:decide ((k:Int)<E.length)=false:=by simpa using hlt
    have e0':decide (k<E.length)=false:=by simpa using hlt
    have k1:=(HB3.o.frm HFR.o aS).cell (i:=1) rfl;have hmf:= @aY prog;go_wp2_with fail;refine(HCF.o _ (HF3.o.trans HFR.o) _ eb (HRW.o.frm HFR.o aS) (HFR.o.cell HC.o aS)).mono ?_;rintro e w' ⟨rfl,rfl⟩;go_wp2;go_ret;exact⟨rfl,HF3.o.trans HFR.o⟩
 obtain⟨W0,rfl⟩:∃W,W=W2:=⟨_,rfl⟩
 have hne:=aW [] W0;have hz0:∀q:HW (fun wx=>ae [] W0 wx),q.w.cell? (w.heap.size,0)=some (.slice a P.length cap):=fun q=>(HB2.o.frm q.h aS).cell (i:=0) rfl;clear k0 k1;refine aG (fun wx=>ae [] W0 wx) ?_;refine aR (fuel:=5) [0,1,3,4] rfl aF.drew1 ?_;intro K hK;repeat (go_big_quiet_step (fail))
 refine wpQuiet_nil (hK _ ?_);clear hK K;refine oV (i:=2) (j:=6) (fuel:=4) rfl rfl aK ?_ ?_
 ·go_wp2_with fail;refine(HLV.o _ (HF2.o.trans (aF.drew1))).mono ?_;rintro e w1 ⟨ux,rfl,hO,hF⟩;obtain⟨ua,uc,hue, -⟩:=hO.row;subst hue;have HO:=aH hO;have HF4:=aH (ae.trans (S:=[]) (a:=W0) (aF.drew1) hF);have hsz1:=hF.size;clear hO;go_wp2_with fail;refine af ⟨HF4.o,?_⟩;refine oV (i:=5) (j:=6) (fuel:=3) rfl rfl aK ?_ ?_
  ·go_wp2_with fail;refine(HDP.o _ (HF2.o.trans HF4.o)).mono ?_;rintro e w2 ⟨g,rfl,hg,hG,hF2⟩;have HG:=aH hG;have HF5:=aH (ae.trans (S:=[]) (a:=W0) HF4.o hF2);have hsz2:=hF2.size;clear hG;go_wp2_with fail;refine af ⟨HF5.o,?_⟩;refine aL 6 (fuel:=2) rfl ?_;go_wp2_with fail;refine af ⟨HF5.o.alloc _,?_⟩;have hnew:=am.new w2 #[.slice none 0 0] 22;have HFN:=aH ((ae.refl [] w2).alloc (.cells #[.slice none 0 0] 22));generalize w2.alloc (.cells #[.slice none 0 0] 22)=w2a at*;have jz:=hnew.frozen 0;have jc:=hnew.cell (i:=0) rfl;have HSET:=aH (hnew.set 0 (.slice ua (cD P P.length).length uc));have HFA:=aH (HFN.o.set ⟨w2.heap.size,0,none⟩ (.slice ua (cD P P.length).length uc) (.inr (Nat.le_refl _)));refine aL 7 (fuel:=1) rfl ?_;go_wp2_with fail;refine af ⟨(HF5.o.trans HFA.o),?_⟩;refine aR (fuel:=0) [8] rfl (HF5.o.trans HFA.o) ?_;intro K hK;repeat (go_big_quiet_step (fail))
   refine wpQuiet_nil (hK _ ?_);clear hK K;refine aN ?_;go_wp2_with fail
   go_meet
   exact⟨w2.heap.size,g,_,rfl,rfl,HSET.o.cell (i:=0) rfl,((HO.o.frm (hF2.trans HFA.o) aS).base (Nat.zero_le _)).row,HG.o.frm HFA.o aS,(HF5.o.trans HFA.o)⟩
  ·go_wp2_with fail;refine af ⟨HF4.o.alloc _,?_⟩;have hnew:=am.new w1 #[.slice none 0 0] 22;have HNW:=aH hnew;have HFN:=aH ((ae.refl [] w1).alloc (.cells #[.slice none 0 0] 22));clear hnew;have hsz3:(w1.alloc (.cells #[.slice none 0 0] 22)).heap.size=w1.heap.size+1:=by simp
   generalize w1.alloc (.cells #[.slice none 0 0] 22)=w1a at*;refine aL 5 (fuel:=2) rfl ?_;go_wp2_with fail;refine(HDP.o _ (HF2.o.trans (HF4.o.trans HFN.o))).mono ?_;rintro e w2 ⟨g,rfl,hg,hG,hF2⟩;have HG:=aH hG;have HF5:=aH (ae.trans (S:=[]) (a:=W0) (HF4.o.trans HFN.o) hF2);have hsz2:=hF2.size;clear hG;go_wp2_with fail;refine af ⟨HF5.o,?_⟩;have hnew:=HNW.o.frm hF2 aS;have jz:=hnew.frozen 0;have jc:=hnew.cell (i:=0) rfl;have HSET:=aH (hnew.set 0 (.slice ua (cD P P.length).length uc));have HFA:=aH ((HFN.o.trans hF2).set ⟨w1.heap.size,0,none⟩ (.slice ua (cD P P.length).length uc) (.inr (Nat.le_refl _)));refine aL 7 (fuel:=1) rfl ?_;go_wp2_with fail;refine af ⟨(HF4.o.trans HFA.o),?_⟩;refine aR (fuel:=0) [8] rfl (HF4.o.trans HFA.o) ?_;intro K hK;repeat (go_big_quiet_step (fail))
   refine wpQuiet_nil (hK _ ?_);clear hK K;refine aN ?_;go_wp2_with fail
   go_meet
   exact⟨w1.heap.size,g,_,rfl,rfl,HSET.o.cell (i:=0) rfl,((HO.o.frm HFA.o aS).base (Nat.zero_le _)).row,HG.o.other ⟨w1.heap.size,0,none⟩ (.slice ua (cD P P.length).length uc) (by show g≠w1.heap.size;omega),(HF4.o.trans HFA.o)⟩
 ·go_wp2_with fail;refine af ⟨(aF.drew1).alloc _,?_⟩;have hnew:=(am.new W0 #[.slice none 0 0] 22).drew1;have HNW:=aH hnew;have HFN:=aH (((ae.refl [] W0).alloc (.cells #[.slice none 0 0] 22)).drew1);clear hnew;have hsz3:(W0.alloc (.cells #[.slice none 0 0] 22)).drew.heap.size=W0.heap.size+1:=by simp
  generalize(W0.alloc (.cells #[.slice none 0 0] 22)).drew=wa at*;refine aL 2 (fuel:=3) rfl ?_;go_wp2_with fail;refine(HLV.o _ (HF2.o.trans HFN.o)).mono ?_;rintro e w1 ⟨ux,rfl,hO,hF⟩;obtain⟨ua,uc,hue, -⟩:=hO.row;subst hue;have HO:=aH hO;have HF4:=aH (ae.trans (S:=[]) (a:=W0) HFN.o hF);have hsz1:=hF.size;clear hO;go_wp2_with fail;refine af ⟨HF4.o,?_⟩;refine aL 5 (fuel:=2) rfl ?_;go_wp2_with fail;refine(HDP.o _ (HF2.o.trans HF4.o)).mono ?_;rintro e w2 ⟨g,rfl,hg,hG,hF2⟩;have HG:=aH hG;have HF5:=aH (ae.trans (S:=[]) (a:=W0) HF4.o hF2);have hsz2:=hF2.size;clear hG;go_wp2_with fail;refine af ⟨HF5.o,?_⟩;have hnew:=HNW.o.frm (hF.trans hF2) aS;have jz:=hnew.frozen 0;have jc:=hnew.cell (i:=0) rfl;have HSET:=aH (hnew.set 0 (.slice ua (cD P P.length).length uc));have HFA:=aH (HF5.o.set ⟨W0.heap.size,0,none⟩ (.slice ua (cD P P.length).length uc) (.inr (Nat.le_refl _)));refine aL 7 (fuel:=1) rfl ?_;go_wp2_with fail;refine af ⟨HFA.o,?_⟩;refine aR (fuel:=0) [8] rfl HFA.o ?_;intro K hK;repeat (go_big_quiet_step (fail))
  refine wpQuiet_nil (hK _ ?_);clear hK K;refine aN ?_;go_wp2_with fail
  go_meet
  exact⟨W0.heap.size,g,_,rfl,rfl,HSET.o.cell (i:=0) rfl,(((HO.o.frm hF2 aS).frm (S:=[W0.heap.size]) (aF.set ⟨W0.heap.size,0,none⟩ (.slice ua (cD P P.length).length uc) (.inl aS)) aQ).base (Nat.zero_le _)).row,HG.o.other ⟨W0.heap.size,0,none⟩ (.slice ua (cD P P.length).length uc) (by show g≠W0.heap.size;omega),HFA.o⟩
end Go.Proofs.YteijjhahgabalaaGreat
