/- Topologies: the program's own Check lets pass what may be. (Printed by gen_topoall.py.) -/
import Derived.Deep.RegionWith
import Derived.Test.YteijjhahgabalaaGreatWF14
set_option maxRecDepth 100000
set_option maxHeartbeats 8000000
set_option linter.all false
namespace Go.Proofs.YteijjhahgabalaaGreat
open Go.RowKit
open Tryz
def TC6(P:List Int)(w0 wx:World)(s5 s6:Value):Prop:=∃(eb g:Nat)(u:Value),s5= .pointer (some ⟨eb,0,none⟩)/\s6= .slice (some ⟨g,0,none⟩) P.length P.length/\wx.cell? (eb,0)=some u/\aZ wx 0 u (du P P.length)/\aq wx g (iD P.length (λv=>(cM P P.length v:Int))) 3/\af [] w0 wx
theorem mx(w:World){b1 b2:Nat}{v u:Value}{P T:List Int}(hx:aZ w b1 v P)(hy:aZ w b2 u T)(hs:ea P T):
 Calls prog 56 #[.agg #[v,u]] w λe w'=>e= .returned (0:Int)/\af [] w w':=by
 have HOK:=aH hs;have R:(du P P.length).length<=P.length:=by unfold du;rw[kZ];exact dv (FN _ _) aS
 obtain⟨s1,s2,s3,s4⟩:=hs.size;have HX:=aH (λ(W:World) (H:af [] w W)=>hx.Rr H aS);have HY:=aH (λ(W:World) (H:af [] w W)=>hy.Rr H aS);have HT:=aH (λ(W:World) (H:af [] w W)=>IS (hx.Rr H aS) aO hs.tree);have HLV:=aH (λ(W:World) (H:af [] w W)=>tM (hx.Rr H aS) aO hs.tree);have X:=aH (λ(W:World) (H:af [] w W)=>Bb (hx.Rr H aS) aO hs.tree);have G:=hs.ends;have HEV:=aH hs.even;have HCF:=aH (λ(W:World) (H:af [] w W) (u':Value) (eb:Nat) (h1:aZ W 0 u' (du P P.length)) (h2:W.cell? (eb,0)=some u')=>p8 (hy.Rr H aS) h1 aO aO (λt ht=>wY (G t ht)) h2);obtain⟨a,cap,rfl, -, -⟩:=hx;obtain⟨a',cap',rfl, -, -⟩:=hy;have d1:decide ((P.length:Int)<1)=false:=aB;have d2:decide ((32:Int)<P.length)=false:=aB;have d3:decide ((T.length:Int)<1)=false:=aB;have d4:decide ((32:Int)<T.length)=false:=aB;have d5:decide (P.length<1)=false:=aB;have d6:decide (32<P.length)=false:=aB;have d7:decide (T.length<1)=false:=aB;have d8:decide (32<T.length)=false:=aB;clear hs G;go_enter func56,ntmps56
 go_upto_region 1 with fail
 generalize hW:World.alloc _ _=W;have hB:aq W w.heap.size [.slice a P.length cap,.slice a' T.length cap'] 24:=by subst hW;exact aq.new w _ _
 have A:af [] w W:=by subst hW;exact aF.alloc _
 have HB:=aH hB;have HF:=aH A;clear hW hB A;have hne:=aW [] W;have N:=zF (L:=[]) HB.o aS 0 rfl;have hz1:=zF (L:=[]) HB.o aS 1 rfl;refine aG (λp=>af [] W p) ?_;refine eQ (fuel:=0) [0,1,2,3,4,5,6,7] rfl aF.Rs ?_;refine aN ?_;have M:=aH HB.o.Rs;have D:=aH HF.o.Rs;clear HB HF hne N hz1;generalize W.drew=W2 at*;have k0:=M.o.cell (i:=0) rfl;have k1:=M.o.cell (i:=1) rfl;go_wp2_with fail;refine gF (HT.o _ D.o) ?_;rintro w' rfl;go_wp2_with fail
 go_cut[5,6] (λs5 s6 p=>TC6 P W2 p s5 s6)
 case rest=>
  obtain⟨eb,g,ux,rfl,rfl,hc,hr,hg,A⟩:=hcut;have HRW:=aH hr;have O:=aH hg;have HC:=aH hc;have HF3:=aH (D.o.trans A);have HB3:=aH (M.o.Rr A aS);obtain⟨a3,cap3,rfl, -,U⟩:=hr;have HROW:=aH U;have hle:=R;generalize hE:du P P.length=E at*;have HE:=aH (show∀x∈E,∃v:Nat,x=v/\v<P.length/\ee P v=true fromλx hx=>By (by rw[hE];exact hx));clear hg A U hE k0 k1 R;go_wp2_with fail;go_loopw[41] (λiv p=>∃k:Nat,iv= .int .i64 k/\k<=E.length/\af [] wc p) (λiv _=>E.length - (intOf iv).toNat)
  case atStart=>exact⟨0,rfl,by omega,aF⟩
  case round=>
   obtain⟨k,rfl,hk,A⟩:=hrel;have n:=aH A;clear A;by_cases F:k<E.length
   ·have e0:decide ((k:Int)<E.length)=true:=by simpa using F
    have e0':decide (k<E.length)=true:=by simpa using F
    have l1:(k:Int)<E.length:=by omega
    have l0:(0:Int)<E.length:=by omega
    obtain⟨b,off, -,rfl,hcc⟩:=HROW.o aO;have ck:=hcc k F;have cz:=hcc 0 aO;obtain⟨vk,hvk,hvl,hvt⟩:=HE.o (E[k]?.getD 0) (by rw[eB F];exact lB _);obtain⟨vz,hvz,hzl,hzt⟩:=HE.o (E[0]?.getD 0) (by rw[eB aO];exact lB _);obtain⟨q1,q2⟩:=HEV.o vk vz hvl hzl hvt hzt;rw[hvk] at ck;rw[hvz] at cz;have g1:=O.o.cell (i:=vk) (ew _ hvl);have g2:=O.o.cell (i:=vz) (ew _ hzl);rw[<-q1] at g2;simp only[ve] at cz;generalize cM P P.length vk=dd at*;have m1:(vk:Int)<P.length:=by omega
    have m2:(vz:Int)<P.length:=by omega
    have m3:decide ((5:Int)<dd)=false:=aB;have m4:decide (5<dd)=false:=aB;have x1:=n.o.cell ck aS;clear hcc q1 hvt hzt hvk hvz HE;have hne:=aW [] wr;have N:∀q:HW (λp=>af [] wr p),q.w.cell? (b,off+k)=some (.int .i64 vk):=λq=>q.h.cell x1 aS;have hz1:∀q:HW (λp=>af [] wr p),q.w.cell? (b,off)=some (.int .i64 vz):=λq=>q.h.cell (n.o.cell cz aS) aS;have hz2:∀q:HW (λp=>af [] wr p),q.w.cell? (g,vk)=some (.int .i64 dd):=λq=>q.h.cell (n.o.cell g1 aS) aS;have hz3:∀q:HW (λp=>af [] wr p),q.w.cell? (g,vz)=some (.int .i64 dd):=λq=>q.h.cell (n.o.cell g2 aS) aS;have hz4:∀q:HW (λp=>af [] wr p),q.w.cell? (eb,0)=some (.slice (some ⟨b,off,none⟩) E.length cap3):=λq=>q.h.cell (n.o.cell HC.o aS) aS
    go_upto_region 10 with fail
    refine aG (λp=>af [] wr p) ?_;refine eQ (fuel:=0) [0,1,2,3,4,5,6,7,8,9,10,11,12,13,14,15,16,17] rfl aF.Rs ?_;refine aN ?_;have HFR2:=aH n.o.Rs;clear hne N hz1 hz2 hz3 hz4;go_wp2_with fail;go_roundw
    case rel=>exact⟨k+1,by go_num,by omega,HFR2.o⟩
    case measure=>simp[intOf];omega
   ·have e0:decide ((k:Int)<E.length)=false:=by simpa using F
    have e0':decide (k<E.length)=false:=by simpa using F
    have k1:=(HB3.o.Rr n.o aS).cell (i:=1) rfl;have hmf:= @aY prog;go_wp2_with fail;refine gF (HCF.o _ (HF3.o.trans n.o) _ eb (HRW.o.Rr n.o aS) (n.o.cell HC.o aS)) ?_;rintro w' rfl;go_wp2;go_ret;exact⟨rfl,HF3.o.trans n.o⟩
 obtain⟨r,rfl⟩:∃W,W=W2:=⟨_,rfl⟩
 have hne:=aW [] r;have N:=zF (L:=[]) M.o aS 0 rfl;clear k0 k1;refine aG (λp=>af [] r p) ?_;refine eQ (fuel:=5) [0,1,3,4] rfl aF.Rs ?_;refine rH (i:=2) (j:=6) (fuel:=4) rfl rfl aK ?_ ?_
 ·go_wp2_with fail;refine(HLV.o _ (D.o.trans (aF.Rs))).mono ?_;rintro e w1 ⟨ux,rfl,Z,A⟩;obtain⟨I,J,hue, -⟩:=Z.row;subst hue;have HO:=aH Z;have l:=aH (af.trans (S:=[]) (a:=r) (aF.Rs) A);have hsz1:=A.size;clear Z;go_wp2_with fail;refine ah ⟨l.o,?_⟩;refine rH (i:=5) (j:=6) (fuel:=3) rfl rfl aK ?_ ?_
  ·go_wp2_with fail;refine(X.o _ (D.o.trans l.o)).mono ?_;rintro e w2 ⟨g,rfl,hg,Q,m⟩;have O:=aH Q;have o:=aH (af.trans (S:=[]) (a:=r) l.o m);have V:=m.size;clear Q;go_wp2_with fail;refine ah ⟨o.o,?_⟩;refine aL 6 (fuel:=2) rfl ?_;go_wp2_with fail;refine ah ⟨o.o.alloc _,?_⟩;have d:=aq.new w2 #[.slice none 0 0] 22;have s:=aH ((af.refl [] w2).alloc (.cells #[.slice none 0 0] 22));generalize w2.alloc (.cells #[.slice none 0 0] 22)=w2a at*;have jz:=d.frozen 0;have jc:=d.cell (i:=0) rfl;have z:=aH (d.set 0 (.slice I (du P P.length).length J));have f:=aH (s.o.set ⟨w2.heap.size,0,none⟩ (.slice I (du P P.length).length J) (.inr (ba _)));refine aL 7 (fuel:=1) rfl ?_;go_wp2_with fail;refine ah ⟨(o.o.trans f.o),?_⟩;refine eQ (fuel:=0) [8] rfl (o.o.trans f.o) ?_;refine aN ?_;go_wp2_with fail
   go_meet
   exact⟨w2.heap.size,g,_,rfl,rfl,z.o.cell (i:=0) rfl,((HO.o.Rr (m.trans f.o) aS).base (fA _)).row,O.o.Rr f.o aS,(o.o.trans f.o)⟩
  ·go_wp2_with fail;refine ah ⟨l.o.alloc _,?_⟩;have d:=aq.new w1 #[.slice none 0 0] 22;have Y:=aH d;have s:=aH ((af.refl [] w1).alloc (.cells #[.slice none 0 0] 22));clear d;have hsz3:(w1.alloc (.cells #[.slice none 0 0] 22)).heap.size=w1.heap.size+1:=by simp
   generalize w1.alloc (.cells #[.slice none 0 0] 22)=w1a at*;refine aL 5 (fuel:=2) rfl ?_;go_wp2_with fail;refine(X.o _ (D.o.trans (l.o.trans s.o))).mono ?_;rintro e w2 ⟨g,rfl,hg,Q,m⟩;have O:=aH Q;have o:=aH (af.trans (S:=[]) (a:=r) (l.o.trans s.o) m);have V:=m.size;clear Q;go_wp2_with fail;refine ah ⟨o.o,?_⟩;have d:=Y.o.Rr m aS;have jz:=d.frozen 0;have jc:=d.cell (i:=0) rfl;have z:=aH (d.set 0 (.slice I (du P P.length).length J));have f:=aH ((s.o.trans m).set ⟨w1.heap.size,0,none⟩ (.slice I (du P P.length).length J) (.inr (ba _)));refine aL 7 (fuel:=1) rfl ?_;go_wp2_with fail;refine ah ⟨(l.o.trans f.o),?_⟩;refine eQ (fuel:=0) [8] rfl (l.o.trans f.o) ?_;refine aN ?_;go_wp2_with fail
   go_meet
   exact⟨w1.heap.size,g,_,rfl,rfl,z.o.cell (i:=0) rfl,((HO.o.Rr f.o aS).base (fA _)).row,O.o.other ⟨w1.heap.size,0,none⟩ (.slice I (du P P.length).length J) (by show g≠w1.heap.size;omega),(l.o.trans f.o)⟩
 ·go_wp2_with fail;refine ah ⟨(aF.Rs).alloc _,?_⟩;have d:=(aq.new r #[.slice none 0 0] 22).Rs;have Y:=aH d;have s:=aH (((af.refl [] r).alloc (.cells #[.slice none 0 0] 22)).Rs);clear d;have hsz3:(r.alloc (.cells #[.slice none 0 0] 22)).drew.heap.size=r.heap.size+1:=by simp
  generalize(r.alloc (.cells #[.slice none 0 0] 22)).drew=wa at*;refine aL 2 (fuel:=3) rfl ?_;go_wp2_with fail;refine(HLV.o _ (D.o.trans s.o)).mono ?_;rintro e w1 ⟨ux,rfl,Z,A⟩;obtain⟨I,J,hue, -⟩:=Z.row;subst hue;have HO:=aH Z;have l:=aH (af.trans (S:=[]) (a:=r) s.o A);have hsz1:=A.size;clear Z;go_wp2_with fail;refine ah ⟨l.o,?_⟩;refine aL 5 (fuel:=2) rfl ?_;go_wp2_with fail;refine(X.o _ (D.o.trans l.o)).mono ?_;rintro e w2 ⟨g,rfl,hg,Q,m⟩;have O:=aH Q;have o:=aH (af.trans (S:=[]) (a:=r) l.o m);have V:=m.size;clear Q;go_wp2_with fail;refine ah ⟨o.o,?_⟩;have d:=Y.o.Rr (A.trans m) aS;have jz:=d.frozen 0;have jc:=d.cell (i:=0) rfl;have z:=aH (d.set 0 (.slice I (du P P.length).length J));have f:=aH (o.o.set ⟨r.heap.size,0,none⟩ (.slice I (du P P.length).length J) (.inr (ba _)));refine aL 7 (fuel:=1) rfl ?_;go_wp2_with fail;refine ah ⟨f.o,?_⟩;refine eQ (fuel:=0) [8] rfl f.o ?_;refine aN ?_;go_wp2_with fail
  go_meet
  exact⟨r.heap.size,g,_,rfl,rfl,z.o.cell (i:=0) rfl,(((HO.o.Rr m aS).Rr (S:=[r.heap.size]) (aF.set ⟨r.heap.size,0,none⟩ (.slice I (du P P.length).length J) (.inl aS)) aQ).base (fA _)).row,O.o.other ⟨r.heap.size,0,none⟩ (.slice I (du P P.length).length J) (by show g≠r.heap.size;omega),f.o⟩
end Go.Proofs.YteijjhahgabalaaGreat
