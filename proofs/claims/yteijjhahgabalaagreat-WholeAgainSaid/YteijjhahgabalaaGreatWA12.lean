/- The contract of the document's Check of a topology. -/
import Derived.Deep.DeepCutAuto
import Derived.Deep.CutBlock
import Derived.Test.YteijjhahgabalaaGreatWA10
import Derived.Test.YteijjhahgabalaaGreatWA08
set_option maxRecDepth 100000
set_option maxHeartbeats 8000000
set_option linter.all false
namespace Go.Proofs.YteijjhahgabalaaGreat
open Go.RowKit
open Tryz
theorem pU {P:List Int} {v:Nat} (h:df P v=true):1≤bR P P.length v:=by
 have hv:v<P.length:=by unfold df at h;simp at h;omega
 obtain⟨k,hk⟩:∃k,P.length=k+1:=⟨P.length - 1,by omega⟩
 have:1≤bR P (k+1) v:=by
  unfold bR;rw[if_pos aO];omega
 rw[hk];exact this
def mK (P:List Int) (k f:Nat):Prop:=(∀v:Nat,v<k→df P v=true→bR P P.length v=f∧f≤5)∧(f=0∨∃z:Nat,z<P.length∧df P z=true∧bR P P.length z=f)
theorem mK.skip {P:List Int} {k f:Nat} (h:mK P k f) (hl:df P k=false):mK P (k+1) f:=by
 refine⟨fun v hv hf=>?_,h.2⟩;by_cases e:v=k
 ·subst e;rw[hl] at hf;cases hf
 ·exact h.1 v aO hf
theorem mK.next {P:List Int} {k f d:Nat} (h:mK P k f) (hk:k<P.length) (hl:df P k=true) (hd:bR P P.length k=d) (he:f=0∨f=d) (h5:d≤5):mK P (k+1) d:=by
 refine⟨fun v hv hf=>?_,.inr ⟨k,hk,hl,hd⟩⟩;by_cases e:v=k
 ·subst e;exact⟨hd,h5⟩
 ·obtain⟨h1,h2⟩:=h.1 v aO hf;have:=pU hf;rcases he with he|he
  ·omega
  ·exact⟨by omega,h5⟩
theorem mK.bad {P:List Int} {k f d:Nat} (h:mK P k f) (hk:k<P.length) (hl:df P k=true) (hd:bR P P.length k=d) (hb:(f≠0∧d≠f)∨5<d):¬um P:=by
 intro he;have:=he k k hk hk hl hl;rcases hb with⟨h1,h2⟩|hb
 ·rcases h.2 with h3|⟨z,hz,hzl,hzd⟩
  ·exact h1 h3
  ·have:=he k z hk hz hl hzl;omega
 ·omega
theorem mK.all {P:List Int} {f:Nat} (h:mK P P.length f):um P:=by
 intro v w hv hw h1 h2;have a:=h.1 v hv h1;have b:=h.1 w hw h2;omega
theorem vf (w:World) {b1 b2:Nat} {v u:Value} {P T:List Int} (hx:a7 w b1 v P) (hy:a7 w b2 u T) (hs:uy P T):
 Calls prog 22 #[.agg #[v,u]] w fun e w'=>∃r,e= .returned (.int .i64 r)∧(r=0↔du P T)∧ae [] w w':=by
 obtain⟨a,cap,rfl,h1,hcx⟩:=hx;obtain⟨a',cap',rfl,h2,hcy⟩:=hy;have HS:=aH hs;have HX:=aH hcx;have HY:=aH hcy;obtain⟨s1,s2,s3,s4⟩:=hs;have d1:decide ((P.length:Int)<1)=false:=aB;have d2:decide ((32:Int)<P.length)=false:=aB;have d3:decide ((T.length:Int)<1)=false:=aB;have d4:decide ((32:Int)<T.length)=false:=aB;have d5:decide (P.length<1)=false:=aB;have d6:decide (32<P.length)=false:=aB;have d7:decide (T.length<1)=false:=aB;have d8:decide (32<T.length)=false:=aB;clear hcx hcy h1 h2;obtain⟨b,off,hb,rfl,hc⟩:=HX.o aO;have c0:w.cell? (b,off)=some (.int .i64 (P[0]?.getD 0)):=hc 0 aO;have hbl:b<w.heap.size:=qw c0;have HC:=aH (fun(W:World) (hf:ae [] w W) (i:Nat) (hi:i<P.length)=>hf.cell (hc i hi) aS);have HL:=aH (fun(W:World) (hf:ae [] w W) (x:Int)=>ym W (b1:=b1) (v:=.slice (some ⟨b,off,none⟩) P.length cap) (P:=P) ⟨some ⟨b,off,none⟩,cap,rfl,by unfold maxLen;omega,fun _=>⟨b,off,hb,rfl,fun i hi=>hf.cell (hc i hi) aS⟩⟩ x);have HD:=aH (fun(W:World) (hf:ae [] w W) (x:Int)=>xC W (b1:=b1) (v:=.slice (some ⟨b,off,none⟩) P.length cap) (P:=P) ⟨some ⟨b,off,none⟩,cap,rfl,by unfold maxLen;omega,fun _=>⟨b,off,hb,rfl,fun i hi=>hf.cell (hc i hi) aS⟩⟩ aO x);obtain⟨b',off',hb',rfl,hc'⟩:=HY.o aO;have HC':=aH (fun(W:World) (hf:ae [] w W) (i:Nat) (hi:i<T.length)=>hf.cell (hc' i hi) aS);clear hc hc' c0;have l0:(0:Int)<P.length:=by omega
 go_enter func22,ntmps22
 go_upto_region 3 with fail
 generalize hW:World.alloc _ _=W;have hB:am W w.heap.size [.slice (some ⟨b,off,none⟩) P.length cap,.slice (some ⟨b',off',none⟩) T.length cap'] 24:=by subst hW;exact am.new w _ _
 have hF:ae [] w W:=by subst hW;exact aF.alloc _
 have HB:=aH hB;have HF:=aH hF;clear hW hB hF;have k0:=HB.o.cell (i:=0) rfl;have k1:=HB.o.cell (i:=1) rfl;have p0:W.cell? (b,off)=some (.int .i64 (P[0]?.getD 0)):=HC.o W HF.o 0 aO;by_cases hr:P[0]?.getD 0= -1
 ·rw[hr] at p0;have HR:=aH hr;clear hr;go_wp2_with fail;go_loopw[3] (fun iv wx=>∃k:Nat,iv= .int .i64 k∧1≤k∧k≤P.length∧(∀v:Nat,1≤v→v<k→0≤P[v]?.getD 0∧P[v]?.getD 0<v)∧W=wx) (fun iv _=>P.length - (intOf iv).toNat)
  case atStart=>exact⟨1,rfl,by omega,by omega,fun v h1 h2=>by omega,rfl⟩
  case round=>
   obtain⟨k,rfl,hk1,hk2,hj,rfl⟩:=hrel;have HJ:=aH hj;clear hj;by_cases hlt:k<P.length
   ·have e0:decide ((k:Int)<P.length)=true:=by simpa using hlt
    have e0':decide (k<P.length)=true:=by simpa using hlt
    have l1:(k:Int)<P.length:=by omega
    have p1:=HC.o W HF.o k hlt;generalize hp:P[k]?.getD 0=p at*;have HP:=aH hp;clear hp;by_cases n1:p<0
    ·have e1:decide (p<0)=true:=by simpa using n1
     go_wp2;go_ret;refine⟨9,rfl,⟨fun h=>absurd h aO,fun h=>?_⟩,HF.o⟩;have:=(h.tree.2 k hk1 hlt).1;rw[HP.o] at this;omega
    ·have e1:decide (p<0)=false:=by simpa using n1
     by_cases n2:(k:Int)≤p
     ·have e2:decide ((k:Int)≤p)=true:=by simpa using n2
      go_wp2;go_ret;refine⟨9,rfl,⟨fun h=>absurd h aO,fun h=>?_⟩,HF.o⟩;have:=(h.tree.2 k hk1 hlt).2;rw[HP.o] at this;omega
     ·have e2:decide ((k:Int)≤p)=false:=by simpa using n2
      have HN:=aH (show 0≤p∧p<k by omega);clear n1 n2;go_wp2_with fail;go_roundw
      case rel=>
       refine⟨k+1,by go_num,by omega,by omega,fun v h1 h2=>?_,by trivial⟩;by_cases e:v=k
       ·subst e;rw[HP.o];exact HN.o
       ·exact HJ.o v h1 aO
      case measure=>simp[intOf];omega
   ·have e0:decide ((k:Int)<P.length)=false:=by simpa using hlt
    have e0':decide (k<P.length)=false:=by simpa using hlt
    have HT:=aH (show gK P from⟨HR.o,fun v h1 h2=>HJ.o v h1 aO⟩);clear HJ hlt hk1 hk2 p0;go_wp2_with fail;go_loopw[5,4] (fun iv fv wx=>∃k f:Nat,iv= .int .i64 k∧fv= .int .i64 f∧k≤P.length∧f≤32∧mK P k f∧W=wx) (fun iv _ _=>P.length - (intOf iv).toNat)
    case atStart=>exact⟨0,0,rfl,rfl,by omega,by omega,⟨fun v hv=>by omega,.inl rfl⟩,rfl⟩
    case round=>
     obtain⟨k,f,rfl,rfl,hk,hf32,hmid,rfl⟩:=hrel;have HM:=aH hmid;clear hmid;by_cases hlt:k<P.length
     ·have e0:decide ((k:Int)<P.length)=true:=by simpa using hlt
      have e0':decide (k<P.length)=true:=by simpa using hlt
      cases hlf:df P k with
      |false=>
       have HM2:=aH (HM.o.skip hlf);go_wp2_with fail;refine(HL.o W HF.o k).mono ?_;rw[hlf];rintro e w1 ⟨rfl,rfl⟩;go_wp2_with fail;go_roundw
       case rel=>exact⟨k+1,f,by go_num,rfl,by omega,hf32,HM2.o,by trivial⟩
       case measure=>simp[intOf];omega
      |true=>
       have HLF:=aH hlf;generalize hdk:bR P P.length k=dk;have hd32:dk≤32:=by have:=nz P P.length k;omega
       have hd1:1≤dk:=by have:=pU hlf;omega
       have HDK:=aH hdk;clear hdk hlf;by_cases f0:f=0
       ·subst f0;by_cases f5:dk≤5
        ·have e5:decide ((5:Int)<dk)=false:=by simp;omega
         have e6:decide (5<dk)=false:=by simp;omega
         have HM2:=aH (HM.o.next hlt HLF.o HDK.o (.inl rfl) f5);go_wp2_with fail;refine(HL.o W HF.o k).mono ?_;rw[HLF.o];rintro e w1 ⟨rfl,rfl⟩;go_wp2_with fail;refine(HD.o W HF.o k).mono ?_;rw[HDK.o];rintro e w1 ⟨rfl,rfl⟩;go_wp2_with fail;go_roundw
         case rel=>exact⟨k+1,dk,by go_num,rfl,by omega,hd32,HM2.o,by trivial⟩
         case measure=>simp[intOf];omega
        ·have e5:decide ((5:Int)<dk)=true:=by simp;omega
         have e6:decide (5<dk)=true:=by simp;omega
         have HE:=aH (HM.o.bad hlt HLF.o HDK.o (.inr aO));go_wp2_with fail;refine(HL.o W HF.o k).mono ?_;rw[HLF.o];rintro e w1 ⟨rfl,rfl⟩;go_wp2_with fail;refine(HD.o W HF.o k).mono ?_;rw[HDK.o];rintro e w1 ⟨rfl,rfl⟩;go_wp2;go_ret;exact⟨9,rfl,⟨fun h=>absurd h aO,fun h=>absurd h.even HE.o⟩,HF.o⟩
       ·have g0:((f:Int)==0)=false:=by simpa using f0
        have g1:(f==0)=false:=by simpa using f0
        by_cases fe:dk=f
        ·subst fe;by_cases f5:dk≤5
         ·have e5:decide ((5:Int)<dk)=false:=by simp;omega
          have e6:decide (5<dk)=false:=by simp;omega
          have HM2:=aH (HM.o.next hlt HLF.o HDK.o (.inr rfl) f5);go_wp2_with fail;refine(HL.o W HF.o k).mono ?_;rw[HLF.o];rintro e w1 ⟨rfl,rfl⟩;go_wp2_with fail;refine(HD.o W HF.o k).mono ?_;rw[HDK.o];rintro e w1 ⟨rfl,rfl⟩;go_wp2_with fail;go_roundw
          case rel=>exact⟨k+1,dk,by go_num,rfl,by omega,hd32,HM2.o,by trivial⟩
          case measure=>simp[intOf];omega
         ·have e5:decide ((5:Int)<dk)=true:=by simp;omega
          have e6:decide (5<dk)=true:=by simp;omega
          have HE:=aH (HM.o.bad hlt HLF.o HDK.o (.inr aO));go_wp2_with fail;refine(HL.o W HF.o k).mono ?_;rw[HLF.o];rintro e w1 ⟨rfl,rfl⟩;go_wp2_with fail;refine(HD.o W HF.o k).mono ?_;rw[HDK.o];rintro e w1 ⟨rfl,rfl⟩;go_wp2;go_ret;exact⟨9,rfl,⟨fun h=>absurd h aO,fun h=>absurd h.even HE.o⟩,HF.o⟩
        ·have g2:((dk:Int)!=f)=true:=by simp;omega
         have g3:(dk !=f)=true:=by simp;omega
         have HE:=aH (HM.o.bad hlt HLF.o HDK.o (.inl ⟨f0,fe⟩));go_wp2_with fail;refine(HL.o W HF.o k).mono ?_;rw[HLF.o];rintro e w1 ⟨rfl,rfl⟩;go_wp2_with fail;refine(HD.o W HF.o k).mono ?_;rw[HDK.o];rintro e w1 ⟨rfl,rfl⟩;go_wp2;go_ret;exact⟨9,rfl,⟨fun h=>absurd h aO,fun h=>absurd h.even HE.o⟩,HF.o⟩
     ·have e0:decide ((k:Int)<P.length)=false:=by simpa using hlt
      have e0':decide (k<P.length)=false:=by simpa using hlt
      have hkl:k=P.length:=by omega
      have HEV:=aH (show um P from mK.all (f:=f) (by rw[←hkl];exact HM.o));clear HM hkl;go_wp2_with fail;go_loopw[7] (fun iv wx=>∃k:Nat,iv= .int .i64 k∧k≤T.length∧(∀i:Nat,i<k→df P (T[i]?.getD 0)=true)∧ae [] W wx) (fun iv _=>T.length - (intOf iv).toNat)
      case atStart=>exact⟨0,rfl,by omega,fun i hi=>by omega,aF⟩
      case round=>
       obtain⟨k,rfl,hk,hj,hF⟩:=hrel;have HJ:=aH hj;have HG:=aH hF;clear hj hF e0 e0' hlt;have k0:=(HB.o.frm HG.o aS).cell (i:=0) rfl;have k1:=(HB.o.frm HG.o aS).cell (i:=1) rfl;by_cases hlt:k<T.length
       ·have e0:decide ((k:Int)<T.length)=true:=by simpa using hlt
        have e0':decide (k<T.length)=true:=by simpa using hlt
        have l1:(k:Int)<T.length:=by omega
        have hne:=aW [] wr;have hz0:∀q:HW (fun wx=>ae [] wr wx),q.w.cell? (w.heap.size,0)=some (.slice (some ⟨b,off,none⟩) P.length cap):=fun q=>q.h.cell k0 aS;have hz1:∀q:HW (fun wx=>ae [] wr wx),q.w.cell? (w.heap.size,1)=some (.slice (some ⟨b',off',none⟩) T.length cap'):=fun q=>q.h.cell k1 aS;have hz2:∀q:HW (fun wx=>ae [] wr wx),q.w.cell? (b',off'+k)=some (.int .i64 (T[k]?.getD 0)):=fun q=>HC'.o _ (HF.o.trans (HG.o.trans q.h)) k hlt;generalize hp:T[k]?.getD 0=p at*;have HP:=aH hp;clear hp;cases hlf:df P p with
        |true=>
         have HLF:=aH hlf;clear hlf
         go_upto_region 23 with fail
         refine aG (fun wx=>ae [] wr wx) ?_;refine aR (fuel:=2) [0,1,2,3,4,5,6] rfl aF.drew1 ?_;intro K hK;repeat (go_big_quiet_step (fail))
         refine wpQuiet_nil (hK _ ?_);clear hK K;refine aL 7 (fuel:=1) rfl ?_;go_wp2_with fail;refine(HL.o _ (HF.o.trans (HG.o.drew1)) p).mono ?_;rw[HLF.o];rintro e w1 ⟨rfl,rfl⟩;go_wp2_with fail;refine af ⟨aF.drew1,?_⟩;refine aR (fuel:=0) [8] rfl aF.drew1 ?_;intro K hK;repeat (go_big_quiet_step (fail))
         refine wpQuiet_nil (hK _ ?_);clear hK K;refine aN ?_;have HG2:=aH (HG.o.trans ((ae.refl [] wr).drew1));go_wp2_with fail;go_roundw
         case rel=>
          refine⟨k+1,by go_num,by omega,fun i hi=>?_,HG2.o⟩;by_cases e:i=k
          ·subst e;rw[HP.o];exact HLF.o
          ·exact HJ.o i aO
         case measure=>simp[intOf];omega
        |false=>
         have HLF:=aH hlf;clear hlf
         go_upto_region 23 with fail
         refine aG (fun wx=>ae [] wr wx) ?_;refine aR (fuel:=2) [0,1,2,3,4,5,6] rfl aF.drew1 ?_;intro K hK;repeat (go_big_quiet_step (fail))
         refine wpQuiet_nil (hK _ ?_);clear hK K;refine aL 7 (fuel:=1) rfl ?_;go_wp2_with fail;refine(HL.o _ (HF.o.trans (HG.o.drew1)) p).mono ?_;rw[HLF.o];rintro e w1 ⟨rfl,rfl⟩;go_wp2_with fail;refine af ⟨aF.drew1,?_⟩;refine aR (fuel:=0) [8] rfl aF.drew1 ?_;intro K hK;repeat (go_big_quiet_step (fail))
         refine wpQuiet_nil (hK _ ?_);clear hK K;refine aN ?_;have HG2:=aH (HG.o.trans ((ae.refl [] wr).drew1));go_wp2;go_ret;refine⟨4,rfl,⟨fun h=>absurd h aO,fun h=>?_⟩,HF.o.trans HG2.o⟩;have:=h.ends p (by have h2:=HP.o;rw[List.getElem?_eq_getElem hlt] at h2;simp at h2;rw[←h2];exact List.getElem_mem _);rw[HLF.o] at this;cases this
       ·have e0:decide ((k:Int)<T.length)=false:=by simpa using hlt
        have e0':decide (k<T.length)=false:=by simpa using hlt
        go_wp2;go_ret;refine⟨0,rfl,⟨fun _=>⟨HS.o,HT.o,HEV.o,fun t ht=>?_⟩,fun _=>rfl⟩,HF.o.trans HG.o⟩;obtain⟨i,hi⟩:=List.getElem?_of_mem ht;have:=HJ.o i (by have:=(List.getElem?_eq_some_iff.1 hi).1;omega);rw[hi] at this;exact this
 ·have e1:(P[0]?.getD 0== -1)=false:=by simpa using hr
  have e2:(P[0]?.getD 0 != -1)=true:=by simpa using hr
  have HR:=aH hr;clear hr;generalize hp:P[0]?.getD 0=p at*;go_wp2;go_ret;exact⟨9,rfl,⟨fun h=>absurd h aO,fun h=>absurd (hp.symm.trans h.tree.1) HR.o⟩,HF.o⟩
theorem tx (w:World) {b1 b2:Nat} {v u:Value} {P T:List Int} (hx:a7 w b1 v P) (hy:a7 w b2 u T) (hs:¬uy P T):
 Calls prog 22 #[.agg #[v,u]] w fun e w'=>∃r,e= .returned (.int .i64 r)∧(r=0↔du P T)∧ae [] w w':=by
 have HN:=aH (show¬du P T from fun h=>hs h.size);have hs':¬(1≤P.length∧P.length≤32∧1≤T.length∧T.length≤32):=hs;obtain⟨a,cap,rfl,h1, -⟩:=hx;obtain⟨a',cap',rfl,h2, -⟩:=hy;unfold maxLen at h1 h2;clear hs;by_cases q1:P.length<1
 ·have d1:decide ((P.length:Int)<1)=true:=aT;have d5:decide (P.length<1)=true:=decide_eq_true q1;clear hs';go_enter func22,ntmps22;go_wp2;go_ret;exact⟨8,rfl,⟨fun h=>absurd h aO,fun h=>absurd h HN.o⟩,aF.alloc _⟩
 have d1:decide ((P.length:Int)<1)=false:=aB;have d5:decide (P.length<1)=false:=decide_eq_false q1;by_cases q2:32<P.length
 ·have d2:decide ((32:Int)<P.length)=true:=aT;have d6:decide (32<P.length)=true:=decide_eq_true q2;clear hs';go_enter func22,ntmps22;go_wp2;go_ret;exact⟨8,rfl,⟨fun h=>absurd h aO,fun h=>absurd h HN.o⟩,aF.alloc _⟩
 have d2:decide ((32:Int)<P.length)=false:=aB;have d6:decide (32<P.length)=false:=decide_eq_false q2;by_cases q3:T.length<1
 ·have d3:decide ((T.length:Int)<1)=true:=aT;have d7:decide (T.length<1)=true:=decide_eq_true q3;clear hs';go_enter func22,ntmps22;go_wp2;go_ret;exact⟨8,rfl,⟨fun h=>absurd h aO,fun h=>absurd h HN.o⟩,aF.alloc _⟩
 have d3:decide ((T.length:Int)<1)=false:=aB;have d7:decide (T.length<1)=false:=decide_eq_false q3;have d4:decide ((32:Int)<T.length)=true:=aT;have d8:decide (32<T.length)=true:=aT;clear hs';go_enter func22,ntmps22;go_wp2;go_ret;exact⟨8,rfl,⟨fun h=>absurd h aO,fun h=>absurd h HN.o⟩,aF.alloc _⟩
theorem tL (w:World) {b1 b2:Nat} {v u:Value} {P T:List Int} (hx:a7 w b1 v P) (hy:a7 w b2 u T):
 Calls prog 22 #[.agg #[v,u]] w fun e w'=>∃r,e= .returned (.int .i64 r)∧(r=0↔du P T)∧ae [] w w':=by
 by_cases hs:uy P T
 ·exact vf w hx hy hs
 ·exact tx w hx hy hs
def fw (P T:List Int) (m:Nat):Prop:=du P T∧T.length≤m
theorem lB (w:World) {b1 b2:Nat} {v u:Value} {P T:List Int} (hx:a7 w b1 v P) (hy:a7 w b2 u T) (m:Nat):
 Calls prog 7 #[.agg #[v,u],m] w fun e w'=>∃r,e= .returned (.bool r)∧(r=true↔fw P T m)∧ae [] w w':=by
 have HC:=aH (fun(W:World) (hf:ae [] w W)=>tL W (hx.frm hf aS) (hy.frm hf aS));obtain⟨a,cap,rfl,h1, -⟩:=hx;obtain⟨a',cap',rfl,h2, -⟩:=hy;unfold maxLen at h1 h2;go_enter func7,ntmps7;go_wp2_with fail;refine(HC.o _ (aF.alloc _)).mono ?_;rintro e w1 ⟨r,rfl,hr,hF⟩;have HF:=aH (((ae.refl [] w).alloc (.cells #[.slice a P.length cap,.slice a' T.length cap'] 24)).trans hF);have k1:=((am.new w #[.slice a P.length cap,.slice a' T.length cap'] 24).frm hF aS).cell (i:=1) rfl;have HR:=aH hr;clear hF hr;by_cases h0:r=0
 ·have e0:(r==0)=true:=by simpa using h0
  have HT:=aH (HR.o.1 h0);clear h0;by_cases hl:T.length≤m
  ·have e1:decide ((T.length:Int)≤m)=true:=aT;have e2:decide (T.length≤m)=true:=decide_eq_true hl;go_wp2;go_ret;exact⟨true,rfl,⟨fun _=>⟨HT.o,hl⟩,fun _=>rfl⟩,HF.o⟩
  ·have e1:decide ((T.length:Int)≤m)=false:=aB;have e2:decide (T.length≤m)=false:=decide_eq_false hl;go_wp2;go_ret;exact⟨false,rfl,⟨fun h=>absurd h aS,fun h=>absurd h.2 hl⟩,HF.o⟩
 ·have e0:(r==0)=false:=by simpa using h0
  have HT:=aH (show¬du P T from fun h=>h0 (HR.o.2 h));clear h0;go_wp2;go_ret;exact⟨false,rfl,⟨fun h=>absurd h aS,fun h=>absurd h.1 HT.o⟩,HF.o⟩
end Go.Proofs.YteijjhahgabalaaGreat
