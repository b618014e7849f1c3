/- The contract of the reference's Has: whether a number is among others. -/
import Derived.Lib.Hide
import Derived.WalkSpells
import Derived.BigQuiet
import Derived.Test.YteijjhahgabalaaGreatWA07
import Derived.Test.YteijjhahgabalaaGreatWA02
set_option maxRecDepth 100000
set_option maxHeartbeats 8000000
set_option linter.all false
namespace Go.Proofs.YteijjhahgabalaaGreat
open Go.RowKit
open Tryz
theorem Cc (w:World) {b1:Nat} {v:Value} {xs:List Int} (hx:a7 w b1 v xs) (n:Int):
 Calls prog 48 #[v,n] w fun e w'=>e= .returned (.bool (decide (n∈xs)))∧w=w':=by
 obtain⟨a,cap,rfl,h1,hcx⟩:=hx;unfold maxLen at h1;have HX:=aH hcx;clear hcx;generalize hq:decide (n∈xs)=q;have HQ:=aH hq;clear hq;go_enter func48,ntmps48;go_wp2_with fail;go_loopw[5] (fun i wr=>∃k:Nat,i= .int .i64 k∧k≤xs.length∧(∀j,j<k→xs[j]? ≠some n)∧w=wr) (fun i _=>xs.length - (intOf i).toNat)
 case atStart=>exact⟨0,rfl,Nat.zero_le _,fun j hj=>absurd hj (Nat.not_lt_zero _),rfl⟩
 case round=>
  obtain⟨k,rfl,hk,hj,rfl⟩:=hrel;have HJ:=aH hj;clear hj;by_cases hlt:k<xs.length
  ·obtain⟨b,off,_,rfl,hc⟩:=HX.o aO;have c1:w.cell? (b,off+k)=some (.int .i64 (xs[k]?.getD 0)):=hc k hlt;have l1:(k:Int)<xs.length:=by omega
   have ex:xs[k]? =some (xs[k]?.getD 0):=by simp[hlt]
   have EX:=aH ex;clear hc ex;generalize xs[k]?.getD 0=x at*;by_cases hxy:x=n
   ·have d1:(x==n)=true:=by simpa using hxy
    have HXY:=aH hxy;clear hxy;go_wp2;go_ret;refine⟨bH ?_,rfl⟩;rw[←HQ.o]
    symm
    apply decide_eq_true;have:=EX.o;rw[HXY.o] at this;exact List.mem_of_getElem? this
   ·have d1:(x==n)=false:=by simpa using hxy
    have HXY:=aH hxy;clear hxy;go_wp2;go_roundw
    case rel=>
     refine⟨k+1,by go_num,by omega,fun j hj=>?_,by trivial⟩;by_cases e:j=k
     ·rw[e,EX.o];intro h;exact HXY.o (by simpa using h)
     ·exact HJ.o j aO
    case measure=>simp[intOf];omega
  ·have hke:k=xs.length:=by omega
   have HK:=aH hke;clear hke;go_wp2;go_ret;refine⟨bH ?_,rfl⟩;rw[←HQ.o]
   symm
   apply decide_eq_false;intro h;obtain⟨j,hj⟩:=List.getElem?_of_mem h;have hlt2:j<xs.length:=(List.getElem?_eq_some_iff.1 hj).1;exact HJ.o j (by have:=HK.o;omega) hj
def df (P:List Int) (v:Int):Bool:=decide (0≤v)&&decide (v<P.length)&& !decide (v∈P)
def bR (P:List Int):Nat→Int→Nat
 | 0,_=>0
 |k+1,v=>if 0≤v∧v<P.length then 1+bR P k (P[v.toNat]?.getD 0) else 0
def uy (P T:List Int):Prop:=1≤P.length∧P.length≤32∧1≤T.length∧T.length≤32
def gK (P:List Int):Prop:=P[0]?.getD 0= -1∧∀v:Nat,1≤v→v<P.length→0≤P[v]?.getD 0∧P[v]?.getD 0<v
def um (P:List Int):Prop:=∀v w:Nat,v<P.length→w<P.length→df P v=true→df P w=true→bR P P.length v=bR P P.length w∧bR P P.length v≤5
structure du (P T:List Int):Prop where
 size:uy P T
 tree:gK P
 even:um P
 ends:∀t∈T,df P t=true
theorem nz (P:List Int):∀(k:Nat) (v:Int),bR P k v≤k
 | 0,_=>Nat.le_refl _
 |k+1,v=>by
  unfold bR
  split
  ·have:=nz P k (P[v.toNat]?.getD 0);omega
  ·omega
theorem ym (w:World) {b1:Nat} {v:Value} {P:List Int} (hx:a7 w b1 v P) (i:Int):
 Calls prog 29 #[v,i] w fun e w'=>e= .returned (.bool (df P i))∧w=w':=by
 have HH:=aH (Cc w hx i);obtain⟨a,cap,rfl,h1,hcx⟩:=hx;unfold maxLen at h1;clear hcx;by_cases h0:0≤i
 ·by_cases h2:i<P.length
  ·have e:df P i= !decide (i∈P):=by unfold df;simp[h0,h2]
   rw[e];have d1:decide (0≤i)=true:=by simpa using h0
   have d2:decide (i<(P.length:Int))=true:=by simpa using h2
   clear e;generalize decide (i∈P)=q at*;go_enter func29,ntmps29;go_wp2_with fail;refine HH.o.mono ?_;rintro e w' ⟨rfl,rfl⟩;go_wp2;go_ret;exact⟨rfl,rfl⟩
  ·have e:df P i=false:=by unfold df;simp[h2]
   rw[e];have d1:decide (0≤i)=true:=by simpa using h0
   have d2:decide (i<(P.length:Int))=false:=by simpa using h2
   clear e;go_enter func29,ntmps29;go_wp2;go_ret;exact⟨rfl,rfl⟩
 ·have e:df P i=false:=by unfold df;simp[h0]
  rw[e];have d1:decide (0≤i)=false:=by simpa using h0
  clear e;go_enter func29,ntmps29;go_wp2;go_ret;exact⟨rfl,rfl⟩
theorem xC (w:World) {b1:Nat} {v:Value} {P:List Int} (hx:a7 w b1 v P) (hs:P.length≤100) (i:Int):
 Calls prog 40 #[v,i] w fun e w'=>e= .returned (bR P P.length i:Int)∧w=w':=by
 obtain⟨a,cap,rfl,h1,hcx⟩:=hx;have HX:=aH hcx;clear hcx h1;generalize hD:bR P P.length i=D;have HD:=aH hD;clear hD;go_enter func40,ntmps40;go_wp2_with fail;go_loopw[5,6,1] (fun nv kv iv wx=>∃(k m:Nat) (x:Int),nv= .int .i64 m∧kv= .int .i64 k∧iv= .int .i64 x∧k≤P.length∧m≤k∧m+bR P (P.length - k) x=D∧w=wx) (fun _ kv _ _=>P.length - (intOf kv).toNat)
 case atStart=>exact⟨0,0,i,rfl,rfl,rfl,by omega,by omega,by have:=HD.o;simpa using this,rfl⟩
 case round=>
  obtain⟨k,m,x,rfl,rfl,rfl,hk,hm,hd,rfl⟩:=hrel;have HE:=aH hd;clear hd;by_cases hlt:k<P.length
  ·have d0:decide ((k:Int)<P.length)=true:=by simpa using hlt
   by_cases h0:0≤x
   ·have d1:decide (0≤x)=true:=by simpa using h0
    by_cases h2:x<P.length
    ·have d2:decide (x<(P.length:Int))=true:=by simpa using h2
     obtain⟨j,rfl⟩:∃j:Nat,x=j:=⟨x.toNat,by omega⟩
     have hj:j<P.length:=by omega
     obtain⟨b,off,_,rfl,hc⟩:=HX.o aO;have c1:=hc j hj;have l1:(j:Int)<P.length:=h2;have e1:m+1+bR P (P.length - (k+1)) (P[j]?.getD 0)=D:=by
      have h3:=HE.o;rw[show P.length - k=(P.length - (k+1))+1 by omega] at h3;unfold bR at h3;rw[if_pos ⟨h0,h2⟩] at h3;simp only[Int.toNat_natCast] at h3;omega
     have HE2:=aH e1;clear hc e1;generalize P[j]?.getD 0=y at*;go_wp2_with fail;go_roundw
     case rel=>exact⟨k+1,m+1,y,by go_num,by go_num,rfl,by omega,by omega,HE2.o,by trivial⟩
     case measure=>simp[intOf];omega
    ·have d2:decide (x<(P.length:Int))=false:=by simpa using h2
     have e1:m=D:=by
      have h3:=HE.o;rw[show P.length - k=(P.length - (k+1))+1 by omega] at h3;unfold bR at h3;rw[if_neg aO] at h3;omega
     have HM:=aH e1;clear e1;go_wp2;go_ret;exact⟨cP (by rw[HM.o]),rfl⟩
   ·have d1:decide (0≤x)=false:=by simpa using h0
    have e1:m=D:=by
     have h3:=HE.o;rw[show P.length - k=(P.length - (k+1))+1 by omega] at h3;unfold bR at h3;rw[if_neg aO] at h3;omega
    have HM:=aH e1;clear e1;go_wp2;go_ret;exact⟨cP (by rw[HM.o]),rfl⟩
  ·have d0:decide ((k:Int)<P.length)=false:=by simpa using hlt
   have e1:m=D:=by
    have h3:=HE.o;rw[show P.length - k=0 by omega] at h3;exact h3
   have HM:=aH e1;clear e1;go_wp2;go_ret;exact⟨cP (by rw[HM.o]),rfl⟩
end Go.Proofs.YteijjhahgabalaaGreat
