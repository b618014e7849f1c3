/- The contract of the reference's Has: whether a number is among others. -/
import Derived.Lib.Hide
import Derived.WalkSpells
import Derived.BigQuiet
import Derived.Test.YteijjhahgabalaaGreatWF11
import Derived.Test.YteijjhahgabalaaGreatWF01
set_option maxRecDepth 100000
set_option maxHeartbeats 8000000
set_option linter.all false
namespace Go.Proofs.YteijjhahgabalaaGreat
open Go.RowKit
open Tryz
variable{b1:Nat}{v:Value}
theorem Gj(w:World){xs:List Int}(y:aZ w b1 v xs)(n:Int):
 Calls prog 48 #[v,n] w λe w'=>e= .returned (.bool (decide (n∈xs)))/\w=w':=by
 obtain⟨a,cap,rfl,h1,f⟩:=y;unfold maxLen at h1;have u:=aH f;clear f;generalize s:decide (n∈xs)=q;have o:=aH s;clear s;go_enter func48,ntmps48;go_wp2_with fail;go_loopw[5] (λi wr=>∃k:Nat,i= .int .i64 k/\k<=xs.length/\(∀j,j<k->xs[j]? ≠some n)/\w=wr) (λi _=>xs.length - (intOf i).toNat)
 case atStart=>exact⟨0,rfl,fA _,λj hj=>am hj (Nat.not_lt_zero _),rfl⟩
 case round=>
  obtain⟨k,rfl,z,hj,rfl⟩:=hrel;have HJ:=aH hj;clear hj;by_cases l:k<xs.length
  ·obtain⟨b,off,_,rfl,p⟩:=u.o aO;have c1:w.cell? (b,off+k)=some (.int .i64 (xs[k]?.getD 0)):=p k l;have l1:(k:Int)<xs.length:=by omega
   have ex:xs[k]? =some (xs[k]?.getD 0):=by simp[l]
   have m:=aH ex;clear p ex;generalize xs[k]?.getD 0=x at*;by_cases c:x=n
   ·have d1:(x==n)=true:=by simpa using c
    have d:=aH c;clear c;go_wp2;go_ret;refine⟨l9 ?_,rfl⟩;rw[<-o.o]
    symm
    apply ef;have:=m.o;rw[d.o] at this;exact List.mem_of_getElem? this
   ·have d1:(x==n)=false:=by simpa using c
    have d:=aH c;clear c;go_wp2;go_roundw
    case rel=>
     refine⟨k+1,by go_num,by omega,λj hj=>?_,by trivial⟩;by_cases e:j=k
     ·rw[e,m.o];intro h;exact d.o (by simpa using h)
     ·exact HJ.o j aO
    case measure=>simp[intOf];omega
  ·have g:k=xs.length:=by omega
   have t:=aH g;clear g;go_wp2;go_ret;refine⟨l9 ?_,rfl⟩;rw[<-o.o]
   symm
   apply dh;intro h;obtain⟨j,hj⟩:=FO h;have r:j<xs.length:=(pH.1 hj).1;exact HJ.o j (by have:=t.o;omega) hj
def ee(P:List Int)(v:Int):Bool:=decide (0<=v)&&decide (v<P.length)&& !decide (v∈P)
def cM(P:List Int):Nat->Int->Nat
 | 0,_=>0
 |k+1,v=>if 0<=v/\v<P.length then 1+cM P k (P[v.toNat]?.getD 0) else 0
def Ae(P T:List Int):Prop:=1<=P.length/\P.length<=32/\1<=T.length/\T.length<=32
def jD(P:List Int):Prop:=P[0]?.getD 0= -1/\∀v:Nat,1<=v->v<P.length->0<=P[v]?.getD 0/\P[v]?.getD 0<v
def Ad(P:List Int):Prop:=∀v w:Nat,v<P.length->w<P.length->ee P v=true->ee P w=true->cM P P.length v=cM P P.length w/\cM P P.length v<=5
structure ea(P T:List Int):Prop where
 size:Ae P T
 tree:jD P
 even:Ad P
 ends:∀t∈T,ee P t=true
theorem sC(P:List Int):∀(k:Nat)(v:Int),cM P k v<=k
 | 0,_=>ba _
 |k+1,v=>by
  unfold cM
  split
  ·have:=sC P k (P[v.toNat]?.getD 0);omega
  ·omega
variable{P:List Int}
theorem D1(w:World)(d:aZ w b1 v P)(i:Int):
 Calls prog 29 #[v,i] w λe w'=>e= .returned (.bool (ee P i))/\w=w':=by
 have f:=aH (Gj w d i);obtain⟨a,cap,rfl,h1,c⟩:=d;unfold maxLen at h1;clear c;by_cases b:0<=i
 ·by_cases h2:i<P.length
  ·have e:ee P i= !decide (i∈P):=by unfold ee;simp[b,h2]
   rw[e];have d1:decide (0<=i)=true:=by simpa using b
   have d2:decide (i<(P.length:Int))=true:=by simpa using h2
   clear e;generalize decide (i∈P)=q at*;go_enter func29,ntmps29;go_wp2_with fail;refine gF f.o ?_;rintro w' rfl;go_wp2;go_ret;exact⟨rfl,rfl⟩
  ·have e:ee P i=false:=by unfold ee;simp[h2]
   rw[e];have d1:decide (0<=i)=true:=by simpa using b
   have d2:decide (i<(P.length:Int))=false:=by simpa using h2
   clear e;go_enter func29,ntmps29;go_wp2;go_ret;exact⟨rfl,rfl⟩
 ·have e:ee P i=false:=by unfold ee;simp[b]
  rw[e];have d1:decide (0<=i)=false:=by simpa using b
  clear e;go_enter func29,ntmps29;go_wp2;go_ret;exact⟨rfl,rfl⟩
theorem C9(w:World)(t:aZ w b1 v P)(hs:P.length<=100)(i:Int):
 Calls prog 40 #[v,i] w λe w'=>e= .returned (cM P P.length i:Int)/\w=w':=by
 obtain⟨a,cap,rfl,h1,f⟩:=t;have s:=aH f;clear f h1;generalize p:cM P P.length i=D;have r:=aH p;clear p;go_enter func40,ntmps40;go_wp2_with fail;go_loopw[5,6,1] (λnv o u z=>∃(k m:Nat)(x:Int),nv= .int .i64 m/\o= .int .i64 k/\u= .int .i64 x/\k<=P.length/\m<=k/\m+cM P (P.length - k) x=D/\w=z) (λ_ o _ _=>P.length - (intOf o).toNat)
 case atStart=>exact⟨0,0,i,rfl,rfl,rfl,by omega,by omega,by have:=r.o;simpa using this,rfl⟩
 case round=>
  obtain⟨k,m,x,rfl,rfl,rfl,A,hm,hd,rfl⟩:=hrel;have h:=aH hd;clear hd;by_cases g:k<P.length
  ·have d0:decide ((k:Int)<P.length)=true:=by simpa using g
   by_cases n:0<=x
   ·have d1:decide (0<=x)=true:=by simpa using n
    by_cases h2:x<P.length
    ·have d2:decide (x<(P.length:Int))=true:=by simpa using h2
     obtain⟨j,rfl⟩:∃j:Nat,x=j:=⟨x.toNat,by omega⟩
     have hj:j<P.length:=by omega
     obtain⟨b,off,_,rfl,q⟩:=s.o aO;have c1:=q j hj;have l1:(j:Int)<P.length:=h2;have c:m+1+cM P (P.length - (k+1)) (P[j]?.getD 0)=D:=by
      have h3:=h.o;rw[show P.length - k=(P.length - (k+1))+1 by omega] at h3;unfold cM at h3;rw[ad ⟨n,h2⟩] at h3;simp only[cH] at h3;omega
     have l:=aH c;clear q c;generalize P[j]?.getD 0=y at*;go_wp2_with fail;go_roundw
     case rel=>exact⟨k+1,m+1,y,by go_num,by go_num,rfl,by omega,by omega,l.o,by trivial⟩
     case measure=>simp[intOf];omega
    ·have d2:decide (x<(P.length:Int))=false:=by simpa using h2
     have c:m=D:=by
      have h3:=h.o;rw[show P.length - k=(P.length - (k+1))+1 by omega] at h3;unfold cM at h3;rw[ac aO] at h3;omega
     have d:=aH c;clear c;go_wp2;go_ret;exact⟨eW (by rw[d.o]),rfl⟩
   ·have d1:decide (0<=x)=false:=by simpa using n
    have c:m=D:=by
     have h3:=h.o;rw[show P.length - k=(P.length - (k+1))+1 by omega] at h3;unfold cM at h3;rw[ac aO] at h3;omega
    have d:=aH c;clear c;go_wp2;go_ret;exact⟨eW (by rw[d.o]),rfl⟩
  ·have d0:decide ((k:Int)<P.length)=false:=by simpa using g
   have c:m=D:=by
    have h3:=h.o;rw[show P.length - k=0 by omega] at h3;exact h3
   have d:=aH c;clear c;go_wp2;go_ret;exact⟨eW (by rw[d.o]),rfl⟩
end Go.Proofs.YteijjhahgabalaaGreat
