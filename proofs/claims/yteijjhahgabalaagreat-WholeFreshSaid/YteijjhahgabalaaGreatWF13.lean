/- The contract of the document's Check of a topology. -/
import Derived.Deep.DeepCutAuto
import Derived.Deep.CutBlock
import Derived.Test.YteijjhahgabalaaGreatWF12
import Derived.Test.YteijjhahgabalaaGreatWF02
set_option maxRecDepth 100000
set_option maxHeartbeats 8000000
set_option linter.all false
namespace Go.Proofs.YteijjhahgabalaaGreat
open Go.RowKit
open Tryz
variable{P:List Int}
theorem tL{v:Nat}(h:ee P v=true):1<=cM P P.length v:=by
 have hv:v<P.length:=by unfold ee at h;simp at h;omega
 obtain⟨k,a⟩:∃k,P.length=k+1:=⟨P.length - 1,by omega⟩
 have:1<=cM P (k+1) v:=by
  unfold cM;rw[ad aO];omega
 rw[a];exact this
def qh(P:List Int)(k f:Nat):Prop:=(∀v:Nat,v<k->ee P v=true->cM P P.length v=f/\f<=5)/\(f=0\/∃z:Nat,z<P.length/\ee P z=true/\cM P P.length z=f)
variable{k f:Nat}
theorem qh.skip(h:qh P k f)(hl:ee P k=false):qh P (k+1) f:=by
 refine⟨λv hv a=>?_,h.2⟩;by_cases e:v=k
 ·subst e;rw[hl] at a;cases a
 ·exact h.1 v aO a
variable{d:Nat}
theorem qh.next(h:qh P k f)(c:k<P.length)(hl:ee P k=true)(hd:cM P P.length k=d)(a:f=0\/f=d)(h5:d<=5):qh P (k+1) d:=by
 refine⟨λv hv b=>?_,.inr ⟨k,c,hl,hd⟩⟩;by_cases e:v=k
 ·subst e;exact⟨hd,h5⟩
 ·obtain⟨h1,h2⟩:=h.1 v aO b;have:=tL b;rcases a with a|a
  ·omega
  ·exact⟨by omega,h5⟩
theorem qh.bad(h:qh P k f)(a:k<P.length)(hl:ee P k=true)(hd:cM P P.length k=d)(c:(f≠0/\d≠f)\/5<d):¬Ad P:=by
 intro e;have:=e k k a a hl hl;rcases c with⟨h1,h2⟩|c
 ·rcases h.2 with h3|⟨z,g,b,i⟩
  ·exact h1 h3
  ·have:=e k z a g hl b;omega
 ·omega
theorem qh.all(h:qh P P.length f):Ad P:=by
 intro v w hv c h1 h2;have a:=h.1 v hv h1;have b:=h.1 w c h2;omega
variable{v u:Value}{b1:Nat}{T:List Int}
theorem Bm(w:World){b2:Nat}(hx:aZ w b1 v P)(hy:aZ w b2 u T)(hs:Ae P T):
 Calls prog 22 #[.agg #[v,u]] w λe w'=>∃r,e= .returned (.int .i64 r)/\(r=0↔ea P T)/\af [] w w':=by
 obtain⟨a,cap,rfl,h1,hcx⟩:=hx;obtain⟨a',I,rfl,h2,hcy⟩:=hy;have HS:=aH hs;have HX:=aH hcx;have HY:=aH hcy;obtain⟨s1,s2,s3,s4⟩:=hs;have d1:decide ((P.length:Int)<1)=false:=aB;have d2:decide ((32:Int)<P.length)=false:=aB;have d3:decide ((T.length:Int)<1)=false:=aB;have d4:decide ((32:Int)<T.length)=false:=aB;have d5:decide (P.length<1)=false:=aB;have d6:decide (32<P.length)=false:=aB;have d7:decide (T.length<1)=false:=aB;have d8:decide (32<T.length)=false:=aB;clear hcx hcy h1 h2;obtain⟨b,off,hb,rfl,Y⟩:=HX.o aO;have c0:w.cell? (b,off)=some (.int .i64 (P[0]?.getD 0)):=Y 0 aO;have hbl:b<w.heap.size:=qu c0;have HC:=aH (λ(W:World) (N:af [] w W) (i:Nat) (hi:i<P.length)=>N.cell (Y i hi) aS);have G:=aH (λ(W:World) (N:af [] w W) (x:Int)=>D1 W (b1:=b1) (v:=.slice (some ⟨b,off,none⟩) P.length cap) (P:=P) ⟨some ⟨b,off,none⟩,cap,rfl,by unfold maxLen;omega,λ_=>⟨b,off,hb,rfl,λi hi=>N.cell (Y i hi) aS⟩⟩ x);have U:=aH (λ(W:World) (N:af [] w W) (x:Int)=>C9 W (b1:=b1) (v:=.slice (some ⟨b,off,none⟩) P.length cap) (P:=P) ⟨some ⟨b,off,none⟩,cap,rfl,by unfold maxLen;omega,λ_=>⟨b,off,hb,rfl,λi hi=>N.cell (Y i hi) aS⟩⟩ aO x);obtain⟨b',E,hb',rfl,Z⟩:=HY.o aO;have HC':=aH (λ(W:World) (N:af [] w W) (i:Nat) (hi:i<T.length)=>N.cell (Z i hi) aS);clear Y Z c0;have l0:(0:Int)<P.length:=by omega
 go_enter func22,ntmps22
 go_upto_region 3 with fail
 generalize hW:World.alloc _ _=W;have hB:aq W w.heap.size [.slice (some ⟨b,off,none⟩) P.length cap,.slice (some ⟨b',E,none⟩) T.length I] 24:=by subst hW;exact aq.new w _ _
 have X:af [] w W:=by subst hW;exact aF.alloc _
 have HB:=aH hB;have l:=aH X;clear hW hB X;have k0:=HB.o.cell (i:=0) rfl;have k1:=HB.o.cell (i:=1) rfl;have p0:W.cell? (b,off)=some (.int .i64 (P[0]?.getD 0)):=HC.o W l.o 0 aO;by_cases R:P[0]?.getD 0= -1
 ·rw[R] at p0;have HR:=aH R;clear R;go_wp2_with fail;go_loopw[3] (λD s=>∃k:Nat,D= .int .i64 k/\1<=k/\k<=P.length/\(∀v:Nat,1<=v->v<k->0<=P[v]?.getD 0/\P[v]?.getD 0<v)/\W=s) (λD _=>P.length - (intOf D).toNat)
  case atStart=>exact⟨1,rfl,by omega,by omega,λv h1 h2=>by omega,rfl⟩
  case round=>
   obtain⟨k,rfl,O,hk2,hj,rfl⟩:=hrel;have HJ:=aH hj;clear hj;by_cases d:k<P.length
   ·have S:decide ((k:Int)<P.length)=true:=by simpa using d
    have z:decide (k<P.length)=true:=by simpa using d
    have l1:(k:Int)<P.length:=by omega
    have p1:=HC.o W l.o k d;generalize Q:P[k]?.getD 0=p at*;have HP:=aH Q;clear Q;by_cases n1:p<0
    ·have e1:decide (p<0)=true:=by simpa using n1
     go_wp2;go_ret;refine⟨9,rfl,⟨λh=>am h aO,λh=>?_⟩,l.o⟩;have:=(h.tree.2 k O d).1;rw[HP.o] at this;omega
    ·have e1:decide (p<0)=false:=by simpa using n1
     by_cases n2:(k:Int)<=p
     ·have e2:decide ((k:Int)<=p)=true:=by simpa using n2
      go_wp2;go_ret;refine⟨9,rfl,⟨λh=>am h aO,λh=>?_⟩,l.o⟩;have:=(h.tree.2 k O d).2;rw[HP.o] at this;omega
     ·have e2:decide ((k:Int)<=p)=false:=by simpa using n2
      have HN:=aH (show 0<=p/\p<k by omega);clear n1 n2;go_wp2_with fail;go_roundw
      case rel=>
       refine⟨k+1,by go_num,by omega,by omega,λv h1 h2=>?_,by trivial⟩;by_cases e:v=k
       ·subst e;rw[HP.o];exact HN.o
       ·exact HJ.o v h1 aO
      case measure=>simp[intOf];omega
   ·have S:decide ((k:Int)<P.length)=false:=by simpa using d
    have z:decide (k<P.length)=false:=by simpa using d
    have HT:=aH (show jD P from⟨HR.o,λv h1 h2=>HJ.o v h1 aO⟩);clear HJ d O hk2 p0;go_wp2_with fail;go_loopw[5,4] (λD fv s=>∃k f:Nat,D= .int .i64 k/\fv= .int .i64 f/\k<=P.length/\f<=32/\qh P k f/\W=s) (λD _ _=>P.length - (intOf D).toNat)
    case atStart=>exact⟨0,0,rfl,rfl,by omega,by omega,⟨λv hv=>by omega,.inl rfl⟩,rfl⟩
    case round=>
     obtain⟨k,f,rfl,rfl,hk,hf32,L,rfl⟩:=hrel;have H:=aH L;clear L;by_cases d:k<P.length
     ·have S:decide ((k:Int)<P.length)=true:=by simpa using d
      have z:decide (k<P.length)=true:=by simpa using d
      cases n:ee P k with
      |false=>
       have A:=aH (H.o.skip n);go_wp2_with fail;refine(G.o W l.o k).mono ?_;rw[n];rintro e w1 ⟨rfl,rfl⟩;go_wp2_with fail;go_roundw
       case rel=>exact⟨k+1,f,by go_num,rfl,by omega,hf32,A.o,by trivial⟩
       case measure=>simp[intOf];omega
      |true=>
       have g:=aH n;generalize hdk:cM P P.length k=o;have J:o<=32:=by have:=sC P P.length k;omega
       have hd1:1<=o:=by have:=tL n;omega
       have m:=aH hdk;clear hdk n;by_cases f0:f=0
       ·subst f0;by_cases f5:o<=5
        ·have e5:decide ((5:Int)<o)=false:=by simp;omega
         have e6:decide (5<o)=false:=by simp;omega
         have A:=aH (H.o.next d g.o m.o (.inl rfl) f5);go_wp2_with fail;refine(G.o W l.o k).mono ?_;rw[g.o];rintro e w1 ⟨rfl,rfl⟩;go_wp2_with fail;refine(U.o W l.o k).mono ?_;rw[m.o];rintro e w1 ⟨rfl,rfl⟩;go_wp2_with fail;go_roundw
         case rel=>exact⟨k+1,o,by go_num,rfl,by omega,J,A.o,by trivial⟩
         case measure=>simp[intOf];omega
        ·have e5:decide ((5:Int)<o)=true:=by simp;omega
         have e6:decide (5<o)=true:=by simp;omega
         have V:=aH (H.o.bad d g.o m.o (.inr aO));go_wp2_with fail;refine(G.o W l.o k).mono ?_;rw[g.o];rintro e w1 ⟨rfl,rfl⟩;go_wp2_with fail;refine(U.o W l.o k).mono ?_;rw[m.o];rintro e w1 ⟨rfl,rfl⟩;go_wp2;go_ret;exact⟨9,rfl,⟨λh=>am h aO,λh=>am h.even V.o⟩,l.o⟩
       ·have g0:((f:Int)==0)=false:=by simpa using f0
        have g1:(f==0)=false:=by simpa using f0
        by_cases fe:o=f
        ·subst fe;by_cases f5:o<=5
         ·have e5:decide ((5:Int)<o)=false:=by simp;omega
          have e6:decide (5<o)=false:=by simp;omega
          have A:=aH (H.o.next d g.o m.o (.inr rfl) f5);go_wp2_with fail;refine(G.o W l.o k).mono ?_;rw[g.o];rintro e w1 ⟨rfl,rfl⟩;go_wp2_with fail;refine(U.o W l.o k).mono ?_;rw[m.o];rintro e w1 ⟨rfl,rfl⟩;go_wp2_with fail;go_roundw
          case rel=>exact⟨k+1,o,by go_num,rfl,by omega,J,A.o,by trivial⟩
          case measure=>simp[intOf];omega
         ·have e5:decide ((5:Int)<o)=true:=by simp;omega
          have e6:decide (5<o)=true:=by simp;omega
          have V:=aH (H.o.bad d g.o m.o (.inr aO));go_wp2_with fail;refine(G.o W l.o k).mono ?_;rw[g.o];rintro e w1 ⟨rfl,rfl⟩;go_wp2_with fail;refine(U.o W l.o k).mono ?_;rw[m.o];rintro e w1 ⟨rfl,rfl⟩;go_wp2;go_ret;exact⟨9,rfl,⟨λh=>am h aO,λh=>am h.even V.o⟩,l.o⟩
        ·have g2:((o:Int)!=f)=true:=by simp;omega
         have g3:(o !=f)=true:=by simp;omega
         have V:=aH (H.o.bad d g.o m.o (.inl ⟨f0,fe⟩));go_wp2_with fail;refine(G.o W l.o k).mono ?_;rw[g.o];rintro e w1 ⟨rfl,rfl⟩;go_wp2_with fail;refine(U.o W l.o k).mono ?_;rw[m.o];rintro e w1 ⟨rfl,rfl⟩;go_wp2;go_ret;exact⟨9,rfl,⟨λh=>am h aO,λh=>am h.even V.o⟩,l.o⟩
     ·have S:decide ((k:Int)<P.length)=false:=by simpa using d
      have z:decide (k<P.length)=false:=by simpa using d
      have hkl:k=P.length:=by omega
      have HEV:=aH (show Ad P from qh.all (f:=f) (by rw[<-hkl];exact H.o));clear H hkl;go_wp2_with fail;go_loopw[7] (λD s=>∃k:Nat,D= .int .i64 k/\k<=T.length/\(∀i:Nat,i<k->ee P (T[i]?.getD 0)=true)/\af [] W s) (λD _=>T.length - (intOf D).toNat)
      case atStart=>exact⟨0,rfl,by omega,λi hi=>by omega,aF⟩
      case round=>
       obtain⟨k,rfl,hk,hj,X⟩:=hrel;have HJ:=aH hj;have F:=aH X;clear hj X S z d;have k0:=(HB.o.Rr F.o aS).cell (i:=0) rfl;have k1:=(HB.o.Rr F.o aS).cell (i:=1) rfl;by_cases d:k<T.length
       ·have S:decide ((k:Int)<T.length)=true:=by simpa using d
        have z:decide (k<T.length)=true:=by simpa using d
        have l1:(k:Int)<T.length:=by omega
        have hne:=aW [] wr;have hz0:∀q:HW (λs=>af [] wr s),q.w.cell? (w.heap.size,0)=some (.slice (some ⟨b,off,none⟩) P.length cap):=λq=>q.h.cell k0 aS;have hz1:∀q:HW (λs=>af [] wr s),q.w.cell? (w.heap.size,1)=some (.slice (some ⟨b',E,none⟩) T.length I):=λq=>q.h.cell k1 aS;have hz2:∀q:HW (λs=>af [] wr s),q.w.cell? (b',E+k)=some (.int .i64 (T[k]?.getD 0)):=λq=>HC'.o _ (l.o.trans (F.o.trans q.h)) k d;generalize Q:T[k]?.getD 0=p at*;have HP:=aH Q;clear Q;cases n:ee P p with
        |true=>
         have g:=aH n;clear n
         go_upto_region 23 with fail
         refine aG (λs=>af [] wr s) ?_;refine eQ (fuel:=2) [0,1,2,3,4,5,6] rfl aF.Rs ?_;refine aL 7 (fuel:=1) rfl ?_;go_wp2_with fail;refine(G.o _ (l.o.trans (F.o.Rs)) p).mono ?_;rw[g.o];rintro e w1 ⟨rfl,rfl⟩;go_wp2_with fail;refine ah ⟨aF.Rs,?_⟩;refine eQ (fuel:=0) [8] rfl aF.Rs ?_;refine aN ?_;have M:=aH (F.o.trans ((af.refl [] wr).Rs));go_wp2_with fail;go_roundw
         case rel=>
          refine⟨k+1,by go_num,by omega,λi hi=>?_,M.o⟩;by_cases e:i=k
          ·subst e;rw[HP.o];exact g.o
          ·exact HJ.o i aO
         case measure=>simp[intOf];omega
        |false=>
         have g:=aH n;clear n
         go_upto_region 23 with fail
         refine aG (λs=>af [] wr s) ?_;refine eQ (fuel:=2) [0,1,2,3,4,5,6] rfl aF.Rs ?_;refine aL 7 (fuel:=1) rfl ?_;go_wp2_with fail;refine(G.o _ (l.o.trans (F.o.Rs)) p).mono ?_;rw[g.o];rintro e w1 ⟨rfl,rfl⟩;go_wp2_with fail;refine ah ⟨aF.Rs,?_⟩;refine eQ (fuel:=0) [8] rfl aF.Rs ?_;refine aN ?_;have M:=aH (F.o.trans ((af.refl [] wr).Rs));go_wp2;go_ret;refine⟨4,rfl,⟨λh=>am h aO,λh=>?_⟩,l.o.trans M.o⟩;have:=h.ends p (by have h2:=HP.o;rw[eB d] at h2;simp at h2;rw[<-h2];exact lB _);rw[g.o] at this;cases this
       ·have S:decide ((k:Int)<T.length)=false:=by simpa using d
        have z:decide (k<T.length)=false:=by simpa using d
        go_wp2;go_ret;refine⟨0,rfl,⟨λ_=>⟨HS.o,HT.o,HEV.o,λt ht=>?_⟩,λ_=>rfl⟩,l.o.trans F.o⟩;obtain⟨i,hi⟩:=FO ht;have:=HJ.o i (by have:=(pH.1 hi).1;omega);rw[hi] at this;exact this
 ·have e1:(P[0]?.getD 0== -1)=false:=by simpa using R
  have e2:(P[0]?.getD 0 != -1)=true:=by simpa using R
  have HR:=aH R;clear R;generalize Q:P[0]?.getD 0=p at*;go_wp2;go_ret;exact⟨9,rfl,⟨λh=>am h aO,λh=>am (Q.symm.trans h.tree.1) HR.o⟩,l.o⟩
theorem yE(w:World){j:Nat}(k:aZ w b1 v P)(l:aZ w j u T)(hs:¬Ae P T):
 Calls prog 22 #[.agg #[v,u]] w λe w'=>∃r,e= .returned (.int .i64 r)/\(r=0↔ea P T)/\af [] w w':=by
 have c:=aH (show¬ea P T fromλh=>hs h.size);have b:¬(1<=P.length/\P.length<=32/\1<=T.length/\T.length<=32):=hs;obtain⟨a,cap,rfl,h1, -⟩:=k;obtain⟨m,d,rfl,h2, -⟩:=l;unfold maxLen at h1 h2;clear hs;by_cases f:P.length<1
 ·have d1:decide ((P.length:Int)<1)=true:=aT;have d5:decide (P.length<1)=true:=ef f;clear b;go_enter func22,ntmps22;go_wp2;go_ret;exact⟨8,rfl,⟨λh=>am h aO,λh=>am h c.o⟩,aF.alloc _⟩
 have d1:decide ((P.length:Int)<1)=false:=aB;have d5:decide (P.length<1)=false:=dh f;by_cases g:32<P.length
 ·have d2:decide ((32:Int)<P.length)=true:=aT;have d6:decide (32<P.length)=true:=ef g;clear b;go_enter func22,ntmps22;go_wp2;go_ret;exact⟨8,rfl,⟨λh=>am h aO,λh=>am h c.o⟩,aF.alloc _⟩
 have d2:decide ((32:Int)<P.length)=false:=aB;have d6:decide (32<P.length)=false:=dh g;by_cases i:T.length<1
 ·have d3:decide ((T.length:Int)<1)=true:=aT;have d7:decide (T.length<1)=true:=ef i;clear b;go_enter func22,ntmps22;go_wp2;go_ret;exact⟨8,rfl,⟨λh=>am h aO,λh=>am h c.o⟩,aF.alloc _⟩
 have d3:decide ((T.length:Int)<1)=false:=aB;have d7:decide (T.length<1)=false:=dh i;have d4:decide ((32:Int)<T.length)=true:=aT;have d8:decide (32<T.length)=true:=aT;clear b;go_enter func22,ntmps22;go_wp2;go_ret;exact⟨8,rfl,⟨λh=>am h aO,λh=>am h c.o⟩,aF.alloc _⟩
theorem yD(w:World){c:Nat}(a:aZ w b1 v P)(b:aZ w c u T):
 Calls prog 22 #[.agg #[v,u]] w λe w'=>∃r,e= .returned (.int .i64 r)/\(r=0↔ea P T)/\af [] w w':=by
 by_cases hs:Ae P T
 ·exact Bm w a b hs
 ·exact yE w a b hs
def je(P T:List Int)(m:Nat):Prop:=ea P T/\T.length<=m
theorem oI(w:World){s:Nat}(o:aZ w b1 v P)(p:aZ w s u T)(m:Nat):
 Calls prog 7 #[.agg #[v,u],m] w λe w'=>∃r,e= .returned (.bool r)/\(r=true↔je P T m)/\af [] w w':=by
 have q:=aH (λ(W:World) (l:af [] w W)=>yD W (o.Rr l aS) (p.Rr l aS));obtain⟨a,cap,rfl,h1, -⟩:=o;obtain⟨k,b,rfl,h2, -⟩:=p;unfold maxLen at h1 h2;go_enter func7,ntmps7;go_wp2_with fail;refine(q.o _ (aF.alloc _)).mono ?_;rintro e w1 ⟨r,rfl,n,g⟩;have d:=aH (((af.refl [] w).alloc (.cells #[.slice a P.length cap,.slice k T.length b] 24)).trans g);have k1:=((aq.new w #[.slice a P.length cap,.slice k T.length b] 24).Rr g aS).cell (i:=1) rfl;have j:=aH n;clear g n;by_cases c:r=0
 ·have t:(r==0)=true:=by simpa using c
  have f:=aH (j.o.1 c);clear c;by_cases hl:T.length<=m
  ·have x:decide ((T.length:Int)<=m)=true:=aT;have y:decide (T.length<=m)=true:=ef hl;go_wp2;go_ret;exact⟨true,rfl,⟨λ_=>⟨f.o,hl⟩,λ_=>rfl⟩,d.o⟩
  ·have x:decide ((T.length:Int)<=m)=false:=aB;have y:decide (T.length<=m)=false:=dh hl;go_wp2;go_ret;exact⟨false,rfl,⟨λh=>am h aS,λh=>am h.2 hl⟩,d.o⟩
 ·have t:(r==0)=false:=by simpa using c
  have f:=aH (show¬ea P T fromλh=>c (j.o.2 h));clear c;go_wp2;go_ret;exact⟨false,rfl,⟨λh=>am h aS,λh=>am h.1 f.o⟩,d.o⟩
end Go.Proofs.YteijjhahgabalaaGreat
