/- Kind 8, hclh, comes to rest. -/
import Derived.Test.YteijjhahgabalaaGreatWF19
import Derived.Test.YteijjhahgabalaaGreatWF24
import Derived.Test.YteijjhahgabalaaGreatWF25
import Derived.Test.YteijjhahgabalaaGreatWF09
import Derived.Test.YteijjhahgabalaaGreatWF23
import Derived.Test.YteijjhahgabalaaGreatWF22
import Derived.Test.YteijjhahgabalaaGreatWF20
set_option maxRecDepth 100000
set_option maxHeartbeats 8000000
set_option linter.all false
namespace Go.Proofs.YteijjhahgabalaaGreat
open Go.RowKit
open Tryz
abbrev mq.m(M:mq):Nat:=(tE M.P).length
def hv(M:mq)(X:oF):HV:=⟨λj=>X.S j 0,λj=>X.S j 1,λj=>X.S j 3,λj=>eN M.n X.D j,λx=>X.A.S0 M.uf M.n x=true,λv=>if v<M.m then X.A.get ((M.tail:Int)+1+v) else 0,X.A.get M.tail⟩
structure xH(M:mq)(k:Nat)(X:oF):Prop where
 i:BT M k X
 ws:X.A.taken<=X.A.ws.length
 lay:1<=M.tail/\M.tail+1+M.m<=M.uf/\M.uf+M.n<=X.A.taken+1/\M.uf<=4096
 nd:∀j,j<M.n->M.nd j<M.m
 dw:∀j,j<M.n->X.A.get ((M.uf:Int)+j)=X.D j
 RC:∀j,j<M.n->X.S j 0=0\/X.S j 0=1\/X.S j 0=2\/X.S j 0=3\/X.S j 0=4\/X.S j 0=5\/X.S j 0=10\/X.S j 0=11
 dl:∀j,j<M.n->X.S j 0=2->1<=X.S j 2/\X.S j 2<=M.RN
 dy:0<=M.RN/\M.RN<=3
 hj:∃Mm R,HJ M.n M.nd (hv M X) Mm R
def rG(M:mq)(X:oF)(j:Nat):Prop:=X.S j 0=5/\¬X.A.S0 M.uf M.n (X.S j 1)=true
def oD(M:mq)(X:oF)(j:Nat):Nat:=if X.S j 0=0 then 0 else if X.S j 0=1 then 7+M.RN.toNat else if X.S j 0=2 then 6+(X.S j 2).toNat else if X.S j 0=3 then 5 else if X.S j 0=4 then 4 else if X.S j 0=5 then 3 else if X.S j 0=10 then 2 else 1
section
variable{M:mq}{X:oF}{k j:Nat}{A:AR}{v:Int}
variable{p:Nat}
theorem sD{n:Nat}{D:Nat->Nat}(a:p<n)(hn:n<=32)(hd:D p<=100000):eN n D p=((D p:Int)+1)*65536+((p:Int)+1):=by
 unfold eN fk pO gY;simp only[cH];rw[ad aQ,ad aQ]
variable{uf:Nat}
theorem LY{n:Nat}{d:Nat}(c:p<n)(hn:n<=32)(hd:d<=100000):A.S0 uf n (((d:Int)+1)*65536+((p:Int)+1))=decide ((d:Int)+1<=A.get ((uf:Int)+p)):=by
 have a:jS (((d:Int)+1)*65536+((p:Int)+1)) - 1=p:=by unfold jS;omega
 have b:yb (((d:Int)+1)*65536+((p:Int)+1))=(d:Int)+1:=by unfold yb;omega
 unfold AR.S0 jJ nQ fk;rw[a,b];have:decide (((d:Int)+1)*65536+((p:Int)+1)<0)=false:=aB;rw[this];simp;omega
variable{B:AR}
theorem om{n:Nat}{x:Int}(h:∀i:Nat,i<n->A.get ((uf:Int)+i)<=B.get ((uf:Int)+i))(a:A.S0 uf n x=true):B.S0 uf n x=true:=by
 unfold AR.S0 at*;rw[xn] at a⊢;refine⟨a.1,ef ?_⟩;have h1:=a.1;have h2:=sJ a.2;unfold jJ fk at h1;simp at h1;have:=h (jS x - 1).toNat aO;rw[Int.toNat_of_nonneg aO] at this;omega
theorem NF(h:xH M k X)(hj:j<M.n):eN M.n X.D j=((X.D j:Int)+1)*65536+((j:Int)+1):=sD hj h.i.Ry (by have:=h.i.d j;have:=h.i.k1;omega)
theorem nh(h:xH M k X){S:Nat->Nat->Int}(l:BT M (k+1) ⟨B,S,X.D⟩)(n:B.taken=X.A.taken/\B.ws.length=X.A.ws.length)(b:∀i:Nat,i<M.n->B.get ((M.uf:Int)+i)=X.A.get ((M.uf:Int)+i))(d:∀i,i≠j->∀t,S i t=X.S i t)(m:S j 0=0\/S j 0=1\/S j 0=2\/S j 0=3\/S j 0=4\/S j 0=5\/S j 0=10\/S j 0=11)(hd:S j 0=2->1<=S j 2/\S j 2<=M.RN)(hj:∃g R,HJ M.n M.nd {hv M X with pc:=up (hv M X).pc j (S j 0),sa:=up (hv M X).sa j (S j 1),sc:=up (hv M X).sc j (S j 3),lt:=λv=>if v<M.m then B.get ((M.tail:Int)+1+v) else 0,gt:=B.get M.tail} g R):xH M (k+1) ⟨B,S,X.D⟩:=by
 have c:∀x,B.S0 M.uf M.n x=X.A.S0 M.uf M.n x:=λx=>by
  rw[Mr];exact⟨om λi hi=>za (b i hi),om λi hi=>za (b i hi).symm⟩
 refine⟨l,by show B.taken<=B.ws.length;have:=h.ws;omega,by have:=h.lay;show _/\_/\_<=B.taken+1/\_;omega,h.nd,λi hi=>(b i hi).trans (h.dw i hi),λi hi=>?_,λi hi f=>?_,h.dy,?_⟩
 ·by_cases e:i=j
  ·subst e;exact m
  ·have:=h.RC i hi;rw[<-d i e 0] at this;exact this
 ·by_cases e:i=j
  ·subst e;exact hd f
  ·have a:S i 0=2:=f;rw[d i e] at a;show 1<=S i 2/\S i 2<=_;rw[d i e];exact h.dl i hi a
 ·have e:hv M ⟨B,S,X.D⟩={hv M X with pc:=up (hv M X).pc j (S j 0),sa:=up (hv M X).sa j (S j 1),sc:=up (hv M X).sc j (S j 3),lt:=λv=>if v<M.m then B.get ((M.tail:Int)+1+v) else 0,gt:=B.get M.tail}:=by
   unfold hv;simp only[HV.mk.injEq];refine⟨?_,?_,?_,trivial,funext λx=>by rw[c],trivial,trivial⟩<;>(funext i;unfold up;split<;>simp_all)
  rw[e];exact hj
theorem qt{A:AR}(i v:Int):(A.swap i v).taken=A.taken/\(A.swap i v).ws.length=A.ws.length:=by unfold AR.swap AR.put AR.note;split<;>simp
theorem ze{A:AR}(i:Int):(A.load i).taken=A.taken/\(A.load i).ws.length=A.ws.length:=by unfold AR.load AR.note;split<;>simp
theorem xM{A:AR}(i v:Int):(A.add i v).taken=A.taken/\(A.add i v).ws.length=A.ws.length:=by unfold AR.add AR.put AR.note;split<;>simp
theorem jx{Y:oF}(hj:j<M.n)(ho:∀i,i≠j->∀t,Y.S i t=X.S i t)(a:oD M Y j<oD M X j):sm (oD M Y) M.n<sm (oD M X) M.n:=by
 have:=cd (f:=oD M X) (g:=oD M Y) hj λi _ e=>by unfold oD;rw[ho i e,ho i e]
 omega
theorem xH.step(h:xH M k X)(U:k<100000)(hj:j<M.n):xH M (k+1) (bO M X j)/\(X.S j 0≠0->X.S j 0≠10->rG M X j\/sm (oD M (bO M X j)) M.n<sm (oD M X) M.n)/\
 (rG M X j->∀i,(rG M X i->rG M (bO M X j) i)/\(bO M X j).S i 0=X.S i 0/\(bO M X j).S i 2=X.S i 2)/\fH X.S (bO M X j).S j (di M X j):=by
 have l:=BT.step h.i U j;obtain⟨w,R,r⟩:=h.hj;obtain⟨y1,y2,y3,y4⟩:=h.lay;have G:=h.nd j hj;have O:M.loc j=(M.tail:Int)+1+(M.nd j:Nat):=rfl;have K:X.A.has (M.loc j)=true:=a6.2 aO;have i0:X.A.has (M.tail:Int)=true:=a6.2 aO;have gs:=λ(i v x:Int) (hi:X.A.has i=true)=>jX (v:=v) (j:=x) h.ws hi;have o:(hv M X).lt (M.nd j)=X.A.get (M.loc j):=ad G;have n:∀y:Int,(λv=>if v<M.m then(X.A.swap (M.loc j) y).get ((M.tail:Int)+1+v) else 0)=up (hv M X).lt (M.nd j) y:=λy=>by
  funext v;unfold up hv;simp only
  by_cases c:v<M.m
  ·rw[ad c,ad c,gs _ _ _ K];by_cases d:v=M.nd j
   ·subst d;rw[ad aO,ad rfl]
   ·rw[ac aO,ac d]
  ·rw[ac c,ac c,ac aO]
 have s:∀y:Int,(X.A.swap (M.loc j) y).get M.tail=(hv M X).gt:=λy=>by rw[gs _ _ _ K,ac aO];rfl
 have L:∀y:Int,(λv=>if v<M.m then(X.A.swap M.tail y).get ((M.tail:Int)+1+v) else 0)=(hv M X).lt:=λy=>by
  funext v;unfold hv;simp only
  split
  ·rw[gs _ _ _ i0,ac aO]
  ·rfl
 have u:∀y:Int,∀i:Nat,i<M.n->(X.A.swap (M.loc j) y).get ((M.uf:Int)+i)=X.A.get ((M.uf:Int)+i):=λy i hi=>by rw[gs _ _ _ K,ac aO]
 have E:∀y:Int,∀i:Nat,i<M.n->(X.A.swap M.tail y).get ((M.uf:Int)+i)=X.A.get ((M.uf:Int)+i):=λy i hi=>by rw[gs _ _ _ i0,ac aO]
 rcases h.RC j hj with q|q|q|q|q|q|q|q
 ·have e:bO M X j=X:=by unfold bO cC;simp[q]
  have m:di M X j=false:=by unfold di cC;simp[q]
  rw[e] at l⊢;rw[m];exact⟨{h with i:=l},λh=>am q h,λh=>am (h.1.symm.trans q) aJ,λ_ _=>rfl,by omega,by omega,λ_=>⟨rfl,rfl⟩⟩
 ·by_cases z:X.A.get (M.loc j)=0
  ·obtain⟨pc,g,e⟩:∃pc:Int,(pc=2/\1<=M.RN\/pc=3)/\bO M X j=⟨X.A.swap (M.loc j) (eN M.n X.D j),aa (aa (aa X.S j 1 (X.A.get (M.loc j))) j 2 M.RN) j 0 pc,X.D⟩:=by
    by_cases d:0<M.RN
    ·exact⟨2,.inl ⟨rfl,d⟩,by unfold bO cC fO;simp[q,z,d]⟩
    ·exact⟨3,.inr rfl,by
      have d0:M.RN=0:=by have:=h.dy;omega
      unfold bO cC fO;simp[q,z,d0]⟩
   have m:di M X j=false:=by unfold di cC fO;simp[q,z];split<;>simp
   rw[e] at l⊢;rw[m];refine⟨nh (j:=j) h l (qt _ _) (u _) (λi hi t=>by simp[ag,hi]) (by simp[ag];omega) (by simp[ag];have:=h.dy;omega) ⟨up w j (some j),R,?_⟩,λ_ _=>.inr (jx hj (λi hi t=>by simp[ag,hi]) ?_),λh=>am (h.1.symm.trans q) aJ,λi hi=>by simp[ag,hi],by simp[ag];omega,by omega,by omega⟩
   ·rw[n,s];have Q:aa (aa (aa X.S j 1 (X.A.get (M.loc j))) j 2 M.RN) j 0 pc j 0=pc:=by simp[ag]
    rw[Q];exact r.first hj q (o.trans z) aO _ _
   ·rcases g with⟨rfl,_⟩|rfl<;>(unfold oD;simp[ag,q];try omega)
  ·have e:bO M X j=⟨X.A.swap (M.loc j) (eN M.n X.D j),aa (aa X.S j 1 (X.A.get (M.loc j))) j 0 5,X.D⟩:=by unfold bO cC fO;simp[q,z]
   have m:di M X j=false:=by unfold di cC fO;simp[q,z]
   rw[e] at l⊢;rw[m];refine⟨nh (j:=j) h l (qt _ _) (u _) (λi hi t=>by simp[ag,hi]) (by simp[ag]) (by simp[ag]) ?_,λ_ _=>.inr (jx hj (λi hi t=>by simp[ag,hi]) (by unfold oD;simp[ag,q];omega)),λh=>am (h.1.symm.trans q) aJ,λi hi=>by simp[ag,hi],by simp[ag],by omega,by omega⟩;have:=r.behind hj q (by rw[o];exact z) (X.S j 3);rw[o] at this;rw[n,s];simp[ag];exact this
 ·have hd:=h.dl j hj q;have J:=h.dy;have P:wrap64 (X.S j 2 - 1)=X.S j 2 - 1:=ce aO;obtain⟨pc,g,e⟩:∃pc:Int,(pc=2/\2<=X.S j 2\/pc=3)/\bO M X j=⟨X.A,aa (aa X.S j 2 (X.S j 2 - 1)) j 0 pc,X.D⟩:=by
   by_cases d:1<X.S j 2
   ·refine⟨2,.inl ⟨rfl,by omega⟩,?_⟩;unfold bO cC fO;simp[q,P,d]
   ·refine⟨3,.inr rfl,?_⟩;unfold bO cC fO;simp[q,P,d]
  have m:di M X j=false:=by unfold di cC fO;simp[q];split<;>simp
  rw[e] at l⊢;rw[m];refine⟨nh (j:=j) h l ⟨rfl,rfl⟩ (λ_ _=>rfl) (λi hi t=>by simp[ag,hi]) (by simp[ag];omega) (by simp[ag];omega) ⟨w,R,?_⟩,λ_ _=>.inr (jx hj (λi hi t=>by simp[ag,hi]) ?_),λh=>am (h.1.symm.trans q) aJ,λi hi=>by simp[ag,hi],by simp[ag];omega,by omega,by omega⟩
  ·have:=r.Sm hj (x:=pc) (X.S j 1) (X.S j 3) (.inr (.inl ⟨q,by omega⟩));simp[ag];exact this
  ·rcases g with⟨rfl,_⟩|rfl<;>(unfold oD;simp[ag,q];try omega)
 ·have e:bO M X j=⟨X.A.swap (M.loc j) 0,aa (aa X.S j 3 (X.A.get (M.loc j))) j 0 4,X.D⟩:=by unfold bO cC fO;simp[q]
  have m:di M X j=false:=by unfold di cC fO;simp[q]
  rw[e] at l⊢;rw[m];refine⟨nh (j:=j) h l (qt _ _) (u _) (λi hi t=>by simp[ag,hi]) (by simp[ag]) (by simp[ag]) ⟨w,R,?_⟩,λ_ _=>.inr (jx hj (λi hi t=>by simp[ag,hi]) (by unfold oD;simp[ag,q])),λh=>am (h.1.symm.trans q) aJ,λi hi=>by simp[ag,hi],by simp[ag],by omega,by omega⟩;have:=r.cut hj q (X.S j 1);rw[o] at this;rw[n,s];simp[ag];exact this
 ·obtain⟨pc,g,e⟩:∃pc:Int,(pc=10/\X.A.get M.tail=0\/pc=5/\X.A.get M.tail≠0)/\bO M X j=⟨X.A.swap M.tail (X.S j 3),aa (aa X.S j 1 (X.A.get M.tail)) j 0 pc,X.D⟩:=by
   by_cases d:X.A.get M.tail=0
   ·exact⟨10,.inl ⟨rfl,d⟩,by unfold bO cC fO;simp[q,d]⟩
   ·exact⟨5,.inr ⟨rfl,d⟩,by unfold bO cC fO;simp[q,d]⟩
  have m:di M X j=decide (X.A.get M.tail=0):=by unfold di cC fO;by_cases d:X.A.get M.tail=0<;>simp[q,d]
  have D:(X.A.swap M.tail (X.S j 3)).get M.tail=X.S j 3:=by rw[gs _ _ _ i0,ad rfl]
  rw[e] at l⊢;rw[m];refine⟨nh (j:=j) h l (qt _ _) (E _) (λi hi t=>by simp[ag,hi]) (by simp[ag];omega) (by simp[ag];omega) ?_,λ_ _=>.inr (jx hj (λi hi t=>by simp[ag,hi]) ?_),λh=>am (h.1.symm.trans q) aJ,λi hi=>by simp[ag,hi],λ_ _=>?_,by omega,by omega⟩
  ·have:=r.splice hj q (x:=pc) (by exact g) (X.S j 3);rw[L,D];simp[ag];exact this
  ·rcases g with⟨rfl,_⟩|⟨rfl,_⟩<;>(unfold oD;simp[ag,q])
  ·rcases g with⟨rfl,z⟩|⟨rfl,z⟩<;>simp[ag,z]
 ·have lk:(X.A.Sl M.uf M.n (X.S j 1)).taken=X.A.taken/\(X.A.Sl M.uf M.n (X.S j 1)).ws.length=X.A.ws.length/\∀x,(X.A.Sl M.uf M.n (X.S j 1)).get x=X.A.get x:=by
   unfold AR.Sl;split
   ·exact⟨(ze _).1,(ze _).2,λx=>aw⟩
   ·exact⟨rfl,rfl,λ_=>rfl⟩
  obtain⟨pc,g,e⟩:∃pc:Int,(pc=10/\X.A.S0 M.uf M.n (X.S j 1)=true\/pc=5/\¬X.A.S0 M.uf M.n (X.S j 1)=true)/\bO M X j=⟨X.A.Sl M.uf M.n (X.S j 1),aa X.S j 0 pc,X.D⟩:=by
   by_cases d:X.A.S0 M.uf M.n (X.S j 1)=true
   ·exact⟨10,.inl ⟨rfl,d⟩,by unfold bO cC fO;simp[q,d]⟩
   ·exact⟨5,.inr ⟨rfl,d⟩,by unfold bO cC fO;simp[q,d]⟩
  have m:di M X j=X.A.S0 M.uf M.n (X.S j 1):=by unfold di cC fO;cases d:X.A.S0 M.uf M.n (X.S j 1)<;>simp[q,d]
  rw[e] at l⊢;rw[m];refine⟨nh (j:=j) h l ⟨lk.1,lk.2.1⟩ (λ_ _=>lk.2.2 _) (λi hi t=>by simp[ag,hi]) (by simp[ag];omega) (by simp[ag];omega) ⟨w,R,?_⟩,λ_ _=>?_,λhs i=>?_,λi hi=>by simp[ag,hi],λ_ _=>?_,by omega,by omega⟩
  ·simp only[lk.2.2];rcases g with⟨rfl,z⟩|⟨rfl,z⟩
   ·have:=r.Sm hj (x:=10) (X.S j 1) (X.S j 3) (.inr (.inr (.inl ⟨q,rfl⟩)));simp[ag];exact this
   ·have us:∀(f:Nat->Int)(x:Int),x=f j->up f j x=f:=λf x I=>by funext i;unfold up;split<;>simp_all
    rw[us _ _ (by simp[ag];exact q.symm),us _ _ (by simp[ag];rfl),us _ _ (by simp[ag];rfl)];exact r
  ·rcases g with⟨rfl,z⟩|⟨rfl,z⟩
   ·exact .inr (jx hj (λi hi t=>by simp[ag,hi]) (by unfold oD;simp[ag,q]))
   ·exact .inl ⟨q,z⟩
  ·rcases g with⟨rfl,z⟩|⟨rfl,z⟩
   ·exact am z hs.2
   ·have T:aa X.S j 0 5=X.S:=by funext a b;rw[ag];split<;>simp_all
    rw[T];refine⟨λhi=>⟨hi.1,λB=>hi.2 (om (λi _=>za (lk.2.2 _)) B)⟩,rfl,rfl⟩
  ·rcases g with⟨rfl,z⟩|⟨rfl,z⟩<;>simp[ag,z]
 ·have e:bO M X j=X:=by unfold bO cC;simp[q]
  have m:di M X j=false:=by unfold di cC;simp[q]
  rw[e] at l⊢;rw[m];exact⟨{h with i:=l},λ_ h=>am q h,λh=>am (h.1.symm.trans q) aJ,λ_ _=>rfl,by omega,by omega,λ_=>⟨rfl,rfl⟩⟩
 ·have e:bO M X j=⟨X.A.add ((M.uf:Int)+j) 1,aa X.S j 0 0,sP X.D j⟩:=by unfold bO cC fO AR.SQ Ge fk;simp[q,hj]
  have m:di M X j=true:=by unfold di cC fO;simp[q]
  have Y:X.A.has ((M.uf:Int)+j)=true:=a6.2 aO;have hd:=h.dw j hj;have Z:=h.i.d j;have V:=h.i.k1;have N:=λx=>iB (d:=1) (j:=x) h.ws Y;have F:∀i:Nat,i<M.n->(X.A.add ((M.uf:Int)+j) 1).get ((M.uf:Int)+i)=sP X.D j i:=λi hi=>by
   rw[N];unfold sP;by_cases c:i=j
   ·subst c;rw[ad rfl,ad rfl,hd,ce aO];rfl
   ·rw[ac aO,ac c,h.dw i hi]
  have gn:∀x:Int,x<M.uf->(X.A.add ((M.uf:Int)+j) 1).get x=X.A.get x:=λx I=>by rw[N,ac aO]
  have Ry:=h.i.Ry;rw[e] at l⊢;rw[m];refine⟨⟨l,by show(X.A.add _ 1).taken<=(X.A.add _ 1).ws.length;rw[(xM _ _).1,(xM _ _).2];exact h.ws,by show _/\_/\_<=(X.A.add _ 1).taken+1/\_;rw[(xM _ _).1];exact h.lay,h.nd,F,λi hi=>?_,λi hi B=>?_,h.dy,w,R,?_⟩,λ_ _=>.inr (jx hj (λi hi t=>by simp[ag,hi]) (by unfold oD;simp[ag,q])),λh=>am (h.1.symm.trans q) aJ,λi hi=>by simp[ag,hi],by omega,by simp[ag],by omega⟩
  ·by_cases c:i=j
   ·subst c;exact .inl (by simp[ag])
   ·have:=h.RC i hi;simp[ag,c];exact this
  ·by_cases c:i=j
   ·subst c;simp[ag] at B
   ·simp[ag,c] at B⊢;exact h.dl i hi B
  ·have J:eN M.n (sP X.D j) j=((X.D j:Int)+2)*65536+((j:Int)+1):=by
    rw[sD hj Ry (by unfold sP;simp;omega)];unfold sP;simp;omega
   have C:∀p,p<M.n->(hv M X).tk p=((X.D p:Int)+1)*65536+((p:Int)+1):=λp H=>NF h H;have:=r.free hj q (y:=eN M.n (sP X.D j) j) (is':=λx=>(X.A.add ((M.uf:Int)+j) 1).S0 M.uf M.n x=true) (λx I=>om (λi hi=>by rw[F i hi,h.dw i hi];unfold sP;split<;>omega) I) (by
    rw[C j hj];show AR.S0 _ _ _ _=true;rw[LY hj Ry aO,F j hj];unfold sP;simp) ⟨by rw[J];omega,λp H W=>by rw[J,C p H];omega⟩
   have ev:hv M ⟨X.A.add ((M.uf:Int)+j) 1,aa X.S j 0 0,sP X.D j⟩={hv M X with pc:=up (hv M X).pc j 0,tk:=up (hv M X).tk j (eN M.n (sP X.D j) j),is:=λx=>(X.A.add ((M.uf:Int)+j) 1).S0 M.uf M.n x=true}:=by
    unfold hv;simp only[HV.mk.injEq];refine⟨?_,?_,?_,?_,trivial,?_,?_⟩
    ·funext i;unfold up;simp[ag]
    ·funext i;simp[ag]
    ·funext i;simp[ag]
    ·funext i;unfold up;split
     ·rename_i c;rw[c]
     ·rename_i c;unfold eN;simp[sP,c]
    ·funext v;split
     ·exact gn _ aO
     ·rfl
    ·exact gn _ aO
   rw[ev];exact this
variable{pc:Int}
theorem xH.hand(h:xH M k X)(f:k<100000)(hj:j<M.n)(g:X.S j 0=0/\pc=1\/X.S j 0=10/\pc=11):xH M (k+1) ⟨X.A,aa X.S j 0 pc,X.D⟩:=by
 obtain⟨c,R,e⟩:=h.hj;refine nh (j:=j) h {h.i with k1:=f,d:=λi=>by have:=h.i.d i;show X.D i<=_;omega,s:=λi t=>i2 h.i.s (dP aO) _ _ i t} ⟨rfl,rfl⟩ (λ_ _=>rfl) (λi hi t=>by simp[ag,hi]) (by simp[ag];omega) (by simp[ag];omega) ⟨c,R,?_⟩;have:=e.Sm hj (x:=pc) (X.S j 1) (X.S j 3) (by rcases g with⟨a,b⟩|⟨a,b⟩;exact .inl ⟨a,b⟩;exact .inr (.inr (.inr ⟨a,b⟩)));simp[ag];exact this
theorem Ds(h:xH M k X)(hj:j<M.n):oD M X j<=10:=by
 have:=h.dl j hj;have:=h.dy;unfold oD;grind
variable{a:Int}
theorem Nz{b:Int}(h:X.S j 0≠a):({X with S:=bo M.n X.S (j:Int) a b}:oF)=X:=by rw[i3 h]
theorem xH.Um(h:xH M k X)(c:k<100000)(hj:j<M.n)(b:X.S j 0=a)(d:a=0/\pc=1\/a=10/\pc=11):xH M (k+1) {X with S:=bo M.n X.S (j:Int) a pc}:=by
 rw[dQ hj b];exact h.hand c hj (by rw[b];exact d)
theorem Dr(hj:j<M.n)(a:X.S j 0=10):sm (oD M {X with S:=bo M.n X.S (j:Int) 10 11}) M.n<sm (oD M X) M.n:=by
 rw[dQ hj a];exact jx hj (λi hi t=>by simp[ag,hi]) (by unfold oD;simp[ag,a])
theorem NA(M:mq):(AY M).Row (xH M) (λX=>sm (oD M X) M.n) (rG M) where
 I:=λk s g h=>{h with i:={h.i with k1:=g,d:=λi=>by have:=h.i.d i;omega}}
 V:=λk s h=>h.i
 aR:=λs j _ hj f=>dc hj f
 aN:=λs j r f=>Nz f
 aS:=λk s j r g h hj f=>⟨h.Um g hj f (.inl ⟨rfl,rfl⟩),⟨1,by omega,j5 hj f⟩,nofun⟩
 lR:=λs j hj f=>dc hj f
 lN:=λs j f=>Nz f
 lS:=λk s j g h hj f=>⟨h.Um g hj f (.inr ⟨rfl,rfl⟩),11,by omega,j5 hj f⟩
 lW:=λk s j h hj f=>Dr hj f
 st:=λk s j g h hj=>by
  obtain⟨a,b,c,d⟩:=h.step g hj;refine⟨a,⟨b,λhs=>⟨xm (gE λi _=>?_),λi hi=>⟨(c hs i).1,?_,?_⟩⟩⟩,d,nofun⟩
  ·show oD M (bO M s j) i=oD M s i;unfold oD;rw[(c hs i).2.1,(c hs i).2.2]
  ·show(bO M s j).S i 0=0↔s.S i 0=0;rw[(c hs i).2.1]
  ·show(bO M s j).S i 0=10↔s.S i 0=10;rw[(c hs i).2.1]
 pc:=λk s j h hj=>by have:=h.RC j hj;show 0<=s.S j 0;omega
 sp:=λs j h=>by have:s.S j 0=5:=h.1;show s.S j 0≠0/\s.S j 0≠10;omega
 stuck:=λk s h hs=>by
  by_cases c:∃j,j<M.n/\s.S j 0=10
  ·exact .inl c
  ·obtain⟨n,R,m⟩:=h.hj;refine .inr (m.stuck λj hj=>?_);rcases hs j hj with a|a|a
   ·exact .inl a
   ·exact am ⟨j,hj,a⟩ c
   ·exact .inr a
 top:=λk s h hn=>by
  have a:sm (oD M s) M.n<=M.n*10:=lj λj hj=>Ds h hj;have c:M.n<=6:=hn;omega
 S2:=nofun
 out:=nofun
 lone:=λ_ k s u hn h l ho=>by
  have a:=Ds h l;have b:sm (oD M s) M.n=oD M s u:=i8 l λi hi hne=>ad (ho i hi hne);omega
end
def uO(M:cj)(X:cf)(j:Nat):cf×Int:=
 if X.S j 0=1 then(⟨{X.C with A:=X.C.A.RF M.gf M.K.E (M.K.nd j) 0},X.D,X.S⟩,2) else
 if X.S j 0=2 then(⟨{X.C with A:=X.C.A.load M.fl},X.D,X.S⟩,if X.C.A.get M.fl=0 then 10 else 2) else(⟨{X.C with A:=X.C.A.RF M.gf M.K.E (M.K.nd j) 1},X.D,X.S⟩,0)
def og(M:cj)(X:cf)(j:Nat):cf×Int:=
 if X.S j 0=7 then(⟨ay M.K X.C j,X.D,X.S⟩,if a5 M.K X.C j then 8 else 7) else
 if X.S j 0=12 then(⟨bj M.K {X.C with A:=X.C.A.store M.fl 0} j,X.D,X.S⟩,13) else
 if X.S j 0=13 then(⟨ay M.K X.C j,X.D,X.S⟩,if a5 M.K X.C j then 0 else 13) else
 if X.S j 0=5 then(⟨{X.C with A:=X.C.A.store M.fl 0},X.D.Rw 0 M.K.E false,X.S⟩,6) else
 if X.S j 0=8 then(⟨{X.C with A:=X.C.A.store M.fl 1},X.D.Rw 0 M.K.E true,X.S⟩,9) else
 if X.S j 0=6 then(be M X,if kQ M X then 8 else 6) else
 if X.S j 0=9 then(be M X,if kQ M X then(if(be M X).D.clear then 10 else 5) else 9) else(X,5)
def jm(M:cj)(X:cf)(j:Nat):cf×Int:=if X.S j 1=1 then uO M X j else og M X j
def iG(M:cj)(X:cf)(j:Nat):cf:=if bi X j=false then X else{(jm M X j).1 with S:=aa (jm M X j).1.S j 0 (jm M X j).2}
def jB(M:cj)(X:cf)(j:Nat):Bool:=if bi X j=false then false else(jm M X j).2==10||(jm M X j).2==0
section
variable{w w':World}{B:ei}{M:cj}{X:cf}{j:Nat}
theorem o7:(∀{w:World}{B:ei}{M:cj}{X:cf}{j:Nat}(h:au 263 w B M X)(hj:j<M.n)(o:bi X j=false),cK 263 B M 362 #[some B.lb,j] w (.bool false) X)/\(∀{w:World}{B:ei}{M:cj}{X:cf}{j:Nat}(h:au 263 w B M X)(hj:j<M.n){q:Int}(o:X.S j 0=q)(z:(q==0)=false)(A:(q==10)=false)(ha:(X.S j 1==1)=true){p:cf}{r:Int}(dA:∀W,af [] w W->cK 263 B M 365 #[some B.lb,q,(M.K.nd j:Int)] W (.int .i64 r) p),cK 263 B M 362 #[some B.lb,j] w (.bool (r==10||r==0)) {p with S:=aa p.S j 0 r})/\(∀{w:World}{B:ei}{M:cj}{X:cf}{j:Nat}(h:au 263 w B M X)(hj:j<M.n){q:Int}(o:X.S j 0=q)(z:(q==0)=false)(A:(q==10)=false)(ha:(X.S j 1==1)=false){p:cf}{r:Int}(dA:∀W,af [] w W->cK 263 B M 366 #[some B.lb,j,q] W (.int .i64 r) p),cK 263 B M 362 #[some B.lb,j] w (.bool (r==10||r==0)) {p with S:=aa p.S j 0 r}):=by
 refine⟨?_,?_,?_⟩;intro w B M X j h hj o;rotate_left;iterate 2
  intro w B M X j h hj q o z A ha p r dA;rotate_left
 all_goals
  unfold cK;have hn:=h.Ry;obtain⟨d1,d2,d3⟩:=aI (j:=j) (n:=M.n);obtain⟨d4,d5,d6⟩:=aP (j:=j) (n:=M.n);have l1:(j:Int)<M.n:=by omega
  have s:=uP h hj;have fd:=dF
 have V:=sq o;generalize X.S j 0=q at*;generalize X.S j 1=s1 at*;generalize X.S j 2=s2 at*;generalize X.S j 3=s3 at*;rotate_left;iterate 2
  rw[o] at s;have v:=aH dA;generalize X.S j 1=s1 at s ha;generalize X.S j 2=s2 at s;generalize X.S j 3=s3 at s;rotate_left
 all_goals
  have H:=aH s;have E:=aH h;have HJ:=aH hj
 ·clear h hj s o;rcases V with rfl|rfl;all_goals
   go_enter func362,ntmps362;go_wp2_with fail;refine gF H.o ?_;rintro w1 b;have u:=aH b;clear b;go_wp2;go_ret;exact⟨rfl,E.o.same (u.o.trans aE),(u.o.trans aE).mono aS⟩
 ·clear h hj s o dA;go_enter func362,ntmps362;go_wp2_with fail;refine gF H.o ?_;rintro w1 b;have d:=E.o.same b;have l:=d.free;have f:af [] w1 (w1.alloc (.cells #[q,s1,s2,s3] 138)):=aF.alloc _;have c:=d.same f;have m:=aq.new w1 #[q,s1,s2,s3] 138;have b0:=m.cell (i:=0) rfl;have b1:=m.cell (i:=1) rfl;obtain⟨c0,c1,c2,c3,I,J,L⟩:=c.cells;have t:=aH c;have T:=aH m;have x:=aH (show w1.heap.size∉dR B M.K fromλhm=>by obtain⟨_,_,q,_⟩:=l _ hm;exact am q.lt aO);have g:=aH (b.trans f);clear c d b m l f;go_wp2_with fail;generalize(w1.alloc (.cells #[q,s1,s2,s3] 138))=w2 at*;have U:=aH (t.o.free.not t.o.box t.o.ty.free);have O:Nonempty (HW (λQ=>af (dR B M.K) w2 Q)):=⟨⟨w2,aF⟩⟩
  have z1:=zF t.o.box U.o 1 rfl;have zb:=zF T.o x.o 0 rfl;refine cO (S:=(λQ=>af (dR B M.K) w2 Q)) aK ?_;refine eQ (fuel:=3) [0,1,2,3,4,5,6,7] rfl aF.Rs ?_;refine aL 8 (fuel:=2) rfl ?_;go_wp2_with fail;refine gF (iI (t.o.same aD).Sj HJ.o) ?_;rintro w9 rfl;go_wp2_with fail;refine ah ⟨aF.Rs,?_⟩;refine aL 9 (fuel:=1) rfl ?_;go_wp2_with fail;refine gF (v.o _ (by repeat (first|exact g.o|exact aF|apply af.Rs|apply af.drew))) ?_;rintro w3 ⟨c,C⟩;have N:=af.trans (S:=dR B M.K) (a:=w2) aD C;obtain⟨c0,c1,c2,c3,I,J,L⟩:=c.cells;obtain⟨Z,q1,q2,q3⟩:=c.sp HJ.o;have Y:=c.row.frozen;have F:=aH c;have R:=aH N;have D:=aH ((g.o.mono (S':=dR B M.K) aS).trans N);clear c C N;go_wp2_with fail;refine ah ⟨R.o,?_⟩;refine eQ (fuel:=0) [10] rfl R.o ?_;refine aN ?_;clear O z1 zb;cases P:(r==10)
  all_goals
   have G:=aH P;go_wp2;go_ret;exact⟨by rw[G.o];rfl,F.o.Sz j _,D.o.trans (au.Sb M.K)⟩
 ·clear h hj s o dA;go_enter func362,ntmps362;go_wp2_with fail;refine gF H.o ?_;rintro w1 b;have d:=E.o.same b;have l:=d.free;have f:af [] w1 (w1.alloc (.cells #[q,s1,s2,s3] 138)):=aF.alloc _;have c:=d.same f;have m:=aq.new w1 #[q,s1,s2,s3] 138;have b0:=m.cell (i:=0) rfl;have b1:=m.cell (i:=1) rfl;obtain⟨c0,c1,c2,c3,I,J,L⟩:=c.cells;have t:=aH c;have T:=aH m;have x:=aH (show w1.heap.size∉dR B M.K fromλhm=>by obtain⟨_,_,q,_⟩:=l _ hm;exact am q.lt aO);have g:=aH (b.trans f);clear c d b m l f;go_wp2_with fail;generalize(w1.alloc (.cells #[q,s1,s2,s3] 138))=w2 at*;refine fT (v.o _ g.o) ?_;rintro e w3 ⟨rfl,c,C⟩;obtain⟨c0,c1,c2,c3,I,J,L⟩:=c.cells;obtain⟨Z,q1,q2,q3⟩:=c.sp HJ.o;have Y:=c.row.frozen;have F:=aH c;have D:=aH ((g.o.mono (S':=dR B M.K) aS).trans C);clear c C;cases P:(r==10)
  all_goals
   have G:=aH P;go_wp2;go_ret;exact⟨by rw[G.o];rfl,F.o.Sz j _,D.o.trans (au.Sb M.K)⟩
def LC:= @o7.1
def LD:= @o7.2.1
def LE:= @o7.2.2
end
section
variable{w:World}{ab wb:Nat}{A:AR}{P T:List Int}{x y:Value}{RN:Int}
def Pg(P T:List Int)(A:AR)(RN:Int):mq:=⟨P,T,A.taken+1,A.taken+(1+(tE P).length)+1,RN⟩
def NH(P T:List Int)(A:AR):oF:=⟨{A with taken:=A.taken+(1+(tE P).length)+T.length},λ_ _=>0,λ_=>0⟩
theorem Dq(hx:aZ w 0 x P)(hy:aZ w 0 y T)(M:ea P T)(C:ax w ab wb A)(hr:A.taken+(1+(tE P).length)+T.length<=A.ws.length)(hd:0<=RN/\RN<=1000):
 Calls prog 74 #[some ab,.agg #[x,y],RN] w λe w'=>∃B:Jh,e= .returned (.tuple #[some B.lb,(0:Int)])/\(B.ab=ab/\B.wb=wb/\w.heap.size<=B.ub/\w.heap.size<=B.sb)/\fg w' B (Pg P T A RN) (NH P T A)/\af [ab,wb] w w':=by
 obtain⟨s1,s2,s3,s4⟩:=M.size;have hEl:=ki P;have mk:=iE T.length aO;have O:=aH (λ(W:World) (hf:af [] w W)=>gQ (hx.Rr hf aS) (hy.Rr hf aS) M);have n:=aH (λ(W:World)=>jQ RN W);have J:(decide ((0:Int)<=RN)&&decide (RN<=1000))=true:=by simp;omega
 rw[J] at n;have f:=aH ((af.refl [] w).alloc (.cells #[x,y] 24));have S:=aq.new w #[x,y] 24;have t0:=S.cell (i:=0) rfl;have t1:=S.cell (i:=1) rfl;have hnot:= @aX prog;have l:=aH C;have Z:=aH M;have U:=C.room;have hab:=C.box.lt;have hwb:=C.row.lt;obtain⟨a1,cap1,rfl, -, -⟩:=hx;obtain⟨a2,cap2,rfl, -, -⟩:=hy;clear J C M S;go_enter func74,ntmps74;go_wp2_with fail;refine(O.o _ f.o).mono ?_;rintro e w1 ⟨tb,rfl,X,F,a⟩;have o:=aH (f.o.trans a);have r:=aH F;clear a F t0 t1;go_wp2_with fail;refine gF (n.o _) ?_;rintro w' rfl;go_wp2_with fail;refine gF (sE r.o Z.o) ?_;rintro w2 ⟨G,a⟩;have htb0:w.heap.size<=tb:=dv f.o.size X;have g:=aH (o.o.Rx a (λz L=>.inr (by simp at L;omega)));have s:=aH G;have R:A.RU (1+((tE P).length:Int))=0:=pD (m:=1+(tE P).length) aO aO;have e2:A.take (1+((tE P).length:Int))={A with taken:=A.taken+(1+(tE P).length)}:=qP (m:=1+(tE P).length) aO aO;have e3:A.takeN (1+((tE P).length:Int))=((A.taken+1:Nat):Int):=by unfold AR.takeN;rw[ad R];rfl
 have j:=fL (l.o.Rr g.o aS aS) (1+((tE P).length:Int));rw[R,e2,e3] at j;have u:=aH j;clear a G r o R e2 e3 j;go_wp2_with fail;refine gF u.o ?_;rintro w3 ⟨D,a⟩;have b:fF w2 [ab,wb]:=λz L=>(l.o.Rr g.o aS aS).SF (by simpa using L);have h:=aH (s.o.SF a b);have p:=aH ((g.o.mono (S':=[ab,wb]) aS).trans a);have d:=aH D;clear a D b s u;go_wp2_with fail;refine gF (nC h.o) ?_;rintro w' rfl;have g1:AR.Tz {A with taken:=A.taken+(1+(tE P).length)} (T.length:Int)=0:=by
  unfold AR.Tz;rw[ac aO];exact pD (m:=T.length) (by show A.taken+(1+(tE P).length)+T.length<=A.ws.length;omega) rfl
 have g2:AR.take {A with taken:=A.taken+(1+(tE P).length)} (T.length:Int)={A with taken:=A.taken+(1+(tE P).length)+T.length}:=qP (A:={A with taken:=A.taken+(1+(tE P).length)}) (m:=T.length) (by show A.taken+(1+(tE P).length)+T.length<=A.ws.length;omega) rfl;have k:=IN d.o (T.length:Int) g1;rw[g2,cH] at k;have v:=aH k;clear g1 g2 k;go_wp2_with fail;refine v.o.mono ?_;rintro e w4 ⟨ub,rfl,Y,H,E,a⟩;have b:fF w3 [ab,wb]:=λz L=>d.o.SF (by simpa using L);have t:=aH (h.o.SF a b);have K:w.heap.size<=ub:=dv p.o.size Y;have q:=aH (p.o.trans a);have N:=aH E;have Q:=aH H;clear a E b h v d H;go_wp2_with fail;refine gF (nC t.o) ?_;rintro w' rfl;go_wp2_with fail;go_ret2;have V:=(aq.new w4 (dJ T.length λ_ _=>0).toArray 138).alloc (.cells #[some ab,some tb,((A.taken:Int)+1:Int),some ub,RN,.slice (some ⟨w4.heap.size,0,none⟩) T.length T.length] 220);have I:=aq.new (w4.alloc (.cells (dJ T.length λ_ _=>0).toArray 138)) #[some ab,some tb,((A.taken:Int)+1:Int),some ub,RN,.slice (some ⟨w4.heap.size,0,none⟩) T.length T.length] 220;rw[bP] at I;have c:af [] w4 ((w4.alloc (.cells (dJ T.length λ_ _=>0).toArray 138)).alloc (.cells #[some ab,some tb,((A.taken:Int)+1:Int),some ub,RN,.slice (some ⟨w4.heap.size,0,none⟩) T.length T.length] 220)):=(aF.alloc _).alloc _;exact⟨⟨w4.heap.size+1,tb,ub,w4.heap.size,ab,wb⟩,rfl,⟨rfl,rfl,K,q.o.size⟩,{box:=I,Sj:=t.o.SF c (fF.nil _),tr:=⟨0,Q.o.Rr c aS⟩,row:=V,ar:=N.o.Rr c aS aS,ok:=Z.o,tl:=by show A.taken+1<=4096;omega},q.o.trans (c.mono aS)⟩
abbrev Mw(P T:List Int)(bud:Int):mq:=Pg P T (AR.fresh 4096) bud
abbrev Mx(P T:List Int):oF:=NH P T (AR.fresh 4096)
variable{bud:Int}
theorem h8I(e:ea P T)(f:0<=bud/\bud<=1000):(AY (Mw P T bud)).I 0 (Mx P T):=by
 have b:∀i,(Mx P T).A.get i=0:=λi=>by
  have c:(Mx P T).A.ws=List.replicate 4096 0:=rfl;unfold AR.get;split
  ·rw[c,xo];split<;>rfl
  ·rfl
 exact(show BT (Mw P T bud) 0 (Mx P T) from{k1:=by omega,Ry:=e.size.2.2.2,dl:=by show -1000000<=bud/\bud<=1000000;omega,d:=λ_=>ba _,a:=λi=>by rw[b];exact dP aO,s:=λ_ _=>(show jp 0 from dP aO)})
variable{g l par:Int}
theorem Kg(O:ea P T)(hb:0<=bud/\bud<=1000):iQ P T 8 g l par bud (AY (Mw P T bud)) (Mx P T) where
 n:=rfl
 Tb:=by omega
 sh:=rfl
 S9:=λw ab wb lk x y X Y J K _ _=>by
  have n1:lk≠ab:=K.differ J.box aJ;have n2:lk≠wb:=K.differ J.row aJ;have hEl:=ki P;have o:=O.size;have a:=aH (((af.refl [] w).alloc (.cells #[x,y] 24)).alloc (.cells #[g,l,par,bud] 42));have HN:=aH (Dq (X.Rr a.o aS) (Y.Rr a.o aS) O (J.Rr a.o aS aS) (by show 0+_+_<=(List.replicate 4096 (0:Int)).length;rw[lA];have:=o.2.1;have:=o.2.2.2;omega) hb);have j:=(aq.new w #[x,y] 24).alloc (.cells #[g,l,par,bud] 42);have k:=aq.new (w.alloc (.cells #[x,y] 24)) #[g,l,par,bud] 42;rw[bP] at k;have U:=aH (K.Rr a.o aS);have c0:=U.o.cell (i:=0) rfl;have t0:=j.cell (i:=0) rfl;have t1:=j.cell (i:=1) rfl;have t3:=k.cell (i:=3) rfl;have C:=aH (show(Mw P T bud).n<=32 from O.size.2.2.2);have H:=a.o.size;obtain⟨a1,V,rfl, -, -⟩:=X;obtain⟨a2,W,rfl, -, -⟩:=Y;clear J K j k o;go_enter func57,ntmps57;go_wp2_with fail;refine HN.o.mono ?_;rintro e w1 ⟨B,rfl,⟨D,E,F,G⟩,c,N⟩;have d:=U.o.Rr N aQ;have l0:=d.cell (i:=2) rfl;have lz:=d.frozen;have L:=aH d;have HC:=aH c;have Z:=aH ((a.o.mono (S':=[ab,wb]) aS).trans N);have u:=aH (ae D (ae E (ae (dv H F) (dv H G))));have M:=aH (show∀v,fg (w1.setCell (lk,2) v) B (Pg P T (AR.fresh 4096) bud) (NH P T (AR.fresh 4096)) fromλv=>by
   have t:af [lk] w1 (w1.setCell (lk,2) v):=aU;obtain⟨m,ht⟩:=c.tr;have p:∀{b:Nat}{vs:List Value}{T:TypeId},aq w1 b vs T->T≠119->b∉[lk]:=λh Q hm=>by
    have:=h.differ d Q;simp at hm;exact this hm
   have I:jG (w1.setCell (lk,2) v) B.tb P T:=by
    obtain⟨vp,vt,S,q,r,vm,gt,gn,gs,gm,h1,h2,h3,h4,h5⟩:=c.Sj;have f:∀{g:Nat}{v':Value}{zs:List Int},IR w1 g v' zs->IR (w1.setCell (lk,2) v) g v' zs:=λh=>by
     have h0:=h;obtain⟨_,_,_,hh,_⟩:=h;exact h0.Rr t (p hh aJ)
    exact⟨vp,vt,S,q,r,vm,gt,gn,gs,gm,h1.Rr t (p h1 aJ),f h2,f h3,f h4,f h5⟩
   exact{box:=c.box.Rr t (p c.box aJ),Sj:=I,tr:=⟨m,ht.Rr t (p ht.box aJ)⟩,row:=c.row.Rr t (p c.row aJ),ar:=c.ar.Rr t (p c.ar.box aJ) (p c.ar.row aJ),ok:=c.ok,tl:=c.tl})
  clear N c d D E F G;go_wp2;go_ret;refine⟨(vP (Mw P T bud) B).alone 8,(Do C.o).SR 8 aO (λs i=>rfl),⟨u.o.1,rfl⟩,rfl,⟨L.o.set 2 _,M.o _⟩,λz hz=>?_,(Z.o.mono (S':=[ab,wb,lk]) aS).set _ _ (.inl aS)⟩;obtain⟨e1,e2,e3,e4⟩:=u.o;have R:z=B.ub\/z=B.sb\/z=B.ab\/z=B.wb:=by simpa[lm.alone,vP,oz] using hz
  rcases R with e|e|e|e
  ·rw[e];exact .inr (.inr e3)
  ·rw[e];exact .inr (.inr e4)
  ·rw[e];exact .inl e1
  ·rw[e];exact .inr (.inl e2)
theorem zm(a:ea P T)(b:0<=bud/\bud<=1000):jO P T (.agg #[(8:Int),g,l,par,bud]) (AY (Mw P T bud)) (Mx P T) where
 ok:=Qd _
 i0:=h8I a b
 S9:=λ_ _ _ c d=>gJ c d a (Kg a b)
end
section
variable{tail first n:Nat}{bud:Int}{m:MS}{j:Nat}
theorem KY(a b:Int):gd (Bg a b):=by
 unfold Bg gd
 repeat' split
 all_goals omega
theorem qB{α:Type}(Q:α->Prop){c:Prop}{d:Decidable c}{a b:α}(ha:Q a)(e:Q b):Q (@ite α c d a b):=by
 by_cases h:c
 ·rw[ad h];exact ha
 ·rw[ac h];exact e
theorem zK(Q:MS×Int->Prop)(b:Q (m,m.S j 0))(h:∀A B d r,gd r->Q (⟨A,B,d,m.S⟩,r))(a:∀A B d t v r,gd r->Q (⟨A,B,d,aa m.S j t v⟩,r)):Q (fD tail first n bud m j):=by
 unfold fD KN KO Ed KP Ee zy wi wj zA zB wk wl zC wm wn wq wu zD zE
 repeat' (refine qB Q ?_ ?_)
 all_goals first|exact b|exact h _ _ _ _ (by unfold gd;omega)|exact a _ _ _ _ _ _ (KY _ _)|exact a _ _ _ _ _ _ (by unfold gd;omega)
theorem KR(h:gd (m.S j 0)):gd (fD tail first n bud m j).2:=zK (λx=>gd x.2) h (λ_ _ _ _ a=>a) (λ_ _ _ _ _ _ a=>a)
theorem zL{i:Nat}(h:i≠j):(fD tail first n bud m j).1.S i 0=m.S i 0:=
 zK (λx=>x.1.S i 0=m.S i 0) rfl (λ_ _ _ _ _=>rfl) (λ_ _ _ t v _ _=>by show aa m.S j t v i 0=m.S i 0;unfold aa;rw[ac (λe=>h e.1)])
theorem Ic{S:Nat->Nat->Int}(h:∀j,j<n->gd (S j 0)){v:Int}(hv:gd v)(a:Nat):∀j,j<n->gd (aa S a 0 v j 0):=λj hj=>by
 unfold aa;split
 ·exact hv
 ·exact h j hj
theorem Ef(h:∀j,j<n->gd (m.S j 0))(hj:j<n):∀i,i<n->gd ((RK tail first n bud m j).S i 0):=λi hi=>by
 show gd (aa (fD tail first n bud m j).1.S j 0 (fD tail first n bud m j).2 i 0);unfold aa;by_cases e:i=j
 ·rw[ad ⟨e,rfl⟩];exact KR (h j hj)
 ·rw[ac (λq=>e q.1),zL e];exact h i hi
end
def wG(tail first n:Nat)(bud:Int):LP where
 σ:=MS
 n:=n
 shares:=false
 ar:=λm=>m.A
 I:=λ_ m=>∀j,j<n->gd (m.S j 0)
 Sr:=λm i _=>fV n m i 0
 R3:=λm i _=>kL n m i 0 1
 RZ:=λm i=>fV n m i 10
 Rz:=λm i=>kL n m i 10 11
 RD:=λm i=>n5 tail first n bud m i
 Ru:=λm i=>np tail first n bud m i
 sp:=λm i t=>m.S i.toNat t
 Ta:=λm i=>if m.S i.toNat 0=10 then 1 else 0
theorem zN{n:Nat}{m:MS}(h:∀j,j<n->gd (m.S j 0))(i a:Int){b:Int}(c:gd b):∀j,j<n->gd ((kL n m i a b).S j 0):=by
 unfold kL;split
 ·exact Ic h c _
 ·exact h
variable{bud:Int}
theorem Bh{tail first n:Nat}{m:MS}(h:∀j,j<n->gd (m.S j 0))(i:Int):∀j,j<n->gd ((np tail first n bud m i).S j 0):=by
 unfold np;by_cases hs:bC n i=true
 ·rw[ad hs];have hi:0<=i/\i<(n:Int):=by unfold bC at hs;simpa using hs
  exact Ef h aO
 ·rw[ac hs];exact h
theorem QB(tail first n:Nat)(bud:Int):(wG tail first n bud).Ok:=by
 refine LP.Sq (λk s a h=>h) (λk s j r a h hj _=>zN h _ _ (.inl aO)) (λk s j a h hj=>zN h _ _ (.inr aO)) (λk s j a h hj=>?_);exact Bh h _
section
variable{lb sb bb ab wb tail first n:Nat}{bud:Int}
def Eh(lb sb bb ab wb tail first n:Nat)(bud:Int):lm (wG tail first n bud) where
 T:=183
 q:=.pointer (some ⟨lb,0,none⟩)
 Z:=[lb,sb,bb,ab,wb]
 ab:=ab
 wb:=wb
 At:=λw m=>JO w lb sb bb ab wb tail first n bud m
 Sa:=304
 Sp:=.pointer (some ⟨lb,0,none⟩)
 RB:=305
 RM:=.pointer (some ⟨lb,0,none⟩)
 RR:=307
 R6:=.pointer (some ⟨lb,0,none⟩)
 RO:=306
 R5:=.pointer (some ⟨lb,0,none⟩)
 RL:=0
 R0:=.nilIface
theorem JO.z{w:World}{m:MS}(h:JO w lb sb bb ab wb tail first n bud m){z:Nat}(c:z∈[lb,sb,bb,ab,wb]):∃vs T,aq w z vs T/\T∈Ap:=by
 have a:lH w lb sb bb ab wb tail first n bud m.A m.B m.d m.S:=h;have b:z=lb\/z=sb\/z=bb\/z=ab\/z=wb:=by simpa using c
 rcases b with e|e|e|e|e
 ·subst e;exact⟨_,_,a.box,by decide⟩
 ·subst e;exact⟨_,_,a.row,by decide⟩
 ·subst e;exact⟨_,_,a.bn.box,by decide⟩
 ·exact a.ar.SF (.inl e)
 ·exact a.ar.SF (.inr e)
theorem Ei(hn:n<=32):(Eh lb sb bb ab wb tail first n bud).Ok where
 Ry:=hn
 sh:=rfl
 Sw:=λF w=>by kernel_rfl
 RW:=λF w=>by kernel_rfl
 RK:=λF w=>by kernel_rfl
 R7:=λF w=>by kernel_rfl
 SC:=λargs w=>by kernel_rfl
 R2:=λargs w=>by kernel_rfl
 Se:=λargs w=>by kernel_rfl
 R9:=λargs w=>by kernel_rfl
 St:=λw k s i a ha hi=>(Sw i w ⟨ha,aF⟩).mono λe w' h=>⟨h.1,h.2.1,h.2.2⟩
 RV:=λw k s i a ha hi=>(RW i w ⟨ha,aF⟩).mono λe w' h=>⟨h.1,h.2.1,h.2.2⟩
 Sc:=λw k s i a ha hi=>(KU i a w ⟨ha,aF⟩).mono λe w' h=>⟨h.1,h.2.1,h.2.2⟩
 R8:=λw s i ha hi=>by
  have hs:bC n i=true:=by unfold bC;exact ef hi
  have:=tP ha i;unfold mB at this;rw[ad hs] at this;exact this
 ar:=λw s ha=>lH.ar ha
 free:=λw s ha z b=>JO.z ha b
 stay:=λw w' s S ha c hs b=>lH.Rr ha c (λk d hm=>b k hm d)
end
section
variable{w w':World}{B:F4}{M:xB}{X:xC}{A:AR}{wb:Nat}
def h7(M:xB)(X:xC)(x nd:Int):xC:=dI M ⟨nd,X.Sk,0,0,0⟩ x
theorem pV(h:gv w B M X)(x nd:Int):Calls prog 297 #[some B.kb,x,nd] w λe w'=>e= .returned (.bool (!(h7 M X x nd).Sk))/\gv w' B M (h7 M X x nd)/\af [B.kb] w w':=by
 have o:=h.box.frozen;have c2:=h.box.cell (i:=2) rfl;have l:=h.box.cell (i:=4) rfl;have m:=h.box.cell (i:=5) rfl;have n:=h.box.cell (i:=6) rfl;have a1:af [B.kb] w (w.setCell (B.kb,2) (.int .i64 nd)):=(af.refl [B.kb] w).set ⟨B.kb,2,none⟩ (.int .i64 nd) (.inl aS);have a2:=a1.set ⟨B.kb,4,none⟩ (.int .i64 0) (.inl aS);have a3:=a2.set ⟨B.kb,5,none⟩ (.int .i64 0) (.inl aS);have b:=a3.set ⟨B.kb,6,none⟩ (.int .i64 0) (.inl aS);have b1:=h.box.set 2 (.int .i64 nd);have c:=b1.set 4 (.int .i64 0);have b3:=c.set 5 (.int .i64 0);have a:=b3.set 6 (.int .i64 0);simp only[Ja,List.set_cons_zero] at a;have h1:=h.Ua (X':=⟨nd,X.Sk,0,0,0⟩) b a;clear a1 a2 a3 b1 c b3 a;have k:=aH (sr h1 x);have g:=aH b;clear h h1 b;go_enter func297,ntmps297;go_wp2_with fail;refine gF k.o ?_;rintro w' ⟨f,d⟩;have j:=aH (ae f (g.o.trans d));clear f d;go_wp2;go_ret;exact⟨rfl,j.o⟩
def ny(M:xB)(x:Int):Int:=wrap64 (M.at_+wrap64 (M.st*wrap64 (x - 1)))
theorem QY(h:gv w B M X)(a:ax w B.ab wb A)(x:Int):Calls prog 105 #[x,some B.c1,some B.c2,some B.c3] w λe w'=>e= .returned (A.get (ny M x):Int)/\ax w' B.ab wb (A.load (ny M x))/\af [B.ab,wb] w w':=by
 have c1:=h.h1.cell (i:=0) rfl;have c2:=h.h2.cell (i:=0) rfl;have c3:=h.h3.cell (i:=0) rfl;have d:=aH (fh a (ny M x));clear h a;go_enter func105,ntmps105;go_wp2_with fail;refine gF d.o ?_;rintro w' ⟨a,b⟩;have c:=aH (ae a b);clear a b;go_wp2;go_ret;exact⟨rfl,c.o⟩
def mb(M:xB)(A:AR)(X:xC):Bool:=if X.Sk then !(dI M X (A.get (ny M X.last))).Sk else false
def gD(M:xB)(A:AR)(X:xC):xC:=if X.Sk then dI M X (A.get (ny M X.last)) else X
def j9(M:xB)(A:AR)(X:xC):AR:=if X.Sk then A.load (ny M X.last) else A
theorem nz(h:gv w B M X)(b:ax w B.ab wb A):Calls prog 298 #[some B.kb] w λe w'=>e= .returned (.bool (mb M A X))/\gv w' B M (gD M A X)/\ax w' B.ab wb (j9 M A X)/\af [B.kb,B.ab,wb] w w':=by
 have n1:B.kb≠B.ab:=h.box.differ b.box aJ;have y:B.kb≠wb:=h.box.differ b.row aJ;have k:=aH (LV h);cases a:X.Sk with
 |false=>
  have c:mb M A X=false:=by unfold mb;rw[a];rfl
  have d:gD M A X=X:=by unfold gD;rw[a];rfl
  have f:j9 M A X=A:=by unfold j9;rw[a];rfl
  rw[c,d,f];rw[a] at k;have H:=aH (ae h b);clear h b c d f a;go_enter func298,ntmps298;go_wp2_with fail;refine gF k.o ?_;rintro w' rfl;go_wp2;go_ret;exact⟨rfl,H.o.1,H.o.2,aF⟩
 |true=>
  have c:mb M A X= !(dI M X (A.get (ny M X.last))).Sk:=by unfold mb;rw[a];rfl
  have d:gD M A X=dI M X (A.get (ny M X.last)):=by unfold gD;rw[a];rfl
  have f:j9 M A X=A.load (ny M X.last):=by unfold j9;rw[a];rfl
  rw[c,d,f];rw[a] at k;have c0:=h.box.cell (i:=0) rfl;have x:=h.box.cell (i:=5) rfl;have r:fF w [B.ab,wb]:=λz v=>b.SF (by simpa using v);have HP:=aH (λ(W:World) (j:af [] w W)=>(QY (h.same j) (b.Rr j aS aS) X.last).mono (λe w' q=>(show e= .returned (A.get (ny M X.last):Int)/\ax w' B.ab wb (A.load (ny M X.last))/\af [B.ab,wb] w w' from⟨q.1,q.2.1,(j.mono aS).trans q.2.2⟩)));have t:=aH (λ(W:World) (j:af [B.ab,wb] w W)=>sr (h.stays j r aQ) (A.get (ny M X.last)));clear r;have H:=aH (ae h b);unfold F4.f at c0;clear h b c d f a;go_enter func298,ntmps298;go_wp2_with fail;refine gF k.o ?_;rintro w' rfl;go_wp2_with fail;go_region_with(first|(go_at_call 105;refine(HP.o _ aD).mono ?_;rintro e w1 ⟨rfl,g,n⟩;have s:=aH g;have l:=aH n;clear g n)|(go_at_call 301;refine(t.o _ (l.o.mono aS)).mono ?_;rintro e w2 ⟨rfl,p,o⟩;have u:=aH p;have m:=aH o;clear p o))
  all_goals(go_wp2;go_ret;exact⟨rfl,u.o,s.o.Rr m.o aQ aQ,(l.o.mono (S':=[B.kb,B.ab,wb]) aS).trans (m.o.mono aS)⟩)
end
def cF(m:Nat)(M:cj)(X:cf)(i:Int)(r:Bool):cf:=
 if ai M.n X.S i 0 then(if r then{X with S:=gh X.S i.toNat 1 1} else if m=2 then{X with S:=gh X.S i.toNat 5 0} else{X with C:=bu M.K X.C i.toNat,S:=gh X.S i.toNat 7 0}) else X
def bJ(M:cj)(X:cf)(i:Int):cf:=if ai M.n X.S i 10 then{X with S:=aa X.S i.toNat 0 (12 - X.S i.toNat 1)} else X
def EZ(m:Nat)(M:cj)(X:cf)(j:Nat):cf:=if m=0 then cD M X j else if m=1 then iG M X j else iK M X j
def OK(m:Nat)(M:cj)(X:cf)(j:Nat):Bool:=if m=0 then cR M X j else if m=1 then jB M X j else jE M X j
def i7(v:Int):Prop:=0<=v/\v<=13
def mQ(M:cj)(X:cf):Prop:=dU M.K X.C/\∀j,j<M.n->i7 (X.S j 0)/\(X.S j 1=0\/X.S j 1=1)
def py(m:Nat)(M:cj):LP where
 σ:=cf
 n:=M.n
 shares:=true
 ar:=λs=>s.C.A
 I:=λ_ s=>mQ M s
 Sr:=λs i _=>ai M.n s.S i 0
 R3:=λs i r=>cF m M s i r
 RZ:=λs i=>ai M.n s.S i 10
 Rz:=λs i=>bJ M s i
 RD:=λs i=>OK m M s i.toNat
 Ru:=λs i=>EZ m M s i.toNat
 sp:=λs i t=>s.S i.toNat t
 Ta:=λs i=>if s.S i.toNat 0=10 then 1 else 0
section
variable{M:cj}{X:cf}{j:Nat}
variable{C:CS}{D:DR}{v:Int}
theorem mQ.put(h:mQ M X)(a:dU M.K C)(hv:i7 v):mQ M ⟨C,D,aa X.S j 0 v⟩:=⟨a,λi hi=>by
 obtain⟨h1,h2⟩:=h.2 i hi;show i7 (aa X.S j 0 v i 0)/\(aa X.S j 0 v i 1=0\/aa X.S j 0 v i 1=1)
 refine⟨?_,by rw[show aa X.S j 0 v i 1=X.S i 1 from by simp[aa]];exact h2⟩;unfold aa
 split
 ·exact hv
 ·exact h1⟩
theorem mQ.SV(h:mQ M X)(c:dU M.K C){a b:Int}(ha:i7 a)(d:b=0\/b=1):mQ M ⟨C,D,gh X.S j a b⟩:=⟨c,λi hi=>by
 obtain⟨h1,h2⟩:=h.2 i hi;show i7 (gh X.S j a b i 0)/\(gh X.S j a b i 1=0\/gh X.S j a b i 1=1)
 by_cases e:i=j
 ·subst e;rw[show gh X.S i a b i 0=a from by simp[gh,aa],show gh X.S i a b i 1=b from by simp[gh,aa]];exact⟨ha,d⟩
 ·rw[show gh X.S j a b i 0=X.S i 0 from by simp[gh,aa,e],show gh X.S j a b i 1=X.S i 1 from by simp[gh,aa,e]];exact⟨h1,h2⟩⟩
structure Mu(M:cj)(X:cf)(x:cf×Int):Prop where
 co:dU M.K x.1.C
 s:x.1.S=X.S
 pc:i7 x.2
theorem Mu.put(h:mQ M X){x:cf×Int}(q:Mu M X x):mQ M {x.1 with S:=aa x.1.S j 0 x.2}:=by
 rw[q.s];exact h.put q.co q.pc
theorem yL(h:dU M.K C):dU M.K (ay M.K C j)/\∀A,dU M.K {C with A:=A}/\dU M.K (bu M.K {C with A:=A} j)/\dU M.K (bj M.K {C with A:=A} j):=⟨h.step _,λA=>⟨h.ar A,(h.ar A).ask _,(h.ar A).leave _⟩⟩
theorem Ek(h:mQ M X):dU M.K (fQ M X j).1.C/\(fQ M X j).1.S=X.S:=by
 obtain⟨t1,t2⟩:=yL (j:=j) h.1;unfold fQ
 repeat' (refine ga (λx:cf×Bool=>dU M.K x.1.C/\x.1.S=X.S) ?_ ?_)
 all_goals first|exact⟨t1,rfl⟩|exact⟨(t2 _).1,rfl⟩|exact⟨(t2 _).2.1,rfl⟩|exact⟨(t2 _).2.2,rfl⟩
theorem Iq(h:i7 v):i7 (gA v):=by
 unfold i7 at h⊢;unfold gA
 split
 ·omega
 ·split
  ·omega
  ·omega
theorem Lz(h:mQ M X):Mu M X (jm M X j):=by
 obtain⟨t1,t2⟩:=yL (j:=j) h.1;unfold jm uO og
 repeat' (refine ga (Mu M X) ?_ ?_)
 all_goals first|refine⟨t1,rfl,?_⟩|refine⟨(t2 _).1,rfl,?_⟩|refine⟨(t2 _).2.2,rfl,?_⟩|refine⟨h.1,rfl,?_⟩
 all_goals
  dsimp only
  repeat' (refine ga i7 ?_ ?_)
  all_goals(unfold i7;omega)
theorem Mg(h:mQ M X)(hj:j<M.n):Mu M X (jK M X j):=by
 obtain⟨t1,t2⟩:=yL (j:=j) h.1;have a:=(h.2 j hj).1;unfold jK qk sY
 repeat' (refine ga (Mu M X) ?_ ?_)
 all_goals first|exact⟨h.1,rfl,a⟩|refine⟨t1,rfl,?_⟩|refine⟨(t2 _).1,rfl,?_⟩|refine⟨(t2 _).2.1,rfl,?_⟩|refine⟨(t2 _).2.2,rfl,?_⟩
 all_goals
  dsimp only
  repeat' (refine ga i7 ?_ ?_)
  all_goals(unfold i7;omega)
theorem LR(m:Nat)(h:mQ M X)(hj:j<M.n):mQ M (EZ m M X j):=by
 have c:=(h.2 j hj).1;unfold EZ cD iG iK;refine ga (mQ M) (ga (mQ M) h (ga (mQ M) (h.put (h.1.ar _) ?_) (ga (mQ M) ?_ ?_))) (ga (mQ M) (ga (mQ M) h ((Lz h).put h)) (ga (mQ M) h ((Mg h hj).put h)))
 ·refine ga i7 ?_ ?_<;>(unfold i7;omega)
 ·obtain⟨a,b⟩:=Ek (j:=j) h;rw[b];exact h.put a (Iq c)
 ·obtain⟨a,b⟩:=Ek (j:=j) h;exact⟨a,by rw[b];exact h.2⟩
theorem IF(m:Nat)(h:mQ M X)(i:Int)(r:Bool):mQ M (cF m M X i r):=by
 unfold cF;refine ga (mQ M) (ga (mQ M) (h.SV h.1 (by unfold i7;omega) (.inr rfl)) (ga (mQ M) (h.SV h.1 (by unfold i7;omega) (.inl rfl)) (h.SV (h.1.ask _) (by unfold i7;omega) (.inl rfl)))) h
theorem Bq(h:mQ M X)(i:Int):mQ M (bJ M X i):=by
 unfold bJ
 split
 ·rename_i a
  have hi:0<=i/\i<(M.n:Int):=by unfold ai bC at a;simp at a;exact a.1
  have:=(h.2 i.toNat aO).2;exact h.put h.1 (by unfold i7;omega)
 ·exact h
theorem LO(m:Nat)(M:cj):(py m M).Ok:=LP.Sq (λk s a h=>h) (λk s j r a h hj _=>IF m h _ _) (λk s j a h hj=>Bq h _) (λk s j a h hj=>LR m h hj)
end
theorem eT{n:Nat}{S:Nat->Nat->Int}{j:Nat}(hj:j<n)(pc:Int):ai n S j pc=decide (S j 0=pc):=by unfold ai;rw[cl hj,cH,gS]
section
variable{w:World}{B:ei}{M:cj}{X:cf}{j:Nat}
theorem N4(h:au 258 w B M X)(hj:j<M.n)(r:Bool):cK 258 B M 334 #[some B.lb,j,r] w (.bool (ai M.n X.S j 0)) (cF 0 M X j r):=by
 rw[eT hj];by_cases a:X.S j 0=0
 ·have e:cF 0 M X j r=if r then{X with S:=gh X.S j 1 1} else{X with C:=bu M.K X.C j,S:=gh X.S j 7 0}:=by
   unfold cF;rw[eT hj,a];rfl
  rw[e,a];cases r with
  |true=>exact Lc h hj a
  |false=>exact Ld h hj a
 ·have e:cF 0 M X j r=X:=by unfold cF;rw[eT hj,dh a];rfl
  rw[e,dh a];exact Lb h hj a r
theorem Ip(h:au 258 w B M X)(hj:j<M.n)(ha:X.S j 1=0\/X.S j 1=1):cK 258 B M 335 #[some B.lb,j] w (.bool (ai M.n X.S j 10)) (bJ M X j):=by
 rw[eT hj];by_cases a:X.S j 0=10
 ·have e:bJ M X j={X with S:=aa X.S j 0 (12 - X.S j 1)}:=by unfold bJ;rw[eT hj,a];rfl
  rw[e,ef a];exact Er h hj a ha
 ·have e:bJ M X j=X:=by unfold bJ;rw[eT hj,dh a];rfl
  rw[e,dh a];exact Ep h hj a
theorem Oe(h:au 263 w B M X)(hj:j<M.n)(r:Bool):cK 263 B M 358 #[some B.lb,j,r] w (.bool (ai M.n X.S j 0)) (cF 1 M X j r):=by
 rw[eT hj];by_cases a:X.S j 0=0
 ·have e:cF 1 M X j r=if r then{X with S:=gh X.S j 1 1} else{X with C:=bu M.K X.C j,S:=gh X.S j 7 0}:=by
   unfold cF;rw[eT hj,a];rfl
  rw[e,a];cases r with
  |true=>exact Lw h hj a
  |false=>exact Lx h hj a
 ·have e:cF 1 M X j r=X:=by unfold cF;rw[eT hj,dh a];rfl
  rw[e,dh a];exact Lv h hj a r
theorem Iz(h:au 263 w B M X)(hj:j<M.n)(ha:X.S j 1=0\/X.S j 1=1):cK 263 B M 359 #[some B.lb,j] w (.bool (ai M.n X.S j 10)) (bJ M X j):=by
 rw[eT hj];by_cases a:X.S j 0=10
 ·have e:bJ M X j={X with S:=aa X.S j 0 (12 - X.S j 1)}:=by unfold bJ;rw[eT hj,a];rfl
  rw[e,ef a];exact EL h hj a ha
 ·have e:bJ M X j=X:=by unfold bJ;rw[eT hj,dh a];rfl
  rw[e,dh a];exact EK h hj a
theorem OU(h:au 265 w B M X)(hj:j<M.n)(r:Bool):cK 265 B M 369 #[some B.lb,j,r] w (.bool (ai M.n X.S j 0)) (cF 2 M X j r):=by
 rw[eT hj];by_cases a:X.S j 0=0
 ·have e:cF 2 M X j r=if r then{X with S:=gh X.S j 1 1} else{X with S:=gh X.S j 5 0}:=by
   unfold cF;rw[eT hj,a];rfl
  rw[e,a];cases r with
  |true=>exact Md h hj a
  |false=>exact Me h hj a
 ·have e:cF 2 M X j r=X:=by unfold cF;rw[eT hj,dh a];rfl
  rw[e,dh a];exact Mc h hj a r
theorem IW(h:au 265 w B M X)(hj:j<M.n)(ha:X.S j 1=0\/X.S j 1=1):cK 265 B M 370 #[some B.lb,j] w (.bool (ai M.n X.S j 10)) (bJ M X j):=by
 rw[eT hj];by_cases a:X.S j 0=10
 ·have e:bJ M X j={X with S:=aa X.S j 0 (12 - X.S j 1)}:=by unfold bJ;rw[eT hj,a];rfl
  rw[e,ef a];exact Fz h hj a ha
 ·have e:bJ M X j=X:=by unfold bJ;rw[eT hj,dh a];rfl
  rw[e,dh a];exact Fy h hj a
theorem Le(h:au 258 w B M X)(hj:j<M.n)(e:dU M.K X.C):cK 258 B M 341 #[some B.lb,j] w (.bool (fQ M X j).2) (fQ M X j).1:=by
 unfold fQ;by_cases h1:X.S j 0=1
 ·rw[ad h1];exact Ij h hj h1
 by_cases h3:X.S j 0=3
 ·rw[ac h1,ad h3];exact Ik h hj h3
 by_cases h5:X.S j 0=5
 ·rw[ac h1,ac h3,ad h5];exact Il h hj h5
 by_cases c:X.S j 0=8
 ·rw[ac h1,ac h3,ac h5,ad c];exact Im h hj c
 by_cases d:X.S j 0=9
 ·rw[ac h1,ac h3,ac h5,ac c,ad d];exact In h hj d
 by_cases a:X.S j 0=11
 ·rw[ac h1,ac h3,ac h5,ac c,ac d,ad a];exact El h hj a
 by_cases b:X.S j 0=12
 ·rw[ac h1,ac h3,ac h5,ac c,ac d,ac a,ad b];exact Em h hj b
 rw[ac h1,ac h3,ac h5,ac c,ac d,ac a,ac b];exact Io h hj ⟨h1,h3,h5,c,d,a,b⟩ e
theorem Lg(h:au 258 w B M X)(hj:j<M.n)(b:mQ M X):cK 258 B M 338 #[some B.lb,j] w (.bool (cR M X j)) (cD M X j):=by
 unfold cR cD;cases hm:bi X j with
 |false=>rw[ad rfl,ad rfl];exact Lh h hj hm
 |true=>
  rw[ac (show¬(true=false) by simp),ac (show¬(true=false) by simp)];have e:=(b.2 j hj).1;unfold i7 at e;have a:X.S j 0≠0/\X.S j 0≠10:=by unfold bi at hm;simpa using hm
  by_cases h2:X.S j 0=2
  ·rw[ad h2,ad h2];by_cases hv:X.C.A.get M.fl=0
   ·rw[ef hv,ad hv];exact It h hj h2 hv
   ·rw[dh hv,ac hv];exact Iu h hj h2 hv
  ·rw[ac h2,ac h2];have dA:∀W,af [] w W->cK 258 B M 341 #[some B.lb,j] W (.bool (fQ M X j).2) (fQ M X j).1:=λW d=>Le (h.same d) hj b.1;cases c:(fQ M X j).2 with
   |true=>
    rw[c] at dA;rw[ad rfl,gS];exact Lj h hj rfl (by simpa using a.1) (by simpa using a.2) (by simpa using h2) aO dA
   |false=>
    rw[c] at dA;rw[ac (show¬(false=true) by simp),lC];exact Li h hj rfl (by simpa using a.1) (by simpa using a.2) (by simpa using h2) aO dA
theorem IA(h:au 263 w B M X)(hj:j<M.n):cK 263 B M 365 #[some B.lb,(X.S j 0:Int),(M.K.nd j:Int)] w (.int .i64 (uO M X j).2) (uO M X j).1:=by
 unfold uO;by_cases h1:X.S j 0=1
 ·rw[ad h1];rw[h1];exact QK h hj
 by_cases h2:X.S j 0=2
 ·rw[ac h1,ad h2];rw[h2];by_cases hv:X.C.A.get M.fl=0
  ·rw[ad hv];exact Om h hj hv
  ·rw[ac hv];exact On h hj hv
 rw[ac h1,ac h2];exact QM h hj h1 h2
theorem EN(h:au 263 w B M X)(hj:j<M.n)(k:dU M.K X.C):cK 263 B M 366 #[some B.lb,j,(X.S j 0:Int)] w (.int .i64 (og M X j).2) (og M X j).1:=by
 unfold og;by_cases e:X.S j 0=7
 ·rw[ad e];rw[e];cases d:a5 M.K X.C j with
  |true=>rw[ad rfl];exact Ot h hj d k
  |false=>rw[ac aS];exact Ou h hj d k
 by_cases a:X.S j 0=12
 ·rw[ac e,ad a];rw[a];exact Oq h hj
 by_cases b:X.S j 0=13
 ·rw[ac e,ac a,ad b];rw[b];cases d:a5 M.K X.C j with
  |true=>rw[ad rfl];exact LG h hj d k
  |false=>rw[ac aS];exact LH h hj d k
 by_cases h5:X.S j 0=5
 ·rw[ac e,ac a,ac b,ad h5];rw[h5];refine EP h hj aO aO aO (λW c=>?_);exact QI (h.same c) hj
 by_cases f:X.S j 0=8
 ·rw[ac e,ac a,ac b,ac h5,ad f];rw[f];refine EP h hj aO aO aO (λW c=>?_);exact QJ (h.same c) hj
 by_cases g:X.S j 0=6
 ·rw[ac e,ac a,ac b,ac h5,ac f,ad g];rw[g];refine EP h hj aO aO aO (λW c=>?_);cases d:kQ M X with
  |true=>rw[ad rfl];exact Oh (h.same c) hj d
  |false=>rw[ac aS];exact Og (h.same c) hj d
 by_cases i:X.S j 0=9
 ·rw[ac e,ac a,ac b,ac h5,ac f,ac g,ad i];rw[i];refine EP h hj aO aO aO (λW c=>?_);cases d:kQ M X with
  |true=>
   rw[ad rfl];cases l:(be M X).D.clear with
   |true=>rw[ad rfl];exact Oj (h.same c) hj d l
   |false=>rw[ac (show¬(false=true) by simp)];exact Ol (h.same c) hj d l
  |false=>rw[ac aS];exact Oi (h.same c) hj d
 rw[ac e,ac a,ac b,ac h5,ac f,ac g,ac i];exact EP h hj e a b (λW c=>QH (h.same c) hj h5 g f i)
theorem Mh(h:au 265 w B M X)(hj:j<M.n):cK 265 B M 377 #[some B.lb,j,(X.S j 0:Int)] w (.int .i64 (qk M X j).2) (qk M X j).1:=by
 unfold qk;by_cases h1:X.S j 0=1
 ·rw[ad h1];rw[h1];by_cases hv:X.C.A.get M.fl=0
  ·rw[ad hv];exact OY h hj hv
  ·rw[ac hv];exact OX h hj hv
 by_cases h2:X.S j 0=2
 ·rw[ac h1,ad h2];rw[h2];exact Q4 h hj
 by_cases h3:X.S j 0=3
 ·rw[ac h1,ac h2,ad h3];rw[h3];by_cases hv:X.C.A.get M.fl=0
  ·rw[ad hv];exact O0 h hj hv
  ·rw[ac hv];exact OZ h hj hv
 by_cases h4:X.S j 0=4
 ·rw[ac h1,ac h2,ac h3,ad h4];rw[h4];exact Q5 h hj
 rw[ac h1,ac h2,ac h3,ac h4];exact Q3 h hj h1 h2 h3 h4
theorem IZ(h:au 265 w B M X)(hj:j<M.n)(f:dU M.K X.C):cK 265 B M 376 #[some B.lb,j,(X.S j 0:Int)] w (.int .i64 (sY M X j).2) (sY M X j).1:=by
 unfold sY;by_cases h5:X.S j 0=5
 ·rw[ad h5];rw[h5];exact Q7 h hj
 by_cases d:X.S j 0=7
 ·rw[ac h5,ad d];rw[d];cases c:a5 M.K X.C j with
  |true=>rw[ad rfl];exact O2 h hj c f
  |false=>rw[ac aS];exact O3 h hj c f
 by_cases e:X.S j 0=9
 ·rw[ac h5,ac d,ad e];rw[e];cases c:kQ M X with
  |true=>rw[ad rfl];exact O4 h hj c
  |false=>rw[ac aS];exact O5 h hj c
 by_cases a:X.S j 0=12
 ·rw[ac h5,ac d,ac e,ad a];rw[a];exact O1 h hj
 by_cases b:X.S j 0=13
 ·rw[ac h5,ac d,ac e,ac a,ad b];rw[b];cases c:a5 M.K X.C j with
  |true=>rw[ad rfl];exact Mp h hj c f
  |false=>rw[ac aS];exact Mq h hj c f
 rw[ac h5,ac d,ac e,ac a,ac b];exact Q6 h hj h5 d e a b
theorem LA(h:au 263 w B M X)(hj:j<M.n)(c:mQ M X):cK 263 B M 362 #[some B.lb,j] w (.bool (jB M X j)) (iG M X j):=by
 unfold jB iG;cases hm:bi X j with
 |false=>rw[ad rfl,ad rfl];exact LC h hj hm
 |true=>
  rw[ac (show¬(true=false) by simp),ac (show¬(true=false) by simp)];have a:X.S j 0≠0/\X.S j 0≠10:=by unfold bi at hm;simpa using hm
  unfold jm;by_cases ha:X.S j 1=1
  ·rw[ad ha];exact LD h hj rfl (by simpa using a.1) (by simpa using a.2) (by simpa using ha) (λW b=>IA (h.same b) hj)
  ·rw[ac ha];exact LE h hj rfl (by simpa using a.1) (by simpa using a.2) (by simpa using ha) (λW b=>EN (h.same b) hj c.1)
theorem Mi(h:au 265 w B M X)(hj:j<M.n)(c:mQ M X):cK 265 B M 373 #[some B.lb,j] w (.bool (jE M X j)) (iK M X j):=by
 unfold jE iK;cases hm:bi X j with
 |false=>rw[ad rfl,ad rfl];exact Mj h hj hm
 |true=>
  rw[ac (show¬(true=false) by simp),ac (show¬(true=false) by simp)];have a:X.S j 0≠0/\X.S j 0≠10:=by unfold bi at hm;simpa using hm
  unfold jK;by_cases ha:X.S j 1=1
  ·rw[ad ha];exact Mk h hj rfl (by simpa using a.1) (by simpa using a.2) (by simpa using ha) (λW b=>Mh (h.same b) hj)
  ·rw[ac ha];exact Ml h hj rfl (by simpa using a.1) (by simpa using a.2) (by simpa using ha) (λW b=>IZ (h.same b) hj c.1)
def En(M:cj)(B:ei):lm (py 0 M) where
 T:=234
 q:=.pointer (some ⟨B.lb,0,none⟩)
 Z:=dR B M.K
 ab:=B.co.ab
 wb:=B.co.wb
 At:=λw s=>au 258 w B M s
 Sa:=334
 Sp:=.pointer (some ⟨B.lb,0,none⟩)
 RB:=335
 RM:=.pointer (some ⟨B.lb,0,none⟩)
 RR:=338
 R6:=.pointer (some ⟨B.lb,0,none⟩)
 RO:=337
 R5:=.pointer (some ⟨B.lb,0,none⟩)
 RL:=0
 R0:=.nilIface
theorem Eo(hn:M.n<=32):(En M B).TF where
 Ry:=hn
 sh:=rfl
 Ta:=λs i=>rfl
 Sw:=λF w=>by kernel_rfl
 SC:=λargs w=>by kernel_rfl
 RW:=λF w=>by kernel_rfl
 R2:=λargs w=>by kernel_rfl
 RK:=λF w=>by kernel_rfl
 Se:=λargs w=>by kernel_rfl
 R7:=λF w=>by kernel_rfl
 R9:=λargs w=>by kernel_rfl
 St:=λw k s i r a ha hi=>by
  obtain⟨j,rfl,hj⟩:=cX hi;exact N4 ha hj r
 RV:=λw k s i a ha hi=>by
  obtain⟨j,rfl,hj⟩:=cX hi;exact Ip ha hj (a.2 j hj).2
 Sc:=λw k s i a ha hi=>by
  obtain⟨j,rfl,hj⟩:=cX hi;exact Lg ha hj a
 R8:=λw s i ha hi=>by
  obtain⟨j,rfl,hj⟩:=cX hi;exact uD ha hj
 ar:=λw s ha=>ha.co.ar
 free:=λw s ha=>au.free ha
 stay:=λw w' s S ha b hs c=>au.stays ha b hs c
def EI(M:cj)(B:ei):lm (py 1 M) where
 T:=237
 q:=.pointer (some ⟨B.lb,0,none⟩)
 Z:=dR B M.K
 ab:=B.co.ab
 wb:=B.co.wb
 At:=λw s=>au 263 w B M s
 Sa:=358
 Sp:=.pointer (some ⟨B.lb,0,none⟩)
 RB:=359
 RM:=.pointer (some ⟨B.lb,0,none⟩)
 RR:=362
 R6:=.pointer (some ⟨B.lb,0,none⟩)
 RO:=361
 R5:=.pointer (some ⟨B.lb,0,none⟩)
 RL:=0
 R0:=.nilIface
theorem EJ(hn:M.n<=32):(EI M B).TF where
 Ry:=hn
 sh:=rfl
 Ta:=λs i=>rfl
 Sw:=λF w=>by kernel_rfl
 SC:=λargs w=>by kernel_rfl
 RW:=λF w=>by kernel_rfl
 R2:=λargs w=>by kernel_rfl
 RK:=λF w=>by kernel_rfl
 Se:=λargs w=>by kernel_rfl
 R7:=λF w=>by kernel_rfl
 R9:=λargs w=>by kernel_rfl
 St:=λw k s i r a ha hi=>by
  obtain⟨j,rfl,hj⟩:=cX hi;exact Oe ha hj r
 RV:=λw k s i a ha hi=>by
  obtain⟨j,rfl,hj⟩:=cX hi;exact Iz ha hj (a.2 j hj).2
 Sc:=λw k s i a ha hi=>by
  obtain⟨j,rfl,hj⟩:=cX hi;exact LA ha hj a
 R8:=λw s i ha hi=>by
  obtain⟨j,rfl,hj⟩:=cX hi;exact uP ha hj
 ar:=λw s ha=>ha.co.ar
 free:=λw s ha=>au.free ha
 stay:=λw w' s S ha b hs c=>au.stays ha b hs c
def Fw(M:cj)(B:ei):lm (py 2 M) where
 T:=240
 q:=.pointer (some ⟨B.lb,0,none⟩)
 Z:=dR B M.K
 ab:=B.co.ab
 wb:=B.co.wb
 At:=λw s=>au 265 w B M s
 Sa:=369
 Sp:=.pointer (some ⟨B.lb,0,none⟩)
 RB:=370
 RM:=.pointer (some ⟨B.lb,0,none⟩)
 RR:=373
 R6:=.pointer (some ⟨B.lb,0,none⟩)
 RO:=372
 R5:=.pointer (some ⟨B.lb,0,none⟩)
 RL:=0
 R0:=.nilIface
theorem Fx(hn:M.n<=32):(Fw M B).TF where
 Ry:=hn
 sh:=rfl
 Ta:=λs i=>rfl
 Sw:=λF w=>by kernel_rfl
 SC:=λargs w=>by kernel_rfl
 RW:=λF w=>by kernel_rfl
 R2:=λargs w=>by kernel_rfl
 RK:=λF w=>by kernel_rfl
 Se:=λargs w=>by kernel_rfl
 R7:=λF w=>by kernel_rfl
 R9:=λargs w=>by kernel_rfl
 St:=λw k s i r a ha hi=>by
  obtain⟨j,rfl,hj⟩:=cX hi;exact OU ha hj r
 RV:=λw k s i a ha hi=>by
  obtain⟨j,rfl,hj⟩:=cX hi;exact IW ha hj (a.2 j hj).2
 Sc:=λw k s i a ha hi=>by
  obtain⟨j,rfl,hj⟩:=cX hi;exact Mi ha hj a
 R8:=λw s i ha hi=>by
  obtain⟨j,rfl,hj⟩:=cX hi;exact sH ha hj
 ar:=λw s ha=>ha.co.ar
 free:=λw s ha=>au.free ha
 stay:=λw w' s S ha b hs c=>au.stays ha b hs c
end
section
variable{w:World}{ab wb b1 b2:Nat}{A:AR}{v u:Value}{P T:List Int}{bud:Int}
theorem Ej(q:ax w ab wb A)(L:aZ w b1 v P)(M:aZ w b2 u T)(g:ea P T)(K:0<=bud/\bud<=1000)(F:A.taken+(4+3*T.length)<=A.ws.length)(ht:A.taken<=3000):
 Calls prog 76 #[some ab,.agg #[v,u],bud] w λe w'=>∃lb sb bb,e= .returned (.tuple #[some lb,(0:Int)])/\w.heap.size<=lb/\w.heap.size<=sb/\w.heap.size<=bb/\
  JO w' lb sb bb ab wb (A.taken+1) (A.taken+1+2+2*T.length) T.length bud ⟨{A with taken:=A.taken+(4+3*T.length)},⟨0,0,0,0⟩,0,λ_ _=>0⟩/\
  af [ab,wb] w w':=by
 have Q:=aH (λ(W:World) (h:af [] w W)=>mx W (L.Rr h aS) (M.Rr h aS) g);have G:=aH (λ(W:World)=>jQ bud W);have p:(decide ((0:Int)<=bud)&&decide (bud<=1000))=true:=by simp;omega
 rw[p] at G;clear p;obtain⟨s1,s2,s3,s4⟩:=g.size;obtain⟨a,cap,rfl, -, -⟩:=L;obtain⟨I,c,rfl, -, -⟩:=M;have j:=aH K;have mk:=iE T.length aO;generalize hn:T.length=n at*;obtain⟨t1,t2,t3⟩:=kV (A:=A) (k:=2+2*n) aO;obtain⟨t4,t5,t6⟩:=kV (A:={A with taken:=A.taken+(2+2*n)}) (k:=2+n) (by show A.taken+(2+2*n)+(2+n)<=A.ws.length;omega);have S:=q.box.lt;have Z:=q.row.lt;have N:=aH q;have B:=aH (ae t1 (ae t2 t3));have H:=aH (ae t4 (ae t5 t6));have x:=aH F;have z:=aH ht;clear g K q hn t1 t2 t3 t4 t5 t6 F ht;go_enter func76,ntmps76;go_wp2_with fail;refine gF (Q.o _ (aF.alloc _)) ?_;rintro w1 b;have k1:=((aq.new w #[.slice a P.length cap,.slice I n c] 24).Rr b aS).cell (i:=1) rfl;have f:=((af.refl [] w).alloc (.cells #[.slice a P.length cap,.slice I n c] 24)).trans b;have r:=aH (N.o.Rr f aS aS);have R:=aH f;clear b f;go_wp2_with fail;refine gF (G.o _) ?_;rintro w' rfl;have E:=fL r.o (2+2*(n:Int));have C:(2+2*(n:Int))=((2+2*n:Nat):Int):=by omega
 rw[C,B.o.1,B.o.2.1,B.o.2.2,<-C] at E;have y:=aH E;clear E C;go_wp2_with fail;refine gF y.o ?_;rintro w2 ⟨o,b⟩;have l:=aH ((R.o.mono (S':=[ab,wb]) aS).trans b);have O:=aH (Gq o n aO aO (by have:=H.o.1;rw[show((2+n:Nat):Int)=2+(n:Int) by omega] at this;exact this));have X:=l.o.size;clear b o;go_wp2_with fail;refine O.o.mono ?_;rintro e w3 ⟨bb,rfl,U,D,d,b⟩;have m:=aH (l.o.trans b);have J:({A with taken:=A.taken+(2+2*n)}:AR).take (2+(n:Int))={A with taken:=A.taken+(4+3*n)}:=by
  have:=H.o.2.2;rw[show((2+n:Nat):Int)=2+(n:Int) by omega] at this;rw[this];show({A with taken:=A.taken+(2+2*n)+(2+n)}:AR)=_;rw[show A.taken+(2+2*n)+(2+n)=A.taken+(4+3*n) by omega]
 rw[J] at d;have s:=aH d;have t:=aH (show kA w3 bb ab (A.taken+1+2+2*n) n ⟨0,0,0,0⟩ by have:=D;rwa [show(A.taken+(2+2*n))+1=A.taken+1+2+2*n by omega] at this);have Y:=m.o.size;have V:=D.box.lt;clear b d D;clear J;go_wp2;go_ret2;have ht:=z.o;have F:=x.o;have g1:=aq.new w3 (dJ n (λ_ _=>0)).toArray 138;have g2:=aq.new (w3.alloc (.cells (dJ n (λ_ _=>0)).toArray 138)) #[some ab,((A.taken:Int)+1:Int),bud,some bb,(0:Int),.slice (some ⟨w3.heap.size,0,none⟩) n n] 229;have h:af [] w3 ((w3.alloc (.cells (dJ n (λ_ _=>0)).toArray 138)).alloc (.cells #[some ab,((A.taken:Int)+1:Int),bud,some bb,(0:Int),.slice (some ⟨w3.heap.size,0,none⟩) n n] 229)):=(aF.alloc _).alloc _;refine⟨w3.heap.size+1,w3.heap.size,bb,by simp,by omega,by omega,by omega,?_,m.o.trans (h.mono aS)⟩
 ·exact{box:=by simpa using g2,row:=by simpa using g1.alloc _,bn:=t.o.Rr h aS,ar:=s.o.Rr h aS aS,ne:=by omega,n1:=by omega,Ry:=by omega,tb:=by omega,b0:=j.o.1,b1:=j.o.2}
end
abbrev Jt(T:List Int)(bud:Int):LP:=wG 1 (3+2*T.length) T.length bud
abbrev D7(T:List Int):MS:=⟨{AR.fresh 4096 with taken:=4+3*T.length},⟨0,0,0,0⟩,0,λ_ _=>0⟩
variable{P T:List Int}{g l par:Int}
theorem H5(J:ea P T)(W:0<=bud/\bud<=1000):iQ P T 10 g l par bud (Jt T bud) (D7 T) where
 n:=rfl
 Tb:=by omega
 sh:=rfl
 S9:=λw ab wb lk x y Q R B C _ _=>by
  have n1:lk≠ab:=C.differ B.box aJ;have n2:lk≠wb:=C.differ B.row aJ;have q:=J.size;have a:=aH (((af.refl [] w).alloc (.cells #[x,y] 24)).alloc (.cells #[g,l,par,bud] 42));have I:=Ej (bud:=bud) (B.Rr a.o aS aS) (Q.Rr a.o aS) (R.Rr a.o aS) J W (by show 0+_<=(List.replicate 4096 (0:Int)).length;rw[lA];have:=q.2.2.2;omega) (by show 0<=3000;omega);have j:(AR.fresh 4096).taken+1=1:=rfl;have r:(AR.fresh 4096).taken+1+2+2*T.length=3+2*T.length:=by rw[j]
  have t:(AR.fresh 4096).taken+(4+3*T.length)=4+3*T.length:=by show 0+_=_;omega
  rw[r,j,t] at I;have U:=aH I;clear I j r t;have c:=(aq.new w #[x,y] 24).alloc (.cells #[g,l,par,bud] 42);have d:=aq.new (w.alloc (.cells #[x,y] 24)) #[g,l,par,bud] 42;rw[bP] at d;have M:=aH (C.Rr a.o aS);have c0:=M.o.cell (i:=0) rfl;have t0:=c.cell (i:=0) rfl;have t1:=c.cell (i:=1) rfl;have t3:=d.cell (i:=3) rfl;have h:=aH (show T.length<=32 from J.size.2.2.2);have f:=a.o.size;obtain⟨a1,N,rfl, -, -⟩:=Q;obtain⟨a2,O,rfl, -, -⟩:=R;clear B C c d q;go_enter func57,ntmps57;go_wp2_with fail;refine U.o.mono ?_;rintro e w1 ⟨lb,sb,bb,rfl,m,o,p,G,H⟩;have b:=M.o.Rr H aQ;have l0:=b.cell (i:=2) rfl;have lz:=b.frozen;have E:=aH b;have S:=aH ((a.o.mono (S':=[ab,wb]) aS).trans H);have D:=aH (ae (dv f m) (ae (dv f o) (dv f p)));have F:=aH (show∀v,JO (w1.setCell (lk,2) v) lb sb bb ab wb 1 (3+2*T.length) T.length bud (D7 T) fromλv=>by
   have X:af [lk] w1 (w1.setCell (lk,2) v):=aU;refine lH.Rr G X (λk Y hm=>?_);obtain⟨vs,T',V,K⟩:=G.z Y;obtain rfl:k=lk:=by simpa using hm
   exact am rfl (b.differ V (λe=>am (e ▸ K) aJ)))
  clear H G b m o p;go_wp2;go_ret;refine⟨(Eh lb sb bb ab wb 1 (3+2*T.length) T.length bud).alone 10,(Ei h.o).SR 10 aO (λs i=>rfl),⟨rfl,rfl⟩,rfl,⟨E.o.set 2 _,F.o _⟩,λz Z=>?_,(S.o.mono (S':=[ab,wb,lk]) aS).set _ _ (.inl aS)⟩;obtain⟨j,r,t⟩:=D.o;have L:z=lb\/z=sb\/z=bb\/z=ab\/z=wb:=by simpa[lm.alone,Eh] using Z
  rcases L with e|e|e|e|e
  ·rw[e];exact .inr (.inr j)
  ·rw[e];exact .inr (.inr r)
  ·rw[e];exact .inr (.inr t)
  ·rw[e];exact .inl rfl
  ·rw[e];exact .inr (.inl rfl)
theorem D6(a:ea P T)(b:0<=bud/\bud<=1000):jO P T (.agg #[(10:Int),g,l,par,bud]) (Jt T bud) (D7 T) where
 ok:=QB _ _ _ _
 i0:=λ_ _=>.inl (by show(0:Int)<=0/\(0:Int)<=5;omega)
 S9:=λ_ _ _ c d=>gJ c d a (H5 a b)
structure eh where
 N:List Int
 tail:Nat
 bud:Int
def eh.n(M:eh):Nat:=M.N.length
def eh.sc(M:eh):xB:=⟨M.N,(M.tail:Int)+2,3⟩
structure dq where
 A:AR
 S:Nat->Nat->Int
 K:xC
structure p5 where
 lb:Nat
 sb:Nat
 gb:Nat
 wb:Nat
 sc:F4
def p5.ab(B:p5):Nat:=B.sc.ab
structure cS(w:World)(B:p5)(M:eh)(X:dq):Prop where
 box:∃cap,aq w B.lb [some B.ab,M.tail,M.bud,.slice (some ⟨B.gb,0,none⟩) M.n cap,some B.sc.kb,.slice (some ⟨B.sb,0,none⟩) M.n M.n] 223
 Uy:∃v,IR w B.gb v M.N
 sc:gv w B.sc M.sc X.K
 row:aq w B.sb (dJ M.n X.S) 138
 ar:ax w B.ab B.wb X.A
 Ry:M.n<=32
 tl:M.tail<=4096
def ku(B:p5):List Nat:=[B.sc.kb,B.sb,B.ab,B.wb]
section
variable{w w':World}{B:p5}{M:eh}{X:dq}
theorem cS.free(h:cS w B M X):fF w (ku B):=λz b=>by
 have a:z=B.sc.kb\/z=B.sb\/z=B.ab\/z=B.wb:=by simpa[ku] using b
 rcases a with e|e|e
 ·subst e;exact⟨_,_,h.sc.box,by decide⟩
 ·subst e;exact⟨_,_,h.row,by decide⟩
 ·exact h.ar.SF e
theorem cS.ne(h:cS w B M X):B.sc.kb≠B.sb/\B.sc.kb≠B.ab/\B.sc.kb≠B.wb/\B.sb≠B.ab/\B.sb≠B.wb:=
 ⟨h.sc.box.differ h.row aJ,h.sc.box.differ h.ar.box aJ,h.sc.box.differ h.ar.row aJ,h.row.differ h.ar.box aJ,h.row.differ h.ar.row aJ⟩
theorem cS.re(h:cS w B M X){Z:List Nat}(c:af Z w w')(d:fF w Z){X':dq}(h1:gv w' B.sc M.sc X'.K)(h2:aq w' B.sb (dJ M.n X'.S) 138)(h3:ax w' B.ab B.wb X'.A):cS w' B M X':=by
 obtain⟨cap,b⟩:=h.box;obtain⟨v,hv⟩:=h.Uy;have a:=hv;obtain⟨_,_,_,e,_⟩:=hv;exact{box:=⟨cap,b.Rr c (d.not b)⟩,Uy:=⟨v,a.Rr c (d.not e)⟩,sc:=h1,row:=h2,ar:=h3,Ry:=h.Ry,tl:=h.tl}
theorem cS.stays(h:cS w B M X){Z:List Nat}(a:af Z w w')(c:fF w Z)(hn:∀z∈Z,z∉ku B):cS w' B M X:=by
 have b:∀z,z∈ku B->z∉Z:=λz h1 h2=>hn z h2 h1;exact h.re a c (h.sc.stays a c (b _ (by simp[ku]))) (h.row.Rr a (b _ (by simp[ku]))) (h.ar.Rr a (b _ (by simp[ku])) (b _ (by simp[ku])))
theorem cS.same(h:cS w B M X)(a:af [] w w'):cS w' B M X:=h.stays a (fF.nil _) aS
theorem cS.R1(h:cS w B M X){b:AR}(a:af [B.ab,B.wb] w w')(d:ax w' B.ab B.wb b):cS w' B M {X with A:=b}:=by
 have hn:=h.ne;have c:fF w [B.ab,B.wb]:=h.free.sub (by simp[ku]);exact h.re a c (h.sc.stays a c aQ) (h.row.Rr a aQ) d
theorem cS.put(h:cS w B M X)(j:Nat){t:Nat}(ht:t<4)(v:Int):cS (w.setCell (B.sb,j*4+t) (.int .i64 v)) B M {X with S:=aa X.S j t v}:=by
 have hn:=h.ne;have a:af [B.sb] w (w.setCell (B.sb,j*4+t) (.int .i64 v)):=aU;have b:fF w [B.sb]:=h.free.sub (by simp[ku]);refine h.re a b (h.sc.stays a b aQ) ?_ (h.ar.Rr a aQ aQ);have:=h.row.set (j*4+t) (.int .i64 v)
 rwa [i9 M.n X.S ht v] at this
theorem tn(h:cS w B M X):Calls prog 287 #[some B.lb] w λe w'=>e= .returned M.n/\w=w':=by
 obtain⟨cap,a⟩:=h.box;have b:=a.cell (i:=5) rfl;clear a;clear h;go_enter func287,ntmps287;go_wp2;go_ret;exact⟨rfl,rfl⟩
theorem CP(h:cS w B M X){j:Nat}(hj:j<M.n):Calls prog 285 #[some B.lb,j] w λe w'=>e= .returned (.agg #[(X.S j 0:Int),(X.S j 1:Int),(X.S j 2:Int),(X.S j 3:Int)])/\af [] w w':=by
 have b:af [] w (w.alloc (.cells #[(0:Int),(0:Int),(0:Int),(0:Int)] 138)):=aF.alloc _;have h2:=h.same b;have c:=aH (tn h2);obtain⟨cap,a⟩:=h2.box;have g:=a.cell (i:=5) rfl;clear a;have d:=h2.row.cell (a9 M.n X.S (t:=0) hj aO);have k:=h2.row.cell (a9 M.n X.S (t:=1) hj aO);have l:=h2.row.cell (a9 M.n X.S (t:=2) hj aO);have m:=h2.row.cell (a9 M.n X.S (t:=3) hj aO);rw[ve] at d;have hn:=h.Ry;obtain⟨d1,d2,d3⟩:=aI (j:=j) (n:=M.n);have l1:(j:Int)<M.n:=by omega
 have f:=aH b;generalize X.S j 0=a0 at*;generalize X.S j 1=a1 at*;generalize X.S j 2=a2 at*;generalize X.S j 3=a3 at*;clear h h2 b;go_enter func285,ntmps285;go_wp2_with fail;refine gF c.o ?_;rintro w' rfl;go_wp2_with fail;exact eO (v:=.agg #[a0,a1,a2,a3]) (by simp[results,results285,go_sem]) rfl ⟨rfl,aF.alloc _⟩
def ao(M:eh):Int:=wrap64 ((M.tail:Int)+1)
theorem qv(h:cS w B M X):Calls prog 296 #[some B.lb] w λe w'=>e= .returned (ao M:Int)/\w=w':=by
 obtain⟨cap,a⟩:=h.box;have c1:=a.cell (i:=1) rfl;clear h a;go_enter func296,ntmps296;go_wp2;go_ret;exact⟨rfl,rfl⟩
def bT(M:eh)(x:Int):Int:=wrap64 (wrap64 ((M.tail:Int)+wrap64 (3*x)) - 1)
theorem J1(h:cS w B M X)(x:Int):Calls prog 96 #[some B.lb,x] w λe w'=>e= .returned (bT M x:Int)/\w=w':=by
 obtain⟨cap,a⟩:=h.box;have c1:=a.cell (i:=1) rfl;clear h a;go_enter func96,ntmps96;go_wp2;go_ret;exact⟨rfl,rfl⟩
def cB(M:eh)(x:Int):Int:=wrap64 ((M.tail:Int)+wrap64 (3*x))
theorem J2(h:cS w B M X)(x:Int):Calls prog 293 #[some B.lb,x] w λe w'=>e= .returned (cB M x:Int)/\w=w':=by
 obtain⟨cap,a⟩:=h.box;have c1:=a.cell (i:=1) rfl;clear h a;go_enter func293,ntmps293;go_wp2;go_ret;exact⟨rfl,rfl⟩
def dS(M:eh)(x:Int):Int:=wrap64 (wrap64 ((M.tail:Int)+wrap64 (3*x))+1)
theorem J0(h:cS w B M X)(x:Int):Calls prog 295 #[some B.lb,x] w λe w'=>e= .returned (dS M x:Int)/\w=w':=by
 obtain⟨cap,a⟩:=h.box;have c1:=a.cell (i:=1) rfl;clear h a;go_enter func295,ntmps295;go_wp2;go_ret;exact⟨rfl,rfl⟩
end
section
variable{tail first n:Nat}{bud:Int}{m:MS}{j:Nat}
def ns(tail first n:Nat)(m:MS)(j:Nat):Prop:=(m.S j 0=5/\(wv tail first n m.A).wt j≠0)\/((m.S j 0=17\/m.S j 0=20)/\(wv tail first n m.A).nx j=0)
theorem KW(a b:Int):11<=Bg a b:=by
 unfold Bg;repeat' split
 all_goals omega
theorem KQ(h:1<=m.S j 0/\m.S j 0<=5):1<=(fD tail first n bud m j).2/\(fD tail first n bud m j).2<=10:=by
 have:m.S j 0=1\/m.S j 0=2\/m.S j 0=3\/m.S j 0=4\/m.S j 0=5:=by omega
 have:(fD tail first n bud m j).2=2\/(fD tail first n bud m j).2=3\/(fD tail first n bud m j).2=4\/(fD tail first n bud m j).2=5\/(fD tail first n bud m j).2=10:=by
  rcases this with q|q|q|q|q
  ·rw[zG q];exact .inl rfl
  ·rw[zH q];exact .inr (.inl rfl)
  ·rw[zI q];unfold Ed;split;exact .inr (.inr (.inr (.inr rfl)));exact .inr (.inr (.inl rfl))
  ·rw[zJ q];exact .inr (.inr (.inr (.inl rfl)))
  ·rw[ww q];unfold Ee;split;exact .inr (.inr (.inr (.inr rfl)));exact .inr (.inr (.inr (.inl rfl)))
 omega
theorem Ib(h:11<=m.S j 0):(fD tail first n bud m j).2=0\/11<=(fD tail first n bud m j).2:=by
 unfold fD;rw[ac aO,ac aO,ac aO,ac aO,ac aO];unfold zy wi wj zA zB wk wl zC wm wn wq wu zD zE
 repeat' (refine qB (λx:MS×Int=>x.2=0\/11<=x.2) ?_ ?_)
 all_goals first|exact .inl rfl|exact .inr (KW _ _)|exact .inr h|exact .inr (by show(11:Int)<=_;omega)
theorem gL.ok(h:gL tail first n m)(hj:j<n):fH m.S (RK tail first n bud m j).S j (nr tail first n bud m j):=by
 have e:(RK tail first n bud m j).S j 0=(fD tail first n bud m j).2:=ak _ _ _ _;have d:=h.pc j hj;unfold gd at d;refine⟨λk c=>(aj _ _ _ _ c).trans (zL c),λa b=>?_,λa=>?_,λa=>?_⟩
 ·have:=KQ (tail:=tail) (first:=first) (n:=n) (bud:=bud) (m:=m) (j:=j) aO;rw[e];refine⟨this.1,this.2,?_⟩;unfold nr;rw[show(m.S j 0==0)=false by simp;omega,show(m.S j 0==10)=false by simp;omega];simp;omega
 ·have:=Ib (tail:=tail) (first:=first) (n:=n) (bud:=bud) (m:=m) (j:=j) aO;rw[e];refine⟨by omega,?_⟩;unfold nr;rw[show(m.S j 0==0)=false by simp;omega,show(m.S j 0==10)=false by simp;omega];simp;omega
 ·rw[e,tO a];refine⟨rfl,?_⟩;unfold nr;rcases a with a|a<;>rw[a]<;>simp
theorem gL.b0(h:gL tail first n m):0<=m.B.step:=by
 obtain⟨hl,Q,L,c,o,ha⟩:=h;cases o with
 |none=>have:=FZ.b0 ha.ph;omega
 |some x=>
  have a:Ph (wv tail first n m.A) m.B m.d m.S x Q L c:=ha.ph;by_cases h1:m.S x 0=13
  ·have:=a.T7 h1;omega
  ·by_cases h2:m.S x 0=22
   ·have:=a.T8 h2;omega
   ·have:=a.T6 h1 h2;omega
theorem wV{S:Nat->Nat->Int}{u:Nat}:∀{n:Nat},(∀i,i<n->i≠u->S i 0=0)->mL S n<=22
 | 0,_=>fA _
 |n+1,h=>by
  unfold mL;by_cases e:n=u
  ·have b:mL S n=0:=by
    have:∀k,k<=n->mL S k=0:=λk=>by
     induction k with
     |zero=>exactλ_=>rfl
     |succ k a=>intro c;unfold mL;rw[a aO,h k aO aO];rfl
    exact this n (ba _)
   have:=Fq (S n 0);omega
  ·rw[h n aO e];have:=wV (n:=n) λi hi=>h i aO;show _+0<=22;omega
variable{a b:Int}
theorem zO(hj:j<n)(c:m.S j 0=a):fV n m j a=true/\kL n m j a b={m with S:=aa m.S j 0 b}:=by
 have e:fV n m j a=true:=by unfold fV;rw[cl hj,cH,c];simp
 exact⟨e,by unfold kL;rw[ad e];rfl⟩
theorem wF(c:m.S j 0≠a):kL n m j a b=m:=by
 unfold kL fV;rw[ac];simp;exactλ_=>c
theorem OP(S:Nat->Nat->Int)(j:Nat)(b:Int)(i:Nat):aa S j 0 b i 0=up (λi=>S i 0) j b i:=by
 unfold up;by_cases c:i=j
 ·subst c;simp[ag]
 ·simp[ag,c]
theorem La{a:MS}(h:nF tail first n m a){i:Nat}(hi:i<n):(ns tail first n m i->ns tail first n a i)/\(a.S i 0=0↔m.S i 0=0)/\(a.S i 0=10↔m.S i 0=10):=by
 unfold ns;rw[h.pc i hi,h.wv];exact⟨id,qp,qp⟩
theorem mlW(h:gL tail first n m):mH n m<=22*n+8:=by
 have:=Aa m.S n;have:=Cz h.b0;unfold mH;omega
theorem N3(tail first n:Nat)(bud:Int):(wG tail first n bud).Row (λ_=>gL tail first n) (mH n) (ns tail first n) where
 I:=λ_ _ _ h=>h
 V:=λ_ _ h=>h.pc
 aR:=λs j _ hj d=>(zO (m:=s) (b:=1) hj d).1
 aN:=λs j r d=>wF d
 aS:=λk s j r l h hj d=>⟨h.ask j,⟨1,by omega,λi=>by
  have e:(wG tail first n bud).R3 s j r={s with S:=aa s.S j 0 1}:=(zO (m:=s) hj d).2;rw[e];exact OP s.S j 1 i⟩,nofun⟩
 lR:=λs j hj d=>(zO (m:=s) (b:=1) hj d).1
 lN:=λs j d=>wF d
 lS:=λk s j l h hj d=>⟨h.leave j,11,by omega,λi=>by
  have e:(wG tail first n bud).Rz s j={s with S:=aa s.S j 0 11}:=(zO (m:=s) hj d).2;rw[e];exact OP s.S j 11 i⟩
 lW:=λk s j h hj d=>Ba (m:=s) hj d
 st:=λk s j l h hj=>by
  have e:(wG tail first n bud).Ru s j=RK tail first n bud s j:=Bu hj;have o:(wG tail first n bud).RD s j=nr tail first n bud s j:=by show n5 _ _ _ _ _ _=_;unfold n5;rw[show bC n (j:Int)=true from cl hj];rfl
  rw[e,o];refine⟨h.step hj,⟨λa b=>?_,λhs=>?_⟩,h.ok hj,nofun⟩
  ·by_cases c:rU tail first n s j
   ·have a:s.S j 0≠0:=a;have b:s.S j 0≠10:=b;exact .inl (by unfold rU at c;unfold ns;rcases c with c|c|c;exact am c a;exact am c b;exact c)
   ·exact .inr (h.sinks hj c)
  ·have al:=h.idle (bud:=bud) hj (.inr (.inr hs));exact⟨xm al.wt,λi hi=>La al hi⟩
 pc:=λk s j h hj=>by have:=h.pc j hj;unfold gd at this;show 0<=s.S j 0;omega
 sp:=λs j h=>by have h:ns tail first n s j:=h;unfold ns at h;show s.S j 0≠0/\s.S j 0≠10;omega
 stuck:=λk s h hs=>by
  by_cases c:∃j,j<n/\s.S j 0=10
  ·exact .inl c
  ·refine .inr (h.stuck λj hj g=>?_);have f:s.S j 0≠10:=λe=>c ⟨j,hj,e⟩;rcases g with g|g
   ·exact f g
   ·refine g ?_;rcases hs j hj with a|a|a
    ·exact .inl a
    ·exact am a f
    ·exact .inr (.inr a)
 top:=λk s h hn=>by have:=mlW h;have hn:n<=6:=hn;omega
 S2:=nofun
 out:=nofun
 lone:=λ_ k s u hn h p ho=>by
  have a:mL s.S n<=22:=wV (u:=u) ho;have:=Cz h.b0;unfold mH;omega
theorem Ig{P T:List Int}(a:ea P T):gL 1 (3+2*T.length) T.length (D7 T):=by
 obtain⟨s1,s2,s3,s4⟩:=a.size;have b:∀i,(D7 T).A.get i=0:=λi=>by
  unfold AR.get;split
  ·show(List.replicate 4096 (0:Int))[i.toNat - 1]?.getD 0=0;rw[xo];split<;>rfl
  ·rfl
 have hl:(AR.fresh 4096).ws.length=4096:=lA;exact gL.new _ ⟨by omega,by show 4+3*T.length=_;omega,by show 4+3*T.length<=(AR.fresh 4096).ws.length;rw[hl];omega,by omega,by omega,by omega⟩ (λi _=>b i) s3
end
def kw(m:Nat)(pc r:Int):Bool:=decide (r=1/\(pc=10\/pc=11\/m=0/\(pc=2\/pc=3\/pc=6)\/m=1/\pc=2\/m=2/\(pc=3\/pc=4)))
def Jx(m:Nat)(M:cj)(S:Nat->Nat->Int)(v:Nat):Nat:=sm (λt=>if M.K.nd t=v/\kw m (S t 0) (S t 1)=true then 1 else 0) M.n
def gI(M:cj)(A:AR)(v:Nat):Int:=A.get ((M.gf:Int)+2*(v:Int)+0)
def gO(M:cj)(A:AR)(v:Nat):Int:=A.get ((M.gf:Int)+2*(v:Int)+1)
structure iM(m:Nat)(M:cj)(X:cf):Prop where
 lay:1<=M.gf/\M.gf+2*M.K.E<=M.fl/\M.fl+1<=M.K.G.b
 e:1<=M.K.E/\M.K.E<=32
 Ry:M.n<=32
 co:fu M.K X.C
 p:M.K.G.p<=4/\∀v,v<M.K.E->(M.K.L v).p<=4
 g:∀v,v<M.K.E->gI M X.C.A v=gO M X.C.A v+Jx m M X.S v/\0<=gO M X.C.A v/\gI M X.C.A v<=X.C.A.ops
def dW(M:cj)(A:AR)(D:DR):Nat:=if D.busy then 2*((M.K.E:Int) - D.at_).toNat+(if D.once then(if D.second then 0 else 1) else if gI M A D.at_.toNat=gO M A D.at_.toNat then(if D.second then(if D.out=gI M A D.at_.toNat then 0 else 2) else 1) else 1) - 1 else 0
structure DJ(M:cj)(A:AR)(D:DR):Prop where
 Tj:D.Tj=M.K.E
 TB:0<=D.at_/\D.at_<M.K.E
 out:D.second=true->D.out<=gO M A D.at_.toNat
section
variable{m:Nat}{M:cj}{X:cf}{A B:AR}{D:DR}{j v:Nat}{S T:Nat->Nat->Int}
variable{b:Nat}
theorem iM.op(h:iM m M X)(hl:X.C.A.ops<1000000000){n:Nat}(a:ij b n X.C.A B)(c:b+n<=M.fl+1):fu M.K {X.C with A:=B}/\f7 M.K {X.C with A:=B}=f7 M.K X.C/\∀i,i<M.n->(bw M.K {X.C with A:=B} i↔bw M.K X.C i):=
 h.co.frame a hl (by have:=h.lay;omega)
theorem iM.has(h:iM m M X){i:Int}(hi:(M.gf:Int)<=i/\i<=M.fl):X.C.A.has i=true:=a6.2 (by have:=h.lay;have:=h.co.L.gm;have:=(kS h.co.L.SK).1;omega)
theorem EE(hj:j<M.n)(h:∀t,t≠j->T t 0=S t 0/\T t 1=S t 1):Jx m M T v+(if M.K.nd j=v/\kw m (S j 0) (S j 1)=true then 1 else 0)=Jx m M S v+(if M.K.nd j=v/\kw m (T j 0) (T j 1)=true then 1 else 0):=
 cd (f:=λt=>if M.K.nd t=v/\kw m (S t 0) (S t 1)=true then 1 else 0) (g:=λt=>if M.K.nd t=v/\kw m (T t 0) (T t 1)=true then 1 else 0) hj λi _ e=>by rw[(h i e).1,(h i e).2]
theorem iM.inside(h:iM m M X)(hv:v<M.K.E)(a:gI M X.C.A v≠gO M X.C.A v):∃t,t<M.n/\M.K.nd t=v/\kw m (X.S t 0) (X.S t 1)=true:=by
 by_cases c:∃t,t<M.n/\M.K.nd t=v/\kw m (X.S t 0) (X.S t 1)=true
 ·exact c
 ·have:Jx m M X.S v=0:=eG λt ht=>ac λe=>c ⟨t,ht,e⟩;have:=(h.g v hv).1;omega
theorem iM.add(h:iM m M X)(hl:X.C.A.ops<1000000000)(hj:j<M.n)(w:Nat)(i:w<=1):ij (M.gf+2*M.K.nd j+w) 1 X.C.A (X.C.A.RF M.gf M.K.E (M.K.nd j) w)/\(X.C.A.RF M.gf M.K.E (M.K.nd j) w).ops=X.C.A.ops+1/\M.gf+2*M.K.nd j+w+1<=M.fl/\
 (∀v,gI M (X.C.A.RF M.gf M.K.E (M.K.nd j) w) v=gI M X.C.A v+(if w=0/\v=M.K.nd j then 1 else 0))/\(∀v,gO M (X.C.A.RF M.gf M.K.E (M.K.nd j) w) v=gO M X.C.A v+(if w=1/\v=M.K.nd j then 1 else 0)):=by
 have hv:=(h.co.L.nd j hj).1;have l:=h.lay;have hi:X.C.A.has ((M.gf:Int)+2*(M.K.nd j:Nat)+w)=true:=h.has aO;have e:X.C.A.RF M.gf M.K.E (M.K.nd j) w=X.C.A.add ((M.gf:Int)+2*(M.K.nd j:Nat)+w) 1:=by unfold AR.RF fk;rw[aT];rfl
 rw[e];have o:=r4 (d:=1) h.co.fit hi (b:=M.gf+2*M.K.nd j+w) (m:=1) aO aO;have g:=λx:Int=>iB (d:=1) (j:=x) h.co.fit.1 hi;have b:=h.g _ hv;have a:w=0->wrap64 (X.C.A.get ((M.gf:Int)+2*(M.K.nd j:Nat)+w)+1)=gI M X.C.A (M.K.nd j)+1:=λe=>by subst e;exact ce (by unfold gI at b;have:(0:Int)<=gO M X.C.A (M.K.nd j):=b.2.1;simp only[Int.natCast_zero];unfold gO at*;omega)
 have f:w=1->wrap64 (X.C.A.get ((M.gf:Int)+2*(M.K.nd j:Nat)+w)+1)=gO M X.C.A (M.K.nd j)+1:=λe=>by subst e;exact ce (by have:=b.1;have:=b.2;unfold gI gO at*;simp only[Int.natCast_one];omega)
 refine⟨o.1,o.2,by omega,λv=>?_,λv=>?_⟩
 ·show(X.C.A.add _ 1).get _=_;rw[g];by_cases c:w=0/\v=M.K.nd j
  ·rw[ad c,ad (by rw[c.1,c.2];rfl),c.2];exact a c.1
  ·rw[ac c,ac aO];unfold gI;omega
 ·show(X.C.A.add _ 1).get _=_;rw[g];by_cases c:w=1/\v=M.K.nd j
  ·rw[ad c,ad (by rw[c.1,c.2];rfl),c.2];exact f c.1
  ·rw[ac c,ac aO];unfold gO;omega
theorem iM.le(h:iM m M X)(hv:v<M.K.E):0<=gO M X.C.A v/\gO M X.C.A v<=gI M X.C.A v:=by have:=h.g v hv;omega
theorem DR.TO(D:DR){e:Nat}(a:1<=e)(o:Bool):D.Rw 0 e o={D with at_:=0,Tj:=e,once:=o,second:=false,busy:=true,clear:=false}:=by unfold DR.Rw;rw[ac aO]
theorem DJ.Rw(h:iM m M X)(D:DR)(o:Bool)(A:AR):DJ M A (D.Rw 0 M.K.E o)/\(D.Rw 0 M.K.E o).busy=true/\(D.Rw 0 M.K.E o).once=o/\(D.Rw 0 M.K.E o).second=false/\(D.Rw 0 M.K.E o).at_=0/\dW M A (D.Rw 0 M.K.E o)<=2*M.K.E:=by
 have e:=h.e;rw[DR.TO D e.1 o];refine⟨⟨rfl,⟨pK _,by show(0:Int)<M.K.E;omega⟩,nofun⟩,rfl,rfl,rfl,rfl,?_⟩;unfold dW;simp
theorem DJ.go(h:iM m M X)(n:DJ M X.C.A X.D)(o:X.D.busy=true):
 (∃b,ij b 1 X.C.A (be M X).C.A/\b+1<=M.fl)/\(∀i,(be M X).C.A.get i=X.C.A.get i)/\(be M X).C={X.C with A:=(be M X).C.A}/\(be M X).S=X.S/\
 (kQ M X=false/\(be M X).D.busy=true/\(be M X).D.once=X.D.once/\DJ M X.C.A (be M X).D/\((be M X).D.at_=X.D.at_/\gI M X.C.A X.D.at_.toNat≠gO M X.C.A X.D.at_.toNat/\X.D.once=false/\dW M X.C.A (be M X).D=dW M X.C.A X.D\/
  (X.D.once=true\/gI M X.C.A X.D.at_.toNat=gO M X.C.A X.D.at_.toNat)/\((be M X).D.at_=X.D.at_\/(be M X).D.at_=X.D.at_+1/\gI M X.C.A X.D.at_.toNat=gO M X.C.A X.D.at_.toNat)/\dW M X.C.A (be M X).D<dW M X.C.A X.D)/\((be M X).D.second=true->X.D.second=false/\(be M X).D.out=gO M X.C.A X.D.at_.toNat/\(be M X).D.at_=X.D.at_)\/
  kQ M X=true/\(be M X).D.busy=false/\X.D.second=true/\1<=dW M X.C.A X.D+1/\((be M X).D.clear=true/\X.D.at_+1=M.K.E/\gI M X.C.A X.D.at_.toNat=gO M X.C.A X.D.at_.toNat\/(be M X).D.clear=false/\X.D.once=true/\X.D.out≠gI M X.C.A X.D.at_.toNat)):=by
 obtain⟨a0,a1⟩:=n.TB;have l:=h.lay;have le:=h.e;obtain⟨v,hv⟩:∃v:Nat,X.D.at_=v:=⟨X.D.at_.toNat,by omega⟩
 have t:v<M.K.E:=by omega
 have k:fk M.K.E X.D.at_=true:=by unfold fk;exact ef ⟨a0,a1⟩
 have u:X.C.A.Sy M.gf M.K.E X.D.at_ 1=gO M X.C.A v:=by unfold AR.Sy;rw[k,hv];rfl
 have p:X.C.A.Sy M.gf M.K.E X.D.at_ 0=gI M X.C.A v:=by unfold AR.Sy;rw[k,hv];rfl
 have a:wrap64 (X.D.at_+1)=(v:Int)+1:=by rw[hv];exact ce aO
 have s:X.D.Tj=M.K.E:=n.Tj;have z:=h.le t;have ho:=n.out;rw[hv,cH] at ho⊢;have f:∃b,ij b 1 X.C.A (be M X).C.A/\b+1<=M.fl:=by
  show∃b,ij b 1 X.C.A (X.C.A.ST M.gf M.K.E X.D)/\_;unfold AR.ST AR.SA;rw[o,k,hv];by_cases c:X.D.second=true
  ·rw[ad rfl,ad rfl,ad c];exact⟨M.gf+2*v,(eE h.co.fit (h.has aO) aO aO).1,by omega⟩
  ·rw[ad rfl,ad rfl,ac c];exact⟨M.gf+2*v+1,(eE h.co.fit (h.has aO) aO aO).1,by omega⟩
 have y:∀i,(be M X).C.A.get i=X.C.A.get i:=λi=>by
  show(X.C.A.ST M.gf M.K.E X.D).get i=_;unfold AR.ST AR.SA;repeat' split
  all_goals first|exact aw|rfl
 have w:(be M X).D=X.D.step (gO M X.C.A v) (gI M X.C.A v):=by rw[<-u,<-p];rfl
 have x:kQ M X=X.D.RD (gI M X.C.A v):=by rw[<-p];rfl
 refine⟨f,y,rfl,rfl,?_⟩;rw[w,x];clear k p u w x f y n;generalize X.D=D at o hv a s ho a0 a1⊢;obtain⟨at_,Tj,once,busy,second,out,clear⟩:=D;simp only at o hv a s ho a0 a1⊢;subst o;subst hv;subst s;unfold DR.step DR.RD;cases second with
 |false=>
  refine .inl ⟨rfl,rfl,rfl,⟨rfl,⟨a0,a1⟩,λ_=>by show gO M X.C.A v<=gO M X.C.A ((v:Int)).toNat;rw[cH];exact pK _⟩,?_,λ_=>⟨rfl,rfl,rfl⟩⟩;cases once with
  |true=>exact .inr ⟨.inl rfl,.inl rfl,by simp[dW,DR.first];omega⟩
  |false=>
   by_cases c:gI M X.C.A v=gO M X.C.A v
   ·refine .inr ⟨.inr c,.inl rfl,?_⟩;simp[dW,DR.first,c];omega
   ·refine .inl ⟨rfl,c,rfl,?_⟩;simp[dW,DR.first,c]
 |true=>
  have ho:=ho rfl;by_cases c:gI M X.C.A v=out
  ·have g:gI M X.C.A v=gO M X.C.A v:=by omega
   by_cases d:(v:Int)+1=M.K.E
   ·have r:wrap64 (M.K.E:Int)=M.K.E:=d ▸ a;exact .inr ⟨by unfold DR.Sv;simp[c,d,r],by simp[DR.last,c,d,r,DR.over],rfl,by omega,.inl ⟨by simp[DR.last,c,d,r,DR.over],d,g⟩⟩
   ·refine .inl ⟨by unfold DR.Sv;simp[c,a,d],by simp[DR.last,c,a,d],by simp[DR.last,c,a,d],?_,.inr ⟨.inr g,.inr ⟨by simp[DR.last,c,a,d],g⟩,?_⟩,λq=>by simp[DR.last,c,a,d] at q⟩
    ·simp only[DR.last,c,a,d,bt,br];exact⟨rfl,⟨by show 0<=(v:Int)+1;omega,by show(v:Int)+1<_;omega⟩,nofun⟩
    ·simp only[DR.last,a,d,c,bt,br];cases once<;>simp[dW,<-c,g]<;>omega
  ·cases once with
   |true=>exact .inr ⟨by unfold DR.Sv;simp[c],by simp[DR.last,c,DR.over],rfl,by omega,.inr ⟨by simp[DR.last,c,DR.over],rfl,λe=>c e.symm⟩⟩
   |false=>
    refine .inl ⟨by unfold DR.Sv;simp[c],by simp[DR.last,c],by simp[DR.last,c],?_,?_,λq=>by simp[DR.last,c] at q⟩
    ·simp only[DR.last,c,br];exact⟨rfl,⟨a0,a1⟩,nofun⟩
    ·by_cases d:gI M X.C.A v=gO M X.C.A v
     ·refine .inr ⟨.inr d,.inl (by simp[DR.last,c]),?_⟩;have c':¬out=gI M X.C.A v:=λe=>c e.symm;have c2:¬gO M X.C.A v=out:=by rw[<-d];exact c
      have c3:¬out=gO M X.C.A v:=λe=>c2 e.symm;simp[dW,DR.last,d,c2,c3]
     ·refine .inl ⟨by simp[DR.last,c],d,rfl,?_⟩;simp[dW,DR.last,c,d]
variable{C:CS}
theorem iM.re(h:iM m M X)(hj:j<M.n){D:DR}{a b:Int}(k:fu M.K C)(o:∀t,t≠j->T t 0=X.S t 0/\T t 1=X.S t 1)(l:∀v,v<M.K.E->gI M C.A v=gI M X.C.A v+(if v=M.K.nd j then a else 0))(n:∀v,v<M.K.E->gO M C.A v=gO M X.C.A v+(if v=M.K.nd j then b else 0))(q:a+(if kw m (X.S j 0) (X.S j 1)=true then 1 else 0)=b+(if kw m (T j 0) (T j 1)=true then 1 else 0))(u:0<=b)(i:X.C.A.ops<=C.A.ops/\X.C.A.ops+a<=C.A.ops):iM m M ⟨C,D,T⟩:=
 {
  lay:=h.lay,e:=h.e,Ry:=h.Ry,co:=k,p:=h.p,g:=λv hv=>by
   have a1:=l v hv;have a2:=n v hv;have a3:=h.g v hv;have d:=EE (m:=m) (v:=v) hj o;show gI M C.A v=gO M C.A v+Jx m M T v/\0<=gO M C.A v/\gI M C.A v<=C.A.ops;by_cases c:v=M.K.nd j
   ·subst c;simp only[true_and] at d;rw[ad rfl] at a1 a2;have f:∀x:Bool,((if x=true then 1 else 0:Nat):Int)=if x=true then 1 else 0:=λx=>by cases x<;>rfl
    have r:=f (kw m (X.S j 0) (X.S j 1));have s:=f (kw m (T j 0) (T j 1));omega
   ·rw[ac c] at a1 a2;rw[ac λe=>c e.1.symm,ac λe=>c e.1.symm] at d;omega}
theorem ju(a:gI M B D.at_.toNat=gI M A D.at_.toNat)(b:gO M B D.at_.toNat=gO M A D.at_.toNat):dW M B D=dW M A D:=by unfold dW;rw[a,b]
theorem C8{w:Nat}(g:w<=1){u:Nat}(d:∀v,gI M B v=gI M A v+(if w=0/\v=u then 1 else 0))(f:∀v,gO M B v=gO M A v+(if w=1/\v=u then 1 else 0)):dW M B D<=dW M A D+1:=by
 have a:=d D.at_.toNat;have b:=f D.at_.toNat;unfold dW;generalize D.at_.toNat=v at*;by_cases c:v=u
 ·have:w=0\/w=1:=by omega
  rcases this with e|e<;>simp[c,e] at a b<;>subst c<;>rw[a,b]<;>(repeat' split)<;>omega
 ·simp[c] at a b;rw[a,b];omega
theorem DJ.same(h:DJ M A D)(a:gO M A D.at_.toNat<=gO M B D.at_.toNat):DJ M B D:=⟨h.Tj,h.TB,λe=>Int.le_trans (h.out e) a⟩
theorem iM.keeps(h:iM m M X)(ho:∀i:Int,i<M.K.G.b\/(X.C.A.taken:Int)<i->B.get i=X.C.A.get i):(∀v,v<M.K.E->gI M B v=gI M X.C.A v/\gO M B v=gO M X.C.A v)/\B.get M.fl=X.C.A.get M.fl:=by
 have l:=h.lay;exact⟨λv hv=>⟨ho _ (.inl aO),ho _ (.inl aO)⟩,ho _ (.inl aO)⟩
theorem iM.flag(h:iM m M X)(a:ij M.fl 1 X.C.A B):∀v,v<M.K.E->gI M B v=gI M X.C.A v/\gO M B v=gO M X.C.A v:=by
 have l:=h.lay
 exactλv hv=>⟨a.out _ aO,a.out _ aO⟩
theorem gC{pc r:Int}(h:r≠1):kw m pc r=false:=dh λe=>h e.1
theorem eZ(S:Nat->Nat->Int)(j:Nat)(p:Int)(t:Nat):aa S j 0 p t 1=S t 1:=by simp[ag]
theorem df(S:Nat->Nat->Int){j:Nat}(p:Int):∀t,t≠j->aa S j 0 p t 0=S t 0/\aa S j 0 p t 1=S t 1:=λt ht=>by simp[ag,ht]
theorem cy(S:Nat->Nat->Int)(j:Nat)(p:Int):aa S j 0 p j 0=p:=by simp[ag]
structure JP(m:Nat)(M:cj)(X:cf)(j:Nat)(p:Int)(B:AR)(x:Nat):Prop where
 g:∀D,iM m M ⟨{X.C with A:=B},D,aa X.S j 0 p⟩
 w:f7 M.K {X.C with A:=B}=f7 M.K X.C
 s:∀i,i<M.n->(bw M.K {X.C with A:=B} i↔bw M.K X.C i)
 ops:X.C.A.ops<=B.ops/\B.ops<=X.C.A.ops+1
 o:∀v,v<M.K.E->gO M X.C.A v<=gO M B v
 d:∀D:DR,(D.busy=true->0<=D.at_/\D.at_<M.K.E)->dW M B D<=dW M X.C.A D+x
 same:x=0->∀v,v<M.K.E->gI M B v=gI M X.C.A v/\gO M B v=gO M X.C.A v
variable{p:Int}
theorem iM.enter(h:iM m M X)(hl:X.C.A.ops<1000000000)(hj:j<M.n)(h1:kw m (X.S j 0) (X.S j 1)=false)(h2:kw m p (X.S j 1)=true):JP m M X j p (X.C.A.RF M.gf M.K.E (M.K.nd j) 0) 1:=by
 obtain⟨o1,o2,o3,d,c⟩:=h.add hl hj 0 aO;have e:=λD=>C8 (D:=D) (w:=0) aO d c;simp only[Int.natCast_zero] at*;generalize X.C.A.RF M.gf M.K.E (M.K.nd j) 0=B at*;obtain⟨f1,f2,f3⟩:=h.op hl o1 aO;exact⟨λD=>h.re hj (a:=1) (b:=0) f1 (df _ _) (λv _=>by rw[d];simp) (λv _=>by rw[c];simp) (by rw[cy,eZ,h1,h2];rfl) aO (by show _<=B.ops/\_<=B.ops;omega),f2,f3,by omega,λv _=>by rw[c];simp,λD _=>e D,nofun⟩
theorem iM.exit(h:iM m M X)(hl:X.C.A.ops<1000000000)(hj:j<M.n)(h1:kw m (X.S j 0) (X.S j 1)=true)(h2:kw m p (X.S j 1)=false):JP m M X j p (X.C.A.RF M.gf M.K.E (M.K.nd j) 1) 1:=by
 obtain⟨o1,o2,o3,d,c⟩:=h.add hl hj 1 aO;have e:=λD=>C8 (D:=D) (w:=1) aO d c;simp only[Int.natCast_one] at*;generalize X.C.A.RF M.gf M.K.E (M.K.nd j) 1=B at*;obtain⟨f1,f2,f3⟩:=h.op hl o1 aO;exact⟨λD=>h.re hj (a:=0) (b:=1) f1 (df _ _) (λv _=>by rw[d];simp) (λv _=>by rw[c];simp) (by rw[cy,eZ,h1,h2];rfl) aO (by show _<=B.ops/\_<=B.ops;omega),f2,f3,by omega,λv _=>by rw[c];split<;>omega,λD _=>e D,nofun⟩
theorem iM.quiet(h:iM m M X)(hl:X.C.A.ops<1000000000)(hj:j<M.n)(h1:kw m p (X.S j 1)=kw m (X.S j 0) (X.S j 1))(c:ij b 1 X.C.A B)(e:b<=M.fl)(d:∀v,v<M.K.E->gI M B v=gI M X.C.A v/\gO M B v=gO M X.C.A v):JP m M X j p B 0:=by
 obtain⟨f1,f2,f3⟩:=h.op hl c aO;exact⟨λD=>h.re hj (a:=0) (b:=0) f1 (df _ _) (λv hv=>by rw[(d v hv).1];simp) (λv hv=>by rw[(d v hv).2];simp) (by rw[cy,eZ,h1]) aO (by have:=c.le;show _<=B.ops/\_<=B.ops;omega),f2,f3,c.le,λv hv=>by rw[(d v hv).2];exact pK _,λD f=>by
  cases e:D.busy
  ·unfold dW;simp[e]
  ·have q:=d D.at_.toNat (by have:=f e;omega);rw[ju q.1 q.2];exact ba _,λ_=>d⟩
theorem iM.swap(h:iM m M X){D:DR}(b:fu M.K C)(a:C.A=X.C.A):iM m M ⟨C,D,X.S⟩:={lay:=h.lay,e:=h.e,Ry:=h.Ry,co:=b,p:=h.p,g:=λv hv=>by show gI M C.A v=gO M C.A v+Jx m M X.S v/\0<=gO M C.A v/\gI M C.A v<=C.A.ops;rw[a];exact h.g v hv}
theorem iM.asks(h:iM m M X)(hj:j<M.n)(e:X.C.TS j 0=0):fu M.K (bu M.K X.C j)/\f7 M.K (bu M.K X.C j)<=f7 M.K X.C+16*M.n+25/\(bu M.K X.C j).TS j 0=1/\(∀t,t≠j->(bu M.K X.C j).TS t 0=X.C.TS t 0)/\(bu M.K X.C j).A=X.C.A/\∀i,i<M.n->bw M.K X.C i->bw M.K (bu M.K X.C j) i:=by
 obtain⟨a,b,s,c,d⟩:=h.co.ask (t:=j) hj e;have hn:1<=M.K.n:=by have:j<M.K.n:=hj;omega
 have f:=M.K.G.TW h.p.1 hn;have g:=(M.K.L (M.K.nd j)).TW (h.p.2 _ (h.co.L.nd j hj).1) hn;have:M.n=M.K.n:=rfl;exact⟨a,by omega,(c j).trans (ad rfl),λt ht=>(c t).trans (ac ht),d,s⟩
theorem iM.leaves(h:iM m M X)(hj:j<M.n)(c:X.C.TS j 0=10):fu M.K (bj M.K X.C j)/\f7 M.K (bj M.K X.C j)+1=f7 M.K X.C/\(bj M.K X.C j).TS j 0=11/\(∀t,t≠j->(bj M.K X.C j).TS t 0=X.C.TS t 0)/\(bj M.K X.C j).A=X.C.A:=by
 obtain⟨e,a,b, -⟩:=h.co.leave (t:=j) hj c;exact⟨a,b,by rw[e];simp[ag],λt ht=>by rw[e];simp[ag,ht],by rw[e]⟩
variable{r:Bool}
theorem sk(h:X.S j 0≠0):cF m M X (j:Nat) r=X:=by unfold cF ai;simp[h]
theorem j8(hj:j<M.n)(h:X.S j 0=0):cF m M X (j:Nat) r=if r then{X with S:=gh X.S j 1 1} else if m=2 then{X with S:=gh X.S j 5 0} else{X with C:=bu M.K X.C j,S:=gh X.S j 7 0}:=by unfold cF;rw[dc hj h];rfl
theorem nt(h:X.S j 0≠10):bJ M X (j:Nat)=X:=by unfold bJ ai;simp[h]
theorem gR(hj:j<M.n)(h:X.S j 0=10):bJ M X (j:Nat)={X with S:=aa X.S j 0 (12 - X.S j 1)}:=by unfold bJ;rw[dc hj h];rfl
theorem mR(S:Nat->Nat->Int){j:Nat}(a b:Int):∀t,t≠j->gh S j a b t 0=S t 0/\gh S j a b t 1=S t 1:=λt ht=>by simp[gh,ag,ht]
theorem cA(S:Nat->Nat->Int)(j:Nat)(a b:Int):gh S j a b j 0=a/\gh S j a b j 1=b:=by simp[gh,ag]
theorem pB(S:Nat->Nat->Int)(j:Nat)(a b:Int)(i:Nat):gh S j a b i 0=up (λi=>S i 0) j a i:=by
 unfold up;split
 ·rename_i e;rw[e];exact(cA S j a b).1
 ·exact(mR S a b i ‹_›).1
theorem iM.RT(h:iM m M X)(hj:j<M.n){D:DR}(c:∀t,t≠j->T t 0=X.S t 0/\T t 1=X.S t 1)(h1:kw m (T j 0) (T j 1)=kw m (X.S j 0) (X.S j 1)):iM m M ⟨X.C,D,T⟩:=
 h.re hj (a:=0) (b:=0) h.co c (λv _=>by simp) (λv _=>by simp) (by rw[h1]) aO aO
theorem iM.SS(h:iM m M X)(hn:M.n<=6):f7 M.K X.C<=a7 X.C.TS M.n*135/\(a7 X.C.TS M.n<=1->f7 M.K X.C<=95):=by
 have a:=h.co.top h.p;have b:a7 X.C.TS M.K.n<=M.K.n:=u4 X.C.TS M.K.n;have hn:M.K.n<=6:=hn;show _<=a7 X.C.TS M.K.n*135/\(a7 X.C.TS M.K.n<=1->_)
 have c:=qn (a7 X.C.TS M.K.n) (show 8*a7 X.C.TS M.K.n+8*M.K.n+39<=135 by omega);refine⟨by omega,λe=>?_⟩;have d:a7 X.C.TS M.K.n*(8*a7 X.C.TS M.K.n+8*M.K.n+39)<=1*(8*1+8*6+39):=vf e aO;omega
theorem J7(a:D.busy=true)(h:D.at_<M.K.E):1<=dW M A D:=by unfold dW;rw[ad a];omega
end
structure s8(T:TypeId)(w:World)(lb sb ab tb b1 b2 n:Nat)(c2 c3 c4 c5:Value)(tv pv:List Value):Prop where
 box:aq w lb [some ab,some tb,c2,c3,c4,c5,.slice (some ⟨sb,0,none⟩) n n] T
 row:aq w sb (dJ n λ_ _=>0) 138
 top:aq w b1 tv 24
 par:aq w b2 pv 42
section
variable{T:TypeId}{w w':World}{lb sb ab wb tb b1 b2 n:Nat}{c2 c3 c4 c5:Value}{tv pv:List Value}
def Cb:List TypeId:=[136,93,158]
def MH(w:World)(Z:List Nat):Prop:=∀z∈Z,∃vs U,aq w z vs U/\U∈Cb
variable{U:TypeId}
theorem MH.not{Z:List Nat}(h:MH w Z){b:Nat}{vs:List Value}(a:aq w b vs U)(c:U∉Cb):b∉Z:=λhm=>by
 obtain⟨_,_,h1,h2⟩:=h b hm;exact a.differ h1 (λe=>c (e ▸ h2)) rfl
theorem vg.Uo(h:vg T):T∉Cb:=by rcases h with rfl|rfl|rfl<;>decide
theorem vg.out(h:vg T):T∈BU:=by rcases h with rfl|rfl|rfl<;>decide
theorem s8.Rr(h:s8 T w lb sb ab tb b1 b2 n c2 c3 c4 c5 tv pv)(ty:vg T){S:List Nat}(a:af S w w')(hs:MH w S):s8 T w' lb sb ab tb b1 b2 n c2 c3 c4 c5 tv pv:=
 ⟨h.box.Rr a (hs.not h.box ty.Uo),h.row.Rr a (hs.not h.row aJ),h.top.Rr a (hs.not h.top aJ),h.par.Rr a (hs.not h.par aJ)⟩
theorem ax.Uo{A:AR}(h:ax w ab wb A):MH w [ab,wb]:=λz b=>by
 have a:z=ab\/z=wb:=by simpa using b
 rcases a with rfl|rfl
 ·exact⟨_,_,h.box,by decide⟩
 ·exact⟨_,_,h.row,by decide⟩
theorem vg.ne(ty:vg T)(a:U∉BU):U≠T:=n7 ty.out a
theorem s8.S4(h:s8 T w lb sb ab tb b1 b2 n c2 c3 c4 c5 tv pv)(ty:vg T)(a:af [lb] w w'):aq w' sb (dJ n λ_ _=>0) 138/\aq w' b1 tv 24/\aq w' b2 pv 42:=by
 have q:∀{b:Nat}{vs:List Value}{U:TypeId},aq w b vs U->U∉BU->b∉[lb]:=λc d hm=>c.differ h.box (ty.ne d) (by simpa using hm);exact⟨h.row.Rr a (q h.row aJ),h.top.Rr a (q h.top aJ),h.par.Rr a (q h.par aJ)⟩
theorem s8.U1(h:s8 T w lb sb ab tb b1 b2 n c2 c3 c4 c5 tv pv)(ty:vg T)(v:Value):s8 T (w.setCell (lb,2) v) lb sb ab tb b1 b2 n v c3 c4 c5 tv pv:=by
 obtain⟨h1,h2,h3⟩:=h.S4 ty (w':=w.setCell (lb,2) v) aU;exact⟨h.box.set 2 v,h1,h2,h3⟩
theorem s8.U2(h:s8 T w lb sb ab tb b1 b2 n c2 c3 c4 c5 tv pv)(ty:vg T)(v:Value):s8 T (w.setCell (lb,3) v) lb sb ab tb b1 b2 n c2 v c4 c5 tv pv:=by
 obtain⟨h1,h2,h3⟩:=h.S4 ty (w':=w.setCell (lb,3) v) aU;exact⟨h.box.set 3 v,h1,h2,h3⟩
theorem s8.SV(h:s8 T w lb sb ab tb b1 b2 n c2 c3 c4 c5 tv pv)(ty:vg T)(v:Value):s8 T (w.setCell (lb,4) v) lb sb ab tb b1 b2 n c2 c3 v c5 tv pv:=by
 obtain⟨h1,h2,h3⟩:=h.S4 ty (w':=w.setCell (lb,4) v) aU;exact⟨h.box.set 4 v,h1,h2,h3⟩
theorem s8.U3(h:s8 T w lb sb ab tb b1 b2 n c2 c3 c4 c5 tv pv)(ty:vg T)(v:Value):s8 T (w.setCell (lb,5) v) lb sb ab tb b1 b2 n c2 c3 c4 v tv pv:=by
 obtain⟨h1,h2,h3⟩:=h.S4 ty (w':=w.setCell (lb,5) v) aU;exact⟨h.box.set 5 v,h1,h2,h3⟩
end
section
variable{w:World}{ab wb:Nat}{x y:Value}{P Tt:List Int}{g l par bud:Int}
abbrev EW(P:List Int):AR:={AR.fresh 4096 with taken:=2*(tE P).length+1}
abbrev xD(P Tt:List Int)(g l par bud:Int):CK:=jt P Tt g.toNat l.toNat par.toNat bud.toNat (EW P)
abbrev pz(P Tt:List Int)(g l par bud:Int):cj:=⟨xD P Tt g l par bud,1,2*(tE P).length+1⟩
abbrev qK(P Tt:List Int)(g l par bud:Int):cf:=⟨o6 (xD P Tt g l par bud) (dX P Tt g.toNat l.toNat par.toNat bud.toNat (EW P)),DR.zero,λ_ _=>0⟩
theorem EY(ok:ea P Tt)(e:1<=g/\g<=5)(hl:1<=l/\l<=5)(f:1<=par/\par<=32)(d:0<=bud/\bud<=1000):dV P Tt g.toNat l.toNat par.toNat bud.toNat (EW P):=by
 have a:(EW P).ws.length=4096:=lA;have c:=ki P;have hs:=ok.size;exact{
  ok:=ok,g1:=by omega,g5:=by omega,l1:=by omega,l5:=by omega,p1:=by omega,Tr:=by omega,b:=by omega,az:=by
   intro k _;show(List.replicate 4096 (0:Int))[k]?.getD 0=0;rw[xo];split<;>rfl,fit:=⟨by rw[a];show 2*(tE P).length+1<=4096;have:=hs.2.1;omega,by rw[a];omega,by show(0:Int)<=0;omega,by show(0:Int)<=_;omega⟩,ops:=by show(0:Int)<=_;omega,room:=by rw[a];show 2*(tE P).length+1+65+_<=4096;have:=hs.2.1;omega}
theorem E0:mQ (pz P Tt g l par bud) (qK P Tt g l par bud):=⟨zk _ _,λj _=>⟨by show(0:Int)<=0/\(0:Int)<=13;omega,.inl rfl⟩⟩
theorem ry:(∀{w:World}{ab wb:Nat}{x y:Value}{P Tt:List Int}{g l par bud:Int}(hx:aZ w 0 x P)(hy:aZ w 0 y Tt)(kx:im w ab wb x P)(ky:im w ab wb y Tt)(hT:ea P Tt)(hA:ax w ab wb (AR.fresh 4096))(hg:1<=g/\g<=5)(hl:1<=l/\l<=5)(hp:1<=par/\par<=32)(hb:0<=bud/\bud<=1000),Calls prog 98 #[some ab,.agg #[x,y],.agg #[g,l,par,bud]] w λe w'=>∃B:ei,e= .returned (.tuple #[some B.lb,(0:Int)])/\(B.co.ab=ab/\B.co.wb=wb/\w.heap.size<=B.lb/\∀z∈dR B (xD P Tt g l par bud),z=ab\/z=wb\/w.heap.size<=z)/\au 258 w' B (pz P Tt g l par bud) (qK P Tt g l par bud)/\af [ab,wb] w w')/\(∀{w:World}{ab wb:Nat}{x y:Value}{P Tt:List Int}{g l par bud:Int}(hx:aZ w 0 x P)(hy:aZ w 0 y Tt)(kx:im w ab wb x P)(ky:im w ab wb y Tt)(hT:ea P Tt)(hA:ax w ab wb (AR.fresh 4096))(hg:1<=g/\g<=5)(hl:1<=l/\l<=5)(hp:1<=par/\par<=32)(hb:0<=bud/\bud<=1000),Calls prog 99 #[some ab,.agg #[x,y],.agg #[g,l,par,bud]] w λe w'=>∃B:ei,e= .returned (.tuple #[some B.lb,(0:Int)])/\(B.co.ab=ab/\B.co.wb=wb/\w.heap.size<=B.lb/\∀z∈dR B (xD P Tt g l par bud),z=ab\/z=wb\/w.heap.size<=z)/\au 263 w' B (pz P Tt g l par bud) (qK P Tt g l par bud)/\af [ab,wb] w w')/\(∀{w:World}{ab wb:Nat}{x y:Value}{P Tt:List Int}{g l par bud:Int}(hx:aZ w 0 x P)(hy:aZ w 0 y Tt)(kx:im w ab wb x P)(ky:im w ab wb y Tt)(hT:ea P Tt)(hA:ax w ab wb (AR.fresh 4096))(hg:1<=g/\g<=5)(hl:1<=l/\l<=5)(hp:1<=par/\par<=32)(hb:0<=bud/\bud<=1000),Calls prog 100 #[some ab,.agg #[x,y],.agg #[g,l,par,bud]] w λe w'=>∃B:ei,e= .returned (.tuple #[some B.lb,(0:Int)])/\(B.co.ab=ab/\B.co.wb=wb/\w.heap.size<=B.lb/\∀z∈dR B (xD P Tt g l par bud),z=ab\/z=wb\/w.heap.size<=z)/\au 265 w' B (pz P Tt g l par bud) (qK P Tt g l par bud)/\af [ab,wb] w w'):=by
 refine⟨?_,?_,?_⟩;all_goals
  intro w ab wb x y P Tt g l par bud hx hy kx ky hT hA hg hl hp hb
 all_goals
  have hsch:=(EY hT hg hl hp hb).Vn;have eg:(xD P Tt g l par bud).gk=g:=by show(g.toNat:Int)=g;omega
  have el:(xD P Tt g l par bud).lk=l:=by show(l.toNat:Int)=l;omega
  have ep:(xD P Tt g l par bud).par=par:=by show(par.toNat:Int)=par;omega
  have eb:(xD P Tt g l par bud).bud=bud:=by show(bud.toNat:Int)=bud;omega
  have HCO:=aH (λ(W:World) (hx:aZ W 0 x P) (hy:aZ W 0 y Tt) (hA:ax W ab wb (EW P))=>(show Calls prog 72 #[some ab,.agg #[x,y],.agg #[g,l,par,bud]] W λe w'=>∃B:CB,e= .returned (.tuple #[some B.cb,(0:Int)])/\(B.ab=ab/\B.wb=wb/\qT W.heap.size B (xD P Tt g l par bud))/\bg w' B (xD P Tt g l par bud) (qK P Tt g l par bud).C/\af [ab,wb] W w' from by have:=vI hx hy hsch hA;rw[eg,el,ep,eb] at this;exact this));obtain⟨s1,s2,s3,s4⟩:=hT.size;have hEl:=ki P;have hE1:1<=(tE P).length:=(EY hT hg hl hp hb).ne.1;clear hsch eg el ep eb hg hl hp hb;have mk:=iE Tt.length aO
 have f:=aH (show vg 258 from(.inl rfl));rotate_left;have f:=aH (show vg 263 from(.inr (.inl rfl)));rotate_left;have f:=aH (show vg 265 from(.inr (.inr rfl)));rotate_left;all_goals
  have HPN:=aH (λ(W:World) (hf:af [] w W)=>gQ (hx.Rr hf aS) (hy.Rr hf aS) hT);have HF0:=aH (((af.refl [] w).alloc (.cells #[x,y] 24)).alloc (.cells #[g,l,par,bud] 42));have hB1:=(aq.new w #[x,y] 24).alloc (.cells #[g,l,par,bud] 42);have hB2:=aq.new (w.alloc (.cells #[x,y] 24)) #[g,l,par,bud] 42;rw[bP] at hB2;have HB:=aH (ae hB1 hB2);have t0:=hB1.cell (i:=0) rfl;have t1:=hB1.cell (i:=1) rfl;have hnot:= @aX prog;have HAR:=aH hA;have HT:=aH hT;have HK:=aH (ae kx ky);have e0:(AR.fresh 4096).Tw ((tE P).length:Int)=0:=by
   unfold AR.Tw;rw[ac aO];exact(kV (A:=AR.fresh 4096) (k:=2*(tE P).length) (by show 0+_<=(List.replicate 4096 (0:Int)).length;rw[lA];omega)).1
  have e1:(AR.fresh 4096).take (2*((tE P).length:Int))={AR.fresh 4096 with taken:=2*(tE P).length}:=by
   have:=(kV (A:=AR.fresh 4096) (k:=2*(tE P).length) (by show 0+_<=(List.replicate 4096 (0:Int)).length;rw[lA];omega)).2.2;rw[show((2*(tE P).length:Nat):Int)=2*((tE P).length:Int) by omega] at this;rw[this];show({AR.fresh 4096 with taken:=0+2*(tE P).length}:AR)=_;rw[jM]
  have e2:=kV (A:={AR.fresh 4096 with taken:=2*(tE P).length}) (k:=1) (by show 2*(tE P).length+1<=(List.replicate 4096 (0:Int)).length;rw[lA];omega);have HTK:=aH (ae e0 (ae e1 e2));clear hA hT hB1 hB2 kx ky e0 e1 e2;obtain⟨a1,Q,rfl, -, -⟩:=hx;obtain⟨a2,R,rfl, -, -⟩:=hy
 focus
  go_enter func98,ntmps98
 rotate_left
 focus
  go_enter func99,ntmps99
 rotate_left
 focus
  go_enter func100,ntmps100
 rotate_left;all_goals
  go_wp2_with fail;refine(HPN.o _ HF0.o).mono ?_;rintro e w1 ⟨tb,rfl,htb,hTb,b⟩;have htb0:w.heap.size<=tb:=dv HF0.o.size htb;have HF1:=aH (HF0.o.trans b);have Z:=aH hTb;have I:=aH (ae (HB.o.1.Rr b aS) (HB.o.2.Rr b aS));have hsz1:=HF1.o.size;clear b hTb t0 t1 HB;go_wp2_with fail;refine gF (jf Z.o) ?_;rintro w' rfl
 have hs:=(aq.new w1 (dJ Tt.length λ_ _=>0).toArray 138).alloc (.cells #[some ab,some tb,.pointer none,.pointer none,(0:Int),.pointer none,.slice (some ⟨w1.heap.size,0,none⟩) Tt.length Tt.length] 258);have u:=aq.new (w1.alloc (.cells (dJ Tt.length λ_ _=>0).toArray 138)) #[some ab,some tb,.pointer none,.pointer none,(0:Int),.pointer none,.slice (some ⟨w1.heap.size,0,none⟩) Tt.length Tt.length] 258;rotate_left;have hs:=(aq.new w1 (dJ Tt.length λ_ _=>0).toArray 138).alloc (.cells #[some ab,some tb,.pointer none,.pointer none,(0:Int),.pointer none,.slice (some ⟨w1.heap.size,0,none⟩) Tt.length Tt.length] 263);have u:=aq.new (w1.alloc (.cells (dJ Tt.length λ_ _=>0).toArray 138)) #[some ab,some tb,.pointer none,.pointer none,(0:Int),.pointer none,.slice (some ⟨w1.heap.size,0,none⟩) Tt.length Tt.length] 263;rotate_left;have hs:=(aq.new w1 (dJ Tt.length λ_ _=>0).toArray 138).alloc (.cells #[some ab,some tb,.pointer none,.pointer none,(0:Int),.pointer none,.slice (some ⟨w1.heap.size,0,none⟩) Tt.length Tt.length] 265);have u:=aq.new (w1.alloc (.cells (dJ Tt.length λ_ _=>0).toArray 138)) #[some ab,some tb,.pointer none,.pointer none,(0:Int),.pointer none,.slice (some ⟨w1.heap.size,0,none⟩) Tt.length Tt.length] 265;rotate_left;all_goals
  rw[bP] at u
 have a:af [] w1 ((w1.alloc (.cells (dJ Tt.length λ_ _=>0).toArray 138)).alloc (.cells #[some ab,some tb,.pointer none,.pointer none,(0:Int),.pointer none,.slice (some ⟨w1.heap.size,0,none⟩) Tt.length Tt.length] 258)):=(aF.alloc _).alloc _;have M:=aH (show s8 258 ((w1.alloc (.cells (dJ Tt.length λ_ _=>0).toArray 138)).alloc (.cells #[some ab,some tb,.pointer none,.pointer none,(0:Int),.pointer none,.slice (some ⟨w1.heap.size,0,none⟩) Tt.length Tt.length] 258)) (w1.heap.size+1) w1.heap.size ab tb w.heap.size (w.heap.size+1) Tt.length (.pointer none) (.pointer none) (.int .i64 0) (.pointer none) [.slice a1 P.length Q,.slice a2 Tt.length R] [g,l,par,bud] from⟨u,hs,I.o.1.Rr a aS,I.o.2.Rr a aS⟩);rotate_left;have a:af [] w1 ((w1.alloc (.cells (dJ Tt.length λ_ _=>0).toArray 138)).alloc (.cells #[some ab,some tb,.pointer none,.pointer none,(0:Int),.pointer none,.slice (some ⟨w1.heap.size,0,none⟩) Tt.length Tt.length] 263)):=(aF.alloc _).alloc _;have M:=aH (show s8 263 ((w1.alloc (.cells (dJ Tt.length λ_ _=>0).toArray 138)).alloc (.cells #[some ab,some tb,.pointer none,.pointer none,(0:Int),.pointer none,.slice (some ⟨w1.heap.size,0,none⟩) Tt.length Tt.length] 263)) (w1.heap.size+1) w1.heap.size ab tb w.heap.size (w.heap.size+1) Tt.length (.pointer none) (.pointer none) (.int .i64 0) (.pointer none) [.slice a1 P.length Q,.slice a2 Tt.length R] [g,l,par,bud] from⟨u,hs,I.o.1.Rr a aS,I.o.2.Rr a aS⟩);rotate_left;have a:af [] w1 ((w1.alloc (.cells (dJ Tt.length λ_ _=>0).toArray 138)).alloc (.cells #[some ab,some tb,.pointer none,.pointer none,(0:Int),.pointer none,.slice (some ⟨w1.heap.size,0,none⟩) Tt.length Tt.length] 265)):=(aF.alloc _).alloc _;have M:=aH (show s8 265 ((w1.alloc (.cells (dJ Tt.length λ_ _=>0).toArray 138)).alloc (.cells #[some ab,some tb,.pointer none,.pointer none,(0:Int),.pointer none,.slice (some ⟨w1.heap.size,0,none⟩) Tt.length Tt.length] 265)) (w1.heap.size+1) w1.heap.size ab tb w.heap.size (w.heap.size+1) Tt.length (.pointer none) (.pointer none) (.int .i64 0) (.pointer none) [.slice a1 P.length Q,.slice a2 Tt.length R] [g,l,par,bud] from⟨u,hs,I.o.1.Rr a aS,I.o.2.Rr a aS⟩);rotate_left;all_goals
  have HF2:=aH (HF1.o.trans a)
 have s:=aH (show sO ((w1.alloc (.cells (dJ Tt.length λ_ _=>0).toArray 138)).alloc (.cells #[some ab,some tb,.pointer none,.pointer none,(0:Int),.pointer none,.slice (some ⟨w1.heap.size,0,none⟩) Tt.length Tt.length] 258)) tb P Tt from by obtain⟨vp,vt,gp,gt,h1,h2,h3⟩:=Z.o;exact⟨vp,vt,gp,gt,h1.Rr a aS,h2.Rr a aS,h3.Rr a aS⟩);rotate_left;have s:=aH (show sO ((w1.alloc (.cells (dJ Tt.length λ_ _=>0).toArray 138)).alloc (.cells #[some ab,some tb,.pointer none,.pointer none,(0:Int),.pointer none,.slice (some ⟨w1.heap.size,0,none⟩) Tt.length Tt.length] 263)) tb P Tt from by obtain⟨vp,vt,gp,gt,h1,h2,h3⟩:=Z.o;exact⟨vp,vt,gp,gt,h1.Rr a aS,h2.Rr a aS,h3.Rr a aS⟩);rotate_left;have s:=aH (show sO ((w1.alloc (.cells (dJ Tt.length λ_ _=>0).toArray 138)).alloc (.cells #[some ab,some tb,.pointer none,.pointer none,(0:Int),.pointer none,.slice (some ⟨w1.heap.size,0,none⟩) Tt.length Tt.length] 265)) tb P Tt from by obtain⟨vp,vt,gp,gt,h1,h2,h3⟩:=Z.o;exact⟨vp,vt,gp,gt,h1.Rr a aS,h2.Rr a aS,h3.Rr a aS⟩);rotate_left;all_goals
  have V:=aH (HAR.o.Rr HF2.o aS aS)
 have hsz2:((w1.alloc (.cells (dJ Tt.length λ_ _=>0).toArray 138)).alloc (.cells #[some ab,some tb,.pointer none,.pointer none,(0:Int),.pointer none,.slice (some ⟨w1.heap.size,0,none⟩) Tt.length Tt.length] 258)).heap.size=w1.heap.size+2:=by rw[bP,bP]
 rotate_left;have hsz2:((w1.alloc (.cells (dJ Tt.length λ_ _=>0).toArray 138)).alloc (.cells #[some ab,some tb,.pointer none,.pointer none,(0:Int),.pointer none,.slice (some ⟨w1.heap.size,0,none⟩) Tt.length Tt.length] 263)).heap.size=w1.heap.size+2:=by rw[bP,bP]
 rotate_left;have hsz2:((w1.alloc (.cells (dJ Tt.length λ_ _=>0).toArray 138)).alloc (.cells #[some ab,some tb,.pointer none,.pointer none,(0:Int),.pointer none,.slice (some ⟨w1.heap.size,0,none⟩) Tt.length Tt.length] 265)).heap.size=w1.heap.size+2:=by rw[bP,bP]
 rotate_left;all_goals
  obtain⟨lb,hlb⟩:∃lb,lb=w1.heap.size+1:=⟨_,rfl⟩
  rw[<-hlb] at M;have HLB:=aH hlb;have hlb0:w.heap.size<=lb:=by omega
  clear hs u a hlb;go_wp2_with fail;rw[<-HLB.o]
 generalize((w1.alloc (.cells (dJ Tt.length λ_ _=>0).toArray 138)).alloc (.cells #[some ab,some tb,.pointer none,.pointer none,(0:Int),.pointer none,.slice (some ⟨w1.heap.size,0,none⟩) Tt.length Tt.length] 258))=w2 at*;rotate_left;generalize((w1.alloc (.cells (dJ Tt.length λ_ _=>0).toArray 138)).alloc (.cells #[some ab,some tb,.pointer none,.pointer none,(0:Int),.pointer none,.slice (some ⟨w1.heap.size,0,none⟩) Tt.length Tt.length] 263))=w2 at*;rotate_left;generalize((w1.alloc (.cells (dJ Tt.length λ_ _=>0).toArray 138)).alloc (.cells #[some ab,some tb,.pointer none,.pointer none,(0:Int),.pointer none,.slice (some ⟨w1.heap.size,0,none⟩) Tt.length Tt.length] 265))=w2 at*;rotate_left;all_goals
  refine(sE s.o HT.o).mono ?_;rintro e w3 ⟨rfl,hTf,b⟩;have d:MH w2 [tb]:=λz h=>by obtain⟨_,_,_,_,q,_⟩:=s.o;have e:z=tb:=(by simpa using h);rw[e];exact⟨_,_,q,by decide⟩
  have HN3:=aH (M.o.Rr f.o b d);have HT3:=aH hTf;have HA3:=aH (V.o.Rr b (by obtain⟨_,_,_,_,q,_⟩:=s.o;have:=V.o.box.differ q aJ;simp;omega) (by obtain⟨_,_,_,_,q,_⟩:=s.o;have:=V.o.row.differ q aJ;simp;omega));have HF3:=aH (HF2.o.Rx b (λz h=>.inr (by simp at h;omega)));clear hTf b d s M V;have hGN:=G1 HA3.o ((tE P).length:Int) HTK.o.1;rw[HTK.o.2.1,cH] at hGN;have HGN:=aH hGN;clear hGN;go_wp2_with fail;refine HGN.o.mono ?_;rintro e w4 ⟨gb,rfl,hgb,hG,hA4,b⟩;have d:=HA3.o.Uo;have m:=aH (HN3.o.Rr f.o b d);have HT4:=aH (HT3.o.SF b (λz h=>HA3.o.SF (by simpa using h)));have X:=aH hA4;have HG4:=aH hG;have HF4:=aH ((HF3.o.mono (S':=[ab,wb]) aS).trans b);clear hG hA4 b d HGN;have c2:=m.o.box.cell (i:=2) rfl;have cz:=m.o.box.frozen;have HN4b:=aH (m.o.U1 f.o (.pointer (some ⟨gb,0,none⟩)));have E:af [lb] w4 (w4.setCell (lb,2) (.pointer (some ⟨gb,0,none⟩))):=aU;have HT4b:=aH (HT4.o.RJ m.o.box E f.o.out);have J:=aH (X.o.Rr E (by have:=X.o.Sn m.o.box f.o.out;simp;omega) (by have:=X.o.Sn m.o.box f.o.out;simp;omega));have HF4b:=aH (HF4.o.set ⟨lb,2,none⟩ (.pointer (some ⟨gb,0,none⟩)) (.inr (by show w.heap.size<=lb;omega)));have HG4b:=aH (HG4.o.Rr E (by have:=HG4.o.box.differ m.o.box aJ;simp;omega));clear E;go_wp2_with fail;generalize w4.setCell (lb,2) (.pointer (some ⟨gb,0,none⟩))=W4 at*;clear m HT4 X HF4 HG4 c2 cz;have hTk:=fL J.o 1;have e2:=HTK.o.2.2;rw[show((1:Nat):Int)=1 from rfl] at e2;rw[e2.1,e2.2.1,e2.2.2] at hTk;have HTA:=aH hTk;clear hTk e2;refine HTA.o.mono ?_;rintro e w5 ⟨rfl,hA5,b⟩;have d:=J.o.Uo;have o:=aH (HN4b.o.Rr f.o b d);have HT5:=aH (HT4b.o.SF b (λz h=>J.o.SF (by simpa using h)));have Y:=aH hA5;have HG5:=aH (HG4b.o.Rr b (d.not HG4b.o.box aJ));have HF5:=aH (HF4b.o.trans b);clear hA5 b d HTA;have c4:=o.o.box.cell (i:=4) rfl;have cz:=o.o.box.frozen;have c:=aH (o.o.SV f.o (.int .i64 (2*((tE P).length:Int)+1)));have F:af [lb] w5 (w5.setCell (lb,4) (.int .i64 (2*((tE P).length:Int)+1))):=aU;have HT5b:=aH (HT5.o.RJ o.o.box F f.o.out);have K:=aH (Y.o.Rr F (by have:=Y.o.Sn o.o.box f.o.out;simp;omega) (by have:=Y.o.Sn o.o.box f.o.out;simp;omega));have D:=aH (HF5.o.set ⟨lb,4,none⟩ (.int .i64 (2*((tE P).length:Int)+1)) (.inr (by show w.heap.size<=lb;omega)));have HG5b:=aH (HG5.o.Rr F (by have:=HG5.o.box.differ o.o.box aJ;simp;omega));have p0:=c.o.top.cell (i:=0) rfl;have p1:=c.o.top.cell (i:=1) rfl;have q0:=c.o.par.cell (i:=0) rfl;have q1:=c.o.par.cell (i:=1) rfl;have q2:=c.o.par.cell (i:=2) rfl;have q3:=c.o.par.cell (i:=3) rfl;clear F;go_wp2_with fail;generalize w5.setCell (lb,4) (.int .i64 (2*((tE P).length:Int)+1))=W5 at*;clear o HT5 Y HF5 HG5 c4 cz;refine(HCO.o _ (HK.o.1 _ _ D.o (λz h=>by simp at h;omega)) (HK.o.2 _ _ D.o (λz h=>by simp at h;omega)) K.o).mono ?_;rintro e w6 ⟨Bc,rfl,⟨t,S,j⟩,hC,b⟩;have d:=K.o.Uo;have p:=aH (c.o.Rr f.o b d);have HT6:=aH (HT5b.o.SF b (λz h=>K.o.SF (by simpa using h)));have HG6:=aH (HG5b.o.Rr b (d.not HG5b.o.box aJ));have HC6:=aH hC;have HF6:=aH (D.o.trans b);have HBB:=aH (ae t (ae S j));have U:=D.o.size;have hrw:c.o.row.lt=c.o.row.lt:=rfl;have hsl:=c.o.row.lt;clear hC b d t S j hrw;have c5:=p.o.box.cell (i:=5) rfl;have cz:=p.o.box.frozen;have G:af [lb] w6 (w6.setCell (lb,5) (.pointer (some ⟨Bc.cb,0,none⟩))):=aU;have N:=aH (p.o.U3 f.o (.pointer (some ⟨Bc.cb,0,none⟩)));have HT6b:=aH (HT6.o.RJ p.o.box G f.o.out);have HC6b:=aH (HC6.o.RJ p.o.box G f.o.out);have HG6b:=aH (HG6.o.Rr G (by have:=HG6.o.box.differ p.o.box aJ;simp;omega));have HF6b:=aH (HF6.o.set ⟨lb,5,none⟩ (.pointer (some ⟨Bc.cb,0,none⟩)) (.inr (by show w.heap.size<=lb;omega)));have k2:=N.o.box.cell (i:=2) rfl;have kz:=N.o.box.frozen;clear G;go_wp2_with fail;generalize w6.setCell (lb,5) (.pointer (some ⟨Bc.cb,0,none⟩))=W6 at*;clear p HT6 HC6 HF6 HG6 c5 cz;refine(C7 _ _).mono ?_;rintro e w7 ⟨rfl,hD,b⟩;have r:=aH (N.o.Rr f.o b (λz h=>by simp at h));have HT7:=aH (HT6b.o.SF b (fF.nil _));have HC7:=aH (HC6b.o.same b);have HG7:=aH (HG6b.o.Rr b aS);have HF7:=aH (HF6b.o.trans (b.mono aS));have HD7:=aH hD;have hdl:W6.heap.size<=W6.heap.size:=ba _;have hsz6:=HF6b.o.size;clear hD b k2 kz;have c3:=r.o.box.cell (i:=3) rfl;have cz:=r.o.box.frozen;generalize W6.heap.size=db at*;have H:af [lb] w7 (w7.setCell (lb,3) (.pointer (some ⟨db,0,none⟩))):=aU;have O:=aH (r.o.U2 f.o (.pointer (some ⟨db,0,none⟩)));have HT7b:=aH (HT7.o.RJ r.o.box H f.o.out);have L:=aH (HC7.o.RJ r.o.box H f.o.out);have HG7b:=aH (HG7.o.Rr H (by have:=HG7.o.box.differ r.o.box aJ;simp;omega));have HD7b:=aH (HD7.o.Rr H (by have:=aq.differ HD7.o r.o.box aJ;simp;omega));have HF7b:=aH (HF7.o.set ⟨lb,3,none⟩ (.pointer (some ⟨db,0,none⟩)) (.inr (by show w.heap.size<=lb;omega)));go_wp2_with fail;go_ret2;obtain⟨t,S,j⟩:=HBB.o;refine⟨⟨lb,tb,gb,db,w1.heap.size,Bc⟩,rfl,⟨t,S,hlb0,λz h=>?_⟩,{ty:=f.o,box:=?_,Sj:=HT7b.o,gg:=?_,dr:=HD7b.o,co:=L.o,row:=O.o.row,Sg:=λhm=>?_},HF7b.o⟩
  ·rcases kq.1 h with e|h
   ·rw[e];exact .inr (.inr hsz1)
   ·rcases kq.1 h with e|h
    ·rw[e];exact .inr (.inr (by show w.heap.size<=db;omega))
    ·rcases a8.1 h with e|e|e|e|⟨v,hv,e⟩
     ·rw[e];exact .inr (.inr (dv U j.1))
     ·rw[e];exact .inr (.inr (dv U j.2.1))
     ·rw[e];exact .inl t
     ·rw[e];exact .inr (.inl S)
     ·rw[<-e];exact .inr (.inr (dv U (j.2.2 v hv)))
  ·rw[t];exact O.o.box
  ·rw[t];exact HG7b.o
  ·have hm':w1.heap.size∈CZ Bc (xD P Tt g l par bud):=hm;have hrow:=O.o.row;rcases a8.1 hm' with e|e|e|e|⟨v,hv,e⟩
   ·have:=j.1;omega
   ·have:=j.2.1;omega
   ·exact hrow.differ L.o.ar.box aJ e
   ·exact hrow.differ L.o.ar.row aJ e
   ·have:=j.2.2 v hv;omega
def Es:= @ry.1
def EM:= @ry.2.1
def FA:= @ry.2.2
theorem au.SZ{T LT:TypeId}{w w':World}{B:ei}{M:cj}{X:cf}{lk:Nat}{vs:List Value}(h:au T w B M X)(d:aq w lk vs LT)(a:af [lk] w w')(e:LT=233\/LT=119):au T w' B M X:=by
 have c:LT∈BU:=by rcases e with rfl|rfl<;>decide
 have q:∀{b:Nat}{vs:List Value}{U:TypeId},aq w b vs U->U≠LT->b∉[lk]:=λf i hm=>f.differ d i (by simpa using hm);have ht:T≠LT:=by rcases e with rfl|rfl<;>rcases h.ty with rfl|rfl|rfl<;>decide
 exact{ty:=h.ty,box:=h.box.Rr a (q h.box ht),Sj:=h.Sj.RJ d a c,gg:={h.gg with box:=h.gg.box.Rr a (q h.gg.box (n7 c aJ))},dr:=h.dr.Rr a (q h.dr (n7 c aJ)),co:=h.co.RJ d a c,row:=h.row.Rr a (q h.row (n7 c aJ)),Sg:=h.Sg}
theorem Ir(F:aZ w 0 x P)(G:aZ w 0 y Tt)(H:im w ab wb x P)(I:im w ab wb y Tt)(A:ea P Tt)(p:ax w ab wb (AR.fresh 4096))(D:1<=g/\g<=5)(hl:1<=l/\l<=5)(E:1<=par/\par<=32)(C:0<=bud/\bud<=1000):
 Calls prog 77 #[some ab,(1:Int),.agg #[x,y],.agg #[g,l,par,bud]] w λe w'=>∃(B:ei)(J:Nat),e= .returned (.tuple #[some J,(0:Int)])/\(B.co.ab=ab/\B.co.wb=wb/\∀z∈dR B (xD P Tt g l par bud),z=ab\/z=wb\/w.heap.size<=z)/\lx (En (pz P Tt g l par bud) B) 1 J w' (qK P Tt g l par bud)/\af [ab,wb] w w':=by
 have a:af [] w (((w.alloc (.cells #[x,y] 24)).alloc (.cells #[g,l,par,bud] 42)).alloc (.cells #[(1:Int),.nilIface] 233)):=((aF.alloc _).alloc _).alloc _;have M:=aH (Es (F.Rr a aS) (G.Rr a aS) (H.next a aS) (I.next a aS) A (p.Rr a aS aS) D hl E C);have r:=aq.new ((w.alloc (.cells #[x,y] 24)).alloc (.cells #[g,l,par,bud] 42)) #[(1:Int),.nilIface] 233;rw[bP,bP] at r;have s:=aH r;have o:=aH (p.Rr a aS aS).Uo;have m:=aH a;have j:=a.size;obtain⟨a1,t,rfl, -, -⟩:=F;obtain⟨a2,u,rfl, -, -⟩:=G;clear p a r H I A D hl E C;go_enter func77,ntmps77;go_wp2_with fail;refine M.o.mono ?_;rintro e w1 ⟨B,rfl,⟨c,d, -,f⟩,v,q⟩;have b:=s.o.Rr q (o.o.not s.o aJ);have c1:=b.cell (i:=1) rfl;have O:=b.frozen;have h:=aH b;have K:=aH v;have L:=aH ((m.o.mono (S':=[ab,wb]) aS).trans q);have k:=aH (ae c (ae d f));clear b v q c d f;go_wp2;go_ret2;obtain⟨c,d,f⟩:=k.o;refine⟨B,w.heap.size+1+1,rfl,⟨c,d,λz N=>?_⟩,⟨h.o.set 1 _,K.o.SZ h.o aU (.inl rfl)⟩,L.o.set _ _ (.inr (by show w.heap.size<=w.heap.size+1+1;omega))⟩;rcases f z N with e|e|e
 ·exact .inl e
 ·exact .inr (.inl e)
 ·exact .inr (.inr (dv j e))
theorem H7(H:ea P Tt)(O:1<=g/\g<=5)(hl:1<=l/\l<=5)(Q:1<=par/\par<=32)(N:0<=bud/\bud<=1000):iQ P Tt 11 g l par bud (py 0 (pz P Tt g l par bud)) (qK P Tt g l par bud) where
 n:=rfl
 Tb:=by omega
 sh:=rfl
 S9:=λw ab wb lk x y R S p D U V=>by
  have n1:lk≠ab:=D.differ p.box aJ;have n2:lk≠wb:=D.differ p.row aJ;have b:=aH (((af.refl [] w).alloc (.cells #[x,y] 24)).alloc (.cells #[g,l,par,bud] 42));have Y:=aH (λ(W:World) (A:af [] ((w.alloc (.cells #[x,y] 24)).alloc (.cells #[g,l,par,bud] 42)) W)=>Ir (w:=W) (R.Rr (b.o.trans A) aS) (S.Rr (b.o.trans A) aS) (U.next (b.o.trans A) aS) (V.next (b.o.trans A) aS) H (p.Rr (b.o.trans A) aS aS) O hl Q N);have v:=(aq.new w #[x,y] 24).alloc (.cells #[g,l,par,bud] 42);have m:=aq.new (w.alloc (.cells #[x,y] 24)) #[g,l,par,bud] 42;rw[bP] at m;have G:=aH (D.Rr b.o aS);have Z:=p.box.lt;have hwb:=p.row.lt;have c0:=G.o.cell (i:=0) rfl;have a:=aH (ae v m);have s:=aH (show(pz P Tt g l par bud).n<=32 from H.size.2.2.2);have I:=b.o.size;obtain⟨a1,t,rfl, -, -⟩:=R;obtain⟨a2,u,rfl, -, -⟩:=S;clear p D v m H O hl Q N U V;generalize C:(w.alloc (.cells #[.slice a1 P.length t,.slice a2 Tt.length u] 24)).alloc (.cells #[g,l,par,bud] 42)=w0 at*;have J:=aW [ab,wb] w0;have z0:=zF (L:=[ab,wb]) G.o aQ 0 rfl;have t0:=zF (L:=[ab,wb]) a.o.1 aQ 0 rfl;have t1:=zF (L:=[ab,wb]) a.o.1 aQ 1 rfl;have p0:=zF (L:=[ab,wb]) a.o.2 aQ 0 rfl;have p1:=zF (L:=[ab,wb]) a.o.2 aQ 1 rfl;have p2:=zF (L:=[ab,wb]) a.o.2 aQ 2 rfl;have p3:=zF (L:=[ab,wb]) a.o.2 aQ 3 rfl;go_enter func57,ntmps57;go_wp2_with fail;try rw[C]
  clear C;refine aG (λwx=>af [ab,wb] w0 wx) ?_;refine eQ (fuel:=6) [0,1,2,3,4,5,6,7,8] rfl aF.Rs ?_;refine aL 9 (fuel:=5) rfl ?_;go_wp2_with fail;refine(Y.o _ aF.Rs).mono ?_;rintro e w1 ⟨B,rb,rfl,⟨d,o,f⟩,M,q⟩;have q:=((af.refl [ab,wb] w0).Rs).trans q;have r:=aH q;go_wp2_with fail;refine ah ⟨r.o,?_⟩;refine eQ (fuel:=0) [10,11,12,13,14] rfl r.o ?_;refine aN ?_;clear J z0 t0 t1 p0 p1 p2 p3;have c:=G.o.Rr q aQ;have l0:=c.cell (i:=2) rfl;have lz:=c.frozen;have j:=aH c;have F:=aH M;have X:=aH ((b.o.mono (S':=[ab,wb]) aS).trans q);have E:=aH (ae d (ae o f));clear q M c d o f;go_wp2;go_ret;obtain⟨d,o,f⟩:=E.o;refine⟨(En (pz P Tt g l par bud) B).both 1 rb 11,(Eo s.o).Tk aO 11 aO,⟨d,rfl⟩,rfl,⟨j.o.set 2 _,⟨F.o.box.Rr ((af.refl [lk] _).set _ _ (.inl aS)) (by have:=F.o.box.differ j.o aJ;simp;omega),au.SZ F.o.at_ j.o aU (.inr rfl)⟩⟩,λz hz=>?_,(X.o.mono (S':=[ab,wb,lk]) aS).set _ _ (.inl aS)⟩;rcases f z hz with e|e|e
  ·exact .inl e
  ·exact .inr (.inl e)
  ·exact .inr (.inr (dv I e))
theorem D8(a:ea P Tt)(c:1<=g/\g<=5)(hl:1<=l/\l<=5)(d:1<=par/\par<=32)(b:0<=bud/\bud<=1000):jO P Tt (.agg #[(11:Int),g,l,par,bud]) (py 0 (pz P Tt g l par bud)) (qK P Tt g l par bud) where
 ok:=LO _ _
 i0:=E0
 S9:=λ_ _ _ e f=>gJ e f a (H7 a c hl d b)
theorem IB(F:aZ w 0 x P)(G:aZ w 0 y Tt)(H:im w ab wb x P)(I:im w ab wb y Tt)(A:ea P Tt)(p:ax w ab wb (AR.fresh 4096))(D:1<=g/\g<=5)(hl:1<=l/\l<=5)(E:1<=par/\par<=32)(C:0<=bud/\bud<=1000):
 Calls prog 77 #[some ab,(2:Int),.agg #[x,y],.agg #[g,l,par,bud]] w λe w'=>∃(B:ei)(J:Nat),e= .returned (.tuple #[some J,(0:Int)])/\(B.co.ab=ab/\B.co.wb=wb/\∀z∈dR B (xD P Tt g l par bud),z=ab\/z=wb\/w.heap.size<=z)/\lx (EI (pz P Tt g l par bud) B) 2 J w' (qK P Tt g l par bud)/\af [ab,wb] w w':=by
 have a:af [] w (((w.alloc (.cells #[x,y] 24)).alloc (.cells #[g,l,par,bud] 42)).alloc (.cells #[(2:Int),.nilIface] 233)):=((aF.alloc _).alloc _).alloc _;have M:=aH (EM (F.Rr a aS) (G.Rr a aS) (H.next a aS) (I.next a aS) A (p.Rr a aS aS) D hl E C);have r:=aq.new ((w.alloc (.cells #[x,y] 24)).alloc (.cells #[g,l,par,bud] 42)) #[(2:Int),.nilIface] 233;rw[bP,bP] at r;have s:=aH r;have o:=aH (p.Rr a aS aS).Uo;have m:=aH a;have j:=a.size;obtain⟨a1,t,rfl, -, -⟩:=F;obtain⟨a2,u,rfl, -, -⟩:=G;clear p a r H I A D hl E C;go_enter func77,ntmps77;go_wp2_with fail;refine M.o.mono ?_;rintro e w1 ⟨B,rfl,⟨c,d, -,f⟩,v,q⟩;have b:=s.o.Rr q (o.o.not s.o aJ);have c1:=b.cell (i:=1) rfl;have O:=b.frozen;have h:=aH b;have K:=aH v;have L:=aH ((m.o.mono (S':=[ab,wb]) aS).trans q);have k:=aH (ae c (ae d f));clear b v q c d f;go_wp2;go_ret2;obtain⟨c,d,f⟩:=k.o;refine⟨B,w.heap.size+1+1,rfl,⟨c,d,λz N=>?_⟩,⟨h.o.set 1 _,K.o.SZ h.o aU (.inl rfl)⟩,L.o.set _ _ (.inr (by show w.heap.size<=w.heap.size+1+1;omega))⟩;rcases f z N with e|e|e
 ·exact .inl e
 ·exact .inr (.inl e)
 ·exact .inr (.inr (dv j e))
theorem H8(H:ea P Tt)(O:1<=g/\g<=5)(hl:1<=l/\l<=5)(Q:1<=par/\par<=32)(N:0<=bud/\bud<=1000):iQ P Tt 12 g l par bud (py 1 (pz P Tt g l par bud)) (qK P Tt g l par bud) where
 n:=rfl
 Tb:=by omega
 sh:=rfl
 S9:=λw ab wb lk x y R S p D U V=>by
  have n1:lk≠ab:=D.differ p.box aJ;have n2:lk≠wb:=D.differ p.row aJ;have b:=aH (((af.refl [] w).alloc (.cells #[x,y] 24)).alloc (.cells #[g,l,par,bud] 42));have Y:=aH (λ(W:World) (A:af [] ((w.alloc (.cells #[x,y] 24)).alloc (.cells #[g,l,par,bud] 42)) W)=>IB (w:=W) (R.Rr (b.o.trans A) aS) (S.Rr (b.o.trans A) aS) (U.next (b.o.trans A) aS) (V.next (b.o.trans A) aS) H (p.Rr (b.o.trans A) aS aS) O hl Q N);have v:=(aq.new w #[x,y] 24).alloc (.cells #[g,l,par,bud] 42);have m:=aq.new (w.alloc (.cells #[x,y] 24)) #[g,l,par,bud] 42;rw[bP] at m;have G:=aH (D.Rr b.o aS);have Z:=p.box.lt;have hwb:=p.row.lt;have c0:=G.o.cell (i:=0) rfl;have a:=aH (ae v m);have s:=aH (show(pz P Tt g l par bud).n<=32 from H.size.2.2.2);have I:=b.o.size;obtain⟨a1,t,rfl, -, -⟩:=R;obtain⟨a2,u,rfl, -, -⟩:=S;clear p D v m H O hl Q N U V;generalize C:(w.alloc (.cells #[.slice a1 P.length t,.slice a2 Tt.length u] 24)).alloc (.cells #[g,l,par,bud] 42)=w0 at*;have J:=aW [ab,wb] w0;have z0:=zF (L:=[ab,wb]) G.o aQ 0 rfl;have t0:=zF (L:=[ab,wb]) a.o.1 aQ 0 rfl;have t1:=zF (L:=[ab,wb]) a.o.1 aQ 1 rfl;have p0:=zF (L:=[ab,wb]) a.o.2 aQ 0 rfl;have p1:=zF (L:=[ab,wb]) a.o.2 aQ 1 rfl;have p2:=zF (L:=[ab,wb]) a.o.2 aQ 2 rfl;have p3:=zF (L:=[ab,wb]) a.o.2 aQ 3 rfl;go_enter func57,ntmps57;go_wp2_with fail;try rw[C]
  clear C;refine aG (λwx=>af [ab,wb] w0 wx) ?_;refine eQ (fuel:=6) [0,1,2,3,4,5,6,7,8] rfl aF.Rs ?_;refine aL 9 (fuel:=5) rfl ?_;go_wp2_with fail;refine(Y.o _ aF.Rs).mono ?_;rintro e w1 ⟨B,rb,rfl,⟨d,o,f⟩,M,q⟩;have q:=((af.refl [ab,wb] w0).Rs).trans q;have r:=aH q;go_wp2_with fail;refine ah ⟨r.o,?_⟩;refine eQ (fuel:=0) [10,11,12,13,14] rfl r.o ?_;refine aN ?_;clear J z0 t0 t1 p0 p1 p2 p3;have c:=G.o.Rr q aQ;have l0:=c.cell (i:=2) rfl;have lz:=c.frozen;have j:=aH c;have F:=aH M;have X:=aH ((b.o.mono (S':=[ab,wb]) aS).trans q);have E:=aH (ae d (ae o f));clear q M c d o f;go_wp2;go_ret;obtain⟨d,o,f⟩:=E.o;refine⟨(EI (pz P Tt g l par bud) B).both 2 rb 12,(EJ s.o).Tk aO 12 aO,⟨d,rfl⟩,rfl,⟨j.o.set 2 _,⟨F.o.box.Rr ((af.refl [lk] _).set _ _ (.inl aS)) (by have:=F.o.box.differ j.o aJ;simp;omega),au.SZ F.o.at_ j.o aU (.inr rfl)⟩⟩,λz hz=>?_,(X.o.mono (S':=[ab,wb,lk]) aS).set _ _ (.inl aS)⟩;rcases f z hz with e|e|e
  ·exact .inl e
  ·exact .inr (.inl e)
  ·exact .inr (.inr (dv I e))
theorem D9(a:ea P Tt)(c:1<=g/\g<=5)(hl:1<=l/\l<=5)(d:1<=par/\par<=32)(b:0<=bud/\bud<=1000):jO P Tt (.agg #[(12:Int),g,l,par,bud]) (py 1 (pz P Tt g l par bud)) (qK P Tt g l par bud) where
 ok:=LO _ _
 i0:=E0
 S9:=λ_ _ _ e f=>gJ e f a (H8 a c hl d b)
theorem IX(F:aZ w 0 x P)(G:aZ w 0 y Tt)(H:im w ab wb x P)(I:im w ab wb y Tt)(A:ea P Tt)(p:ax w ab wb (AR.fresh 4096))(D:1<=g/\g<=5)(hl:1<=l/\l<=5)(E:1<=par/\par<=32)(C:0<=bud/\bud<=1000):
 Calls prog 77 #[some ab,(3:Int),.agg #[x,y],.agg #[g,l,par,bud]] w λe w'=>∃(B:ei)(J:Nat),e= .returned (.tuple #[some J,(0:Int)])/\(B.co.ab=ab/\B.co.wb=wb/\∀z∈dR B (xD P Tt g l par bud),z=ab\/z=wb\/w.heap.size<=z)/\lx (Fw (pz P Tt g l par bud) B) 3 J w' (qK P Tt g l par bud)/\af [ab,wb] w w':=by
 have a:af [] w (((w.alloc (.cells #[x,y] 24)).alloc (.cells #[g,l,par,bud] 42)).alloc (.cells #[(3:Int),.nilIface] 233)):=((aF.alloc _).alloc _).alloc _;have M:=aH (FA (F.Rr a aS) (G.Rr a aS) (H.next a aS) (I.next a aS) A (p.Rr a aS aS) D hl E C);have r:=aq.new ((w.alloc (.cells #[x,y] 24)).alloc (.cells #[g,l,par,bud] 42)) #[(3:Int),.nilIface] 233;rw[bP,bP] at r;have s:=aH r;have o:=aH (p.Rr a aS aS).Uo;have m:=aH a;have j:=a.size;obtain⟨a1,t,rfl, -, -⟩:=F;obtain⟨a2,u,rfl, -, -⟩:=G;clear p a r H I A D hl E C;go_enter func77,ntmps77;go_wp2_with fail;refine M.o.mono ?_;rintro e w1 ⟨B,rfl,⟨c,d, -,f⟩,v,q⟩;have b:=s.o.Rr q (o.o.not s.o aJ);have c1:=b.cell (i:=1) rfl;have O:=b.frozen;have h:=aH b;have K:=aH v;have L:=aH ((m.o.mono (S':=[ab,wb]) aS).trans q);have k:=aH (ae c (ae d f));clear b v q c d f;go_wp2;go_ret2;obtain⟨c,d,f⟩:=k.o;refine⟨B,w.heap.size+1+1,rfl,⟨c,d,λz N=>?_⟩,⟨h.o.set 1 _,K.o.SZ h.o aU (.inl rfl)⟩,L.o.set _ _ (.inr (by show w.heap.size<=w.heap.size+1+1;omega))⟩;rcases f z N with e|e|e
 ·exact .inl e
 ·exact .inr (.inl e)
 ·exact .inr (.inr (dv j e))
theorem H9(H:ea P Tt)(O:1<=g/\g<=5)(hl:1<=l/\l<=5)(Q:1<=par/\par<=32)(N:0<=bud/\bud<=1000):iQ P Tt 13 g l par bud (py 2 (pz P Tt g l par bud)) (qK P Tt g l par bud) where
 n:=rfl
 Tb:=by omega
 sh:=rfl
 S9:=λw ab wb lk x y R S p D U V=>by
  have n1:lk≠ab:=D.differ p.box aJ;have n2:lk≠wb:=D.differ p.row aJ;have b:=aH (((af.refl [] w).alloc (.cells #[x,y] 24)).alloc (.cells #[g,l,par,bud] 42));have Y:=aH (λ(W:World) (A:af [] ((w.alloc (.cells #[x,y] 24)).alloc (.cells #[g,l,par,bud] 42)) W)=>IX (w:=W) (R.Rr (b.o.trans A) aS) (S.Rr (b.o.trans A) aS) (U.next (b.o.trans A) aS) (V.next (b.o.trans A) aS) H (p.Rr (b.o.trans A) aS aS) O hl Q N);have v:=(aq.new w #[x,y] 24).alloc (.cells #[g,l,par,bud] 42);have m:=aq.new (w.alloc (.cells #[x,y] 24)) #[g,l,par,bud] 42;rw[bP] at m;have G:=aH (D.Rr b.o aS);have Z:=p.box.lt;have hwb:=p.row.lt;have c0:=G.o.cell (i:=0) rfl;have a:=aH (ae v m);have s:=aH (show(pz P Tt g l par bud).n<=32 from H.size.2.2.2);have I:=b.o.size;obtain⟨a1,t,rfl, -, -⟩:=R;obtain⟨a2,u,rfl, -, -⟩:=S;clear p D v m H O hl Q N U V;generalize C:(w.alloc (.cells #[.slice a1 P.length t,.slice a2 Tt.length u] 24)).alloc (.cells #[g,l,par,bud] 42)=w0 at*;have J:=aW [ab,wb] w0;have z0:=zF (L:=[ab,wb]) G.o aQ 0 rfl;have t0:=zF (L:=[ab,wb]) a.o.1 aQ 0 rfl;have t1:=zF (L:=[ab,wb]) a.o.1 aQ 1 rfl;have p0:=zF (L:=[ab,wb]) a.o.2 aQ 0 rfl;have p1:=zF (L:=[ab,wb]) a.o.2 aQ 1 rfl;have p2:=zF (L:=[ab,wb]) a.o.2 aQ 2 rfl;have p3:=zF (L:=[ab,wb]) a.o.2 aQ 3 rfl;go_enter func57,ntmps57;go_wp2_with fail;try rw[C]
  clear C;refine aG (λwx=>af [ab,wb] w0 wx) ?_;refine eQ (fuel:=6) [0,1,2,3,4,5,6,7,8] rfl aF.Rs ?_;refine aL 9 (fuel:=5) rfl ?_;go_wp2_with fail;refine(Y.o _ aF.Rs).mono ?_;rintro e w1 ⟨B,rb,rfl,⟨d,o,f⟩,M,q⟩;have q:=((af.refl [ab,wb] w0).Rs).trans q;have r:=aH q;go_wp2_with fail;refine ah ⟨r.o,?_⟩;refine eQ (fuel:=0) [10,11,12,13,14] rfl r.o ?_;refine aN ?_;clear J z0 t0 t1 p0 p1 p2 p3;have c:=G.o.Rr q aQ;have l0:=c.cell (i:=2) rfl;have lz:=c.frozen;have j:=aH c;have F:=aH M;have X:=aH ((b.o.mono (S':=[ab,wb]) aS).trans q);have E:=aH (ae d (ae o f));clear q M c d o f;go_wp2;go_ret;obtain⟨d,o,f⟩:=E.o;refine⟨(Fw (pz P Tt g l par bud) B).both 3 rb 13,(Fx s.o).Tk aO 13 aO,⟨d,rfl⟩,rfl,⟨j.o.set 2 _,⟨F.o.box.Rr ((af.refl [lk] _).set _ _ (.inl aS)) (by have:=F.o.box.differ j.o aJ;simp;omega),au.SZ F.o.at_ j.o aU (.inr rfl)⟩⟩,λz hz=>?_,(X.o.mono (S':=[ab,wb,lk]) aS).set _ _ (.inl aS)⟩;rcases f z hz with e|e|e
  ·exact .inl e
  ·exact .inr (.inl e)
  ·exact .inr (.inr (dv I e))
theorem Ea(a:ea P Tt)(c:1<=g/\g<=5)(hl:1<=l/\l<=5)(d:1<=par/\par<=32)(b:0<=bud/\bud<=1000):jO P Tt (.agg #[(13:Int),g,l,par,bud]) (py 2 (pz P Tt g l par bud)) (qK P Tt g l par bud) where
 ok:=LO _ _
 i0:=E0
 S9:=λ_ _ _ e f=>gJ e f a (H9 a c hl d b)
end
def mC(c:Bool)(a b:Int):Int:=if c then a else b
def tf(M:eh)(X:dq)(j:Nat):dq×Int:=(⟨X.A.store (bT M ((j:Int)+1)) 0,X.S,X.K⟩,2)
def tg(M:eh)(X:dq)(j:Nat):dq×Int:=(⟨X.A.store (cB M ((j:Int)+1)) 0,X.S,X.K⟩,3)
def rc(M:eh)(X:dq)(j:Nat):dq×Int:=(⟨X.A.swap M.tail ((j:Int)+1),aa X.S j 1 (X.A.get M.tail),X.K⟩,mC (X.A.get M.tail==0) 6 4)
def tj(M:eh)(X:dq)(j:Nat):dq×Int:=(⟨X.A.store (bT M (X.S j 1)) ((j:Int)+1),X.S,X.K⟩,5)
def rf(M:eh)(X:dq)(j:Nat):dq×Int:=(⟨X.A.load (cB M ((j:Int)+1)),aa X.S j 1 (X.A.get (cB M ((j:Int)+1))),X.K⟩,mC (X.A.get (cB M ((j:Int)+1))!=0) 10 5)
def tm(M:eh)(X:dq)(j:Nat):dq×Int:=(⟨X.A.store (cB M ((j:Int)+1)) (-1),X.S,X.K⟩,10)
def oL(M:eh)(X:dq)(j:Nat):dq×Int:=(⟨X.A.load (cB M ((j:Int)+1)),aa X.S j 2 (X.A.get (cB M ((j:Int)+1))),X.K⟩,12)
def lL(M:eh)(X:dq)(j:Nat):dq×Int:=(⟨X.A.load (bT M ((j:Int)+1)),aa X.S j 1 (X.A.get (bT M ((j:Int)+1))),X.K⟩,mC (X.A.get (bT M ((j:Int)+1))!=0) 17 (mC (decide (0<X.S j 2)) 14 13))
def m6(M:eh)(X:dq)(j:Nat):dq×Int:=(⟨X.A.Sd M.tail ((j:Int)+1) 0,X.S,X.K⟩,mC (X.A.RE M.tail ((j:Int)+1)) 0 16)
def oM(M:eh)(X:dq)(j:Nat):dq×Int:=(⟨X.A.load (dS M (X.S j 2)),aa X.S j 3 (X.A.get (dS M (X.S j 2))),X.K⟩,15)
def m7(M:eh)(X:dq)(j:Nat):dq×Int:=(⟨X.A.Sd M.tail ((j:Int)+1) (X.S j 3),X.S,X.K⟩,mC (X.A.RE M.tail ((j:Int)+1)) 28 16)
def m8(M:eh)(X:dq)(j:Nat):dq×Int:=(⟨X.A.load (bT M ((j:Int)+1)),aa X.S j 1 (X.A.get (bT M ((j:Int)+1))),X.K⟩,mC (X.A.get (bT M ((j:Int)+1))!=0) 17 16)
def kD(M:eh)(X:dq)(j:Nat):dq×Int:=if M.bud<=(X.A.get (ao M)) then(⟨X.A.load (ao M),aa X.S j 3 (X.A.get (ao M)),X.K⟩,(mC (decide (0<X.S j 2)) 25 29)) else(⟨X.A.load (ao M),aa X.S j 3 (X.A.get (ao M)),(h7 M.sc X.K (X.S j 1) (M.N[j]?.getD 0))⟩,if(h7 M.sc X.K (X.S j 1) (M.N[j]?.getD 0)).Sk=true then 18 else 23)
def m9(M:eh)(X:dq)(j:Nat):dq×Int:=(⟨j9 M.sc X.A X.K,X.S,gD M.sc X.A X.K⟩,if mb M.sc X.A X.K=true then(if(gD M.sc X.A X.K).fo=0 then(mC (decide (0<X.S j 2)) 25 29) else 19) else 18)
def na(M:eh)(X:dq)(j:Nat):dq×Int:=if 0<X.S j 2 then(⟨X.A.store (bT M X.K.last) 0,X.S,X.K⟩,20) else(⟨X.A.store (bT M X.K.last) 0,aa X.S j 2 (X.S j 1),X.K⟩,22)
def oN(M:eh)(X:dq)(j:Nat):dq×Int:=(⟨X.A.load (dS M (X.S j 2)),aa X.S j 3 (X.A.get (dS M (X.S j 2))),X.K⟩,21)
def oO(M:eh)(X:dq)(j:Nat):dq×Int:=(⟨X.A.store (bT M (X.S j 3)) (X.S j 1),X.S,X.K⟩,22)
def oP(M:eh)(X:dq)(j:Nat):dq×Int:=(⟨X.A.store (dS M (X.S j 2)) X.K.last,aa X.S j 1 X.K.fo,X.K⟩,23)
def oQ(M:eh)(X:dq)(j:Nat):dq×Int:=(⟨X.A.add (ao M) 1,X.S,X.K⟩,24)
def oR(M:eh)(X:dq)(j:Nat):dq×Int:=(⟨X.A.store (cB M (X.S j 1)) (X.S j 2),X.S,X.K⟩,0)
def oS(M:eh)(X:dq)(j:Nat):dq×Int:=(⟨X.A.load (dS M (X.S j 2)),aa X.S j 3 (X.A.get (dS M (X.S j 2))),X.K⟩,26)
def oT(M:eh)(X:dq)(j:Nat):dq×Int:=(⟨X.A.store (bT M (X.S j 3)) (X.S j 1),X.S,X.K⟩,27)
def oU(M:eh)(X:dq)(j:Nat):dq×Int:=(⟨X.A.store (ao M) 0,X.S,X.K⟩,28)
def oV(M:eh)(X:dq)(j:Nat):dq×Int:=(⟨X.A.store (cB M (X.S j 2)) (-1),X.S,X.K⟩,0)
def oW(M:eh)(X:dq)(j:Nat):dq×Int:=(⟨X.A.store (ao M) 0,X.S,X.K⟩,30)
def oX(M:eh)(X:dq)(j:Nat):dq×Int:=(⟨X.A.store (cB M (X.S j 1)) (-1),X.S,X.K⟩,0)
def bq(M:eh)(X:dq)(j:Nat):dq×Int:=
 if X.S j 0=1 then tf M X j else
 if X.S j 0=2 then tg M X j else
 if X.S j 0=3 then rc M X j else
 if X.S j 0=4 then tj M X j else
 if X.S j 0=5 then rf M X j else
 if X.S j 0=6 then tm M X j else
 if X.S j 0=11 then oL M X j else
 if X.S j 0=12 then lL M X j else
 if X.S j 0=13 then m6 M X j else
 if X.S j 0=14 then oM M X j else
 if X.S j 0=15 then m7 M X j else
 if X.S j 0=16 then m8 M X j else
 if X.S j 0=17 then kD M X j else
 if X.S j 0=18 then m9 M X j else
 if X.S j 0=19 then na M X j else
 if X.S j 0=20 then oN M X j else
 if X.S j 0=21 then oO M X j else
 if X.S j 0=22 then oP M X j else
 if X.S j 0=23 then oQ M X j else
 if X.S j 0=24 then oR M X j else
 if X.S j 0=25 then oS M X j else
 if X.S j 0=26 then oT M X j else
 if X.S j 0=27 then oU M X j else
 if X.S j 0=28 then oV M X j else
 if X.S j 0=29 then oW M X j else
 if X.S j 0=30 then oX M X j else
 (X,X.S j 0)
def cq(pc:Int):Prop:=(0<=pc/\pc<=6)\/(10<=pc/\pc<=30)
def bh(X:dq)(j:Nat):Bool:= !(X.S j 0==0)&& !(X.S j 0==10)
def js(M:eh)(X:dq)(j:Nat):Bool:=bh X j&&((bq M X j).2==0||(bq M X j).2==10)
def an(M:eh)(X:dq)(j:Nat):dq:=if bh X j then{(bq M X j).1 with S:=aa (bq M X j).1.S j 0 (bq M X j).2} else X
theorem xV(c:Bool)(a b:Int)(w:World):Calls prog 294 #[c,a,b] w λe w'=>e= .returned (mC c a b:Int)/\w=w':=by
 cases c<;>
 ·go_enter func294,ntmps294;go_wp2;go_ret;exact⟨rfl,rfl⟩
section
variable{w0 w w':World}{B:p5}{M:eh}{X:dq}{cap j:Nat}
def cW(w0:World)(B:p5)(M:eh)(cap:Nat)(w:World)(X:dq):Prop:=cS w B M X/\aq w B.lb [some B.ab,M.tail,M.bud,.slice (some ⟨B.gb,0,none⟩) M.n cap,some B.sc.kb,.slice (some ⟨B.sb,0,none⟩) M.n M.n] 223/\af (ku B) w0 w
theorem cW.to(h:cW w0 B M cap w X){Z:List Nat}{X':dq}(a:af Z w w')(b:∀z∈Z,z∈ku B)(c:cS w' B M X'):cW w0 B M cap w' X':=⟨c,h.2.1.Rr a λhm=>(h.1.free.not h.2.1) (b _ hm),h.2.2.trans (a.mono b)⟩
theorem cP(h:cW w0 B M cap w X)(j:Nat){t:Nat}(ht:t<4)(v:Int):cW w0 B M cap (w.setCell (B.sb,j*4+t) (.int .i64 v)) {X with S:=aa X.S j t v}:=h.to (Z:=[B.sb]) aU (by simp[ku]) (h.1.put j ht v)
theorem cI(h:cW w0 B M cap w X)(hj:j<M.n):Hy (∀{w X},cW w0 B M cap w X->w.cell? (B.lb,0)=some (.pointer (some ⟨B.ab,0,none⟩))/\w.cell? (B.lb,1)=some (.int .i64 M.tail)/\w.cell? (B.lb,4)=some (.pointer (some ⟨B.sc.kb,0,none⟩))/\w.cell? (B.lb,5)=some (.slice (some ⟨B.sb,0,none⟩) M.n M.n)/\(∀i,w.frozen? ⟨B.sb,i,none⟩=false)/\M.n<=32/\(j:Int)<M.n/\¬M.n<=j/\w.cell? (B.sb,j*4)=some (.int .i64 (X.S j 0))/\w.cell? (B.sb,j*4+1)=some (.int .i64 (X.S j 1))/\w.cell? (B.sb,j*4+2)=some (.int .i64 (X.S j 2))/\w.cell? (B.sb,j*4+3)=some (.int .i64 (X.S j 3)))/\
 Hy (∀{w X},cW w0 B M cap w X->cW w0 B M cap w.drew X)/\Hy (∀{w X},cW w0 B M cap w X->∀o,cW w0 B M cap (w.alloc o) X)/\Hy (xF (cW w0 B M cap) B.ab B.wb dq.A (λX A=>{X with A:=A}))/\
 Hy (∀{w X},cW w0 B M cap w X->∀v,cW w0 B M cap (w.setCell (B.sb,j*4) (.int .i64 v)) {X with S:=aa X.S j 0 v})/\Hy (∀{w X},cW w0 B M cap w X->∀v,cW w0 B M cap (w.setCell (B.sb,j*4+1) (.int .i64 v)) {X with S:=aa X.S j 1 v})/\Hy (∀{w X},cW w0 B M cap w X->∀v,cW w0 B M cap (w.setCell (B.sb,j*4+2) (.int .i64 v)) {X with S:=aa X.S j 2 v})/\Hy (∀{w X},cW w0 B M cap w X->∀v,cW w0 B M cap (w.setCell (B.sb,j*4+3) (.int .i64 v)) {X with S:=aa X.S j 3 v})/\
 Hy (∀{t}{w:World}{X},SD (cW w0 B M cap) (fR (λX b=>X.S j b) t X) w->w.cell? (B.lb,0)=some (.pointer (some ⟨B.ab,0,none⟩))/\w.cell? (B.lb,1)=some (.int .i64 M.tail)/\w.cell? (B.lb,4)=some (.pointer (some ⟨B.sc.kb,0,none⟩))/\w.cell? (B.lb,5)=some (.slice (some ⟨B.sb,0,none⟩) M.n M.n)/\(t≠99->(0≠t->w.cell? (B.sb,j*4)=some (.int .i64 (X.S j 0)))/\(1≠t->w.cell? (B.sb,j*4+1)=some (.int .i64 (X.S j 1)))/\(2≠t->w.cell? (B.sb,j*4+2)=some (.int .i64 (X.S j 2)))/\(3≠t->w.cell? (B.sb,j*4+3)=some (.int .i64 (X.S j 3)))))/\
 Hy (∀{x y:dq}{b},y.S=x.S->y.S j b=x.S j b)/\Hy (∀{t b v}{x y:dq},y.S=aa x.S j t v->b≠t->y.S j b=x.S j b):=by
 have cs:∀{w X},cW w0 B M cap w X->∀t,t<4->w.cell? ⟨B.sb,j*4+t,none⟩=some (.int .i64 (X.S j t)):=λh t ht=>h.1.row.cell (a9 _ _ hj ht);refine⟨λh=>⟨h.2.1.cell (i:=0) rfl,h.2.1.cell (i:=1) rfl,h.2.1.cell (i:=4) rfl,h.2.1.cell (i:=5) rfl,h.1.row.frozen,h.1.Ry,by omega,by omega,cs h 0 aO,cs h 1 aO,cs h 2 aO,cs h 3 aO⟩,λh=>h.to (af.refl [] _).Rs aS (h.1.same (af.refl [] _).Rs),λh o=>h.to ((af.refl [] _).alloc o) aS (h.1.same ((af.refl [] _).alloc o)),⟨λh=>h.1.ar,λh c d=>h.to c (by simp[ku]) (h.1.R1 c d)⟩,λh=>cP h j (t:=0) aO,λh=>cP h j aO,λh=>cP h j aO,λh=>cP h j aO,λ{t w X} ⟨x,a,e⟩=>⟨a.2.1.cell (i:=0) rfl,a.2.1.cell (i:=1) rfl,a.2.1.cell (i:=4) rfl,a.2.1.cell (i:=5) rfl,λht=>?_⟩,λe=>by rw[e],λe h=>by rw[e];simp[dK,h]⟩;have f:∀b,b<4->b≠t->w.cell? ⟨B.sb,j*4+b,none⟩=some (.int .i64 (X.S j b)):=λb g h=>(cs a b g).trans (by rw[show x.S j b=X.S j b from e.resolve_left ht b h]);exact⟨f 0 aO,f 1 aO,f 2 aO,f 3 aO⟩
theorem cJ(h:cW w0 B M cap w X):Hy (∀{X}(x:Int),Ct (cW w0 B M cap) 96 #[some B.lb,x] X (.int .i64 (bT M x)) X)/\Hy (∀{X}(x:Int),Ct (cW w0 B M cap) 293 #[some B.lb,x] X (.int .i64 (cB M x)) X)/\Hy (∀{X}(x:Int),Ct (cW w0 B M cap) 295 #[some B.lb,x] X (.int .i64 (dS M x)) X)/\
 Hy (∀{X},Ct (cW w0 B M cap) 296 #[some B.lb] X (.int .i64 (ao M)) X)/\Hy (∀{X},Ct (cW w0 B M cap) 287 #[some B.lb] X (.int .i64 M.n) X)/\Hy (∀{X}(c:Bool)(a b:Int),Ct (cW w0 B M cap) 294 #[c,a,b] X (.int .i64 (mC c a b)) X)/\
 Hy (∀{X},Ct (cW w0 B M cap) 300 #[some B.sc.kb] X (.int .i64 X.K.last) X)/\Hy (∀{X},Ct (cW w0 B M cap) 299 #[some B.sc.kb] X (.int .i64 X.K.fo) X):=by
 refine⟨λx w h=>(J1 h.1 x).mono ?_,λx w h=>(J2 h.1 x).mono ?_,λx w h=>(J0 h.1 x).mono ?_,λw h=>(qv h.1).mono ?_,λw h=>(tn h.1).mono ?_,λc a b w h=>(xV c a b w).mono ?_,λw h=>(LU h.1.sc).mono ?_,λw h=>(qL h.1.sc).mono ?_⟩;all_goals
  rintro e w' ⟨rfl,rfl⟩;exact⟨rfl,h⟩
theorem nM{p:Prop}(t:Nat)(h:Tg t->p:=by
 intro HT w HS;obtain⟨CK,DR,DA,HA,Pa,Pb,Pc,Pd,CZ,RA,RP⟩:=cI HS hj;obtain⟨K1,K2,K3,K4,K5,K6,K7,K8⟩:=cJ HS;have C:=CK.o HS;replace HS:=aH HS;exact gW):p:=h ⟨⟩
theorem cn1(hj:j<M.n)(h:X.S j 0=1):Ct (cW w0 B M cap) 289 #[some B.lb,.pointer (some ⟨B.sb,j*4,none⟩),((j:Int)+1:Int)] X (.int .i64 (tf M X j).2) (tf M X j).1:=nM 98
theorem cn2(hj:j<M.n)(h:X.S j 0=2):Ct (cW w0 B M cap) 289 #[some B.lb,.pointer (some ⟨B.sb,j*4,none⟩),((j:Int)+1:Int)] X (.int .i64 (tg M X j).2) (tg M X j).1:=nM 98
theorem cn3(hj:j<M.n)(h:X.S j 0=3):Ct (cW w0 B M cap) 289 #[some B.lb,.pointer (some ⟨B.sb,j*4,none⟩),((j:Int)+1:Int)] X (.int .i64 (rc M X j).2) (rc M X j).1:=nM 1
theorem cn4(hj:j<M.n)(h:X.S j 0=4):Ct (cW w0 B M cap) 289 #[some B.lb,.pointer (some ⟨B.sb,j*4,none⟩),((j:Int)+1:Int)] X (.int .i64 (tj M X j).2) (tj M X j).1:=nM 98
theorem cn5(hj:j<M.n)(h:X.S j 0=5):Ct (cW w0 B M cap) 289 #[some B.lb,.pointer (some ⟨B.sb,j*4,none⟩),((j:Int)+1:Int)] X (.int .i64 (rf M X j).2) (rf M X j).1:=nM 1
theorem cn6(hj:j<M.n)(h:X.S j 0=6):Ct (cW w0 B M cap) 289 #[some B.lb,.pointer (some ⟨B.sb,j*4,none⟩),((j:Int)+1:Int)] X (.int .i64 (tm M X j).2) (tm M X j).1:=nM 98
theorem PD(hj:j<M.n)(h:X.S j 0=11):Ct (cW w0 B M cap) 290 #[some B.lb,.pointer (some ⟨B.sb,j*4,none⟩),((j:Int)+1:Int)] X (.int .i64 (oL M X j).2) (oL M X j).1:=nM 2
theorem PE(hj:j<M.n)(h:X.S j 0=12):Ct (cW w0 B M cap) 290 #[some B.lb,.pointer (some ⟨B.sb,j*4,none⟩),((j:Int)+1:Int)] X (.int .i64 (lL M X j).2) (lL M X j).1:=nM 1
theorem PF(hj:j<M.n)(h:X.S j 0=13):Ct (cW w0 B M cap) 290 #[some B.lb,.pointer (some ⟨B.sb,j*4,none⟩),((j:Int)+1:Int)] X (.int .i64 (m6 M X j).2) (m6 M X j).1:=nM 98
theorem PG(hj:j<M.n)(h:X.S j 0=14):Ct (cW w0 B M cap) 290 #[some B.lb,.pointer (some ⟨B.sb,j*4,none⟩),((j:Int)+1:Int)] X (.int .i64 (oM M X j).2) (oM M X j).1:=nM 3
theorem PH(hj:j<M.n)(h:X.S j 0=15):Ct (cW w0 B M cap) 290 #[some B.lb,.pointer (some ⟨B.sb,j*4,none⟩),((j:Int)+1:Int)] X (.int .i64 (m7 M X j).2) (m7 M X j).1:=nM 98
theorem PJ(hj:j<M.n)(h:X.S j 0=16):Ct (cW w0 B M cap) 290 #[some B.lb,.pointer (some ⟨B.sb,j*4,none⟩),((j:Int)+1:Int)] X (.int .i64 (m8 M X j).2) (m8 M X j).1:=nM 1
theorem PL(hj:j<M.n)(h:X.S j 0=20):Ct (cW w0 B M cap) 292 #[some B.lb,.pointer (some ⟨B.sb,j*4,none⟩)] X (.int .i64 (oN M X j).2) (oN M X j).1:=nM 3
theorem PM(hj:j<M.n)(h:X.S j 0=21):Ct (cW w0 B M cap) 292 #[some B.lb,.pointer (some ⟨B.sb,j*4,none⟩)] X (.int .i64 (oO M X j).2) (oO M X j).1:=nM 98
theorem PN(hj:j<M.n)(h:X.S j 0=22):Ct (cW w0 B M cap) 292 #[some B.lb,.pointer (some ⟨B.sb,j*4,none⟩)] X (.int .i64 (oP M X j).2) (oP M X j).1:=nM 1
theorem PO(hj:j<M.n)(h:X.S j 0=23):Ct (cW w0 B M cap) 292 #[some B.lb,.pointer (some ⟨B.sb,j*4,none⟩)] X (.int .i64 (oQ M X j).2) (oQ M X j).1:=nM 98
theorem PP(hj:j<M.n)(h:X.S j 0=24):Ct (cW w0 B M cap) 292 #[some B.lb,.pointer (some ⟨B.sb,j*4,none⟩)] X (.int .i64 (oR M X j).2) (oR M X j).1:=nM 98
theorem PQ(hj:j<M.n)(h:X.S j 0=25):Ct (cW w0 B M cap) 292 #[some B.lb,.pointer (some ⟨B.sb,j*4,none⟩)] X (.int .i64 (oS M X j).2) (oS M X j).1:=nM 3
theorem PR(hj:j<M.n)(h:X.S j 0=26):Ct (cW w0 B M cap) 292 #[some B.lb,.pointer (some ⟨B.sb,j*4,none⟩)] X (.int .i64 (oT M X j).2) (oT M X j).1:=nM 98
theorem PS(hj:j<M.n)(h:X.S j 0=27):Ct (cW w0 B M cap) 292 #[some B.lb,.pointer (some ⟨B.sb,j*4,none⟩)] X (.int .i64 (oU M X j).2) (oU M X j).1:=nM 98
theorem PU(hj:j<M.n)(h:X.S j 0=28):Ct (cW w0 B M cap) 292 #[some B.lb,.pointer (some ⟨B.sb,j*4,none⟩)] X (.int .i64 (oV M X j).2) (oV M X j).1:=nM 98
theorem PV(hj:j<M.n)(h:X.S j 0=29):Ct (cW w0 B M cap) 292 #[some B.lb,.pointer (some ⟨B.sb,j*4,none⟩)] X (.int .i64 (oW M X j).2) (oW M X j).1:=nM 98
theorem PW(hj:j<M.n)(h:X.S j 0=30):Ct (cW w0 B M cap) 292 #[some B.lb,.pointer (some ⟨B.sb,j*4,none⟩)] X (.int .i64 (oX M X j).2) (oX M X j).1:=nM 98
theorem PK(hj:j<M.n)(h:X.S j 0=19):Ct (cW w0 B M cap) 292 #[some B.lb,.pointer (some ⟨B.sb,j*4,none⟩)] X (.int .i64 (na M X j).2) (na M X j).1:=qe (λa=>nM 98) λa=>nM 98
end
def dN(pc r c:Int):Prop:=(r=0\/r=1)/\(pc=0/\c=0\/r=1/\((1<=pc/\pc<=3\/pc=10\/pc=11)/\c=0\/pc=4/\1<=c/\c<=9\/pc=5/\c=10\/pc=6/\11<=c)\/r=0/\(pc=7/\1<=c/\c<=9\/(8<=pc/\pc<=10\/pc=12)/\c=10\/pc=13/\11<=c))
structure mX(M:cj)(k:Nat)(X:cf):Prop where
 kk:k<=100000
 ops:X.C.A.ops<=1000+(k:Int)
 g:iM 0 M X
 th:∀t,t<M.n->dN (X.S t 0) (X.S t 1) (X.C.TS t 0)
 dr:∀t,t<M.n->X.S t 0=9->X.D.busy=true/\X.D.once=false/\DJ M X.C.A X.D
 bz:X.D.busy=true->∃t,t<M.n/\X.S t 0=9
def iO(M:cj)(pc:Int):Nat:=if pc=0 then 0 else if pc=1 then 16*M.n+37 else if pc=2 then 16*M.n+35 else if pc=3 then 16*M.n+34 else if pc=4 then 7 else if pc=5 then 6 else if pc=6 then 4 else if pc=7 then 2*M.K.E+9 else if pc=8 then 2*M.K.E+8 else if pc=9 then 5 else if pc=10 then 3 else if pc=13 then 1 else 2
def Ga(M:cj)(X:cf):Nat:=sm (λt=>iO M (X.S t 0)) M.n+f7 M.K X.C+dW M X.C.A X.D
def nu(M:cj)(X:cf)(f:Int)(j:Nat):Prop:=(X.S j 0=4\/X.S j 0=7\/X.S j 0=13\/X.S j 0=6/\f=9)/\bw M.K X.C j\/X.S j 0=f/\gI M X.C.A X.D.at_.toNat≠gO M X.C.A X.D.at_.toNat
def fY(M:cj)(X:cf)(j:Nat):Prop:=nu M X 9 j
structure ud(M:cj)(J:cf->Prop)(W:cf->Nat)(spin:cf->Nat->Prop)(X X':cf)(j:Nat)(R:Bool):Prop where
 jj:J X'
 w:FX M.n (W X) (W X') (λi=>X.S i 0) (λi=>X'.S i 0) (spin X) (spin X') j
 ok:fH X.S X'.S j R
 r:∀i,X'.S i 1=X.S i 1
section
variable{M:cj}{X:cf}{k j:Nat}{C:CS}{D:DR}{p r c:Int}{B:AR}
theorem mX.of(h:mX M k X)(g:k<100000)(f:iM 0 M ⟨C,D,aa X.S j 0 p⟩)(d:C.A.ops<=X.C.A.ops+1)(b:dN p (X.S j 1) (C.TS j 0))(a:∀t,t≠j->C.TS t 0=X.C.TS t 0)
 (hd:(∀t,t<M.n->aa X.S j 0 p t 0=9->D.busy=true/\D.once=false/\DJ M C.A D)/\(D.busy=true->∃t,t<M.n/\aa X.S j 0 p t 0=9)):mX M (k+1) ⟨C,D,aa X.S j 0 p⟩:=
 ⟨by omega,by have:=h.ops;show C.A.ops<=_;omega,f,λt ht=>by
  show dN (aa X.S j 0 p t 0) (aa X.S j 0 p t 1) (C.TS t 0);rw[eZ];by_cases e:t=j
  ·subst e;rw[cy];exact b
  ·rw[(df X.S p t e).1,a t e];exact h.th t ht,hd.1,hd.2⟩
theorem mX.lets(h:mX M k X)(f:X.S j 0≠9)(i:p≠9)(g:∀v,v<M.K.E->gO M X.C.A v<=gO M B v):(∀t,t<M.n->aa X.S j 0 p t 0=9->X.D.busy=true/\X.D.once=false/\DJ M B X.D)/\(X.D.busy=true->∃t,t<M.n/\aa X.S j 0 p t 0=9):=
 ⟨λt ht e=>by
  by_cases c:t=j
  ·subst c;rw[cy] at e;exact am e i
  ·rw[(df X.S p t c).1] at e;obtain⟨a,b,d⟩:=h.dr t ht e;exact⟨a,b,d.same (g _ (by have:=d.TB;omega))⟩,λe=>by
  obtain⟨t,ht,c⟩:=h.bz e;exact⟨t,ht,by rw[(df X.S p t (λe=>f (by rw[<-e];exact c))).1];exact c⟩⟩
theorem mX.Vq(h:mX M k X)(hs:∀v,v<M.K.E->gI M B v=gI M X.C.A v/\gO M B v=gO M X.C.A v):dW M B X.D=dW M X.C.A X.D:=by
 cases a:X.D.busy
 ·unfold dW;simp[a]
 ·obtain⟨t,ht,e⟩:=h.bz a;have:=(h.dr t ht e).2.2.TB;have q:=hs X.D.at_.toNat aO;exact ju q.1 q.2
theorem uE(hj:j<M.n):Ga M ⟨C,D,aa X.S j 0 p⟩+iO M (X.S j 0)+f7 M.K X.C+dW M X.C.A X.D=Ga M X+iO M p+f7 M.K C+dW M C.A D:=by
 have a:=cd (f:=λt=>iO M (X.S t 0)) (g:=λt=>iO M (aa X.S j 0 p t 0)) hj λi _ e=>by rw[(df X.S p i e).1]
 simp only[cy] at a;unfold Ga;show sm (λt=>iO M (aa X.S j 0 p t 0)) M.n+f7 M.K C+dW M C.A D+_+_+_=_;omega
theorem mX.tail(b:X.S j 0≠0)(h1:X.S j 0≠10)(hj:j<M.n)(g:¬fY M X j)(d:mX M (k+1) ⟨C,D,aa X.S j 0 p⟩)(f:X.S j 0<10->1<=p/\p<=10)(a:10<X.S j 0->p=0\/10<p)
 (i:iO M p+f7 M.K C+dW M C.A D<iO M (X.S j 0)+f7 M.K X.C+dW M X.C.A X.D):ud M (mX M (k+1)) (Ga M) (fY M) X ⟨C,D,aa X.S j 0 p⟩ j (p==10||p==0):=
 ⟨d,⟨λ_ _=>.inr (by have:=uE (X:=X) (C:=C) (D:=D) (p:=p) hj;omega),λh=>am h g⟩,jA b h1 (λt e=>(df X.S p t e).1) (cy _ _ _) f a,eZ _ _ _⟩
theorem dN.TC{pc r c c' a:Int}{R:Bool}(h:dN pc r c)(b:pc=4/\a=5\/pc=6/\a=10\/pc=7/\a=8\/pc=13/\a=0)(s1:1<=c->c<10->1<=c'/\c'<=10/\(R=true↔c'=10))(s2:10<c->(c'=0\/10<c')/\(R=true↔c'=0)):
 dN (if R then a else pc) r c'/\kw 0 (if R then a else pc) r=kw 0 pc r/\c≠0/\c≠10:=by
 unfold dN at h⊢;unfold kw;rcases b with⟨rfl,rfl⟩|⟨rfl,rfl⟩|⟨rfl,rfl⟩|⟨rfl,rfl⟩<;>cases R<;>simp at h s1 s2⊢<;>omega
theorem mX.TC(h:mX M k X)(A:k<100000)(hj:j<M.n){g:Int}(u:X.S j 0=4/\g=5\/X.S j 0=6/\g=10\/X.S j 0=7/\g=8\/X.S j 0=13/\g=0):
 ud M (mX M (k+1)) (Ga M) (fY M) X ⟨ay M.K X.C j,X.D,aa X.S j 0 (if a5 M.K X.C j then g else X.S j 0)⟩ j ((if a5 M.K X.C j then g else X.S j 0)==10||(if a5 M.K X.C j then g else X.S j 0)==0):=by
 have hl:X.C.A.ops<1000000000:=by have:=h.ops;omega
 have s:=h.g.co.step hl (t:=j) hj;obtain⟨w1,w2⟩:=h.g.keeps s.out;have ht:=h.th j hj;have sc:1<=X.C.TS j 0->X.C.TS j 0<10->_:=s.ok.SX;have x:=s.ok.going;obtain⟨n,m,c0⟩:=ht.TC u sc x;clear ht;generalize F:a5 M.K X.C j=R at*;obtain⟨p,f⟩:∃p:Int,p=(if R=true then g else X.S j 0):=⟨_,rfl⟩
 rw[<-f] at n m⊢;have y:iM 0 M ⟨ay M.K X.C j,X.D,aa X.S j 0 p⟩:=h.g.re hj (a:=0) (b:=0) s.j (df _ _) (λv hv=>by rw[(w1 v hv).1];split<;>simp) (λv hv=>by rw[(w1 v hv).2];split<;>simp) (by rw[cy,eZ,m]) aO (by have:=s.ops;omega);have w:X.S j 0≠9/\p≠9:=by cases R<;>simp at f<;>omega
 have z:=h.of A y s.ops.2 n s.ok.others (h.lets w.1 w.2 λv hv=>by rw[(w1 v hv).2];exact pK _);have E:=uE (X:=X) (C:=ay M.K X.C j) (D:=X.D) (p:=p) hj;rw[h.Vq w1] at E;have hn:iO M p<=iO M (X.S j 0):=by
  cases R
  ·simp at f;rw[f];exact ba _
  ·simp at f;unfold iO;rcases u with⟨a,b⟩|⟨a,b⟩|⟨a,b⟩|⟨a,b⟩<;>rw[a,f,b]<;>simp
 refine⟨z,⟨λ_ _=>?_,λhs=>?_⟩,jA aO aO (λt e=>(df X.S p t e).1) (cy _ _ _) (by cases R<;>simp at f<;>omega) (by cases R<;>simp at f<;>omega),eZ _ _ _⟩
 ·rcases s.w.sink c0.1 c0.2 with a|a
  ·exact .inl (.inl ⟨by omega,a⟩)
  ·exact .inr aO
 ·have hs:bw M.K X.C j:=by unfold fY nu at hs;rcases hs with a|a;exact a.2;omega
  obtain⟨a,b⟩:=s.w.idle hs;have o:p=X.S j 0:=by
   have e:=(b j hj).2;cases R
   ·simpa using f
   ·have G:=h.g.co.RC (t:=j) hj;simp at sc x;omega
  refine⟨by omega,λi hi=>?_⟩;have l:aa X.S j 0 p i 0=X.S i 0:=by
   by_cases e:i=j
   ·subst e;rw[cy,o]
   ·exact(df X.S p i e).1
  refine⟨λq=>?_,by show aa X.S j 0 p i 0=0↔_;rw[l],by show aa X.S j 0 p i 0=10↔_;rw[l]⟩;unfold fY nu at q⊢;show(aa X.S j 0 p i 0=4\/aa X.S j 0 p i 0=7\/aa X.S j 0 p i 0=13\/aa X.S j 0 p i 0=6/\_)/\bw M.K (ay M.K X.C j) i\/aa X.S j 0 p i 0=9/\_;rw[l];rcases q with⟨c1,c2⟩|⟨c1,c2⟩
  ·exact .inl ⟨c1,(b i hi).1 c2⟩
  ·have d:=(h.dr i hi c1).2.2.TB;have e:=w1 X.D.at_.toNat aO;exact .inr ⟨c1,by show gI M _ _≠gO M _ _;rw[e.1,e.2];exact c2⟩
theorem pm(h:fY M X j):X.S j 0=4\/X.S j 0=6\/X.S j 0=7\/X.S j 0=13\/X.S j 0=9:=by unfold fY nu at h;omega
theorem mX.step(h:mX M k X)(z:k<100000)(hj:j<M.n):ud M (mX M (k+1)) (Ga M) (fY M) X (cD M X j) j (cR M X j):=by
 have hl:X.C.A.ops<1000000000:=by have:=h.ops;omega
 have ht:=h.th j hj;have l:=h.g.lay;have hv:=(h.g.co.L.nd j hj).1;by_cases W:X.S j 0=0\/X.S j 0=10
 ·have n:cD M X j=X:=by unfold cD bi;rcases W with c|c<;>simp[c]
  have o:cR M X j=false:=by unfold cR bi;rcases W with c|c<;>simp[c]
  rw[n,o];exact⟨{h with kk:=by omega,ops:=by have:=h.ops;omega},⟨λa b=>by omega,λa=>by have:=pm a;omega⟩,⟨λ_ _=>rfl,λa b=>by omega,λa=>by omega,λ_=>⟨rfl,rfl⟩⟩,λ_=>rfl⟩
 by_cases q4:X.S j 0=4\/X.S j 0=6\/X.S j 0=7\/X.S j 0=13
 ·obtain⟨F,V⟩:∃F:Int,X.S j 0=4/\F=5\/X.S j 0=6/\F=10\/X.S j 0=7/\F=8\/X.S j 0=13/\F=0:=by
   rcases q4 with q|q|q|q
   ·exact⟨5,.inl ⟨q,rfl⟩⟩
   ·exact⟨10,.inr (.inl ⟨q,rfl⟩)⟩
   ·exact⟨8,.inr (.inr (.inl ⟨q,rfl⟩))⟩
   ·exact⟨0,.inr (.inr (.inr ⟨q,rfl⟩))⟩
  have n:cD M X j=⟨ay M.K X.C j,X.D,aa X.S j 0 (if a5 M.K X.C j then F else X.S j 0)⟩:=by
   unfold cD fQ gA bi;rcases V with⟨q,rfl⟩|⟨q,rfl⟩|⟨q,rfl⟩|⟨q,rfl⟩<;>simp[q]<;>cases a5 M.K X.C j<;>simp<;>rw[<-q,oj]
  have o:cR M X j=((if a5 M.K X.C j then F else X.S j 0)==10||(if a5 M.K X.C j then F else X.S j 0)==0):=by
   unfold cR fQ gA bi;rcases V with⟨q,rfl⟩|⟨q,rfl⟩|⟨q,rfl⟩|⟨q,rfl⟩<;>simp[q]<;>cases a5 M.K X.C j<;>simp
  rw[n,o];exact h.TC z hj V
 have hs:X.S j 0≠9->¬fY M X j:=λa b=>by have:=pm b;omega
 have hr:X.S j 0=1\/X.S j 0=2\/X.S j 0=3\/X.S j 0=5\/X.S j 0=8\/X.S j 0=9\/X.S j 0=11\/X.S j 0=12:=by unfold dN at ht;omega
 have y:X.D.busy=true->0<=X.D.at_/\X.D.at_<M.K.E:=λU=>by obtain⟨t,ht,e⟩:=h.bz U;exact(h.dr t ht e).2.2.TB
 have H:X.C.A.has M.fl=true:=h.g.has aO;have n1:iO M 1=16*M.n+37:=rfl;have n2:iO M 2=16*M.n+35:=rfl;have n3:iO M 3=16*M.n+34:=rfl;have n4:iO M 4=7/\iO M 5=6/\iO M 6=4/\iO M 9=5/\iO M 10=3/\iO M 11=2/\iO M 12=2/\iO M 13=1/\iO M 0=0/\iO M 8=2*M.K.E+8:=⟨rfl,rfl,rfl,rfl,rfl,rfl,rfl,rfl,rfl,rfl⟩
 rcases hr with q|q|q|q|q|q|q|q
 ·obtain⟨f,w⟩:X.S j 1=1/\X.C.TS j 0=0:=by unfold dN at ht;omega
  have n:cD M X j=⟨{X.C with A:=X.C.A.RF M.gf M.K.E (M.K.nd j) 0},X.D,aa X.S j 0 2⟩:=by unfold cD fQ gA bi;simp[q]
  have o:cR M X j=((2:Int)==10||(2:Int)==0):=by unfold cR fQ gA bi;simp[q]
  have i:=h.g.enter hl hj (p:=2) (by rw[q,f];rfl) (by rw[f];rfl);have d:=i.d X.D y;rw[n,o];exact mX.tail aO aO hj (hs aO) (h.of z (i.g _) i.ops.2 (by rw[f];show dN 2 1 (X.C.TS j 0);rw[w];unfold dN;omega) (λ_ _=>rfl) (h.lets aO aO i.o)) aO aO (by rw[i.w,q];dsimp only;omega)
 ·obtain⟨f,w⟩:X.S j 1=1/\X.C.TS j 0=0:=by unfold dN at ht;omega
  have g:=(eE h.g.co.fit H (b:=M.fl) (m:=1) aO aO).1;obtain⟨p,hp,n,o⟩:∃p:Int,(p=10\/p=3)/\cD M X j=⟨{X.C with A:=X.C.A.load M.fl},X.D,aa X.S j 0 p⟩/\cR M X j=(p==10||p==0):=by
   unfold cD cR bi;by_cases c:X.C.A.get M.fl=0
   ·exact⟨10,.inl rfl,by simp[q,c],by simp[q,c]⟩
   ·exact⟨3,.inr rfl,by simp[q,c],by simp[q,c]⟩
  have i:=h.g.quiet hl hj (p:=p) (by rw[q,f];rcases hp with rfl|rfl<;>rfl) g (ba _) (h.g.flag g);have d:=i.d X.D y;rw[n,o];exact mX.tail aO aO hj (hs aO) (h.of z (i.g _) i.ops.2 (by rw[f];show dN p 1 (X.C.TS j 0);rw[w];unfold dN;omega) (λ_ _=>rfl) (h.lets aO aO i.o)) aO aO (by rw[i.w,q];dsimp only;rcases hp with rfl|rfl<;>omega)
 ·obtain⟨f,w⟩:X.S j 1=1/\X.C.TS j 0=0:=by unfold dN at ht;omega
  have n:cD M X j=⟨bu M.K {X.C with A:=X.C.A.RF M.gf M.K.E (M.K.nd j) 1} j,X.D,aa X.S j 0 4⟩:=by unfold cD fQ gA bi;simp[q]
  have o:cR M X j=((4:Int)==10||(4:Int)==0):=by unfold cR fQ gA bi;simp[q]
  have i:=h.g.exit hl hj (p:=4) (by rw[q,f];rfl) (by rw[f];rfl);have d:=i.d X.D y;obtain⟨a1,a2,a3,E,s, -⟩:=(i.g X.D).asks hj w;have R:=i.w;rw[n,o];dsimp only at a1 a2 a3 E s R⊢;exact mX.tail aO aO hj (hs aO) (h.of z ((i.g X.D).swap a1 s) (by rw[s];exact i.ops.2) (by rw[f,a3];unfold dN;omega) E (h.lets aO aO (by rw[s];exact i.o))) aO aO (by rw[s,q];omega)
 ·obtain⟨f,w⟩:X.S j 1=1/\X.C.TS j 0=10:=by unfold dN at ht;omega
  have n:cD M X j=⟨bj M.K {X.C with A:=X.C.A.RF M.gf M.K.E (M.K.nd j) 0} j,X.D,aa X.S j 0 6⟩:=by unfold cD fQ gA bi;simp[q]
  have o:cR M X j=((6:Int)==10||(6:Int)==0):=by unfold cR fQ gA bi;simp[q]
  have i:=h.g.enter hl hj (p:=6) (by rw[q,f];rfl) (by rw[f];rfl);have d:=i.d X.D y;obtain⟨a1,a2,a3,E,s⟩:=(i.g X.D).leaves hj w;have R:=i.w;rw[n,o];dsimp only at a1 a2 a3 E s R⊢;exact mX.tail aO aO hj (hs aO) (h.of z ((i.g X.D).swap a1 s) (by rw[s];exact i.ops.2) (by rw[f,a3];unfold dN;omega) E (h.lets aO aO (by rw[s];exact i.o))) aO aO (by rw[s,q];omega)
 ·obtain⟨f,w⟩:X.S j 1=0/\X.C.TS j 0=10:=by unfold dN at ht;omega
  have g:=(cV (v:=1) h.g.co.fit H (b:=M.fl) (m:=1) aO aO).1;have n:cD M X j=⟨{X.C with A:=X.C.A.store M.fl 1},X.D.Rw 0 M.K.E false,aa X.S j 0 9⟩:=by unfold cD fQ gA bi;simp[q]
  have o:cR M X j=((9:Int)==10||(9:Int)==0):=by unfold cR fQ gA bi;simp[q]
  have i:=h.g.quiet hl hj (p:=9) (by rw[f,gC aO,gC aO]) g (ba _) (h.g.flag g);obtain⟨b1,b2,b3, -, -,b4⟩:=DJ.Rw h.g X.D false (X.C.A.store M.fl 1);rw[n,o];exact mX.tail aO aO hj (hs aO) (h.of z (i.g _) i.ops.2 (by rw[f];show dN 9 0 (X.C.TS j 0);rw[w];unfold dN;omega) (λ_ _=>rfl) ⟨λ_ _ _=>⟨b2,b3,b1⟩,λ_=>⟨j,hj,cy _ _ _⟩⟩) aO aO (by rw[i.w,q];show _+dW M (X.C.A.store M.fl 1) _<_;omega)
 ·obtain⟨f,w⟩:X.S j 1=0/\X.C.TS j 0=10:=by unfold dN at ht;omega
  obtain⟨U,ho,hD⟩:=h.dr j hj q;obtain⟨⟨b,g,hb'⟩,I,Y,Z,G⟩:=DJ.go h.g hD U;have O:∀v,v<M.K.E->gI M (be M X).C.A v=gI M X.C.A v/\gO M (be M X).C.A v=gO M X.C.A v:=λv _=>⟨I _,I _⟩
  have P:fY M X j->gI M X.C.A X.D.at_.toNat≠gO M X.C.A X.D.at_.toNat:=λa=>by unfold fY nu at a;rcases a with a|a;omega;exact a.2
  rcases G with⟨L,c1,c2,c3,S, -⟩|⟨L,c1, -, -,S⟩
  ·have n:cD M X j=⟨{X.C with A:=(be M X).C.A},(be M X).D,aa X.S j 0 9⟩:=by
    rw[<-Y,show aa X.S j 0 9=X.S by rw[<-q];exact oj _ _ _,<-Z];unfold cD fQ bi;simp[q,L]
   have o:cR M X j=((9:Int)==10||(9:Int)==0):=by unfold cR fQ bi;simp[q,L]
   have i:=h.g.quiet hl hj (p:=9) (by rw[q]) g aO O;have hw:=uE (X:=X) (C:={X.C with A:=(be M X).C.A}) (D:=(be M X).D) (p:=9) hj;rw[i.w,q] at hw;have dd:dW M (be M X).C.A (be M X).D=dW M X.C.A (be M X).D:=ju (I _) (I _);rw[n,o];dsimp only at hw⊢;refine⟨h.of z (i.g _) i.ops.2 (by rw[<-q];exact ht) (λ_ _=>rfl) ⟨λ_ _ _=>⟨c1,c2.trans ho,c3.same (za (I _).symm)⟩,λ_=>⟨j,hj,cy _ _ _⟩⟩,⟨λ_ _=>?_,λbB=>?_⟩,jA aO aO (λt e=>(df X.S 9 t e).1) (cy _ _ _) aO aO,eZ _ _ _⟩
   ·rcases S with⟨-,x, -⟩|⟨-, -,T⟩
    ·exact .inl (.inr ⟨q,x⟩)
    ·exact .inr aO
   ·rcases S with⟨x, -, -,T⟩|⟨x, -⟩
    ·refine⟨by omega,λK hi=>?_⟩;have J:aa X.S j 0 9 K 0=X.S K 0:=by
      by_cases e:K=j
      ·subst e;rw[cy,q]
      ·exact(df X.S 9 K e).1
     refine⟨λN=>?_,by show aa X.S j 0 9 K 0=0↔_;rw[J],by show aa X.S j 0 9 K 0=10↔_;rw[J]⟩;unfold fY nu at N⊢;dsimp only;rw[J,x];rcases N with⟨d1,d2⟩|⟨d1,d2⟩
     ·exact .inl ⟨d1,(i.s K hi).2 d2⟩
     ·exact .inr ⟨d1,by unfold gI gO;rw[I,I];exact d2⟩
    ·rcases x with x|x
     ·rw[ho] at x;cases x
     ·exact am x (P bB)
  ·rcases S with⟨-, -,T⟩|⟨-,x, -⟩
   ·have n:cD M X j=⟨{X.C with A:=(be M X).C.A},(be M X).D,aa X.S j 0 10⟩:=by
     rw[<-Y];unfold cD fQ gA bi;simp[q,L,Z]
    have o:cR M X j=((10:Int)==10||(10:Int)==0):=by unfold cR fQ gA bi;simp[q,L]
    have i:=h.g.quiet hl hj (p:=10) (by rw[f,gC aO,gC aO]) g aO O;have d0:dW M (be M X).C.A (be M X).D=0:=by unfold dW;simp[c1]
    rw[n,o];exact mX.tail aO aO hj (λa=>P a T) (h.of z (i.g _) i.ops.2 (by rw[f];show dN 10 0 (X.C.TS j 0);rw[w];unfold dN;omega) (λ_ _=>rfl) ⟨λt Q e=>by
     by_cases c:t=j
     ·subst c;rw[cy] at e;omega
     ·rw[(df X.S 10 t c).1] at e;have:=h.th t Q;unfold dN at this;exact am (h.g.co.Uv (t:=t) (u:=j) Q hj aO aO) c,λe=>by rw[c1] at e;cases e⟩) aO aO (by rw[i.w,q];dsimp only;omega)
   ·rw[ho] at x;cases x
 ·obtain⟨f,w⟩:X.S j 1=1/\X.C.TS j 0=0:=by unfold dN at ht;omega
  have n:cD M X j=⟨{X.C with A:=X.C.A.RF M.gf M.K.E (M.K.nd j) 1},X.D,aa X.S j 0 0⟩:=by unfold cD fQ gA bi;simp[q]
  have o:cR M X j=((0:Int)==10||(0:Int)==0):=by unfold cR fQ gA bi;simp[q]
  have i:=h.g.exit hl hj (p:=0) (by rw[q,f];rfl) (by rw[f];rfl);have d:=i.d X.D y;rw[n,o];exact mX.tail aO aO hj (hs aO) (h.of z (i.g _) i.ops.2 (by rw[f];show dN 0 1 (X.C.TS j 0);rw[w];unfold dN;omega) (λ_ _=>rfl) (h.lets aO aO i.o)) aO aO (by rw[i.w,q];dsimp only;omega)
 ·obtain⟨f,w⟩:X.S j 1=0/\X.C.TS j 0=10:=by unfold dN at ht;omega
  have g:=(cV (v:=0) h.g.co.fit H (b:=M.fl) (m:=1) aO aO).1;have n:cD M X j=⟨bj M.K {X.C with A:=X.C.A.store M.fl 0} j,X.D,aa X.S j 0 13⟩:=by unfold cD fQ gA bi;simp[q]
  have o:cR M X j=((13:Int)==10||(13:Int)==0):=by unfold cR fQ gA bi;simp[q]
  have i:=h.g.quiet hl hj (p:=13) (by rw[f,gC aO,gC aO]) g (ba _) (h.g.flag g);have d:=i.d X.D y;obtain⟨a1,a2,a3,E,s⟩:=(i.g X.D).leaves hj w;have R:=i.w;rw[n,o];dsimp only at a1 a2 a3 E s R⊢;exact mX.tail aO aO hj (hs aO) (h.of z ((i.g X.D).swap a1 s) (by rw[s];exact i.ops.2) (by rw[f,a3];unfold dN;omega) E (h.lets aO aO (by rw[s];exact i.o))) aO aO (by rw[s,q];omega)
theorem mX.hand(h:mX M k X)(m:k<100000)(hj:j<M.n)(l:X.S j 0=0\/X.S j 0=10){T:Nat->Nat->Int}(a:∀t,t≠j->T t 0=X.S t 0/\T t 1=X.S t 1)(i:fu M.K C)(b:C.A=X.C.A)(d:∀t,t≠j->C.TS t 0=X.C.TS t 0)(h1:kw 0 (T j 0) (T j 1)=kw 0 (X.S j 0) (X.S j 1))(f:dN (T j 0) (T j 1) (C.TS j 0))(g:T j 0≠9):mX M (k+1) ⟨C,X.D,T⟩:=
 ⟨by omega,by have:=h.ops;show C.A.ops<=_;rw[b];omega,(h.g.RT (D:=X.D) hj a h1).swap i b,λt ht=>by
  show dN (T t 0) (T t 1) (C.TS t 0);by_cases e:t=j
  ·subst e;exact f
  ·rw[(a t e).1,(a t e).2,d t e];exact h.th t ht,λt ht e=>by
  have e:T t 0=9:=e;have:t≠j:=λc=>g (by rw[<-c];exact e);rw[(a t this).1] at e;show _/\_/\DJ M C.A X.D;rw[b];exact h.dr t ht e,λe=>by
  obtain⟨t,ht,c⟩:=h.bz e;exact⟨t,ht,by show T t 0=9;rw[(a t (λe=>by subst e;omega)).1];exact c⟩⟩
theorem Lk(h:dN p r c):iO M p<=(if c=0 then 16*M.n+37 else 2*M.K.E+9):=by
 unfold dN at h;by_cases e:c=0
 ·have a:p=0\/p=1\/p=2\/p=3\/p=10\/p=11:=by omega
  rw[ad e];rcases a with rfl|rfl|rfl|rfl|rfl|rfl<;>simp[iO]<;>omega
 ·have a:p=4\/p=5\/p=6\/p=7\/p=8\/p=9\/p=10\/p=12\/p=13:=by omega
  rw[ac e];rcases a with rfl|rfl|rfl|rfl|rfl|rfl|rfl|rfl|rfl<;>simp[iO]<;>omega
theorem zP(hj:j<M.n)(h:∀i,i<M.n->i≠j->X.S i 0=0):sm (λt=>iO M (X.S t 0)) M.n=iO M (X.S j 0):=i8 (f:=λt=>iO M (X.S t 0)) hj λi hi a=>by show iO M (X.S i 0)=0;rw[h i hi a];rfl
theorem vM(M:cj)(A:AR)(D:DR)(h:D.busy=true->0<=D.at_):dW M A D<=2*M.K.E+1:=by
 unfold dW;repeat' split
 all_goals first|omega|(have:=h ‹_›;omega)
theorem N5(M:cj):(py 0 M).Row (mX M) (Ga M) (fY M) where
 I:=λk s o h=>{h with kk:=by omega,ops:=by have:=h.ops;omega}
 V:=λk s h=>⟨h.g.co.Ug,λj hj=>by have:=h.th j hj;unfold dN at this;unfold i7;omega⟩
 aR:=λs j _ hj l=>dc hj l
 aN:=λs j r l=>sk l
 aS:=λk s j r o h hj l=>by
  have l:s.S j 0=0:=l;have ht:=h.th j hj;have z:s.C.TS j 0=0:=by unfold dN at ht;omega
  have J:∀x,kw 0 0 x=false:=λx=>by unfold kw;simp
  show mX M (k+1) (cF 0 M s j r)/\(∃x:Int,_/\∀i:Nat,(cF 0 M s j r).S i 0=up (λi=>s.S i 0) j x i)/\(_->(cF 0 M s j r).S j 1=_)
  rw[j8 hj l];cases r
  ·obtain⟨a1, -,a3,L,N, -⟩:=h.g.asks hj z;exact⟨h.hand o hj (.inl l) (mR _ _ _) a1 N L (by rw[(cA _ _ _ _).1,(cA _ _ _ _).2,l,J];rfl) (by rw[(cA _ _ _ _).1,(cA _ _ _ _).2,a3];unfold dN;omega) (by rw[(cA _ _ _ _).1];omega),⟨7,by omega,pB _ _ _ _⟩,λ_=>(cA _ _ _ _).2⟩
  ·exact⟨h.hand o hj (.inl l) (mR _ _ _) h.g.co rfl (λ_ _=>rfl) (by rw[(cA _ _ _ _).1,(cA _ _ _ _).2,l,J];rfl) (by rw[(cA _ _ _ _).1,(cA _ _ _ _).2,z];unfold dN;omega) (by rw[(cA _ _ _ _).1];omega),⟨1,by omega,pB _ _ _ _⟩,λ_=>(cA _ _ _ _).2⟩
 lR:=λs j hj l=>dc hj l
 lN:=λs j l=>nt l
 lS:=λk s j o h hj l=>by
  have l:s.S j 0=10:=l;have ht:=h.th j hj;show mX M (k+1) (bJ M s j)/\∃x:Int,_/\∀i:Nat,(bJ M s j).S i 0=up (λi=>s.S i 0) j x i;rw[gR hj l];have H:s.S j 1=0/\s.C.TS j 0=10\/s.S j 1=1/\s.C.TS j 0=0:=by unfold dN at ht;omega
  refine⟨h.hand o hj (.inr l) (df _ _) h.g.co rfl (λ_ _=>rfl) ?_ ?_ (by rw[cy];omega),_,by omega,JB _⟩
  ·rw[cy,eZ,l];rcases H with⟨e,_⟩|⟨e,_⟩<;>rw[e]<;>rfl
  ·rw[cy,eZ];rcases H with⟨e,f⟩|⟨e,f⟩<;>rw[e,f]<;>unfold dN<;>omega
 lW:=λk s j h hj l=>by
  have l:s.S j 0=10:=l;have ht:=h.th j hj;show Ga M (bJ M s j)<_;rw[gR hj l];have Q:=uE (X:=s) (C:=s.C) (D:=s.D) (p:=12 - s.S j 1) hj;have e:iO M (12 - s.S j 1)=2:=by
   have:s.S j 1=0\/s.S j 1=1:=by unfold dN at ht;omega
   rcases this with e|e<;>rw[e]<;>rfl
  have P:iO M (s.S j 0)=3:=by rw[l];rfl
  show Ga M ⟨s.C,s.D,aa s.S j 0 (12 - s.S j 1)⟩<_;omega
 st:=λk s j o h hj=>by
  have a:=h.step o hj;exact⟨a.jj,a.w,a.ok,λ_=>a.r⟩
 pc:=λk s j h hj=>by have:=h.th j hj;unfold dN at this;show 0<=s.S j 0;omega
 sp:=λs j h=>by have:=pm h;show s.S j 0≠0/\s.S j 0≠10;omega
 stuck:=λk s h hs=>by
  have hs:∀j,j<M.n->s.S j 0=0\/s.S j 0=10\/fY M s j:=hs;by_cases c:∃j,j<M.n/\s.S j 0=10
  ·exact .inl c
  have v:∀j,j<M.n->s.S j 0=0/\s.C.TS j 0=0\/s.S j 0=9/\s.C.TS j 0=10/\gI M s.C.A s.D.at_.toNat≠gO M s.C.A s.D.at_.toNat\/(s.S j 0=4\/s.S j 0=7)/\bw M.K s.C j\/(s.S j 0=6\/s.S j 0=13)/\11<=s.C.TS j 0/\bw M.K s.C j:=λj hj=>by
   have ht:=h.th j hj;rcases hs j hj with a|a|a
   ·unfold dN at ht;omega
   ·exact am ⟨j,hj,a⟩ c
   ·unfold fY nu at a;unfold dN at ht;rcases a with⟨a,b⟩|⟨a,b⟩
    ·by_cases d:s.S j 0=4\/s.S j 0=7
     ·exact .inr (.inr (.inl ⟨d,b⟩))
     ·exact .inr (.inr (.inr ⟨by omega,by omega,b⟩))
    ·exact .inr (.inl ⟨a,by omega,b⟩)
  have no:∀j,j<M.n->s.S j 0≠6/\s.S j 0≠13:=λj hj=>by
   rcases v j hj with a|a|a|⟨a,b,d⟩
   ·omega
   ·omega
   ·omega
   ·obtain⟨u,m,e,f⟩:=h.g.co.Te (t:=j) hj d aO;rcases v u m with g|g|g|g
    ·omega
    ·omega
    ·exact am g.2 f
    ·omega
  have G:∀j,j<M.n->s.S j 0≠9:=λj hj e=>by
   rcases v j hj with a|a|a|a
   ·omega
   ·obtain⟨u,m, -,f⟩:=h.g.inside (by have:=(h.dr j hj e).2.2.TB;omega) a.2.2;have f:=sJ f;have:=no u m;rcases v u m with g|g|g|g<;>omega
   ·omega
   ·omega
  rcases h.g.co.stuck λt ht=>by
   have:=no t ht;have:=G t ht;rcases v t ht with a|a|a|a
   ·exact .inl a.2
   ·omega
   ·exact .inr (.inr a.2)
   ·omega with⟨t,ht,e⟩|e
  ·have:=no t ht;have:=G t ht;have y:=h.th t ht;rcases v t ht with a|a|a|a
   ·omega
   ·omega
   ·unfold dN at y;omega
   ·omega
  ·refine .inr λj hj=>?_;have:=e j hj;have:=no j hj;have:=G j hj;have y:=h.th j hj;rcases v j hj with a|a|a|a
   ·exact a.1
   ·omega
   ·unfold dN at y;omega
   ·omega
 top:=λk s h hn=>by
  have hn:M.n<=6:=hn;have a:=(h.g.SS hn).1;have e:=h.g.e;have b:=vM M s.C.A s.D λhb=>by obtain⟨t,ht,e⟩:=h.bz hb;exact(h.dr t ht e).2.2.TB.1
  have c:sm (λt=>iO M (s.S t 0)+135*(if s.C.TS t 0=0 then 0 else 1)) M.n<=M.n*208:=lj λt ht=>by
   have:=Lk (M:=M) (h.th t ht)
   split at this
   ·rename_i q;rw[ad q];omega
   ·rename_i q;rw[ac q];omega
  have d:sm (λt=>iO M (s.S t 0)+135*(if s.C.TS t 0=0 then 0 else 1)) M.n=sm (λt=>iO M (s.S t 0)) M.n+a7 s.C.TS M.n*135:=by
   unfold a7;generalize M.n=n;induction n with
   |zero=>rfl
   |succ n O=>unfold sm;rw[O,sN];omega
  show sm (λt=>iO M (s.S t 0)) M.n+f7 M.K s.C+dW M s.C.A s.D<1500;omega
 lone:=nofun
 S2:=λ_ k s u r hn h m ho=>by
  have hn:M.n<=6:=hn;have ho:∀j,j<M.n->s.S j 0=0:=ho;have e:=h.g.e;have hb:s.D.busy=false:=by
   cases hb:s.D.busy
   ·rfl
   ·obtain⟨t,ht,q⟩:=h.bz hb;have:=ho t ht;omega
  have z:∀t,t<M.n->s.C.TS t 0=0:=λt ht=>by have a:=h.th t ht;have b:=ho t ht;unfold dN at a;omega
  have ha:f7 M.K s.C=0:=by
   have a:=(h.g.SS hn).1;have:a7 s.C.TS M.n=0:=eG λt ht=>ad (z t ht);rw[this] at a;omega
  have hd:∀A,dW M A s.D=0:=λA=>by unfold dW;simp[hb]
  have F:∀C D a b,sm (λt=>iO M ((⟨C,D,gh s.S u a b⟩:cf).S t 0)) M.n=iO M a:=λC D a b=>(zP (X:=⟨C,D,gh s.S u a b⟩) m λi hi hne=>(mR s.S a b i hne).1.trans (ho i hi)).trans (by rw[show(⟨C,D,gh s.S u a b⟩:cf).S u 0=a from(cA s.S u a b).1]);show Ga M (cF 0 M s u r)<=200;rw[j8 m (ho u m)];cases r
  ·obtain⟨-,a2, -⟩:=h.g.asks m (z u m);have:=F (bu M.K s.C u) s.D 7 0;have:=hd (bu M.K s.C u).A;have:iO M 7=2*M.K.E+9:=rfl;show sm (λt=>iO M ((⟨bu M.K s.C u,s.D,gh s.S u 7 0⟩:cf).S t 0)) M.n+f7 M.K (bu M.K s.C u)+dW M (bu M.K s.C u).A s.D<=200;omega
  ·have:=F s.C s.D 1 1;have:=hd s.C.A;have:iO M 1=16*M.n+37:=rfl;show sm (λt=>iO M ((⟨s.C,s.D,gh s.S u 1 1⟩:cf).S t 0)) M.n+f7 M.K s.C+dW M s.C.A s.D<=200;omega
 out:=λ_ k s u hn h m ho h3=>by
  have hn:M.n<=6:=hn;have ho:∀j,j<M.n->j≠u->s.S j 0=0:=ho;have h3:10<s.S u 0:=h3;have e:=h.g.e;have b:=vM M s.C.A s.D λhb=>by obtain⟨t,ht,e⟩:=h.bz hb;exact(h.dr t ht e).2.2.TB.1
  have c:=(h.g.SS hn).2 (mj m λt ht hne=>by have a:=h.th t ht;have b:=ho t ht hne;unfold dN at a;omega);have d:sm (λt=>iO M (s.S t 0)) M.n=iO M (s.S u 0):=zP m ho;have f:iO M (s.S u 0)<=2:=by
   have a:=h.th u m;have q:s.S u 0=11\/s.S u 0=12\/s.S u 0=13:=by unfold dN at a;omega
   rcases q with q|q|q<;>rw[q]<;>simp[iO]
  show sm (λt=>iO M (s.S t 0)) M.n+f7 M.K s.C+dW M s.C.A s.D<=200;omega
end
def d9(pc r c:Int):Prop:=(r=0\/r=1)/\(pc=0/\c=0\/r=1/\(pc=1\/pc=2\/pc=10\/pc=11)/\c=0\/r=0/\(pc=7/\1<=c/\c<=9\/(pc=5\/pc=6\/pc=8\/pc=9\/pc=10\/pc=12)/\c=10\/pc=13/\11<=c))
def jl(pc r:Int):Prop:=r=0/\(pc=5\/pc=9\/pc=10\/pc=12)
structure iR(M:cj)(k:Nat)(X:cf):Prop where
 kk:k<=100000
 ops:X.C.A.ops<=1000+(k:Int)
 g:iM 1 M X
 th:∀t,t<M.n->d9 (X.S t 0) (X.S t 1) (X.C.TS t 0)
 dr:∀t,t<M.n->X.S t 0=9\/X.S t 0=6->X.D.busy=true/\(X.D.once=true↔X.S t 0=9)/\DJ M X.C.A X.D
 bz:X.D.busy=true->∃t,t<M.n/\(X.S t 0=9\/X.S t 0=6)
 fl:X.C.A.get M.fl≠0->∃t,t<M.n/\jl (X.S t 0) (X.S t 1)
def i6(M:cj)(pc:Int):Nat:=if pc=0 then 0 else if pc=1 then 6 else if pc=2 then 4 else if pc=5 then 4*M.K.E+9 else if pc=6 then 2*M.K.E+8 else if pc=7 then 2*M.K.E+9 else if pc=8 then 2*M.K.E+8 else if pc=9 then 5 else if pc=10 then 3 else if pc=13 then 1 else 2
def gK(M:cj)(S:Nat->Nat->Int):Nat:=sm (λt=>if S t 1=1/\S t 0≠0 then 1 else 0) M.n
def kO(M:cj)(S:Nat->Nat->Int)(pc:Int):Nat:=sm (λt=>if S t 0=pc then 1 else 0) M.n
def ob(M:cj)(A:AR)(a:Int):Nat:=sm (λv=>if gI M A v=gO M A v\/(v:Int)<a then 0 else 1) M.K.E
def lF(M:cj)(X:cf):Nat:=if kO M X.S 5≠0 then(if ob M X.C.A 0≠0 then gK M X.S - 1 else gK M X.S) else if kO M X.S 6≠0 then(if ob M X.C.A X.D.at_≠0 then gK M X.S - 1 else gK M X.S)
 else if kO M X.S 9≠0/\X.D.second=true/\X.D.out≠gI M X.C.A X.D.at_.toNat/\ob M X.C.A 0=0 then gK M X.S+1 else gK M X.S
def Gc(M:cj)(X:cf):Nat:=(4*M.K.E+5)*lF M X+sm (λt=>i6 M (X.S t 0)) M.n+f7 M.K X.C+dW M X.C.A X.D
def ey(M:cj)(X:cf)(j:Nat):Prop:=(X.S j 0=7\/X.S j 0=13)/\bw M.K X.C j\/X.S j 0=6/\gI M X.C.A X.D.at_.toNat≠gO M X.C.A X.D.at_.toNat\/X.S j 0=2/\X.C.A.get M.fl≠0
section
variable{M:cj}{X:cf}{k j:Nat}{C:CS}{D:DR}{p r c:Int}{A B:AR}{S T:Nat->Nat->Int}
theorem oe(hj:j<M.n)(a:∀t,t≠j->T t 0=S t 0/\T t 1=S t 1):gK M T+(if S j 1=1/\S j 0≠0 then 1 else 0)=gK M S+(if T j 1=1/\T j 0≠0 then 1 else 0):=
 cd (f:=λt=>if S t 1=1/\S t 0≠0 then 1 else 0) (g:=λt=>if T t 1=1/\T t 0≠0 then 1 else 0) hj λi _ e=>by rw[(a i e).1,(a i e).2]
variable{pc:Int}
theorem se(hj:j<M.n)(a:∀t,t≠j->T t 0=S t 0):kO M T pc+(if S j 0=pc then 1 else 0)=kO M S pc+(if T j 0=pc then 1 else 0):=
 cd (f:=λt=>if S t 0=pc then 1 else 0) (g:=λt=>if T t 0=pc then 1 else 0) hj λi _ e=>by rw[a i e]
theorem uN:kO M S pc≠0↔∃t,t<M.n/\S t 0=pc:=by
 constructor
 ·intro h;by_cases c:∃t,t<M.n/\S t 0=pc
  ·exact c
  ·exact am (eG λt ht=>ac λe=>c ⟨t,ht,e⟩) h
 ·rintro⟨t,ht,e⟩ h;have:=mf (f:=λt=>if S t 0=pc then 1 else 0) ht;unfold kO at h;simp only[e,bt] at this;omega
variable{a:Int}
theorem iF:ob M A a≠0↔∃v,v<M.K.E/\a<=v/\gI M A v≠gO M A v:=by
 constructor
 ·intro h;by_cases c:∃v,v<M.K.E/\a<=v/\gI M A v≠gO M A v
  ·exact c
  ·refine am (eG λv hv=>?_) h;by_cases d:gI M A v=gO M A v\/(v:Int)<a
   ·exact ad d
   ·exact am ⟨v,hv,by omega,λe=>d (.inl e)⟩ c
 ·rintro⟨v,hv,b,g⟩ h;have:=mf (f:=λv=>if gI M A v=gO M A v\/(v:Int)<a then 0 else 1) hv;unfold ob at h;have q:¬(gI M A v=gO M A v\/(v:Int)<a):=by omega
  simp only[ac q] at this;omega
theorem l8(h:∀v,v<M.K.E->gI M B v=gI M A v/\gO M B v=gO M A v):ob M B a=ob M A a:=gE λv hv=>by rw[(h v hv).1,(h v hv).2]
theorem iR.of(h:iR M k X)(i:k<100000)(f:iM 1 M ⟨C,D,aa X.S j 0 p⟩)(d:C.A.ops<=X.C.A.ops+1)(b:d9 p (X.S j 1) (C.TS j 0))(a:∀t,t≠j->C.TS t 0=X.C.TS t 0)
 (hd:(∀t,t<M.n->aa X.S j 0 p t 0=9\/aa X.S j 0 p t 0=6->D.busy=true/\(D.once=true↔aa X.S j 0 p t 0=9)/\DJ M C.A D)/\(D.busy=true->∃t,t<M.n/\(aa X.S j 0 p t 0=9\/aa X.S j 0 p t 0=6)))
 (g:C.A.get M.fl≠0->∃t,t<M.n/\jl (aa X.S j 0 p t 0) (X.S t 1)):iR M (k+1) ⟨C,D,aa X.S j 0 p⟩:=
 ⟨by omega,by have:=h.ops;show C.A.ops<=_;omega,f,λt ht=>by
  show d9 (aa X.S j 0 p t 0) (aa X.S j 0 p t 1) (C.TS t 0);rw[eZ];by_cases e:t=j
  ·subst e;rw[cy];exact b
  ·rw[(df X.S p t e).1,a t e];exact h.th t ht,hd.1,hd.2,λe=>by
  obtain⟨t,ht,q⟩:=g e;exact⟨t,ht,by show jl (aa X.S j 0 p t 0) (aa X.S j 0 p t 1);rw[eZ];exact q⟩⟩
theorem iR.lets(h:iR M k X)(g:X.S j 0≠9/\X.S j 0≠6)(i:p≠9/\p≠6)(f:∀v,v<M.K.E->gO M X.C.A v<=gO M B v):(∀t,t<M.n->aa X.S j 0 p t 0=9\/aa X.S j 0 p t 0=6->X.D.busy=true/\(X.D.once=true↔aa X.S j 0 p t 0=9)/\DJ M B X.D)/\(X.D.busy=true->∃t,t<M.n/\(aa X.S j 0 p t 0=9\/aa X.S j 0 p t 0=6)):=
 ⟨λt ht e=>by
  by_cases c:t=j
  ·subst c;rw[cy] at e;omega
  ·rw[(df X.S p t c).1] at e⊢;obtain⟨a,b,d⟩:=h.dr t ht e;exact⟨a,b,d.same (f _ (by have:=d.TB;omega))⟩,λe=>by
  obtain⟨t,ht,c⟩:=h.bz e;exact⟨t,ht,by rw[(df X.S p t (λe=>by subst e;omega)).1];exact c⟩⟩
theorem iR.flag(h:iR M k X)(hj:j<M.n)(b:jl (X.S j 0) (X.S j 1)->jl p (X.S j 1))(a:B.get M.fl=X.C.A.get M.fl):B.get M.fl≠0->∃t,t<M.n/\jl (aa X.S j 0 p t 0) (X.S t 1):=λe=>by
 obtain⟨t,ht,q⟩:=h.fl (by rw[<-a];exact e);refine⟨t,ht,?_⟩;by_cases c:t=j
 ·subst c;rw[cy];exact b q
 ·rw[(df X.S p t c).1];exact q
theorem iR.TB(h:iR M k X)(a:X.D.busy=true):0<=X.D.at_/\X.D.at_<M.K.E:=by obtain⟨t,ht,e⟩:=h.bz a;exact(h.dr t ht e).2.2.TB
theorem sf(hj:j<M.n):Gc M ⟨C,D,aa X.S j 0 p⟩+(4*M.K.E+5)*lF M X+i6 M (X.S j 0)+f7 M.K X.C+dW M X.C.A X.D=Gc M X+(4*M.K.E+5)*lF M ⟨C,D,aa X.S j 0 p⟩+i6 M p+f7 M.K C+dW M C.A D:=by
 have a:=cd (f:=λt=>i6 M (X.S t 0)) (g:=λt=>i6 M (aa X.S j 0 p t 0)) hj λi _ e=>by rw[(df X.S p i e).1]
 simp only[cy] at a;unfold Gc;show _+sm (λt=>i6 M (aa X.S j 0 p t 0)) M.n+f7 M.K C+dW M C.A D+_+_+_+_=_;omega
theorem iR.tail(b:X.S j 0≠0)(h1:X.S j 0≠10)(hj:j<M.n)(g:¬ey M X j)(d:iR M (k+1) ⟨C,D,aa X.S j 0 p⟩)(f:X.S j 0<10->1<=p/\p<=10)(a:10<X.S j 0->p=0\/10<p)
 (i:(4*M.K.E+5)*lF M ⟨C,D,aa X.S j 0 p⟩+i6 M p+f7 M.K C+dW M C.A D<(4*M.K.E+5)*lF M X+i6 M (X.S j 0)+f7 M.K X.C+dW M X.C.A X.D):ud M (iR M (k+1)) (Gc M) (ey M) X ⟨C,D,aa X.S j 0 p⟩ j (p==10||p==0):=
 ⟨d,⟨λ_ _=>.inr (by have:=sf (X:=X) (C:=C) (D:=D) (p:=p) hj;omega),λh=>am h g⟩,jA b h1 (λt e=>(df X.S p t e).1) (cy _ _ _) f a,eZ _ _ _⟩
theorem iR.Ty(h:iR M k X)(hj:j<M.n)(f:X.C.TS j 0=10):∀t,t<M.n->t≠j->X.S t 0≠5/\X.S t 0≠6/\X.S t 0≠9:=λt ht d=>by
 have a:=h.th t ht;have b:X.C.TS t 0≠10:=λe=>d (h.g.co.Uv (t:=t) (u:=j) ht hj aO aO);unfold d9 at a;omega
theorem EH(a:∀t,t<M.n->t≠j->T t 0≠pc)(hj:T j 0≠pc):kO M T pc=0:=eG λt ht=>ac (by
 by_cases e:t=j
 ·subst e;exact hj
 ·exact a t ht e)
theorem iR.holds(h:iR M k X)(hj:j<M.n)(a:X.C.TS j 0=10)(C:CS)(D:DR)(p:Int):lF M ⟨C,D,aa X.S j 0 p⟩=if p=5 then(if ob M C.A 0≠0 then gK M (aa X.S j 0 p) - 1 else gK M (aa X.S j 0 p)) else if p=6 then(if ob M C.A D.at_≠0 then gK M (aa X.S j 0 p) - 1 else gK M (aa X.S j 0 p)) else if p=9/\D.second=true/\D.out≠gI M C.A D.at_.toNat/\ob M C.A 0=0 then gK M (aa X.S j 0 p)+1 else gK M (aa X.S j 0 p):=by
 have hs:=h.Ty hj a;have z:∀pc:Int,pc=5\/pc=6\/pc=9->(kO M (aa X.S j 0 p) pc≠0↔p=pc):=λpc b=>by
  rw[uN];constructor
  ·rintro⟨t,ht,e⟩;by_cases c:t=j
   ·subst c;rw[cy] at e;exact e
   ·rw[(df X.S p t c).1] at e;have:=hs t ht c;omega
  ·rintro rfl;exact⟨j,hj,cy _ _ _⟩
 unfold lF;simp only[z 5 aO,z 6 aO,z 9 aO]
theorem od(hj:j<M.n)(b:p≠0)(a:X.S j 0≠0):gK M (aa X.S j 0 p)=gK M X.S:=by
 have:=oe (T:=aa X.S j 0 p) hj (df X.S p);simp only[cy,eZ,b,a,ne_eq,not_false_eq_true,and_true] at this;omega
theorem iR.Tx(h:iR M k X)(hj:j<M.n)(i:X.S j 0≠5/\X.S j 0≠6/\X.S j 0≠9/\X.S j 0≠0)(g:p≠5/\p≠6/\p≠9/\(p≠0\/X.S j 1≠1))(a:∀v,v<M.K.E->gI M C.A v=gI M X.C.A v/\gO M C.A v=gO M X.C.A v):lF M ⟨C,X.D,aa X.S j 0 p⟩=lF M X:=by
 have e:∀pc:Int,pc≠p->X.S j 0≠pc->kO M (aa X.S j 0 p) pc=kO M X.S pc:=λpc h1 h2=>by
  have:=se (T:=aa X.S j 0 p) (pc:=pc) hj λt ht=>(df X.S p t ht).1;rw[cy,ac h2,ac (Ne.symm h1)] at this;exact this
 have f:gK M (aa X.S j 0 p)=gK M X.S:=by
  have:=oe (T:=aa X.S j 0 p) hj (df X.S p);rw[cy,eZ] at this;have d:(X.S j 1=1/\p≠0)↔(X.S j 1=1/\X.S j 0≠0):=by omega
  simp only[d] at this;omega
 unfold lF;simp only[e 5 aO aO,e 6 aO aO,e 9 aO aO,f,l8 a];by_cases c:kO M X.S 9≠0
 ·obtain⟨t,ht,q⟩:=uN.1 c;have b:=(h.dr t ht (.inl q)).2.2.TB;rw[(a X.D.at_.toNat aO).1]
 ·simp[c]
theorem d9.TC{r c c':Int}{R:Bool}(h:d9 pc r c)(b:pc=7/\a=8\/pc=13/\a=0)(s1:1<=c->c<10->1<=c'/\c'<=10/\(R=true↔c'=10))(s2:10<c->(c'=0\/10<c')/\(R=true↔c'=0)):
 d9 (if R then a else pc) r c'/\r=0/\c≠0/\c≠10:=by
 unfold d9 at h⊢;rcases b with⟨rfl,rfl⟩|⟨rfl,rfl⟩<;>cases R<;>simp at h s1 s2⊢<;>omega
theorem iR.TC(h:iR M k X)(G:k<100000)(hj:j<M.n){l:Int}(x:X.S j 0=7/\l=8\/X.S j 0=13/\l=0):
 ud M (iR M (k+1)) (Gc M) (ey M) X ⟨ay M.K X.C j,X.D,aa X.S j 0 (if a5 M.K X.C j then l else X.S j 0)⟩ j ((if a5 M.K X.C j then l else X.S j 0)==10||(if a5 M.K X.C j then l else X.S j 0)==0):=by
 have hl:X.C.A.ops<1000000000:=by have:=h.ops;omega
 have s:=h.g.co.step hl (t:=j) hj;obtain⟨w1,w2⟩:=h.g.keeps s.out;have ht:=h.th j hj;have sc:1<=X.C.TS j 0->X.C.TS j 0<10->_:=s.ok.SX;have y:=s.ok.going;obtain⟨m,o,c0⟩:=ht.TC x sc y;clear ht;generalize I:a5 M.K X.C j=R at*;obtain⟨p,f⟩:∃p:Int,p=(if R=true then l else X.S j 0):=⟨_,rfl⟩
 rw[<-f] at m⊢;have J:p≠5/\p≠6/\p≠9:=by cases R<;>simp at f<;>omega
 have z:iM 1 M ⟨ay M.K X.C j,X.D,aa X.S j 0 p⟩:=h.g.re hj (a:=0) (b:=0) s.j (df _ _) (λv hv=>by rw[(w1 v hv).1];split<;>simp) (λv hv=>by rw[(w1 v hv).2];split<;>simp) (by rw[cy,eZ,o,gC aO,gC aO]) aO (by have:=s.ops;omega);have E:=h.of G z s.ops.2 m s.ok.others (h.lets aO aO λv hv=>by rw[(w1 v hv).2];exact pK _) (h.flag hj (λe=>by unfold jl at e;omega) w2);have H:=sf (X:=X) (C:=ay M.K X.C j) (D:=X.D) (p:=p) hj;have hd:dW M (ay M.K X.C j).A X.D=dW M X.C.A X.D:=by
  cases u:X.D.busy
  ·unfold dW;simp[u]
  ·have q:=w1 X.D.at_.toNat (by have:=h.TB u;omega);exact ju q.1 q.2
 have F:=h.Tx (C:=ay M.K X.C j) (p:=p) hj aO aO w1;rw[hd,F] at H;have hn:i6 M p<=i6 M (X.S j 0):=by
  cases R
  ·simp at f;rw[f];exact ba _
  ·simp at f;unfold i6;rcases x with⟨a,b⟩|⟨a,b⟩<;>rw[a,f,b]<;>simp
 refine⟨E,⟨λ_ _=>?_,λhs=>?_⟩,jA aO aO (λt e=>(df X.S p t e).1) (cy _ _ _) (by cases R<;>simp at f<;>omega) (by cases R<;>simp at f<;>omega),eZ _ _ _⟩
 ·rcases s.w.sink c0.1 c0.2 with a|a
  ·exact .inl (.inl ⟨by omega,a⟩)
  ·exact .inr aO
 ·have hs:bw M.K X.C j:=by unfold ey at hs;rcases hs with a|a|a;exact a.2;omega;omega
  obtain⟨a,b⟩:=s.w.idle hs;have n:p=X.S j 0:=by
   have e:=(b j hj).2;cases R
   ·simpa using f
   ·have K:=h.g.co.RC (t:=j) hj;simp at sc y;omega
  refine⟨by omega,λi hi=>?_⟩;have g:aa X.S j 0 p i 0=X.S i 0:=by
   by_cases e:i=j
   ·subst e;rw[cy,n]
   ·exact(df X.S p i e).1
  refine⟨λw=>?_,by show aa X.S j 0 p i 0=0↔_;rw[g],by show aa X.S j 0 p i 0=10↔_;rw[g]⟩;unfold ey at w⊢;dsimp only;rw[g,w2];rcases w with⟨c1,c2⟩|⟨c1,c2⟩|c
  ·exact .inl ⟨c1,(b i hi).1 c2⟩
  ·have d:=(h.dr i hi (.inr c1)).2.2.TB;have e:=w1 X.D.at_.toNat aO;exact .inr (.inl ⟨c1,by rw[e.1,e.2];exact c2⟩)
  ·exact .inr (.inr c)
theorem j7(h:ey M X j):X.S j 0=7\/X.S j 0=13\/X.S j 0=6\/X.S j 0=2:=by unfold ey at h;omega
theorem Ly(e:∀v,v<M.K.E->gI M X.C.A v≠gO M X.C.A v->gI M B v≠gO M B v)(f:ob M X.C.A a≠0):ob M B a≠0:=by
 obtain⟨v,hv,b,d⟩:=iF.1 f;exact iF.2 ⟨v,hv,b,e v hv d⟩
theorem h6(hj:j<M.n)(h1:pc≠p)(h2:X.S j 0≠pc):kO M (aa X.S j 0 p) pc=kO M X.S pc:=by
 have:=se (T:=aa X.S j 0 p) (pc:=pc) hj λt ht=>(df X.S p t ht).1;rw[cy,ac h2,ac (Ne.symm h1)] at this;exact this
theorem iR.Uw(h:iR M k X)(hj:j<M.n)(m:X.S j 0=1)(D:DR)(l:D=X.D)(g:∀v,gI M C.A v=gI M X.C.A v+(if v=M.K.nd j then 1 else 0))(i:∀v,gO M C.A v=gO M X.C.A v):lF M ⟨C,D,aa X.S j 0 2⟩<=lF M X:=by
 subst l;have hv:=(h.g.co.L.nd j hj).1;have f:ob M C.A 0≠0:=iF.2 ⟨M.K.nd j,hv,by omega,by have:=h.g.le hv;rw[g,i,ad rfl];omega⟩;have hm:ob M X.C.A X.D.at_≠0->ob M C.A X.D.at_≠0:=Ly λv hv e=>by have:=h.g.le hv;rw[g,i];split<;>omega
 unfold lF;simp only[h6 (X:=X) (p:=2) (pc:=5) hj aO aO,h6 (X:=X) (p:=2) (pc:=6) hj aO aO,h6 (X:=X) (p:=2) (pc:=9) hj aO aO,od (X:=X) (p:=2) hj aO aO];by_cases a:kO M X.S 5≠0
 ·rw[ad a,ad a,ad f];split<;>omega
 ·rw[ac a,ac a];by_cases b:kO M X.S 6≠0
  ·rw[ad b,ad b];by_cases d:ob M X.C.A X.D.at_≠0
   ·rw[ad d,ad (hm d)];exact ba _
   ·rw[ac d];split<;>omega
  ·rw[ac b,ac b,ac λe=>f e.2.2.2];split<;>omega
theorem iR.UF(h:iR M k X)(hj:j<M.n)(m:X.S j 0=11/\X.S j 1=1)(D:DR)(C:CS):lF M ⟨C,D,aa X.S j 0 0⟩<=lF M X:=by
 have hv:=(h.g.co.L.nd j hj).1;have i:ob M X.C.A 0≠0:=iF.2 ⟨M.K.nd j,hv,by omega,λe=>by
  have a:=(h.g.g _ hv).1;have b:=mf (f:=λt=>if M.K.nd t=M.K.nd j/\kw 1 (X.S t 0) (X.S t 1)=true then 1 else 0) hj;simp only[m,true_and] at b;rw[ad (by rfl)] at b;unfold Jx at a;omega⟩
 have l:=oe (T:=aa X.S j 0 0) hj (df X.S 0);simp only[cy,eZ,m] at l;unfold lF;simp only[h6 (X:=X) (p:=0) (pc:=5) hj aO aO,h6 (X:=X) (p:=0) (pc:=6) hj aO aO,h6 (X:=X) (p:=0) (pc:=9) hj aO aO];simp at l;by_cases d:kO M X.S 5≠0
 ·rw[ad d,ad d,ad i];split<;>omega
 ·rw[ac d,ac d];by_cases g:kO M X.S 6≠0
  ·rw[ad g,ad g];split<;>split<;>omega
  ·rw[ac g,ac g,ac λe:_/\_/\_/\ob M X.C.A 0=0=>i e.2.2.2];split<;>omega
theorem iR.step(h:iR M k X)(N:k<100000)(hj:j<M.n):ud M (iR M (k+1)) (Gc M) (ey M) X (iG M X j) j (jB M X j):=by
 have hl:X.C.A.ops<1000000000:=by have:=h.ops;omega
 have ht:=h.th j hj;have l:=h.g.lay;by_cases ci:X.S j 0=0\/X.S j 0=10
 ·have o:iG M X j=X:=by unfold iG bi;rcases ci with c|c<;>simp[c]
  have s:jB M X j=false:=by unfold jB bi;rcases ci with c|c<;>simp[c]
  rw[o,s];exact⟨{h with kk:=by omega,ops:=by have:=h.ops;omega},⟨λa b=>by omega,λa=>by have:=j7 a;omega⟩,⟨λ_ _=>rfl,λa b=>by omega,λa=>by omega,λ_=>⟨rfl,rfl⟩⟩,λ_=>rfl⟩
 have mv:bi X j=true:=by unfold bi;simp;omega
 have w:∀{C:CS}{D:DR}{p:Int},jm M X j=(⟨C,D,X.S⟩,p)->iG M X j=⟨C,D,aa X.S j 0 p⟩/\jB M X j=(p==10||p==0):=λe=>by unfold iG jB;rw[mv,e];exact⟨rfl,rfl⟩
 have hs:X.S j 0≠2->X.S j 0≠6->X.S j 0≠7->X.S j 0≠13->¬ey M X j:=λ_ _ _ _ b=>by have:=j7 b;omega
 have L:X.C.A.has M.fl=true:=h.g.has aO;have n4:i6 M 0=0/\i6 M 1=6/\i6 M 2=4/\i6 M 5=4*M.K.E+9/\i6 M 6=2*M.K.E+8/\i6 M 8=2*M.K.E+8/\i6 M 9=5/\i6 M 10=3/\i6 M 11=2/\i6 M 12=2/\i6 M 13=1:=⟨rfl,rfl,rfl,rfl,rfl,rfl,rfl,rfl,rfl,rfl,rfl⟩
 have K:=h.TB;by_cases H:X.S j 1=1
 ·have W:X.C.TS j 0=0:=by unfold d9 at ht;omega
  have q3:X.S j 0=1\/X.S j 0=2\/X.S j 0=11:=by unfold d9 at ht;omega
  rcases q3 with q|q|q
  ·obtain⟨o,s⟩:=w (C:={X.C with A:=X.C.A.RF M.gf M.K.E (M.K.nd j) 0}) (D:=X.D) (p:=2) (by unfold jm uO;simp[q,H]);have i:=h.g.enter hl hj (p:=2) (by rw[q,H];rfl) (by rw[H];rfl);have d:=i.d X.D K;obtain⟨a1, -,a3,a4,R⟩:=h.g.add hl hj 0 aO;have kk:=h.Uw hj q X.D rfl (C:={X.C with A:=X.C.A.RF M.gf M.K.E (M.K.nd j) 0}) (λv=>by have:=a4 v;simpa using this) (λv=>by have:=R v;simpa using this);have kk:=qn (4*M.K.E+5) kk;rw[o,s];exact iR.tail aO aO hj (hs aO aO aO aO) (h.of N (i.g _) i.ops.2 (by rw[H];show d9 2 1 (X.C.TS j 0);rw[W];unfold d9;omega) (λ_ _=>rfl) (h.lets aO aO i.o) (h.flag hj (λe=>by unfold jl at e;omega) (a1.out _ aO))) aO aO (by rw[i.w,q];dsimp only at kk⊢;omega)
  ·have n:=(eE h.g.co.fit L (b:=M.fl) (m:=1) aO aO).1;by_cases f0:X.C.A.get M.fl=0
   ·obtain⟨o,s⟩:=w (C:={X.C with A:=X.C.A.load M.fl}) (D:=X.D) (p:=10) (by unfold jm uO;simp[q,H,f0]);have i:=h.g.quiet hl hj (p:=10) (by rw[q,H];rfl) n (ba _) (h.g.flag n);have d:=i.d X.D K;have kk:=h.Tx (C:={X.C with A:=X.C.A.load M.fl}) (p:=10) hj aO aO (h.g.flag n);rw[o,s];exact iR.tail aO aO hj (λb=>by unfold ey at b;omega) (h.of N (i.g _) i.ops.2 (by rw[H];show d9 10 1 (X.C.TS j 0);rw[W];unfold d9;omega) (λ_ _=>rfl) (h.lets aO aO i.o) (h.flag hj (λe=>by unfold jl at e;omega) aw)) aO aO (by rw[i.w,q,kk];dsimp only;omega)
   ·obtain⟨o,s⟩:=w (C:={X.C with A:=X.C.A.load M.fl}) (D:=X.D) (p:=2) (by unfold jm uO;simp[q,H,f0]);have i:=h.g.quiet hl hj (p:=2) (by rw[q]) n (ba _) (h.g.flag n);have d:=i.d X.D K;have kk:=h.Tx (C:={X.C with A:=X.C.A.load M.fl}) (p:=2) hj aO aO (h.g.flag n);have hw:=sf (X:=X) (C:={X.C with A:=X.C.A.load M.fl}) (D:=X.D) (p:=2) hj;rw[i.w,kk,q] at hw;rw[o,s];dsimp only at hw d⊢;refine⟨h.of N (i.g _) i.ops.2 (by rw[<-q];exact ht) (λ_ _=>rfl) (h.lets aO aO i.o) (h.flag hj (λe=>by unfold jl at e;omega) aw),⟨λ_ _=>.inl (.inr (.inr ⟨q,f0⟩)),λ_=>⟨by omega,λF hi=>?_⟩⟩,jA aO aO (λt e=>(df X.S 2 t e).1) (cy _ _ _) aO aO,eZ _ _ _⟩;have I:aa X.S j 0 2 F 0=X.S F 0:=by
     by_cases e:F=j
     ·subst e;rw[cy,q]
     ·exact(df X.S 2 F e).1
    refine⟨λQ=>?_,by show aa X.S j 0 2 F 0=0↔_;rw[I],by show aa X.S j 0 2 F 0=10↔_;rw[I]⟩;unfold ey at Q⊢;dsimp only;rw[I,aw];rcases Q with⟨d1,d2⟩|⟨d1,d2⟩|d1
    ·exact .inl ⟨d1,(i.s F hi).2 d2⟩
    ·have dd:=(h.dr F hi (.inr d1)).2.2.TB;have e:=h.g.flag n X.D.at_.toNat aO;exact .inr (.inl ⟨d1,by rw[e.1,e.2];exact d2⟩)
    ·exact .inr (.inr d1)
  ·obtain⟨o,s⟩:=w (C:={X.C with A:=X.C.A.RF M.gf M.K.E (M.K.nd j) 1}) (D:=X.D) (p:=0) (by unfold jm uO;simp[q,H]);have i:=h.g.exit hl hj (p:=0) (by rw[q,H];rfl) (by rw[H];rfl);have d:=i.d X.D K;have a1:=(h.g.add hl hj 1 aO).1;have a3:=(h.g.add hl hj 1 aO).2.2.1;have kk:=qn (4*M.K.E+5) (h.UF hj ⟨q,H⟩ X.D {X.C with A:=X.C.A.RF M.gf M.K.E (M.K.nd j) 1});rw[o,s];exact iR.tail aO aO hj (hs aO aO aO aO) (h.of N (i.g _) i.ops.2 (by rw[H];show d9 0 1 (X.C.TS j 0);rw[W];unfold d9;omega) (λ_ _=>rfl) (h.lets aO aO i.o) (h.flag hj (λe=>by unfold jl at e;omega) (a1.out _ aO))) aO aO (by rw[i.w,q];dsimp only at kk⊢;omega)
 ·have O:X.S j 1=0:=by unfold d9 at ht;omega
  by_cases q2:X.S j 0=7\/X.S j 0=13
  ·obtain⟨q',hq⟩:∃q':Int,X.S j 0=7/\q'=8\/X.S j 0=13/\q'=0:=by
    rcases q2 with q|q
    ·exact⟨8,.inl ⟨q,rfl⟩⟩
    ·exact⟨0,.inr ⟨q,rfl⟩⟩
   obtain⟨o,s⟩:=w (C:=ay M.K X.C j) (D:=X.D) (p:=if a5 M.K X.C j then q' else X.S j 0) (by unfold jm og;rcases hq with⟨q,rfl⟩|⟨q,rfl⟩<;>simp[q,O]);rw[o,s];exact h.TC N hj hq
  have W:X.C.TS j 0=10:=by unfold d9 at ht;omega
  have Y:=h.holds hj W;have P:lF M X=if X.S j 0=5 then(if ob M X.C.A 0≠0 then gK M X.S - 1 else gK M X.S) else if X.S j 0=6 then(if ob M X.C.A X.D.at_≠0 then gK M X.S - 1 else gK M X.S) else if X.S j 0=9/\X.D.second=true/\X.D.out≠gI M X.C.A X.D.at_.toNat/\ob M X.C.A 0=0 then gK M X.S+1 else gK M X.S:=by
   have:=Y X.C X.D (X.S j 0);rw[oj] at this;exact this
  have rI:∀p:Int,kw 1 p (X.S j 1)=kw 1 (X.S j 0) (X.S j 1):=λp=>by rw[O,gC aO,gC aO]
  have rR:∀p:Int,p≠0->gK M (aa X.S j 0 p)=gK M X.S:=λp hp=>od hj hp aO;have rP:∀p:Int,p=5\/p=6\/p=8\/p=9\/p=10->d9 p (X.S j 1) (X.C.TS j 0):=λp hp=>by rw[O,W];unfold d9;omega
  have so:=h.Ty hj W;have dn:∀(D:DR)(B:AR)(p:Int),p=5\/p=8\/p=10\/p=13->D.busy=false->(∀t,t<M.n->aa X.S j 0 p t 0=9\/aa X.S j 0 p t 0=6->D.busy=true/\(D.once=true↔aa X.S j 0 p t 0=9)/\DJ M B D)/\(D.busy=true->∃t,t<M.n/\(aa X.S j 0 p t 0=9\/aa X.S j 0 p t 0=6)):=λD B p hp U=>⟨λt ht e=>by
   by_cases c:t=j
   ·subst c;rw[cy] at e;omega
   ·rw[(df X.S p t c).1] at e;have:=so t ht c;omega,λe=>by rw[U] at e;cases e⟩
  have dy:∀(D:DR)(B:AR)(p:Int),p=9\/p=6->D.busy=true->(D.once=true↔p=9)->DJ M B D->(∀t,t<M.n->aa X.S j 0 p t 0=9\/aa X.S j 0 p t 0=6->D.busy=true/\(D.once=true↔aa X.S j 0 p t 0=9)/\DJ M B D)/\(D.busy=true->∃t,t<M.n/\(aa X.S j 0 p t 0=9\/aa X.S j 0 p t 0=6)):=λD B p hp U ho hJ=>⟨λt ht e=>by
   by_cases c:t=j
   ·subst c;rw[cy];exact⟨U,ho,hJ⟩
   ·rw[(df X.S p t c).1] at e;have:=so t ht c;omega,λ_=>⟨j,hj,by rw[cy];exact hp⟩⟩
  have fj:∀p:Int,p=5\/p=9\/p=10->∃t,t<M.n/\jl (aa X.S j 0 p t 0) (X.S t 1):=λp hp=>⟨j,hj,by rw[cy,O];unfold jl;omega⟩
  have H:X.S j 0=5\/X.S j 0=6\/X.S j 0=8\/X.S j 0=9\/X.S j 0=12:=by unfold d9 at ht;omega
  rcases H with q|q|q|q|q
  ·have n:=(cV (v:=0) h.g.co.fit L (b:=M.fl) (m:=1) aO aO).1;have g0:(X.C.A.store M.fl 0).get M.fl=0:=(bU h.g.co.fit.1 L).trans (ad rfl);obtain⟨o,s⟩:=w (C:={X.C with A:=X.C.A.store M.fl 0}) (D:=X.D.Rw 0 M.K.E false) (p:=6) (by unfold jm og;simp[q,O]);have i:=h.g.quiet hl hj (rI 6) n (ba _) (h.g.flag n);obtain⟨b1,b2,b3,b5,b6,b4⟩:=DJ.Rw h.g X.D false (X.C.A.store M.fl 0);have k1:=Y {X.C with A:=X.C.A.store M.fl 0} (X.D.Rw 0 M.K.E false) 6;rw[ac aO,ad rfl,b6,rR 6 aO,l8 (h.g.flag n)] at k1;rw[ad q] at P;rw[o,s];exact iR.tail aO aO hj (hs aO aO aO aO) (h.of N (i.g _) i.ops.2 (rP 6 aO) (λ_ _=>rfl) (dy _ _ 6 aO b2 (by rw[b3];simp) b1) (λe=>am g0 e)) aO aO (by rw[i.w,q,k1,P];dsimp only;omega)
  ·obtain⟨U,ho,hD⟩:=h.dr j hj (.inr q);have ho:X.D.once=false:=by
    cases e:X.D.once
    ·rfl
    ·have:=ho.1 e;omega
   obtain⟨⟨b,n,hb'⟩,E,eC,eS,G⟩:=DJ.go h.g hD U;have x:∀v,v<M.K.E->gI M (be M X).C.A v=gI M X.C.A v/\gO M (be M X).C.A v=gO M X.C.A v:=λv _=>⟨E _,E _⟩
   rw[ac aO,ad q] at P;rcases G with⟨V,c1,c2,c3,J, -⟩|⟨V,c1, -, -,J⟩
   ·obtain⟨o,s⟩:=w (C:={X.C with A:=(be M X).C.A}) (D:=(be M X).D) (p:=6) (by rw[<-eC,<-eS];unfold jm og;simp[q,O,V]);have i:=h.g.quiet hl hj (rI 6) n aO x;have hw:=sf (X:=X) (C:={X.C with A:=(be M X).C.A}) (D:=(be M X).D) (p:=6) hj;have k1:=Y {X.C with A:=(be M X).C.A} (be M X).D 6;rw[ac aO,ad rfl,rR 6 aO,l8 x] at k1;have bb:(ob M X.C.A (be M X).D.at_≠0↔ob M X.C.A X.D.at_≠0):=by
     have key:((be M X).D.at_=X.D.at_\/(be M X).D.at_=X.D.at_+1/\gI M X.C.A X.D.at_.toNat=gO M X.C.A X.D.at_.toNat)->(ob M X.C.A (be M X).D.at_≠0↔ob M X.C.A X.D.at_≠0):=λe=>by
      rcases e with e|⟨e,f⟩
      ·rw[e]
      ·rw[e,iF,iF];constructor
       ·rintro⟨v,hv,a1,a2⟩;exact⟨v,hv,by omega,a2⟩
       ·rintro⟨v,hv,a1,a2⟩;refine⟨v,hv,?_,a2⟩;by_cases g:(v:Int)=X.D.at_
        ·rw[<-g,cH] at f;exact am f a2
        ·omega
     rcases J with⟨e, -⟩|⟨-,e, -⟩
     ·exact key (.inl e)
     ·exact key e
    have k2:lF M ⟨{X.C with A:=(be M X).C.A},(be M X).D,aa X.S j 0 6⟩=lF M X:=by
     rw[k1,P];by_cases c:ob M X.C.A X.D.at_≠0
     ·rw[ad c,ad (bb.2 c)]
     ·rw[ac c,ac λe=>c (bb.1 e)]
    rw[i.w,q,k2] at hw;have dd:dW M (be M X).C.A (be M X).D=dW M X.C.A (be M X).D:=ju (E _) (E _);rw[o,s];dsimp only at hw⊢;refine⟨h.of N (i.g _) i.ops.2 (rP 6 aO) (λ_ _=>rfl) (dy _ _ 6 aO c1 (by rw[c2,ho];simp) (c3.same (za (E _).symm))) (λe=>h.flag hj (λe=>by unfold jl at e;omega) (E _) e),⟨λ_ _=>?_,λbB=>?_⟩,jA aO aO (λt e=>(df X.S 6 t e).1) (cy _ _ _) aO aO,eZ _ _ _⟩
    ·rcases J with⟨-,y, -⟩|⟨-, -,c6⟩
     ·exact .inl (.inr (.inl ⟨q,y⟩))
     ·exact .inr aO
    ·rcases J with⟨y, -, -,c6⟩|⟨y, -⟩
     ·refine⟨by omega,λF hi=>?_⟩;have I:aa X.S j 0 6 F 0=X.S F 0:=by
       by_cases e:F=j
       ·subst e;rw[cy,q]
       ·exact(df X.S 6 F e).1
      refine⟨λQ=>?_,by show aa X.S j 0 6 F 0=0↔_;rw[I],by show aa X.S j 0 6 F 0=10↔_;rw[I]⟩;unfold ey at Q⊢;dsimp only;rw[I,y,E];rcases Q with⟨d1,d2⟩|⟨d1,d2⟩|d1
      ·exact .inl ⟨d1,(i.s F hi).2 d2⟩
      ·exact .inr (.inl ⟨d1,by unfold gI gO;rw[E,E];exact d2⟩)
      ·exact .inr (.inr d1)
     ·rcases y with y|y
      ·rw[ho] at y;cases y
      ·unfold ey at bB;rcases bB with a|a|a
       ·omega
       ·exact am y a.2
       ·omega
   ·rcases J with⟨-,c7,c6⟩|⟨-,y, -⟩
    ·obtain⟨o,s⟩:=w (C:={X.C with A:=(be M X).C.A}) (D:=(be M X).D) (p:=8) (by rw[<-eC,<-eS];unfold jm og;simp[q,O,V]);have i:=h.g.quiet hl hj (rI 8) n aO x;have d0:dW M (be M X).C.A (be M X).D=0:=by unfold dW;simp[c1]
     have d1:=J7 (A:=X.C.A) U (K U).2;have k1:=Y {X.C with A:=(be M X).C.A} (be M X).D 8;rw[ac aO,ac aO,ac (λe=>by omega),rR 8 aO] at k1;have z:ob M X.C.A X.D.at_=0:=by
      by_cases c:ob M X.C.A X.D.at_=0
      ·exact c
      ·obtain⟨v,hv,a1,a2⟩:=iF.1 c;have:X.D.at_=v:=by omega
       rw[this,cH] at c6;exact am c6 a2
     rw[ac (λe=>e z)] at P;rw[o,s];exact iR.tail aO aO hj (λa=>by unfold ey at a;rcases a with a|a|a;omega;exact a.2 c6;omega) (h.of N (i.g _) i.ops.2 (rP 8 aO) (λ_ _=>rfl) (dn _ _ 8 aO c1) (λe=>h.flag hj (λe=>by unfold jl at e;omega) (E _) e)) aO aO (by rw[i.w,q,k1,P];dsimp only;omega)
    ·rw[ho] at y;cases y
  ·have n:=(cV (v:=1) h.g.co.fit L (b:=M.fl) (m:=1) aO aO).1;obtain⟨o,s⟩:=w (C:={X.C with A:=X.C.A.store M.fl 1}) (D:=X.D.Rw 0 M.K.E true) (p:=9) (by unfold jm og;simp[q,O]);have i:=h.g.quiet hl hj (rI 9) n (ba _) (h.g.flag n);obtain⟨b1,b2,b3,b5,b6,b4⟩:=DJ.Rw h.g X.D true (X.C.A.store M.fl 1);have k1:=Y {X.C with A:=X.C.A.store M.fl 1} (X.D.Rw 0 M.K.E true) 9;rw[ac aO,ac aO,ac (λe=>by rw[b5] at e;exact am e.2.1 aS),rR 9 aO] at k1;rw[ac aO,ac aO,ac (λe=>by omega)] at P;rw[o,s];exact iR.tail aO aO hj (hs aO aO aO aO) (h.of N (i.g _) i.ops.2 (rP 9 aO) (λ_ _=>rfl) (dy _ _ 9 aO b2 (by rw[b3];simp) b1) (λ_=>fj 9 aO)) aO aO (by rw[i.w,q,k1,P];dsimp only;omega)
  ·obtain⟨U,ho,hD⟩:=h.dr j hj (.inl q);have ho:X.D.once=true:=ho.2 q;obtain⟨⟨b,n,hb'⟩,E,eC,eS,G⟩:=DJ.go h.g hD U;have x:∀v,v<M.K.E->gI M (be M X).C.A v=gI M X.C.A v/\gO M (be M X).C.A v=gO M X.C.A v:=λv _=>⟨E _,E _⟩
   have Z:¬ey M X j:=λa=>by have:=j7 a;omega
   rw[ac aO,ac aO] at P;rcases G with⟨V,c1,c2,c3,J,y⟩|⟨V,c1,c2, -,J⟩
   ·obtain⟨o,s⟩:=w (C:={X.C with A:=(be M X).C.A}) (D:=(be M X).D) (p:=9) (by rw[<-eC,<-eS];unfold jm og;simp[q,O,V]);have i:=h.g.quiet hl hj (rI 9) n aO x;have k1:=Y {X.C with A:=(be M X).C.A} (be M X).D 9;rw[ac aO,ac aO,rR 9 aO,l8 x] at k1;rw[ac (λe=>by
     obtain⟨-,o,s,e3⟩:=e;obtain⟨f1,f2,f3⟩:=y o;refine am e3 (iF.2 ⟨X.D.at_.toNat,by have:=hD.TB;omega,by have:=hD.TB;omega,λe=>s ?_⟩);rw[f2,f3];unfold gI at*;rw[E];exact e.symm)] at k1
    have kl:gK M X.S<=lF M X:=by rw[P];split<;>omega
    have kl:=qn (4*M.K.E+5) kl;have dd:dW M (be M X).C.A (be M X).D=dW M X.C.A (be M X).D:=ju (E _) (E _);have dl:dW M X.C.A (be M X).D<dW M X.C.A X.D:=by
     rcases J with⟨-, -,e, -⟩|⟨-, -,e⟩
     ·rw[ho] at e;cases e
     ·exact e
    rw[o,s];exact iR.tail aO aO hj Z (h.of N (i.g _) i.ops.2 (rP 9 aO) (λ_ _=>rfl) (dy _ _ 9 aO c1 (by rw[c2,ho];simp) (c3.same (za (E _).symm))) (λ_=>fj 9 aO)) aO aO (by rw[i.w,q,k1];dsimp only;omega)
   ·have d0:dW M (be M X).C.A (be M X).D=0:=by unfold dW;simp[c1]
    rcases J with⟨J, -, -⟩|⟨J, -,y⟩
    ·obtain⟨o,s⟩:=w (C:={X.C with A:=(be M X).C.A}) (D:=(be M X).D) (p:=10) (by rw[<-eC,<-eS];unfold jm og;simp[q,O,V,J]);have i:=h.g.quiet hl hj (rI 10) n aO x;have k1:=Y {X.C with A:=(be M X).C.A} (be M X).D 10;rw[ac aO,ac aO,ac (λe=>by omega),rR 10 aO] at k1;have kl:gK M X.S<=lF M X:=by rw[P];split<;>omega
     have kl:=qn (4*M.K.E+5) kl;rw[o,s];exact iR.tail aO aO hj Z (h.of N (i.g _) i.ops.2 (rP 10 aO) (λ_ _=>rfl) (dn _ _ 10 aO c1) (λ_=>fj 10 aO)) aO aO (by rw[i.w,q,k1];dsimp only;omega)
    ·obtain⟨o,s⟩:=w (C:={X.C with A:=(be M X).C.A}) (D:=(be M X).D) (p:=5) (by rw[<-eC,<-eS];unfold jm og;simp[q,O,V,J]);have i:=h.g.quiet hl hj (rI 5) n aO x;have k1:=Y {X.C with A:=(be M X).C.A} (be M X).D 5;rw[ad rfl,rR 5 aO,l8 x] at k1;have kk:lF M X=lF M ⟨{X.C with A:=(be M X).C.A},(be M X).D,aa X.S j 0 5⟩+1:=by
      rw[k1,P];by_cases z:ob M X.C.A 0=0
      ·rw[ad ⟨q,c2,y,z⟩,ac (λe=>e z)]
      ·rw[ac (λe=>z e.2.2.2),ad z];obtain⟨v,hv, -,e⟩:=iF.1 z;obtain⟨u,hu, -,f⟩:=h.g.inside hv e;have f:=sJ f;have:=mf (f:=λt=>if X.S t 1=1/\X.S t 0≠0 then 1 else 0) hu;rw[ad ⟨f.1,by omega⟩] at this;unfold gK;omega
     rw[o,s];exact iR.tail aO aO hj Z (h.of N (i.g _) i.ops.2 (rP 5 aO) (λ_ _=>rfl) (dn _ _ 5 aO c1) (λ_=>fj 5 aO)) aO aO (by rw[i.w,q,kk,Nat.mul_add];dsimp only;omega)
  ·have n:=(cV (v:=0) h.g.co.fit L (b:=M.fl) (m:=1) aO aO).1;have g0:(X.C.A.store M.fl 0).get M.fl=0:=(bU h.g.co.fit.1 L).trans (ad rfl);have i:=h.g.quiet hl hj (rI 13) n (ba _) (h.g.flag n);have d:=i.d X.D K;obtain⟨a1,a2,a3,a4,R⟩:=(i.g X.D).leaves hj W;have iw:=i.w;obtain⟨o,s⟩:=w (C:=bj M.K {X.C with A:=X.C.A.store M.fl 0} j) (D:=X.D) (p:=13) (by unfold jm og;simp[q,O]);have kk:=h.Tx (C:=bj M.K {X.C with A:=X.C.A.store M.fl 0} j) (p:=13) hj aO aO (λv hv=>by rw[show(bj M.K {X.C with A:=X.C.A.store M.fl 0} j).A=_ from R];exact h.g.flag n v hv);rw[o,s];dsimp only at a1 a2 a3 a4 R iw kk⊢;exact iR.tail aO aO hj (hs aO aO aO aO) (h.of N ((i.g X.D).swap a1 R) (by rw[R];exact i.ops.2) (by rw[O,a3];unfold d9;omega) a4 (h.lets aO aO (by rw[R];exact i.o)) (λe=>by rw[R] at e;exact am g0 e)) aO aO (by rw[R,q,kk];omega)
theorem iR.hand(h:iR M k X)(n:k<100000)(hj:j<M.n)(i:X.S j 0=0\/X.S j 0=10){T:Nat->Nat->Int}(a:∀t,t≠j->T t 0=X.S t 0/\T t 1=X.S t 1)(g:fu M.K C)(b:C.A=X.C.A)(d:∀t,t≠j->C.TS t 0=X.C.TS t 0)(h1:kw 1 (T j 0) (T j 1)=kw 1 (X.S j 0) (X.S j 1))(f:d9 (T j 0) (T j 1) (C.TS j 0))(m:T j 0≠9/\T j 0≠6)(l:jl (X.S j 0) (X.S j 1)->jl (T j 0) (T j 1)):iR M (k+1) ⟨C,X.D,T⟩:=
 ⟨by omega,by have:=h.ops;show C.A.ops<=_;rw[b];omega,(h.g.RT (D:=X.D) hj a h1).swap g b,λt ht=>by
  show d9 (T t 0) (T t 1) (C.TS t 0);by_cases e:t=j
  ·subst e;exact f
  ·rw[(a t e).1,(a t e).2,d t e];exact h.th t ht,λt ht e=>by
  have e:T t 0=9\/T t 0=6:=e;have:t≠j:=λc=>by subst c;omega
  show _/\(_↔T t 0=9)/\DJ M C.A X.D;rw[(a t this).1] at e⊢;rw[b];exact h.dr t ht e,λe=>by
  obtain⟨t,ht,c⟩:=h.bz e;exact⟨t,ht,by show T t 0=9\/T t 0=6;rw[(a t (λe=>by subst e;omega)).1];exact c⟩,λe=>by
  obtain⟨t,ht,q⟩:=h.fl (by rw[<-b];exact e);refine⟨t,ht,?_⟩;show jl (T t 0) (T t 1);by_cases c:t=j
  ·subst c;exact l q
  ·rw[(a t c).1,(a t c).2];exact q⟩
theorem LF(h:d9 p r c):i6 M p<=(if c=0 then 6 else 2*M.K.E+9)+(if p=5 then 2*M.K.E else 0):=by
 unfold d9 at h;by_cases e:c=0
 ·have a:p=0\/p=1\/p=2\/p=10\/p=11:=by omega
  rw[ad e];rcases a with rfl|rfl|rfl|rfl|rfl<;>simp[i6]
 ·have a:p=5\/p=6\/p=7\/p=8\/p=9\/p=10\/p=12\/p=13:=by omega
  rw[ac e];rcases a with rfl|rfl|rfl|rfl|rfl|rfl|rfl|rfl<;>simp[i6]<;>omega
theorem zV(hj:j<M.n)(h:∀i,i<M.n->i≠j->X.S i 0=0):sm (λt=>i6 M (X.S t 0)) M.n=i6 M (X.S j 0)/\gK M X.S<=(if X.S j 1=1 then 1 else 0)/\(X.S j 0≠5/\X.S j 0≠6/\X.S j 0≠9->lF M X=gK M X.S):=by
 refine⟨i8 (f:=λt=>i6 M (X.S t 0)) hj λi hi a=>by show i6 M (X.S i 0)=0;rw[h i hi a];rfl,?_,λq=>?_⟩
 ·have:=i8 (f:=λt=>if X.S t 1=1/\X.S t 0≠0 then 1 else 0) hj λi hi a=>ac λe=>e.2 (h i hi a);unfold gK;rw[this];split<;>split<;>omega
 ·have z:∀pc:Int,pc≠0->X.S j 0≠pc->kO M X.S pc=0:=λpc b h1=>EH (j:=j) (λt ht a e=>b (e.symm.trans (h t ht a))) h1;unfold lF;rw[z 5 aO q.1,z 6 aO q.2.1,z 9 aO q.2.2];simp
theorem zU(hj:j<M.n)(h:∀i,i<M.n->X.S i 0=0)(C:CS)(D:DR)(b:Int)(ha:a≠5/\a≠6/\a≠9):sm (λt=>i6 M (gh X.S j a b t 0)) M.n=i6 M a/\lF M ⟨C,D,gh X.S j a b⟩<=(if b=1 then 1 else 0):=by
 obtain⟨b1,d,b3⟩:=zV (X:=⟨C,D,gh X.S j a b⟩) hj λi hi e=>(mR X.S a b i e).1.trans (h i hi);dsimp only at b1 d b3;rw[(cA X.S j a b).1] at b1 b3;simp only[(cA X.S j a b).2] at d;exact⟨b1,by rw[b3 ha];exact d⟩
theorem iR.quiet(h:iR M k X)(b:∀t,t<M.n->X.S t 0≠9/\X.S t 0≠6)(A:AR):dW M A X.D=0:=by
 cases a:X.D.busy
 ·unfold dW;simp[a]
 ·obtain⟨t,ht,e⟩:=h.bz a;have:=b t ht;omega
theorem Of(M:cj):(py 1 M).Row (iR M) (Gc M) (ey M) where
 I:=λk s F h=>{h with kk:=by omega,ops:=by have:=h.ops;omega}
 V:=λk s h=>⟨h.g.co.Ug,λj hj=>by have:=h.th j hj;unfold d9 at this;unfold i7;omega⟩
 aR:=λs j _ hj m=>dc hj m
 aN:=λs j r m=>sk m
 aS:=λk s j r F h hj m=>by
  have m:s.S j 0=0:=m;have ht:=h.th j hj;have G:s.C.TS j 0=0:=by unfold d9 at ht;omega
  have Q:∀x,kw 1 0 x=false:=λx=>by unfold kw;simp
  show iR M (k+1) (cF 1 M s j r)/\(∃x:Int,_/\∀i:Nat,(cF 1 M s j r).S i 0=up (λi=>s.S i 0) j x i)/\(_->(cF 1 M s j r).S j 1=_)
  rw[j8 hj m];cases r
  ·obtain⟨a1, -,a3,R,U, -⟩:=h.g.asks hj G;exact⟨h.hand F hj (.inl m) (mR _ _ _) a1 U R (by rw[(cA _ _ _ _).1,(cA _ _ _ _).2,m,Q];rfl) (by rw[(cA _ _ _ _).1,(cA _ _ _ _).2,a3];unfold d9;omega) (by rw[(cA _ _ _ _).1];omega) (λe=>by unfold jl at e;omega),⟨7,by omega,pB _ _ _ _⟩,λ_=>(cA _ _ _ _).2⟩
  ·exact⟨h.hand F hj (.inl m) (mR _ _ _) h.g.co rfl (λ_ _=>rfl) (by rw[(cA _ _ _ _).1,(cA _ _ _ _).2,m,Q];rfl) (by rw[(cA _ _ _ _).1,(cA _ _ _ _).2,G];unfold d9;omega) (by rw[(cA _ _ _ _).1];omega) (λe=>by unfold jl at e;omega),⟨1,by omega,pB _ _ _ _⟩,λ_=>(cA _ _ _ _).2⟩
 lR:=λs j hj m=>dc hj m
 lN:=λs j m=>nt m
 lS:=λk s j F h hj m=>by
  have m:s.S j 0=10:=m;have ht:=h.th j hj;show iR M (k+1) (bJ M s j)/\∃x:Int,_/\∀i:Nat,(bJ M s j).S i 0=up (λi=>s.S i 0) j x i;rw[gR hj m];have P:s.S j 1=0/\s.C.TS j 0=10\/s.S j 1=1/\s.C.TS j 0=0:=by unfold d9 at ht;omega
  refine⟨h.hand F hj (.inr m) (df _ _) h.g.co rfl (λ_ _=>rfl) ?_ ?_ (by rw[cy];omega) (λe=>by rw[cy,eZ];unfold jl at e⊢;omega),_,by omega,JB _⟩
  ·rw[cy,eZ,m];rcases P with⟨e,_⟩|⟨e,_⟩<;>rw[e]<;>rfl
  ·rw[cy,eZ];rcases P with⟨e,f⟩|⟨e,f⟩<;>rw[e,f]<;>unfold d9<;>omega
 lW:=λk s j h hj m=>by
  have m:s.S j 0=10:=m;have ht:=h.th j hj;show Gc M (bJ M s j)<_;rw[gR hj m];have W:s.S j 1=0\/s.S j 1=1:=by unfold d9 at ht;omega
  have Z:=sf (X:=s) (C:=s.C) (D:=s.D) (p:=12 - s.S j 1) hj;have F:=h.Tx (C:=s.C) (p:=12 - s.S j 1) hj aO aO (λ_ _=>⟨rfl,rfl⟩);have e:i6 M (12 - s.S j 1)=2:=by rcases W with e|e<;>rw[e]<;>rfl
  have e2:i6 M (s.S j 0)=3:=by rw[m];rfl
  rw[F] at Z;show Gc M ⟨s.C,s.D,aa s.S j 0 (12 - s.S j 1)⟩<_;omega
 st:=λk s j F h hj=>by
  have a:=h.step F hj;exact⟨a.jj,a.w,a.ok,λ_=>a.r⟩
 pc:=λk s j h hj=>by have:=h.th j hj;unfold d9 at this;show 0<=s.S j 0;omega
 sp:=λs j h=>by have:=j7 h;show s.S j 0≠0/\s.S j 0≠10;omega
 stuck:=λk s h hs=>by
  have hs:∀j,j<M.n->s.S j 0=0\/s.S j 0=10\/ey M s j:=hs;by_cases c:∃j,j<M.n/\s.S j 0=10
  ·exact .inl c
  have nx:∀j,j<M.n->s.S j 0=0\/ey M s j:=λj hj=>by
   rcases hs j hj with a|a|a
   ·exact .inl a
   ·exact am ⟨j,hj,a⟩ c
   ·exact .inr a
  have n2:∀j,j<M.n->s.S j 0≠2:=λj hj e=>by
   have f0:s.C.A.get M.fl≠0:=by
    rcases nx j hj with a|a
    ·omega
    ·unfold ey at a;rcases a with a|a|a;omega;omega;exact a.2
   obtain⟨t,ht,q⟩:=h.fl f0;unfold jl at q;rcases nx t ht with a|a
   ·omega
   ·have:=j7 a;omega
  have H:∀j,j<M.n->s.S j 0=0/\s.C.TS j 0=0\/s.S j 0=6/\s.C.TS j 0=10/\gI M s.C.A s.D.at_.toNat≠gO M s.C.A s.D.at_.toNat\/(s.S j 0=7\/s.S j 0=13/\11<=s.C.TS j 0)/\bw M.K s.C j:=λj hj=>by
   have ht:=h.th j hj;have:=n2 j hj;rcases nx j hj with a|a
   ·unfold d9 at ht;omega
   ·unfold ey at a;unfold d9 at ht;rcases a with⟨a,b⟩|⟨a,b⟩|a
    ·exact .inr (.inr ⟨by omega,b⟩)
    ·exact .inr (.inl ⟨a,by omega,b⟩)
    ·omega
  have no:∀j,j<M.n->s.S j 0≠13:=λj hj e=>by
   rcases H j hj with a|a|⟨a,b⟩
   ·omega
   ·omega
   ·obtain⟨u,v,e,f⟩:=h.g.co.Te (t:=j) hj b aO;rcases H u v with g|g|g
    ·omega
    ·omega
    ·exact am g.2 f
  have O:∀j,j<M.n->s.S j 0≠6:=λj hj e=>by
   rcases H j hj with a|a|a
   ·omega
   ·obtain⟨u,v, -,f⟩:=h.g.inside (by have:=(h.dr j hj (.inr e)).2.2.TB;omega) a.2.2;have f:=sJ f;have:=no u v;rcases H u v with g|g|g<;>omega
   ·omega
  rcases h.g.co.stuck λt ht=>by
   have:=O t ht;rcases H t ht with a|a|a
   ·exact .inl a.2
   ·omega
   ·exact .inr (.inr a.2) with⟨t,ht,e⟩|e
  ·have:=no t ht;have:=O t ht;have J:=h.th t ht;rcases H t ht with a|a|a
   ·omega
   ·omega
   ·unfold d9 at J;omega
  ·refine .inr λj hj=>?_;have:=e j hj;have:=no j hj;have:=O j hj;have J:=h.th j hj;rcases H j hj with a|a|a
   ·exact a.1
   ·omega
   ·unfold d9 at J;omega
 top:=λk s h hn=>by
  have hn:M.n<=6:=hn;have a:=(h.g.SS hn).1;have e:=h.g.e;have b:=vM M s.C.A s.D λhb=>(h.TB hb).1;have c:sm (λt=>i6 M (s.S t 0)+135*(if s.C.TS t 0=0 then 0 else 1)+133*(if s.S t 1=1/\s.S t 0≠0 then 1 else 0)) M.n<=sm (λt=>if s.S t 0=5 then 1 else 0) M.n*64+sm (λ_=>1) M.n*208:=by
   have N:∀n,n<=M.n->sm (λt=>i6 M (s.S t 0)+135*(if s.C.TS t 0=0 then 0 else 1)+133*(if s.S t 1=1/\s.S t 0≠0 then 1 else 0)) n<=sm (λt=>if s.S t 0=5 then 1 else 0) n*64+sm (λ_=>1) n*208:=λn=>by
    induction n with
    |zero=>intro _;exact ba _
    |succ n L=>
     intro Y;have:=L aO;have q:=h.th n aO;have w:=LF (M:=M) q;unfold d9 at q;unfold sm;rw[sN,sN];have:i6 M (s.S n 0)+135*(if s.C.TS n 0=0 then 0 else 1)+133*(if s.S n 1=1/\s.S n 0≠0 then 1 else 0)<=(if s.S n 0=5 then 1 else 0)*64+208:=by
      by_cases z:s.C.TS n 0=0
      ·rw[ad z] at w⊢;rw[ac (show¬s.S n 0=5 by omega)] at w⊢
       split<;>omega
      ·rw[ac z] at w⊢;rw[ac (show¬(s.S n 1=1/\s.S n 0≠0) by omega)]
       split<;>simp_all<;>omega
     omega
   exact N _ (ba _)
  have d:sm (λt=>i6 M (s.S t 0)+135*(if s.C.TS t 0=0 then 0 else 1)+133*(if s.S t 1=1/\s.S t 0≠0 then 1 else 0)) M.n=sm (λt=>i6 M (s.S t 0)) M.n+a7 s.C.TS M.n*135+gK M s.S*133:=by
   unfold a7 gK;generalize M.n=n;induction n with
   |zero=>rfl
   |succ n L=>unfold sm;rw[L,sN,sN];omega
  have o:=lj (f:=λ_=>1) (c:=1) (n:=M.n) λ_ _=>ba _;have lr:∀x,(4*M.K.E+5)*x<=x*133:=λx=>by rw[Nat.mul_comm];exact qn _ aO
  show(4*M.K.E+5)*lF M s+sm (λt=>i6 M (s.S t 0)) M.n+f7 M.K s.C+dW M s.C.A s.D<1500;by_cases h5:kO M s.S 5=0
  ·have z:sm (λt=>if s.S t 0=5 then 1 else 0) M.n=0:=h5;have kk:lF M s<=gK M s.S+1:=by
    unfold lF;repeat' split
    all_goals omega
   have:=lr (lF M s);have:=xq 133 kk;omega
  ·obtain⟨j,hj,q⟩:=uN.1 h5;have G:s.C.TS j 0=10:=by have:=h.th j hj;unfold d9 at this;omega
   have z:sm (λt=>if s.S t 0=5 then 1 else 0) M.n<=1:=by
    have:=i8 (f:=λt=>if s.S t 0=5 then 1 else 0) hj λi hi hne=>ac (h.Ty hj G i hi hne).1;rw[this];split<;>omega
   have kk:lF M s<=gK M s.S:=by unfold lF;rw[ad h5];split<;>omega
   have:=lr (lF M s);have:=xq 133 kk;omega
 lone:=nofun
 S2:=λ_ k s u r hn h v ho=>by
  have hn:M.n<=6:=hn;have ho:∀j,j<M.n->s.S j 0=0:=ho;have e:=h.g.e;have G:∀t,t<M.n->s.C.TS t 0=0:=λt ht=>by have a:=h.th t ht;have b:=ho t ht;unfold d9 at a;omega
  have ha:f7 M.K s.C=0:=by
   have a:=(h.g.SS hn).1;have:a7 s.C.TS M.n=0:=eG λt ht=>ad (G t ht);rw[this] at a;omega
  have hd:=h.quiet λt ht=>by have:=ho t ht;omega
  show Gc M (cF 1 M s u r)<=200;rw[j8 v (ho u v)];cases r
  ·obtain⟨-,a2, -⟩:=h.g.asks v (G u v);obtain⟨b1,y⟩:=zU (X:=s) v ho (bu M.K s.C u) s.D (a:=7) 0 aO;have:=hd (bu M.K s.C u).A;have:i6 M 7=2*M.K.E+9:=rfl;rw[ac aO] at y;have y:=qn (4*M.K.E+5) y;show(4*M.K.E+5)*lF M ⟨bu M.K s.C u,s.D,gh s.S u 7 0⟩+sm (λt=>i6 M (gh s.S u 7 0 t 0)) M.n+f7 M.K (bu M.K s.C u)+dW M (bu M.K s.C u).A s.D<=200;omega
  ·obtain⟨b1,y⟩:=zU (X:=s) v ho s.C s.D (a:=1) 1 aO;have:=hd s.C.A;have:i6 M 1=6:=rfl;rw[ad rfl] at y;have y:=qn (4*M.K.E+5) y;show(4*M.K.E+5)*lF M ⟨s.C,s.D,gh s.S u 1 1⟩+sm (λt=>i6 M (gh s.S u 1 1 t 0)) M.n+f7 M.K s.C+dW M s.C.A s.D<=200;omega
 out:=λ_ k s u hn h v ho h3=>by
  have hn:M.n<=6:=hn;have ho:∀j,j<M.n->j≠u->s.S j 0=0:=ho;have h3:10<s.S u 0:=h3;have e:=h.g.e;have a:=h.th u v;have b:=h.quiet (λt ht=>by
   by_cases c:t=u
   ·subst c;unfold d9 at a;omega
   ·have:=ho t ht c;omega) s.C.A
  have c:=h.g.SS hn;have c2:=c.2 (mj v λt ht hne=>by have a:=h.th t ht;have b:=ho t ht hne;unfold d9 at a;omega);obtain⟨b1,y,b3⟩:=zV v ho;have b3:=b3 aO;have l:=qn (4*M.K.E+5) y;have q:s.S u 0=11/\s.C.TS u 0=0\/(s.S u 0=12\/s.S u 0=13)/\s.S u 1=0:=by unfold d9 at a;omega
  show(4*M.K.E+5)*lF M s+sm (λt=>i6 M (s.S t 0)) M.n+f7 M.K s.C+dW M s.C.A s.D<=200;rw[b3,b1];rcases q with⟨q,f⟩|⟨q,f⟩
  ·have z:a7 s.C.TS M.n=0:=eG λt ht=>ad (by
    by_cases c:t=u
    ·subst c;exact f
    ·have a:=h.th t ht;have b:=ho t ht c;unfold d9 at a;omega)
   have c1:=c.1;rw[z] at c1;have:i6 M 11=2:=rfl;rw[q]
   split at l<;>omega
  ·rw[f,ac aO] at l;have:i6 M (s.S u 0)<=2:=by rcases q with q|q<;>rw[q]<;>simp[i6]
   omega
end
def ej(pc r c:Int):Prop:=(r=0\/r=1)/\(pc=0/\c=0\/r=1/\(1<=pc/\pc<=4\/pc=10\/pc=11)/\c=0\/r=0/\(pc=5/\c=0\/pc=7/\1<=c/\c<=9\/(pc=9\/pc=10\/pc=12)/\c=10\/pc=13/\11<=c))
def tX(pc r:Int):Nat:=if r=0/\(pc=7\/pc=9\/pc=10\/pc=12) then 1 else 0
def tY(M:cj)(S:Nat->Nat->Int):Nat:=sm (λt=>tX (S t 0) (S t 1)) M.n
structure ld(M:cj)(k:Nat)(X:cf):Prop where
 kk:k<=100000
 ops:X.C.A.ops<=1000+(k:Int)
 g:iM 2 M X
 th:∀t,t<M.n->ej (X.S t 0) (X.S t 1) (X.C.TS t 0)
 dr:∀t,t<M.n->X.S t 0=9->X.D.busy=true/\X.D.once=false/\DJ M X.C.A X.D
 bz:X.D.busy=true->∃t,t<M.n/\X.S t 0=9
 fl:X.C.A.get M.fl=tY M X.S
def il(M:cj)(x:Bool)(pc:Int):Nat:=if pc=0 then 0 else if pc=1 then 9 else if pc=2 then(if x then 14 else 8) else if pc=3 then(if x then 12 else 6) else if pc=4 then 11 else if pc=5 then 2*M.K.E+35+16*M.n else if pc=7 then 2*M.K.E+9 else if pc=9 then 5 else if pc=10 then 3 else if pc=13 then 1 else 2
def g7(M:cj)(A:AR):Bool:=decide (A.get M.fl≠0)
def xE(M:cj)(X:cf):Nat:=sm (λt=>il M (g7 M X.C.A) (X.S t 0)) M.n+kO M X.S 5*(6*gK M X.S)+f7 M.K X.C+dW M X.C.A X.D
def eU(M:cj)(X:cf)(j:Nat):Prop:=(X.S j 0=7\/X.S j 0=13)/\bw M.K X.C j\/X.S j 0=9/\gI M X.C.A X.D.at_.toNat≠gO M X.C.A X.D.at_.toNat\/X.S j 0=1/\X.C.A.get M.fl≠0
section
variable{M:cj}{X:cf}{k j:Nat}{C:CS}{D:DR}{p r c:Int}{A B:AR}{S T:Nat->Nat->Int}
theorem ox(hj:j<M.n)(a:∀t,t≠j->T t 0=S t 0/\T t 1=S t 1):tY M T+tX (S j 0) (S j 1)=tY M S+tX (T j 0) (T j 1):=
 cd (f:=λt=>tX (S t 0) (S t 1)) (g:=λt=>tX (T t 0) (T t 1)) hj λi _ e=>by rw[(a i e).1,(a i e).2]
theorem ov(hj:j<M.n)(h:tX p (X.S j 1)=tX (X.S j 0) (X.S j 1)):tY M (aa X.S j 0 p)=tY M X.S:=by
 have:=ox (T:=aa X.S j 0 p) hj (df X.S p);rw[cy,eZ,h] at this;omega
theorem Mf(S:Nat->Nat->Int):tY M S<=M.n:=by
 have:=lj (f:=λt=>tX (S t 0) (S t 1)) (c:=1) (n:=M.n) λt _=>by unfold tX;split<;>omega
 unfold tY;omega
theorem ld.of(h:ld M k X)(i:k<100000)(f:iM 2 M ⟨C,D,aa X.S j 0 p⟩)(d:C.A.ops<=X.C.A.ops+1)(b:ej p (X.S j 1) (C.TS j 0))(a:∀t,t≠j->C.TS t 0=X.C.TS t 0)
 (hd:(∀t,t<M.n->aa X.S j 0 p t 0=9->D.busy=true/\D.once=false/\DJ M C.A D)/\(D.busy=true->∃t,t<M.n/\aa X.S j 0 p t 0=9))(g:C.A.get M.fl=tY M (aa X.S j 0 p)):ld M (k+1) ⟨C,D,aa X.S j 0 p⟩:=
 ⟨by omega,by have:=h.ops;show C.A.ops<=_;omega,f,λt ht=>by
  show ej (aa X.S j 0 p t 0) (aa X.S j 0 p t 1) (C.TS t 0);rw[eZ];by_cases e:t=j
  ·subst e;rw[cy];exact b
  ·rw[(df X.S p t e).1,a t e];exact h.th t ht,hd.1,hd.2,g⟩
theorem ld.lets(h:ld M k X)(f:X.S j 0≠9)(i:p≠9)(g:∀v,v<M.K.E->gO M X.C.A v<=gO M B v):(∀t,t<M.n->aa X.S j 0 p t 0=9->X.D.busy=true/\X.D.once=false/\DJ M B X.D)/\(X.D.busy=true->∃t,t<M.n/\aa X.S j 0 p t 0=9):=
 ⟨λt ht e=>by
  by_cases c:t=j
  ·subst c;rw[cy] at e;exact am e i
  ·rw[(df X.S p t c).1] at e;obtain⟨a,b,d⟩:=h.dr t ht e;exact⟨a,b,d.same (g _ (by have:=d.TB;omega))⟩,λe=>by
  obtain⟨t,ht,c⟩:=h.bz e;exact⟨t,ht,by rw[(df X.S p t (λe=>f (by rw[<-e];exact c))).1];exact c⟩⟩
theorem ld.TB(h:ld M k X)(a:X.D.busy=true):0<=X.D.at_/\X.D.at_<M.K.E:=by obtain⟨t,ht,e⟩:=h.bz a;exact(h.dr t ht e).2.2.TB
theorem vd(hj:j<M.n)(b:g7 M C.A=g7 M X.C.A):xE M ⟨C,D,aa X.S j 0 p⟩+il M (g7 M X.C.A) (X.S j 0)+kO M X.S 5*(6*gK M X.S)+f7 M.K X.C+dW M X.C.A X.D=xE M X+il M (g7 M X.C.A) p+kO M (aa X.S j 0 p) 5*(6*gK M (aa X.S j 0 p))+f7 M.K C+dW M C.A D:=by
 have a:=cd (f:=λt=>il M (g7 M X.C.A) (X.S t 0)) (g:=λt=>il M (g7 M X.C.A) (aa X.S j 0 p t 0)) hj λi _ e=>by rw[(df X.S p i e).1]
 simp only[cy] at a;unfold xE;show sm (λt=>il M (g7 M C.A) (aa X.S j 0 p t 0)) M.n+kO M (aa X.S j 0 p) 5*(6*gK M (aa X.S j 0 p))+f7 M.K C+dW M C.A D+_+_+_+_=_;rw[b];omega
theorem IV(hj:j<M.n)(h5:X.S j 0≠5/\p≠5)(a:X.S j 0≠0):kO M (aa X.S j 0 p) 5*(6*gK M (aa X.S j 0 p))<=kO M X.S 5*(6*gK M X.S):=by
 rw[h6 hj (Ne.symm h5.2) h5.1];have:=oe (T:=aa X.S j 0 p) hj (df X.S p);rw[cy,eZ] at this;have e:gK M (aa X.S j 0 p)<=gK M X.S:=by
  have:(if X.S j 1=1/\p≠0 then 1 else 0)<=(if X.S j 1=1/\X.S j 0≠0 then 1 else 0):=by split<;>split<;>omega
  omega
 exact qn _ aO
theorem ld.tail(b:X.S j 0≠0)(h1:X.S j 0≠10)(hj:j<M.n)(g:¬eU M X j)(d:ld M (k+1) ⟨C,D,aa X.S j 0 p⟩)(f:X.S j 0<10->1<=p/\p<=10)(a:10<X.S j 0->p=0\/10<p)(i:xE M ⟨C,D,aa X.S j 0 p⟩<xE M X):ud M (ld M (k+1)) (xE M) (eU M) X ⟨C,D,aa X.S j 0 p⟩ j (p==10||p==0):=
 ⟨d,⟨λ_ _=>.inr i,λh=>am h g⟩,jA b h1 (λt e=>(df X.S p t e).1) (cy _ _ _) f a,eZ _ _ _⟩
theorem kX(hj:j<M.n)(e:C.A.get M.fl=X.C.A.get M.fl)(h5:X.S j 0≠5/\p≠5)(d:X.S j 0≠0)(f:il M (g7 M X.C.A) p+f7 M.K C+dW M C.A D<il M (g7 M X.C.A) (X.S j 0)+f7 M.K X.C+dW M X.C.A X.D):xE M ⟨C,D,aa X.S j 0 p⟩<xE M X:=by
 have a:=vd (C:=C) (D:=D) (p:=p) hj (show g7 M C.A=g7 M X.C.A by unfold g7;rw[e]);have b:=IV (M:=M) (p:=p) hj h5 d;omega
theorem ej.TC{pc r c c' a:Int}{R:Bool}(h:ej pc r c)(b:pc=7/\a=9\/pc=13/\a=0)(s1:1<=c->c<10->1<=c'/\c'<=10/\(R=true↔c'=10))(s2:10<c->(c'=0\/10<c')/\(R=true↔c'=0)):
 ej (if R then a else pc) r c'/\r=0/\c≠0/\c≠10:=by
 unfold ej at h⊢;rcases b with⟨rfl,rfl⟩|⟨rfl,rfl⟩<;>cases R<;>simp at h s1 s2⊢<;>omega
theorem pG(h:eU M X j):X.S j 0=7\/X.S j 0=13\/X.S j 0=9\/X.S j 0=1:=by unfold eU at h;omega
theorem ld.Ty(h:ld M k X)(hj:j<M.n)(f:X.C.TS j 0=10):∀t,t<M.n->t≠j->X.S t 0≠9:=λt ht d=>by
 have a:=h.th t ht;have b:X.C.TS t 0≠10:=λe=>d (h.g.co.Uv (t:=t) (u:=j) ht hj aO aO);unfold ej at a;omega
theorem ld.TC(h:ld M k X)(G:k<100000)(hj:j<M.n){m:Int}(x:X.S j 0=7/\m=9\/X.S j 0=13/\m=0):
 ud M (ld M (k+1)) (xE M) (eU M) X ⟨ay M.K X.C j,if X.S j 0=7/\a5 M.K X.C j=true then X.D.Rw 0 M.K.E false else X.D,aa X.S j 0 (if a5 M.K X.C j then m else X.S j 0)⟩ j ((if a5 M.K X.C j then m else X.S j 0)==10||(if a5 M.K X.C j then m else X.S j 0)==0):=by
 have hl:X.C.A.ops<1000000000:=by have:=h.ops;omega
 have s:=h.g.co.step hl (t:=j) hj;obtain⟨w1,w2⟩:=h.g.keeps s.out;have ht:=h.th j hj;have sc:1<=X.C.TS j 0->X.C.TS j 0<10->_:=s.ok.SX;have I:=s.ok.going;obtain⟨g,o,c0⟩:=ht.TC x sc I;generalize U:a5 M.K X.C j=R at*;obtain⟨p,f⟩:∃p:Int,p=(if R=true then m else X.S j 0):=⟨_,rfl⟩
 rw[<-f] at g⊢;have z:∀D,iM 2 M ⟨ay M.K X.C j,D,aa X.S j 0 p⟩:=λD=>h.g.re hj (a:=0) (b:=0) s.j (df _ _) (λv hv=>by rw[(w1 v hv).1];split<;>simp) (λv hv=>by rw[(w1 v hv).2];split<;>simp) (by rw[cy,eZ,o,gC aO,gC aO]) aO (by have:=s.ops;omega);have y:(ay M.K X.C j).A.get M.fl=tY M (aa X.S j 0 p):=by
  rw[w2,h.fl,ov hj];unfold tX;rw[o];rcases x with⟨a,b⟩|⟨a,b⟩<;>cases R<;>simp at f<;>rw[f]<;>simp[a,b]
 by_cases c:X.S j 0=7/\R=true
 ·rw[ad c];have n:p=9:=by rw[f,ad c.2];omega
  have u:(ay M.K X.C j).TS j 0=10:=by have:=c.2;unfold ej at ht;simp[this] at sc;omega
  obtain⟨b1,J,b3, -, -,Q⟩:=DJ.Rw h.g X.D false (ay M.K X.C j).A;have H:¬bw M.K X.C j:=λhs=>c0.2 (((s.w.idle hs).2 j hj).2.2.1 u);have wd:f7 M.K (ay M.K X.C j)<f7 M.K X.C:=by
   rcases s.w.sink c0.1 c0.2 with a|a
   ·exact am a H
   ·exact a
  have V:g7 M (ay M.K X.C j).A=g7 M X.C.A:=by unfold g7;rw[w2]
  have W:il M (g7 M X.C.A) (X.S j 0)=2*M.K.E+9:=by rw[c.1];rfl
  have Y:il M (g7 M X.C.A) p=5:=by rw[n];rfl
  refine ld.tail aO aO hj (λhs=>by unfold eU at hs;rcases hs with a|a|a;exact H a.2;omega;omega) (h.of G (z _) s.ops.2 g s.ok.others ⟨λt L e=>⟨J,b3,b1⟩,λ_=>⟨j,hj,by rw[cy,n]⟩⟩ y) aO aO (kX hj w2 aO aO aO)
 ·rw[ac c];have P:p≠9:=by cases R<;>simp at f c<;>omega
  have K:=h.of G (z X.D) s.ops.2 g s.ok.others (h.lets aO P λv hv=>by rw[(w1 v hv).2];exact pK _) y;have N:=vd (X:=X) (C:=ay M.K X.C j) (D:=X.D) (p:=p) hj (show g7 M (ay M.K X.C j).A=g7 M X.C.A by unfold g7;rw[w2]);have O:=IV (M:=M) (X:=X) (p:=p) hj (by cases R<;>simp at f<;>omega) aO;have hd:dW M (ay M.K X.C j).A X.D=dW M X.C.A X.D:=by
   cases E:X.D.busy
   ·unfold dW;simp[E]
   ·have q:=w1 X.D.at_.toNat (by have:=h.TB E;omega);exact ju q.1 q.2
  rw[hd] at N;have hn:il M (g7 M X.C.A) p<=il M (g7 M X.C.A) (X.S j 0):=by
   cases R
   ·simp at f;rw[f];exact ba _
   ·simp at f c;rcases x with⟨a,b⟩|⟨a,b⟩
    ·exact am a c
    ·rw[a,f,b];simp[il]
  refine⟨K,⟨λ_ _=>?_,λhs=>?_⟩,jA aO aO (λt e=>(df X.S p t e).1) (cy _ _ _) (by cases R<;>simp at f<;>omega) (by cases R<;>simp at f<;>omega),eZ _ _ _⟩
  ·rcases s.w.sink c0.1 c0.2 with a|a
   ·exact .inl (.inl ⟨by omega,a⟩)
   ·exact .inr aO
  ·have hs:bw M.K X.C j:=by unfold eU at hs;rcases hs with a|a|a;exact a.2;omega;omega
   obtain⟨a,b⟩:=s.w.idle hs;have w:p=X.S j 0:=by
    have e:=(b j hj).2;cases R
    ·simpa using f
    ·have Z:=h.g.co.RC (t:=j) hj;simp at sc I;omega
   refine⟨by omega,λi hi=>?_⟩;have l:aa X.S j 0 p i 0=X.S i 0:=by
    by_cases e:i=j
    ·subst e;rw[cy,w]
    ·exact(df X.S p i e).1
   refine⟨λF=>?_,by show aa X.S j 0 p i 0=0↔_;rw[l],by show aa X.S j 0 p i 0=10↔_;rw[l]⟩;unfold eU at F⊢;dsimp only;rw[l,w2];rcases F with⟨c1,c2⟩|⟨c1,c2⟩|c
   ·exact .inl ⟨c1,(b i hi).1 c2⟩
   ·have d:=(h.dr i hi c1).2.2.TB;have e:=w1 X.D.at_.toNat aO;exact .inr (.inl ⟨c1,by rw[e.1,e.2];exact c2⟩)
   ·exact .inr (.inr c)
theorem OV(h:ld M k X)(hj:j<M.n){d:Int}(hd:d=1\/d= -1/\tX (X.S j 0) (X.S j 1)=1):(X.C.A.add M.fl d).get M.fl=X.C.A.get M.fl+d:=by
 have g:X.C.A.has M.fl=true:=h.g.has (by have:=h.g.lay;omega);have a:=Mf (M:=M) X.S;have b:=h.fl;have c:=h.g.Ry;have e:d= -1->1<=tY M X.S:=λe=>by
  have:=mf (f:=λt=>tX (X.S t 0) (X.S t 1)) hj;have:tX (X.S j 0) (X.S j 1)<=tY M X.S:=this;omega
 rw[iB h.g.co.fit.1 g,ad rfl];exact ce aO
theorem Mo(h:∀t,t<M.n->ej (S t 0) (S t 1) (C.TS t 0))(x:Bool):sm (λt=>il M true (S t 0)) M.n<=sm (λt=>il M x (S t 0)) M.n+gK M S*6:=yM λt ht=>by
 have a:=h t ht;cases x
 ·by_cases q:S t 0=2\/S t 0=3
  ·have:S t 1=1/\S t 0≠0:=by unfold ej at a;omega
   rw[ad this];rcases q with q|q<;>rw[q]<;>simp[il]
  ·have:il M true (S t 0)=il M false (S t 0):=by unfold il;simp only[show¬S t 0=2 by omega,show¬S t 0=3 by omega,br]
   omega
 ·omega
theorem FC(x:Bool)(S:Nat->Nat->Int):sm (λt=>il M x (S t 0)) M.n<=sm (λt=>il M true (S t 0)) M.n:=qM λt _=>by
 cases x
 ·by_cases q:S t 0=2\/S t 0=3
  ·rcases q with q|q<;>rw[q]<;>simp[il]
  ·unfold il;simp only[show¬S t 0=2 by omega,show¬S t 0=3 by omega,br];exact ba _
 ·exact ba _
theorem ld.step(h:ld M k X)(J:k<100000)(hj:j<M.n):ud M (ld M (k+1)) (xE M) (eU M) X (iK M X j) j (jE M X j):=by
 have hl:X.C.A.ops<1000000000:=by have:=h.ops;omega
 have ht:=h.th j hj;have l:=h.g.lay;by_cases ci:X.S j 0=0\/X.S j 0=10
 ·have o:iK M X j=X:=by unfold iK bi;rcases ci with c|c<;>simp[c]
  have s:jE M X j=false:=by unfold jE bi;rcases ci with c|c<;>simp[c]
  rw[o,s];exact⟨{h with kk:=by omega,ops:=by have:=h.ops;omega},⟨λa b=>by omega,λa=>by have:=pG a;omega⟩,⟨λ_ _=>rfl,λa b=>by omega,λa=>by omega,λ_=>⟨rfl,rfl⟩⟩,λ_=>rfl⟩
 have mv:bi X j=true:=by unfold bi;simp;omega
 have u:∀{C:CS}{D:DR}{p:Int},jK M X j=(⟨C,D,X.S⟩,p)->iK M X j=⟨C,D,aa X.S j 0 p⟩/\jE M X j=(p==10||p==0):=λe=>by unfold iK jE;rw[mv,e];exact⟨rfl,rfl⟩
 have hs:X.S j 0≠1->X.S j 0≠9->X.S j 0≠7->X.S j 0≠13->¬eU M X j:=λ_ _ _ _ b=>by have:=pG b;omega
 have P:X.C.A.has M.fl=true:=h.g.has aO;have x:=h.TB;by_cases y:X.S j 1=1
 ·have L:X.C.TS j 0=0:=by unfold ej at ht;omega
  have wc:∀p,tX p (X.S j 1)=tX (X.S j 0) (X.S j 1):=λp=>by rw[y];rfl
  have kf:∀p,tY M (aa X.S j 0 p)=tY M X.S:=λp=>ov hj (wc p);have tp:∀p:Int,1<=p/\p<=4\/p=10\/p=11\/p=0->ej p (X.S j 1) (X.C.TS j 0):=λp hp=>by rw[y,L];unfold ej;omega
  have q5:X.S j 0=1\/X.S j 0=2\/X.S j 0=3\/X.S j 0=4\/X.S j 0=11:=by unfold ej at ht;omega
  have n:=(eE h.g.co.fit P (b:=M.fl) (m:=1) aO aO).1;rcases q5 with q|q|q|q|q
  ·by_cases f0:X.C.A.get M.fl=0
   ·obtain⟨o,s⟩:=u (C:={X.C with A:=X.C.A.load M.fl}) (D:=X.D) (p:=2) (by unfold jK qk;simp[q,y,f0]);have i:=h.g.quiet hl hj (p:=2) (by rw[q,y];rfl) n (ba _) (h.g.flag n);have d:=i.d X.D x;have w:=i.w;rw[o,s];dsimp only at w⊢;exact ld.tail aO aO hj (λb=>by unfold eU at b;omega) (h.of J (i.g _) i.ops.2 (tp 2 aO) (λ_ _=>rfl) (h.lets aO aO i.o) (by rw[kf];exact aw.trans h.fl)) aO aO (kX hj aw aO aO (by rw[w,q,show g7 M X.C.A=false by unfold g7;simp[f0]];show 8+_+_<9+_+_;dsimp only;omega))
   ·obtain⟨o,s⟩:=u (C:={X.C with A:=X.C.A.load M.fl}) (D:=X.D) (p:=1) (by unfold jK qk;simp[q,y,f0]);have i:=h.g.quiet hl hj (p:=1) (by rw[q]) n (ba _) (h.g.flag n);have d:=i.d X.D x;have U:=vd (X:=X) (C:={X.C with A:=X.C.A.load M.fl}) (D:=X.D) (p:=1) hj (show g7 M (X.C.A.load M.fl)=_ by unfold g7;rw[aw]);have hw2:=IV (M:=M) (X:=X) (p:=1) hj aO aO;rw[i.w,q] at U;rw[o,s];dsimp only at U d⊢;refine⟨h.of J (i.g _) i.ops.2 (tp 1 aO) (λ_ _=>rfl) (h.lets aO aO i.o) (by rw[kf];exact aw.trans h.fl),⟨λ_ _=>.inl (.inr (.inr ⟨q,f0⟩)),λ_=>⟨by omega,λz hi=>?_⟩⟩,jA aO aO (λt e=>(df X.S 1 t e).1) (cy _ _ _) aO aO,eZ _ _ _⟩;have E:aa X.S j 0 1 z 0=X.S z 0:=by
     by_cases e:z=j
     ·subst e;rw[cy,q]
     ·exact(df X.S 1 z e).1
    refine⟨λK=>?_,by show aa X.S j 0 1 z 0=0↔_;rw[E],by show aa X.S j 0 1 z 0=10↔_;rw[E]⟩;unfold eU at K⊢;dsimp only;rw[E,aw];rcases K with⟨d1,d2⟩|⟨d1,d2⟩|d1
    ·exact .inl ⟨d1,(i.s z hi).2 d2⟩
    ·have dd:=(h.dr z hi d1).2.2.TB;have e:=h.g.flag n X.D.at_.toNat aO;exact .inr (.inl ⟨d1,by rw[e.1,e.2];exact d2⟩)
    ·exact .inr (.inr d1)
  ·obtain⟨o,s⟩:=u (C:={X.C with A:=X.C.A.RF M.gf M.K.E (M.K.nd j) 0}) (D:=X.D) (p:=3) (by unfold jK qk;simp[q,y]);have i:=h.g.enter hl hj (p:=3) (by rw[q,y];rfl) (by rw[y];rfl);have d:=i.d X.D x;have w:=i.w;obtain⟨a1, -,a3, -⟩:=h.g.add hl hj 0 aO;have fl:(X.C.A.RF M.gf M.K.E (M.K.nd j) 0).get M.fl=X.C.A.get M.fl:=a1.out _ aO;rw[o,s];dsimp only at w⊢;exact ld.tail aO aO hj (hs aO aO aO aO) (h.of J (i.g _) i.ops.2 (tp 3 aO) (λ_ _=>rfl) (h.lets aO aO i.o) (by rw[kf];exact fl.trans h.fl)) aO aO (kX hj fl aO aO (by
    rw[w,q];have:il M (g7 M X.C.A) 3+2=il M (g7 M X.C.A) 2:=by cases g7 M X.C.A<;>rfl
    dsimp only;omega))
  ·by_cases f0:X.C.A.get M.fl=0
   ·obtain⟨o,s⟩:=u (C:={X.C with A:=X.C.A.load M.fl}) (D:=X.D) (p:=10) (by unfold jK qk;simp[q,y,f0]);have i:=h.g.quiet hl hj (p:=10) (by rw[q,y];rfl) n (ba _) (h.g.flag n);have d:=i.d X.D x;have w:=i.w;rw[o,s];dsimp only at w⊢;exact ld.tail aO aO hj (hs aO aO aO aO) (h.of J (i.g _) i.ops.2 (tp 10 aO) (λ_ _=>rfl) (h.lets aO aO i.o) (by rw[kf];exact aw.trans h.fl)) aO aO (kX hj aw aO aO (by rw[w,q,show g7 M X.C.A=false by unfold g7;simp[f0]];show 3+_+_<6+_+_;dsimp only;omega))
   ·obtain⟨o,s⟩:=u (C:={X.C with A:=X.C.A.load M.fl}) (D:=X.D) (p:=4) (by unfold jK qk;simp[q,y,f0]);have i:=h.g.quiet hl hj (p:=4) (by rw[q,y];rfl) n (ba _) (h.g.flag n);have d:=i.d X.D x;have w:=i.w;rw[o,s];dsimp only at w⊢;exact ld.tail aO aO hj (hs aO aO aO aO) (h.of J (i.g _) i.ops.2 (tp 4 aO) (λ_ _=>rfl) (h.lets aO aO i.o) (by rw[kf];exact aw.trans h.fl)) aO aO (kX hj aw aO aO (by rw[w,q,show g7 M X.C.A=true by unfold g7;simp[f0]];show 11+_+_<12+_+_;dsimp only;omega))
  ·obtain⟨o,s⟩:=u (C:={X.C with A:=X.C.A.RF M.gf M.K.E (M.K.nd j) 1}) (D:=X.D) (p:=1) (by unfold jK qk;simp[q,y]);have i:=h.g.exit hl hj (p:=1) (by rw[q,y];rfl) (by rw[y];rfl);have d:=i.d X.D x;have w:=i.w;obtain⟨a1, -,a3, -⟩:=h.g.add hl hj 1 aO;have fl:(X.C.A.RF M.gf M.K.E (M.K.nd j) 1).get M.fl=X.C.A.get M.fl:=a1.out _ aO;rw[o,s];dsimp only at w⊢;exact ld.tail aO aO hj (hs aO aO aO aO) (h.of J (i.g _) i.ops.2 (tp 1 aO) (λ_ _=>rfl) (h.lets aO aO i.o) (by rw[kf];exact fl.trans h.fl)) aO aO (kX hj fl aO aO (by rw[w,q];show 9+_+_<11+_+_;dsimp only;omega))
  ·obtain⟨o,s⟩:=u (C:={X.C with A:=X.C.A.RF M.gf M.K.E (M.K.nd j) 1}) (D:=X.D) (p:=0) (by unfold jK qk;simp[q,y]);have i:=h.g.exit hl hj (p:=0) (by rw[q,y];rfl) (by rw[y];rfl);have d:=i.d X.D x;have w:=i.w;obtain⟨a1, -,a3, -⟩:=h.g.add hl hj 1 aO;have fl:(X.C.A.RF M.gf M.K.E (M.K.nd j) 1).get M.fl=X.C.A.get M.fl:=a1.out _ aO;rw[o,s];dsimp only at w⊢;exact ld.tail aO aO hj (hs aO aO aO aO) (h.of J (i.g _) i.ops.2 (tp 0 aO) (λ_ _=>rfl) (h.lets aO aO i.o) (by rw[kf];exact fl.trans h.fl)) aO aO (kX hj fl aO aO (by rw[w,q];show 0+_+_<2+_+_;dsimp only;omega))
 ·have H:X.S j 1=0:=by unfold ej at ht;omega
  have rI:∀p:Int,kw 2 p (X.S j 1)=kw 2 (X.S j 0) (X.S j 1):=λp=>by rw[H,gC aO,gC aO]
  by_cases q2:X.S j 0=7\/X.S j 0=13
  ·obtain⟨W,hq⟩:∃W:Int,X.S j 0=7/\W=9\/X.S j 0=13/\W=0:=by
    rcases q2 with q|q
    ·exact⟨9,.inl ⟨q,rfl⟩⟩
    ·exact⟨0,.inr ⟨q,rfl⟩⟩
   obtain⟨o,s⟩:=u (C:=ay M.K X.C j) (D:=if X.S j 0=7/\a5 M.K X.C j=true then X.D.Rw 0 M.K.E false else X.D) (p:=if a5 M.K X.C j then W else X.S j 0) (by unfold jK sY;rcases hq with⟨q,rfl⟩|⟨q,rfl⟩<;>simp[q,H]<;>cases a5 M.K X.C j<;>simp);rw[o,s];exact h.TC J hj hq
  have q3:X.S j 0=5\/X.S j 0=9\/X.S j 0=12:=by unfold ej at ht;omega
  rcases q3 with q|q|q
  ·have L:X.C.TS j 0=0:=by unfold ej at ht;omega
   have n:=(r4 (d:=1) h.g.co.fit P (b:=M.fl) (m:=1) aO aO).1;have g1:=OV h hj (d:=1) (.inl rfl);have i:=h.g.quiet hl hj (rI 7) n (ba _) (h.g.flag n);have d:=i.d X.D x;obtain⟨a1,a2,a3,Q,F, -⟩:=(i.g X.D).asks hj L;have w:=i.w;obtain⟨o,s⟩:=u (C:=bu M.K {X.C with A:=X.C.A.add M.fl 1} j) (D:=X.D) (p:=7) (by unfold jK sY;simp[q,H]);rw[o,s];dsimp only at a1 a2 a3 Q F w⊢;have hF:tY M (aa X.S j 0 7)=tY M X.S+1:=by
    have:=ox (T:=aa X.S j 0 7) hj (df X.S 7);rw[cy,eZ,H,q] at this;exact this
   have N:=od (X:=X) (p:=7) hj aO aO;have Z:=se (T:=aa X.S j 0 7) (pc:=5) hj λt ht=>(df X.S 7 t ht).1;rw[cy,ad q,ac aO] at Z;have hx:g7 M (X.C.A.add M.fl 1)=true:=by
    have:=h.fl;unfold g7;rw[g1];exact aT
   have u1:=Mo (M:=M) h.th (g7 M X.C.A);have u2:=cd (f:=λt=>il M true (X.S t 0)) (g:=λt=>il M true (aa X.S j 0 7 t 0)) hj λi _ e=>by rw[(df X.S 7 i e).1]
   simp only[cy,q] at u2;have t5:il M true 5=2*M.K.E+35+16*M.n:=rfl;have t7:il M true 7=2*M.K.E+9:=rfl;have mm:kO M X.S 5*(6*gK M X.S)=kO M (aa X.S j 0 7) 5*(6*gK M X.S)+6*gK M X.S:=by
    rw[show kO M X.S 5=kO M (aa X.S j 0 7) 5+1 by omega,sN,Nat.one_mul]
   refine ld.tail aO aO hj (hs aO aO aO aO) (h.of J ((i.g X.D).swap a1 F) (by rw[F];exact i.ops.2) (by rw[H,a3];unfold ej;omega) Q (h.lets aO aO (by rw[F];exact i.o)) (by rw[F,g1,hF,h.fl];omega)) aO aO ?_;unfold xE;dsimp only;rw[F,hx,N];omega
  ·have L:X.C.TS j 0=10:=by unfold ej at ht;omega
   have so:=h.Ty hj L;obtain⟨hb,ho,hD⟩:=h.dr j hj q;obtain⟨⟨b,n,hb'⟩,I,eC,eS,O⟩:=DJ.go h.g hD hb;have R:∀v,v<M.K.E->gI M (be M X).C.A v=gI M X.C.A v/\gO M (be M X).C.A v=gO M X.C.A v:=λv _=>⟨I _,I _⟩
   rcases O with⟨N,c1,c2,c3,V, -⟩|⟨N,c1, -, -,V⟩
   ·obtain⟨o,s⟩:=u (C:={X.C with A:=(be M X).C.A}) (D:=(be M X).D) (p:=9) (by rw[<-eC,<-eS];unfold jK sY;simp[q,H,N]);have i:=h.g.quiet hl hj (rI 9) n aO R;have U:=vd (X:=X) (C:={X.C with A:=(be M X).C.A}) (D:=(be M X).D) (p:=9) hj (show g7 M (be M X).C.A=_ by unfold g7;rw[I]);have hw2:=IV (M:=M) (X:=X) (p:=9) hj aO aO;rw[i.w,q] at U;have dd:dW M (be M X).C.A (be M X).D=dW M X.C.A (be M X).D:=ju (I _) (I _);rw[o,s];dsimp only at U⊢;refine⟨h.of J (i.g _) i.ops.2 (by rw[<-q];exact ht) (λ_ _=>rfl) ⟨λ_ _ _=>⟨c1,c2.trans ho,c3.same (za (I _).symm)⟩,λ_=>⟨j,hj,cy _ _ _⟩⟩ (by rw[ov hj (by rw[q])];exact(I _).trans h.fl),⟨λ_ _=>?_,λbB=>?_⟩,jA aO aO (λt e=>(df X.S 9 t e).1) (cy _ _ _) aO aO,eZ _ _ _⟩
    ·rcases V with⟨-,G, -⟩|⟨-, -,Y⟩
     ·exact .inl (.inr (.inl ⟨q,G⟩))
     ·exact .inr aO
    ·rcases V with⟨G, -, -,Y⟩|⟨G, -⟩
     ·refine⟨by omega,λz hi=>?_⟩;have E:aa X.S j 0 9 z 0=X.S z 0:=by
       by_cases e:z=j
       ·subst e;rw[cy,q]
       ·exact(df X.S 9 z e).1
      refine⟨λK=>?_,by show aa X.S j 0 9 z 0=0↔_;rw[E],by show aa X.S j 0 9 z 0=10↔_;rw[E]⟩;unfold eU at K⊢;dsimp only;rw[E,G,I];rcases K with⟨d1,d2⟩|⟨d1,d2⟩|d1
      ·exact .inl ⟨d1,(i.s z hi).2 d2⟩
      ·exact .inr (.inl ⟨d1,by unfold gI gO;rw[I,I];exact d2⟩)
      ·exact .inr (.inr d1)
     ·rcases G with G|G
      ·rw[ho] at G;cases G
      ·unfold eU at bB;rcases bB with a|a|a
       ·omega
       ·exact am G a.2
       ·omega
   ·rcases V with⟨-, -,Y⟩|⟨-,G, -⟩
    ·obtain⟨o,s⟩:=u (C:={X.C with A:=(be M X).C.A}) (D:=(be M X).D) (p:=10) (by rw[<-eC,<-eS];unfold jK sY;simp[q,H,N]);have i:=h.g.quiet hl hj (rI 10) n aO R;have d0:dW M (be M X).C.A (be M X).D=0:=by unfold dW;simp[c1]
     have w:=i.w;rw[o,s];dsimp only at w⊢;exact ld.tail aO aO hj (λa=>by unfold eU at a;rcases a with a|a|a;omega;exact a.2 Y;omega) (h.of J (i.g _) i.ops.2 (by rw[H];show ej 10 0 (X.C.TS j 0);rw[L];unfold ej;omega) (λ_ _=>rfl) ⟨λt ht' e=>by
      by_cases c:t=j
      ·subst c;rw[cy] at e;omega
      ·rw[(df X.S 10 t c).1] at e;exact am e (so t ht' c),λe=>by rw[c1] at e;cases e⟩ (by rw[ov hj (by rw[q,H];rfl)];exact(I _).trans h.fl)) aO aO (kX hj (I _) aO aO (by rw[w,q];show 3+_+_<5+_+_;dsimp only;omega))
    ·rw[ho] at G;cases G
  ·have L:X.C.TS j 0=10:=by unfold ej at ht;omega
   have n:=(r4 (d:= -1) h.g.co.fit P (b:=M.fl) (m:=1) aO aO).1;have c1:tX (X.S j 0) (X.S j 1)=1:=by rw[q,H];rfl
   have g1:=OV h hj (d:= -1) (.inr ⟨rfl,c1⟩);have i:=h.g.quiet hl hj (rI 13) n (ba _) (h.g.flag n);have d:=i.d X.D x;obtain⟨a1,a2,a3,Q,F⟩:=(i.g X.D).leaves hj L;have w:=i.w;obtain⟨o,s⟩:=u (C:=bj M.K {X.C with A:=X.C.A.add M.fl (-1)} j) (D:=X.D) (p:=13) (by unfold jK sY;simp[q,H]);rw[o,s];dsimp only at a1 a2 a3 Q F w⊢;have hF:tY M (aa X.S j 0 13)+1=tY M X.S:=by
    have:=ox (T:=aa X.S j 0 13) hj (df X.S 13);rw[cy,eZ,c1,H] at this;exact this
   have N:=od (X:=X) (p:=13) hj aO aO;have Z:=h6 (X:=X) (p:=13) (pc:=5) hj aO aO;have hx:g7 M X.C.A=true:=by
    have:=h.fl;unfold g7;exact aT
   have u1:=FC (M:=M) (g7 M (X.C.A.add M.fl (-1))) (aa X.S j 0 13);have u2:=cd (f:=λt=>il M true (X.S t 0)) (g:=λt=>il M true (aa X.S j 0 13 t 0)) hj λi _ e=>by rw[(df X.S 13 i e).1]
   simp only[cy,q] at u2;have t12:il M true 12=2:=rfl;have t13:il M true 13=1:=rfl;refine ld.tail aO aO hj (hs aO aO aO aO) (h.of J ((i.g X.D).swap a1 F) (by rw[F];exact i.ops.2) (by rw[H,a3];unfold ej;omega) Q (h.lets aO aO (by rw[F];exact i.o)) (by rw[F,g1,h.fl];omega)) aO aO ?_;unfold xE;dsimp only;rw[F,hx,N,Z];omega
theorem ld.hand(h:ld M k X)(n:k<100000)(hj:j<M.n)(l:X.S j 0=0\/X.S j 0=10){T:Nat->Nat->Int}(a:∀t,t≠j->T t 0=X.S t 0/\T t 1=X.S t 1)(i:fu M.K C)(b:C.A=X.C.A)(d:∀t,t≠j->C.TS t 0=X.C.TS t 0)(h1:kw 2 (T j 0) (T j 1)=kw 2 (X.S j 0) (X.S j 1))(f:ej (T j 0) (T j 1) (C.TS j 0))(g:T j 0≠9)(m:tX (T j 0) (T j 1)=tX (X.S j 0) (X.S j 1)):ld M (k+1) ⟨C,X.D,T⟩:=
 ⟨by omega,by have:=h.ops;show C.A.ops<=_;rw[b];omega,(h.g.RT (D:=X.D) hj a h1).swap i b,λt ht=>by
  show ej (T t 0) (T t 1) (C.TS t 0);by_cases e:t=j
  ·subst e;exact f
  ·rw[(a t e).1,(a t e).2,d t e];exact h.th t ht,λt ht e=>by
  have e:T t 0=9:=e;have:t≠j:=λc=>g (by rw[<-c];exact e);rw[(a t this).1] at e;show _/\_/\DJ M C.A X.D;rw[b];exact h.dr t ht e,λe=>by
  obtain⟨t,ht,c⟩:=h.bz e;exact⟨t,ht,by show T t 0=9;rw[(a t (λe=>by subst e;omega)).1];exact c⟩,by
  have:=ox hj a;show C.A.get M.fl=tY M T;rw[b,h.fl];omega⟩
theorem Ah(hj:j<M.n)(h:∀i,i<M.n->i≠j->S i 0=0)(x:Bool):sm (λt=>il M x (S t 0)) M.n=il M x (S j 0)/\gK M S<=(if S j 1=1 then 1 else 0)/\kO M S 5<=(if S j 0=5 then 1 else 0):=by
 refine⟨i8 (f:=λt=>il M x (S t 0)) hj λi hi a=>by show il M x (S i 0)=0;rw[h i hi a];rfl,?_,?_⟩
 ·have:=i8 (f:=λt=>if S t 1=1/\S t 0≠0 then 1 else 0) hj λi hi a=>ac λe=>e.2 (h i hi a);unfold gK;rw[this];split<;>split<;>omega
 ·have:=i8 (f:=λt=>if S t 0=5 then 1 else 0) hj λi hi a=>ac λe=>by have:=h i hi a;omega
  unfold kO;rw[this];exact ba _
theorem ld.quiet(h:ld M k X)(b:∀t,t<M.n->X.S t 0≠9)(A:AR):dW M A X.D=0:=by
 cases a:X.D.busy
 ·unfold dW;simp[a]
 ·obtain⟨t,ht,e⟩:=h.bz a;have:=b t ht;omega
theorem Mn(h:ej p r c)(x:Bool)(hE:M.K.E<=32)(hn:M.n<=6):il M x p+(if c=0 then 0 else 135)+(if r=1/\p≠0 then 36 else 0)<=208:=by
 unfold ej at h;by_cases e:r=1/\p≠0
 ·have a:p=1\/p=2\/p=3\/p=4\/p=10\/p=11:=by omega
  rw[ad e,ad (show c=0 by omega)];rcases a with rfl|rfl|rfl|rfl|rfl|rfl<;>cases x<;>simp[il]
 ·have a:p=0\/p=5\/p=7\/p=9\/p=10\/p=12\/p=13:=by omega
  rw[ac e];by_cases z:c=0
  ·have a:p=0\/p=5:=by omega
   rw[ad z];rcases a with rfl|rfl<;>simp[il];omega
  ·rw[ac z];have a:p=7\/p=9\/p=10\/p=12\/p=13:=by omega
   rcases a with rfl|rfl|rfl|rfl|rfl<;>simp[il];omega
theorem OW(M:cj):(py 2 M).Row (ld M) (xE M) (eU M) where
 I:=λk s o h=>{h with kk:=by omega,ops:=by have:=h.ops;omega}
 V:=λk s h=>⟨h.g.co.Ug,λj hj=>by have:=h.th j hj;unfold ej at this;unfold i7;omega⟩
 aR:=λs j _ hj l=>dc hj l
 aN:=λs j r l=>sk l
 aS:=λk s j r o h hj l=>by
  have l:s.S j 0=0:=l;have ht:=h.th j hj;have G:s.C.TS j 0=0:=by unfold ej at ht;omega
  have N:∀x,kw 2 0 x=false:=λx=>by unfold kw;simp
  show ld M (k+1) (cF 2 M s j r)/\(∃x:Int,_/\∀i:Nat,(cF 2 M s j r).S i 0=up (λi=>s.S i 0) j x i)/\(_->(cF 2 M s j r).S j 1=_)
  rw[j8 hj l];cases r
  ·exact⟨h.hand o hj (.inl l) (mR _ _ _) h.g.co rfl (λ_ _=>rfl) (by rw[(cA _ _ _ _).1,(cA _ _ _ _).2,l,N];rfl) (by rw[(cA _ _ _ _).1,(cA _ _ _ _).2,G];unfold ej;omega) (by rw[(cA _ _ _ _).1];omega) (by rw[(cA _ _ _ _).1,(cA _ _ _ _).2,l];simp[tX]),⟨5,by omega,pB _ _ _ _⟩,λ_=>(cA _ _ _ _).2⟩
  ·exact⟨h.hand o hj (.inl l) (mR _ _ _) h.g.co rfl (λ_ _=>rfl) (by rw[(cA _ _ _ _).1,(cA _ _ _ _).2,l,N];rfl) (by rw[(cA _ _ _ _).1,(cA _ _ _ _).2,G];unfold ej;omega) (by rw[(cA _ _ _ _).1];omega) (by rw[(cA _ _ _ _).1,(cA _ _ _ _).2,l];simp[tX]),⟨1,by omega,pB _ _ _ _⟩,λ_=>(cA _ _ _ _).2⟩
 lR:=λs j hj l=>dc hj l
 lN:=λs j l=>nt l
 lS:=λk s j o h hj l=>by
  have l:s.S j 0=10:=l;have ht:=h.th j hj;show ld M (k+1) (bJ M s j)/\∃x:Int,_/\∀i:Nat,(bJ M s j).S i 0=up (λi=>s.S i 0) j x i;rw[gR hj l];have H:s.S j 1=0/\s.C.TS j 0=10\/s.S j 1=1/\s.C.TS j 0=0:=by unfold ej at ht;omega
  refine⟨h.hand o hj (.inr l) (df _ _) h.g.co rfl (λ_ _=>rfl) ?_ ?_ (by rw[cy];omega) ?_,_,by omega,JB _⟩
  ·rw[cy,eZ,l];rcases H with⟨e,_⟩|⟨e,_⟩<;>rw[e]<;>rfl
  ·rw[cy,eZ];rcases H with⟨e,f⟩|⟨e,f⟩<;>rw[e,f]<;>unfold ej<;>omega
  ·rw[cy,eZ,l];rcases H with⟨e,_⟩|⟨e,_⟩<;>rw[e]<;>rfl
 lW:=λk s j h hj l=>by
  have l:s.S j 0=10:=l;have ht:=h.th j hj;show xE M (bJ M s j)<_;rw[gR hj l];have O:s.S j 1=0\/s.S j 1=1:=by unfold ej at ht;omega
  refine kX (X:=s) (C:=s.C) (D:=s.D) hj rfl aO aO ?_;have e:il M (g7 M s.C.A) (12 - s.S j 1)=2:=by rcases O with e|e<;>rw[e]<;>rfl
  have Q:il M (g7 M s.C.A) (s.S j 0)=3:=by rw[l];rfl
  omega
 st:=λk s j o h hj=>by
  have a:=h.step o hj;exact⟨a.jj,a.w,a.ok,λ_=>a.r⟩
 pc:=λk s j h hj=>by have:=h.th j hj;unfold ej at this;show 0<=s.S j 0;omega
 sp:=λs j h=>by have:=pG h;show s.S j 0≠0/\s.S j 0≠10;omega
 stuck:=λk s h hs=>by
  have hs:∀j,j<M.n->s.S j 0=0\/s.S j 0=10\/eU M s j:=hs;by_cases c:∃j,j<M.n/\s.S j 0=10
  ·exact .inl c
  have v:∀j,j<M.n->s.S j 0=0/\s.C.TS j 0=0\/s.S j 0=9/\s.C.TS j 0=10/\gI M s.C.A s.D.at_.toNat≠gO M s.C.A s.D.at_.toNat\/(s.S j 0=7\/s.S j 0=13/\11<=s.C.TS j 0)/\bw M.K s.C j\/s.S j 0=1/\s.S j 1=1/\s.C.TS j 0=0/\s.C.A.get M.fl≠0:=λj hj=>by
   have ht:=h.th j hj;rcases hs j hj with a|a|a
   ·unfold ej at ht;omega
   ·exact am ⟨j,hj,a⟩ c
   ·unfold eU at a;unfold ej at ht;rcases a with⟨a,b⟩|⟨a,b⟩|⟨a,b⟩
    ·exact .inr (.inr (.inl ⟨by omega,b⟩))
    ·exact .inr (.inl ⟨a,by omega,b⟩)
    ·exact .inr (.inr (.inr ⟨a,by omega,by omega,b⟩))
  have no:∀j,j<M.n->s.S j 0≠13:=λj hj e=>by
   rcases v j hj with a|a|⟨a,b⟩|a
   ·omega
   ·omega
   ·obtain⟨u,m,e,f⟩:=h.g.co.Te (t:=j) hj b aO;rcases v u m with g|g|g|g
    ·omega
    ·omega
    ·exact am g.2 f
    ·omega
   ·omega
  have L:∀j,j<M.n->s.S j 0≠9:=λj hj e=>by
   rcases v j hj with a|a|a|a
   ·omega
   ·obtain⟨u,m, -,f⟩:=h.g.inside (by have:=(h.dr j hj e).2.2.TB;omega) a.2.2;have f:=sJ f;have:=no u m;rcases v u m with g|g|g|g<;>omega
   ·omega
   ·omega
  rcases h.g.co.stuck λt ht=>by
   have:=L t ht;rcases v t ht with a|a|a|a
   ·exact .inl a.2
   ·omega
   ·exact .inr (.inr a.2)
   ·exact .inl a.2.2.1 with⟨t,ht,e⟩|e
  ·have:=no t ht;have:=L t ht;have y:=h.th t ht;rcases v t ht with a|a|a|a
   ·omega
   ·omega
   ·unfold ej at y;omega
   ·omega
  ·have z:∀j,j<M.n->s.S j 0=0\/s.S j 0=1/\s.S j 1=1/\s.C.A.get M.fl≠0:=λj hj=>by
    have:=e j hj;have:=no j hj;have:=L j hj;have y:=h.th j hj;rcases v j hj with a|a|a|a
    ·exact .inl a.1
    ·omega
    ·unfold ej at y;omega
    ·exact .inr ⟨a.1,a.2.1,a.2.2.2⟩
   have f0:s.C.A.get M.fl=0:=by
    have:tY M s.S=0:=eG λt ht=>ac (by rcases z t ht with a|a<;>omega);rw[h.fl,this];rfl
   exact .inr λj hj=>by rcases z j hj with a|a;exact a;exact am f0 a.2.2
 top:=λk s h hn=>by
  have hn:M.n<=6:=hn;have a:=(h.g.SS hn).1;have e:=h.g.e;have b:=vM M s.C.A s.D λhb=>(h.TB hb).1;have c:sm (λt=>il M (g7 M s.C.A) (s.S t 0)+(if s.C.TS t 0=0 then 0 else 135)+(if s.S t 1=1/\s.S t 0≠0 then 36 else 0)) M.n<=M.n*208:=lj λt ht=>Mn (h.th t ht) _ e.2 hn;have d:sm (λt=>il M (g7 M s.C.A) (s.S t 0)+(if s.C.TS t 0=0 then 0 else 135)+(if s.S t 1=1/\s.S t 0≠0 then 36 else 0)) M.n=sm (λt=>il M (g7 M s.C.A) (s.S t 0)) M.n+a7 s.C.TS M.n*135+gK M s.S*36:=by
   unfold a7 gK;generalize M.n=n;induction n with
   |zero=>rfl
   |succ n P=>unfold sm;rw[P,sN,sN];split<;>split<;>omega
  have f:kO M s.S 5<=6:=by
   have:=lj (f:=λt=>if s.S t 0=5 then 1 else 0) (c:=1) (n:=M.n) λt _=>by split<;>omega
   unfold kO;omega
  have g:kO M s.S 5*(6*gK M s.S)<=6*(6*gK M s.S):=xq _ f;show sm (λt=>il M (g7 M s.C.A) (s.S t 0)) M.n+kO M s.S 5*(6*gK M s.S)+f7 M.K s.C+dW M s.C.A s.D<1500;omega
 lone:=nofun
 S2:=λ_ k s u r hn h m ho=>by
  have hn:M.n<=6:=hn;have ho:∀j,j<M.n->s.S j 0=0:=ho;have e:=h.g.e;have G:∀t,t<M.n->s.C.TS t 0=0:=λt ht=>by have a:=h.th t ht;have b:=ho t ht;unfold ej at a;omega
  have ha:f7 M.K s.C=0:=by
   have a:=(h.g.SS hn).1;have:a7 s.C.TS M.n=0:=eG λt ht=>ad (G t ht);rw[this] at a;omega
  have hd:=h.quiet (λt ht=>by have:=ho t ht;omega) s.C.A;have J:∀a b:Int,_:=λa b=>Ah (M:=M) (S:=gh s.S u a b) m (λi hi hne=>(mR s.S a b i hne).1.trans (ho i hi)) (g7 M s.C.A);have k2:∀a b:Int,(b=1->a≠5)->(b=0\/b=1)->il M (g7 M s.C.A) a<=200->xE M ⟨s.C,s.D,gh s.S u a b⟩<=200:=λa b h1 h2 h3=>by
   obtain⟨b1,F,b3⟩:=J a b;simp only[(cA s.S u a b).1,(cA s.S u a b).2] at b1 F b3;have:kO M (gh s.S u a b) 5*(6*gK M (gh s.S u a b))=0:=by
    by_cases c:b=1
    ·rw[ac (h1 c)] at b3;rw[Nat.le_zero.1 b3,BS]
    ·rw[ac c] at F;rw[Nat.le_zero.1 F];simp
   show sm (λt=>il M (g7 M s.C.A) (gh s.S u a b t 0)) M.n+kO M (gh s.S u a b) 5*(6*gK M (gh s.S u a b))+f7 M.K s.C+dW M s.C.A s.D<=200;omega
  show xE M (cF 2 M s u r)<=200;rw[j8 m (ho u m)];cases r
  ·exact k2 5 0 aO aO (by show 2*M.K.E+35+16*M.n<=200;omega)
  ·exact k2 1 1 aO aO (by show 9<=200;omega)
 out:=λ_ k s u hn h m ho h3=>by
  have hn:M.n<=6:=hn;have ho:∀j,j<M.n->j≠u->s.S j 0=0:=ho;have h3:10<s.S u 0:=h3;have e:=h.g.e;have a:=h.th u m;have b:=vM M s.C.A s.D λhb=>(h.TB hb).1;have c:=(h.g.SS hn).2 (mj m λt ht hne=>by have a:=h.th t ht;have b:=ho t ht hne;unfold ej at a;omega);obtain⟨b1,F,b3⟩:=Ah (M:=M) (S:=s.S) m ho (g7 M s.C.A);rw[ac aO] at b3;have f:il M (g7 M s.C.A) (s.S u 0)<=2:=by
   have q:s.S u 0=11\/s.S u 0=12\/s.S u 0=13:=by unfold ej at a;omega
   rcases q with q|q|q<;>rw[q]<;>simp[il]
  show sm (λt=>il M (g7 M s.C.A) (s.S t 0)) M.n+kO M s.S 5*(6*gK M s.S)+f7 M.K s.C+dW M s.C.A s.D<=200;rw[Nat.le_zero.1 b3,BS];omega
end
theorem tx(t:Nat)(i:Int):AR.get {AR.fresh 4096 with taken:=t} i=0:=by
 unfold AR.get;split
 ·show(List.replicate 4096 (0:Int))[i.toNat - 1]?.getD 0=0;rw[xo];split<;>rfl
 ·rfl
section
variable{P T:List Int}{kd g l par bud:Int}
theorem GZ(e:ea P T)(f:1<=kd/\kd<=5)(i:1<=par/\par<=4):Rg (oC T kd par) 0 (GY T kd par):=by
 have d:=ru e f (show 1<=par/\par<=32 by omega);obtain⟨a, -,b,c⟩:=Dh e f (show 1<=par/\par<=32 by omega);have h:=nc d;exact⟨by omega,a,Db d rfl (show 0+(oC T kd par).size<=(List.replicate 4096 (0:Int)).length by rw[lA];omega) (vy _) tw,b,c⟩
theorem GG(a:ea P T)(c:1<=g/\g<=5)(hl:1<=l/\l<=5)(e:1<=par/\par<=4)(b:0<=bud/\bud<=1000):Ng (CI P T g l par bud) 0 (O9 P T g l par bud):=by
 have h:=vC a c hl (show 1<=par/\par<=32 by omega) b;have o:=(h.Ui _ (ba _)).o2;have d:=h.ne;refine⟨by omega,?_,h.start,by show par.toNat<=4;omega,λv _=>by show par.toNat<=4;omega⟩;show(dX P T g.toNat l.toNat par.toNat bud.toNat (AR.fresh 4096) (tE P).length).ops<=_;have:(AR.fresh 4096).ops=0:=rfl;have:(dX P T g.toNat l.toNat par.toNat bud.toNat (AR.fresh 4096) (tE P).length).ops<=_:=o;omega
theorem G9(b:ea P T)(d:0<=bud/\bud<=3):xH (Pg P T (AR.fresh 4096) bud) 0 (NH P T (AR.fresh 4096)):=by
 obtain⟨s1,s2,s3,s4⟩:=b.size;have f:=ki P;have hl:(AR.fresh 4096).ws.length=4096:=lA;have c:∀i,(NH P T (AR.fresh 4096)).A.get i=0:=λi=>tx _ i;have tk:∀p,p<T.length->eN T.length (λ_=>0) p=65536+((p:Int)+1):=λp a=>by rw[sD a s4 (fA _)];show((0:Int)+1)*65536+_=_;omega
 refine⟨(zm b (show 0<=bud/\bud<=1000 by omega) (g:=0) (l:=0) (par:=0)).i0,by show 0+_+_<=(AR.fresh 4096).ws.length;omega,⟨ba _,by show 0+1+1+(tE P).length<=0+(1+(tE P).length)+1;omega,by show 0+(1+(tE P).length)+1+T.length<=0+(1+(tE P).length)+T.length+1;omega,by show 0+(1+(tE P).length)+1<=4096;omega⟩,λj hj=>qm.2 (kT b (by rw[eB hj];exact lB hj)),λj _=>c _,λj _=>.inl rfl,λj _ e=>by have e:(0:Int)=2:=e;omega,d,λ_=>none,λ_=>0,?_⟩;have pc:∀{x:Int}{q:Prop},x≠0->(0:Int)=x->q:=λh e=>am e.symm h;refine⟨λp a=>?_,λp q a n e=>?_,λj _ e=>pc (x:=5) aO e,λj _ e=>?_,λx e=>?_,λm _ e=>?_,λm k _ _ e=>?_,λe=>am (c _) e,λj _ e=>pc (x:=4) aO e⟩
 ·show eN T.length (λ_=>0) p≠0;rw[tk p a];omega
 ·have e:eN T.length (λ_=>0) p=eN T.length (λ_=>0) q:=e;rw[tk p a,tk q n] at e;omega
 ·have e:(0:Int)=2\/(0:Int)=3\/(0:Int)=4:=e;omega
 ·refine am ?_ e;show(if x<_ then _ else(0:Int))=0
  split
  ·exact c _
  ·rfl
 ·have e:(0:Int)=2\/(0:Int)=3:=e;omega
 ·have e:(0:Int)=2\/(0:Int)=3:=e;omega
theorem uW(m:Nat)(f:ea P T)(n:1<=g/\g<=5)(hl:1<=l/\l<=5)(s:1<=par/\par<=4)(k:0<=bud/\bud<=1000):iM m (pz P T g l par bud) (qK P T g l par bud)/\(qK P T g l par bud).C.A.ops<=1000/\(qK P T g l par bud).C.A.get (pz P T g l par bud).fl=0:=by
 have h:=EY f n hl (show 1<=par/\par<=32 by omega) k;obtain⟨s1,s2,s3,s4⟩:=f.size;have o:=(h.Ui _ (ba _)).o2;have o1:=(h.Ui _ (ba _)).fit.2.2.1;have d:=h.ne;have q:=h.SY (fA (tE P).length) (ba _);have gg:=h.S6.1.1;have u:(dX P T g.toNat l.toNat par.toNat bud.toNat (EW P) 0).taken=(EW P).taken+(xD P T g l par bud).G.size:=gg.taken;have c:∀i:Int,i<=2*(tE P).length+1->(qK P T g l par bud).C.A.get i=0:=λi hi=>by
  have ht:(EW P).taken=2*(tE P).length+1:=rfl;exact(q.2.2 i aO).trans ((gg.T4 i aO).trans (tx _ i))
 have j:(EW P).ops=0:=rfl;refine⟨{lay:=⟨ba _,by show 1+2*(tE P).length<=2*(tE P).length+1;omega,ba _⟩,e:=d,Ry:=s4,co:=h.start,p:=⟨by show par.toNat<=4;omega,λv _=>by show par.toNat<=4;omega⟩,g:=λv hv=>?_},?_,c _ (pK _)⟩
 ·have hv:v<(tE P).length:=hv;have r:Jx m (pz P T g l par bud) (qK P T g l par bud).S v=0:=eG λt _=>ac λe=>by
   have:=sJ e.2;have:(0:Int)=1:=this.1;omega
  have a:gI (pz P T g l par bud) (qK P T g l par bud).C.A v=0:=c _ (by show(1:Int)+2*v+0<=_;omega);have b:gO (pz P T g l par bud) (qK P T g l par bud).C.A v=0:=c _ (by show(1:Int)+2*v+1<=_;omega);rw[r,a,b];exact⟨rfl,pK _,o1⟩
 ·show(dX P T g.toNat l.toNat par.toNat bud.toNat (EW P) (tE P).length).ops<=_;have:(dX P T g.toNat l.toNat par.toNat bud.toNat (EW P) (tE P).length).ops<=_:=o;omega
theorem Is(c:ea P T)(f:1<=g/\g<=5)(hl:1<=l/\l<=5)(h:1<=par/\par<=4)(d:0<=bud/\bud<=1000):mX (pz P T g l par bud) 0 (qK P T g l par bud):=by
 obtain⟨a,b, -⟩:=uW 0 c f hl h d;exact⟨by omega,by omega,a,λt _=>⟨.inl rfl,.inl ⟨rfl,rfl⟩⟩,λt _ e=>by have e:(0:Int)=9:=e;omega,nofun⟩
theorem IC(d:ea P T)(h:1<=g/\g<=5)(hl:1<=l/\l<=5)(i:1<=par/\par<=4)(f:0<=bud/\bud<=1000):iR (pz P T g l par bud) 0 (qK P T g l par bud):=by
 obtain⟨a,b,c⟩:=uW 1 d h hl i f;exact⟨by omega,by omega,a,λt _=>⟨.inl rfl,.inl ⟨rfl,rfl⟩⟩,λt _ e=>by have e:(0:Int)=9\/(0:Int)=6:=e;omega,nofun,λe=>am c e⟩
theorem IY(d:ea P T)(h:1<=g/\g<=5)(hl:1<=l/\l<=5)(i:1<=par/\par<=4)(f:0<=bud/\bud<=1000):ld (pz P T g l par bud) 0 (qK P T g l par bud):=by
 obtain⟨a,b,c⟩:=uW 2 d h hl i f;exact⟨by omega,by omega,a,λt _=>⟨.inl rfl,.inl ⟨rfl,rfl⟩⟩,λt _ e=>by have e:(0:Int)=9:=e;omega,nofun,by rw[c,show tY _ _=0 from eG λt _=>rfl];rfl⟩
end
end Go.Proofs.YteijjhahgabalaaGreat
