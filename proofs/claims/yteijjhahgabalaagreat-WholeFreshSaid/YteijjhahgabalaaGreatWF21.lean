/- The contracts of package mcs, of a state. (Printed by gen_fw.py.) -/
import Derived.Test.YteijjhahgabalaaGreatWF20
set_option maxRecDepth 100000
set_option maxHeartbeats 8000000
set_option linter.all false
namespace Go.Proofs.YteijjhahgabalaaGreat
open Go.RowKit
open Tryz
section
variable{w0:World}{Z:List Nat}{B:FB}{K:FK}{x:RX}{j:Nat}
theorem cE(e:K.k=4):xA B K [some B.ab,K.b,.slice (some ⟨B.sb,0,none⟩) K.n B.cp] B.xs:=⟨by simp[B2,e],rfl⟩
theorem CF(e:K.k=4):Pu (rD w0 Z B K) 197 #[some B.lb] x (.int .i64 K.n):=have E:= @cE B K e;rV
theorem Ni(e:K.k=4){i:Int}(h:bC K.n i=false):Pu (rD w0 Z B K) 201 #[some B.lb,i] x (.pointer none):=by
 have E:= @cE B K e;have K1:=aH (@CF w0 Z B K x e);exact Oc
theorem GN(e:K.k=4)(hj:j<K.n):Pu (rD w0 Z B K) 201 #[some B.lb,j] x (.pointer (some ⟨B.sb,j*4,none⟩)):=by
 have E:= @cE B K e;have K1:=aH (@CF w0 Z B K x e);exact Od
theorem CH(e:K.k=4){i:Int}(h:bC K.n i=false):Ct (rD w0 Z B K) 198 #[some B.lb,i] x (.agg #[(0:Int),(0:Int),(0:Int),(0:Int)]) x:=by
 have E:= @cE B K e;have K1:=aH (@Ni w0 Z B K x e i h);have CK:=aH λw=> @rK w0 w Z B K x _ _ E;exact B3
theorem Gx(e:K.k=4)(hj:j<K.n):Ct (rD w0 Z B K) 198 #[some B.lb,j] x (.agg #[(x.S j 0:Int),(x.S j 1:Int),(x.S j 2:Int),(x.S j 3:Int)]) x:=by
 have E:= @cE B K e;have K1:=aH (@GN w0 Z B K x j e hj);have CK:=aH λw=> @Lu w0 w Z B K x j _ _ E hj;exact B3
theorem C5(e:K.k=4)(hz:B.sb∈Z)(i pc a:Int):Ct (rD w0 Z B K) 200 #[some B.lb,i,pc,a] x (.bool (ai K.n x.S i pc)) ⟨x.A,bo K.n x.S i pc a⟩:=by
 have E:= @cE B K e;unfold bo ai;apply EF
 ·intro h;have K1:=aH (@Ni w0 Z B K x e i h).ct;exact lD
 ·intro j hj h;subst h;have K1:=aH (@GN w0 Z B K x j e hj).ct;exact rW 0
 ·intro j hj h;have K1:=aH (@GN w0 Z B K x j e hj).ct;exact rW 0
theorem P6(e:K.k=4)(c:B.sb∈Z)(hj:j<K.n){pc:Int}(h:x.S j 0=pc)(a:Int):Ct (rD w0 Z B K) 200 #[some B.lb,j,pc,a] x (.bool true) ⟨x.A,aa x.S j 0 a⟩:=by
 have:= @C5 w0 Z B K x e c j pc a
 rwa [(pS (b:=a) hj h).1,(pS (b:=a) hj h).2] at this
theorem St(e:K.k=4)(a:B.sb∈Z)(i:Int):Ct (rD w0 Z B K) 195 #[some B.lb,i] x (.bool (ai K.n x.S i 0)) ⟨x.A,bo K.n x.S i 0 1⟩:=by
 have E:= @cE B K e;have K1:=aH (@C5 w0 Z B K x e a i 0 1);exact lD
theorem RV(e:K.k=4)(a:B.sb∈Z)(i:Int):Ct (rD w0 Z B K) 196 #[some B.lb,i] x (.bool (ai K.n x.S i 10)) ⟨x.A,bo K.n x.S i 10 11⟩:=by
 have E:= @cE B K e;have K1:=aH (@C5 w0 Z B K x e a i 10 11);exact lD
theorem JT(e:K.k=4)(y:Int):Ct (rD w0 Z B K) 205 #[some B.lb,y] x (.int .i64 (lJ K.b y)) x:=have E:= @cE B K e;lD
theorem JV(e:K.k=4)(y:Int):Ct (rD w0 Z B K) 206 #[some B.lb,y] x (.int .i64 (q9 K.b y)) x:=have E:= @cE B K e;lD
theorem wE{p:Prop}(t:Nat)(h:Tg t->p:=by
 intro HT;have E:= @cE B K e;have K1:=aH λx=> @JT w0 B.z B K x e;have K2:=aH λx=> @JV w0 B.z B K x e;exact MB):p:=h ⟨⟩
theorem PA(e:K.k=4)(hj:j<K.n)(a:1<=x.S j 0/\x.S j 0<=5):Ct (rD w0 B.z B K) 203 #[some B.lb,.pointer (some ⟨B.sb,j*4,none⟩),((j:Int)+1:Int)] x (.int .i64 (BV K.b x.A x.S j).2.2) ⟨(BV K.b x.A x.S j).1,(BV K.b x.A x.S j).2.1⟩:=by
 have hz:= @zS B;rcases(by omega:x.S j 0=1\/x.S j 0=2\/x.S j 0=3\/x.S j 0=4\/x.S j 0=5) with h|h|h|h|h<;>simp only[BV,h,Int.reduceEq,bt,br]
 ·exact wE 9
 ·exact wE 9
 ·exact AS (λg=>wE 1) λg=>wE 1
 ·exact wE 9
 ·exact AS (λg=>wE 9) λg=>wE 9
theorem MQ(e:K.k=4)(hj:j<K.n)(a:11<=x.S j 0/\x.S j 0<=14):Ct (rD w0 B.z B K) 204 #[some B.lb,.pointer (some ⟨B.sb,j*4,none⟩),((j:Int)+1:Int)] x (.int .i64 (qZ K.b x.A x.S j).2.2) ⟨(qZ K.b x.A x.S j).1,(qZ K.b x.A x.S j).2.1⟩:=by
 have hz:= @zS B;rcases(by omega:x.S j 0=11\/x.S j 0=12\/x.S j 0=13\/x.S j 0=14) with h|h|h|h<;>simp only[qZ,h,Int.reduceEq,bt,br]
 ·exact AS (λg=>wE 1) λg=>wE 1
 ·exact AS (λg=>wE 9) λg=>have g:=(by simpa using g:x.A.RE K.b ((j:Int)+1)=false);wE 9
 ·exact AS (λg=>wE 1) λg=>wE 1
 ·exact wE 9
theorem Jk{N:Nat}{r fin:Int}{a:RX}(e:K.k=4)(hj:j<K.n)(c:N=203\/N=204)(H:Ct (rD w0 B.z B K) N #[some B.lb,.pointer (some ⟨B.sb,j*4,none⟩),((j:Int)+1:Int)] x (.int .i64 r) a):Ct (rD w0 B.z B K) 202 #[some B.lb,j,fin,.func (.func N) #[some B.lb] #[]] x (.bool (r==fin)) ⟨a.A,aa a.S j 0 r⟩:=by
 have hz:= @zS B;have E:= @cE B K e;have K1:=aH (@GN w0 B.z B K x j e hj).ct;have K8:=aH H;clear H;rcases c with rfl|rfl<;>cases hb:(r==fin)<;>exact rW 0
theorem ML(e:K.k=4)(i:Int)(h:iU K.n x.S i=false):Ct (rD w0 B.z B K) 199 #[some B.lb,i] x (.bool false) x:=by
 have a:=fU;have E:= @cE B K e;rcases lT K.n i with⟨h1,_⟩|⟨h1,_⟩|⟨j,rfl,hj,h1,_⟩
 ·have K1:=aH (@CH w0 B.z B K x e i h1);exact lD
 ·have K1:=aH (@CH w0 B.z B K x e i h1);exact lD
 ·have K1:= @Gx w0 B.z B K x j e hj;rcases(by unfold iU at h;simp only[h1,gS,cH] at h;by_cases c:x.S j 0=0<;>simp_all:x.S j 0=0\/x.S j 0=10) with g|g<;>rw[g] at K1<;>replace K1:=aH K1<;>exact lD
theorem CE{n:Nat}{S:Nat->Nat->Int}{i:Int}(h:iU n S i=true):∃j:Nat,i=j/\j<n/\S j 0≠0/\S j 0≠10:=by
 unfold iU at h;rcases lT n i with⟨h1,_⟩|⟨h1,_⟩|⟨j,rfl,hj,h1,_⟩
 ·simp[h1] at h
 ·simp[h1] at h
 ·exact⟨j,rfl,hj,by simp[h1] at h;exact h.1,by simp[h1] at h;exact h.2⟩
theorem JU(e:K.k=4)(i:Int)(a:jn K.n x.S):Ct (rD w0 B.z B K) 199 #[some B.lb,i] x (.bool (q8 K.n K.b x.S x.A i)) ⟨iV K.n K.b x.S x.A i,gy K.n K.b x.S x.A i⟩:=by
 unfold q8 iV gy;cases hm:iU K.n x.S i with
 |false=>exact ML e i hm
 |true=>
  obtain⟨j,rfl,hj,g,h1⟩:=CE hm;have c:=a j hj;have f:=fU;have E:= @cE B K e;have K1:=aH (@Gx w0 B.z B K x j e hj);clear hm a;simp only[gS,bt,cH];unfold xN;have b:= @aY prog;by_cases q:x.S j 0<10
  ·rw[ad q,ad q];have K8:=aH (Jk (fin:=10) e hj (.inl rfl) (@PA w0 B K x j e hj aO));have d:0<x.S j 0:=by omega
   exact lD
  ·rw[ac q,ac q];have K8:=aH (Jk (fin:=0) e hj (.inr rfl) (@MQ w0 B K x j e hj aO));have d:0<x.S j 0:=by omega
   have h:10<x.S j 0:=by omega
   exact lD
theorem Gv(e:K.k=4)(i:Int):Ct (rD w0 B.z B K) 194 #[some B.lb,i] x (.bool (Gu K.n K.b x.S x.A i)) ⟨Gt K.n K.b x.S x.A i,x.S⟩:=by
 have d:=fU;have hz:= @zS B;unfold Gu Gt ai;rcases lT K.n i with⟨h,_⟩|⟨h,_⟩|⟨j,rfl,hj,h,_⟩
 ·have E:= @cE B K e;have K1:=aH (@CH w0 B.z B K x e i h);simp only[h,lC,ko,br];exact EG
 ·have E:= @cE B K e;have K1:=aH (@CH w0 B.z B K x e i h);simp only[h,lC,ko,br];exact EG
 ·have K3:= @Gx w0 B.z B K x j e hj;by_cases g:x.S j 0=10
  ·rw[g] at K3;replace K3:=aH K3;simp only[h,g,gS,gi,bt,cH];by_cases a:x.A.get (lJ K.b ((j:Int)+1))=0
   ·rw[ef a];exact wE 9
   ·rw[dh a];exact wE 9
  ·have c:decide (x.S j 0=10)=false:=by simpa using g
   replace K3:=aH K3;simp only[h,c,gS,ko,lC,br,cH];exact wE 9
end
section
variable{w0:World}{Z:List Nat}{B:FB}{K:FK}{x:RX}{j:Nat}
theorem Qs(e:K.k=1)(hj:j<K.n)(h:x.S j 0=1)(g:x.A.RE K.b 0=false)(hm:wrap64 (2*x.S j 1)<=K.p):Ct (rD w0 B.z B K) 163 #[some B.lb,j] x (.bool false) ⟨x.A.Sd K.b 0 ((j:Int)+1),aa (aa (aa x.S j 0 2) j 2 (x.S j 1)) j 1 (wrap64 (2*x.S j 1))⟩:=by
 have a:IntKind.i64.wrap (2*x.S j 1)<=K.p:=by rw[BR];exact hm
 exact lX
end
section
variable{w0:World}{Z:List Nat}{B:FB}{K:FK}{x:RX}{j:Nat}
theorem l_1(e:K.k=1)(hj:j<K.n)(h:x.S j 0=1):Ct (rD w0 B.z B K) 163 #[some B.lb,j] x (.bool (x.A.RE K.b 0)) ⟨x.A.Sd K.b 0 ((j:Int)+1),if x.A.RE K.b 0=true then aa x.S j 0 10 else aa (aa (aa x.S j 0 2) j 2 (x.S j 1)) j 1 (eX K.p (x.S j 1))⟩:=by
 cases g:x.A.RE K.b 0
 ·rw[ac aS];unfold eX;by_cases hm:wrap64 (2*x.S j 1)<=K.p
  ·rw[ad hm];exact Qs e hj h g hm
  ·rw[ac hm];exact Qt e hj h g hm
 ·rw[ad rfl];have HT:Tg 0:=⟨⟩
  exact lW
theorem DZ(e:K.k=1)(i:Int)(hi:∀j:Nat,i=j->j<K.n->¬x.S j 0=1/\¬x.S j 0=2/\¬x.S j 0=11):Ct (rD w0 B.z B K) 163 #[some B.lb,i] x (.bool false) x:=by
 have E:= @lE B K e;rcases lT K.n i with⟨h,_⟩|⟨h,_⟩|⟨j,rfl,hj,h,_⟩
 ·have K1:=aH (@D5 w0 B.z B K x e i h).ct;exact lD
 ·have K1:=aH (@D5 w0 B.z B K x e i h).ct;exact lD
 ·obtain⟨h1,h2,h3⟩:=hi j rfl hj;exact have HT:Tg 9:=⟨⟩;lW
theorem KE(e:K.k=1)(i:Int):Ct (rD w0 B.z B K) 163 #[some B.lb,i] x (.bool (sF K.n K.b x.S x.A i)) ⟨ir K.n K.b x.S x.A i,it K.n K.b K.p x.S x.A i⟩:=by
 unfold sF it ir;rcases lT K.n i with⟨h,h1⟩|⟨h,h1,h2⟩|⟨j,rfl,hj,h,_⟩<;>simp only[h,gS,lC,ko,bt,br,cH]
 ·exact DZ e i λj q=>by omega
 ·exact DZ e i λj q=>by omega
 by_cases a:x.S j 0=1
 ·simp only[a,Int.reduceEq,bt,br];exact l_1 e hj a
 by_cases b:x.S j 0=2
 ·simp only[b,Int.reduceEq,bt,br,fI];exact l_2 e hj b
 by_cases c:x.S j 0=11
 ·simp only[c,Int.reduceEq,bt,br,gi];exact Qr e hj c
 ·simp only[a,b,c,br,fI];exact DZ e j λk q _=>by have q:=An q;subst q;exact⟨a,b,c⟩
end
def Jr(lb k:Nat):Value:=if k=1 then .iface 100 (.agg #[some lb]) else if k=2 then .iface 101 (.pointer (some ⟨lb,0,none⟩)) else if k=3 then .iface 104 (.pointer (some ⟨lb,0,none⟩)) else if k=4 then .iface 107 (.pointer (some ⟨lb,0,none⟩)) else .iface 110 (.pointer (some ⟨lb,0,none⟩))
variable{lb k:Nat}
theorem Pi(e:k=1):(k:Int)=1/\Jr lb k= .iface 100 (.agg #[some lb]):=by subst e;exact⟨rfl,rfl⟩
theorem Qm(e:k=2):(k:Int)=2/\Jr lb k= .iface 101 (.pointer (some ⟨lb,0,none⟩)):=by subst e;exact⟨rfl,rfl⟩
theorem Qn(e:k=3):(k:Int)=3/\Jr lb k= .iface 104 (.pointer (some ⟨lb,0,none⟩)):=by subst e;exact⟨rfl,rfl⟩
theorem Qo(e:k=4):(k:Int)=4/\Jr lb k= .iface 107 (.pointer (some ⟨lb,0,none⟩)):=by subst e;exact⟨rfl,rfl⟩
theorem Qp(e:k=5):(k:Int)=5/\Jr lb k= .iface 110 (.pointer (some ⟨lb,0,none⟩)):=by subst e;exact⟨rfl,rfl⟩
def fX(fb lb k:Nat):Nat×List Value×TypeId:=(fb,[k,Jr lb k],114)
structure cZ(w:World)(fb lb sb ab wb:Nat)(A:AR)(S:Nat->Nat->Int)(K:FK):Prop where
 kk:K.k=1\/K.k=2\/K.k=3\/K.k=4\/K.k=5
 at_:∃cp ex,qV ⟨lb,sb,ab,wb,cp,ex,[fX fb lb K.k]⟩ K w ⟨A,S⟩
section
variable{w w':World}{fb lb sb ab wb:Nat}{A A':AR}{S:Nat->Nat->Int}{K:FK}
theorem cZ.ar(h:cZ w fb lb sb ab wb A S K):ax w ab wb A:=by
 obtain⟨_,_,h⟩:=h.at_;exact h.ar
theorem cZ.re(h:cZ w fb lb sb ab wb A S K){Z:List Nat}(b:af Z w w')(h1:fb∉Z)(h2:lb∉Z)(h3:sb∉Z)(a:ax w' ab wb A'):cZ w' fb lb sb ab wb A' S K:=by
 obtain⟨k,cp,ex,h⟩:=h;exact⟨k,cp,ex,h.re b h2 h3 (by simpa[fX] using h1) a⟩
theorem cZ.Rr(h:cZ w fb lb sb ab wb A S K){Z:List Nat}(b:af Z w w')(a:∀k∈[fb,lb,sb,ab,wb],k∉Z):cZ w' fb lb sb ab wb A S K:=
 h.re b (a _ aS) (a _ aS) (a _ aS) (h.ar.Rr b (a _ aS) (a _ aS))
theorem cZ.TZ(h:cZ w fb lb sb ab wb A S K):∃vs,aq w fb vs 114:=by
 obtain⟨_,_,_,h⟩:=h;exact⟨_,(h.xt (fX fb lb K.k) List.mem_cons_self).1⟩
theorem cZ.S3(h:cZ w fb lb sb ab wb A S K):∃vs,aq w sb vs 138:=by
 obtain⟨_,_,_,h⟩:=h;exact⟨_,h.row⟩
theorem cZ.UG(h:cZ w fb lb sb ab wb A S K):∃vs T,aq w lb vs T/\T≠138/\T≠93/\T≠158/\T≠114/\T≠201/\T≠203/\T≠136/\T≠3:=by
 obtain⟨_,_,_,h⟩:=h;exact⟨_,_,h.box,iq _ aJ,iq _ aJ,iq _ aJ,iq _ aJ,iq _ aJ,iq _ aJ,iq _ aJ,iq _ aJ⟩
theorem cZ.apart(h:cZ w fb lb sb ab wb A S K):fb≠sb/\fb≠ab/\fb≠wb/\lb≠sb/\lb≠ab/\lb≠wb/\sb≠ab/\sb≠wb:=by
 obtain⟨_,_,_,h⟩:=h;have h1:=h.xz (fX fb lb K.k) List.mem_cons_self;have h2:=h.ne;simp[fX] at h1 h2;omega
section
variable{w0:World}{Z:List Nat}{B:FB}{x:RX}{i:Int}
theorem fE{cs:List Value}{k:Int}{v:Value}(E:xA B K cs B.xs)(X:B.xs=[fX fb B.lb K.k])(e:(K.k:Int)=k/\Jr B.lb K.k=v):xA B K cs [(fb,[k,v],114)]:=⟨E.c,by rw[X,fX,e.1,e.2]⟩
theorem Jp{cs:List Value}{k:Int}{v:Value}(E:xA B K cs [(fb,[k,v],114)])(b:¬k=0):Ct (rD w0 Z B K) 158 #[some fb] x (.bool true) x:=have a:= @Mz;lD
variable{p:Prop}
theorem tA(h:p:=by
 have E:=fE E X (by first|exact Pi e|exact Qm e|exact Qn e|exact Qo e|exact Qp e);first|have K1:=aH (@Jp fb K w0 Z B x _ _ _ E aJ)|have K1:=aH (@Jp fb K w0 B.z B x _ _ _ E aJ)
 exact lD):p:=h
theorem Nm(kk:K.k=1\/K.k=2\/K.k=3\/K.k=4\/K.k=5)(X:B.xs=[fX fb B.lb K.k])(a:B.sb∈Z):Ct (rD w0 Z B K) 153 #[some fb,i] x (.bool (ai K.n x.S i 0)) ⟨x.A,gM K x.S i⟩:=by
 unfold gM;rcases kk with e|e|e|e|e<;>simp only[e,Nat.reduceEqDiff,bt,br]
 ·have E:= @lE B K e;have K2:=aH (@Qq w0 Z B K x e a i);exact tA
 ·have E:= @kE B K e;have K2:=aH (@Qi w0 Z B K x e a i);exact tA
 ·have E:= @pE B K e;have K2:=aH (@QE w0 Z B K x e a i);exact tA
 ·have E:= @cE B K e;have K2:=aH (@St w0 Z B K x e a i);exact tA
 ·have E:= @hE B K e;have K2:=aH (@Qa w0 Z B K x e a i);exact tA
theorem GR(kk:K.k=1\/K.k=2\/K.k=3\/K.k=4\/K.k=5)(X:B.xs=[fX fb B.lb K.k])(a:B.sb∈Z):Ct (rD w0 Z B K) 155 #[some fb,i] x (.bool (ai K.n x.S i 10)) ⟨x.A,dp K x.S i⟩:=by
 unfold dp;rcases kk with e|e|e|e|e
 ·have E:= @lE B K e;have K2:=aH (@KC w0 Z B K x e a i);exact tA
 ·have E:= @kE B K e;have K2:=aH (@Ky w0 Z B K x e a i);exact tA
 ·have E:= @pE B K e;have K2:=aH (@Ll w0 Z B K x e a i);exact tA
 ·have E:= @cE B K e;have K2:=aH (@RV w0 Z B K x e a i);exact tA
 ·have E:= @hE B K e;have K2:=aH (@Kh w0 Z B K x e a i);exact tA
theorem Ka(kk:K.k=1\/K.k=2\/K.k=3\/K.k=4\/K.k=5)(X:B.xs=[fX fb B.lb K.k])(a:K.k=4->jn K.n x.S):Ct (rD w0 B.z B K) 157 #[some fb,i] x (.bool (cN K x.S x.A i)) ⟨bL K x.S x.A i,bM K x.S x.A i⟩:=by
 unfold cN bL bM;rcases kk with e|e|e|e|e<;>simp only[e,Nat.reduceEqDiff,bt,br]
 ·have E:= @lE B K e;have K2:=aH (@KE w0 B K x e i);exact tA
 ·have E:= @kE B K e;have K2:=aH (@Kz w0 B K x e i);exact tA
 ·have E:= @pE B K e;have K2:=aH (@Lo w0 B K x e i);exact tA
 ·have E:= @cE B K e;have K2:=aH (@JU w0 B K x e i (a e));exact tA
 ·have E:= @hE B K e;have K2:=aH (@Kj w0 B K x e i);exact tA
theorem lSp(e:K.k=1)(i:Int):∃p a b c:Int,(p==10)=ai K.n x.S i 10/\Ct (rD w0 Z B K) 162 #[some B.lb,i] x (.agg #[p,a,b,c]) x:=by
 unfold ai;rcases lT K.n i with⟨h,_⟩|⟨h,_⟩|⟨j,rfl,hj,h,_⟩
 ·exact⟨_,_,_,_,by simp[h], @KD w0 Z B K x e i h⟩
 ·exact⟨_,_,_,_,by simp[h], @KD w0 Z B K x e i h⟩
 ·exact⟨_,_,_,_,by simp[h,ug], @NU w0 Z B K x j e hj⟩
theorem Hw(e:K.k=1)(i:Int):Ct (rD w0 B.z B K) 168 #[.agg #[some B.lb],i] x (.bool (ai K.n x.S i 10)) x:=by
 obtain⟨p,a,b,c,h,f⟩:=lSp (w0:=w0) (Z:=B.z) (x:=x) e i;rw[<-h];clear h;have g:=fU;have E:= @lE B K e;replace f:=aH f;cases h:(p==10)
 all_goals
  intro w d;replace d:=aH d
  go_in
  go_wp2_with(with_reducible refine lP f.o (aH (d.o.al _)) ?_;clear d;intro w d)
  go_returns
  exact⟨rfl,d.o⟩
theorem GP(kk:K.k=1\/K.k=2\/K.k=3\/K.k=4\/K.k=5)(X:B.xs=[fX fb B.lb K.k]):Ct (rD w0 B.z B K) 230 #[some fb,i] x (.bool (qa K x.S x.A i)) ⟨p9 K x.S x.A i,x.S⟩:=by
 unfold qa p9;rcases kk with e|e|e|e|e<;>simp only[e,Nat.reduceEqDiff,bt,br]
 ·have E:= @lE B K e;have K2:=aH (@Hw K w0 B x e i);exact tA
 ·have E:= @kE B K e;have K2:=aH (@Ht w0 B K x e i);exact tA
 ·have E:= @pE B K e;have K2:=aH (@Iw w0 B K x e i);exact tA
 ·have E:= @cE B K e;have K2:=aH (@Gv w0 B K x e i);exact tA
 ·have E:= @hE B K e;have K2:=aH (@G6 w0 B K x e i);exact tA
theorem E6{D:World->RX->Prop}{N n:Nat}{args:Int->Array Value}(a:∀{i},bC n i=false->Ct D N (args i) x (.agg #[(0:Int),(0:Int),(0:Int),(0:Int)]) x)(b:∀{j:Nat},j<n->Ct D N (args j) x (.agg #[(x.S j 0:Int),(x.S j 1:Int),(x.S j 2:Int),(x.S j 3:Int)]) x)(i:Int):Ct D N (args i) x (mB n x.S i) x:=by
 unfold mB;rcases lT n i with⟨h,_⟩|⟨h,_⟩|⟨j,rfl,hj,h,_⟩
 ·rw[ac (by simp[h])];exact a h
 ·rw[ac (by simp[h])];exact a h
 ·rw[ad h,cH];exact b hj
theorem Kc{cs:List Value}{k:Int}{v:Value}(E:xA B K cs [(fb,[k,v],114)])(b:¬k=0):Pu (rD w0 Z B K) 158 #[some fb] x (.bool true):=have a:= @Mz;rV
theorem No(h:p:=by
 have E:=fE E X (by first|exact Pi e|exact Qm e|exact Qn e|exact Qo e|exact Qp e);have K1:=aH (@Kc fb K w0 [] B x _ _ _ E aJ);have CK:=aH λw=> @rK w0 w [] B K x _ _ E;have hr:=results156;exact Rm):p:=h
theorem J9(kk:K.k=1\/K.k=2\/K.k=3\/K.k=4\/K.k=5)(X:B.xs=[fX fb B.lb K.k]){a b c d:Int}(hv:mB K.n x.S i= .agg #[a,b,c,d]):Ct (rD w0 [] B K) 156 #[some fb,i] x (.agg #[a,b,c,d]) x:=by
 rcases kk with e|e|e|e|e
 ·have E:= @lE B K e;have K2:=aH λw0=>hv ▸ E6 (D:=rD w0 [] B K) (args:=λi=>#[some B.lb,.int .i64 i]) (KD e) (NU e) i;exact No
 ·have E:= @kE B K e;have K2:=aH λw0=>hv ▸ E6 (D:=rD w0 [] B K) (args:=λi=>#[some B.lb,.int .i64 i]) (λh=>NP λw0=>Qj e h) (λh=>NP λw0=>Qk e h) i;exact No
 ·have E:= @pE B K e;have K2:=aH λw0=>hv ▸ E6 (D:=rD w0 [] B K) (args:=λi=>#[some B.lb,.int .i64 i]) (Lm e) (Ln e) i;exact No
 ·have E:= @cE B K e;have K2:=aH λw0=>hv ▸ E6 (D:=rD w0 [] B K) (args:=λi=>#[some B.lb,.int .i64 i]) (CH e) (Gx e) i;exact No
 ·have E:= @hE B K e;have K2:=aH λw0=>hv ▸ E6 (D:=rD w0 [] B K) (args:=λi=>#[some B.lb,.int .i64 i]) (Nv e) (Ki e) i;exact No
end
theorem rt(h:cZ w fb lb sb ab wb A S K)(i:Int):Calls prog 153 #[some fb,i] w λe w'=>e= .returned (.bool (ai K.n S i 0))/\cZ w' fb lb sb ab wb (A) (gM K S i) K/\af [sb] w w':=by
 obtain⟨kk,cp,ex,h⟩:=h;exact(Nm (Z:=[sb]) (w0:=w) (B:=⟨lb,sb,ab,wb,cp,ex,[fX fb lb K.k]⟩) (x:=⟨A,S⟩) (i:=i) kk rfl aS w ⟨h,aF⟩).mono λe w' ⟨h1,h2,h3⟩=>⟨h1,⟨kk,cp,ex,h2⟩,h3⟩
theorem kG(h:cZ w fb lb sb ab wb A S K)(i:Int):Calls prog 155 #[some fb,i] w λe w'=>e= .returned (.bool (ai K.n S i 10))/\cZ w' fb lb sb ab wb (A) (dp K S i) K/\af [sb] w w':=by
 obtain⟨kk,cp,ex,h⟩:=h;exact(GR (Z:=[sb]) (w0:=w) (B:=⟨lb,sb,ab,wb,cp,ex,[fX fb lb K.k]⟩) (x:=⟨A,S⟩) (i:=i) kk rfl aS w ⟨h,aF⟩).mono λe w' ⟨h1,h2,h3⟩=>⟨h1,⟨kk,cp,ex,h2⟩,h3⟩
theorem fw(h:cZ w fb lb sb ab wb A S K)(a:K.k=4->jn K.n S)(i:Int):Calls prog 157 #[some fb,i] w λe w'=>e= .returned (.bool (cN K S A i))/\cZ w' fb lb sb ab wb (bL K S A i) (bM K S A i) K/\af [sb,ab,wb] w w':=by
 obtain⟨kk,cp,ex,h⟩:=h;exact(Ka (w0:=w) (B:=⟨lb,sb,ab,wb,cp,ex,[fX fb lb K.k]⟩) (x:=⟨A,S⟩) (i:=i) kk rfl a w ⟨h,aF⟩).mono λe w' ⟨h1,h2,h3⟩=>⟨h1,⟨kk,cp,ex,h2⟩,h3⟩
theorem x9(h:cZ w fb lb sb ab wb A S K)(i:Int):Calls prog 230 #[some fb,i] w λe w'=>e= .returned (.bool (qa K S A i))/\cZ w' fb lb sb ab wb (p9 K S A i) (S) K/\af [sb,ab,wb] w w':=by
 obtain⟨kk,cp,ex,h⟩:=h;exact(GP (w0:=w) (B:=⟨lb,sb,ab,wb,cp,ex,[fX fb lb K.k]⟩) (x:=⟨A,S⟩) (i:=i) kk rfl w ⟨h,aF⟩).mono λe w' ⟨h1,h2,h3⟩=>⟨h1,⟨kk,cp,ex,h2⟩,h3⟩
theorem AV(h:cZ w fb lb sb ab wb A S K)(i:Int):Calls prog 156 #[some fb,i] w λe w'=>e= .returned (mB K.n S i)/\af [] w w':=by
 obtain⟨kk,cp,ex,h⟩:=h;obtain⟨a,b,c,d,hv⟩:=E8 K.n S i;rw[hv];exact(J9 (w0:=w) (B:=⟨lb,sb,ab,wb,cp,ex,[fX fb lb K.k]⟩) (x:=⟨A,S⟩) (i:=i) kk rfl hv w ⟨h,aF⟩).mono λe w' ⟨h1,h2,h3⟩=>⟨h1,h3⟩
end
end Go.Proofs.YteijjhahgabalaaGreat
