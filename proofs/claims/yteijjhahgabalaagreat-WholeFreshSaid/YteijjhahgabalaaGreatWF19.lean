/- Slots' spots: their cells, what asks and leaves make of them; plain lemmas. -/
import Derived.Deep.RegionHeld3
import Derived.Deep.RegionWith
import Derived.Deep.DeepCutAuto
import Derived.Deep.CutBlock
import Derived.Test.YteijjhahgabalaaGreatWF06
import Derived.Test.YteijjhahgabalaaGreatWF11
import Derived.Test.YteijjhahgabalaaGreatWF18
set_option maxRecDepth 100000
set_option maxHeartbeats 8000000
set_option linter.all false
namespace Go.Proofs.YteijjhahgabalaaGreat
open Go.RowKit
open Tryz
def dJ(n:Nat)(S:Nat->Nat->Int):List Value:=(List.range (4*n)).map λj=>Value.int .i64 (S (j/4) (j%4))
def aa(S:Nat->Nat->Int)(i t:Nat)(v:Int):Nat->Nat->Int:=λi' t'=>if i'=i/\t'=t then v else S i' t'
variable{i t:Nat}
theorem IH(n:Nat)(S:Nat->Nat->Int)(hi:i<n)(ht:t<4):(dJ n S)[4*i+t]? =some (.int .i64 (S i t)):=by
 unfold dJ;rw[iL,qo aO];simp only[y8];rw[show(4*i+t)/4=i from by omega,show(4*i+t)%4=t from by omega]
theorem IJ(n:Nat)(S:Nat->Nat->Int)(ht:t<4)(v:Int):(dJ n S).set (4*i+t) (.int .i64 v)=dJ n (aa S i t v):=by
 apply y6;intro j;rw[s7];by_cases h:4*i+t=j
 ·subst h;by_cases a:4*i+t<4*n
  ·rw[ad rfl,ad (by unfold dJ;simpa using a)];unfold dJ;rw[iL,qo a];simp only[y8];rw[show(4*i+t)/4=i from by omega,show(4*i+t)%4=t from by omega];unfold aa;simp
  ·rw[ad rfl,ac (by unfold dJ;simpa using a),BH (by unfold dJ;simp;omega)]
 ·rw[ac h];unfold dJ;by_cases a:j<4*n
  ·rw[iL,iL,qo a];simp only[y8];unfold aa;rw[ac aO]
  ·rw[BH aQ,BH aQ]
def bC(n:Nat)(i:Int):Bool:=decide (0<=i/\i<(n:Int))
theorem a9(n:Nat)(S:Nat->Nat->Int)(hi:i<n)(ht:t<4):(dJ n S)[i*4+t]? =some (.int .i64 (S i t)):=by
 rw[Nat.mul_comm i 4];exact IH n S hi ht
theorem i9(n:Nat)(S:Nat->Nat->Int)(ht:t<4)(v:Int):(dJ n S).set (i*4+t) (.int .i64 v)=dJ n (aa S i t v):=by
 rw[Nat.mul_comm i 4];exact IJ n S ht v
variable{n:Nat}{S:Nat->Nat->Int}{Y:List Value}
theorem z9(hi:i<n)(ht:t<4):(dJ n S++Y)[i*4+t]? =some (.int .i64 (S i t)):=by
 have:=a9 n S hi ht;have hl:i*4+t<(dJ n S).length:=(pH.1 this).1;rw[BJ hl];exact this
theorem IK(hi:i<n)(ht:t<4){v:Int}:(dJ n S++Y).set (i*4+t) (.int .i64 v)=dJ n (aa S i t v)++Y:=by
 have:=a9 n S hi ht;have hl:i*4+t<(dJ n S).length:=(pH.1 this).1;rw[List.set_append_left _ _ hl,i9 n S ht v]
def mB(n:Nat)(S:Nat->Nat->Int)(i:Int):Value:=if bC n i then .agg #[(S i.toNat 0:Int),(S i.toNat 1:Int),(S i.toNat 2:Int),(S i.toNat 3:Int)] else .agg #[(0:Int),(0:Int),(0:Int),(0:Int)]
theorem E8(n:Nat)(S:Nat->Nat->Int)(i:Int):∃a b c d:Int,mB n S i= .agg #[a,b,c,d]:=by
 unfold mB
 split
 ·exact⟨_,_,_,_,rfl⟩
 ·exact⟨_,_,_,_,rfl⟩
theorem Lt(S:Nat->Nat->Int)(i:Nat){u:Nat}(h:u≠t){a:Int}:aa S i t a i u=S i u:=by unfold aa;simp[h]
def ai(n:Nat)(S:Nat->Nat->Int)(i pc:Int):Bool:=bC n i&&decide (S i.toNat 0=pc)
def bo(n:Nat)(S:Nat->Nat->Int)(i pc nw:Int):Nat->Nat->Int:=if ai n S i pc then aa S i.toNat 0 nw else S
theorem wT:(prog.info? 138).map (λi=>(i.zero,i.size,i.bytes))=some (some (.agg #[(0:Int),(0:Int),(0:Int),(0:Int)]),4,32):=by kernel_rfl
theorem iE(n:Nat)(hn:n<=1000)(W:World):(Instr.makeSlice 142 (.int .i64 n) (.int .i64 n)).run prog W= .ok (.slice (some ⟨W.heap.size,0,none⟩) n n) (W.alloc (.cells (dJ n (λ_ _=>0)).toArray 138)):=by
 obtain⟨i0,hi,a,b,c⟩:=mN wT;rw[run_make W 142 138 i0 (.agg #[(0:Int),(0:Int),(0:Int),(0:Int)]) underlying142 hi a .i64 .i64 n n aO aO (by rw[c];omega) aO];have e:madeCells (Value.agg #[(0:Int),(0:Int),(0:Int),(0:Int)]).cells (((n:Int).toNat)*i0.size)=(dJ n (λ_ _=>0)).toArray:=by
  rw[b];apply xj;apply y6;intro j;have d:∀k,k<4->(#[Value.int .i64 0,(0:Int),(0:Int),(0:Int)]:Array Value)[k]! = .int .i64 0:=by
   intro k g;rcases(by omega:k=0\/k=1\/k=2\/k=3) with rfl|rfl|rfl|rfl<;>rfl
  have f:=d (j%4) (Nat.mod_lt _ aO);by_cases hj:j<n*4
  ·unfold madeCells dJ;simp only[Array.toList_map,iL,Array.toList_range];rw[qo (by simpa using hj),qo aO];show some _=some _;congr 1
  ·rw[BH (by simp[madeCells];omega),BH (by simp[dJ];omega)]
 rw[e];simp
def nB(n:Nat)(S:Nat->Nat->Int)(i:Int):Bool:=bC n i&&decide (S i.toNat 0=0)
def wX(n:Nat)(S:Nat->Nat->Int)(i:Int):Nat->Nat->Int:=if nB n S i then aa (aa S i.toNat 0 1) i.toNat 1 1 else S
def Ff(n:Nat)(S:Nat->Nat->Int)(i:Int):Bool:=bC n i&&decide (S i.toNat 0=10)
def Q2(n:Nat)(S:Nat->Nat->Int)(i:Int):Nat->Nat->Int:=if Ff n S i then aa S i.toNat 0 11 else S
def eX(most a:Int):Int:=if wrap64 (2*a)<=most then wrap64 (2*a) else most
def sF(n word:Nat)(S:Nat->Nat->Int)(A:AR)(i:Int):Bool:=bC n i&&(if S i.toNat 0=1 then A.RE word 0 else decide (S i.toNat 0=11))
def it(n word:Nat)(most:Int)(S:Nat->Nat->Int)(A:AR)(i:Int):Nat->Nat->Int:=
 if bC n i then
  (if S i.toNat 0=1 then(if A.RE word 0 then aa S i.toNat 0 10 else aa (aa (aa S i.toNat 0 2) i.toNat 2 (S i.toNat 1)) i.toNat 1 (eX most (S i.toNat 1)))
   else if S i.toNat 0=2 then(if wrap64 (S i.toNat 2 - 1)=0 then aa (aa S i.toNat 2 (wrap64 (S i.toNat 2 - 1))) i.toNat 0 1 else aa S i.toNat 2 (wrap64 (S i.toNat 2 - 1)))
   else if S i.toNat 0=11 then aa S i.toNat 0 0 else S)
 else S
def ir(n word:Nat)(S:Nat->Nat->Int)(A:AR)(i:Int):AR:=if bC n i then(if S i.toNat 0=1 then A.Sd word 0 (i+1) else if S i.toNat 0=11 then A.store word 0 else A) else A
def yk(n next:Nat)(S:Nat->Nat->Int)(A:AR)(i:Int):Bool:=ai n S i 10&&decide (A.get next=wrap64 (S i.toNat 1+1))
def yj(n next:Nat)(S:Nat->Nat->Int)(A:AR)(i:Int):AR:=if ai n S i 10 then A.load next else A
def rT(n next:Nat)(S:Nat->Nat->Int)(A:AR)(i:Int):Bool:=bC n i&&(if S i.toNat 0=2 then decide (A.get (next+1)=S i.toNat 1) else decide (S i.toNat 0=11))
def ip(n next:Nat)(S:Nat->Nat->Int)(A:AR)(i:Int):Nat->Nat->Int:=
 if bC n i then
  (if S i.toNat 0=1 then aa (aa S i.toNat 1 (wrap64 (A.RH next 1 - 1))) i.toNat 0 2
   else if S i.toNat 0=2 then(if A.get (next+1)=S i.toNat 1 then aa S i.toNat 0 10 else S)
   else if S i.toNat 0=11 then aa S i.toNat 0 0 else S)
 else S
def io(n next:Nat)(S:Nat->Nat->Int)(A:AR)(i:Int):AR:=
 if bC n i then(if S i.toNat 0=1 then A.add next 1 else if S i.toNat 0=2 then A.load (next+1) else if S i.toNat 0=11 then A.store (next+1) (wrap64 (S i.toNat 1+1)) else A) else A
def dH(next parts:Nat)(t:Int):Int:=wrap64 (wrap64 ((next:Int)+1)+t.tmod parts)
def r5(n next parts:Nat)(S:Nat->Nat->Int)(A:AR)(i:Int):Bool:=bC n i&&(if S i.toNat 0=2 then decide (A.get (dH next parts (S i.toNat 1))=wrap64 (S i.toNat 1+1)) else decide (S i.toNat 0=11))
def ft(n next parts:Nat)(S:Nat->Nat->Int)(A:AR)(i:Int):Nat->Nat->Int:=
 if bC n i then
  (if S i.toNat 0=1 then aa (aa S i.toNat 1 (wrap64 (A.RH next 1 - 1))) i.toNat 0 2
   else if S i.toNat 0=2 then(if A.get (dH next parts (S i.toNat 1))=wrap64 (S i.toNat 1+1) then aa S i.toNat 0 10 else S)
   else if S i.toNat 0=11 then aa S i.toNat 0 0 else S)
 else S
def gB(n next parts:Nat)(S:Nat->Nat->Int)(A:AR)(i:Int):AR:=
 if bC n i then(if S i.toNat 0=1 then A.add next 1 else if S i.toNat 0=2 then A.load (dH next parts (S i.toNat 1)) else if S i.toNat 0=11 then A.store (dH next parts (wrap64 (S i.toNat 1+1))) (wrap64 (S i.toNat 1+2)) else A) else A
def ji(tail:Nat)(x:Int):Int:=wrap64 ((tail:Int)+x)
def rB(n tail:Nat)(S:Nat->Nat->Int)(A:AR)(i:Int):Bool:=bC n i&&(if S i.toNat 0=3 then decide (A.get (ji tail (S i.toNat 2))=0) else decide (S i.toNat 0=11))
def iX(n tail:Nat)(S:Nat->Nat->Int)(A:AR)(i:Int):Nat->Nat->Int:=
 if bC n i then
  (if S i.toNat 0=1 then aa S i.toNat 0 2
   else if S i.toNat 0=2 then aa (aa S i.toNat 2 (A.get tail)) i.toNat 0 3
   else if S i.toNat 0=3 then(if A.get (ji tail (S i.toNat 2))=0 then aa S i.toNat 0 10 else S)
   else if S i.toNat 0=11 then aa (aa S i.toNat 1 (S i.toNat 2)) i.toNat 0 0 else S)
 else S
def jH(n tail:Nat)(S:Nat->Nat->Int)(A:AR)(i:Int):AR:=
 if bC n i then(if S i.toNat 0=1 then A.store (ji tail (S i.toNat 1)) 1 else if S i.toNat 0=2 then A.swap tail (S i.toNat 1) else if S i.toNat 0=3 then A.load (ji tail (S i.toNat 2)) else if S i.toNat 0=11 then A.store (ji tail (S i.toNat 1)) 0 else A) else A
def G5(n tail:Nat)(S:Nat->Nat->Int)(A:AR)(i:Int):Bool:=ai n S i 10&&decide (A.get tail=S i.toNat 1)
def G4(n tail:Nat)(S:Nat->Nat->Int)(A:AR)(i:Int):AR:=if ai n S i 10 then A.load tail else A
def lJ(tail:Nat)(y:Int):Int:=wrap64 (wrap64 ((tail:Int)+wrap64 (2*y)) - 1)
def q9(tail:Nat)(y:Int):Int:=wrap64 ((tail:Int)+wrap64 (2*y))
def BV(tail:Nat)(A:AR)(S:Nat->Nat->Int)(j:Nat):AR×(Nat->Nat->Int)×Int:=
 if S j 0=1 then(A.store (lJ tail ((j:Int)+1)) 0,S,2)
 else if S j 0=2 then(A.store (q9 tail ((j:Int)+1)) 1,S,3)
 else if S j 0=3 then(A.swap tail ((j:Int)+1),aa S j 1 (A.get tail),if A.get tail=0 then 10 else 4)
 else if S j 0=4 then(A.store (lJ tail (S j 1)) ((j:Int)+1),S,5)
 else(A.load (q9 tail ((j:Int)+1)),S,if A.get (q9 tail ((j:Int)+1))=0 then 10 else 5)
def qZ(tail:Nat)(A:AR)(S:Nat->Nat->Int)(j:Nat):AR×(Nat->Nat->Int)×Int:=
 if S j 0=12 then(A.Sd tail ((j:Int)+1) 0,S,if A.RE tail ((j:Int)+1) then 0 else 13)
 else if S j 0=14 then(A.store (q9 tail (S j 1)) 0,S,0)
 else(A.load (lJ tail ((j:Int)+1)),aa S j 1 (A.get (lJ tail ((j:Int)+1))),if A.get (lJ tail ((j:Int)+1))=0 then(if S j 0=11 then 12 else 13) else 14)
def jn(n:Nat)(S:Nat->Nat->Int):Prop:=∀j,j<n->(0<=S j 0/\S j 0<=5)\/(10<=S j 0/\S j 0<=14)
def xN(tail:Nat)(A:AR)(S:Nat->Nat->Int)(j:Nat):AR×(Nat->Nat->Int)×Int:=if S j 0<10 then BV tail A S j else qZ tail A S j
def iU(n:Nat)(S:Nat->Nat->Int)(i:Int):Bool:=bC n i&& !(S i.toNat 0==0)&& !(S i.toNat 0==10)
def iV(n tail:Nat)(S:Nat->Nat->Int)(A:AR)(i:Int):AR:=if iU n S i then(xN tail A S i.toNat).1 else A
def gy(n tail:Nat)(S:Nat->Nat->Int)(A:AR)(i:Int):Nat->Nat->Int:=if iU n S i then aa (xN tail A S i.toNat).2.1 i.toNat 0 (xN tail A S i.toNat).2.2 else S
def q8(n tail:Nat)(S:Nat->Nat->Int)(A:AR)(i:Int):Bool:=iU n S i&&((xN tail A S i.toNat).2.2==if S i.toNat 0<10 then 10 else 0)
def Gu(n tail:Nat)(S:Nat->Nat->Int)(A:AR)(i:Int):Bool:=ai n S i 10&&decide (A.get (lJ tail ((i.toNat:Int)+1))=0)
def Gt(n tail:Nat)(S:Nat->Nat->Int)(A:AR)(i:Int):AR:=if ai n S i 10 then A.load (lJ tail ((i.toNat:Int)+1)) else A
structure FK where
 k:Nat
 p:Nat
 b:Nat
 n:Nat
def FK.size(K:FK):Nat:=if K.k=1 then 1 else if K.k=2 then 2 else if K.k=3 then 1+K.p else if K.k=4 then 1+2*K.n else K.n+2
def cN(K:FK)(S:Nat->Nat->Int)(A:AR)(i:Int):Bool:=if K.k=1 then sF K.n K.b S A i else if K.k=2 then rT K.n K.b S A i else if K.k=3 then r5 K.n K.b K.p S A i else if K.k=4 then q8 K.n K.b S A i else rB K.n K.b S A i
def bM(K:FK)(S:Nat->Nat->Int)(A:AR)(i:Int):Nat->Nat->Int:=if K.k=1 then it K.n K.b K.p S A i else if K.k=2 then ip K.n K.b S A i else if K.k=3 then ft K.n K.b K.p S A i else if K.k=4 then gy K.n K.b S A i else iX K.n K.b S A i
def bL(K:FK)(S:Nat->Nat->Int)(A:AR)(i:Int):AR:=if K.k=1 then ir K.n K.b S A i else if K.k=2 then io K.n K.b S A i else if K.k=3 then gB K.n K.b K.p S A i else if K.k=4 then iV K.n K.b S A i else jH K.n K.b S A i
def qa(K:FK)(S:Nat->Nat->Int)(A:AR)(i:Int):Bool:=if K.k=1 then ai K.n S i 10 else if K.k=4 then Gu K.n K.b S A i else if K.k=5 then G5 K.n K.b S A i else yk K.n K.b S A i
def p9(K:FK)(S:Nat->Nat->Int)(A:AR)(i:Int):AR:=if K.k=1 then A else if K.k=4 then Gt K.n K.b S A i else if K.k=5 then G4 K.n K.b S A i else yj K.n K.b S A i
def gM(K:FK)(S:Nat->Nat->Int)(i:Int):Nat->Nat->Int:=if K.k=1 then wX K.n S i else bo K.n S i 0 1
def dp(K:FK)(S:Nat->Nat->Int)(i:Int):Nat->Nat->Int:=bo K.n S i 10 11
def lG(f:Nat->Int)(j:Nat)(v:Int):Nat->Int:=λk=>if k=j then v else f k
theorem eJ(f:Nat->Int)(j:Nat)(v:Int):lG f j v j=v:=by simp[lG]
variable{j:Nat}
theorem cG(f:Nat->Int){k:Nat}(v:Int)(h:k≠j):lG f j v k=f k:=by simp[lG,h]
theorem ak(S:Nat->Nat->Int)(i t:Nat)(v:Int):aa S i t v i t=v:=by simp[aa]
theorem aj(S:Nat->Nat->Int)(t a:Nat)(v:Int)(h:j≠i):aa S i t v j a=S j a:=by simp[aa,h]
theorem bZ(S:Nat->Nat->Int)(i j:Nat){a:Nat}(v:Int)(h:a≠t):aa S i t v j a=S j a:=by simp[aa,h]
def qf:List Nat->Int
 | []=>0
 | [z]=>(z:Int)+1
 |_::q::r=>qf (q::r)
theorem kK:∀(Q:List Nat)(j:Nat),qf (Q++[j])=(j:Int)+1
 | [],_=>rfl
 | [_],_=>rfl
 |_::q::r,j=>kK (q::r) j
theorem mu:∀(Q:List Nat),Q≠[]->∃z∈Q,qf Q=(z:Int)+1
 | [],h=>am rfl h
 | [z],_=>⟨z,by simp,rfl⟩
 |p::q::r,_=>by obtain⟨z,a,e⟩:=mu (q::r) aS;exact⟨z,pI _ a,e⟩
theorem qC{Q:List Nat}:qf Q=0↔Q=[]:=by
 constructor
 ·intro h;by_cases a:Q=[]
  ·exact a
  ·obtain⟨z,_,e⟩:=mu Q a;omega
 ·rintro rfl;rfl
variable{x:Nat}{r:List Nat}
theorem qD(a:(x::r).Nodup)(h:qf (x::r)=(x:Int)+1):r=[]:=by
 cases r with
 |nil=>rfl
 |cons q r=>
  obtain⟨z,b,e⟩:=mu (q::r) aS;have h2:qf (x::q::r)=qf (q::r):=rfl;have:z=x:=by omega
  subst this;exact am b (kY.1 a).1
def QL(S:Nat->Nat->Int)(nx:Nat->Int):List Nat->Prop
 | []=>True
 | [z]=>nx z=0
 |p::q::r=>((S q 0=4/\S q 1=(p:Int)+1/\nx p=0)\/(S q 0=5/\nx p=(q:Int)+1))/\QL S nx (q::r)
theorem QL.congr{S S':Nat->Nat->Int}{nx a:Nat->Int}:∀{Q:List Nat},QL S nx Q->(∀j∈Q,a j=nx j)->(∀j∈Q.tail,S' j 0=S j 0/\S' j 1=S j 1)->QL S' a Q
 | [],_,_,_=>trivial
 | [z],h,hn,_=>by have:=hn z aS;unfold QL at h⊢;omega
 |p::q::r,h,hn,hs=>by
  obtain⟨h1,h2⟩:=h;have c:=hn p aS;have b:=hs q aS;refine⟨?_,QL.congr h2 (λj hj=>hn j (pI _ hj)) (λj hj=>hs j (by simp at hj⊢;exact .inr hj))⟩;rw[c,b.1,b.2];exact h1
variable{nx:Nat->Int}
theorem QL.append:∀{Q:List Nat},QL S nx Q->Q≠[]->S j 0=4->S j 1=qf Q->nx j=0->QL S nx (Q++[j])
 | [],_,h,_,_,_=>am rfl h
 | [z],h,_,h4,h1,a=>⟨.inl ⟨h4,h1,h⟩,a⟩
 |p::q::r,h,_,h4,h1,a=>⟨h.1,QL.append (Q:=q::r) h.2 aS h4 h1 a⟩
theorem QL.link{S:Nat->Nat->Int}{nx:Nat->Int}{j:Nat}:∀{Q:List Nat},QL S nx Q->Q.Nodup->j∈Q.tail->S j 0=4->
 ∃p∈Q,p≠j/\S j 1=(p:Int)+1/\nx p=0/\QL (aa S j 0 5) (lG nx p ((j:Int)+1)) Q
 | [],_,_,hj,_=>by simp at hj
 | [z],_,_,hj,_=>by simp at hj
 |p::q::r,h,l,hj,h4=>by
  obtain⟨h1,h2⟩:=h;have a:=kY.1 l;have b:=kY.1 a.2;by_cases e:j=q
  ·subst e;have x:p≠j:=λe=>a.1 (by simp[e]);rcases h1 with h1|h1
   ·refine⟨p,by simp,x,h1.2.1,h1.2.2,.inr ⟨ak _ _ _ _,eJ _ _ _⟩,h2.congr (λk g=>cG _ _ λe=>a.1 (e ▸ g)) λk g=>?_⟩;have i:k∈r:=by simpa using g
    have:k≠j:=λe=>b.1 (e ▸ i);exact⟨aj _ _ _ _ this,aj _ _ _ _ this⟩
   ·omega
  ·have f:j∈(q::r).tail:=by simp at hj⊢;exact hj.resolve_left e
   obtain⟨u,c,m,ha,v,t⟩:=QL.link h2 a.2 f h4;have s:p≠u:=λe=>a.1 (e ▸ c);refine⟨u,pI _ c,m,ha,v,?_,t⟩;rw[aj _ _ _ _ (λd=>e d.symm),aj _ _ _ _ (λd=>e d.symm),cG _ _ s];exact h1
theorem QL.second(h:QL S nx (x::r))(a:nx x≠0):∃q b,r=q::b/\nx x=(q:Int)+1/\S q 0=5:=by
 cases r with
 |nil=>exact am h a
 |cons q r=>
  rcases h.1 with h1|h1
  ·exact am h1.2.2 a
  ·exact⟨q,r,rfl,h1.2,h1.1⟩
theorem QL.tail(h:QL S nx (x::r)):QL S nx r:=by
 cases r with
 |nil=>trivial
 |cons q r=>exact h.2
structure CV where
 tl:Int
 nx:Nat->Int
 wt:Nat->Int
structure MC(n:Nat)(w:CV)(S:Nat->Nat->Int)(Q:List Nat)(o:Option Nat):Prop where
 nd:Q.Nodup
 lt:∀j∈Q,j<n
 mem:∀j,j<n->S j 0=4\/S j 0=5->j∈Q
 idle:∀j∈Q,o≠some j->S j 0=4\/S j 0=5
 RG:∀j,j<n->10<=S j 0->o=some j
 Rv:∀x,o=some x->(∃r,Q=x::r)/\((S x 0=10\/S x 0=11\/S x 0=12)\/(S x 0=13/\Q≠[x])\/(S x 0=14/\∃q r,Q=x::q::r/\S x 1=(q:Int)+1/\S q 0=5))
 Tq:o=none->∀h r,Q=h::r->S h 0=5/\w.wt h=0
 RC:∀j,j<n->(0<=S j 0/\S j 0<=5)\/(10<=S j 0/\S j 0<=14)
 tl:w.tl=qf Q
 ql:QL S w.nx Q
 w1:∀j∈Q.tail,w.wt j=1
 p2:∀j,j<n->S j 0=2->w.nx j=0
 p3:∀j,j<n->S j 0=3->w.nx j=0/\w.wt j=1
section
variable{n:Nat}{w w':CV}{S S':Nat->Nat->Int}{Q:List Nat}{o:Option Nat}
variable{j:Nat}
theorem MC.out(h:MC n w S Q o)(h3:S j 0<=3):j∉Q/\o≠some j:=by
 have ho:o≠some j:=λe=>by have:=(h.Rv j e).2;omega
 exact⟨λhm=>by have:=h.idle j hm ho;omega,ho⟩
variable{x:Nat}
theorem MC.Tn(h:MC n w S Q (some x)):x<n/\10<=S x 0:=by
 obtain⟨⟨r,rfl⟩,h2⟩:=h.Rv x rfl;exact⟨h.lt x aS,by omega⟩
theorem MC.UE(h:MC n w S Q o):∀a r,Q=a::r->S a 0≠4:=by
 intro a r e;cases o with
 |none=>have:=(h.Tq rfl a r e).1;omega
 |some x=>
  obtain⟨⟨c,b⟩,h2⟩:=h.Rv x rfl;rw[e] at b;have:=(sM b).1;subst this;omega
theorem MC.Sm(h:MC n w S Q (some x))(z:List Nat)(c:∀t,S' x t=S x t)(h5:∀q,S q 0=5->S' q 0=5):
 (∃r,Q++z=x::r)/\((S' x 0=10\/S' x 0=11\/S' x 0=12)\/(S' x 0=13/\Q++z≠[x])\/(S' x 0=14/\∃q r,Q++z=x::q::r/\S' x 1=(q:Int)+1/\S' q 0=5)):=by
 obtain⟨⟨r,rfl⟩,h2⟩:=h.Rv x rfl;rw[c,c];refine⟨⟨r++z,rfl⟩,?_⟩;rcases h2 with h2|⟨h2,h3⟩|⟨h2,q,d,e,h3,h4⟩
 ·exact .inl h2
 ·refine .inr (.inl ⟨h2,λe=>h3 ?_⟩);cases r with
  |nil=>rfl
  |cons a b=>simp at e
 ·refine .inr (.inr ⟨h2,q,d++z,?_,h3,h5 q h4⟩);rw[e];rfl
theorem MC.early{pc:Int}(h:MC n w S Q o)(hj:j<n)(p:0<=S j 0/\S j 0<=3)(s:0<=pc/\pc<=3)(hn:∀k,k≠j->w'.nx k=w.nx k)(l:∀k,k≠j->w'.wt k=w.wt k)(ht:w'.tl=w.tl)(g:pc=2->w'.nx j=0)(i:pc=3->w'.nx j=0/\w'.wt j=1):MC n w' (aa S j 0 pc) Q o:=by
 obtain⟨f,ho⟩:=h.out p.2;have d:∀k∈Q,k≠j:=λk b e=>f (e ▸ b);refine{nd:=h.nd,lt:=h.lt,mem:=λk b c=>?_,idle:=λk b c=>?_,RG:=λk b c=>?_,Rv:=λy v=>?_,Tq:=λe a r m=>?_,RC:=λk b=>?_,tl:=by rw[ht];exact h.tl,ql:=?_,w1:=λk b=>?_,p2:=λk b c=>?_,p3:=λk b c=>?_}
 ·by_cases e:k=j
  ·subst e;rw[ak] at c;omega
  ·rw[aj _ _ _ _ e] at c;exact h.mem k b c
 ·rw[aj _ _ _ _ (d k b)];exact h.idle k b c
 ·by_cases e:k=j
  ·subst e;rw[ak] at c;omega
  ·rw[aj _ _ _ _ e] at c;exact h.RG k b c
 ·subst v;have:=h.Sm (S':=aa S j 0 pc) [] (λt=>aj _ _ _ _ (λe=>ho (by rw[e]))) (λq u=>by rw[aj _ _ _ _ (λe=>by subst e;omega)];exact u);simpa using this
 ·have hm:a≠j:=d a (by rw[m];simp);rw[aj _ _ _ _ hm,l a hm];exact h.Tq e a r m
 ·by_cases e:k=j
  ·subst e;rw[ak];exact .inl aO
  ·rw[aj _ _ _ _ e];exact h.RC k b
 ·refine h.ql.congr (λk b=>hn k (d k b)) λk b=>?_;have e:=d k (sZ b);exact⟨aj _ _ _ _ e,aj _ _ _ _ e⟩
 ·rw[l k (d k (sZ b))];exact h.w1 k b
 ·by_cases e:k=j
  ·subst e;rw[ak] at c;exact g c
  ·rw[aj _ _ _ _ e] at c;rw[hn k e];exact h.p2 k b c
 ·by_cases e:k=j
  ·subst e;rw[ak] at c;exact i c
  ·rw[aj _ _ _ _ e] at c;rw[hn k e,l k e];exact h.p3 k b c
theorem MC.TP(h:MC n w S Q o)(hj:j<n)(m:S j 0=3)(ht:w'.tl=(j:Int)+1)(hn:w'.nx=w.nx)(l:w'.wt=w.wt):
 (w.tl=0->MC n w' (aa (aa S j 1 w.tl) j 0 10) [j] (some j))/\(w.tl≠0->MC n w' (aa (aa S j 1 w.tl) j 0 4) (Q++[j]) o):=by
 obtain⟨p,ho⟩:=h.out (j:=j) aO;have hs:∀(pc:Int) k,k≠j->∀t,aa (aa S j 1 w.tl) j 0 pc k t=S k t:=λpc k e t=>by rw[aj _ _ _ _ e,aj _ _ _ _ e]
 have f:∀pc:Int,aa (aa S j 1 w.tl) j 0 pc j 0=pc:=λpc=>ak _ _ _ _;refine⟨λA=>?_,λA=>?_⟩
 ·have hQ:Q=[]:=qC.1 (h.tl ▸ A);subst hQ;have s:o=none:=by
   cases o with
   |none=>rfl
   |some x=>obtain⟨⟨r,e⟩,_⟩:=h.Rv x rfl;simp at e
  subst s;refine{nd:=by simp,lt:=by simpa using hj,mem:=λk c d=>?_,idle:=λk c d=>?_,RG:=λk c d=>?_,Rv:=λy v=>?_,Tq:=λe=>by simp at e,RC:=λk c=>?_,tl:=ht,ql:=by unfold QL;rw[hn];exact(h.p3 j hj m).1,w1:=by simp,p2:=λk c d=>?_,p3:=λk c d=>?_}
  ·by_cases e:k=j
   ·subst e;simp
   ·rw[hs _ k e] at d;have:=h.mem k c d;simp at this
  ·simp at c;subst c;exact am rfl d
  ·by_cases e:k=j
   ·rw[e]
   ·rw[hs _ k e] at d;have:=h.RG k c d;simp at this
  ·obtain rfl:j=y:=by simpa using v
   exact⟨⟨[],rfl⟩,.inl (.inl (f 10))⟩
  ·by_cases e:k=j
   ·subst e;rw[f];exact .inr aO
   ·rw[hs _ k e];exact h.RC k c
  ·have e:k≠j:=λe=>by subst e;rw[f] at d;omega
   rw[hs _ k e] at d;rw[hn];exact h.p2 k c d
  ·have e:k≠j:=λe=>by subst e;rw[f] at d;omega
   rw[hs _ k e] at d;rw[hn,l];exact h.p3 k c d
 ·have i:Q≠[]:=λe=>A (by rw[h.tl,e];rfl);have g:∀k∈Q,k≠j:=λk c e=>p (e ▸ c);have u:(Q++[j]).tail=Q.tail++[j]:=by cases Q with|nil=>exact am rfl i|cons a r=>rfl
  refine{nd:=?_,lt:=λk c=>?_,mem:=λk c d=>?_,idle:=λk c d=>?_,RG:=λk c d=>?_,Rv:=λy v=>?_,Tq:=λe a r C=>?_,RC:=λk c=>?_,tl:=by rw[ht,kK],ql:=?_,w1:=λk c=>?_,p2:=λk c d=>?_,p3:=λk c d=>?_}
  ·rw[pJ];exact⟨h.nd,by simp,λa ha b B=>by simp at B;subst B;exact g a ha⟩
  ·rcases fc.1 c with c|c
   ·exact h.lt k c
   ·simp at c;subst c;exact hj
  ·by_cases e:k=j
   ·subst e;simp
   ·rw[hs _ k e] at d;exact fc.2 (.inl (h.mem k c d))
  ·by_cases e:k=j
   ·subst e;exact .inl (f 4)
   ·rw[hs _ k e];exact h.idle k ((fc.1 c).resolve_right (by simpa using e)) d
  ·by_cases e:k=j
   ·subst e;rw[f] at d;omega
   ·rw[hs _ k e] at d;exact h.RG k c d
  ·subst v;have z:y≠j:=λe=>ho (by rw[e]);exact h.Sm [j] (λt=>hs 4 y z t) (λq i=>by rw[hs 4 q (λe=>by subst e;omega)];exact i)
  ·cases Q with
   |nil=>exact am rfl i
   |cons b q=>
    have:b=a:=by simpa using(sM C).1
    subst this;rw[hs _ b (g b aS),l];exact h.Tq e b q rfl
  ·by_cases e:k=j
   ·subst e;rw[f];exact .inl aO
   ·rw[hs _ k e];exact h.RC k c
  ·refine QL.append ?_ i (f 4) (by rw[bZ _ _ _ _ aO,ak];exact h.tl) (by rw[hn];exact(h.p3 j hj m).1);refine h.ql.congr (λk _=>by rw[hn]) λk c=>?_;have e:=g k (sZ c);exact⟨hs 4 k e 0,hs 4 k e 1⟩
  ·rw[u] at c;rw[l];rcases fc.1 c with c|c
   ·exact h.w1 k c
   ·simp at c;subst c;exact(h.p3 k hj m).2
  ·have e:k≠j:=λe=>by subst e;rw[f] at d;omega
   rw[hs _ k e] at d;rw[hn];exact h.p2 k c d
  ·have e:k≠j:=λe=>by subst e;rw[f] at d;omega
   rw[hs _ k e] at d;rw[hn,l];exact h.p3 k c d
theorem MC.link{j:Nat}(h:MC n w S Q o)(hj:j<n)(f:S j 0=4):
 ∃p,p<n/\S j 1=(p:Int)+1/\∀w':CV,w'.tl=w.tl->w'.nx=lG w.nx p ((j:Int)+1)->w'.wt=w.wt->MC n w' (aa S j 0 5) Q o:=by
 have hm:=h.mem j hj (.inl f);have g:j∈Q.tail:=by
  cases Q with
  |nil=>simp at hm
  |cons a r=>
   rcases kq.1 hm with e|hm
   ·exact am f (h.UE j r (by rw[e]))
   ·exact hm
 obtain⟨p,m,v,ha,A,i⟩:=h.ql.link h.nd g f;have ho:o≠some j:=λe=>by have:=(h.Rv j e).2;omega
 have d:S p 0≠2/\S p 0≠3:=by
  by_cases e:o=some p
  ·have:=(h.Rv p e).2;omega
  ·have:=h.idle p m e;omega
 refine⟨p,h.lt p m,ha,λw' ht hn l=>?_⟩;refine{nd:=h.nd,lt:=h.lt,mem:=λk c b=>?_,idle:=λk c b=>?_,RG:=λk c b=>?_,Rv:=λy z=>?_,Tq:=λe a r s=>?_,RC:=λk c=>?_,tl:=by rw[ht];exact h.tl,ql:=by rw[hn];exact i,w1:=by rw[l];exact h.w1,p2:=λk c b=>?_,p3:=λk c b=>?_}
 ·by_cases e:k=j
  ·rw[e];exact hm
  ·rw[aj _ _ _ _ e] at b;exact h.mem k c b
 ·by_cases e:k=j
  ·subst e;exact .inr (ak _ _ _ _)
  ·rw[aj _ _ _ _ e];exact h.idle k c b
 ·by_cases e:k=j
  ·subst e;rw[ak] at b;omega
  ·rw[aj _ _ _ _ e] at b;exact h.RG k c b
 ·subst z;have:=h.Sm (S':=aa S j 0 5) [] (λt=>aj _ _ _ _ (λe=>ho (by rw[e]))) (λq x=>by rw[aj _ _ _ _ (λe=>by subst e;omega)];exact x);simpa using this
 ·have:=h.Tq e a r s;have ha:a≠j:=λu=>by subst u;omega
  rw[aj _ _ _ _ ha,l];exact this
 ·by_cases e:k=j
  ·subst e;rw[ak];exact .inl aO
  ·rw[aj _ _ _ _ e];exact h.RC k c
 ·by_cases e:k=j
  ·subst e;rw[ak] at b;omega
  ·rw[aj _ _ _ _ e] at b;rw[hn,cG _ _ (λe=>by subst e;exact d.1 b)];exact h.p2 k c b
 ·by_cases e:k=j
  ·subst e;rw[ak] at b;omega
  ·rw[aj _ _ _ _ e] at b;rw[hn,l,cG _ _ (λe=>by subst e;exact d.2 b)];exact h.p3 k c b
theorem MC.enter(h:MC n w S Q o)(hj:j<n)(l:S j 0=5)(q:w.wt j=0):
 o=none/\∀w':CV,w'.tl=w.tl->w'.nx=w.nx->w'.wt=w.wt->MC n w' (aa S j 0 10) Q (some j):=by
 have hm:=h.mem j hj (.inr l);have g:j∉Q.tail:=λhm=>by have:=h.w1 j hm;omega
 have m:∃r,Q=j::r:=by
  cases Q with
  |nil=>simp at hm
  |cons a r=>
   rcases kq.1 hm with e|hm
   ·exact⟨r,by rw[e]⟩
   ·exact am hm g
 obtain⟨r,rfl⟩:=m;have f:o=none:=by
  cases o with
  |none=>rfl
  |some x=>
   obtain⟨⟨s,e⟩,h2⟩:=h.Rv x rfl;have:=(sM e).1;subst this;omega
 subst f;have d:=kY.1 h.nd;refine⟨rfl,λw' ht hn i=>?_⟩;refine{nd:=h.nd,lt:=h.lt,mem:=λk c b=>?_,idle:=λk c b=>?_,RG:=λk c b=>?_,Rv:=λy p=>?_,Tq:=λe=>by simp at e,RC:=λk c=>?_,tl:=by rw[ht];exact h.tl,ql:=?_,w1:=by rw[i];exact h.w1,p2:=λk c b=>?_,p3:=λk c b=>?_}
 ·by_cases e:k=j
  ·subst e;simp
  ·rw[aj _ _ _ _ e] at b;exact h.mem k c b
 ·have e:k≠j:=λe=>b (by rw[e]);rw[aj _ _ _ _ e];exact h.idle k c aS
 ·by_cases e:k=j
  ·rw[e]
  ·rw[aj _ _ _ _ e] at b;have:=h.RG k c b;simp at this
 ·obtain rfl:j=y:=by simpa using p
  exact⟨⟨r,rfl⟩,.inl (.inl (ak _ _ _ _))⟩
 ·by_cases e:k=j
  ·subst e;rw[ak];exact .inr aO
  ·rw[aj _ _ _ _ e];exact h.RC k c
 ·refine h.ql.congr (λk _=>by rw[hn]) λk c=>?_;have e:k≠j:=λe=>d.1 (by subst e;exact c);exact⟨aj _ _ _ _ e,aj _ _ _ _ e⟩
 ·by_cases e:k=j
  ·subst e;rw[ak] at b;omega
  ·rw[aj _ _ _ _ e] at b;rw[hn];exact h.p2 k c b
 ·by_cases e:k=j
  ·subst e;rw[ak] at b;omega
  ·rw[aj _ _ _ _ e] at b;rw[hn,i];exact h.p3 k c b
theorem MC.own(h:MC n w S Q (some x))(c:∀j,j≠x->∀t,S' j t=S j t)(h2:(S' x 0=10\/S' x 0=11\/S' x 0=12)\/(S' x 0=13/\Q≠[x])\/(S' x 0=14/\∃q r,Q=x::q::r/\S' x 1=(q:Int)+1/\S' q 0=5))(ht:w'.tl=w.tl)(hn:w'.nx=w.nx)(f:w'.wt=w.wt):MC n w' S' Q (some x):=by
 have i:10<=S x 0:=h.Tn.2;obtain⟨⟨r,rfl⟩,h3⟩:=h.Rv x rfl;have d:=kY.1 h.nd;have g:10<=S' x 0/\S' x 0<=14:=by
  rcases h2 with h2|⟨h2,_⟩|⟨h2,_⟩
  ·omega
  ·omega
  ·omega
 refine{nd:=h.nd,lt:=h.lt,mem:=λk b a=>?_,idle:=λk b a=>?_,RG:=λk b a=>?_,Rv:=λy l=>?_,Tq:=λe=>by simp at e,RC:=λk b=>?_,tl:=by rw[ht];exact h.tl,ql:=?_,w1:=by rw[f];exact h.w1,p2:=λk b a=>?_,p3:=λk b a=>?_}
 ·by_cases e:k=x
  ·subst e;simp
  ·rw[c k e] at a;exact h.mem k b a
 ·have e:k≠x:=λe=>a (by rw[e]);rw[c k e];exact h.idle k b a
 ·by_cases e:k=x
  ·rw[e]
  ·rw[c k e] at a;exact h.RG k b a
 ·obtain rfl:x=y:=by simpa using l
  exact⟨⟨r,rfl⟩,h2⟩
 ·by_cases e:k=x
  ·subst e;exact .inr g
  ·rw[c k e];exact h.RC k b
 ·refine h.ql.congr (λk _=>by rw[hn]) λk b=>?_;have e:k≠x:=λe=>d.1 (by subst e;exact b);exact⟨c k e 0,c k e 1⟩
 ·have e:k≠x:=λe=>by subst e;omega
  rw[c k e] at a;rw[hn];exact h.p2 k b a
 ·have e:k≠x:=λe=>by subst e;omega
  rw[c k e] at a;rw[hn,f];exact h.p3 k b a
theorem MC.TT{r:List Nat}(h:MC n w S (x::r) (some x))(ht:w'.tl=qf r)(hn:w'.nx=w.nx)(l:∀k,k∉r.head?.toList->w'.wt k=w.wt k)(m:∀a j,r=a::j->S a 0=5/\w'.wt a=0):MC n w' (aa S x 0 0) r none:=by
 have g:=kY.1 h.nd;have p:10<=S x 0:=h.Tn.2;have i:∀k∈r,k≠x:=λk c e=>g.1 (by subst e;exact c);have hi:∀k∈r,S k 0=4\/S k 0=5:=λk c=>h.idle k (pI _ c) (λe=>i k c (by simpa using e.symm));refine{nd:=g.2,lt:=λk c=>h.lt k (pI _ c),mem:=λk c d=>?_,idle:=λk c d=>?_,RG:=λk c d=>?_,Rv:=λy q=>by simp at q,Tq:=λ_ a j e=>?_,RC:=λk c=>?_,tl:=ht,ql:=?_,w1:=λk c=>?_,p2:=λk c d=>?_,p3:=λk c d=>?_}
 ·by_cases e:k=x
  ·subst e;rw[ak] at d;omega
  ·rw[aj _ _ _ _ e] at d;exact(kq.1 (h.mem k c d)).resolve_left e
 ·rw[aj _ _ _ _ (i k c)];exact hi k c
 ·by_cases e:k=x
  ·subst e;rw[ak] at d;omega
  ·rw[aj _ _ _ _ e] at d;have:=h.RG k c d;simp at this;exact am this.symm e
 ·have:=m a j e;rw[aj _ _ _ _ (i a (by rw[e];simp))];exact this
 ·by_cases e:k=x
  ·subst e;rw[ak];exact .inl aO
  ·rw[aj _ _ _ _ e];exact h.RC k c
 ·refine h.ql.tail.congr (λk _=>by rw[hn]) λk c=>?_;have e:=i k (sZ c);exact⟨aj _ _ _ _ e,aj _ _ _ _ e⟩
 ·have f:k∉r.head?.toList:=λhm=>by
   cases r with
   |nil=>simp at c
   |cons a b=>
    simp at hm c;subst hm;exact(kY.1 g.2).1 c
  rw[l k f];exact h.w1 k (sZ c)
 ·have e:k≠x:=λe=>by subst e;rw[ak] at d;omega
  rw[aj _ _ _ _ e] at d;rw[hn];exact h.p2 k c d
 ·have e:k≠x:=λe=>by subst e;rw[ak] at d;omega
  rw[aj _ _ _ _ e] at d;have f:k∉r.head?.toList:=λhm=>by
   cases r with
   |nil=>simp at hm
   |cons a b=>
    simp at hm;subst hm;have:=hi k aS;omega
  rw[hn,l k f];exact h.p3 k c d
end
structure fH(S S':Nat->Nat->Int)(j:Nat)(R:Bool):Prop where
 others:∀k,k≠j->S' k 0=S k 0
 SX:1<=S j 0->S j 0<10->1<=S' j 0/\S' j 0<=10/\(R=true↔S' j 0=10)
 going:10<S j 0->(S' j 0=0\/10<S' j 0)/\(R=true↔S' j 0=0)
 idle:S j 0=0\/S j 0=10->S' j 0=S j 0/\R=false
theorem ag(S:Nat->Nat->Int)(j t:Nat)(v:Int)(i u:Nat):aa S j t v i u=if i=j/\u=t then v else S i u:=rfl
theorem cl(hj:j<n):bC n (j:Int)=true:=by unfold bC;simp;omega
structure TK(n:Nat)(S:Nat->Nat->Int)(V N:Int):Prop where
 v0:0<=V
 vn:V<=N
 RC:∀j,j<n->S j 0=0\/S j 0=1\/S j 0=2\/S j 0=10\/S j 0=11
 TJ:∀j,j<n->2<=S j 0->V<=S j 1/\S j 1<N
 top:∀j,j<n->10<=S j 0->S j 1=V
 inj:∀j k,j<n->k<n->2<=S j 0->2<=S k 0->S j 1=S k 1->j=k
section
variable{n:Nat}{S:Nat->Nat->Int}{V N:Int}
theorem TK.zero(n:Nat):TK n (λ_ _=>0) 0 0:=⟨by omega,by omega,λ_ _=>.inl rfl,λ_ _ h=>by simp at h,λ_ _ h=>by simp at h,λ_ _ _ _ h=>by simp at h⟩
variable{j:Nat}
theorem TK.one(h:TK n S V N){k:Nat}(hj:j<n)(a:k<n)(h1:10<=S j 0)(h2:10<=S k 0):j=k:=
 h.inj j k hj a aO aO (by rw[h.top j hj h1,h.top k a h2])
theorem TK.draw(h:TK n S V N)(hj:j<n)(p:S j 0=1):TK n (aa (aa S j 1 N) j 0 2) V (N+1):=by
 have hs:∀k,k≠j->∀t,aa (aa S j 1 N) j 0 2 k t=S k t:=λk c t=>by rw[ag,ag,ac (by simp[c]),ac (by simp[c])]
 have m:aa (aa S j 1 N) j 0 2 j 0=2:=by rw[ag,ad aS]
 have o:aa (aa S j 1 N) j 0 2 j 1=N:=by rw[ag,ac aS,ag,ad aS]
 generalize aa (aa S j 1 N) j 0 2=T at*;have hv:=h.vn;refine{v0:=h.v0,vn:=by omega,RC:=λk c=>?_,TJ:=λk c d=>?_,top:=λk c d=>?_,inj:=λa b ha l h1 h2 f=>?_}
 ·by_cases e:k=j
  ·subst e;omega
  ·rw[hs k e];exact h.RC k c
 ·by_cases e:k=j
  ·subst e;omega
  ·rw[hs k e] at d;rw[hs k e];have:=h.TJ k c d;omega
 ·by_cases e:k=j
  ·subst e;omega
  ·rw[hs k e] at d;rw[hs k e];exact h.top k c d
 ·by_cases i:a=j
  ·by_cases g:b=j
   ·omega
   ·subst i;rw[hs b g] at h2 f;have:=h.TJ b l h2;omega
  ·by_cases g:b=j
   ·subst g;rw[hs a i] at h1 f;have:=h.TJ a ha h1;omega
   ·rw[hs a i] at h1 f;rw[hs b g] at h2 f;exact h.inj a b ha l h1 h2 f
theorem TK.RT(h:TK n S V N)(_hj:j<n){pc:Int}(o:pc=0\/pc=1\/pc=2\/pc=10\/pc=11)(h2:2<=pc->2<=S j 0)(h3:10<=pc->S j 1=V):TK n (aa S j 0 pc) V N:=by
 have hs:∀k,k≠j->∀t,aa S j 0 pc k t=S k t:=λk d t=>by rw[ag,ac (by simp[d])]
 have m:aa S j 0 pc j 0=pc:=by rw[ag,ad aS]
 have g:∀k,aa S j 0 pc k 1=S k 1:=λk=>by rw[ag,ac aS]
 generalize aa S j 0 pc=T at*;have f:∀k,2<=T k 0->2<=S k 0:=λk c=>by
  by_cases e:k=j
  ·subst e;exact h2 aO
  ·rw[hs k e] at c;exact c
 refine{v0:=h.v0,vn:=h.vn,RC:=λk d=>?_,TJ:=λk d c=>?_,top:=λk d c=>?_,inj:=λa b ha l g1 g2 i=>?_}
 ·by_cases e:k=j
  ·subst e;omega
  ·rw[hs k e];exact h.RC k d
 ·rw[g];exact h.TJ k d (f k c)
 ·rw[g];by_cases e:k=j
  ·subst e;exact h3 aO
  ·rw[hs k e] at c;exact h.top k d c
 ·rw[g,g] at i;exact h.inj a b ha l (f a g1) (f b g2) i
theorem TK.free(h:TK n S V N)(hj:j<n)(g:10<=S j 0):TK n (aa S j 0 0) (V+1) N/\V<N:=by
 have hs:∀k,k≠j->∀t,aa S j 0 0 k t=S k t:=λk c t=>by rw[ag,ac (by simp[c])]
 have q:aa S j 0 0 j 0=0:=by rw[ag,ad aS]
 have r:=h.TJ j hj aO;have ht:=h.top j hj g;have m:=h.v0;generalize aa S j 0 0=T at*;refine⟨{v0:=by omega,vn:=by omega,RC:=λk c=>?_,TJ:=λk c d=>?_,top:=λk c d=>?_,inj:=λa b ha o g1 g2 f=>?_},by omega⟩
 ·by_cases e:k=j
  ·subst e;omega
  ·rw[hs k e];exact h.RC k c
 ·have e:k≠j:=λe=>by subst e;omega
  rw[hs k e] at d;rw[hs k e];have h1:=h.TJ k c d;have:S k 1≠V:=λp=>e (h.inj k j c hj d aO aO);omega
 ·have e:k≠j:=λe=>by subst e;omega
  rw[hs k e] at d;exact am (h.one c hj d g) e
 ·have i:a≠j:=λe=>by subst e;omega
  have l:b≠j:=λe=>by subst e;omega
  rw[hs a i] at g1 f;rw[hs b l] at g2 f;exact h.inj a b ha o g1 g2 f
end
structure KI(b n:Nat)(S:Nat->Nat->Int)(A:AR):Prop where
 tk:TK n S (A.get ((b:Int)+1)) (A.get b)
 no:A.get b<=A.ops
section
variable{b n:Nat}{S:Nat->Nat->Int}{A B:AR}
theorem KI.frame(h:KI b n S A)(a:∀i:Int,(b:Int)<=i->i<(b:Int)+2->B.get i=A.get i)(ho:A.ops<=B.ops):KI b n S B:=
 ⟨by rw[a _ aO aO,a _ aO aO];exact h.tk,by rw[a _ aO aO];have:=h.no;omega⟩
theorem KI.step(h:KI b n S A)(f:A.Fit)(hl:A.ops<1000000000)(x:1<=b)(y:b+2<=A.taken+1){j:Nat}(hj:j<n):
 KI b n (ip n b S A j) (io n b S A j)/\ij b 2 A (io n b S A j)/\(S j 0=1->(io n b S A j).ops=A.ops+1)/\fH S (ip n b S A j) j (rT n b S A j):=by
 have i0:A.has b=true:=a6.2 aO;have r:A.has ((b:Int)+1)=true:=a6.2 aO;have hv:=h.tk.v0;have w:=h.tk.vn;have u:=h.no;have ht:=f.2.1;have p:A.RH b 1=A.get b+1:=by unfold AR.RH;rw[ad i0];exact ce aO
 unfold ip io rT;rw[cl hj];simp only[bt,gS,cH];rcases h.tk.RC j hj with q|q|q|q|q
 ·simp only[q,Int.reduceEq,bt,br,gi,fI];exact⟨h,ij.refl _ _ _,by simp,⟨λ_ _=>rfl,by simp[q],by simp[q],by simp[q]⟩⟩
 ·simp only[q,Int.reduceEq,bt,br,gi,fI];obtain⟨o1,o2⟩:=r4 (b:=b) (m:=2) (d:=1) f i0 aO aO;have g:=λk=>iB (A:=A) (i:=b) (d:=1) (j:=k) f.1 i0;have e:wrap64 (A.RH b 1 - 1)=A.get b:=by rw[p];exact(ce aO).trans aO
  rw[e];refine⟨⟨?_,?_⟩,o1,λ_=>o2,⟨λk a=>?_,?_,?_,?_⟩⟩
  ·rw[g,g,ac aO,ad rfl,ce aO];exact h.tk.draw hj q
  ·rw[g,ad rfl,ce aO,o2];omega
  ·rw[ag,ac (by simp[a]),ag,ac (by simp[a])]
  ·intro _ _;rw[ag,ad aS];simp
  ·omega
  ·omega
 ·obtain⟨o1,o2⟩:=eE (b:=b) (m:=2) f r aO aO;have a:∀T:Nat->Nat->Int,TK n T (A.get ((b:Int)+1)) (A.get b)->KI b n T (A.load ((b:Int)+1)):=λT s=>⟨by rw[aw,aw];exact s,by rw[aw,o2];omega⟩
  simp only[q,Int.reduceEq,bt,br,gi,fI];by_cases c:A.get ((b:Int)+1)=S j 1
  ·simp only[c,bt,gi];refine⟨a _ (h.tk.RT hj aO aO aO),o1,by omega,⟨λk a=>?_,?_,?_,?_⟩⟩
   ·rw[ag,ac (by simp[a])]
   ·intro _ _;rw[ag,ad aS];simp
   ·omega
   ·omega
  ·simp only[c,bt,br,fI];exact⟨a _ h.tk,o1,by simp,⟨λ_ _=>rfl,by simp[q],by simp[q],by simp[q]⟩⟩
 ·simp only[q,Int.reduceEq,bt,br,gi,fI];exact⟨h,ij.refl _ _ _,by simp,⟨λ_ _=>rfl,by simp[q],by simp[q],by simp[q]⟩⟩
 ·have o:S j 1=A.get ((b:Int)+1):=h.tk.top j hj aO;obtain⟨l,t⟩:=h.tk.free hj aO;obtain⟨o1,o2⟩:=cV (b:=b) (m:=2) (v:=wrap64 (S j 1+1)) f r aO aO;have g:=λk=>bU (A:=A) (i:=(b:Int)+1) (v:=wrap64 (S j 1+1)) (j:=k) f.1 r;simp only[q,Int.reduceEq,bt,br,gi,fI];refine⟨⟨?_,?_⟩,o1,by simp,⟨λk a=>?_,?_,?_,?_⟩⟩
  ·rw[g,g,ad rfl,ac aO,o,ce aO];exact l
  ·rw[g,ac aO,o2];omega
  ·rw[ag,ac (by simp[a])]
  ·omega
  ·intro _;rw[ag,ad aS];simp
  ·omega
end
def Ch(S:Nat->Nat->Int)(tl:Int):Int->List Nat->Prop
 |f,[]=>tl=f
 |f,q::r=>S q 2=f/\Ch S tl (S q 1) r
section
variable{S T:Nat->Nat->Int}{tl tl':Int}
theorem Ch.congr:∀{Q:List Nat}{f:Int},Ch S tl f Q->(∀q∈Q,T q 1=S q 1/\T q 2=S q 2)->Ch T tl f Q
 | [],_,h,_=>h
 |q::r,f,h,a=>by
  have e:=a q aS;refine⟨by rw[e.2];exact h.1,?_⟩;rw[e.1];exact Ch.congr h.2 λk c=>a k (pI _ c)
theorem Ch.append{j:Nat}(h2:S j 2=tl)(h1:S j 1=tl'):∀{Q:List Nat}{f:Int},Ch S tl f Q->Ch S tl' f (Q++[j])
 | [],f,h=>⟨h2.trans h,h1.symm⟩
 |q::r,f,h=>⟨h.1,Ch.append h2 h1 h.2⟩
theorem Ch.pred{q:Nat}:∀{Q:List Nat}{f:Int},Ch S tl f Q->q∈Q->(S q 2=f/\∃r,Q=q::r)\/∃p∈Q,S q 2=S p 1
 | [],_,_,c=>by simp at c
 |a::r,f,h,c=>by
  rcases kq.1 c with e|c
  ·subst e;exact .inl ⟨h.1,r,rfl⟩
  ·rcases Ch.pred h.2 c with⟨h1,_⟩|⟨p,d,e⟩
   ·exact .inr ⟨a,by simp,h1⟩
   ·exact .inr ⟨p,pI _ d,e⟩
end
structure HI(b n:Nat)(S:Nat->Nat->Int)(A:AR)(Q:List Nat)(f:Int):Prop where
 nd:Q.Nodup
 lt:∀j∈Q,j<n
 mem:∀j,j<n->(j∈Q↔3<=S j 0)
 RC:∀j,j<n->S j 0=0\/S j 0=1\/S j 0=2\/S j 0=3\/S j 0=10\/S j 0=11
 box:∀j,j<n->1<=S j 1/\S j 1<=(n:Int)+1
 fb:1<=f/\f<=(n:Int)+1
 inj:∀j k,j<n->k<n->S j 1=S k 1->j=k
 T2:∀j,j<n->S j 1≠f
 chain:Ch S (A.get b) f Q
 free:A.get ((b:Int)+f)=0
 set:∀j,j<n->2<=S j 0->A.get ((b:Int)+S j 1)=1
 hold:∀j,j<n->10<=S j 0->S j 2=f
section
variable{b n:Nat}{S T:Nat->Nat->Int}{A B:AR}{Q:List Nat}{f:Int}
theorem HI.frame(h:HI b n S A Q f)(a:∀i:Int,(b:Int)<=i->i<(b:Int)+((n+2:Nat):Int)->B.get i=A.get i):HI b n S B Q f:=by
 have:=h.fb;exact{h with chain:=by rw[a _ aO aO];exact h.chain,free:=by rw[a _ aO aO];exact h.free,set:=λj hj c=>by have:=h.box j hj;rw[a _ aO aO];exact h.set j hj c}
variable{j:Nat}
theorem HI.first(h:HI b n S A Q f)(hj:j<n)(h1:3<=S j 0)(h2:S j 2=f):∃r,Q=j::r:=by
 rcases h.chain.pred ((h.mem j hj).2 h1) with⟨_,e⟩|⟨p,a,e⟩
 ·exact e
 ·exact am (e.symm.trans h2) (h.T2 p (h.lt p a))
theorem HI.one(h:HI b n S A Q f){k:Nat}(hj:j<n)(c:k<n)(h1:10<=S j 0)(h2:10<=S k 0):j=k:=by
 obtain⟨r,d⟩:=h.first hj aO (h.hold j hj h1);obtain⟨e,a⟩:=h.first c aO (h.hold k c h2);rw[d] at a;exact(sM a).1
theorem HI.ahead(h:HI b n S A Q f)(hj:j<n)(h1:3<=S j 0):(1<=S j 2/\S j 2<=(n:Int)+1)/\(A.get ((b:Int)+S j 2)=0->S j 2=f):=by
 rcases h.chain.pred ((h.mem j hj).2 h1) with⟨e,_⟩|⟨p,a,e⟩
 ·exact⟨by rw[e];exact h.fb,λ_=>e⟩
 ·rw[e];refine⟨h.box p (h.lt p a),λc=>?_⟩;have:=h.set p (h.lt p a) (by have:=(h.mem p (h.lt p a)).1 a;omega);omega
theorem HI.RT(h:HI b n S A Q f)(hj:j<n){pc:Int}(v:pc=0\/pc=1\/pc=2\/pc=3\/pc=10\/pc=11)(t:3<=pc↔3<=S j 0)(u:10<=pc->S j 2=f)(ht:B.get b=A.get b)(m:B.get ((b:Int)+f)=0)(hs:∀k,k<n->k≠j->2<=S k 0->B.get ((b:Int)+S k 1)=1)(s:2<=pc->B.get ((b:Int)+S j 1)=1):HI b n (aa S j 0 pc) B Q f:=by
 have g:∀k,k≠j->aa S j 0 pc k 0=S k 0:=λk d=>by rw[ag,ac (by simp[d])]
 have r:aa S j 0 pc j 0=pc:=by rw[ag,ad aS]
 have l:∀k,aa S j 0 pc k 1=S k 1:=λk=>by rw[ag,ac aS]
 have o:∀k,aa S j 0 pc k 2=S k 2:=λk=>by rw[ag,ac aS]
 generalize aa S j 0 pc=T at*;refine{nd:=h.nd,lt:=h.lt,mem:=λk d=>?_,RC:=λk d=>?_,box:=λk d=>?_,fb:=h.fb,inj:=λa c ha i p=>?_,T2:=λk d=>?_,chain:=?_,free:=m,set:=λk d i=>?_,hold:=λk d i=>?_}
 ·by_cases e:k=j
  ·subst e;rw[r,t];exact h.mem k d
  ·rw[g k e];exact h.mem k d
 ·by_cases e:k=j
  ·subst e;omega
  ·rw[g k e];exact h.RC k d
 ·rw[l];exact h.box k d
 ·rw[l,l] at p;exact h.inj a c ha i p
 ·rw[l];exact h.T2 k d
 ·rw[ht];exact h.chain.congr λq _=>⟨l q,o q⟩
 ·rw[l];by_cases e:k=j
  ·subst e;exact s aO
  ·rw[g k e] at i;exact hs k d e i
 ·rw[o];by_cases e:k=j
  ·subst e;exact u aO
  ·rw[g k e] at i;exact h.hold k d i
theorem HI.Vr(h:HI b n S A Q f)(hj:j<n)(v:S j 0=2)(ht:B.get b=S j 1)(o:∀x:Int,1<=x->x<=(n:Int)+1->B.get ((b:Int)+x)=A.get ((b:Int)+x)):HI b n (aa (aa S j 2 (A.get b)) j 0 3) B (Q++[j]) f:=by
 have hs:∀k,k≠j->∀t,aa (aa S j 2 (A.get b)) j 0 3 k t=S k t:=λk d t=>by rw[ag,ag,ac (by simp[d]),ac (by simp[d])]
 have r:aa (aa S j 2 (A.get b)) j 0 3 j 0=3:=by rw[ag,ad aS]
 have i:∀k,aa (aa S j 2 (A.get b)) j 0 3 k 1=S k 1:=λk=>by rw[ag,ac aS,ag,ac aS]
 have s:aa (aa S j 2 (A.get b)) j 0 3 j 2=A.get b:=by rw[ag,ac aS,ag,ad aS]
 generalize aa (aa S j 2 (A.get b)) j 0 3=T at*;have l:j∉Q:=λhm=>by have:=(h.mem j hj).1 hm;omega
 refine{nd:=?_,lt:=λk d=>?_,mem:=λk d=>?_,RC:=λk d=>?_,box:=λk d=>?_,fb:=h.fb,inj:=λa c ha g m=>?_,T2:=λk d=>?_,chain:=?_,free:=?_,set:=λk d g=>?_,hold:=λk d g=>?_}
 ·rw[pJ];exact⟨h.nd,by simp,λa ha c g=>by simp at g;subst g;exactλe=>l (e ▸ ha)⟩
 ·rcases fc.1 d with d|d
  ·exact h.lt k d
  ·simp at d;subst d;exact hj
 ·by_cases e:k=j
  ·subst e;simp[r]
  ·rw[hs k e,<-h.mem k d];simp[e]
 ·by_cases e:k=j
  ·subst e;omega
  ·rw[hs k e];exact h.RC k d
 ·rw[i];exact h.box k d
 ·rw[i,i] at m;exact h.inj a c ha g m
 ·rw[i];exact h.T2 k d
 ·rw[ht];refine Ch.append s (i j) (h.chain.congr λq u=>?_);have e:q≠j:=λe=>l (e ▸ u);exact⟨hs q e 1,hs q e 2⟩
 ·rw[o f h.fb.1 h.fb.2];exact h.free
 ·have p:=h.box k d;rw[i,o _ p.1 p.2];by_cases e:k=j
  ·subst e;exact h.set k d aO
  ·rw[hs k e] at g;exact h.set k d g
 ·have e:k≠j:=λe=>by subst e;omega
  rw[hs k e] at g;rw[hs k e];exact h.hold k d g
theorem HI.TT(h:HI b n S A Q f)(hj:j<n)(D:S j 0=11)(ht:B.get b=A.get b)(C:B.get ((b:Int)+S j 1)=0)(z:∀x:Int,1<=x->x<=(n:Int)+1->x≠S j 1->B.get ((b:Int)+x)=A.get ((b:Int)+x)):HI b n (aa (aa S j 1 (S j 2)) j 0 0) B Q.tail (S j 1):=by
 have u:=h.hold j hj aO;obtain⟨r,rfl⟩:=h.first hj aO u;rw[u];have hs:∀k,k≠j->∀t,aa (aa S j 1 f) j 0 0 k t=S k t:=λk d t=>by rw[ag,ag,ac (by simp[d]),ac (by simp[d])]
 have w:aa (aa S j 1 f) j 0 0 j 0=0:=by rw[ag,ad aS]
 have m:aa (aa S j 1 f) j 0 0 j 1=f:=by rw[ag,ac aS,ag,ad aS]
 generalize aa (aa S j 1 f) j 0 0=T at*;have i:=kY.1 h.nd;have qb:∀k,k<n->k≠j->S k 1≠S j 1:=λk d e p=>e (h.inj k j d hj p);show HI b n T B r (S j 1);refine{nd:=i.2,lt:=λk d=>h.lt k (pI _ d),mem:=λk d=>?_,RC:=λk d=>?_,box:=λk d=>?_,fb:=h.box j hj,inj:=λa c ha g l=>?_,T2:=λk d=>?_,chain:=?_,free:=C,set:=λk d g=>?_,hold:=λk d g=>?_}
 ·by_cases e:k=j
  ·subst e;simp[i.1,w]
  ·rw[hs k e,<-h.mem k d];simp[e]
 ·by_cases e:k=j
  ·subst e;omega
  ·rw[hs k e];exact h.RC k d
 ·by_cases e:k=j
  ·subst e;rw[m];exact h.fb
  ·rw[hs k e];exact h.box k d
 ·by_cases s:a=j
  ·by_cases o:c=j
   ·omega
   ·subst s;rw[m,hs c o] at l;exact am l.symm (h.T2 c g)
  ·by_cases o:c=j
   ·subst o;rw[m,hs a s] at l;exact am l (h.T2 a ha)
   ·rw[hs a s,hs c o] at l;exact h.inj a c ha g l
 ·by_cases e:k=j
  ·subst e;rw[m];exactλp=>h.T2 k d p.symm
  ·rw[hs k e];exact qb k d e
 ·rw[ht];refine Ch.congr h.chain.2 λq y=>?_;have e:q≠j:=λe=>i.1 (e ▸ y);exact⟨hs q e 1,hs q e 2⟩
 ·have e:k≠j:=λe=>by subst e;omega
  rw[hs k e] at g;have v:=h.box k d;rw[hs k e,z _ v.1 v.2 (qb k d e)];exact h.set k d g
 ·have e:k≠j:=λe=>by subst e;omega
  rw[hs k e] at g;exact am (h.one d hj g aO) e
theorem qb(a:b<=4096)(hn:n<=32){x:Int}(h1:1<=x)(h2:x<=(n:Int)+1):ji b x=(b:Int)+x:=by unfold ji;exact ce aO
theorem HI.step(h:HI b n S A Q f)(d:A.Fit)(hl:A.ops<1000000000)(D:1<=b)(hn:n<=32)(E:b+(n+2)<=A.taken+1)(hj:j<n):
 (∃Q' u,HI b n (iX n b S A j) (jH n b S A j) Q' u)/\ij b (n+2) A (jH n b S A j)/\(S j 0=1->(jH n b S A j).ops=A.ops+1)/\fH S (iX n b S A j) j (rB n b S A j):=by
 have y:=d.1;have z:=d.2.1;have i0:A.has b=true:=a6.2 aO;have p:=h.box j hj;have l:=λ{x:Int}=>qb (b:=b) (n:=n) (x:=x) aO hn;have w:=h.fb;have t:=h.T2 j hj;unfold iX jH rB;rw[cl hj];simp only[bt,gS,cH];rcases h.RC j hj with q|q|q|q|q|q
 ·simp only[q,Int.reduceEq,bt,br,gi,fI];exact⟨⟨Q,f,h⟩,ij.refl _ _ _,by simp,⟨λ_ _=>rfl,by simp[q],by simp[q],by simp[q]⟩⟩
 ·simp only[q,Int.reduceEq,bt,br,gi,fI];rw[l p.1 p.2];have o:A.has ((b:Int)+S j 1)=true:=a6.2 aO;obtain⟨o1,o2⟩:=cV (b:=b) (m:=n+2) (v:=1) d o aO aO;have g:=λk=>bU (A:=A) (i:=(b:Int)+S j 1) (v:=1) (j:=k) d.1 o;refine⟨⟨Q,f,h.RT hj aO aO aO ?_ ?_ (λk a s r=>?_) (λ_=>?_)⟩,o1,λ_=>o2,⟨λk a=>?_,λ_ _=>?_,by omega,by omega⟩⟩
  ·rw[g,ac aO]
  ·rw[g,ac aO];exact h.free
  ·have:S k 1≠S j 1:=λe=>s (h.inj k j a hj e);rw[g,ac aO];exact h.set k a r
  ·rw[g,ad rfl]
  ·rw[ag,ac (by simp[a])]
  ·rw[ag,ad aS];simp
 ·obtain⟨o1,o2⟩:=uI (b:=b) (m:=n+2) (v:=S j 1) d i0 aO aO;have g:=λk=>jX (A:=A) (i:=b) (v:=S j 1) (j:=k) d.1 i0;simp only[q,Int.reduceEq,bt,br,gi,fI];refine⟨⟨Q++[j],f,h.Vr hj q ?_ λx h1 h2=>?_⟩,o1,by omega,⟨λk a=>?_,λ_ _=>?_,by omega,by omega⟩⟩
  ·rw[g,ad rfl]
  ·rw[g,ac aO]
  ·rw[ag,ac (by simp[a]),ag,ac (by simp[a])]
  ·rw[ag,ad aS];simp
 ·obtain⟨ha,C⟩:=h.ahead hj aO;simp only[l ha.1 ha.2];have o:A.has ((b:Int)+S j 2)=true:=a6.2 aO;obtain⟨o1,o2⟩:=eE (b:=b) (m:=n+2) d o aO aO;simp only[q,Int.reduceEq,bt,br,gi,fI];by_cases c:A.get ((b:Int)+S j 2)=0
  ·simp only[c,bt,gi];refine⟨⟨Q,f,h.RT hj aO aO (λ_=>C c) aw (aw.trans h.free) (λk a _ r=>aw.trans (h.set k a r)) (λ_=>aw.trans (h.set j hj aO))⟩,o1,by omega,⟨λk a=>?_,λ_ _=>?_,by omega,by omega⟩⟩
   ·rw[ag,ac (by simp[a])]
   ·rw[ag,ad aS];simp
  ·simp only[c,br,fI];exact⟨⟨Q,f,h.frame λi _ _=>aw⟩,o1,by omega,⟨λ_ _=>rfl,by simp[q],by omega,by omega⟩⟩
 ·simp only[q,Int.reduceEq,bt,br,gi,fI];exact⟨⟨Q,f,h⟩,ij.refl _ _ _,by simp,⟨λ_ _=>rfl,by simp[q],by simp[q],by simp[q]⟩⟩
 ·rw[l p.1 p.2];have o:A.has ((b:Int)+S j 1)=true:=a6.2 aO;obtain⟨o1,o2⟩:=cV (b:=b) (m:=n+2) (v:=0) d o aO aO;have g:=λk=>bU (A:=A) (i:=(b:Int)+S j 1) (v:=0) (j:=k) d.1 o;simp only[q,Int.reduceEq,bt,br,gi,fI];refine⟨⟨_,_,h.TT hj q ?_ ?_ λx h1 h2 h3=>?_⟩,o1,by omega,⟨λk a=>?_,by omega,λ_=>?_,by omega⟩⟩
  ·rw[g,ac aO]
  ·rw[g,ad rfl]
  ·rw[g,ac aO]
  ·rw[ag,ac (by simp[a]),ag,ac (by simp[a])]
  ·rw[ag,ad aS];simp
end
def cv(b n:Nat)(A:AR):CV:=⟨A.get b,λj=>if j<n then A.get ((b:Int)+2*j+1) else 0,λj=>if j<n then A.get ((b:Int)+2*j+2) else 0⟩
theorem oj(S:Nat->Nat->Int)(j t:Nat):aa S j t (S j t)=S:=by
 funext i u
 rw[ag]
 split
 ·rename_i h;rw[h.1,h.2]
 ·rfl
section
variable{b n:Nat}{S:Nat->Nat->Int}{A B:AR}{Q:List Nat}{o:Option Nat}
theorem fN(a:∀i:Int,(b:Int)<=i->i<(b:Int)+((1+2*n:Nat):Int)->B.get i=A.get i):cv b n B=cv b n A:=by
 unfold cv;have c:B.get b=A.get b:=a _ aO aO;have d:(λj:Nat=>if j<n then B.get ((b:Int)+2*j+1) else 0)=λj:Nat=>if j<n then A.get ((b:Int)+2*j+1) else 0:=by
  funext j
  split
  ·exact a _ aO aO
  ·rfl
 have e:(λj:Nat=>if j<n then B.get ((b:Int)+2*j+2) else 0)=λj:Nat=>if j<n then A.get ((b:Int)+2*j+2) else 0:=by
  funext j
  split
  ·exact a _ aO aO
  ·rfl
 rw[c,d,e]
variable{p:Nat}{v:Int}
theorem qw(c:p<n)(a:∀k,B.get k=if k=(b:Int)+2*p+1 then v else A.get k):(cv b n B).tl=(cv b n A).tl/\(cv b n B).nx=lG (cv b n A).nx p v/\(cv b n B).wt=(cv b n A).wt:=by
 refine⟨?_,?_,?_⟩
 ·show B.get b=A.get b;rw[a,ac aO]
 ·funext j
  unfold lG;by_cases e:j=p
  ·subst e;rw[ad rfl];show(if j<n then _ else _)=_;rw[ad c,a,ad rfl]
  ·rw[ac e];show(if j<n then _ else _)=if j<n then _ else _
   split
   ·rw[a,ac aO]
   ·rfl
 ·funext j
  show(if j<n then _ else _)=if j<n then _ else _
  split
  ·rw[a,ac aO]
  ·rfl
theorem nO(c:p<n)(a:∀k,B.get k=if k=(b:Int)+2*p+2 then v else A.get k):(cv b n B).tl=(cv b n A).tl/\(cv b n B).nx=(cv b n A).nx/\(cv b n B).wt=lG (cv b n A).wt p v:=by
 refine⟨?_,?_,?_⟩
 ·show B.get b=A.get b;rw[a,ac aO]
 ·funext j
  show(if j<n then _ else _)=if j<n then _ else _
  split
  ·rw[a,ac aO]
  ·rfl
 ·funext j
  unfold lG;by_cases e:j=p
  ·subst e;rw[ad rfl];show(if j<n then _ else _)=_;rw[ad c,a,ad rfl]
  ·rw[ac e];show(if j<n then _ else _)=if j<n then _ else _
   split
   ·rw[a,ac aO]
   ·rfl
theorem qx(a:∀k,B.get k=if k=(b:Int) then v else A.get k):(cv b n B).tl=v/\(cv b n B).nx=(cv b n A).nx/\(cv b n B).wt=(cv b n A).wt:=by
 refine⟨?_,?_,?_⟩
 ·show B.get b=v;rw[a,ad rfl]
 ·funext j
  show(if j<n then _ else _)=if j<n then _ else _
  split
  ·rw[a,ac aO]
  ·rfl
 ·funext j
  show(if j<n then _ else _)=if j<n then _ else _
  split
  ·rw[a,ac aO]
  ·rfl
theorem rh(a:b<=4096)(hn:n<=32)(c:p<n):lJ b ((p:Int)+1)=(b:Int)+2*p+1:=by
 unfold lJ;rw[ce (x:=2*((p:Int)+1)) aO,ce (x:=(b:Int)+2*((p:Int)+1)) aO,ce aO];omega
theorem zi(a:b<=4096)(hn:n<=32)(c:p<n):q9 b ((p:Int)+1)=(b:Int)+2*p+2:=by
 unfold q9;rw[ce (x:=2*((p:Int)+1)) aO,ce aO];omega
def CG(b n:Nat)(S:Nat->Nat->Int)(A:AR)(j:Nat)(x:AR×(Nat->Nat->Int)×Int):Prop:=
 (∃Q' o',MC n (cv b n x.1) (aa x.2.1 j 0 x.2.2) Q' o')/\ij b (1+2*n) A x.1/\x.1.ops=A.ops+1/\(∀k,k≠j->x.2.1 k 0=S k 0)
variable{j:Nat}
theorem CG.Tf(h:MC n (cv b n A) S Q o)(d:A.Fit)(w:1<=b)(hn:n<=32)(x:b+(1+2*n)<=A.taken+1)(hj:j<n)(u:1<=S j 0/\S j 0<=5):CG b n S A j (BV b A S j)/\((1<=(BV b A S j).2.2/\(BV b A S j).2.2<10)\/(BV b A S j).2.2=10):=by
 have s:=d.1;have t:=d.2.1;have f:b<=4096:=by omega
 unfold CG BV;rcases(by omega:S j 0=1\/S j 0=2\/S j 0=3\/S j 0=4\/S j 0=5) with q|q|q|q|q
 ·rw[ad q,rh f hn hj];dsimp only;have a:A.has ((b:Int)+2*j+1)=true:=a6.2 aO;obtain⟨o1,o2⟩:=cV (b:=b) (m:=1+2*n) (v:=0) d a aO aO;obtain⟨c1,c2,c3⟩:=qw (B:=A.store ((b:Int)+2*j+1) 0) (v:=0) hj (λk=>bU d.1 a);refine⟨⟨⟨Q,o,h.early hj aO aO (λk g=>by rw[c2,cG _ _ g]) (λk g=>by rw[c3]) c1 (λ_=>by rw[c2,eJ]) aO⟩,o1,o2,λ_ _=>by simp⟩,.inl ⟨by omega,by omega⟩⟩
 ·rw[ac aO,ad q,zi f hn hj];dsimp only;have a:A.has ((b:Int)+2*j+2)=true:=a6.2 aO;obtain⟨o1,o2⟩:=cV (b:=b) (m:=1+2*n) (v:=1) d a aO aO;obtain⟨c1,c2,c3⟩:=nO (B:=A.store ((b:Int)+2*j+2) 1) (v:=1) hj (λk=>bU d.1 a);refine⟨⟨⟨Q,o,h.early hj aO aO (λk g=>by rw[c2]) (λk g=>by rw[c3,cG _ _ g]) c1 aO (λ_=>⟨by rw[c2];exact h.p2 j hj q,by rw[c3,eJ]⟩)⟩,o1,o2,λ_ _=>by simp⟩,.inl ⟨by omega,by omega⟩⟩
 ·rw[ac aO,ac aO,ad q];dsimp only;have a:A.has (b:Int)=true:=a6.2 aO;obtain⟨o1,o2⟩:=uI (b:=b) (m:=1+2*n) (v:=(j:Int)+1) d a aO aO;obtain⟨c1,c2,c3⟩:=qx (n:=n) (B:=A.swap b ((j:Int)+1)) (v:=(j:Int)+1) (λk=>jX d.1 a);obtain⟨d1,d2⟩:=h.TP hj q c1 c2 c3;have ho:∀k,k≠j->aa S j 1 (A.get b) k 0=S k 0:=λk g=>by rw[ag,ac (by simp[g])]
  by_cases z:A.get b=0
  ·simp only[ad z];exact⟨⟨⟨_,_,d1 z⟩,o1,o2,ho⟩,.inr aS⟩
  ·simp only[ac z];exact⟨⟨⟨_,_,d2 z⟩,o1,o2,ho⟩,.inl ⟨by omega,by omega⟩⟩
 ·rw[ac aO,ac aO,ac aO,ad q];obtain⟨p,l,e,hl⟩:=h.link hj q;rw[e,rh f hn l];dsimp only;have a:A.has ((b:Int)+2*p+1)=true:=a6.2 aO;obtain⟨o1,o2⟩:=cV (b:=b) (m:=1+2*n) (v:=(j:Int)+1) d a aO aO;obtain⟨c1,c2,c3⟩:=qw (B:=A.store ((b:Int)+2*p+1) ((j:Int)+1)) (v:=(j:Int)+1) l (λk=>bU d.1 a);exact⟨⟨⟨Q,o,hl _ c1 c2 c3⟩,o1,o2,λ_ _=>by simp⟩,.inl ⟨by omega,by omega⟩⟩
 ·rw[ac aO,ac aO,ac aO,ac aO,zi f hn hj];dsimp only;have a:A.has ((b:Int)+2*j+2)=true:=a6.2 aO;obtain⟨o1,o2⟩:=eE (b:=b) (m:=1+2*n) d a aO aO;have c:cv b n (A.load ((b:Int)+2*j+2))=cv b n A:=fN λi _ _=>aw;have r:(cv b n A).wt j=A.get ((b:Int)+2*j+2):=ad hj;by_cases z:A.get ((b:Int)+2*j+2)=0
  ·simp only[ad z];refine⟨⟨⟨Q,some j,?_⟩,o1,o2,λ_ _=>by simp⟩,.inr aS⟩;show MC n (cv b n (A.load ((b:Int)+2*j+2))) _ _ _;rw[c];exact(h.enter hj q (by rw[r];exact z)).2 _ rfl rfl rfl
  ·simp only[ac z];refine⟨⟨⟨Q,o,?_⟩,o1,o2,λ_ _=>by simp⟩,.inl ⟨by omega,by omega⟩⟩;show MC n (cv b n (A.load ((b:Int)+2*j+2))) (aa S j 0 5) _ _;rw[c,<-q,oj];exact h
theorem CG.U0(h:MC n (cv b n A) S Q o)(u:A.Fit)(U:1<=b)(hn:n<=32)(V:b+(1+2*n)<=A.taken+1)(hj:j<n)(T:11<=S j 0/\S j 0<=14):CG b n S A j (qZ b A S j)/\((10<(qZ b A S j).2.2)\/(qZ b A S j).2.2=0):=by
 have N:=u.1;have O:=u.2.1;have s:b<=4096:=by omega
 obtain rfl:=h.RG j hj aO;obtain⟨⟨r,rfl⟩,x⟩:=h.Rv j rfl;have P:A.has ((b:Int)+2*j+1)=true:=a6.2 aO;have H:(cv b n A).nx j=A.get ((b:Int)+2*j+1):=ad hj;have c:cv b n (A.load ((b:Int)+2*j+1))=cv b n A:=fN λi _ _=>aw;have hs:∀(v pc:Int),(∀k,k≠j->∀t,aa (aa S j 1 v) j 0 pc k t=S k t)/\aa (aa S j 1 v) j 0 pc j 0=pc/\aa (aa S j 1 v) j 0 pc j 1=v:=λv pc=>⟨λk f t=>by rw[ag,ag,ac (by simp[f]),ac (by simp[f])],by rw[ag,ad aS],by rw[ag,ac aS,ag,ad aS]⟩
 have ho:∀v k,k≠j->aa S j 1 v k 0=S k 0:=λv k f=>by rw[ag,ac (by simp[f])]
 have d:∀pc:Int,(pc=12\/(pc=13/\(j::r)≠[j]))->CG b n S A j (A.load ((b:Int)+2*j+1),aa S j 1 (A.get ((b:Int)+2*j+1)),if A.get ((b:Int)+2*j+1)=0 then pc else 14)/\(10<(if A.get ((b:Int)+2*j+1)=0 then pc else 14)\/(if A.get ((b:Int)+2*j+1)=0 then pc else 14)=0):=by
  intro pc F;unfold CG;dsimp only;obtain⟨o1,o2⟩:=eE (b:=b) (m:=1+2*n) u P aO aO;by_cases z:A.get ((b:Int)+2*j+1)=0
  ·simp only[ad z];refine⟨⟨⟨j::r,some j,?_⟩,o1,o2,ho _⟩,.inl aO⟩;show MC n (cv b n (A.load ((b:Int)+2*j+1))) _ _ _;rw[c];obtain⟨s1,s2,s3⟩:=hs (A.get ((b:Int)+2*j+1)) pc;refine h.own s1 ?_ rfl rfl rfl;rcases F with e|⟨e,L⟩
   ·exact .inl (.inr (.inr (by rw[<-e];exact s2)))
   ·exact .inr (.inl ⟨by rw[<-e];exact s2,L⟩)
  ·simp only[ac z];refine⟨⟨⟨j::r,some j,?_⟩,o1,o2,ho _⟩,.inl aO⟩;show MC n (cv b n (A.load ((b:Int)+2*j+1))) _ _ _;rw[c];obtain⟨s1,s2,s3⟩:=hs (A.get ((b:Int)+2*j+1)) 14;obtain⟨q,l,e,D,w⟩:=h.ql.second (by rw[H];exact z);have G:q≠j:=λK=>by subst K;omega
   exact h.own s1 (.inr (.inr ⟨s2,q,l,by rw[e],by rw[s3,<-H];exact D,by rw[s1 q G];exact w⟩)) rfl rfl rfl
 unfold CG qZ;rcases(by omega:S j 0=11\/S j 0=12\/S j 0=13\/S j 0=14) with q|q|q|q
 ·rw[ac aO,ac aO,rh s hn hj];simp only[ad q];have:=d 12 (.inl rfl);unfold CG at this;exact this
 ·rw[ad q];dsimp only;have i0:A.has (b:Int)=true:=a6.2 aO;obtain⟨o1,o2⟩:=yC (b:=b) (m:=1+2*n) (o:=(j:Int)+1) (v:=0) u i0 aO aO;have g:=λk=>mt (A:=A) (i:=(b:Int)) (o:=(j:Int)+1) (v:=0) (j:=k) u.1 i0;cases z:A.RE b ((j:Int)+1) with
  |true=>
   have y:=(lK i0).1 z;simp only[bt];have M:r=[]:=qD h.nd (h.tl.symm.trans y);subst M;obtain⟨c1,c2,c3⟩:=qx (b:=b) (n:=n) (A:=A) (B:=A.Sd b ((j:Int)+1) 0) (v:=0) (λk=>by rw[g];by_cases e:k=b<;>simp[e,y]);exact⟨⟨⟨[],none,h.TT c1 c2 (λk _=>by rw[c3]) (λa l e=>by simp at e)⟩,o1,o2,λ_ _=>by simp⟩,.inr aS⟩
  |false=>
   have y:A.get b≠(j:Int)+1:=λe=>by rw[(lK i0).2 e] at z;simp at z
   simp only[ko,br];have c':cv b n (A.Sd b ((j:Int)+1) 0)=cv b n A:=fN λi _ _=>by rw[g,ac (λe=>y e.2)]
   refine⟨⟨⟨j::r,some j,?_⟩,o1,o2,λ_ _=>by simp⟩,.inl aO⟩;show MC n (cv b n (A.Sd b ((j:Int)+1) 0)) _ _ _;rw[c'];have s1:∀k,k≠j->∀t,aa S j 0 13 k t=S k t:=λk f t=>by rw[ag,ac (by simp[f])]
   refine h.own s1 (.inr (.inl ⟨by rw[ag,ad aS],λe=>?_⟩)) rfl rfl rfl;have:=h.tl;rw[e] at this;exact y this
 ·have E:(j::r)≠[j]:=by
   rcases x with h1|⟨_,h2⟩|⟨h1,_⟩
   ·omega
   ·exact h2
   ·omega
  rw[ac aO,ac aO,rh s hn hj];simp only[ac (show¬S j 0=11 by omega)];have:=d 13 (.inr ⟨rfl,E⟩);unfold CG at this;exact this
 ·rw[ac aO,ad q];obtain⟨p,l,e,C,w⟩:∃q l,r=q::l/\S j 1=(q:Int)+1/\S q 0=5:=by
   rcases x with h1|⟨h1,_⟩|⟨_,p,l,e,C,w⟩
   ·omega
   ·omega
   ·exact⟨p,l,(sM e).2,C,w⟩
  subst e;have I:p<n:=h.lt p aS;rw[C,zi s hn I];dsimp only;have J:A.has ((b:Int)+2*p+2)=true:=a6.2 aO;obtain⟨o1,o2⟩:=cV (b:=b) (m:=1+2*n) (v:=0) u J aO aO;obtain⟨c1,c2,c3⟩:=nO (B:=A.store ((b:Int)+2*p+2) 0) (v:=0) I (λk=>bU u.1 J);refine⟨⟨⟨p::l,none,h.TT ?_ c2 (λk f=>?_) (λa R e=>?_)⟩,o1,o2,λ_ _=>by simp⟩,.inr aS⟩
  ·rw[c1];exact h.tl
  ·rw[c3,cG _ _ (by simpa using f)]
  ·obtain⟨rfl,rfl⟩:=sM e;exact⟨w,by rw[c3,eJ]⟩
theorem MC.step(h:MC n (cv b n A) S Q o)(d:A.Fit)(hl:A.ops<1000000000)(c:1<=b)(hn:n<=32)(f:b+(1+2*n)<=A.taken+1)(hj:j<n):
 (∃Q' m,MC n (cv b n (iV n b S A j)) (gy n b S A j) Q' m)/\ij b (1+2*n) A (iV n b S A j)/\(S j 0=1->(iV n b S A j).ops=A.ops+1)/\fH S (gy n b S A j) j (q8 n b S A j):=by
 have l:=h.RC j hj;unfold iV gy q8 iU;rw[cl hj];simp only[gS,cH];by_cases g:S j 0=0
 ·have e:(!(S j 0==0)&& !(S j 0==10))=false:=by rw[g];rfl
  rw[e];simp only[ko,br,lC];exact⟨⟨Q,o,h⟩,ij.refl _ _ _,by omega,⟨λ_ _=>rfl,by omega,by omega,λ_=>⟨rfl,rfl⟩⟩⟩
 by_cases i:S j 0=10
 ·have e:(!(S j 0==0)&& !(S j 0==10))=false:=by rw[i];rfl
  rw[e];simp only[ko,br,lC];exact⟨⟨Q,o,h⟩,ij.refl _ _ _,by omega,⟨λ_ _=>rfl,by omega,by omega,λ_=>⟨rfl,rfl⟩⟩⟩
 have e:(!(S j 0==0)&& !(S j 0==10))=true:=by simp[g,i]
 rw[e];simp only[bt,gS];unfold xN;by_cases q:S j 0<10
 ·simp only[ad q];obtain⟨⟨g1,g2,g3,g4⟩,g5⟩:=CG.Tf h d c hn f hj aO;refine⟨g1,g2,λ_=>g3,⟨λk a=>?_,λ_ _=>?_,by omega,by omega⟩⟩
  ·rw[ag,ac (by simp[a])];exact g4 k a
  ·rw[ag,ad aS];exact⟨by omega,by omega,by simp⟩
 ·simp only[ac q];obtain⟨⟨g1,g2,g3,g4⟩,g5⟩:=CG.U0 h d c hn f hj aO;refine⟨g1,g2,by omega,⟨λk a=>?_,by omega,λ_=>?_,by omega⟩⟩
  ·rw[ag,ac (by simp[a])];exact g4 k a
  ·rw[ag,ad aS];exact⟨by omega,by simp⟩
theorem MC.ask(h:MC n (cv b n A) S Q o)(hj:j<n)(a:S j 0=0):MC n (cv b n A) (aa S j 0 1) Q o:=
 h.early hj aO aO (λ_ _=>rfl) (λ_ _=>rfl) rfl aO aO
theorem MC.leave(h:MC n (cv b n A) S Q o)(hj:j<n)(c:S j 0=10):MC n (cv b n A) (aa S j 0 11) Q o:=by
 obtain rfl:=h.RG j hj aO;exact h.own (λk a t=>by rw[ag,ac (by simp[a])]) (.inl (.inr (.inl (by rw[ag,ad aS])))) rfl rfl rfl
theorem MC.zero{w:CV}(a:w.tl=0):MC n w (λ_ _=>0) [] none:=
 {nd:=by simp,lt:=by simp,mem:=λ_ _ h=>by simp at h,idle:=by simp,RG:=λ_ _ h=>by simp at h,Rv:=λ_ h=>by simp at h,Tq:=λ_ _ _ h=>by simp at h,RC:=λ_ _=>.inl aS,tl:=a,ql:=trivial,w1:=by simp,p2:=λ_ _ h=>by simp at h,p3:=λ_ _ h=>by simp at h}
end
structure PI(b parts n:Nat)(S:Nat->Nat->Int)(A:AR)(V:Int):Prop where
 tk:TK n S V (A.get b)
 no:A.get b<=A.ops
 le:∀p:Int,0<=p->p<(parts:Int)->A.get ((b:Int)+1+p)<=V+1
 at_:A.get ((b:Int)+1+V.tmod parts)=V+1
section
variable{b parts n:Nat}{S:Nat->Nat->Int}{A B:AR}{V:Int}
theorem pu(c:b<=4096)(d:1<=parts/\parts<=32){t:Int}(ht:0<=t):dH b parts t=(b:Int)+1+t.tmod parts/\0<=t.tmod parts/\t.tmod parts<parts:=by
 have hm:=FT t (show(0:Int)<parts by omega);have a:=BQ (parts:Int) ht;refine⟨?_,a,hm⟩;unfold dH;rw[ce (x:=(b:Int)+1) aO,ce aO]
theorem PI.step(h:PI b parts n S A V)(f:A.Fit)(hl:A.ops<1000000000)(U:1<=b)(O:1<=parts/\parts<=32)(W:b+(1+parts)<=A.taken+1){j:Nat}(hj:j<n):
 (∃H,PI b parts n (ft n b parts S A j) (gB n b parts S A j) H)/\ij b (1+parts) A (gB n b parts S A j)/\(S j 0=1->(gB n b parts S A j).ops=A.ops+1)/\fH S (ft n b parts S A j) j (r5 n b parts S A j):=by
 have i0:A.has b=true:=a6.2 aO;have hv:=h.tk.v0;have Q:=h.tk.vn;have M:=h.no;have ht:=f.2.1;have K:=f.1;have N:=f.2.2;have z:A.RH b 1=A.get b+1:=by unfold AR.RH;rw[ad i0];exact ce aO
 unfold ft gB r5;rw[cl hj];simp only[bt,gS,cH];have s:∀t:Int,0<=t->∃m:Int,(t.tmod parts=m/\dH b parts t=(b:Int)+1+m)/\0<=m/\m<parts:=λt G=>by
  obtain⟨a1,a2,a3⟩:=pu (b:=b) (parts:=parts) aO O G;exact⟨_,⟨rfl,a1⟩,a2,a3⟩
 rcases h.tk.RC j hj with q|q|q|q|q
 ·simp only[q,Int.reduceEq,bt,br,gi,fI];exact⟨⟨V,h⟩,ij.refl _ _ _,by simp,⟨λ_ _=>rfl,by simp[q],by simp[q],by simp[q]⟩⟩
 ·simp only[q,Int.reduceEq,bt,br,gi,fI];obtain⟨o1,o2⟩:=r4 (b:=b) (m:=1+parts) (d:=1) f i0 aO aO;have g:=λk=>iB (A:=A) (i:=b) (d:=1) (j:=k) f.1 i0;have e:wrap64 (A.RH b 1 - 1)=A.get b:=by rw[z];exact(ce aO).trans aO
  have l:∀p:Int,0<=p->(A.add b 1).get ((b:Int)+1+p)=A.get ((b:Int)+1+p):=λp G=>by rw[g,ac aO]
  rw[e];have y:=BQ (parts:Int) hv;refine⟨⟨V,⟨?_,?_,λp h1 h2=>by rw[l p h1];exact h.le p h1 h2,by rw[l _ y];exact h.at_⟩⟩,o1,λ_=>o2,⟨λk a=>?_,?_,by omega,by omega⟩⟩
  ·rw[g,ad rfl,ce aO];exact h.tk.draw hj q
  ·rw[g,ad rfl,ce aO,o2];omega
  ·rw[ag,ac (by simp[a]),ag,ac (by simp[a])]
  ·intro _ _;rw[ag,ad aS];simp
 ·have P:=h.tk.TJ j hj aO;obtain⟨m,⟨_,o⟩,E,F⟩:=s (S j 1) aO;simp only[o];clear o;have u:A.has ((b:Int)+1+m)=true:=a6.2 aO;obtain⟨o1,o2⟩:=eE (b:=b) (m:=1+parts) f u aO aO;have a:∀T:Nat->Nat->Int,TK n T V (A.get b)->PI b parts n T (A.load ((b:Int)+1+m)) V:=λT J=>⟨by rw[aw];exact J,by rw[aw,o2];omega,λp h1 h2=>by rw[aw];exact h.le p h1 h2,by rw[aw];exact h.at_⟩
  have R:wrap64 (S j 1+1)=S j 1+1:=ce aO;simp only[q,Int.reduceEq,bt,br,gi,fI];by_cases c:A.get ((b:Int)+1+m)=wrap64 (S j 1+1)
  ·have x:=h.le _ E F;rw[c,R] at x;simp only[c,bt,gi];refine⟨⟨V,a _ (h.tk.RT hj aO aO aO)⟩,o1,by omega,⟨λk a=>?_,?_,by omega,by omega⟩⟩
   ·rw[ag,ac (by simp[a])]
   ·intro _ _;rw[ag,ad aS];simp
  ·simp only[c,br,fI];exact⟨⟨V,a _ h.tk⟩,o1,by simp,⟨λ_ _=>rfl,by simp[q],by simp[q],by simp[q]⟩⟩
 ·simp only[q,Int.reduceEq,bt,br,gi,fI];exact⟨⟨V,h⟩,ij.refl _ _ _,by simp,⟨λ_ _=>rfl,by simp[q],by simp[q],by simp[q]⟩⟩
 ·have r:S j 1=V:=h.tk.top j hj aO;obtain⟨w,L⟩:=h.tk.free hj aO;have C:wrap64 (S j 1+1)=V+1:=by rw[r];exact ce aO
  have D:wrap64 (S j 1+2)=V+2:=by rw[r];exact ce aO
  obtain⟨m,⟨I,o⟩,E,F⟩:=s (V+1) aO;simp only[q,Int.reduceEq,bt,br,gi];rw[C,D,o];clear o;have u:A.has ((b:Int)+1+m)=true:=a6.2 aO;obtain⟨o1,o2⟩:=cV (b:=b) (m:=1+parts) (v:=V+2) f u aO aO;have g:=λk=>bU (A:=A) (i:=(b:Int)+1+m) (v:=V+2) (j:=k) f.1 u;refine⟨⟨V+1,⟨?_,?_,λp h1 h2=>?_,?_⟩⟩,o1,by simp,⟨λk a=>?_,by omega,?_,by omega⟩⟩
  ·rw[g,ac aO];exact w
  ·rw[g,ac aO,o2];omega
  ·rw[g];have:=h.le p h1 h2
   split<;>omega
  ·rw[I,g,ad rfl];omega
  ·rw[ag,ac (by simp[a])]
  ·intro _;rw[ag,ad aS];simp
end
structure TI(b n:Nat)(S:Nat->Nat->Int)(A:AR):Prop where
 RC:∀j,j<n->S j 0=0\/S j 0=1\/S j 0=2\/S j 0=10\/S j 0=11
 own:∀j,j<n->10<=S j 0->A.get b=(j:Int)+1
section
variable{b n:Nat}{S:Nat->Nat->Int}{A B:AR}{most:Int}
variable{j:Nat}
theorem TI.one(h:TI b n S A){k:Nat}(hj:j<n)(a:k<n)(h1:10<=S j 0)(h2:10<=S k 0):j=k:=by
 have:=h.own j hj h1;have:=h.own k a h2;omega
theorem TI.RT{T:Nat->Nat->Int}(h:TI b n S A)(j:Nat)(d:∀k,k≠j->T k 0=S k 0)(f:T j 0=0\/T j 0=1\/T j 0=2\/T j 0=10\/T j 0=11)(g:∀k,k<n->k≠j->10<=S k 0->B.get b=A.get b)(ho:10<=T j 0->B.get b=(j:Int)+1):TI b n T B:=
 ⟨λk c=>by
  by_cases e:k=j
  ·rw[e];exact f
  ·rw[d k e];exact h.RC k c,λk c a=>by
  by_cases e:k=j
  ·subst e;exact ho a
  ·rw[d k e] at a;rw[g k c e a];exact h.own k c a⟩
theorem TI.step(h:TI b n S A)(l:A.Fit)(hl:A.ops<1000000000)(r:1<=b)(s:b+1<=A.taken+1)(hj:j<n):
 TI b n (it n b most S A j) (ir n b S A j)/\ij b 1 A (ir n b S A j)/\(S j 0=1->(ir n b S A j).ops=A.ops+1)/\fH S (it n b most S A j) j (sF n b S A j):=by
 have i0:A.has b=true:=a6.2 aO;unfold it ir sF;rw[cl hj];simp only[bt,gS,cH];rcases h.RC j hj with q|q|q|q|q
 ·simp only[q,Int.reduceEq,bt,br,gi,fI];exact⟨h,ij.refl _ _ _,by simp,⟨λ_ _=>rfl,by simp[q],by simp[q],by simp[q]⟩⟩
 ·simp only[q,Int.reduceEq,bt,br,gi,fI];obtain⟨o1,o2⟩:=yC (b:=b) (m:=1) (o:=0) (v:=(j:Int)+1) l i0 aO aO;have g:=λk=>mt (A:=A) (i:=b) (o:=0) (v:=(j:Int)+1) (j:=k) l.1 i0;cases c:A.RE b 0 with
  |true=>
   have c':=(lK i0).1 c;simp only[bt];have hs:∀k,k≠j->aa S j 0 10 k 0=S k 0:=λk a=>by rw[ag,ac (by simp[a])]
   have d:aa S j 0 10 j 0=10:=by rw[ag,ad aS]
   refine⟨h.RT j hs aO (λk a _ f=>by have:=h.own k a f;omega) (λ_=>by rw[g,ad ⟨rfl,c'⟩]),o1,λ_=>o2,⟨hs,λ_ _=>by rw[d];simp,by omega,by omega⟩⟩
  |false=>
   have c':A.get b≠0:=λe=>by rw[(lK i0).2 e] at c;simp at c
   simp only[ko,br];have hs:∀k,k≠j->aa (aa (aa S j 0 2) j 2 (S j 1)) j 1 (eX most (S j 1)) k 0=S k 0:=λk a=>by rw[ag,ac (by simp[a]),ag,ac (by simp[a]),ag,ac (by simp[a])]
   have d:aa (aa (aa S j 0 2) j 2 (S j 1)) j 1 (eX most (S j 1)) j 0=2:=by rw[ag,ac aS,ag,ac aS,ag,ad aS]
   refine⟨h.RT j hs aO (λk a _ f=>by rw[g,ac (λe=>c' e.2)]) (λf=>by omega),o1,λ_=>o2,⟨hs,λ_ _=>by rw[d];simp,by omega,by omega⟩⟩
 ·simp only[q,Int.reduceEq,bt,br,gi,fI];by_cases c:wrap64 (S j 2 - 1)=0
  ·simp only[c,bt];have hs:∀k,k≠j->aa (aa S j 2 0) j 0 1 k 0=S k 0:=λk a=>by rw[ag,ac (by simp[a]),ag,ac (by simp[a])]
   have d:aa (aa S j 2 0) j 0 1 j 0=1:=by rw[ag,ad aS]
   refine⟨h.RT j hs aO (λ_ _ _ _=>rfl) (λf=>by omega),ij.refl _ _ _,by simp,⟨hs,λ_ _=>by rw[d];simp,by omega,by omega⟩⟩
  ·simp only[c,br];have hs:∀k,aa S j 2 (wrap64 (S j 2 - 1)) k 0=S k 0:=λk=>by rw[ag,ac aS]
   have d:=hs j;refine⟨h.RT j (λk _=>hs k) aO (λ_ _ _ _=>rfl) (λf=>by omega),ij.refl _ _ _,by simp,⟨λk _=>hs k,λ_ _=>by rw[d,q];simp,by omega,by omega⟩⟩
 ·simp only[q,Int.reduceEq,bt,br,gi,fI];exact⟨h,ij.refl _ _ _,by simp,⟨λ_ _=>rfl,by simp[q],by simp[q],by simp[q]⟩⟩
 ·obtain⟨o1,o2⟩:=cV (b:=b) (m:=1) (v:=0) l i0 aO aO;simp only[q,Int.reduceEq,bt,br,gi,fI];have hs:∀k,k≠j->aa S j 0 0 k 0=S k 0:=λk a=>by rw[ag,ac (by simp[a])]
  have d:aa S j 0 0 j 0=0:=by rw[ag,ad aS]
  refine⟨h.RT j hs aO (λk a p f=>am (h.one a hj f aO) p) (λf=>by omega),o1,by simp,⟨hs,by omega,λ_=>by rw[d];simp,by omega⟩⟩
end
def sm(f:Nat->Nat):Nat->Nat
 | 0=>0
 |n+1=>sm f n+f n
section
variable{f g:Nat->Nat}
theorem gE:∀{n:Nat},(∀i,i<n->g i=f i)->sm g n=sm f n
 | 0,_=>rfl
 |n+1,h=>by unfold sm;rw[gE λi hi=>h i aO,h n aO]
theorem cd{j:Nat}:∀{n:Nat},j<n->(∀i,i<n->i≠j->g i=f i)->sm g n+f j=sm f n+g j
 | 0,hj,_=>am hj aO
 |n+1,hj,h=>by
  unfold sm;by_cases e:j=n
  ·subst e;rw[gE λi hi=>h i aO aO];omega
  ·have:=cd (n:=n) aO λi hi=>h i aO;rw[h n aO aO];omega
theorem lj{c:Nat}:∀{n:Nat},(∀i,i<n->f i<=c)->sm f n<=n*c
 | 0,_=>by simp[sm]
 |n+1,h=>by have:=lj (n:=n) λi hi=>h i aO;have:=h n aO;unfold sm;rw[Nat.succ_mul];omega
theorem mf{j:Nat}:∀{n:Nat},j<n->f j<=sm f n
 | 0,h=>am h aO
 |n+1,h=>by
  unfold sm;by_cases e:j=n
  ·subst e;omega
  ·have:=mf (n:=n) (by omega:j<n);omega
theorem eG:∀{n:Nat},(∀i,i<n->f i=0)->sm f n=0
 | 0,_=>rfl
 |n+1,h=>by unfold sm;rw[eG λi hi=>h i aO,h n aO]
theorem i8{j n:Nat}(hj:j<n)(h:∀i,i<n->i≠j->f i=0):sm f n=f j:=by
 have:=cd (f:=f) (g:=λi=>if i=j then f j else 0) hj λi hi e=>by simp[e,h i hi e]
 have e:sm (λi=>if i=j then f j else 0) n=f j:=by
  have:=cd (f:=λ_=>0) (g:=λi=>if i=j then f j else 0) hj λi _ e=>by simp[e]
  rw[eG (f:=λ_=>0) λ_ _=>rfl] at this;simpa using this
 simp at this;omega
end
def mG(x:Int):Nat:=if x=0 then 0 else(15 - x).toNat
structure FX(n:Nat)(w w':Nat)(st st':Nat->Int)(spin spin':Nat->Prop)(j:Nat):Prop where
 sink:st j≠0->st j≠10->spin j\/w'<w
 idle:spin j->w'<=w/\∀i,i<n->(spin i->spin' i)/\(st' i=0↔st i=0)/\(st' i=10↔st i=10)
def KX(n:Nat)(S:Nat->Nat->Int)(V N:Int):Prop:=∀t,V<=t->t<N->∃j,j<n/\2<=S j 0/\S j 1=t
def j4(b:Nat)(S:Nat->Nat->Int)(A:AR)(j:Nat):Prop:=S j 0=2/\A.get ((b:Int)+1)≠S j 1
def mO(b p:Nat)(S:Nat->Nat->Int)(A:AR)(j:Nat):Prop:=S j 0=2/\A.get (dH b p (S j 1))≠wrap64 (S j 1+1)
section
variable{n:Nat}{S T:Nat->Nat->Int}{V N:Int}{b p:Nat}{A B:AR}
variable{j:Nat}
theorem KX.draw(h:KX n S V N)(hj:j<n)(k:S j 0<2):KX n (aa (aa S j 1 N) j 0 2) V (N+1):=λt h1 h2=>by
 by_cases e:t=N
 ·exact⟨j,hj,by simp[ag],by simp[ag,e]⟩
 ·obtain⟨i,a,c,d⟩:=h t h1 aO;have:i≠j:=λe=>by subst e;omega
  exact⟨i,a,by simpa[ag,this] using c,by simpa[ag,this] using d⟩
theorem KX.RT(h:KX n S V N){pc:Int}(h2:2<=S j 0->2<=pc):KX n (aa S j 0 pc) V N:=λt h1 ht=>by
 obtain⟨i,a,c,d⟩:=h t h1 ht;by_cases e:i=j
 ·subst e;exact⟨i,a,by simpa[ag] using h2 c,by simpa[ag] using d⟩
 ·exact⟨i,a,by simpa[ag,e] using c,by simpa[ag,e] using d⟩
theorem KX.free(h:KX n S V N)(h1:S j 1=V):KX n (aa S j 0 0) (V+1) N:=λt k ht=>by
 obtain⟨i,a,c,d⟩:=h t aO ht;have:i≠j:=λe=>by subst e;omega
 exact⟨i,a,by simpa[ag,this] using c,by simpa[ag,this] using d⟩
theorem KX.head(h:KX n S V N)(a:TK n S V N)(hj:j<n)(h2:2<=S j 0):∃i,i<n/\2<=S i 0/\S i 1=V:=by
 have:=a.TJ j hj h2;exact h V aO aO
theorem mh(hs:∀i,i<n->i≠j->T i 0=S i 0)(hj:j<n)(a:mG (T j 0)<mG (S j 0)):sm (λi=>mG (T i 0)) n<sm (λi=>mG (S i 0)) n:=by
 have:=cd (f:=λi=>mG (S i 0)) (g:=λi=>mG (T i 0)) hj λi hi e=>by rw[hs i hi e]
 omega
theorem KI.live(h:KI b n S A)(a:KX n S (A.get ((b:Int)+1)) (A.get b))(m:A.Fit)(hl:A.ops<1000000000)(w:1<=b)(x:b+2<=A.taken+1)(hj:j<n):
 KX n (ip n b S A j) ((io n b S A j).get ((b:Int)+1)) ((io n b S A j).get b)/\FX n (sm (λi=>mG (S i 0)) n) (sm (λi=>mG (ip n b S A j i 0)) n) (λi=>S i 0) (λi=>ip n b S A j i 0) (j4 b S A) (j4 b (ip n b S A j) (io n b S A j)) j:=by
 have i0:A.has b=true:=a6.2 aO;have u:A.has ((b:Int)+1)=true:=a6.2 aO;have hv:=h.tk.v0;have t:=h.tk.vn;have s:=h.no;have ht:=m.2.1;have o:A.RH b 1=A.get b+1:=by unfold AR.RH;rw[ad i0];exact ce aO
 unfold ip io;rw[cl hj];simp only[bt,cH];rcases h.tk.RC j hj with q|q|q|q|q
 ·simp only[q,Int.reduceEq,br];exact⟨a,λh=>am q h,λh=>by unfold j4 at h;omega⟩
 ·have g:=λk=>iB (A:=A) (i:=b) (d:=1) (j:=k) m.1 i0;have e:wrap64 (A.RH b 1 - 1)=A.get b:=by rw[o];exact(ce aO).trans aO
  simp only[q,Int.reduceEq,bt,br,e];refine⟨?_,λ_ _=>.inr (mh (λi _ hi=>by simp[ag,hi]) hj (by rw[q];simp[ag];decide)),λh=>by unfold j4 at h;omega⟩;rw[g,g,ac aO,ad rfl,ce aO];exact a.draw hj aO
 ·simp only[q,Int.reduceEq,bt,br];by_cases c:A.get ((b:Int)+1)=S j 1
  ·rw[ad c];exact⟨by rw[aw,aw];exact a.RT aO,λ_ _=>.inr (mh (λi _ hi=>by simp[ag,hi]) hj (by rw[q];simp[ag];decide)),λh=>by unfold j4 at h;omega⟩
  ·rw[ac c];refine⟨by rw[aw,aw];exact a,λ_ _=>.inl ⟨q,c⟩,λ_=>⟨ba _,λi _=>⟨λhi=>⟨hi.1,by rw[aw];exact hi.2⟩,qp,qp⟩⟩⟩
 ·simp only[q,Int.reduceEq,br];exact⟨a,λ_ h=>am q h,λh=>by unfold j4 at h;omega⟩
 ·have l:S j 1=A.get ((b:Int)+1):=h.tk.top j hj aO;obtain⟨-,r⟩:=h.tk.free hj aO;have g:=λk=>bU (A:=A) (i:=(b:Int)+1) (v:=wrap64 (S j 1+1)) (j:=k) m.1 u;simp only[q,Int.reduceEq,bt,br];refine⟨?_,λ_ _=>.inr (mh (λi _ hi=>by simp[ag,hi]) hj (by rw[q];simp[ag];decide)),λh=>by unfold j4 at h;omega⟩;rw[g,g,ad rfl,ac aO,l,ce aO];exact a.free l
theorem KI.stuck(h:KI b n S A)(d:KX n S (A.get ((b:Int)+1)) (A.get b))(hs:∀j,j<n->S j 0=0\/S j 0=10\/j4 b S A j):(∃j,j<n/\S j 0=10)\/∀j,j<n->S j 0=0:=by
 by_cases e:∃j,j<n/\2<=S j 0
 ·obtain⟨j,hj,h2⟩:=e;obtain⟨i,hi,a,c⟩:=d.head h.tk hj h2;rcases hs i hi with q|q|q
  ·omega
  ·exact .inl ⟨i,hi,q⟩
  ·exact am c.symm q.2
 ·refine .inr λj hj=>?_;rcases hs j hj with q|q|q
  ·exact q
  ·exact am ⟨j,hj,by omega⟩ e
  ·exact am ⟨j,hj,by have:=q.1;omega⟩ e
theorem PI.uniq{W:Int}(h:PI b p n S A V)(d:PI b p n T B W)(k:1<=p)(j:∀i:Int,(b:Int)<i->i<=(b:Int)+p->B.get i=A.get i):V=W:=by
 have a:=FT V (show(0:Int)<p by omega);have e:=BQ (p:Int) h.tk.v0;have c:=FT W (show(0:Int)<p by omega);have c':=BQ (p:Int) d.tk.v0;have:=h.le _ c' c;have:=d.le _ e a;have l:=h.at_;have m:=d.at_;rw[j _ aO aO] at*;omega
end
section
variable{n:Nat}{S T:Nat->Nat->Int}{V N:Int}{b p:Nat}{A B:AR}
variable{j:Nat}
theorem PI.live(h:PI b p n S A V)(s:KX n S V (A.get b))(o:A.Fit)(hl:A.ops<1000000000)(hb:1<=b)(r:1<=p/\p<=32)(P:b+(1+p)<=A.taken+1)(hj:j<n):
 (∃W,PI b p n (ft n b p S A j) (gB n b p S A j) W/\KX n (ft n b p S A j) W ((gB n b p S A j).get b))/\FX n (sm (λi=>mG (S i 0)) n) (sm (λi=>mG (ft n b p S A j i 0)) n) (λi=>S i 0) (λi=>ft n b p S A j i 0) (mO b p S A) (mO b p (ft n b p S A j) (gB n b p S A j)) j:=by
 obtain⟨W,hW⟩:=(h.step o hl hb r P hj).1
 suffices G:(KX n (ft n b p S A j) W ((gB n b p S A j).get b))/\FX n (sm (λi=>mG (S i 0)) n) (sm (λi=>mG (ft n b p S A j i 0)) n) (λi=>S i 0) (λi=>ft n b p S A j i 0) (mO b p S A) (mO b p (ft n b p S A j) (gB n b p S A j)) j from⟨⟨W,hW,G.1⟩,G.2⟩
 have i0:A.has b=true:=a6.2 aO;have hv:=h.tk.v0;have R:=h.tk.vn;have M:=h.no;have ht:=o.2.1;have u:A.RH b 1=A.get b+1:=by unfold AR.RH;rw[ad i0];exact ce aO
 have J:=o.1;have O:=o.2.2;have l:∀t:Int,0<=t->∃m:Int,(t.tmod p=m/\dH b p t=(b:Int)+1+m)/\0<=m/\m<p:=λt I=>by
  obtain⟨a1,a2,a3⟩:=pu (b:=b) (parts:=p) aO r I;exact⟨_,⟨rfl,a1⟩,a2,a3⟩
 unfold ft gB at hW⊢;rw[cl hj] at hW⊢;simp only[bt,cH] at hW⊢;rcases h.tk.RC j hj with q|q|q|q|q
 ·simp only[q,Int.reduceEq,br] at hW⊢;obtain rfl:=h.uniq hW r.1 λ_ _ _=>rfl;exact⟨s,λh=>am q h,λh=>am (h.1.symm.trans q) aJ⟩
 ·have g:=λk=>iB (A:=A) (i:=b) (d:=1) (j:=k) o.1 i0;have e:wrap64 (A.RH b 1 - 1)=A.get b:=by rw[u];exact(ce aO).trans aO
  simp only[q,Int.reduceEq,bt,br,e] at hW⊢;obtain rfl:=h.uniq hW r.1 λi h1 h2=>by rw[g,ac aO]
  refine⟨?_,λ_ _=>.inr (mh (λi _ hi=>by simp[ag,hi]) hj (by rw[q];simp[ag];decide)),λh=>am (h.1.symm.trans q) aJ⟩;rw[g,ad rfl,ce aO];exact s.draw hj aO
 ·have Q:=h.tk.TJ j hj aO;obtain⟨m,⟨-,D⟩,E,F⟩:=l (S j 1) aO;simp only[q,Int.reduceEq,bt,br] at hW⊢;obtain rfl:=h.uniq hW r.1 λi h1 h2=>by rw[aw]
  by_cases c:A.get (dH b p (S j 1))=wrap64 (S j 1+1)
  ·rw[ad c];exact⟨by rw[aw];exact s.RT aO,λ_ _=>.inr (mh (λi _ hi=>by simp[ag,hi]) hj (by rw[q];simp[ag];decide)),λh=>am c h.2⟩
  ·rw[ac c];exact⟨by rw[aw];exact s,λ_ _=>.inl ⟨q,c⟩,λ_=>⟨ba _,λi _=>⟨λhi=>⟨hi.1,by rw[aw];exact hi.2⟩,qp,qp⟩⟩⟩
 ·simp only[q,Int.reduceEq,br] at hW⊢;obtain rfl:=h.uniq hW r.1 λ_ _ _=>rfl;exact⟨s,λ_ h=>am q h,λh=>am (h.1.symm.trans q) aJ⟩
 ·have f:S j 1=V:=h.tk.top j hj aO;obtain⟨-,L⟩:=h.tk.free hj aO;have y:wrap64 (S j 1+1)=V+1:=by rw[f];exact ce aO
  have z:wrap64 (S j 1+2)=V+2:=by rw[f];exact ce aO
  obtain⟨m,⟨Y,D⟩,E,F⟩:=l (V+1) aO;simp only[q,Int.reduceEq,bt,br] at hW⊢;rw[y,z,D] at hW⊢;clear D y z l u;have X:A.has ((b:Int)+1+m)=true:=a6.2 aO;have g:=λk=>bU (A:=A) (i:=(b:Int)+1+m) (v:=V+2) (j:=k) o.1 X;have U:W=V+1:=by
   have a1:=hW.le m E F;rw[g,ad rfl] at a1;have a2:=hW.at_;have b1:=FT W (show(0:Int)<p by omega);have H:=BQ (p:Int) hW.tk.v0;have:=h.le _ H b1;rw[g] at a2
   split at a2<;>omega
  subst U;refine⟨?_,λ_ _=>.inr (mh (λi _ hi=>by simp[ag,hi]) hj (by rw[q];simp[ag];decide)),λh=>am (h.1.symm.trans q) aJ⟩;rw[g,ac aO];exact s.free f
theorem PI.stuck(h:PI b p n S A V)(l:KX n S V (A.get b))(g:1<=p/\p<=32)(d:b<=4096)(f:A.Fit)(hs:∀j,j<n->S j 0=0\/S j 0=10\/mO b p S A j):(∃j,j<n/\S j 0=10)\/∀j,j<n->S j 0=0:=by
 by_cases e:∃j,j<n/\2<=S j 0
 ·obtain⟨j,hj,h2⟩:=e;obtain⟨i,hi,a,c⟩:=l.head h.tk hj h2;rcases hs i hi with q|q|q
  ·omega
  ·exact .inl ⟨i,hi,q⟩
  ·have hv:=h.tk.v0;have k:=h.tk.vn;have:=h.no;have:=f.2.2;have:=q.2;rw[c,(pu d g hv).1,h.at_,ce aO] at this;exact am rfl this
 ·refine .inr λj hj=>?_;rcases hs j hj with q|q|q
  ·exact q
  ·exact am ⟨j,hj,by omega⟩ e
  ·exact am ⟨j,hj,by have:=q.1;omega⟩ e
structure TX(b p n:Nat)(S:Nat->Nat->Int)(A:AR):Prop where
 own:A.get b≠0->∃j,j<n/\10<=S j 0
 wt:∀j,j<n->S j 0=1\/S j 0=2->1<=S j 1/\S j 1<=p/\(S j 0=2->1<=S j 2/\S j 2<=p)
def mn(b:Nat)(S:Nat->Nat->Int)(A:AR)(j:Nat):Prop:=(S j 0=1\/S j 0=2)/\A.get b≠0
def lQ(c:Nat)(x:Int):Nat:=if x=0 then 0 else if x<10 then c+3 else if x=10 then c+2 else c+1
def pY(S:Nat->Nat->Int)(i:Nat):Nat:=if S i 0=2 then(S i 2).toNat else 0
def a7(S:Nat->Nat->Int)(n:Nat):Nat:=sm (λi=>if S i 0=0 then 0 else 1) n
def tW(b p n:Nat)(S:Nat->Nat->Int)(A:AR):Nat:=sm (λi=>lQ (a7 S n*p) (S i 0)) n+if A.get b=0 then sm (pY S) n else 0
theorem mg{f g:Nat->Nat}{p:Nat}:∀{n:Nat},(∀i,i<n->f i<=g i*p)->sm f n<=sm g n*p
 | 0,_=>by simp[sm]
 |n+1,h=>by have:=mg (n:=n) λi hi=>h i aO;have:=h n aO;unfold sm;rw[sN];omega
variable{n:Nat}
theorem qM{f g:Nat->Nat}(h:∀i,i<n->f i<=g i):sm f n<=sm g n:=by
 have:=mg (f:=f) (g:=g) (p:=1) (n:=n) λi hi=>by have:=h i hi;omega
 omega
theorem Dj{c d:Nat}(h:c<=d)(x:Int):lQ c x<=lQ d x:=by unfold lQ;split<;>(try split)<;>(try split)<;>omega
theorem Ac{S T:Nat->Nat->Int}(h:∀i,i<n->(T i 0=0↔S i 0=0)):a7 T n=a7 S n:=gE λi hi=>by have:=h i hi;split<;>split<;>simp_all
theorem yT{p:Nat}(c:p<=32){a:Int}(h:1<=a/\a<=p):1<=eX p a/\eX p a<=p:=by
 unfold eX;rw[ce aO];split<;>omega
theorem TI.live(h:TI b n S A)(m:TX b p n S A)(F:A.Fit)(O:1<=p/\p<=32)(R:1<=b)(U:b+1<=A.taken+1)(hj:j<n):
 TX b p n (it n b p S A j) (ir n b S A j)/\FX n (tW b p n S A) (tW b p n (it n b p S A j) (ir n b S A j)) (λi=>S i 0) (λi=>it n b p S A j i 0) (mn b S A) (mn b (it n b p S A j) (ir n b S A j)) j:=by
 have i0:A.has b=true:=a6.2 aO;have H:=m.wt j hj;have RT:∀{T:Nat->Nat->Int}{B:AR},(∀i,i≠j->∀t,T i t=S i t)->(B.get b≠0->10<=T j 0\/A.get b≠0/\S j 0<10)->(T j 0=1\/T j 0=2->1<=T j 1/\T j 1<=p/\(T j 0=2->1<=T j 2/\T j 2<=p))->TX b p n T B:=λho h1 h2=>⟨λC=>by
  rcases h1 C with e|⟨e,E⟩
  ·exact⟨j,hj,e⟩
  ·obtain⟨i,hi,c⟩:=m.own e;have:i≠j:=λe=>by subst e;omega
   exact⟨i,hi,by rw[ho i this];exact c⟩,λi hi a=>by
  by_cases e:i=j
  ·subst e;exact h2 a
  ·rw[ho i e] at a;rw[ho i e,ho i e,ho i e];exact m.wt i hi a⟩
 have w:∀{T:Nat->Nat->Int},(∀i,i≠j->∀t,T i t=S i t)->sm (λi=>lQ (a7 S n*p) (T i 0)) n+lQ (a7 S n*p) (S j 0)=sm (λi=>lQ (a7 S n*p) (S i 0)) n+lQ (a7 S n*p) (T j 0):=λho=>cd (f:=λi=>lQ (a7 S n*p) (S i 0)) (g:=λi=>lQ (a7 S n*p) (_:Int)) hj λi _ e=>by rw[ho i e]
 have sc:∀{T:Nat->Nat->Int},(∀i,i≠j->∀t,T i t=S i t)->sm (pY T) n+pY S j=sm (pY S) n+pY T j:=λho=>cd hj λi _ e=>by unfold pY;rw[ho i e,ho i e]
 have x:∀{T:Nat->Nat->Int},(∀i,i≠j->∀t,T i t=S i t)->S j 0≠0->T j 0≠0->a7 T n=a7 S n:=λho h1 h2=>Ac λi _=>by
  by_cases e:i=j
  ·subst e;exact⟨λc=>am c h2,λc=>am c h1⟩
  ·rw[ho i e]
 unfold it ir;rw[cl hj];simp only[bt,cH];rcases h.RC j hj with q|q|q|q|q
 ·simp only[q,Int.reduceEq,br];exact⟨m,λh=>am q h,λh=>by unfold mn at h;omega⟩
 ·simp only[q,Int.reduceEq,bt,br];have g:=λk=>mt (A:=A) (i:=b) (o:=0) (v:=(j:Int)+1) (j:=k) F.1 i0;cases c:A.RE b 0 with
  |true=>
   have c':=(lK i0).1 c;simp only[bt];have ho:∀i,i≠j->∀t,aa S j 0 10 i t=S i t:=λi hi t=>by simp[ag,hi]
   have d:aa S j 0 10 j 0=10:=by simp[ag]
   refine⟨RT ho (λ_=>.inl aO) (λa=>by omega),λ_ _=>.inr ?_,λh=>am c' h.2⟩;have:=w ho;rw[d,q] at this;have gb:(A.Sd b 0 ((j:Int)+1)).get b=(j:Int)+1:=by rw[g,ad ⟨rfl,c'⟩]
   unfold tW;rw[gb,ac (show¬((j:Int)+1=0) by omega),x ho aO aO];have a1:lQ (a7 S n*p) 1=a7 S n*p+3:=rfl;have a2:lQ (a7 S n*p) 10=a7 S n*p+2:=rfl;omega
  |false=>
   have c':A.get b≠0:=λe=>by rw[(lK i0).2 e] at c;simp at c
   simp only[ko,br];have ho:∀i,i≠j->∀t,aa (aa (aa S j 0 2) j 2 (S j 1)) j 1 (eX p (S j 1)) i t=S i t:=λi hi t=>by simp[ag,hi]
   have d:aa (aa (aa S j 0 2) j 2 (S j 1)) j 1 (eX p (S j 1)) j 0=2:=by simp[ag]
   have y:aa (aa (aa S j 0 2) j 2 (S j 1)) j 1 (eX p (S j 1)) j 1=eX p (S j 1):=by simp[ag]
   have I:aa (aa (aa S j 0 2) j 2 (S j 1)) j 1 (eX p (S j 1)) j 2=S j 1:=by simp[ag]
   have l:=H (.inl q);have M:=yT O.2 ⟨l.1,l.2.1⟩;have gb:(A.Sd b 0 ((j:Int)+1)).get b=A.get b:=by rw[g,ac (λe=>c' e.2)]
   generalize aa (aa (aa S j 0 2) j 2 (S j 1)) j 1 (eX p (S j 1))=T at*;refine⟨RT ho (λ_=>.inr ⟨c',by omega⟩) (λ_=>by rw[y,I];omega),λ_ _=>.inl ⟨.inl q,c'⟩,λ_=>⟨?_,λi _=>⟨λhi=>⟨?_,by rw[gb];exact c'⟩,?_,?_⟩⟩⟩
   ·have:=w ho;rw[d,q] at this;unfold tW;rw[gb,ac c',ac c',x ho aO aO];have a1:lQ (a7 S n*p) 1=lQ (a7 S n*p) 2:=rfl;omega
   all_goals
    by_cases e:i=j
    ·subst e;simp[d,q]
    ·first|exact(show T i 0=1\/T i 0=2 from by rw[ho i e];exact hi.1)|simp only[ho i e]
 ·simp only[q,Int.reduceEq,bt,br];have l:=H (.inr q);have P:=l.2.2 q;have D:wrap64 (S j 2 - 1)=S j 2 - 1:=ce aO;rw[D];obtain⟨T,u⟩:∃T,T=(if S j 2 - 1=0 then aa (aa S j 2 (S j 2 - 1)) j 0 1 else aa S j 2 (S j 2 - 1)):=⟨_,rfl⟩
  rw[<-u];have ho:∀i,i≠j->∀t,T i t=S i t:=λi hi t=>by rw[u];split<;>simp[ag,hi]
  have y:T j 1=S j 1:=by rw[u];split<;>simp[ag]
  have d:T j 0=1/\S j 2=1\/T j 0=2/\T j 2=S j 2 - 1/\2<=S j 2:=by
   rw[u];by_cases c:S j 2 - 1=0
   ·rw[ad c];exact .inl ⟨by simp[ag],by omega⟩
   ·rw[ac c];exact .inr ⟨by simp[ag,q],by simp[ag],by omega⟩
  have r:=x ho aO aO;have s:sm (λi=>lQ (a7 S n*p) (T i 0)) n=sm (λi=>lQ (a7 S n*p) (S i 0)) n:=by
   have:=w ho;have a1:lQ (a7 S n*p) 1=lQ (a7 S n*p) 2:=rfl;rw[q] at this;rcases d with⟨e,_⟩|⟨e,_⟩<;>rw[e] at this<;>omega
  have J:sm (pY T) n<sm (pY S) n:=by
   have:=sc ho;have b1:pY S j=(S j 2).toNat:=by unfold pY;rw[ad q]
   have Q:pY T j=(S j 2).toNat - 1:=by
    unfold pY;rcases d with⟨e,E⟩|⟨e,E,_⟩
    ·rw[ac aO];omega
    ·rw[ad e];omega
   omega
  refine⟨RT ho (λa=>.inr ⟨a,by omega⟩) (λa=>?_),λ_ _=>?_,λbB=>⟨?_,λi _=>⟨λhi=>⟨?_,bB.2⟩,?_,?_⟩⟩⟩
  ·rw[y];omega
  ·by_cases c:A.get b=0
   ·refine .inr ?_;unfold tW;rw[r,s,ad c,ad c];omega
   ·exact .inl ⟨.inr q,c⟩
  ·unfold tW;rw[r,s,ac bB.2,ac bB.2];omega
  all_goals
   by_cases e:i=j
   ·subst e;omega
   ·first|exact(show T i 0=1\/T i 0=2 from by rw[ho i e];exact hi.1)|simp only[ho i e]
 ·simp only[q,Int.reduceEq,br];exact⟨m,λ_ h=>am q h,λh=>by unfold mn at h;omega⟩
 ·have g:=λk=>bU (A:=A) (i:=b) (v:=0) (j:=k) F.1 i0;simp only[q,Int.reduceEq,bt,br];have ho:∀i,i≠j->∀t,aa S j 0 0 i t=S i t:=λi hi t=>by simp[ag,hi]
  have d:aa S j 0 0 j 0=0:=by simp[ag]
  refine⟨RT ho (λa=>by rw[g,ad rfl] at a;exact am rfl a) (λa=>by omega),λ_ _=>.inr ?_,λh=>by unfold mn at h;omega⟩;have G:=h.own j hj aO;have:=w ho;rw[d,q] at this;have K:sm (pY (aa S j 0 0)) n<=a7 S n*p:=mg λi hi=>by
   unfold pY;split
   ·rename_i a
    have:i≠j:=λe=>by subst e;omega
    rw[ho i this] at a;rw[ho i this];have:=(m.wt i hi (.inr a)).2.2 a;rw[ac aO];omega
   ·omega
  have z:a7 (aa S j 0 0) n<=a7 S n:=qM λi hi=>by
   by_cases c:i=j
   ·subst c;rw[ad d];omega
   ·rw[ho i c];omega
  have L:sm (λi=>lQ (a7 (aa S j 0 0) n*p) (aa S j 0 0 i 0)) n<=sm (λi=>lQ (a7 S n*p) (aa S j 0 0 i 0)) n:=qM λi _=>Dj (xq _ z) _;unfold tW;rw[g,ad rfl,ad rfl,ac aO];have a1:lQ (a7 S n*p) 11=a7 S n*p+1:=rfl;have a2:lQ (a7 S n*p) 0=0:=rfl;omega
theorem TI.stuck(h:TI b n S A)(a:TX b p n S A)(hs:∀j,j<n->S j 0=0\/S j 0=10\/mn b S A j):(∃j,j<n/\S j 0=10)\/∀j,j<n->S j 0=0:=by
 by_cases e:A.get b=0
 ·refine .inr λj hj=>?_;rcases hs j hj with q|q|q
  ·exact q
  ·have:=h.own j hj aO;omega
  ·exact am e q.2
 ·obtain⟨j,hj,c⟩:=a.own e;rcases hs j hj with q|q|q
  ·omega
  ·exact .inl ⟨j,hj,q⟩
  ·have:=q.1;omega
end
structure FK.Ok(K:FK):Prop where
 k1:1<=K.k
 k5:K.k<=5
 b1:1<=K.b
 n1:1<=K.n
 Ry:K.n<=32
 p1:1<=K.p
 Tr:K.p<=32
def FI(K:FK)(S:Nat->Nat->Int)(A:AR):Prop:=
 if K.k=1 then TI K.b K.n S A else if K.k=2 then KI K.b K.n S A else if K.k=3 then∃V,PI K.b K.p K.n S A V else if K.k=4 then∃Q o,MC K.n (cv K.b K.n A) S Q o else∃Q f,HI K.b K.n S A Q f
theorem FK.Ok.RS{K:FK}(h:K.Ok):K.k=1\/K.k=2\/K.k=3\/K.k=4\/K.k=5:=by have:=h.k1;have:=h.k5;omega
section
variable{K:FK}{S:Nat->Nat->Int}{A B:AR}
theorem GU(e:K.k=1):FI K S A=TI K.b K.n S A:=by unfold FI;rw[ad e]
theorem BY(e:K.k=2):FI K S A=KI K.b K.n S A:=by unfold FI;rw[ac aO,ad e]
theorem GV(e:K.k=3):FI K S A=∃V,PI K.b K.p K.n S A V:=by unfold FI;rw[ac aO,ac aO,ad e]
theorem BZ(e:K.k=4):FI K S A=∃Q o,MC K.n (cv K.b K.n A) S Q o:=by unfold FI;rw[ac aO,ac aO,ac aO,ad e]
theorem De(e:K.k=5):FI K S A=∃Q f,HI K.b K.n S A Q f:=by unfold FI;rw[ac aO,ac aO,ac aO,ac aO]
theorem IL(e:K.k=1):K.size=1:=by unfold FK.size;rw[ad e]
theorem Gd(e:K.k=2):K.size=2:=by unfold FK.size;rw[ac aO,ad e]
theorem Bw(e:K.k=3):K.size=1+K.p:=by unfold FK.size;rw[ac aO,ac aO,ad e]
theorem Fb(e:K.k=4):K.size=1+2*K.n:=by unfold FK.size;rw[ac aO,ac aO,ac aO,ad e]
theorem Fc(e:K.k=5):K.size=K.n+2:=by unfold FK.size;rw[ac aO,ac aO,ac aO,ac aO]
theorem FI.Vk(h:FI K S A)(e:K.k=4):jn K.n S:=by
 rw[BZ e] at h;obtain⟨Q,o,h⟩:=h;exact h.RC
theorem FI.step(h:FI K S A)(a:K.Ok)(c:A.Fit)(hl:A.ops<1000000000)(b:K.b+K.size<=A.taken+1){j:Nat}(hj:j<K.n):
 FI K (bM K S A j) (bL K S A j)/\ij K.b K.size A (bL K S A j)/\(S j 0=1->(bL K S A j).ops=A.ops+1)/\fH S (bM K S A j) j (cN K S A j):=by
 rcases a.RS with e|e|e|e|e
 ·rw[IL e] at b;unfold bM bL cN;rw[GU e] at h⊢;rw[IL e,ad e,ad e,ad e];exact h.step c hl a.b1 b hj
 ·rw[Gd e] at b;unfold bM bL cN;rw[BY e] at h⊢;rw[Gd e,ac aO,ad e,ac aO,ad e,ac aO,ad e];exact h.step c hl a.b1 b hj
 ·rw[Bw e] at b;unfold bM bL cN;rw[GV e] at h⊢;rw[Bw e,ac aO,ac aO,ad e,ac aO,ac aO,ad e,ac aO,ac aO,ad e];obtain⟨V,h⟩:=h;exact h.step c hl a.b1 ⟨a.p1,a.Tr⟩ b hj
 ·rw[Fb e] at b;unfold bM bL cN;rw[BZ e] at h⊢;rw[Fb e,ac aO,ac aO,ac aO,ad e,ac aO,ac aO,ac aO,ad e,ac aO,ac aO,ac aO,ad e];obtain⟨Q,o,h⟩:=h;exact h.step c hl a.b1 a.Ry b hj
 ·rw[Fc e] at b;unfold bM bL cN;rw[De e] at h⊢;rw[Fc e,ac aO,ac aO,ac aO,ac aO,ac aO,ac aO,ac aO,ac aO,ac aO,ac aO,ac aO,ac aO];obtain⟨Q,f,h⟩:=h;exact h.step c hl a.b1 a.Ry b hj
theorem dQ{n:Nat}{S:Nat->Nat->Int}{j:Nat}(hj:j<n){a b:Int}(c:S j 0=a):bo n S j a b=aa S j 0 b:=by
 unfold bo ai;rw[cl hj,cH,c];simp
theorem FI.ask(h:FI K S A)(d:K.Ok){j:Nat}(hj:j<K.n)(b:S j 0=0):FI K (gM K S j) A/\gM K S j j 0=1/\∀k,k≠j->gM K S j k 0=S k 0:=by
 have hs:∀k,k≠j->aa S j 0 1 k 0=S k 0:=λk a=>by rw[ag,ac (by simp[a])]
 have c:aa S j 0 1 j 0=1:=by rw[ag,ad aS]
 rcases d.RS with e|e|e|e|e
 ·unfold gM;rw[GU e] at h⊢;rw[ad e];have ok:nB K.n S j=true:=by unfold nB;rw[cl hj,cH,b];rfl
  unfold wX;rw[ok,ad rfl,cH];have hs:∀k,k≠j->aa (aa S j 0 1) j 1 1 k 0=S k 0:=λk a=>by rw[ag,ac (by simp[a]),ag,ac (by simp[a])]
  have c:aa (aa S j 0 1) j 1 1 j 0=1:=by rw[ag,ac aS,ag,ad aS]
  exact⟨h.RT j hs aO (λ_ _ _ _=>rfl) aO,c,hs⟩
 all_goals
  unfold gM;rw[ac aO,dQ hj b];refine⟨?_,c,hs⟩
 ·rw[BY e] at h⊢;exact⟨h.tk.RT hj aO aO aO,h.no⟩
 ·rw[GV e] at h⊢;obtain⟨V,h⟩:=h;exact⟨V,{h with tk:=h.tk.RT hj aO aO aO}⟩
 ·rw[BZ e] at h⊢;obtain⟨Q,o,h⟩:=h;exact⟨Q,o,h.ask hj b⟩
 ·rw[De e] at h⊢;obtain⟨Q,f,h⟩:=h;exact⟨Q,f,h.RT hj aO aO aO rfl h.free (λk a _ g=>h.set k a g) aO⟩
theorem FI.leave(h:FI K S A)(c:K.Ok){j:Nat}(hj:j<K.n)(b:S j 0=10):FI K (dp K S j) A/\dp K S j j 0=11/\∀k,k≠j->dp K S j k 0=S k 0:=by
 have hs:∀k,k≠j->aa S j 0 11 k 0=S k 0:=λk a=>by rw[ag,ac (by simp[a])]
 have g:aa S j 0 11 j 0=11:=by rw[ag,ad aS]
 unfold dp;rw[dQ hj b];refine⟨?_,g,hs⟩;rcases c.RS with e|e|e|e|e
 ·rw[GU e] at h⊢;exact h.RT j hs aO (λ_ _ _ _=>rfl) (λ_=>h.own j hj aO)
 ·rw[BY e] at h⊢;exact⟨h.tk.RT hj aO aO (λ_=>h.tk.top j hj aO),h.no⟩
 ·rw[GV e] at h⊢;obtain⟨V,h⟩:=h;exact⟨V,{h with tk:=h.tk.RT hj aO aO (λ_=>h.tk.top j hj aO)}⟩
 ·rw[BZ e] at h⊢;obtain⟨Q,o,h⟩:=h;exact⟨Q,some j,by obtain rfl:=h.RG j hj aO;exact h.leave hj b⟩
 ·rw[De e] at h⊢;obtain⟨Q,f,h⟩:=h;exact⟨Q,f,h.RT hj aO aO (λ_=>h.hold j hj aO) rfl h.free (λk a _ d=>h.set k a d) (λ_=>h.set j hj aO)⟩
end
def up{α:Type}(f:Nat->α)(j:Nat)(x:α):Nat->α:=λi=>if i=j then x else f i
structure HV where
 pc:Nat->Int
 sa:Nat->Int
 sc:Nat->Int
 tk:Nat->Int
 is:Int->Prop
 lt:Nat->Int
 gt:Int
structure HJ(n:Nat)(nd:Nat->Nat)(v:HV)(M:Nat->Option Nat)(R:Nat->Nat):Prop where
 tz:∀p,p<n->v.tk p≠0
 ti:∀p q,p<n->q<n->v.tk p=v.tk q->p=q
 wait:∀j,j<n->v.pc j=5->v.is (v.sa j)\/∃p,p<n/\v.sa j=v.tk p/\2<=v.pc p/\M p=M j/\R p<R j
 VM:∀j,j<n->v.pc j=2\/v.pc j=3\/v.pc j=4->M j=some j
 lt:∀x,v.lt x≠0->∃m,m<n/\nd m=x/\(v.pc m=2\/v.pc m=3)/\(v.is (v.lt x)\/∃p,p<n/\v.lt x=v.tk p/\2<=v.pc p/\M p=some m)
 ml:∀m,m<n->v.pc m=2\/v.pc m=3->v.lt (nd m)≠0
 uq:∀m k,m<n->k<n->v.pc m=2\/v.pc m=3->v.pc k=2\/v.pc k=3->nd m=nd k->m=k
 gt:v.gt≠0->v.is v.gt\/∃p,p<n/\v.gt=v.tk p/\2<=v.pc p/\M p=none
 c:∀j,j<n->v.pc j=4->v.is (v.sc j)\/∃p,p<n/\v.sc j=v.tk p/\2<=v.pc p/\M p=some j
section
variable{n:Nat}{nd:Nat->Nat}{v:HV}{M:Nat->Option Nat}{R:Nat->Nat}{j:Nat}
variable{x:Int}
theorem HJ.Sm(h:HJ n nd v M R)(hj:j<n)(y z:Int)(g:(v.pc j=0/\x=1)\/(v.pc j=2/\(x=2\/x=3))\/(v.pc j=5/\x=10)\/(v.pc j=10/\x=11)):HJ n nd {v with pc:=up v.pc j x,sa:=up v.sa j y,sc:=up v.sc j z} M R:=by
 obtain⟨a1,a2,a3,a,b,c,d,e,f⟩:=h;constructor<;>simp only[up]<;>grind (splits:=24)
theorem HJ.first(h:HJ n nd v M R)(hj:j<n)(h1:v.pc j=1)(g:v.lt (nd j)=0)(i:x=2\/x=3)(y z:Int):HJ n nd {v with pc:=up v.pc j x,sa:=up v.sa j y,sc:=up v.sc j z,lt:=up v.lt (nd j) (v.tk j)} (up M j (some j)) R:=by
 obtain⟨a1,a2,a3,a,b,c,d,e,f⟩:=h;constructor<;>simp only[up]<;>grind (splits:=24)
theorem HJ.behind(h:HJ n nd v M R)(hj:j<n)(h1:v.pc j=1)(d:v.lt (nd j)≠0)(z:Int):∃b c,HJ n nd {v with pc:=up v.pc j 5,sa:=up v.sa j (v.lt (nd j)),sc:=up v.sc j z,lt:=up v.lt (nd j) (v.tk j)} b c:=by
 obtain⟨m,o,q,r,a⟩:=h.lt _ d;obtain⟨a1,a2,a3,e,f,g,i,k,l⟩:=h;rcases a with a|⟨p,p1,p2,p3,p4⟩
 ·refine⟨up M j (some m),R,?_⟩;constructor<;>simp only[up]<;>grind (splits:=24)
 ·refine⟨up M j (some m),up R j (R p+1),?_⟩;constructor<;>simp only[up]<;>grind (splits:=24)
theorem HJ.cut(h:HJ n nd v M R)(hj:j<n)(h1:v.pc j=3)(y:Int):HJ n nd {v with pc:=up v.pc j 4,sa:=up v.sa j y,sc:=up v.sc j (v.lt (nd j)),lt:=up v.lt (nd j) 0} M R:=by
 obtain⟨a1,a2,a3,a,b,c,d,e,f⟩:=h;constructor<;>simp only[up]<;>grind (splits:=24)
theorem HJ.splice(h:HJ n nd v M R)(hj:j<n)(h1:v.pc j=4)(s:x=10/\v.gt=0\/x=5/\v.gt≠0)(z:Int):∃d e,HJ n nd {v with pc:=up v.pc j x,sa:=up v.sa j v.gt,sc:=up v.sc j z,gt:=v.sc j} d e:=by
 obtain⟨a1,a2,a3,f,g,k,l,m,o⟩:=h;obtain⟨K,r⟩:∃K:Nat,∀p,p<n->v.gt=v.tk p->R p<K:=by
  by_cases c:∃p,p<n/\v.gt=v.tk p
  ·obtain⟨p,p1,p2⟩:=c;exact⟨R p+1,λq a b=>by rw[a2 q p a p1 (b.symm.trans p2)];omega⟩
  ·exact⟨0,λq a b=>am ⟨q,a,b⟩ c⟩
 refine⟨λi=>if M i=some j then none else M i,λi=>if M i=some j then R i+K else R i,?_⟩;constructor<;>simp only[up]<;>grind (splits:=24)
theorem HJ.free(h:HJ n nd v M R)(hj:j<n)(h1:v.pc j=11){y:Int}{is':Int->Prop}(h2:∀x,v.is x->is' x)(h3:is' (v.tk j))(h4:y≠0/\∀p,p<n->p≠j->v.tk p≠y):HJ n nd {v with pc:=up v.pc j 0,tk:=up v.tk j y,is:=is'} M R:=by
 obtain⟨a1,a2,a3,a,b,c,d,e,f⟩:=h;constructor<;>simp only[up]<;>grind (splits:=24)
theorem HJ.stuck(h:HJ n nd v M R)(b:∀j,j<n->v.pc j=0\/v.pc j=5/\¬v.is (v.sa j)):∀j,j<n->v.pc j=0:=by
 have a:∀r j,j<n->R j<=r->v.pc j=0:=by
  intro r;induction r with
  |zero=>intro j hj c;have:=b j hj;have:=h.wait j hj;grind
  |succ r d=>intro j hj c;have:=b j hj;have:=h.wait j hj;grind
 exactλj hj=>a _ j hj (ba _)
end
def pQ(b:Nat)(S:Nat->Nat->Int)(A:AR)(j:Nat):Prop:=S j 0=3/\A.get (ji b (S j 2))≠0
def gw(b:Nat)(S:Nat->Nat->Int)(A:AR)(j:Nat):Prop:=S j 0=5/\A.get ((b:Int)+2*j+2)≠0\/S j 0=13/\A.get ((b:Int)+2*j+1)=0
section
variable{n:Nat}{S T:Nat->Nat->Int}{b:Nat}{A B:AR}{Q:List Nat}{f:Int}{o:Option Nat}
variable{j:Nat}
theorem HI.live(h:HI b n S A Q f)(hj:j<n):
 FX n (sm (λi=>mG (S i 0)) n) (sm (λi=>mG (iX n b S A j i 0)) n) (λi=>S i 0) (λi=>iX n b S A j i 0) (pQ b S A) (pQ b (iX n b S A j) (jH n b S A j)) j:=by
 unfold iX jH;rw[cl hj];simp only[bt,cH];rcases h.RC j hj with q|q|q|q|q|q
 ·exact⟨λh=>am q h,λh=>am (h.1.symm.trans q) aJ⟩
 ·simp only[q,Int.reduceEq,bt,br];exact⟨λ_ _=>.inr (mh (λi _ hi=>by simp[ag,hi]) hj (by rw[q];simp[ag];decide)),λh=>am (h.1.symm.trans q) aJ⟩
 ·simp only[q,Int.reduceEq,bt,br];exact⟨λ_ _=>.inr (mh (λi _ hi=>by simp[ag,hi]) hj (by rw[q];simp[ag];decide)),λh=>am (h.1.symm.trans q) aJ⟩
 ·simp only[q,Int.reduceEq,bt,br];by_cases c:A.get (ji b (S j 2))=0
  ·rw[ad c];exact⟨λ_ _=>.inr (mh (λi _ hi=>by simp[ag,hi]) hj (by rw[q];simp[ag];decide)),λh=>am c h.2⟩
  ·rw[ac c];exact⟨λ_ _=>.inl ⟨q,c⟩,λ_=>⟨ba _,λi _=>⟨λhi=>⟨hi.1,by rw[aw];exact hi.2⟩,qp,qp⟩⟩⟩
 ·exact⟨λ_ h=>am q h,λh=>am (h.1.symm.trans q) aJ⟩
 ·simp only[q,Int.reduceEq,bt,br];exact⟨λ_ _=>.inr (mh (λi _ hi=>by simp[ag,hi]) hj (by rw[q];simp[ag];decide)),λh=>am (h.1.symm.trans q) aJ⟩
theorem HI.stuck(h:HI b n S A Q f)(c:b<=4096)(hn:n<=32)(hs:∀j,j<n->S j 0=0\/S j 0=10\/pQ b S A j):(∃j,j<n/\S j 0=10)\/∀j,j<n->S j 0=0:=by
 cases a:Q with
 |nil=>
  subst a;refine .inr λj hj=>?_;have:=h.mem j hj;rcases hs j hj with q|q|q
  ·exact q
  ·have:=this.2 aO;simp at this
  ·have:=this.2 (by have:=q.1;omega);simp at this
 |cons q r=>
  subst a;have a:=h.lt q aS;have e:S q 2=f:=h.chain.1;have h3:=(h.mem q a).1 aS;rcases hs q a with g|g|g
  ·omega
  ·exact .inl ⟨q,a,g⟩
  ·have:=h.fb;have g2:=g.2;unfold ji at g2;rw[e,ce aO,h.free] at g2;exact am rfl g2
theorem MC.live(h:MC n (cv b n A) S Q o)(k:A.Fit)(hl:A.ops<1000000000)(u:1<=b)(hn:n<=32)(y:b+(1+2*n)<=A.taken+1)(hj:j<n):
 FX n (sm (λi=>mG (S i 0)) n) (sm (λi=>mG (gy n b S A j i 0)) n) (λi=>S i 0) (λi=>gy n b S A j i 0) (gw b S A) (gw b (gy n b S A j) (iV n b S A j)) j:=by
 have d:=(h.step k hl u hn y hj).2.2.2.others;have v:=k.1;have w:=k.2.1;have a:b<=4096:=by omega
 have x:=h.RC j hj;by_cases p:S j 0=0
 ·exact⟨λh=>am p h,λh=>by unfold gw at h;omega⟩
 by_cases r:S j 0=10
 ·exact⟨λ_ h=>am r h,λh=>by unfold gw at h;omega⟩
 have e:iU n S j=true:=by unfold iU;rw[cl hj];simp[p,r]
 have m:gy n b S A j j 0=(xN b A S j).2.2:=by unfold gy;rw[e,ad rfl,cH];simp[ag]
 have l:iV n b S A j=(xN b A S j).1:=by unfold iV;rw[e,ad rfl,cH]
 generalize gy n b S A j=T at*;rw[l];clear l e;have go:(mG (xN b A S j).2.2<mG (S j 0)/\¬gw b S A j)\/(gw b S A j/\(xN b A S j).2.2=S j 0/\∀i,(xN b A S j).1.get i=A.get i):=by
  have t:=zi a hn hj;have s:=rh a hn hj;unfold xN gw;rcases(by omega:S j 0=1\/S j 0=2\/S j 0=3\/S j 0=4\/S j 0=5\/S j 0=11\/S j 0=12\/S j 0=13\/S j 0=14) with q|q|q|q|q|q|q|q|q;all_goals
   unfold BV qZ;simp only[q,Int.reduceEq,Int.reduceLT,bt,br,t,s,false_and,true_and,or_false,false_or,not_false_eq_true,and_true]
  ·decide
  ·decide
  ·split<;>decide
  ·decide
  ·by_cases c:A.get ((b:Int)+2*j+2)=0
   ·exact .inl ⟨by rw[ad c];decide,λh=>h c⟩
   ·exact .inr ⟨c,by rw[ac c],λ_=>aw⟩
  ·split<;>decide
  ·split<;>decide
  ·by_cases c:A.get ((b:Int)+2*j+1)=0
   ·exact .inr ⟨c,by rw[ad c],λ_=>aw⟩
   ·exact .inl ⟨by rw[ac c];decide,c⟩
  ·decide
 rcases go with⟨g1,g2⟩|⟨g1,g2,g3⟩
 ·exact⟨λ_ _=>.inr (mh (λi _ hi=>d i hi) hj (by rw[m];exact g1)),λh=>am h g2⟩
 ·have g:∀i,T i 0=S i 0:=λi=>by
   by_cases e:i=j
   ·subst e;rw[m,g2]
   ·exact d i e
  refine⟨λ_ _=>.inl g1,λ_=>⟨xm (gE λi _=>by rw[g]),λi _=>⟨λhi=>?_,by simp only[g],by simp only[g]⟩⟩⟩;unfold gw;rw[g,g3,g3];exact hi
theorem MC.stuck(h:MC n (cv b n A) S Q o)(hs:∀j,j<n->S j 0=0\/S j 0=10\/gw b S A j):(∃j,j<n/\S j 0=10)\/∀j,j<n->S j 0=0:=by
 have e:∀x,x<n->(cv b n A).nx x=A.get ((b:Int)+2*x+1):=λx a=>ad a;have i:∀x,x<n->(cv b n A).wt x=A.get ((b:Int)+2*x+2):=λx a=>ad a;cases ho:o with
 |some x=>
  subst ho;obtain⟨⟨r,rfl⟩,h2⟩:=h.Rv x rfl;have a:=h.lt x aS;rcases hs x a with q|q|q
  ·omega
  ·exact .inl ⟨x,a,q⟩
  ·rcases q with q|q
   ·omega
   ·rcases h2 with h2|⟨_,h2⟩|h2
    ·omega
    ·cases r with
     |nil=>exact am rfl h2
     |cons y r=>
      have k:=h.lt y aS;rcases h.ql.1 with g|g
      ·rcases hs y k with c|c|c
       ·omega
       ·omega
       ·unfold gw at c;omega
      ·rw[e x a] at g;omega
    ·omega
 |none=>
  subst ho;cases d:Q with
  |nil=>
   subst d;refine .inr λj hj=>?_;rcases hs j hj with q|q|q
   ·exact q
   ·have:=h.RG j hj aO;cases this
   ·rcases q with q|q
    ·have:=h.mem j hj (.inr q.1);simp at this
    ·have:=h.RG j hj aO;cases this
  |cons x r=>
   have a:=h.lt x (by rw[d];simp);obtain⟨g1,g2⟩:=h.Tq rfl x r d;rw[i x a] at g2;rcases hs x a with c|c|c
   ·omega
   ·omega
   ·unfold gw at c;omega
end
section
variable{b parts n:Nat}{S:Nat->Nat->Int}{A B:AR}{V:Int}
theorem PI.frame(h:PI b parts n S A V)(d:1<=parts)(a:∀i:Int,(b:Int)<=i->i<(b:Int)+((1+parts:Nat):Int)->B.get i=A.get i)(ho:A.ops<=B.ops):PI b parts n S B V:=by
 have hm:=FT V (show(0:Int)<parts by omega);have c:=BQ (parts:Int) h.tk.v0;refine⟨by rw[a _ aO aO];exact h.tk,by rw[a _ aO aO];have:=h.no;omega,λp h1 h2=>by rw[a _ aO aO];exact h.le p h1 h2,by rw[a _ aO aO];exact h.at_⟩
end
section
variable{b n:Nat}{S:Nat->Nat->Int}{A B:AR}{most:Int}
theorem TI.frame(h:TI b n S A)(c:∀i:Int,(b:Int)<=i->i<(b:Int)+1->B.get i=A.get i):TI b n S B:=
 ⟨h.RC,λj hj a=>by rw[c _ aO aO];exact h.own j hj a⟩
end
section
variable{b n:Nat}{S:Nat->Nat->Int}{A B:AR}{Q:List Nat}{o:Option Nat}
theorem MC.one(h:MC n (cv b n A) S Q o){j k:Nat}(hj:j<n)(d:k<n)(h1:10<=S j 0)(h2:10<=S k 0):j=k:=by
 have c:=h.RG j hj h1;have a:=h.RG k d h2;rw[c] at a;exact nE a
end
section
variable{b n:Nat}{S:Nat->Nat->Int}{A B:AR}{Q:List Nat}{o:Option Nat}
end
section
variable{K:FK}{S:Nat->Nat->Int}{A B:AR}
theorem FI.frame(h:FI K S A)(c:K.Ok)(a:∀i:Int,(K.b:Int)<=i->i<(K.b:Int)+(K.size:Int)->B.get i=A.get i)(ho:A.ops<=B.ops):FI K S B:=by
 rcases c.RS with e|e|e|e|e
 ·rw[GU e] at h⊢;rw[IL e] at a;exact h.frame a
 ·rw[BY e] at h⊢;rw[Gd e] at a;exact h.frame a ho
 ·rw[GV e] at h⊢;rw[Bw e] at a;obtain⟨V,h⟩:=h;exact⟨V,h.frame c.p1 a ho⟩
 ·rw[BZ e] at h⊢;rw[Fb e] at a;rw[fN a];exact h
 ·rw[De e] at h⊢;rw[Fc e] at a;obtain⟨Q,f,h⟩:=h;exact⟨Q,f,h.frame a⟩
end
section
variable{K:FK}{S:Nat->Nat->Int}{A B:AR}
theorem FI.one(h:FI K S A)(c:K.Ok){j k:Nat}(hj:j<K.n)(a:k<K.n)(h1:10<=S j 0)(h2:10<=S k 0):j=k:=by
 rcases c.RS with e|e|e|e|e
 ·rw[GU e] at h;exact h.one hj a h1 h2
 ·rw[BY e] at h;exact h.tk.one hj a h1 h2
 ·rw[GV e] at h;obtain⟨V,h⟩:=h;exact h.tk.one hj a h1 h2
 ·rw[BZ e] at h;obtain⟨Q,o,h⟩:=h;exact h.one hj a h1 h2
 ·rw[De e] at h;obtain⟨Q,f,h⟩:=h;exact h.one hj a h1 h2
end
section
variable{K:FK}{S:Nat->Nat->Int}{A B:AR}
theorem FI.alone(_:FI K S A)(c:K.Ok)(d:A.Fit)(h:K.b+K.size<=A.taken+1){j:Nat}(hj:j<K.n):ij K.b K.size A (p9 K S A j)/\∀i,(p9 K S A j).get i=A.get i:=by
 have f:=d.1;have g:=d.2.1;have a:∀x:Int,(K.b:Int)<=x->x<(K.b:Int)+(K.size:Int)->ij K.b K.size A (if ai K.n S j 10 then A.load x else A)/\∀i,(if ai K.n S j 10 then A.load x else A).get i=A.get i:=by
  intro x h1 h2;have:=c.b1
  split
  ·exact⟨(eE d (a6.2 aO) h1 h2).1,λi=>aw⟩
  ·exact⟨ij.refl _ _ _,λ_=>rfl⟩
 unfold p9;rcases c.RS with e|e|e|e|e
 ·rw[ad e];exact⟨ij.refl _ _ _,λ_=>rfl⟩
 ·rw[ac aO,ac aO,ac aO];unfold yj;exact a _ aO (by rw[Gd e];omega)
 ·rw[ac aO,ac aO,ac aO];unfold yj;exact a _ aO (by rw[Bw e];omega)
 ·rw[Fb e] at h;rw[ac aO,ad e];unfold Gt;rw[cH,rh (by have:=c.b1;omega) c.Ry hj];exact a _ aO (by rw[Fb e];omega)
 ·rw[ac aO,ac aO,ad e];unfold G4;exact a _ aO (by rw[Fc e];omega)
end
structure CW(n E:Nat)(nd:Nat->Nat)(pc a lq:Nat->Int)(g c:Nat->Int):Prop where
 loc:∀t,t<n->pc t=0/\lq t=0\/pc t=1/\1<=lq t/\lq t<=9\/(2<=pc t/\pc t<=4\/10<=pc t/\pc t<=15)/\lq t=10\/pc t=16/\11<=lq t
 one:∀t u,t<n->u<n->lq t=10->lq u=10->nd t=nd u->t=u
 p2:∀t,t<n->pc t=2->(0<c (nd t)->g (nd t)=10)/\(c (nd t)<=0->g (nd t)=0)
 p3:∀t,t<n->pc t=3->1<=g (nd t)/\g (nd t)<=9
 p4:∀t,t<n->pc t=4\/10<=pc t/\pc t<=14->g (nd t)=10
 pa:∀t,t<n->10<=pc t/\pc t<=13->1<=c (nd t)
 pb:∀t,t<n->pc t=12\/pc t=13->a t=c (nd t)/\a t<=1000
 pd:∀t,t<n->pc t=13->∃u,u<n/\nd u=nd t/\pc u=1
 pe:∀t,t<n->pc t=15->11<=g (nd t)/\c (nd t)<=0
 no:∀v,v<E->(∀t,t<n->nd t=v->lq t≠10)->(0<c v->g v=10/\∃t,t<n/\nd t=v/\pc t=1)/\(c v<=0->g v=0)
section
variable{n E:Nat}{nd:Nat->Nat}{pc a lq g c:Nat->Int}{j:Nat}
variable{x z:Int}
theorem CW.locals(h:CW n E nd pc a lq g c)(hj:j<n)(b:pc j=0/\x=1/\1<=z/\z<=9\/pc j=10/\x=11/\z=10\/pc j=1/\(x=1/\1<=z/\z<=9\/x=2/\z=10)\/pc j=16/\(x=16/\11<=z\/x=0/\z=0))(hn:∀t,t<n->nd t<E)(h1:z=10->∀u,u<n->u≠j->nd u=nd j->lq u≠10):CW n E nd (up pc j x) (up a j (a j)) (up lq j z) (up g (nd j) (g (nd j))) (up c (nd j) (c (nd j))):=by
 have e:=hn j hj;obtain⟨a1,a2,a3,f,i,k,l,m,o,d⟩:=h;have k1:=a1 j hj;rcases b with b|b|b|b<;>constructor<;>(try simp only[up])<;>grind (splits:=24)
variable{u w:Int}
theorem CW.holds(h:CW n E nd pc a lq g c)(hj:j<n)(hn:∀t,t<n->nd t<E){y:Int}(b:pc j=2/\(0<c (nd j)/\x=10/\u=g (nd j)\/c (nd j)<=0/\x=3/\u=1)/\w=c (nd j)\/
 pc j=3/\(x=3/\1<=u/\u<=9\/x=4/\u=10)/\w=c (nd j)\/pc j=4/\x=10/\u=10/\w=1\/pc j=11/\(x=12/\y=w/\y<=1000\/x=14)/\u=10/\w=c (nd j)\/
 pc j=12/\(x=13/\y=a j/\(∃t,t<n/\nd t=nd j/\pc t=1)\/x=14)/\u=10/\w=c (nd j)\/pc j=14/\x=15/\11<=u/\w=0\/pc j=15/\x=15/\11<=u/\w=c (nd j)):
 CW n E nd (up pc j x) (up a j y) (up lq j (lq j)) (up g (nd j) u) (up c (nd j) w):=by
 have i:=hn j hj;obtain⟨a1,a2,a3,k,l,m,o,p,r,f⟩:=h;have k1:=a1 j hj;have k2:∀t,t<n->nd t=nd j->t≠j->lq t≠10:=λt ht e d q=>d (a2 t j ht hj q aO e);rcases b with b|b|b|b|b|b|b<;>constructor<;>(try simp only[up])<;>grind (splits:=24)
theorem CW.Ul(h:CW n E nd pc a lq g c)(hj:j<n)(hn:∀t,t<n->nd t<E)(s:11<=z)(d:pc j=13/\u=10/\1<=w\/pc j=15/\u=0/\w=c (nd j)):
 CW n E nd (up pc j 16) (up a j (a j)) (up lq j z) (up g (nd j) u) (up c (nd j) w):=by
 have k:=hn j hj;obtain⟨a1,a2,a3,l,m,o,p,i,r,f⟩:=h;have k1:=a1 j hj;have k2:∀t,t<n->nd t=nd j->t≠j->lq t≠10:=λt ht e b q=>b (a2 t j ht hj q aO e);have k3:=i j hj;rcases d with d|d<;>constructor<;>(try simp only[up])<;>grind (splits:=24)
end
structure NV where
 pc:Nat->Int
 s1:Nat->Int
 s2:Nat->Int
 s3:Nat->Int
 nx:Nat->Int
 sp:Nat->Int
 la:Nat->Int
 tl:Int
 kl:Int
 kf:Int
structure NG where
 pr:Nat->Option Nat
 R:Nat->Nat
 g:Nat->Nat
 hd:Option Nat
 ha:Option Nat
 ls:Nat
 oc:Int
 o1:Int
 o2:Int
 o3:Int
 su:Nat
 tp:Nat
 k:Nat
 f:Nat
 fp:Nat
structure NJ(n:Nat)(v:NV)(G:NG):Prop where
 h1:∀p,p<n->v.pc p=6\/10<=v.pc p->G.hd=some p
 h2:∀p,p<n->v.pc p=4\/v.pc p=5->v.sp p≠0->G.hd=some p/\v.pc p=5
 h3:∀p,G.hd=some p->p<n/\G.pr p=none/\G.g p=0/\G.oc=v.pc p/\(G.oc=6\/10<=G.oc\/G.oc=5/\v.sp p≠0)
 h4:G.hd=none->v.tl=0/\G.oc=0
 h5:∀p,G.hd=some p->G.o1=v.s1 p/\G.o2=v.s2 p/\G.o3=v.s3 p
 a1:∀j p,j<n->G.pr j=some p->p<n/\(v.pc j=4\/v.pc j=5)/\(v.pc p=4\/v.pc p=5\/G.hd=some p)/\G.R p<G.R j/\(G.g j=1↔G.g p=1)
 a2:∀j k p,j<n->k<n->G.pr j=some p->G.pr k=some p->j=k
 a3:∀j,j<n->v.pc j=4\/v.pc j=5->G.pr j=none->G.hd=some j\/G.ha=some j\/(G.oc=27\/G.oc=28)/\G.o2=j+1
 l4:∀j p,j<n->G.pr j=some p->v.pc j=4->v.s1 j=p+1/\v.nx p=0/\(G.hd=some p->G.oc<17)
 l5:∀j p,j<n->G.pr j=some p->v.pc j=5->v.nx p=j+1\/G.hd=some p/\20<=G.oc\/(G.oc=20\/G.oc=21)/\G.o1=j+1
 nx:∀p,p<n->v.pc p=4\/v.pc p=5\/G.hd=some p/\G.oc<20->v.nx p≠0->∃y,y<n/\v.nx p=y+1/\G.pr y=some p/\v.pc y=5
 p2:∀p,p<n->v.pc p=2\/v.pc p=3->v.nx p=0
 p3:∀p,p<n->v.pc p=3->v.sp p=0
 t1:v.tl=0->G.hd=none/\∀p,p<n->v.pc p≠4/\v.pc p≠5
 t2:v.tl≠0->G.tp<n/\v.tl=G.tp+1/\(v.pc G.tp=4\/v.pc G.tp=5\/G.hd=some G.tp)/\(G.hd=some G.tp->G.oc<16)/\G.g G.tp≠1/\v.nx G.tp=0
 t3:v.tl≠0->∀j,j<n->G.pr j≠some G.tp
 ha:∀h,G.ha=some h->h<n/\v.pc h=5/\G.g h=1/\G.pr h=none
 ls:G.ha≠none->G.ls<n/\v.pc G.ls=5/\G.g G.ls=1/\v.nx G.ls=0
 lt:G.ha≠none->∀j,j<n->G.pr j≠some G.ls
 la:∀h,G.ha=some h->v.la h=G.ls+1\/20<=G.oc/\G.oc<=22
 g1:∀p,p<n->G.g p=1->v.pc p=5/\G.ha≠none
 g2:∀p,p<n->G.g p=2->v.pc p=5/\(G.oc=18\/G.oc=19)/\(∀x,G.hd=some x->G.R x<G.R p)/\G.R p<=G.R G.k/\(G.pr p=G.hd\/∃q,G.pr p=some q/\G.g q=2)
 g3:∀p q,p<n->G.pr p=some q->G.g q=2->G.g p=2\/q=G.k
 g4:∀p,p<n->G.g p=2->p=G.k\/∃y,y<n/\G.pr y=some p/\G.g y=2
 gr:∀p,G.g p<=2
 k1:∀x,G.hd=some x->G.oc=5\/G.oc=10\/G.oc=11->(G.ha=none->v.sp x= -1)/\(G.ha≠none->0<v.sp x)/\∀h,G.ha=some h->v.sp x=h+1
 k2:12<=G.oc/\G.oc<=26->(G.ha=none->G.o2= -1)/\(G.ha≠none->0<G.o2)/\∀h,G.ha=some h->G.o2=h+1
 k3:G.oc=6\/G.oc=13\/27<=G.oc->G.ha=none
 k4:G.oc=14\/G.oc=15\/20<=G.oc/\G.oc<=22\/G.oc=25\/G.oc=26->G.ha≠none
 w1:16<=G.oc/\G.oc<=26\/29<=G.oc->G.su<n/\G.pr G.su=G.hd/\(G.oc≠16->v.pc G.su=5)/\(G.oc=16\/(if 20<=G.oc/\G.oc<=22 then v.kf else G.o1)=G.su+1)
 w2:20<=G.oc/\G.oc<=22->v.kl=G.ls+1
 w3:G.oc=20\/G.oc=21->G.f<n/\G.o1=G.f+1/\G.pr G.f=some G.fp/\v.pc G.f=5/\G.g G.f=1/\(G.oc=20->∀h,G.ha=some h->v.la h=G.fp+1)/\(G.oc=21->G.o3=G.fp+1)
 w4:G.oc=15\/G.oc=26->G.o3=G.ls+1
 w5:G.oc=18\/G.oc=19->G.k<n/\v.kl=G.k+1/\G.g G.k=2/\G.g G.su=2
 w6:G.oc=19->G.f<n/\v.kf=G.f+1/\G.pr G.f=some G.k/\v.pc G.f=5/\G.g G.f=0
 w7:G.oc=27\/G.oc=28->G.f<n/\G.o2=G.f+1/\G.pr G.f=none/\v.pc G.f=5/\G.g G.f=0
 w8:G.oc=27\/G.oc=28->∀j,j<n->G.pr j≠G.hd
section
variable{n:Nat}{v:NV}{G:NG}{j:Nat}
theorem NJ.stuck(h:NJ n v G)(hs:∀p,p<n->v.pc p=0\/v.pc p=5/\v.sp p=0\/v.pc p=16/\v.nx p=0):∀p,p<n->v.pc p=0:=by
 intro p d;cases hd:G.hd with
 |none=>
  have:=(h.t1 (h.h4 hd).1).2 p d;rcases hs p d with e|e|e
  ·exact e
  ·omega
  ·have:=h.h1 p d aO;rw[hd] at this;cases this
 |some x=>
  have a:=h.h3 x hd;have b:=hs x a.1;have c:G.oc=16/\v.nx x=0:=by omega
  have y:=h.w1 aO;rw[hd] at y;have:=hs _ y.1;have e:=h.a1 _ x y.1 y.2.1;have:=h.l5 _ x y.1 y.2.1 aO;omega
variable{x:Nat}
theorem NJ.behind(h:NJ n v G)(hd:G.hd=some x)(d:G.oc<27):∀r p,p<n->G.R p<=r->v.pc p=4\/v.pc p=5\/p=x->G.g p≠1->p=x\/∃y,y<n/\G.pr y=some x:=by
 intro r;induction r with
 |zero=>
  intro p b i f g;cases e:G.pr p with
  |none=>have:=h.a3 p b;have:=h.ha p;grind
  |some q=>have:=h.a1 p q b e;omega
 |succ r k=>
  intro p b i f g;cases e:G.pr p with
  |none=>have:=h.a3 p b;have:=h.ha p;grind
  |some q=>
   have a:=h.a1 p q b e;by_cases c:q=x
   ·subst c;exact .inr ⟨p,b,e⟩
   ·have:=k q a.1 aO (by have:=a.2.2.1;rw[hd] at this;grind) (by grind);exact .inr (this.resolve_left c)
theorem NJ.empty(h:NJ n v G)(hd:G.hd=some x)(b:G.oc<27)(ha:G.ha=none)(hn:∀y,y<n->G.pr y≠some x):∀p,p<n->p≠x->v.pc p≠4/\v.pc p≠5:=by
 intro p d g;have f:G.g p≠1:=λe=>(h.g1 p d e).2 ha;have a:v.pc p=4\/v.pc p=5->False:=λc=>by
  rcases h.behind hd b (G.R p) p d (ba _) aO f with e|⟨y,i,k⟩
  ·exact g e
  ·exact hn y i k
 exact⟨λe=>a (.inl e),λe=>a (.inr e)⟩
end
structure FJ(K:FK)(S:Nat->Nat->Int)(A:AR):Prop where
 fi:FI K S A
 x1:K.k=1->TX K.b K.p K.n S A
 x2:K.k=2->KX K.n S (A.get ((K.b:Int)+1)) (A.get K.b)
 x3:K.k=3->∃V,PI K.b K.p K.n S A V/\KX K.n S V (A.get K.b)
def cQ(K:FK)(S:Nat->Nat->Int)(A:AR):Nat->Prop:=if K.k=1 then mn K.b S A else if K.k=2 then j4 K.b S A else if K.k=3 then mO K.b K.p S A else if K.k=4 then gw K.b S A else pQ K.b S A
def fW(K:FK)(S:Nat->Nat->Int)(A:AR):Nat:=if K.k=1 then tW K.b K.p K.n S A else sm (λi=>mG (S i 0)) K.n
def FK.cc(K:FK)(N:Nat):Nat:=if K.k=1 then 2*(N*K.p)+3 else 14
theorem yM{f g h:Nat->Nat}{p:Nat}:∀{n:Nat},(∀i,i<n->f i<=g i+h i*p)->sm f n<=sm g n+sm h n*p
 | 0,_=>by simp[sm]
 |n+1,q=>by have:=yM (n:=n) λi hi=>q i aO;have:=q n aO;unfold sm;rw[sN];omega
theorem u4(S:Nat->Nat->Int)(n:Nat):a7 S n<=n:=by
 have:=lj (f:=λi=>if S i 0=0 then 0 else 1) (c:=1) (n:=n) λi _=>by split<;>omega
 unfold a7;omega
theorem mj(hj:j<n)(h:∀i,i<n->i≠j->S i 0=0):a7 S n<=1:=by
 unfold a7;rw[i8 hj λi hi c=>ad (h i hi c)];split<;>omega
section
variable{K:FK}{S T:Nat->Nat->Int}{A B:AR}{j:Nat}
theorem F5(e:K.k=1):cQ K S A=mn K.b S A/\fW K S A=tW K.b K.p K.n S A:=by unfold cQ fW;simp[e]
theorem F6(e:K.k=2):cQ K S A=j4 K.b S A/\fW K S A=sm (λi=>mG (S i 0)) K.n:=by unfold cQ fW;simp[e]
theorem F7(e:K.k=3):cQ K S A=mO K.b K.p S A/\fW K S A=sm (λi=>mG (S i 0)) K.n:=by unfold cQ fW;simp[e]
theorem F8(e:K.k=4):cQ K S A=gw K.b S A/\fW K S A=sm (λi=>mG (S i 0)) K.n:=by unfold cQ fW;simp[e]
theorem F9(e:K.k=5):cQ K S A=pQ K.b S A/\fW K S A=sm (λi=>mG (S i 0)) K.n:=by unfold cQ fW;simp[e]
theorem FJ.step(h:FJ K S A)(d:K.Ok)(n:A.Fit)(hl:A.ops<1000000000)(m:K.b+K.size<=A.taken+1)(hj:j<K.n):
 FJ K (bM K S A j) (bL K S A j)/\FX K.n (fW K S A) (fW K (bM K S A j) (bL K S A j)) (λi=>S i 0) (λi=>bM K S A j i 0) (cQ K S A) (cQ K (bM K S A j) (bL K S A j)) j:=by
 have g:=(h.fi.step d n hl m hj).1;have hi:=h.fi;rcases d.RS with e|e|e|e|e
 ·rw[IL e] at m;rw[GU e] at hi;have k:bM K S A j=it K.n K.b K.p S A j:=by unfold bM;rw[ad e]
  have l:bL K S A j=ir K.n K.b S A j:=by unfold bL;rw[ad e]
  rw[(F5 e).1,(F5 e).2,(F5 e).1,(F5 e).2];rw[k,l] at g⊢;obtain⟨a,b⟩:=hi.live (h.x1 e) n ⟨d.p1,d.Tr⟩ d.b1 m hj;exact⟨⟨g,λ_=>a,λc=>by omega,λc=>by omega⟩,b⟩
 ·rw[Gd e] at m;rw[BY e] at hi;have k:bM K S A j=ip K.n K.b S A j:=by unfold bM;simp[e]
  have l:bL K S A j=io K.n K.b S A j:=by unfold bL;simp[e]
  rw[(F6 e).1,(F6 e).2,(F6 e).1,(F6 e).2];rw[k,l] at g⊢;obtain⟨a,b⟩:=hi.live (h.x2 e) n hl d.b1 m hj;exact⟨⟨g,λc=>by omega,λ_=>a,λc=>by omega⟩,b⟩
 ·rw[Bw e] at m;have k:bM K S A j=ft K.n K.b K.p S A j:=by unfold bM;simp[e]
  have l:bL K S A j=gB K.n K.b K.p S A j:=by unfold bL;simp[e]
  rw[(F7 e).1,(F7 e).2,(F7 e).1,(F7 e).2];rw[k,l] at g⊢;obtain⟨V,hi,p⟩:=h.x3 e;obtain⟨a,b⟩:=hi.live p n hl d.b1 ⟨d.p1,d.Tr⟩ m hj;exact⟨⟨g,λc=>by omega,λc=>by omega,λ_=>a⟩,b⟩
 ·rw[Fb e] at m;rw[BZ e] at hi;have k:bM K S A j=gy K.n K.b S A j:=by unfold bM;simp[e]
  have l:bL K S A j=iV K.n K.b S A j:=by unfold bL;simp[e]
  rw[(F8 e).1,(F8 e).2,(F8 e).1,(F8 e).2];rw[k,l] at g⊢;obtain⟨Q,o,hi⟩:=hi;exact⟨⟨g,λc=>by omega,λc=>by omega,λc=>by omega⟩,hi.live n hl d.b1 d.Ry m hj⟩
 ·rw[De e] at hi;have k:bM K S A j=iX K.n K.b S A j:=by unfold bM;simp[e]
  have l:bL K S A j=jH K.n K.b S A j:=by unfold bL;simp[e]
  rw[(F9 e).1,(F9 e).2,(F9 e).1,(F9 e).2];rw[k,l] at g⊢;obtain⟨Q,f,hi⟩:=hi;exact⟨⟨g,λc=>by omega,λc=>by omega,λc=>by omega⟩,hi.live hj⟩
theorem FJ.stuck(h:FJ K S A)(a:K.Ok)(b:A.Fit)(c:K.b+K.size<=A.taken+1)(hs:∀j,j<K.n->S j 0=0\/S j 0=10\/cQ K S A j):(∃j,j<K.n/\S j 0=10)\/∀j,j<K.n->S j 0=0:=by
 have hi:=h.fi;have h1:=b.1;have h2:=b.2.1;rcases a.RS with e|e|e|e|e
 ·rw[(F5 e).1] at hs;rw[GU e] at hi;exact hi.stuck (h.x1 e) hs
 ·rw[(F6 e).1] at hs;rw[BY e] at hi;exact hi.stuck (h.x2 e) hs
 ·rw[(F7 e).1] at hs;rw[Bw e] at c;obtain⟨V,hi,d⟩:=h.x3 e;exact hi.stuck d ⟨a.p1,a.Tr⟩ aO b hs
 ·rw[(F8 e).1] at hs;rw[BZ e] at hi;obtain⟨Q,o,hi⟩:=hi;exact hi.stuck hs
 ·rw[(F9 e).1] at hs;rw[De e] at hi;rw[Fc e] at c;obtain⟨Q,f,hi⟩:=hi;exact hi.stuck aO a.Ry hs
theorem FJ.hand(h:FJ K S A){pc:Int}(u:FI K T A)(ho:∀i,i≠j->∀t,T i t=S i t)(r:T j 0=pc)(s:S j 0=0/\pc=1/\T j 1=(if K.k=1 then 1 else S j 1)\/S j 0=10/\pc=11/\T j 1=S j 1)(hK:K.Ok)(hj:j<K.n):
 FJ K T A/\(pc=1->∀N,a7 S K.n<N->fW K T A<=fW K S A+K.cc N)/\(pc=11->fW K T A<fW K S A)/\∀i,cQ K S A i->cQ K T A i:=by
 have y:K.k≠1->∀{V N:Int},TK K.n S V N->KX K.n S V N->KX K.n T V N:=λk1 V N _ m t a c=>by
  obtain⟨i,hi,d,E⟩:=m t a c;by_cases e:i=j
  ·subst e;refine⟨i,hi,?_⟩;rcases s with⟨q,_⟩|⟨_,q,Q⟩
   ·omega
   ·exact⟨by omega,by omega⟩
  ·exact⟨i,hi,by rw[ho i e];exact d,by rw[ho i e];exact E⟩
 have bB:∀i,cQ K S A i->cQ K T A i:=λi hi=>by
  have:i≠j:=λe=>by
   subst e;have:S i 0=0\/S i 0=10:=by rcases s with q|q<;>omega
   unfold cQ at hi
   split at hi
   ·have:=hi.1;omega
   ·split at hi
    ·have:=hi.1;omega
    ·split at hi
     ·have:=hi.1;omega
     ·split at hi
      ·unfold gw at hi;omega
      ·have:=hi.1;omega
  unfold cQ mn j4 mO gw pQ at hi⊢
  split at hi
  ·rename_i e;rw[ad e];simpa only[ho i this] using hi
  ·rename_i F;rw[ac F];split at hi
   ·rename_i e;rw[ad e];simpa only[ho i this] using hi
   ·rename_i G;rw[ac G];split at hi
    ·rename_i e;rw[ad e];simpa only[ho i this] using hi
    ·rename_i H;rw[ac H];split at hi
     ·rename_i e;rw[ad e];simpa only[ho i this] using hi
     ·rename_i e;rw[ac e];simpa only[ho i this] using hi
 refine⟨⟨u,λe=>?_,λe=>?_,λe=>?_⟩,?_,?_,bB⟩
 ·have m:=h.x1 e;refine⟨λhne=>?_,λi hi v=>?_⟩
  ·obtain⟨i,hi,d⟩:=m.own hne;by_cases c:i=j
   ·subst c;exact⟨i,hi,by rcases s with q|q<;>omega⟩
   ·exact⟨i,hi,by rw[ho i c];exact d⟩
  ·by_cases c:i=j
   ·subst c;rcases s with⟨I,J,z⟩|⟨I,J,z⟩
    ·rw[ad e] at z;have:=hK.p1;omega
    ·omega
   ·rw[ho i c] at v;rw[ho i c,ho i c,ho i c];exact m.wt i hi v
 ·have hi:=h.fi;rw[BY e] at hi;exact y aO hi.tk (h.x2 e)
 ·obtain⟨V,hi,m⟩:=h.x3 e;have o:=u;rw[GV e] at o;obtain⟨W,hW⟩:=o;obtain rfl:=hi.uniq hW hK.p1 λ_ _ _=>rfl;exact⟨V,hW,y aO hi.tk m⟩
 ·intro l N L;have q:S j 0=0:=by omega
  unfold fW FK.cc;by_cases e:K.k=1
  ·simp only[ad e];have n1:=cd (f:=λi=>if S i 0=0 then 0 else 1) (g:=λi=>if T i 0=0 then 0 else 1) hj λi _ c=>by rw[ho i c]
   rw[ad q,ac aO] at n1;have hn:a7 T K.n=a7 S K.n+1:=by unfold a7;omega
   have a:=cd (f:=λi=>lQ (a7 T K.n*K.p) (S i 0)) (g:=λi=>lQ (a7 T K.n*K.p) (T i 0)) hj λi _ c=>by rw[ho i c]
   have b:=cd (f:=pY S) (g:=pY T) hj λi _ c=>by unfold pY;rw[ho i c,ho i c]
   have d:=yM (f:=λi=>lQ (a7 T K.n*K.p) (S i 0)) (g:=λi=>lQ (a7 S K.n*K.p) (S i 0)) (h:=λi=>if S i 0=0 then 0 else 1) (p:=K.p) (n:=K.n) λi _=>by
    rw[hn,sN];unfold lQ;split<;>(try split)<;>(try split)<;>omega
   have c1:pY T j=0:=by unfold pY;rw[ac aO]
   have c2:lQ (a7 T K.n*K.p) 1=a7 T K.n*K.p+3:=rfl;have c3:lQ (a7 T K.n*K.p) 0=0:=rfl;have M:a7 T K.n*K.p<=N*K.p:=xq _ aO;have O:a7 S K.n*K.p<=N*K.p:=xq _ aO;have P:sm (λi=>if S i 0=0 then 0 else 1) K.n*K.p=a7 S K.n*K.p:=rfl;rw[r,l,q] at a;unfold tW
   split<;>omega
  ·simp only[ac e];have a:=cd (f:=λi=>mG (S i 0)) (g:=λi=>mG (T i 0)) hj λi _ c=>by rw[ho i c]
   rw[r,l] at a;have c2:mG 1=14:=by decide
   omega
 ·intro l;have q:S j 0=10:=by omega
  unfold fW;by_cases e:K.k=1
  ·simp only[ad e];have hn:a7 T K.n=a7 S K.n:=Ac λi _=>by
    by_cases c:i=j
    ·subst c;omega
    ·rw[ho i c]
   have a:=cd (f:=λi=>lQ (a7 S K.n*K.p) (S i 0)) (g:=λi=>lQ (a7 S K.n*K.p) (T i 0)) hj λi _ c=>by rw[ho i c]
   have b:=cd (f:=pY S) (g:=pY T) hj λi _ c=>by unfold pY;rw[ho i c,ho i c]
   have c1:pY T j=0:=by unfold pY;rw[ac aO]
   have c3:lQ (a7 S K.n*K.p) 11=a7 S K.n*K.p+1:=rfl;have D:lQ (a7 S K.n*K.p) 10=a7 S K.n*K.p+2:=rfl;rw[r,l,q] at a;unfold tW;rw[hn]
   split<;>omega
  ·simp only[ac e];have a:=cd (f:=λi=>mG (S i 0)) (g:=λi=>mG (T i 0)) hj λi _ c=>by rw[ho i c]
   rw[r,l,q] at a;have c3:mG 11=4:=by decide
   have D:mG 10=5:=by decide
   omega
theorem FJ.ask(h:FJ K S A)(e:K.Ok)(hj:j<K.n)(d:S j 0=0):FJ K (gM K S j) A/\(∀N,a7 S K.n<N->fW K (gM K S j) A<=fW K S A+K.cc N)/\∀i,cQ K S A i->cQ K (gM K S j) A i:=by
 have f:=(h.fi.ask e hj d).1;obtain⟨a,b,_,c⟩:=h.hand (j:=j) (pc:=1) f (λi hi t=>by
  unfold gM wX;split
  ·split
   ·simp[ag,hi]
   ·rfl
  ·rw[dQ hj d];simp[ag,hi]) (h.fi.ask e hj d).2.1 (.inl ⟨d,rfl,by
  unfold gM wX nB;rw[cl hj,cH,d];split
  ·simp[ag]
  ·rw[dQ hj d];simp[ag]⟩) e hj
 exact⟨a,b rfl,c⟩
theorem FJ.leave(h:FJ K S A)(e:K.Ok)(hj:j<K.n)(d:S j 0=10):FJ K (dp K S j) A/\fW K (dp K S j) A<fW K S A/\∀i,cQ K S A i->cQ K (dp K S j) A i:=by
 have f:=(h.fi.leave e hj d).1;obtain⟨a,_,b,c⟩:=h.hand (j:=j) (pc:=11) f (λi hi t=>by unfold dp;rw[dQ hj d];simp[ag,hi]) (h.fi.leave e hj d).2.1 (.inr ⟨d,rfl,by unfold dp;rw[dQ hj d];simp[ag]⟩) e hj;exact⟨a,b rfl,c⟩
theorem FJ.frame(h:FJ K S A)(d:K.Ok)(m:K.b<=4096)(a:∀i:Int,(K.b:Int)<=i->i<(K.b:Int)+(K.size:Int)->B.get i=A.get i)(ho:A.ops<=B.ops):FJ K S B/\fW K S B=fW K S A/\∀j,j<K.n->(cQ K S B j↔cQ K S A j):=by
 have k:=h.fi.frame d a ho;have hi:=h.fi;have hn:=d.Ry;rcases d.RS with e|e|e|e|e
 ·rw[IL e] at a;rw[(F5 e).1,(F5 e).2,(F5 e).1,(F5 e).2];have g:=a K.b aO aO;unfold tW mn;rw[g];exact⟨⟨k,λ_=>⟨λl=>(h.x1 e).own (by rw[<-g];exact l),(h.x1 e).wt⟩,λb=>by omega,λb=>by omega⟩,rfl,λ_ _=>qp⟩
 ·rw[Gd e] at a;rw[(F6 e).1,(F6 e).2,(F6 e).1,(F6 e).2];have g:=a K.b aO aO;have g1:=a (K.b+1) aO aO;unfold j4;rw[g1];exact⟨⟨k,λb=>by omega,λ_=>by rw[g,g1];exact h.x2 e,λb=>by omega⟩,rfl,λ_ _=>qp⟩
 ·rw[Bw e] at a;rw[(F7 e).1,(F7 e).2,(F7 e).1,(F7 e).2];obtain⟨V,hi,n⟩:=h.x3 e;have g:=a K.b aO aO;refine⟨⟨k,λb=>by omega,λb=>by omega,λ_=>⟨V,hi.frame d.p1 a ho,by rw[g];exact n⟩⟩,rfl,λj hj=>?_⟩;unfold mO;by_cases c:S j 0=2
  ·have r:=hi.tk.TJ j hj aO;have v:=hi.tk.v0;obtain⟨a1,a2,a3⟩:=pu m ⟨d.p1,d.Tr⟩ (show 0<=S j 1 by omega);rw[a1,a _ aO aO]
  ·simp[c]
 ·rw[Fb e] at a;rw[(F8 e).1,(F8 e).2,(F8 e).1,(F8 e).2];refine⟨⟨k,λb=>by omega,λb=>by omega,λb=>by omega⟩,rfl,λj hj=>?_⟩;unfold gw;rw[a _ aO aO,a _ aO aO]
 ·rw[Fc e] at a;rw[De e] at hi;rw[(F9 e).1,(F9 e).2,(F9 e).1,(F9 e).2];obtain⟨Q,f,hi⟩:=hi;refine⟨⟨k,λb=>by omega,λb=>by omega,λb=>by omega⟩,rfl,λj hj=>?_⟩;unfold pQ ji;by_cases c:S j 0=3
  ·have r:=(hi.ahead hj aO).1;rw[ce aO,a _ aO aO]
  ·simp[c]
theorem FJ.zero(h:FI K S A)(g:∀j,j<K.n->S j 0=0)(d:K.k<=3->A.get K.b=0):FJ K S A:=by
 refine⟨h,λe=>⟨λf=>am (d aO) f,λj hj i=>by have:=g j hj;omega⟩,λe=>?_,λe=>?_⟩
 ·rw[BY e] at h;have:=h.tk.v0;have:=h.tk.vn;have:=d aO
  exactλt a b=>by omega
 ·have c:=h;rw[GV e] at c;obtain⟨V,c⟩:=c;have:=c.tk.v0;have:=c.tk.vn;have:=d aO;exact⟨V,c,λt a b=>by omega⟩
theorem Ke(x:Int)(h:0<=x):mG x<=14:=by unfold mG;split<;>omega
theorem FJ.top(h:FJ K S A)(d:∀j,j<K.n->0<=S j 0):fW K S A<=a7 S K.n*(if K.k=1 then a7 S K.n*K.p+K.p+3 else 14):=by
 unfold fW;by_cases e:K.k=1
 ·simp only[ad e];have a:sm (λi=>lQ (a7 S K.n*K.p) (S i 0)) K.n<=a7 S K.n*(a7 S K.n*K.p+3):=mg λi _=>by unfold lQ;split<;>(try split)<;>(try split)<;>omega
  have b:sm (pY S) K.n<=a7 S K.n*K.p:=mg λi hi=>by
   unfold pY;split
   ·rename_i c;have:=((h.x1 e).wt i hi (.inr c)).2.2 c;rw[ac aO];omega
   ·omega
  rw[Nat.add_right_comm,Nat.mul_add];unfold tW;split<;>omega
 ·simp only[ac e];exact mg λi hi=>by
   have:=Ke _ (d i hi)
   split
   ·rename_i c;rw[c];simp[mG]
   ·omega
end
section
variable{n:Nat}{v:NV}{G:NG}{j:Nat}
theorem gT{p q:Prop}(b:p)(h:p->q:=by(try simp only[up]);intro b;clear h;grind (splits:=14)):q:=h b
theorem NJ.go(h:NJ n v G){v':NV}{a:NG}
 (h1:(∀p,p<n->v'.pc p=6\/10<=v'.pc p->a.hd=some p):=by exact gT h.h1)
 (h2:(∀p,p<n->v'.pc p=4\/v'.pc p=5->v'.sp p≠0->a.hd=some p/\v'.pc p=5):=by exact gT h.h2)
 (h3:(∀p,a.hd=some p->p<n/\a.pr p=none/\a.g p=0/\a.oc=v'.pc p/\(a.oc=6\/10<=a.oc\/a.oc=5/\v'.sp p≠0)):=by exact gT h.h3)
 (h4:(a.hd=none->v'.tl=0/\a.oc=0):=by exact gT h.h4)
 (h5:(∀p,a.hd=some p->a.o1=v'.s1 p/\a.o2=v'.s2 p/\a.o3=v'.s3 p):=by exact gT h.h5)
 (a1:(∀j p,j<n->a.pr j=some p->p<n/\(v'.pc j=4\/v'.pc j=5)/\(v'.pc p=4\/v'.pc p=5\/a.hd=some p)/\a.R p<a.R j/\(a.g j=1↔a.g p=1)):=by exact gT h.a1)
 (a2:(∀j k p,j<n->k<n->a.pr j=some p->a.pr k=some p->j=k):=by exact gT h.a2)
 (a3:(∀j,j<n->v'.pc j=4\/v'.pc j=5->a.pr j=none->a.hd=some j\/a.ha=some j\/(a.oc=27\/a.oc=28)/\a.o2=j+1):=by exact gT h.a3)
 (l4:(∀j p,j<n->a.pr j=some p->v'.pc j=4->v'.s1 j=p+1/\v'.nx p=0/\(a.hd=some p->a.oc<17)):=by exact gT h.l4)
 (l5:(∀j p,j<n->a.pr j=some p->v'.pc j=5->v'.nx p=j+1\/a.hd=some p/\20<=a.oc\/(a.oc=20\/a.oc=21)/\a.o1=j+1):=by exact gT h.l5)
 (nx:(∀p,p<n->v'.pc p=4\/v'.pc p=5\/a.hd=some p/\a.oc<20->v'.nx p≠0->∃y,y<n/\v'.nx p=y+1/\a.pr y=some p/\v'.pc y=5):=by exact gT h.nx)
 (p2:(∀p,p<n->v'.pc p=2\/v'.pc p=3->v'.nx p=0):=by exact gT h.p2)
 (p3:(∀p,p<n->v'.pc p=3->v'.sp p=0):=by exact gT h.p3)
 (t1:(v'.tl=0->a.hd=none/\∀p,p<n->v'.pc p≠4/\v'.pc p≠5):=by exact gT h.t1)
 (t2:(v'.tl≠0->a.tp<n/\v'.tl=a.tp+1/\(v'.pc a.tp=4\/v'.pc a.tp=5\/a.hd=some a.tp)/\(a.hd=some a.tp->a.oc<16)/\a.g a.tp≠1/\v'.nx a.tp=0):=by exact gT h.t2)
 (t3:(v'.tl≠0->∀j,j<n->a.pr j≠some a.tp):=by exact gT h.t3)
 (ha:(∀h,a.ha=some h->h<n/\v'.pc h=5/\a.g h=1/\a.pr h=none):=by exact gT h.ha)
 (ls:(a.ha≠none->a.ls<n/\v'.pc a.ls=5/\a.g a.ls=1/\v'.nx a.ls=0):=by exact gT h.ls)
 (lt:(a.ha≠none->∀j,j<n->a.pr j≠some a.ls):=by exact gT h.lt)
 (la:(∀h,a.ha=some h->v'.la h=a.ls+1\/20<=a.oc/\a.oc<=22):=by exact gT h.la)
 (g1:(∀p,p<n->a.g p=1->v'.pc p=5/\a.ha≠none):=by exact gT h.g1)
 (g2:(∀p,p<n->a.g p=2->v'.pc p=5/\(a.oc=18\/a.oc=19)/\(∀x,a.hd=some x->a.R x<a.R p)/\a.R p<=a.R a.k/\(a.pr p=a.hd\/∃q,a.pr p=some q/\a.g q=2)):=by exact gT h.g2)
 (g3:(∀p q,p<n->a.pr p=some q->a.g q=2->a.g p=2\/q=a.k):=by exact gT h.g3)
 (g4:(∀p,p<n->a.g p=2->p=a.k\/∃y,y<n/\a.pr y=some p/\a.g y=2):=by exact gT h.g4)
 (gr:(∀p,a.g p<=2):=by exact gT h.gr)
 (k1:(∀x,a.hd=some x->a.oc=5\/a.oc=10\/a.oc=11->(a.ha=none->v'.sp x= -1)/\(a.ha≠none->0<v'.sp x)/\∀h,a.ha=some h->v'.sp x=h+1):=by exact gT h.k1)
 (k2:(12<=a.oc/\a.oc<=26->(a.ha=none->a.o2= -1)/\(a.ha≠none->0<a.o2)/\∀h,a.ha=some h->a.o2=h+1):=by exact gT h.k2)
 (k3:(a.oc=6\/a.oc=13\/27<=a.oc->a.ha=none):=by exact gT h.k3)
 (k4:(a.oc=14\/a.oc=15\/20<=a.oc/\a.oc<=22\/a.oc=25\/a.oc=26->a.ha≠none):=by exact gT h.k4)
 (w1:(16<=a.oc/\a.oc<=26\/29<=a.oc->a.su<n/\a.pr a.su=a.hd/\(a.oc≠16->v'.pc a.su=5)/\(a.oc=16\/(if 20<=a.oc/\a.oc<=22 then v'.kf else a.o1)=a.su+1)):=by exact gT h.w1)
 (w2:(20<=a.oc/\a.oc<=22->v'.kl=a.ls+1):=by exact gT h.w2)
 (w3:(a.oc=20\/a.oc=21->a.f<n/\a.o1=a.f+1/\a.pr a.f=some a.fp/\v'.pc a.f=5/\a.g a.f=1/\(a.oc=20->∀h,a.ha=some h->v'.la h=a.fp+1)/\(a.oc=21->a.o3=a.fp+1)):=by exact gT h.w3)
 (w4:(a.oc=15\/a.oc=26->a.o3=a.ls+1):=by exact gT h.w4)
 (w5:(a.oc=18\/a.oc=19->a.k<n/\v'.kl=a.k+1/\a.g a.k=2/\a.g a.su=2):=by exact gT h.w5)
 (w6:(a.oc=19->a.f<n/\v'.kf=a.f+1/\a.pr a.f=some a.k/\v'.pc a.f=5/\a.g a.f=0):=by exact gT h.w6)
 (w7:(a.oc=27\/a.oc=28->a.f<n/\a.o2=a.f+1/\a.pr a.f=none/\v'.pc a.f=5/\a.g a.f=0):=by exact gT h.w7)
 (w8:(a.oc=27\/a.oc=28->∀j,j<n->a.pr j≠a.hd):=by exact gT h.w8):NJ n v' a:=
 ⟨h1,h2,h3,h4,h5,a1,a2,a3,l4,l5,nx,p2,p3,t1,t2,t3,ha,ls,lt,la,g1,g2,g3,g4,gr,k1,k2,k3,k4,w1,w2,w3,w4,w5,w6,w7,w8⟩
theorem NJ.cut(h:NJ n v G)(hj:j<n)(o:v.pc j=19):(G.su<n/\G.pr G.su=some j/\v.pc G.su=5)/\G.R j<G.R G.su/\(∀q,q<n->G.pr q=some j->q=G.su)/\(G.k<n/\G.g G.k=2/\G.g G.su=2)/\(G.f<n/\G.pr G.f=some G.k/\v.pc G.f=5/\G.g G.f=0)/\(∀q,q<n->G.pr q=some G.k->q=G.f)/\G.R j<G.R G.k/\G.R G.k<G.R G.f:=by
 have hd:=h.h1 j hj aO;have m:=h.h3 j hd;have a:=h.w1 aO;have g:=h.a1 G.su j a.1 (a.2.1.trans hd);have l:∀q,q<n->G.pr q=some j->q=G.su:=λq d e=>h.a2 q G.su j d a.1 e (a.2.1.trans hd);have b:=h.w5 aO;have c:=h.w6 aO;have k2:=h.k2 aO;have k:∀q,q<n->G.pr q=some G.k->q=G.f:=λq d e=>h.a2 q G.f G.k d c.1 e c.2.2.1;have gk:=h.g2 G.k b.1 b.2.2.1;have i:=gk.2.2.1 j hd;have f:=h.a1 G.f G.k c.1 c.2.2.1;exact⟨⟨a.1,a.2.1.trans hd,a.2.2.1 aO⟩,g.2.2.2.1,l,⟨b.1,b.2.2⟩,⟨c.1,c.2.2.1,c.2.2.2⟩,k,i,f.2.2.2.1⟩
theorem NJ.ask(h:NJ n v G)(hj:j<n)(a:v.pc j=0):NJ n {v with pc:=up v.pc j 1} G:=by
 exact h.go
theorem NJ.s1(h:NJ n v G)(hj:j<n)(a:v.pc j=1):NJ n {v with pc:=up v.pc j 2,nx:=up v.nx j 0} G:=by
 exact h.go (l5:=gT (ae h.l5 (ae h.h1 (ae h.h3 h.a1))))
theorem NJ.s2(h:NJ n v G)(hj:j<n)(a:v.pc j=2):NJ n {v with pc:=up v.pc j 3,sp:=up v.sp j 0} G:=by
 have hn:G.hd≠some j:=λe=>by have:=h.h3 j e;omega
 exact h.go
theorem NJ.VI(h:NJ n v G)(hj:j<n)(i:v.pc j=3)(ht:v.tl=0):NJ n {v with pc:=up v.pc j 6,s1:=up v.s1 j 0,tl:=j+1} {G with hd:=some j,g:=up G.g j 0,oc:=6,o1:=0,o2:=v.s2 j,o3:=v.s3 j,tp:=j}:=by
 have l:G.pr j=none:=by
  cases e:G.pr j with
  |none=>rfl
  |some p=>have:=h.a1 j p hj e;omega
 have hn:=(h.t1 ht).1;have d:=(h.t1 ht).2;have k:∀q,q<n->G.pr q≠some j:=λq c e=>by have:=h.a1 q j c e;grind
 have f:G.ha=none:=by
  cases e:G.ha with
  |none=>rfl
  |some p=>have a:=h.ha p e;exact am a.2.1 (d p a.1).2
 exact h.go (nx:=gT (ae h.nx (ae h.a1 (ae h.a2 (ae h.a3 (ae h.l4 (ae h.l5 (ae h.t2 (ae h.t3 (ae h.p2 h.w1)))))))))) (t2:=gT (ae h.t2 (ae h.a1 (ae h.a2 (ae h.a3 (ae h.l4 (ae h.l5 (ae h.nx (ae h.t3 (ae h.p2 h.w1))))))))))
theorem NJ.VJ(h:NJ n v G)(hj:j<n)(c:v.pc j=3)(ht:v.tl≠0):NJ n {v with pc:=up v.pc j 4,s1:=up v.s1 j v.tl,tl:=j+1} {G with pr:=up G.pr j (some G.tp),R:=up G.R j (G.R G.tp+1),g:=up G.g j 0,tp:=j}:=by
 have k:G.pr j=none:=by
  cases e:G.pr j with
  |none=>rfl
  |some p=>have:=h.a1 j p hj e;omega
 have t2:=h.t2 ht;have t3:=h.t3 ht;have hn:G.hd≠some j:=λe=>by have:=h.h3 j e;omega
 have i:∀q,q<n->G.pr q≠some j:=λq d e=>by have:=h.a1 q j d e;grind
 have l:=h.p3 j hj c;have nj:=h.p2 j hj (.inr c);have f:G.oc=18\/G.oc=19->G.k≠j:=λo e=>by have a:=h.w5 o;have:=h.g2 G.k a.1 a.2.2.1;rw[e] at this;omega
 exact h.go (lt:=gT (ae h.lt (ae h.w4 (ae h.ls h.k4)))) (g3:=gT (ae h.g3 (ae h.g1 (ae h.g2 (ae h.g4 (ae h.gr h.a1)))))) (w1:=gT (ae h.w1 (ae h.h1 (ae h.h2 (ae h.h3 (ae h.h4 (ae h.h5 (ae h.a1 (ae h.a2 (ae h.a3 (ae h.g1 (ae h.g2 (ae h.w7 (ae h.w8 (ae h.k2 h.k3))))))))))))))) (w5:=gT (ae h.w5 (ae h.g1 (ae h.g2 (ae h.g3 (ae h.g4 (ae h.gr h.a1)))))))
theorem NJ.s4(h:NJ n v G)(hj:j<n)(a:v.pc j=4){p:Nat}(ht:G.pr j=some p):NJ n {v with pc:=up v.pc j 5,nx:=up v.nx p (j+1)} G:=by
 have d:=λq c e=>h.a2 q j p c hj e ht;have ap:=h.a1 j p hj ht;have lp:=h.l4 j p hj ht a;exact h.go (p2:=gT (ae h.p2 (ae h.h1 (ae h.h3 h.a1)))) (t2:=gT (ae h.t2 (ae h.t1 (ae h.t3 (ae h.a1 h.h3))))) (ls:=gT (ae h.ls (ae h.g1 (ae h.g2 (ae h.g3 (ae h.g4 (ae h.gr h.a1)))))))
theorem NJ.s5(h:NJ n v G)(hj:j<n)(a:v.pc j=5)(hs:v.sp j≠0)(x:Int):NJ n {v with pc:=up v.pc j 10,s1:=up v.s1 j x} {G with oc:=10,o1:=x}:=by
 have hd:=(h.h2 j hj (.inr a) hs).1;have c:=h.h3 j hd;have d:=h.h5 j hd;exact h.go
theorem NJ.VK(h:NJ n v G)(hj:j<n)(a:v.pc j=5)(c:v.sp j=0)(x:Int):NJ n {v with pc:=up v.pc j 5,s1:=up v.s1 j x} G:=by
 have hn:G.hd≠some j:=λe=>by have:=h.h3 j e;omega
 exact h.go
theorem NJ.s6(h:NJ n v G)(hj:j<n)(d:v.pc j=6):NJ n {v with pc:=up v.pc j 10,sp:=up v.sp j (-1)} {G with oc:=10}:=by
 have hd:=h.h1 j hj aO;have a:=h.h3 j hd;have c:=h.h5 j hd;exact h.go (k1:=gT (ae h.k1 (ae h.k2 (ae h.k3 (ae h.k4 (ae h.ha h.w1))))))
theorem NJ.leave(h:NJ n v G)(hj:j<n)(d:v.pc j=10):NJ n {v with pc:=up v.pc j 11} {G with oc:=11}:=by
 have hd:=h.h1 j hj aO;have a:=h.h3 j hd;have c:=h.h5 j hd;exact h.go
theorem NJ.Vu(h:NJ n v G)(hj:j<n)(d:v.pc j=11):NJ n {v with pc:=up v.pc j 12,s2:=up v.s2 j (v.sp j)} {G with oc:=12,o2:=v.sp j}:=by
 have hd:=h.h1 j hj aO;have a:=h.h3 j hd;have c:=h.h5 j hd;exact h.go (k2:=gT (ae h.k2 h.k1))
variable{y:Nat}
theorem NJ.UK(h:NJ n v G)(hj:j<n)(d:v.pc j=12\/v.pc j=16)(e:y<n)(f:v.nx j=y+1)(g:G.pr y=some j)(i:v.pc y=5):NJ n {v with pc:=up v.pc j 17,s1:=up v.s1 j (v.nx j)} {G with oc:=17,o1:=v.nx j,su:=y}:=by
 have hd:=h.h1 j hj aO;have a:=h.h3 j hd;have c:=h.h5 j hd;exact h.go
theorem NJ.U4(h:NJ n v G)(hj:j<n)(d:v.pc j=12)(ht:0<v.s2 j)(x:Int):NJ n {v with pc:=up v.pc j 14,s1:=up v.s1 j x} {G with oc:=14,o1:=x}:=by
 have hd:=h.h1 j hj aO;have a:=h.h3 j hd;have c:=h.h5 j hd;exact h.go (k4:=gT (ae h.k4 (ae h.k1 (ae h.k2 (ae h.k3 (ae h.ha h.w1))))))
theorem NJ.U5(h:NJ n v G)(hj:j<n)(d:v.pc j=12)(ht:¬0<v.s2 j)(x:Int):NJ n {v with pc:=up v.pc j 13,s1:=up v.s1 j x} {G with oc:=13,o1:=x}:=by
 have hd:=h.h1 j hj aO;have a:=h.h3 j hd;have c:=h.h5 j hd;exact h.go (k3:=gT (ae h.k3 (ae h.k1 (ae h.k2 (ae h.k4 (ae h.ha h.w1))))))
theorem NJ.U6(h:NJ n v G)(hj:j<n)(d:v.pc j=13)(ht:v.tl=j+1)(e:∀p,p<n->p≠j->v.pc p≠4/\v.pc p≠5):NJ n {v with pc:=up v.pc j 0,tl:=0} {G with hd:=none,oc:=0}:=by
 have hd:=h.h1 j hj aO;have a:=h.h3 j hd;have c:=h.h5 j hd;have tp:G.tp=j:=by have:=h.t2 aO;omega
 have f:=h.t3 aO;exact h.go
theorem NJ.UL(h:NJ n v G)(hj:j<n)(d:v.pc j=13\/v.pc j=15)(e:y<n)(f:G.pr y=some j)(ht:v.tl≠j+1):NJ n {v with pc:=up v.pc j 16} {G with oc:=16,su:=y}:=by
 have hd:=h.h1 j hj aO;have a:=h.h3 j hd;have c:=h.h5 j hd;exact h.go
variable{a:Nat}
theorem NJ.Vv(h:NJ n v G)(hj:j<n)(e:v.pc j=14)(ha:G.ha=some a):NJ n {v with pc:=up v.pc j 15,s3:=up v.s3 j (v.la a)} {G with oc:=15,o3:=v.la a}:=by
 have hd:=h.h1 j hj aO;have c:=h.h3 j hd;have d:=h.h5 j hd;exact h.go (w4:=gT (ae h.w4 (ae h.ha (ae h.ls (ae h.lt (ae h.la (ae h.g1 h.a1)))))))
theorem NJ.U7(h:NJ n v G)(hj:j<n)(e:v.pc j=15)(ht:v.tl=j+1)(ha:G.ha=some a):NJ n {v with pc:=up v.pc j 28,tl:=v.s3 j} {G with oc:=28,ha:=none,g:=λi=>if G.g i=1 then 0 else G.g i,tp:=G.ls,f:=a}:=by
 have hd:=h.h1 j hj aO;have c:=h.h3 j hd;have d:=h.h5 j hd;have tp:G.tp=j:=by have:=h.t2 aO;omega
 have k:=h.t3 aO;exact h.go (a3:=gT (ae h.a3 (ae h.k1 (ae h.k2 (ae h.k3 (ae h.k4 (ae h.ha h.w1))))))) (t1:=gT (ae h.t1 (ae h.w4 (ae h.ls h.k4)))) (t2:=gT (ae h.t2 (ae h.w4 (ae h.ls h.k4)))) (t3:=gT (ae h.t3 (ae h.ha (ae h.ls (ae h.lt (ae h.la (ae h.g1 h.a1))))))) (w7:=gT (ae h.w7 (ae h.k1 (ae h.k2 (ae h.k3 (ae h.k4 (ae h.ha h.w1)))))))
theorem NJ.Vw(h:NJ n v G)(hj:j<n)(d:v.pc j=16)(x:Int):NJ n {v with pc:=up v.pc j 16,s1:=up v.s1 j x} {G with oc:=16,o1:=x}:=by
 have hd:=h.h1 j hj aO;have a:=h.h3 j hd;have c:=h.h5 j hd;exact h.go
theorem NJ.U9(h:NJ n v G)(hj:j<n)(d:v.pc j=17)(ht:0<v.s2 j)(x:Int):NJ n {v with pc:=up v.pc j 25,s3:=up v.s3 j x} {G with oc:=25,o3:=x}:=by
 have hd:=h.h1 j hj aO;have a:=h.h3 j hd;have c:=h.h5 j hd;exact h.go (k4:=gT (ae h.k4 (ae h.k1 (ae h.k2 (ae h.k3 (ae h.ha h.w1))))))
theorem NJ.Va(h:NJ n v G)(hj:j<n)(d:v.pc j=17)(ht:¬0<v.s2 j)(x:Int):NJ n {v with pc:=up v.pc j 29,s3:=up v.s3 j x} {G with oc:=29,o3:=x}:=by
 have hd:=h.h1 j hj aO;have a:=h.h3 j hd;have c:=h.h5 j hd;exact h.go (k3:=gT (ae h.k3 (ae h.k1 (ae h.k2 (ae h.k4 (ae h.ha h.w1))))))
theorem NJ.Vb(h:NJ n v G)(hj:j<n)(d:v.pc j=17)(x y z:Int):NJ n {v with pc:=up v.pc j 23,s3:=up v.s3 j x,kl:=y,kf:=z} {G with oc:=23,o3:=x}:=by
 have hd:=h.h1 j hj aO;have a:=h.h3 j hd;have c:=h.h5 j hd;exact h.go
theorem NJ.Vc(h:NJ n v G)(hj:j<n)(d:v.pc j=17)(x z:Int):NJ n {v with pc:=up v.pc j 18,s3:=up v.s3 j x,kl:=v.s1 j,kf:=z} {G with oc:=18,o3:=x,g:=up G.g G.su 2,k:=G.su}:=by
 have hd:=h.h1 j hj aO;have a:=h.h3 j hd;have c:=h.h5 j hd;exact h.go (h3:=gT (ae h.h3 (ae h.k1 (ae h.k2 (ae h.k3 (ae h.k4 (ae h.ha h.w1))))))) (a1:=gT (ae h.a1 (ae h.w1 (ae h.w5 (ae h.w6 (ae h.a2 h.g2)))))) (ha:=gT (ae h.ha (ae h.k1 (ae h.k2 (ae h.k3 (ae h.k4 h.w1)))))) (ls:=gT (ae h.ls (ae h.w1 (ae h.w5 (ae h.w6 (ae h.a1 (ae h.a2 h.g2))))))) (g2:=gT (ae h.g2 (ae h.w1 (ae h.w5 (ae h.w6 (ae h.a1 h.a2)))))) (g3:=gT (ae h.g3 (ae h.g1 (ae h.g2 (ae h.g4 (ae h.gr h.a1)))))) (g4:=gT (ae h.g4 (ae h.g1 (ae h.g2 (ae h.g3 (ae h.gr h.a1)))))) (w5:=gT (ae h.w5 (ae h.k1 (ae h.k2 (ae h.k3 (ae h.k4 (ae h.ha h.w1)))))))
theorem NJ.Vd(h:NJ n v G)(hj:j<n)(d:v.pc j=18)(e:y<n)(f:G.pr y=some G.k)(i:v.pc y=5)(z:Int):NJ n {v with pc:=up v.pc j 18,kl:=y+1,kf:=z} {G with oc:=18,g:=up G.g y 2,k:=y}:=by
 have hd:=h.h1 j hj aO;have a:=h.h3 j hd;have c:=h.h5 j hd;exact h.go (a1:=gT (ae h.a1 (ae h.w1 (ae h.w5 (ae h.w6 (ae h.a2 h.g2)))))) (ls:=gT (ae h.ls (ae h.w1 (ae h.w5 (ae h.w6 (ae h.a1 (ae h.a2 h.g2))))))) (g2:=gT (ae h.g2 (ae h.w1 (ae h.w5 (ae h.w6 (ae h.a1 h.a2)))))) (g3:=gT (ae h.g3 (ae h.a1 (ae h.a2 (ae h.l4 (ae h.l5 h.h3))))))
theorem NJ.Ve(h:NJ n v G)(hj:j<n)(d:v.pc j=18)(e:y<n)(g:G.pr y=some G.k)(i:v.pc y=5):NJ n {v with pc:=up v.pc j 19,kf:=y+1} {G with oc:=19,f:=y}:=by
 have hd:=h.h1 j hj aO;have a:=h.h3 j hd;have c:=h.h5 j hd;exact h.go (w6:=gT (ae h.w6 (ae h.a1 (ae h.a2 (ae h.g1 (ae h.g2 (ae h.g3 (ae h.g4 (ae h.gr (ae h.t2 (ae h.t3 h.w5)))))))))))
theorem NJ.Vf(h:NJ n v G)(hj:j<n)(d:v.pc j=18)(ht:0<v.s2 j)(x y:Int):NJ n {v with pc:=up v.pc j 25,kl:=x,kf:=y} {G with oc:=25,g:=λi=>if G.g i=2 then 0 else G.g i}:=by
 have hd:=h.h1 j hj aO;have a:=h.h3 j hd;have c:=h.h5 j hd;exact h.go (k4:=gT (ae h.k4 (ae h.k1 (ae h.k2 (ae h.k3 (ae h.ha h.w1))))))
theorem NJ.Vg(h:NJ n v G)(hj:j<n)(d:v.pc j=18)(ht:¬0<v.s2 j)(x y:Int):NJ n {v with pc:=up v.pc j 29,kl:=x,kf:=y} {G with oc:=29,g:=λi=>if G.g i=2 then 0 else G.g i}:=by
 have hd:=h.h1 j hj aO;have a:=h.h3 j hd;have c:=h.h5 j hd;exact h.go (k3:=gT (ae h.k3 (ae h.k1 (ae h.k2 (ae h.k4 (ae h.ha h.w1))))))
theorem NJ.Vh(h:NJ n v G)(hj:j<n)(w:v.pc j=19)(ht:0<v.s2 j):NJ n {v with pc:=up v.pc j 20,nx:=up v.nx G.k 0} {G with oc:=20,g:=λi=>if G.g i=2 then 1 else G.g i,pr:=up (up G.pr G.su (some G.ls)) G.f (some j),R:=λi=>if G.g i=2 then G.R i+(G.R G.ls+1) else G.R i,ls:=G.k,f:=G.su,fp:=G.ls,su:=G.f}:=by
 have hd:=h.h1 j hj aO;have D:=h.h3 j hd;have E:=h.h5 j hd;exact h.go (h3:=gT (ae h.h3 (ae h.w1 (ae h.w5 (ae h.w6 (ae h.a1 (ae h.a2 h.g2))))))) (a1:=by
  (try simp only[up])
  obtain⟨a,z,m,b,c,r,y,gf⟩:=h.cut hj w;have d:G.ha≠none:=λe=>by have:=(h.k2 aO).1 e;omega
  have l:=h.ls d;have lt:=h.lt d;intro q p k e;by_cases s:q=G.f
  ·rw[ad s] at e;cases e;subst s;clear h;grind
  ·rw[ac s] at e;by_cases u:q=G.su
   ·rw[ad u] at e;cases e;subst u;clear h;grind
   ·rw[ac u] at e;have o:=h.a1 q p k e;have n1:=m q k;have A:=r q k;have g2:=h.g2 q k;have g3:=h.g3 q p k e;have J:p≠j:=λx=>u (n1 (x ▸ e));have K:p≠G.k:=λx=>s (A (x ▸ e));rw[hd] at g2;clear h m r lt;grind) (a2:=by
  (try simp only[up])
  obtain⟨a,z,m,b,c,r,y,gf⟩:=h.cut hj w;have d:G.ha≠none:=λe=>by have:=(h.k2 aO).1 e;omega
  have l:=h.ls d;have lt:=h.lt d;intro s u p h1 h2 B C;have i0:=h.a2 s u p h1 h2;have F:=m s h1;have H:=m u h2;have l1:=lt s h1;have I:=lt u h2;clear h m r lt;grind) (l4:=by
  (try simp only[up])
  obtain⟨a,z,m,b,c,r,y,gf⟩:=h.cut hj w;have d:G.ha≠none:=λe=>by have:=(h.k2 aO).1 e;omega
  have l:=h.ls d;have lt:=h.lt d;intro q p k e L;have o:=h.l4 q p k;have i:=m q k;clear h m r lt;grind) (l5:=gT (ae h.l5 (ae h.w1 (ae h.w5 (ae h.w6 (ae h.a1 (ae h.a2 h.g2))))))) (nx:=gT (ae h.nx (ae h.w1 (ae h.w5 (ae h.w6 (ae h.a1 (ae h.a2 h.g2))))))) (t2:=gT (ae h.t2 (ae h.a1 (ae h.a2 (ae h.g1 (ae h.g2 (ae h.g3 (ae h.g4 (ae h.gr (ae h.t3 (ae h.w5 h.w6))))))))))) (t3:=by
  (try simp only[up])
  obtain⟨a,z,m,b,c,r,y,gf⟩:=h.cut hj w;have d:G.ha≠none:=λe=>by have:=(h.k2 aO).1 e;omega
  have l:=h.ls d;have lt:=h.lt d;intro e q k;have o:=h.t3 e q k;have t:=h.t2 e;have t4:=t.2.2.2.1;clear h m r lt;grind) (ha:=gT (ae h.ha (ae h.w1 (ae h.w5 (ae h.w6 (ae h.a1 (ae h.a2 h.g2))))))) (ls:=gT (ae h.ls (ae h.w1 (ae h.w5 (ae h.w6 (ae h.a1 (ae h.a2 h.g2))))))) (lt:=gT (ae h.lt (ae h.w1 (ae h.w5 (ae h.w6 (ae h.a1 (ae h.a2 h.g2))))))) (g1:=by
  (try simp only[up])
  obtain⟨a,z,m,b,c,r,y,gf⟩:=h.cut hj w;have d:G.ha≠none:=λe=>by have:=(h.k2 aO).1 e;omega
  have l:=h.ls d;have lt:=h.lt d;intro q k e;have o:=h.g1 q k;have i:=h.g2 q k;clear h m r lt;grind) (k4:=gT (ae h.k4 (ae h.k1 (ae h.k2 (ae h.k3 (ae h.ha h.w1)))))) (w1:=gT (ae h.w1 (ae h.w5 (ae h.w6 (ae h.a1 (ae h.a2 h.g2)))))) (w2:=gT (ae h.w2 (ae h.w1 (ae h.w5 (ae h.w6 (ae h.a1 (ae h.a2 h.g2))))))) (w3:=gT (ae h.w3 (ae h.a1 (ae h.a2 (ae h.ha (ae h.ls (ae h.lt (ae h.la (ae h.w1 (ae h.w5 (ae h.w6 (ae h.g2 h.t3))))))))))))
theorem NJ.Vi(h:NJ n v G)(hj:j<n)(r:v.pc j=19)(ht:¬0<v.s2 j):NJ n {v with pc:=up v.pc j 22,nx:=up v.nx G.k 0,s2:=up v.s2 j (v.s1 j)} {G with oc:=22,g:=λi=>if G.g i=2 then 1 else G.g i,pr:=up (up G.pr G.su none) G.f (some j),o2:=G.o1,ha:=some G.su,ls:=G.k,su:=G.f}:=by
 have hd:=h.h1 j hj aO;have w:=h.h3 j hd;have y:=h.h5 j hd;exact h.go (h3:=gT (ae h.h3 (ae h.w1 (ae h.w5 (ae h.w6 (ae h.a1 (ae h.a2 h.g2))))))) (a1:=by
  (try simp only[up])
  obtain⟨a,u,f,b,c,k,s,gf⟩:=h.cut hj r;intro q p d e;by_cases l:q=G.f
  ·rw[ad l] at e;cases e;subst l;clear h;grind
  ·rw[ac l] at e;by_cases m:q=G.su
   ·rw[ad m] at e;cases e
   ·rw[ac m] at e;have o:=h.a1 q p d e;have n1:=f q d;have t:=k q d;have g2:=h.g2 q d;have g3:=h.g3 q p d e;have z:p≠j:=λx=>m (n1 (x ▸ e));have A:p≠G.k:=λx=>l (t (x ▸ e));rw[hd] at g2;clear h f k;grind) (a2:=gT (ae h.a2 (ae h.k1 (ae h.k2 (ae h.k3 (ae h.k4 (ae h.ha h.w1))))))) (a3:=gT (ae h.a3 (ae h.k1 (ae h.k2 (ae h.k3 (ae h.k4 (ae h.ha h.w1))))))) (l4:=by
  (try simp only[up])
  obtain⟨a,u,f,b,c,k,s,gf⟩:=h.cut hj r;intro q p d e B;have o:=h.l4 q p d;have i:=f q d;clear h f k;grind) (l5:=gT (ae h.l5 (ae h.w1 (ae h.w5 (ae h.w6 (ae h.a1 (ae h.a2 h.g2))))))) (nx:=gT (ae h.nx (ae h.w1 (ae h.w5 (ae h.w6 (ae h.a1 (ae h.a2 h.g2))))))) (t2:=gT (ae h.t2 (ae h.a1 (ae h.a2 (ae h.g1 (ae h.g2 (ae h.g3 (ae h.g4 (ae h.gr (ae h.t3 (ae h.w5 h.w6))))))))))) (t3:=gT (ae h.t3 (ae h.t1 (ae h.t2 (ae h.a1 h.h3))))) (ha:=gT (ae h.ha (ae h.w1 (ae h.w5 (ae h.w6 (ae h.a1 (ae h.a2 h.g2))))))) (ls:=gT (ae h.ls (ae h.w1 (ae h.w5 (ae h.w6 (ae h.a1 (ae h.a2 h.g2))))))) (lt:=gT (ae h.lt (ae h.w1 (ae h.w5 (ae h.w6 (ae h.a1 (ae h.a2 h.g2))))))) (g1:=gT (ae h.g1 (ae h.g2 (ae h.g3 (ae h.g4 (ae h.gr h.a1)))))) (k2:=gT (ae h.k2 (ae h.k1 (ae h.k3 (ae h.k4 (ae h.ha h.w1)))))) (w1:=gT (ae h.w1 (ae h.w5 (ae h.w6 (ae h.a1 (ae h.a2 h.g2)))))) (w2:=gT (ae h.w2 (ae h.w1 (ae h.w5 (ae h.w6 (ae h.a1 (ae h.a2 h.g2)))))))
theorem NJ.Vx(h:NJ n v G)(hj:j<n)(e:v.pc j=20)(ha:G.ha=some a):NJ n {v with pc:=up v.pc j 21,s3:=up v.s3 j (v.la a)} {G with oc:=21,o3:=v.la a}:=by
 have hd:=h.h1 j hj aO;have c:=h.h3 j hd;have d:=h.h5 j hd;exact h.go
theorem NJ.VC(h:NJ n v G)(hj:j<n)(e:v.pc j=25)(ha:G.ha=some a):NJ n {v with pc:=up v.pc j 26,s3:=up v.s3 j (v.la a)} {G with oc:=26,o3:=v.la a}:=by
 have hd:=h.h1 j hj aO;have c:=h.h3 j hd;have d:=h.h5 j hd;exact h.go (w4:=gT (ae h.w4 (ae h.ha (ae h.ls (ae h.lt (ae h.la (ae h.g1 h.a1)))))))
theorem NJ.Vy(h:NJ n v G)(hj:j<n)(i:v.pc j=21):NJ n {v with pc:=up v.pc j 22,nx:=up v.nx G.fp (v.s1 j)} {G with oc:=22}:=by
 have hd:=h.h1 j hj aO;have f:=h.h3 j hd;have g:=h.h5 j hd;have a:=h.w1 aO;have d:=h.a1 G.su j a.1 (a.2.1.trans hd);have l:∀q,q<n->G.pr q=some j->q=G.su:=λq c e=>h.a2 q G.su j c a.1 e (a.2.1.trans hd);have b:=h.w3 aO;have k:∀q,q<n->G.pr q=some G.fp->q=G.f:=λq c e=>h.a2 q G.f G.fp c b.1 e b.2.2.1;exact h.go (l5:=gT (ae h.l5 (ae h.w1 (ae h.w2 (ae h.w3 (ae h.w4 (ae h.w7 (ae h.w8 (ae h.a1 h.a2))))))))) (p2:=gT (ae h.p2 (ae h.w1 (ae h.w2 (ae h.w3 (ae h.w4 (ae h.w7 (ae h.w8 (ae h.a1 h.a2))))))))) (t2:=gT (ae h.t2 (ae h.w1 (ae h.w2 (ae h.w3 (ae h.w4 (ae h.w7 (ae h.w8 (ae h.a1 h.a2))))))))) (ls:=gT (ae h.ls (ae h.a1 (ae h.a2 (ae h.ha (ae h.lt (ae h.la (ae h.w1 (ae h.w3 (ae h.w5 (ae h.w6 (ae h.g2 h.t3))))))))))))
theorem NJ.Vz(h:NJ n v G)(hj:j<n)(e:v.pc j=22)(ha:G.ha=some a):NJ n {v with pc:=up v.pc j 23,la:=up v.la a v.kl,s1:=up v.s1 j v.kf} {G with oc:=23,o1:=v.kf}:=by
 have hd:=h.h1 j hj aO;have c:=h.h3 j hd;have d:=h.h5 j hd;exact h.go (la:=gT (ae h.la (ae h.w1 (ae h.w2 (ae h.w3 (ae h.w4 (ae h.w7 (ae h.w8 (ae h.a1 h.a2)))))))))
theorem NJ.VA(h:NJ n v G)(hj:j<n)(d:v.pc j=23):NJ n {v with pc:=up v.pc j 24} {G with oc:=24}:=by
 have hd:=h.h1 j hj aO;have a:=h.h3 j hd;have c:=h.h5 j hd;exact h.go
theorem NJ.VD(h:NJ n v G)(hj:j<n)(p:v.pc j=26)(ha:G.ha=some a):NJ n {v with pc:=up v.pc j 27,nx:=up v.nx G.ls (v.s1 j)} {G with oc:=27,pr:=up G.pr G.su (some G.ls),ha:=none,g:=λi=>if G.g i=1 then 0 else G.g i,R:=λi=>if G.g i=1 then G.R i else G.R i+(G.R G.ls+1),f:=a}:=by
 have hd:=h.h1 j hj aO;have m:=h.h3 j hd;have o:=h.h5 j hd;have a:=h.w1 aO;have k:=h.a1 G.su j a.1 (a.2.1.trans hd);have r:∀q,q<n->G.pr q=some j->q=G.su:=λq c e=>h.a2 q G.su j c a.1 e (a.2.1.trans hd);have d:G.ha≠none:=by rw[ha];exact nofun
 have l:=h.ls d;have lt:=h.lt d;exact h.go (a3:=gT (ae h.a3 (ae h.k1 (ae h.k2 (ae h.k3 (ae h.k4 (ae h.ha h.w1))))))) (t3:=gT (ae h.t3 (ae h.t1 (ae h.t2 (ae h.a1 h.h3))))) (w7:=gT (ae h.w7 (ae h.k1 (ae h.k2 (ae h.k3 (ae h.k4 (ae h.ha h.w1)))))))
theorem NJ.VE(h:NJ n v G)(hj:j<n)(d:v.pc j=27):NJ n {v with pc:=up v.pc j 28} {G with oc:=28}:=by
 have hd:=h.h1 j hj aO;have a:=h.h3 j hd;have c:=h.h5 j hd;exact h.go
theorem NJ.VG(h:NJ n v G)(hj:j<n)(d:v.pc j=29):NJ n {v with pc:=up v.pc j 30} {G with oc:=30}:=by
 have hd:=h.h1 j hj aO;have a:=h.h3 j hd;have c:=h.h5 j hd;exact h.go
theorem NJ.VB(h:NJ n v G)(hj:j<n)(l:v.pc j=24):NJ n {v with pc:=up v.pc j 0,sp:=up v.sp G.su (v.s2 j)} {G with hd:=some G.su,oc:=5,o1:=v.s1 G.su,o2:=v.s2 G.su,o3:=v.s3 G.su,pr:=up G.pr G.su none}:=by
 have hd:=h.h1 j hj aO;have i:=h.h3 j hd;have k:=h.h5 j hd;have a:=h.w1 aO;have g:=h.a1 G.su j a.1 (a.2.1.trans hd);have f:∀q,q<n->G.pr q=some j->q=G.su:=λq c e=>h.a2 q G.su j c a.1 e (a.2.1.trans hd);have gs:G.g G.su=0:=by have:=h.gr G.su;have:=h.g2 G.su a.1;omega
 have k2:=h.k2 aO;have r:v.s2 j≠0:=by
  by_cases e:G.ha=none
  ·have:=k2.1 e;omega
  ·have:=k2.2.1 e;omega
 exact h.go (a1:=by
  (try simp only[up])
  intro q p c e;by_cases d:q=G.su
  ·rw[ad d] at e;cases e
  ·rw[ac d] at e;have o:=h.a1 q p c e;have n1:=f q c;have m:p≠j:=λx=>d (n1 (x ▸ e));clear h f;grind)
theorem NJ.VF(h:NJ n v G)(hj:j<n)(e:v.pc j=28):NJ n {v with pc:=up v.pc j 0,sp:=up v.sp G.f (-1)} {G with hd:=some G.f,oc:=5,o1:=v.s1 G.f,o2:=v.s2 G.f,o3:=v.s3 G.f}:=by
 have hd:=h.h1 j hj aO;have c:=h.h3 j hd;have d:=h.h5 j hd;have a:=h.w7 aO;exact h.go (a1:=gT (ae h.a1 (ae h.w1 (ae h.w2 (ae h.w3 (ae h.w4 (ae h.w7 (ae h.w8 h.a2)))))))) (l5:=gT (ae h.l5 (ae h.w1 (ae h.w2 (ae h.w3 (ae h.w4 (ae h.w7 (ae h.w8 (ae h.a1 h.a2))))))))) (k1:=gT (ae h.k1 (ae h.k2 (ae h.k3 (ae h.k4 (ae h.ha h.w1))))))
theorem NJ.VH(h:NJ n v G)(hj:j<n)(i:v.pc j=30):NJ n {v with pc:=up v.pc j 0,sp:=up v.sp G.su (-1)} {G with hd:=some G.su,oc:=5,o1:=v.s1 G.su,o2:=v.s2 G.su,o3:=v.s3 G.su,pr:=up G.pr G.su none}:=by
 have hd:=h.h1 j hj aO;have f:=h.h3 j hd;have g:=h.h5 j hd;have a:=h.w1 aO;have d:=h.a1 G.su j a.1 (a.2.1.trans hd);have k:∀q,q<n->G.pr q=some j->q=G.su:=λq c e=>h.a2 q G.su j c a.1 e (a.2.1.trans hd);have gs:G.g G.su=0:=by have:=h.gr G.su;have:=h.g2 G.su a.1;omega
 exact h.go (k1:=gT (ae h.k1 (ae h.k2 (ae h.k3 (ae h.k4 (ae h.ha h.w1))))))
end
section
variable{K:FK}{S T:Nat->Nat->Int}{A B:AR}{j:Nat}
theorem FI.pc(h:FI K S A)(a:K.Ok)(hj:j<K.n):0<=S j 0:=by
 rcases a.RS with e|e|e|e|e
 ·rw[GU e] at h;have:=h.RC j hj;omega
 ·rw[BY e] at h;have:=h.tk.RC j hj;omega
 ·rw[GV e] at h;obtain⟨V,h⟩:=h;have:=h.tk.RC j hj;omega
 ·rw[BZ e] at h;obtain⟨Q,o,h⟩:=h;have:=h.RC j hj;omega
 ·rw[De e] at h;obtain⟨Q,f,h⟩:=h;have:=h.RC j hj;omega
theorem BB{n:Nat}(hj:j<n)(a:S j 0=10):ai n S j 10=true:=by unfold ai;rw[cl hj,cH,a];rfl
theorem FJ.behind(h:FJ K S A)(l:K.Ok)(_:A.Fit)(hl:A.ops<1000000000)(t:K.b<=4096)(hj:j<K.n)(s:S j 0=10)(g:qa K S A j=false):∃i,i<K.n/\1<=S i 0/\S i 0<=9:=by
 have hi:=h.fi;have h1:=λ{k:Nat} (v:k<K.n) (u:10<=S k 0)=>h.fi.one l hj v aO u;have ok:=BB hj s;have tk:∀{V N:Int},TK K.n S V N->KX K.n S V N->N<=A.ops->N≠wrap64 (S j 1+1)->∃i,i<K.n/\1<=S i 0/\S i 0<=9:=λ{V N} ht p ho m=>by
  have a:=ht.TJ j hj aO;have b:=ht.top j hj aO;have:=ht.v0;rw[ce aO] at m;obtain⟨i,hi,c,d⟩:=p (S j 1+1) aO aO;refine⟨i,hi,by omega,?_⟩;by_cases e:10<=S i 0
  ·have:=h1 hi e;subst this;omega
  ·omega
 unfold qa at g;rcases l.RS with e|e|e|e|e
 ·rw[ad e,ok] at g;cases g
 ·rw[ac aO,ac aO,ac aO] at g;rw[BY e] at hi;unfold yk at g;rw[ok,cH] at g;exact tk hi.tk (h.x2 e) hi.no (by simpa using g)
 ·rw[ac aO,ac aO,ac aO] at g;obtain⟨V,hi,p⟩:=h.x3 e;unfold yk at g;rw[ok,cH] at g;exact tk hi.tk p hi.no (by simpa using g)
 ·rw[ac aO,ad e] at g;rw[BZ e] at hi;obtain⟨Q,o,hi⟩:=hi;unfold Gu at g;rw[ok,cH,rh t l.Ry hj] at g;obtain⟨⟨r,rfl⟩, -⟩:=hi.Rv j (hi.RG j hj aO);obtain⟨q,w,rfl, -,a⟩:=hi.ql.second (by unfold cv;simpa[hj] using g);exact⟨q,hi.lt q aS,by omega,by omega⟩
 ·rw[ac aO,ac aO,ad e] at g;rw[De e] at hi;obtain⟨Q,f,hi⟩:=hi;unfold G5 at g;rw[ok,cH] at g;obtain⟨r,rfl⟩:=hi.first hj aO (hi.hold j hj aO);cases r with
  |nil=>exact am (show A.get (K.b:Int)=S j 1 from hi.chain.2) (by simpa using g)
  |cons q r=>
   have n:=hi.lt q aS;have a:=(hi.mem q n).1 aS;refine⟨q,n,by omega,?_⟩;by_cases e:10<=S q 0
   ·have:=h1 n e;subst this;exact am hi.nd aS
   ·omega
theorem FJ.Te(h:FJ K S A)(a:K.Ok)(hj:j<K.n)(hs:cQ K S A j)(c:10<S j 0):∃i,i<K.n/\1<=S i 0/\S i 0<=9/\¬cQ K S A i:=by
 have hi:=h.fi;rcases a.RS with e|e|e|e|e
 ·rw[(F5 e).1] at hs;unfold mn at hs;omega
 ·rw[(F6 e).1] at hs;unfold j4 at hs;omega
 ·rw[(F7 e).1] at hs;unfold mO at hs;omega
 ·rw[(F8 e).1] at hs⊢;rw[BZ e] at hi;obtain⟨Q,o,hi⟩:=hi;obtain⟨⟨r,rfl⟩,h2⟩:=hi.Rv j (hi.RG j hj aO);unfold gw at hs;cases r with
  |nil=>
   rcases h2 with h2|⟨_,h2⟩|⟨_,q,r,h2,_⟩
   ·omega
   ·exact am rfl h2
   ·simp at h2
  |cons y r=>
   have b:=hi.lt y aS;rcases hi.ql.1 with g|g
   ·exact⟨y,b,by omega,by omega,by unfold gw;omega⟩
   ·have:(cv K.b K.n A).nx j=A.get ((K.b:Int)+2*j+1):=ad hj;rw[this] at g;omega
 ·rw[(F9 e).1] at hs;unfold pQ at hs;omega
end
end Go.Proofs.YteijjhahgabalaaGreat
