/- Topologies: the program's own parts: tree, inner, levels, leaves. -/
import Derived.Maps.AppendAt
import Derived.Test.YteijjhahgabalaaGreatWF13
set_option maxRecDepth 100000
set_option maxHeartbeats 8000000
set_option linter.all false
namespace Go.Proofs.YteijjhahgabalaaGreat
open Go.RowKit
open Tryz
theorem Cs:(prog.info? 4).map (λi=>(i.zero,i.size,i.bytes))=some (some (.bool false),1,1):=by kernel_rfl
def iD(n:Nat)(f:Nat->Int):List Value:=(List.range n).map λi=>Value.int .i64 (f i)
def mZ(n:Nat)(f:Nat->Bool):List Value:=(List.range n).map λi=>Value.bool (f i)
variable{n i:Nat}
theorem ew(f:Nat->Int)(h:i<n):(iD n f)[i]? =some (.int .i64 (f i)):=by unfold iD;simp[h]
theorem vB(f:Nat->Bool)(h:i<n):(mZ n f)[i]? =some (.bool (f i)):=by unfold mZ;simp[h]
theorem rS{f g:Nat->Int}{v:Int}(hi:g i=v)(b:∀k,k<n->k≠i->g k=f k):(iD n f).set i (.int .i64 v)=iD n g:=by
 apply y6;intro k;rw[s7];unfold iD;by_cases h:k<n
 ·by_cases e:i=k
  ·subst e;simp[h,hi]
  ·simp[e,h,b k h (λa=>e a.symm)]
 ·simp[h];intro _;omega
theorem Cu{f g:Nat->Bool}{v:Bool}(hi:g i=v)(b:∀k,k<n->k≠i->g k=f k):(mZ n f).set i (.bool v)=mZ n g:=by
 apply y6;intro k;rw[s7];unfold mZ;by_cases h:k<n
 ·by_cases e:i=k
  ·subst e;simp[h,hi]
  ·simp[e,h,b k h (λa=>e a.symm)]
 ·simp[h];intro _;omega
theorem Eg(n:Nat)(hn:n<=1000000)(W:World):(Instr.makeSlice 22 (.int .i64 n) (.int .i64 n)).run prog W= .ok (.slice (some ⟨W.heap.size,0,none⟩) n n) (W.alloc (.cells (iD n (λ_=>0)).toArray 3)):=by
 obtain⟨i0,hi,a,b,c⟩:=mN nY;rw[run_make W 22 3 i0 (.int .i64 0) underlying22 hi a .i64 .i64 n n aO aO (by rw[c];omega) aO];have e:madeCells (Value.int .i64 0).cells (((n:Int).toNat)*i0.size)=(iD n (λ_=>0)).toArray:=by
  apply xj;rw[b];show(madeCells #[Value.int .i64 0] _).toList=_;rw[I7];simp only[iD];apply y6;intro i;by_cases h:i<n
  ·simp[h]
  ·simp[h]
 rw[e];simp
theorem K0(n:Nat)(hn:n<=1000000)(W:World):(Instr.makeSlice 49 (.int .i64 n) (.int .i64 n)).run prog W= .ok (.slice (some ⟨W.heap.size,0,none⟩) n n) (W.alloc (.cells (mZ n (λ_=>false)).toArray 4)):=by
 obtain⟨i0,hi,a,b,c⟩:=mN Cs;rw[run_make W 49 4 i0 (.bool false) underlying49 hi a .i64 .i64 n n aO aO (by rw[c];omega) aO];have e:madeCells (Value.bool false).cells (((n:Int).toNat)*i0.size)=(mZ n (λ_=>false)).toArray:=by
  apply xj;rw[b];show(madeCells #[Value.bool false] _).toList=_;rw[I7];simp only[mZ];apply y6;intro i;by_cases h:i<n
  ·simp[h]
  ·simp[h]
 rw[e];simp
section
variable{w:World}{b1:Nat}{v:Value}{P:List Int}
theorem IS(o:aZ w b1 v P)(hn:P.length<=100)(ht:jD P):Calls prog 66 #[v] w λe w'=>e= .returned true/\w=w':=by
 obtain⟨a,cap,rfl, -,d⟩:=o;have l:=aH d;have h:=aH ht;clear d ht;go_enter func66,ntmps66;go_wp2_with fail;go_loopw[7] (λg q=>∃k:Nat,g= .int .i64 k/\k<=P.length/\w=q) (λg _=>P.length - (intOf g).toNat)
 case atStart=>exact⟨0,rfl,by omega,rfl⟩
 case round=>
  obtain⟨k,rfl,s,rfl⟩:=hrel;by_cases c:k<P.length
  ·have m:decide ((k:Int)<P.length)=true:=by simpa using c
   have f:decide (k<P.length)=true:=by simpa using c
   have l1:(k:Int)<P.length:=by omega
   obtain⟨b,off,_,rfl,i⟩:=l.o aO;have c1:=i k c;clear i;by_cases j:k=0
   ·subst j;rw[h.o.1] at c1;simp only[ve] at c1;go_wp2_with fail;go_roundw
    case rel=>exact⟨1,by go_num,by omega,by trivial⟩
    case measure=>simp[intOf];omega
   ·have f0:((k:Int)==0)=false:=by simp;omega
    have f1:decide ((0:Int)<k)=true:=by simp;omega
    have f2:(k==0)=false:=by simpa using j
    have f3:decide (0<k)=true:=by simp;omega
    have n:=h.o.2 k aO c;generalize P[k]?.getD 0=p at*;have r:decide (p<0)=false:=by simp;omega
    have g1:decide ((k:Int)<=p)=false:=by simp;omega
    clear n;go_wp2_with fail;go_roundw
    case rel=>exact⟨k+1,by go_num,by omega,by trivial⟩
    case measure=>simp[intOf];omega
  ·have m:decide ((k:Int)<P.length)=false:=by simpa using c
   have f:decide (k<P.length)=false:=by simpa using c
   go_wp2;go_ret;exact⟨rfl,rfl⟩
def iC(P:List Int)(k:Nat)(v:Nat):Bool:=decide ((v:Int)∈P.take k)
theorem uy{P:List Int}{k:Nat}(a:k<P.length)(v:Nat):iC P (k+1) v=(iC P k v||decide (P[k]?.getD 0=(v:Int))):=by
 unfold iC;rw[List.take_succ_eq_append_getElem a,eB a];simp only[BO];rw[Mr];simp only[O6,Bool.or_eq_true,fc,List.mem_singleton];exact or_congr qp ⟨λh=>h.symm,λh=>h.symm⟩
theorem DU(I:aZ w b1 v P)(hn:P.length<=100)(ht:jD P):Calls prog 82 #[v] w λe w'=>∃g,e= .returned (.slice (some ⟨g,0,none⟩) P.length P.length)/\w.heap.size<=g/\aq w' g (mZ P.length (λv=>decide ((v:Int)∈P))) 4/\af [] w w':=by
 have M:=aH (λ(W:World) (R:af [] w W)=>I.Rr R aS);obtain⟨a,cap,rfl, -, -⟩:=I;have HT:=aH ht;have S:=K0 P.length aO;clear ht;go_enter func82,ntmps82
 go_upto_region 2 with fail
 generalize hW:World.alloc _ _=W;have q:aq W w.heap.size (mZ P.length (λ_=>false)) 4:=by subst hW;exact aq.new w _ _
 have r:af [] w W:=by subst hW;exact aF.alloc _
 have HB:=aH q;have L:=aH r;clear hW q r S;go_wp2_with fail;go_loopw[11] (λG J=>∃k:Nat,G= .int .i64 k/\k<=P.length/\aq J w.heap.size (mZ P.length (iC P k)) 4/\af [] w J) (λG _=>P.length - (intOf G).toNat)
 case atStart=>exact⟨0,rfl,by omega,HB.o,L.o⟩
 case round=>
  obtain⟨k,rfl,V,q,r⟩:=hrel;have l:=aH q;have m:=aH r;clear q r;by_cases f:k<P.length
  ·have N:decide ((k:Int)<P.length)=true:=by simpa using f
   have y:decide (k<P.length)=true:=by simpa using f
   have l1:(k:Int)<P.length:=by omega
   have Q:=M.o _ m.o;obtain⟨a2,o,D, -,n⟩:=Q;obtain⟨b,off,_,rfl,A⟩:=n aO;obtain⟨rfl,rfl⟩:a=some ⟨b,off,none⟩/\cap=o:=by simpa using D
   have c1:=A k f;have F:=λh1:1<=k=>HT.o.2 k h1 f;have z:=HT.o.1;have hs:=λv=>uy f v;generalize t:P[k]?.getD 0=p at*;have T:=aH t;have HS:=aH hs;by_cases n1:0<=p
   ·obtain⟨j,rfl⟩:=ix n1;have E:1<=k:=by
     by_cases e:k=0
     ·subst e;rw[z] at t;omega
     ·omega
    have hj:=F E;have X:(j:Int)<P.length:=by omega
    have O:decide (0<=(j:Int))=true:=by simp
    have hb:aq (wr.setCell (w.heap.size,j) (.bool true)) w.heap.size (mZ P.length (iC P (k+1))) 4:=by
     have h3:=l.o.set j (.bool true)
     rwa [Cu (g:=iC P (k+1)) (by rw[HS.o];simp) (λi _ hne=>by rw[HS.o];simp;intro e;exact am e.symm aO)] at h3
    have d:=aH hb;have u:=aH (m.o.set ⟨w.heap.size,j,none⟩ (.bool true) (.inr (ba _)));have hz:=l.o.frozen j;have U:=l.o.cell (i:=j) (vB _ aO);clear A n D t hs F z hj hb n1;go_wp2_with fail;go_roundw
    case rel=>exact⟨k+1,by go_num,by omega,d.o,u.o⟩
    case measure=>simp[intOf];omega
   ·have O:decide (0<=p)=false:=by simpa using n1
    have H:mZ P.length (iC P (k+1))=mZ P.length (iC P k):=by
     unfold mZ;apply BM;intro i _;rw[HS.o];simp;intro e;omega
    have d:=aH l.o;rw[<-H] at d;clear A n D t hs F z H n1;go_wp2_with fail;go_roundw
    case rel=>exact⟨k+1,by go_num,by omega,d.o,m.o⟩
    case measure=>simp[intOf];omega
  ·have N:decide ((k:Int)<P.length)=false:=by simpa using f
   have y:decide (k<P.length)=false:=by simpa using f
   have s:k=P.length:=by omega
   have d:=aH l.o;rw[s] at d;unfold iC at d;simp only[Jf] at d;clear s;go_wp2;go_ret;exact⟨w.heap.size,rfl,ba _,d.o,m.o⟩
def du(P:List Int)(k:Nat):List Int:=((List.range k).filter (λv:Nat=> !decide ((v:Int)∈P))).map (λv:Nat=>(v:Int))
theorem tM(F:aZ w b1 v P)(hn:P.length<=100)(ht:jD P):Calls prog 67 #[v] w λe w'=>∃u,e= .returned u/\oA w' w.heap.size u (du P P.length)/\af [] w w':=by
 obtain⟨i0,hi,t,x,y⟩:=mN nY;have HI:=aH (ae hi (ae t (ae x y)));have L:=aH (DU F hn ht);obtain⟨a,cap,rfl, -, -⟩:=F;clear ht hi t x y;go_enter func67,ntmps67;go_wp2_with fail;refine L.o.mono ?_;rintro e w1 ⟨g,rfl,Q,B,j⟩;have I:=aH B;have J:=aH j;have N:=B.lt;have C:=j.size;clear B j;go_wp2_with fail;go_loopw[3,9] (λO i wr=>∃(k:Nat)(v:Value),v=O/\i= .int .i64 k/\k<=P.length/\oA wr w1.heap.size v (du P k)/\af [] w1 wr) (λ_ i _=>P.length - (intOf i).toNat)
 case atStart=>exact⟨0,_,rfl,rfl,fA _,oA.nil _ _,aF⟩
 case round=>
  obtain⟨k,v,rfl,rfl,R,p,j⟩:=hrel;have E:=j.size;by_cases d:k<P.length
  ·have M:decide ((k:Int)<P.length)=true:=by simpa using d
   have A:decide (k<P.length)=true:=by simpa using d
   have l1:(k:Int)<P.length:=by omega
   have cb:=(I.o.Rr j aS).cell (i:=k) (vB _ d);have m:=aH p;have b:=aH j;have z:=aH (tR p);have s:du P (k+1)=if decide ((k:Int)∈P) then du P k else du P k++[(k:Int)]:=by
    unfold du;rw[xr,Jb,xu];by_cases h:(k:Int)∈P<;>simp[h]
   have l:=aH s;clear p j s;cases hd:decide ((k:Int)∈P) with
   |true=>
    rw[hd] at cb l;clear hd;go_wp2_with fail;go_roundw
    case rel=>exact⟨k+1,_,rfl,by go_num,by omega,by rw[l.o];exact m.o,b.o⟩
    case measure=>simp[intOf];omega
   |false=>
    rw[hd] at cb l;clear hd;have D:(du P k).length<=k:=by unfold du;rw[kZ];exact dv (FN _ _) aS
    have o:=aH (m.o.at (n:=(du P k).length) rfl);generalize r:(du P k).length=S at*;go_wp2_with(at_builtin;refine sK _ rfl _ _ 22 rfl w1.heap.size 3 i0 (.int .i64 0) 1 8 underlying22 HI.o.1 HI.o.2.1 HI.o.2.2.1 HI.o.2.2.2 rfl aJ _ _ _ rfl (o.o.alloc _) ⟨wr.heap.size,0,none⟩ 1 1 [k] rfl rfl ?c1 ?c2 ?c3 ?c4 ?c5 ?_)
    case c1=>exact cell_one_new _ _ _
    case c2=>simp[Value.oneCell']
    case c3=>unfold maxLen;omega
    case c4=>omega
    case c5=>simp;omega
    intro v' w2 f c _;obtain⟨g1,g2⟩:=wK r f c z.o b.o (ba _);have G:=aH (show oA w2 w1.heap.size v' (du P (k+1)) by rw[l.o];exact g1);have H:=aH g2;clear g1 g2 f c o m b cb r;go_wp2;go_roundw
    case rel=>exact⟨k+1,_,rfl,by go_num,by omega,G.o,H.o⟩
    case measure=>simp[intOf];omega
  ·have M:decide ((k:Int)<P.length)=false:=by simpa using d
   have A:decide (k<P.length)=false:=by simpa using d
   have q:k=P.length:=by omega
   have K:=aH q;have m:=aH p;have b:=aH j;clear q p j;go_wp2;go_ret;exact⟨_,rfl,by rw[<-K.o];exact m.o.base C,J.o.trans b.o⟩
end
variable{x:Int}
theorem kh(P:List Int)(k:Nat)(h:x<0):cM P k x=0:=by
 cases k with
 |zero=>rfl
 |succ k=>unfold cM;rw[ac aO]
variable{P:List Int}
theorem iH(ht:jD P):∀v:Nat,v<P.length->∀k,v+1<=k->cM P k v=cM P (v+1) v:=by
 intro v;induction v using Nat.strongRecOn with
 |_ v a=>
  intro hv k f;obtain⟨k,rfl⟩:∃d,k=d+1:=⟨k - 1,by omega⟩
  have e:∀k,cM P (k+1) v=1+cM P k (P[v]?.getD 0):=λk=>by
   rw[cM,ad aO];simp
  rw[e,e];by_cases b:v=0
  ·subst b;rw[ht.1,kh _ _ aO,kh _ _ aO]
  ·obtain⟨h1,h2⟩:=ht.2 v aO hv;obtain⟨p,c⟩:=ix h1;rw[c] at h2⊢;rw[a p aO aO k aO,a p aO aO v aO]
theorem yR(ht:jD P){v:Nat}(hv:v<P.length):cM P P.length v=1+cM P P.length (P[v]?.getD 0):=by
 obtain⟨n,hn⟩:∃n,P.length=n+1:=⟨P.length - 1,by omega⟩
 have e:cM P (n+1) v=1+cM P n (P[v]?.getD 0):=by
  rw[cM,ad aO];simp
 rw[hn,e];congr 1;by_cases a:v=0
 ·subst a;rw[ht.1,kh _ _ aO,kh _ _ aO]
 ·obtain⟨h1,h2⟩:=ht.2 v aO hv;obtain⟨p,b⟩:=ix h1;rw[b] at h2⊢;rw[iH ht p aO n aO,iH ht p aO (n+1) aO]
def n0(P:List Int)(k v:Nat):Int:=if v<k then(cM P P.length v:Int) else 0
section
variable{w:World}{b1:Nat}{v:Value}{P:List Int}
theorem Bb(O:aZ w b1 v P)(hn:P.length<=100)(ht:jD P):Calls prog 68 #[v] w λe w'=>∃g,e= .returned (.slice (some ⟨g,0,none⟩) P.length P.length)/\w.heap.size<=g/\aq w' g (iD P.length (λv=>(cM P P.length v:Int))) 3/\af [] w w':=by
 have S:=aH (λ(W:World) (hf:af [] w W)=>O.Rr hf aS);obtain⟨a,cap,rfl, -, -⟩:=O;have HT:=aH ht;have mk:=Eg P.length aO;clear ht;go_enter func68,ntmps68
 go_upto_region 2 with fail
 generalize hW:World.alloc _ _=W;have u:aq W w.heap.size (iD P.length (λ_=>0)) 3:=by subst hW;exact aq.new w _ _
 have y:af [] w W:=by subst hW;exact aF.alloc _
 have HB:=aH u;have R:=aH y;clear hW u y mk;go_wp2_with fail;go_loopw[11] (λM Q=>∃k:Nat,M= .int .i64 k/\k<=P.length/\aq Q w.heap.size (iD P.length (n0 P k)) 3/\af [] w Q) (λM _=>P.length - (intOf M).toNat)
 case atStart=>exact⟨0,rfl,by omega,HB.o,R.o⟩
 case round=>
  obtain⟨k,rfl,hk,u,y⟩:=hrel;have l:=aH u;have n:=aH y;clear u y;by_cases f:k<P.length
  ·have V:decide ((k:Int)<P.length)=true:=by simpa using f
   have D:decide (k<P.length)=true:=by simpa using f
   have l1:(k:Int)<P.length:=by omega
   have Y:=S.o _ n.o;obtain⟨a2,s,G, -,q⟩:=Y;obtain⟨b,off,Z,rfl,F⟩:=q aO;obtain⟨rfl,rfl⟩:a=some ⟨b,off,none⟩/\cap=s:=by simpa using G
   have c1:=F k f;have J:=λh1:1<=k=>HT.o.2 k h1 f;have E:=HT.o.1;have hs:=yR HT.o f;have hz:=l.o.frozen;have ck:=l.o.cell (i:=k) (ew _ f);have m:=l.o.set k (.int .i64 1);rw[rS (g:=λv=>if v=k then 1 else n0 P k v) aS (λi _ hne=>by simp[hne])] at m;have d:=aH m;have r:=aH (n.o.set ⟨w.heap.size,k,none⟩ (.int .i64 1) (.inr (ba _)));generalize L:P[k]?.getD 0=p at*;by_cases n1:0<=p
   ·obtain⟨j,rfl⟩:=ix n1;have H:1<=k:=by
     by_cases e:k=0
     ·subst e;rw[E] at L;omega
     ·omega
    have hj:=J H;have l2:(j:Int)<P.length:=by omega
    have X:decide (0<=(j:Int))=true:=by simp
    have T:=d.o.cell (i:=j) (ew _ aO);have hz2:=d.o.frozen;have U:=d.o.cell (i:=k) (ew _ f);have N:(if j=k then(1:Int) else n0 P k j)=(cM P P.length j:Int):=by
     rw[ac aO];unfold n0;rw[ad aO]
    rw[N] at T;have hd1:cM P P.length j<=100:=by have:=sC P P.length j;omega
    have o:=d.o.set k (.int .i64 ((cM P P.length j:Int)+1));rw[rS (g:=n0 P (k+1)) (by unfold n0;rw[ad aO,hs];omega) (λi _ hne=>by unfold n0;rw[ac hne];by_cases h:i<k;rw[ad aO,ad h];rw[ac aO,ac h])] at o;have z:=aH o;have A:=aH (r.o.set ⟨w.heap.size,k,none⟩ (.int .i64 ((cM P P.length j:Int)+1)) (.inr (ba _)));clear F q G L hs J E hj n1 m o N;generalize cM P P.length j=dj at*
    go_upto_region 6 with fail
    generalize(wr.setCell (w.heap.size,k) (.int .i64 1))=W1 at*;go_wp2_with fail;go_roundw
    case rel=>exact⟨k+1,by go_num,by omega,z.o,A.o⟩
    case measure=>simp[intOf];omega
   ·have X:decide (0<=p)=false:=by simpa using n1
    have t:iD P.length (λv=>if v=k then(1:Int) else n0 P k v)=iD P.length (n0 P (k+1)):=by
     unfold iD;apply BM;intro i _;congr 1;show(if i=k then(1:Int) else n0 P k i)=n0 P (k+1) i;unfold n0;by_cases e:i=k
     ·subst e;rw[ad rfl,ad aO,hs,kh _ _ aO];rfl
     ·rw[ac e];by_cases h:i<k
      ·rw[ad h,ad aO]
      ·rw[ac h,ac aO]
    rw[t] at d;clear F q G L hs J E t n1 m;go_wp2_with fail;go_roundw
    case rel=>exact⟨k+1,by go_num,by omega,d.o,r.o⟩
    case measure=>simp[intOf];omega
  ·have V:decide ((k:Int)<P.length)=false:=by simpa using f
   have D:decide (k<P.length)=false:=by simpa using f
   have I:k=P.length:=by omega
   have d:=aH l.o;have t:iD P.length (n0 P k)=iD P.length (λv=>(cM P P.length v:Int)):=by
    unfold iD;apply BM;intro i hi;unfold n0;rw[ad (by have:=y7.1 hi;omega)]
   rw[t] at d;clear I t;go_wp2;go_ret;exact⟨w.heap.size,rfl,ba _,d.o,n.o⟩
variable{E:List Int}{x:Int}
theorem DT(q:aZ w b1 v E)(hn:E.length<=100)(hm:x∈E):Calls prog 84 #[v,x] w λe w'=>(∃r:Nat,e= .returned r)/\w=w':=by
 obtain⟨a,cap,rfl, -,f⟩:=q;have n:=aH f;have m:=aH hm;clear f hm;go_enter func84,ntmps84;go_wp2_with fail;go_loopw[8] (λh s=>∃k:Nat,h= .int .i64 k/\k<=E.length/\(∀i,i<k->E[i]?.getD 0≠x)/\w=s) (λh _=>E.length - (intOf h).toNat)
 case atStart=>exact⟨0,rfl,by omega,λi hi=>by omega,rfl⟩
 case round=>
  obtain⟨k,rfl,u,hj,rfl⟩:=hrel;have HJ:=aH hj;clear hj;by_cases d:k<E.length
  ·have t:decide ((k:Int)<E.length)=true:=by simpa using d
   have p:decide (k<E.length)=true:=by simpa using d
   have l1:(k:Int)<E.length:=by omega
   obtain⟨b,off,_,rfl,j⟩:=n.o aO;have c1:=j k d;clear j;generalize l:E[k]?.getD 0=y at*;have o:=aH l;clear l;by_cases c:x=y
   ·have d1:(x==y)=true:=by simpa using c
    clear c;go_wp2;go_ret;exact⟨⟨k,rfl⟩,rfl⟩
   ·have d1:(x==y)=false:=by simpa using c
    have g:=aH c;clear c;go_wp2_with fail;go_roundw
    case rel=>
     refine⟨k+1,by go_num,by omega,λi hi=>?_,by trivial⟩;by_cases e:i=k
     ·subst e;rw[o.o];exactλe=>g.o e.symm
     ·exact HJ.o i aO
    case measure=>simp[intOf];omega
  ·exfalso;obtain⟨i,hi⟩:=FO m.o;have:=(pH.1 hi).1;exact HJ.o i aO (by rw[hi];rfl)
theorem vK(b:aZ w b1 v E)(hn:E.length<=100)(hm:x∈E):Calls prog 71 #[v,x] w λe w'=>e= .returned true/\w=w':=by
 have HI:=aH (DT b hn hm);obtain⟨a,cap,rfl, -, -⟩:=b;clear hm;go_enter func71,ntmps71;go_wp2_with fail;refine HI.o.mono ?_;rintro e w' ⟨⟨r,rfl⟩,rfl⟩;have d1:decide ((0:Int)<=r)=true:=by simp
 go_wp2;go_ret;exact⟨rfl,rfl⟩
theorem AD{b:Nat}(c:aZ w b1 v E)(hn:E.length<=100)(hm:x∈E)(d:w.cell? (b,0)=some v):Calls prog 70 #[x,some b] w λe w'=>e= .returned false/\w=w':=by
 have HI:=aH (vK c hn hm);obtain⟨a,cap,rfl, -, -⟩:=c;clear hm;go_enter func70,ntmps70;go_wp2_with fail;refine gF HI.o ?_;rintro w' rfl;go_wp2;go_ret;exact⟨rfl,rfl⟩
end
section
variable{P:Program}{md:Region.Mode}{ops:Array Oper}{Q:Exit->Act->World->Prop}{S:World->Prop}
theorem rH{i j:Nat}{o1 o2:Oper}{fuel:Nat}{b:Array Bool}{a:Act}{w:World}(hi:pick ops.toList i=some o1)(hj:pick ops.toList j=some o2)(t:Region.ready md ops b=[i,j])
 (h1:wpList P ops (eL Q (λl w'=>S w'/\wpAnyH P md ops Q S fuel (b.setIfInBounds i true) l w')) [o1] a w)
 (h2:wpList P ops (eL Q (λl w'=>S w'/\wpAnyH P md ops Q S fuel (b.setIfInBounds j true) l w')) [o2] a w):wpAnyH P md ops Q S (fuel+1) b a w:=by
 refine wpAnyH_all t aS λk p=>?_;obtain⟨o,hi,h⟩:∃o,pick ops.toList k=some o/\wpList P ops (eL Q (λl w'=>S w'/\wpAnyH P md ops Q S fuel (b.setIfInBounds k true) l w')) [o] a w:=by
  rcases kq.1 p with e|p
  ·subst e;exact⟨_,hi,h1⟩
  ·have e:k=j:=by simpa using p
   subst e;exact⟨_,hj,h2⟩
 have hi:=r9 hi;unfold wpOp;simp only[hi];simp only[wpList] at h;have g:∀l w',eL Q (λl w'=>S w'/\wpAnyH P md ops Q S fuel (b.setIfInBounds k true) l w') .normal l w'->S w'/\wpAnyH P md ops Q S fuel (b.setIfInBounds k true) l w':=λ_ _ h=>h.1 rfl
 split
 ·rename_i q
  rw[ad q] at h;rcases h with h|⟨h1,a1,w1,h2⟩
  ·left;unfold Oper.wp at*;generalize(execOp a.eval o).run P w=r at*;cases r with
   |ok n w'=>
    cases n<;>simp only[Oper.upon] at h⊢
    case value u=>exact g _ _ h
    case skip=>exact g _ _ h
    case defer d=>exact g _ _ h
    case enter f args=>
     refine fT h λe s m=>?_;cases e with
     |returned u=>exact g _ _ m
     |panicked c=>exact m.2 aS
     |outgrown=>obtain⟨a1,w1,h2⟩:=m;exact⟨a1,w1,h2.2 aS⟩
    case row row args=>exact Rows.mono h λu s m=>g _ _ m
   |halt x w'=>
    cases x<;>simp only[Oper.upon] at h⊢
    case panic u=>exact h.2 aS
  ·exact .inr ⟨h1,a1,w1,h2.2 aS⟩
 ·rename_i q
  rw[ac q] at h;exact g _ _ h
end
section
variable{w:World}{b1:Nat}{v:Value}
variable{E T:List Int}{u:Value}
theorem uz{m q:Nat}(s:aZ w b1 v T)(n:aZ w q u E)(hn:E.length<=100)(z:T.length<=100)(hm:∀t∈T,t∈E)(f:w.cell? (m,0)=some u):Calls prog 83 #[v,.func (.func 70) #[] #[some m]] w λe w'=>e= .returned (-1:Int)/\w=w':=by
 have o:=aH (λ(x:Int) (h:x∈T)=>AD n hn (hm x h) f);obtain⟨a,cap,rfl, -,g⟩:=s;have p:=aH g;clear g n hm f;go_enter func83,ntmps83;go_wp2_with fail;go_loopw[8] (λl y=>∃k:Nat,l= .int .i64 k/\k<=T.length/\w=y) (λl _=>T.length - (intOf l).toNat)
 case atStart=>exact⟨0,rfl,by omega,rfl⟩
 case round=>
  obtain⟨k,rfl,A,rfl⟩:=hrel;by_cases c:k<T.length
  ·have r:decide ((k:Int)<T.length)=true:=by simpa using c
   have j:decide (k<T.length)=true:=by simpa using c
   have l1:(k:Int)<T.length:=by omega
   obtain⟨b,off,_,rfl,f⟩:=p.o aO;have c1:=f k c;have d:T[k]?.getD 0∈T:=by rw[eB c];exact lB _
   have i:=aH (o.o _ d);clear f d;generalize T[k]?.getD 0=x at*;go_wp2_with(go_at_call 70;refine i.o.mono ?_;rintro e w' ⟨rfl,rfl⟩)
   go_roundw
   case rel=>exact⟨k+1,by go_num,by omega,by trivial⟩
   case measure=>simp[intOf];omega
  ·have r:decide ((k:Int)<T.length)=false:=by simpa using c
   have j:decide (k<T.length)=false:=by simpa using c
   go_wp2;go_ret;exact⟨rfl,rfl⟩
theorem p8{b g:Nat}(d:aZ w b1 v T)(f:aZ w g u E)(hn:E.length<=100)(h:T.length<=100)(hm:∀t∈T,t∈E)(c:w.cell? (b,0)=some u):Calls prog 69 #[v,.func (.func 70) #[] #[some b]] w λe w'=>e= .returned false/\w=w':=by
 have HI:=aH (uz d f hn h hm c);obtain⟨a,cap,rfl, -, -⟩:=d;clear f hm c;go_enter func69,ntmps69;go_wp2_with fail;refine gF HI.o ?_;rintro w' rfl;go_wp2;go_ret;exact⟨rfl,rfl⟩
end
theorem By(h:x∈du P P.length):∃v:Nat,x=v/\v<P.length/\ee P v=true:=by
 unfold du at h;simp at h;obtain⟨v,⟨h1,h2⟩,rfl⟩:=h;exact⟨v,rfl,h1,by unfold ee;simp[h1,h2]⟩
theorem wY(h:ee P x=true):x∈du P P.length:=by
 unfold ee at h;simp at h;obtain⟨v,rfl⟩:=ix h.1.1;unfold du;simp;exact⟨v,⟨by omega,h.2⟩,rfl⟩
end Go.Proofs.YteijjhahgabalaaGreat
