/- How the struct of picks and of threads is opened: plain lemmas over any program. -/
import Derived.Test.YteijjhahgabalaaGreatWF17
import Derived.Test.YteijjhahgabalaaGreatWF16
import Derived.Test.YteijjhahgabalaaGreatWF24
set_option maxRecDepth 100000
set_option maxHeartbeats 8000000
set_option linter.all false
namespace Go.Proofs.YteijjhahgabalaaGreat
open Go.ChangeShapes Go.WideShapes Go.RowKit Go.Deep
section
variable{H:Type}{enc:TypeId×Value->H}{P:Program}{w:World}{base:Nat}{held:Bool}{t:TypeId}{v:Value}{r:Reach}
variable{e:TypeId}{f0 f1:Field}{fuel:Nat}{cs:List Value}{y:DataW H×List MemPlace}
theorem pp(ht:P.underlying t=some (.slice e))(U:P.underlying e=some (.struct #[f0,f1]))(b:oneCellFields P #[f0,f1]=true)(S:P.cellsOf e=2)(u:P.underlying f0.type=some (.int .i64))(h1:P.underlying f1.type=some (.int .i64))(V:DataW.trod enc P w base (λ_=>true) held fuel t cs=some y):∃v Rt,cs=[v]/\xJ w.heap.size w v Rt:=by
 rcases open_slice ht V with⟨c,_⟩|⟨x,len,cap,m,n,D,Pl,c,_,hl,hm,A,_,Y⟩
 ·exact⟨_,[],c,none,0,rfl,fA _,ba _,λ_=>rfl,λh=>am h (Am _)⟩
 have W:m=cap:=by simpa using A
 have K:∀i,i<len->∃z:Int×Int,(w.cell? (x.add (i*2))=some (Value.int .i64 z.1)/\w.cell? ((x.add (i*2)).add 1)=some (Value.int .i64 z.2))/\jp z.1/\jp z.2:=by
  intro i hi;obtain⟨a,M,B⟩:=Y i aO;rw[S] at M;obtain⟨s,n',X,hy,hlen,q,l⟩:=DataW.trod_struct U B;obtain⟨_,T,j⟩:=World.cells?_some M;have c0:=j (i:=0) aO;have c1:=j (i:=1) aO;have L:=l 0 f0 rfl;have g1:=l 1 f1 rfl;obtain⟨o0,Z⟩:=hone_of b 0 f0 rfl;obtain⟨o1,k1⟩:=hone_of b 1 f1 rfl;rw[o0,Z,take1_drop a 0 undef aO] at L;rw[o1,k1,take1_drop a 1 undef aO] at g1;have y0:s[0]? =some (s[0]'(by rw[q];simp)):=eB _;have y1:s[1]? =some (s[1]'(by rw[q];simp)):=eB _;obtain⟨N,G,_,C⟩:=I9 u (L.trans y0);obtain⟨O,I,_,E⟩:=I9 h1 (g1.trans y1);refine⟨(N,O),⟨?_,?_⟩,tK C,tK E⟩
  ·have Q:(x.add (i*2)).add 0=x.add (i*2):=by unfold Addr.add;simp
   rw[Q] at c0;rw[c0];have:a.getD 0 undef= .int .i64 N:=by simpa using G
   rw[<-this];simp[List.getD,eB (show 0<a.length by omega)]
  ·rw[c1];have:a.getD 1 undef= .int .i64 O:=by simpa using I
   rw[<-this];simp[List.getD,eB (show 1<a.length by omega)]
 obtain⟨f,d⟩:=choose_lt K;refine⟨_,(List.range len).map f,c,some x,cap,by simp,by simp;omega,by simpa using hl,(λh=>by simp at h),?_⟩
 ·intro u;have g:0<len:=by simpa using u
  have hs:x.spot=none:=by
   have:=oK (d 0 g).1.1;simpa[Addr.add] using this
  have p:=qu (d 0 g).1.1;rw[ta] at p;refine⟨x.block,x.off,by cases x;simp_all,p,λi z F=>?_⟩;have o:i<len:=by
   have:=(pH.1 F).1;simpa using this
  have J:f i=z:=by
   rw[iL,qo o] at F;exact nE F
  subst J;obtain⟨⟨a1,a2⟩,_⟩:=d i o;have e:∀k,x.add k=⟨x.block,x.off+k,none⟩:=by
   intro k;unfold Addr.add
   split
   ·rename_i h;subst h;cases x;simp_all
   ·rfl
  rw[e] at a1 a2;refine⟨a1,?_⟩;have R:(⟨x.block,x.off+i*2,none⟩:Addr).add 1=⟨x.block,x.off+i*2+1,none⟩:=by unfold Addr.add;simp
  rw[R] at a2;exact a2
theorem po(ht:P.underlying t=some (.slice e))(B:P.cellsOf e=1)(p:P.underlying e=some (.int .u8))(C:DataW.trod enc P w base (λ_=>true) held fuel t cs=some y):∃v l,cs=[v]/\xG w.heap.size w v l:=by
 rcases open_slice1 ht B C with⟨a,_⟩|⟨x,len,cap,m,n,V,D,I,a,_,hl,hm,q,_,G⟩
 ·exact⟨_,[],a,none,0,rfl,fA _,λh=>am h (Am _)⟩
 have E:m=cap:=by simpa using q
 have u:∀i,i<len->∃z:Int,w.cell? (x.add i)=some (.int .u8 z)/\0<=z/\z<256:=λi hi=>by
  obtain⟨c,d⟩:=G i aO;obtain⟨z,g,_,F⟩:=I9 p d;have A:=u8_of_wf F;unfold U8 at A;injection g with g;exact⟨z,by rw[c,g],A.1,by omega⟩
 obtain⟨f,b⟩:=choose_lt u;refine⟨_,(List.range len).map f,a,some x,cap,by simp,by simp;omega,λp=>?_⟩;have j:0<len:=by simpa using p
 have hs:x.spot=none:=by
  have:=oK (b 0 j).1;simpa[Addr.add] using this
 have o:=qu (b 0 j).1;rw[ta] at o;refine⟨x.block,x.off,by cases x;simp_all,o,λi z g=>?_⟩;have k:i<len:=by
  have:=(pH.1 g).1;simpa using this
 have s:f i=z:=by
  rw[iL,qo k] at g;exact nE g
 subst s;have e:x.add i=⟨x.block,x.off+i,none⟩:=by
  unfold Addr.add
  split
  ·rename_i h;subst h;cases x;simp_all
  ·rfl
 rw[<-e];exact b i k
def vw(w:World)(v:Value)(c:List (Int×Int)×List Int):Prop:=∃l u,v= .agg #[l,u]/\xJ w.heap.size w l c.1/\xG w.heap.size w u c.2
theorem open_script{j g1:Field}{b0:Nat}{d:DataW H}{p:List MemPlace}{m:TypeId}(hs:P.underlying t=some (.struct #[j,g1]))(x:P.underlying j.type=some (.slice e))(D:P.underlying e=some (.struct #[f0,f1]))(f:oneCellFields P #[f0,f1]=true)(B:P.cellsOf e=2)(A:P.underlying f0.type=some (.int .i64))(h1:P.underlying f1.type=some (.int .i64))(y:P.underlying g1.type=some (.slice m))(u:P.underlying m=some (.int .u8))(o:P.cellsOf m=1)(C:P.cellsOf t=2)(F:j.offset=0)(o1:g1.offset=1)(s0:P.cellsOf j.type=1)(s1:P.cellsOf g1.type=1)(hv:Value.okWide P w r b0 t v)(h:DataW.Trod enc P w base (λ_=>true) held t v d p):∃c,vw w v c:=by
 obtain⟨cs,rfl,g⟩:=okWide_struct hs hv;rw[C] at g;obtain⟨fuel,E⟩:=h;obtain⟨L,M,n,_,hl,k,l⟩:=trod_struct2 hs E;rw[F,s0] at k;rw[o1,s1] at l;have s:(Value.agg cs).cells.toList=cs.toList:=by simp[Value.cells]
 rw[s] at k l;obtain⟨a,b,q⟩:∃a b,cs=#[a,b]:=⟨cs[0],cs[1],by apply Array.ext;simp[g];intro i h1 h2;simp at h2;rcases(by omega:i=0\/i=1) with rfl|rfl<;>rfl⟩
 subst q;simp at k l;obtain⟨J,Rt,ha,G⟩:=pp x D f B A h1 k;obtain⟨K,us,z,I⟩:=po y o u l;simp at ha z;subst ha z;exact⟨(Rt,us),_,_,rfl,G,I⟩
end
end Go.Proofs.YteijjhahgabalaaGreat
