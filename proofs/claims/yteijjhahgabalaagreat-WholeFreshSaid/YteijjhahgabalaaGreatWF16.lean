/- How a topology is opened, a struct of two slices of ints: plain lemmas over any program. -/
import Derived.Deep.Slices
import Derived.Deep.Fields
import Derived.ChangeSame
import Derived.Test.YteijjhahgabalaaGreatWF05
import Derived.Test.YteijjhahgabalaaGreatWF01
import Derived.Test.YteijjhahgabalaaGreatWF11
set_option maxRecDepth 100000
set_option maxHeartbeats 8000000
set_option linter.all false
namespace Go.Proofs.YteijjhahgabalaaGreat
open Go.ChangeShapes Go.WideShapes Go.RowKit Go.Deep
section
variable{H:Type}{enc:TypeId×Value->H}{P:Program}{w:World}{base:Nat}{held:Bool}{t:TypeId}{v:Value}{r:Reach}
theorem l7{e:TypeId}{k:IntKind}{fuel:Nat}{cs:List Value}{y:DataW H×List MemPlace}(ht:P.underlying t=some (.slice e))(q:P.underlying e=some (.int k))(p:P.cellsOf e=1)
 (s:DataW.trod enc P w base (λ_=>true) held fuel t cs=some y):∃v zs,cs=[v]/\B7 k w v zs:=by
 rcases open_slice1 ht p s with⟨a,_⟩|⟨x,len,cap,m,n,V,D,C,a,_,hl,hm,j,_,B⟩
 ·exact⟨_,[],a,none,0,rfl,fA _,λh=>am h (Am _),by simp⟩
 ·have u:m=cap:=by simpa using j
  have l:∀i,i<len->∃z,w.cell? (x.add i)=some (Value.int k z)/\(Lit.int k z).wf=true:=by
   intro i hi;obtain⟨h1,h2⟩:=B i aO;obtain⟨z,d,_,A⟩:=I9 q h2;simp at d;exact⟨z,by rw[h1,d],A⟩
  obtain⟨f,b⟩:=choose_lt l;refine⟨_,(List.range len).map f,a,some x,cap,by simp,by simp;omega,?_,?_⟩
  ·intro o;have g:0<len:=by simpa using o
   have hs:x.spot=none:=by
    have:=oK (b 0 g).1;simpa[Addr.add] using this
   refine⟨x.block,x.off,by cases x;simp_all,λi hi=>?_⟩;have c:i<len:=by simpa using hi
   have h1:=(b i c).1;have e:x.add i=⟨x.block,x.off+i,none⟩:=by
    unfold Addr.add
    split
    ·rename_i h;subst h;cases x;simp_all
    ·rfl
   rw[e] at h1;rw[h1];simp[List.getD,c]
  ·intro z d;obtain⟨i,hi,rfl⟩:=FH.1 d;exact(b i (y7.1 hi)).2
theorem B7.at{zs:List Int}(h:B7 .i64 w v zs):aZ w 0 v zs:=by
 obtain⟨a,cap,h1,h2,h3,_⟩:=h;refine⟨a,cap,h1,h2,λc=>?_⟩;obtain⟨b,off,ha,d⟩:=h3 c;exact⟨b,off,fA _,ha,λi hi=>by have:=d i hi;simpa[List.getD] using this⟩
def Cl(w:World)(v:Value)(PT:List Int×List Int):Prop:=∃a b,v= .agg #[a,b]/\aZ w 0 a PT.1/\aZ w 0 b PT.2
theorem open_topo{f0 f1:Field}{b0:Nat}{d:DataW H}{p:List MemPlace}{f g:TypeId}(ht:P.underlying t=some (.struct #[f0,f1]))(o:P.underlying f0.type=some (.slice f))(h1:P.underlying f1.type=some (.slice g))
 (s:P.underlying f=some (.int .i64))(k1:P.underlying g=some (.int .i64))(c0:P.cellsOf f=1)(c1:P.cellsOf g=1)(hs:P.cellsOf t=2)(u:f0.offset=0)(o1:f1.offset=1)(s0:P.cellsOf f0.type=1)(s1:P.cellsOf f1.type=1)
 (hv:Value.okWide P w r b0 t v)(h:DataW.Trod enc P w base (λ_=>true) held t v d p):∃m,Cl w v m:=by
 obtain⟨cs,rfl,c⟩:=okWide_struct ht hv;rw[hs] at c;obtain⟨fuel,q⟩:=h;obtain⟨B,C,n,_,hl,e,g1⟩:=trod_struct2 ht q;rw[u,s0] at e;rw[o1,s1] at g1;have k:(Value.agg cs).cells.toList=cs.toList:=by simp[Value.cells]
 rw[k] at e g1;obtain⟨a,b,j⟩:∃a b,cs=#[a,b]:=⟨cs[0],cs[1],by apply Array.ext;simp[c];intro i h1 h2;simp at h2;rcases(by omega:i=0\/i=1) with rfl|rfl<;>rfl⟩
 subst j;simp at e g1;obtain⟨z,zs,ha,x⟩:=l7 o s c0 e;obtain⟨A,us,l,y⟩:=l7 h1 k1 c1 g1;simp at ha l;subst ha l;exact⟨(zs,us),_,_,rfl,x.at,y.at⟩
end
end Go.Proofs.YteijjhahgabalaaGreat
