/- How the struct of picks and of where they are cut is opened: plain lemmas over any program. -/
import Derived.Test.YteijjhahgabalaaGreatWA05
import Derived.Test.YteijjhahgabalaaGreatWA11
import Derived.Test.YteijjhahgabalaaGreatWA32
set_option maxRecDepth 100000
set_option maxHeartbeats 8000000
set_option linter.all false
namespace Go.Proofs.YteijjhahgabalaaGreat
open Go.ChangeShapes Go.WideShapes Go.RowKit Go.Deep
section
variable{H:Type} {enc:TypeId×Value→H} {P:Program} {w:World} {base:Nat} {held:Bool} {t:TypeId} {v:Value} {r:Reach}
theorem Ey {e:TypeId} {f0 f1:Field} {fuel:Nat} {cs:List Value} {y:DataW H×List MemPlace} (ht:P.underlying t=some (.slice e)) (he:P.underlying e=some (.struct #[f0,f1]))
 (hone:oneCellFields P #[f0,f1]=true) (hC:P.cellsOf e=2) (h0:P.underlying f0.type=some (.int .i64)) (h1:P.underlying f1.type=some (.int .i64))
 (hf:DataW.trod enc P w base (fun _=>true) held fuel t cs=some y):∃v acts,cs=[v]∧iw w.heap.size w v acts:=by
 rcases open_slice ht hf with⟨hcs,_⟩|⟨x,len,cap,m,n,D,Pl,hcs,_,hl,hm,hmm,_,hx⟩
 ·exact⟨_,[],hcs,none,0,rfl,Nat.zero_le _,Nat.le_refl _,fun _=>rfl,fun h=>absurd h (Nat.lt_irrefl _)⟩
 have hmc:m=cap:=by simpa using hmm
 have key:∀i,i<len→∃z:Int×Int,(w.cell? (x.add (i*2))=some (Value.int .i64 z.1)∧w.cell? ((x.add (i*2)).add 1)=some (Value.int .i64 z.2))∧fP z.1∧fP z.2:=by
  intro i hi;obtain⟨cs',hc,ht'⟩:=hx i aO;rw[hC] at hc;obtain⟨ys,n',hn',hy,hlen,hyl,hff⟩:=DataW.trod_struct he ht';obtain⟨_,hcl,hat⟩:=World.cells?_some hc;have c0:=hat (i:=0) aO;have c1:=hat (i:=1) aO;have g0:=hff 0 f0 rfl;have g1:=hff 1 f1 rfl;obtain⟨o0,k0⟩:=hone_of hone 0 f0 rfl;obtain⟨o1,k1⟩:=hone_of hone 1 f1 rfl;rw[o0,k0,take1_drop cs' 0 undef aO] at g0;rw[o1,k1,take1_drop cs' 1 undef aO] at g1;have y0:ys[0]? =some (ys[0]'(by rw[hyl];simp)):=List.getElem?_eq_getElem _;have y1:ys[1]? =some (ys[1]'(by rw[hyl];simp)):=List.getElem?_eq_getElem _;obtain⟨z0,hz0,_,hw0⟩:=DataW.trod_int h0 (g0.trans y0);obtain⟨z1,hz1,_,hw1⟩:=DataW.trod_int h1 (g1.trans y1);refine⟨(z0,z1),⟨?_,?_⟩,pZ hw0,pZ hw1⟩
  ·have e0:(x.add (i*2)).add 0=x.add (i*2):=by unfold Addr.add;simp
   rw[e0] at c0;rw[c0];have:cs'.getD 0 undef= .int .i64 z0:=by simpa using hz0
   rw[←this];simp[List.getD,List.getElem?_eq_getElem (show 0<cs'.length by omega)]
  ·rw[c1];have:cs'.getD 1 undef= .int .i64 z1:=by simpa using hz1
   rw[←this];simp[List.getD,List.getElem?_eq_getElem (show 1<cs'.length by omega)]
 obtain⟨f,hfz⟩:=choose_lt key;refine⟨_,(List.range len).map f,hcs,some x,cap,by simp,by simp;omega,by simpa using hl,(fun h=>by simp at h),?_⟩
 ·intro h0;have h0':0<len:=by simpa using h0
  have hs:x.spot=none:=by
   have:=mh (hfz 0 h0').1.1;simpa[Addr.add] using this
  have hlt:=qw (hfz 0 h0').1.1;rw[vP] at hlt;refine⟨x.block,x.off,by cases x;simp_all,hlt,fun i z hz=>?_⟩;have hi':i<len:=by
   have:=(List.getElem?_eq_some_iff.1 hz).1;simpa using this
  have hzf:f i=z:=by
   rw[List.getElem?_map,List.getElem?_range hi'] at hz;exact Option.some.inj hz
  subst hzf;obtain⟨⟨a1,a2⟩,_⟩:=hfz i hi';have e:∀k,x.add k=⟨x.block,x.off+k,none⟩:=by
   intro k;unfold Addr.add
   split
   ·rename_i h;subst h;cases x;simp_all
   ·rfl
  rw[e] at a1 a2;refine⟨a1,?_⟩;have e2:(⟨x.block,x.off+i*2,none⟩:Addr).add 1=⟨x.block,x.off+i*2+1,none⟩:=by unfold Addr.add;simp
  rw[e2] at a2;exact a2
def pm (w:World) (v:Value) (c:List (Int×Int)×Int):Prop:=∃l,v= .agg #[l,.int .u8 c.2]∧iw w.heap.size w l c.1∧0≤c.2∧c.2<256
theorem open_cut {g0 g1:Field} {b0:Nat} {d:DataW H} {p:List MemPlace} {e:TypeId} {f0 f1:Field} (hs:P.underlying t=some (.struct #[g0,g1])) (hu0:P.underlying g0.type=some (.slice e)) (he:P.underlying e=some (.struct #[f0,f1]))
 (hone:oneCellFields P #[f0,f1]=true) (hC:P.cellsOf e=2) (h0:P.underlying f0.type=some (.int .i64)) (h1:P.underlying f1.type=some (.int .i64)) (hu1:P.underlying g1.type=some (.int .u8))
 (hc:P.cellsOf t=2) (o0:g0.offset=0) (o1:g1.offset=1) (s0:P.cellsOf g0.type=1) (s1:P.cellsOf g1.type=1)
 (hv:Value.okWide P w r b0 t v) (h:DataW.Trod enc P w base (fun _=>true) held t v d p):∃c,pm w v c:=by
 obtain⟨cs,rfl,hsz⟩:=okWide_struct hs hv;rw[hc] at hsz;obtain⟨fuel,hf⟩:=h;obtain⟨y0,y1,n,_,hl,q0,q1⟩:=trod_struct2 hs hf;rw[o0,s0] at q0;rw[o1,s1] at q1;have hcl:(Value.agg cs).cells.toList=cs.toList:=by simp[Value.cells]
 rw[hcl] at q0 q1;obtain⟨a,b,hab⟩:∃a b,cs=#[a,b]:=⟨cs[0],cs[1],by apply Array.ext;simp[hsz];intro i h1 h2;simp at h2;rcases(by omega:i=0∨i=1) with rfl|rfl<;>rfl⟩
 subst hab;simp at q0 q1;obtain⟨a',acts,ha,r0⟩:=Ey hu0 he hone hC h0 h1 q0;obtain⟨z,hz,_,hw⟩:=DataW.trod_int hu1 q1;simp at ha hz;subst ha hz;have hu:=u8_of_wf hw;unfold U8 at hu;exact⟨(acts,z),_,rfl,r0,hu.1,by have:=hu.2;show z<256;omega⟩
end
end Go.Proofs.YteijjhahgabalaaGreat
