/- How a topology is opened, a struct of two slices of ints: plain lemmas over any program. -/
import Derived.Deep.Slices
import Derived.Deep.Fields
import Derived.ChangeSame
import Derived.Test.YteijjhahgabalaaGreatWA01
import Derived.Test.YteijjhahgabalaaGreatWA02
import Derived.Test.YteijjhahgabalaaGreatWA07
set_option maxRecDepth 100000
set_option maxHeartbeats 8000000
set_option linter.all false
namespace Go.Proofs.YteijjhahgabalaaGreat
open Go.ChangeShapes Go.WideShapes Go.RowKit Go.Deep
section
variable{H:Type} {enc:TypeId×Value→H} {P:Program} {w:World} {base:Nat} {held:Bool} {t:TypeId} {v:Value} {r:Reach}
theorem iU {e:TypeId} {k:IntKind} {fuel:Nat} {cs:List Value} {y:DataW H×List MemPlace} (ht:P.underlying t=some (.slice e)) (he:P.underlying e=some (.int k)) (hc:P.cellsOf e=1)
 (hf:DataW.trod enc P w base (fun _=>true) held fuel t cs=some y):∃v zs,cs=[v]∧uq k w v zs:=by
 rcases open_slice1 ht hc hf with⟨hcs,_⟩|⟨x,len,cap,m,n,V,D,Pl,hcs,_,hl,hm,hmm,_,hx⟩
 ·exact⟨_,[],hcs,none,0,rfl,Nat.zero_le _,fun h=>absurd h (Nat.lt_irrefl _),by simp⟩
 ·have hmc:m=cap:=by simpa using hmm
  have key:∀i,i<len→∃z,w.cell? (x.add i)=some (Value.int k z)∧(Lit.int k z).wf=true:=by
   intro i hi;obtain⟨h1,h2⟩:=hx i aO;obtain⟨z,hz,_,hw⟩:=DataW.trod_int he h2;simp at hz;exact⟨z,by rw[h1,hz],hw⟩
  obtain⟨f,hfz⟩:=choose_lt key;refine⟨_,(List.range len).map f,hcs,some x,cap,by simp,by simp;omega,?_,?_⟩
  ·intro h0;have h0':0<len:=by simpa using h0
   have hs:x.spot=none:=by
    have:=mh (hfz 0 h0').1;simpa[Addr.add] using this
   refine⟨x.block,x.off,by cases x;simp_all,fun i hi=>?_⟩;have hi':i<len:=by simpa using hi
   have h1:=(hfz i hi').1;have e:x.add i=⟨x.block,x.off+i,none⟩:=by
    unfold Addr.add
    split
    ·rename_i h;subst h;cases x;simp_all
    ·rfl
   rw[e] at h1;rw[h1];simp[List.getD,hi']
  ·intro z hz;obtain⟨i,hi,rfl⟩:=List.mem_map.1 hz;exact(hfz i (List.mem_range.1 hi)).2
theorem uq.at {zs:List Int} (h:uq .i64 w v zs):a7 w 0 v zs:=by
 obtain⟨a,cap,h1,h2,h3,_⟩:=h;refine⟨a,cap,h1,h2,fun h0=>?_⟩;obtain⟨b,off,ha,hc⟩:=h3 h0;exact⟨b,off,Nat.zero_le _,ha,fun i hi=>by have:=hc i hi;simpa[List.getD] using this⟩
def xt (w:World) (v:Value) (PT:List Int×List Int):Prop:=∃a b,v= .agg #[a,b]∧a7 w 0 a PT.1∧a7 w 0 b PT.2
theorem open_topo {f0 f1:Field} {b0:Nat} {d:DataW H} {p:List MemPlace} {e0 e1:TypeId} (ht:P.underlying t=some (.struct #[f0,f1])) (h0:P.underlying f0.type=some (.slice e0)) (h1:P.underlying f1.type=some (.slice e1))
 (k0:P.underlying e0=some (.int .i64)) (k1:P.underlying e1=some (.int .i64)) (c0:P.cellsOf e0=1) (c1:P.cellsOf e1=1) (hs:P.cellsOf t=2) (o0:f0.offset=0) (o1:f1.offset=1) (s0:P.cellsOf f0.type=1) (s1:P.cellsOf f1.type=1)
 (hv:Value.okWide P w r b0 t v) (h:DataW.Trod enc P w base (fun _=>true) held t v d p):∃PT,xt w v PT:=by
 obtain⟨cs,rfl,hsz⟩:=okWide_struct ht hv;rw[hs] at hsz;obtain⟨fuel,hf⟩:=h;obtain⟨y0,y1,n,_,hl,g0,g1⟩:=trod_struct2 ht hf;rw[o0,s0] at g0;rw[o1,s1] at g1;have hcl:(Value.agg cs).cells.toList=cs.toList:=by simp[Value.cells]
 rw[hcl] at g0 g1;obtain⟨a,b,hab⟩:∃a b,cs=#[a,b]:=⟨cs[0],cs[1],by apply Array.ext;simp[hsz];intro i h1 h2;simp at h2;rcases(by omega:i=0∨i=1) with rfl|rfl<;>rfl⟩
 subst hab;simp at g0 g1;obtain⟨a',zs,ha,r0⟩:=iU h0 k0 c0 g0;obtain⟨b',us,hb,r1⟩:=iU h1 k1 c1 g1;simp at ha hb;subst ha hb;exact⟨(zs,us),_,_,rfl,r0.at,r1.at⟩
end
end Go.Proofs.YteijjhahgabalaaGreat
