/- How a law's arguments are opened: plain lemmas over any program. An array of integers by value; a slice of integers; a slice of structs of integer fields. -/
import Derived.WalkKit
import Derived.ProofKit
import Derived.OpenShut
import Derived.ChangeOld
import Derived.Below
import Derived.Deep.Slices
import Derived.Deep.Fields
set_option maxRecDepth 100000
set_option maxHeartbeats 8000000
set_option linter.all false
namespace Go.Proofs.YteijjhahgabalaaGreat
open Go.ChangeShapes Go.WideShapes Go.RowKit Go.Deep
def fP (x:Int):Prop:= -9223372036854775808≤x∧x≤9223372036854775807
def U8 (x:Int):Prop:=0≤x∧x≤255
theorem pZ {n:Int} (h:(Lit.int .i64 n).wf=true):fP n:=by
 simp only[Lit.wf,IntKind.min,IntKind.max,IntKind.signed,IntKind.bits,Bool.and_eq_true,decide_eq_true_eq,if_true] at h;unfold fP;omega
theorem u8_of_wf {n:Int} (h:(Lit.int .u8 n).wf=true):U8 n:=by
 simp only[Lit.wf,IntKind.min,IntKind.max,IntKind.signed,IntKind.bits,Bool.and_eq_true] at h;unfold U8;simp at h;omega
theorem cP {k:IntKind} {a b:Int} (h:a=b):Ending.returned (.int k a)= .returned (.int k b):=by rw[h]
theorem bH {a b:Bool} (h:a=b):Ending.returned (.bool a)= .returned (.bool b):=by rw[h]
theorem oJ {a b c d:Int} (h:a=c) (k:b=d):Ending.returned (.tuple #[.int .i64 a,.int .i64 b])= .returned (.tuple #[.int .i64 c,.int .i64 d]):=by rw[h,k]
theorem Hp {l:List Int} (h:l.length=2):∃a b,l=[a,b]:=by
 match l,h with
 | [a,b],_=>exact⟨a,b,rfl⟩
theorem Ez {l:List Int} (h:l.length=3):∃a b c,l=[a,b,c]:=by
 match l,h with
 | [a,b,c],_=>exact⟨a,b,c,rfl⟩
theorem list_four {l:List Int} (h:l.length=4):∃a b c d,l=[a,b,c,d]:=by
 match l,h with
 | [a,b,c,d],_=>exact⟨a,b,c,d,rfl⟩
section
variable{H:Type} {enc:TypeId×Value→H} {P:Program} {w:World} {base:Nat} {spare:Nat→Bool} {held:Bool} {t:TypeId} {v:Value} {r:Reach}
theorem qo {n:Nat} {e:TypeId} (ht:P.underlying t=some (.array n e)) (h:Value.okWide P w r base t v):∃cs,v= .agg cs∧cs.size=P.cellsOf t:=by
 simp only[Value.okWide,ht] at h;obtain⟨cs,h1,h2,_⟩:=h;exact⟨cs,h1,h2⟩
theorem open_int_array {n:Nat} {e:TypeId} {k:IntKind} {b0:Nat} {d:DataW H} {p:List MemPlace} (ht:P.underlying t=some (.array n e)) (he:P.underlying e=some (.int k)) (hc:P.cellsOf e=1) (hC:P.cellsOf t=n)
 (hv:Value.okWide P w r b0 t v) (h:DataW.Trod enc P w base spare held t v d p):
 ∃zs:List Int,zs.length=n∧v= .agg (zs.map (Value.int k)).toArray∧∀z∈zs,(Lit.int k z).wf=true:=by
 obtain⟨cs,rfl,hsz⟩:=qo ht hv;rw[hC] at hsz;obtain⟨fuel,hf⟩:=h;obtain⟨xs,m,_,hx,_,hl,hg⟩:=DataW.trod_array ht hf;have key:∀i,i<n→∃z,cs.toList[i]? =some (Value.int k z)∧(Lit.int k z).wf=true:=by
  intro i hi;have h1:=hg i hi;rw[hc] at h1;have hxi:xs[i]? =some (xs[i]'(by omega)):=List.getElem?_eq_getElem (by omega);rw[hxi] at h1;have hlen:cs.toList.length=n:=by simpa using hsz
  have e1:(((Value.agg cs).cells.toList).drop (i*1)).take 1=[cs.toList[i]'(by omega)]:=by
   show(cs.toList.drop (i*1)).take 1=_;rw[Nat.mul_one,List.drop_eq_getElem_cons (by omega)];rfl
  rw[e1] at h1;obtain⟨z,hz,_,hw⟩:=DataW.trod_int he h1;refine⟨z,?_,hw⟩;rw[List.getElem?_eq_getElem (by omega)];simpa using hz
 obtain⟨f,hfz⟩:=choose_lt key;refine⟨(List.range n).map f,by simp,?_,?_⟩
 ·congr 1;apply Array.ext';apply List.ext_getElem?;intro i;by_cases hi:i<n
  ·rw[(hfz i hi).1];simp[hi]
  ·rw[List.getElem?_eq_none (by simp;omega),List.getElem?_eq_none (by simp;omega)]
 ·intro z hz;obtain⟨i,hi,rfl⟩:=List.mem_map.1 hz;exact(hfz i (List.mem_range.1 hi)).2
def uq (k:IntKind) (w:World) (v:Value) (zs:List Int):Prop:=
 ∃a cap,v= .slice a zs.length cap∧zs.length≤maxLen∧(0<zs.length→∃b off,a=some ⟨b,off,none⟩∧∀i,i<zs.length→w.cell? ⟨b,off+i,none⟩=some (.int k (zs.getD i 0)))∧∀n∈zs,(Lit.int k n).wf=true
theorem mh {w:World} {a:Addr} {v:Value} (h:w.cell? a=some v):a.spot=none:=by
 unfold World.cell? at h
 split at h
 ·split at h
  ·simp at h
  ·rename_i hs;simpa using hs
 ·simp at h
theorem G6 {e:TypeId} {k:IntKind} {b0:Nat} {d:DataW H} {p:List MemPlace} (ht:P.underlying t=some (.slice e)) (he:P.underlying e=some (.int k)) (hc:P.cellsOf e=1)
 (hv:Value.okWide P w r b0 t v) (h:DataW.Trod enc P w base (fun _=>true) held t v d p):∃zs,uq k w v zs:=by
 obtain⟨a,len,cap,rfl⟩:=okWide_slice ht hv;obtain⟨fuel,hf⟩:=h;rcases open_slice1 ht hc hf with⟨hcs,_⟩|⟨x,l,c,m,n,V,D,Pl,hcs,_,hl,hm,hmm,_,hx⟩
 ·simp[Value.cells] at hcs;obtain⟨rfl,rfl,rfl⟩:=hcs;exact⟨[],none,0,rfl,Nat.zero_le _,fun h=>absurd h (Nat.lt_irrefl _),by simp⟩
 ·simp[Value.cells] at hcs;obtain⟨rfl,rfl,rfl⟩:=hcs;have hmc:m=cap:=by simpa using hmm
  have key:∀i,i<len→∃z,w.cell? (x.add i)=some (Value.int k z)∧(Lit.int k z).wf=true:=by
   intro i hi;obtain⟨h1,h2⟩:=hx i (by omega);obtain⟨z,hz,_,hw⟩:=DataW.trod_int he h2;simp at hz;exact⟨z,by rw[h1,hz],hw⟩
  obtain⟨f,hfz⟩:=choose_lt key;refine⟨(List.range len).map f,some x,cap,by simp,by simp;omega,?_,?_⟩
  ·intro h0;have h0':0<len:=by simpa using h0
   have hs:x.spot=none:=by
    have:=mh (hfz 0 h0').1;simpa[Addr.add] using this
   refine⟨x.block,x.off,by cases x;simp_all,fun i hi=>?_⟩;have hi':i<len:=by simpa using hi
   have h1:=(hfz i hi').1;have e:x.add i=⟨x.block,x.off+i,none⟩:=by
    unfold Addr.add
    split
    ·rename_i h;subst h;cases x;simp_all
    ·rfl
   rw[e] at h1;rw[h1];simp[List.getD,hi']
  ·intro z hz;obtain⟨i,hi,rfl⟩:=List.mem_map.1 hz;exact(hfz i (List.mem_range.1 hi)).2
theorem qw {w:World} {a:Addr} {v:Value} (h:w.cell? a=some v):a.block<w.heap.size:=by
 unfold World.cell? at h;cases hb:w.heap[a.block]? with
 |none=>rw[hb] at h;simp at h
 |some o=>exact(Array.getElem?_eq_some_iff.1 hb).1
theorem vP (a:Addr) (n:Nat):(a.add n).block=a.block:=by
 unfold Addr.add;split<;>rfl
end
end Go.Proofs.YteijjhahgabalaaGreat
