/- How a law's arguments are opened: plain lemmas over any program. An array of integers by value; a slice of integers; a slice of structs of integer fields. -/
import Derived.WalkKit
import Derived.ProofKit
import Derived.OpenShut
import Derived.ChangeOld
import Derived.Below
import Derived.Deep.Slices
import Derived.Deep.Fields
set_option maxRecDepth 100000
set_option maxHeartbeats 8000000
set_option linter.all false
namespace Go.Proofs.YteijjhahgabalaaGreat
open Go.ChangeShapes Go.WideShapes Go.RowKit Go.Deep
def jp(x:Int):Prop:= -9223372036854775808<=x/\x<=9223372036854775807
def U8(x:Int):Prop:=0<=x/\x<=255
variable{n:Int}
theorem tK(h:(Lit.int .i64 n).wf=true):jp n:=by
 simp only[Lit.wf,IntKind.min,IntKind.max,IntKind.signed,IntKind.bits,Bool.and_eq_true,decide_eq_true_eq,if_true] at h;unfold jp;omega
theorem u8_of_wf(h:(Lit.int .u8 n).wf=true):U8 n:=by
 simp only[Lit.wf,IntKind.min,IntKind.max,IntKind.signed,IntKind.bits,Bool.and_eq_true] at h;unfold U8;simp at h;omega
variable{a b:Int}
theorem eW{k:IntKind}(h:a=b):Ending.returned (.int k a)= .returned (.int k b):=by rw[h]
theorem l9{a b:Bool}(h:a=b):Ending.returned (.bool a)= .returned (.bool b):=by rw[h]
theorem sg{c d:Int}(h:a=c)(k:b=d):Ending.returned (.tuple #[.int .i64 a,.int .i64 b])= .returned (.tuple #[.int .i64 c,.int .i64 d]):=by rw[h,k]
theorem list_four{l:List Int}(h:l.length=4):∃a b c d,l=[a,b,c,d]:=by
 match l,h with
 | [a,b,c,d],_=>exact⟨a,b,c,d,rfl⟩
section
variable{H:Type}{enc:TypeId×Value->H}{P:Program}{w:World}{base:Nat}{spare:Nat->Bool}{held:Bool}{t:TypeId}{v:Value}{r:Reach}
variable{n:Nat}{e:TypeId}
theorem uG(ht:P.underlying t=some (.array n e))(h:Value.okWide P w r base t v):∃cs,v= .agg cs/\cs.size=P.cellsOf t:=by
 simp only[Value.okWide,ht] at h;obtain⟨cs,h1,h2,_⟩:=h;exact⟨cs,h1,h2⟩
theorem open_int_array{k:IntKind}{b0:Nat}{d:DataW H}{p:List MemPlace}(ht:P.underlying t=some (.array n e))(u:P.underlying e=some (.int k))(s:P.cellsOf e=1)(q:P.cellsOf t=n)(hv:Value.okWide P w r b0 t v)(h:DataW.Trod enc P w base spare held t v d p):
 ∃zs:List Int,zs.length=n/\v= .agg (zs.map (Value.int k)).toArray/\∀z∈zs,(Lit.int k z).wf=true:=by
 obtain⟨cs,rfl,b⟩:=uG ht hv;rw[q] at b;obtain⟨fuel,x⟩:=h;obtain⟨xs,m,_,B,_,hl,y⟩:=DataW.trod_array ht x;have j:∀i,i<n->∃z,cs.toList[i]? =some (Value.int k z)/\(Lit.int k z).wf=true:=by
  intro i hi;have h1:=y i hi;rw[s] at h1;have c:xs[i]? =some (xs[i]'(by omega)):=List.getElem?_eq_getElem (by omega);rw[c] at h1;have l:cs.toList.length=n:=by simpa using b
  have o:(((Value.agg cs).cells.toList).drop (i*1)).take 1=[cs.toList[i]'(by omega)]:=by
   show(cs.toList.drop (i*1)).take 1=_;rw[Nat.mul_one,List.drop_eq_getElem_cons (by omega)];rfl
  rw[o] at h1;obtain⟨z,g,_,A⟩:=DataW.trod_int u h1;refine⟨z,?_,A⟩;rw[List.getElem?_eq_getElem (by omega)];simpa using g
 obtain⟨f,a⟩:=choose_lt j;refine⟨(List.range n).map f,by simp,?_,?_⟩
 ·congr 1;apply Array.ext';apply List.ext_getElem?;intro i;by_cases hi:i<n
  ·rw[(a i hi).1];simp[hi]
  ·rw[List.getElem?_eq_none (by simp;omega),List.getElem?_eq_none (by simp;omega)]
 ·intro z g;obtain⟨i,hi,rfl⟩:=List.mem_map.1 g;exact(a i (List.mem_range.1 hi)).2
def B7(k:IntKind)(w:World)(v:Value)(zs:List Int):Prop:=
 ∃a cap,v= .slice a zs.length cap/\zs.length<=maxLen/\(0<zs.length->∃b off,a=some ⟨b,off,none⟩/\∀i,i<zs.length->w.cell? ⟨b,off+i,none⟩=some (.int k (zs.getD i 0)))/\∀n∈zs,(Lit.int k n).wf=true
variable{w:World}{a:Addr}{v:Value}
theorem oK(h:w.cell? a=some v):a.spot=none:=by
 unfold World.cell? at h
 split at h
 ·split at h
  ·simp at h
  ·rename_i hs;simpa using hs
 ·simp at h
theorem qu(h:w.cell? a=some v):a.block<w.heap.size:=by
 unfold World.cell? at h;cases b:w.heap[a.block]? with
 |none=>rw[b] at h;simp at h
 |some o=>exact(Array.getElem?_eq_some_iff.1 b).1
theorem ta(a:Addr)(n:Nat):(a.add n).block=a.block:=by
 unfold Addr.add;split<;>rfl
end
end Go.Proofs.YteijjhahgabalaaGreat
