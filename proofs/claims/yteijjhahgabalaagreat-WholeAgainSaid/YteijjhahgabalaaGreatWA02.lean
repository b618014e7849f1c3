/- Blocks of the heap known whole, and what a call leaves of the others: plain lemmas over any program. -/
import Derived.WalkKit
import Derived.WalkSmall
import Derived.Below
import Derived.Deep.Draws
set_option maxRecDepth 100000
set_option maxHeartbeats 8000000
set_option linter.all false
namespace Go.Proofs.YteijjhahgabalaaGreat
open Go.RowKit
def am (w:World) (b:Nat) (vs:List Value) (T:TypeId):Prop:=w.heap[b]? =some (.cells vs.toArray T (0,0))
theorem am.lt {w:World} {b:Nat} {vs:List Value} {T:TypeId} (h:am w b vs T):b<w.heap.size:=(Array.getElem?_eq_some_iff.1 h).1
theorem am.cell {w:World} {b:Nat} {vs:List Value} {T:TypeId} (h:am w b vs T) {i:Nat} {v:Value} (hv:vs[i]? =some v):w.cell? ⟨b,i,none⟩=some v:=by
 unfold World.cell?;rw[h];simpa using hv
theorem am.frozen {w:World} {b:Nat} {vs:List Value} {T:TypeId} (h:am w b vs T) (i:Nat):w.frozen? ⟨b,i,none⟩=false:=by
 unfold World.frozen?;rw[h];simp
theorem am.set {w:World} {b:Nat} {vs:List Value} {T:TypeId} (h:am w b vs T) (i:Nat) (v:Value):am (w.setCell ⟨b,i,none⟩ v) b (vs.set i v) T:=by
 unfold am World.setCell;rw[Array.getElem?_modify];simp only[if_true];rw[h];simp
theorem am.other {w:World} {b:Nat} {vs:List Value} {T:TypeId} (h:am w b vs T) (a:Addr) (v:Value) (hb:b≠a.block):am (w.setCell a v) b vs T:=by
 unfold am;rw[Below.heap_setCell _ _ _ _ hb];exact h
theorem am.alloc {w:World} {b:Nat} {vs:List Value} {T:TypeId} (h:am w b vs T) (o:Obj):am (w.alloc o) b vs T:=by
 unfold am;rw[Below.heap_alloc _ _ _ h.lt];exact h
theorem am.new (w:World) (vs:Array Value) (T:TypeId):am (w.alloc (.cells vs T)) w.heap.size vs.toList T:=by
 unfold am;show(w.heap.push _)[w.heap.size]? =_;simp
theorem am.drew {w:World} {b:Nat} {vs:List Value} {T:TypeId} (h:am w b vs T) (n:Nat):am (w.drewN n) b vs T:=h
theorem am.drew1 {w:World} {b:Nat} {vs:List Value} {T:TypeId} (h:am w b vs T):am w.drew b vs T:=h
structure ae (S:List Nat) (w w':World):Prop where
 os:w'.os=w.os
 tape:w'.tape=w.tape
 output:w'.output=w.output
 size:w.heap.size≤w'.heap.size
 block:∀k,k<w.heap.size→k∉S→w'.heap[k]? =w.heap[k]?
theorem ae.refl (S:List Nat) (w:World):ae S w w:=⟨rfl,rfl,rfl,Nat.le_refl _,fun _ _ _=>rfl⟩
theorem ae.trans {S:List Nat} {a b c:World} (h:ae S a b) (k:ae S b c):ae S a c:=
 ⟨k.os.trans h.os,k.tape.trans h.tape,k.output.trans h.output,Nat.le_trans h.size k.size,fun i hi hn=>(k.block i (Nat.lt_of_lt_of_le hi h.size) hn).trans (h.block i hi hn)⟩
theorem ae.mono {S S':List Nat} {a b:World} (h:ae S a b) (hs:∀k∈S,k∈S'):ae S' a b:=
 ⟨h.os,h.tape,h.output,h.size,fun k hk hn=>h.block k hk (fun hm=>hn (hs k hm))⟩
theorem ae.widen {S S':List Nat} {a b c:World} (h:ae S a b) (k:ae S' b c) (hs:∀x∈S',x∈S∨a.heap.size≤x):ae S a c:=
 ⟨k.os.trans h.os,k.tape.trans h.tape,k.output.trans h.output,Nat.le_trans h.size k.size,fun i hi hn=>
  (k.block i (Nat.lt_of_lt_of_le hi h.size) (fun hm=>(hs i hm).elim hn (fun hge=>by omega))).trans (h.block i hi hn)⟩
theorem ae.drew {S:List Nat} {a b:World} (h:ae S a b) (n:Nat):ae S a (b.drewN n):=⟨h.os,h.tape,h.output,h.size,h.block⟩
theorem ae.drew1 {S:List Nat} {a b:World} (h:ae S a b):ae S a b.drew:=⟨h.os,h.tape,h.output,h.size,h.block⟩
theorem ae.alloc {S:List Nat} {a b:World} (h:ae S a b) (o:Obj):ae S a (b.alloc o):=
 ⟨h.os,h.tape,h.output,by simp;have:=h.size;omega,fun k hk hn=>(Below.heap_alloc _ _ _ (Nat.lt_of_lt_of_le hk h.size)).trans (h.block k hk hn)⟩
theorem ae.set {S:List Nat} {a b:World} (h:ae S a b) (p:Addr) (v:Value) (hp:p.block∈S∨a.heap.size≤p.block):ae S a (b.setCell p v):=
 ⟨h.os,h.tape,h.output,by simp[World.setCell];exact h.size,fun k hk hn=>(Below.heap_setCell _ _ _ _ (fun e=>by subst e;exact hp.elim hn (fun hge=>by omega))).trans (h.block k hk hn)⟩
theorem ae.below {S:List Nat} {w w':World} (h:ae S w w') {B:Nat} (hB:B≤w.heap.size) (hs:∀k∈S,B≤k):Below B w w':=
 ⟨h.os,h.tape,h.output,h.size,fun k hk=>h.block k (by omega) (fun hm=>by have:=hs k hm;omega)⟩
theorem ae.of_below {w w':World} (h:Below w.heap.size w w'):ae [] w w':=⟨h.os,h.tape,h.output,h.size,fun k hk _=>h.block k hk⟩
theorem ae.of_grown {S:List Nat} {w w':World} {row:Option Nat} (hg:w.grownBy w' row) (hr:∀k,row=some k→k∈S∨w.heap.size≤k):ae S w w':=
 ⟨hg.os,hg.tape,hg.output,hg.size,fun k hk hn=>hg.block k hk (fun e=>(hr k e.symm).elim hn (fun hge=>by omega))⟩
theorem am.frm {w w':World} {b:Nat} {vs:List Value} {T:TypeId} (h:am w b vs T) {S:List Nat} (hf:ae S w w') (hb:b∉S):am w' b vs T:=by
 unfold am;rw[hf.block b h.lt hb];exact h
theorem ae.cell {S:List Nat} {w w':World} (hf:ae S w w') {a:Addr} {v:Value} (h:w.cell? a=some v) (hb:a.block∉S):w'.cell? a=some v:=by
 have hlt:a.block<w.heap.size:=by
  unfold World.cell? at h;cases hb:w.heap[a.block]? with
  |none=>rw[hb] at h;simp at h
  |some o=>exact(Array.getElem?_eq_some_iff.1 hb).1
 rw[World.cell?_of_block (w:=w) (hf.block a.block hlt hb)];exact h
def Hy (p:Prop):Prop:=p
theorem Hy.o {p:Prop} (h:Hy p):p:=h
theorem aH {p:Prop} (h:p):Hy p:=h
theorem aF {S:List Nat} {w:World}:ae S w w:=ae.refl S w
theorem aD {S:List Nat} {w w':World} (h:ae S w w':=by repeat (first|exact ae.refl _ _|apply ae.drew1|apply ae.drew)):ae S w w':=h
theorem aE {S:List Nat} {w w':World} (h:ae S w w':=by repeat (first|exact ae.refl _ _|apply ae.drew1|apply ae.drew|apply ae.alloc)):ae S w w':=h
theorem aA {S:List Nat} {w w':World} (h:ae S w w':=by repeat (first|exact ae.refl _ _|apply ae.drew1|apply ae.alloc)):ae S w w':=h
theorem aU {b o:Nat} {v:Value} {w:World}:ae [b] w (w.setCell ⟨b,o,none⟩ v):=(ae.refl _ _).set _ _ (.inl (by simp))
theorem aK {p:Prop} (h:p:=by kernel_rfl):p:=h
theorem aS {p:Prop} (h:p:=by simp):p:=h
theorem aO {p:Prop} (h:p:=by omega):p:=h
theorem aQ {p:Prop} (h:p:=by simp;omega):p:=h
theorem aJ {p:Prop} (h:p:=by decide):p:=h
theorem aV {p:Prop} (h:p:=by simp;have:=HN.o;omega):p:=h
theorem aC {p:Prop} (h:p:=by simp[Value.oneCell']):p:=h
theorem aM {p:Prop} (h:p:=by unfold maxLen;omega):p:=h
theorem aB {p:Prop} [Decidable p] (h:¬p:=by omega):decide p=false:=decide_eq_false h
theorem aT {p:Prop} [Decidable p] (h:p:=by omega):decide p=true:=decide_eq_true h
theorem aX {P:Program} (x:Bool) (w:World):(Op.unary .not (.bool x)).run P w= .ok (.bool (!x)) w:=rfl
theorem aY {P:Program} (fn:Fn) (first cap:Array Value) (w:World):(Instr.makeFunc fn first cap).run P w= .ok (.func fn first cap) w:=rfl
theorem aI {j n:Nat} (h:j<n:=by omega):decide ((j:Int)<0)=false∧decide ((n:Int)≤j)=false∧decide (n≤j)=false:=⟨decide_eq_false (by omega),decide_eq_false (by omega),decide_eq_false (by omega)⟩
theorem aP {j n:Nat} (h:j<n:=by omega):decide ((0:Int)≤j)=true∧decide ((j:Int)<n)=true∧decide (j<n)=true:=⟨decide_eq_true (by omega),decide_eq_true (by omega),decide_eq_true h⟩
instance:Coe Int Value:=⟨.int .i64⟩
instance:Coe Nat Value:=⟨fun n=>.int .i64 n⟩
instance:Coe Bool Value:=⟨.bool⟩
instance(b:Nat):CoeDep (Option Nat) (some b) Value:=⟨.pointer (some ⟨b,0,none⟩)⟩
instance(a b:Nat):CoeDep (Nat×Nat) (a,b) Addr:=⟨⟨a,b,none⟩⟩
end Go.Proofs.YteijjhahgabalaaGreat
