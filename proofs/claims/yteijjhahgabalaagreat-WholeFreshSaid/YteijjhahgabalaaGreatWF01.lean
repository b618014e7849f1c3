/- Blocks of the heap known whole, and what a call leaves of the others: plain lemmas over any program. -/
import Derived.WalkKit
import Derived.Deep.Quiet
import Derived.WalkSmall
import Derived.Below
import Derived.Deep.Draws
set_option maxRecDepth 100000
set_option maxHeartbeats 8000000
set_option linter.all false
namespace Go.Proofs.YteijjhahgabalaaGreat
open Go.RowKit
def aq(w:World)(b:Nat)(vs:List Value)(T:TypeId):Prop:=w.heap[b]? =some (.cells vs.toArray T (0,0))
variable{w:World}{b:Nat}{vs:List Value}{T:TypeId}
theorem aq.lt(h:aq w b vs T):b<w.heap.size:=(Array.getElem?_eq_some_iff.1 h).1
theorem aq.cell{w:World}{b:Nat}{vs:List Value}{T:TypeId}(h:aq w b vs T){i:Nat}{v:Value}(hv:vs[i]? =some v):w.cell? ⟨b,i,none⟩=some v:=by
 unfold World.cell?;rw[h];simpa using hv
theorem aq.frozen{w:World}{b:Nat}{vs:List Value}{T:TypeId}(h:aq w b vs T)(i:Nat):w.frozen? ⟨b,i,none⟩=false:=by
 unfold World.frozen?;rw[h];simp
theorem aq.set(h:aq w b vs T)(i:Nat)(v:Value):aq (w.setCell ⟨b,i,none⟩ v) b (vs.set i v) T:=by
 unfold aq World.setCell;rw[Array.getElem?_modify];simp only[if_true];rw[h];simp
theorem aq.other(h:aq w b vs T)(a:Addr)(v:Value)(c:b≠a.block):aq (w.setCell a v) b vs T:=by
 unfold aq;rw[Below.heap_setCell _ _ _ _ c];exact h
theorem aq.alloc(h:aq w b vs T)(o:Obj):aq (w.alloc o) b vs T:=by
 unfold aq;rw[Below.heap_alloc _ _ _ h.lt];exact h
theorem aq.new(w:World)(vs:Array Value)(T:TypeId):aq (w.alloc (.cells vs T)) w.heap.size vs.toList T:=by
 unfold aq;show(w.heap.push _)[w.heap.size]? =_;simp
theorem aq.drew(h:aq w b vs T)(n:Nat):aq (w.drewN n) b vs T:=h
theorem aq.Rs(h:aq w b vs T):aq w.drew b vs T:=h
structure af(S:List Nat)(w w':World):Prop where
 os:w'.os=w.os
 tape:w'.tape=w.tape
 output:w'.output=w.output
 size:w.heap.size<=w'.heap.size
 block:∀k,k<w.heap.size->k∉S->w'.heap[k]? =w.heap[k]?
theorem af.refl(S:List Nat)(w:World):af S w w:=⟨rfl,rfl,rfl,Nat.le_refl _,λ_ _ _=>rfl⟩
theorem af.trans{S:List Nat}{a b c:World}(h:af S a b)(k:af S b c):af S a c:=
 ⟨k.os.trans h.os,k.tape.trans h.tape,k.output.trans h.output,Nat.le_trans h.size k.size,λi hi hn=>(k.block i (Nat.lt_of_lt_of_le hi h.size) hn).trans (h.block i hi hn)⟩
theorem af.mono{S S':List Nat}{a b:World}(h:af S a b)(hs:∀k∈S,k∈S'):af S' a b:=
 ⟨h.os,h.tape,h.output,h.size,λk c hn=>h.block k c (λhm=>hn (hs k hm))⟩
variable{b a:World}{S:List Nat}
theorem af.Rx{S':List Nat}{c:World}(h:af S a b)(k:af S' b c)(hs:∀x∈S',x∈S\/a.heap.size<=x):af S a c:=
 ⟨k.os.trans h.os,k.tape.trans h.tape,k.output.trans h.output,Nat.le_trans h.size k.size,λi hi hn=>
  (k.block i (Nat.lt_of_lt_of_le hi h.size) (λhm=>(hs i hm).elim hn (λd=>by omega))).trans (h.block i hi hn)⟩
theorem af.drew(h:af S a b)(n:Nat):af S a (b.drewN n):=⟨h.os,h.tape,h.output,h.size,h.block⟩
theorem af.Rs(h:af S a b):af S a b.drew:=⟨h.os,h.tape,h.output,h.size,h.block⟩
theorem af.alloc(h:af S a b)(o:Obj):af S a (b.alloc o):=
 ⟨h.os,h.tape,h.output,by simp;have:=h.size;omega,λk c hn=>(Below.heap_alloc _ _ _ (Nat.lt_of_lt_of_le c h.size)).trans (h.block k c hn)⟩
theorem af.set(h:af S a b)(p:Addr)(v:Value)(f:p.block∈S\/a.heap.size<=p.block):af S a (b.setCell p v):=
 ⟨h.os,h.tape,h.output,by simp[World.setCell];exact h.size,λk d hn=>(Below.heap_setCell _ _ _ _ (λe=>by subst e;exact f.elim hn (λc=>by omega))).trans (h.block k d hn)⟩
variable{w':World}
theorem af.below(h:af S w w'){B:Nat}(a:B<=w.heap.size)(hs:∀k∈S,B<=k):Below B w w':=
 ⟨h.os,h.tape,h.output,h.size,λk b=>h.block k (by omega) (λhm=>by have:=hs k hm;omega)⟩
theorem af.SM{row:Option Nat}(a:w.grownBy w' row)(d:∀k,row=some k->k∈S\/w.heap.size<=k):af S w w':=
 ⟨a.os,a.tape,a.output,a.size,λk c hn=>a.block k c (λe=>(d k e.symm).elim hn (λb=>by omega))⟩
variable{b:Nat}
theorem aq.Rr(h:aq w b vs T)(c:af S w w')(a:b∉S):aq w' b vs T:=by
 unfold aq;rw[c.block b h.lt a];exact h
theorem af.cell{S:List Nat}{w w':World}(d:af S w w'){a:Addr}{v:Value}(h:w.cell? a=some v)(b:a.block∉S):w'.cell? a=some v:=by
 have c:a.block<w.heap.size:=by
  unfold World.cell? at h;cases b:w.heap[a.block]? with
  |none=>rw[b] at h;simp at h
  |some o=>exact(Array.getElem?_eq_some_iff.1 b).1
 rw[World.cell?_of_block (w:=w) (d.block a.block c b)];exact h
def Hy(p:Prop):Prop:=p
variable{p:Prop}
theorem Hy.o(h:Hy p):p:=h
theorem aH(h:p):Hy p:=h
theorem aF:af S w w:=af.refl S w
theorem aD(h:af S w w':=by repeat (first|exact af.refl _ _|apply af.Rs|apply af.drew)):af S w w':=h
theorem aE(h:af S w w':=by repeat (first|exact af.refl _ _|apply af.Rs|apply af.drew|apply af.alloc)):af S w w':=h
theorem aA(h:af S w w':=by repeat (first|exact af.refl _ _|apply af.Rs|apply af.alloc)):af S w w':=h
theorem aU{o:Nat}{v:Value}:af [b] w (w.setCell ⟨b,o,none⟩ v):=(af.refl _ _).set _ _ (.inl (by simp))
theorem aK(h:p:=by kernel_rfl):p:=h
theorem aS(h:p:=by simp):p:=h
theorem aO(h:p:=by omega):p:=h
theorem aQ(h:p:=by simp;omega):p:=h
theorem aJ(h:p:=by decide):p:=h
theorem aV(h:p:=by simp;have:=HN.o;omega):p:=h
theorem aC(h:p:=by simp[Value.oneCell']):p:=h
theorem aM(h:p:=by unfold maxLen;omega):p:=h
theorem aB[Decidable p](h:¬p:=by omega):decide p=false:=decide_eq_false h
theorem aT[Decidable p](h:p:=by omega):decide p=true:=decide_eq_true h
theorem aX{P:Program}(x:Bool)(w:World):(Op.unary .not (.bool x)).run P w= .ok (.bool (!x)) w:=rfl
theorem aY{P:Program}(a:Fn)(first cap:Array Value)(w:World):(Instr.makeFunc a first cap).run P w= .ok (.func a first cap) w:=rfl
variable{j n:Nat}
theorem aI(h:j<n:=by omega):decide ((j:Int)<0)=false/\decide ((n:Int)<=j)=false/\decide (n<=j)=false:=⟨decide_eq_false (by omega),decide_eq_false (by omega),decide_eq_false (by omega)⟩
theorem aP(h:j<n:=by omega):decide ((0:Int)<=j)=true/\decide ((j:Int)<n)=true/\decide (j<n)=true:=⟨decide_eq_true (by omega),decide_eq_true (by omega),decide_eq_true h⟩
theorem gF{P:Program}{n:FuncId}{a:Array Value}{v:Ending}{R:World->Prop}{Q:Ending->World->Prop}(x:Calls P n a w (λe w'=>e=v/\R w'))(h:∀w',R w'->Q v w'):Calls P n a w Q:=x.mono (λe w' ⟨y,z⟩=>by subst y;exact h w' z)
instance:Coe Int Value:=⟨.int .i64⟩
instance:Coe Nat Value:=⟨fun n=>.int .i64 n⟩
instance:Coe Bool Value:=⟨.bool⟩
instance(b:Nat):CoeDep (Option Nat) (some b) Value:=⟨.pointer (some ⟨b,0,none⟩)⟩
instance(a b:Nat):CoeDep (Nat×Nat) (a,b) Addr:=⟨⟨a,b,none⟩⟩
def ae:=@And.intro
def ac:=@if_neg
def zq02:=@And.right
def ad:=@if_pos
def bP:=@World.size_alloc
def cH:=@Int.toNat_natCast
def ba:=@Nat.le_refl
def am:=@absurd
def eB:=@List.getElem?_eq_getElem
def xi:=@wpQuiet_nil
def BG:=@And.left
def dh:=@decide_eq_false
def br:=@if_false
def ef:=@decide_eq_true
def dv:=@Nat.le_trans
def bt:=@if_true
def ix:=@Int.eq_ofNat_of_zero_le
def fc:=@List.mem_append
def fT:=@Calls.mono
def ve:=@Nat.add_zero
def eO:=@bodyPost_ret
def iL:=@List.getElem?_map
def lA:=@List.length_replicate
def fI:=@decide_false
def fA:=@Nat.zero_le
def gS:=@Bool.true_and
def ko:=@Bool.false_eq_true
def pH:=@List.getElem?_eq_some_iff
def gi:=@decide_true
def pI:=@List.mem_cons_of_mem
def qm:=@List.idxOf_lt_length_iff
def lB:=@List.getElem_mem
def kY:=@List.nodup_cons
def kZ:=@List.length_map
def sJ:=@of_decide_eq_true
def kq:=@List.mem_cons
def lC:=@Bool.false_and
def jM:=@Nat.zero_add
def qn:=@Nat.mul_le_mul_left
def qo:=@List.getElem?_range
def nE:=@Option.some.inj
def pJ:=@List.nodup_append
def sZ:=@List.mem_of_mem_tail
def xn:=@Bool.and_eq_true
def sK:=@wpList_append_own
def sL:=@World.ownsRow_nil
def xo:=@List.getElem?_replicate
def I4:=@Array.getElem?_eq_some_iff
def xp:=@List.length_cons
def s7:=@List.getElem?_set
def BH:=@List.getElem?_eq_none
def y5:=@List.getElem?_take_of_lt
def xq:=@Nat.mul_le_mul_right
def mN:=@info_parts
def BI:=@Option.ne_none_iff_exists'
def BJ:=@List.getElem?_append_left
def sM:=@List.cons.inj
def pK:=@Int.le_refl
def y6:=@List.ext_getElem?
def BL:=@List.length_eq_zero_iff
def vf:=@Nat.mul_le_mul
def FM:=@Classical.byContradiction
def xr:=@List.range_succ
def xu:=@List.map_append
def sN:=@Nat.add_mul
def BM:=@List.map_congr_left
def y7:=@List.mem_range
def BN:=@List.getElem_idxOf
def y8:=@Option.map_some
def y9:=@List.length_set
def FN:=@List.length_filter_le
def FO:=@List.getElem?_of_mem
def FP:=@List.count_le_length
def I5:=@List.getElem?_append_right
def xv:=@Decidable.em
def BO:=@Option.getD_some
def BQ:=@Int.tmod_nonneg
def Mr:=@Bool.eq_iff_iff
def FQ:=@Nat.add_sub_cancel
def FR:=@List.length_append
def I6:=@List.getElem?_drop
def FT:=@Int.tmod_lt_of_pos
def za:=@Int.le_of_eq
def FU:=@List.take_add_one
def BR:=@IntWalk.i64_left
def qp:=@Iff.rfl
def I7:=@toList_madeCells_one
def FV:=@List.length_nil
def FW:=@Exit.noGoto_ret
def I8:=@List.take_succ_cons
def BS:=@Nat.zero_mul
def I9:=@DataW.trod_int
def Q8:=@Nat.lt_of_lt_of_le
def Ja:=@List.set_cons_succ
def Jb:=@List.filter_append
def O6:=@decide_eq_true_eq
def Jc:=@Option.some.injEq
def Jd:=@Nat.lt_trichotomy
def Je:=@List.append_assoc
def Jf:=@List.take_length
def xj:=@Array.ext'
def xk:=@Nat.le_of_lt
def xm:=@Nat.le_of_eq
def FD:=@Nat.le_of_succ_le_succ
def FE:=@List.perm_append_comm
def FF:=@Array.getElem?_toList
def sI:=@congrArg
def Ak:=@List.Perm.refl
def FG:=@List.drop_succ_cons
def Al:=@run_call_load
def Am:=@Nat.lt_irrefl
def An:=@Int.ofNat.inj
def Ao:=@results_none
def FH:=@List.mem_map
def FL:=@Nat.le_of_succ_le
end Go.Proofs.YteijjhahgabalaaGreat
