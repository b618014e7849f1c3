/- scan.New; a table's Node at first; an append as a step of a drawn region. -/
import Derived.Laws.CopyOwn
import Derived.Laws.EntriesVeiled
import Derived.Deep.RegionLaw
import Derived.Test.YteijjhahgabalaaGreatWA32
import Derived.Test.YteijjhahgabalaaGreatWA28
set_option maxRecDepth 100000
set_option maxHeartbeats 8000000
set_option linter.all false
namespace Go.Proofs.YteijjhahgabalaaGreat
open Go.RowKit
open Tryz
theorem FX {P:Program} {ops:Array Oper} {o:Oper} {a:Act} {w:World} {K:Act→World→Prop} {Q:Exit→Act→World→Prop} {E:Prop}
 (hg:o.guard=none) (s x:Operand) (t:TypeId) (hop:o.op=Op.call {callee:=Callee.builtin Builtin.append,args:=#[s,x],argTypes:=#[t,t]})
 (base:Nat) (e:TypeId) (i:TypeInfo) (z:Value) (size bytes:Nat) (ht:P.underlying t=some (.slice e)) (hi:P.info? e=some i) (hz:i.zero=some z)
 (hsize:i.size=size) (hby:i.bytes=bytes) (hzs:z.cells.size=size) (hsz:0<size)
 (v:Value) (n:Nat) (xs:List Value) (hs:a.eval s=v) (hown:w.ownsRow base e size v n xs)
 (ad:Addr) (m c:Nat) (news:List Value) (hx:a.eval x= .slice (some ad) m c) (hl:news.length=m*size) (hnews:∀j u,news[j]? =some u→w.cell? (ad.add j)=some u) (h1:∀u∈news,u.oneCell'=true)
 (h63:n+m≤maxLen) (hbytes:(n+m)*bytes≤140737488355328) (hbase:base≤w.heap.size)
 (hK:∀v' w',w'.ownsRow base e size v' (n+m) (xs++news)→w.grownBy w' v.ownBlock→K (a.put o.dst v') w'):
 if Region.wanted o (yielded ops a.tmps)=true then Oper.wp P o a w K Q else E:=by
 have hw:Region.wanted o (yielded ops a.tmps)=true:=by simp[Region.wanted,hg]
 rw[if_pos hw];obtain⟨v',w',hrun,r1,r2,_⟩:=run_append_own (P:=P) w base t o.type e i z size bytes ht hi hz hsize hby hzs hsz v n xs hown ad m c news hl hnews h1 h63 hbytes hbase;unfold Oper.wp;simp[execOp,hop,resolve,invoke,builtin,hs,hx,hrun,Result.andThen];exact hK v' w' r1 r2
theorem FY {P:Program} {w:World} {ops:Array Oper} {rest:List Oper} {o:Oper} {a:Act} {Q:Exit→Act→World→Prop} (hgd:o.guard=none) (d s:Operand) (dT sT:TypeId)
 (ho:o.op= .call {callee:=.builtin .copy,args:=#[d,s],argTypes:=#[dT,sT]}) (elem:TypeId) (hu:P.underlying dT=some (.slice elem)) (hsz:(P.info? elem).map (·.size)=some 1)
 (g n dCap:Nat) (ad:Addr) (sCap:Nat) (hd:a.eval d= .slice (some ⟨g,0,none⟩) n dCap) (hs:a.eval s= .slice (some ad) n sCap)
 (cur:List Value) (t:TypeId) (hg:am w g cur t) (cs:List Value) (hn:cs.length=n) (hc:cur.length=n)
 (hsrc:∀j v,cs[j]? =some v→w.cell? (ad.add j)=some v) (h1:∀v∈cs,v.oneCell'=true)
 (h:∀w',am w' g cs t→ae [g] w w'→wpList P ops Q rest (a.put o.dst (goInt n)) w'):wpList P ops Q (o::rest) a w:=by
 subst hn;refine wpList_copy_own hgd d s dT sT ho elem hu hsz g 0 cs.length dCap ad cs.length sCap hd hs cur.toArray t hg cs aS hsrc (by simp[hc]) h1 ?_;have e:(cur.toArray.toList.take 0++(cs++cur.toArray.toList.drop (0+cs.length))).toArray=cs.toArray:=by
  rw[List.take_zero,List.nil_append,Nat.zero_add,List.drop_of_length_le (by simp[hc]),List.append_nil]
 rw[e];exact h _ (setRow_heap w g _ _ t (0,0) hg) ⟨rfl,rfl,rfl,by simp[World.setRow],fun k _ hk=>setRow_other w g k _ (by simpa using hk)⟩
section
variable{w:World} {tb:Nat} {P T:List Int}
theorem uk (h:oW w tb P T) {i:Nat} (hi:i<T.length):Calls prog 104 #[some tb,i] w fun e w'=>e= .returned true∧w=w':=by
 have HT:=aH (fS h);have d1:decide ((0:Int)≤(i:Int))=true:=by simp
 have d2:decide ((i:Int)<(T.length:Int))=true:=by simpa using hi
 have d3:decide (i<T.length)=true:=by simpa using hi
 clear h hi;go_enter func104,ntmps104;go_wp2_with fail;refine HT.o.mono ?_;rintro e w' ⟨rfl,rfl⟩;go_wp2;go_ret;exact⟨rfl,rfl⟩
theorem pR (h:oW w tb P T) (hs:du P T) {i:Nat} (hi:i<T.length):Calls prog 94 #[some tb,i] w fun e w'=>e= .returned (jl P (T[i]?.getD 0):Int)∧gh w' tb P T∧ae [tb] w w':=by
 have HH:=aH (uk h hi);have HF:=aH (mz h hs);have HI:=aH hi;have hnot:= @aX prog;have l1:(i:Int)<T.length:=by omega
 clear h hi hs;go_enter func94,ntmps94;go_wp2_with fail;refine HH.o.mono ?_;rintro e w' ⟨rfl,rfl⟩;go_wp2_with fail;refine HF.o.mono ?_;rintro e w' ⟨rfl,hT,hFr⟩;have HQ:=aH (And.intro hT hFr);obtain⟨vp,vt,vup,vnode,vslot,vm,gt,gn,gs,gm,h1, -,h3, -⟩:=hT;have ci:=jN h3 (k:=i) (by have:=HI.o;simpa using this);have ei:(T.map fun x=>(jl P x:Int))[i]?.getD 0=(jl P (T[i]?.getD 0):Int):=by have:=HI.o;simp[this]
 rw[ei] at ci;obtain⟨cap,cur,rfl, -⟩:=h3;have c6:=h1.cell (i:=6) rfl;rw[List.length_map] at c6;clear h1 ei hFr;go_wp2;go_ret;exact⟨rfl,HQ.o⟩
end
theorem J9:(prog.info? 3).map (fun i=>(i.zero,i.size,i.bytes))=some (some (.int .i64 0),1,8):=by kernel_rfl
theorem jG:(prog.info? 3).map (·.size)=some 1:=by kernel_rfl
theorem oY (n:Nat) (hn:n≤1000000) (W:World):(Instr.makeSlice 22 (.int .i64 n) (.int .i64 n)).run prog W= .ok (.slice (some ⟨W.heap.size,0,none⟩) n n) (W.alloc (.cells (List.replicate n (Value.int .i64 0)).toArray 3)):=by
 obtain⟨i0,hi,hz0,hz1,hz2⟩:=info_parts J9;rw[run_make W 22 3 i0 (.int .i64 0) underlying22 hi hz0 .i64 .i64 n n aO aO (by rw[hz2];omega) aO];have e:madeCells (Value.int .i64 0).cells (((n:Int).toNat)*i0.size)=(List.replicate n (Value.int .i64 0)).toArray:=by
  apply Array.ext';rw[hz1];show(madeCells #[Value.int .i64 0] _).toList=_;rw[toList_madeCells_one];simp
 rw[e];simp
section
variable{w:World} {ab gb cap:Nat} {at_ st:Int} {N:List Int}
theorem lf (hab:ab<w.heap.size) (hN:IR w gb (.slice (some ⟨gb,0,none⟩) N.length cap) N) (h1:1≤N.length∧N.length≤32):
 Calls prog 95 #[some ab,at_,st,.slice (some ⟨gb,0,none⟩) N.length cap] w fun e w'=>∃B:mO,e= .returned (some B.kb)∧B.ab=ab∧w.heap.size≤B.kb∧BX w' B ⟨N,at_,st⟩ ⟨0,false,0,0,0⟩∧ae [] w w':=by
 have mk:=oY N.length aO;obtain⟨n,hn⟩:∃n,n=N.length:=⟨_,rfl⟩
 have hgb:=hN.lt;have hcell:∀j v,(N.map (Value.int .i64))[j]? =some v→w.cell? ⟨gb,j,none⟩=some v:=fun j v hv=>by
  obtain⟨_,cur,_,hc,_,hcc⟩:=hN;rw[List.getElem?_map] at hv;cases he:N[j]? with
  |none=>rw[he] at hv;simp at hv
  |some z=>
   have hj:j<N.length:=by
    rcases Nat.lt_or_ge j N.length with h|h
    ·exact h
    ·rw[List.getElem?_eq_none h] at he;simp at he
   rw[he] at hv;have:=hc.cell (i:=j) (hcc j hj);rw[this,he];simpa using hv
 have HC:=aH hcell;have HN:=aH hN;have HAB:=aH hab;have HGB:=aH hgb;have H1:=aH h1;clear hN hab hgb hcell h1;rw[←hn] at mk⊢;have HNN:=aH hn;clear hn;obtain⟨W5,hW5⟩:∃W,W=((((w.alloc (.cells #[some ab] 74)).alloc (.cells #[at_] 3)).alloc (.cells #[st] 3)).alloc (.cells (Array.replicate n (Value.int .i64 0)) 3)).alloc (.cells #[.nilFunc,.slice (some ⟨w.heap.size+1+1+1,0,none⟩) n n,(0:Int),false,(0:Int),(0:Int),(0:Int)] 252):=⟨_,rfl⟩
 have b1:am W5 w.heap.size [some ab] 74:=by
  rw[hW5];exact((((am.new w _ _).alloc _).alloc _).alloc _).alloc _
 have b2:am W5 (w.heap.size+1) [at_] 3:=by
  have:=am.new (w.alloc (.cells #[some ab] 74)) #[at_] 3;rw[World.size_alloc] at this;rw[hW5];exact((this.alloc _).alloc _).alloc _
 have b3:am W5 (w.heap.size+1+1) [st] 3:=by
  have:=am.new ((w.alloc (.cells #[some ab] 74)).alloc (.cells #[at_] 3)) #[st] 3;rw[World.size_alloc,World.size_alloc] at this;rw[hW5];exact(this.alloc _).alloc _
 have b4:am W5 (w.heap.size+1+1+1) (List.replicate n (Value.int .i64 0)) 3:=by
  have:=am.new (((w.alloc (.cells #[some ab] 74)).alloc (.cells #[at_] 3)).alloc (.cells #[st] 3)) (Array.replicate n (Value.int .i64 0)) 3;rw[World.size_alloc,World.size_alloc,World.size_alloc] at this;rw[hW5];simpa using this.alloc _
 have b5:am W5 (w.heap.size+1+1+1+1) [.nilFunc,.slice (some ⟨w.heap.size+1+1+1,0,none⟩) n n,(0:Int),false,(0:Int),(0:Int),(0:Int)] 252:=by
  have:=am.new ((((w.alloc (.cells #[some ab] 74)).alloc (.cells #[at_] 3)).alloc (.cells #[st] 3)).alloc (.cells (Array.replicate n (Value.int .i64 0)) 3)) #[.nilFunc,.slice (some ⟨w.heap.size+1+1+1,0,none⟩) n n,(0:Int),false,(0:Int),(0:Int),(0:Int)] 252;rw[World.size_alloc,World.size_alloc,World.size_alloc,World.size_alloc] at this;rw[hW5];exact this
 have hf5:ae [] w W5:=by rw[hW5];exact((((aF.alloc _).alloc _).alloc _).alloc _).alloc _
 rw[hW5] at b1 b2 b3 b4 b5 hf5;clear hW5 W5;have HB:=aH (And.intro b1 (And.intro b2 (And.intro b3 (And.intro b4 b5))));have HF5:=aH hf5;have HSZ:=aH jG;clear b1 b2 b3 b4 b5 hf5;go_enter func95,ntmps95;go_wp2_with(change wpList _ _ _ ({dst:=some 20,op:=Op.call _,type:=_,pos:=_,after:=_,guard:=_}::_) _ _;go_must(refine FY rfl (.tmp 18) (.tmp 19) 22 22 rfl 3 underlying22 HSZ.o (w.heap.size+1+1+1) n n ⟨gb,0,none⟩ cap rfl rfl (List.replicate n (Value.int .i64 0)) 3 HB.o.2.2.2.1 (N.map (Value.int .i64)) (by rw[List.length_map];exact HNN.o.symm) aS (fun j v hv=>by have:=HF5.o.cell (HC.o j v hv) aS;rw[show(⟨gb,0,none⟩:Addr).add j=⟨gb,j,none⟩ from by unfold Addr.add;by_cases h:j=0<;>simp[h]];exact this) aC ?_);intro W6 hw6 hf6;have h6:=(HB.o.2.2.2.2).frm hf6 aS;have c0:=h6.cell (i:=0) rfl;have cz:=h6.frozen;have HW6:=aH hw6;have HF6:=aH hf6;clear hw6 hf6 h6)
 go_wp2;go_ret;obtain⟨b1,b2,b3,b4,b5⟩:=HB.o;have hf6:=HF6.o;have hst:∀v,ae [w.heap.size+1+1+1+1] W6 (W6.setCell (w.heap.size+1+1+1+1,0) v):=fun v=>aF.set _ _ (.inl aS);have e:=HNN.o;have hX:(JY.n ⟨N,at_,st⟩:Nat)=n:=e.symm;refine⟨⟨w.heap.size+1+1+1+1,w.heap.size+1+1+1,w.heap.size,w.heap.size+1,w.heap.size+1+1,ab⟩,rfl,rfl,by show w.heap.size≤w.heap.size+1+1+1+1;omega,{box:=?_,row:=HW6.o.frm (hst _) aS,h1:=(b1.frm hf6 aQ).frm (hst _) aQ,h2:=(b2.frm hf6 aS).frm (hst _) aS,h3:=(b3.frm hf6 aS).frm (hst _) aS,n32:=by rw[hX,e];exact H1.o.2},?_⟩
 ·rw[hX];exact(b5.frm hf6 aS).set 0 _
 ·exact(HF5.o.widen hf6 (fun z hz=>.inr (by simp at hz;omega))).set _ _ (.inr (by show w.heap.size≤w.heap.size+1+1+1+1;omega))
end
end Go.Proofs.YteijjhahgabalaaGreat
