/- scan.New; a table's Node at first; an append as a step of a drawn region. -/
import Derived.Laws.CopyOwn
import Derived.Laws.EntriesVeiled
import Derived.Deep.RegionLaw
import Derived.Test.YteijjhahgabalaaGreatWF26
import Derived.Test.YteijjhahgabalaaGreatWF23
import Derived.Test.YteijjhahgabalaaGreatWF24
set_option maxRecDepth 100000
set_option maxHeartbeats 8000000
set_option linter.all false
namespace Go.Proofs.YteijjhahgabalaaGreat
open Go.RowKit
open Tryz
variable{P:Program}{ops:Array Oper}{o:Oper}{a:Act}{w:World}{Q:Exit->Act->World->Prop}
theorem qg{K:Act->World->Prop}{E:Prop}(D:o.guard=none)(s x:Operand)(t:TypeId)(y:o.op=Op.call {callee:=Callee.builtin Builtin.append,args:=#[s,x],argTypes:=#[t,t]})(base:Nat)(e:TypeId)(i:TypeInfo)(z:Value)(size bytes:Nat)(ht:P.underlying t=some (.slice e))(hi:P.info? e=some i)(H:i.zero=some z)(h:i.size=size)(r:i.bytes=bytes)(B:z.cells.size=size)(A:0<size)(v:Value)(n:Nat)(xs:List Value)(hs:a.eval s=v)(k:w.ownsRow base e size v n xs)(p:Addr)(m c:Nat)(b:List Value)(G:a.eval x= .slice (some p) m c)(hl:b.length=m*size)(g:∀j u,b[j]? =some u->w.cell? (p.add j)=some u)(h1:∀u∈b,u.oneCell'=true)(q:n+m<=maxLen)(d:(n+m)*bytes<=140737488355328)(f:base<=w.heap.size)(C:∀v' w',w'.ownsRow base e size v' (n+m) (xs++b)->w.grownBy w' v.ownBlock->K (a.put o.dst v') w'):
 if Region.wanted o (yielded ops a.tmps)=true then Oper.wp P o a w K Q else E:=by
 have F:Region.wanted o (yielded ops a.tmps)=true:=by simp[Region.wanted,D]
 rw[ad F];obtain⟨v',w',l,I,J,_⟩:=run_append_own (P:=P) w base t o.type e i z size bytes ht hi H h r B A v n xs k p m c b hl g h1 q d f;unfold Oper.wp;simp[execOp,y,resolve,invoke,builtin,hs,G,l,Result.andThen];exact C v' w' I J
theorem qj{rest:List Oper}(q:o.guard=none)(d s:Operand)(p y:TypeId)(ho:o.op= .call {callee:=.builtin .copy,args:=#[d,s],argTypes:=#[p,y]})(c:TypeId)(A:P.underlying p=some (.slice c))(r:(P.info? c).map (·.size)=some 1)(g n f:Nat)(m:Addr)(i:Nat)(hd:a.eval d= .slice (some ⟨g,0,none⟩) n f)(hs:a.eval s= .slice (some m) n i)(b:List Value)(t:TypeId)(x:aq w g b t)(cs:List Value)(hn:cs.length=n)(u:b.length=n)(l:∀j v,cs[j]? =some v->w.cell? (m.add j)=some v)(h1:∀v∈cs,v.oneCell'=true)(h:∀w',aq w' g cs t->af [g] w w'->wpList P ops Q rest (a.put o.dst (goInt n)) w'):wpList P ops Q (o::rest) a w:=by
 subst hn;refine wpList_copy_own q d s p y ho c A r g 0 cs.length f m cs.length i hd hs b.toArray t x cs aS l (by simp[u]) h1 ?_;have e:(b.toArray.toList.take 0++(cs++b.toArray.toList.drop (0+cs.length))).toArray=cs.toArray:=by
  rw[List.take_zero,List.nil_append,jM,List.drop_of_length_le (by simp[u]),List.append_nil]
 rw[e];exact h _ (setRow_heap w g _ _ t (0,0) x) ⟨rfl,rfl,rfl,by simp[World.setRow],λk _ z=>setRow_other w g k _ (by simpa using z)⟩
section
variable{w:World}{tb:Nat}{P T:List Int}
variable{i:Nat}
theorem LX(h:sO w tb P T)(hi:i<T.length):Calls prog 104 #[some tb,i] w λe w'=>e= .returned true/\w=w':=by
 have a:=aH (jf h);have d1:decide ((0:Int)<=(i:Int))=true:=by simp
 have d2:decide ((i:Int)<(T.length:Int))=true:=by simpa using hi
 have d3:decide (i<T.length)=true:=by simpa using hi
 clear h hi;go_enter func104,ntmps104;go_wp2_with fail;refine gF a.o ?_;rintro w' rfl;go_wp2;go_ret;exact⟨rfl,rfl⟩
theorem IP(h:sO w tb P T)(hs:ea P T)(hi:i<T.length):Calls prog 94 #[some tb,i] w λe w'=>e= .returned (mS P (T[i]?.getD 0):Int)/\jG w' tb P T/\af [tb] w w':=by
 have l:=aH (LX h hi);have j:=aH (pP h hs);have HI:=aH hi;have g:= @aX prog;have l1:(i:Int)<T.length:=by omega
 clear h hi hs;go_enter func94,ntmps94;go_wp2_with fail;refine gF l.o ?_;rintro w' rfl;go_wp2_with fail;refine gF j.o ?_;rintro w' ⟨f,a⟩;have m:=aH (ae f a);obtain⟨r,s,p,b,c,q,gt,gn,gs,gm,h1, -,h3, -⟩:=f;have o:=nm h3 (k:=i) (by have:=HI.o;simpa using this);have d:(T.map λx=>(mS P x:Int))[i]?.getD 0=(mS P (T[i]?.getD 0):Int):=by have:=HI.o;simp[this]
 rw[d] at o;obtain⟨cap,cur,rfl, -⟩:=h3;have n:=h1.cell (i:=6) rfl;rw[kZ] at n;clear h1 d a;go_wp2;go_ret;exact⟨rfl,m.o⟩
end
theorem v8:(prog.info? 3).map (λi=>(i.zero,i.size,i.bytes))=some (some (.int .i64 0),1,8):=by kernel_rfl
theorem DV:(prog.info? 3).map (·.size)=some 1:=by kernel_rfl
theorem Ie(n:Nat)(hn:n<=1000000)(W:World):(Instr.makeSlice 22 (.int .i64 n) (.int .i64 n)).run prog W= .ok (.slice (some ⟨W.heap.size,0,none⟩) n n) (W.alloc (.cells (List.replicate n (Value.int .i64 0)).toArray 3)):=by
 obtain⟨i0,hi,a,b,c⟩:=mN v8;rw[run_make W 22 3 i0 (.int .i64 0) underlying22 hi a .i64 .i64 n n aO aO (by rw[c];omega) aO];have e:madeCells (Value.int .i64 0).cells (((n:Int).toNat)*i0.size)=(List.replicate n (Value.int .i64 0)).toArray:=by
  apply xj;rw[b];show(madeCells #[Value.int .i64 0] _).toList=_;rw[I7];simp
 rw[e];simp
section
variable{w:World}{ab gb cap:Nat}{at_ st:Int}{N:List Int}
theorem E2(p:ab<w.heap.size)(u:IR w gb (.slice (some ⟨gb,0,none⟩) N.length cap) N)(h1:1<=N.length/\N.length<=32):
 Calls prog 95 #[some ab,at_,st,.slice (some ⟨gb,0,none⟩) N.length cap] w λe w'=>∃B:F4,e= .returned (some B.kb)/\B.ab=ab/\w.heap.size<=B.kb/\gv w' B ⟨N,at_,st⟩ ⟨0,false,0,0,0⟩/\af [] w w':=by
 have O:=Ie N.length aO;obtain⟨n,hn⟩:∃n,n=N.length:=⟨_,rfl⟩
 have r:=u.lt;have c:∀j v,(N.map (Value.int .i64))[j]? =some v->w.cell? ⟨gb,j,none⟩=some v:=λj v hv=>by
  obtain⟨_,cur,_,L,_,E⟩:=u;rw[iL] at hv;cases q:N[j]? with
  |none=>rw[q] at hv;simp at hv
  |some z=>
   have hj:j<N.length:=by
    rcases Nat.lt_or_ge j N.length with h|h
    ·exact h
    ·rw[BH h] at q;simp at q
   rw[q] at hv;have:=L.cell (i:=j) (E j hj);rw[this,q];simpa using hv
 have J:=aH c;have Q:=aH u;have I:=aH p;have K:=aH r;have H:=aH h1;clear u p r c h1;rw[<-hn] at O⊢;have l:=aH hn;clear hn;obtain⟨f,b⟩:∃W,W=((((w.alloc (.cells #[some ab] 74)).alloc (.cells #[at_] 3)).alloc (.cells #[st] 3)).alloc (.cells (Array.replicate n (Value.int .i64 0)) 3)).alloc (.cells #[.nilFunc,.slice (some ⟨w.heap.size+1+1+1,0,none⟩) n n,(0:Int),false,(0:Int),(0:Int),(0:Int)] 252):=⟨_,rfl⟩
 have b1:aq f w.heap.size [some ab] 74:=by
  rw[b];exact((((aq.new w _ _).alloc _).alloc _).alloc _).alloc _
 have m:aq f (w.heap.size+1) [at_] 3:=by
  have:=aq.new (w.alloc (.cells #[some ab] 74)) #[at_] 3;rw[bP] at this;rw[b];exact((this.alloc _).alloc _).alloc _
 have b3:aq f (w.heap.size+1+1) [st] 3:=by
  have:=aq.new ((w.alloc (.cells #[some ab] 74)).alloc (.cells #[at_] 3)) #[st] 3;rw[bP,bP] at this;rw[b];exact(this.alloc _).alloc _
 have t:aq f (w.heap.size+1+1+1) (List.replicate n (Value.int .i64 0)) 3:=by
  have:=aq.new (((w.alloc (.cells #[some ab] 74)).alloc (.cells #[at_] 3)).alloc (.cells #[st] 3)) (Array.replicate n (Value.int .i64 0)) 3;rw[bP,bP,bP] at this;rw[b];simpa using this.alloc _
 have o:aq f (w.heap.size+1+1+1+1) [.nilFunc,.slice (some ⟨w.heap.size+1+1+1,0,none⟩) n n,(0:Int),false,(0:Int),(0:Int),(0:Int)] 252:=by
  have:=aq.new ((((w.alloc (.cells #[some ab] 74)).alloc (.cells #[at_] 3)).alloc (.cells #[st] 3)).alloc (.cells (Array.replicate n (Value.int .i64 0)) 3)) #[.nilFunc,.slice (some ⟨w.heap.size+1+1+1,0,none⟩) n n,(0:Int),false,(0:Int),(0:Int),(0:Int)] 252;rw[bP,bP,bP,bP] at this;rw[b];exact this
 have g:af [] w f:=by rw[b];exact((((aF.alloc _).alloc _).alloc _).alloc _).alloc _
 rw[b] at b1 m b3 t o g;clear b f;have x:=aH (ae b1 (ae m (ae b3 (ae t o))));have k:=aH g;have A:=aH DV;clear b1 m b3 t o g;go_enter func95,ntmps95;go_wp2_with(change wpList _ _ _ ({dst:=some 20,op:=Op.call _,type:=_,pos:=_,after:=_,guard:=_}::_) _ _;go_must(refine qj rfl (.tmp 18) (.tmp 19) 22 22 rfl 3 underlying22 A.o (w.heap.size+1+1+1) n n ⟨gb,0,none⟩ cap rfl rfl (List.replicate n (Value.int .i64 0)) 3 x.o.2.2.2.1 (N.map (Value.int .i64)) (by rw[kZ];exact l.o.symm) aS (λj v hv=>by have:=k.o.cell (J.o j v hv) aS;rw[show(⟨gb,0,none⟩:Addr).add j=⟨gb,j,none⟩ from by unfold Addr.add;by_cases h:j=0<;>simp[h]];exact this) aC ?_);intro F s a;have D:=(x.o.2.2.2.2).Rr a aS;have c0:=D.cell (i:=0) rfl;have R:=D.frozen;have C:=aH s;have y:=aH a;clear s a D)
 go_wp2;go_ret;obtain⟨b1,m,b3,t,o⟩:=x.o;have a:=y.o;have d:∀v,af [w.heap.size+1+1+1+1] F (F.setCell (w.heap.size+1+1+1+1,0) v):=λv=>aF.set _ _ (.inl aS);have e:=l.o;have G:(xB.n ⟨N,at_,st⟩:Nat)=n:=e.symm;refine⟨⟨w.heap.size+1+1+1+1,w.heap.size+1+1+1,w.heap.size,w.heap.size+1,w.heap.size+1+1,ab⟩,rfl,rfl,by show w.heap.size<=w.heap.size+1+1+1+1;omega,{box:=?_,row:=C.o.Rr (d _) aS,h1:=(b1.Rr a aQ).Rr (d _) aQ,h2:=(m.Rr a aS).Rr (d _) aS,h3:=(b3.Rr a aS).Rr (d _) aS,Ry:=by rw[G,e];exact H.o.2},?_⟩
 ·rw[G];exact(o.Rr a aS).set 0 _
 ·exact(k.o.Rx a (λz M=>.inr (by simp at M;omega))).set _ _ (.inr (by show w.heap.size<=w.heap.size+1+1+1+1;omega))
end
end Go.Proofs.YteijjhahgabalaaGreat
