/- World.asks, World.leaves, whatever the lock's kind is. (Printed by gen_lmworld.py.) -/
import Derived.BigQuiet
import Derived.Test.YteijjhahgabalaaGreatWF23
import Derived.Test.YteijjhahgabalaaGreatWF22
import Derived.Test.YteijjhahgabalaaGreatWF19
import Derived.Test.YteijjhahgabalaaGreatWF11
import Derived.Test.YteijjhahgabalaaGreatWF13
import Derived.Test.YteijjhahgabalaaGreatWF15
import Derived.OwnWalk
set_option maxRecDepth 100000
set_option maxHeartbeats 8000000
set_option linter.all false
namespace Go.Proofs.YteijjhahgabalaaGreat
open Go.RowKit
open Tryz
def LP.SB(p:LP)(s:p.σ)(i:Int)(r:Bool):Int×Bool:=if(r&& !p.shares)|| !p.Sr s i r then(5,p.rd s i) else(1,r)
def LP.ask(p:LP)(s:p.σ)(i:Int)(r:Bool):p.σ:=if r&& !p.shares then s else p.R3 s i r
def LP.R4(p:LP)(s:p.σ)(i:Int)(r:Bool):Int×Bool:=if(p.rd s i !=r)|| !p.RZ s i then(5,p.rd s i) else(3,r)
def LP.leave(p:LP)(s:p.σ)(i:Int)(r:Bool):p.σ:=if p.rd s i !=r then s else p.Rz s i
section
variable{p:LP}{b:LB p}{w w':World}{wo tb lk:Nat}{s s':p.σ}{i:Int}{k:Nat}
theorem BC(h:b.Ok)(E:p.I k s)(ha:eP b w wo tb lk s)(hi:dO p i)(r:Bool)(F:r=true)(hs:p.shares=false):Calls prog 26 #[some wo,i,r] w λe w'=>e= .returned (jg 5 i (p.rd s i) 0)/\eP b w' wo tb lk (s)/\af b.Z w w':=by
 have j:af [] w (w.alloc (.cells #[(0:Int),(0:Int),false,(0:Int)] 35)):=aF.alloc _;have D:=aH (aq.new w #[(0:Int),(0:Int),false,(0:Int)] 35);have g:=iJ h (ha.same h j) hi;have C:=aH ha.lo.at_;have m:=aH (ba w.heap.size);have B:= @aX prog;unfold jg;subst F;have u:=aH hs;clear hs;generalize p.rd s i=rd at*;generalize p.st s i=st at*;have x:=aH g;have n:=aH j;have H:=aH ha;clear g ha j hi E;go_enter func26,ntmps26;go_wp2_with fail;refine gF x.o ?_;rintro w1 l;have t:=aH (D.o.Rr l aS);have d:=aH (n.o.trans l);clear l;have c2:=(H.o.same h d.o).box.cell (i:=2) rfl;have c3:=(H.o.same h d.o).box.cell (i:=3) rfl;try rw[u.o] at c3
 have A:=aH (H.o.same h d.o);have q:=aH (d.o.mono (S':=b.Z) aS);have a:=t;clear d;have c:=gN a.o 5 i rd 0 rfl;have y:=aH (A.o.Tv h C.o a.o m.o c.2);have f:=aH c.1;have o:=aH (q.o.Rx c.2 (λz G=>.inr (by have:=m.o;simp at G;omega)));have K:=a.o.cell (i:=0) rfl;have L:=a.o.cell (i:=1) rfl;have M:=a.o.cell (i:=2) rfl;have N:=a.o.cell (i:=3) rfl;have O:=a.o.frozen;have rl:=a.o.lt;clear c;go_wp2_with fail;generalize((((w1).setCell (w.heap.size,0) (.int .i64 5)).setCell (w.heap.size,1) (.int .i64 i)).setCell (w.heap.size,2) (.bool rd)).setCell (w.heap.size,3) (.int .i64 0)=J at*;have I:=f.o.cell (i:=0) rfl;have k1:=f.o.cell (i:=1) rfl;have k2:=f.o.cell (i:=2) rfl;have k3:=f.o.cell (i:=3) rfl;exact eO (v:=.agg #[(5:Int),i,rd,(0:Int)]) (by simp[results,results26,go_sem,I,k1,k2,k3]) rfl ⟨rfl,y.o,o.o⟩
theorem yW(h:b.Ok)(N:p.I k s)(ha:eP b w wo tb lk s)(hi:dO p i)(r:Bool)(S:(r&& !p.shares)=false)(G:r=true->p.shares=true)(P:p.Sr s i r=false):Calls prog 26 #[some wo,i,r] w λe w'=>e= .returned (jg 5 i (p.rd s i) 0)/\eP b w' wo tb lk (p.R3 s i r)/\af b.Z w w':=by
 have A:af [] w (w.alloc (.cells #[(0:Int),(0:Int),false,(0:Int)] 35)):=aF.alloc _;have M:=aH (aq.new w #[(0:Int),(0:Int),false,(0:Int)] 35);have o:=iJ h (ha.same h A) hi;have I:=aH ha.lo.at_;have n:=aH (ba w.heap.size);have O:= @aX prog;unfold jg;have bB:=λ(W:World) (R:af [] w W)=>Js h N (ha.lo.same h R) hi r G;rw[P] at bB;have C:=aH bB;clear bB P;generalize p.R3 s i r=s2 at*;have F:r=false\/(r=true/\p.shares=true):=by cases r<;>simp_all
 clear S G;generalize p.rd s i=rd at*;generalize p.st s i=st at*;have D:=aH o;have B:=aH A;have H:=aH ha;clear o ha A hi N;have J:(r=false/\True)\/(r=true/\p.shares=true):=F.imp (λe=>⟨e,trivial⟩) id;clear F;rcases J with⟨rfl,m⟩|⟨rfl,m⟩
 ·have u:=aH m;clear m;go_enter func26,ntmps26;go_wp2_with fail;refine gF D.o ?_;rintro w1 j;have l:=aH (M.o.Rr j aS);have d:=aH (B.o.trans j);clear j;have c2:=(H.o.same h d.o).box.cell (i:=2) rfl;have c3:=(H.o.same h d.o).box.cell (i:=3) rfl;try rw[u.o] at c3
  go_wp2_with fail;refine gF (C.o _ d.o) ?_;rintro w2 ⟨E,g⟩;have y:=aH ((H.o.same h d.o).next h g E);have a:=aH (l.o.Rr g (h.new I.o (ba _)));have t:=aH ((d.o.mono (S':=b.Z) aS).trans g);clear E g c2 c3 l d;have c:=gN a.o 5 i rd 0 rfl;have x:=aH (y.o.Tv h I.o a.o n.o c.2);have f:=aH c.1;have q:=aH (t.o.Rx c.2 (λz K=>.inr (by have:=n.o;simp at K;omega)));have T:=a.o.cell (i:=0) rfl;have U:=a.o.cell (i:=1) rfl;have V:=a.o.cell (i:=2) rfl;have X:=a.o.cell (i:=3) rfl;have Y:=a.o.frozen;have rl:=a.o.lt;clear c;go_wp2_with fail;generalize((((w2).setCell (w.heap.size,0) (.int .i64 5)).setCell (w.heap.size,1) (.int .i64 i)).setCell (w.heap.size,2) (.bool rd)).setCell (w.heap.size,3) (.int .i64 0)=Q at*;have L:=f.o.cell (i:=0) rfl;have k1:=f.o.cell (i:=1) rfl;have k2:=f.o.cell (i:=2) rfl;have k3:=f.o.cell (i:=3) rfl;exact eO (v:=.agg #[(5:Int),i,rd,(0:Int)]) (by simp[results,results26,go_sem,L,k1,k2,k3]) rfl ⟨rfl,x.o,q.o⟩
 ·have u:=aH m;clear m;go_enter func26,ntmps26;go_wp2_with fail;refine gF D.o ?_;rintro w1 j;have l:=aH (M.o.Rr j aS);have d:=aH (B.o.trans j);clear j;have c2:=(H.o.same h d.o).box.cell (i:=2) rfl;have c3:=(H.o.same h d.o).box.cell (i:=3) rfl;try rw[u.o] at c3
  go_wp2_with fail;refine gF (C.o _ d.o) ?_;rintro w2 ⟨E,g⟩;have y:=aH ((H.o.same h d.o).next h g E);have a:=aH (l.o.Rr g (h.new I.o (ba _)));have t:=aH ((d.o.mono (S':=b.Z) aS).trans g);clear E g c2 c3 l d;have c:=gN a.o 5 i rd 0 rfl;have x:=aH (y.o.Tv h I.o a.o n.o c.2);have f:=aH c.1;have q:=aH (t.o.Rx c.2 (λz K=>.inr (by have:=n.o;simp at K;omega)));have T:=a.o.cell (i:=0) rfl;have U:=a.o.cell (i:=1) rfl;have V:=a.o.cell (i:=2) rfl;have X:=a.o.cell (i:=3) rfl;have Y:=a.o.frozen;have rl:=a.o.lt;clear c;go_wp2_with fail;generalize((((w2).setCell (w.heap.size,0) (.int .i64 5)).setCell (w.heap.size,1) (.int .i64 i)).setCell (w.heap.size,2) (.bool rd)).setCell (w.heap.size,3) (.int .i64 0)=Q at*;have L:=f.o.cell (i:=0) rfl;have k1:=f.o.cell (i:=1) rfl;have k2:=f.o.cell (i:=2) rfl;have k3:=f.o.cell (i:=3) rfl;exact eO (v:=.agg #[(5:Int),i,rd,(0:Int)]) (by simp[results,results26,go_sem,L,k1,k2,k3]) rfl ⟨rfl,x.o,q.o⟩
theorem yX(h:b.Ok)(N:p.I k s)(ha:eP b w wo tb lk s)(hi:dO p i)(r:Bool)(S:(r&& !p.shares)=false)(G:r=true->p.shares=true)(P:p.Sr s i r=true):Calls prog 26 #[some wo,i,r] w λe w'=>e= .returned (jg 1 i (r) 0)/\eP b w' wo tb lk (p.R3 s i r)/\af b.Z w w':=by
 have A:af [] w (w.alloc (.cells #[(0:Int),(0:Int),false,(0:Int)] 35)):=aF.alloc _;have M:=aH (aq.new w #[(0:Int),(0:Int),false,(0:Int)] 35);have o:=iJ h (ha.same h A) hi;have I:=aH ha.lo.at_;have n:=aH (ba w.heap.size);have O:= @aX prog;unfold jg;have bB:=λ(W:World) (R:af [] w W)=>Js h N (ha.lo.same h R) hi r G;rw[P] at bB;have C:=aH bB;clear bB P;generalize p.R3 s i r=s2 at*;have F:r=false\/(r=true/\p.shares=true):=by cases r<;>simp_all
 clear S G;generalize p.rd s i=rd at*;generalize p.st s i=st at*;have D:=aH o;have B:=aH A;have H:=aH ha;clear o ha A hi N;have J:(r=false/\True)\/(r=true/\p.shares=true):=F.imp (λe=>⟨e,trivial⟩) id;clear F;rcases J with⟨rfl,m⟩|⟨rfl,m⟩
 ·have u:=aH m;clear m;go_enter func26,ntmps26;go_wp2_with fail;refine gF D.o ?_;rintro w1 j;have l:=aH (M.o.Rr j aS);have d:=aH (B.o.trans j);clear j;have c2:=(H.o.same h d.o).box.cell (i:=2) rfl;have c3:=(H.o.same h d.o).box.cell (i:=3) rfl;try rw[u.o] at c3
  go_wp2_with fail;refine gF (C.o _ d.o) ?_;rintro w2 ⟨E,g⟩;have y:=aH ((H.o.same h d.o).next h g E);have a:=aH (l.o.Rr g (h.new I.o (ba _)));have t:=aH ((d.o.mono (S':=b.Z) aS).trans g);clear E g c2 c3 l d;have c:=gN a.o 1 i false 0 rfl;have x:=aH (y.o.Tv h I.o a.o n.o c.2);have f:=aH c.1;have q:=aH (t.o.Rx c.2 (λz K=>.inr (by have:=n.o;simp at K;omega)));have T:=a.o.cell (i:=0) rfl;have U:=a.o.cell (i:=1) rfl;have V:=a.o.cell (i:=2) rfl;have X:=a.o.cell (i:=3) rfl;have Y:=a.o.frozen;have rl:=a.o.lt;clear c;go_wp2_with fail;generalize((((w2).setCell (w.heap.size,0) (.int .i64 1)).setCell (w.heap.size,1) (.int .i64 i)).setCell (w.heap.size,2) (.bool false)).setCell (w.heap.size,3) (.int .i64 0)=Q at*;have L:=f.o.cell (i:=0) rfl;have k1:=f.o.cell (i:=1) rfl;have k2:=f.o.cell (i:=2) rfl;have k3:=f.o.cell (i:=3) rfl;exact eO (v:=.agg #[(1:Int),i,false,(0:Int)]) (by simp[results,results26,go_sem,L,k1,k2,k3]) rfl ⟨rfl,x.o,q.o⟩
 ·have u:=aH m;clear m;go_enter func26,ntmps26;go_wp2_with fail;refine gF D.o ?_;rintro w1 j;have l:=aH (M.o.Rr j aS);have d:=aH (B.o.trans j);clear j;have c2:=(H.o.same h d.o).box.cell (i:=2) rfl;have c3:=(H.o.same h d.o).box.cell (i:=3) rfl;try rw[u.o] at c3
  go_wp2_with fail;refine gF (C.o _ d.o) ?_;rintro w2 ⟨E,g⟩;have y:=aH ((H.o.same h d.o).next h g E);have a:=aH (l.o.Rr g (h.new I.o (ba _)));have t:=aH ((d.o.mono (S':=b.Z) aS).trans g);clear E g c2 c3 l d;have c:=gN a.o 1 i true 0 rfl;have x:=aH (y.o.Tv h I.o a.o n.o c.2);have f:=aH c.1;have q:=aH (t.o.Rx c.2 (λz K=>.inr (by have:=n.o;simp at K;omega)));have T:=a.o.cell (i:=0) rfl;have U:=a.o.cell (i:=1) rfl;have V:=a.o.cell (i:=2) rfl;have X:=a.o.cell (i:=3) rfl;have Y:=a.o.frozen;have rl:=a.o.lt;clear c;go_wp2_with fail;generalize((((w2).setCell (w.heap.size,0) (.int .i64 1)).setCell (w.heap.size,1) (.int .i64 i)).setCell (w.heap.size,2) (.bool true)).setCell (w.heap.size,3) (.int .i64 0)=Q at*;have L:=f.o.cell (i:=0) rfl;have k1:=f.o.cell (i:=1) rfl;have k2:=f.o.cell (i:=2) rfl;have k3:=f.o.cell (i:=3) rfl;exact eO (v:=.agg #[(1:Int),i,true,(0:Int)]) (by simp[results,results26,go_sem,L,k1,k2,k3]) rfl ⟨rfl,x.o,q.o⟩
theorem xe(h:b.Ok)(K:p.I k s)(ha:eP b w wo tb lk s)(hi:dO p i)(r:Bool)(I:(p.rd s i !=r)=true):Calls prog 27 #[some wo,i,r] w λe w'=>e= .returned (jg 5 i (p.rd s i) 0)/\eP b w' wo tb lk (s)/\af b.Z w w':=by
 have u:af [] w (w.alloc (.cells #[(0:Int),(0:Int),false,(0:Int)] 35)):=aF.alloc _;have F:=aH (aq.new w #[(0:Int),(0:Int),false,(0:Int)] 35);have l:=iJ h (ha.same h u) hi;have E:=aH ha.lo.at_;have j:=aH (ba w.heap.size);have G:= @aX prog;unfold jg;generalize p.rd s i=rd at*;generalize p.st s i=st at*;have y:=aH l;have x:=aH u;have H:=aH ha;clear l ha u hi K;have B:(rd=true/\r=false)\/(rd=false/\r=true):=by revert I;cases rd<;>cases r<;>simp
 clear I;rcases B with⟨rfl,rfl⟩|⟨rfl,rfl⟩
 ·skip
  go_enter func27,ntmps27;go_wp2_with fail;refine gF y.o ?_;rintro w1 g;have o:=aH (F.o.Rr g aS);have d:=aH (x.o.trans g);clear g;have c2:=(H.o.same h d.o).box.cell (i:=2) rfl;have c3:=(H.o.same h d.o).box.cell (i:=3) rfl;try rw[A.o] at c3
  have t:=aH (H.o.same h d.o);have n:=aH (d.o.mono (S':=b.Z) aS);have a:=o;clear d;have c:=gN a.o 5 i true 0 rfl;have q:=aH (t.o.Tv h E.o a.o j.o c.2);have f:=aH c.1;have m:=aH (n.o.Rx c.2 (λz C=>.inr (by have:=j.o;simp at C;omega)));have L:=a.o.cell (i:=0) rfl;have M:=a.o.cell (i:=1) rfl;have N:=a.o.cell (i:=2) rfl;have O:=a.o.cell (i:=3) rfl;have P:=a.o.frozen;have rl:=a.o.lt;clear c;go_wp2_with fail;generalize((((w1).setCell (w.heap.size,0) (.int .i64 5)).setCell (w.heap.size,1) (.int .i64 i)).setCell (w.heap.size,2) (.bool true)).setCell (w.heap.size,3) (.int .i64 0)=J at*;have D:=f.o.cell (i:=0) rfl;have k1:=f.o.cell (i:=1) rfl;have k2:=f.o.cell (i:=2) rfl;have k3:=f.o.cell (i:=3) rfl;exact eO (v:=.agg #[(5:Int),i,true,(0:Int)]) (by simp[results,results27,go_sem,D,k1,k2,k3]) rfl ⟨rfl,q.o,m.o⟩
 ·skip
  go_enter func27,ntmps27;go_wp2_with fail;refine gF y.o ?_;rintro w1 g;have o:=aH (F.o.Rr g aS);have d:=aH (x.o.trans g);clear g;have c2:=(H.o.same h d.o).box.cell (i:=2) rfl;have c3:=(H.o.same h d.o).box.cell (i:=3) rfl;try rw[A.o] at c3
  have t:=aH (H.o.same h d.o);have n:=aH (d.o.mono (S':=b.Z) aS);have a:=o;clear d;have c:=gN a.o 5 i false 0 rfl;have q:=aH (t.o.Tv h E.o a.o j.o c.2);have f:=aH c.1;have m:=aH (n.o.Rx c.2 (λz C=>.inr (by have:=j.o;simp at C;omega)));have L:=a.o.cell (i:=0) rfl;have M:=a.o.cell (i:=1) rfl;have N:=a.o.cell (i:=2) rfl;have O:=a.o.cell (i:=3) rfl;have P:=a.o.frozen;have rl:=a.o.lt;clear c;go_wp2_with fail;generalize((((w1).setCell (w.heap.size,0) (.int .i64 5)).setCell (w.heap.size,1) (.int .i64 i)).setCell (w.heap.size,2) (.bool false)).setCell (w.heap.size,3) (.int .i64 0)=J at*;have D:=f.o.cell (i:=0) rfl;have k1:=f.o.cell (i:=1) rfl;have k2:=f.o.cell (i:=2) rfl;have k3:=f.o.cell (i:=3) rfl;exact eO (v:=.agg #[(5:Int),i,false,(0:Int)]) (by simp[results,results27,go_sem,D,k1,k2,k3]) rfl ⟨rfl,q.o,m.o⟩
theorem u6(h:b.Ok)(K:p.I k s)(ha:eP b w wo tb lk s)(hi:dO p i)(r:Bool)(L:(p.rd s i !=r)=false)(N:p.RZ s i=false):Calls prog 27 #[some wo,i,r] w λe w'=>e= .returned (jg 5 i (p.rd s i) 0)/\eP b w' wo tb lk (p.Rz s i)/\af b.Z w w':=by
 have x:af [] w (w.alloc (.cells #[(0:Int),(0:Int),false,(0:Int)] 35)):=aF.alloc _;have J:=aH (aq.new w #[(0:Int),(0:Int),false,(0:Int)] 35);have n:=iJ h (ha.same h x) hi;have D:=aH ha.lo.at_;have m:=aH (ba w.heap.size);have M:= @aX prog;unfold jg;have bB:=λ(W:World) (P:af [] w W)=>zw h K (ha.lo.same h P) hi;rw[N] at bB;have A:=aH bB;clear bB N;generalize p.Rz s i=s2 at*;generalize p.rd s i=rd at*;generalize p.st s i=st at*;have B:=aH n;have y:=aH x;have H:=aH ha;clear n ha x hi K;have F:(rd=false/\r=false)\/(rd=true/\r=true):=by revert L;cases rd<;>cases r<;>simp
 clear L;rcases F with⟨rfl,rfl⟩|⟨rfl,rfl⟩
 ·skip
  go_enter func27,ntmps27;go_wp2_with fail;refine gF B.o ?_;rintro w1 j;have l:=aH (J.o.Rr j aS);have d:=aH (y.o.trans j);clear j;have c2:=(H.o.same h d.o).box.cell (i:=2) rfl;have c3:=(H.o.same h d.o).box.cell (i:=3) rfl;try rw[E.o] at c3
  go_wp2_with fail;refine gF (A.o _ d.o) ?_;rintro w2 ⟨C,g⟩;have u:=aH ((H.o.same h d.o).next h g C);have a:=aH (l.o.Rr g (h.new D.o (ba _)));have q:=aH ((d.o.mono (S':=b.Z) aS).trans g);clear C g c2 c3 l d;have c:=gN a.o 5 i false 0 rfl;have t:=aH (u.o.Tv h D.o a.o m.o c.2);have f:=aH c.1;have o:=aH (q.o.Rx c.2 (λz G=>.inr (by have:=m.o;simp at G;omega)));have Q:=a.o.cell (i:=0) rfl;have R:=a.o.cell (i:=1) rfl;have S:=a.o.cell (i:=2) rfl;have T:=a.o.cell (i:=3) rfl;have U:=a.o.frozen;have rl:=a.o.lt;clear c;go_wp2_with fail;generalize((((w2).setCell (w.heap.size,0) (.int .i64 5)).setCell (w.heap.size,1) (.int .i64 i)).setCell (w.heap.size,2) (.bool false)).setCell (w.heap.size,3) (.int .i64 0)=O at*;have I:=f.o.cell (i:=0) rfl;have k1:=f.o.cell (i:=1) rfl;have k2:=f.o.cell (i:=2) rfl;have k3:=f.o.cell (i:=3) rfl;exact eO (v:=.agg #[(5:Int),i,false,(0:Int)]) (by simp[results,results27,go_sem,I,k1,k2,k3]) rfl ⟨rfl,t.o,o.o⟩
 ·skip
  go_enter func27,ntmps27;go_wp2_with fail;refine gF B.o ?_;rintro w1 j;have l:=aH (J.o.Rr j aS);have d:=aH (y.o.trans j);clear j;have c2:=(H.o.same h d.o).box.cell (i:=2) rfl;have c3:=(H.o.same h d.o).box.cell (i:=3) rfl;try rw[E.o] at c3
  go_wp2_with fail;refine gF (A.o _ d.o) ?_;rintro w2 ⟨C,g⟩;have u:=aH ((H.o.same h d.o).next h g C);have a:=aH (l.o.Rr g (h.new D.o (ba _)));have q:=aH ((d.o.mono (S':=b.Z) aS).trans g);clear C g c2 c3 l d;have c:=gN a.o 5 i true 0 rfl;have t:=aH (u.o.Tv h D.o a.o m.o c.2);have f:=aH c.1;have o:=aH (q.o.Rx c.2 (λz G=>.inr (by have:=m.o;simp at G;omega)));have Q:=a.o.cell (i:=0) rfl;have R:=a.o.cell (i:=1) rfl;have S:=a.o.cell (i:=2) rfl;have T:=a.o.cell (i:=3) rfl;have U:=a.o.frozen;have rl:=a.o.lt;clear c;go_wp2_with fail;generalize((((w2).setCell (w.heap.size,0) (.int .i64 5)).setCell (w.heap.size,1) (.int .i64 i)).setCell (w.heap.size,2) (.bool true)).setCell (w.heap.size,3) (.int .i64 0)=O at*;have I:=f.o.cell (i:=0) rfl;have k1:=f.o.cell (i:=1) rfl;have k2:=f.o.cell (i:=2) rfl;have k3:=f.o.cell (i:=3) rfl;exact eO (v:=.agg #[(5:Int),i,true,(0:Int)]) (by simp[results,results27,go_sem,I,k1,k2,k3]) rfl ⟨rfl,t.o,o.o⟩
theorem u7(h:b.Ok)(K:p.I k s)(ha:eP b w wo tb lk s)(hi:dO p i)(r:Bool)(L:(p.rd s i !=r)=false)(N:p.RZ s i=true):Calls prog 27 #[some wo,i,r] w λe w'=>e= .returned (jg 3 i (r) 0)/\eP b w' wo tb lk (p.Rz s i)/\af b.Z w w':=by
 have x:af [] w (w.alloc (.cells #[(0:Int),(0:Int),false,(0:Int)] 35)):=aF.alloc _;have J:=aH (aq.new w #[(0:Int),(0:Int),false,(0:Int)] 35);have n:=iJ h (ha.same h x) hi;have D:=aH ha.lo.at_;have m:=aH (ba w.heap.size);have M:= @aX prog;unfold jg;have bB:=λ(W:World) (P:af [] w W)=>zw h K (ha.lo.same h P) hi;rw[N] at bB;have A:=aH bB;clear bB N;generalize p.Rz s i=s2 at*;generalize p.rd s i=rd at*;generalize p.st s i=st at*;have B:=aH n;have y:=aH x;have H:=aH ha;clear n ha x hi K;have F:(rd=false/\r=false)\/(rd=true/\r=true):=by revert L;cases rd<;>cases r<;>simp
 clear L;rcases F with⟨rfl,rfl⟩|⟨rfl,rfl⟩
 ·skip
  go_enter func27,ntmps27;go_wp2_with fail;refine gF B.o ?_;rintro w1 j;have l:=aH (J.o.Rr j aS);have d:=aH (y.o.trans j);clear j;have c2:=(H.o.same h d.o).box.cell (i:=2) rfl;have c3:=(H.o.same h d.o).box.cell (i:=3) rfl;try rw[E.o] at c3
  go_wp2_with fail;refine gF (A.o _ d.o) ?_;rintro w2 ⟨C,g⟩;have u:=aH ((H.o.same h d.o).next h g C);have a:=aH (l.o.Rr g (h.new D.o (ba _)));have q:=aH ((d.o.mono (S':=b.Z) aS).trans g);clear C g c2 c3 l d;have c:=gN a.o 3 i false 0 rfl;have t:=aH (u.o.Tv h D.o a.o m.o c.2);have f:=aH c.1;have o:=aH (q.o.Rx c.2 (λz G=>.inr (by have:=m.o;simp at G;omega)));have Q:=a.o.cell (i:=0) rfl;have R:=a.o.cell (i:=1) rfl;have S:=a.o.cell (i:=2) rfl;have T:=a.o.cell (i:=3) rfl;have U:=a.o.frozen;have rl:=a.o.lt;clear c;go_wp2_with fail;generalize((((w2).setCell (w.heap.size,0) (.int .i64 3)).setCell (w.heap.size,1) (.int .i64 i)).setCell (w.heap.size,2) (.bool false)).setCell (w.heap.size,3) (.int .i64 0)=O at*;have I:=f.o.cell (i:=0) rfl;have k1:=f.o.cell (i:=1) rfl;have k2:=f.o.cell (i:=2) rfl;have k3:=f.o.cell (i:=3) rfl;exact eO (v:=.agg #[(3:Int),i,false,(0:Int)]) (by simp[results,results27,go_sem,I,k1,k2,k3]) rfl ⟨rfl,t.o,o.o⟩
 ·skip
  go_enter func27,ntmps27;go_wp2_with fail;refine gF B.o ?_;rintro w1 j;have l:=aH (J.o.Rr j aS);have d:=aH (y.o.trans j);clear j;have c2:=(H.o.same h d.o).box.cell (i:=2) rfl;have c3:=(H.o.same h d.o).box.cell (i:=3) rfl;try rw[E.o] at c3
  go_wp2_with fail;refine gF (A.o _ d.o) ?_;rintro w2 ⟨C,g⟩;have u:=aH ((H.o.same h d.o).next h g C);have a:=aH (l.o.Rr g (h.new D.o (ba _)));have q:=aH ((d.o.mono (S':=b.Z) aS).trans g);clear C g c2 c3 l d;have c:=gN a.o 3 i true 0 rfl;have t:=aH (u.o.Tv h D.o a.o m.o c.2);have f:=aH c.1;have o:=aH (q.o.Rx c.2 (λz G=>.inr (by have:=m.o;simp at G;omega)));have Q:=a.o.cell (i:=0) rfl;have R:=a.o.cell (i:=1) rfl;have S:=a.o.cell (i:=2) rfl;have T:=a.o.cell (i:=3) rfl;have U:=a.o.frozen;have rl:=a.o.lt;clear c;go_wp2_with fail;generalize((((w2).setCell (w.heap.size,0) (.int .i64 3)).setCell (w.heap.size,1) (.int .i64 i)).setCell (w.heap.size,2) (.bool true)).setCell (w.heap.size,3) (.int .i64 0)=O at*;have I:=f.o.cell (i:=0) rfl;have k1:=f.o.cell (i:=1) rfl;have k2:=f.o.cell (i:=2) rfl;have k3:=f.o.cell (i:=3) rfl;exact eO (v:=.agg #[(3:Int),i,true,(0:Int)]) (by simp[results,results27,go_sem,I,k1,k2,k3]) rfl ⟨rfl,t.o,o.o⟩
theorem Fs(h:b.Ok)(d:p.I k s)(ha:eP b w wo tb lk s)(hi:dO p i)(r:Bool):Calls prog 26 #[some wo,i,r] w λe w'=>e= .returned (jg (p.SB s i r).1 i (p.SB s i r).2 0)/\eP b w' wo tb lk (p.ask s i r)/\af b.Z w w':=by
 unfold LP.SB LP.ask;cases c:(r&& !p.shares) with
 |true=>
  have h2:r=true/\p.shares=false:=by simpa using c
  rw[Bool.true_or,ad rfl,ad rfl];exact BC h d ha hi r h2.1 h2.2
 |false=>
  have a:r=true->p.shares=true:=λe=>by subst e;simpa using c
  cases f:p.Sr s i r with
  |true=>rw[ac aS,ac aS];exact yX h d ha hi r c a f
  |false=>rw[ad aS,ac aS];exact yW h d ha hi r c a f
theorem xd(h:b.Ok)(a:p.I k s)(ha:eP b w wo tb lk s)(hi:dO p i)(r:Bool):Calls prog 27 #[some wo,i,r] w λe w'=>e= .returned (jg (p.R4 s i r).1 i (p.R4 s i r).2 0)/\eP b w' wo tb lk (p.leave s i r)/\af b.Z w w':=by
 unfold LP.R4 LP.leave;cases c:(p.rd s i !=r) with
 |true=>rw[Bool.true_or,ad rfl,ad rfl];exact xe h a ha hi r c
 |false=>
  cases d:p.RZ s i with
  |true=>rw[ac aS,ac aS];exact u7 h a ha hi r c d
  |false=>rw[ad aS,ac aS];exact u6 h a ha hi r c d
end
def mE(K:CK)(S:CS)(th:Nat):CS×Int:=
 if S.TS th 0=1 then({S with A:=bL (K.L (K.nd th)) (S.LS (K.nd th)) S.A (K.sl th:Nat),LS:=dL S.LS (K.nd th) (bM (K.L (K.nd th)) (S.LS (K.nd th)) S.A (K.sl th:Nat))},if cN (K.L (K.nd th)) (S.LS (K.nd th)) S.A (K.sl th:Nat) then 2 else 1)
 else if S.TS th 0=2 then
  (if 0<S.A.get (K.cn (K.nd th):Nat) then({S with A:=S.A.load (K.cn (K.nd th):Nat),TS:=aa S.TS th 1 (S.A.get (K.cn (K.nd th):Nat))},10)
   else({S with A:=S.A.load (K.cn (K.nd th):Nat),TS:=aa S.TS th 1 (S.A.get (K.cn (K.nd th):Nat)),GS:=gM K.G S.GS (K.nd th:Nat)},3))
 else if S.TS th 0=3 then({S with A:=bL K.G S.GS S.A (K.nd th:Nat),GS:=bM K.G S.GS S.A (K.nd th:Nat)},if cN K.G S.GS S.A (K.nd th:Nat) then 4 else 3)
 else({S with A:=S.A.store (K.cn (K.nd th):Nat) 1,TS:=aa S.TS th 1 1},10)
def fM(K:CK)(S:CS)(th:Nat):CS×Int:=
 if S.TS th 0=11 then({S with A:=S.A.load (K.cn (K.nd th):Nat),TS:=aa S.TS th 1 (S.A.get (K.cn (K.nd th):Nat))},if K.bud<S.A.get (K.cn (K.nd th):Nat) then 14 else 12)
 else if S.TS th 0=12 then({S with A:=p9 (K.L (K.nd th)) (S.LS (K.nd th)) S.A (K.sl th:Nat)},if So (S.TS th 1) K.bud (qa (K.L (K.nd th)) (S.LS (K.nd th)) S.A (K.sl th:Nat)) then 13 else 14)
 else if S.TS th 0=13 then({S with A:=S.A.store (K.cn (K.nd th):Nat) (wrap64 (S.TS th 1+1)),LS:=dL S.LS (K.nd th) (dp (K.L (K.nd th)) (S.LS (K.nd th)) (K.sl th:Nat))},16)
 else if S.TS th 0=14 then({S with A:=S.A.store (K.cn (K.nd th):Nat) 0,GS:=dp K.G S.GS (K.nd th:Nat)},15)
 else if S.TS th 0=15 then
  (if cN K.G S.GS S.A (K.nd th:Nat) then({S with A:=bL K.G S.GS S.A (K.nd th:Nat),GS:=bM K.G S.GS S.A (K.nd th:Nat),LS:=dL S.LS (K.nd th) (dp (K.L (K.nd th)) (S.LS (K.nd th)) (K.sl th:Nat))},16)
   else({S with A:=bL K.G S.GS S.A (K.nd th:Nat),GS:=bM K.G S.GS S.A (K.nd th:Nat)},15))
 else({S with A:=bL (K.L (K.nd th)) (S.LS (K.nd th)) S.A (K.sl th:Nat),LS:=dL S.LS (K.nd th) (bM (K.L (K.nd th)) (S.LS (K.nd th)) S.A (K.sl th:Nat))},if cN (K.L (K.nd th)) (S.LS (K.nd th)) S.A (K.sl th:Nat) then 0 else 16)
def iy(K:CK)(S:CS)(th:Nat):CS×Int:=if S.TS th 0<10 then mE K S th else fM K S th
def iA(K:CK)(S:CS)(i:Int):Bool:=bC K.n i&& !(S.TS i.toNat 0==0)&& !(S.TS i.toNat 0==10)
def ay(K:CK)(S:CS)(i:Int):CS:=if iA K S i then{(iy K S i.toNat).1 with TS:=aa (iy K S i.toNat).1.TS i.toNat 0 (iy K S i.toNat).2} else S
def a5(K:CK)(S:CS)(i:Int):Bool:=iA K S i&&((iy K S i.toNat).2==10||(iy K S i.toNat).2==0)
structure dU(K:CK)(S:CS):Prop where
 th:∀t,t<K.n->(0<=S.TS t 0/\S.TS t 0<=4)\/(10<=S.TS t 0/\S.TS t 0<=16)
 lo:∀v,v<K.E->(K.L v).k=4->jn (K.L v).n (S.LS v)
 gl:K.G.k=4->jn K.G.n S.GS
section
variable{w w':World}{B:CB}{K:CK}{S:CS}
variable{th:Nat}
theorem g8{f:Nat}{W:World}{S':CS}{x:CS×Int}{a:Int}(e:x=(S',a))(h:Calls prog f #[some B.cb,th] W λe w'=>e= .returned a/\bg w' B K S'/\af (CZ B K) W w'):
 Calls prog f #[some B.cb,th] W λe w'=>e= .returned x.2/\bg w' B K x.1/\af (CZ B K) W w':=by
 subst e;exact h
theorem CY(h:bg w B K S)(a:dU K S)(hj:th<K.n)(b:1<=S.TS th 0/\S.TS th 0<=4):
 Calls prog 227 #[some B.cb,th] w λe w'=>e= .returned (.int .i64 (mE K S th).2)/\bg w' B K (mE K S th).1/\af (CZ B K) w w':=by
 rcases(by omega:S.TS th 0=1\/S.TS th 0=2\/S.TS th 0=3\/S.TS th 0=4) with q|q|q|q
 ·cases g:cN (K.L (K.nd th)) (S.LS (K.nd th)) S.A ((K.sl th:Nat):Int) with
  |true=>exact g8 (by unfold mE;rw[ad q,ad g]) (GI h hj q a.lo g)
  |false=>exact g8 (by unfold mE;rw[ad q,ac (by simp[g])]) (GH h hj q a.lo g)
 ·by_cases g:0<S.A.get ((K.cn (K.nd th):Nat):Int)
  ·exact g8 (by unfold mE;rw[ac aO,ad q,ad g]) (GK h hj q g)
  ·exact g8 (by unfold mE;rw[ac aO,ad q,ac g]) (GJ h hj q g)
 ·cases g:cN K.G S.GS S.A ((K.nd th:Nat):Int) with
  |true=>exact g8 (by unfold mE;rw[ac aO,ac aO,ad q,ad g]) (GM h hj q a.gl g)
  |false=>exact g8 (by unfold mE;rw[ac aO,ac aO,ad q,ac (by simp[g])]) (GL h hj q a.gl g)
 ·exact g8 (by unfold mE;rw[ac aO,ac aO,ac aO]) (J6 h hj q)
theorem AG(h:bg w B K S)(a:dU K S)(hj:th<K.n)(b:11<=S.TS th 0/\S.TS th 0<=16):
 Calls prog 228 #[some B.cb,th] w λe w'=>e= .returned (.int .i64 (fM K S th).2)/\bg w' B K (fM K S th).1/\af (CZ B K) w w':=by
 rcases(by omega:S.TS th 0=11\/S.TS th 0=12\/S.TS th 0=13\/S.TS th 0=14\/S.TS th 0=15\/S.TS th 0=16) with q|q|q|q|q|q
 ·by_cases g:K.bud<S.A.get ((K.cn (K.nd th):Nat):Int)
  ·exact g8 (by unfold fM;rw[ad q,ad g]) (AK h hj q g)
  ·exact g8 (by unfold fM;rw[ad q,ac g]) (AJ h hj q g)
 ·cases g:So (S.TS th 1) K.bud (qa (K.L (K.nd th)) (S.LS (K.nd th)) S.A ((K.sl th:Nat):Int)) with
  |true=>exact g8 (by unfold fM;rw[ac aO,ad q,ad g]) (AM h hj q g)
  |false=>exact g8 (by unfold fM;rw[ac aO,ad q,ac (by simp[g])]) (AL h hj q g)
 ·exact g8 (by unfold fM;rw[ac aO,ac aO,ad q]) (C3 h hj q)
 ·exact g8 (by unfold fM;rw[ac aO,ac aO,ac aO,ad q]) (C4 h hj q)
 ·cases g:cN K.G S.GS S.A ((K.nd th:Nat):Int) with
  |true=>exact g8 (by unfold fM;rw[ac aO,ac aO,ac aO,ac aO,ad q,ad g]) (AO h hj q a.gl g)
  |false=>exact g8 (by unfold fM;rw[ac aO,ac aO,ac aO,ac aO,ad q,ac (by simp[g])]) (AN h hj q a.gl g)
 ·cases g:cN (K.L (K.nd th)) (S.LS (K.nd th)) S.A ((K.sl th:Nat):Int) with
  |true=>exact g8 (by unfold fM;rw[ac aO,ac aO,ac aO,ac aO,ac aO,ad g]) (AQ h hj q a.lo g)
  |false=>exact g8 (by unfold fM;rw[ac aO,ac aO,ac aO,ac aO,ac aO,ac (by simp[g])]) (AP h hj q a.lo g)
theorem nS:(∀{w:World}{B:CB}{K:CK}{S:CS}(h:bg w B K S){j:Nat}(hj:j<K.n){pc a:Int}{S':CS}(l:S.TS j 0=pc)(c:1<=pc/\pc<10)(g:∀W,af [] w W->Calls prog 227 #[some B.cb,j] W λe w'=>e= .returned a/\bg w' B K S'/\af (CZ B K) W w'),Calls prog 223 #[some B.cb,j] w λe w'=>e= .returned (.bool (a==10||a==0))/\bg w' B K {S' with TS:=aa S'.TS j 0 a}/\af (CZ B K) w w')/\(∀{w:World}{B:CB}{K:CK}{S:CS}(h:bg w B K S){j:Nat}(hj:j<K.n){pc a:Int}{S':CS}(l:S.TS j 0=pc)(c:10<pc)(g:∀W,af [] w W->Calls prog 228 #[some B.cb,j] W λe w'=>e= .returned a/\bg w' B K S'/\af (CZ B K) W w'),Calls prog 223 #[some B.cb,j] w λe w'=>e= .returned (.bool (a==10||a==0))/\bg w' B K {S' with TS:=aa S'.TS j 0 a}/\af (CZ B K) w w'):=by
 refine⟨?_,?_⟩;all_goals
  intro w B K S h j hj pc a S' l c g
 all_goals
  have v:=aH (rn h j);have M:=fU;have z:mB K.n S.TS j= .agg #[pc,(S.TS j 1:Int),(S.TS j 2:Int),(S.TS j 3:Int)]:=by unfold mB;rw[cl hj,ad rfl,<-l];rfl
  rw[z] at v;have HJ:=aH hj;have x:=h.Ry;have l1:(j:Int)<K.n:=by omega
  have d0:(pc==0)=false:=by simp;omega
  have d1:(pc==10)=false:=by simp;omega
 have d2:decide (pc<10)=true:=by simp;omega
 rotate_left;have d2:decide (pc<10)=false:=by simp;omega
 rotate_left;all_goals
  have H:=aH h;have o:=aH g;clear g z h l c hj;cases E:(a==10)
  all_goals
   cases F:(a==0)
   all_goals
    first
     |(exfalso;simp at E F;omega)
     |skip
  all_goals
   go_enter func223,ntmps223;go_wp2_with fail;refine gF v.o ?_;rintro W d;have f:=aH d;have n:=aH (H.o.same d);clear d;have r:Nonempty (HW (λu=>af (CZ B K) W u)):=⟨⟨W,aF⟩⟩
   have s:=zF (L:=(CZ B K)) n.o.box (n.o.mut.not n.o.box) 8 rfl;go_wp2_with fail;refine aG (λu=>af (CZ B K) W u) ?_;refine eQ (fuel:=4) [0,1,2,3,4,5,6] rfl aF.Rs ?_;refine aL 7 (fuel:=3) rfl ?_;go_wp2_with fail;refine gF (o.o _ (f.o.Rs)) ?_;rintro w2 ⟨m,d⟩;have A:=aH m;have b:=aH (((af.refl (CZ B K) W).Rs).trans d);have C:=m.p0 HJ.o;have D:=m.row.frozen;clear m d;go_wp2_with fail;refine ah ⟨b.o,?_⟩;refine eQ (fuel:=1) [8,9] rfl b.o ?_;refine aL 10 (fuel:=0) rfl ?_;go_wp2_with fail;refine ah ⟨b.o.set _ _ (.inl (a8.2 (.inl rfl))),?_⟩;refine aN ?_;have p:=aH (A.o.put j (t:=0) aO a);have q:=aH (b.o.set ⟨B.cs,j*4,none⟩ (.int .i64 a) (.inl (a8.2 (.inl rfl))));have I:(w2.setCell (B.cs,j*4) (.int .i64 a)).cell? (B.cs,j*4)=some (.int .i64 a):=(p.o.p0 HJ.o).trans (by simp[aa]);have J:=p.o.box.cell (i:=8) rfl;clear C D r s;generalize w2.setCell (B.cs,j*4) (.int .i64 a)=G at*;go_wp2;go_ret;exact⟨rfl,p.o,(f.o.mono aS).trans q.o⟩
def xX:= @nS.1
def vJ:= @nS.2
theorem J4(h:bg w B K S)(i:Int)(hi:bC K.n i=false\/S.TS i.toNat 0=0\/S.TS i.toNat 0=10):Calls prog 223 #[some B.cb,i] w λe w'=>e= .returned false/\af [] w w':=by
 have f:=aH (rn h i);have l:=fU;have hv:∃a b c p:Int,(p=0\/p=10)/\mB K.n S.TS i= .agg #[p,a,b,c]:=by
  unfold mB;by_cases d:bC K.n i=true
  ·rw[ad d];exact⟨_,_,_,_,hi.resolve_left (by simp[d]),rfl⟩
  ·rw[ac d];exact⟨0,0,0,0,.inl rfl,rfl⟩
 obtain⟨a,b,c,p,k,hv⟩:=hv;rw[hv] at f;clear hv hi h;rcases k with rfl|rfl;all_goals
  go_enter func223,ntmps223;go_wp2_with fail;refine gF f.o ?_;rintro w1 g;have j:=aH g;clear g;go_wp2;go_ret;exact⟨rfl,j.o⟩
theorem ro(h:bg w B K S)(f:dU K S)(i:Int):Calls prog 223 #[some B.cb,i] w λe w'=>e= .returned (.bool (a5 K S i))/\bg w' B K (ay K S i)/\af (CZ B K) w w':=by
 unfold a5 ay;cases hm:iA K S i with
 |false=>
  simp only[lC,ko,br];refine(J4 h i ?_).mono λe w' ⟨h1,h2⟩=>⟨h1,h.same h2,h2.mono aS⟩
  unfold iA at hm;cases g:bC K.n i with
  |false=>exact .inl rfl
  |true=>
   rw[g] at hm;by_cases a:S.TS i.toNat 0=0
   ·exact .inr (.inl a)
   ·by_cases g1:S.TS i.toNat 0=10
    ·exact .inr (.inr g1)
    ·simp[a,g1] at hm
 |true=>
  have d:bC K.n i=true/\¬S.TS i.toNat 0=0/\¬S.TS i.toNat 0=10:=by unfold iA at hm;simpa[and_assoc] using hm
  obtain⟨hi,a,g1⟩:=d;have c:0<=i/\i<(K.n:Int):=by unfold bC at hi;simpa using hi
  obtain⟨j,rfl⟩:=ix c.1;have hj:j<K.n:=by omega
  rw[cH] at a g1⊢;have k:=f.th j hj;simp only[gS,bt];unfold iy;by_cases q:S.TS j 0<10
  ·simp only[ad q];exact xX h hj rfl aO λW b=>CY (h.same b) f hj aO
  ·simp only[ac q];exact vJ h hj rfl aO λW b=>AG (h.same b) f hj aO
end
def bu(K:CK)(S:CS)(i:Int):CS:=if ai K.n S.TS i 0 then{S with LS:=dL S.LS (K.nd i.toNat) (gM (K.L (K.nd i.toNat)) (S.LS (K.nd i.toNat)) (K.sl i.toNat:Nat)),TS:=aa S.TS i.toNat 0 1} else S
def bj(K:CK)(S:CS)(i:Int):CS:={S with TS:=bo K.n S.TS i 10 11}
def rm(K:CK)(S:CS)(i:Int):Int:=if ai K.n S.TS i 10 then S.TS i.toNat 1 else 0
section
variable{w w':World}{B:CB}{K:CK}{S:CS}
theorem tq(h:bg w B K S)(i:Int):Calls prog 219 #[some B.cb,i] w λe w'=>e= .returned (.bool (ai K.n S.TS i 0))/\bg w' B K (bu K S i)/\af (CZ B K) w w':=by
 have j:=aH (Jm h i);have u:= @aX prog;cases hi:bC K.n i with
 |false=>
  have b:ai K.n S.TS i 0=false:=by unfold ai;rw[hi];rfl
  have a:bu K S i=S:=by unfold bu;rw[b];rfl
  rw[b,a];rw[hi] at j;have H:=aH h;clear h b a hi;go_enter func219,ntmps219;go_wp2_with fail;refine gF j.o ?_;rintro w' rfl;go_wp2;go_ret;exact⟨rfl,H.o,aF⟩
 |true=>
  have f:0<=i/\i<(K.n:Int):=by unfold bC at hi;simpa using hi
  obtain⟨th,rfl⟩:=ix f.1;have hj:th<K.n:=by omega
  have A:=h.box.cell (i:=8) rfl;have y:=h.p0 hj;have l1:(th:Int)<K.n:=by omega
  have s:=h.Ry;rw[hi] at j;by_cases g:S.TS th 0=0
  ·have b:ai K.n S.TS th 0=true:=by unfold ai;rw[hi,cH,g];rfl
   have a:bu K S th={S with LS:=dL S.LS (K.nd th) (gM (K.L (K.nd th)) (S.LS (K.nd th)) (K.sl th:Nat)),TS:=aa S.TS th 0 1}:=by unfold bu;rw[b,ad rfl,cH]
   rw[b,a];rw[g] at y;have HJ:=aH hj;have HV:=aH (h.Th hj);have o:=aH (J5 h hj);have H:=aH h;clear h b a hi f g hj;go_enter func219,ntmps219;go_wp2_with fail;refine gF j.o ?_;rintro w' rfl;go_wp2_with fail;refine gF o.o ?_;rintro w1 c;have d:af [] w1 (w1.alloc (.cells #[some (B.fb (K.nd th)),(K.cn (K.nd th):Int)] 203)):=aF.alloc _;have n:=aH (c.trans d);have p:=aH (H.o.same (c.trans d));clear d c;go_wp2_with fail;generalize w1.alloc (.cells #[some (B.fb (K.nd th)),(K.cn (K.nd th):Int)] 203)=W at*;refine(rt ((p.o.loc _ HV.o)) ((K.sl th:Nat):Int)).mono ?_;rintro e w2 ⟨rfl,r,c⟩;have k:=aH (p.o.local HV.o (c.mono aS) r);have l:=aH (c.mono (S':=CZ B K) (λz v=>a8.2 (by
    simp at v;exact .inr (.inr (.inr (.inr ⟨_,HV.o,v.symm⟩))))))
   clear r c;have C:=k.o.p0 HJ.o;have E:=k.o.row.frozen;have D:=k.o.box.cell (i:=8) rfl;have x:=aH (k.o.put th (t:=0) aO 1);have m:=aH (l.o.set ⟨B.cs,th*4,none⟩ (.int .i64 1) (.inl (a8.2 (.inl rfl))));go_wp2;go_ret;exact⟨rfl,x.o,(n.o.mono aS).trans m.o⟩
  ·have b:ai K.n S.TS th 0=false:=by unfold ai;rw[hi,cH];simpa using g
   have a:bu K S th=S:=by unfold bu;rw[b];rfl
   rw[b,a];have d1:(S.TS th 0 !=0)=true:=by simpa using g
   have H:=aH h;generalize S.TS th 0=q at*;clear h b a hi f g hj;go_enter func219,ntmps219;go_wp2_with fail;refine gF j.o ?_;rintro w' rfl;go_wp2;go_ret;exact⟨rfl,H.o,aF⟩
theorem pM(h:bg w B K S)(i:Int):Calls prog 221 #[some B.cb,i] w λe w'=>e= .returned (.bool (ai K.n S.TS i 10))/\bg w' B K (bj K S i)/\af (CZ B K) w w':=by
 have m:=aH (rn h i);have x:=fU;cases f:ai K.n S.TS i 10 with
 |false=>
  have d:bj K S i=S:=by unfold bj bo;rw[f];rfl
  rw[d];have hv:∃a b c p:Int,(p !=10)=true/\mB K.n S.TS i= .agg #[p,a,b,c]:=by
   unfold mB;by_cases o:bC K.n i=true
   ·rw[ad o];exact⟨_,_,_,_,by unfold ai at f;rw[o] at f;simpa using f,rfl⟩
   ·rw[ac o];exact⟨0,0,0,0,rfl,rfl⟩
  obtain⟨a,b,c,p,y,hv⟩:=hv;rw[hv] at m;have H:=aH h;clear hv h d f;go_enter func221,ntmps221;go_wp2_with fail;refine gF m.o ?_;rintro w1 j;have s:=aH (H.o.same j);have v:=aH j;clear j;go_wp2;go_ret;exact⟨rfl,s.o,v.o.mono aS⟩
 |true=>
  have g:bC K.n i=true/\S.TS i.toNat 0=10:=by unfold ai at f;simpa using f
  have l:0<=i/\i<(K.n:Int):=by have:=g.1;unfold bC at this;simpa using this
  obtain⟨th,rfl⟩:=ix l.1;have hj:th<K.n:=by omega
  have d:bj K S th={S with TS:=aa S.TS th 0 11}:=by unfold bj bo;rw[f,ad rfl,cH]
  rw[d];have r:mB K.n S.TS th= .agg #[(10:Int),(S.TS th 1:Int),(S.TS th 2:Int),(S.TS th 3:Int)]:=by unfold mB;rw[g.1,ad rfl,<-g.2,cH]
  rw[r] at m;have HJ:=aH hj;have l1:(th:Int)<K.n:=by omega
  have q:=h.Ry;have H:=aH h;clear h r d f g l hj;go_enter func221,ntmps221;go_wp2_with fail;refine gF m.o ?_;rintro w1 j;have k:=H.o.same j;have z:=k.p0 HJ.o;have C:=k.row.frozen;have A:=k.box.cell (i:=8) rfl;have u:=aH (k.put th (t:=0) aO 11);have n:=aH ((j.mono (S':=CZ B K) aS).set ⟨B.cs,th*4,none⟩ (.int .i64 11) (.inl (a8.2 (.inl rfl))));clear k j;go_wp2;go_ret;exact⟨rfl,u.o,n.o⟩
theorem vH(h:bg w B K S)(i:Int):Calls prog 220 #[some B.cb,i] w λe w'=>e= .returned (rm K S i:Int)/\af [] w w':=by
 have j:=aH (rn h i);unfold rm;cases d:ai K.n S.TS i 10 with
 |false=>
  have hv:∃a b c p:Int,(p !=10)=true/\mB K.n S.TS i= .agg #[p,a,b,c]:=by
   unfold mB;by_cases l:bC K.n i=true
   ·rw[ad l];exact⟨_,_,_,_,by unfold ai at d;rw[l] at d;simpa using d,rfl⟩
   ·rw[ac l];exact⟨0,0,0,0,rfl,rfl⟩
  obtain⟨a,b,c,p,n,hv⟩:=hv;rw[hv] at j;clear hv h d;go_enter func220,ntmps220;go_wp2_with fail;refine gF j.o ?_;rintro w1 g;have k:=aH (g.alloc (.cells #[p,a,b,c] 138));clear g;go_wp2;go_ret;exact⟨rfl,k.o⟩
 |true=>
  have f:bC K.n i=true/\S.TS i.toNat 0=10:=by unfold ai at d;simpa using d
  have m:mB K.n S.TS i= .agg #[(10:Int),(S.TS i.toNat 1:Int),(S.TS i.toNat 2:Int),(S.TS i.toNat 3:Int)]:=by unfold mB;rw[f.1,ad rfl,<-f.2]
  rw[m] at j;generalize S.TS i.toNat 1=x at*;generalize S.TS i.toNat 2=y at*;generalize S.TS i.toNat 3=z at*;clear h m d f;go_enter func220,ntmps220;go_wp2_with fail;refine gF j.o ?_;rintro w1 g;have k:=aH (g.alloc (.cells #[(10:Int),x,y,z] 138));clear g;go_wp2;go_ret;exact⟨rfl,k.o⟩
end
theorem Eu:(prog.info? 203).map (λi=>(i.zero,i.size,i.bytes))=some (some (.agg #[.pointer none,(0:Int)]),2,16):=by kernel_rfl
def ly(lk par:Nat)(T E:List Int)(v:Nat)(A:AR):FK:=⟨lk,par,A.taken+1,max 1 (T.count (E[v]?.getD 0))⟩
def jR(lk par:Nat)(T E:List Int)(A:AR):Nat->AR
 | 0=>A
 |v+1=>{(fK (ly lk par T E v (jR lk par T E A v)) (jR lk par T E A v)) with taken:=(fK (ly lk par T E v (jR lk par T E A v)) (jR lk par T E A v)).taken+1}
def wI(n:Nat)(fb cn:Nat->Nat):List Value:=(List.range (2*n)).map λj=>if j%2=0 then .pointer (some ⟨fb (j/2),0,none⟩) else .int .i64 (cn (j/2))
variable{n:Nat}
theorem wJ{fb cn:Nat->Nat}{v:Nat}(hv:v<n):(wI n fb cn)[v*2]? =some (.pointer (some ⟨fb v,0,none⟩))/\(wI n fb cn)[v*2+1]? =some (.int .i64 (cn v)):=by
 unfold wI;constructor
 ·rw[iL,qo aO];simp only[y8];rw[show v*2%2=0 by omega,ad rfl,show v*2/2=v by omega]
 ·rw[iL,qo aO];simp only[y8];rw[show(v*2+1)%2=1 by omega,ac aO,show(v*2+1)/2=v by omega]
theorem Bj(n:Nat)(fb cn b a:Nat->Nat)(h:∀u,u<n->b u=fb u/\a u=cn u):wI (n+1) b a=wI n fb cn++[.pointer (some ⟨b n,0,none⟩),.int .i64 (a n)]:=by
 unfold wI;rw[show 2*(n+1)=2*n+1+1 by omega];simp only[xr,xu,List.map_cons,List.map_nil,Je,List.cons_append,List.nil_append];rw[show 2*n/2=n by omega,show 2*n%2=0 by omega,show(2*n+1)/2=n by omega,show(2*n+1)%2=1 by omega];simp only[bt,Nat.one_ne_zero,br];congr 1;apply BM;intro j hj;have c:=y7.1 hj;have:=h (j/2) aO;rw[this.1,this.2]
theorem kC(w:World)(a b:Value)(T:TypeId):∀(j:Nat)(u:Value),[a,b][j]? =some u->(w.alloc (.cells #[a,b] T)).cell? ((⟨w.heap.size,0,none⟩:Addr).add j)=some u:=by
 intro j u d;have h:=aq.new w #[a,b] T;have e:(⟨w.heap.size,0,none⟩:Addr).add j=⟨w.heap.size,j,none⟩:=by
  unfold Addr.add
  split
  ·rename_i c;subst c;rfl
  ·simp
 rw[e];exact h.cell d
def Ji(w:World)(Z:List Nat):Prop:=∀z∈Z,∃vs T,aq w z vs T/\(T=203\/T=201\/T=136)
variable{w:World}{Z:List Nat}{b:Nat}
theorem Ji.not(h:Ji w Z){vs:List Value}{T:TypeId}(a:aq w b vs T)(h1:T≠203:=by decide)(h2:T≠201:=by decide)(h3:T≠136:=by decide):b∉Z:=by
 intro hm;obtain⟨us,U,c,ht⟩:=h b hm;refine am rfl (a.differ c (λe=>?_));subst e;rcases ht with e|e|e
 ·exact h1 e
 ·exact h2 e
 ·exact h3 e
variable{w':World}{ab wb:Nat}{A:AR}
theorem ax.S4(h:ax w ab wb A)(b:af Z w w')(a:Ji w Z):ax w' ab wb A:=h.Rr b (a.not h.box) (a.not h.row)
theorem cZ.S4{w w':World}{fb lb sb ab wb:Nat}{A:AR}{S:Nat->Nat->Int}{K:FK}(h:cZ w fb lb sb ab wb A S K){Z:List Nat}(b:af Z w w')(a:Ji w Z):cZ w' fb lb sb ab wb A S K:=by
 obtain⟨_,h1⟩:=h.TZ;obtain⟨_,h2⟩:=h.S3;obtain⟨_,T,h3,t1,t2,t3,t4,t5,t6,t7,t8⟩:=h.UG;exact h.re b (a.not h1) (a.not h3 t6 t5 t7) (a.not h2) (h.ar.S4 b a)
variable{v:Value}{zs:List Int}
theorem IR.S4{g:Nat}(h:IR w g v zs)(b:af Z w w')(d:Ji w Z):IR w' g v zs:=by
 have a:=h;obtain⟨_,_,_,c,_⟩:=h;exact a.Rr b (d.not c)
variable{T P:List Int}
theorem jG.Sm{tb:Nat}(h:jG w tb P T)(c:af Z w w')(d:Ji w Z)(ht:tb∉Z):jG w' tb P T:=by
 obtain⟨g,i,e,a,b,f,gt,gn,gs,gm,h1,h2,h3,h4,h5⟩:=h;exact⟨g,i,e,a,b,f,gt,gn,gs,gm,h1.Rr c ht,h2.S4 c d,h3.S4 c d,h4.S4 c d,h5.S4 c d⟩
def km(f:Nat->Nat)(v x:Nat):Nat->Nat:=λu=>if u=v then x else f u
def qT(n:Nat)(B:CB)(K:CK):Prop:=n<=B.cs/\n<=B.gs/\∀u,u<K.E->n<=B.sb u
theorem qT.mono{n m:Nat}{B:CB}{K:CK}(h:qT n B K)(hm:m<=n):qT m B K:=⟨dv hm h.1,dv hm h.2.1,λu a=>dv hm (h.2.2 u a)⟩
structure tZ(w:World)(B:CB)(K:CK)(v:Nat)(A:AR)(vn:Value)(B0 bp:Nat):Prop where
 box:aq w B.cb [some B.ab,some B.tb,K.gk,K.lk,K.par,K.bud,some B.gf,vn,.slice (some ⟨B.cs,0,none⟩) K.n K.n] 201
 Sj:jG w B.tb K.P K.T
 Sf:cZ w B.gf B.gl B.gs B.ab B.wb A (lg K.G) K.G
 Sh:w.ownsRow B0 203 2 vn v (wI v B.fb K.cn)
 loc:∀u,u<v->cZ w (B.fb u) (B.lb u) (B.sb u) B.ab B.wb A (lg (K.L u)) (K.L u)
 row:aq w B.cs (dJ K.n λ_ _=>0) 138
 Sg:B.cs≠B.gs/\(∀u,u<v->B.sb u≠B.cs/\B.sb u≠B.gs)/\∀a b,a<v->b<v->B.sb a=B.sb b->a=b
 pair:aq w bp [K.gk,K.lk,K.par,K.bud] 42
 lt:B.cb<B0
 new:bp<=B.cs+1/\bp<=B.gs+1/\∀u,u<v->bp<=B.sb u+1
section
variable{w w' w1:World}{B:CB}{K:CK}{v B0 bp:Nat}{A A':AR}{vn v':Value}
theorem tZ.UW(h:tZ w B K v A vn B0 bp):sR w [B.ab,B.wb]:=by
 intro z a;simp at a;rcases a with e|e
 ·subst e;exact⟨_,_,h.Sf.ar.box,.inr (.inl rfl)⟩
 ·subst e;exact⟨_,_,h.Sf.ar.row,.inr (.inr rfl)⟩
theorem LN{w w':World}{base size k:Nat}{v:Value}{xs:List Value}(h:w.ownsRow base 203 size v k xs){S:List Nat}(c:af S w w')(hs:sR w S):w'.ownsRow base 203 size v k xs:=by
 refine bR h c (λg b hm=>?_);rcases h.2 with⟨rfl,_⟩|⟨a,cap,cur,rfl,f,d,_⟩
 ·simp[Value.ownBlock] at b
 ·have:a=g:=nE b;subst this;have e:aq w a cur.toList 203:=by unfold aq;simpa using d
  exact(hs.not e) hm
theorem tZ.R1(h:tZ w B K v A vn B0 bp)(a:af [B.ab,B.wb] w w')(c:ax w' B.ab B.wb A'):tZ w' B K v A' vn B0 bp:=by
 have hm:=h.UW;refine{box:=h.box.Rr a (hm.not h.box),Sj:=h.Sj.stay a hm,Sf:=?_,Sh:=LN h.Sh a hm,loc:=λu b=>?_,row:=?_,Sg:=h.Sg,pair:=h.pair.Rr a (hm.not h.pair),lt:=h.lt,new:=h.new}
 ·have:=h.Sf.apart;exact h.Sf.re a (h.Sf.SE hm).1 (h.Sf.SE hm).2 aQ c
 ·have:=(h.loc u b).apart;exact(h.loc u b).re a ((h.loc u b).SE hm).1 ((h.loc u b).SE hm).2 aQ c
 ·exact h.row.Rr a (by have:=h.row.differ h.Sf.ar.box aJ;have:=h.row.differ h.Sf.ar.row aJ;simp;omega)
theorem tZ.same(h:tZ w B K v A vn B0 bp)(a:af [] w w'):tZ w' B K v A vn B0 bp:=h.R1 (a.mono aS) (h.Sf.ar.Rr a aS aS)
theorem tZ.UZ(h:tZ w B K v A vn B0 bp):Ji w (B.cb::vn.ownBlock.toList):=by
 intro z b;rcases kq.1 b with e|b
 ·subst e;exact⟨_,_,h.box,.inr (.inl rfl)⟩
 ·have a:vn.ownBlock=some z:=by simpa using b
  rcases h.Sh.2 with⟨e,_⟩|⟨c,cap,cur,e,f,d,_⟩
  ·rw[e] at a;simp[Value.ownBlock] at a
  ·rw[e] at a;have:c=z:=nE a;subst this;exact⟨cur.toList,_,by unfold aq;simpa using d,.inl rfl⟩
variable{o:Obj}
theorem tZ.Ss(h:tZ w B K v A vn B0 bp)(a:(w.alloc o).grownBy w1 vn.ownBlock):aq w1 B.cb [some B.ab,some B.tb,K.gk,K.lk,K.par,K.bud,some B.gf,vn,.slice (some ⟨B.cs,0,none⟩) K.n K.n] 201:=
 h.box.Rr (bE a) (λhm=>by have:=bN h.Sh B.cb (by simpa using hm);have:=h.lt;omega)
theorem tZ.grow(h:tZ w B K v A vn B0 bp){f l s:Nat}(F:cZ w f l s B.ab B.wb A (lg (K.L v)) (K.L v))(hs:s≠B.cs/\s≠B.gs/\∀u,u<v->s≠B.sb u)(p:bp<=s+1)(k:w1.ownsRow B0 203 2 v' (v+1) (wI v B.fb K.cn++[.pointer (some ⟨f,0,none⟩),.int .i64 (K.cn v)]))(y:(w.alloc o).grownBy w1 vn.ownBlock):
 tZ (w1.setCell (B.cb,7) v') {B with fb:=km B.fb v f,lb:=km B.lb v l,sb:=km B.sb v s} K (v+1) A v' B0 bp:=by
 have H:=bE y;have r:af [B.cb] w1 (w1.setCell (B.cb,7) v'):=aU;have c:af (B.cb::vn.ownBlock.toList) w (w1.setCell (B.cb,7) v'):=(H.mono (by intro z L;exact pI _ L)).set _ _ (.inl aS);have ho:=h.UZ;have d:∀u,u<v->km B.fb v f u=B.fb u/\km B.lb v l u=B.lb u/\km B.sb v s u=B.sb u:=λu d=>by unfold km;rw[ac aO,ac aO,ac aO];exact⟨rfl,rfl,rfl⟩
 have hv:km B.fb v f v=f/\km B.lb v l v=l/\km B.sb v s v=s:=by unfold km;simp
 have t:B.tb∉(B.cb::vn.ownBlock.toList):=by
  have n:=h.Sj;obtain⟨_,_,_,_,_,_,_,_,_,_,h1,_⟩:=n;intro hm;rcases kq.1 hm with e|hm
  ·exact h1.differ h.box aJ e
  ·have j:vn.ownBlock=some B.tb:=by simpa using hm
   rcases h.Sh.2 with⟨e,_⟩|⟨E,cap,cur,e,G,I,_⟩
   ·rw[e] at j;simp[Value.ownBlock] at j
   ·rw[e] at j;have C:E=B.tb:=nE j;have J:aq w B.tb cur.toList 203:=by rw[<-C];unfold aq;simpa using I
    exact am rfl (h1.differ J aJ)
 obtain⟨d1,d2,d3⟩:=h.Sg;refine{box:=(h.Ss y).set 7 v',Sj:=h.Sj.Sm c ho t,Sf:=h.Sf.S4 c ho,Sh:=?_,loc:=λu i=>?_,row:=h.row.Rr c (ho.not h.row),Sg:=⟨d1,λu i=>?_,λa b ha G e=>?_⟩,pair:=h.pair.Rr c (ho.not h.pair),lt:=h.lt,new:=⟨h.new.1,h.new.2.1,λu i=>?_⟩}
 ·have:=bR k r (λg q hm=>by have:=(bN k g q).1;have:=h.lt;simp at hm;omega);rw[Bj v B.fb K.cn (km B.fb v f) K.cn (λu i=>⟨(d u i).1,rfl⟩),hv.1];exact this
 ·show cZ _ (km B.fb v f u) (km B.lb v l u) (km B.sb v s u) _ _ _ _ _;by_cases e:u=v
  ·subst e;rw[hv.1,hv.2.1,hv.2.2];exact F.S4 c ho
  ·rw[(d u aO).1,(d u aO).2.1,(d u aO).2.2];exact(h.loc u aO).S4 c ho
 ·show km B.sb v s u≠_/\km B.sb v s u≠_;by_cases e:u=v
  ·subst e;rw[hv.2.2];exact⟨hs.1,hs.2.1⟩
  ·rw[(d u aO).2.2];exact d2 u aO
 ·have m:km B.sb v s a=km B.sb v s b:=e;by_cases D:a=v
  ·by_cases x:b=v
   ·omega
   ·subst D;rw[hv.2.2,(d b aO).2.2] at m;exact am m (hs.2.2 b aO)
  ·by_cases x:b=v
   ·subst x;rw[hv.2.2,(d a aO).2.2] at m;exact am m.symm (hs.2.2 a aO)
   ·rw[(d a aO).2.2,(d b aO).2.2] at m;exact d3 a b aO aO m
 ·show bp<=km B.sb v s u+1;by_cases e:u=v
  ·subst e;rw[hv.2.2];exact p
  ·rw[(d u aO).2.2];exact h.new.2.2 u aO
theorem tZ.done(h:tZ w B K K.E A vn B0 bp)(hE:1<=K.E)(hs:ea K.P K.T):∃nb cap,bg w {B with nb:=nb,Ud:=cap} K ⟨A,lg K.G,λu=>lg (K.L u),λ_ _=>0⟩:=by
 rcases h.Sh.2 with⟨_,e⟩|⟨g,cap,cur,hv,f,d,i,b,c,a⟩
 ·omega
 ·subst hv;refine⟨g,cap,{box:=h.box,Sj:=h.Sj,Sf:=h.Sf,Sh:=⟨cur.toList,by unfold aq;simpa using d,λv hv=>?_⟩,loc:=h.loc,row:=h.row,Sg:=h.Sg,ok:=hs}⟩;have h1:=(wJ (fb:=B.fb) (cn:=K.cn) hv).1;have h2:=(wJ (fb:=B.fb) (cn:=K.cn) hv).2;rw[<-a] at h1 h2;rw[y5 aO] at h1 h2;exact⟨h1,h2⟩
end
def LP.SP(p:LP)(s:p.σ)(i x:Int):Int×Int×Bool×Int:=
 if bC p.n i=false then(0,0,false,0)
 else if x=0 then((p.Sx s i).1,i,p.rd s i,(p.Sx s i).2)
 else if x=1\/x=3 then((p.SB s i (x==3)).1,i,(p.SB s i (x==3)).2,0)
 else if x=2\/x=4 then((p.R4 s i (x==4)).1,i,(p.R4 s i (x==4)).2,0)
 else(5,i,p.rd s i,0)
def LP.RY(p:LP)(s:p.σ)(i x:Int):p.σ:=
 if bC p.n i=false then s
 else if x=0 then p.step s i
 else if x=1\/x=3 then p.ask s i (x==3)
 else if x=2\/x=4 then p.leave s i (x==4)
 else s
def rr(e:Int×Int×Bool×Int):Value:=jg e.1 e.2.1 e.2.2.1 e.2.2.2
section
variable{p:LP}{b:LB p}{w w':World}{wo tb lk:Nat}{s s':p.σ}{i:Int}{k:Nat}
theorem jw:(∀{p:LP}{b:LB p}{w:World}{wo tb lk:Nat}{s:p.σ}{i:Int}{k:Nat}(h:b.Ok)(j:p.I k s)(ha:eP b w wo tb lk s){x:Int}(hi:i<0),Calls prog 9 #[some wo,.agg #[i,x]] w λe w'=>e= .returned (jg (0) (0) (false) (0))/\eP b w' wo tb lk (s)/\af b.Z w w')/\(∀{p:LP}{b:LB p}{w:World}{wo tb lk:Nat}{s:p.σ}{i:Int}{k:Nat}(h:b.Ok)(j:p.I k s)(ha:eP b w wo tb lk s){x:Int}(hi:(p.n:Int)<=i),Calls prog 9 #[some wo,.agg #[i,x]] w λe w'=>e= .returned (jg (0) (0) (false) (0))/\eP b w' wo tb lk (s)/\af b.Z w w')/\(∀{p:LP}{b:LB p}{w:World}{wo tb lk:Nat}{s:p.σ}{i:Int}{k:Nat}(h:b.Ok)(j:p.I k s)(ha:eP b w wo tb lk s){x:Int}(hi:dO p i)(I:x≠0/\x≠1/\x≠2/\x≠3/\x≠4),Calls prog 9 #[some wo,.agg #[i,x]] w λe w'=>e= .returned (jg (5) (i) (p.rd s i) (0))/\eP b w' wo tb lk (s)/\af b.Z w w')/\(∀{p:LP}{b:LB p}{w:World}{wo tb lk:Nat}{s:p.σ}{i:Int}{k:Nat}(h:b.Ok)(j:p.I k s)(ha:eP b w wo tb lk s)(hi:dO p i),Calls prog 9 #[some wo,.agg #[i,(0:Int)]] w λe w'=>e= .returned (jg ((p.Sx s i).1) (i) (p.rd s i) ((p.Sx s i).2))/\eP b w' wo tb lk (p.step s i)/\af b.Z w w')/\(∀{p:LP}{b:LB p}{w:World}{wo tb lk:Nat}{s:p.σ}{i:Int}{k:Nat}(h:b.Ok)(j:p.I k s)(ha:eP b w wo tb lk s)(hi:dO p i),Calls prog 9 #[some wo,.agg #[i,(1:Int)]] w λe w'=>e= .returned (jg ((p.SB s i false).1) (i) ((p.SB s i false).2) (0))/\eP b w' wo tb lk (p.ask s i false)/\af b.Z w w')/\(∀{p:LP}{b:LB p}{w:World}{wo tb lk:Nat}{s:p.σ}{i:Int}{k:Nat}(h:b.Ok)(j:p.I k s)(ha:eP b w wo tb lk s)(hi:dO p i),Calls prog 9 #[some wo,.agg #[i,(3:Int)]] w λe w'=>e= .returned (jg ((p.SB s i true).1) (i) ((p.SB s i true).2) (0))/\eP b w' wo tb lk (p.ask s i true)/\af b.Z w w')/\(∀{p:LP}{b:LB p}{w:World}{wo tb lk:Nat}{s:p.σ}{i:Int}{k:Nat}(h:b.Ok)(j:p.I k s)(ha:eP b w wo tb lk s)(hi:dO p i),Calls prog 9 #[some wo,.agg #[i,(2:Int)]] w λe w'=>e= .returned (jg ((p.R4 s i false).1) (i) ((p.R4 s i false).2) (0))/\eP b w' wo tb lk (p.leave s i false)/\af b.Z w w')/\(∀{p:LP}{b:LB p}{w:World}{wo tb lk:Nat}{s:p.σ}{i:Int}{k:Nat}(h:b.Ok)(j:p.I k s)(ha:eP b w wo tb lk s)(hi:dO p i),Calls prog 9 #[some wo,.agg #[i,(4:Int)]] w λe w'=>e= .returned (jg ((p.R4 s i true).1) (i) ((p.R4 s i true).2) (0))/\eP b w' wo tb lk (p.leave s i true)/\af b.Z w w'):=by
 refine⟨?_,?_,?_,?_,?_,?_,?_,?_⟩;iterate 2
  intro p b w wo tb lk s i k h j ha x hi;have o:=aH ((aq.new w #[i,x] 38).Rr ((af.refl [] _).alloc (.cells #[(0:Int),(0:Int),false,(0:Int)] 35)) aS);have D:=aq.new (w.alloc (.cells #[i,x] 38)) #[(0:Int),(0:Int),false,(0:Int)] 35;rotate_left
 intro p b w wo tb lk s i k h j ha x hi I;have o:=aH ((aq.new w #[i,x] 38).Rr ((af.refl [] _).alloc (.cells #[(0:Int),(0:Int),false,(0:Int)] 35)) aS);have D:=aq.new (w.alloc (.cells #[i,x] 38)) #[(0:Int),(0:Int),false,(0:Int)] 35;rotate_left;intro p b w wo tb lk s i k h j ha hi;have o:=aH ((aq.new w #[i,(0:Int)] 38).Rr ((af.refl [] _).alloc (.cells #[(0:Int),(0:Int),false,(0:Int)] 35)) aS);have D:=aq.new (w.alloc (.cells #[i,(0:Int)] 38)) #[(0:Int),(0:Int),false,(0:Int)] 35;rotate_left;intro p b w wo tb lk s i k h j ha hi;have o:=aH ((aq.new w #[i,(1:Int)] 38).Rr ((af.refl [] _).alloc (.cells #[(0:Int),(0:Int),false,(0:Int)] 35)) aS);have D:=aq.new (w.alloc (.cells #[i,(1:Int)] 38)) #[(0:Int),(0:Int),false,(0:Int)] 35;rotate_left;intro p b w wo tb lk s i k h j ha hi;have o:=aH ((aq.new w #[i,(3:Int)] 38).Rr ((af.refl [] _).alloc (.cells #[(0:Int),(0:Int),false,(0:Int)] 35)) aS);have D:=aq.new (w.alloc (.cells #[i,(3:Int)] 38)) #[(0:Int),(0:Int),false,(0:Int)] 35;rotate_left;intro p b w wo tb lk s i k h j ha hi;have o:=aH ((aq.new w #[i,(2:Int)] 38).Rr ((af.refl [] _).alloc (.cells #[(0:Int),(0:Int),false,(0:Int)] 35)) aS);have D:=aq.new (w.alloc (.cells #[i,(2:Int)] 38)) #[(0:Int),(0:Int),false,(0:Int)] 35;rotate_left;intro p b w wo tb lk s i k h j ha hi;have o:=aH ((aq.new w #[i,(4:Int)] 38).Rr ((af.refl [] _).alloc (.cells #[(0:Int),(0:Int),false,(0:Int)] 35)) aS);have D:=aq.new (w.alloc (.cells #[i,(4:Int)] 38)) #[(0:Int),(0:Int),false,(0:Int)] 35;rotate_left;all_goals
  rw[bP] at D;have V:=aH D
 iterate 3
  have l:=aH (((af.refl [] w).alloc (.cells #[i,x] 38)).alloc (.cells #[(0:Int),(0:Int),false,(0:Int)] 35));rotate_left
 have l:=aH (((af.refl [] w).alloc (.cells #[i,(0:Int)] 38)).alloc (.cells #[(0:Int),(0:Int),false,(0:Int)] 35));rotate_left;have l:=aH (((af.refl [] w).alloc (.cells #[i,(1:Int)] 38)).alloc (.cells #[(0:Int),(0:Int),false,(0:Int)] 35));rotate_left;have l:=aH (((af.refl [] w).alloc (.cells #[i,(3:Int)] 38)).alloc (.cells #[(0:Int),(0:Int),false,(0:Int)] 35));rotate_left;have l:=aH (((af.refl [] w).alloc (.cells #[i,(2:Int)] 38)).alloc (.cells #[(0:Int),(0:Int),false,(0:Int)] 35));rotate_left;have l:=aH (((af.refl [] w).alloc (.cells #[i,(4:Int)] 38)).alloc (.cells #[(0:Int),(0:Int),false,(0:Int)] 35));rotate_left;all_goals
  have H:=aH ha;have O:=aH ha.lo.at_;have J:=aH (show w.heap.size<=w.heap.size+1 by omega);have K:=aH (λ(W:World) (n:af [] w W)=>tV (ha.same h n));unfold jg
 have d1:decide (i<0)=true:=ef hi;rotate_left;have d1:decide (i<0)=false:=aB;have d2:decide ((p.n:Int)<=i)=true:=ef hi;rotate_left;have a:=λ(W:World) (n:af [] w W)=>iJ h (ha.same h n) hi;have d1:decide (i<0)=false:=dh (by have:=hi.1;omega);have d2:decide ((p.n:Int)<=i)=false:=dh (by have:=hi.2;omega);rotate_left;have a:=λ(W:World) (n:af [] w W)=>Mb h j (ha.same h n) hi;unfold jg at a;have d1:decide (i<0)=false:=dh (by have:=hi.1;omega);have d2:decide ((p.n:Int)<=i)=false:=dh (by have:=hi.2;omega);rotate_left;have a:=λ(W:World) (n:af [] w W)=>Fs h j (ha.same h n) hi false;unfold jg at a;have d1:decide (i<0)=false:=dh (by have:=hi.1;omega);have d2:decide ((p.n:Int)<=i)=false:=dh (by have:=hi.2;omega);rotate_left;have a:=λ(W:World) (n:af [] w W)=>Fs h j (ha.same h n) hi true;unfold jg at a;have d1:decide (i<0)=false:=dh (by have:=hi.1;omega);have d2:decide ((p.n:Int)<=i)=false:=dh (by have:=hi.2;omega);rotate_left;have a:=λ(W:World) (n:af [] w W)=>xd h j (ha.same h n) hi false;unfold jg at a;have d1:decide (i<0)=false:=dh (by have:=hi.1;omega);have d2:decide ((p.n:Int)<=i)=false:=dh (by have:=hi.2;omega);rotate_left;have a:=λ(W:World) (n:af [] w W)=>xd h j (ha.same h n) hi true;unfold jg at a;have d1:decide (i<0)=false:=dh (by have:=hi.1;omega);have d2:decide ((p.n:Int)<=i)=false:=dh (by have:=hi.2;omega);rotate_left;all_goals
  clear hi
 rotate_left 2;have x0:(x==0)=false:=by have:=I;simp;omega
 have x1:(x==1)=false:=by have:=I;simp;omega
 have x2:(x==2)=false:=by have:=I;simp;omega
 have x3:(x==3)=false:=by have:=I;simp;omega
 have x4:(x==4)=false:=by have:=I;simp;omega
 clear I;generalize p.rd s i=m at*;generalize p.st s i=st at*;have E:=aH a;clear a;rotate_left;generalize(p.Sx s i).1=r at*;generalize p.rd s i=m at*;generalize(p.Sx s i).2=S at*;generalize p.step s i=s2 at*;have E:=aH a;clear a;rotate_left;generalize(p.SB s i false).1=r at*;generalize(p.SB s i false).2=m at*;generalize p.ask s i false=s2 at*;have E:=aH a;clear a;rotate_left;generalize(p.SB s i true).1=r at*;generalize(p.SB s i true).2=m at*;generalize p.ask s i true=s2 at*;have E:=aH a;clear a;rotate_left;generalize(p.R4 s i false).1=r at*;generalize(p.R4 s i false).2=m at*;generalize p.leave s i false=s2 at*;have E:=aH a;clear a;rotate_left;generalize(p.R4 s i true).1=r at*;generalize(p.R4 s i true).2=m at*;generalize p.leave s i true=s2 at*;have E:=aH a;clear a;rotate_left;all_goals
  have b0:=o.o.cell (i:=0) rfl;have b1:=o.o.cell (i:=1) rfl;clear ha D j;go_enter func9,ntmps9;go_wp2_with fail
 iterate 3
  generalize(w.alloc (.cells #[i,x] 38)).alloc (.cells #[(0:Int),(0:Int),false,(0:Int)] 35)=F at*;rotate_left
 generalize(w.alloc (.cells #[i,(0:Int)] 38)).alloc (.cells #[(0:Int),(0:Int),false,(0:Int)] 35)=F at*;rotate_left;generalize(w.alloc (.cells #[i,(1:Int)] 38)).alloc (.cells #[(0:Int),(0:Int),false,(0:Int)] 35)=F at*;rotate_left;generalize(w.alloc (.cells #[i,(3:Int)] 38)).alloc (.cells #[(0:Int),(0:Int),false,(0:Int)] 35)=F at*;rotate_left;generalize(w.alloc (.cells #[i,(2:Int)] 38)).alloc (.cells #[(0:Int),(0:Int),false,(0:Int)] 35)=F at*;rotate_left;generalize(w.alloc (.cells #[i,(4:Int)] 38)).alloc (.cells #[(0:Int),(0:Int),false,(0:Int)] 35)=F at*;rotate_left;all_goals
  have T:=aW [] F;have U:=zF (L:=[]) o.o aS 0 rfl;refine aG (λY=>af [] F Y) ?_;refine aR (fuel:=3) [0,1,2,3,4,5,6] rfl aF.Rs ?_;intro Q M;repeat (go_big_quiet_step (fail))
  refine xi (M _ ?_);clear M Q;refine aL 7 (fuel:=2) rfl ?_;go_wp2_with fail
 rotate_left;iterate 7
  focus
   refine(K.o _ l.o.Rs).mono ?_;rintro e w' ⟨rfl,rfl⟩;go_wp2_with fail
  rotate_left
 all_goals
  refine ah ⟨aF.Rs,?_⟩;refine aR (fuel:=0) [8,9] rfl aF.Rs ?_;intro Q M;repeat (go_big_quiet_step (fail))
  refine xi (M _ ?_);clear M Q T U;refine aN ?_;have G:=aH (o.o.Rs);have y:=aH (V.o.Rs);have g:=aH (l.o.Rs);clear o V l K b0 b1;generalize F.drew=w1 at*;have b0:=G.o.cell (i:=0) rfl;have b1:=G.o.cell (i:=1) rfl
 iterate 2
  have C:=aH (H.o.same h g.o);have u:=aH (g.o.mono (S':=b.Z) aS);have c:=y;clear g;have f:=gN c.o 0 (0) false 0 rfl;rotate_left
 focus
  go_wp2_with fail;refine gF (E.o _ g.o) ?_;rintro w2 d;have c:=aH (y.o.Rr d aS);have P:=aH (G.o.Rr d aS);have u:=aH ((g.o.trans d).mono (S':=b.Z) aS);have C:=aH ((H.o.same h g.o).same h d);clear d b0 b1;have b0:=P.o.cell (i:=0) rfl;have f:=gN c.o 5 (i) m 0 rfl
 rotate_left
 focus
  go_wp2_with fail;refine gF (E.o _ g.o) ?_;rintro w2 ⟨q,d⟩;have c:=aH (y.o.Rr d (h.new O.o aO));have u:=aH ((g.o.mono (S':=b.Z) aS).trans d);have C:=aH q;clear d q b0 b1;have f:=gN c.o r (i) m S rfl
 rotate_left;iterate 4
  focus
   go_wp2_with fail;refine gF (E.o _ g.o) ?_;rintro w2 ⟨q,d⟩;have c:=aH (y.o.Rr d (h.new O.o aO));have u:=aH ((g.o.mono (S':=b.Z) aS).trans d);have C:=aH q;clear d q b0 b1;have f:=gN c.o r (i) m 0 rfl
  rotate_left
 all_goals
  have B:=aH (C.o.Tv h O.o c.o J.o f.2);have A:=aH f.1;have t:=aH (u.o.Rx f.2 (λz X=>.inr (by have:=J.o;simp at X;omega)));have Z:=c.o.cell (i:=0) rfl;have r1:=c.o.cell (i:=1) rfl;have r2:=c.o.cell (i:=2) rfl;have r3:=c.o.cell (i:=3) rfl;have rz:=c.o.frozen;have rl:=c.o.lt;clear f;go_wp2_with fail
 iterate 2
  generalize((((w1).setCell (w.heap.size+1,0) (.int .i64 0)).setCell (w.heap.size+1,1) (.int .i64 (0))).setCell (w.heap.size+1,2) (.bool false)).setCell (w.heap.size+1,3) (.int .i64 0)=R at*;rotate_left
 generalize((((w2).setCell (w.heap.size+1,0) (.int .i64 5)).setCell (w.heap.size+1,1) (.int .i64 (i))).setCell (w.heap.size+1,2) (.bool m)).setCell (w.heap.size+1,3) (.int .i64 0)=R at*;rotate_left;generalize((((w2).setCell (w.heap.size+1,0) (.int .i64 r)).setCell (w.heap.size+1,1) (.int .i64 (i))).setCell (w.heap.size+1,2) (.bool m)).setCell (w.heap.size+1,3) (.int .i64 S)=R at*;rotate_left;iterate 4
  generalize((((w2).setCell (w.heap.size+1,0) (.int .i64 r)).setCell (w.heap.size+1,1) (.int .i64 (i))).setCell (w.heap.size+1,2) (.bool m)).setCell (w.heap.size+1,3) (.int .i64 0)=R at*;rotate_left
 all_goals
  have N:=A.o.cell (i:=0) rfl;have k1:=A.o.cell (i:=1) rfl;have k2:=A.o.cell (i:=2) rfl;have k3:=A.o.cell (i:=3) rfl
 iterate 2
  focus
   exact eO (v:=.agg #[(0:Int),(0:Int),false,(0:Int)]) (by simp[results,results9,go_sem,N,k1,k2,k3]) rfl ⟨rfl,B.o,t.o⟩
 ·exact eO (v:=.agg #[(5:Int),(i:Int),m,(0:Int)]) (by simp[results,results9,go_sem,N,k1,k2,k3]) rfl ⟨rfl,B.o,t.o⟩
 ·exact eO (v:=.agg #[r,(i:Int),m,S]) (by simp[results,results9,go_sem,N,k1,k2,k3]) rfl ⟨rfl,B.o,t.o⟩
 iterate 4
  focus
   exact eO (v:=.agg #[r,(i:Int),m,(0:Int)]) (by simp[results,results9,go_sem,N,k1,k2,k3]) rfl ⟨rfl,B.o,t.o⟩
def Fu:= @jw.1
def Ft:= @jw.2.1
def Ma:= @jw.2.2.1
def L5:= @jw.2.2.2.1
def L6:= @jw.2.2.2.2.1
def L8:= @jw.2.2.2.2.2.1
def L7:= @jw.2.2.2.2.2.2.1
def L9:= @jw.2.2.2.2.2.2.2
theorem u5(h:b.Ok)(a:p.I k s)(ha:eP b w wo tb lk s)(i x:Int):Calls prog 9 #[some wo,.agg #[i,x]] w λe w'=>e= .returned (rr (p.SP s i x))/\eP b w' wo tb lk (p.RY s i x)/\af b.Z w w':=by
 cases hs:bC p.n i with
 |false=>
  rw[show p.SP s i x=(0,0,false,0) from by unfold LP.SP;rw[ad hs],show p.RY s i x=s from by unfold LP.RY;rw[ad hs]];by_cases f:i<0
  ·exact Fu h a ha f
  ·refine Ft h a ha ?_;unfold bC at hs;simp at hs;omega
 |true=>
  have hi:dO p i:=by unfold bC at hs;exact(sJ hs:0<=i/\i<(p.n:Int))
  have hn:¬bC p.n i=false:=by rw[hs];simp
  by_cases c:x=0
  ·subst c;rw[show p.SP s i 0=((p.Sx s i).1,i,p.rd s i,(p.Sx s i).2) from by unfold LP.SP;rw[ac hn,ad rfl],show p.RY s i 0=p.step s i from by unfold LP.RY;rw[ac hn,ad rfl]];exact L5 h a ha hi
  by_cases x1:x=1
  ·subst x1;rw[show p.SP s i 1=((p.SB s i false).1,i,(p.SB s i false).2,0) from by unfold LP.SP;rw[ac hn,ac aO,ad (Or.inl rfl)];rfl,show p.RY s i 1=p.ask s i false from by unfold LP.RY;rw[ac hn,ac aO,ad (Or.inl rfl)];rfl];exact L6 h a ha hi
  by_cases x3:x=3
  ·subst x3;rw[show p.SP s i 3=((p.SB s i true).1,i,(p.SB s i true).2,0) from by unfold LP.SP;rw[ac hn,ac aO,ad (Or.inr rfl)];rfl,show p.RY s i 3=p.ask s i true from by unfold LP.RY;rw[ac hn,ac aO,ad (Or.inr rfl)];rfl];exact L8 h a ha hi
  by_cases x2:x=2
  ·subst x2;rw[show p.SP s i 2=((p.R4 s i false).1,i,(p.R4 s i false).2,0) from by unfold LP.SP;rw[ac hn,ac aO,ac aO,ad (Or.inl rfl)];rfl,show p.RY s i 2=p.leave s i false from by unfold LP.RY;rw[ac hn,ac aO,ac aO,ad (Or.inl rfl)];rfl];exact L7 h a ha hi
  by_cases d:x=4
  ·subst d;rw[show p.SP s i 4=((p.R4 s i true).1,i,(p.R4 s i true).2,0) from by unfold LP.SP;rw[ac hn,ac aO,ac aO,ad (Or.inr rfl)];rfl,show p.RY s i 4=p.leave s i true from by unfold LP.RY;rw[ac hn,ac aO,ac aO,ad (Or.inr rfl)];rfl];exact L9 h a ha hi
  rw[show p.SP s i x=(5,i,p.rd s i,0) from by unfold LP.SP;rw[ac hn,ac c,ac aO,ac aO],show p.RY s i x=s from by unfold LP.RY;rw[ac hn,ac c,ac aO,ac aO]];exact Ma h a ha hi ⟨c,x1,x2,x3,d⟩
end
theorem ga{α:Type}(Q:α->Prop){c:Prop}{d:Decidable c}{a b:α}(ha:Q a)(e:Q b):Q (@ite α c d a b):=by
 by_cases h:c
 ·rw[ad h];exact ha
 ·rw[ac h];exact e
section
variable{n tail:Nat}{S:Nat->Nat->Int}{A:AR}
def te(v:Int):Prop:=(0<=v/\v<=5)\/(10<=v/\v<=14)
theorem jn.put(h:jn n S)(j:Nat){t:Nat}{v:Int}(hv:t=0->te v):jn n (aa S j t v):=λi hi=>by
 unfold aa
 split
 ·rename_i e;exact hv e.2.symm
 ·exact h i hi
theorem MK(h:jn n S)(j:Nat):jn n (xN tail A S j).2.1/\te (xN tail A S j).2.2:=by
 unfold xN BV qZ;have a:∀v,jn n (aa S j 1 v):=λv=>h.put j aS
 repeat' (refine ga (λx:AR×(Nat->Nat->Int)×Int=>jn n x.2.1/\te x.2.2) ?_ ?_)
 all_goals refine⟨by first|exact h|exact a _,?_⟩
 all_goals
  dsimp only
  repeat' (refine ga te ?_ ?_)
  all_goals(unfold te;omega)
theorem jn.RT(h:jn n S)(i a:Int){b:Int}(c:te b)(m:Nat):jn n (bo m S i a b):=by
 unfold bo;split
 ·exact h.put _ (λ_=>c)
 ·exact h
variable{K:FK}
theorem jn.Uk(h:jn K.n S)(a:K.k=4)(i:Int):jn K.n (bM K S A i):=by
 unfold bM;rw[ac aO,ac aO,ac aO,ad a];unfold gy
 split
 ·have:=MK (tail:=K.b) (A:=A) h i.toNat;exact this.1.put _ (λ_=>this.2)
 ·exact h
theorem jn.UD(h:jn K.n S)(a:K.k=4)(i:Int):jn K.n (gM K S i):=by
 unfold gM;rw[ac aO];exact h.RT i 0 (.inl aO) _
theorem jn.T0(h:jn K.n S)(i:Int):jn K.n (dp K S i):=h.RT i 10 (.inr aO) _
end
section
variable{K:CK}{S:CS}
def ui(v:Int):Prop:=(0<=v/\v<=4)\/(10<=v/\v<=16)
structure Q9(K:CK)(S:CS)(x:CS×Int):Prop where
 ts:∀t,x.1.TS t 0=S.TS t 0
 pc:ui x.2
 lo:∀v,v<K.E->(K.L v).k=4->jn (K.L v).n (x.1.LS v)
 gl:K.G.k=4->jn K.G.n x.1.GS
theorem dU.up(h:dU K S)(u:Nat){f:Nat->Nat->Int}(b:u<K.E->(K.L u).k=4->jn (K.L u).n f):∀v,v<K.E->(K.L v).k=4->jn (K.L v).n (dL S.LS u f v):=λv hv a=>by
 unfold dL;by_cases e:v=u
 ·subst e;rw[ad rfl];exact b hv a
 ·rw[ac e];exact h.lo v hv a
theorem J3(h:dU K S)(th:Nat):Q9 K S (iy K S th):=by
 have l1:∀{f:Nat->Nat->Int},(K.nd th<K.E->(K.L (K.nd th)).k=4->jn (K.L (K.nd th)).n f)->∀v,v<K.E->(K.L v).k=4->jn (K.L v).n (dL S.LS (K.nd th) f v):=λa=>h.up _ a;have t1:∀v t,aa S.TS th 1 v t 0=S.TS t 0:=λv t=>by simp[aa]
 have g1:K.G.k=4->jn K.G.n (bM K.G S.GS S.A (K.nd th:Nat)):=λe=>(h.gl e).Uk e _;have s1:K.nd th<K.E->(K.L (K.nd th)).k=4->jn (K.L (K.nd th)).n (bM (K.L (K.nd th)) (S.LS (K.nd th)) S.A (K.sl th:Nat)):=λhv e=>(h.lo _ hv e).Uk e _;have s2:K.nd th<K.E->(K.L (K.nd th)).k=4->jn (K.L (K.nd th)).n (dp (K.L (K.nd th)) (S.LS (K.nd th)) (K.sl th:Nat)):=λhv e=>(h.lo _ hv e).T0 _;unfold iy mE fM
 repeat' (refine ga (Q9 K S) ?_ ?_)
 all_goals refine⟨?_,?_,?_,?_⟩
 all_goals first
  |exactλt=>rfl
  |exact t1 _
  |exact h.lo
  |exact h.gl
  |exact g1
  |exact l1 s1
  |exact l1 s2
  |exactλe=>(h.gl e).UD e _
  |exactλe=>(h.gl e).T0 _
  |(dsimp only;first|(unfold ui;omega)|(refine ga ui ?_ ?_<;>(unfold ui;omega)))
theorem dU.step(h:dU K S)(i:Int):dU K (ay K S i):=by
 unfold ay
 split
 ·obtain⟨a,b,c,d⟩:=J3 h i.toNat;refine⟨λt ht=>?_,c,d⟩;show(0<=aa _ i.toNat 0 _ t 0/\aa _ i.toNat 0 _ t 0<=4)\/(10<=aa _ i.toNat 0 _ t 0/\aa _ i.toNat 0 _ t 0<=16)
  unfold aa
  split
  ·exact b
  ·rw[a];exact h.th t ht
 ·exact h
theorem dU.ask(h:dU K S)(i:Int):dU K (bu K S i):=by
 unfold bu
 split
 ·refine⟨λt ht=>?_,h.up _ (λhv e=>(h.lo _ hv e).UD e _),h.gl⟩;show(0<=aa S.TS i.toNat 0 1 t 0/\aa S.TS i.toNat 0 1 t 0<=4)\/(10<=aa S.TS i.toNat 0 1 t 0/\aa S.TS i.toNat 0 1 t 0<=16)
  unfold aa
  split
  ·exact .inl aO
  ·exact h.th t ht
 ·exact h
theorem dU.leave(h:dU K S)(i:Int):dU K (bj K S i):=by
 refine⟨λt ht=>?_,h.lo,h.gl⟩;show(0<=bo K.n S.TS i 10 11 t 0/\bo K.n S.TS i 10 11 t 0<=4)\/(10<=bo K.n S.TS i 10 11 t 0/\bo K.n S.TS i 10 11 t 0<=16)
 unfold bo
 split
 ·unfold aa
  split
  ·exact .inr aO
  ·exact h.th t ht
 ·exact h.th t ht
theorem dU.ar(h:dU K S)(A:AR):dU K {S with A:=A}:=⟨h.th,h.lo,h.gl⟩
end
def jt(P T:List Int)(gk lk par bud:Nat)(A:AR):CK where
 P:=P
 T:=T
 G:=⟨gk,par,A.taken+1,(tE P).length⟩
 L:=λu=>ly lk par T (tE P) u (jR lk par T (tE P) (fK ⟨gk,par,A.taken+1,(tE P).length⟩ A) u)
 cn:=λu=>(fK (ly lk par T (tE P) u (jR lk par T (tE P) (fK ⟨gk,par,A.taken+1,(tE P).length⟩ A) u)) (jR lk par T (tE P) (fK ⟨gk,par,A.taken+1,(tE P).length⟩ A) u)).taken+1
 gk:=gk
 lk:=lk
 par:=par
 bud:=bud
structure dV(P T:List Int)(gk lk par bud:Nat)(A:AR):Prop where
 ok:ea P T
 g1:1<=gk
 g5:gk<=5
 l1:1<=lk
 l5:lk<=5
 p1:1<=par
 Tr:par<=32
 b:bud<=1000
 az:AZ A
 fit:A.Fit
 ops:A.ops<=1000
 room:A.taken+65+66*(tE P).length<=A.ws.length
section
variable{P T:List Int}{gk lk par bud:Nat}{A:AR}
theorem dV.ne(h:dV P T gk lk par bud A):1<=(tE P).length/\(tE P).length<=32:=by
 have hs:=h.ok.size;obtain⟨s1,s2,s3,s4⟩:=hs;have a:=ki P;refine⟨?_,by omega⟩;have b:T[0]?.getD 0∈T:=by
  rw[eB aO];exact lB aO
 have:=List.length_pos_of_mem (kT h.ok b);omega
theorem kS{K:FK}(h:K.Ok):1<=K.size/\K.size<=65:=by
 have:=h.n1;have:=h.Ry;have:=h.p1;have:=h.Tr;rcases h.RS with e|e|e|e|e
 ·rw[IL e];omega
 ·rw[Gd e];omega
 ·rw[Bw e];omega
 ·rw[Fb e];omega
 ·rw[Fc e];omega
theorem dV.SK(h:dV P T gk lk par bud A):(jt P T gk lk par bud A).G.Ok:=
 ⟨h.g1,h.g5,Nat.le_add_left _ _,h.ne.1,h.ne.2,h.p1,h.Tr⟩
theorem dV.SU(h:dV P T gk lk par bud A)(v:Nat)(B:AR):(ly lk par T (tE P) v B).Ok:=by
 obtain⟨s1,s2,s3,s4⟩:=h.ok.size;have:=FP (a:=(tE P)[v]?.getD 0) (l:=T);exact⟨h.l1,h.l5,Nat.le_add_left _ _,Nat.le_max_left _ _,by show max 1 _<=32;omega,h.p1,h.Tr⟩
structure vj(A0 B:AR)(v:Nat):Prop where
 az:AZ B
 fit:B.Fit
 len:B.ws.length=A0.ws.length
 t1:A0.taken+1<=B.taken
 t2:B.taken<=A0.taken+65+66*v
 o1:A0.ops<=B.ops
 o2:B.ops<=A0.ops+1+v
theorem dV.S6(h:dV P T gk lk par bud A):(Aq (jt P T gk lk par bud A).G A (fK (jt P T gk lk par bud A).G A)/\FI (jt P T gk lk par bud A).G (lg (jt P T gk lk par bud A).G) (fK (jt P T gk lk par bud A).G A))/\vj A (fK (jt P T gk lk par bud A).G A) 0:=by
 have d:=kS h.SK;have e:=h.room;have c:=h.fit;have ho:=h.ops;obtain⟨f1,f2,f3,f4⟩:=c;have a:=nP (K:=(jt P T gk lk par bud A).G) (A:=A) h.SK rfl aO h.az h.fit;refine⟨a,?_⟩;obtain⟨g,_⟩:=a;have gt:=g.taken;have gl:=g.len;have go:=g.ops;exact⟨g.az,⟨by omega,by omega,by omega,by omega⟩,gl,by omega,by omega,by omega,by omega⟩
theorem dV.step(h:dV P T gk lk par bud A){v:Nat}(hv:v<(tE P).length){B:AR}(a:vj A B v):
 (Aq (ly lk par T (tE P) v B) B (fK (ly lk par T (tE P) v B) B)/\FI (ly lk par T (tE P) v B) (lg (ly lk par T (tE P) v B)) (fK (ly lk par T (tE P) v B) B))/\B.taken+(ly lk par T (tE P) v B).size+1<=B.ws.length/\vj A {(fK (ly lk par T (tE P) v B) B) with taken:=(fK (ly lk par T (tE P) v B) B).taken+1} (v+1):=by
 have d:=h.SU v B;have p:=kS d;have s:=h.room;have ho:=h.ops;have r:=a.t2;have bl:=a.len;have b1:=a.t1;have q:=a.o1;have f:=a.o2;obtain⟨f1,f2,f3,f4⟩:=a.fit;have c:B.taken+(ly lk par T (tE P) v B).size+1<=B.ws.length:=by omega
 have e:=nP (K:=ly lk par T (tE P) v B) (A:=B) d rfl aO a.az a.fit;refine⟨e,c,?_⟩;obtain⟨g,_⟩:=e;have gt:=g.taken;have gl:=g.len;have go:=g.ops;have n:=g.az;generalize fK (ly lk par T (tE P) v B) B=C at*;obtain⟨i,j,l,m⟩:=h.fit;exact⟨λk o=>n k (by have:C.taken+1<=k:=o;omega),⟨by show C.taken+1<=C.ws.length;omega,by show C.ws.length<=4096;omega,by show 0<=C.ops;omega,by show C.ops<=1000000000;have:=h.ne.2;omega⟩,by show C.ws.length=_;omega,by show _<=C.taken+1;omega,by show C.taken+1<=_;omega,by show _<=C.ops;omega,by show C.ops<=_;omega⟩
theorem dV.Ui(h:dV P T gk lk par bud A):∀v,v<=(tE P).length->vj A (jR lk par T (tE P) (fK (jt P T gk lk par bud A).G A) v) v
 | 0,_=>h.S6.2
 |v+1,hv=>(h.step (v:=v) aO (dV.Ui h v aO)).2.2
end
structure Jg(K:CK)(Av:Nat->AR)(A:AR):Prop where
 ok:ea K.P K.T
 bud:0<=K.bud/\K.bud<=1000
 gk:(K.G.k:Int)=K.gk
 gp:(K.G.p:Int)=K.par
 gn:K.G.n=(tE K.P).length
 SK:K.G.Ok
 gb:K.G.b=A.taken+1
 gr:A.taken+K.G.size<=A.ws.length
 a0:Av 0=fK K.G A
 lk:∀v,v<(tE K.P).length->((K.L v).k:Int)=K.lk
 lp:∀v,v<(tE K.P).length->((K.L v).p:Int)=K.par
 ln:∀v,v<(tE K.P).length->(K.L v).n=max 1 (K.T.count ((tE K.P)[v]?.getD 0))
 SU:∀v,v<(tE K.P).length->(K.L v).Ok
 lb:∀v,v<(tE K.P).length->(K.L v).b=(Av v).taken+1
 lr:∀v,v<(tE K.P).length->(Av v).taken+(K.L v).size<=(Av v).ws.length
 t0:∀v,v<(tE K.P).length->(fK (K.L v) (Av v)).RU 1=0
 t1:∀v,v<(tE K.P).length->(fK (K.L v) (Av v)).takeN 1=((K.cn v:Nat):Int)
 t2:∀v,v<(tE K.P).length->(fK (K.L v) (Av v)).take 1=Av (v+1)
theorem dV.Vn{gk lk par bud:Nat}(h:dV P T gk lk par bud A):Jg (jt P T gk lk par bud A) (λv=>jR lk par T (tE P) (fK (jt P T gk lk par bud A).G A) v) A:=by
 have e:=kS h.SK;have f:=h.room;have b:∀v B,v<(tE P).length->vj A B v->(fK (ly lk par T (tE P) v B) B).taken+1<=(fK (ly lk par T (tE P) v B) B).ws.length:=by
  intro v B hv d;obtain⟨⟨g,_⟩,g3,_⟩:=h.step hv d;have g1:=g.taken;have g2:=g.len;omega
 have a:∀v,v<(tE P).length->(fK ((jt P T gk lk par bud A).L v) (jR lk par T (tE P) (fK (jt P T gk lk par bud A).G A) v)).taken+1<=(fK ((jt P T gk lk par bud A).L v) (jR lk par T (tE P) (fK (jt P T gk lk par bud A).G A) v)).ws.length:=λv hv=>b v _ hv (h.Ui v (xk hv));have c:∀v,v<(tE P).length->(fK ((jt P T gk lk par bud A).L v) (jR lk par T (tE P) (fK (jt P T gk lk par bud A).G A) v)).RU 1=0:=λv hv=>pD (m:=1) (a v hv) rfl;refine{ok:=h.ok,bud:=⟨Int.natCast_nonneg _,by have:=h.b;show((bud:Nat):Int)<=1000;omega⟩,gk:=rfl,gp:=rfl,gn:=rfl,SK:=h.SK,gb:=rfl,gr:=by omega,a0:=rfl,lk:=λ_ _=>rfl,lp:=λ_ _=>rfl,ln:=λ_ _=>rfl,SU:=λv _=>h.SU v _,lb:=λ_ _=>rfl,lr:=λv hv=>FL (h.step hv (h.Ui v (by exact xk hv))).2.1,t0:=c,t1:=λv hv=>?_,t2:=λv hv=>?_}
 ·unfold AR.takeN;rw[ad (c v hv)];rfl
 ·exact qP (m:=1) (a v hv) rfl
section
variable{w:World}{b1 b2 ab wb:Nat}{v u:Value}{A:AR}
theorem vI{K:CK}{Av:Nat->AR}(hx:aZ w b1 v K.P)(hy:aZ w b2 u K.T)(h:Jg K Av A)(hA:ax w ab wb A):
 Calls prog 72 #[some ab,.agg #[v,u],.agg #[K.gk,K.lk,K.par,K.bud]] w λe w'=>∃B:CB,e= .returned (.tuple #[some B.cb,(0:Int)])/\(B.ab=ab/\B.wb=wb/\qT w.heap.size B K)/\bg w' B K ⟨Av (tE K.P).length,lg K.G,λv=>lg (K.L v),λ_ _=>0⟩/\af [ab,wb] w w':=by
 have hs:=h.ok;have hbud:=h.bud;have d:=aH h;obtain⟨s1,s2,s3,s4⟩:=hs.size;have hEl:=ki K.P;have mk:=iE K.T.length aO;obtain⟨i0,ia,ib,ic,id_⟩:=mN Eu;have HIN:=aH (ae ia (ae ib (ae ic id_)));have HPN:=aH (λ(W:World) (hf:af [] w W)=>gQ (hx.Rr hf aS) (hy.Rr hf aS) hs);have HBR:=aH (λ(W:World)=>jQ K.bud W);have hbr:(decide ((0:Int)<=K.bud)&&decide (K.bud<=1000))=true:=by simp;omega
 rw[hbr] at HBR;have HF0:=aH (((af.refl [] w).alloc (.cells #[v,u] 24)).alloc (.cells #[K.gk,K.lk,K.par,K.bud] 42));have hbp:=aq.new (w.alloc (.cells #[v,u] 24)) #[K.gk,K.lk,K.par,K.bud] 42;rw[bP] at hbp;have HBP:=aH hbp;clear hbp;have hnot:= @aX prog;have HAR:=aH hA;have HOK:=aH hs;have hablt:=hA.box.lt;have hwblt:=hA.row.lt;obtain⟨a1,cap1,rfl, -, -⟩:=hx;obtain⟨a2,cap2,rfl, -, -⟩:=hy;clear hbr ia ib ic id_ hA hs h;go_enter func72,ntmps72;go_wp2_with fail;refine(HPN.o _ HF0.o).mono ?_;rintro e w1 ⟨tb,rfl,htb,hTb,F⟩;have HF1:=aH (HF0.o.trans F);have HT1:=aH hTb;have r:=HBP.o.Rr F aS;have p0:=r.cell (i:=0) rfl;have p1:=r.cell (i:=1) rfl;have p2:=r.cell (i:=2) rfl;have p3:=r.cell (i:=3) rfl;have C:=aH r;clear F hTb r;go_wp2_with fail;refine gF (HBR.o _) ?_;rintro w' rfl;have Y:=aW [] w1;have hz0:=zF (L:=[]) C.o aS 0 rfl;have hz1:=zF (L:=[]) C.o aS 1 rfl;have hz2:=zF (L:=[]) C.o aS 2 rfl;have hz3:=zF (L:=[]) C.o aS 3 rfl;go_wp2_with fail;refine aG (λwx=>af [] w1 wx) ?_;refine eQ (fuel:=5) [0,1,2,3] rfl aF.Rs ?_;refine aL 4 (fuel:=4) rfl ?_;go_wp2_with fail;refine gF (jf (HT1.o.stay (Z:=[]) (aF.Rs) (sR.nil _))) ?_;rintro w' rfl;go_wp2_with fail;refine ah ⟨aF.Rs,?_⟩;refine aL 5 (fuel:=3) rfl ?_;go_wp2_with fail;refine ah ⟨?_,?_⟩
 ·repeat (first|exact aF|apply af.Rs|apply af.alloc)
 refine eQ (fuel:=2) [6] rfl aA ?_;refine aL 7 (fuel:=1) rfl ?_;go_wp2_with fail;refine ah ⟨aA,?_⟩;refine eQ (fuel:=0) [8] rfl aA ?_;refine aN ?_;have O:=((aq.new w1 (dJ K.T.length λ_ _=>0).toArray 138).alloc (.cells #[some ab,some tb,K.gk,K.lk,K.par,K.bud,.pointer none,.slice none 0 0,.slice (some ⟨w1.heap.size,0,none⟩) K.T.length K.T.length] 201)).Rs;have G:=(aq.new (w1.alloc (.cells (dJ K.T.length λ_ _=>0).toArray 138)) #[some ab,some tb,K.gk,K.lk,K.par,K.bud,.pointer none,.slice none 0 0,.slice (some ⟨w1.heap.size,0,none⟩) K.T.length K.T.length] 201).Rs;rw[bP] at G;have N:af [] w1 (((w1.alloc (.cells (dJ K.T.length λ_ _=>0).toArray 138)).alloc (.cells #[some ab,some tb,K.gk,K.lk,K.par,K.bud,.pointer none,.slice none 0 0,.slice (some ⟨w1.heap.size,0,none⟩) K.T.length K.T.length] 201)).drew):=(aF.alloc _).alloc _ |>.Rs
 have hsz2:(((w1.alloc (.cells (dJ K.T.length λ_ _=>0).toArray 138)).alloc (.cells #[some ab,some tb,K.gk,K.lk,K.par,K.bud,.pointer none,.slice none 0 0,.slice (some ⟨w1.heap.size,0,none⟩) K.T.length K.T.length] 201)).drew).heap.size=w1.heap.size+2:=by show(World.alloc _ _).heap.size=_;rw[bP,bP]
 have g:=aH (ae O (ae G (ae N hsz2)));have hsz1:=HF1.o.size;clear O G N hsz2 Y hz0 hz1 hz2 hz3 p0 p1 p2 p3;generalize((w1.alloc (.cells (dJ K.T.length λ_ _=>0).toArray 138)).alloc (.cells #[some ab,some tb,K.gk,K.lk,K.par,K.bud,.pointer none,.slice none 0 0,.slice (some ⟨w1.heap.size,0,none⟩) K.T.length K.T.length] 201)).drew=W2 at*;obtain⟨cs,O⟩:∃cs,cs=w1.heap.size:=⟨_,rfl⟩
 obtain⟨cb,G⟩:∃cb,cb=w1.heap.size+1:=⟨_,rfl⟩
 rw[<-G,<-O] at g;rw[<-G,<-O];have hcc:w.heap.size<=cs/\w.heap.size<=cb/\cs<W2.heap.size/\cb<W2.heap.size/\cs<cb:=by have:=g.o.2.2.2;omega
 clear O G;have j:=aH (C.o.Rr g.o.2.2.1 aS);have HT2:=aH (HT1.o.stay g.o.2.2.1 (sR.nil _));have p:=aH (HAR.o.Rr (S:=[]) (HF1.o.trans g.o.2.2.1) aS aS);have HFA:=aH (HF1.o.trans g.o.2.2.1);have hntb:tb≠ab/\tb≠wb/\tb≠cb/\w.heap.size+1≠tb/\w.heap.size+1≠cb:=by
  obtain⟨_,_,_,_,h1,_⟩:=HT2.o;exact⟨h1.differ p.o.box aJ,h1.differ p.o.row aJ,h1.differ g.o.2.1 aJ,j.o.differ h1 aJ,j.o.differ g.o.2.1 aJ⟩
 have M:=aH hntb;have hpn:w.heap.size+1∉[tb,ab,wb,cb]:=by have:=M.o;simp;omega
 have Y:=aW [tb,ab,wb,cb] W2;have hz0:=zF j.o hpn 0 rfl;have hz2:=zF j.o hpn 2 rfl;clear hntb;go_wp2_with fail;refine aG (λwx=>af [tb,ab,wb,cb] W2 wx) ?_;refine eQ (fuel:=9) [0,1,2,3,4,6,7] rfl aF.Rs ?_;refine aL 5 (fuel:=8) rfl ?_;go_wp2_with fail;refine gF (sE (HT2.o.stay (Z:=[]) (aF.Rs) (sR.nil _)) HOK.o) ?_;rintro w3 ⟨hT3,F⟩;have o:=aH (((af.refl [tb] W2).Rs).trans F);have HT3:=aH hT3;have HA3:=aH (p.o.Rr o.o (by have:=M.o;simp;omega) (by have:=M.o;simp;omega));clear F hT3;go_wp2_with fail;refine ah ⟨o.o.mono aS,?_⟩;refine aL 8 (fuel:=7) rfl ?_;go_wp2_with fail;have hfn:=uj HA3.o K.G d.o.SK d.o.gb d.o.gr;rw[d.o.gk,d.o.gp,d.o.gn] at hfn;refine hfn.mono ?_;clear hfn;rintro e w4 ⟨gf,gl,gs,rfl,hgf,hgl,hgs,hG,F⟩;have HG4:=aH hG;have t:=aH F;have HT4:=aH (HT3.o.stay (Z:=[ab,wb]) F (by
  intro z hz;simp at hz;rcases hz with e|e
  ·subst e;exact⟨_,_,HA3.o.box,.inr (.inl rfl)⟩
  ·subst e;exact⟨_,_,HA3.o.row,.inr (.inr rfl)⟩))
 have hcba:cb≠ab/\cb≠wb:=⟨g.o.2.1.differ p.o.box aJ,g.o.2.1.differ p.o.row aJ⟩
 have J:=(g.o.2.1.Rr o.o (by have:=M.o;simp;omega)).Rr F aQ;have c6:=J.cell (i:=6) rfl;have cz:=J.frozen;have Q:=aH J;clear hG F J;go_wp2_with fail;refine ah ⟨(o.o.mono aS).trans (t.o.mono aS),?_⟩;refine eQ (fuel:=2) [9,10,11,12,13] rfl ((o.o.mono aS).trans (t.o.mono aS)) ?_;refine aL 14 (fuel:=1) rfl ?_;go_wp2_with fail;refine ah ⟨((o.o.mono aS).trans (t.o.mono aS)).set _ _ (.inl aS),?_⟩;refine eQ (fuel:=0) [15] rfl (((o.o.mono aS).trans (t.o.mono aS)).set _ _ (.inl aS)) ?_;refine aN ?_;have hst:af [cb] w4 (w4.setCell (cb,6) (.pointer (some ⟨gf,0,none⟩))):=aU;have D:Ji w4 [cb]:=λz hz=>by
  simp at hz;subst hz;exact⟨_,_,Q.o,.inr (.inl rfl)⟩
 have hszz:=o.o.size;have hszz4:=t.o.size;have htb0:w.heap.size<=tb:=by have:=HF0.o.size;omega
 have X:af [ab,wb] w w4:=((HFA.o.mono (S':=[ab,wb]) aS).Rx o.o (λz hz=>.inr (by simp at hz;omega))).trans t.o;have V:=(g.o.1.Rr o.o (by have:=g.o.1.differ j.o aJ;obtain⟨_,_,_,_,h1,_⟩:=HT2.o;have:=g.o.1.differ h1 aJ;simp;omega)).Rr t.o (by have:=g.o.1.differ p.o.box aJ;have:=g.o.1.differ p.o.row aJ;simp;omega);have hpr4:=(j.o.Rr o.o (by have:=M.o;simp;omega)).Rr t.o (by have:=j.o.differ p.o.box aJ;have:=j.o.differ p.o.row aJ;simp;omega);have hN:tZ (w4.setCell (cb,6) (.pointer (some ⟨gf,0,none⟩))) ⟨cb,tb,gf,gl,gs,ab,wb,cs,0,0,λ_=>0,λ_=>0,λ_=>0⟩ K 0 (Av 0) (.slice none 0 0) (w4.setCell (cb,6) (.pointer (some ⟨gf,0,none⟩))).heap.size (w.heap.size+1):=
  {box:=Q.o.set 6 _,Sj:=HT4.o.Sm hst D (by have:=M.o;simp;omega),Sf:=by rw[d.o.a0];exact HG4.o.S4 hst D,Sh:=sL _ _ _ _,loc:=λu hu=>by omega,row:=V.Rr hst (D.not V),Sg:=⟨by show cs≠gs;omega,λu hu=>by omega,λa b ha=>by omega⟩,pair:=hpr4.Rr hst (D.not hpr4),lt:=by show cb<(World.setCell _ _ _).heap.size;simp[World.setCell];omega,new:=⟨by show _<=cs+1;omega,by show _<=gs+1;omega,λu hu=>by omega⟩}
 have hfr5:af [ab,wb] w (w4.setCell (cb,6) (.pointer (some ⟨gf,0,none⟩))):=X.set _ _ (.inr (by show w.heap.size<=cb;omega));have HN5:=aH hN;have HF5:=aH hfr5;have hw5:w.heap.size+1<(w4.setCell (cb,6) (.pointer (some ⟨gf,0,none⟩))).heap.size:=by simp[World.setCell];omega
 clear hst D X V hpr4 hN hfr5 c6 cz Y hz0 hz2;generalize w4.setCell (cb,6) (.pointer (some ⟨gf,0,none⟩))=W5 at*;clear Q HT4 HG4 t HT3 HA3 o j HT2 g p;go_wp2_with fail;refine gF (kj (P:=K.P) (T:=K.T) HN5.o.Sj) ?_;rintro w' rfl;obtain⟨E,hE⟩:∃E,E=(tE K.P).length:=⟨_,rfl⟩
 have hE32:E<=32:=by omega
 have HEE:=aH hE;clear hE;go_wp2_with fail;go_loopw[56] (λiv wr=>∃(v:Nat)(fb lb sb:Nat->Nat)(vn:Value),iv= .int .i64 v/\v<=(tE K.P).length/\W5.heap.size<=wr.heap.size/\tZ wr ⟨cb,tb,gf,gl,gs,ab,wb,cs,0,0,fb,lb,sb⟩ K v (Av v) vn W5.heap.size (w.heap.size+1)/\af [ab,wb] w wr) (λiv _=>(tE K.P).length - (intOf iv).toNat)
 case atStart=>exact⟨0,_,_,_,_,rfl,fA _,ba _,HN5.o,HF5.o⟩
 case round=>
  obtain⟨v,fb,lb,sb,vn,rfl,hv,hsW,hN,F⟩:=hrel;have I:=aH hN;have HF:=aH F;have hszr:=F.size;clear hN F;by_cases q:v<(tE K.P).length
  ·have l1:(v:Int)<(tE K.P).length:=by omega
   have hpa:w.heap.size+1∉[ab,wb]:=by
    have:=I.o.pair.differ I.o.Sf.ar.box aJ;have:=I.o.pair.differ I.o.Sf.ar.row aJ;simp;omega
   have Y:=aW [ab,wb] wr;have hz1:=zF I.o.pair hpa 1 rfl;have hz2:=zF I.o.pair hpa 2 rfl;go_wp2_with fail;refine aG (λwx=>af [ab,wb] wr wx) ?_;refine eQ (fuel:=8) [0,1,2,3,4,7,8] rfl aF.Rs ?_;refine aL 5 (fuel:=7) rfl ?_;go_wp2_with fail;refine gF (wZ (P:=K.P) (T:=K.T) ((I.o.same ((af.refl [] wr).Rs)).Sj) q) ?_;rintro w' rfl;obtain⟨c,hc⟩:∃c,c=K.T.count ((tE K.P)[v]?.getD 0):=⟨_,rfl⟩
   rw[<-hc];have HC:=aH hc;clear hc;go_wp2_with fail;refine ah ⟨aF.Rs,?_⟩;refine eQ (fuel:=6) [6] rfl aF.Rs ?_;have hFN:=uj ((I.o.same ((af.refl [] wr).Rs)).Sf.ar) (K.L v) (d.o.SU v q) (d.o.lb v q) (d.o.lr v q);have H:((K.L v).n:Int)=if c<=1 then 1 else(c:Int):=by
    rw[d.o.ln v q,<-HC.o]
    split<;>omega
   generalize hm:((K.L v).n:Int)=m at hFN H;clear hm;rw[d.o.lk v q,d.o.lp v q] at hFN;have HFN:=aH hFN;have HMC:=aH H;clear hFN H;refine aL 9 (fuel:=5) rfl ?_;go_wp2_with fail;all_goals
    have H:=HMC.o;first
     |(have e:m=(c:Int):=(by rw[H,ac aO]);rw[e] at HFN)
     |(have e:m=1:=(by rw[H,ad aO]);rw[e] at HFN)
    clear H HMC;refine HFN.o.mono ?_;rintro e w2 ⟨f,l,s,rfl,hf,hl,hs',hL,N⟩;have HF2:=aH (((af.refl [ab,wb] wr).Rs).trans N);have HN2:=aH ((I.o.same ((af.refl [] wr).Rs)).R1 N hL.ar);have hT:=fL hL.ar 1;rw[d.o.t0 v q,d.o.t1 v q,d.o.t2 v q] at hT;have HT:=aH hT;have HL2:=aH hL;have hsn:s≠cs/\s≠gs/\∀u,u<v->s≠sb u:=by
     have q1:=I.o.row.lt;obtain⟨_,q2⟩:=I.o.Sf.S3;have q3:=q2.lt;have q1':cs<wr.heap.size:=q1;have q3':gs<wr.heap.size:=q3;have hs2:wr.heap.size<=s:=hs';refine⟨by omega,by omega,λu hu=>?_⟩;obtain⟨_,q4⟩:=(I.o.loc u hu).S3;have q5:sb u<wr.heap.size:=q4.lt;omega
    have HSN:=aH hsn;have hbps:w.heap.size+1<=s+1:=by
     have hs2:wr.heap.size<=s:=hs';have:=HF.o.size;omega
    have HBPS:=aH hbps;have hszr2:=HF2.o.size;clear N hL hT hsn hbps hz1 hz2 hpa hf hl hs';go_wp2_with fail;refine ah ⟨HF2.o,?_⟩;refine eQ (fuel:=0) [10,11,12,13,14] rfl HF2.o ?_;refine aN ?_;clear Y;go_wp2_with fail;refine gF HT.o ?_;rintro w3 ⟨hA3,U⟩;have R:=aH (HN2.o.R1 U hA3);have HL3:=aH (HL2.o.re U (by have:=HL2.o.apart;simp;omega) (by have:=HL2.o.apart;simp;omega) (by have:=HL2.o.apart;simp;omega) hA3);have o:=aH (HF2.o.trans U);have c7:=R.o.box.cell (i:=7) rfl;have hszr3:=U.size;clear hA3 U;go_wp2_with(at_builtin;go_must(refine sK _ rfl _ _ 199 rfl W5.heap.size 203 i0 (.agg #[.pointer none,(0:Int)]) 2 16 underlying199 HIN.o.1 HIN.o.2.1 HIN.o.2.2.1 HIN.o.2.2.2 rfl aJ vn v _ rfl (R.o.Sh.alloc _) ⟨w3.heap.size,0,none⟩ 1 1 [some f,(K.cn v:Nat)] rfl rfl (kC _ _ _ _) aC aM aO (by rw[bP];omega) ?_;intro v' wA hown x _;obtain⟨va,vl,vc,rfl⟩:=dm hown;have hbx:=R.o.Ss x;have bc:=hbx.cell (i:=7) rfl;have bz:=hbx.frozen;have HG:=aH (R.o.grow HL3.o HSN.o HBPS.o hown x);have HFA:=aH ((bE x));have HOW:=aH (bN R.o.Sh);clear hown x hbx))
    go_roundw
    case rel=>exact⟨v+1,_,_,_,_,by go_num,by omega,(by show W5.heap.size<=(World.setCell _ _ _).heap.size;have:=HFA.o.size;simp[World.setCell];omega),HG.o,((HF.o.trans o.o).Rx HFA.o (λz hz=>.inr (by have:=(HOW.o z (by simpa using hz)).1;have:=HF5.o.size;omega))).set _ _ (.inr (by show w.heap.size<=cb;omega))⟩
    case measure=>simp[intOf];omega
  ·have hve:v=(tE K.P).length:=by omega
   subst hve;have hE1:1<=K.E:=by have:=d.o.SK.n1;rw[d.o.gn] at this;exact this
   have HDN:=aH (I.o.done hE1 HOK.o);have HNW:=aH I.o.new;clear hE1;go_wp2;go_ret2;obtain⟨nb,cap,hD⟩:=HDN.o;exact⟨_,rfl,⟨rfl,rfl,⟨FD HNW.o.1,FD HNW.o.2.1,λu hu=>FD (HNW.o.2.2 u hu)⟩⟩,hD,HF.o⟩
end
def LP.Us(p:LP)(s:p.σ)(l:List (Int×Int)):p.σ:=l.foldl (λs a=>p.RY s a.1 a.2) s
structure LP.Ok(p:LP):Prop where
 Sm:∀k s i x,k<100000->p.I k s->p.I (k+1) (p.RY s i x)
section
variable{p:LP}
theorem LP.Tu(s:p.σ)(l:List (Int×Int))(a:Int×Int):p.Us s (l++[a])=p.RY (p.Us s l) a.1 a.2:=by unfold LP.Us;rw[List.foldl_append];rfl
end
def xJ(n:Nat)(w:World)(v:Value)(Rt:List (Int×Int)):Prop:=
 ∃a cap,v= .slice a Rt.length cap/\Rt.length<=maxLen/\Rt.length<=cap/\(a=none->cap=0)/\(0<Rt.length->∃b off,a=some ⟨b,off,none⟩/\b<n/\∀i x,Rt[i]? =some x->w.cell? ⟨b,off+i*2,none⟩=some (.int .i64 x.1)/\w.cell? ⟨b,off+i*2+1,none⟩=some (.int .i64 x.2))
variable{S:List Nat}
theorem xJ.T4{Rt:List (Int×Int)}(h:xJ n w v Rt)(d:af S w w')(hs:∀z∈S,n<=z):xJ n w' v Rt:=by
 obtain⟨a,cap,h1,h2,h4,h5,h3⟩:=h;refine⟨a,cap,h1,h2,h4,h5,λg=>?_⟩;obtain⟨b,off,e,j,c⟩:=h3 g;exact⟨b,off,e,j,λi x f=>⟨d.cell (c i x f).1 (λhm=>by have:=hs b hm;omega),d.cell (c i x f).2 (λhm=>by have:=hs b hm;omega)⟩⟩
section
variable{p:LP}{b:LB p}{w w':World}{wo tb lk:Nat}{s s':p.σ}{k n:Nat}{l:Value}{Rt:List (Int×Int)}
end
section
variable{p:LP}
def LP.act(p:LP)(s:p.σ)(i:Int):p.σ:=if p.st s i=0 then s else p.RY s i (if p.st s i=2 then(if p.rd s i then 4 else 2) else 0)
def LP.Rt(p:LP)(s:p.σ):Nat->p.σ
 | 0=>s
 |k+1=>p.act (p.Rt s k) k
def LP.busy(p:LP)(s:p.σ):Nat->Bool
 | 0=>false
 |k+1=>p.busy s k|| !(p.st (p.Rt s k) k==0)
def LP.rounds(p:LP)(s:p.σ):Nat->p.σ
 | 0=>s
 |r+1=>p.Rt (p.rounds s r) p.n
structure LP.Uh(p:LP)(s:p.σ)(i:Int):Prop where
 S4:∀j,dO p j->j≠i->p.st (p.Ru s i) j=p.st s j/\p.rd (p.Ru s i) j=p.rd s j
 Uu:p.st s i=1->(p.RD s i=true/\p.st (p.Ru s i) i=2\/p.RD s i=false/\p.st (p.Ru s i) i=1)/\p.rd (p.Ru s i) i=p.rd s i
 go:p.st s i=3->p.RD s i=true/\p.st (p.Ru s i) i=0\/p.RD s i=false/\p.st (p.Ru s i) i=3
 ask:p.st s i=0->∀r:Bool,(r=true->p.shares=true)->p.Sr s i r=true/\p.st (p.R3 s i r) i=1/\p.rd (p.R3 s i r) i=r/\∀j,dO p j->j≠i->p.st (p.R3 s i r) j=p.st s j
 leave:p.st s i=2->p.RZ s i=true/\p.st (p.Rz s i) i=3/\∀j,dO p j->j≠i->p.st (p.Rz s i) j=p.st s j
structure LP.Live(p:LP)(J:Nat->p.σ->Prop)(W:p.σ->Nat)(spin:p.σ->Int->Prop):Prop where
 Sm:∀k s i x,k<100000->J k s->J (k+1) (p.RY s i x)
 inv:∀k s,J k s->p.I k s
 RT:∀k s i,k<100000->J k s->dO p i->p.Uh s i
 sink:∀k s i,k<100000->J k s->dO p i->p.st s i≠0->spin s i\/W (p.act s i)<W s
 idle:∀k s i,k<100000->J k s->dO p i->p.st s i≠0->spin s i->W (p.act s i)<=W s/\∀j,dO p j->(spin s j->spin (p.act s i) j)/\(p.st (p.act s i) j=0↔p.st s j=0)
 stuck:∀k s,J k s->(∀i,dO p i->p.st s i=0\/spin s i)->∀i,dO p i->p.st s i=0
 top:∀k s,J k s->p.n<=6->W s<1500
 S2:∀k s u r,k<100000->p.n<=6->J k s->dO p u->(∀j,dO p j->p.st s j=0)->(r=true->p.shares=true)->W (p.R3 s u r)<=200
 out:∀k s u,p.n<=6->J k s->dO p u->(∀j,dO p j->j≠u->p.st s j=0)->p.st s u=3->W s<=200
theorem LP.TM(s:p.σ)(i:Int):p.st s i=0\/p.st s i=1\/p.st s i=2\/p.st s i=3:=by unfold LP.st fS;split<;>(try split)<;>(try split)<;>simp
variable{J:Nat->p.σ->Prop}{W:p.σ->Nat}{spin:p.σ->Int->Prop}{k:Nat}{s:p.σ}{u:Int}
theorem LP.Live.act(h:p.Live J W spin)(c:k<100000)(b:J k s)(i:Int):(J (k+1) (p.act s i)/\p.st s i≠0)\/(p.act s i=s/\p.st s i=0):=by
 unfold LP.act;by_cases a:p.st s i=0
 ·rw[ad a];exact .inr ⟨rfl,a⟩
 ·rw[ac a];exact .inl ⟨h.Sm _ _ _ _ c b,a⟩
theorem LP.Live.Rt(h:p.Live J W spin)(q:J k s):∀m:Nat,m<=p.n->k+m<=100000->(∃b,k<=b/\b<=k+m/\J b (p.Rt s m))/\W (p.Rt s m)<=W s/\
 (W (p.Rt s m)<W s\/(∀j,dO p j->(spin s j->spin (p.Rt s m) j)/\(p.st (p.Rt s m) j=0↔p.st s j=0))/\(∀j:Nat,j<m->p.st (p.Rt s m) j=0\/spin (p.Rt s m) j))/\(p.busy s m=false->p.Rt s m=s/\∀j:Nat,j<m->p.st s j=0)
 | 0,_,_=>⟨⟨k,by omega,by omega,q⟩,ba _,.inr ⟨λj _=>⟨id,qp⟩,λj hj=>am hj aO⟩,λ_=>⟨rfl,λj hj=>am hj aO⟩⟩
 |m+1,hm,z=>by
  obtain⟨⟨b,w,A,n⟩,x,a,y⟩:=LP.Live.Rt h q m aO aO;have hi:dO p (m:Int):=⟨by omega,by omega⟩
  have r:p.busy s (m+1)=false->p.busy s m=false/\p.st (p.Rt s m) m=0:=λe=>by
   unfold LP.busy at e;simpa using e
  show(∃b,_/\_/\J b (p.act (p.Rt s m) m))/\W (p.act (p.Rt s m) m)<=W s/\(W (p.act (p.Rt s m) m)<W s\/(∀j,dO p j->(spin s j->spin (p.act (p.Rt s m) m) j)/\(p.st (p.act (p.Rt s m) m) j=0↔p.st s j=0))/\(∀j:Nat,j<m+1->p.st (p.act (p.Rt s m) m) j=0\/spin (p.act (p.Rt s m) m) j))/\(p.busy s (m+1)=false->p.act (p.Rt s m) m=s/\∀j:Nat,j<m+1->p.st s j=0)
  rcases h.act (k:=b) aO n (m:Int) with⟨a1,a2⟩|⟨a1,a2⟩
  ·refine⟨⟨b+1,by omega,by omega,a1⟩,?_⟩;have i:=h.idle _ _ _ aO n hi a2;have l:=h.sink _ _ _ aO n hi a2;have v:W (p.act (p.Rt s m) m)<=W (p.Rt s m):=by
    rcases l with e|e
    ·exact(i e).1
    ·omega
   refine⟨by omega,?_,λe=>am (r e).2 a2⟩;rcases a with a|⟨a,o⟩
   ·exact .inl aO
   ·rcases l with e|e
    ·obtain⟨_,d⟩:=i e;refine .inr ⟨λj hj=>⟨λt=>(d j hj).1 ((a j hj).1 t),(d j hj).2.trans (a j hj).2⟩,λj hj=>?_⟩;have c:dO p (j:Int):=⟨by omega,by omega⟩
     by_cases f:j=m
     ·subst f;exact .inr ((d _ c).1 e)
     ·rcases o j aO with g|g
      ·exact .inl ((d _ c).2.2 g)
      ·exact .inr ((d _ c).1 g)
    ·exact .inl aO
  ·rw[a1];refine⟨⟨b,w,by omega,n⟩,x,?_,λe=>?_⟩
   ·rcases a with a|⟨a,o⟩
    ·exact .inl a
    ·refine .inr ⟨a,λj hj=>?_⟩;by_cases f:j=m
     ·subst f;exact .inl a2
     ·exact o j aO
   ·obtain⟨c1,c2⟩:=y (r e).1;refine⟨c1,λj hj=>?_⟩;by_cases f:j=m
    ·subst f;rw[<-c1];exact a2
    ·exact c2 j aO
theorem LP.Live.SW(h:p.Live J W spin)(b:∀i,dO p i->p.st s i=0):∀m:Nat,m<=p.n->p.Rt s m=s/\p.busy s m=false
 | 0,_=>⟨rfl,rfl⟩
 |m+1,hm=>by
  obtain⟨c,d⟩:=LP.Live.SW h b m aO;have a:=b (m:Int) ⟨by omega,by omega⟩;refine⟨?_,?_⟩
  ·show p.act (p.Rt s m) m=s;rw[c];unfold LP.act;rw[ad a]
  ·unfold LP.busy;rw[c,d,a];rfl
theorem LP.Live.calm(h:p.Live J W spin)(hn:p.n<=6)(G:J k s)(N:k<=50000):∀m:Nat,W s<=m->m<1500->∃r f,r<=m/\f<=k+r*6/\J f (p.rounds s r)/\(∀q,q<r->p.busy (p.rounds s q) p.n=true)/\p.busy (p.rounds s r) p.n=false/\∀i,dO p i->p.st (p.rounds s r) i=0:=by
 have y:∀m r:Nat,r+m<1500->∀f,f<=k+r*6->J f (p.rounds s r)->W (p.rounds s r)<=m->(∀q,q<r->p.busy (p.rounds s q) p.n=true)->∃t f,t<=r+m/\f<=k+t*6/\J f (p.rounds s t)/\(∀q,q<t->p.busy (p.rounds s q) p.n=true)/\p.busy (p.rounds s t) p.n=false/\∀i,dO p i->p.st (p.rounds s t) i=0:=by
  intro m;induction m with
  |zero=>
   intro r I f v g hW hb;obtain⟨z,M,n,E⟩:=h.Rt g p.n (ba _) aO;have d:∀i,dO p i->p.st (p.rounds s r) i=0:=by
    rcases n with n|⟨n,A⟩
    ·omega
    ·obtain⟨kk,_,_,l⟩:=z;have:=h.stuck _ _ l (λi hi=>by
      obtain⟨j,rfl⟩:=ix hi.1;exact A j (by have:=hi.2;omega))
     intro i hi;exact(n i hi).2.1 (this i hi)
   exact⟨r,f,by omega,v,g,hb,(h.SW d p.n (ba _)).2,d⟩
  |succ m L=>
   intro r I f v g hW hb;obtain⟨z,M,n,E⟩:=h.Rt g p.n (ba _) aO;have d:W (p.Rt (p.rounds s r) p.n)<W (p.rounds s r)\/∀i,dO p i->p.st (p.rounds s r) i=0:=by
    rcases n with n|⟨n,A⟩
    ·exact .inl n
    ·obtain⟨kk,_,_,l⟩:=z;have:=h.stuck _ _ l (λi hi=>by
      obtain⟨j,rfl⟩:=ix hi.1;exact A j (by have:=hi.2;omega))
     exact .inr λi hi=>(n i hi).2.1 (this i hi)
   by_cases o:p.busy (p.rounds s r) p.n=false
   ·have d:∀i,dO p i->p.st (p.rounds s r) i=0:=λi hi=>by
     obtain⟨j,rfl⟩:=ix hi.1;exact(E o).2 j (by have:=hi.2;omega)
    exact⟨r,f,by omega,v,g,hb,o,d⟩
   ·rcases d with e|e
    ·obtain⟨kk,_,H,l⟩:=z;obtain⟨t,k2,g1,g2⟩:=L (r+1) aO kk aO l (show W (p.Rt (p.rounds s r) p.n)<=m by omega) (λq D=>by
      by_cases e:q=r
      ·subst e;simpa using o
      ·exact hb q aO)
     exact⟨t,k2,by omega,g2⟩
    ·exact am (h.SW e p.n (ba _)).2 o
 intro m hm F;obtain⟨r,f,g1,g2⟩:=y m 0 aO k aO G hm (λq D=>am D aO);exact⟨r,f,by omega,g2⟩
end
structure qS(K:CK)(m:Nat):Prop where
 SK:K.G.Ok
 gn:K.G.n=K.E
 gm:K.G.b+K.G.size<=m+1
 SU:∀v,v<K.E->(K.L v).Ok
 lay:∀v,v<K.E->K.G.b+K.G.size<=(K.L v).b/\(K.L v).b+(K.L v).size<=K.cn v/\K.cn v<=m
 apart:∀u v,u<v->v<K.E->K.cn u<(K.L v).b
 nd:∀t,t<K.n->K.nd t<K.E/\K.sl t<(K.L (K.nd t)).n
 inj:∀t u,t<K.n->u<K.n->K.nd t=K.nd u->K.sl t=K.sl u->t=u
 bud:0<=K.bud/\K.bud<=1000
def lO(K:CK)(A:AR)(v:Nat):Int:=if v<K.E then A.get (K.cn v:Nat) else 0
def sU(K:CK)(S:CS)(t:Nat):Int:=if t<K.n then S.LS (K.nd t) (K.sl t) 0 else 0
structure fu(K:CK)(S:CS):Prop where
 fit:S.A.Fit
 L:qS K S.A.taken
 g:FJ K.G S.GS S.A
 l:∀v,v<K.E->FJ (K.L v) (S.LS v) S.A
 z:∀v j,v<K.E->j<(K.L v).n->(∀t,t<K.n->K.nd t=v->K.sl t≠j)->S.LS v j 0=0
 w:CW K.n K.E K.nd (λt=>S.TS t 0) (λt=>S.TS t 1) (sU K S) (λv=>S.GS v 0) (lO K S.A)
def pN(K:CK)(x:Int):Nat:=if x=0 then 0 else if x=1 then K.G.cc K.n+13 else if x=2 then K.G.cc K.n+12 else if x=3 then 11 else if x=4 then 10 else(19 - x).toNat
def f7(K:CK)(S:CS):Nat:=sm (λt=>pN K (S.TS t 0)) K.n+sm (λv=>fW (K.L v) (S.LS v) S.A) K.E+fW K.G S.GS S.A
def bw(K:CK)(S:CS)(t:Nat):Prop:=(S.TS t 0=1\/S.TS t 0=16)/\cQ (K.L (K.nd t)) (S.LS (K.nd t)) S.A (K.sl t)\/(S.TS t 0=3\/S.TS t 0=15)/\cQ K.G S.GS S.A (K.nd t)
def Fr(X:FK)(F:Nat->Nat->Int)(A B:AR):Prop:=FJ X F B/\fW X F B=fW X F A/\∀j,j<X.n->(cQ X F B j↔cQ X F A j)
theorem FJ.fr{X:FK}{F:Nat->Nat->Int}{B:AR}{m:Nat}(h:FJ X F A)(c:X.Ok)(d:X.b<=4096)(a:ij b m A B)(hd:X.b+X.size<=b\/b+m<=X.b):Fr X F A B:=h.frame c d (λi h1 h2=>a.out i aO) a.le.1
theorem uX{f g:Nat->Nat}{a:Nat}:∀{n:Nat},(∀i,i<n->i≠a->f i<=g i)->(a<n->f a<=g a+1)->sm f n<=sm g n+1
 | 0,_,_=>by simp[sm]
 |n+1,h1,h2=>by
  unfold sm;by_cases e:a=n
  ·subst e;have:=qM (n:=a) λi hi=>h1 i aO aO;have:=h2 aO;omega
  ·have:=uX (n:=n) (λi hi=>h1 i aO) λhi=>h2 aO;have:=h1 n aO (λc=>e c.symm);omega
theorem mA{E:Nat}{m nd sl h:Nat->Nat}:∀{n:Nat}{g:Nat->Nat->Nat},(∀v j,v<E->j<m v->g v j<=1/\(g v j≠0->∃u,u<n/\nd u=v/\sl u=j/\h u≠0))->sm (λv=>sm (g v) (m v)) E<=sm h n
 | 0,g,q=>by
  rw[eG λv hv=>eG λj hj=>by
   by_cases c:g v j=0
   ·exact c
   ·obtain⟨u,l,_⟩:=(q v j hv hj).2 c;omega]
  exact fA _
 |n+1,g,q=>by
  by_cases c:h n=0
  ·have:=mA (n:=n) (g:=g) λv j hv hj=>⟨(q v j hv hj).1,λe=>by
    obtain⟨u,l,f,i,k⟩:=(q v j hv hj).2 e;have:u≠n:=λe=>k (by rw[e];exact c);exact⟨u,by omega,f,i,k⟩⟩
   show _<=sm h n+h n;omega
  ·have o:=mA (n:=n) (g:=λv j=>if v=nd n/\j=sl n then 0 else g v j) λv j hv hj=>by
    split
    ·exact⟨by omega,λe=>am rfl e⟩
    ·rename_i d
     refine⟨(q v j hv hj).1,λe=>?_⟩;obtain⟨u,l,f,i,k⟩:=(q v j hv hj).2 e;have:u≠n:=λe=>d (by rw[<-f,<-i,e];exact⟨rfl,rfl⟩);exact⟨u,by omega,f,i,k⟩
   have st:sm (λv=>sm (g v) (m v)) E<=sm (λv=>sm (λj=>if v=nd n/\j=sl n then 0 else g v j) (m v)) E+1:=uX (a:=nd n) (λv _ b=>by simp[b]) λhv=>by
    refine uX (a:=sl n) (λj _ b=>by simp[b]) λhj=>?_;have:=(q _ _ hv hj).1;omega
   show _<=sm h n+h n;omega
section
variable{K:CK}{S S':CS}{t v u m:Nat}{B:AR}
theorem qS.sz(L:qS K m)(hv:v<K.E):1<=(K.L v).size/\1<=(K.L v).b:=⟨by
 have:=(L.SU v hv).n1;have:=(L.SU v hv).p1;rcases(L.SU v hv).RS with e|e|e|e|e
 ·rw[IL e];omega
 ·rw[Gd e];omega
 ·rw[Bw e];omega
 ·rw[Fb e];omega
 ·rw[Fc e];omega,(L.SU v hv).b1⟩
theorem qS.UO(L:qS K m)(c:u<K.E)(hv:v<K.E)(a:u≠v):K.cn u<(K.L v).b\/K.cn v<(K.L u).b:=by
 by_cases e:u<v
 ·exact .inl (L.apart u v e hv)
 ·exact .inr (L.apart v u aO c)
theorem fu.Vm(h:fu K S)(hv:v<K.E)(c:ij (K.L v).b (K.L v).size S.A B)(hl:S.A.ops<1000000000):B.Fit/\Fr K.G S.GS S.A B/\(∀u,u<K.E->u≠v->Fr (K.L u) (S.LS u) S.A B)/\lO K B=lO K S.A:=by
 have l:=h.L.lay v hv;have f1:=h.fit.1;have f2:=h.fit.2.1;refine⟨c.fit h.fit hl,h.g.fr h.L.SK aO c aO,λu d f=>?_,funext λu=>?_⟩
 ·have a:=h.L.lay u d;have b:=h.L.UO d hv f;exact(h.l u d).fr (h.L.SU u d) aO c aO
 ·unfold lO;split
  ·rename_i d
   have a:=h.L.lay u d;have s:=h.L.sz d;refine c.out _ ?_;by_cases e:u=v
   ·subst e;omega
   ·have b:=h.L.UO d hv e;omega
  ·rfl
theorem fu.Vt(h:fu K S)(b:ij K.G.b K.G.size S.A B)(hl:S.A.ops<1000000000):B.Fit/\(∀u,u<K.E->Fr (K.L u) (S.LS u) S.A B)/\lO K B=lO K S.A:=by
 have f1:=h.fit.1;have f2:=h.fit.2.1;refine⟨b.fit h.fit hl,λu c=>?_,funext λu=>?_⟩
 ·have a:=h.L.lay u c;exact(h.l u c).fr (h.L.SU u c) aO b aO
 ·unfold lO;split
  ·rename_i c
   have a:=h.L.lay u c;have s:=h.L.sz c;exact b.out _ aO
  ·rfl
theorem fu.UP(h:fu K S)(hv:v<K.E)(d:ij (K.cn v) 1 S.A B)(hl:S.A.ops<1000000000):B.Fit/\Fr K.G S.GS S.A B/\(∀u,u<K.E->Fr (K.L u) (S.LS u) S.A B)/\lO K B=up (lO K S.A) v (B.get (K.cn v:Nat)):=by
 have l:=h.L.lay v hv;have s:=h.L.sz hv;have f1:=h.fit.1;have f2:=h.fit.2.1;refine⟨d.fit h.fit hl,h.g.fr h.L.SK aO d aO,λu c=>?_,funext λu=>?_⟩
 ·have a:=h.L.lay u c;refine(h.l u c).fr (h.L.SU u c) aO d ?_;by_cases e:u=v
  ·subst e;omega
  ·have b:=h.L.UO c hv e;omega
 ·unfold lO up;by_cases e:u=v
  ·subst e;rw[ad hv,ad rfl]
  ·rw[ac e];by_cases c:u<K.E
   ·have a:=h.L.lay u c;have s:=h.L.sz c;simp only[ad c];exact d.out (K.cn u:Nat) (by have b:=h.L.UO c hv e;omega)
   ·simp only[ac c]
variable{y g c:Int}
theorem fu.re(h:fu K S)(ht:t<K.n){x z:Int}(a:S'.A.Fit)(b:S'.A.taken=S.A.taken)(r:FJ K.G S'.GS S'.A)(hl:∀v,v<K.E->FJ (K.L v) (S'.LS v) S'.A)(ex:∀i,S'.TS i 0=up (λi=>S.TS i 0) t x i)(p:∀i,S'.TS i 1=up (λi=>S.TS i 1) t y i)(f:∀v,v≠K.nd t->S'.LS v=S.LS v)(k:∀s,s≠K.sl t->S'.LS (K.nd t) s 0=S.LS (K.nd t) s 0)(q:S'.LS (K.nd t) (K.sl t) 0=z)(n:∀v,S'.GS v 0=up (λv=>S.GS v 0) (K.nd t) g v)(l:lO K S'.A=up (lO K S.A) (K.nd t) c)(w:CW K.n K.E K.nd (up (λt=>S.TS t 0) t x) (up (λt=>S.TS t 1) t y) (up (sU K S) t z) (up (λv=>S.GS v 0) (K.nd t) g) (up (lO K S.A) (K.nd t) c)):fu K S':=by
 refine⟨a,by rw[b];exact h.L,r,hl,λv j hv hj hn=>?_,?_⟩
 ·by_cases e:v=K.nd t
  ·subst e;rw[k j λe=>hn t ht rfl e.symm];exact h.z _ _ hv hj hn
  ·rw[f v e];exact h.z _ _ hv hj hn
 ·have o:sU K S'=up (sU K S) t z:=funext λi=>by
   unfold up;by_cases e:i=t
   ·subst e;rw[ad rfl];unfold sU;rw[ad ht];exact q
   ·rw[ac e];unfold sU;by_cases hi:i<K.n
    ·rw[ad hi,ad hi];by_cases c:K.nd i=K.nd t
     ·rw[c];exact k _ λd=>e (h.L.inj i t hi ht c d)
     ·rw[f _ c]
    ·rw[ac hi,ac hi]
  rw[funext ex,funext p,funext n,l,o];exact w
theorem rp(h:fu K S)(ht:t<K.n)(c:∀i,i≠t->S'.TS i 0=S.TS i 0)(d:∀v,v<K.E->v≠K.nd t->fW (K.L v) (S'.LS v) S'.A=fW (K.L v) (S.LS v) S.A):
 f7 K S'+pN K (S.TS t 0)+fW (K.L (K.nd t)) (S.LS (K.nd t)) S.A+fW K.G S.GS S.A=f7 K S+pN K (S'.TS t 0)+fW (K.L (K.nd t)) (S'.LS (K.nd t)) S'.A+fW K.G S'.GS S'.A:=by
 have a:=cd (f:=λt=>pN K (S.TS t 0)) (g:=λt=>pN K (S'.TS t 0)) ht λi _ e=>by rw[c i e]
 have b:=cd (f:=λv=>fW (K.L v) (S.LS v) S.A) (g:=λv=>fW (K.L v) (S'.LS v) S'.A) (h.L.nd t ht).1 d;unfold f7;omega
theorem C2(ht:t<K.n){b:CS}{a:Int}(dA:iy K S t=(b,a))(d:S.TS t 0≠0)(c:S.TS t 0≠10):ay K S (t:Nat)={b with TS:=aa b.TS t 0 a}/\a5 K S (t:Nat)=(a==10||a==0):=by
 have hm:iA K S (t:Nat)=true:=by unfold iA;rw[cl ht,cH];simp[d,c]
 unfold ay a5;rw[hm,cH,dA];exact⟨rfl,rfl⟩
structure t9(K:CK)(S S':CS)(t:Nat)(R:Bool):Prop where
 j:fu K S'
 w:FX K.n (f7 K S) (f7 K S') (λi=>S.TS i 0) (λi=>S'.TS i 0) (bw K S) (bw K S') t
 ok:fH S.TS S'.TS t R
 tk:S'.A.taken=S.A.taken
 ops:S.A.ops<=S'.A.ops/\S'.A.ops<=S.A.ops+1
 out:∀i:Int,i<K.G.b\/(S.A.taken:Int)<i->S'.A.get i=S.A.get i
variable{b n:Nat}
theorem t9.of(hj:fu K S')(d:S.TS t 0≠1/\S.TS t 0≠16/\S.TS t 0≠3/\S.TS t 0≠15)(c:f7 K S'<f7 K S){R:Bool}(ok:fH S.TS S'.TS t R)(a:ij b n S.A S'.A)(e:K.G.b<=b/\b+n<=S.A.taken+1):t9 K S S' t R:=
 ⟨hj,⟨λ_ _=>.inr c,λh=>by unfold bw at h;omega⟩,ok,a.taken,a.le,λi hi=>a.out i aO⟩
variable{T:Nat->Nat->Int}
theorem JB(x:Int)(i:Nat):aa T t 0 x i 0=up (λi=>T i 0) t x i:=by simp[up,ag]
theorem Pn(x:Int)(i:Nat):aa T t 0 x i 1=up (λi=>T i 1) t (T t 1) i:=by
 by_cases e:i=t
 ·subst e;simp[up,ag]
 ·simp[up,ag,e]
theorem QZ(y x:Int)(i:Nat):aa (aa T t 1 y) t 0 x i 0=up (λi=>T i 0) t x i:=by
 by_cases e:i=t
 ·subst e;simp[up,ag]
 ·simp[up,ag,e]
theorem Q1(y x:Int)(i:Nat):aa (aa T t 1 y) t 0 x i 1=up (λi=>T i 1) t y i:=by
 by_cases e:i=t
 ·subst e;simp[up,ag]
 ·simp[up,ag,e]
theorem gH{α:Type}(f:Nat->α)(j:Nat):up f j (f j)=f:=funext λi=>by unfold up;split<;>simp_all
variable{p:Int}
theorem jA{c:Nat->Nat->Int}(f:T t 0≠0)(h1:T t 0≠10)(ho:∀k,k≠t->c k 0=T k 0)(d:c t 0=p)(ha:T t 0<10->1<=p/\p<=10)(e:10<T t 0->p=0\/10<p):fH T c t (p==10||p==0):=
 ⟨ho,λa b=>by rw[d];have:=ha b;simp;omega,λa=>by rw[d];have:=e a;simp;omega,λa=>by omega⟩
theorem eI(f:Nat->Nat->Nat->Int)(v:Nat)(x:Nat->Nat->Int):dL f v x v=x:=by unfold dL;rw[ad rfl]
theorem fZ{f:Nat->Nat->Nat->Int}{v u:Nat}{x:Nat->Nat->Int}(h:u≠v):dL f v x u=f u:=by unfold dL;rw[ac h]
theorem fu.RC(h:fu K S)(ht:t<K.n):S.TS t 0=0/\S.LS (K.nd t) (K.sl t) 0=0\/S.TS t 0=1/\1<=S.LS (K.nd t) (K.sl t) 0/\S.LS (K.nd t) (K.sl t) 0<=9\/(2<=S.TS t 0/\S.TS t 0<=4\/10<=S.TS t 0/\S.TS t 0<=15)/\S.LS (K.nd t) (K.sl t) 0=10\/S.TS t 0=16/\11<=S.LS (K.nd t) (K.sl t) 0:=by
 have:=h.w.loc t ht;unfold sU at this;rw[ad ht] at this;exact this
variable{F:Nat->Nat->Int}
theorem fu.Ty(h:fu K S)(ht:t<K.n)(i:FI (K.L (K.nd t)) F B)(j:∀s,s≠K.sl t->F s 0=S.LS (K.nd t) s 0)(k:F (K.sl t) 0=10):∀u,u<K.n->u≠t->K.nd u=K.nd t->sU K S u≠10:=λu f d e q=>by
 unfold sU at q;rw[ad f,e] at q;have hs:K.sl u≠K.sl t:=λc=>d (h.L.inj u t f ht e c);obtain⟨a,b⟩:=h.L.nd t ht;have g:=(h.L.nd u f).2;rw[e] at g;exact hs (i.one (h.L.SU _ a) g b (by rw[j _ hs];omega) aO)
theorem fu.UM(h:fu K S)(hl:S.A.ops<1000000000)(ht:t<K.n)(q:S.TS t 0=1\/S.TS t 0=16):t9 K S (ay K S t) t (a5 K S t):=by
 obtain⟨hv,hs⟩:=h.L.nd t ht;have E:=h.L.SU _ hv;have l:=h.L.lay _ hv;have f1:=h.fit.1;obtain⟨hi,d, -,f⟩:=(h.l _ hv).fi.step E h.fit hl aO hs;obtain⟨hj,I⟩:=(h.l _ hv).step E h.fit hl aO hs;obtain⟨o1,o2,o3,P⟩:=h.Vm hv d hl;obtain⟨p,H,dA⟩:∃p:Int,p=(if S.TS t 0=1 then(if cN (K.L (K.nd t)) (S.LS (K.nd t)) S.A (K.sl t:Nat) then 2 else 1) else(if cN (K.L (K.nd t)) (S.LS (K.nd t)) S.A (K.sl t:Nat) then 0 else 16))/\iy K S t=({S with A:=bL (K.L (K.nd t)) (S.LS (K.nd t)) S.A (K.sl t:Nat),LS:=dL S.LS (K.nd t) (bM (K.L (K.nd t)) (S.LS (K.nd t)) S.A (K.sl t:Nat))},p):=⟨_,rfl,by
  unfold iy mE fM;rcases q with q|q<;>simp[q]⟩
 obtain⟨C,D⟩:=C2 ht dA aO aO;rw[C,D];clear C D dA;generalize bM (K.L (K.nd t)) (S.LS (K.nd t)) S.A (K.sl t:Nat)=F at*;generalize bL (K.L (K.nd t)) (S.LS (K.nd t)) S.A (K.sl t:Nat)=B at*;generalize cN (K.L (K.nd t)) (S.LS (K.nd t)) S.A (K.sl t:Nat)=R at*;show t9 K S ⟨B,S.GS,dL S.LS (K.nd t) F,aa S.TS t 0 p⟩ t _;have Q:=h.RC ht;have J:S.TS t 0=1/\(p=1/\1<=F (K.sl t) 0/\F (K.sl t) 0<=9\/p=2/\F (K.sl t) 0=10)\/S.TS t 0=16/\(p=16/\11<=F (K.sl t) 0\/p=0/\F (K.sl t) 0=0):=by
  rcases q with q|q
  ·obtain⟨a,b,c⟩:=f.SX aO aO;cases R<;>simp[q] at H c<;>omega
  ·obtain⟨a,c⟩:=f.going aO;cases R<;>simp[q] at H c<;>omega
 have n:∀u,u<K.E->FJ (K.L u) (dL S.LS (K.nd t) F u) B:=λu M=>by
  by_cases e:u=K.nd t
  ·subst e;rw[eI];exact hj
  ·rw[fZ e];exact(o3 u M e).1
 have L:fu K ⟨B,S.GS,dL S.LS (K.nd t) F,aa S.TS t 0 p⟩:=by
  refine h.re ht (x:=p) (y:=S.TS t 1) (z:=F (K.sl t) 0) (g:=S.GS (K.nd t) 0) (c:=lO K S.A (K.nd t)) o1 d.taken o2.1 n (JB p) (Pn p) (λv e=>fZ e) (λs e=>by show dL S.LS _ F _ s 0=_;rw[eI];exact f.others s e) (by show dL S.LS _ F _ _ 0=_;rw[eI]) (λv=>(congrFun (gH (λv=>S.GS v 0) _) v).symm) (P.trans (gH _ _).symm) ?_;exact h.w.locals ht (by rcases J with c|c;exact .inr (.inr (.inl c));exact .inr (.inr (.inr c))) (λt ht=>(h.L.nd t ht).1) (h.Ty ht hi f.others)
 have r:=rp (S':=⟨B,S.GS,dL S.LS (K.nd t) F,aa S.TS t 0 p⟩) h ht (λi e=>by simp[ag,e]) (λv hv e=>by show fW _ (dL S.LS _ F v) B=_;rw[fZ e];exact(o3 v hv e).2.1);have N:pN K p<=pN K (S.TS t 0):=by unfold pN;rcases J with⟨a,b|b⟩|⟨a,b|b⟩<;>rw[a,b.1]<;>simp
 have O:=o2.2.1;simp only[ag,and_self,bt,eI] at r;refine⟨L,⟨λ_ _=>?_,λbB=>?_⟩,jA aO aO (λk e=>by simp[ag,e]) (by simp[ag]) aO aO,d.taken,d.le,λi hi=>d.out i aO⟩
 ·rcases I.sink aO aO with a|a
  ·exact .inl (.inl ⟨q,a⟩)
  ·exact .inr aO
 ·have bB:cQ (K.L (K.nd t)) (S.LS (K.nd t)) S.A (K.sl t):=by unfold bw at bB;rcases bB with a|a;exact a.2;omega
  obtain⟨a,b⟩:=I.idle bB;have o:p=S.TS t 0:=by have:=(b _ hs).2;omega
  refine⟨by omega,λi hi=>?_⟩;have j:aa S.TS t 0 p i 0=S.TS i 0:=by
   simp only[ag];split
   ·rename_i c;rw[c.1];exact o
   ·rfl
  show(_->bw K _ i)/\(aa S.TS t 0 p i 0=0↔_)/\(aa S.TS t 0 p i 0=10↔_)
  refine⟨λG=>?_,by rw[j],by rw[j]⟩;unfold bw at G⊢;show(aa S.TS t 0 p i 0=1\/aa S.TS t 0 p i 0=16)/\cQ _ (dL S.LS (K.nd t) F (K.nd i)) B _\/(aa S.TS t 0 p i 0=3\/aa S.TS t 0 p i 0=15)/\cQ _ S.GS B _;rw[j];obtain⟨n1,w⟩:=h.L.nd i hi;rcases G with⟨c1,c2⟩|⟨c1,c2⟩
  ·refine .inl ⟨c1,?_⟩;by_cases e:K.nd i=K.nd t
   ·rw[e] at w c2⊢;rw[eI];exact(b _ w).1 c2
   ·rw[fZ e];exact((o3 _ n1 e).2.2 _ w).2 c2
  ·exact .inr ⟨c1,(o2.2.2 _ (by rw[h.L.gn];exact n1)).2 c2⟩
theorem fu.stepG(h:fu K S)(hl:S.A.ops<1000000000)(ht:t<K.n)(q:S.TS t 0=3\/S.TS t 0=15):t9 K S (ay K S t) t (a5 K S t):=by
 obtain⟨hv,hs⟩:=h.L.nd t ht;have L:=h.L.SK;have l:=h.L.lay _ hv;have w:K.nd t<K.G.n:=by rw[h.L.gn];exact hv
 have g3:=h.w.p3 t ht;have Q:=h.w.pe t ht;have Z:=h.RC ht;have f1:=h.fit.1;have gm:=h.L.gm;obtain⟨hi,d, -,j⟩:=h.g.fi.step L h.fit hl gm w;obtain⟨hj,O⟩:=h.g.step L h.fit hl gm w;obtain⟨o1,o3,Y⟩:=h.Vt d hl;obtain⟨lv,lw, -⟩:=(h.l _ hv).leave (h.L.SU _ hv) hs aO;have P:=h.l _ hv |>.fi.leave (h.L.SU _ hv) hs aO
 have lr:=lv.fr (h.L.SU _ hv) (by have:=h.fit.2.1;omega) d aO;obtain⟨F,p,N,o,dA⟩:∃(F:Nat->Nat->Int)(p:Int),p=(if S.TS t 0=3 then(if cN K.G S.GS S.A (K.nd t:Nat) then 4 else 3) else(if cN K.G S.GS S.A (K.nd t:Nat) then 16 else 15))/\(p≠16/\F=S.LS (K.nd t)\/p=16/\F=dp (K.L (K.nd t)) (S.LS (K.nd t)) (K.sl t:Nat))/\iy K S t=({S with A:=bL K.G S.GS S.A (K.nd t:Nat),GS:=bM K.G S.GS S.A (K.nd t:Nat),LS:=dL S.LS (K.nd t) F},p):=by
  by_cases c:S.TS t 0=15/\cN K.G S.GS S.A (K.nd t:Nat)=true
  ·exact⟨_,16,by simp[c],.inr ⟨rfl,rfl⟩,by unfold iy fM;simp[c]⟩
  ·refine⟨S.LS (K.nd t),_,rfl,.inl ⟨?_,rfl⟩,?_⟩
   ·rcases q with q|q
    ·simp[q];split<;>omega
    ·simp[q] at c;simp[q,c]
   ·have e:dL S.LS (K.nd t) (S.LS (K.nd t))=S.LS:=funext λu=>by unfold dL;split<;>simp_all
    rw[e];unfold iy mE fM;rcases q with q|q
    ·simp[q]
    ·simp[q] at c;simp[q,c]
 obtain⟨I,J⟩:=C2 ht dA aO aO;rw[I,J];clear I J dA;generalize bM K.G S.GS S.A (K.nd t:Nat)=G at*;generalize bL K.G S.GS S.A (K.nd t:Nat)=B at*;generalize cN K.G S.GS S.A (K.nd t:Nat)=R at*;show t9 K S ⟨B,G,dL S.LS (K.nd t) F,aa S.TS t 0 p⟩ t _;have H:S.TS t 0=3/\(p=3/\1<=G (K.nd t) 0/\G (K.nd t) 0<=9\/p=4/\G (K.nd t) 0=10)\/S.TS t 0=15/\(p=15/\11<=G (K.nd t) 0\/p=16/\G (K.nd t) 0=0):=by
  rcases q with q|q
  ·obtain⟨a,b,c⟩:=j.SX (g3 q).1 (by have:=(g3 q).2;omega);cases R<;>simp[q] at N c<;>omega
  ·obtain⟨a,c⟩:=j.going (by have:=(Q q).1;omega);cases R<;>simp[q] at N c<;>omega
 have f:FJ (K.L (K.nd t)) F B/\(∀s,s≠K.sl t->F s 0=S.LS (K.nd t) s 0)/\fW (K.L (K.nd t)) F B<=fW (K.L (K.nd t)) (S.LS (K.nd t)) S.A:=by
  rcases o with⟨_,e⟩|⟨_,e⟩
  ·rw[e];exact⟨(o3 _ hv).1,λ_ _=>rfl,by rw[(o3 _ hv).2.1];omega⟩
  ·rw[e];exact⟨lr.1,P.2.2,by rw[lr.2.1];omega⟩
 have C:∀u,u<K.E->FJ (K.L u) (dL S.LS (K.nd t) F u) B:=λu U=>by
  by_cases e:u=K.nd t
  ·subst e;rw[eI];exact f.1
  ·rw[fZ e];exact(o3 u U).1
 have T:fu K ⟨B,G,dL S.LS (K.nd t) F,aa S.TS t 0 p⟩:=by
  refine h.re ht (x:=p) (y:=S.TS t 1) (z:=F (K.sl t) 0) (g:=G (K.nd t) 0) (c:=lO K S.A (K.nd t)) o1 d.taken hj C (JB p) (Pn p) (λv e=>fZ e) (λs e=>by show dL S.LS _ F _ s 0=_;rw[eI];exact f.2.1 s e) (by show dL S.LS _ F _ _ 0=_;rw[eI]) (λv=>by unfold up;split;subst v;rfl;exact j.others v ‹_›) (Y.trans (gH _ _).symm) ?_;rcases o with⟨c,e⟩|⟨c,e⟩
  ·have:F (K.sl t) 0=sU K S t:=by rw[e];unfold sU;rw[ad ht]
   rw[this];refine h.w.holds ht (λt ht=>(h.L.nd t ht).1) ?_;rcases H with⟨a,b⟩|⟨a,b⟩
   ·exact .inr (.inl ⟨a,b,rfl⟩)
   ·exact .inr (.inr (.inr (.inr (.inr (.inr ⟨a,b.elim (λx=>x.1) (λx=>am x.1 c),b.elim (λx=>x.2) (λx=>am x.1 c),rfl⟩)))))
  ·rw[c];exact h.w.Ul ht (λt ht=>(h.L.nd t ht).1) (by rw[e,P.2.1];omega) (.inr (by rcases H with⟨a,b⟩|⟨a,b⟩;omega;exact⟨a,b.elim (λx=>am (x.1.symm.trans c) aJ) (λx=>x.2),rfl⟩))
 have E:=rp (S':=⟨B,G,dL S.LS (K.nd t) F,aa S.TS t 0 p⟩) h ht (λi e=>by simp[ag,e]) (λv hv e=>by show fW _ (dL S.LS _ F v) B=_;rw[fZ e];exact(o3 v hv).2.1);have V:pN K p<=pN K (S.TS t 0):=by unfold pN;rcases H with⟨a,b|b⟩|⟨a,b|b⟩<;>rw[a,b.1]<;>simp
 have W:=f.2.2;simp only[ag,and_self,bt,eI] at E;refine⟨T,⟨λ_ _=>?_,λbB=>?_⟩,jA aO aO (λk e=>by simp[ag,e]) (by simp[ag]) aO aO,d.taken,d.le,λi hi=>d.out i aO⟩
 ·rcases O.sink aO aO with a|a
  ·exact .inl (.inr ⟨q,a⟩)
  ·exact .inr aO
 ·have bB:cQ K.G S.GS S.A (K.nd t):=by unfold bw at bB;rcases bB with a|a;omega;exact a.2
  obtain⟨a,b⟩:=O.idle bB;have D:p=S.TS t 0:=by have:=(b _ w).2;omega
  have r:F=S.LS (K.nd t):=by
   rcases o with⟨_,e⟩|⟨c,_⟩
   ·exact e
   ·omega
  refine⟨by omega,λi hi=>?_⟩;have n:aa S.TS t 0 p i 0=S.TS i 0:=by
   simp only[ag];split
   ·rename_i c;rw[c.1];exact D
   ·rfl
  show(_->bw K _ i)/\(aa S.TS t 0 p i 0=0↔_)/\(aa S.TS t 0 p i 0=10↔_)
  refine⟨λM=>?_,by rw[n],by rw[n]⟩;unfold bw at M⊢;show(aa S.TS t 0 p i 0=1\/aa S.TS t 0 p i 0=16)/\cQ _ (dL S.LS (K.nd t) F (K.nd i)) B _\/(aa S.TS t 0 p i 0=3\/aa S.TS t 0 p i 0=15)/\cQ _ G B _;rw[n];obtain⟨n1,X⟩:=h.L.nd i hi;rcases M with⟨c1,c2⟩|⟨c1,c2⟩
  ·refine .inl ⟨c1,?_⟩;have e:dL S.LS (K.nd t) F (K.nd i)=S.LS (K.nd i):=by
    by_cases c:K.nd i=K.nd t
    ·rw[c,eI,r]
    ·exact fZ c
   rw[e];exact((o3 _ n1).2.2 _ X).2 c2
  ·exact .inr ⟨c1,(b _ (by rw[h.L.gn];exact n1)).1 c2⟩
theorem fu.tail(h:fu K S)(hl:S.A.ops<1000000000)(ht:t<K.n){G:Nat->Nat->Int}(dA:iy K S t=(⟨B,G,dL S.LS (K.nd t) F,aa S.TS t 1 y⟩,p))(a:ij b n S.A B)(z:K.G.b<=b/\b+n<=S.A.taken+1)(J:S.TS t 0=2\/S.TS t 0=4\/S.TS t 0=11\/S.TS t 0=12\/S.TS t 0=13\/S.TS t 0=14)(C:S.TS t 0<10->1<=p/\p<=10)(j:10<S.TS t 0->p=0\/10<p)(w:FJ K.G G B)(r:FJ (K.L (K.nd t)) F B)(ho:∀u,u<K.E->u≠K.nd t->Fr (K.L u) (S.LS u) S.A B)(d:∀s,s≠K.sl t->F s 0=S.LS (K.nd t) s 0)(f:∀v,G v 0=up (λv=>S.GS v 0) (K.nd t) g v)(A:lO K B=up (lO K S.A) (K.nd t) c)(H:fW (K.L (K.nd t)) F B<=fW (K.L (K.nd t)) (S.LS (K.nd t)) S.A)(I:pN K p+fW K.G G B<pN K (S.TS t 0)+fW K.G S.GS S.A)(E:CW K.n K.E K.nd (up (λt=>S.TS t 0) t p) (up (λt=>S.TS t 1) t y) (up (sU K S) t (F (K.sl t) 0)) (up (λv=>S.GS v 0) (K.nd t) g) (up (lO K S.A) (K.nd t) c)):t9 K S (ay K S t) t (a5 K S t):=by
 obtain⟨o,q⟩:=C2 ht dA aO aO;rw[o,q];have x:fu K ⟨B,G,dL S.LS (K.nd t) F,aa (aa S.TS t 1 y) t 0 p⟩:=
  h.re ht (a.fit h.fit hl) a.taken w (λu D=>by
   show FJ _ (dL S.LS (K.nd t) F u) B;by_cases e:u=K.nd t
   ·subst e;rw[eI];exact r
   ·rw[fZ e];exact(ho u D e).1) (QZ y p) (Q1 y p) (λv e=>fZ e) (λs e=>by show dL S.LS _ F _ s 0=_;rw[eI];exact d s e) (by show dL S.LS _ F _ _ 0=_;rw[eI]) f A E
 have l:=rp (S':=⟨B,G,dL S.LS (K.nd t) F,aa (aa S.TS t 1 y) t 0 p⟩) h ht (λi e=>by simp[ag,e]) (λv hv e=>by show fW _ (dL S.LS _ F v) B=_;rw[fZ e];exact(ho v hv e).2.1);simp only[ag,and_self,bt,eI] at l;exact .of x aO aO (jA aO aO (λk e=>by simp[ag,e]) (by simp[ag]) C j) a z
theorem Fm(f:Nat->Nat->Nat->Int)(v:Nat):dL f v (f v)=f:=funext λu=>by unfold dL;split<;>simp_all
theorem fu.Ur(h:fu K S)(hv:v<K.E)(a:S.GS v 0≠0):∃u,u<K.n/\K.nd u=v/\S.TS u 0≠0:=by
 by_cases c:∃u,u<K.n/\K.nd u=v/\S.TS u 0≠0
 ·exact c
 ·have:=h.w.no v hv λt ht e q=>by
   have:=h.RC ht;unfold sU at q;rw[ad ht] at q;exact c ⟨t,ht,e,by omega⟩
  by_cases d:0<lO K S.A v
  ·obtain⟨t,ht,e,q⟩:=(this.1 d).2;exact am ⟨t,ht,e,by show S.TS t 0≠0;have:S.TS t 0=1:=q;omega⟩ c
  ·exact am (this.2 aO) a
theorem fu.TV(h:fu K S)(hv:v<K.E){j:Nat}(hj:j<(K.L v).n)(e:S.LS v j 0≠0):∃u,u<K.n/\K.nd u=v/\K.sl u=j/\S.TS u 0≠0:=by
 by_cases c:∃u,u<K.n/\K.nd u=v/\K.sl u=j
 ·obtain⟨u,d,a,b⟩:=c;have:=h.RC d;rw[a,b] at this;exact⟨u,d,a,b,by omega⟩
 ·exact am (h.z v j hv hj λu d a b=>c ⟨u,d,a,b⟩) e
theorem fu.Rt(h:fu K S):a7 S.GS K.G.n<=a7 S.TS K.n/\sm (λv=>a7 (S.LS v) (K.L v).n) K.E<=a7 S.TS K.n:=by
 constructor
 ·have:=mA (E:=K.E) (m:=λ_=>1) (nd:=K.nd) (sl:=λ_=>0) (h:=λt=>if S.TS t 0=0 then 0 else 1) (n:=K.n) (g:=λv _=>if S.GS v 0=0 then 0 else 1) λv j hv hj=>⟨by split<;>omega,λe=>by
   obtain⟨u,a,b,c⟩:=h.Ur hv (λd=>e (ad d));exact⟨u,a,b,by omega,by rw[ac c];omega⟩⟩
  rw[h.L.gn];unfold a7;simpa[sm] using this
 ·exact mA (nd:=K.nd) (sl:=K.sl) λv j hv hj=>⟨by split<;>omega,λe=>by
   obtain⟨u,a,b,c,d⟩:=h.TV hv hj (λd=>e (ad d));exact⟨u,a,b,c,by rw[ac d];omega⟩⟩
theorem fu.less(h:fu K S)(ht:t<K.n)(k:S.GS (K.nd t) 0=0):a7 S.GS K.G.n<K.n:=by
 have:=mA (E:=K.E) (m:=λ_=>1) (nd:=K.nd) (sl:=λ_=>0) (h:=λu=>if u=t then 0 else 1) (n:=K.n) (g:=λv _=>if S.GS v 0=0 then 0 else 1) λv j hv hj=>⟨by split<;>omega,λe=>by
  obtain⟨u,a,b,c⟩:=h.Ur hv (λd=>e (ad d));exact⟨u,a,b,by omega,by rw[ac λd=>e (ad (by rw[<-b,d];exact k))];omega⟩⟩
 have a:=cd (f:=λ_=>1) (g:=λu=>if u=t then 0 else 1) ht λi _ e=>ac e;have b:=lj (f:=λ_=>1) (c:=1) (n:=K.n) λ_ _=>ba _;rw[h.L.gn];simp[sm] at this a;unfold a7;omega
theorem fu.steps(h:fu K S)(hl:S.A.ops<1000000000)(ht:t<K.n)(q:S.TS t 0=2\/S.TS t 0=4\/S.TS t 0=11\/S.TS t 0=12\/S.TS t 0=13\/S.TS t 0=14):t9 K S (ay K S t) t (a5 K S t):=by
 obtain⟨hv,hs⟩:=h.L.nd t ht;have n:=h.L.SU _ hv;have l:=h.L.lay _ hv;have sz:=h.L.sz hv;have f1:=h.fit.1;have f2:=h.fit.2.1;have gm:=h.L.gm;have g1:=h.L.SK.b1;have gs:=h.L.SK.n1;have D:K.nd t<K.G.n:=by rw[h.L.gn];exact hv
 have hn:=λt ht=>(h.L.nd t ht).1;have U:=h.RC ht;have hi:S.A.has (K.cn (K.nd t):Nat)=true:=a6.2 aO;have C:=(eE h.fit hi (b:=K.cn (K.nd t)) (m:=1) aO aO).1;have k:=λx:Int=>(cV (v:=x) h.fit hi (b:=K.cn (K.nd t)) (m:=1) aO aO).1;have I:=λx:Int=>(bU (v:=x) (j:=(K.cn (K.nd t):Nat)) h.fit.1 hi).trans (ad rfl);have A:lO K S.A (K.nd t)=S.A.get (K.cn (K.nd t):Nat):=by unfold lO;rw[ad hv]
 have r:S.LS (K.nd t) (K.sl t) 0=sU K S t:=by unfold sU;rw[ad ht]
 have fb:K.G.b<=K.cn (K.nd t)/\K.cn (K.nd t)+1<=S.A.taken+1:=by omega
 have L:=oj S.TS t 1;have s:=Fm S.LS (K.nd t);have z:∀v,S.GS v 0=up (λv=>S.GS v 0) (K.nd t) (S.GS (K.nd t) 0) v:=λv=>(congrFun (gH (λv=>S.GS v 0) _) v).symm;obtain⟨-,a2,a3,M⟩:=h.UP hv C hl;rw[aw,<-A,gH] at M;have E:lO K (S.A.load (K.cn (K.nd t):Nat))=up (lO K S.A) (K.nd t) (lO K S.A (K.nd t)):=by rw[gH];exact M
 have w2:=h.w.p2 t ht;have w4:=h.w.p4 t ht;have Q:=h.w.pa t ht;have wb:=h.w.pb t ht;rcases q with q|q|q|q|q|q
 ·by_cases c:0<S.A.get (K.cn (K.nd t):Nat)
  ·refine h.tail hl ht (p:=10) (y:=S.A.get (K.cn (K.nd t):Nat)) (G:=S.GS) (F:=S.LS (K.nd t)) (by unfold iy mE;rw[s];simp[q,c]) C fb aO aO aO a2.1 (a3 _ hv).1 (λu d _=>a3 u d) (λ_ _=>rfl) z E (by rw[(a3 _ hv).2.1];omega) (by rw[a2.2.1,q];simp[pN]) ?_;rw[r];exact h.w.holds ht hn (.inl ⟨q,.inl ⟨by omega,rfl,rfl⟩,rfl⟩)
  ·have H:S.GS (K.nd t) 0=0:=(w2 q).2 aO;obtain⟨b1,f, -⟩:=h.g.ask h.L.SK D H;have f:=f K.n (h.less ht H);have b3:=h.g.fi.ask h.L.SK D H;have a:=b1.fr h.L.SK aO C aO;refine h.tail hl ht (p:=3) (y:=S.A.get (K.cn (K.nd t):Nat)) (g:=1) (G:=gM K.G S.GS (K.nd t:Nat)) (F:=S.LS (K.nd t)) (by unfold iy mE;rw[s];simp[q,c]) C fb aO aO aO a.1 (a3 _ hv).1 (λu d _=>a3 u d) (λ_ _=>rfl) (λv=>by unfold up;split;subst v;exact b3.2.1;exact b3.2.2 v ‹_›) E (by rw[(a3 _ hv).2.1];omega) (by rw[a.2.1,q];simp[pN];omega) ?_;rw[r];exact h.w.holds ht hn (.inl ⟨q,.inr ⟨by omega,rfl,rfl⟩,rfl⟩)
 ·obtain⟨-,f,b3,a⟩:=h.UP hv (k 1) hl;rw[I] at a;refine h.tail hl ht (p:=10) (y:=1) (c:=1) (G:=S.GS) (F:=S.LS (K.nd t)) (by unfold iy mE;rw[s];simp[q]) (k 1) fb aO aO aO f.1 (b3 _ hv).1 (λu d _=>b3 u d) (λ_ _=>rfl) z a (by rw[(b3 _ hv).2.1];omega) (by rw[f.2.1,q];simp[pN]) ?_;rw[r];exact h.w.holds ht hn (.inr (.inr (.inl ⟨q,rfl,w4 (.inl q),rfl⟩)))
 ·obtain⟨p,o,dA⟩:∃p:Int,(p=14\/p=12/\S.A.get (K.cn (K.nd t):Nat)<=K.bud)/\iy K S t=(⟨S.A.load (K.cn (K.nd t):Nat),S.GS,dL S.LS (K.nd t) (S.LS (K.nd t)),aa S.TS t 1 (S.A.get (K.cn (K.nd t):Nat))⟩,p):=by
   rw[s];unfold iy fM;by_cases c:K.bud<S.A.get (K.cn (K.nd t):Nat)
   ·exact⟨14,.inl rfl,by simp[q,c]⟩
   ·exact⟨12,.inr ⟨rfl,by omega⟩,by simp[q,c]⟩
  have T:=h.L.bud;refine h.tail hl ht dA C fb aO aO aO a2.1 (a3 _ hv).1 (λu d _=>a3 u d) (λ_ _=>rfl) z E (by rw[(a3 _ hv).2.1];omega) (by rw[a2.2.1,q];rcases o with rfl|⟨rfl, -⟩<;>simp[pN]) ?_;rw[r];exact h.w.holds ht hn (.inr (.inr (.inr (.inl ⟨q,o.elim .inr (λx=>.inl ⟨x.1,A.symm,by omega⟩),w4 (.inr aO),rfl⟩))))
 ·obtain⟨J,O⟩:=(h.l _ hv).fi.alone n h.fit aO hs;obtain⟨-,f,b3,a⟩:=h.Vm hv J hl;have fr:=(h.l _ hv).frame n aO (λi _ _=>O i) J.le.1;have N:lO K (p9 (K.L (K.nd t)) (S.LS (K.nd t)) S.A (K.sl t:Nat))=up (lO K S.A) (K.nd t) (lO K S.A (K.nd t)):=by rw[gH];exact a
  obtain⟨p,o,dA⟩:∃p:Int,(p=14\/p=13/\qa (K.L (K.nd t)) (S.LS (K.nd t)) S.A (K.sl t:Nat)=false)/\iy K S t=(⟨p9 (K.L (K.nd t)) (S.LS (K.nd t)) S.A (K.sl t:Nat),S.GS,dL S.LS (K.nd t) (S.LS (K.nd t)),aa S.TS t 1 (S.TS t 1)⟩,p):=by
   rw[s,L];unfold iy fM;cases c:So (S.TS t 1) K.bud (qa (K.L (K.nd t)) (S.LS (K.nd t)) S.A (K.sl t:Nat))
   ·exact⟨14,.inl rfl,by simp[q]⟩
   ·refine⟨13,.inr ⟨rfl,?_⟩,by simp[q]⟩;unfold So at c;revert c;cases qa (K.L (K.nd t)) (S.LS (K.nd t)) S.A (K.sl t:Nat)<;>simp
  refine h.tail hl ht dA J aO aO aO aO f.1 fr.1 (λu d e=>b3 u d e) (λ_ _=>rfl) z N (by rw[fr.2.1];omega) (by rw[f.2.1,q];rcases o with rfl|⟨rfl, -⟩<;>simp[pN]) ?_;rw[r];have P:p=13->∃u,u<K.n/\K.nd u=K.nd t/\S.TS u 0=1:=λe=>by
   obtain⟨i,hi,V,W⟩:=(h.l _ hv).behind n h.fit hl aO hs aO (by rcases o with c|c;omega;exact c.2);by_cases c:∃u,u<K.n/\K.nd u=K.nd t/\K.sl u=i
   ·obtain⟨u,c1,c2,c3⟩:=c;have:=h.RC c1;rw[c2,c3] at this;exact⟨u,c1,c2,by omega⟩
   ·have:=h.z _ i hv hi λu c1 c2 c3=>c ⟨u,c1,c2,c3⟩;omega
  have k4:=w4 (.inr aO);have kb:=wb (.inl q);refine h.w.holds ht hn (.inr (.inr (.inr (.inr (.inl ⟨q,?_,k4,rfl⟩)))));rcases o with e|e
  ·exact .inr e
  ·exact .inl ⟨e.1,rfl,P e.1⟩
 ·have kb:=wb (.inr q);have X:=Q aO;have k4:=w4 (.inr aO);have R:wrap64 (S.TS t 1+1)=S.TS t 1+1:=ce aO;obtain⟨-,f,b3,a⟩:=h.UP hv (k (S.TS t 1+1)) hl;rw[I] at a;obtain⟨c1,c2, -⟩:=(h.l _ hv).leave n hs aO;have c3:=(h.l _ hv).fi.leave n hs aO;have w:=c1.fr n aO (k (S.TS t 1+1)) aO;refine h.tail hl ht (p:=16) (y:=S.TS t 1) (c:=S.TS t 1+1) (G:=S.GS) (F:=dp (K.L (K.nd t)) (S.LS (K.nd t)) (K.sl t:Nat)) (by rw[L];unfold iy fM;simp[q,R]) (k (S.TS t 1+1)) fb aO aO aO f.1 w.1 (λu d _=>b3 u d) c3.2.2 z a (by rw[w.2.1];omega) (by rw[f.2.1,q];simp[pN]) ?_;exact h.w.Ul ht hn (by rw[c3.2.1];omega) (.inl ⟨q,k4,by omega⟩)
 ·have k4:=w4 (.inr aO);obtain⟨-,f,b3,a⟩:=h.UP hv (k 0) hl;rw[I] at a;obtain⟨c1,c2, -⟩:=h.g.leave h.L.SK D k4;have c3:=h.g.fi.leave h.L.SK D k4;have w:=c1.fr h.L.SK aO (k 0) aO;refine h.tail hl ht (p:=15) (y:=S.TS t 1) (g:=11) (c:=0) (G:=dp K.G S.GS (K.nd t:Nat)) (F:=S.LS (K.nd t)) (by rw[s,L];unfold iy fM;simp[q]) (k 0) fb aO aO aO w.1 (b3 _ hv).1 (λu d _=>b3 u d) (λ_ _=>rfl) (λv=>by unfold up;split;subst v;exact c3.2.1;exact c3.2.2 v ‹_›) a (by rw[(b3 _ hv).2.1];omega) (by rw[w.2.1,q];simp[pN];omega) ?_;rw[r];exact h.w.holds ht hn (.inr (.inr (.inr (.inr (.inr (.inl ⟨q,rfl,by omega,rfl⟩))))))
theorem fu.step(h:fu K S)(hl:S.A.ops<1000000000)(ht:t<K.n):t9 K S (ay K S t) t (a5 K S t):=by
 have f:=h.RC ht;by_cases c:S.TS t 0=0\/S.TS t 0=10
 ·have hm:iA K S (t:Nat)=false:=by unfold iA;rw[cH];rcases c with c|c<;>rw[c]<;>simp
  have d:ay K S (t:Nat)=S:=by unfold ay;rw[hm];rfl
  have e:a5 K S (t:Nat)=false:=by unfold a5;rw[hm];rfl
  rw[d,e];exact⟨h,⟨λa b=>by omega,λa=>by unfold bw at a;omega⟩,⟨λ_ _=>rfl,λa b=>by omega,λa=>by omega,λ_=>⟨rfl,rfl⟩⟩,rfl,⟨by omega,by omega⟩,λ_ _=>rfl⟩
 ·by_cases a:S.TS t 0=1\/S.TS t 0=16
  ·exact h.UM hl ht a
  ·by_cases b:S.TS t 0=3\/S.TS t 0=15
   ·exact h.stepG hl ht b
   ·exact h.steps hl ht aO
theorem fu.stuck(h:fu K S)(hs:∀t,t<K.n->S.TS t 0=0\/S.TS t 0=10\/bw K S t):(∃t,t<K.n/\S.TS t 0=10)\/∀t,t<K.n->S.TS t 0=0:=by
 by_cases c:∃t,t<K.n/\S.TS t 0=10
 ·exact .inl c
 have hs:∀t,t<K.n->S.TS t 0=0\/bw K S t:=λt ht=>by
  rcases hs t ht with a|a|a
  ·exact .inl a
  ·exact am ⟨t,ht,a⟩ c
  ·exact .inr a
 have k:∀v,v<K.E->(∀t,t<K.n->K.nd t=v->S.TS t 0≠3/\S.TS t 0≠15)->∀t,t<K.n->K.nd t=v->S.TS t 0=0:=λv hv i t ht e=>by
  have l:=h.L.lay v hv;rcases(h.l v hv).stuck (h.L.SU v hv) h.fit aO λj hj=>by
   by_cases x:S.LS v j 0=0
   ·exact .inl x
   ·obtain⟨u,f,g,n,p⟩:=h.TV hv hj x;have:=i u f g;rcases hs u f with a|a
    ·exact am a p
    ·unfold bw at a;rw[g,n] at a;exact .inr (.inr (by rcases a with a|a;exact a.2;omega)) with⟨j,hj,q⟩|q
  ·obtain⟨u,f,g,n,p⟩:=h.TV hv hj aO;have a:=h.RC f;rw[g,n] at a;have:=i u f g;have:S.TS u 0=0\/S.TS u 0=1\/S.TS u 0=16:=by
    rcases hs u f with a|a
    ·exact .inl a
    ·unfold bw at a;omega
   omega
  ·have a:=h.RC ht;have b:=q (K.sl t) (by have:=(h.L.nd t ht).2;rw[e] at this;exact this);rw[e] at a;omega
 have o:∀v,v<K.E->S.GS v 0=0\/S.GS v 0=10/\(∀t,t<K.n->K.nd t=v->S.TS t 0≠3/\S.TS t 0≠15)\/cQ K.G S.GS S.A v:=λv hv=>by
  by_cases x:∃t,t<K.n/\K.nd t=v/\(S.TS t 0=3\/S.TS t 0=15)
  ·obtain⟨t,ht,e,q⟩:=x;rcases hs t ht with a|a
   ·omega
   ·unfold bw at a;rw[e] at a;exact .inr (.inr (by rcases a with a|a;omega;exact a.2))
  ·have nx:∀t,t<K.n->K.nd t=v->S.TS t 0≠3/\S.TS t 0≠15:=λt ht e=>⟨λq=>x ⟨t,ht,e,.inl q⟩,λq=>x ⟨t,ht,e,.inr q⟩⟩
   have:=h.w.no v hv λt ht e q=>by
    have a:=h.RC ht;unfold sU at q;rw[ad ht] at q;have:=nx t ht e;rcases hs t ht with b|b
    ·omega
    ·unfold bw at b;omega
   by_cases d:0<lO K S.A v
   ·exact .inr (.inl ⟨(this.1 d).1,nx⟩)
   ·exact .inl (this.2 aO)
 refine .inr ?_;rcases h.g.stuck h.L.SK h.fit h.L.gm λv hv=>by
  rcases o v (by rw[<-h.L.gn];exact hv) with a|a|a
  ·exact .inl a
  ·exact .inr (.inl a.1)
  ·exact .inr (.inr a) with⟨v,hv,q⟩|q
 ·rw[h.L.gn] at hv;obtain⟨u,f,e,a⟩:=h.Ur hv aO;refine am (k v hv (λt ht e=>?_) u f e) a;have b:=h.w.p3 t ht;have d:=h.w.pe t ht;simp only[e,q] at b d;omega
 ·exactλt ht=>k _ (h.L.nd t ht).1 (λu f e=>by
   have a:=q (K.nd u) (by rw[h.L.gn];exact(h.L.nd u f).1);have b:=h.w.p3 u f;have d:=h.w.pe u f;simp only[a] at b d;omega) t ht rfl
theorem fu.Te(h:fu K S)(ht:t<K.n)(hs:bw K S t)(y:10<S.TS t 0):∃u,u<K.n/\(1<=S.TS u 0/\S.TS u 0<=3)/\¬bw K S u:=by
 obtain⟨hv,k⟩:=h.L.nd t ht;have z:=h.RC ht;unfold bw at hs;rcases hs with⟨q,hs⟩|⟨q,hs⟩
 ·obtain⟨i,hi,a,b,c⟩:=(h.l _ hv).Te (h.L.SU _ hv) k hs aO;obtain⟨u,g,l,n,s⟩:=h.TV hv hi aO;have:=h.RC g;rw[l,n] at this;refine⟨u,g,by omega,λd=>?_⟩;unfold bw at d;rw[l,n] at d;rcases d with d|d
  ·exact c d.2
  ·omega
 ·have w:=h.w.pe t ht (show S.TS t 0=15 by omega);obtain⟨v,j,a,b,c⟩:=h.g.Te h.L.SK (by rw[h.L.gn];exact hv) hs aO;rw[h.L.gn] at j;by_cases x:∃u,u<K.n/\K.nd u=v/\sU K S u=10
  ·obtain⟨u,g,e,d⟩:=x;unfold sU at d;rw[ad g] at d;have A:=h.RC g;have o:=h.w.p2 u g;have p:=h.w.p4 u g;have r:=h.w.pe u g;simp only[e] at o p r;refine⟨u,g,by omega,λf=>?_⟩;unfold bw at f;rw[e] at f;rcases f with f|f
   ·omega
   ·exact c f.2
  ·have:=h.w.no v j λu g e d=>x ⟨u,g,e,d⟩;omega
theorem fu.Uv(h:fu K S)(ht:t<K.n)(f:u<K.n)(h1:10<=S.TS t 0/\S.TS t 0<=14)(h2:10<=S.TS u 0/\S.TS u 0<=14):t=u:=by
 have a:S.GS (K.nd t) 0=10:=h.w.p4 t ht (.inr h1);have b:S.GS (K.nd u) 0=10:=h.w.p4 u f (.inr h2);have e:=h.g.fi.one h.L.SK (by rw[h.L.gn];exact(h.L.nd t ht).1) (by rw[h.L.gn];exact(h.L.nd u f).1) (by omega:10<=S.GS (K.nd t) 0) aO;have c:=h.RC ht;have d:=h.RC f;exact h.w.one t u ht f (by unfold sU;rw[ad ht];omega) (by unfold sU;rw[ad f];omega) e
theorem fu.idle(h:fu K S)(ht:t<K.n)(a:S.TS t 0=0):S.LS (K.nd t) (K.sl t) 0=0:=by have:=h.RC ht;omega
theorem rj(ht:t<K.n)(a:S.TS t 0=0):bu K S (t:Nat)={S with LS:=dL S.LS (K.nd t) (gM (K.L (K.nd t)) (S.LS (K.nd t)) (K.sl t:Nat)),TS:=aa S.TS t 0 1}:=by
 unfold bu ai;rw[cl ht,cH,a];rfl
theorem fu.ask(h:fu K S)(ht:t<K.n)(k:S.TS t 0=0):fu K (bu K S t)/\f7 K (bu K S t)<=f7 K S+K.G.cc K.n+13+(K.L (K.nd t)).cc K.n/\(∀i,i<K.n->bw K S i->bw K (bu K S t) i)/\(∀i,(bu K S t).TS i 0=up (λi=>S.TS i 0) t 1 i)/\(bu K S t).A=S.A:=by
 obtain⟨hv,hs⟩:=h.L.nd t ht;have p:=h.L.SU _ hv;have r:=h.idle ht k;obtain⟨b1,o,b3⟩:=(h.l _ hv).ask p hs r;obtain⟨-,c1,c2⟩:=(h.l _ hv).fi.ask p hs r;have l:=rp (S':=bu K S t) h ht (λi e=>by rw[rj ht k];simp[ag,e]) (λv hv e=>by rw[rj ht k];show fW _ (dL S.LS _ _ v) S.A=_;rw[fZ e]);have o:=o K.n (by
  have a:=mf (f:=λv=>a7 (S.LS v) (K.L v).n) hv;have b:=mA (h:=λu=>if u=t then 0 else 1) (n:=K.n) (E:=K.E) (m:=λv=>(K.L v).n) (nd:=K.nd) (sl:=K.sl) (g:=λv j=>if S.LS v j 0=0 then 0 else 1) λv j hv hj=>⟨by split<;>omega,λe=>by
   obtain⟨u,a,b,c,d⟩:=h.TV hv hj (λd=>e (ad d));exact⟨u,a,b,c,by rw[ac λe=>d (by rw[e];exact k)];omega⟩⟩
  have c:=cd (f:=λ_=>1) (g:=λu=>if u=t then 0 else 1) ht λi _ e=>ac e;have d:=lj (f:=λ_=>1) (c:=1) (n:=K.n) λ_ _=>ba _;simp at c;unfold a7 at a⊢;omega)
 rw[rj ht k] at l⊢;generalize gM (K.L (K.nd t)) (S.LS (K.nd t)) (K.sl t:Nat)=F at*;refine⟨?_,?_,λi hi q=>?_,JB 1,rfl⟩
 ·refine h.re ht (x:=1) (y:=S.TS t 1) (z:=F (K.sl t) 0) (g:=S.GS (K.nd t) 0) (c:=lO K S.A (K.nd t)) h.fit rfl h.g (λu D=>?_) (JB 1) (Pn 1) (λv e=>fZ e) (λs e=>by show dL S.LS _ F _ s 0=_;rw[eI];exact c2 s e) (by show dL S.LS _ F _ _ 0=_;rw[eI]) (λv=>(congrFun (gH (λv=>S.GS v 0) _) v).symm) (gH _ _).symm ?_
  ·show FJ _ (dL S.LS _ F u) _;by_cases e:u=K.nd t
   ·subst e;rw[eI];exact b1
   ·rw[fZ e];exact h.l u D
  ·exact h.w.locals ht (.inl ⟨k,rfl,by omega,by omega⟩) (λt ht=>(h.L.nd t ht).1) aO
 ·have C:pN K 1=K.G.cc K.n+13:=rfl;have w:pN K 0=0:=rfl;simp only[ag,and_self,bt,eI] at l;rw[k,w,C] at l;omega
 ·unfold bw at q⊢;show(aa S.TS t 0 1 i 0=1\/aa S.TS t 0 1 i 0=16)/\cQ _ (dL S.LS (K.nd t) F (K.nd i)) S.A _\/(aa S.TS t 0 1 i 0=3\/aa S.TS t 0 1 i 0=15)/\_;have:i≠t:=λe=>by subst e;omega
  simp only[ag,this,false_and,br];rcases q with⟨c1,c2⟩|c
  ·refine .inl ⟨c1,?_⟩;by_cases e:K.nd i=K.nd t
   ·rw[e] at c2⊢;rw[eI];exact b3 _ c2
   ·rw[fZ e];exact c2
  ·exact .inr c
theorem fu.leave(h:fu K S)(ht:t<K.n)(b:S.TS t 0=10):bj K S t={S with TS:=aa S.TS t 0 11}/\fu K (bj K S t)/\f7 K (bj K S t)+1=f7 K S/\(∀i,i<K.n->bw K S i->bw K (bj K S t) i):=by
 have e:bj K S t={S with TS:=aa S.TS t 0 11}:=by unfold bj;rw[dQ ht b]
 have a:=rp (S':={S with TS:=aa S.TS t 0 11}) h ht (λi e=>by simp[ag,e]) (λv hv e=>rfl);have f:=h.RC ht;rw[e];refine⟨rfl,?_,?_,λi hi d=>?_⟩
 ·refine h.re ht (x:=11) (y:=S.TS t 1) (z:=S.LS (K.nd t) (K.sl t) 0) (g:=S.GS (K.nd t) 0) (c:=lO K S.A (K.nd t)) h.fit rfl h.g h.l (JB 11) (Pn 11) (λv e=>rfl) (λs e=>rfl) rfl (λv=>(congrFun (gH (λv=>S.GS v 0) _) v).symm) (gH _ _).symm ?_;exact h.w.locals ht (.inr (.inl ⟨b,rfl,by omega⟩)) (λt ht=>(h.L.nd t ht).1) λf=>h.Ty ht (h.l _ (h.L.nd t ht).1).fi (λ_ _=>rfl) f
 ·have k:pN K 10=9:=rfl;have j:pN K 11=8:=rfl;simp only[ag,and_self,bt] at a;rw[b,j,k] at a;omega
 ·unfold bw at d⊢;have:i≠t:=λe=>by subst e;omega
  simp only[ag,this,false_and,br];exact d
theorem fu.frame(h:fu K S)(c:ij b n S.A B)(hl:S.A.ops<1000000000)(hd:b+n<=K.G.b):fu K {S with A:=B}/\f7 K {S with A:=B}=f7 K S/\∀i,i<K.n->(bw K {S with A:=B} i↔bw K S i):=by
 have f2:=h.fit.2.1;have f1:=h.fit.1;have gm:=h.L.gm;have sz:=(h.L.SK).n1;have d:=h.g.fr h.L.SK (by have:=(kS h.L.SK).1;omega) c (.inr hd);have fl:=λv hv=>(h.l v hv).fr (h.L.SU v hv) (by have:=h.L.lay v hv;have:=h.L.sz hv;omega) c (.inr (by have:=h.L.lay v hv;omega));have e:lO K B=lO K S.A:=funext λv=>by
  unfold lO;split
  ·rename_i hv;have:=h.L.lay v hv;have:=h.L.sz hv;exact c.out _ aO
  ·rfl
 refine⟨⟨c.fit h.fit hl,by show qS K B.taken;rw[c.taken];exact h.L,d.1,λv hv=>(fl v hv).1,h.z,?_⟩,?_,λi hi=>?_⟩
 ·show CW _ _ _ _ _ _ _ (lO K B);rw[e];exact h.w
 ·unfold f7;show _+sm (λv=>fW (K.L v) (S.LS v) B) K.E+fW K.G S.GS B=_;rw[gE (f:=λv=>fW (K.L v) (S.LS v) S.A) λv hv=>(fl v hv).2.1,d.2.1]
 ·obtain⟨a,b⟩:=h.L.nd i hi;unfold bw;show _/\cQ _ _ B _\/_/\cQ _ _ B _↔_;rw[(fl _ a).2.2 _ b,d.2.2 _ (by rw[h.L.gn];exact a)]
theorem FK.TW{X:FK}(a:X.p<=4)(hn:1<=n):X.cc n<=8*n+6:=by have:=qn n a;unfold FK.cc;split<;>omega
theorem fu.top(h:fu K S)(a:K.G.p<=4/\∀v,v<K.E->(K.L v).p<=4):f7 K S<=a7 S.TS K.n*(8*a7 S.TS K.n+8*K.n+39):=by
 obtain⟨a1,a2⟩:=h.Rt;have b:∀{X:FK}{F:Nat->Nat->Int},FJ X F S.A->X.Ok->X.p<=4->(∀j,j<X.n->0<=F j 0)->a7 F X.n<=a7 S.TS K.n->fW X F S.A<=a7 F X.n*(4*a7 S.TS K.n+10):=λ{X F} d k a i ha=>by
  have:a7 F X.n*X.p<=a7 S.TS K.n*4:=vf ha a;refine dv (d.top i) ?_;by_cases c:a7 F X.n=0
  ·rw[c];omega
  ·exact qn _ (by split<;>omega)
 have l:=mg (p:=4*a7 S.TS K.n+10) (n:=K.E) λv hv=>b (h.l v hv) (h.L.SU v hv) (a.2 v hv) (λj hj=>(h.l v hv).fi.pc (h.L.SU v hv) hj) (dv (mf (f:=λv=>a7 (S.LS v) (K.L v).n) hv) a2);have g:=b h.g h.L.SK a.1 (λj hj=>h.g.fi.pc h.L.SK hj) a1;have o:=xq (4*a7 S.TS K.n+10) a2;have g2:=xq (4*a7 S.TS K.n+10) a1;have t1:sm (λt=>pN K (S.TS t 0)) K.n<=a7 S.TS K.n*(8*K.n+19):=mg λt ht=>by
  have:=h.RC ht;have:=K.G.TW a.1 (show 1<=K.n by omega);by_cases c:S.TS t 0=0
  ·rw[c];exact fA _
  ·rw[ac c];unfold pN;repeat' split
   all_goals omega
 have e:a7 S.TS K.n*(8*a7 S.TS K.n+8*K.n+39)=a7 S.TS K.n*(8*K.n+19)+a7 S.TS K.n*(4*a7 S.TS K.n+10)+a7 S.TS K.n*(4*a7 S.TS K.n+10):=by rw[show 8*a7 S.TS K.n+8*K.n+39=(8*K.n+19)+(4*a7 S.TS K.n+10)+(4*a7 S.TS K.n+10) by omega,Nat.mul_add,Nat.mul_add]
 unfold f7;omega
end
def BU:List TypeId:=[119,258,263,265,233]
theorem n7{T U:TypeId}(h:T∈BU)(a:U∉BU):U≠T:=λe=>a (e ▸ h)
def dX(P T:List Int)(gk lk par bud:Nat)(A:AR)(v:Nat):AR:=jR lk par T (tE P) (fK (jt P T gk lk par bud A).G A) v
section
variable{w w':World}{lk:Nat}{vs:List Value}
variable{fb lb sb ab wb:Nat}{A:AR}{F:Nat->Nat->Int}{M:FK}{LT:TypeId}
theorem cZ.Sn(h:cZ w fb lb sb ab wb A F M)(b:aq w lk vs LT)(a:LT∈BU:=by decide):fb≠lk/\lb≠lk/\sb≠lk:=by
 obtain⟨_,h1⟩:=h.TZ;obtain⟨_,h2⟩:=h.S3;refine⟨h1.differ b (n7 a aJ),?_,h2.differ b (n7 a aJ)⟩;obtain⟨_,_,_,h⟩:=h;exact h.box.differ b (n7 a (by unfold Hu;(repeat' split)<;>decide))
theorem ax.Sn(h:ax w ab wb A)(b:aq w lk vs LT)(a:LT∈BU:=by decide):ab≠lk/\wb≠lk:=
 ⟨h.box.differ b (n7 a aJ),h.row.differ b (n7 a aJ)⟩
theorem IR.RJ{g:Nat}{v:Value}{zs:List Int}(h:IR w g v zs)(e:aq w lk vs LT)(c:af [lk] w w')(b:LT∈BU:=by decide):IR w' g v zs:=by
 have a:=h;obtain⟨_,_,_,d,_⟩:=h;exact a.Rr c (by simp;exact d.differ e (n7 b aJ))
theorem jG.RJ{tb:Nat}{P T:List Int}(h:jG w tb P T){LT:TypeId}(e:aq w lk vs LT)(d:af [lk] w w')(c:LT∈BU:=by decide):jG w' tb P T:=by
 obtain⟨i,j,f,a,b,g,gt,gn,gs,gm,h1,h2,h3,h4,h5⟩:=h;exact⟨i,j,f,a,b,g,gt,gn,gs,gm,h1.Rr d (by simp;exact h1.differ e (n7 c aJ)),h2.RJ e d c,h3.RJ e d c,h4.RJ e d c,h5.RJ e d c⟩
theorem cZ.RJ(h:cZ w fb lb sb ab wb A F M)(b:aq w lk vs LT)(c:af [lk] w w')(a:LT∈BU:=by decide):cZ w' fb lb sb ab wb A F M:=by
 have n1:=h.Sn b a;have d:=h.ar.Sn b a;exact h.Rr c aQ
theorem bg.RJ{B:CB}{K:CK}{S:CS}(h:bg w B K S){LT:TypeId}(c:aq w lk vs LT)(b:af [lk] w w')(a:LT∈BU:=by decide):bg w' B K S:=by
 obtain⟨cells,hn,d⟩:=h.Sh;exact{box:=h.box.Rr b (by simp;exact h.box.differ c (n7 a aJ)),Sj:=h.Sj.RJ c b a,Sf:=h.Sf.RJ c b a,Sh:=⟨cells,hn.Rr b (by simp;exact hn.differ c (n7 a aJ)),d⟩,loc:=λv hv=>(h.loc v hv).RJ c b a,row:=h.row.Rr b (by simp;exact h.row.differ c (n7 a aJ)),Sg:=h.Sg,ok:=h.ok}
end
section
variable{w:World}{b1 b2 ab wb lk:Nat}{v u:Value}{A:AR}
def o6(K:CK)(Av:Nat->AR):CS:=⟨Av (tE K.P).length,lg K.G,λv=>lg (K.L v),λ_ _=>0⟩
end
structure jO(P T:List Int)(sv:Value)(p:LP)(s0:p.σ):Prop where
 ok:p.Ok
 i0:p.I 0 s0
 S9:∀(w:World)(a b:Value),aZ w 0 a P->aZ w 0 b T->Calls prog 21 #[.agg #[a,b],sv] w λe w'=>∃(bb:LB p)(wo tb lk:Nat),bb.Ok/\e= .returned (.tuple #[some wo,(0:Int)])/\eP bb w' wo tb lk s0/\(∀z∈bb.Z,w.heap.size<=z)/\af [] w w'
section
variable{w:World}{a b:Value}{P T:List Int}{x0 x1 x2 x3:Int}{m:Nat}
theorem zM{p:LP}{s0:p.σ}(w:World)(R:je P T m->jO P T (pX x0 x1 x2 x3) p s0)(J:aZ w 0 a P)(M:aZ w 0 b T)(Q:0<=x0/\x0<256)(h1:0<=x1/\x1<256)(h2:0<=x2/\x2<256)(h3:0<=x3/\x3<256):
 Calls prog 6 #[.agg #[a,b],.agg #[.int .u8 x0,.int .u8 x1,.int .u8 x2,.int .u8 x3],m] w λe w'=>af [] w w'/\
  ((¬je P T m/\e= .returned (.pointer none))\/(je P T m/\∃(bb:LB p)(E tb lk:Nat),bb.Ok/\e= .returned (some E)/\eP bb w' E tb lk s0/\∀z∈bb.Z,w.heap.size<=z)):=by
 have n:=aH (((af.refl [] w).alloc (.cells #[a,b] 24)).alloc (.cells #[.int .u8 x0,.int .u8 x1,.int .u8 x2,.int .u8 x3] 25));have u:=aH (λ(W:World) (A:af [] w W)=>oI W (J.Rr A aS) (M.Rr A aS) m);have H:=aH (λ(W:World)=>wS W x0 x1 x2 x3 Q h1 h2 h3);have G:=aH (λ(W:World) (A:af [] w W) (hs:je P T m)=>(R hs).S9 W _ _ (J.Rr A aS) (M.Rr A aS));have q:=(aq.new w #[a,b] 24).alloc (.cells #[.int .u8 x0,.int .u8 x1,.int .u8 x2,.int .u8 x3] 25);have t:=aq.new (w.alloc (.cells #[a,b] 24)) #[.int .u8 x0,.int .u8 x1,.int .u8 x2,.int .u8 x3] 25;rw[bP] at t;have g:=aH q;have d:=aH t;have t0:=q.cell (i:=0) rfl;have t1:=q.cell (i:=1) rfl;obtain⟨a1,N,rfl, -, -⟩:=J;obtain⟨a2,O,rfl, -, -⟩:=M;have S:= @aX prog;clear q t Q h1 h2 h3 R;by_cases hs:je P T m
 ·have HS:=aH hs;clear hs;go_enter func6,ntmps6;go_wp2_with fail;refine(u.o _ n.o).mono ?_;rintro e w1 ⟨r,rfl,D,f⟩;obtain rfl:r=true:=D.2 HS.o;have l:=aH (n.o.trans f);have g:=aH (g.o.Rr f aS);have d:=aH (d.o.Rr f aS);clear D f t0 t1;have hne:=aW [] w1;have Z:=zF (L:=[]) g.o aS 0 rfl;have hz1:=zF (L:=[]) g.o aS 1 rfl;have U:=zF (L:=[]) d.o aS 0 rfl;have V:=zF (L:=[]) d.o aS 1 rfl;have X:=zF (L:=[]) d.o aS 2 rfl;have Y:=zF (L:=[]) d.o aS 3 rfl;go_wp2_with fail;refine aG (λwx=>af [] w1 wx) ?_;refine eQ (fuel:=7) [0,1] rfl aF.Rs ?_;refine aL 2 (fuel:=6) rfl ?_;go_wp2_with fail;refine gF (H.o _) ?_;rintro w2 f;have o:=aH (((af.refl [] w1).Rs).trans f);clear f;go_wp2_with fail;refine ah ⟨o.o,?_⟩;refine aL 3 (fuel:=5) rfl ?_;go_wp2_with fail;refine(G.o _ (l.o.trans o.o) HS.o).mono ?_;rintro e w3 ⟨bb,E,tb,lk,v,rfl,hW,hz,f⟩;have F:=aH v;clear v;have I:=aH hW;have HZ:=aH (λz h=>dv (l.o.trans o.o).size (hz z h));have s:=aH (o.o.trans f);clear hW hz f;go_wp2_with fail;refine ah ⟨s.o,?_⟩;refine eQ (fuel:=0) [4,5,6,7,8] rfl s.o ?_;refine aN ?_;go_wp2;go_ret;exact⟨l.o.trans s.o,.inr ⟨HS.o,bb,E,tb,lk,F.o,rfl,I.o,HZ.o⟩⟩
 ·have HS:=aH hs;clear hs;go_enter func6,ntmps6;go_wp2_with fail;refine(u.o _ n.o).mono ?_;rintro e w1 ⟨r,rfl,D,f⟩;obtain rfl:r=false:=by cases r;rfl;exact am (D.1 rfl) HS.o
  have l:=aH (n.o.trans f);have g:=aH (g.o.Rr f aS);have d:=aH (d.o.Rr f aS);clear D f t0 t1;go_wp2;go_ret;exact⟨l.o,.inl ⟨HS.o,rfl⟩⟩
end
section
variable{p:LP}{J:Nat->p.σ->Prop}{W:p.σ->Nat}{spin:p.σ->Int->Prop}{k:Nat}{s:p.σ}{u:Int}
def LP.lone(p:LP)(s:p.σ)(u:Int):Prop:=∀j,dO p j->j≠u->p.st s j=0
theorem rC(a:dO p u):bC p.n u=true:=by unfold bC;simp;exact a
theorem LP.Live.TG(h:p.Live J W spin)(f:k<100000)(b:J k s)(d:dO p u)(ho:p.lone s u)(a:p.st s u≠0):W (p.act s u)<W s:=by
 rcases h.sink _ _ _ f b d a with e|e
 ·exact am (h.stuck _ _ b (λi hi=>by
   by_cases c:i=u
   ·subst c;exact .inr e
   ·exact .inl (ho i hi c)) u d) a
 ·exact e
theorem LP.Live.Uu(h:p.Live J W spin)(f:k<100000)(e:J k s)(d:dO p u)(ho:p.lone s u)(h1:p.st s u=1):
 J (k+1) (p.RY s u 0)/\p.lone (p.RY s u 0) u/\W (p.RY s u 0)<W s/\p.rd (p.RY s u 0) u=p.rd s u/\(p.st (p.RY s u 0) u=2/\(p.SP s u 0).1=2\/p.st (p.RY s u 0) u=1/\(p.SP s u 0).1=0):=by
 have g:=h.TG f e d ho aO;have ht:=h.RT _ _ _ f e d;have c:=h.Sm _ _ u 0 f e;have i:p.act s u=p.RY s u 0:=by unfold LP.act;rw[ac aO,ac aO]
 have l:p.RY s u 0=p.Ru s u:=by unfold LP.RY LP.step;rw[rC d];simp[h1]
 have m:(p.SP s u 0).1=if p.RD s u=true then 2 else 0:=by unfold LP.SP LP.Sx;rw[rC d];simp[h1];split<;>rfl
 rw[i] at g;rw[l] at g c⊢;rw[m];obtain⟨n,o⟩:=ht.Uu h1;refine⟨c,λj hj hn=>(ht.S4 j hj hn).1.trans (ho j hj hn),g,o,?_⟩;rcases n with⟨a,b⟩|⟨a,b⟩
 ·exact .inl ⟨b,by rw[a];rfl⟩
 ·exact .inr ⟨b,by rw[a];rfl⟩
theorem LP.Live.UU(h:p.Live J W spin)(f:k<100000)(e:J k s)(d:dO p u)(ho:p.lone s u)(h1:p.st s u=3):
 J (k+1) (p.RY s u 0)/\p.lone (p.RY s u 0) u/\W (p.RY s u 0)<W s/\(p.st (p.RY s u 0) u=0/\(p.SP s u 0).1=4\/p.st (p.RY s u 0) u=3/\(p.SP s u 0).1=0):=by
 have g:=h.TG f e d ho aO;have ht:=h.RT _ _ _ f e d;have c:=h.Sm _ _ u 0 f e;have i:p.act s u=p.RY s u 0:=by unfold LP.act;rw[ac aO,ac aO]
 have l:p.RY s u 0=p.Ru s u:=by unfold LP.RY LP.step;rw[rC d];simp[h1]
 have m:(p.SP s u 0).1=if p.RD s u=true then 4 else 0:=by unfold LP.SP LP.Sx;rw[rC d];simp[h1];split<;>rfl
 rw[i] at g;rw[l] at g c⊢;rw[m];refine⟨c,λj hj hn=>(ht.S4 j hj hn).1.trans (ho j hj hn),g,?_⟩;rcases ht.go h1 with⟨a,b⟩|⟨a,b⟩
 ·exact .inl ⟨b,by rw[a];rfl⟩
 ·exact .inr ⟨b,by rw[a];rfl⟩
theorem LP.Live.asks(h:p.Live J W spin)(l:k<100000)(i:J k s)(g:dO p u)(ho:∀j,dO p j->p.st s j=0)(hn:p.n<=6)(r:Bool)(f:r=true->p.shares=true):
 J (k+1) (p.RY s u (if r then 3 else 1))/\p.lone (p.RY s u (if r then 3 else 1)) u/\p.st (p.RY s u (if r then 3 else 1)) u=1/\p.rd (p.RY s u (if r then 3 else 1)) u=r/\(p.SP s u (if r then 3 else 1)).1=1/\W (p.RY s u (if r then 3 else 1))<=200:=by
 obtain⟨a,b,c,d⟩:=(h.RT _ _ _ l i g).ask (ho u g) r f;have e:=h.Sm _ _ u (if r then 3 else 1) l i;have o:(r&& !p.shares)=false:=by cases r;rfl;simp[f]
 have m:p.RY s u (if r then 3 else 1)=p.R3 s u r:=by
  unfold LP.RY LP.ask;rw[rC g];cases r
  ·simp
  ·simp[f]
 have n:(p.SP s u (if r then 3 else 1)).1=1:=by
  unfold LP.SP LP.SB;rw[rC g];cases r
  ·simp[a]
  ·simp[a,f]
 rw[m] at e⊢;exact⟨e,λj hj hn=>(d j hj hn).trans (ho j hj),b,c,n,h.S2 _ _ _ _ l hn i g ho f⟩
theorem LP.Live.leaves(h:p.Live J W spin)(f:k<100000)(e:J k s)(g:dO p u)(ho:p.lone s u)(h1:p.st s u=2)(r:Bool)(l:p.rd s u=r):
 J (k+1) (p.RY s u (if r then 4 else 2))/\p.lone (p.RY s u (if r then 4 else 2)) u/\p.st (p.RY s u (if r then 4 else 2)) u=3:=by
 obtain⟨a,b,d⟩:=(h.RT _ _ _ f e g).leave h1;have c:=h.Sm _ _ u (if r then 4 else 2) f e;have i:p.RY s u (if r then 4 else 2)=p.Rz s u:=by
  unfold LP.RY LP.leave;rw[rC g];cases r<;>simp[l]
 rw[i] at c⊢;exact⟨c,λj hj hn=>(d j hj hn).trans (ho j hj hn),b⟩
end
theorem Ii(kd:Int)(c:1<=kd/\kd<=13)(w:World):Calls prog 55 #[kd] w λe w'=>∃a,e= .returned (.string a)/\a.toList.isEmpty=false/\af [] w w':=by
 have b:kd=1\/kd=2\/kd=3\/kd=4\/kd=5\/kd=6\/kd=7\/kd=8\/kd=9\/kd=10\/kd=11\/kd=12\/kd=13:=by omega
 rcases b with rfl|rfl|rfl|rfl|rfl|rfl|rfl|rfl|rfl|rfl|rfl|rfl|rfl;all_goals
  clear c;go_enter func55,ntmps55;go_wp2;go_ret;exact⟨_,rfl,by kernel_rfl,aF.alloc _⟩
theorem kg(kd:Int)(w:World):Calls prog 11 #[kd] w λe w'=>e= .returned (.bool (decide (11<=kd)&&decide (kd<=13)))/\w=w':=by
 cases h1:decide (11<=kd)
 all_goals
  go_enter func11,ntmps11;go_wp2;go_ret;exact⟨rfl,rfl⟩
theorem aZ.UY{base:Nat}(h:aZ w base v zs)(f:af S w w')(hs:∀z∈S,w.heap.size<=z):aZ w' base v zs:=by
 obtain⟨a,cap,h1,h2,h3⟩:=h;refine⟨a,cap,h1,h2,λd=>?_⟩;obtain⟨b,off,e,ha,c⟩:=h3 d;exact⟨b,off,e,ha,λi hi=>f.cell (c i hi) (λhm=>by have:=hs b hm;have:=qu (c i hi);simp only at this;omega)⟩
def im(w:World)(ab wb:Nat)(v:Value)(zs:List Int):Prop:=∀w' S,af S w w'->(∀z∈S,z=ab\/z=wb\/w.heap.size<=z)->aZ w' 0 v zs
theorem im.of{w0:World}(h:aZ w0 0 v zs)(a:af [] w0 w)(ha:w0.heap.size<=ab)(c:w0.heap.size<=wb):im w ab wb v zs:=λw' S h2 hs=>
 h.UY ((a.mono (S':=S) aS).trans h2) (λz b=>by rcases hs z b with e|e|e;omega;omega;exact dv a.size e)
theorem im.next{w1:World}(h:im w ab wb v zs)(b:af S w w1)(c:∀z∈S,z=ab\/z=wb\/w.heap.size<=z):im w1 ab wb v zs:=λw' S' h2 hs=>
 h w' (S++S') ((b.mono (by intro z a;simp[a])).trans (h2.mono (by intro z a;simp[a]))) (λz a=>by
  rcases fc.1 a with e|e
  ·exact c z e
  ·rcases hs z e with q|q|q
   ·exact .inl q
   ·exact .inr (.inl q)
   ·exact .inr (.inr (dv b.size q)))
structure iQ(P T:List Int)(kd g l par bud:Int)(p:LP)(s0:p.σ):Prop where
 n:p.n=T.length
 Tb:1<=kd/\kd<=13
 sh:p.shares=(decide (11<=kd)&&decide (kd<=13))
 S9:∀(w:World)(ab wb lk:Nat)(x y:Value),aZ w 0 x P->aZ w 0 y T->ax w ab wb (AR.fresh 4096)->aq w lk [kd,T.length,.nilIface] 119->im w ab wb x P->im w ab wb y T->
  Calls prog 57 #[some lk,some ab,.agg #[x,y],.agg #[g,l,par,bud]] w λe w'=>∃bb:LB p,bb.Ok/\(bb.ab=ab/\bb.kind=kd)/\e= .returned (0:Int)/\qU bb w' lk s0/\(∀z∈bb.Z,z=ab\/z=wb\/w.heap.size<=z)/\af [ab,wb,lk] w w'
section
variable{w:World}{ab wb:Nat}{v u:Value}{P T:List Int}{kd g l par bud:Int}{p:LP}{s0:p.σ}
theorem D2(y:im w ab wb v P)(A:im w ab wb u T)(N:aZ w 0 v P)(O:aZ w 0 u T)(V:ea P T)(h:iQ P T kd g l par bud p s0)(S:ax w ab wb (AR.fresh 4096)):
 Calls prog 38 #[some ab,.agg #[v,u],.agg #[kd,g,l,par,bud]] w λe w'=>∃(lk:Nat)(bb:LB p),bb.Ok/\(bb.ab=ab/\bb.kind=kd)/\e= .returned (.tuple #[some lk,(0:Int)])/\qU bb w' lk s0/\(∀z∈bb.Z,z=ab\/z=wb\/w.heap.size<=z)/\af [ab,wb] w w':=by
 have s:=aH (((af.refl [] w).alloc (.cells #[v,u] 24)).alloc (.cells #[kd,g,l,par,bud] 44));have o:=aH ((aq.new w #[v,u] 24).Rr ((af.refl [] _).alloc (.cells #[kd,g,l,par,bud] 44)) aS);have m:=aq.new (w.alloc (.cells #[v,u] 24)) #[kd,g,l,par,bud] 44;rw[bP] at m;have q:=aH m;have r:=aH (λ(W:World) (j:af [] w W)=>mx W (N.Rr j aS) (O.Rr j aS) V);have J:=aH (λ(W:World) (lk:Nat) (j:af [] w W) (hl:aq W lk [kd,T.length,.nilIface] 119)=>h.S9 W ab wb lk _ _ (N.Rr j aS) (O.Rr j aS) (S.Rr j aS aS) hl (y.next j aS) (A.next j aS));have K:=aH (λ(W:World)=>Ii kd h.Tb W);obtain⟨s1,s2,s3,s4⟩:=V.size;obtain⟨a1,Q,rfl, -, -⟩:=N;obtain⟨a2,R,rfl, -, -⟩:=O;clear S h m y A;go_enter func38,ntmps38;go_wp2_with fail;refine(K.o _).mono ?_;rintro e w1 ⟨str,rfl,B,d⟩;have k:=aH (s.o.trans d);have b:=aH (o.o.Rr d aS);have a:=aH (q.o.Rr d aS);have t0:=b.o.cell (i:=0) rfl;have t1:=b.o.cell (i:=1) rfl;have s0:=a.o.cell (i:=0) rfl;have D:=a.o.cell (i:=1) rfl;have E:=a.o.cell (i:=2) rfl;have F:=a.o.cell (i:=3) rfl;have G:=a.o.cell (i:=4) rfl;clear d o q;go_wp2_with fail;refine gF (r.o w1 k.o) ?_;rintro w2 f;have c:=aH (k.o.trans f);have L:=aH (b.o.Rr f aS);have n:=aH (a.o.Rr f aS);clear f b a t0 t1 s0 D E F G k s r B;have t0:=L.o.cell (i:=0) rfl;have t1:=L.o.cell (i:=1) rfl;have s0:=n.o.cell (i:=0) rfl;have D:=n.o.cell (i:=1) rfl;have E:=n.o.cell (i:=2) rfl;have F:=n.o.cell (i:=3) rfl;have G:=n.o.cell (i:=4) rfl;have Z:=L.o.lt;have q2:=n.o.lt;go_wp2_with fail;refine(J.o _ w2.heap.size (c.o.alloc _) (aq.new w2 _ _)).mono ?_;rintro e w3 ⟨bb,x,M,rfl,U,C,t⟩;have X:=aH U;have H:=aH x;have Y:=aH (show∀z∈bb.Z,z=ab\/z=wb\/w.heap.size<=z fromλz h=>by rcases C z h with e|e|e;exact .inl e;exact .inr (.inl e);exact .inr (.inr (by have:=c.o.size;rw[bP] at e;omega)));have I:=aH (c.o.alloc (.cells #[kd,T.length,.nilIface] 119) |>.mono (S':=[ab,wb]) aS |>.Rx t (λz C=>by simp at C;rcases C with e|e|e;exact .inl (by simp[e]);exact .inl (by simp[e]);exact .inr (by rw[e];exact c.o.size)));clear U t x C;go_wp2;go_ret2;exact⟨_,bb,H.o,M,rfl,X.o,Y.o,I.o⟩
theorem gJ(H:aZ w 0 v P)(I:aZ w 0 u T)(hT:ea P T)(h:iQ P T kd g l par bud p s0):
 Calls prog 21 #[.agg #[v,u],.agg #[kd,g,l,par,bud]] w λe w'=>∃(bb:LB p)(wo tb lk:Nat),bb.Ok/\e= .returned (.tuple #[some wo,(0:Int)])/\eP bb w' wo tb lk s0/\(∀z∈bb.Z,w.heap.size<=z)/\af [] w w':=by
 have K:=aH (((af.refl [] w).alloc (.cells #[v,u] 24)).alloc (.cells #[kd,g,l,par,bud] 44));have o:=aH ((aq.new w #[v,u] 24).Rr ((af.refl [] _).alloc (.cells #[kd,g,l,par,bud] 44)) aS);have m:=aq.new (w.alloc (.cells #[v,u] 24)) #[kd,g,l,par,bud] 44;rw[bP] at m;have r:=aH m;have t:=aH (λ(W:World) (ab wb:Nat) (n:af [] w W) (ha:ax W ab wb (AR.fresh 4096)) (h1:w.heap.size<=ab) (h2:w.heap.size<=wb)=>D2 (im.of H n h1 h2) (im.of I n h1 h2) (H.Rr n aS) (I.Rr n aS) hT h ha);have N:=aH (λ(W:World) (n:af [] w W)=>gQ (H.Rr n aS) (I.Rr n aS) hT);have F:=h.sh;have x:=aH (λ(W:World)=>kg kd W);rw[<-F] at x;obtain⟨a1,y,rfl, -, -⟩:=H;obtain⟨a2,A,rfl, -, -⟩:=I;clear h m F;go_enter func21,ntmps21;go_wp2_with fail;refine gF (Gm 4096 _) ?_;rintro w1 ⟨G,c⟩;have e4:si 4096=4096:=by decide
 rw[e4] at G;generalize D:(((w.alloc (.cells #[.slice a1 P.length y,.slice a2 T.length A] 24)).alloc (.cells #[kd,g,l,par,bud] 44))).heap.size=ab at G⊢;have hlo:w.heap.size+2<=ab:=by rw[<-D,bP,bP];omega
 clear D;have Y:=aH G;have k:=aH (K.o.trans c);have b:=aH (o.o.Rr c aS);have a:=aH (r.o.Rr c aS);have t0:=b.o.cell (i:=0) rfl;have t1:=b.o.cell (i:=1) rfl;have s0:=a.o.cell (i:=0) rfl;have S:=a.o.cell (i:=1) rfl;have U:=a.o.cell (i:=2) rfl;have V:=a.o.cell (i:=3) rfl;have X:=a.o.cell (i:=4) rfl;clear c o r G;go_wp2_with fail;refine(t.o w1 _ _ k.o Y.o aO aO).mono ?_;rintro e w2 ⟨lk,bb,E,⟨B,C⟩,rfl,hL,J,d⟩;have Z:=aH (b.o.Rr d aQ);have HS:=aH (a.o.Rr d aQ);have s:=aH (k.o.Rx d (λz J=>.inr (by simp at J;omega)));have HL:=aH hL;have j:=aH E;have q:=aH (ae B C);have HZ:=aH (show∀z∈bb.Z,w.heap.size<=z fromλz h=>by rcases J z h with e|e|e;omega;omega;exact dv k.o.size e);clear d hL b a t0 t1 s0 S U V X Y t E J B C;have t0:=Z.o.cell (i:=0) rfl;have t1:=Z.o.cell (i:=1) rfl;go_wp2_with fail;refine(N.o w2 s.o).mono ?_;rintro e w3 ⟨tb,rfl,R,Q,f⟩;have O:=aH (HS.o.Rr f aS);have L:=aH (s.o.trans f);have M:=aH (HL.o.same j.o f);clear f Q R;have s0:=O.o.cell (i:=0) rfl;go_wp2_with fail;refine gF (x.o _) ?_;rintro w' rfl;go_wp2;go_ret2;rw[<-q.o.1];exact⟨bb,_,tb,lk,j.o,rfl,⟨aq.new _ _ _,M.o.same j.o (aF.alloc _)⟩,HZ.o,L.o.alloc _⟩
end
theorem um(K:FK)(j:Nat):lg K j 0=0:=by unfold lg;split<;>rfl
variable{K:FK}
theorem Nl(a:K.Ok)(k:K.b=A.taken+1)(d:A.taken+K.size<=A.ws.length)(j:AZ A)(f:A.Fit)(h3:K.k<=3):(fK K A).get K.b=0:=by
 have c:AR.get {A with taken:=A.taken+K.size} K.b=0:=by rw[yh j d];exact kH aO
 unfold fK
 split
 ·rename_i e
  have i:=Bw e;have h:=a.p1;have h2:=f.2.1;have g:=(pu (b:=K.b) (parts:=K.p) (t:=0) aO ⟨a.p1,a.Tr⟩ aO).1;rw[g,bU (A:={A with taken:=A.taken+K.size}) d (a6.2 aQ),ac aQ];exact c
 ·rw[ac aO];exact c
theorem Db(a:K.Ok)(b:K.b=A.taken+1)(d:A.taken+K.size<=A.ws.length)(e:AZ A)(c:A.Fit):FJ K (lg K) (fK K A):=
 .zero (nP a b d e c).2 (λj _=>um K j) λh3=>Nl a b d e c h3
theorem CW.zero{E:Nat}{nd:Nat->Nat}{pc a b g c:Nat->Int}(h1:∀t,t<n->pc t=0/\b t=0)(h2:∀v,v<E->g v=0/\c v<=0):CW n E nd pc a b g c:=
 ⟨λt ht=>.inl (h1 t ht),λt _ ht _ e=>by have:=h1 t ht;omega,λt ht e=>by have:=h1 t ht;omega,λt ht e=>by have:=h1 t ht;omega,λt ht e=>by have:=h1 t ht;omega,λt ht e=>by have:=h1 t ht;omega,λt ht e=>by have:=h1 t ht;omega,λt ht e=>by have:=h1 t ht;omega,λt ht e=>by have:=h1 t ht;omega,λv hv _=>⟨λe=>by have:=(h2 v hv).2;omega,λ_=>(h2 v hv).1⟩⟩
variable{t:Nat}
theorem nN(ht:t<T.length):(T.take t).count (T[t]?.getD 0)<T.count (T[t]?.getD 0):=by
 have e:T=T.take t++T.drop t:=(List.take_append_drop t T).symm;have a:T.drop t=T[t]::T.drop (t+1):=List.drop_eq_getElem_cons ht;have b:T[t]?.getD 0=T[t]:=by rw[eB ht];rfl
 have h1:T.count T[t]=(T.take t).count T[t]+(T.drop t).count T[t]:=by
  rw[<-List.count_append,<-e]
 rw[a,List.count_cons_self] at h1;rw[b];omega
theorem rq{u:Nat}(ht:t<T.length)(f:u<T.length)(e:T[t]?.getD 0=T[u]?.getD 0)(h:(T.take t).count (T[t]?.getD 0)=(T.take u).count (T[u]?.getD 0)):t=u:=by
 have c:∀{a b:Nat},a<b->a<T.length->T[a]?.getD 0=T[b]?.getD 0->(T.take a).count (T[a]?.getD 0)<(T.take b).count (T[b]?.getD 0):=by
  intro a b d ha e;have h1:=nN (T:=T.take b) (t:=a) (by rw[List.length_take];omega);have h2:(T.take b)[a]?.getD 0=T[a]?.getD 0:=by rw[List.getElem?_take,ad d]
  rw[h2,List.take_take,Nat.min_eq_left aO] at h1;rw[<-e];exact h1
 rcases Jd t u with q|q|q
 ·have:=c q ht e;omega
 ·exact q
 ·have:=c q f e.symm;omega
variable{x:Int}
theorem DS{E:List Int}{y:Int}(c:x∈E)(d:y∈E)(h:E.idxOf x=E.idxOf y):x=y:=by
 have a:=BN (qm.2 c);have b:=BN (qm.2 d);rw[<-a,<-b];congr 1
section
variable{P T:List Int}{gk lk par bud:Nat}{A:AR}
variable{v:Nat}
theorem dV.one(h:dV P T gk lk par bud A)(hv:v<(tE P).length):
 Aq ((jt P T gk lk par bud A).L v) (dX P T gk lk par bud A v) (fK ((jt P T gk lk par bud A).L v) (dX P T gk lk par bud A v))/\FJ ((jt P T gk lk par bud A).L v) (lg ((jt P T gk lk par bud A).L v)) (fK ((jt P T gk lk par bud A).L v) (dX P T gk lk par bud A v))/\(dX P T gk lk par bud A v).taken+((jt P T gk lk par bud A).L v).size+1<=(dX P T gk lk par bud A v).ws.length:=by
 have a:=h.Ui v (xk hv);obtain⟨⟨g, -⟩,b, -⟩:=h.step hv a;exact⟨g,Db (h.SU v _) rfl (FL b) a.az a.fit,b⟩
theorem dV.nx(h:dV P T gk lk par bud A)(hv:v<(tE P).length):
 (dX P T gk lk par bud A (v+1)).taken=(jt P T gk lk par bud A).cn v/\(jt P T gk lk par bud A).cn v=((jt P T gk lk par bud A).L v).b+((jt P T gk lk par bud A).L v).size/\((jt P T gk lk par bud A).L v).b=(dX P T gk lk par bud A v).taken+1/\
 (∀i:Int,(dX P T gk lk par bud A (v+1)).get i=(fK ((jt P T gk lk par bud A).L v) (dX P T gk lk par bud A v)).get i)/\(dX P T gk lk par bud A v).ops<=(dX P T gk lk par bud A (v+1)).ops/\(fK ((jt P T gk lk par bud A).L v) (dX P T gk lk par bud A v)).ops=(dX P T gk lk par bud A (v+1)).ops:=by
 obtain⟨g,_,a⟩:=h.one hv;have gt:=g.taken;have gl:=g.len;have go:=g.ops;refine⟨rfl,by show(fK ((jt P T gk lk par bud A).L v) (dX P T gk lk par bud A v)).taken+1=_;rw[gt];show _=(dX P T gk lk par bud A v).taken+1+_;omega,rfl,λi=>yh (m:=1) g.az aO i,go.1,rfl⟩
theorem dV.keeps(h:dV P T gk lk par bud A)(u:Nat):∀d,u+d<=(tE P).length->(dX P T gk lk par bud A u).taken<=(dX P T gk lk par bud A (u+d)).taken/\(dX P T gk lk par bud A u).ops<=(dX P T gk lk par bud A (u+d)).ops/\∀i:Int,i<=(dX P T gk lk par bud A u).taken->(dX P T gk lk par bud A (u+d)).get i=(dX P T gk lk par bud A u).get i
 | 0,_=>⟨ba _,pK _,λ_ _=>rfl⟩
 |d+1,hd=>by
  obtain⟨a1,a2,a3⟩:=dV.keeps h u d aO;obtain⟨b1,a,e,b3,b,c⟩:=h.nx (v:=u+d) aO;obtain⟨g,_,f⟩:=h.one (v:=u+d) aO;have gt:=g.taken;refine⟨?_,by show _<=(dX P T gk lk par bud A (u+d+1)).ops;omega,λi hi=>?_⟩
  ·show _<=(dX P T gk lk par bud A (u+d+1)).taken;rw[b1,a,e];omega
  ·show(dX P T gk lk par bud A (u+d+1)).get i=_;rw[b3,g.T4 i aO,a3 i hi]
theorem dV.SY(h:dV P T gk lk par bud A){u:Nat}(a:u<=v)(hv:v<=(tE P).length):(dX P T gk lk par bud A u).taken<=(dX P T gk lk par bud A v).taken/\(dX P T gk lk par bud A u).ops<=(dX P T gk lk par bud A v).ops/\∀i:Int,i<=(dX P T gk lk par bud A u).taken->(dX P T gk lk par bud A v).get i=(dX P T gk lk par bud A u).get i:=by
 have:=h.keeps u (v - u) aO
 rwa [show u+(v - u)=v by omega] at this
theorem dV.UV(h:dV P T gk lk par bud A):qS (jt P T gk lk par bud A) (dX P T gk lk par bud A (tE P).length).taken:=by
 obtain⟨⟨gg,_⟩,_⟩:=h.S6;have hE:(jt P T gk lk par bud A).E=(tE P).length:=rfl;have hn:(jt P T gk lk par bud A).n=T.length:=rfl;have j:(jt P T gk lk par bud A).G.b=A.taken+1:=rfl;have d:=λv (hv:v<=(tE P).length)=>(h.SY (fA v) hv).1;have k:(dX P T gk lk par bud A 0).taken=A.taken+(jt P T gk lk par bud A).G.size:=gg.taken;have a:∀t,t<T.length->T[t]?.getD 0∈tE P:=λt ht=>kT h.ok (by rw[eB ht];exact lB ht);refine{SK:=h.SK,gn:=rfl,gm:=by have:=d _ (ba _);omega,SU:=λv hv=>h.SU v _,lay:=λv hv=>?_,apart:=λu v b hv=>?_,nd:=λt ht=>?_,inj:=λt u ht c f g=>?_,bud:=⟨Int.natCast_nonneg _,by have:=h.b;show((bud:Nat):Int)<=1000;omega⟩}
 ·obtain⟨b1,i,b3, -⟩:=h.nx hv;have k1:=d v (xk hv);have k2:=(h.SY (u:=v+1) (v:=(tE P).length) hv (ba _)).1;omega
 ·have b1:=(h.nx (v:=u) (Nat.lt_trans b hv)).1;have l1:=(h.nx (v:=v) hv).2.2.1;have k1:=(h.SY (u:=u+1) (v:=v) b (xk hv)).1;omega
 ·have hm:=a t ht;have hi:=qm.2 hm;refine⟨hi,?_⟩;show(T.take t).count (T[t]?.getD 0)<max 1 (T.count ((tE P)[(tE P).idxOf (T[t]?.getD 0)]?.getD 0));have e:(tE P)[(tE P).idxOf (T[t]?.getD 0)]?.getD 0=T[t]?.getD 0:=by
   rw[eB hi,BO,BN]
  rw[e];have:=nN (T:=T) (t:=t) ht;omega
 ·exact rq (T:=T) ht c (DS (a t ht) (a u c) f) g
theorem dV.start(h:dV P T gk lk par bud A):fu (jt P T gk lk par bud A) (o6 (jt P T gk lk par bud A) (dX P T gk lk par bud A)):=by
 have L:=h.UV;have gf:=Db h.SK rfl (dv (Nat.add_le_add_left (kS h.SK).2 _) (by have:=h.room;omega)) h.az h.fit;have gg:=h.S6.1.1;have c:=h.SY (fA (tE P).length) (ba _);have kk:=λv (hv:v<(tE P).length)=>h.SY (u:=v+1) (v:=(tE P).length) hv (ba _);have p:(jt P T gk lk par bud A).G.b=A.taken+1:=rfl;have m:=ki P;have q:(dX P T gk lk par bud A 0).taken=A.taken+(jt P T gk lk par bud A).G.size:=gg.taken;have a:=(h.Ui _ (ba _)).fit;have o:(dX P T gk lk par bud A (tE P).length).taken<=4096:=dv a.1 a.2.1;refine{fit:=a,L:=L,g:=?_,l:=λv hv=>?_,z:=λv j _ _ _=>um _ _,w:=.zero (λt ht=>⟨rfl,by unfold sU;rw[ad ht];exact um _ _⟩) λv hv=>⟨um _ _,?_⟩}
 ·exact(gf.frame h.SK (by have:=L.gm;have:=(kS h.SK).1;omega) (λi h1 h2=>c.2.2 i aO) c.2.1).1
 ·obtain⟨g,f,n⟩:=h.one hv;obtain⟨b1,d,e,b3,k,b⟩:=h.nx hv;have k1:=kk v hv;exact(f.frame (h.SU v _) (by have:=L.lay v hv;have:=L.sz hv;omega) (λi h1 h2=>by rw[<-b3];exact k1.2.2 i aO) (by rw[b];exact k1.2.1)).1
 ·obtain⟨g,f,n⟩:=h.one hv;obtain⟨b1,d,e,b3,k,b⟩:=h.nx hv;have gt:=g.taken;unfold lO;rw[ad (show v<(jt P T gk lk par bud A).E from hv)];show(dX P T gk lk par bud A (tE P).length).get _<=0;rw[(kk v hv).2.2 _ aO,b3,kH aO];exact pK _
end
section
variable{p:LP}{b:LB p}{w w':World}{wo tb lk:Nat}{s s':p.σ}{k:Nat}{J:Nat->p.σ->Prop}{W:p.σ->Nat}{spin:p.σ->Int->Prop}
theorem LP.TN(s:p.σ)(t:Nat):(p.st s t=0/\p.act s t=s)\/(p.st s t≠0/\p.st s t≠2/\p.act s t=p.RY s t 0)\/(p.st s t=2/\p.rd s t=true/\p.act s t=p.RY s t 4)\/(p.st s t=2/\p.rd s t=false/\p.act s t=p.RY s t 2):=by
 unfold LP.act;by_cases a:p.st s t=0
 ·rw[ad a];exact .inl ⟨a,rfl⟩
 ·rw[ac a];by_cases h2:p.st s t=2
  ·rw[ad h2];cases c:p.rd s t
   ·exact .inr (.inr (.inr ⟨h2,rfl,rfl⟩))
   ·exact .inr (.inr (.inl ⟨h2,rfl,rfl⟩))
  ·rw[ac h2];exact .inr (.inl ⟨a,h2,rfl⟩)
theorem L4(h:b.Ok)(L:p.Live J W spin)(hn:p.n<=6)(X:J k s)(hk:k<=50000)(ha:eP b w wo tb lk s):
 Calls prog 10 #[some wo,(1500:Int)] w λe w'=>e= .returned true/\(∃y s',y<=k+9000/\J y s'/\(∀i,dO p i->p.st s' i=0)/\eP b w' wo tb lk s')/\af b.Z w w':=by
 obtain⟨R,kR,q1,q2,q3,q4,q5,q6⟩:=L.calm hn X hk (W s) (ba _) (L.top _ _ X hn);have hR:R<1500:=by have:=L.top _ _ X hn;omega
 have F:∀r,r<=R->∃y,y<=k+r*6/\J y (p.rounds s r):=by
  intro r;induction r with
  |zero=>exactλ_=>⟨k,by omega,X⟩
  |succ r ih=>
   intro hr;obtain⟨y,a,c⟩:=ih aO;obtain⟨⟨k2,_,c2,c3⟩,_⟩:=L.Rt c p.n (ba _) aO;exact⟨k2,by omega,c3⟩
 have F:=aH F;have HB:=aH (ae q4 q5);have HE:=aH (show∃y s',y<=k+9000/\J y s'/\(∀i,dO p i->p.st s' i=0)/\s'=p.rounds s R from⟨kR,_,by omega,q3,q6,rfl⟩);have H:=aH ha;have Z:=aH hn;have HT:=aH (tV ha);clear q1 q2 q3 q4 q5 q6 X ha hn;go_enter func10,ntmps10;go_wp2_with fail;refine gF HT.o ?_;rintro w0 rfl;go_wp2_with fail;go_loopw[6] (λrv wr=>∃r:Nat,rv= .int .i64 r/\r<=R/\eP b wr wo tb lk (p.rounds s r)/\af b.Z w wr) (λrv _=>R - (intOf rv).toNat)
 case atStart=>exact⟨0,rfl,by omega,H.o,aF⟩
 case round=>
  obtain⟨r,rfl,hr,hW,V⟩:=hrel;have d0:decide ((r:Int)<1500)=true:=aT;have d0':decide (r<1500)=true:=aT;obtain⟨kr,hkr,I⟩:=F.o r hr;have hn6:=Z.o;have S:=aH I;have U:=aH hW;have Q:=aH V;have P:=aH (show(r<R->p.busy (p.rounds s r) p.n=true)/\(r=R->p.busy (p.rounds s r) p.n=false)/\(p.busy (p.rounds s r) p.n=false->p.Rt (p.rounds s r) p.n=p.rounds s r) from⟨HB.o.1 r,λe=>by rw[e];exact HB.o.2,λe=>((L.Rt I p.n (ba _) (by have:=Z.o;omega)).2.2.2 e).1⟩);have T:=aH (show p.rounds s (r+1)=p.Rt (p.rounds s r) p.n from rfl);have G:p.rounds s R=p.rounds s R:=rfl;clear I hW V G;obtain⟨n,N⟩:∃n,n=p.rounds s r:=⟨_,rfl⟩
  rw[<-N] at S U P T;have HSR:=aH N;clear N;go_wp2_with fail;go_loopw[8,7] (λtv bv wx=>∃t:Nat,tv= .int .i64 t/\bv= .bool (p.busy n t)/\t<=p.n/\eP b wx wo tb lk (p.Rt n t)/\af b.Z wr wx) (λtv _ _=>p.n - (intOf tv).toNat)
  case atStart=>exact⟨0,rfl,rfl,by omega,U.o,aF⟩
  case round=>
   obtain⟨t,rfl,rfl,ht,hW,V⟩:=hrel;have HW:=aH hW;have O:=aH V;clear hW V;by_cases D:t<p.n
   ·have e0:decide ((t:Int)<p.n)=true:=aT;have e0':decide (t<p.n)=true:=ef D;have hi:dO p (t:Int):=⟨by omega,by omega⟩
    have HI:=aH hi;obtain⟨⟨kt,_,hkt,Y⟩,_⟩:=L.Rt S.o t ht (by have:=Z.o;omega);have E:=aH (L.inv _ _ Y);have A:=aH (iJ h HW.o hi);have z:=aH (show p.busy n (t+1)=(p.busy n t|| !(p.st (p.Rt n t) t==0)) from rfl);have m:=aH (show p.Rt n (t+1)=p.act (p.Rt n t) t from rfl);have hac:=p.TN (p.Rt n t) t;clear hi Y hkt;generalize p.Rt n t=st at*;generalize p.st st t=x at*;generalize p.rd st t=rd at*;rcases hac with⟨rfl,a2⟩|⟨a0,a1,a2⟩|⟨rfl,rfl,a2⟩|⟨rfl,rfl,a2⟩
    ·have HA:=aH a2;clear a2;go_wp2_with fail;refine gF A.o ?_;rintro w1 f;have d:=aH f;clear f;go_wp2_with fail;go_roundw
     case rel=>exact⟨t+1,by go_num,by rw[z.o];simp,by omega,by rw[m.o,HA.o];exact HW.o.same h d.o,O.o.trans (d.o.mono aS)⟩
     case measure=>simp[intOf];omega
    ·have HA:=aH a2;have z0:(x==0)=false:=by simpa using a0
     have z2:(x==2)=false:=by simpa using a1
     clear a2 a0 a1;go_wp2_with fail;refine gF A.o ?_;rintro w1 f;have d:=aH f;clear f;go_wp2_with fail;refine gF (u5 h E.o ((HW.o.same h d.o).same h (aF.alloc _)) t 0) ?_;rintro w2 ⟨l,g⟩;have q:=aH l;have o:=aH ((d.o.mono (S':=b.Z) aS).trans ((((af.refl [] w1).alloc _).mono (S':=b.Z) aS).trans g));clear l g;unfold rr jg;go_wp2_with fail;go_roundw
     case rel=>exact⟨t+1,by go_num,by rw[z.o,z0];simp,by omega,by rw[m.o,HA.o];exact q.o,O.o.trans o.o⟩
     case measure=>simp[intOf];omega
    ·have HA:=aH a2;clear a2;go_wp2_with fail;refine gF A.o ?_;rintro w1 f;have d:=aH f;clear f;go_wp2_with fail;refine gF (u5 h E.o ((HW.o.same h d.o).same h (aF.alloc _)) t 4) ?_;rintro w2 ⟨l,g⟩;have q:=aH l;have o:=aH ((d.o.mono (S':=b.Z) aS).trans ((((af.refl [] w1).alloc _).mono (S':=b.Z) aS).trans g));clear l g;unfold rr jg;go_wp2_with fail;go_roundw
     case rel=>exact⟨t+1,by go_num,by rw[z.o];simp,by omega,by rw[m.o,HA.o];exact q.o,O.o.trans o.o⟩
     case measure=>simp[intOf];omega
    ·have HA:=aH a2;clear a2;go_wp2_with fail;refine gF A.o ?_;rintro w1 f;have d:=aH f;clear f;go_wp2_with fail;refine gF (u5 h E.o ((HW.o.same h d.o).same h (aF.alloc _)) t 2) ?_;rintro w2 ⟨l,g⟩;have q:=aH l;have o:=aH ((d.o.mono (S':=b.Z) aS).trans ((((af.refl [] w1).alloc _).mono (S':=b.Z) aS).trans g));clear l g;unfold rr jg;go_wp2_with fail;go_roundw
     case rel=>exact⟨t+1,by go_num,by rw[z.o];simp,by omega,by rw[m.o,HA.o];exact q.o,O.o.trans o.o⟩
     case measure=>simp[intOf];omega
   ·obtain rfl:t=p.n:=by omega
    have e0:decide ((p.n:Int)<p.n)=false:=aB;have e0':decide (p.n<p.n)=false:=dh D;have v:=P.o;cases u:p.busy n p.n with
    |false=>
     have M:r=R:=by
      by_cases c:r<R
      ·rw[v.1 c] at u;cases u
      ·omega
     have m:=aH (v.2.2 u);have G:=aH M;clear v M D ht;go_wp2;go_ret;obtain⟨y,s',e1,e2,e3,e4⟩:=HE.o;refine⟨rfl,⟨y,s',e1,e2,e3,?_⟩,Q.o.trans O.o⟩;have:=HW.o;rw[m.o,HSR.o,G.o] at this;rw[e4];exact this
    |true=>
     have M:r<R:=by
      by_cases c:r=R
      ·rw[v.2.1 c] at u;cases u
      ·omega
     clear v D ht;go_wp2_with fail;go_roundw
     case rel=>exact⟨r+1,by go_num,by omega,by rw[T.o];exact HW.o,Q.o.trans O.o⟩
     case measure=>simp[intOf];omega
end
structure lm(p:LP) where
 T:TypeId
 q:Value
 Z:List Nat
 ab:Nat
 wb:Nat
 At:World->p.σ->Prop
 Sa:FuncId
 Sp:Value
 RB:FuncId
 RM:Value
 RR:FuncId
 R6:Value
 RO:FuncId
 R5:Value
 RL:FuncId
 R0:Value
section
variable{p:LP}
structure lm.Ok(b:lm p):Prop where
 Ry:p.n<=32
 sh:p.shares=false
 Sw:∀F w,(method (F+3) b.T b.q "Ask").run prog w= .ok (b.Sa,b.Sp) w
 RW:∀F w,(method (F+3) b.T b.q "Leave").run prog w= .ok (b.RB,b.RM) w
 RK:∀F w,(method (F+3) b.T b.q "Step").run prog w= .ok (b.RR,b.R6) w
 R7:∀F w,(method (F+3) b.T b.q "Spot").run prog w= .ok (b.RO,b.R5) w
 SC:∀args w,(callFunc b.Sa args).run prog w= .ok (.enter b.Sa args) w
 R2:∀args w,(callFunc b.RB args).run prog w= .ok (.enter b.RB args) w
 Se:∀args w,(callFunc b.RR args).run prog w= .ok (.enter b.RR args) w
 R9:∀args w,(callFunc b.RO args).run prog w= .ok (.enter b.RO args) w
 St:∀w k s i,p.I k s->b.At w s->dO p i->Calls prog b.Sa #[b.Sp,.int .i64 i] w λe w'=>e= .returned (.bool (p.Sr s i false))/\b.At w' (p.R3 s i false)/\af b.Z w w'
 RV:∀w k s i,p.I k s->b.At w s->dO p i->Calls prog b.RB #[b.RM,.int .i64 i] w λe w'=>e= .returned (.bool (p.RZ s i))/\b.At w' (p.Rz s i)/\af b.Z w w'
 Sc:∀w k s i,p.I k s->b.At w s->dO p i->Calls prog b.RR #[b.R6,.int .i64 i] w λe w'=>e= .returned (.bool (p.RD s i))/\b.At w' (p.Ru s i)/\af b.Z w w'
 R8:∀w s i,b.At w s->dO p i->Calls prog b.RO #[b.R5,.int .i64 i] w λe w'=>e= .returned (gG p s i)/\af [] w w'
 ar:∀w s,b.At w s->ax w b.ab b.wb (p.ar s)
 free:∀w s,b.At w s->fF w b.Z
 stay:∀w w' s S,b.At w s->af S w w'->fF w S->(∀z∈S,z∉b.Z)->b.At w' s
 ext:∀w s s',p.eqv s s'->b.At w s->b.At w s':=by intro w s s' e h;cases e;exact h
variable{b:lm p}{w w':World}{s:p.σ}{i:Int}{k:Nat}
theorem lm.Ok.same(h:b.Ok)(ha:b.At w s)(a:af [] w w'):b.At w' s:=h.stay _ _ _ _ ha a (fF.nil _) aS
theorem Ew{T:TypeId}{v rv:Value}{nf:FuncId}{q j l m:Int}(hm:∀w,(method 437 T v "Spot").run prog w= .ok (nf,rv) w)(o:∀args w,(callFunc nf args).run prog w= .ok (.enter nf args) w)(g:Calls prog nf #[rv,i] w λe w'=>e= .returned (.agg #[q,j,l,m])/\af [] w w'):Calls prog 282 #[.iface T v,i] w λe w'=>e= .returned (.int .i64 (if q=10 then 1 else 0))/\af [] w w':=by
 have n:=dF;have f:=aH g;clear g;have h:(q=10)\/(q≠10/\(q==10)=false):=by
  by_cases d:q=10
  ·exact .inl d
  ·exact .inr ⟨d,by simpa using d⟩
 rcases h with rfl|⟨d0,d1⟩
 ·rw[ad rfl];go_enter func282,ntmps282;go_wp2_with fail;refine gF f.o ?_;rintro w1 a;have c:=aH a;clear a;go_wp2;go_ret;exact⟨rfl,c.o⟩
 ·rw[ac d0];clear d0;go_enter func282,ntmps282;go_wp2_with fail;refine gF f.o ?_;rintro w1 a;have c:=aH a;clear a;go_wp2;go_ret;exact⟨rfl,c.o⟩
theorem Iv(h:b.Ok)(ha:b.At w s)(hi:dO p i):Calls prog 282 #[.iface b.T b.q,i] w λe w'=>e= .returned (.int .i64 (if p.sp s i 0=10 then 1 else 0))/\af [] w w':=
 Ew (h.R7 434) h.R9 (h.R8 _ _ _ ha hi)
theorem xL(h:b.Ok)(ha:b.At w s)(hi:dO p i):Calls prog 281 #[.agg #[.iface b.T b.q],i] w λe w'=>e= .returned (.int .i64 (if p.sp s i 0=10 then 1 else 0))/\af [] w w':=by
 have a:af [] w (w.alloc (.cells #[.iface b.T b.q] 179)):=aF.alloc _;have f:=aH (Iv h (h.same ha a) hi);have c:=aH a;generalize(if p.sp s i 0=10 then(1:Int) else 0)=x at*;clear h ha hi a;go_enter func281,ntmps281;go_wp2_with fail;refine gF f.o ?_;rintro w1 d;have g:=aH (c.o.trans d);clear d;go_wp2;go_ret;exact⟨rfl,g.o⟩
theorem Cp(h:b.Ok)(g:p.I k s)(ha:b.At w s)(hi:dO p i):Calls prog 280 #[.agg #[.iface b.T b.q],i,false] w λe w'=>e= .returned (.bool (p.Sr s i false))/\b.At w' (p.R3 s i false)/\af b.Z w w':=by
 have a:af [] w (w.alloc (.cells #[.iface b.T b.q] 179)):=aF.alloc _;have m:=aH (h.St _ _ _ _ g (h.same ha a) hi);have hm:∀w,(method 437 b.T b.q "Ask").run prog w= .ok (b.Sa,b.Sp) w:=h.Sw 434;have o:=h.SC;have c:=aH (a.mono (S':=b.Z) aS);have j:= @aX prog;clear h ha hi a g;go_enter func280,ntmps280;go_wp2_with fail;refine gF m.o ?_;rintro w1 ⟨d,f⟩;have l:=aH d;have n:=aH (c.o.trans f);clear d f;go_wp2;go_ret;exact⟨rfl,l.o,n.o⟩
def lm.alone(b:lm p)(kind:Int):LB p where
 T:=179
 v:=.agg #[.iface b.T b.q]
 Z:=b.Z
 ab:=b.ab
 wb:=b.wb
 kind:=kind
 At:=b.At
 Sa:=280
 Sp:=.agg #[.iface b.T b.q]
 RB:=b.RB
 RM:=b.RM
 RR:=b.RR
 R6:=b.R6
 RO:=b.RO
 R5:=b.R5
 RL:=281
 R0:=.agg #[.iface b.T b.q]
theorem lI(F:Nat)(T:TypeId)(q:Value)(w:World):(method (F+4) 179 (.agg #[.iface T q]) "Leave").run prog w=(method (F+3) T q "Leave").run prog w/\(method (F+4) 179 (.agg #[.iface T q]) "Step").run prog w=(method (F+3) T q "Step").run prog w/\(method (F+4) 179 (.agg #[.iface T q]) "Spot").run prog w=(method (F+3) T q "Spot").run prog w:=⟨by kernel_rfl,by kernel_rfl,by kernel_rfl⟩
theorem lm.Ok.SR(h:b.Ok)(kind:Int)(e:kind<11)(a:∀s i,p.Ta s i=if p.sp s i 0=10 then 1 else 0):(b.alone kind).Ok where
 Ry:=h.Ry
 Sw:=λF w=>by kernel_rfl
 RW:=λF w=>(lI F b.T b.q w).1.trans (h.RW F w)
 RK:=λF w=>(lI F b.T b.q w).2.1.trans (h.RK F w)
 R7:=λF w=>(lI F b.T b.q w).2.2.trans (h.R7 F w)
 SL:=λF w=>by kernel_rfl
 SC:=λargs w=>by kernel_rfl
 R2:=h.R2
 Se:=h.Se
 R9:=h.R9
 SH:=λargs w=>by kernel_rfl
 St:=λw k s i r c ha hi d=>by
  cases r with
  |false=>exact Cp h c ha hi
  |true=>have:=d rfl;rw[h.sh] at this;simp at this
 RV:=h.RV
 Sc:=h.Sc
 R8:=h.R8
 SG:=λw s i ha hi=>by rw[a];exact xL h ha hi
 shares:=λw=>by
  have:=kg kind w;rw[dh (show¬11<=kind by omega),lC] at this;rw[h.sh];exact this
 ar:=h.ar
 free:=h.free
 stay:=h.stay
 ext:=h.ext
end
section
variable{p:LP}{b:lm p}{w w':World}{s:p.σ}{i:Int}{k:Nat}
structure lm.UQ(b:lm p):Prop where
 SL:∀F w,(method (F+3) b.T b.q "Count").run prog w= .ok (b.RL,b.R0) w
 SH:∀args w,(callFunc b.RL args).run prog w= .ok (.enter b.RL args) w
 SG:∀w s i,b.At w s->dO p i->Calls prog b.RL #[b.R0,.int .i64 i] w λe w'=>e= .returned (p.Ta s i:Int)/\af [] w w'
theorem xY(h:b.Ok)(g:p.I k s)(ha:b.At w s)(hi:dO p i):Calls prog 232 #[.agg #[.iface b.T b.q],i,false] w λe w'=>e= .returned (.bool (p.Sr s i false))/\b.At w' (p.R3 s i false)/\af b.Z w w':=by
 have a:af [] w (w.alloc (.cells #[.iface b.T b.q] 171)):=aF.alloc _;have m:=aH (h.St _ _ _ _ g (h.same ha a) hi);have hm:∀w,(method 437 b.T b.q "Ask").run prog w= .ok (b.Sa,b.Sp) w:=h.Sw 434;have o:=h.SC;have c:=aH (a.mono (S':=b.Z) aS);have j:= @aX prog;clear h ha hi a g;go_enter func232,ntmps232;go_wp2_with fail;refine gF m.o ?_;rintro w1 ⟨d,f⟩;have l:=aH d;have n:=aH (c.o.trans f);clear d f;go_wp2;go_ret;exact⟨rfl,l.o,n.o⟩
def lm.Tl(b:lm p)(kind:Int):LB p where
 T:=171
 v:=.agg #[.iface b.T b.q]
 Z:=b.Z
 ab:=b.ab
 wb:=b.wb
 kind:=kind
 At:=b.At
 Sa:=232
 Sp:=.agg #[.iface b.T b.q]
 RB:=b.RB
 RM:=b.RM
 RR:=b.RR
 R6:=b.R6
 RO:=b.RO
 R5:=b.R5
 RL:=b.RL
 R0:=b.R0
theorem gV(F:Nat)(T:TypeId)(q:Value)(w:World):(method (F+4) 171 (.agg #[.iface T q]) "Leave").run prog w=(method (F+3) T q "Leave").run prog w/\(method (F+4) 171 (.agg #[.iface T q]) "Step").run prog w=(method (F+3) T q "Step").run prog w/\(method (F+4) 171 (.agg #[.iface T q]) "Spot").run prog w=(method (F+3) T q "Spot").run prog w/\(method (F+4) 171 (.agg #[.iface T q]) "Count").run prog w=(method (F+3) T q "Count").run prog w:=⟨by kernel_rfl,by kernel_rfl,by kernel_rfl,by kernel_rfl⟩
theorem lm.Ok.S5(h:b.Ok)(a:b.UQ)(kind:Int)(e:kind<11):(b.Tl kind).Ok where
 Ry:=h.Ry
 Sw:=λF w=>by kernel_rfl
 RW:=λF w=>(gV F b.T b.q w).1.trans (h.RW F w)
 RK:=λF w=>(gV F b.T b.q w).2.1.trans (h.RK F w)
 R7:=λF w=>(gV F b.T b.q w).2.2.1.trans (h.R7 F w)
 SL:=λF w=>(gV F b.T b.q w).2.2.2.trans (a.SL F w)
 SC:=λargs w=>by kernel_rfl
 R2:=h.R2
 Se:=h.Se
 R9:=h.R9
 SH:=a.SH
 St:=λw k s i r c ha hi d=>by
  cases r with
  |false=>exact xY h c ha hi
  |true=>have:=d rfl;rw[h.sh] at this;simp at this
 RV:=h.RV
 Sc:=h.Sc
 R8:=h.R8
 SG:=a.SG
 shares:=λw=>by
  have:=kg kind w;rw[dh (show¬11<=kind by omega),lC] at this;rw[h.sh];exact this
 ar:=h.ar
 free:=h.free
 stay:=h.stay
 ext:=h.ext
end
section
variable{p:LP}
structure lm.TF(b:lm p):Prop where
 Ry:p.n<=32
 sh:p.shares=true
 Ta:∀s i,p.Ta s i=if p.sp s i 0=10 then 1 else 0
 Sw:∀F w,(method (F+3) b.T b.q "Ask").run prog w= .ok (b.Sa,b.Sp) w
 RW:∀F w,(method (F+3) b.T b.q "Leave").run prog w= .ok (b.RB,b.RM) w
 RK:∀F w,(method (F+3) b.T b.q "Step").run prog w= .ok (b.RR,b.R6) w
 R7:∀F w,(method (F+3) b.T b.q "Spot").run prog w= .ok (b.RO,b.R5) w
 SC:∀args w,(callFunc b.Sa args).run prog w= .ok (.enter b.Sa args) w
 R2:∀args w,(callFunc b.RB args).run prog w= .ok (.enter b.RB args) w
 Se:∀args w,(callFunc b.RR args).run prog w= .ok (.enter b.RR args) w
 R9:∀args w,(callFunc b.RO args).run prog w= .ok (.enter b.RO args) w
 St:∀w k s i r,p.I k s->b.At w s->dO p i->Calls prog b.Sa #[b.Sp,.int .i64 i,.bool r] w λe w'=>e= .returned (.bool (p.Sr s i r))/\b.At w' (p.R3 s i r)/\af b.Z w w'
 RV:∀w k s i,p.I k s->b.At w s->dO p i->Calls prog b.RB #[b.RM,.int .i64 i] w λe w'=>e= .returned (.bool (p.RZ s i))/\b.At w' (p.Rz s i)/\af b.Z w w'
 Sc:∀w k s i,p.I k s->b.At w s->dO p i->Calls prog b.RR #[b.R6,.int .i64 i] w λe w'=>e= .returned (.bool (p.RD s i))/\b.At w' (p.Ru s i)/\af b.Z w w'
 R8:∀w s i,b.At w s->dO p i->Calls prog b.RO #[b.R5,.int .i64 i] w λe w'=>e= .returned (gG p s i)/\af [] w w'
 ar:∀w s,b.At w s->ax w b.ab b.wb (p.ar s)
 free:∀w s,b.At w s->fF w b.Z
 stay:∀w w' s S,b.At w s->af S w w'->fF w S->(∀z∈S,z∉b.Z)->b.At w' s
 ext:∀w s s',p.eqv s s'->b.At w s->b.At w s':=by intro w s s' e h;cases e;exact h
structure lx(b:lm p)(md:Int)(rb:Nat)(w:World)(s:p.σ):Prop where
 box:aq w rb [md,.iface b.T b.q] 233
 at_:b.At w s
variable{b:lm p}{w w':World}{s s':p.σ}{i md:Int}{k rb:Nat}
theorem lm.TF.same(h:b.TF)(ha:b.At w s)(a:af [] w w'):b.At w' s:=h.stay _ _ _ _ ha a (fF.nil _) aS
theorem lx.next(h:b.TF)(ha:lx b md rb w s)(c:af b.Z w w')(a:b.At w' s'):lx b md rb w' s':=⟨ha.box.Rr c ((h.free _ _ ha.at_).not ha.box),a⟩
theorem lx.same(h:b.TF)(ha:lx b md rb w s)(a:af [] w w'):lx b md rb w' s:=⟨ha.box.Rr a aS,h.same ha.at_ a⟩
theorem ES(c:aq w rb [md,.iface b.T b.q] 233)(a:md≠0):Calls prog 331 #[some rb] w λe w'=>e= .returned true/\w=w':=by
 have c0:=c.cell (i:=0) rfl;have d:(md !=0)=true:=by simpa using a
 clear c a;go_enter func331,ntmps331;go_wp2;go_ret;exact⟨rfl,rfl⟩
theorem uo:(∀{p:LP}{b:lm p}{w:World}{s:p.σ}{i md:Int}{k rb:Nat}(h:b.TF)(ha:lx b md rb w s)(c:md≠0)(a:p.I k s)(hi:dO p i)(r:Bool),Calls prog 326 #[some rb,i,r] w λe w'=>e= .returned (.bool (p.Sr s i r))/\lx b md rb w' (p.R3 s i r)/\af b.Z w w')/\(∀{p:LP}{b:lm p}{w:World}{s:p.σ}{i md:Int}{k rb:Nat}(h:b.TF)(ha:lx b md rb w s)(c:md≠0)(a:p.I k s)(hi:dO p i),Calls prog 327 #[some rb,i] w λe w'=>e= .returned (.bool (p.RZ s i))/\lx b md rb w' (p.Rz s i)/\af b.Z w w')/\(∀{p:LP}{b:lm p}{w:World}{s:p.σ}{i md:Int}{k rb:Nat}(h:b.TF)(ha:lx b md rb w s)(c:md≠0)(a:p.I k s)(hi:dO p i),Calls prog 330 #[some rb,i] w λe w'=>e= .returned (.bool (p.RD s i))/\lx b md rb w' (p.Ru s i)/\af b.Z w w'):=by
 refine⟨?_,?_,?_⟩;intro p b w s i md k rb h ha c a hi r;rotate_left;iterate 2
  intro p b w s i md k rb h ha c a hi;rotate_left
 all_goals
  have n:=aH (ES ha.box c)
 have d:=aH (h.St _ _ _ _ r a ha.at_ hi);have hm:∀w,(method 437 b.T b.q "Ask").run prog w= .ok (b.Sa,b.Sp) w:=h.Sw 434;have j:=h.SC;rotate_left;have d:=aH (h.RV _ _ _ _ a ha.at_ hi);have hm:∀w,(method 437 b.T b.q "Leave").run prog w= .ok (b.RB,b.RM) w:=h.RW 434;have j:=h.R2;rotate_left;have d:=aH (h.Sc _ _ _ _ a ha.at_ hi);have hm:∀w,(method 437 b.T b.q "Step").run prog w= .ok (b.RR,b.R6) w:=h.RK 434;have j:=h.Se;rotate_left;all_goals
  have c1:=ha.box.cell (i:=1) rfl;have l:= @aX prog;have o:=aH (λ(w':World) (s':p.σ) (t:af b.Z w w') (q:b.At w' s')=>ha.next h t q);clear h ha hi c a
 focus
  go_enter func326,ntmps326
 rotate_left
 focus
  go_enter func327,ntmps327
 rotate_left
 focus
  go_enter func330,ntmps330
 rotate_left;all_goals
  go_wp2_with fail;refine gF n.o ?_;rintro u rfl;go_wp2_with fail;refine gF d.o ?_;rintro w1 ⟨g,f⟩;have m:=aH (ae (o.o _ _ f g) f);clear g f;go_wp2;go_ret;exact⟨rfl,m.o⟩
def OI:= @uo.1
def IE:= @uo.2.1
def LM:= @uo.2.2
theorem ET(h:b.TF)(ha:lx b md rb w s)(r:md≠0)(hi:dO p i):Calls prog 329 #[some rb,i] w λe w'=>e= .returned (gG p s i)/\af [] w w':=by
 have f:af [] w (w.alloc (.cells #[(0:Int),(0:Int),(0:Int),(0:Int)] 138)):=aF.alloc _;have c:=ha.same h f;have x:=aH (aq.new w #[(0:Int),(0:Int),(0:Int),(0:Int)] 138);have z:=aH (ES c.box r);have o:=h.R8 _ _ _ c.at_ hi;have n:=aH f;unfold gG at o⊢;have y:=aH o;have hm:∀w,(method 437 b.T b.q "Spot").run prog w= .ok (b.RO,b.R5) w:=h.R7 434;have C:=h.R9;have c1:=c.box.cell (i:=1) rfl;have t:= @aX prog;generalize p.sp s i 0=g at*;generalize p.sp s i 1=j at*;generalize p.sp s i 2=l at*;generalize p.sp s i 3=m at*;clear h ha hi r c f o;go_enter func329,ntmps329;go_wp2_with fail;refine gF z.o ?_;rintro D rfl;go_wp2_with fail;refine gF y.o ?_;rintro w1 q;have d:=x.o.Rr q aS;have b0:=d.cell (i:=0) rfl;have b1:=d.cell (i:=1) rfl;have B:=d.cell (i:=2) rfl;have b3:=d.cell (i:=3) rfl;have bz:=d.frozen;have a:=aH (show aq ((((w1.setCell (w.heap.size,0) (.int .i64 g)).setCell (w.heap.size,1) (.int .i64 j)).setCell (w.heap.size,2) (.int .i64 l)).setCell (w.heap.size,3) (.int .i64 m)) w.heap.size [g,j,l,m] 138 from(((d.set 0 (.int .i64 g)).set 1 (.int .i64 j)).set 2 (.int .i64 l)).set 3 (.int .i64 m));clear d;have u:=aH (n.o.trans q);clear q;go_wp2_with fail;have A:=a.o.cell (i:=0) rfl;have k1:=a.o.cell (i:=1) rfl;have k2:=a.o.cell (i:=2) rfl;have k3:=a.o.cell (i:=3) rfl;exact eO (v:=.agg #[g,j,l,m]) (by simp[results,results329,go_sem,A,k1,k2,k3]) rfl ⟨rfl,(((u.o.set _ _ (.inr (ba _))).set _ _ (.inr (ba _))).set _ _ (.inr (ba _))).set _ _ (.inr (ba _))⟩
theorem Cv(h:b.TF)(ha:lx b md rb w s)(d:md≠0)(hi:dO p i):Calls prog 332 #[.agg #[some rb],i] w λe w'=>e= .returned (.int .i64 (if p.sp s i 0=10 then 1 else 0))/\af [] w w':=by
 have a:af [] w (w.alloc (.cells #[some rb] 190)):=aF.alloc _;have g:=aH (Ew (w:=w.alloc (.cells #[some rb] 190)) (T:=186) (v:=.pointer (some ⟨rb,0,none⟩)) (nf:=329) (rv:=.pointer (some ⟨rb,0,none⟩)) (λw=>by kernel_rfl) (λargs w=>by kernel_rfl) (ET h (ha.same h a) d hi));have c:=aH a;generalize(if p.sp s i 0=10 then(1:Int) else 0)=x at*;clear h ha hi a d;go_enter func332,ntmps332;go_wp2_with fail;refine gF g.o ?_;rintro w1 f;have j:=aH (c.o.trans f);clear f;go_wp2;go_ret;exact⟨rfl,j.o⟩
def lm.both(b:lm p)(md:Int)(rb:Nat)(kind:Int):LB p where
 T:=190
 v:=.agg #[some rb]
 Z:=b.Z
 ab:=b.ab
 wb:=b.wb
 kind:=kind
 At:=λw s=>lx b md rb w s
 Sa:=326
 Sp:=.pointer (some ⟨rb,0,none⟩)
 RB:=327
 RM:=.pointer (some ⟨rb,0,none⟩)
 RR:=330
 R6:=.pointer (some ⟨rb,0,none⟩)
 RO:=329
 R5:=.pointer (some ⟨rb,0,none⟩)
 RL:=332
 R0:=.agg #[some rb]
theorem lm.TF.Tk(h:b.TF)(a:md≠0)(kind:Int)(f:11<=kind/\kind<=13):(b.both md rb kind).Ok where
 Ry:=h.Ry
 Sw:=λF w=>by kernel_rfl
 RW:=λF w=>by kernel_rfl
 RK:=λF w=>by kernel_rfl
 R7:=λF w=>by kernel_rfl
 SL:=λF w=>by kernel_rfl
 SC:=λargs w=>by kernel_rfl
 R2:=λargs w=>by kernel_rfl
 Se:=λargs w=>by kernel_rfl
 R9:=λargs w=>by kernel_rfl
 SH:=λargs w=>by kernel_rfl
 St:=λw k s i r c ha hi _=>OI h ha a c hi r
 RV:=λw k s i c ha hi=>IE h ha a c hi
 Sc:=λw k s i c ha hi=>LM h ha a c hi
 R8:=λw s i ha hi=>ET h ha a hi
 SG:=λw s i ha hi=>by rw[h.Ta];exact Cv h ha a hi
 shares:=λw=>by
  have:=kg kind w;rw[ef (show 11<=kind from f.1),ef (show kind<=13 from f.2),gS] at this;rw[h.sh];exact this
 ar:=λw s ha=>h.ar _ _ ha.at_
 free:=λw s ha=>h.free _ _ ha.at_
 stay:=λw w' s S ha d hs g=>⟨ha.box.Rr d (hs.not ha.box),h.stay _ _ _ _ ha.at_ d hs g⟩
 ext:=λw s s' e ha=>⟨ha.box,h.ext _ _ _ e ha.at_⟩
end
def xG(n:Nat)(w:World)(v:Value)(l:List Int):Prop:=
 ∃a cap,v= .slice a l.length cap/\l.length<=maxLen/\(0<l.length->∃b off,a=some ⟨b,off,none⟩/\b<n/\∀i x,l[i]? =some x->w.cell? ⟨b,off+i,none⟩=some (.int .u8 x)/\0<=x/\x<256)
theorem xG.T4{l:List Int}(h:xG n w v l)(j:af S w w')(hs:∀z∈S,n<=z):xG n w' v l:=by
 obtain⟨a,cap,h1,h2,h3⟩:=h;refine⟨a,cap,h1,h2,λf=>?_⟩;obtain⟨b,off,e,g,c⟩:=h3 f;exact⟨b,off,e,g,λi x d=>⟨j.cell (c i x d).1 (λhm=>by have:=hs b hm;omega),(c i x d).2⟩⟩
theorem Bt(a b c d e:Int)(W:World):(Instr.field 44 (.agg #[a,b,c,d,e]) 0).run prog W= .ok (.int .i64 a) W:=by kernel_rfl
theorem GO(a b:Int)(c:Bool)(d:Int)(W:World):(Instr.field 35 (.agg #[a,b,c,d]) 0).run prog W= .ok (.int .i64 a) W:=by kernel_rfl
section
variable{w:World}{a b l t2:Value}{P T us:List Int}{x0 x1 x2 x3:Int}{Rt:List (Int×Int)}{p:LP}{s0:p.σ}{J:Nat->p.σ->Prop}{W:p.σ->Nat}{spin:p.σ->Int->Prop}
theorem ye(hN:jO P T (pX x0 x1 x2 x3) p s0)(D:p.Live J W spin)(hJ:J 0 s0)(hpn:p.n=T.length)(M:∀W,Calls prog 11 #[(1+x3%13:Int)] W λe w'=>e= .returned p.shares/\W=w')
 (hx:aZ w 0 a P)(hy:aZ w 0 b T)(h0:0<=x0/\x0<256)(h1:0<=x1/\x1<256)(h2:0<=x2/\x2<256)(h3:0<=x3/\x3<256)(hl:xJ w.heap.size w l Rt)(hal:Rt.length<=100)(hu:xG w.heap.size w t2 us)(hul:us.length<=20)(hs:je P T 6)(hT6:1<=T.length/\T.length<=6)
 (HAW:∀W,Calls prog 8 #[] W λe w'=>e= .returned true/\af [] W w'):
 Calls prog 3 #[.agg #[a,b],.agg #[.int .u8 x0,.int .u8 x1,.int .u8 x2,.int .u8 x3],.agg #[l,t2]] w λe w'=>e= .returned true/\Below w.heap.size w w':=by
 have HMD:=aH (λ(W:World) (hf:af [] w W)=>zM (m:=6) W (λ_=>hN) (hx.Rr hf aS) (hy.Rr hf aS) h0 h1 h2 h3);have HSM:=aH (λ(W:World) (hf:af [] w W)=>oI W (hx.Rr hf aS) (hy.Rr hf aS) 6);have HSP:=aH (λ(W:World)=>wS W x0 x1 x2 x3 h0 h1 h2 h3);have HSH:=aH M;have HS:=aH hs;have HNW:=aH hN;have R:=aH hpn;have HL:=aH hl;have HU:=aH hu;have HIJ:=aH (show∀j,j<=Rt.length->J j (p.Us s0 (Rt.take j)) fromλj=>by
  induction j with
  |zero=>exactλ_=>hJ
  |succ j ih=>
   intro hj;have hx:=ih aO;obtain⟨q,hq⟩:∃q,Rt[j]? =some q:=⟨_,eB aO⟩
   have htk:Rt.take (j+1)=Rt.take j++[q]:=by rw[FU,hq];rfl
   rw[htk,LP.Tu];exact D.Sm _ _ _ _ aO hx)
 obtain⟨la,lc,rfl, -, -, -, -⟩:=hl;obtain⟨ua,uc,rfl, -, -⟩:=hu;have d1:decide ((100:Int)<Rt.length)=false:=aB;have d2:decide (100<Rt.length)=false:=aB;have d3:decide ((20:Int)<us.length)=false:=aB;have d4:decide (20<us.length)=false:=aB;obtain⟨a1,E,rfl, -, -⟩:=hx;obtain⟨a2,F,rfl, -, -⟩:=hy;have HAWK:=aH HAW;clear HAW;have hnot:= @aX prog;have hB0:=((aq.new w #[.slice a1 P.length E,.slice a2 T.length F] 24).alloc (.cells #[.int .u8 x0,.int .u8 x1,.int .u8 x2,.int .u8 x3] 25)).alloc (.cells #[.slice la Rt.length lc,.slice ua us.length uc] 29);have L:=(aq.new (w.alloc (.cells #[.slice a1 P.length E,.slice a2 T.length F] 24)) #[.int .u8 x0,.int .u8 x1,.int .u8 x2,.int .u8 x3] 25).alloc (.cells #[.slice la Rt.length lc,.slice ua us.length uc] 29);have hB2:=aq.new ((w.alloc (.cells #[.slice a1 P.length E,.slice a2 T.length F] 24)).alloc (.cells #[.int .u8 x0,.int .u8 x1,.int .u8 x2,.int .u8 x3] 25)) #[.slice la Rt.length lc,.slice ua us.length uc] 29;rw[bP] at L;rw[bP,bP] at hB2;have A:=aH hB0;have G:=aH L;have n:=aH hB2;have HF0:=aH ((((af.refl [] w).alloc (.cells #[.slice a1 P.length E,.slice a2 T.length F] 24)).alloc (.cells #[.int .u8 x0,.int .u8 x1,.int .u8 x2,.int .u8 x3] 25)).alloc (.cells #[.slice la Rt.length lc,.slice ua us.length uc] 29));have c0:=hB0.cell (i:=0) rfl;have c1:=hB0.cell (i:=1) rfl;have k0:=L.cell (i:=0) rfl;have k1:=L.cell (i:=1) rfl;have k2:=L.cell (i:=2) rfl;have k3:=L.cell (i:=3) rfl;clear hpn hJ M h0 h1 h2 h3 hs hN hB0 L hB2;go_enter func3,ntmps3;go_wp2_with fail;generalize((w.alloc (.cells #[.slice a1 P.length E,.slice a2 T.length F] 24)).alloc (.cells #[.int .u8 x0,.int .u8 x1,.int .u8 x2,.int .u8 x3] 25)).alloc (.cells #[.slice la Rt.length lc,.slice ua us.length uc] 29)=W0 at*;refine(HMD.o _ HF0.o).mono ?_;rintro e w1 ⟨v,hm⟩;have HF1:=aH (HF0.o.trans v);rcases hm with⟨hm, -⟩|⟨-,bb,wo,tb,lk,hbb,rfl,hW1,hz1⟩
 ·exact am HS.o hm
 have HK:=aH hbb;have HW1:=aH hW1;have HZ:=aH (λz h=>dv HF0.o.size (hz1 z h));have hlt2:=n.o.lt;have I:=aH (show∀z∈bb.Z,z≠w.heap.size/\z≠w.heap.size+1/\z≠w.heap.size+2 fromλz h=>by have:=hz1 z h;omega);have A:=aH (A.o.Rr v aS);have G:=aH (G.o.Rr v aS);have n:=aH (n.o.Rr v aS);clear v hbb hW1 hz1 c0 c1 k0 k1 k2 k3 HF0 HMD hlt2;have c0:=A.o.cell (i:=0) rfl;have c1:=A.o.cell (i:=1) rfl;have q0:=n.o.cell (i:=0) rfl;have q1:=n.o.cell (i:=1) rfl;go_wp2_with fail;refine(HSM.o _ HF1.o).mono ?_;rintro e w2 ⟨r,rfl,hr,v⟩;obtain rfl:r=true:=hr.2 HS.o;have HF2:=aH (HF1.o.trans v);have HW2:=aH (HW1.o.same HK.o v);have A:=aH (A.o.Rr v aS);have G:=aH (G.o.Rr v aS);have n:=aH (n.o.Rr v aS);have HL:=aH (HL.o.T4 HF2.o aS);have HU:=aH (HU.o.T4 HF2.o aS);clear v hr c0 c1 q0 q1 HF1 HW1 HSM d1 d2 d3 d4;go_wp2_with fail;go_loopw[8] (λiv wr=>∃i:Nat,iv= .int .i64 i/\i<=Rt.length/\eP bb wr wo tb lk (p.Us s0 (Rt.take i))/\af bb.Z w2 wr) (λiv _=>Rt.length - (intOf iv).toNat)
 case atStart=>exact⟨0,rfl,by omega,HW2.o,aF⟩
 case round=>
  obtain⟨i,rfl,hi,hW,v⟩:=hrel;have HW:=aH hW;have HF:=aH v;have hb2:=n.o.Rr v (λh=>(I.o _ h).2.2 rfl);have q0:=hb2.cell (i:=0) rfl;have q1:=hb2.cell (i:=1) rfl;clear hW v;by_cases f:i<Rt.length
  ·have e0:decide ((i:Int)<Rt.length)=true:=aT;have e0':decide (i<Rt.length)=true:=ef f;have l1:(i:Int)<Rt.length:=by omega
   obtain⟨⟨x,y⟩,V⟩:∃q,Rt[i]? =some q:=⟨_,eB f⟩
   obtain⟨a',Z,hv', -, -, -,hc⟩:=HL.o.T4 HF.o HZ.o;obtain⟨bl,off,e2,hb,hcc⟩:=hc aO;obtain⟨rfl,rfl⟩:la=a'/\lc=Z:=by injection hv' with q1 q2 q3;exact⟨q1,q3⟩
   subst e2;obtain⟨p0,p1⟩:=hcc i _ V;simp only at p0 p1;have htk:Rt.take (i+1)=Rt.take i++[(x,y)]:=by rw[FU,V];rfl
   have HAF:=aH (show p.Us s0 (Rt.take (i+1))=p.RY (p.Us s0 (Rt.take i)) x y by rw[htk,LP.Tu]);have HIK:=aH (D.inv _ _ (HIJ.o i hi));clear hc hcc V htk hb hv' hb2;go_wp2_with fail;refine gF (u5 HK.o HIK.o HW.o x y) ?_;rintro w3 ⟨hW3,hF3⟩;have HW3:=aH hW3;have H:=aH (HF.o.trans hF3);clear hW3 hF3;unfold rr jg;go_wp2_with fail;go_roundw
   case rel=>exact⟨i+1,by go_num,by omega,by rw[HAF.o];exact HW3.o,H.o⟩
   case measure=>simp[intOf];omega
  ·obtain rfl:i=Rt.length:=by omega
   have e0:decide ((Rt.length:Int)<Rt.length)=false:=aB;have e0':decide (Rt.length<Rt.length)=false:=dh f;have HJ1:=aH (HIJ.o Rt.length (ba _));clear f hi hb2;go_wp2_with fail;refine gF (L4 HK.o D (by rw[R.o];exact hT6.2) HJ1.o aO HW.o) ?_;rintro w3 ⟨⟨k1,s1,hk1,hJ1,hr1,hW3⟩,hF3⟩;have HJ2:=aH hJ1;have HR2:=aH hr1;have HW3:=aH hW3;have H:=aH (HF.o.trans hF3);have A:=aH (A.o.Rr H.o (λh=>(I.o _ h).1 rfl));have G:=aH (G.o.Rr H.o (λh=>(I.o _ h).2.1 rfl));have n:=aH (n.o.Rr H.o (λh=>(I.o _ h).2.2 rfl));have HU:=aH (HU.o.T4 H.o HZ.o);clear hJ1 hr1 hW3 hF3 HW HF HW2 q0 q1 HL;go_wp2_with fail;go_loopw[9] (λiv wr=>∃(i k:Nat)(s:p.σ),iv= .int .i64 i/\i<=us.length/\k<=10000+i*500/\J k s/\(∀i,dO p i->p.st s i=0)/\eP bb wr wo tb lk s/\af bb.Z w3 wr) (λiv _=>us.length - (intOf iv).toNat)
   case atStart=>exact⟨0,k1,s1,rfl,by omega,by omega,HJ2.o,HR2.o,HW3.o,aF⟩
   case round=>
    obtain⟨i,k,s,rfl,hi,hk,hJ,hR,hW,v⟩:=hrel;have HJ:=aH hJ;have HR:=aH hR;have HW:=aH hW;have HF:=aH v;have HC0:=aH (A.o.Rr v (λh=>(I.o _ h).1 rfl));have HC1:=aH (G.o.Rr v (λh=>(I.o _ h).2.1 rfl));have HC2:=aH (n.o.Rr v (λh=>(I.o _ h).2.2 rfl));have q0:=HC2.o.cell (i:=0) rfl;have q1:=HC2.o.cell (i:=1) rfl;have c0:=HC0.o.cell (i:=0) rfl;have c1:=HC0.o.cell (i:=1) rfl;have p0:=HC1.o.cell (i:=0) rfl;have p1:=HC1.o.cell (i:=1) rfl;have p2:=HC1.o.cell (i:=2) rfl;have p3:=HC1.o.cell (i:=3) rfl;clear hJ hR hW v;by_cases f:i<us.length
    ·have e0:decide ((i:Int)<us.length)=true:=aT;have e0':decide (i<us.length)=true:=ef f;have l1:(i:Int)<us.length:=by omega
     obtain⟨x,V⟩:∃q,us[i]? =some q:=⟨_,eB f⟩
     obtain⟨a',Z,hv', -,hc⟩:=HU.o.T4 HF.o HZ.o;obtain⟨bl,off,e2,hb,hcc⟩:=hc aO;obtain⟨rfl,rfl⟩:ua=a'/\uc=Z:=by injection hv' with q1 q2 q3;exact⟨q1,q3⟩
     subst e2;obtain⟨b0,x0',x1'⟩:=hcc i _ V;clear hc hcc V hb hv';have l2:(T.length:Int)≠0:=by omega
     have e3:((T.length:Int)==0)=false:=by simpa using l2
     obtain⟨u,hu⟩:∃u:Nat,x%(T.length:Int)=u:=⟨(x%(T.length:Int)).toNat,by have:=Int.emod_nonneg x l2;omega⟩
     have huT:u<T.length:=by have:=Int.emod_lt_of_pos x (show(0:Int)<T.length by omega);omega
     have HUU:=aH hu;have hup:dO p u:=⟨by omega,by rw[R.o];omega⟩
     have o:=aH hup;clear hu hup l2;go_wp2_with fail
     go_quiet (fail)
     rw[HUU.o];by_cases g:128<=x;have g0:decide ((128:Int)<=x)=true:=ef g;go_wp2_with fail;refine gF (HSP.o _) ?_;rintro w5 hF5;have HFW:=aH ((((af.refl [] wr).drew _)).trans hF5);clear hF5;unfold pX;have hsk:=Bt;go_wp2_with fail;refine gF (HSH.o _) ?_;rintro W4 rfl;cases M:p.shares
     go_wp2_with fail;obtain⟨N,t⟩:∃N:Bool,N=false:=⟨_,rfl⟩
     have HA:=aH (show J (k+1) (p.RY s u 1)/\p.lone (p.RY s u 1) u/\p.st (p.RY s u 1) u=1/\p.rd (p.RY s u 1) u=N/\(p.SP s u 1).1=1/\W (p.RY s u 1)<=200 from by rw[t];exact D.asks aO HJ.o o.o HR.o (by rw[R.o];exact hT6.2) false (by simp[M]));have HLV:=aH (show∀k s,k<100000->J k s->p.lone s u->p.st s u=2->p.rd s u=N->J (k+1) (p.RY s u 2)/\p.lone (p.RY s u 2) u/\p.st (p.RY s u 2) u=3 from by rw[t];exactλk s a b c d e=>D.leaves a b o.o c d false e);clear t M;rotate_left;go_wp2_with fail;obtain⟨N,t⟩:∃N:Bool,N=true:=⟨_,rfl⟩
     have HA:=aH (show J (k+1) (p.RY s u 3)/\p.lone (p.RY s u 3) u/\p.st (p.RY s u 3) u=1/\p.rd (p.RY s u 3) u=N/\(p.SP s u 3).1=1/\W (p.RY s u 3)<=200 from by rw[t];exact D.asks aO HJ.o o.o HR.o (by rw[R.o];exact hT6.2) true (by simp[M]));have HLV:=aH (show∀k s,k<100000->J k s->p.lone s u->p.st s u=2->p.rd s u=N->J (k+1) (p.RY s u 4)/\p.lone (p.RY s u 4) u/\p.st (p.RY s u 4) u=3 from by rw[t];exactλk s a b c d e=>D.leaves a b o.o c d true e);clear t M;rotate_left;have g0:decide ((128:Int)<=x)=false:=aB;go_wp2_with fail;obtain⟨N,t⟩:∃N:Bool,N=false:=⟨_,rfl⟩
     have HA:=aH (show J (k+1) (p.RY s u 1)/\p.lone (p.RY s u 1) u/\p.st (p.RY s u 1) u=1/\p.rd (p.RY s u 1) u=N/\(p.SP s u 1).1=1/\W (p.RY s u 1)<=200 from by rw[t];exact D.asks aO HJ.o o.o HR.o (by rw[R.o];exact hT6.2) false aS);have HLV:=aH (show∀k s,k<100000->J k s->p.lone s u->p.st s u=2->p.rd s u=N->J (k+1) (p.RY s u 2)/\p.lone (p.RY s u 2) u/\p.st (p.RY s u 2) u=3 from by rw[t];exactλk s a b c d e=>D.leaves a b o.o c d false e);have HFW:=aH ((af.refl [] wr).drew nq);clear t;generalize wr.drewN nq=w5 at*;rotate_left;all_goals
      have hek:=GO;refine(u5 HK.o (D.inv _ _ HJ.o) (HW.o.same HK.o HFW.o) u _).mono ?_;rintro e w6 ⟨rfl,hW6,hF6⟩;have HW6:=aH hW6;have HF6:=aH (HF.o.trans ((HFW.o.mono (S':=bb.Z) aS).trans hF6));have HS6:=aH HA.o.2.2.2.2.2;clear hW6 hF6;unfold rr jg;rw[HA.o.2.2.2.2.1];go_wp2_with fail;go_loopw[13,15] (λinv kv wr=>∃(q:Nat)(s':p.σ),kv= .int .i64 q/\q<=200/\J (k+1+q) s'/\p.lone s' u/\p.rd s' u=N/\eP bb wr wo tb lk s'/\af bb.Z w3 wr/\(inv= .bool false/\p.st s' u=1/\W s'+q<=200\/inv= .bool true/\p.st s' u=2)) (λ_ kv _=>200 - (intOf kv).toNat)
      case atStart=>exact⟨0,_,rfl,by omega,HA.o.1,HA.o.2.1,HA.o.2.2.2.1,HW6.o.same HK.o (aF.alloc _),HF6.o.alloc _,.inl ⟨rfl,HA.o.2.2.1,HS6.o⟩⟩
      case round=>
       obtain⟨q,s',rfl,hq,hJ',hl',hr',hW',hF',hc⟩:=hrel;have Y:=aH hJ';have HL':=aH hl';have HR':=aH hr';have HW':=aH hW';have HF':=aH hF';clear hJ' hl' hr' hW' hF';rcases hc with⟨rfl,h1,hw⟩|⟨rfl,h2⟩
       ·by_cases f:q<200
        ·have f0:decide ((q:Int)<200)=true:=aT;have U:decide (q<200)=true:=ef f;have HC:=aH (D.Uu aO Y.o o.o HL'.o h1);have HWW:=aH hw;clear h1 hw;go_wp2_with fail;refine gF (u5 HK.o (D.inv _ _ Y.o) HW'.o u 0) ?_;rintro w7 ⟨hW7,hF7⟩;have HW7:=aH hW7;have HF7:=aH (HF'.o.trans hF7);obtain⟨b1,b2,b3,b4,S⟩:=HC.o;have HB:=aH (ae b1 (ae b2 (ae b3 (b4.trans HR'.o))));clear hW7 hF7 b1 b2 b3 b4;unfold rr jg;generalize p.SP s' u 0=E3 at*;obtain⟨ek,et,er,ec⟩:=E3;simp only at S⊢;rcases S with⟨S,rfl⟩|⟨S,rfl⟩;all_goals
          have X:=aH S;clear S;go_wp2_with fail;go_roundw
          case rel=>exact⟨q+1,_,by go_num,by omega,HB.o.1,HB.o.2.1,HB.o.2.2.2,HW7.o,HF7.o,by have:=HB.o.2.2.1;have:=HWW.o;first|exact .inl ⟨rfl,X.o,by omega⟩|exact .inr ⟨rfl,X.o⟩⟩
          case measure=>simp[intOf];omega
        ·exact am (D.TG aO Y.o o.o HL'.o aO) aO
       ·have Q:=aH (HLV.o _ _ aO Y.o HL'.o h2 HR'.o);have hlq:decide ((q:Int)<200)=true/\decide (q<200)=true\/decide ((q:Int)<200)=false/\decide (q<200)=false:=by
         by_cases c:q<200
         ·exact .inl ⟨aT,ef c⟩
         ·exact .inr ⟨aB,dh c⟩
        clear h2;rcases hlq with⟨f0,U⟩|⟨f0,U⟩;all_goals
         go_wp2_with fail;refine gF (u5 HK.o (D.inv _ _ Y.o) HW'.o u _) ?_;rintro w7 ⟨hW7,hF7⟩;have HW7:=aH hW7;have HF7:=aH (HF'.o.trans hF7);have HS7:=aH (D.out _ _ u (by rw[R.o];exact hT6.2) Q.o.1 o.o Q.o.2.1 Q.o.2.2);clear hW7 hF7 f0 U;unfold rr jg;go_wp2_with fail;go_loopw[14,16] (λoutv mv wr=>∃(m:Nat)(s2:p.σ),mv= .int .i64 m/\m<=200/\J (k+1+q+1+m) s2/\p.lone s2 u/\eP bb wr wo tb lk s2/\af bb.Z w3 wr/\(outv= .bool false/\p.st s2 u=3/\W s2+m<=200\/outv= .bool true/\p.st s2 u=0)) (λ_ mv _=>200 - (intOf mv).toNat)
         case atStart=>exact⟨0,_,rfl,by omega,Q.o.1,Q.o.2.1,HW7.o,HF7.o,.inl ⟨rfl,Q.o.2.2,HS7.o⟩⟩
         case round=>
          obtain⟨m,s2,rfl,hm,hJ2,hl2,hW2,hF2,hc⟩:=hrel;have O:=aH hJ2;have HL2:=aH hl2;have HW2':=aH hW2;have HF2':=aH hF2;clear hJ2 hl2 hW2 hF2;rcases hc with⟨rfl,h1,hw⟩|⟨rfl,h2⟩
          ·by_cases f:m<200
           ·have f0:decide ((m:Int)<200)=true:=aT;have U:decide (m<200)=true:=ef f;have HC:=aH (D.UU aO O.o o.o HL2.o h1);have HWW:=aH hw;clear h1 hw;go_wp2_with fail;refine gF (u5 HK.o (D.inv _ _ O.o) HW2'.o u 0) ?_;rintro w8 ⟨hW8,hF8⟩;have HW8:=aH hW8;have HF8:=aH (HF2'.o.trans hF8);obtain⟨b1,b2,b3,S⟩:=HC.o;have HB:=aH (ae b1 (ae b2 b3));clear hW8 hF8 b1 b2 b3;unfold rr jg;generalize p.SP s2 u 0=E3 at*;obtain⟨ek,et,er,ec⟩:=E3;simp only at S⊢;rcases S with⟨S,rfl⟩|⟨S,rfl⟩;all_goals
             have X:=aH S;clear S;go_wp2_with fail;go_roundw
             case rel=>exact⟨m+1,_,by go_num,by omega,HB.o.1,HB.o.2.1,HW8.o,HF8.o,by have:=HB.o.2.2;have:=HWW.o;first|exact .inl ⟨rfl,X.o,by omega⟩|exact .inr ⟨rfl,X.o⟩⟩
             case measure=>simp[intOf];omega
           ·exact am (D.TG aO O.o o.o HL2.o aO) aO
          ·have HLR:=aH (show∀i,dO p i->p.st s2 i=0 fromλi hi=>by
            by_cases c:i=u
            ·rw[c];exact h2
            ·exact HL2.o i hi c)
           have hlq:decide ((m:Int)<200)=true/\decide (m<200)=true\/decide ((m:Int)<200)=false/\decide (m<200)=false:=by
            by_cases c:m<200
            ·exact .inl ⟨aT,ef c⟩
            ·exact .inr ⟨aB,dh c⟩
           clear h2;rcases hlq with⟨f0,U⟩|⟨f0,U⟩;all_goals
            go_wp2_with fail;go_roundw
            case rel=>exact⟨i+1,_,_,by go_num,by omega,by omega,O.o,HLR.o,HW2'.o,HF2'.o⟩
            case measure=>simp[intOf];omega
    ·obtain rfl:i=us.length:=by omega
     have e0:decide ((us.length:Int)<us.length)=false:=aB;have e0':decide (us.length<us.length)=false:=dh f;clear f hi c0 c1 p0 p1 p2 p3;go_wp2_with fail;refine gF (HAWK.o _) ?_;rintro w9 hF9;have HF9:=aH (HF.o.trans (hF9.mono aS));clear hF9;go_wp2;go_ret;exact⟨rfl,(((HF2.o.mono (S':=bb.Z) aS).trans H.o).trans HF9.o).below (ba _) HZ.o⟩
end
variable{p:LP}
theorem LP.Sq(b:∀k s,k<100000->p.I k s->p.I (k+1) s)(g:∀k s (j:Nat) r,k<100000->p.I k s->j<p.n->(r=true->p.shares=true)->p.I (k+1) (p.R3 s j r))(l:∀k s (j:Nat),k<100000->p.I k s->j<p.n->p.I (k+1) (p.Rz s j))(m:∀k s (j:Nat),k<100000->p.I k s->j<p.n->p.I (k+1) (p.Ru s j)):p.Ok where
 Sm:=λk s i x a h=>by
  unfold LP.RY;by_cases hs:bC p.n i=false
  ·rw[ad hs];exact b k s a h
  ·rw[ac hs];have hi:0<=i/\i<(p.n:Int):=by
    have c:bC p.n i=true:=by cases n:bC p.n i;exact am n hs;rfl
    unfold bC at c;exact(sJ c:0<=i/\i<(p.n:Int))
   obtain⟨j,rfl⟩:=ix hi.1;have hj:j<p.n:=by omega
   by_cases f:x=0
   ·rw[ad f];unfold LP.step;split
    ·exact m k s j a h hj
    ·exact b k s a h
   rw[ac f];by_cases x1:x=1\/x=3
   ·rw[ad x1];unfold LP.ask;split
    ·exact b k s a h
    ·rename_i d
     exact g k s j _ a h hj (λe=>by rw[e] at d;simpa using d)
   rw[ac x1];by_cases x2:x=2\/x=4
   ·rw[ad x2];unfold LP.leave;split
    ·exact b k s a h
    ·exact l k s j a h hj
   ·rw[ac x2];exact b k s a h
def yd(K:FK):LP where
 σ:=AR×(Nat->Nat->Int)
 n:=K.n
 shares:=false
 ar:=λs=>s.1
 I:=λk s=>s.1.Fit/\FI K s.2 s.1/\s.1.ops<=1000+(k:Int)/\K.b+K.size<=s.1.taken+1
 Sr:=λs i _=>ai K.n s.2 i 0
 R3:=λs i _=>(s.1,gM K s.2 i)
 RZ:=λs i=>ai K.n s.2 i 10
 Rz:=λs i=>(s.1,dp K s.2 i)
 RD:=λs i=>cN K s.2 s.1 i
 Ru:=λs i=>(bL K s.2 s.1 i,bM K s.2 s.1 i)
 sp:=λs i t=>s.2 i.toNat t
 Ta:=λs i=>if s.2 i.toNat 0=10 then 1 else 0
variable{b a:Int}{S:Nat->Nat->Int}{j:Nat}
theorem i3(h:S j 0≠a):bo n S j a b=S:=by
 unfold bo ai;rw[cH];simp[h]
theorem P7(b:K.Ok):(yd K).Ok:=by
 refine LP.Sq (λk s c h=>?_) (λk s j r c h hj _=>?_) (λk s j c h hj=>?_) (λk s j c h hj=>?_)
 ·obtain⟨h1,h2,h3,h4⟩:=h;exact⟨h1,h2,by omega,h4⟩
 ·obtain⟨h1,h2,h3,h4⟩:=h;refine⟨h1,?_,by show s.1.ops<=_;omega,h4⟩;show FI K (gM K s.2 j) s.1;by_cases a:s.2 j 0=0
  ·exact(h2.ask b hj a).1
  ·have e:gM K s.2 j=s.2:=by
    unfold gM;split
    ·unfold wX nB;rw[cH];simp[a]
    ·exact i3 a
   rw[e];exact h2
 ·obtain⟨h1,h2,h3,h4⟩:=h;refine⟨h1,?_,by show s.1.ops<=_;omega,h4⟩;show FI K (dp K s.2 j) s.1;by_cases a:s.2 j 0=10
  ·exact(h2.leave b hj a).1
  ·have e:dp K s.2 j=s.2:=by unfold dp;exact i3 a
   rw[e];exact h2
 ·obtain⟨h1,h2,h3,h4⟩:=h;have hl:s.1.ops<1000000000:=by omega
  obtain⟨f,d,_,_⟩:=h2.step b h1 hl h4 hj;have g:=d.le;have i:=d.taken;exact⟨d.fit h1 hl,f,by show(bL K s.2 s.1 j).ops<=_;omega,by show _<=(bL K s.2 s.1 j).taken+1;omega⟩
section
variable{w w':World}{fb lb sb ab wb:Nat}{A A':AR}{S:Nat->Nat->Int}{K:FK}
variable{Z:List Nat}
theorem cZ.TQ(h:cZ w fb lb sb ab wb A S K)(a:fF w Z):fb∉Z/\lb∉Z:=by
 obtain⟨_,h1⟩:=h.TZ;refine⟨a.not h1,?_⟩;obtain⟨_,_,_,h⟩:=h;exact a.not h.box (by unfold Hu;(repeat' split)<;>decide)
theorem ax.SF(h:ax w ab wb A){z:Nat}(a:z=ab\/z=wb):∃vs T,aq w z vs T/\T∈Ap:=by
 rcases a with e|e
 ·subst e;exact⟨_,_,h.box,by decide⟩
 ·subst e;exact⟨_,_,h.row,by decide⟩
theorem cZ.stays(h:cZ w fb lb sb ab wb A S K)(b:af Z w w')(c:fF w Z)(hn:∀z∈Z,z∉[sb,ab,wb]):cZ w' fb lb sb ab wb A S K:=by
 have a:∀z,z∈[sb,ab,wb]->z∉Z:=λz h1 h2=>hn z h2 h1;exact h.re b (h.TQ c).1 (h.TQ c).2 (a _ aS) (h.ar.Rr b (a _ aS) (a _ aS))
def tu(K:FK)(fb lb sb ab wb:Nat):lm (yd K) where
 T:=76
 q:=.pointer (some ⟨fb,0,none⟩)
 Z:=[sb,ab,wb]
 ab:=ab
 wb:=wb
 At:=λw s=>cZ w fb lb sb ab wb s.1 s.2 K
 Sa:=153
 Sp:=.pointer (some ⟨fb,0,none⟩)
 RB:=155
 RM:=.pointer (some ⟨fb,0,none⟩)
 RR:=157
 R6:=.pointer (some ⟨fb,0,none⟩)
 RO:=156
 R5:=.pointer (some ⟨fb,0,none⟩)
 RL:=0
 R0:=.nilIface
theorem Dg{K:FK}(d:K.Ok):(tu K fb lb sb ab wb).Ok where
 Ry:=d.Ry
 sh:=rfl
 Sw:=λF w=>by kernel_rfl
 RW:=λF w=>by kernel_rfl
 RK:=λF w=>by kernel_rfl
 R7:=λF w=>by kernel_rfl
 SC:=λargs w=>by kernel_rfl
 R2:=λargs w=>by kernel_rfl
 Se:=λargs w=>by kernel_rfl
 R9:=λargs w=>by kernel_rfl
 St:=λw k s i a ha hi=>(rt ha i).mono (λe w' ⟨h1,h2,h3⟩=>⟨h1,h2,h3.mono (by simp[tu])⟩)
 RV:=λw k s i a ha hi=>(kG ha i).mono (λe w' ⟨h1,h2,h3⟩=>⟨h1,h2,h3.mono (by simp[tu])⟩)
 Sc:=λw k s i a ha hi=>(fw ha (λe=>a.2.1.Vk e) i).mono (λe w' ⟨h1,h2,h3⟩=>⟨h1,h2,h3⟩)
 R8:=λw s i ha hi=>(AV ha i).mono (λe w' ⟨h1,h2⟩=>⟨by
  rw[h1];unfold mB gG;rw[ad (show bC K.n i=true from ef hi)];rfl,h2⟩)
 ar:=λw s ha=>cZ.ar ha
 free:=λw s ha z b=>by
  have c:z=sb\/z=ab\/z=wb:=by simpa[tu] using b
  rcases c with e|e
  ·subst e;obtain⟨_,h1⟩:=cZ.S3 ha;exact⟨_,_,h1,by decide⟩
  ·exact(cZ.ar ha).SF e
 stay:=λw w' s S ha f hs b=>cZ.stays ha f hs b
end
structure zc(K:CK)(S S':CS):Prop where
 A:S.A=S'.A
 g:∀j,j<K.G.n->∀t,t<4->S.GS j t=S'.GS j t
 l:∀v,v<K.E->∀j,j<(K.L v).n->∀t,t<4->S.LS v j t=S'.LS v j t
 t:∀j,j<K.n->∀t,t<4->S.TS j t=S'.TS j t
variable{S':Nat->Nat->Int}
theorem z7(h:∀j,j<n->∀t,t<4->S j t=S' j t):dJ n S=dJ n S':=by
 unfold dJ;refine BM λj hj=>?_;have:=y7.1 hj;rw[h (j/4) aO (j%4) aO]
theorem cZ.ext{fb lb sb:Nat}{M:FK}(h:cZ w fb lb sb ab wb A S M)(e:∀j,j<M.n->∀t,t<4->S j t=S' j t):cZ w fb lb sb ab wb A S' M:=by
 have hs:=z7 e;obtain⟨k,cp,ex,h⟩:=h;exact⟨k,cp,ex,{h with row:=by show aq _ _ (dJ _ S'++_) _;rw[<-hs];exact h.row}⟩
theorem bg.ext{w:World}{B:CB}{K:CK}{S S':CS}(h:bg w B K S)(e:zc K S S'):bg w B K S':=by
 have h1:=h.Sf.ext e.g;rw[e.A] at h1;exact{box:=h.box,Sj:=h.Sj,Sf:=h1,Sh:=h.Sh,loc:=λv hv=>by have h2:=(h.loc v hv).ext (e.l v hv);rw[e.A] at h2;exact h2,row:=by rw[<-z7 e.t];exact h.row,Sg:=h.Sg,ok:=h.ok}
def AF(K:CK):LP where
 σ:=CS
 n:=K.n
 shares:=false
 ar:=λs=>s.A
 I:=λ_ s=>dU K s
 Sr:=λs i _=>ai K.n s.TS i 0
 R3:=λs i _=>bu K s i
 RZ:=λs i=>ai K.n s.TS i 10
 Rz:=λs i=>bj K s i
 RD:=λs i=>a5 K s i
 Ru:=λs i=>ay K s i
 sp:=λs i t=>s.TS i.toNat t
 Ta:=λs i=>rm K s i
 eqv:=zc K
theorem P5(K:CK):(AF K).Ok:=LP.Sq (λk s a h=>h) (λk s j r a h hj _=>h.ask _) (λk s j a h hj=>h.leave _) (λk s j a h hj=>h.step _)
section
variable{w w':World}{B:CB}{K:CK}{S:CS}
theorem IR.SF{g:Nat}{v:Value}{zs:List Int}(h:IR w g v zs){Z:List Nat}(b:af Z w w')(d:fF w Z):IR w' g v zs:=by
 have a:=h;obtain⟨_,_,_,c,_⟩:=h;exact a.Rr b (d.not c)
theorem jG.SF{tb:Nat}{P T:List Int}(h:jG w tb P T){Z:List Nat}(c:af Z w w')(d:fF w Z):jG w' tb P T:=by
 obtain⟨g,i,e,a,b,f,gt,gn,gs,gm,h1,h2,h3,h4,h5⟩:=h;exact⟨g,i,e,a,b,f,gt,gn,gs,gm,h1.Rr c (d.not h1),h2.SF c d,h3.SF c d,h4.SF c d,h5.SF c d⟩
theorem bg.stays(h:bg w B K S){Z:List Nat}(a:af Z w w')(c:fF w Z)(hn:∀z∈Z,z∉CZ B K):bg w' B K S:=by
 obtain⟨cells,b,d⟩:=h.Sh;exact{box:=h.box.Rr a (c.not h.box),Sj:=h.Sj.SF a c,Sf:=h.Sf.stays a c (λz h1 h2=>hn z h1 (a8.2 (by simp at h2;rcases h2 with e|e|e;exact .inr (.inl e);exact .inr (.inr (.inl e));exact .inr (.inr (.inr (.inl e)))))),Sh:=⟨cells,b.Rr a (c.not b),d⟩,loc:=λv hv=>(h.loc v hv).stays a c (λz h1 h2=>hn z h1 (a8.2 (by simp at h2;rcases h2 with e|e|e;exact .inr (.inr (.inr (.inr ⟨v,hv,e.symm⟩)));exact .inr (.inr (.inl e));exact .inr (.inr (.inr (.inl e)))))),row:=h.row.Rr a (λhm=>hn _ hm (a8.2 (.inl rfl))),Sg:=h.Sg,ok:=h.ok}
theorem bg.free(h:bg w B K S):fF w (CZ B K):=by
 intro z b;rcases a8.1 b with e|e|e|e|⟨v,hv,e⟩
 ·subst e;exact⟨_,_,h.row,by decide⟩
 ·subst e;obtain⟨_,a⟩:=h.Sf.S3;exact⟨_,_,a,by decide⟩
 ·exact h.Sf.ar.SF (.inl e)
 ·exact h.Sf.ar.SF (.inr e)
 ·subst e;obtain⟨_,a⟩:=(h.loc v hv).S3;exact⟨_,_,a,by decide⟩
def C0(K:CK)(B:CB):lm (AF K) where
 T:=167
 q:=.pointer (some ⟨B.cb,0,none⟩)
 Z:=CZ B K
 ab:=B.ab
 wb:=B.wb
 At:=λw s=>bg w B K s
 Sa:=219
 Sp:=.pointer (some ⟨B.cb,0,none⟩)
 RB:=221
 RM:=.pointer (some ⟨B.cb,0,none⟩)
 RR:=223
 R6:=.pointer (some ⟨B.cb,0,none⟩)
 RO:=222
 R5:=.pointer (some ⟨B.cb,0,none⟩)
 RL:=220
 R0:=.pointer (some ⟨B.cb,0,none⟩)
theorem C1(hn:K.n<=32):(C0 K B).Ok where
 Ry:=hn
 sh:=rfl
 Sw:=λF w=>by kernel_rfl
 RW:=λF w=>by kernel_rfl
 RK:=λF w=>by kernel_rfl
 R7:=λF w=>by kernel_rfl
 SC:=λargs w=>by kernel_rfl
 R2:=λargs w=>by kernel_rfl
 Se:=λargs w=>by kernel_rfl
 R9:=λargs w=>by kernel_rfl
 St:=λw k s i a ha hi=>tq ha i
 RV:=λw k s i a ha hi=>pM ha i
 Sc:=λw k s i a ha hi=>ro ha a i
 R8:=λw s i ha hi=>(rn ha i).mono (λe w' ⟨h1,h2⟩=>⟨by
  rw[h1];unfold mB gG;rw[ad (show bC K.n i=true from ef hi)];rfl,h2⟩)
 ar:=λw s ha=>bg.ar ha
 free:=λw s ha=>bg.free ha
 stay:=λw w' s S ha b hs c=>bg.stays ha b hs c
 ext:=λw s s' e h=>bg.ext h e
theorem AE:(C0 K B).UQ where
 SL:=λF w=>by kernel_rfl
 SH:=λargs w=>by kernel_rfl
 SG:=λw s i ha hi=>vH ha i
end
section
variable{P T:List Int}{kd g l par bud:Int}
def oC(T:List Int)(kd par:Int):FK:=⟨kd.toNat,par.toNat,1,T.length⟩
theorem ru(a:ea P T)(b:1<=kd/\kd<=5)(c:1<=par/\par<=32):(oC T kd par).Ok:=by
 obtain⟨s1,s2,s3,s4⟩:=a.size;exact⟨by show 1<=kd.toNat;omega,by show kd.toNat<=5;omega,ba _,s3,s4,by show 1<=par.toNat;omega,by show par.toNat<=32;omega⟩
def GY(T:List Int)(kd par:Int):(yd (oC T kd par)).σ:=(fK (oC T kd par) (AR.fresh 4096),lg (oC T kd par))
theorem tw:AR.Fit (AR.fresh 4096):=⟨by show 0<=(List.replicate 4096 (0:Int)).length;omega,by show(List.replicate 4096 (0:Int)).length<=4096;rw[lA];exact ba _,by show(0:Int)<=0;omega,by show(0:Int)<=_;omega⟩
theorem Dh(d:ea P T)(f:1<=kd/\kd<=5)(i:1<=par/\par<=32):(yd (oC T kd par)).I 0 (GY T kd par):=by
 have c:=ru d f i;have k:=nc c;have j:(AR.fresh 4096).taken+(oC T kd par).size<=(AR.fresh 4096).ws.length:=by show 0+_<=(List.replicate 4096 (0:Int)).length;rw[lA];omega
 obtain⟨a,e⟩:=nP c (A:=AR.fresh 4096) rfl j (vy _) tw;have gt:=a.taken;have gl:=a.len;have go:=a.ops;have m:(AR.fresh 4096).taken=0:=rfl;have n:(AR.fresh 4096).ops=0:=rfl;have o:(AR.fresh 4096).ws.length=4096:=lA;refine⟨⟨?_,?_,?_,?_⟩,e,?_,?_⟩
 ·show(fK (oC T kd par) (AR.fresh 4096)).taken<=(fK (oC T kd par) (AR.fresh 4096)).ws.length;omega
 ·show(fK (oC T kd par) (AR.fresh 4096)).ws.length<=4096;omega
 ·show 0<=(fK (oC T kd par) (AR.fresh 4096)).ops;omega
 ·show(fK (oC T kd par) (AR.fresh 4096)).ops<=_;omega
 ·show(fK (oC T kd par) (AR.fresh 4096)).ops<=1000+_;omega
 ·show(oC T kd par).b+_<=(fK (oC T kd par) (AR.fresh 4096)).taken+1;have:(oC T kd par).b=1:=rfl;omega
theorem Kb(X:ea P T)(J:1<=kd/\kd<=5)(Y:1<=par/\par<=32):iQ P T kd g l par bud (yd (oC T kd par)) (GY T kd par) where
 n:=rfl
 Tb:=by omega
 sh:=by show false=_;rw[dh (show¬11<=kd by omega)];rfl
 S9:=λw ab wb lk x y hx hy j B _ _=>by
  have A:=ru X J Y;have N:=nc A;have Z:(AR.fresh 4096).taken+(oC T kd par).size<=(AR.fresh 4096).ws.length:=by show 0+_<=(List.replicate 4096 (0:Int)).length;rw[lA];omega
  have n1:lk≠ab:=B.differ j.box aJ;have n2:lk≠wb:=B.differ j.row aJ;have f:=((af.refl [] w).alloc (.cells #[x,y] 24)).alloc (.cells #[g,l,par,bud] 42);have Q:=aH (λ(W:World) (C:af [] w W)=>uj (j.Rr C aS aS) (oC T kd par) A rfl Z);have m:=aH (aq.new (w.alloc (.cells #[x,y] 24)) #[g,l,par,bud] 42);have u:=aH (B.Rr f aS);have d:=aH f;have R:(((oC T kd par).k:Nat):Int)=kd:=by show(kd.toNat:Int)=kd;omega
  have U:(((oC T kd par).p:Nat):Int)=par:=by show(par.toNat:Int)=par;omega
  have S:(oC T kd par).n=T.length:=rfl;rw[R,U,S] at Q;have E:=aH A;have c0:=u.o.cell (i:=0) rfl;have k6:(kd==6)=false:=by simp;omega
  have k7:(kd==7)=false:=by simp;omega
  have k8:(kd==8)=false:=by simp;omega
  have k9:(kd==9)=false:=by simp;omega
  have ka:(kd==10)=false:=by simp;omega
  have kb:(kd==11)=false:=by simp;omega
  have kc:(kd==12)=false:=by simp;omega
  have ke:(kd==13)=false:=by simp;omega
  have D:=aH J;have hla:=j.box.lt;have hlb:=j.row.lt;clear j B A N Z R U S f hx hy X J Y;rw[bP] at m;go_enter func57,ntmps57;go_wp2_with fail;generalize(w.alloc (.cells #[x,y] 24)).alloc (.cells #[g,l,par,bud] 42)=H at*;have n3:w.heap.size+1∉[ab,wb]:=by simp;omega
  have M:=aW [ab,wb] H;have z0:=zF (L:=[ab,wb]) u.o aQ 0 rfl;have z1:=zF (L:=[ab,wb]) u.o aQ 1 rfl;have z2:=zF m.o n3 2 rfl;refine aG (λwx=>af [ab,wb] H wx) ?_;refine eQ (fuel:=7) [0,1,2,3,4,5,6,7,8,9,10] rfl aF.Rs ?_;refine aL 11 (fuel:=6) rfl ?_;go_wp2_with fail;refine(Q.o _ d.o.Rs).mono ?_;rintro e w1 ⟨fb,lb,sb,rfl, -, -,r,o,V⟩;have c:=aH o;have b:=aH (((af.refl [ab,wb] H).Rs).trans V);have t:w.heap.size<=sb:=dv d.o.Rs.size r;clear o V r;go_wp2_with fail;refine ah ⟨b.o,?_⟩;refine eQ (fuel:=3) [12,13,15] rfl b.o ?_;refine aL 14 (fuel:=2) rfl ?_;go_wp2_with fail;refine ah ⟨b.o,?_⟩;refine aR (fuel:=0) [16,17] rfl b.o ?_;intro Kq q;repeat (go_big_quiet_step (fail))
  refine xi (q _ ?_);clear q Kq M z0 z1 z2;refine aN ?_;have a:=u.o.Rr b.o aQ;have l2:=a.cell (i:=2) rfl;have lz:=a.frozen;have F:=aH a;have G:=aH (show∀v,cZ (w1.setCell (lk,2) v) fb lb sb ab wb (fK (oC T kd par) (AR.fresh 4096)) (lg (oC T kd par)) (oC T kd par) fromλv=>by
   have C:af [lk] w1 (w1.setCell (lk,2) v):=aU;have q1:fb≠lk:=by obtain⟨_,I⟩:=c.o.TZ;exact I.differ a aJ
   have q2:sb≠lk:=by obtain⟨_,I⟩:=c.o.S3;exact I.differ a aJ
   have q3:lb≠lk:=by
    obtain⟨_,_,_,h⟩:=c.o;exact h.box.differ a (iq _ aJ)
   exact c.o.re C aQ aQ aQ (c.o.ar.Rr C aQ aQ))
  clear a;go_wp2;go_ret;refine⟨(tu (oC T kd par) fb lb sb ab wb).alone kd,(Dg E.o).SR kd (by have:=D.o;omega) (λs i=>rfl),⟨rfl,rfl⟩,rfl,⟨F.o.set 2 _,G.o _⟩,λz hz=>?_,((d.o.mono (S':=[ab,wb,lk]) aS).trans (b.o.mono aS)).set _ _ (.inl aS)⟩;have O:z=sb\/z=ab\/z=wb:=by simpa[lm.alone,tu] using hz
  rcases O with e|e|e
  ·rw[e];exact .inr (.inr t)
  ·exact .inl e
  ·exact .inr (.inl e)
theorem GX(c:ea P T)(d:1<=kd/\kd<=5)(e:1<=par/\par<=32):jO P T (.agg #[kd,g,l,par,bud]) (yd (oC T kd par)) (GY T kd par) where
 ok:=P7 (ru c d e)
 i0:=Dh c d e
 S9:=λw a b f h=>gJ f h c (Kb c d e)
end
section
variable{P T:List Int}{g l par bud:Int}
abbrev CI(P T:List Int)(g l par bud:Int):CK:=jt P T g.toNat l.toNat par.toNat bud.toNat (AR.fresh 4096)
abbrev O9(P T:List Int)(g l par bud:Int):CS:=o6 (CI P T g l par bud) (dX P T g.toNat l.toNat par.toNat bud.toNat (AR.fresh 4096))
theorem vC(ok:ea P T)(e:1<=g/\g<=5)(hl:1<=l/\l<=5)(f:1<=par/\par<=32)(d:0<=bud/\bud<=1000):dV P T g.toNat l.toNat par.toNat bud.toNat (AR.fresh 4096):=by
 have a:(AR.fresh 4096).ws.length=4096:=lA;have c:=ki P;have hs:=ok.size;exact{
  ok:=ok,g1:=by omega,g5:=by omega,l1:=by omega,l5:=by omega,p1:=by omega,Tr:=by omega,b:=by omega,az:=by
   intro k _;show(List.replicate 4096 (0:Int))[k]?.getD 0=0;rw[xo];split<;>rfl,fit:=⟨by rw[a];show 0<=4096;omega,by rw[a];omega,by show(0:Int)<=0;omega,by show(0:Int)<=_;omega⟩,ops:=by show(0:Int)<=_;omega,room:=by rw[a];show 0+65+_<=4096;have:=hs.2.1;omega}
theorem Jn(K:FK)(j:Nat):lg K j 0=0:=by unfold lg;split<;>rfl
theorem zk(K:CK)(a:Nat->AR):dU K (o6 K a):=⟨λt _=>.inl ⟨pK _,by show(0:Int)<=4;omega⟩,λv _ _ j _=>.inl (by rw[show(o6 K a).LS v j 0=0 from Jn _ _];omega),λ_ j _=>.inl (by rw[show(o6 K a).GS j 0=0 from Jn _ _];omega)⟩
theorem JW(I:ea P T)(K:1<=g/\g<=5)(hl:1<=l/\l<=5)(L:1<=par/\par<=32)(J:0<=bud/\bud<=1000):iQ P T 6 g l par bud (AF (CI P T g l par bud)) (O9 P T g l par bud) where
 n:=rfl
 Tb:=by omega
 sh:=rfl
 S9:=λw ab wb lk x y M N p r _ _=>by
  have c:=(vC I K hl L J).Vn;have n1:=p.Sn r;have a:=aH (((af.refl [] w).alloc (.cells #[x,y] 24)).alloc (.cells #[g,l,par,bud] 42));have s:=vI (M.Rr a.o aS) (N.Rr a.o aS) c (p.Rr a.o aS aS);have E:(CI P T g l par bud).gk=g:=by show(g.toNat:Int)=g;omega
  have F:(CI P T g l par bud).lk=l:=by show(l.toNat:Int)=l;omega
  have G:(CI P T g l par bud).par=par:=by show(par.toNat:Int)=par;omega
  have D:(CI P T g l par bud).bud=bud:=by show(bud.toNat:Int)=bud;omega
  rw[E,F,G,D] at s;have U:=aH s;have O:=aH ((aq.new w #[x,y] 24).Rr ((af.refl [] _).alloc (.cells #[g,l,par,bud] 42)) aS);have Q:=aH (aq.new (w.alloc (.cells #[x,y] 24)) #[g,l,par,bud] 42);have u:=aH (r.Rr a.o aS);have c0:=u.o.cell (i:=0) rfl;have h:=aH (show(CI P T g l par bud).n<=32 from I.size.2.2.2);have t:=a.o.size;obtain⟨a1,A,rfl, -, -⟩:=M;obtain⟨a2,C,rfl, -, -⟩:=N;clear p r c s E F G D K hl L J;go_enter func57,ntmps57;go_wp2_with fail;refine U.o.mono ?_;rintro e w1 ⟨B,rfl,⟨j,k,m⟩,H,q⟩;have b:=u.o.Rr q aQ;have l0:=b.cell (i:=2) rfl;have Y:=b.frozen;have f:=aH b;have R:=aH H;have S:=aH ((a.o.mono (S':=[ab,wb]) aS).trans q);have d:=aH (ae j (ae k (m.mono t)));clear q H b j k m;go_wp2;go_ret;refine⟨(C0 (CI P T g l par bud) B).Tl 6,(C1 h.o).S5 AE 6 aO,⟨d.o.1,rfl⟩,rfl,⟨f.o.set 2 _,R.o.RJ f.o aU⟩,λz X=>?_,(S.o.mono (S':=[ab,wb,lk]) aS).set _ _ (.inl aS)⟩;obtain⟨V,W,o⟩:=d.o;rcases a8.1 X with e|e|e|e|⟨v,hv,e⟩
  ·rw[e];exact .inr (.inr o.1)
  ·rw[e];exact .inr (.inr o.2.1)
  ·rw[e];exact .inl V
  ·rw[e];exact .inr (.inl W)
  ·rw[<-e];exact .inr (.inr (o.2.2 v hv))
theorem zf(a:ea P T)(c:1<=g/\g<=5)(hl:1<=l/\l<=5)(d:1<=par/\par<=32)(b:0<=bud/\bud<=1000):jO P T (.agg #[(6:Int),g,l,par,bud]) (AF (CI P T g l par bud)) (O9 P T g l par bud) where
 ok:=P5 _
 i0:=zk _ _
 S9:=λ_ _ _ e f=>gJ e f a (JW a c hl d b)
end
abbrev Po:CK:=CI [-1,0,0] [1,1,2,2] 2 4 1 1
abbrev Rp:LP:=AF Po
def Pj(L:List (List Int)):Nat->Nat->Int:=λi k=>(L[i]?.getD [])[k]?.getD 0
def qR(ws:List Int)(ops k at_:Int)(wr:Bool)(g l0 l1 t:List (List Int)):CS:=⟨⟨ws++List.replicate 4082 0,14,ops,k,at_,wr⟩,Pj g,λv=>if v=0 then Pj l0 else Pj l1,Pj t⟩
def L0:Nat->CS
 | 0=>qR [0,0,0,0,0,0,0,0,0,0,0,0,0,0] 0 0 0 false [[0,0,0,0],[0,0,0,0]] [[0,0,0,0],[0,0,0,0]] [[0,0,0,0],[0,0,0,0]] [[0,0,0,0],[0,0,0,0],[0,0,0,0],[0,0,0,0]]
 | 1=>qR [0,0,0,0,0,0,0,0,0,0,0,0,0,0] 0 0 0 false [[0,0,0,0],[0,0,0,0]] [[1,0,0,0],[0,0,0,0]] [[0,0,0,0],[0,0,0,0]] [[1,0,0,0],[0,0,0,0],[0,0,0,0],[0,0,0,0]]
 | 2=>qR [0,0,0,0,0,0,0,0,0,0,0,0,0,0] 1 2 4 true [[0,0,0,0],[0,0,0,0]] [[2,0,0,0],[0,0,0,0]] [[0,0,0,0],[0,0,0,0]] [[1,0,0,0],[0,0,0,0],[0,0,0,0],[0,0,0,0]]
 | 3=>qR [0,0,0,0,1,0,0,0,0,0,0,0,0,0] 2 2 5 true [[0,0,0,0],[0,0,0,0]] [[3,0,0,0],[0,0,0,0]] [[0,0,0,0],[0,0,0,0]] [[1,0,0,0],[0,0,0,0],[0,0,0,0],[0,0,0,0]]
 | 4=>qR [0,0,1,0,1,0,0,0,0,0,0,0,0,0] 3 3 3 true [[0,0,0,0],[0,0,0,0]] [[10,0,0,0],[0,0,0,0]] [[0,0,0,0],[0,0,0,0]] [[2,0,0,0],[0,0,0,0],[0,0,0,0],[0,0,0,0]]
 | 5=>qR [0,0,1,0,1,0,0,0,0,0,0,0,0,0] 4 1 8 false [[1,0,0,0],[0,0,0,0]] [[10,0,0,0],[0,0,0,0]] [[0,0,0,0],[0,0,0,0]] [[3,0,0,0],[0,0,0,0],[0,0,0,0],[0,0,0,0]]
 | 6=>qR [1,0,1,0,1,0,0,0,0,0,0,0,0,0] 5 5 1 true [[2,0,0,0],[0,0,0,0]] [[10,0,0,0],[0,0,0,0]] [[0,0,0,0],[0,0,0,0]] [[3,0,0,0],[0,0,0,0],[0,0,0,0],[0,0,0,0]]
 | 7=>qR [1,0,1,0,1,0,0,0,0,0,0,0,0,0] 6 1 2 false [[10,0,0,0],[0,0,0,0]] [[10,0,0,0],[0,0,0,0]] [[0,0,0,0],[0,0,0,0]] [[4,0,0,0],[0,0,0,0],[0,0,0,0],[0,0,0,0]]
 | 8=>qR [1,0,1,0,1,0,0,1,0,0,0,0,0,0] 7 2 8 true [[10,0,0,0],[0,0,0,0]] [[10,0,0,0],[0,0,0,0]] [[0,0,0,0],[0,0,0,0]] [[10,1,0,0],[0,0,0,0],[0,0,0,0],[0,0,0,0]]
 | 9=>qR [1,0,1,0,1,0,0,1,0,0,0,0,0,0] 7 2 8 true [[10,0,0,0],[0,0,0,0]] [[10,0,0,0],[0,0,0,0]] [[0,0,0,0],[0,0,0,0]] [[11,1,0,0],[0,0,0,0],[0,0,0,0],[0,0,0,0]]
 | 10=>qR [1,0,1,0,1,0,0,1,0,0,0,0,0,0] 7 2 8 true [[10,0,0,0],[0,0,0,0]] [[10,0,0,0],[0,0,0,0]] [[0,0,0,0],[1,0,0,0]] [[11,1,0,0],[0,0,0,0],[0,0,0,0],[1,0,0,0]]
 | 11=>qR [1,0,1,0,1,0,0,1,0,0,0,0,0,0] 8 1 8 false [[10,0,0,0],[0,0,0,0]] [[10,0,0,0],[0,0,0,0]] [[0,0,0,0],[1,0,0,0]] [[12,1,0,0],[0,0,0,0],[0,0,0,0],[1,0,0,0]]
 | 12=>qR [1,0,1,0,1,0,0,1,0,0,0,0,0,0] 9 1 4 false [[10,0,0,0],[0,0,0,0]] [[10,0,0,0],[0,0,0,0]] [[0,0,0,0],[1,0,0,0]] [[14,1,0,0],[0,0,0,0],[0,0,0,0],[1,0,0,0]]
 | 13=>qR [1,0,1,0,1,0,0,0,0,0,0,0,0,0] 10 2 8 true [[11,0,0,0],[0,0,0,0]] [[10,0,0,0],[0,0,0,0]] [[0,0,0,0],[1,0,0,0]] [[15,1,0,0],[0,0,0,0],[0,0,0,0],[1,0,0,0]]
 | 14=>qR [1,1,1,0,1,0,0,0,0,0,0,0,0,0] 11 2 2 true [[0,0,0,0],[0,0,0,0]] [[11,0,0,0],[0,0,0,0]] [[0,0,0,0],[1,0,0,0]] [[16,1,0,0],[0,0,0,0],[0,0,0,0],[1,0,0,0]]
 | 15=>qR [1,1,1,0,1,0,0,0,0,0,0,0,0,0] 12 1 4 false [[0,0,0,0],[0,0,0,0]] [[12,0,0,0],[0,0,0,0]] [[0,0,0,0],[1,0,0,0]] [[16,1,0,0],[0,0,0,0],[0,0,0,0],[1,0,0,0]]
 | 16=>qR [1,1,0,0,1,0,0,0,0,0,0,0,0,0] 13 4 3 true [[0,0,0,0],[0,0,0,0]] [[0,0,0,0],[0,0,0,0]] [[0,0,0,0],[1,0,0,0]] [[0,1,0,0],[0,0,0,0],[0,0,0,0],[1,0,0,0]]
 | 17=>qR [1,1,0,0,1,0,0,0,0,0,0,0,0,0] 14 2 12 true [[0,0,0,0],[0,0,0,0]] [[0,0,0,0],[0,0,0,0]] [[0,0,0,0],[2,0,0,0]] [[0,1,0,0],[0,0,0,0],[0,0,0,0],[1,0,0,0]]
 | 18=>qR [1,1,0,0,1,0,0,0,0,0,0,0,1,0] 15 2 13 true [[0,0,0,0],[0,0,0,0]] [[0,0,0,0],[0,0,0,0]] [[0,0,0,0],[3,0,0,0]] [[0,1,0,0],[0,0,0,0],[0,0,0,0],[1,0,0,0]]
 | 19=>qR [1,1,0,0,1,0,0,0,2,0,0,0,1,0] 16 3 9 true [[0,0,0,0],[0,0,0,0]] [[0,0,0,0],[0,0,0,0]] [[0,0,0,0],[10,0,0,0]] [[0,1,0,0],[0,0,0,0],[0,0,0,0],[2,0,0,0]]
 | 20=>qR [1,1,0,0,1,0,0,0,2,0,0,0,1,0] 17 1 14 false [[0,0,0,0],[1,0,0,0]] [[0,0,0,0],[0,0,0,0]] [[0,0,0,0],[10,0,0,0]] [[0,1,0,0],[0,0,0,0],[0,0,0,0],[3,0,0,0]]
 | 21=>qR [2,1,0,0,1,0,0,0,2,0,0,0,1,0] 18 5 1 true [[0,0,0,0],[2,1,0,0]] [[0,0,0,0],[0,0,0,0]] [[0,0,0,0],[10,0,0,0]] [[0,1,0,0],[0,0,0,0],[0,0,0,0],[3,0,0,0]]
 | 22=>qR [2,1,0,0,1,0,0,0,2,0,0,0,1,0] 19 1 2 false [[0,0,0,0],[10,1,0,0]] [[0,0,0,0],[0,0,0,0]] [[0,0,0,0],[10,0,0,0]] [[0,1,0,0],[0,0,0,0],[0,0,0,0],[4,0,0,0]]
 |_=>qR [2,1,0,0,1,0,0,0,2,0,0,0,1,1] 20 2 14 true [[0,0,0,0],[10,1,0,0]] [[0,0,0,0],[0,0,0,0]] [[0,0,0,0],[10,0,0,0]] [[0,1,0,0],[0,0,0,0],[0,0,0,0],[10,1,0,0]]
def pkL:List (Int×Int):=[(0,1),(0,0),(0,0),(0,0),(0,0),(0,0),(0,0),(0,0),(0,2),(3,1),(0,0),(0,0),(0,0),(0,0),(0,0),(0,0),(3,0),(3,0),(3,0),(3,0),(3,0),(3,0),(3,0)]
def Gb(k:Nat):Int×Int:=pkL[k]?.getD (0,0)
def evL:List (Int×Int×Int):=[(1,0,0),(0,0,0),(0,0,0),(0,0,0),(0,0,0),(0,0,0),(0,0,0),(2,0,1),(3,0,0),(1,3,0),(0,0,0),(0,0,0),(0,0,0),(0,0,0),(0,0,0),(4,0,0),(0,3,0),(0,3,0),(0,3,0),(0,3,0),(0,3,0),(0,3,0),(2,3,1)]
def J8(k:Nat):Int×Int×Int:=evL[k]?.getD (0,0,0)
def atL:List Nat:=[0,1,1,1,1,1,1,1,2,3,4,4,4,4,4,4,5,5,5,5,5,5,5,6]
def Cq(k:Nat):Nat:=atL[k]?.getD 0
def Pp:List Int:=[1,2,3,1,4,2]
theorem L1:∀k,k<23->zc Po (Rp.RY (L0 k) (Gb k).1 (Gb k).2) (L0 (k+1))/\Rp.SP (L0 k) (Gb k).1 (Gb k).2=((J8 k).1,(J8 k).2.1,false,(J8 k).2.2)/\dU Po (L0 k):=by
 intro k a;iterate 23
  rcases k with _|k
  ·exact⟨⟨by kernel_rfl,by decide+kernel,by decide+kernel,by decide+kernel⟩,by decide+kernel,by decide+kernel,by unfold jn;decide+kernel,by unfold jn;decide+kernel⟩
 omega
theorem OS:∀k,k<23->((J8 k).1=0/\Cq (k+1)=Cq k)\/((J8 k).1≠0/\Cq k<6/\Pp[Cq k]? =some (J8 k).1/\Cq (k+1)=Cq k+1):=by decide+kernel
theorem OT:∀k,k<24->Cq k<=6:=by decide+kernel
def Ix:List Value:=(List.range 46).map λj=>if j%2=0 then .int .i64 (Gb (j/2)).1 else .int .i64 (Gb (j/2)).2
theorem zT{k:Nat}(e:k<23):Ix[k*2]? =some (.int .i64 (Gb k).1)/\Ix[k*2+1]? =some (.int .i64 (Gb k).2):=by
 unfold Ix;rw[iL,qo aO,iL,qo aO];have a:k*2%2=0:=by omega
 have b:(k*2+1)%2≠0:=by omega
 have c:k*2/2=k:=by omega
 have d:(k*2+1)/2=k:=by omega
 rw[y8,y8,ad a,ac b,c,d];exact⟨rfl,rfl⟩
theorem IQ:ea [-1,0,0] [1,1,2,2]:=by
 refine⟨⟨by decide,by decide,by decide,by decide⟩,⟨by decide,?_⟩,?_,by decide⟩
 ·intro v h1 h2;have a:v<3:=h2;rcases(by omega:v=1\/v=2) with rfl|rfl<;>decide
 ·intro v u h1 h2;have b:v<3:=h1;have a:u<3:=h2;rcases(by omega:v=0\/v=1\/v=2) with rfl|rfl|rfl<;>rcases(by omega:u=0\/u=1\/u=2) with rfl|rfl|rfl<;>decide
theorem Fl:zc Po (O9 [-1,0,0] [1,1,2,2] 2 4 1 1) (L0 0):=⟨by kernel_rfl,by decide+kernel,by decide+kernel,by decide+kernel⟩
theorem Iy:Ix.toArray=#[.int .i64 0,.int .i64 1,.int .i64 0,.int .i64 0,.int .i64 0,.int .i64 0,.int .i64 0,.int .i64 0,.int .i64 0,.int .i64 0,.int .i64 0,.int .i64 0,.int .i64 0,.int .i64 0,.int .i64 0,.int .i64 0,.int .i64 0,.int .i64 2,.int .i64 3,.int .i64 1,.int .i64 0,.int .i64 0,.int .i64 0,.int .i64 0,.int .i64 0,.int .i64 0,.int .i64 0,.int .i64 0,.int .i64 0,.int .i64 0,.int .i64 0,.int .i64 0,.int .i64 3,.int .i64 0,.int .i64 3,.int .i64 0,.int .i64 3,.int .i64 0,.int .i64 3,.int .i64 0,.int .i64 3,.int .i64 0,.int .i64 3,.int .i64 0,.int .i64 3,.int .i64 0]:=by kernel_rfl
theorem nL(w:World):Calls prog 8 #[] w λe w'=>e= .returned true/\af [] w w':=by
 have HN:=aH (λ(W:World) (v u:Value) (hx:aZ W 0 v [-1,0,0]) (hy:aZ W 0 u [1,1,2,2])=>(zf (g:=2) (l:=4) (par:=1) (bud:=1) IQ aO aO aO aO).S9 W v u hx hy);go_enter func8,ntmps8;go_wp2_with fail;refine(L2 _).mono ?_;rintro e w1 ⟨v,u,rfl,hx,hy,X⟩;have S:=aH (HN.o w1 v u hx hy);have N:=aH X;clear hx hy X HN;go_wp2_with fail;refine S.o.mono ?_;rintro e w2 ⟨bb,wo,tb,lk,L,rfl,hW,hz,Y⟩;have d:=aH L;have hs1:=N.o.size;have Z:eP bb w2 wo tb lk (L0 0):=hW.ext L Fl;have U:=aH Z;have HZ:=aH (λz (h:z∈bb.Z)=>dv hs1 (hz z h));have HF2:=aH (N.o.trans Y);clear hW hz Y Z S L;go_wp2_with fail;have hG:=(aq.new w2 #[(1:Int),(2:Int),(3:Int),(1:Int),(4:Int),(2:Int)] 68).alloc (.cells Ix.toArray 38);have f:=aq.new (w2.alloc (.cells #[(1:Int),(2:Int),(3:Int),(1:Int),(4:Int),(2:Int)] 68)) Ix.toArray 38;rw[bP] at f;have I:=((af.refl [] w2).alloc (.cells #[(1:Int),(2:Int),(3:Int),(1:Int),(4:Int),(2:Int)] 68)).alloc (.cells Ix.toArray 38);have HG:=aH hG;have G:=aH f;have s:=aH (U.o.same d.o I);have O:=aH (HF2.o.trans I);have hs2:w2.heap.size+1<((w2.alloc (.cells #[(1:Int),(2:Int),(3:Int),(1:Int),(4:Int),(2:Int)] 68)).alloc (.cells Ix.toArray 38)).heap.size:=by rw[bP,bP];omega
 clear hG f I U;generalize hWW:World.alloc (w2.alloc (.cells #[(1:Int),(2:Int),(3:Int),(1:Int),(4:Int),(2:Int)] 68)) _=W3;have hX:(w2.alloc (.cells #[(1:Int),(2:Int),(3:Int),(1:Int),(4:Int),(2:Int)] 68)).alloc (.cells Ix.toArray 38)=W3:=by rw[<-hWW,Iy]
 rw[hX] at HG G s O hs2;clear hWW hX;generalize hgb:w2.heap.size=gb at*;go_loopw[6,4] (λiv av wr=>∃k:Nat,iv= .int .i64 k/\av= .int .i64 (Cq k)/\k<=23/\eP bb wr wo tb lk (L0 k)/\af bb.Z W3 wr) (λiv _ _=>23 - (intOf iv).toNat)
 case atStart=>exact⟨0,rfl,rfl,by omega,s.o,aF⟩
 case round=>
  obtain⟨k,rfl,rfl,hk,hW,hF⟩:=hrel;have HF:=aH hF;have HWK:=aH hW;have D:=d.o.free _ _ hW.lo.at_;have R:=aH D;have J:=HG.o.Rr hF ((d.o.free _ _ s.o.lo.at_).not HG.o);have f:=G.o.Rr hF ((d.o.free _ _ s.o.lo.at_).not G.o);have Q:=aH J;clear hF hW D;by_cases n:k<23
  ·obtain⟨a1,a2,a3⟩:=L1 k n;have M:=u5 (k:=k) d.o a3 HWK.o (Gb k).1 (Gb k).2;rw[a2] at M;have E:=aH M;have T:=aH a1;have c0:=f.cell (zT n).1;have c1:=f.cell (zT n).2;have t:=OS k n;have hle:=OT k aO;have e0:decide ((k:Int)<23)=true:=aT;have e0':decide (k<23)=true:=by simpa using n
   have l1:(k:Int)<23:=by omega
   obtain⟨ev,hev⟩:∃ev,ev=J8 k:=⟨_,rfl⟩
   obtain⟨at_,q⟩:∃at_,at_=Cq k:=⟨_,rfl⟩
   obtain⟨V,p⟩:∃V,V=Cq (k+1):=⟨_,rfl⟩
   rw[<-hev] at E t;rw[<-q] at t hle;rw[<-p] at t;rw[<-q];obtain⟨r,et,ec⟩:=ev;have A:=aH p;clear M a1 a2 a3 p q hev f J;rcases t with⟨q1,q2⟩|⟨q1,q2,q3,q4⟩
   ·have y:r=0:=q1;subst y q2;go_wp2_with fail;refine gF E.o ?_;rintro w4 ⟨o,m⟩;have H:=aH o;have F:=aH m;clear o m;unfold rr jg;go_wp2_with fail;go_roundw
    case rel=>exact⟨k+1,by go_num,by rw[<-A.o],by omega,(H.o.ext d.o T.o).same d.o (aF.alloc _),(HF.o.trans F.o).alloc _⟩
    case measure=>simp[intOf];omega
   ·have y:r≠0:=q1;subst q4;have d1:(r==0)=false:=by simpa using y
    have d2:decide ((6:Int)<=at_)=false:=by simp;omega
    have d2':decide (6<=at_)=false:=by simp;omega
    have HQ3:=aH q3;have l2:(at_:Int)<6:=by omega
    clear q1 y q3 hle;go_wp2_with fail;refine gF E.o ?_;rintro w4 ⟨o,m⟩;have H:=aH o;have F:=aH m;have g0:=((Q.o.Rr m (R.o.not Q.o)).alloc (.cells #[r,et,false,ec] 35)).cell (i:=at_) (v:=.int .i64 r) (by have:=HQ3.o;unfold Pp at this;show(Pp.map (Value.int .i64))[at_]? =_;rw[iL];unfold Pp;rw[this];rfl);have g1:=(aq.new w4 #[r,et,false,ec] 35).cell (i:=0) rfl;have P:=aH ((af.refl [] w4).alloc (.cells #[r,et,false,ec] 35));clear o m;unfold rr jg;go_wp2_with fail;generalize w4.alloc (.cells #[r,et,false,ec] 35)=W5 at*;have d3:(r !=r)=false:=by simp
    go_wp2_with(go_region)
    go_roundw
    case rel=>exact⟨k+1,by go_num,by rw[<-A.o];go_num,by omega,((H.o.ext d.o T.o).same d.o P.o.Rs),((HF.o.trans F.o).trans (P.o.Rs.mono aS))⟩
    case measure=>simp[intOf];omega
  ·have e0:decide ((k:Int)<23)=false:=aB;have e0':decide (k<23)=false:=by simpa using n
   obtain rfl:k=23:=by omega
   have e1:Cq 23=6:=by decide
   rw[e1];clear f J;go_wp2;go_ret;exact⟨rfl,O.o.Rx HF.o (λz hz=>.inr (HZ.o z hz))⟩
theorem sA:fS x=0↔x=0:=by unfold fS;split<;>(try split)<;>(try split)<;>simp_all
theorem yQ(h:0<=x):fS x=1↔1<=x/\x<10:=by unfold fS;split<;>(try split)<;>(try split)<;>omega
theorem uY:fS x=2↔x=10:=by unfold fS;split<;>(try split)<;>(try split)<;>omega
theorem uZ(h:0<=x):fS x=3↔10<x:=by unfold fS;split<;>(try split)<;>(try split)<;>omega
section
variable{p:LP}{s:p.σ}{j:Nat}
theorem LP.Uc{J:Nat->p.σ->Prop}{W:p.σ->Nat}{spin:p.σ->Nat->Prop}(q:∀k s,k<100000->J k s->J (k+1) s)
 (n:∀k s (j:Nat) r,k<100000->J k s->j<p.n->(r=true->p.shares=true)->J (k+1) (p.R3 s j r))
 (t:∀k s (j:Nat),k<100000->J k s->j<p.n->J (k+1) (p.Rz s j))
 (o:∀k s (j:Nat),J k s->j<p.n->p.st s j=2->W (p.Rz s j)<W s)
 (z:∀k s (j:Nat),k<100000->J k s->j<p.n->J (k+1) (p.Ru s j))
 (hW:∀k s (j:Nat),k<100000->J k s->j<p.n->p.st s j=1\/p.st s j=3->spin s j\/W (p.Ru s j)<W s)
 (D:∀k s (j:Nat),k<100000->J k s->j<p.n->spin s j->(p.st s j=1\/p.st s j=3)/\W (p.Ru s j)<=W s/\∀i:Nat,i<p.n->(spin s i->spin (p.Ru s j) i)/\(p.st (p.Ru s j) i=0↔p.st s i=0))
 (A:∀k s (j:Nat),k<100000->J k s->j<p.n->p.Uh s j)(hV:∀k s,J k s->p.I k s)
 (hK:∀k s,J k s->(∀j:Nat,j<p.n->p.st s j=0\/spin s j)->∀j:Nat,j<p.n->p.st s j=0)
 (y:∀k s,J k s->p.n<=6->W s<1500)(v:∀k s (u:Nat) r,k<100000->p.n<=6->J k s->u<p.n->(∀j:Nat,j<p.n->p.st s j=0)->(r=true->p.shares=true)->W (p.R3 s u r)<=200)(E:∀k s (u:Nat),p.n<=6->J k s->u<p.n->(∀j:Nat,j<p.n->j≠u->p.st s j=0)->p.st s u=3->W s<=200):p.Live J W (λs i=>spin s i.toNat):=by
 have act:∀s (j:Nat),j<p.n->p.st s j≠0->(p.st s j=2/\p.act s j=p.Rz s j)\/((p.st s j=1\/p.st s j=3)/\p.act s j=p.Ru s j):=λs j hj g=>by
  have hs:bC p.n (j:Int)=true:=cl hj;unfold LP.act LP.RY;rw[ac g,hs];rcases LP.TM s j with e|e|e|e
  ·exact am e g
  ·refine .inr ⟨.inl e,?_⟩;unfold LP.step;simp[e]
  ·refine .inl ⟨e,?_⟩;unfold LP.leave;cases p.rd s j<;>simp[e]
  ·refine .inr ⟨.inr e,?_⟩;unfold LP.step;simp[e]
 have nat:∀{i:Int},dO p i->∃j:Nat,i=j/\j<p.n:=λh=>by
  obtain⟨j,rfl⟩:=ix h.1;exact⟨j,rfl,by have:=h.2;omega⟩
 refine⟨(LP.Sq (p:={p with I:=J}) q n t z).Sm,hV,λk s i f h hi=>?_,λk s i f h hi g=>?_,λk s i f h hi g hs=>?_,λk s h hs i hi=>?_,y,λk s u r f hn h l ho F=>?_,λk s u hn h l ho h3=>?_⟩
 ·obtain⟨j,rfl,hj⟩:=nat hi;exact A k s j f h hj
 ·obtain⟨j,rfl,hj⟩:=nat hi;rcases act s j hj g with⟨a,b⟩|⟨a,b⟩
  ·rw[b];exact .inr (o k s j h hj a)
  ·rw[b];exact hW k s j f h hj a
 ·obtain⟨j,rfl,hj⟩:=nat hi;obtain⟨a,b,c⟩:=D k s j f h hj hs;rcases act s j hj g with⟨d,e⟩|⟨d,e⟩
  ·omega
  ·rw[e];refine⟨b,λi hi=>?_⟩;obtain⟨m,rfl,hm⟩:=nat hi;exact c m hm
 ·obtain⟨j,rfl,hj⟩:=nat hi;exact hK k s h (λj hj=>hs j ⟨by omega,by omega⟩) j hj
 ·obtain⟨j,rfl,hj⟩:=nat l;exact v k s j r f hn h hj (λi hi=>ho i ⟨by omega,by omega⟩) F
 ·obtain⟨j,rfl,hj⟩:=nat l;exact E k s j hn h hj (λi hi hne=>ho i ⟨by omega,by omega⟩ aO) h3
end
theorem dc(hj:j<n)(b:S j 0=a):ai n S j a=true:=by unfold ai;rw[cl hj,cH,b];simp
theorem j5(hj:j<n)(c:S j 0=a)(i:Nat):bo n S j a b i 0=up (λi=>S i 0) j b i:=by rw[dQ hj c];simp[up,ag]
structure LP.Row(p:LP)(J:Nat->p.σ->Prop)(W:p.σ->Nat)(spin:p.σ->Nat->Prop):Prop where
 I:∀k s,k<100000->J k s->J (k+1) s
 V:∀k s,J k s->p.I k s
 aR:∀s (j:Nat) r,j<p.n->p.sp s j 0=0->p.Sr s j r=true
 aN:∀s (j:Nat) r,p.sp s j 0≠0->p.R3 s j r=s
 aS:∀k s (j:Nat) r,k<100000->J k s->j<p.n->p.sp s j 0=0->J (k+1) (p.R3 s j r)/\(∃x:Int,(1<=x/\x<=9)/\∀i:Nat,p.sp (p.R3 s j r) i 0=up (λi:Nat=>p.sp s i 0) j x i)/\(p.shares=true->p.sp (p.R3 s j r) j 1=if r then 1 else 0)
 lR:∀s (j:Nat),j<p.n->p.sp s j 0=10->p.RZ s j=true
 lN:∀s (j:Nat),p.sp s j 0≠10->p.Rz s j=s
 lS:∀k s (j:Nat),k<100000->J k s->j<p.n->p.sp s j 0=10->J (k+1) (p.Rz s j)/\∃x:Int,10<x/\∀i:Nat,p.sp (p.Rz s j) i 0=up (λi:Nat=>p.sp s i 0) j x i
 lW:∀k s (j:Nat),J k s->j<p.n->p.sp s j 0=10->W (p.Rz s j)<W s
 st:∀k s (j:Nat),k<100000->J k s->j<p.n->J (k+1) (p.Ru s j)/\FX p.n (W s) (W (p.Ru s j)) (λi=>p.sp s i 0) (λi=>p.sp (p.Ru s j) i 0) (spin s) (spin (p.Ru s j)) j/\fH (λi t=>p.sp s i t) (λi t=>p.sp (p.Ru s j) i t) j (p.RD s j)/\(p.shares=true->∀i:Nat,p.sp (p.Ru s j) i 1=p.sp s i 1)
 pc:∀k s (j:Nat),J k s->j<p.n->0<=p.sp s j 0
 sp:∀s (j:Nat),spin s j->p.sp s j 0≠0/\p.sp s j 0≠10
 stuck:∀k s,J k s->(∀j:Nat,j<p.n->p.sp s j 0=0\/p.sp s j 0=10\/spin s j)->(∃j:Nat,j<p.n/\p.sp s j 0=10)\/∀j:Nat,j<p.n->p.sp s j 0=0
 top:∀k s,J k s->p.n<=6->W s<1500
 lone:p.shares=false->∀k s (u:Nat),p.n<=6->J k s->u<p.n->(∀j:Nat,j<p.n->j≠u->p.sp s j 0=0)->W s<=200
 S2:p.shares=true->∀k s (u:Nat) r,p.n<=6->J k s->u<p.n->(∀j:Nat,j<p.n->p.sp s j 0=0)->W (p.R3 s u r)<=200
 out:p.shares=true->∀k s (u:Nat),p.n<=6->J k s->u<p.n->(∀j:Nat,j<p.n->j≠u->p.sp s j 0=0)->10<p.sp s u 0->W s<=200
theorem LP.Row.live{J:Nat->p.σ->Prop}{W:p.σ->Nat}{spin:p.σ->Nat->Prop}(h:p.Row J W spin):p.Live J W (λs i=>spin s i.toNat):=by
 have s0:∀(s:p.σ)(j:Nat),p.st s j=0↔p.sp s j 0=0:=λs j=>sA;have s2:∀(s:p.σ)(j:Nat),p.st s j=2↔p.sp s j 0=10:=λs j=>uY;have A:∀{s:p.σ}{j:Nat},p.st s j=1\/p.st s j=3↔p.sp s j 0≠0/\p.sp s j 0≠10:=λ{s j}=>by
  have a:=s0 s j;have b:=s2 s j;have c:=p.TM s j;omega
 have nat:∀{f g:Int->Int},(∀i:Nat,f i=g i)->∀i:Int,dO p i->f i=g i:=λh i hi=>by
  obtain⟨m,rfl⟩:=ix hi.1;exact h m
 have D:∀{s s':p.σ}{j:Nat}{x:Int},(∀i:Nat,p.sp s' i 0=up (λi:Nat=>p.sp s i 0) j x i)->p.st s' j=fS x/\∀i:Int,dO p i->i≠j->p.st s' i=p.st s i:=λ{s s' j x} h=>by
  refine⟨by show fS (p.sp s' j 0)=_;rw[h j];unfold up;rw[ad rfl],λi hi hne=>?_⟩;obtain⟨m,rfl⟩:=ix hi.1;show fS (p.sp s' m 0)=fS (p.sp s m 0);rw[h m];unfold up;rw[ac aO]
 refine LP.Uc (p:=p) (spin:=spin) h.I (λk s j r n l hj _=>?_) (λk s j n l hj=>?_) (λk s j l hj H=>?_) (λk s j n l hj=>(h.st k s j n l hj).1) (λk s j n l hj H=>?_) (λk s j n l hj hs=>?_) (λk s j n l hj=>?_) h.V (λk s l hs=>?_) h.top (λk s u r n hn l q ho N=>?_) (λk s u hn l q ho h3=>?_)
 ·by_cases t:p.sp s j 0=0
  ·exact(h.aS k s j r n l hj t).1
  ·rw[h.aN s j r t];exact h.I k s n l
 ·by_cases t:p.sp s j 0=10
  ·exact(h.lS k s j n l hj t).1
  ·rw[h.lN s j t];exact h.I k s n l
 ·exact h.lW k s j l hj ((s2 s j).1 H)
 ·obtain⟨a,b⟩:=A.1 H;exact(h.st k s j n l hj).2.1.sink a b
 ·obtain⟨a,b⟩:=h.sp s j hs;obtain⟨c,d⟩:=(h.st k s j n l hj).2.1.idle hs;exact⟨A.2 ⟨a,b⟩,c,λi hi=>⟨(d i hi).1,(s0 (p.Ru s j) i).trans ((d i hi).2.1.trans (s0 s i).symm)⟩⟩
 ·obtain⟨G, -,ok,N⟩:=h.st k s j n l hj;have p0:=h.pc _ _ _ l hj;have y:=h.pc _ _ _ G hj;have so:∀i:Int,dO p i->i≠j->p.st (p.Ru s j) i=p.st s i:=λi hi hne=>by
   obtain⟨m,rfl⟩:=ix hi.1;show fS (p.sp (p.Ru s j) m 0)=fS (p.sp s m 0);have:p.sp (p.Ru s j) m 0=p.sp s m 0:=ok.others m aO;rw[this]
  have M:∀i:Int,dO p i->p.shares=true->p.sp (p.Ru s j) i 1=p.sp s i 1:=λi hi hs=>nat (f:=λi=>p.sp (p.Ru s j) i 1) (g:=λi=>p.sp s i 1) (N hs) i hi;have z:∀i:Int,dO p i->(p.st (p.Ru s j) i=0↔p.st s i=0)->p.rd (p.Ru s j) i=p.rd s i:=λi hi e=>by
   unfold LP.rd;have:(p.st (p.Ru s j) i==0)=(p.st s i==0):=by rw[Mr];simpa using e
   rw[this];cases hs:p.shares
   ·simp
   ·rw[M i hi hs]
  have I:dO p (j:Int):=⟨by omega,by omega⟩
  refine⟨λi hi hne=>⟨so i hi hne,z i hi (by rw[so i hi hne])⟩,λh1=>?_,λh1=>?_,λh1 r L=>?_,λh1=>?_⟩
  ·have o:=(yQ p0).1 h1;obtain⟨a,b,c⟩:=ok.SX o.1 o.2;have Q:p.st (p.Ru s j) j≠0:=λe=>by have:p.sp (p.Ru s j) j 0=0:=sA.1 e;have F:1<=p.sp (p.Ru s j) j 0:=a;omega
   refine⟨?_,z _ I ⟨λe=>am e Q,λe=>by omega⟩⟩;cases v:p.RD s j with
   |true=>rw[v] at c;exact .inl ⟨rfl,uY.2 (c.1 rfl)⟩
   |false=>
    rw[v] at c;refine .inr ⟨rfl,(yQ y).2 ?_⟩;have:p.sp (p.Ru s j) j 0≠10:=λe=>by simpa using c.2 e
    exact⟨a,by have R:p.sp (p.Ru s j) j 0<=10:=b;omega⟩
  ·have o:=(uZ p0).1 h1;obtain⟨a,c⟩:=ok.going o;cases v:p.RD s j with
   |true=>rw[v] at c;exact .inl ⟨rfl,sA.2 (c.1 rfl)⟩
   |false=>
    rw[v] at c;refine .inr ⟨rfl,(uZ y).2 ?_⟩;have:p.sp (p.Ru s j) j 0≠0:=λe=>by simpa using c.2 e
    have F:p.sp (p.Ru s j) j 0=0\/10<p.sp (p.Ru s j) j 0:=a;omega
  ·obtain⟨-,⟨x,O,e⟩,P⟩:=h.aS k s j r n l hj (sA.1 h1);obtain⟨a,b⟩:=D e;have F:p.st (p.R3 s j r) j=1:=by rw[a];exact(yQ aO).2 aO
   refine⟨h.aR s j r hj (sA.1 h1),F,?_,b⟩;unfold LP.rd;rw[F];cases hs:p.shares
   ·have:r≠true:=λe=>by have:=L e;rw[hs] at this;cases this
    simp[this]
   ·rw[P hs];cases r<;>simp
  ·obtain⟨-,x,O,e⟩:=h.lS k s j n l hj (uY.1 h1);obtain⟨a,b⟩:=D e;exact⟨h.lR s j hj (uY.1 h1),by rw[a];exact(uZ aO).2 O,b⟩
 ·rcases h.stuck k s l λj hj=>by
   rcases hs j hj with e|e
   ·exact .inl ((s0 s j).1 e)
   ·exact .inr (.inr e) with⟨j,hj,e⟩|e
  ·rcases hs j hj with c|c
   ·have:=(s0 s j).1 c;omega
   ·exact am e (h.sp s j c).2
  ·exactλj hj=>(s0 s j).2 (e j hj)
 ·cases hs:p.shares
  ·obtain⟨a,⟨x, -,e⟩, -⟩:=h.aS k s u r n l q ((s0 s u).1 (ho u q));exact h.lone hs _ _ u hn a q λi hi hne=>(e i).trans ((ac hne).trans ((s0 s i).1 (ho i hi)))
  ·exact h.S2 hs k s u r hn l q λi hi=>(s0 s i).1 (ho i hi)
 ·cases hs:p.shares
  ·exact h.lone hs k s u hn l q λi hi hne=>(s0 s i).1 (ho i hi hne)
  ·exact h.out hs k s u hn l q (λi hi hne=>(s0 s i).1 (ho i hi hne)) ((uZ (h.pc _ _ _ l q)).1 h3)
structure Ng(K:CK)(k:Nat)(S:CS):Prop where
 kk:k<=100000
 ops:S.A.ops<=1000+(k:Int)
 j:fu K S
 p:K.G.p<=4/\∀v,v<K.E->(K.L v).p<=4
section
variable{K:CK}{S:CS}{t k:Nat}
theorem fu.Ug(h:fu K S):dU K S:=⟨λt ht=>by have:=h.RC ht;omega,λv hv e=>(h.l v hv).fi.Vk e,λe=>h.g.fi.Vk e⟩
theorem CX(h:S.TS t 0≠0):bu K S (t:Nat)=S:=by unfold bu ai;simp[h]
theorem xW(h:S.TS t 0≠10):bj K S (t:Nat)=S:=by unfold bj;rw[i3 h]
theorem AH(h:bw K S t):S.TS t 0≠0/\S.TS t 0≠10:=by unfold bw at h;omega
theorem Nh(K:CK):(AF K).Row (Ng K) (f7 K) (bw K) where
 I:=λk s g h=>{h with kk:=by omega,ops:=by have:=h.ops;omega}
 V:=λk s h=>h.j.Ug
 aR:=λs j _ hj f=>dc hj f
 aN:=λs j r f=>CX f
 aS:=λk s j r g h hj f=>by
  obtain⟨a, -, -,b,e⟩:=h.j.ask hj f;exact⟨⟨by omega,by show(bu K s j).A.ops<=_;rw[e];have:=h.ops;omega,a,h.p⟩,⟨1,by omega,b⟩,nofun⟩
 lR:=λs j hj f=>dc hj f
 lN:=λs j f=>xW f
 lS:=λk s j g h hj f=>by
  obtain⟨e,a, -⟩:=h.j.leave hj f;exact⟨⟨by omega,by show(bj K s j).A.ops<=_;rw[e];have:=h.ops;show s.A.ops<=_;omega,a,h.p⟩,11,by omega,j5 hj f⟩
 lW:=λk s j h hj f=>by have:=(h.j.leave hj f).2.2.1;show f7 K (bj K s j)<_;omega
 st:=λk s j g h hj=>by
  have a:=h.j.step (by have:=h.ops;omega) hj;exact⟨⟨by omega,by have:=a.ops;have:=h.ops;show(ay K s j).A.ops<=_;omega,a.j,h.p⟩,a.w,a.ok,nofun⟩
 pc:=λk s j h hj=>by have:=h.j.RC hj;show 0<=s.TS j 0;omega
 sp:=λs j h=>AH h
 stuck:=λk s h hs=>h.j.stuck hs
 top:=λk s h hn=>by
  have a:=h.j.top h.p;have b:=u4 s.TS K.n;have c:K.n<=6:=hn;have d:a7 s.TS K.n*(8*a7 s.TS K.n+8*K.n+39)<=6*(8*6+8*6+39):=vf aO aO;omega
 S2:=nofun
 out:=nofun
 lone:=λ_ k s u hn h i ho=>by
  have a:=h.j.top h.p;have b:a7 s.TS K.n<=1:=mj i ho;have c:K.n<=6:=hn;have d:a7 s.TS K.n*(8*a7 s.TS K.n+8*K.n+39)<=1*(8*1+8*6+39):=vf b aO;omega
end
section
variable{K:FK}{S:Nat->Nat->Int}{A:AR}{j:Nat}
theorem Dd(h:cQ K S A j):S j 0≠0/\S j 0≠10:=by
 unfold cQ at h
 split at h
 ·have:=h.1;omega
 ·split at h
  ·have:=h.1;omega
  ·split at h
   ·have:=h.1;omega
   ·split at h
    ·unfold gw at h;omega
    ·have:=h.1;omega
theorem GQ(h:S j 0≠0):gM K S j=S:=by
 unfold gM;split
 ·unfold wX nB;rw[cH];simp[h]
 ·exact i3 h
structure Rg(K:FK)(k:Nat)(s:AR×(Nat->Nat->Int)):Prop where
 kk:k<=100000
 fit:s.1.Fit
 fj:FJ K s.2 s.1
 ops:s.1.ops<=1000+(k:Int)
 end_:K.b+K.size<=s.1.taken+1
theorem Np(hK:K.Ok)(l:K.p<=4):(yd K).Row (Rg K) (λs=>fW K s.2 s.1) (λs=>cQ K s.2 s.1) where
 I:=λk s g h=>⟨by omega,h.fit,h.fj,by have:=h.ops;omega,h.end_⟩
 V:=λk s h=>⟨h.fit,h.fj.fi,h.ops,h.end_⟩
 aR:=λs j _ hj f=>dc hj f
 aN:=λs j r f=>sI (Prod.mk s.1) (GQ f)
 aS:=λk s j r g h hj f=>by
  obtain⟨-,b,c⟩:=h.fj.fi.ask hK hj f;exact⟨⟨by omega,h.fit,(h.fj.ask hK hj f).1,by have:=h.ops;show s.1.ops<=_;omega,h.end_⟩,⟨1,by omega,λi=>by unfold up;split;subst i;exact b;exact c i ‹_›⟩,nofun⟩
 lR:=λs j hj f=>dc hj f
 lN:=λs j f=>sI (Prod.mk s.1) (i3 f)
 lS:=λk s j g h hj f=>⟨⟨by omega,h.fit,(h.fj.leave hK hj f).1,by have:=h.ops;show s.1.ops<=_;omega,h.end_⟩,11,by omega,j5 hj f⟩
 lW:=λk s j h hj f=>(h.fj.leave hK hj f).2.1
 st:=λk s j g h hj=>by
  have hl:s.1.ops<1000000000:=by have:=h.ops;omega
  obtain⟨-,o, -,d⟩:=h.fj.fi.step hK h.fit hl h.end_ hj;obtain⟨a,b⟩:=h.fj.step hK h.fit hl h.end_ hj;have:=o.le;have:=h.ops;exact⟨⟨by omega,o.fit h.fit hl,a,by show(bL K s.2 s.1 j).ops<=_;omega,by show _<=(bL K s.2 s.1 j).taken+1;rw[o.taken];exact h.end_⟩,b,d,nofun⟩
 pc:=λk s j h hj=>h.fj.fi.pc hK hj
 sp:=λs j h=>Dd h
 stuck:=λk s h hs=>h.fj.stuck hK h.fit h.end_ hs
 top:=λk s h hn=>by
  have a:=h.fj.top λj hj=>h.fj.fi.pc hK hj;have b:=u4 s.2 K.n;have c:K.n<=6:=hn;have d:a7 s.2 K.n*K.p<=6*4:=vf aO l;have e:a7 s.2 K.n*(if K.k=1 then a7 s.2 K.n*K.p+K.p+3 else 14)<=6*31:=vf aO (by split<;>omega);omega
 S2:=nofun
 out:=nofun
 lone:=λ_ k s u hn h m ho=>by
  have a:=h.fj.top λj hj=>h.fj.fi.pc hK hj;have b:=mj m ho;have d:a7 s.2 K.n*K.p<=1*4:=vf b l;have e:a7 s.2 K.n*(if K.k=1 then a7 s.2 K.n*K.p+K.p+3 else 14)<=1*14:=vf b (by split<;>omega);omega
end
end Go.Proofs.YteijjhahgabalaaGreat
