/- A lock of any kind as the world sees it: what it does (LP), where it lies (LB). -/
import Derived.Handy
import Derived.Test.YteijjhahgabalaaGreatWA13
import Derived.Test.YteijjhahgabalaaGreatWA06
import Derived.Test.YteijjhahgabalaaGreatWA28
import Derived.Test.YteijjhahgabalaaGreatWA08
import Derived.Test.YteijjhahgabalaaGreatWA25
import Derived.BigQuiet
set_option maxRecDepth 100000
set_option maxHeartbeats 8000000
set_option linter.all false
namespace Go.Proofs.YteijjhahgabalaaGreat
open Go.RowKit
open Tryz
def sZ:List TypeId:=[138,93,158,35,4,250,252,270,229,254]
def dI (w:World) (Z:List Nat):Prop:=∀z∈Z,∃vs T,am w z vs T∧T∈sZ
theorem dI.not {w:World} {Z:List Nat} (h:dI w Z) {b:Nat} {vs:List Value} {T:TypeId} (hb:am w b vs T) (ht:T∉sZ:=by decide):b∉Z:=fun hm=>by
 obtain⟨vs',T',h',hf⟩:=h b hm;exact absurd rfl (hb.differ h' (fun e=>ht (e ▸ hf)))
theorem dI.sub {w:World} {Z Z':List Nat} (h:dI w Z) (hs:∀z∈Z',z∈Z):dI w Z':=fun z hz=>h z (hs z hz)
theorem dI.nil (w:World):dI w []:=fun z hz=>by simp at hz
theorem dI.one {w:World} {b:Nat} {vs:List Value} {T:TypeId} (hb:am w b vs T) (ht:T∈sZ:=by decide):dI w [b]:=fun z hz=>by
 obtain rfl:z=b:=by simpa using hz
 exact⟨_,_,hb,ht⟩
structure LP where
 σ:Type
 n:Nat
 shares:Bool
 ar:σ→AR
 I:Nat→σ→Prop
 askR:σ→Int→Bool→Bool
 askS:σ→Int→Bool→σ
 leaveR:σ→Int→Bool
 leaveS:σ→Int→σ
 stepR:σ→Int→Bool
 stepS:σ→Int→σ
 sp:σ→Int→Nat→Int
 cnt:σ→Int→Int
 eqv:σ→σ→Prop:=Eq
def d9 (p:LP) (s:p.σ) (i:Int):Value:=.agg #[(p.sp s i 0:Int),(p.sp s i 1:Int),(p.sp s i 2:Int),(p.sp s i 3:Int)]
def pJ (pc:Int):Int:=if pc=0 then 0 else if pc<10 then 1 else if pc=10 then 2 else 3
def LP.st (p:LP) (s:p.σ) (i:Int):Int:=pJ (p.sp s i 0)
def LP.rd (p:LP) (s:p.σ) (i:Int):Bool:= !(p.st s i==0)&&p.shares&&(p.sp s i 1==1)
structure LB (p:LP) where
 T:TypeId
 v:Value
 Z:List Nat
 ab:Nat
 wb:Nat
 kind:Int
 At:World→p.σ→Prop
 nAsk:FuncId
 rAsk:Value
 nLeave:FuncId
 rLeave:Value
 nStep:FuncId
 rStep:Value
 nSpot:FuncId
 rSpot:Value
 nCount:FuncId
 rCount:Value
section
variable{p:LP}
def eO (p:LP) (i:Int):Prop:=0≤i∧i<(p.n:Int)
structure LB.Ok (b:LB p):Prop where
 n32:p.n≤32
 mAsk:∀F w,(method (F+4) b.T b.v "Ask").run prog w= .ok (b.nAsk,b.rAsk) w
 mLeave:∀F w,(method (F+4) b.T b.v "Leave").run prog w= .ok (b.nLeave,b.rLeave) w
 mStep:∀F w,(method (F+4) b.T b.v "Step").run prog w= .ok (b.nStep,b.rStep) w
 mSpot:∀F w,(method (F+4) b.T b.v "Spot").run prog w= .ok (b.nSpot,b.rSpot) w
 mCount:∀F w,(method (F+4) b.T b.v "Count").run prog w= .ok (b.nCount,b.rCount) w
 eAsk:∀args w,(callFunc b.nAsk args).run prog w= .ok (.enter b.nAsk args) w
 eLeave:∀args w,(callFunc b.nLeave args).run prog w= .ok (.enter b.nLeave args) w
 eStep:∀args w,(callFunc b.nStep args).run prog w= .ok (.enter b.nStep args) w
 eSpot:∀args w,(callFunc b.nSpot args).run prog w= .ok (.enter b.nSpot args) w
 eCount:∀args w,(callFunc b.nCount args).run prog w= .ok (.enter b.nCount args) w
 cAsk:∀w k s i r,p.I k s→b.At w s→eO p i→(r=true→p.shares=true)→Calls prog b.nAsk #[b.rAsk,.int .i64 i,.bool r] w fun e w'=>e= .returned (.bool (p.askR s i r))∧b.At w' (p.askS s i r)∧ae b.Z w w'
 cLeave:∀w k s i,p.I k s→b.At w s→eO p i→Calls prog b.nLeave #[b.rLeave,.int .i64 i] w fun e w'=>e= .returned (.bool (p.leaveR s i))∧b.At w' (p.leaveS s i)∧ae b.Z w w'
 cStep:∀w k s i,p.I k s→b.At w s→eO p i→Calls prog b.nStep #[b.rStep,.int .i64 i] w fun e w'=>e= .returned (.bool (p.stepR s i))∧b.At w' (p.stepS s i)∧ae b.Z w w'
 cSpot:∀w s i,b.At w s→eO p i→Calls prog b.nSpot #[b.rSpot,.int .i64 i] w fun e w'=>e= .returned (d9 p s i)∧ae [] w w'
 cCount:∀w s i,b.At w s→eO p i→Calls prog b.nCount #[b.rCount,.int .i64 i] w fun e w'=>e= .returned (p.cnt s i:Int)∧ae [] w w'
 shares:∀w,Calls prog 11 #[b.kind] w fun e w'=>e= .returned p.shares∧w=w'
 ar:∀w s,b.At w s→aj w b.ab b.wb (p.ar s)
 free:∀w s,b.At w s→dI w b.Z
 stay:∀w w' s S,b.At w s→ae S w w'→dI w S→(∀z∈S,z∉b.Z)→b.At w' s
 ext:∀w s s',p.eqv s s'→b.At w s→b.At w s':=by intro w s s' e h;cases e;exact h
structure nY (b:LB p) (w:World) (lk:Nat) (s:p.σ):Prop where
 box:am w lk [b.kind,p.n,.iface b.T b.v] 119
 at_:b.At w s
structure dA (b:LB p) (w:World) (wo tb lk:Nat) (s:p.σ):Prop where
 box:am w wo [some b.ab,some tb,some lk,p.shares] 82
 lo:nY b w lk s
variable{b:LB p} {w w':World} {wo tb lk:Nat} {s s':p.σ}
theorem LB.Ok.same (h:b.Ok) (ha:b.At w s) (hf:ae [] w w'):b.At w' s:=h.stay _ _ _ _ ha hf (dI.nil _) aS
theorem nY.same (h:b.Ok) (ha:nY b w lk s) (hf:ae [] w w'):nY b w' lk s:=⟨ha.box.frm hf aS,h.same ha.at_ hf⟩
theorem nY.next (h:b.Ok) (ha:nY b w lk s) (hf:ae b.Z w w') (hc:b.At w' s'):nY b w' lk s':=⟨ha.box.frm hf ((h.free _ _ ha.at_).not ha.box),hc⟩
theorem dA.same (h:b.Ok) (ha:dA b w wo tb lk s) (hf:ae [] w w'):dA b w' wo tb lk s:=⟨ha.box.frm hf aS,ha.lo.same h hf⟩
theorem dA.ext (h:b.Ok) (ha:dA b w wo tb lk s) (e:p.eqv s s'):dA b w wo tb lk s':=⟨ha.box,ha.lo.box,h.ext _ _ _ e ha.lo.at_⟩
theorem dA.next (h:b.Ok) (ha:dA b w wo tb lk s) (hf:ae b.Z w w') (hc:nY b w' lk s'):dA b w' wo tb lk s':=⟨ha.box.frm hf ((h.free _ _ ha.lo.at_).not ha.box),hc⟩
theorem dA.stay (h:b.Ok) (ha:dA b w wo tb lk s) {S:List Nat} (hf:ae S w w') (hs:dI w S) (hz:∀z∈S,z∉b.Z):dA b w' wo tb lk s:=⟨ha.box.frm hf (hs.not ha.box),ha.lo.box.frm hf (hs.not ha.lo.box),h.stay _ _ _ _ ha.lo.at_ hf hs hz⟩
end
theorem bY (a b c d:Int) (W:World):(Instr.field 138 (.agg #[a,b,c,d]) 0).run prog W= .ok (.int .i64 a) W:=by kernel_rfl
theorem sX (a b c d:Int) (W:World):(Instr.field 138 (.agg #[a,b,c,d]) 1).run prog W= .ok (.int .i64 b) W:=by kernel_rfl
section
variable{p:LP} {b:LB p} {w w':World} {lk:Nat} {s s':p.σ} {i:Int} {k:Nat}
theorem px (h:nY b w lk s):Calls prog 41 #[some lk] w fun e w'=>e= .returned p.n∧w=w':=by
 have c1:=h.box.cell (i:=1) rfl;clear h;go_enter func41,ntmps41;go_wp2;go_ret;exact⟨rfl,rfl⟩
theorem r7 (h:nY b w lk s) (hi:eO p i):Calls prog 59 #[some lk,i] w fun e w'=>e= .returned true∧w=w':=by
 have HT:=aH (px h);have d1:decide (0≤i)=true:=decide_eq_true hi.1;have d2:decide (i<(p.n:Int))=true:=decide_eq_true hi.2;clear h hi;go_enter func59,ntmps59;go_wp2_with fail;refine HT.o.mono ?_;rintro e w' ⟨rfl,rfl⟩;go_wp2;go_ret;exact⟨rfl,rfl⟩
theorem AF (h:b.Ok) (hI:p.I k s) (ha:nY b w lk s) (hi:eO p i):Calls prog 42 #[some lk,i] w fun e w'=>e= .returned (.bool (p.stepR s i))∧nY b w' lk (p.stepS s i)∧ae b.Z w w':=by
 have HH:=aH (r7 ha hi);have HC:=aH (h.cStep _ _ _ _ hI ha.at_ hi);have HN:=aH (fun w' s'=>ha.next (w':=w') (s':=s') h);have hm:∀w,(method 437 b.T b.v "Step").run prog w= .ok (b.nStep,b.rStep) w:=h.mStep 433;have he:=h.eStep;have c2:=ha.box.cell (i:=2) rfl;clear h hI ha hi;go_enter func42,ntmps42;go_wp2_with fail;refine HH.o.mono ?_;rintro e w' ⟨rfl,rfl⟩;go_wp2_with fail;refine HC.o.mono ?_;rintro e w1 ⟨rfl,hA,hF⟩;have HA:=aH (HN.o _ _ hF hA);have HF:=aH hF;clear hA hF;go_wp2;go_ret;exact⟨rfl,HA.o,HF.o⟩
theorem uK (h:b.Ok) (hI:p.I k s) (ha:nY b w lk s) (hi:eO p i):Calls prog 45 #[some lk,i] w fun e w'=>e= .returned (.bool (p.leaveR s i))∧nY b w' lk (p.leaveS s i)∧ae b.Z w w':=by
 have HH:=aH (r7 ha hi);have HC:=aH (h.cLeave _ _ _ _ hI ha.at_ hi);have HN:=aH (fun w' s'=>ha.next (w':=w') (s':=s') h);have hm:∀w,(method 437 b.T b.v "Leave").run prog w= .ok (b.nLeave,b.rLeave) w:=h.mLeave 433;have he:=h.eLeave;have c2:=ha.box.cell (i:=2) rfl;clear h hI ha hi;go_enter func45,ntmps45;go_wp2_with fail;refine HH.o.mono ?_;rintro e w' ⟨rfl,rfl⟩;go_wp2_with fail;refine HC.o.mono ?_;rintro e w1 ⟨rfl,hA,hF⟩;have HA:=aH (HN.o _ _ hF hA);have HF:=aH hF;clear hA hF;go_wp2;go_ret;exact⟨rfl,HA.o,HF.o⟩
theorem Dn (h:b.Ok) (hI:p.I k s) (ha:nY b w lk s) (hi:eO p i) (r:Bool) (hrs:r=true→p.shares=true):Calls prog 44 #[some lk,i,r] w fun e w'=>e= .returned (.bool (p.askR s i r))∧nY b w' lk (p.askS s i r)∧ae b.Z w w':=by
 have HH:=aH (r7 ha hi);have HC:=aH (h.cAsk _ _ _ _ r hI ha.at_ hi hrs);have HN:=aH (fun w' s'=>ha.next (w':=w') (s':=s') h);have hm:∀w,(method 437 b.T b.v "Ask").run prog w= .ok (b.nAsk,b.rAsk) w:=h.mAsk 433;have he:=h.eAsk;have c2:=ha.box.cell (i:=2) rfl;clear h hI ha hi hrs;go_enter func44,ntmps44;go_wp2_with fail;refine HH.o.mono ?_;rintro e w' ⟨rfl,rfl⟩;go_wp2_with fail;refine HC.o.mono ?_;rintro e w1 ⟨rfl,hA,hF⟩;have HA:=aH (HN.o _ _ hF hA);have HF:=aH hF;clear hA hF;go_wp2;go_ret;exact⟨rfl,HA.o,HF.o⟩
theorem Bv (h:b.Ok) (ha:nY b w lk s) (hi:eO p i):Calls prog 43 #[some lk,i] w fun e w'=>e= .returned (p.cnt s i:Int)∧ae [] w w':=by
 have HH:=aH (r7 ha hi);have HC:=aH (h.cCount _ _ _ ha.at_ hi);have hm:∀w,(method 437 b.T b.v "Count").run prog w= .ok (b.nCount,b.rCount) w:=h.mCount 433;have he:=h.eCount;have c2:=ha.box.cell (i:=2) rfl;clear h ha hi;have hnot:= @aX prog;go_enter func43,ntmps43;go_wp2_with fail;refine HH.o.mono ?_;rintro e w' ⟨rfl,rfl⟩;go_wp2_with fail;refine HC.o.mono ?_;rintro e w1 ⟨rfl,hF⟩;have HF:=aH hF;clear hF;go_wp2;go_ret;exact⟨rfl,HF.o⟩
theorem yK (h:b.Ok) (ha:nY b w lk s) (hi:eO p i):Calls prog 60 #[some lk,i] w fun e w'=>e= .returned (d9 p s i)∧ae [] w w':=by
 have hF0:ae [] w (w.alloc (.cells #[(0:Int),(0:Int),(0:Int),(0:Int)] 138)):=aF.alloc _;have hB:am (w.alloc (.cells #[(0:Int),(0:Int),(0:Int),(0:Int)] 138)) w.heap.size [(0:Int),(0:Int),(0:Int),(0:Int)] 138:=am.new w _ _;have h2:=ha.same h hF0;have HH:=aH (r7 h2 hi);have hC:=h.cSpot _ _ _ h2.at_ hi;have hm:∀w,(method 437 b.T b.v "Spot").run prog w= .ok (b.nSpot,b.rSpot) w:=h.mSpot 433;have he:=h.eSpot;have c2:=h2.box.cell (i:=2) rfl;have hnot:= @aX prog;unfold d9 at hC⊢;generalize p.sp s i 0=a at*;generalize p.sp s i 1=b1 at*;generalize p.sp s i 2=c at*;generalize p.sp s i 3=d at*;have HC:=aH hC;have HB0:=aH hB;have HF0:=aH hF0;clear h ha hi h2 hC hB hF0;go_enter func60,ntmps60;go_wp2_with fail;refine HH.o.mono ?_;rintro e w' ⟨rfl,rfl⟩;go_wp2_with fail;refine HC.o.mono ?_;rintro e w1 ⟨rfl,hF⟩;have hB1:=HB0.o.frm hF aS;have b0:=hB1.cell (i:=0) rfl;have b1':=hB1.cell (i:=1) rfl;have b2:=hB1.cell (i:=2) rfl;have b3:=hB1.cell (i:=3) rfl;have bz:=hB1.frozen;have hlt:=hB1.lt;have HW2:=aH (show am ((((w1.setCell (w.heap.size,0) (.int .i64 a)).setCell (w.heap.size,1) (.int .i64 b1)).setCell (w.heap.size,2) (.int .i64 c)).setCell (w.heap.size,3) (.int .i64 d)) w.heap.size [a,b1,c,d] 138∧ae [] w ((((w1.setCell (w.heap.size,0) (.int .i64 a)).setCell (w.heap.size,1) (.int .i64 b1)).setCell (w.heap.size,2) (.int .i64 c)).setCell (w.heap.size,3) (.int .i64 d)) from⟨(((hB1.set 0 (.int .i64 a)).set 1 (.int .i64 b1)).set 2 (.int .i64 c)).set 3 (.int .i64 d),((((HF0.o.trans hF).set _ _ (.inr (Nat.le_refl _))).set _ _ (.inr (Nat.le_refl _))).set _ _ (.inr (Nat.le_refl _))).set _ _ (.inr (Nat.le_refl _))⟩);clear hF hB1;go_wp2_with fail;generalize(((w1.setCell (w.heap.size,0) (.int .i64 a)).setCell (w.heap.size,1) (.int .i64 b1)).setCell (w.heap.size,2) (.int .i64 c)).setCell (w.heap.size,3) (.int .i64 d)=W2 at*;have k0:=HW2.o.1.cell (i:=0) rfl;have k1:=HW2.o.1.cell (i:=1) rfl;have k2:=HW2.o.1.cell (i:=2) rfl;have k3:=HW2.o.1.cell (i:=3) rfl;exact bodyPost_ret (v:=.agg #[a,b1,c,d]) (by simp[results,results60,go_sem,k0,k1,k2,k3]) rfl ⟨rfl,HW2.o.2⟩
theorem uS (h:b.Ok) (ha:nY b w lk s) (hi:eO p i):Calls prog 46 #[some lk,i] w fun e w'=>e= .returned (p.st s i:Int)∧ae [] w w':=by
 have hS:=yK h ha hi;have fd:=bY;unfold d9 at hS;unfold LP.st;generalize p.sp s i 0=q at*;have HS:=aH hS;clear h ha hi hS;have hc:(q=0∧pJ q=0)∨((q==0)=false∧decide (q<10)=true∧pJ q=1)∨(q=10∧pJ q=2)∨((q==0)=false∧decide (q<10)=false∧(q==10)=false∧pJ q=3):=by
  unfold pJ;by_cases h0:q=0
  ·left;exact⟨h0,if_pos h0⟩
  ·right;by_cases h1:q<10
   ·left;exact⟨by simpa using h0,by simpa using h1,by rw[if_neg h0,if_pos h1]⟩
   ·right;by_cases h2:q=10
    ·left;exact⟨h2,by rw[if_neg h0,if_neg h1,if_pos h2]⟩
    ·right;exact⟨by simpa using h0,by simpa using h1,by simpa using h2,by rw[if_neg h0,if_neg h1,if_neg h2]⟩
 rcases hc with⟨rfl,hv⟩|⟨d0,d1,hv⟩|⟨rfl,hv⟩|⟨d0,d1,d2,hv⟩;all_goals
  rw[hv];clear hv;go_enter func46,ntmps46;go_wp2_with fail;refine HS.o.mono ?_;rintro e w1 ⟨rfl,hF⟩;have HF:=aH hF;clear hF;go_wp2;go_ret;exact⟨rfl,HF.o⟩
theorem BZ (h:b.Ok) (ha:nY b w lk s) (hi:eO p i):Calls prog 47 #[some lk,i] w fun e w'=>e= .returned (.bool (p.rd s i))∧ae [] w w':=by
 have HS:=aH (uS h ha hi);have HP:=aH (fun(W:World) (hf:ae [] w W)=>yK h (ha.same h hf) hi);have HM:=aH h.shares;have HB:=aH (fun(W:World) (hf:ae [] w W)=>(ha.same h hf).box);have fd:=sX;unfold d9 at HP;unfold LP.rd;generalize p.st s i=st at*;generalize p.sp s i 1=q at*;generalize p.shares=sh at*;clear h ha hi;have hc:(st=0)∨((st==0)=false∧(st !=0)=true):=by
  by_cases h0:st=0
  ·exact .inl h0
  ·exact .inr ⟨by simpa using h0,by simpa using h0⟩
 rcases hc with rfl|⟨d0,d1⟩
 ·go_enter func47,ntmps47;go_wp2_with fail;refine HS.o.mono ?_;rintro e w1 ⟨rfl,hF⟩;have HF:=aH hF;clear hF;go_wp2;go_ret;exact⟨rfl,HF.o⟩
 ·rw[d0];cases sh with
  |false=>
   go_enter func47,ntmps47;go_wp2_with fail;refine HS.o.mono ?_;rintro e w1 ⟨rfl,hF⟩;have HF:=aH hF;have c0:=(HB.o _ hF).cell (i:=0) rfl;clear hF;go_wp2_with fail;refine(HM.o _).mono ?_;rintro e w' ⟨rfl,rfl⟩;go_wp2;go_ret;exact⟨rfl,HF.o⟩
  |true=>
   go_enter func47,ntmps47;go_wp2_with fail;refine HS.o.mono ?_;rintro e w1 ⟨rfl,hF⟩;have HF:=aH hF;have c0:=(HB.o _ hF).cell (i:=0) rfl;clear hF;go_wp2_with fail;refine(HM.o _).mono ?_;rintro e w' ⟨rfl,rfl⟩;go_wp2_with fail;refine(HP.o _ HF.o).mono ?_;rintro e w2 ⟨rfl,hF⟩;have HF2:=aH (HF.o.trans hF);clear hF;go_wp2;go_ret;exact⟨rfl,HF2.o⟩
end
def it (k th:Int) (r:Bool) (c:Int):Value:=.agg #[k,th,r,c]
def LP.stepE (p:LP) (s:p.σ) (i:Int):Int×Int:=if p.st s i=1∧p.stepR s i=true then(2,p.cnt (p.stepS s i) i) else if p.st s i=3∧p.stepR s i=true then(4,0) else(0,0)
def LP.step (p:LP) (s:p.σ) (i:Int):p.σ:=if p.st s i=1∨p.st s i=3 then p.stepS s i else s
theorem eE {wx:World} {r:Nat} {x:List Value} (hr:am wx r x 35) (k th:Int) (rd:Bool) (c:Int) (hx:x.length=4):
 am ((((wx.setCell (r,0) (.int .i64 k)).setCell (r,1) (.int .i64 th)).setCell (r,2) (.bool rd)).setCell (r,3) (.int .i64 c)) r [k,th,rd,c] 35∧
 ae [r] wx ((((wx.setCell (r,0) (.int .i64 k)).setCell (r,1) (.int .i64 th)).setCell (r,2) (.bool rd)).setCell (r,3) (.int .i64 c)):=by
 obtain⟨a,b,c',d,rfl⟩:∃a b c d,x=[a,b,c,d]:=by
  match x,hx with
  | [a,b,c,d],_=>exact⟨a,b,c,d,rfl⟩
 exact⟨((((hr.set 0 (.int .i64 k)).set 1 (.int .i64 th)).set 2 (.bool rd)).set 3 (.int .i64 c)),((aU.set _ _ (.inl aS)).set _ _ (.inl aS)).set _ _ (.inl aS)⟩
section
variable{p:LP} {b:LB p} {w w':World} {wo tb lk:Nat} {s s':p.σ} {i:Int} {k:Nat}
theorem LB.Ok.new (h:b.Ok) (h0:b.At w s) {r:Nat} (hr:w.heap.size≤r):r∉b.Z:=fun hm=>by
 obtain⟨_,_,hh,_⟩:=h.free _ _ h0 r hm;have:=hh.lt;omega
theorem dA.evs (ha:dA b w' wo tb lk s') {w'':World} {r:Nat} {vs:List Value} (h:b.Ok) (h0:b.At w s) (hk:am w' r vs 35) (hr:w.heap.size≤r) (hf:ae [r] w' w''):dA b w'' wo tb lk s':=
 ha.stay h hf (dI.one hk) (fun z hz=>by
  obtain rfl:z=r:=by simpa using hz
  exact h.new h0 hr)
theorem gO (ha:dA b w wo tb lk s):Calls prog 24 #[some wo] w fun e w'=>e= .returned p.n∧w=w':=by
 have c2:=ha.box.cell (i:=2) rfl;have HT:=aH (px ha.lo);clear ha;go_enter func24,ntmps24;go_wp2_with fail;refine HT.o.mono ?_;rintro e w' ⟨rfl,rfl⟩;go_wp2;go_ret;exact⟨rfl,rfl⟩
theorem eQ (h:b.Ok) (ha:dA b w wo tb lk s) (hi:eO p i):Calls prog 28 #[some wo,i] w fun e w'=>e= .returned (.tuple #[(p.st s i:Int),.bool (p.rd s i)])∧ae [] w w':=by
 have HW1:=aH ha;have HST:=aH (fun(W:World) (hf:ae [] w W)=>uS h (ha.lo.same h hf) hi);have HRD:=aH (fun(W:World) (hf:ae [] w W)=>BZ h (ha.lo.same h hf) hi);have hne:=aW [] w;have hz0:∀q:HW (fun wx=>ae [] w wx),q.w.cell? (wo,2)=some (.pointer (some ⟨lk,0,none⟩)):=fun q=>(HW1.o.same h q.h).box.cell (i:=2) rfl;generalize p.st s i=st at*;generalize p.rd s i=rd at*;clear ha hi;go_enter func28,ntmps28;go_wp2_with fail;refine aG (fun wx=>ae [] w wx) ?_;refine aR (fuel:=4) [0,1,2,3,4,6,7,8,9,10] rfl aF.drew1 ?_;intro K hK;repeat (go_big_quiet_step (fail))
 refine wpQuiet_nil (hK _ ?_);clear hK K;refine aL 5 (fuel:=3) rfl ?_;go_wp2_with fail;refine(HST.o _ ((ae.refl [] w).drew1)).mono ?_;rintro e w1 ⟨rfl,hF1⟩;have HF1:=aH (((ae.refl [] w).drew1).trans hF1);clear hF1;go_wp2_with fail;refine af ⟨HF1.o,?_⟩;refine aL 11 (fuel:=2) rfl ?_;go_wp2_with fail;refine(HRD.o _ HF1.o).mono ?_;rintro e w2 ⟨rfl,hF2⟩;have HF2:=aH (HF1.o.trans hF2);clear hF2;go_wp2_with fail;refine af ⟨HF2.o,?_⟩;refine aR (fuel:=0) [12,13] rfl HF2.o ?_;intro K hK;repeat (go_big_quiet_step (fail))
 refine wpQuiet_nil (hK _ ?_);clear hK K;refine aN ?_;go_wp2;go_ret2;exact⟨rfl,HF2.o⟩
theorem gX:(∀{p:LP} {b:LB p} {w:World} {wo tb lk:Nat} {s:p.σ} {i:Int} {k:Nat} (h:b.Ok) (hI:p.I k s) (ha:dA b w wo tb lk s) (hi:eO p i) (h1:p.st s i≠1) (h3:p.st s i≠3),Calls prog 25 #[some wo,i] w fun e w'=>e= .returned (it 0 i (p.rd s i) (0))∧dA b w' wo tb lk (s)∧ae b.Z w w')∧(∀{p:LP} {b:LB p} {w:World} {wo tb lk:Nat} {s:p.σ} {i:Int} {k:Nat} (h:b.Ok) (hI:p.I k s) (ha:dA b w wo tb lk s) (hi:eO p i) (hst:p.st s i=1) (hr:p.stepR s i=false),Calls prog 25 #[some wo,i] w fun e w'=>e= .returned (it 0 i (p.rd s i) (0))∧dA b w' wo tb lk (p.stepS s i)∧ae b.Z w w')∧(∀{p:LP} {b:LB p} {w:World} {wo tb lk:Nat} {s:p.σ} {i:Int} {k:Nat} (h:b.Ok) (hI:p.I k s) (ha:dA b w wo tb lk s) (hi:eO p i) (hst:p.st s i=3) (hr:p.stepR s i=false),Calls prog 25 #[some wo,i] w fun e w'=>e= .returned (it 0 i (p.rd s i) (0))∧dA b w' wo tb lk (p.stepS s i)∧ae b.Z w w')∧(∀{p:LP} {b:LB p} {w:World} {wo tb lk:Nat} {s:p.σ} {i:Int} {k:Nat} (h:b.Ok) (hI:p.I k s) (ha:dA b w wo tb lk s) (hi:eO p i) (hst:p.st s i=3) (hr:p.stepR s i=true),Calls prog 25 #[some wo,i] w fun e w'=>e= .returned (it 4 i (p.rd s i) (0))∧dA b w' wo tb lk (p.stepS s i)∧ae b.Z w w')∧(∀{p:LP} {b:LB p} {w:World} {wo tb lk:Nat} {s:p.σ} {i:Int} {k:Nat} (h:b.Ok) (hI:p.I k s) (ha:dA b w wo tb lk s) (hi:eO p i) (hst:p.st s i=1) (hr:p.stepR s i=true),Calls prog 25 #[some wo,i] w fun e w'=>e= .returned (it 2 i (p.rd s i) (p.cnt (p.stepS s i) i))∧dA b w' wo tb lk (p.stepS s i)∧ae b.Z w w'):=by
 refine⟨?_,?_,?_,?_,?_⟩;intro p b w wo tb lk s i k h hI ha hi h1 h3;rotate_left;iterate 4
  intro p b w wo tb lk s i k h hI ha hi hst hr;rotate_left
 all_goals
  have hF0:ae [] w (w.alloc (.cells #[(0:Int),(0:Int),false,(0:Int)] 35)):=aF.alloc _;have HR:=aH (am.new w #[(0:Int),(0:Int),false,(0:Int)] 35);have hst':=eQ h (ha.same h hF0) hi;have H0:=aH ha.lo.at_;have HRN:=aH (Nat.le_refl w.heap.size);unfold it
 generalize p.st s i=st at*;have d1:(st==1)=false:=by simpa using h1
 have d3:(st==3)=false:=by simpa using h3
 clear h1 h3;rotate_left;iterate 3
  rw[hst] at hst';have cg:=fun(W:World) (hf:ae [] w W)=>AF h hI (ha.lo.same h hf) hi;rw[hr] at cg;have HSP:=aH cg;clear cg hst hr;generalize p.stepS s i=s2 at*;rotate_left
 rw[hst] at hst';have cg:=fun(W:World) (hf:ae [] w W)=>AF h hI (ha.lo.same h hf) hi;rw[hr] at cg;have HSP:=aH cg;clear cg hst hr;have HCN:=aH (fun(W:World) (hl:nY b W lk (p.stepS s i))=>Bv h hl hi);generalize p.cnt (p.stepS s i) i=cn at*;generalize p.stepS s i=s2 at*;rotate_left;all_goals
  generalize p.rd s i=rd at*;have HST:=aH hst';have HF0:=aH hF0;have H:=aH ha;clear hst' ha hF0 hi hI;go_enter func25,ntmps25;go_wp2_with fail;refine HST.o.mono ?_;rintro e w1 ⟨rfl,hF1⟩;have HR1:=aH ((HR.o.frm hF1 aS).frm ((ae.refl [] w1).alloc (.cells #[(0:Int),i,rd,(0:Int)] 35)) aS);have HE1:=aH (am.new w1 #[(0:Int),i,rd,(0:Int)] 35);have HF1:=aH ((HF0.o.trans hF1).alloc (.cells #[(0:Int),i,rd,(0:Int)] 35));have hsz1:=hF1.size;rw[World.size_alloc] at hsz1;clear hF1;have c2:=(H.o.same h HF1.o).box.cell (i:=2) rfl
 have HW1:=aH (H.o.same h HF1.o);have HF1':=aH (HF1.o.mono (S':=b.Z) aS);clear HF1;have HF1:=HF1';have heF:ae [w1.heap.size] (w1.alloc (.cells #[(0:Int),i,rd,(0:Int)] 35)) ((w1.alloc (.cells #[(0:Int),i,rd,(0:Int)] 35))):=ae.refl [w1.heap.size] (w1.alloc (.cells #[(0:Int),i,rd,(0:Int)] 35));have HWX:=aH (HW1.o.evs h H0.o HE1.o aO heF);rotate_left;iterate 2
  focus
   go_wp2_with fail;refine(HSP.o _ HF1.o).mono ?_;rintro e w2 ⟨rfl,hL,hF2⟩;have HW2:=aH ((H.o.same h HF1.o).next h hF2 hL);have HR2:=aH (HR1.o.frm hF2 (h.new H0.o (Nat.le_refl _)));have HE2:=aH (HE1.o.frm hF2 (h.new H0.o aO));have HF2:=aH ((HF1.o.mono (S':=b.Z) aS).trans hF2);have hsz2:=hF2.size;rw[World.size_alloc] at hsz2;clear hL hF2 c2 HR1 HE1 HF1;have heF:ae [w1.heap.size] w2 (w2):=ae.refl [w1.heap.size] w2;have HWX:=aH (HW2.o.evs h H0.o HE2.o aO heF)
  rotate_left
 focus
  go_wp2_with fail;refine(HSP.o _ HF1.o).mono ?_;rintro e w2 ⟨rfl,hL,hF2⟩;have HW2:=aH ((H.o.same h HF1.o).next h hF2 hL);have HR2:=aH (HR1.o.frm hF2 (h.new H0.o (Nat.le_refl _)));have HE2:=aH (HE1.o.frm hF2 (h.new H0.o aO));have HF2:=aH ((HF1.o.mono (S':=b.Z) aS).trans hF2);have hsz2:=hF2.size;rw[World.size_alloc] at hsz2;clear hL hF2 c2 HR1 HE1 HF1;have heF:ae [w1.heap.size] w2 (w2.setCell (w1.heap.size,0) (.int .i64 4)):=(ae.refl [w1.heap.size] w2).set _ _ (.inl aS);have HWX:=aH (HW2.o.evs h H0.o HE2.o aO heF)
 rotate_left
 focus
  go_wp2_with fail;refine(HSP.o _ HF1.o).mono ?_;rintro e w2 ⟨rfl,hL,hF2⟩;have HW2:=aH ((H.o.same h HF1.o).next h hF2 hL);have HR2:=aH (HR1.o.frm hF2 (h.new H0.o (Nat.le_refl _)));have HE2:=aH (HE1.o.frm hF2 (h.new H0.o aO));have HF2:=aH ((HF1.o.mono (S':=b.Z) aS).trans hF2);have hsz2:=hF2.size;rw[World.size_alloc] at hsz2;clear hL hF2 c2 HR1 HE1 HF1;have c2:=HW2.o.box.cell (i:=2) rfl;go_wp2_with fail;refine(HCN.o _ HW2.o.lo).mono ?_;rintro e w3 ⟨rfl,hF3⟩;have HW3:=aH (HW2.o.same h hF3);have HR3:=aH (HR2.o.frm hF3 aS);have HE3:=aH (HE2.o.frm hF3 aS);have HF3:=aH (HF2.o.trans (hF3.mono aS));have hsz3:=hF3.size;clear hF3 c2;have heF:ae [w1.heap.size] w3 ((w3.setCell (w1.heap.size,0) (.int .i64 2)).setCell (w1.heap.size,3) (.int .i64 cn)):=((ae.refl [w1.heap.size] w3).set _ _ (.inl aS)).set _ _ (.inl aS);have HWX:=aH (HW3.o.evs h H0.o HE3.o aO heF)
 rotate_left;all_goals
  have hne:w.heap.size≠w1.heap.size:=by omega
 have HRX:=aH (HR1.o.frm heF aQ);have HFX:=aH (HF1.o.widen heF (fun z hz=>.inr (by simp at hz;omega)));have e0:=HE1.o.cell (i:=0) rfl;have e1:=HE1.o.cell (i:=1) rfl;have e2:=HE1.o.cell (i:=2) rfl;have e3:=HE1.o.cell (i:=3) rfl;have ez:=HE1.o.frozen;have el:=HE1.o.lt;have q0:=HR1.o.cell (i:=0) rfl;have q1:=HR1.o.cell (i:=1) rfl;have q2:=HR1.o.cell (i:=2) rfl;have q3:=HR1.o.cell (i:=3) rfl;have qz:=HR1.o.frozen;have ql:=HR1.o.lt;rotate_left;iterate 3
  have HRX:=aH (HR2.o.frm heF aQ);have HFX:=aH (HF2.o.widen heF (fun z hz=>.inr (by simp at hz;omega)));have e0:=HE2.o.cell (i:=0) rfl;have e1:=HE2.o.cell (i:=1) rfl;have e2:=HE2.o.cell (i:=2) rfl;have e3:=HE2.o.cell (i:=3) rfl;have ez:=HE2.o.frozen;have el:=HE2.o.lt;have q0:=HR2.o.cell (i:=0) rfl;have q1:=HR2.o.cell (i:=1) rfl;have q2:=HR2.o.cell (i:=2) rfl;have q3:=HR2.o.cell (i:=3) rfl;have qz:=HR2.o.frozen;have ql:=HR2.o.lt;rotate_left
 have HRX:=aH (HR3.o.frm heF aQ);have HFX:=aH (HF3.o.widen heF (fun z hz=>.inr (by simp at hz;omega)));have e0:=HE3.o.cell (i:=0) rfl;have e1:=HE3.o.cell (i:=1) rfl;have e2:=HE3.o.cell (i:=2) rfl;have e3:=HE3.o.cell (i:=3) rfl;have ez:=HE3.o.frozen;have el:=HE3.o.lt;have q0:=HR3.o.cell (i:=0) rfl;have q1:=HR3.o.cell (i:=1) rfl;have q2:=HR3.o.cell (i:=2) rfl;have q3:=HR3.o.cell (i:=3) rfl;have qz:=HR3.o.frozen;have ql:=HR3.o.lt;rotate_left;all_goals
  clear heF
 iterate 3
  have hfin:=eE HRX.o 0 i rd 0 rfl;rotate_left
 have hfin:=eE HRX.o 4 i rd 0 rfl;rotate_left;have hfin:=eE HRX.o 2 i rd cn rfl;rotate_left;all_goals
  have HWF:=aH (HWX.o.evs h H0.o HRX.o HRN.o hfin.2);have HRF:=aH hfin.1;have HFF:=aH (HFX.o.widen hfin.2 (fun z hz=>.inr (by have:=HRN.o;simp at hz;omega)));have r0:=HRX.o.cell (i:=0) rfl;have r1:=HRX.o.cell (i:=1) rfl;have r2:=HRX.o.cell (i:=2) rfl;have r3:=HRX.o.cell (i:=3) rfl;have rz:=HRX.o.frozen;have rl:=HRX.o.lt;clear hfin;go_wp2_with fail
 generalize(((((w1.alloc (.cells #[(0:Int),i,rd,(0:Int)] 35))).setCell (w.heap.size,0) (.int .i64 0)).setCell (w.heap.size,1) (.int .i64 i)).setCell (w.heap.size,2) (.bool rd)).setCell (w.heap.size,3) (.int .i64 0)=W2 at*;rotate_left;iterate 2
  generalize((((w2).setCell (w.heap.size,0) (.int .i64 0)).setCell (w.heap.size,1) (.int .i64 i)).setCell (w.heap.size,2) (.bool rd)).setCell (w.heap.size,3) (.int .i64 0)=W2 at*;rotate_left
 generalize((((w2.setCell (w1.heap.size,0) (.int .i64 4)).setCell (w.heap.size,0) (.int .i64 4)).setCell (w.heap.size,1) (.int .i64 i)).setCell (w.heap.size,2) (.bool rd)).setCell (w.heap.size,3) (.int .i64 0)=W2 at*;rotate_left;generalize(((((w3.setCell (w1.heap.size,0) (.int .i64 2)).setCell (w1.heap.size,3) (.int .i64 cn)).setCell (w.heap.size,0) (.int .i64 2)).setCell (w.heap.size,1) (.int .i64 i)).setCell (w.heap.size,2) (.bool rd)).setCell (w.heap.size,3) (.int .i64 cn)=W2 at*;rotate_left;all_goals
  have k0:=HRF.o.cell (i:=0) rfl;have k1:=HRF.o.cell (i:=1) rfl;have k2:=HRF.o.cell (i:=2) rfl;have k3:=HRF.o.cell (i:=3) rfl
 iterate 3
  focus
   exact bodyPost_ret (v:=.agg #[(0:Int),i,rd,(0:Int)]) (by simp[results,results25,go_sem,k0,k1,k2,k3]) rfl ⟨rfl,HWF.o,HFF.o⟩
 ·exact bodyPost_ret (v:=.agg #[(4:Int),i,rd,(0:Int)]) (by simp[results,results25,go_sem,k0,k1,k2,k3]) rfl ⟨rfl,HWF.o,HFF.o⟩
 ·exact bodyPost_ret (v:=.agg #[(2:Int),i,rd,cn]) (by simp[results,results25,go_sem,k0,k1,k2,k3]) rfl ⟨rfl,HWF.o,HFF.o⟩
def rL:= @And.left _ _ gX
def ro:= @And.left _ _ (@And.right _ _ gX)
def vK:= @And.left _ _ (@And.right _ _ (@And.right _ _ gX))
def rJ:= @And.left _ _ (@And.right _ _ (@And.right _ _ (@And.right _ _ gX)))
def qn:= @And.right _ _ (@And.right _ _ (@And.right _ _ (@And.right _ _ gX)))
theorem Gb (h:b.Ok) (hI:p.I k s) (ha:dA b w wo tb lk s) (hi:eO p i):Calls prog 25 #[some wo,i] w fun e w'=>e= .returned (it (p.stepE s i).1 i (p.rd s i) (p.stepE s i).2)∧dA b w' wo tb lk (p.step s i)∧ae b.Z w w':=by
 unfold LP.stepE LP.step;by_cases h1:p.st s i=1
 ·rw[if_pos (Or.inl h1)];cases hr:p.stepR s i with
  |true=>rw[if_pos ⟨h1,rfl⟩];exact qn h hI ha hi h1 hr
  |false=>rw[if_neg (fun x=>by simp at x),if_neg (fun x=>by simp at x)];exact ro h hI ha hi h1 hr
 ·by_cases h3:p.st s i=3
  ·rw[if_pos (Or.inr h3)];cases hr:p.stepR s i with
   |true=>rw[if_neg (fun x=>h1 x.1),if_pos ⟨h3,rfl⟩];exact rJ h hI ha hi h3 hr
   |false=>rw[if_neg (fun x=>by simp at x),if_neg (fun x=>by simp at x)];exact vK h hI ha hi h3 hr
  ·rw[if_neg (fun x=>h1 x.1),if_neg (fun x=>h3 x.1),if_neg (fun x=>by rcases x with x|x;exact h1 x;exact h3 x)];exact rL h hI ha hi h1 h3
end
def LP.askE (p:LP) (s:p.σ) (i:Int) (r:Bool):Int×Bool:=if(r&& !p.shares)|| !p.askR s i r then(5,p.rd s i) else(1,r)
def LP.ask (p:LP) (s:p.σ) (i:Int) (r:Bool):p.σ:=if r&& !p.shares then s else p.askS s i r
def LP.leaveE (p:LP) (s:p.σ) (i:Int) (r:Bool):Int×Bool:=if(p.rd s i !=r)|| !p.leaveR s i then(5,p.rd s i) else(3,r)
def LP.leave (p:LP) (s:p.σ) (i:Int) (r:Bool):p.σ:=if p.rd s i !=r then s else p.leaveS s i
section
variable{p:LP} {b:LB p} {w w':World} {wo tb lk:Nat} {s s':p.σ} {i:Int} {k:Nat}
theorem vh (h:b.Ok) (hI:p.I k s) (ha:dA b w wo tb lk s) (hi:eO p i) (r:Bool) (hr:r=true) (hs:p.shares=false):Calls prog 26 #[some wo,i,r] w fun e w'=>e= .returned (it 5 i (p.rd s i) 0)∧dA b w' wo tb lk (s)∧ae b.Z w w':=by
 have hF0:ae [] w (w.alloc (.cells #[(0:Int),(0:Int),false,(0:Int)] 35)):=aF.alloc _;have HR:=aH (am.new w #[(0:Int),(0:Int),false,(0:Int)] 35);have hst':=eQ h (ha.same h hF0) hi;have H0:=aH ha.lo.at_;have HRN:=aH (Nat.le_refl w.heap.size);have hnot:= @aX prog;unfold it;subst hr;have HSH:=aH hs;clear hs;generalize p.rd s i=rd at*;generalize p.st s i=st at*;have HST:=aH hst';have HF0:=aH hF0;have H:=aH ha;clear hst' ha hF0 hi hI;go_enter func26,ntmps26;go_wp2_with fail;refine HST.o.mono ?_;rintro e w1 ⟨rfl,hF1⟩;have HR1:=aH (HR.o.frm hF1 aS);have HF1:=aH (HF0.o.trans hF1);clear hF1;have c2:=(H.o.same h HF1.o).box.cell (i:=2) rfl;have c3:=(H.o.same h HF1.o).box.cell (i:=3) rfl;try rw[HSH.o] at c3
 have HWX:=aH (H.o.same h HF1.o);have HFX:=aH (HF1.o.mono (S':=b.Z) aS);have HRX:=HR1;clear HF1;have hfin:=eE HRX.o 5 i rd 0 rfl;have HWF:=aH (HWX.o.evs h H0.o HRX.o HRN.o hfin.2);have HRF:=aH hfin.1;have HFF:=aH (HFX.o.widen hfin.2 (fun z hz=>.inr (by have:=HRN.o;simp at hz;omega)));have r0:=HRX.o.cell (i:=0) rfl;have r1:=HRX.o.cell (i:=1) rfl;have r2:=HRX.o.cell (i:=2) rfl;have r3:=HRX.o.cell (i:=3) rfl;have rz:=HRX.o.frozen;have rl:=HRX.o.lt;clear hfin;go_wp2_with fail;generalize((((w1).setCell (w.heap.size,0) (.int .i64 5)).setCell (w.heap.size,1) (.int .i64 i)).setCell (w.heap.size,2) (.bool rd)).setCell (w.heap.size,3) (.int .i64 0)=W2 at*;have k0:=HRF.o.cell (i:=0) rfl;have k1:=HRF.o.cell (i:=1) rfl;have k2:=HRF.o.cell (i:=2) rfl;have k3:=HRF.o.cell (i:=3) rfl;exact bodyPost_ret (v:=.agg #[(5:Int),i,rd,(0:Int)]) (by simp[results,results26,go_sem,k0,k1,k2,k3]) rfl ⟨rfl,HWF.o,HFF.o⟩
theorem tT (h:b.Ok) (hI:p.I k s) (ha:dA b w wo tb lk s) (hi:eO p i) (r:Bool) (hg:(r&& !p.shares)=false) (hrs:r=true→p.shares=true) (hr:p.askR s i r=false):Calls prog 26 #[some wo,i,r] w fun e w'=>e= .returned (it 5 i (p.rd s i) 0)∧dA b w' wo tb lk (p.askS s i r)∧ae b.Z w w':=by
 have hF0:ae [] w (w.alloc (.cells #[(0:Int),(0:Int),false,(0:Int)] 35)):=aF.alloc _;have HR:=aH (am.new w #[(0:Int),(0:Int),false,(0:Int)] 35);have hst':=eQ h (ha.same h hF0) hi;have H0:=aH ha.lo.at_;have HRN:=aH (Nat.le_refl w.heap.size);have hnot:= @aX prog;unfold it;have cg:=fun(W:World) (hf:ae [] w W)=>Dn h hI (ha.lo.same h hf) hi r hrs;rw[hr] at cg;have HSP:=aH cg;clear cg hr;generalize p.askS s i r=s2 at*;have hgc:r=false∨(r=true∧p.shares=true):=by cases r<;>simp_all
 clear hg hrs;generalize p.rd s i=rd at*;generalize p.st s i=st at*;have HST:=aH hst';have HF0:=aH hF0;have H:=aH ha;clear hst' ha hF0 hi hI;have hgd:(r=false∧True)∨(r=true∧p.shares=true):=hgc.imp (fun e=>⟨e,trivial⟩) id;clear hgc;rcases hgd with⟨rfl,hsx⟩|⟨rfl,hsx⟩
 ·have HSH:=aH hsx;clear hsx;go_enter func26,ntmps26;go_wp2_with fail;refine HST.o.mono ?_;rintro e w1 ⟨rfl,hF1⟩;have HR1:=aH (HR.o.frm hF1 aS);have HF1:=aH (HF0.o.trans hF1);clear hF1;have c2:=(H.o.same h HF1.o).box.cell (i:=2) rfl;have c3:=(H.o.same h HF1.o).box.cell (i:=3) rfl;try rw[HSH.o] at c3
  go_wp2_with fail;refine(HSP.o _ HF1.o).mono ?_;rintro e w2 ⟨rfl,hL,hF2⟩;have HWX:=aH ((H.o.same h HF1.o).next h hF2 hL);have HRX:=aH (HR1.o.frm hF2 (h.new H0.o (Nat.le_refl _)));have HFX:=aH ((HF1.o.mono (S':=b.Z) aS).trans hF2);clear hL hF2 c2 c3 HR1 HF1;have hfin:=eE HRX.o 5 i rd 0 rfl;have HWF:=aH (HWX.o.evs h H0.o HRX.o HRN.o hfin.2);have HRF:=aH hfin.1;have HFF:=aH (HFX.o.widen hfin.2 (fun z hz=>.inr (by have:=HRN.o;simp at hz;omega)));have r0:=HRX.o.cell (i:=0) rfl;have r1:=HRX.o.cell (i:=1) rfl;have r2:=HRX.o.cell (i:=2) rfl;have r3:=HRX.o.cell (i:=3) rfl;have rz:=HRX.o.frozen;have rl:=HRX.o.lt;clear hfin;go_wp2_with fail;generalize((((w2).setCell (w.heap.size,0) (.int .i64 5)).setCell (w.heap.size,1) (.int .i64 i)).setCell (w.heap.size,2) (.bool rd)).setCell (w.heap.size,3) (.int .i64 0)=W2 at*;have k0:=HRF.o.cell (i:=0) rfl;have k1:=HRF.o.cell (i:=1) rfl;have k2:=HRF.o.cell (i:=2) rfl;have k3:=HRF.o.cell (i:=3) rfl;exact bodyPost_ret (v:=.agg #[(5:Int),i,rd,(0:Int)]) (by simp[results,results26,go_sem,k0,k1,k2,k3]) rfl ⟨rfl,HWF.o,HFF.o⟩
 ·have HSH:=aH hsx;clear hsx;go_enter func26,ntmps26;go_wp2_with fail;refine HST.o.mono ?_;rintro e w1 ⟨rfl,hF1⟩;have HR1:=aH (HR.o.frm hF1 aS);have HF1:=aH (HF0.o.trans hF1);clear hF1;have c2:=(H.o.same h HF1.o).box.cell (i:=2) rfl;have c3:=(H.o.same h HF1.o).box.cell (i:=3) rfl;try rw[HSH.o] at c3
  go_wp2_with fail;refine(HSP.o _ HF1.o).mono ?_;rintro e w2 ⟨rfl,hL,hF2⟩;have HWX:=aH ((H.o.same h HF1.o).next h hF2 hL);have HRX:=aH (HR1.o.frm hF2 (h.new H0.o (Nat.le_refl _)));have HFX:=aH ((HF1.o.mono (S':=b.Z) aS).trans hF2);clear hL hF2 c2 c3 HR1 HF1;have hfin:=eE HRX.o 5 i rd 0 rfl;have HWF:=aH (HWX.o.evs h H0.o HRX.o HRN.o hfin.2);have HRF:=aH hfin.1;have HFF:=aH (HFX.o.widen hfin.2 (fun z hz=>.inr (by have:=HRN.o;simp at hz;omega)));have r0:=HRX.o.cell (i:=0) rfl;have r1:=HRX.o.cell (i:=1) rfl;have r2:=HRX.o.cell (i:=2) rfl;have r3:=HRX.o.cell (i:=3) rfl;have rz:=HRX.o.frozen;have rl:=HRX.o.lt;clear hfin;go_wp2_with fail;generalize((((w2).setCell (w.heap.size,0) (.int .i64 5)).setCell (w.heap.size,1) (.int .i64 i)).setCell (w.heap.size,2) (.bool rd)).setCell (w.heap.size,3) (.int .i64 0)=W2 at*;have k0:=HRF.o.cell (i:=0) rfl;have k1:=HRF.o.cell (i:=1) rfl;have k2:=HRF.o.cell (i:=2) rfl;have k3:=HRF.o.cell (i:=3) rfl;exact bodyPost_ret (v:=.agg #[(5:Int),i,rd,(0:Int)]) (by simp[results,results26,go_sem,k0,k1,k2,k3]) rfl ⟨rfl,HWF.o,HFF.o⟩
theorem sO (h:b.Ok) (hI:p.I k s) (ha:dA b w wo tb lk s) (hi:eO p i) (r:Bool) (hg:(r&& !p.shares)=false) (hrs:r=true→p.shares=true) (hr:p.askR s i r=true):Calls prog 26 #[some wo,i,r] w fun e w'=>e= .returned (it 1 i (r) 0)∧dA b w' wo tb lk (p.askS s i r)∧ae b.Z w w':=by
 have hF0:ae [] w (w.alloc (.cells #[(0:Int),(0:Int),false,(0:Int)] 35)):=aF.alloc _;have HR:=aH (am.new w #[(0:Int),(0:Int),false,(0:Int)] 35);have hst':=eQ h (ha.same h hF0) hi;have H0:=aH ha.lo.at_;have HRN:=aH (Nat.le_refl w.heap.size);have hnot:= @aX prog;unfold it;have cg:=fun(W:World) (hf:ae [] w W)=>Dn h hI (ha.lo.same h hf) hi r hrs;rw[hr] at cg;have HSP:=aH cg;clear cg hr;generalize p.askS s i r=s2 at*;have hgc:r=false∨(r=true∧p.shares=true):=by cases r<;>simp_all
 clear hg hrs;generalize p.rd s i=rd at*;generalize p.st s i=st at*;have HST:=aH hst';have HF0:=aH hF0;have H:=aH ha;clear hst' ha hF0 hi hI;have hgd:(r=false∧True)∨(r=true∧p.shares=true):=hgc.imp (fun e=>⟨e,trivial⟩) id;clear hgc;rcases hgd with⟨rfl,hsx⟩|⟨rfl,hsx⟩
 ·have HSH:=aH hsx;clear hsx;go_enter func26,ntmps26;go_wp2_with fail;refine HST.o.mono ?_;rintro e w1 ⟨rfl,hF1⟩;have HR1:=aH (HR.o.frm hF1 aS);have HF1:=aH (HF0.o.trans hF1);clear hF1;have c2:=(H.o.same h HF1.o).box.cell (i:=2) rfl;have c3:=(H.o.same h HF1.o).box.cell (i:=3) rfl;try rw[HSH.o] at c3
  go_wp2_with fail;refine(HSP.o _ HF1.o).mono ?_;rintro e w2 ⟨rfl,hL,hF2⟩;have HWX:=aH ((H.o.same h HF1.o).next h hF2 hL);have HRX:=aH (HR1.o.frm hF2 (h.new H0.o (Nat.le_refl _)));have HFX:=aH ((HF1.o.mono (S':=b.Z) aS).trans hF2);clear hL hF2 c2 c3 HR1 HF1;have hfin:=eE HRX.o 1 i false 0 rfl;have HWF:=aH (HWX.o.evs h H0.o HRX.o HRN.o hfin.2);have HRF:=aH hfin.1;have HFF:=aH (HFX.o.widen hfin.2 (fun z hz=>.inr (by have:=HRN.o;simp at hz;omega)));have r0:=HRX.o.cell (i:=0) rfl;have r1:=HRX.o.cell (i:=1) rfl;have r2:=HRX.o.cell (i:=2) rfl;have r3:=HRX.o.cell (i:=3) rfl;have rz:=HRX.o.frozen;have rl:=HRX.o.lt;clear hfin;go_wp2_with fail;generalize((((w2).setCell (w.heap.size,0) (.int .i64 1)).setCell (w.heap.size,1) (.int .i64 i)).setCell (w.heap.size,2) (.bool false)).setCell (w.heap.size,3) (.int .i64 0)=W2 at*;have k0:=HRF.o.cell (i:=0) rfl;have k1:=HRF.o.cell (i:=1) rfl;have k2:=HRF.o.cell (i:=2) rfl;have k3:=HRF.o.cell (i:=3) rfl;exact bodyPost_ret (v:=.agg #[(1:Int),i,false,(0:Int)]) (by simp[results,results26,go_sem,k0,k1,k2,k3]) rfl ⟨rfl,HWF.o,HFF.o⟩
 ·have HSH:=aH hsx;clear hsx;go_enter func26,ntmps26;go_wp2_with fail;refine HST.o.mono ?_;rintro e w1 ⟨rfl,hF1⟩;have HR1:=aH (HR.o.frm hF1 aS);have HF1:=aH (HF0.o.trans hF1);clear hF1;have c2:=(H.o.same h HF1.o).box.cell (i:=2) rfl;have c3:=(H.o.same h HF1.o).box.cell (i:=3) rfl;try rw[HSH.o] at c3
  go_wp2_with fail;refine(HSP.o _ HF1.o).mono ?_;rintro e w2 ⟨rfl,hL,hF2⟩;have HWX:=aH ((H.o.same h HF1.o).next h hF2 hL);have HRX:=aH (HR1.o.frm hF2 (h.new H0.o (Nat.le_refl _)));have HFX:=aH ((HF1.o.mono (S':=b.Z) aS).trans hF2);clear hL hF2 c2 c3 HR1 HF1;have hfin:=eE HRX.o 1 i true 0 rfl;have HWF:=aH (HWX.o.evs h H0.o HRX.o HRN.o hfin.2);have HRF:=aH hfin.1;have HFF:=aH (HFX.o.widen hfin.2 (fun z hz=>.inr (by have:=HRN.o;simp at hz;omega)));have r0:=HRX.o.cell (i:=0) rfl;have r1:=HRX.o.cell (i:=1) rfl;have r2:=HRX.o.cell (i:=2) rfl;have r3:=HRX.o.cell (i:=3) rfl;have rz:=HRX.o.frozen;have rl:=HRX.o.lt;clear hfin;go_wp2_with fail;generalize((((w2).setCell (w.heap.size,0) (.int .i64 1)).setCell (w.heap.size,1) (.int .i64 i)).setCell (w.heap.size,2) (.bool true)).setCell (w.heap.size,3) (.int .i64 0)=W2 at*;have k0:=HRF.o.cell (i:=0) rfl;have k1:=HRF.o.cell (i:=1) rfl;have k2:=HRF.o.cell (i:=2) rfl;have k3:=HRF.o.cell (i:=3) rfl;exact bodyPost_ret (v:=.agg #[(1:Int),i,true,(0:Int)]) (by simp[results,results26,go_sem,k0,k1,k2,k3]) rfl ⟨rfl,HWF.o,HFF.o⟩
theorem rM (h:b.Ok) (hI:p.I k s) (ha:dA b w wo tb lk s) (hi:eO p i) (r:Bool) (hr:(p.rd s i !=r)=true):Calls prog 27 #[some wo,i,r] w fun e w'=>e= .returned (it 5 i (p.rd s i) 0)∧dA b w' wo tb lk (s)∧ae b.Z w w':=by
 have hF0:ae [] w (w.alloc (.cells #[(0:Int),(0:Int),false,(0:Int)] 35)):=aF.alloc _;have HR:=aH (am.new w #[(0:Int),(0:Int),false,(0:Int)] 35);have hst':=eQ h (ha.same h hF0) hi;have H0:=aH ha.lo.at_;have HRN:=aH (Nat.le_refl w.heap.size);have hnot:= @aX prog;unfold it;generalize p.rd s i=rd at*;generalize p.st s i=st at*;have HST:=aH hst';have HF0:=aH hF0;have H:=aH ha;clear hst' ha hF0 hi hI;have hgd:(rd=true∧r=false)∨(rd=false∧r=true):=by revert hr;cases rd<;>cases r<;>simp
 clear hr;rcases hgd with⟨rfl,rfl⟩|⟨rfl,rfl⟩
 ·skip
  go_enter func27,ntmps27;go_wp2_with fail;refine HST.o.mono ?_;rintro e w1 ⟨rfl,hF1⟩;have HR1:=aH (HR.o.frm hF1 aS);have HF1:=aH (HF0.o.trans hF1);clear hF1;have c2:=(H.o.same h HF1.o).box.cell (i:=2) rfl;have c3:=(H.o.same h HF1.o).box.cell (i:=3) rfl;try rw[HSH.o] at c3
  have HWX:=aH (H.o.same h HF1.o);have HFX:=aH (HF1.o.mono (S':=b.Z) aS);have HRX:=HR1;clear HF1;have hfin:=eE HRX.o 5 i true 0 rfl;have HWF:=aH (HWX.o.evs h H0.o HRX.o HRN.o hfin.2);have HRF:=aH hfin.1;have HFF:=aH (HFX.o.widen hfin.2 (fun z hz=>.inr (by have:=HRN.o;simp at hz;omega)));have r0:=HRX.o.cell (i:=0) rfl;have r1:=HRX.o.cell (i:=1) rfl;have r2:=HRX.o.cell (i:=2) rfl;have r3:=HRX.o.cell (i:=3) rfl;have rz:=HRX.o.frozen;have rl:=HRX.o.lt;clear hfin;go_wp2_with fail;generalize((((w1).setCell (w.heap.size,0) (.int .i64 5)).setCell (w.heap.size,1) (.int .i64 i)).setCell (w.heap.size,2) (.bool true)).setCell (w.heap.size,3) (.int .i64 0)=W2 at*;have k0:=HRF.o.cell (i:=0) rfl;have k1:=HRF.o.cell (i:=1) rfl;have k2:=HRF.o.cell (i:=2) rfl;have k3:=HRF.o.cell (i:=3) rfl;exact bodyPost_ret (v:=.agg #[(5:Int),i,true,(0:Int)]) (by simp[results,results27,go_sem,k0,k1,k2,k3]) rfl ⟨rfl,HWF.o,HFF.o⟩
 ·skip
  go_enter func27,ntmps27;go_wp2_with fail;refine HST.o.mono ?_;rintro e w1 ⟨rfl,hF1⟩;have HR1:=aH (HR.o.frm hF1 aS);have HF1:=aH (HF0.o.trans hF1);clear hF1;have c2:=(H.o.same h HF1.o).box.cell (i:=2) rfl;have c3:=(H.o.same h HF1.o).box.cell (i:=3) rfl;try rw[HSH.o] at c3
  have HWX:=aH (H.o.same h HF1.o);have HFX:=aH (HF1.o.mono (S':=b.Z) aS);have HRX:=HR1;clear HF1;have hfin:=eE HRX.o 5 i false 0 rfl;have HWF:=aH (HWX.o.evs h H0.o HRX.o HRN.o hfin.2);have HRF:=aH hfin.1;have HFF:=aH (HFX.o.widen hfin.2 (fun z hz=>.inr (by have:=HRN.o;simp at hz;omega)));have r0:=HRX.o.cell (i:=0) rfl;have r1:=HRX.o.cell (i:=1) rfl;have r2:=HRX.o.cell (i:=2) rfl;have r3:=HRX.o.cell (i:=3) rfl;have rz:=HRX.o.frozen;have rl:=HRX.o.lt;clear hfin;go_wp2_with fail;generalize((((w1).setCell (w.heap.size,0) (.int .i64 5)).setCell (w.heap.size,1) (.int .i64 i)).setCell (w.heap.size,2) (.bool false)).setCell (w.heap.size,3) (.int .i64 0)=W2 at*;have k0:=HRF.o.cell (i:=0) rfl;have k1:=HRF.o.cell (i:=1) rfl;have k2:=HRF.o.cell (i:=2) rfl;have k3:=HRF.o.cell (i:=3) rfl;exact bodyPost_ret (v:=.agg #[(5:Int),i,false,(0:Int)]) (by simp[results,results27,go_sem,k0,k1,k2,k3]) rfl ⟨rfl,HWF.o,HFF.o⟩
theorem qy (h:b.Ok) (hI:p.I k s) (ha:dA b w wo tb lk s) (hi:eO p i) (r:Bool) (hg:(p.rd s i !=r)=false) (hr:p.leaveR s i=false):Calls prog 27 #[some wo,i,r] w fun e w'=>e= .returned (it 5 i (p.rd s i) 0)∧dA b w' wo tb lk (p.leaveS s i)∧ae b.Z w w':=by
 have hF0:ae [] w (w.alloc (.cells #[(0:Int),(0:Int),false,(0:Int)] 35)):=aF.alloc _;have HR:=aH (am.new w #[(0:Int),(0:Int),false,(0:Int)] 35);have hst':=eQ h (ha.same h hF0) hi;have H0:=aH ha.lo.at_;have HRN:=aH (Nat.le_refl w.heap.size);have hnot:= @aX prog;unfold it;have cg:=fun(W:World) (hf:ae [] w W)=>uK h hI (ha.lo.same h hf) hi;rw[hr] at cg;have HSP:=aH cg;clear cg hr;generalize p.leaveS s i=s2 at*;generalize p.rd s i=rd at*;generalize p.st s i=st at*;have HST:=aH hst';have HF0:=aH hF0;have H:=aH ha;clear hst' ha hF0 hi hI;have hgd:(rd=false∧r=false)∨(rd=true∧r=true):=by revert hg;cases rd<;>cases r<;>simp
 clear hg;rcases hgd with⟨rfl,rfl⟩|⟨rfl,rfl⟩
 ·skip
  go_enter func27,ntmps27;go_wp2_with fail;refine HST.o.mono ?_;rintro e w1 ⟨rfl,hF1⟩;have HR1:=aH (HR.o.frm hF1 aS);have HF1:=aH (HF0.o.trans hF1);clear hF1;have c2:=(H.o.same h HF1.o).box.cell (i:=2) rfl;have c3:=(H.o.same h HF1.o).box.cell (i:=3) rfl;try rw[HSH.o] at c3
  go_wp2_with fail;refine(HSP.o _ HF1.o).mono ?_;rintro e w2 ⟨rfl,hL,hF2⟩;have HWX:=aH ((H.o.same h HF1.o).next h hF2 hL);have HRX:=aH (HR1.o.frm hF2 (h.new H0.o (Nat.le_refl _)));have HFX:=aH ((HF1.o.mono (S':=b.Z) aS).trans hF2);clear hL hF2 c2 c3 HR1 HF1;have hfin:=eE HRX.o 5 i false 0 rfl;have HWF:=aH (HWX.o.evs h H0.o HRX.o HRN.o hfin.2);have HRF:=aH hfin.1;have HFF:=aH (HFX.o.widen hfin.2 (fun z hz=>.inr (by have:=HRN.o;simp at hz;omega)));have r0:=HRX.o.cell (i:=0) rfl;have r1:=HRX.o.cell (i:=1) rfl;have r2:=HRX.o.cell (i:=2) rfl;have r3:=HRX.o.cell (i:=3) rfl;have rz:=HRX.o.frozen;have rl:=HRX.o.lt;clear hfin;go_wp2_with fail;generalize((((w2).setCell (w.heap.size,0) (.int .i64 5)).setCell (w.heap.size,1) (.int .i64 i)).setCell (w.heap.size,2) (.bool false)).setCell (w.heap.size,3) (.int .i64 0)=W2 at*;have k0:=HRF.o.cell (i:=0) rfl;have k1:=HRF.o.cell (i:=1) rfl;have k2:=HRF.o.cell (i:=2) rfl;have k3:=HRF.o.cell (i:=3) rfl;exact bodyPost_ret (v:=.agg #[(5:Int),i,false,(0:Int)]) (by simp[results,results27,go_sem,k0,k1,k2,k3]) rfl ⟨rfl,HWF.o,HFF.o⟩
 ·skip
  go_enter func27,ntmps27;go_wp2_with fail;refine HST.o.mono ?_;rintro e w1 ⟨rfl,hF1⟩;have HR1:=aH (HR.o.frm hF1 aS);have HF1:=aH (HF0.o.trans hF1);clear hF1;have c2:=(H.o.same h HF1.o).box.cell (i:=2) rfl;have c3:=(H.o.same h HF1.o).box.cell (i:=3) rfl;try rw[HSH.o] at c3
  go_wp2_with fail;refine(HSP.o _ HF1.o).mono ?_;rintro e w2 ⟨rfl,hL,hF2⟩;have HWX:=aH ((H.o.same h HF1.o).next h hF2 hL);have HRX:=aH (HR1.o.frm hF2 (h.new H0.o (Nat.le_refl _)));have HFX:=aH ((HF1.o.mono (S':=b.Z) aS).trans hF2);clear hL hF2 c2 c3 HR1 HF1;have hfin:=eE HRX.o 5 i true 0 rfl;have HWF:=aH (HWX.o.evs h H0.o HRX.o HRN.o hfin.2);have HRF:=aH hfin.1;have HFF:=aH (HFX.o.widen hfin.2 (fun z hz=>.inr (by have:=HRN.o;simp at hz;omega)));have r0:=HRX.o.cell (i:=0) rfl;have r1:=HRX.o.cell (i:=1) rfl;have r2:=HRX.o.cell (i:=2) rfl;have r3:=HRX.o.cell (i:=3) rfl;have rz:=HRX.o.frozen;have rl:=HRX.o.lt;clear hfin;go_wp2_with fail;generalize((((w2).setCell (w.heap.size,0) (.int .i64 5)).setCell (w.heap.size,1) (.int .i64 i)).setCell (w.heap.size,2) (.bool true)).setCell (w.heap.size,3) (.int .i64 0)=W2 at*;have k0:=HRF.o.cell (i:=0) rfl;have k1:=HRF.o.cell (i:=1) rfl;have k2:=HRF.o.cell (i:=2) rfl;have k3:=HRF.o.cell (i:=3) rfl;exact bodyPost_ret (v:=.agg #[(5:Int),i,true,(0:Int)]) (by simp[results,results27,go_sem,k0,k1,k2,k3]) rfl ⟨rfl,HWF.o,HFF.o⟩
theorem qT (h:b.Ok) (hI:p.I k s) (ha:dA b w wo tb lk s) (hi:eO p i) (r:Bool) (hg:(p.rd s i !=r)=false) (hr:p.leaveR s i=true):Calls prog 27 #[some wo,i,r] w fun e w'=>e= .returned (it 3 i (r) 0)∧dA b w' wo tb lk (p.leaveS s i)∧ae b.Z w w':=by
 have hF0:ae [] w (w.alloc (.cells #[(0:Int),(0:Int),false,(0:Int)] 35)):=aF.alloc _;have HR:=aH (am.new w #[(0:Int),(0:Int),false,(0:Int)] 35);have hst':=eQ h (ha.same h hF0) hi;have H0:=aH ha.lo.at_;have HRN:=aH (Nat.le_refl w.heap.size);have hnot:= @aX prog;unfold it;have cg:=fun(W:World) (hf:ae [] w W)=>uK h hI (ha.lo.same h hf) hi;rw[hr] at cg;have HSP:=aH cg;clear cg hr;generalize p.leaveS s i=s2 at*;generalize p.rd s i=rd at*;generalize p.st s i=st at*;have HST:=aH hst';have HF0:=aH hF0;have H:=aH ha;clear hst' ha hF0 hi hI;have hgd:(rd=false∧r=false)∨(rd=true∧r=true):=by revert hg;cases rd<;>cases r<;>simp
 clear hg;rcases hgd with⟨rfl,rfl⟩|⟨rfl,rfl⟩
 ·skip
  go_enter func27,ntmps27;go_wp2_with fail;refine HST.o.mono ?_;rintro e w1 ⟨rfl,hF1⟩;have HR1:=aH (HR.o.frm hF1 aS);have HF1:=aH (HF0.o.trans hF1);clear hF1;have c2:=(H.o.same h HF1.o).box.cell (i:=2) rfl;have c3:=(H.o.same h HF1.o).box.cell (i:=3) rfl;try rw[HSH.o] at c3
  go_wp2_with fail;refine(HSP.o _ HF1.o).mono ?_;rintro e w2 ⟨rfl,hL,hF2⟩;have HWX:=aH ((H.o.same h HF1.o).next h hF2 hL);have HRX:=aH (HR1.o.frm hF2 (h.new H0.o (Nat.le_refl _)));have HFX:=aH ((HF1.o.mono (S':=b.Z) aS).trans hF2);clear hL hF2 c2 c3 HR1 HF1;have hfin:=eE HRX.o 3 i false 0 rfl;have HWF:=aH (HWX.o.evs h H0.o HRX.o HRN.o hfin.2);have HRF:=aH hfin.1;have HFF:=aH (HFX.o.widen hfin.2 (fun z hz=>.inr (by have:=HRN.o;simp at hz;omega)));have r0:=HRX.o.cell (i:=0) rfl;have r1:=HRX.o.cell (i:=1) rfl;have r2:=HRX.o.cell (i:=2) rfl;have r3:=HRX.o.cell (i:=3) rfl;have rz:=HRX.o.frozen;have rl:=HRX.o.lt;clear hfin;go_wp2_with fail;generalize((((w2).setCell (w.heap.size,0) (.int .i64 3)).setCell (w.heap.size,1) (.int .i64 i)).setCell (w.heap.size,2) (.bool false)).setCell (w.heap.size,3) (.int .i64 0)=W2 at*;have k0:=HRF.o.cell (i:=0) rfl;have k1:=HRF.o.cell (i:=1) rfl;have k2:=HRF.o.cell (i:=2) rfl;have k3:=HRF.o.cell (i:=3) rfl;exact bodyPost_ret (v:=.agg #[(3:Int),i,false,(0:Int)]) (by simp[results,results27,go_sem,k0,k1,k2,k3]) rfl ⟨rfl,HWF.o,HFF.o⟩
 ·skip
  go_enter func27,ntmps27;go_wp2_with fail;refine HST.o.mono ?_;rintro e w1 ⟨rfl,hF1⟩;have HR1:=aH (HR.o.frm hF1 aS);have HF1:=aH (HF0.o.trans hF1);clear hF1;have c2:=(H.o.same h HF1.o).box.cell (i:=2) rfl;have c3:=(H.o.same h HF1.o).box.cell (i:=3) rfl;try rw[HSH.o] at c3
  go_wp2_with fail;refine(HSP.o _ HF1.o).mono ?_;rintro e w2 ⟨rfl,hL,hF2⟩;have HWX:=aH ((H.o.same h HF1.o).next h hF2 hL);have HRX:=aH (HR1.o.frm hF2 (h.new H0.o (Nat.le_refl _)));have HFX:=aH ((HF1.o.mono (S':=b.Z) aS).trans hF2);clear hL hF2 c2 c3 HR1 HF1;have hfin:=eE HRX.o 3 i true 0 rfl;have HWF:=aH (HWX.o.evs h H0.o HRX.o HRN.o hfin.2);have HRF:=aH hfin.1;have HFF:=aH (HFX.o.widen hfin.2 (fun z hz=>.inr (by have:=HRN.o;simp at hz;omega)));have r0:=HRX.o.cell (i:=0) rfl;have r1:=HRX.o.cell (i:=1) rfl;have r2:=HRX.o.cell (i:=2) rfl;have r3:=HRX.o.cell (i:=3) rfl;have rz:=HRX.o.frozen;have rl:=HRX.o.lt;clear hfin;go_wp2_with fail;generalize((((w2).setCell (w.heap.size,0) (.int .i64 3)).setCell (w.heap.size,1) (.int .i64 i)).setCell (w.heap.size,2) (.bool true)).setCell (w.heap.size,3) (.int .i64 0)=W2 at*;have k0:=HRF.o.cell (i:=0) rfl;have k1:=HRF.o.cell (i:=1) rfl;have k2:=HRF.o.cell (i:=2) rfl;have k3:=HRF.o.cell (i:=3) rfl;exact bodyPost_ret (v:=.agg #[(3:Int),i,true,(0:Int)]) (by simp[results,results27,go_sem,k0,k1,k2,k3]) rfl ⟨rfl,HWF.o,HFF.o⟩
theorem Ao (h:b.Ok) (hI:p.I k s) (ha:dA b w wo tb lk s) (hi:eO p i) (r:Bool):Calls prog 26 #[some wo,i,r] w fun e w'=>e= .returned (it (p.askE s i r).1 i (p.askE s i r).2 0)∧dA b w' wo tb lk (p.ask s i r)∧ae b.Z w w':=by
 unfold LP.askE LP.ask;cases hg:(r&& !p.shares) with
 |true=>
  have h2:r=true∧p.shares=false:=by simpa using hg
  rw[Bool.true_or,if_pos rfl,if_pos rfl];exact vh h hI ha hi r h2.1 h2.2
 |false=>
  have hrs:r=true→p.shares=true:=fun e=>by subst e;simpa using hg
  cases hr:p.askR s i r with
  |true=>rw[if_neg aS,if_neg aS];exact sO h hI ha hi r hg hrs hr
  |false=>rw[if_pos aS,if_neg aS];exact tT h hI ha hi r hg hrs hr
theorem sg (h:b.Ok) (hI:p.I k s) (ha:dA b w wo tb lk s) (hi:eO p i) (r:Bool):Calls prog 27 #[some wo,i,r] w fun e w'=>e= .returned (it (p.leaveE s i r).1 i (p.leaveE s i r).2 0)∧dA b w' wo tb lk (p.leave s i r)∧ae b.Z w w':=by
 unfold LP.leaveE LP.leave;cases hg:(p.rd s i !=r) with
 |true=>rw[Bool.true_or,if_pos rfl,if_pos rfl];exact rM h hI ha hi r hg
 |false=>
  cases hr:p.leaveR s i with
  |true=>rw[if_neg aS,if_neg aS];exact qT h hI ha hi r hg hr
  |false=>rw[if_pos aS,if_neg aS];exact qy h hI ha hi r hg hr
end
def LP.doE (p:LP) (s:p.σ) (i x:Int):Int×Int×Bool×Int:=
 if aZ p.n i=false then(0,0,false,0)
 else if x=0 then((p.stepE s i).1,i,p.rd s i,(p.stepE s i).2)
 else if x=1∨x=3 then((p.askE s i (x==3)).1,i,(p.askE s i (x==3)).2,0)
 else if x=2∨x=4 then((p.leaveE s i (x==4)).1,i,(p.leaveE s i (x==4)).2,0)
 else(5,i,p.rd s i,0)
def LP.doS (p:LP) (s:p.σ) (i x:Int):p.σ:=
 if aZ p.n i=false then s
 else if x=0 then p.step s i
 else if x=1∨x=3 then p.ask s i (x==3)
 else if x=2∨x=4 then p.leave s i (x==4)
 else s
def Bf (e:Int×Int×Bool×Int):Value:=it e.1 e.2.1 e.2.2.1 e.2.2.2
section
variable{p:LP} {b:LB p} {w w':World} {wo tb lk:Nat} {s s':p.σ} {i:Int} {k:Nat}
theorem fZ:(∀{p:LP} {b:LB p} {w:World} {wo tb lk:Nat} {s:p.σ} {i:Int} {k:Nat} (h:b.Ok) (hI:p.I k s) (ha:dA b w wo tb lk s) {x:Int} (hi:i<0),Calls prog 9 #[some wo,.agg #[i,x]] w fun e w'=>e= .returned (it (0) (0) (false) (0))∧dA b w' wo tb lk (s)∧ae b.Z w w')∧(∀{p:LP} {b:LB p} {w:World} {wo tb lk:Nat} {s:p.σ} {i:Int} {k:Nat} (h:b.Ok) (hI:p.I k s) (ha:dA b w wo tb lk s) {x:Int} (hi:(p.n:Int)≤i),Calls prog 9 #[some wo,.agg #[i,x]] w fun e w'=>e= .returned (it (0) (0) (false) (0))∧dA b w' wo tb lk (s)∧ae b.Z w w')∧(∀{p:LP} {b:LB p} {w:World} {wo tb lk:Nat} {s:p.σ} {i:Int} {k:Nat} (h:b.Ok) (hI:p.I k s) (ha:dA b w wo tb lk s) {x:Int} (hi:eO p i) (hx:x≠0∧x≠1∧x≠2∧x≠3∧x≠4),Calls prog 9 #[some wo,.agg #[i,x]] w fun e w'=>e= .returned (it (5) (i) (p.rd s i) (0))∧dA b w' wo tb lk (s)∧ae b.Z w w')∧(∀{p:LP} {b:LB p} {w:World} {wo tb lk:Nat} {s:p.σ} {i:Int} {k:Nat} (h:b.Ok) (hI:p.I k s) (ha:dA b w wo tb lk s) (hi:eO p i),Calls prog 9 #[some wo,.agg #[i,(0:Int)]] w fun e w'=>e= .returned (it ((p.stepE s i).1) (i) (p.rd s i) ((p.stepE s i).2))∧dA b w' wo tb lk (p.step s i)∧ae b.Z w w')∧(∀{p:LP} {b:LB p} {w:World} {wo tb lk:Nat} {s:p.σ} {i:Int} {k:Nat} (h:b.Ok) (hI:p.I k s) (ha:dA b w wo tb lk s) (hi:eO p i),Calls prog 9 #[some wo,.agg #[i,(1:Int)]] w fun e w'=>e= .returned (it ((p.askE s i false).1) (i) ((p.askE s i false).2) (0))∧dA b w' wo tb lk (p.ask s i false)∧ae b.Z w w')∧(∀{p:LP} {b:LB p} {w:World} {wo tb lk:Nat} {s:p.σ} {i:Int} {k:Nat} (h:b.Ok) (hI:p.I k s) (ha:dA b w wo tb lk s) (hi:eO p i),Calls prog 9 #[some wo,.agg #[i,(3:Int)]] w fun e w'=>e= .returned (it ((p.askE s i true).1) (i) ((p.askE s i true).2) (0))∧dA b w' wo tb lk (p.ask s i true)∧ae b.Z w w')∧(∀{p:LP} {b:LB p} {w:World} {wo tb lk:Nat} {s:p.σ} {i:Int} {k:Nat} (h:b.Ok) (hI:p.I k s) (ha:dA b w wo tb lk s) (hi:eO p i),Calls prog 9 #[some wo,.agg #[i,(2:Int)]] w fun e w'=>e= .returned (it ((p.leaveE s i false).1) (i) ((p.leaveE s i false).2) (0))∧dA b w' wo tb lk (p.leave s i false)∧ae b.Z w w')∧(∀{p:LP} {b:LB p} {w:World} {wo tb lk:Nat} {s:p.σ} {i:Int} {k:Nat} (h:b.Ok) (hI:p.I k s) (ha:dA b w wo tb lk s) (hi:eO p i),Calls prog 9 #[some wo,.agg #[i,(4:Int)]] w fun e w'=>e= .returned (it ((p.leaveE s i true).1) (i) ((p.leaveE s i true).2) (0))∧dA b w' wo tb lk (p.leave s i true)∧ae b.Z w w'):=by
 refine⟨?_,?_,?_,?_,?_,?_,?_,?_⟩;iterate 2
  intro p b w wo tb lk s i k h hI ha x hi;have HB:=aH ((am.new w #[i,x] 38).frm ((ae.refl [] _).alloc (.cells #[(0:Int),(0:Int),false,(0:Int)] 35)) aS);have hr:=am.new (w.alloc (.cells #[i,x] 38)) #[(0:Int),(0:Int),false,(0:Int)] 35;rotate_left
 intro p b w wo tb lk s i k h hI ha x hi hx;have HB:=aH ((am.new w #[i,x] 38).frm ((ae.refl [] _).alloc (.cells #[(0:Int),(0:Int),false,(0:Int)] 35)) aS);have hr:=am.new (w.alloc (.cells #[i,x] 38)) #[(0:Int),(0:Int),false,(0:Int)] 35;rotate_left;intro p b w wo tb lk s i k h hI ha hi;have HB:=aH ((am.new w #[i,(0:Int)] 38).frm ((ae.refl [] _).alloc (.cells #[(0:Int),(0:Int),false,(0:Int)] 35)) aS);have hr:=am.new (w.alloc (.cells #[i,(0:Int)] 38)) #[(0:Int),(0:Int),false,(0:Int)] 35;rotate_left;intro p b w wo tb lk s i k h hI ha hi;have HB:=aH ((am.new w #[i,(1:Int)] 38).frm ((ae.refl [] _).alloc (.cells #[(0:Int),(0:Int),false,(0:Int)] 35)) aS);have hr:=am.new (w.alloc (.cells #[i,(1:Int)] 38)) #[(0:Int),(0:Int),false,(0:Int)] 35;rotate_left;intro p b w wo tb lk s i k h hI ha hi;have HB:=aH ((am.new w #[i,(3:Int)] 38).frm ((ae.refl [] _).alloc (.cells #[(0:Int),(0:Int),false,(0:Int)] 35)) aS);have hr:=am.new (w.alloc (.cells #[i,(3:Int)] 38)) #[(0:Int),(0:Int),false,(0:Int)] 35;rotate_left;intro p b w wo tb lk s i k h hI ha hi;have HB:=aH ((am.new w #[i,(2:Int)] 38).frm ((ae.refl [] _).alloc (.cells #[(0:Int),(0:Int),false,(0:Int)] 35)) aS);have hr:=am.new (w.alloc (.cells #[i,(2:Int)] 38)) #[(0:Int),(0:Int),false,(0:Int)] 35;rotate_left;intro p b w wo tb lk s i k h hI ha hi;have HB:=aH ((am.new w #[i,(4:Int)] 38).frm ((ae.refl [] _).alloc (.cells #[(0:Int),(0:Int),false,(0:Int)] 35)) aS);have hr:=am.new (w.alloc (.cells #[i,(4:Int)] 38)) #[(0:Int),(0:Int),false,(0:Int)] 35;rotate_left;all_goals
  rw[World.size_alloc] at hr;have HR:=aH hr
 iterate 3
  have HF0:=aH (((ae.refl [] w).alloc (.cells #[i,x] 38)).alloc (.cells #[(0:Int),(0:Int),false,(0:Int)] 35));rotate_left
 have HF0:=aH (((ae.refl [] w).alloc (.cells #[i,(0:Int)] 38)).alloc (.cells #[(0:Int),(0:Int),false,(0:Int)] 35));rotate_left;have HF0:=aH (((ae.refl [] w).alloc (.cells #[i,(1:Int)] 38)).alloc (.cells #[(0:Int),(0:Int),false,(0:Int)] 35));rotate_left;have HF0:=aH (((ae.refl [] w).alloc (.cells #[i,(3:Int)] 38)).alloc (.cells #[(0:Int),(0:Int),false,(0:Int)] 35));rotate_left;have HF0:=aH (((ae.refl [] w).alloc (.cells #[i,(2:Int)] 38)).alloc (.cells #[(0:Int),(0:Int),false,(0:Int)] 35));rotate_left;have HF0:=aH (((ae.refl [] w).alloc (.cells #[i,(4:Int)] 38)).alloc (.cells #[(0:Int),(0:Int),false,(0:Int)] 35));rotate_left;all_goals
  have H:=aH ha;have H0:=aH ha.lo.at_;have HRN:=aH (show w.heap.size≤w.heap.size+1 by omega);have HTH:=aH (fun(W:World) (hf:ae [] w W)=>gO (ha.same h hf));unfold it
 have d1:decide (i<0)=true:=decide_eq_true hi;rotate_left;have d1:decide (i<0)=false:=aB;have d2:decide ((p.n:Int)≤i)=true:=decide_eq_true hi;rotate_left;have hcc:=fun(W:World) (hf:ae [] w W)=>eQ h (ha.same h hf) hi;have d1:decide (i<0)=false:=decide_eq_false (by have:=hi.1;omega);have d2:decide ((p.n:Int)≤i)=false:=decide_eq_false (by have:=hi.2;omega);rotate_left;have hcc:=fun(W:World) (hf:ae [] w W)=>Gb h hI (ha.same h hf) hi;unfold it at hcc;have d1:decide (i<0)=false:=decide_eq_false (by have:=hi.1;omega);have d2:decide ((p.n:Int)≤i)=false:=decide_eq_false (by have:=hi.2;omega);rotate_left;have hcc:=fun(W:World) (hf:ae [] w W)=>Ao h hI (ha.same h hf) hi false;unfold it at hcc;have d1:decide (i<0)=false:=decide_eq_false (by have:=hi.1;omega);have d2:decide ((p.n:Int)≤i)=false:=decide_eq_false (by have:=hi.2;omega);rotate_left;have hcc:=fun(W:World) (hf:ae [] w W)=>Ao h hI (ha.same h hf) hi true;unfold it at hcc;have d1:decide (i<0)=false:=decide_eq_false (by have:=hi.1;omega);have d2:decide ((p.n:Int)≤i)=false:=decide_eq_false (by have:=hi.2;omega);rotate_left;have hcc:=fun(W:World) (hf:ae [] w W)=>sg h hI (ha.same h hf) hi false;unfold it at hcc;have d1:decide (i<0)=false:=decide_eq_false (by have:=hi.1;omega);have d2:decide ((p.n:Int)≤i)=false:=decide_eq_false (by have:=hi.2;omega);rotate_left;have hcc:=fun(W:World) (hf:ae [] w W)=>sg h hI (ha.same h hf) hi true;unfold it at hcc;have d1:decide (i<0)=false:=decide_eq_false (by have:=hi.1;omega);have d2:decide ((p.n:Int)≤i)=false:=decide_eq_false (by have:=hi.2;omega);rotate_left;all_goals
  clear hi
 rotate_left 2;have x0:(x==0)=false:=by have:=hx;simp;omega
 have x1:(x==1)=false:=by have:=hx;simp;omega
 have x2:(x==2)=false:=by have:=hx;simp;omega
 have x3:(x==3)=false:=by have:=hx;simp;omega
 have x4:(x==4)=false:=by have:=hx;simp;omega
 clear hx;generalize p.rd s i=er at*;generalize p.st s i=st at*;have HC:=aH hcc;clear hcc;rotate_left;generalize(p.stepE s i).1=ek at*;generalize p.rd s i=er at*;generalize(p.stepE s i).2=ec at*;generalize p.step s i=s2 at*;have HC:=aH hcc;clear hcc;rotate_left;generalize(p.askE s i false).1=ek at*;generalize(p.askE s i false).2=er at*;generalize p.ask s i false=s2 at*;have HC:=aH hcc;clear hcc;rotate_left;generalize(p.askE s i true).1=ek at*;generalize(p.askE s i true).2=er at*;generalize p.ask s i true=s2 at*;have HC:=aH hcc;clear hcc;rotate_left;generalize(p.leaveE s i false).1=ek at*;generalize(p.leaveE s i false).2=er at*;generalize p.leave s i false=s2 at*;have HC:=aH hcc;clear hcc;rotate_left;generalize(p.leaveE s i true).1=ek at*;generalize(p.leaveE s i true).2=er at*;generalize p.leave s i true=s2 at*;have HC:=aH hcc;clear hcc;rotate_left;all_goals
  have b0:=HB.o.cell (i:=0) rfl;have b1:=HB.o.cell (i:=1) rfl;clear ha hr hI;go_enter func9,ntmps9;go_wp2_with fail
 iterate 3
  generalize(w.alloc (.cells #[i,x] 38)).alloc (.cells #[(0:Int),(0:Int),false,(0:Int)] 35)=W0 at*;rotate_left
 generalize(w.alloc (.cells #[i,(0:Int)] 38)).alloc (.cells #[(0:Int),(0:Int),false,(0:Int)] 35)=W0 at*;rotate_left;generalize(w.alloc (.cells #[i,(1:Int)] 38)).alloc (.cells #[(0:Int),(0:Int),false,(0:Int)] 35)=W0 at*;rotate_left;generalize(w.alloc (.cells #[i,(3:Int)] 38)).alloc (.cells #[(0:Int),(0:Int),false,(0:Int)] 35)=W0 at*;rotate_left;generalize(w.alloc (.cells #[i,(2:Int)] 38)).alloc (.cells #[(0:Int),(0:Int),false,(0:Int)] 35)=W0 at*;rotate_left;generalize(w.alloc (.cells #[i,(4:Int)] 38)).alloc (.cells #[(0:Int),(0:Int),false,(0:Int)] 35)=W0 at*;rotate_left;all_goals
  have hne:=aW [] W0;have hz0:∀q:HW (fun wx=>ae [] W0 wx),q.w.cell? (w.heap.size,0)=some (.int .i64 i):=fun q=>(HB.o.frm q.h aS).cell (i:=0) rfl;refine aG (fun wx=>ae [] W0 wx) ?_;refine aR (fuel:=3) [0,1,2,3,4,5,6] rfl aF.drew1 ?_;intro K' hK;repeat (go_big_quiet_step (fail))
  refine wpQuiet_nil (hK _ ?_);clear hK K';refine aL 7 (fuel:=2) rfl ?_;go_wp2_with fail
 rotate_left;iterate 7
  focus
   refine(HTH.o _ HF0.o.drew1).mono ?_;rintro e w' ⟨rfl,rfl⟩;go_wp2_with fail
  rotate_left
 all_goals
  refine af ⟨aF.drew1,?_⟩;refine aR (fuel:=0) [8,9] rfl aF.drew1 ?_;intro K' hK;repeat (go_big_quiet_step (fail))
  refine wpQuiet_nil (hK _ ?_);clear hK K' hne hz0;refine aN ?_;have HB1:=aH (HB.o.drew1);have HR1:=aH (HR.o.drew1);have HF1:=aH (HF0.o.drew1);clear HB HR HF0 HTH b0 b1;generalize W0.drew=w1 at*;have b0:=HB1.o.cell (i:=0) rfl;have b1:=HB1.o.cell (i:=1) rfl
 iterate 2
  have HWX:=aH (H.o.same h HF1.o);have HFX:=aH (HF1.o.mono (S':=b.Z) aS);have HRX:=HR1;clear HF1;have hfin:=eE HRX.o 0 (0) false 0 rfl;rotate_left
 focus
  go_wp2_with fail;refine(HC.o _ HF1.o).mono ?_;rintro e w2 ⟨rfl,hF2⟩;have HRX:=aH (HR1.o.frm hF2 aS);have HB2:=aH (HB1.o.frm hF2 aS);have HFX:=aH ((HF1.o.trans hF2).mono (S':=b.Z) aS);have HWX:=aH ((H.o.same h HF1.o).same h hF2);clear hF2 b0 b1;have b0:=HB2.o.cell (i:=0) rfl;have hfin:=eE HRX.o 5 (i) er 0 rfl
 rotate_left
 focus
  go_wp2_with fail;refine(HC.o _ HF1.o).mono ?_;rintro e w2 ⟨rfl,hW2,hF2⟩;have HRX:=aH (HR1.o.frm hF2 (h.new H0.o aO));have HFX:=aH ((HF1.o.mono (S':=b.Z) aS).trans hF2);have HWX:=aH hW2;clear hF2 hW2 b0 b1;have hfin:=eE HRX.o ek (i) er ec rfl
 rotate_left;iterate 4
  focus
   go_wp2_with fail;refine(HC.o _ HF1.o).mono ?_;rintro e w2 ⟨rfl,hW2,hF2⟩;have HRX:=aH (HR1.o.frm hF2 (h.new H0.o aO));have HFX:=aH ((HF1.o.mono (S':=b.Z) aS).trans hF2);have HWX:=aH hW2;clear hF2 hW2 b0 b1;have hfin:=eE HRX.o ek (i) er 0 rfl
  rotate_left
 all_goals
  have HWF:=aH (HWX.o.evs h H0.o HRX.o HRN.o hfin.2);have HRF:=aH hfin.1;have HFF:=aH (HFX.o.widen hfin.2 (fun z hz=>.inr (by have:=HRN.o;simp at hz;omega)));have r0:=HRX.o.cell (i:=0) rfl;have r1:=HRX.o.cell (i:=1) rfl;have r2:=HRX.o.cell (i:=2) rfl;have r3:=HRX.o.cell (i:=3) rfl;have rz:=HRX.o.frozen;have rl:=HRX.o.lt;clear hfin;go_wp2_with fail
 iterate 2
  generalize((((w1).setCell (w.heap.size+1,0) (.int .i64 0)).setCell (w.heap.size+1,1) (.int .i64 (0))).setCell (w.heap.size+1,2) (.bool false)).setCell (w.heap.size+1,3) (.int .i64 0)=W2 at*;rotate_left
 generalize((((w2).setCell (w.heap.size+1,0) (.int .i64 5)).setCell (w.heap.size+1,1) (.int .i64 (i))).setCell (w.heap.size+1,2) (.bool er)).setCell (w.heap.size+1,3) (.int .i64 0)=W2 at*;rotate_left;generalize((((w2).setCell (w.heap.size+1,0) (.int .i64 ek)).setCell (w.heap.size+1,1) (.int .i64 (i))).setCell (w.heap.size+1,2) (.bool er)).setCell (w.heap.size+1,3) (.int .i64 ec)=W2 at*;rotate_left;iterate 4
  generalize((((w2).setCell (w.heap.size+1,0) (.int .i64 ek)).setCell (w.heap.size+1,1) (.int .i64 (i))).setCell (w.heap.size+1,2) (.bool er)).setCell (w.heap.size+1,3) (.int .i64 0)=W2 at*;rotate_left
 all_goals
  have k0:=HRF.o.cell (i:=0) rfl;have k1:=HRF.o.cell (i:=1) rfl;have k2:=HRF.o.cell (i:=2) rfl;have k3:=HRF.o.cell (i:=3) rfl
 iterate 2
  focus
   exact bodyPost_ret (v:=.agg #[(0:Int),(0:Int),false,(0:Int)]) (by simp[results,results9,go_sem,k0,k1,k2,k3]) rfl ⟨rfl,HWF.o,HFF.o⟩
 ·exact bodyPost_ret (v:=.agg #[(5:Int),(i:Int),er,(0:Int)]) (by simp[results,results9,go_sem,k0,k1,k2,k3]) rfl ⟨rfl,HWF.o,HFF.o⟩
 ·exact bodyPost_ret (v:=.agg #[ek,(i:Int),er,ec]) (by simp[results,results9,go_sem,k0,k1,k2,k3]) rfl ⟨rfl,HWF.o,HFF.o⟩
 iterate 4
  focus
   exact bodyPost_ret (v:=.agg #[ek,(i:Int),er,(0:Int)]) (by simp[results,results9,go_sem,k0,k1,k2,k3]) rfl ⟨rfl,HWF.o,HFF.o⟩
def zc:= @And.left _ _ fZ
def AB:= @And.left _ _ (@And.right _ _ fZ)
def Fc:= @And.left _ _ (@And.right _ _ (@And.right _ _ fZ))
def Fy:= @And.left _ _ (@And.right _ _ (@And.right _ _ (@And.right _ _ fZ)))
def DF:= @And.left _ _ (@And.right _ _ (@And.right _ _ (@And.right _ _ (@And.right _ _ fZ))))
def Fr:= @And.left _ _ (@And.right _ _ (@And.right _ _ (@And.right _ _ (@And.right _ _ (@And.right _ _ fZ)))))
def FF:= @And.left _ _ (@And.right _ _ (@And.right _ _ (@And.right _ _ (@And.right _ _ (@And.right _ _ (@And.right _ _ fZ))))))
def Ed:= @And.right _ _ (@And.right _ _ (@And.right _ _ (@And.right _ _ (@And.right _ _ (@And.right _ _ (@And.right _ _ fZ))))))
theorem I3 (h:b.Ok) (hI:p.I k s) (ha:dA b w wo tb lk s) (i x:Int):Calls prog 9 #[some wo,.agg #[i,x]] w fun e w'=>e= .returned (Bf (p.doE s i x))∧dA b w' wo tb lk (p.doS s i x)∧ae b.Z w w':=by
 cases hs:aZ p.n i with
 |false=>
  rw[show p.doE s i x=(0,0,false,0) from by unfold LP.doE;rw[if_pos hs],show p.doS s i x=s from by unfold LP.doS;rw[if_pos hs]];by_cases h0:i<0
  ·exact zc h hI ha h0
  ·refine AB h hI ha ?_;unfold aZ at hs;simp at hs;omega
 |true=>
  have hi:eO p i:=by unfold aZ at hs;exact(of_decide_eq_true hs:0≤i∧i<(p.n:Int))
  have hn:¬aZ p.n i=false:=by rw[hs];simp
  by_cases x0:x=0
  ·subst x0;rw[show p.doE s i 0=((p.stepE s i).1,i,p.rd s i,(p.stepE s i).2) from by unfold LP.doE;rw[if_neg hn,if_pos rfl],show p.doS s i 0=p.step s i from by unfold LP.doS;rw[if_neg hn,if_pos rfl]];exact Fy h hI ha hi
  by_cases x1:x=1
  ·subst x1;rw[show p.doE s i 1=((p.askE s i false).1,i,(p.askE s i false).2,0) from by unfold LP.doE;rw[if_neg hn,if_neg aO,if_pos (Or.inl rfl)];rfl,show p.doS s i 1=p.ask s i false from by unfold LP.doS;rw[if_neg hn,if_neg aO,if_pos (Or.inl rfl)];rfl];exact DF h hI ha hi
  by_cases x3:x=3
  ·subst x3;rw[show p.doE s i 3=((p.askE s i true).1,i,(p.askE s i true).2,0) from by unfold LP.doE;rw[if_neg hn,if_neg aO,if_pos (Or.inr rfl)];rfl,show p.doS s i 3=p.ask s i true from by unfold LP.doS;rw[if_neg hn,if_neg aO,if_pos (Or.inr rfl)];rfl];exact Fr h hI ha hi
  by_cases x2:x=2
  ·subst x2;rw[show p.doE s i 2=((p.leaveE s i false).1,i,(p.leaveE s i false).2,0) from by unfold LP.doE;rw[if_neg hn,if_neg aO,if_neg aO,if_pos (Or.inl rfl)];rfl,show p.doS s i 2=p.leave s i false from by unfold LP.doS;rw[if_neg hn,if_neg aO,if_neg aO,if_pos (Or.inl rfl)];rfl];exact FF h hI ha hi
  by_cases x4:x=4
  ·subst x4;rw[show p.doE s i 4=((p.leaveE s i true).1,i,(p.leaveE s i true).2,0) from by unfold LP.doE;rw[if_neg hn,if_neg aO,if_neg aO,if_pos (Or.inr rfl)];rfl,show p.doS s i 4=p.leave s i true from by unfold LP.doS;rw[if_neg hn,if_neg aO,if_neg aO,if_pos (Or.inr rfl)];rfl];exact Ed h hI ha hi
  rw[show p.doE s i x=(5,i,p.rd s i,0) from by unfold LP.doE;rw[if_neg hn,if_neg x0,if_neg aO,if_neg aO],show p.doS s i x=s from by unfold LP.doS;rw[if_neg hn,if_neg x0,if_neg aO,if_neg aO]];exact Fc h hI ha hi ⟨x0,x1,x2,x3,x4⟩
end
end Go.Proofs.YteijjhahgabalaaGreat
