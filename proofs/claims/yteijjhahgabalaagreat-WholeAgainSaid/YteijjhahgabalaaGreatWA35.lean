/- Locks of readers and writers as the world sees them: package rw around a machine with readers, locks.both around it. -/
import Derived.Test.YteijjhahgabalaaGreatWA32
import Derived.Test.YteijjhahgabalaaGreatWA07
import Derived.Test.YteijjhahgabalaaGreatWA14
import Derived.Test.YteijjhahgabalaaGreatWA29
set_option maxRecDepth 100000
set_option maxHeartbeats 8000000
set_option linter.all false
namespace Go.Proofs.YteijjhahgabalaaGreat
open Go.RowKit
open Tryz
section
variable{p:LP}
structure iH.OkR (b:iH p):Prop where
 n32:p.n≤32
 sh:p.shares=true
 cnt:∀s i,p.cnt s i=if p.sp s i 0=10 then 1 else 0
 mAsk:∀F w,(method (F+3) b.T b.q "Ask").run prog w= .ok (b.nAsk,b.rAsk) w
 mLeave:∀F w,(method (F+3) b.T b.q "Leave").run prog w= .ok (b.nLeave,b.rLeave) w
 mStep:∀F w,(method (F+3) b.T b.q "Step").run prog w= .ok (b.nStep,b.rStep) w
 mSpot:∀F w,(method (F+3) b.T b.q "Spot").run prog w= .ok (b.nSpot,b.rSpot) w
 eAsk:∀args w,(callFunc b.nAsk args).run prog w= .ok (.enter b.nAsk args) w
 eLeave:∀args w,(callFunc b.nLeave args).run prog w= .ok (.enter b.nLeave args) w
 eStep:∀args w,(callFunc b.nStep args).run prog w= .ok (.enter b.nStep args) w
 eSpot:∀args w,(callFunc b.nSpot args).run prog w= .ok (.enter b.nSpot args) w
 cAsk:∀w k s i r,p.I k s→b.At w s→eO p i→Calls prog b.nAsk #[b.rAsk,.int .i64 i,.bool r] w fun e w'=>e= .returned (.bool (p.askR s i r))∧b.At w' (p.askS s i r)∧ae b.Z w w'
 cLeave:∀w k s i,p.I k s→b.At w s→eO p i→Calls prog b.nLeave #[b.rLeave,.int .i64 i] w fun e w'=>e= .returned (.bool (p.leaveR s i))∧b.At w' (p.leaveS s i)∧ae b.Z w w'
 cStep:∀w k s i,p.I k s→b.At w s→eO p i→Calls prog b.nStep #[b.rStep,.int .i64 i] w fun e w'=>e= .returned (.bool (p.stepR s i))∧b.At w' (p.stepS s i)∧ae b.Z w w'
 cSpot:∀w s i,b.At w s→eO p i→Calls prog b.nSpot #[b.rSpot,.int .i64 i] w fun e w'=>e= .returned (d9 p s i)∧ae [] w w'
 ar:∀w s,b.At w s→aj w b.ab b.wb (p.ar s)
 free:∀w s,b.At w s→dI w b.Z
 stay:∀w w' s S,b.At w s→ae S w w'→dI w S→(∀z∈S,z∉b.Z)→b.At w' s
 ext:∀w s s',p.eqv s s'→b.At w s→b.At w s':=by intro w s s' e h;cases e;exact h
structure iG (b:iH p) (md:Int) (rb:Nat) (w:World) (s:p.σ):Prop where
 box:am w rb [md,.iface b.T b.q] 233
 at_:b.At w s
variable{b:iH p} {w w':World} {s s':p.σ} {i md:Int} {k rb:Nat}
theorem iH.OkR.same (h:b.OkR) (ha:b.At w s) (hf:ae [] w w'):b.At w' s:=h.stay _ _ _ _ ha hf (dI.nil _) aS
theorem iG.next (h:b.OkR) (ha:iG b md rb w s) (hf:ae b.Z w w') (hc:b.At w' s'):iG b md rb w' s':=⟨ha.box.frm hf ((h.free _ _ ha.at_).not ha.box),hc⟩
theorem iG.same (h:b.OkR) (ha:iG b md rb w s) (hf:ae [] w w'):iG b md rb w' s:=⟨ha.box.frm hf aS,h.same ha.at_ hf⟩
theorem zR (hb:am w rb [md,.iface b.T b.q] 233) (h0:md≠0):Calls prog 331 #[some rb] w fun e w'=>e= .returned true∧w=w':=by
 have c0:=hb.cell (i:=0) rfl;have e0:(md !=0)=true:=by simpa using h0
 clear hb h0;go_enter func331,ntmps331;go_wp2;go_ret;exact⟨rfl,rfl⟩
theorem qe:(∀{p:LP} {b:iH p} {w:World} {s:p.σ} {i md:Int} {k rb:Nat} (h:b.OkR) (ha:iG b md rb w s) (h0:md≠0) (hI:p.I k s) (hi:eO p i) (r:Bool),Calls prog 326 #[some rb,i,r] w fun e w'=>e= .returned (.bool (p.askR s i r))∧iG b md rb w' (p.askS s i r)∧ae b.Z w w')∧(∀{p:LP} {b:iH p} {w:World} {s:p.σ} {i md:Int} {k rb:Nat} (h:b.OkR) (ha:iG b md rb w s) (h0:md≠0) (hI:p.I k s) (hi:eO p i),Calls prog 327 #[some rb,i] w fun e w'=>e= .returned (.bool (p.leaveR s i))∧iG b md rb w' (p.leaveS s i)∧ae b.Z w w')∧(∀{p:LP} {b:iH p} {w:World} {s:p.σ} {i md:Int} {k rb:Nat} (h:b.OkR) (ha:iG b md rb w s) (h0:md≠0) (hI:p.I k s) (hi:eO p i),Calls prog 330 #[some rb,i] w fun e w'=>e= .returned (.bool (p.stepR s i))∧iG b md rb w' (p.stepS s i)∧ae b.Z w w'):=by
 refine⟨?_,?_,?_⟩;intro p b w s i md k rb h ha h0 hI hi r;rotate_left;iterate 2
  intro p b w s i md k rb h ha h0 hI hi;rotate_left
 all_goals
  have HM:=aH (zR ha.box h0)
 have HC:=aH (h.cAsk _ _ _ _ r hI ha.at_ hi);have hm:∀w,(method 437 b.T b.q "Ask").run prog w= .ok (b.nAsk,b.rAsk) w:=h.mAsk 434;have he:=h.eAsk;rotate_left;have HC:=aH (h.cLeave _ _ _ _ hI ha.at_ hi);have hm:∀w,(method 437 b.T b.q "Leave").run prog w= .ok (b.nLeave,b.rLeave) w:=h.mLeave 434;have he:=h.eLeave;rotate_left;have HC:=aH (h.cStep _ _ _ _ hI ha.at_ hi);have hm:∀w,(method 437 b.T b.q "Step").run prog w= .ok (b.nStep,b.rStep) w:=h.mStep 434;have he:=h.eStep;rotate_left;all_goals
  have c1:=ha.box.cell (i:=1) rfl;have hnot:= @aX prog;have HN:=aH (fun(w':World) (s':p.σ) (hf:ae b.Z w w') (hc:b.At w' s')=>ha.next h hf hc);clear h ha hi h0 hI
 focus
  go_enter func326,ntmps326
 rotate_left
 focus
  go_enter func327,ntmps327
 rotate_left
 focus
  go_enter func330,ntmps330
 rotate_left;all_goals
  go_wp2_with fail;refine HM.o.mono ?_;rintro e w9 ⟨rfl,rfl⟩;go_wp2_with fail;refine HC.o.mono ?_;rintro e w1 ⟨rfl,hA,hF⟩;have HA:=aH (And.intro (HN.o _ _ hF hA) hF);clear hA hF;go_wp2;go_ret;exact⟨rfl,HA.o⟩
def GE:= @And.left _ _ qe
def Cx:= @And.left _ _ (@And.right _ _ qe)
def Fp:= @And.right _ _ (@And.right _ _ qe)
theorem x6 (h:b.OkR) (ha:iG b md rb w s) (h0:md≠0) (hi:eO p i):Calls prog 329 #[some rb,i] w fun e w'=>e= .returned (d9 p s i)∧ae [] w w':=by
 have hF0:ae [] w (w.alloc (.cells #[(0:Int),(0:Int),(0:Int),(0:Int)] 138)):=aF.alloc _;have ha2:=ha.same h hF0;have HB:=aH (am.new w #[(0:Int),(0:Int),(0:Int),(0:Int)] 138);have HM:=aH (zR ha2.box h0);have hC:=h.cSpot _ _ _ ha2.at_ hi;have HF0:=aH hF0;unfold d9 at hC⊢;have HC:=aH hC;have hm:∀w,(method 437 b.T b.q "Spot").run prog w= .ok (b.nSpot,b.rSpot) w:=h.mSpot 434;have he:=h.eSpot;have c1:=ha2.box.cell (i:=1) rfl;have hnot:= @aX prog;generalize p.sp s i 0=q0 at*;generalize p.sp s i 1=q1 at*;generalize p.sp s i 2=q2 at*;generalize p.sp s i 3=q3 at*;clear h ha hi h0 ha2 hF0 hC;go_enter func329,ntmps329;go_wp2_with fail;refine HM.o.mono ?_;rintro e w9 ⟨rfl,rfl⟩;go_wp2_with fail;refine HC.o.mono ?_;rintro e w1 ⟨rfl,hF⟩;have hB:=HB.o.frm hF aS;have b0:=hB.cell (i:=0) rfl;have b1:=hB.cell (i:=1) rfl;have b2:=hB.cell (i:=2) rfl;have b3:=hB.cell (i:=3) rfl;have bz:=hB.frozen;have HW2:=aH (show am ((((w1.setCell (w.heap.size,0) (.int .i64 q0)).setCell (w.heap.size,1) (.int .i64 q1)).setCell (w.heap.size,2) (.int .i64 q2)).setCell (w.heap.size,3) (.int .i64 q3)) w.heap.size [q0,q1,q2,q3] 138 from(((hB.set 0 (.int .i64 q0)).set 1 (.int .i64 q1)).set 2 (.int .i64 q2)).set 3 (.int .i64 q3));clear hB;have HA:=aH (HF0.o.trans hF);clear hF;go_wp2_with fail;have k0:=HW2.o.cell (i:=0) rfl;have k1:=HW2.o.cell (i:=1) rfl;have k2:=HW2.o.cell (i:=2) rfl;have k3:=HW2.o.cell (i:=3) rfl;exact bodyPost_ret (v:=.agg #[q0,q1,q2,q3]) (by simp[results,results329,go_sem,k0,k1,k2,k3]) rfl ⟨rfl,(((HA.o.set _ _ (.inr (Nat.le_refl _))).set _ _ (.inr (Nat.le_refl _))).set _ _ (.inr (Nat.le_refl _))).set _ _ (.inr (Nat.le_refl _))⟩
theorem zq (h:b.OkR) (ha:iG b md rb w s) (h0:md≠0) (hi:eO p i):Calls prog 332 #[.agg #[some rb],i] w fun e w'=>e= .returned (.int .i64 (if p.sp s i 0=10 then 1 else 0))∧ae [] w w':=by
 have hF0:ae [] w (w.alloc (.cells #[some rb] 190)):=aF.alloc _;have HC:=aH (yJ (w:=w.alloc (.cells #[some rb] 190)) (T:=186) (v:=.pointer (some ⟨rb,0,none⟩)) (nf:=329) (rv:=.pointer (some ⟨rb,0,none⟩)) (fun w=>by kernel_rfl) (fun args w=>by kernel_rfl) (x6 h (ha.same h hF0) h0 hi));have HF0:=aH hF0;generalize(if p.sp s i 0=10 then(1:Int) else 0)=x at*;clear h ha hi hF0 h0;go_enter func332,ntmps332;go_wp2_with fail;refine HC.o.mono ?_;rintro e w1 ⟨rfl,hF⟩;have HF:=aH (HF0.o.trans hF);clear hF;go_wp2;go_ret;exact⟨rfl,HF.o⟩
def iH.both (b:iH p) (md:Int) (rb:Nat) (kind:Int):LB p where
 T:=190
 v:=.agg #[some rb]
 Z:=b.Z
 ab:=b.ab
 wb:=b.wb
 kind:=kind
 At:=fun w s=>iG b md rb w s
 nAsk:=326
 rAsk:=.pointer (some ⟨rb,0,none⟩)
 nLeave:=327
 rLeave:=.pointer (some ⟨rb,0,none⟩)
 nStep:=330
 rStep:=.pointer (some ⟨rb,0,none⟩)
 nSpot:=329
 rSpot:=.pointer (some ⟨rb,0,none⟩)
 nCount:=332
 rCount:=.agg #[some rb]
theorem iH.OkR.both_ok (h:b.OkR) (h0:md≠0) (kind:Int) (hk:11≤kind∧kind≤13):(b.both md rb kind).Ok where
 n32:=h.n32
 mAsk:=fun F w=>by kernel_rfl
 mLeave:=fun F w=>by kernel_rfl
 mStep:=fun F w=>by kernel_rfl
 mSpot:=fun F w=>by kernel_rfl
 mCount:=fun F w=>by kernel_rfl
 eAsk:=fun args w=>by kernel_rfl
 eLeave:=fun args w=>by kernel_rfl
 eStep:=fun args w=>by kernel_rfl
 eSpot:=fun args w=>by kernel_rfl
 eCount:=fun args w=>by kernel_rfl
 cAsk:=fun w k s i r hI ha hi _=>GE h ha h0 hI hi r
 cLeave:=fun w k s i hI ha hi=>Cx h ha h0 hI hi
 cStep:=fun w k s i hI ha hi=>Fp h ha h0 hI hi
 cSpot:=fun w s i ha hi=>x6 h ha h0 hi
 cCount:=fun w s i ha hi=>by rw[h.cnt];exact zq h ha h0 hi
 shares:=fun w=>by
  have:=jj kind w;rw[decide_eq_true (show 11≤kind from hk.1),decide_eq_true (show kind≤13 from hk.2),Bool.true_and] at this;rw[h.sh];exact this
 ar:=fun w s ha=>h.ar _ _ ha.at_
 free:=fun w s ha=>h.free _ _ ha.at_
 stay:=fun w w' s S ha hf hs hz=>⟨ha.box.frm hf (hs.not ha.box),h.stay _ _ _ _ ha.at_ hf hs hz⟩
 ext:=fun w s s' e ha=>⟨ha.box,h.ext _ _ _ e ha.at_⟩
end
abbrev yn:CK:=mP [-1,0,0] [1,1,2,2] 2 4 1 1
abbrev zz:LP:=gF yn
def yi (L:List (List Int)):Nat→Nat→Int:=fun i k=>(L[i]?.getD [])[k]?.getD 0
def Fl (ws:List Int) (ops k at_:Int) (wr:Bool) (g l0 l1 t:List (List Int)):CS:=⟨⟨ws++List.replicate 4082 0,14,ops,k,at_,wr⟩,yi g,fun v=>if v=0 then yi l0 else yi l1,yi t⟩
def uo:Nat→CS
 | 0=>Fl [0,0,0,0,0,0,0,0,0,0,0,0,0,0] 0 0 0 false [[0,0,0,0],[0,0,0,0]] [[0,0,0,0],[0,0,0,0]] [[0,0,0,0],[0,0,0,0]] [[0,0,0,0],[0,0,0,0],[0,0,0,0],[0,0,0,0]]
 | 1=>Fl [0,0,0,0,0,0,0,0,0,0,0,0,0,0] 0 0 0 false [[0,0,0,0],[0,0,0,0]] [[1,0,0,0],[0,0,0,0]] [[0,0,0,0],[0,0,0,0]] [[1,0,0,0],[0,0,0,0],[0,0,0,0],[0,0,0,0]]
 | 2=>Fl [0,0,0,0,0,0,0,0,0,0,0,0,0,0] 1 2 4 true [[0,0,0,0],[0,0,0,0]] [[2,0,0,0],[0,0,0,0]] [[0,0,0,0],[0,0,0,0]] [[1,0,0,0],[0,0,0,0],[0,0,0,0],[0,0,0,0]]
 | 3=>Fl [0,0,0,0,1,0,0,0,0,0,0,0,0,0] 2 2 5 true [[0,0,0,0],[0,0,0,0]] [[3,0,0,0],[0,0,0,0]] [[0,0,0,0],[0,0,0,0]] [[1,0,0,0],[0,0,0,0],[0,0,0,0],[0,0,0,0]]
 | 4=>Fl [0,0,1,0,1,0,0,0,0,0,0,0,0,0] 3 3 3 true [[0,0,0,0],[0,0,0,0]] [[10,0,0,0],[0,0,0,0]] [[0,0,0,0],[0,0,0,0]] [[2,0,0,0],[0,0,0,0],[0,0,0,0],[0,0,0,0]]
 | 5=>Fl [0,0,1,0,1,0,0,0,0,0,0,0,0,0] 4 1 8 false [[1,0,0,0],[0,0,0,0]] [[10,0,0,0],[0,0,0,0]] [[0,0,0,0],[0,0,0,0]] [[3,0,0,0],[0,0,0,0],[0,0,0,0],[0,0,0,0]]
 | 6=>Fl [1,0,1,0,1,0,0,0,0,0,0,0,0,0] 5 5 1 true [[2,0,0,0],[0,0,0,0]] [[10,0,0,0],[0,0,0,0]] [[0,0,0,0],[0,0,0,0]] [[3,0,0,0],[0,0,0,0],[0,0,0,0],[0,0,0,0]]
 | 7=>Fl [1,0,1,0,1,0,0,0,0,0,0,0,0,0] 6 1 2 false [[10,0,0,0],[0,0,0,0]] [[10,0,0,0],[0,0,0,0]] [[0,0,0,0],[0,0,0,0]] [[4,0,0,0],[0,0,0,0],[0,0,0,0],[0,0,0,0]]
 | 8=>Fl [1,0,1,0,1,0,0,1,0,0,0,0,0,0] 7 2 8 true [[10,0,0,0],[0,0,0,0]] [[10,0,0,0],[0,0,0,0]] [[0,0,0,0],[0,0,0,0]] [[10,1,0,0],[0,0,0,0],[0,0,0,0],[0,0,0,0]]
 | 9=>Fl [1,0,1,0,1,0,0,1,0,0,0,0,0,0] 7 2 8 true [[10,0,0,0],[0,0,0,0]] [[10,0,0,0],[0,0,0,0]] [[0,0,0,0],[0,0,0,0]] [[11,1,0,0],[0,0,0,0],[0,0,0,0],[0,0,0,0]]
 | 10=>Fl [1,0,1,0,1,0,0,1,0,0,0,0,0,0] 7 2 8 true [[10,0,0,0],[0,0,0,0]] [[10,0,0,0],[0,0,0,0]] [[0,0,0,0],[1,0,0,0]] [[11,1,0,0],[0,0,0,0],[0,0,0,0],[1,0,0,0]]
 | 11=>Fl [1,0,1,0,1,0,0,1,0,0,0,0,0,0] 8 1 8 false [[10,0,0,0],[0,0,0,0]] [[10,0,0,0],[0,0,0,0]] [[0,0,0,0],[1,0,0,0]] [[12,1,0,0],[0,0,0,0],[0,0,0,0],[1,0,0,0]]
 | 12=>Fl [1,0,1,0,1,0,0,1,0,0,0,0,0,0] 9 1 4 false [[10,0,0,0],[0,0,0,0]] [[10,0,0,0],[0,0,0,0]] [[0,0,0,0],[1,0,0,0]] [[14,1,0,0],[0,0,0,0],[0,0,0,0],[1,0,0,0]]
 | 13=>Fl [1,0,1,0,1,0,0,0,0,0,0,0,0,0] 10 2 8 true [[11,0,0,0],[0,0,0,0]] [[10,0,0,0],[0,0,0,0]] [[0,0,0,0],[1,0,0,0]] [[15,1,0,0],[0,0,0,0],[0,0,0,0],[1,0,0,0]]
 | 14=>Fl [1,1,1,0,1,0,0,0,0,0,0,0,0,0] 11 2 2 true [[0,0,0,0],[0,0,0,0]] [[11,0,0,0],[0,0,0,0]] [[0,0,0,0],[1,0,0,0]] [[16,1,0,0],[0,0,0,0],[0,0,0,0],[1,0,0,0]]
 | 15=>Fl [1,1,1,0,1,0,0,0,0,0,0,0,0,0] 12 1 4 false [[0,0,0,0],[0,0,0,0]] [[12,0,0,0],[0,0,0,0]] [[0,0,0,0],[1,0,0,0]] [[16,1,0,0],[0,0,0,0],[0,0,0,0],[1,0,0,0]]
 | 16=>Fl [1,1,0,0,1,0,0,0,0,0,0,0,0,0] 13 4 3 true [[0,0,0,0],[0,0,0,0]] [[0,0,0,0],[0,0,0,0]] [[0,0,0,0],[1,0,0,0]] [[0,1,0,0],[0,0,0,0],[0,0,0,0],[1,0,0,0]]
 | 17=>Fl [1,1,0,0,1,0,0,0,0,0,0,0,0,0] 14 2 12 true [[0,0,0,0],[0,0,0,0]] [[0,0,0,0],[0,0,0,0]] [[0,0,0,0],[2,0,0,0]] [[0,1,0,0],[0,0,0,0],[0,0,0,0],[1,0,0,0]]
 | 18=>Fl [1,1,0,0,1,0,0,0,0,0,0,0,1,0] 15 2 13 true [[0,0,0,0],[0,0,0,0]] [[0,0,0,0],[0,0,0,0]] [[0,0,0,0],[3,0,0,0]] [[0,1,0,0],[0,0,0,0],[0,0,0,0],[1,0,0,0]]
 | 19=>Fl [1,1,0,0,1,0,0,0,2,0,0,0,1,0] 16 3 9 true [[0,0,0,0],[0,0,0,0]] [[0,0,0,0],[0,0,0,0]] [[0,0,0,0],[10,0,0,0]] [[0,1,0,0],[0,0,0,0],[0,0,0,0],[2,0,0,0]]
 | 20=>Fl [1,1,0,0,1,0,0,0,2,0,0,0,1,0] 17 1 14 false [[0,0,0,0],[1,0,0,0]] [[0,0,0,0],[0,0,0,0]] [[0,0,0,0],[10,0,0,0]] [[0,1,0,0],[0,0,0,0],[0,0,0,0],[3,0,0,0]]
 | 21=>Fl [2,1,0,0,1,0,0,0,2,0,0,0,1,0] 18 5 1 true [[0,0,0,0],[2,1,0,0]] [[0,0,0,0],[0,0,0,0]] [[0,0,0,0],[10,0,0,0]] [[0,1,0,0],[0,0,0,0],[0,0,0,0],[3,0,0,0]]
 | 22=>Fl [2,1,0,0,1,0,0,0,2,0,0,0,1,0] 19 1 2 false [[0,0,0,0],[10,1,0,0]] [[0,0,0,0],[0,0,0,0]] [[0,0,0,0],[10,0,0,0]] [[0,1,0,0],[0,0,0,0],[0,0,0,0],[4,0,0,0]]
 |_=>Fl [2,1,0,0,1,0,0,0,2,0,0,0,1,1] 20 2 14 true [[0,0,0,0],[10,1,0,0]] [[0,0,0,0],[0,0,0,0]] [[0,0,0,0],[10,0,0,0]] [[0,1,0,0],[0,0,0,0],[0,0,0,0],[10,1,0,0]]
def pkL:List (Int×Int):=[(0,1),(0,0),(0,0),(0,0),(0,0),(0,0),(0,0),(0,0),(0,2),(3,1),(0,0),(0,0),(0,0),(0,0),(0,0),(0,0),(3,0),(3,0),(3,0),(3,0),(3,0),(3,0),(3,0)]
def mQ (k:Nat):Int×Int:=pkL[k]?.getD (0,0)
def evL:List (Int×Int×Int):=[(1,0,0),(0,0,0),(0,0,0),(0,0,0),(0,0,0),(0,0,0),(0,0,0),(2,0,1),(3,0,0),(1,3,0),(0,0,0),(0,0,0),(0,0,0),(0,0,0),(0,0,0),(4,0,0),(0,3,0),(0,3,0),(0,3,0),(0,3,0),(0,3,0),(0,3,0),(2,3,1)]
def ra (k:Nat):Int×Int×Int:=evL[k]?.getD (0,0,0)
def atL:List Nat:=[0,1,1,1,1,1,1,1,2,3,4,4,4,4,4,4,5,5,5,5,5,5,5,6]
def fU (k:Nat):Nat:=atL[k]?.getD 0
def yo:List Int:=[1,2,3,1,4,2]
theorem ut:∀k,k<23→Kj yn (zz.doS (uo k) (mQ k).1 (mQ k).2) (uo (k+1))∧zz.doE (uo k) (mQ k).1 (mQ k).2=((ra k).1,(ra k).2.1,false,(ra k).2.2)∧Ax yn (uo k):=by
 intro k hk;iterate 23
  rcases k with _|k
  ·exact⟨⟨by kernel_rfl,by decide+kernel,by decide+kernel,by decide+kernel⟩,by decide+kernel,by decide+kernel,by unfold gq;decide+kernel,by unfold gq;decide+kernel⟩
 omega
theorem yM:∀k,k<23→((ra k).1=0∧fU (k+1)=fU k)∨((ra k).1≠0∧fU k<6∧yo[fU k]? =some (ra k).1∧fU (k+1)=fU k+1):=by decide+kernel
theorem yO:∀k,k<24→fU k≤6:=by decide+kernel
def pC:List Value:=(List.range 46).map fun j=>if j%2=0 then .int .i64 (mQ (j/2)).1 else .int .i64 (mQ (j/2)).2
theorem bU {k:Nat} (hk:k<23):pC[k*2]? =some (.int .i64 (mQ k).1)∧pC[k*2+1]? =some (.int .i64 (mQ k).2):=by
 unfold pC;rw[List.getElem?_map,List.getElem?_range aO,List.getElem?_map,List.getElem?_range aO];have e1:k*2%2=0:=by omega
 have e2:(k*2+1)%2≠0:=by omega
 have e3:k*2/2=k:=by omega
 have e4:(k*2+1)/2=k:=by omega
 rw[Option.map_some,Option.map_some,if_pos e1,if_neg e2,e3,e4];exact⟨rfl,rfl⟩
theorem pS:du [-1,0,0] [1,1,2,2]:=by
 refine⟨⟨by decide,by decide,by decide,by decide⟩,⟨by decide,?_⟩,?_,by decide⟩
 ·intro v h1 h2;have h2':v<3:=h2;rcases(by omega:v=1∨v=2) with rfl|rfl<;>decide
 ·intro v u h1 h2;have h1':v<3:=h1;have h2':u<3:=h2;rcases(by omega:v=0∨v=1∨v=2) with rfl|rfl|rfl<;>rcases(by omega:u=0∨u=1∨u=2) with rfl|rfl|rfl<;>decide
theorem m8:Kj yn (yu [-1,0,0] [1,1,2,2] 2 4 1 1) (uo 0):=⟨by kernel_rfl,by decide+kernel,by decide+kernel,by decide+kernel⟩
theorem pD:pC.toArray=#[.int .i64 0,.int .i64 1,.int .i64 0,.int .i64 0,.int .i64 0,.int .i64 0,.int .i64 0,.int .i64 0,.int .i64 0,.int .i64 0,.int .i64 0,.int .i64 0,.int .i64 0,.int .i64 0,.int .i64 0,.int .i64 0,.int .i64 0,.int .i64 2,.int .i64 3,.int .i64 1,.int .i64 0,.int .i64 0,.int .i64 0,.int .i64 0,.int .i64 0,.int .i64 0,.int .i64 0,.int .i64 0,.int .i64 0,.int .i64 0,.int .i64 0,.int .i64 0,.int .i64 3,.int .i64 0,.int .i64 3,.int .i64 0,.int .i64 3,.int .i64 0,.int .i64 3,.int .i64 0,.int .i64 3,.int .i64 0,.int .i64 3,.int .i64 0,.int .i64 3,.int .i64 0]:=by kernel_rfl
theorem fW (w:World):Calls prog 8 #[] w fun e w'=>e= .returned true∧ae [] w w':=by
 have HN:=aH (fun(W:World) (v u:Value) (hx:a7 W 0 v [-1,0,0]) (hy:a7 W 0 u [1,1,2,2])=>(Kk (g:=2) (l:=4) (par:=1) (bud:=1) pS aO aO aO aO).mks W v u hx hy);go_enter func8,ntmps8;go_wp2_with fail;refine(D2 _).mono ?_;rintro e w1 ⟨v,u,rfl,hx,hy,hF1⟩;have HNW:=aH (HN.o w1 v u hx hy);have HF1:=aH hF1;clear hx hy hF1 HN;go_wp2_with fail;refine HNW.o.mono ?_;rintro e w2 ⟨bb,wo,tb,lk,hbk,rfl,hW,hz,hF2⟩;have HBK:=aH hbk;have hs1:=HF1.o.size;have hW2:dA bb w2 wo tb lk (uo 0):=hW.ext hbk m8;have HW2:=aH hW2;have HZ:=aH (fun z (h:z∈bb.Z)=>Nat.le_trans hs1 (hz z h));have HF2:=aH (HF1.o.trans hF2);clear hW hz hF2 hW2 HNW hbk;go_wp2_with fail;have hG:=(am.new w2 #[(1:Int),(2:Int),(3:Int),(1:Int),(4:Int),(2:Int)] 68).alloc (.cells pC.toArray 38);have hPk:=am.new (w2.alloc (.cells #[(1:Int),(2:Int),(3:Int),(1:Int),(4:Int),(2:Int)] 68)) pC.toArray 38;rw[World.size_alloc] at hPk;have hF3:=((ae.refl [] w2).alloc (.cells #[(1:Int),(2:Int),(3:Int),(1:Int),(4:Int),(2:Int)] 68)).alloc (.cells pC.toArray 38);have HG:=aH hG;have HPK:=aH hPk;have HW3:=aH (HW2.o.same HBK.o hF3);have HF3:=aH (HF2.o.trans hF3);have hs2:w2.heap.size+1<((w2.alloc (.cells #[(1:Int),(2:Int),(3:Int),(1:Int),(4:Int),(2:Int)] 68)).alloc (.cells pC.toArray 38)).heap.size:=by rw[World.size_alloc,World.size_alloc];omega
 clear hG hPk hF3 HW2;generalize hWW:World.alloc (w2.alloc (.cells #[(1:Int),(2:Int),(3:Int),(1:Int),(4:Int),(2:Int)] 68)) _=W3;have hX:(w2.alloc (.cells #[(1:Int),(2:Int),(3:Int),(1:Int),(4:Int),(2:Int)] 68)).alloc (.cells pC.toArray 38)=W3:=by rw[←hWW,pD]
 rw[hX] at HG HPK HW3 HF3 hs2;clear hWW hX;generalize hgb:w2.heap.size=gb at*;go_loopw[6,4] (fun iv av wr=>∃k:Nat,iv= .int .i64 k∧av= .int .i64 (fU k)∧k≤23∧dA bb wr wo tb lk (uo k)∧ae bb.Z W3 wr) (fun iv _ _=>23 - (intOf iv).toNat)
 case atStart=>exact⟨0,rfl,rfl,by omega,HW3.o,aF⟩
 case round=>
  obtain⟨k,rfl,rfl,hk,hW,hF⟩:=hrel;have HF:=aH hF;have HWK:=aH hW;have hmut:=HBK.o.free _ _ hW.lo.at_;have HMUT:=aH hmut;have hGk:=HG.o.frm hF ((HBK.o.free _ _ HW3.o.lo.at_).not HG.o);have hPk:=HPK.o.frm hF ((HBK.o.free _ _ HW3.o.lo.at_).not HPK.o);have HGK:=aH hGk;clear hF hW hmut;by_cases hlt:k<23
  ·obtain⟨a1,a2,a3⟩:=ut k hlt;have hdo:=I3 (k:=k) HBK.o a3 HWK.o (mQ k).1 (mQ k).2;rw[a2] at hdo;have HDO:=aH hdo;have HSM:=aH a1;have c0:=hPk.cell (bU hlt).1;have c1:=hPk.cell (bU hlt).2;have hat:=yM k hlt;have hle:=yO k aO;have e0:decide ((k:Int)<23)=true:=aT;have e0':decide (k<23)=true:=by simpa using hlt
   have l1:(k:Int)<23:=by omega
   obtain⟨ev,hev⟩:∃ev,ev=ra k:=⟨_,rfl⟩
   obtain⟨at_,hat_⟩:∃at_,at_=fU k:=⟨_,rfl⟩
   obtain⟨at1,hat1⟩:∃at1,at1=fU (k+1):=⟨_,rfl⟩
   rw[←hev] at HDO hat;rw[←hat_] at hat hle;rw[←hat1] at hat;rw[←hat_];obtain⟨ek,et,ec⟩:=ev;have HAT1:=aH hat1;clear hdo a1 a2 a3 hat1 hat_ hev hPk hGk;rcases hat with⟨q1,q2⟩|⟨q1,q2,q3,q4⟩
   ·have q1':ek=0:=q1;subst q1' q2;go_wp2_with fail;refine HDO.o.mono ?_;rintro e w4 ⟨rfl,hW4,hF4⟩;have HW4:=aH hW4;have HF4:=aH hF4;clear hW4 hF4;unfold Bf it;go_wp2_with fail;go_roundw
    case rel=>exact⟨k+1,by go_num,by rw[←HAT1.o],by omega,(HW4.o.ext HBK.o HSM.o).same HBK.o (aF.alloc _),(HF.o.trans HF4.o).alloc _⟩
    case measure=>simp[intOf];omega
   ·have q1':ek≠0:=q1;subst q4;have d1:(ek==0)=false:=by simpa using q1'
    have d2:decide ((6:Int)≤at_)=false:=by simp;omega
    have d2':decide (6≤at_)=false:=by simp;omega
    have HQ3:=aH q3;have l2:(at_:Int)<6:=by omega
    clear q1 q1' q3 hle;go_wp2_with fail;refine HDO.o.mono ?_;rintro e w4 ⟨rfl,hW4,hF4⟩;have HW4:=aH hW4;have HF4:=aH hF4;have g0:=((HGK.o.frm hF4 (HMUT.o.not HGK.o)).alloc (.cells #[ek,et,false,ec] 35)).cell (i:=at_) (v:=.int .i64 ek) (by have:=HQ3.o;unfold yo at this;show(yo.map (Value.int .i64))[at_]? =_;rw[List.getElem?_map];unfold yo;rw[this];rfl);have g1:=(am.new w4 #[ek,et,false,ec] 35).cell (i:=0) rfl;have HFA:=aH ((ae.refl [] w4).alloc (.cells #[ek,et,false,ec] 35));clear hW4 hF4;unfold Bf it;go_wp2_with fail;generalize w4.alloc (.cells #[ek,et,false,ec] 35)=W5 at*;have d3:(ek !=ek)=false:=by simp
    go_wp2_with(go_region)
    go_roundw
    case rel=>exact⟨k+1,by go_num,by rw[←HAT1.o];go_num,by omega,((HW4.o.ext HBK.o HSM.o).same HBK.o HFA.o.drew1),((HF.o.trans HF4.o).trans (HFA.o.drew1.mono aS))⟩
    case measure=>simp[intOf];omega
  ·have e0:decide ((k:Int)<23)=false:=aB;have e0':decide (k<23)=false:=by simpa using hlt
   obtain rfl:k=23:=by omega
   have e1:fU 23=6:=by decide
   rw[e1];clear hPk hGk;go_wp2;go_ret;exact⟨rfl,HF3.o.widen HF.o (fun z hz=>.inr (HZ.o z hz))⟩
def gL (w:World) (v:Value) (es:List AU):Prop:=
 ∃a cap,v= .slice a es.length cap∧(0<es.length→∃g,a=some ⟨g,0,none⟩∧∀j k th r c,es[j]? =some (k,th,r,c)→w.cell? ⟨g,j*4,none⟩=some (.int .i64 k)∧w.cell? ⟨g,j*4+1,none⟩=some (.int .i64 th)∧w.cell? ⟨g,j*4+2,none⟩=some (.bool r)∧w.cell? ⟨g,j*4+3,none⟩=some (.int .i64 c))
theorem mJ:∀(es:List AU) (j:Nat) (k th:Int) (r:Bool) (c:Int),es[j]? =some (k,th,r,c)→(bT es)[j*4]? =some (.int .i64 k)∧(bT es)[j*4+1]? =some (.int .i64 th)∧(bT es)[j*4+2]? =some (.bool r)∧(bT es)[j*4+3]? =some (.int .i64 c)
 | [],j,_,_,_,_,h=>by simp at h
 |e::es,0,k,th,r,c,h=>by
  have:e=(k,th,r,c):=by simpa using h
  subst this;exact⟨rfl,rfl,rfl,rfl⟩
 |e::es,j+1,k,th,r,c,h=>by
  have ih:=mJ es j k th r c (by simpa using h);have e1:bT (e::es)=[.int .i64 e.1,.int .i64 e.2.1,.bool e.2.2.1,.int .i64 e.2.2.2]++bT es:=rfl;have key:∀t,t<4→(bT (e::es))[(j+1)*4+t]? =(bT es)[j*4+t]? :=fun t _=>by
   rw[e1,List.getElem?_append_right aQ];congr 1;simp;omega
  exact⟨by rw[←ih.1];exact key 0 aO,by rw[←ih.2.1];exact key 1 aO,by rw[←ih.2.2.1];exact key 2 aO,by rw[←ih.2.2.2];exact key 3 aO⟩
theorem gL.of {w:World} {base:Nat} {v:Value} {es:List AU} (h:w.ownsRow base 35 4 v es.length (bT es)):gL w v es:=by
 obtain⟨_,h2⟩:=h;rcases h2 with⟨rfl,h2⟩|⟨g,cap,cur,rfl,hg,hh,hn,hc,hcur,ht⟩
 ·exact⟨none,0,by rw[h2],fun h0=>by omega⟩
 ·refine⟨some ⟨g,0,none⟩,cap,rfl,fun _=>⟨g,rfl,fun j k th r c hj=>?_⟩⟩;obtain⟨g0,g1,g2,g3⟩:=mJ es j k th r c hj;have hl:=(List.getElem?_eq_some_iff.1 hj).1;have key:∀(i:Nat) (u:Value),i<es.length*4→(bT es)[i]? =some u→w.cell? (g,i)=some u:=fun i u hi hu=>by
   have hH:am w g cur.toList 35:=by unfold am;simpa using hh
   refine hH.cell ?_;rw[←ht,List.getElem?_take_of_lt hi] at hu;exact hu
  exact⟨key _ _ aO g0,key _ _ aO g1,key _ _ aO g2,key _ _ aO g3⟩
theorem gL.frm {w w':World} {v:Value} {es:List AU} (h:gL w v es) (hf:ae [] w w'):gL w' v es:=by
 obtain⟨a,cap,h1,h2⟩:=h;refine⟨a,cap,h1,fun h0=>?_⟩;obtain⟨g,h3,h4⟩:=h2 h0;exact⟨g,h3,fun j k th r c hj=>by obtain⟨q0,q1,q2,q3⟩:=h4 j k th r c hj;exact⟨hf.cell q0 aS,hf.cell q1 aS,hf.cell q2 aS,hf.cell q3 aS⟩⟩
section
variable{w:World} {u v:Value} {es:List AU}
theorem Bb (hx:gL w u es) (hy:gL w v es) (hn:es.length≤100000):Calls prog 36 #[u,v] w fun e w'=>e= .returned true∧ae [] w w':=by
 have HX:=aH hx;have HY:=aH hy;obtain⟨a,cap,rfl, -⟩:=hx;obtain⟨a',cap',rfl, -⟩:=hy;have d0:((es.length:Int)!=es.length)=false:=by simp
 go_enter func36,ntmps36;go_wp2_with fail;go_loopw[13] (fun iv wr=>∃j:Nat,iv= .int .i64 j∧j≤es.length∧ae [] w wr) (fun iv _=>es.length - (intOf iv).toNat)
 case atStart=>exact⟨0,rfl,Nat.zero_le _,aF⟩
 case round=>
  obtain⟨j,rfl,hj,hF⟩:=hrel;by_cases hlt:j<es.length
  ·have e0:decide ((j:Int)<es.length)=true:=aT;have e0':decide (j<es.length)=true:=decide_eq_true hlt;have l1:(j:Int)<es.length:=by omega
   obtain⟨⟨ek,et,er,ec⟩,hje⟩:∃q,es[j]? =some q:=⟨_,List.getElem?_eq_getElem hlt⟩
   obtain⟨a2,cap2,hv,hc⟩:=HX.o.frm hF;obtain⟨g,e2,hcc⟩:=hc aO;obtain⟨rfl,rfl⟩:a=a2∧cap=cap2:=by injection hv with q1 q2 q3;exact⟨q1,q3⟩
   subst e2;obtain⟨p0,p1,p2,p3⟩:=hcc j _ _ _ _ hje;obtain⟨a3,cap3,hv',hc'⟩:=HY.o.frm hF;obtain⟨g',e3,hcc'⟩:=hc' aO;obtain⟨rfl,rfl⟩:a'=a3∧cap'=cap3:=by injection hv' with q1 q2 q3;exact⟨q1,q3⟩
   subst e3;obtain⟨r0,r1,r2,r3⟩:=hcc' j _ _ _ _ hje;have HF:=aH hF;clear hje hc hcc hc' hcc' hF hv hv';go_wp2_with(go_region)
   exact⟨⟨j+1,by go_num,by omega,HF.o.drew1⟩,by simp[intOf];omega⟩
  ·have e0:decide ((j:Int)<es.length)=false:=aB;have e0':decide (j<es.length)=false:=decide_eq_false hlt;have HF:=aH hF;clear hF;go_wp2;go_ret;exact⟨rfl,HF.o⟩
theorem Al (hx:gL w u es) (hy:gL w v es) (hn:es.length≤100000):Calls prog 19 #[u,v] w fun e w'=>e= .returned true∧ae [] w w':=by
 have HE:=aH (Bb hx hy hn);clear hx hy;go_enter func19,ntmps19;go_wp2_with fail;refine HE.o.mono ?_;rintro e w1 ⟨rfl,hF⟩;have HF:=aH hF;clear hF;go_wp2;go_ret;exact⟨rfl,HF.o⟩
end
def rG (A:AR):Value:=.agg #[A.k,A.at_,A.wr]
theorem yX {w:World} {ab wb:Nat} {A:AR} (h:aj w ab wb A):Calls prog 35 #[some ab] w fun e w'=>e= .returned (rG A)∧ae [] w w':=by
 have hF:ae [] w (w.alloc (.cells #[(0:Int),(0:Int),false] 53)):=aF.alloc _;have h2:=h.frm hF aS aS;have c3:=h2.box.cell (i:=3) rfl;have c4:=h2.box.cell (i:=4) rfl;have c5:=h2.box.cell (i:=5) rfl;unfold rG;clear h h2;go_enter func35,ntmps35;go_wp2_with fail;refine bodyPost_ret (v:=.agg #[A.k,A.at_,A.wr]) (by simp[results,results35,go_sem]) rfl ⟨rfl,?_⟩;exact aF.alloc _
section
variable{p:LP} {b b':LB p} {w w':World} {wo tb lk wo' tb' lk':Nat} {s s':p.σ}
theorem De (h:b.Ok) (ha:dA b w wo tb lk s):Calls prog 15 #[some wo] w fun e w'=>e= .returned (.int .i64 (p.ar s).ops)∧w=w':=by
 have c2:=ha.box.cell (i:=0) rfl;have HT:=aH (Bo (h.ar _ _ ha.lo.at_));clear ha;go_enter func15,ntmps15;go_wp2_with fail;refine HT.o.mono ?_;rintro e w' ⟨rfl,rfl⟩;go_wp2;go_ret;exact⟨rfl,rfl⟩
theorem uM (h:b.Ok) (ha:dA b w wo tb lk s):Calls prog 37 #[some wo] w fun e w'=>∃v,e= .returned v∧ju w' w.heap.size v (p.ar s).words∧ae [] w w':=by
 have c2:=ha.box.cell (i:=0) rfl;have HT:=aH (wO (h.ar _ _ ha.lo.at_));clear ha;go_enter func37,ntmps37;go_wp2_with fail;refine HT.o.mono ?_;rintro e w1 ⟨v,rfl,hO,hF⟩;have HO:=aH hO;have HF:=aH hF;clear hO hF;go_wp2;go_ret;exact⟨_,rfl,HO.o,HF.o⟩
theorem zW (h:b.Ok) (ha:dA b w wo tb lk s):Calls prog 17 #[some wo] w fun e w'=>e= .returned (rG (p.ar s))∧ae [] w w':=by
 have hF:ae [] w (w.alloc (.cells #[(0:Int),(0:Int),false] 53)):=aF.alloc _;have HB:=aH (am.new w #[(0:Int),(0:Int),false] 53);have h2:=ha.same h hF;have c0:=h2.box.cell (i:=0) rfl;have HT:=aH (yX (h.ar _ _ h2.lo.at_));have HF:=aH hF;unfold rG at*;generalize(p.ar s).k=ak at*;generalize(p.ar s).at_=aa at*;generalize(p.ar s).wr=aw at*;clear ha h2 hF;go_enter func17,ntmps17;go_wp2_with fail;refine HT.o.mono ?_;rintro e w1 ⟨rfl,hF⟩;have hb:=HB.o.frm hF aS;have b0:=hb.cell (i:=0) rfl;have b1:=hb.cell (i:=1) rfl;have b2:=hb.cell (i:=2) rfl;have bz:=hb.frozen;have hlt:=hb.lt;have HF1:=aH (HF.o.trans hF);have HW2:=aH (show am (((w1.setCell (w.heap.size,0) (.int .i64 ak)).setCell (w.heap.size,1) (.int .i64 aa)).setCell (w.heap.size,2) (.bool aw)) w.heap.size [ak,aa,aw] 53∧ae [] w (((w1.setCell (w.heap.size,0) (.int .i64 ak)).setCell (w.heap.size,1) (.int .i64 aa)).setCell (w.heap.size,2) (.bool aw)) from
  ⟨((hb.set 0 (.int .i64 ak)).set 1 (.int .i64 aa)).set 2 (.bool aw),((HF1.o.set _ _ (.inr (Nat.le_refl _))).set _ _ (.inr (Nat.le_refl _))).set _ _ (.inr (Nat.le_refl _))⟩)
 clear hF hb;go_wp2_with fail;generalize((w1.setCell (w.heap.size,0) (.int .i64 ak)).setCell (w.heap.size,1) (.int .i64 aa)).setCell (w.heap.size,2) (.bool aw)=W2 at*;have k0:=HW2.o.1.cell (i:=0) rfl;have k1:=HW2.o.1.cell (i:=1) rfl;have k2:=HW2.o.1.cell (i:=2) rfl;exact bodyPost_ret (v:=.agg #[ak,aa,aw]) (by simp[results,results17,go_sem,k0,k1,k2]) rfl ⟨rfl,HW2.o.2⟩
theorem zx (h:b.Ok) (h':b'.Ok) (ha:dA b w wo tb lk s) (ha':dA b' w wo' tb' lk' s):Calls prog 20 #[some wo,some wo'] w fun e w'=>e= .returned true∧ae [] w w':=by
 have H:=aH ha;have H':=aH ha';have hn32:=h.n32;have hzl:(p.ar s).words.length≤4096:=by
  have:=(h.ar _ _ ha.lo.at_).room;unfold AR.words;rw[List.length_take];omega
 clear ha ha';go_enter func20,ntmps20;go_wp2_with fail;refine(uM h H.o).mono ?_;rintro e w1 ⟨va,rfl,hO1,hF1⟩;have HO1:=aH hO1.row;have HF1:=aH hF1;clear hO1 hF1;go_wp2_with fail;refine(uM h' (H'.o.same h' HF1.o)).mono ?_;rintro e w2 ⟨vb,rfl,hO2,hF2⟩;have HO2:=aH hO2.row;have HO1':=aH (HO1.o.frm hF2 aS);have HF2:=aH (HF1.o.trans hF2);clear hO2 hF2 HO1 HF1;generalize(p.ar s).words=zs at*;obtain⟨a1,cap1,rfl,hl1, -⟩:=HO1'.o;obtain⟨a2,cap2,rfl,hl2, -⟩:=HO2.o;go_wp2_with fail;refine(De h (H.o.same h HF2.o)).mono ?_;rintro e w3 ⟨rfl,rfl⟩;go_wp2_with fail;refine(De h' (H'.o.same h' HF2.o)).mono ?_;rintro e w3 ⟨rfl,rfl⟩;generalize(p.ar s).ops=ao at*;go_wp2_with fail;refine(zW h (H.o.same h HF2.o)).mono ?_;rintro e w3 ⟨rfl,hF3⟩;have HF3:=aH (HF2.o.trans hF3);have HF23:=aH hF3;clear hF3;go_wp2_with fail;refine(zW h' (H'.o.same h' HF3.o)).mono ?_;rintro e w4 ⟨rfl,hF4⟩;have HF4:=aH (HF3.o.trans hF4);have HF24:=aH (HF23.o.trans hF4);clear hF4;unfold rG;generalize(p.ar s).k=ak at*;generalize(p.ar s).at_=aa at*;generalize(p.ar s).wr=aw at*;go_wp2_with fail;refine(gO (H.o.same h HF4.o)).mono ?_;rintro e w3 ⟨rfl,rfl⟩;go_wp2_with fail;refine(gO (H'.o.same h' HF4.o)).mono ?_;rintro e w3 ⟨rfl,rfl⟩;go_wp2_with fail;go_loopw[7] (fun iv wr=>∃j:Nat,iv= .int .i64 j∧j≤zs.length∧ae [] w4 wr) (fun iv _=>zs.length - (intOf iv).toNat)
 case atStart=>exact⟨0,rfl,Nat.zero_le _,aF⟩
 case round=>
  obtain⟨j,rfl,hj,hF⟩:=hrel;have HF:=aH hF;by_cases hlt:j<zs.length
  ·have e0:decide ((j:Int)<zs.length)=true:=aT;have e0':decide (j<zs.length)=true:=decide_eq_true hlt;have l1:(j:Int)<zs.length:=by omega
   obtain⟨aa1,cc1,hv1, -,hc1⟩:=HO1'.o;obtain⟨g1,o1, -,e1,hd1⟩:=hc1 aO;obtain⟨rfl,rfl⟩:a1=aa1∧cap1=cc1:=by injection hv1 with q1 q2 q3;exact⟨q1,q3⟩
   subst e1;obtain⟨aa2,cc2,hv2, -,hc2⟩:=HO2.o;obtain⟨g2,o2, -,e2,hd2⟩:=hc2 aO;obtain⟨rfl,rfl⟩:a2=aa2∧cap2=cc2:=by injection hv2 with q1 q2 q3;exact⟨q1,q3⟩
   subst e2;have x1:=(HF24.o.trans hF).cell (hd1 j hlt) aS;have x2:=(HF24.o.trans hF).cell (hd2 j hlt) aS;generalize zs[j]?.getD 0=z at x1 x2;clear hc1 hd1 hc2 hd2 hv1 hv2 hF;go_wp2_with(go_region)
   exact⟨⟨j+1,by go_num,by omega,HF.o.drew1⟩,by simp[intOf];omega⟩
  ·have e0:decide ((j:Int)<zs.length)=false:=aB;have e0':decide (j<zs.length)=false:=decide_eq_false hlt;have HF5:=aH (HF4.o.trans hF);clear hF HF HF4 HF24 HF3 HF23;go_wp2_with fail;go_loopw[8] (fun iv wx=>∃u:Nat,iv= .int .i64 u∧u≤p.n∧ae [] wr wx) (fun iv _=>p.n - (intOf iv).toNat)
   case atStart=>exact⟨0,rfl,Nat.zero_le _,aF⟩
   case round=>
    obtain⟨u,rfl,hu,hF⟩:=hrel;have HF6:=aH (HF5.o.trans hF);have HFx:=aH hF;clear hF;by_cases hlu:u<p.n
    ·have e1:decide ((u:Int)<p.n)=true:=aT;have e1':decide (u<p.n)=true:=decide_eq_true hlu;have e2:decide ((u:Int)<32)=true:=aT;have e2':decide (u<32)=true:=aT;have HU:=aH (show eO p (u:Int) from⟨by omega,by omega⟩);go_wp2_with fail;refine(gO (H.o.same h HF6.o)).mono ?_;rintro e w5 ⟨rfl,rfl⟩;go_wp2_with fail;refine(eQ h (H.o.same h HF6.o) HU.o).mono ?_;rintro e w5 ⟨rfl,hF7⟩;have HF7:=aH (HF6.o.trans hF7);have HF7x:=aH (HFx.o.trans hF7);clear hF7;go_wp2_with fail;refine(eQ h' (H'.o.same h' HF7.o) HU.o).mono ?_;rintro e w6 ⟨rfl,hF8⟩;have HF8x:=aH (HF7x.o.trans hF8);clear hF8;generalize p.st s (u:Int)=st at*;generalize p.rd s (u:Int)=rd at*;have q1:(st !=st)=false:=by simp
     have q2:(rd !=rd)=false:=by simp
     go_wp2;exact⟨⟨u+1,by go_num,by omega,HF8x.o⟩,by simp[intOf];omega⟩
    ·have e1:decide ((u:Int)<p.n)=false:=aB;have e1':decide (u<p.n)=false:=decide_eq_false hlu;go_wp2_with fail;refine(gO (H.o.same h HF6.o)).mono ?_;rintro e w5 ⟨rfl,rfl⟩;go_wp2;go_ret;exact⟨rfl,HF6.o⟩
end
section
variable{P T:List Int} {kd g l par bud:Int}
def FJ (T:List Int) (kd par:Int):FK:=⟨kd.toNat,par.toNat,1,T.length⟩
theorem Jw (hT:du P T) (hk:1≤kd∧kd≤5) (hp:1≤par∧par≤32):(FJ T kd par).Ok:=by
 obtain⟨s1,s2,s3,s4⟩:=hT.size;exact⟨by show 1≤kd.toNat;omega,by show kd.toNat≤5;omega,Nat.le_refl _,s3,s4,by show 1≤par.toNat;omega,by show par.toNat≤32;omega⟩
def rk (T:List Int) (kd par:Int):(dW (FJ T kd par)).σ:=(dY (FJ T kd par) (AR.fresh 4096),iE (FJ T kd par))
theorem da:AR.Fit (AR.fresh 4096):=⟨by show 0≤(List.replicate 4096 (0:Int)).length;omega,by show(List.replicate 4096 (0:Int)).length≤4096;rw[List.length_replicate];exact Nat.le_refl _,by show(0:Int)≤0;omega,by show(0:Int)≤_;omega⟩
theorem rm (hT:du P T) (hk:1≤kd∧kd≤5) (hp:1≤par∧par≤32):(dW (FJ T kd par)).I 0 (rk T kd par):=by
 have hK:=Jw hT hk hp;have hsz:=ny hK;have hr:(AR.fresh 4096).taken+(FJ T kd par).size≤(AR.fresh 4096).ws.length:=by show 0+_≤(List.replicate 4096 (0:Int)).length;rw[List.length_replicate];omega
 obtain⟨hg,hf⟩:=oN hK (A:=AR.fresh 4096) rfl hr (yp _) da;have gt:=hg.taken;have gl:=hg.len;have go:=hg.ops;have e0:(AR.fresh 4096).taken=0:=rfl;have e1:(AR.fresh 4096).ops=0:=rfl;have e2:(AR.fresh 4096).ws.length=4096:=List.length_replicate;refine⟨⟨?_,?_,?_,?_⟩,hf,?_,?_⟩
 ·show(dY (FJ T kd par) (AR.fresh 4096)).taken≤(dY (FJ T kd par) (AR.fresh 4096)).ws.length;omega
 ·show(dY (FJ T kd par) (AR.fresh 4096)).ws.length≤4096;omega
 ·show 0≤(dY (FJ T kd par) (AR.fresh 4096)).ops;omega
 ·show(dY (FJ T kd par) (AR.fresh 4096)).ops≤_;omega
 ·show(dY (FJ T kd par) (AR.fresh 4096)).ops≤1000+_;omega
 ·show(FJ T kd par).b+_≤(dY (FJ T kd par) (AR.fresh 4096)).taken+1;have:(FJ T kd par).b=1:=rfl;omega
theorem rh (hT:du P T) (hk:1≤kd∧kd≤5) (hp:1≤par∧par≤32):fN P T kd g l par bud (dW (FJ T kd par)) (rk T kd par) where
 n:=rfl
 kd13:=by omega
 sh:=by show false=_;rw[decide_eq_false (show¬11≤kd by omega)];rfl
 mks:=fun w ab wb lk x y hx hy hA hL _ _=>by
  have hK:=Jw hT hk hp;have hsz:=ny hK;have hr:(AR.fresh 4096).taken+(FJ T kd par).size≤(AR.fresh 4096).ws.length:=by show 0+_≤(List.replicate 4096 (0:Int)).length;rw[List.length_replicate];omega
  have n1:lk≠ab:=hL.differ hA.box aJ;have n2:lk≠wb:=hL.differ hA.row aJ;have hF0:=((ae.refl [] w).alloc (.cells #[x,y] 24)).alloc (.cells #[g,l,par,bud] 42);have HN:=aH (fun(W:World) (hf:ae [] w W)=>qk (hA.frm hf aS aS) (FJ T kd par) hK rfl hr);have HB2:=aH (am.new (w.alloc (.cells #[x,y] 24)) #[g,l,par,bud] 42);have HL:=aH (hL.frm hF0 aS);have HF0:=aH hF0;have ek:(((FJ T kd par).k:Nat):Int)=kd:=by show(kd.toNat:Int)=kd;omega
  have ep:(((FJ T kd par).p:Nat):Int)=par:=by show(par.toNat:Int)=par;omega
  have en:(FJ T kd par).n=T.length:=rfl;rw[ek,ep,en] at HN;have HKK:=aH hK;have c0:=HL.o.cell (i:=0) rfl;have k6:(kd==6)=false:=by simp;omega
  have k7:(kd==7)=false:=by simp;omega
  have k8:(kd==8)=false:=by simp;omega
  have k9:(kd==9)=false:=by simp;omega
  have ka:(kd==10)=false:=by simp;omega
  have kb:(kd==11)=false:=by simp;omega
  have kc:(kd==12)=false:=by simp;omega
  have ke:(kd==13)=false:=by simp;omega
  have HKD:=aH hk;have hla:=hA.box.lt;have hlb:=hA.row.lt;clear hA hL hK hsz hr ek ep en hF0 hx hy hT hk hp;rw[World.size_alloc] at HB2;go_enter func57,ntmps57;go_wp2_with fail;generalize(w.alloc (.cells #[x,y] 24)).alloc (.cells #[g,l,par,bud] 42)=W0 at*;have n3:w.heap.size+1∉[ab,wb]:=by simp;omega
  have hne:=aW [ab,wb] W0;have z0:∀q:HW (fun wx=>ae [ab,wb] W0 wx),q.w.cell? (lk,0)=some (.int .i64 kd):=fun q=>(HL.o.frm q.h aQ).cell (i:=0) rfl;have z1:∀q:HW (fun wx=>ae [ab,wb] W0 wx),q.w.cell? (lk,1)=some (.int .i64 T.length):=fun q=>(HL.o.frm q.h aQ).cell (i:=1) rfl;have z2:∀q:HW (fun wx=>ae [ab,wb] W0 wx),q.w.cell? (w.heap.size+1,2)=some (.int .i64 par):=fun q=>(HB2.o.frm q.h n3).cell (i:=2) rfl;refine aG (fun wx=>ae [ab,wb] W0 wx) ?_;refine aR (fuel:=7) [0,1,2,3,4,5,6,7,8,9,10] rfl aF.drew1 ?_;intro Kq hKq;repeat (go_big_quiet_step (fail))
  refine wpQuiet_nil (hKq _ ?_);clear hKq Kq;refine aL 11 (fuel:=6) rfl ?_;go_wp2_with fail;refine(HN.o _ HF0.o.drew1).mono ?_;rintro e w1 ⟨fb,lb,sb,rfl, -, -,hsb,hFl,hF⟩;have HFL:=aH hFl;have HF1:=aH (((ae.refl [ab,wb] W0).drew1).trans hF);have hsb':w.heap.size≤sb:=Nat.le_trans HF0.o.drew1.size hsb;clear hFl hF hsb;go_wp2_with fail;refine af ⟨HF1.o,?_⟩;refine aR (fuel:=3) [12,13,15] rfl HF1.o ?_;intro Kq hKq;repeat (go_big_quiet_step (fail))
  refine wpQuiet_nil (hKq _ ?_);clear hKq Kq;refine aL 14 (fuel:=2) rfl ?_;go_wp2_with fail;refine af ⟨HF1.o,?_⟩;refine aR (fuel:=0) [16,17] rfl HF1.o ?_;intro Kq hKq;repeat (go_big_quiet_step (fail))
  refine wpQuiet_nil (hKq _ ?_);clear hKq Kq hne z0 z1 z2;refine aN ?_;have hL1:=HL.o.frm HF1.o aQ;have l2:=hL1.cell (i:=2) rfl;have lz:=hL1.frozen;have HL1:=aH hL1;have HST:=aH (show∀v,bQ (w1.setCell (lk,2) v) fb lb sb ab wb (dY (FJ T kd par) (AR.fresh 4096)) (iE (FJ T kd par)) (FJ T kd par) from fun v=>by
   have hf:ae [lk] w1 (w1.setCell (lk,2) v):=aU;have q1:fb≠lk:=by obtain⟨_,hh⟩:=HFL.o.fbox;exact hh.differ hL1 aJ
   have q2:sb≠lk:=by obtain⟨_,hh⟩:=HFL.o.srow;exact hh.differ hL1 aJ
   have q3:lb≠lk:=by
    cases HFL.o with
    |tas e hb h hA=>exact h.box.differ hL1 aJ
    |ticket e hb h hA=>exact h.box.differ hL1 aJ
    |parted e hb h=>exact h.box.differ hL1 aJ
    |mcs e hb h=>exact h.box.differ hL1 aJ
    |clh X e hb h=>exact h.box.differ hL1 aJ
   exact HFL.o.re hf aQ aQ aQ (HFL.o.ar.frm hf aQ aQ))
  clear hL1;go_wp2;go_ret;refine⟨(Hi (FJ T kd par) fb lb sb ab wb).alone kd,(gM HKK.o).alone_ok kd (by have:=HKD.o;omega) (fun s i=>rfl),⟨rfl,rfl⟩,rfl,⟨HL1.o.set 2 _,HST.o _⟩,fun z hz=>?_,((HF0.o.mono (S':=[ab,wb,lk]) aS).trans (HF1.o.mono aS)).set _ _ (.inl aS)⟩;have hz':z=sb∨z=ab∨z=wb:=by simpa[iH.alone,Hi] using hz
  rcases hz' with e|e|e
  ·rw[e];exact .inr (.inr hsb')
  ·exact .inl e
  ·exact .inr (.inl e)
theorem mo (hT:du P T) (hk:1≤kd∧kd≤5) (hp:1≤par∧par≤32):fR P T (.agg #[kd,g,l,par,bud]) (dW (FJ T kd par)) (rk T kd par) where
 ok:=z6 (Jw hT hk hp)
 i0:=rm hT hk hp
 mks:=fun w a b hx hy=>ey hx hy hT (rh hT hk hp)
end
end Go.Proofs.YteijjhahgabalaaGreat
