/- What is kept of a flat lock of any kind, whatever else is done in its arena: plain lemmas. -/
import Derived.Test.YteijjhahgabalaaGreatWA26
import Derived.Test.YteijjhahgabalaaGreatWA25
import Derived.Test.YteijjhahgabalaaGreatWA27
set_option maxRecDepth 100000
set_option maxHeartbeats 8000000
set_option linter.all false
namespace Go.Proofs.YteijjhahgabalaaGreat
open Go.RowKit
open Tryz
structure FK.Ok (K:FK):Prop where
 k1:1≤K.k
 k5:K.k≤5
 b1:1≤K.b
 n1:1≤K.n
 n32:K.n≤32
 p1:1≤K.p
 p32:K.p≤32
def FI (K:FK) (S:Nat→Nat→Int) (A:AR):Prop:=
 if K.k=1 then TI K.b K.n S A else if K.k=2 then KI K.b K.n S A else if K.k=3 then∃V,PI K.b K.p K.n S A V else if K.k=4 then∃Q o,MC K.n (cv K.b K.n A) S Q o else∃Q f,HI K.b K.n S A Q f
theorem FK.Ok.five {K:FK} (h:K.Ok):K.k=1∨K.k=2∨K.k=3∨K.k=4∨K.k=5:=by have:=h.k1;have:=h.k5;omega
section
variable{K:FK} {S:Nat→Nat→Int} {A B:AR}
theorem Jx (e:K.k=1):FI K S A=TI K.b K.n S A:=by unfold FI;rw[if_pos e]
theorem Ju (e:K.k=2):FI K S A=KI K.b K.n S A:=by unfold FI;rw[if_neg aO,if_pos e]
theorem Jt (e:K.k=3):FI K S A=∃V,PI K.b K.p K.n S A V:=by unfold FI;rw[if_neg aO,if_neg aO,if_pos e]
theorem It (e:K.k=4):FI K S A=∃Q o,MC K.n (cv K.b K.n A) S Q o:=by unfold FI;rw[if_neg aO,if_neg aO,if_neg aO,if_pos e]
theorem Jv (e:K.k=5):FI K S A=∃Q f,HI K.b K.n S A Q f:=by unfold FI;rw[if_neg aO,if_neg aO,if_neg aO,if_neg aO]
theorem D0 (e:K.k=1):K.size=1:=by unfold FK.size;rw[if_pos e]
theorem EY (e:K.k=2):K.size=2:=by unfold FK.size;rw[if_neg aO,if_pos e]
theorem Dp (e:K.k=3):K.size=1+K.p:=by unfold FK.size;rw[if_neg aO,if_neg aO,if_pos e]
theorem Eh (e:K.k=4):K.size=1+2*K.n:=by unfold FK.size;rw[if_neg aO,if_neg aO,if_neg aO,if_pos e]
theorem Dv (e:K.k=5):K.size=K.n+2:=by unfold FK.size;rw[if_neg aO,if_neg aO,if_neg aO,if_neg aO]
theorem FI.cpc (h:FI K S A) (e:K.k=4):gq K.n S:=by
 rw[It e] at h;obtain⟨Q,o,h⟩:=h;exact h.pcs
theorem FI.step (h:FI K S A) (hK:K.Ok) (hf:A.Fit) (hl:A.ops<1000000000) (hr:K.b+K.size≤A.taken+1) {j:Nat} (hj:j<K.n):
 FI K (bV K S A j) (b7 K S A j)∧jg K.b K.size A (b7 K S A j)∧(S j 0=1→(b7 K S A j).ops=A.ops+1)∧lC S (bV K S A j) j (ca K S A j):=by
 rcases hK.five with e|e|e|e|e
 ·rw[D0 e] at hr;unfold bV b7 ca;rw[Jx e] at h⊢;rw[D0 e,if_pos e,if_pos e,if_pos e];exact h.step hf hl hK.b1 hr hj
 ·rw[EY e] at hr;unfold bV b7 ca;rw[Ju e] at h⊢;rw[EY e,if_neg aO,if_pos e,if_neg aO,if_pos e,if_neg aO,if_pos e];exact h.step hf hl hK.b1 hr hj
 ·rw[Dp e] at hr;unfold bV b7 ca;rw[Jt e] at h⊢;rw[Dp e,if_neg aO,if_neg aO,if_pos e,if_neg aO,if_neg aO,if_pos e,if_neg aO,if_neg aO,if_pos e];obtain⟨V,h⟩:=h;exact h.step hf hl hK.b1 ⟨hK.p1,hK.p32⟩ hr hj
 ·rw[Eh e] at hr;unfold bV b7 ca;rw[It e] at h⊢;rw[Eh e,if_neg aO,if_neg aO,if_neg aO,if_pos e,if_neg aO,if_neg aO,if_neg aO,if_pos e,if_neg aO,if_neg aO,if_neg aO,if_pos e];obtain⟨Q,o,h⟩:=h;exact h.step hf hl hK.b1 hK.n32 hr hj
 ·rw[Dv e] at hr;unfold bV b7 ca;rw[Jv e] at h⊢;rw[Dv e,if_neg aO,if_neg aO,if_neg aO,if_neg aO,if_neg aO,if_neg aO,if_neg aO,if_neg aO,if_neg aO,if_neg aO,if_neg aO,if_neg aO];obtain⟨Q,f,h⟩:=h;exact h.step hf hl hK.b1 hK.n32 hr hj
theorem pp {n:Nat} {S:Nat→Nat→Int} {j:Nat} (hj:j<n) {a b:Int} (h0:S j 0=a):a8 n S j a b=ac S j 0 b:=by
 unfold a8 ah;rw[bP hj,Int.toNat_natCast,h0];simp
theorem FI.ask (h:FI K S A) (hK:K.Ok) {j:Nat} (hj:j<K.n) (h0:S j 0=0):FI K (gj K S j) A∧gj K S j j 0=1∧∀k,k≠j→gj K S j k 0=S k 0:=by
 have hs:∀k,k≠j→ac S j 0 1 k 0=S k 0:=fun k hk=>by rw[bw,if_neg (by simp[hk])]
 have he:ac S j 0 1 j 0=1:=by rw[bw,if_pos aS]
 rcases hK.five with e|e|e|e|e
 ·unfold gj;rw[Jx e] at h⊢;rw[if_pos e];have ok:fL K.n S j=true:=by unfold fL;rw[bP hj,Int.toNat_natCast,h0];rfl
  unfold pe;rw[ok,if_pos rfl,Int.toNat_natCast];have hs:∀k,k≠j→ac (ac S j 0 1) j 1 1 k 0=S k 0:=fun k hk=>by rw[bw,if_neg (by simp[hk]),bw,if_neg (by simp[hk])]
  have he:ac (ac S j 0 1) j 1 1 j 0=1:=by rw[bw,if_neg aS,bw,if_pos aS]
  exact⟨h.turn j hs aO (fun _ _ _ _=>rfl) aO,he,hs⟩
 all_goals
  unfold gj;rw[if_neg aO,pp hj h0];refine⟨?_,he,hs⟩
 ·rw[Ju e] at h⊢;exact⟨h.tk.turn hj aO aO aO,h.no⟩
 ·rw[Jt e] at h⊢;obtain⟨V,h⟩:=h;exact⟨V,{h with tk:=h.tk.turn hj aO aO aO}⟩
 ·rw[It e] at h⊢;obtain⟨Q,o,h⟩:=h;exact⟨Q,o,h.ask hj h0⟩
 ·rw[Jv e] at h⊢;obtain⟨Q,f,h⟩:=h;exact⟨Q,f,h.turn hj aO aO aO rfl h.free (fun k hk _ hc=>h.set k hk hc) aO⟩
theorem FI.leave (h:FI K S A) (hK:K.Ok) {j:Nat} (hj:j<K.n) (h0:S j 0=10):FI K (cQ K S j) A∧cQ K S j j 0=11∧∀k,k≠j→cQ K S j k 0=S k 0:=by
 have hs:∀k,k≠j→ac S j 0 11 k 0=S k 0:=fun k hk=>by rw[bw,if_neg (by simp[hk])]
 have he:ac S j 0 11 j 0=11:=by rw[bw,if_pos aS]
 unfold cQ;rw[pp hj h0];refine⟨?_,he,hs⟩;rcases hK.five with e|e|e|e|e
 ·rw[Jx e] at h⊢;exact h.turn j hs aO (fun _ _ _ _=>rfl) (fun _=>h.own j hj aO)
 ·rw[Ju e] at h⊢;exact⟨h.tk.turn hj aO aO (fun _=>h.tk.top j hj aO),h.no⟩
 ·rw[Jt e] at h⊢;obtain⟨V,h⟩:=h;exact⟨V,{h with tk:=h.tk.turn hj aO aO (fun _=>h.tk.top j hj aO)}⟩
 ·rw[It e] at h⊢;obtain⟨Q,o,h⟩:=h;exact⟨Q,some j,by obtain rfl:=h.ownr j hj aO;exact h.leave hj h0⟩
 ·rw[Jv e] at h⊢;obtain⟨Q,f,h⟩:=h;exact⟨Q,f,h.turn hj aO aO (fun _=>h.hold j hj aO) rfl h.free (fun k hk _ hc=>h.set k hk hc) (fun _=>h.set j hj aO)⟩
end
theorem io {A:AR} {m:Nat} {x:Int} (hm:A.taken+m≤A.ws.length) (hx:x=m):A.takeE x=0:=by
 subst hx;unfold AR.takeE;rw[if_neg aO,if_neg aO]
theorem f9 {A:AR} {m:Nat} {x:Int} (hm:A.taken+m≤A.ws.length) (hx:x=m):A.take x={A with taken:=A.taken+m}:=by
 unfold AR.take;rw[if_pos (io hm hx)];subst hx;rfl
def iE (K:FK):Nat→Nat→Int:=if K.k=5 then xn else fun _ _=>0
def dY (K:FK) (A:AR):AR:=if K.k=3 then AR.store {A with taken:=A.taken+K.size} (b6 K.b K.p 0) 1 else if K.k=5 then AR.store {A with taken:=A.taken+K.size} K.b ((K.n:Int)+1) else{A with taken:=A.taken+K.size}
section
variable{w:World} {ab wb:Nat} {A:AR}
theorem qk (hA:aj w ab wb A) (K:FK) (hK:K.Ok) (hb:K.b=A.taken+1) (hr:A.taken+K.size≤A.ws.length):
 Calls prog 31 #[some ab,K.k,K.n,K.p] w fun e w'=>∃fb lb sb,e= .returned (.tuple #[some fb,(0:Int)])∧w.heap.size≤fb∧w.heap.size≤lb∧w.heap.size≤sb∧
  bQ w' fb lb sb ab wb (dY K A) (iE K) K∧ae [ab,wb] w w':=by
 have hp1:=hK.p1;have hp2:=hK.p32;have hab:=hA.box.lt;have hwb:=hA.row.lt;rcases hK.five with e|e|e|e|e
 ·have hS:iE K=fun _ _=>0:=by unfold iE;rw[if_neg aO]
  have hA0:dY K A={A with taken:=A.taken+1}:=by unfold dY;rw[if_neg aO,if_neg aO,D0 e]
  rw[hS,hA0];have hC:=Cp (most:=(K.p:Int)) hA K.n hK.n1 hK.n32 aO aO (io (m:=1) (by rw[D0 e] at hr;omega) aO);rw[f9 (m:=1) (by rw[D0 e] at hr;omega) aO] at hC;have HC:=aH hC;have HE:=aH e;have HBB:=aH hb;clear hC hS hA0 hA hr hb;rw[e];clear e;go_enter func31,ntmps31;go_wp2_with(go_at_call 49;refine HC.o.mono ?_;rintro e w1 ⟨lb,sb,rfl,h1,h2,hL,hA2,hF⟩;have HL:=aH (And.intro h1 (And.intro h2 (And.intro hL (And.intro hA2 hF))));clear hL h1 h2 hF hA2)
  go_ret2;have hx:ae [] w1 (w1.alloc (.cells #[(1:Int),.iface 100 (.agg #[some lb])] 114)):=aF.alloc _;have hn:=am.new w1 #[(1:Int),.iface 100 (.agg #[some lb])] 114;obtain⟨h1,h2,hL,hA2,hF⟩:=HL.o;rw[←HBB.o] at hL;exact⟨w1.heap.size,lb,sb,rfl,hF.size,h1,h2,.tas HE.o hn (hL.frm hx aS aS) (hA2.frm hx aS aS),hF.trans (hx.mono aS)⟩
 ·have hS:iE K=fun _ _=>0:=by unfold iE;rw[if_neg aO]
  have hA0:dY K A={A with taken:=A.taken+2}:=by unfold dY;rw[if_neg aO,if_neg aO,EY e]
  rw[hS,hA0];have hC:=CY hA K.n hK.n1 hK.n32 (io (m:=2) (by rw[EY e] at hr;omega) aO);rw[f9 (m:=2) (by rw[EY e] at hr;omega) aO] at hC;have HC:=aH hC;have HE:=aH e;have HBB:=aH hb;clear hC hS hA0 hA hr hb;rw[e];clear e;go_enter func31,ntmps31;go_wp2_with(go_at_call 50;refine HC.o.mono ?_;rintro e w1 ⟨lb,sb,rfl,h1,h2,hL,hA2,hF⟩;have HL:=aH (And.intro h1 (And.intro h2 (And.intro hL (And.intro hA2 hF))));clear hL h1 h2 hF hA2)
  go_ret2;have hx:ae [] w1 (w1.alloc (.cells #[(2:Int),.iface 101 (.pointer (some ⟨lb,0,none⟩))] 114)):=aF.alloc _;have hn:=am.new w1 #[(2:Int),.iface 101 (.pointer (some ⟨lb,0,none⟩))] 114;obtain⟨h1,h2,hL,hA2,hF⟩:=HL.o;rw[←HBB.o] at hL;exact⟨w1.heap.size,lb,sb,rfl,hF.size,h1,h2,.ticket HE.o hn (hL.frm hx aS aS) (hA2.frm hx aS aS),hF.trans (hx.mono aS)⟩
 ·have hS:iE K=fun _ _=>0:=by unfold iE;rw[if_neg aO]
  have hA0:dY K A=AR.store {A with taken:=A.taken+(1+K.p)} (b6 K.b K.p 0) 1:=by unfold dY;rw[if_pos e,Dp e]
  rw[hS,hA0];have hC:=BA hA K.n K.p hK.n1 hK.n32 hK.p1 hK.p32 (io (m:=1+K.p) (by rw[Dp e] at hr;omega) aO);rw[f9 (m:=1+K.p) (by rw[Dp e] at hr;omega) aO] at hC;have HC:=aH hC;have HE:=aH e;have HBB:=aH hb;clear hC hS hA0 hA hr hb;rw[e];clear e;go_enter func31,ntmps31;go_wp2_with(go_at_call 51;refine HC.o.mono ?_;rintro e w1 ⟨lb,sb,rfl,h1,h2,hL,hF⟩;have HL:=aH (And.intro h1 (And.intro h2 (And.intro hL hF)));clear hL h1 h2 hF)
  go_ret2;have hx:ae [] w1 (w1.alloc (.cells #[(3:Int),.iface 104 (.pointer (some ⟨lb,0,none⟩))] 114)):=aF.alloc _;have hn:=am.new w1 #[(3:Int),.iface 104 (.pointer (some ⟨lb,0,none⟩))] 114;obtain⟨h1,h2,hL,hF⟩:=HL.o;rw[←HBB.o] at hL;exact⟨w1.heap.size,lb,sb,rfl,hF.size,h1,h2,.parted HE.o hn (hL.frm hx aS),hF.trans (hx.mono aS)⟩
 ·have hS:iE K=fun _ _=>0:=by unfold iE;rw[if_neg aO]
  have hA0:dY K A={A with taken:=A.taken+(1+2*K.n)}:=by unfold dY;rw[if_neg aO,if_neg aO,Eh e]
  rw[hS,hA0];have hC:=Co hA K.n hK.n1 hK.n32 (io (m:=1+2*K.n) (by rw[Eh e] at hr;omega) aO);rw[f9 (m:=1+2*K.n) (by rw[Eh e] at hr;omega) aO] at hC;have HC:=aH hC;have HE:=aH e;have HBB:=aH hb;clear hC hS hA0 hA hr hb;rw[e];clear e;go_enter func31,ntmps31;go_wp2_with(go_at_call 52;refine HC.o.mono ?_;rintro e w1 ⟨lb,sb,rfl,h1,h2,hL,hF⟩;have HL:=aH (And.intro h1 (And.intro h2 (And.intro hL hF)));clear hL h1 h2 hF)
  go_ret2;have hx:ae [] w1 (w1.alloc (.cells #[(4:Int),.iface 107 (.pointer (some ⟨lb,0,none⟩))] 114)):=aF.alloc _;have hn:=am.new w1 #[(4:Int),.iface 107 (.pointer (some ⟨lb,0,none⟩))] 114;obtain⟨h1,h2,hL,hF⟩:=HL.o;rw[←HBB.o] at hL;exact⟨w1.heap.size,lb,sb,rfl,hF.size,h1,h2,.mcs HE.o hn (hL.frm hx aS),hF.trans (hx.mono aS)⟩
 ·have hS:iE K=xn:=by unfold iE;rw[if_pos e]
  have hA0:dY K A=AR.store {A with taken:=A.taken+(K.n+2)} K.b ((K.n:Int)+1):=by unfold dY;rw[if_neg aO,if_pos e,Dv e]
  rw[hS,hA0];have hC:=Cm hA K.n hK.n1 hK.n32 (io (m:=K.n+2) (by rw[Dv e] at hr;omega) aO);rw[f9 (m:=K.n+2) (by rw[Dv e] at hr;omega) aO] at hC;have HC:=aH hC;have HE:=aH e;have HBB:=aH hb;clear hC hS hA0 hA hr hb;rw[e];clear e;go_enter func31,ntmps31;go_wp2_with(go_at_call 53;refine HC.o.mono ?_;rintro e w1 ⟨lb,sb,X,rfl,h1,h2,hL,hF⟩;have HL:=aH (And.intro h1 (And.intro h2 (And.intro hL hF)));clear hL h1 h2 hF)
  go_ret2;have hx:ae [] w1 (w1.alloc (.cells #[(5:Int),.iface 110 (.pointer (some ⟨lb,0,none⟩))] 114)):=aF.alloc _;have hn:=am.new w1 #[(5:Int),.iface 110 (.pointer (some ⟨lb,0,none⟩))] 114;obtain⟨h1,h2,hL,hF⟩:=HL.o;have eb:(A.taken:Int)+1=(K.b:Int):=by have:=HBB.o;omega
  rw[←HBB.o,eb] at hL;exact⟨w1.heap.size,lb,sb,rfl,hF.size,h1,h2,.clh X HE.o hn (hL.frm hx aS),hF.trans (hx.mono aS)⟩
def AZ (A:AR):Prop:=∀k:Nat,A.taken≤k→A.ws[k]?.getD 0=0
theorem ES {m:Nat} (hz:AZ A) (hm:A.taken+m≤A.ws.length) (i:Int):AR.get {A with taken:=A.taken+m} i=A.get i:=by
 unfold AR.get;by_cases h1:A.has i=true
 ·have h2:=bA.1 h1;have h3:AR.has {A with taken:=A.taken+m} i=true:=bA.2 (by show 1≤i∧i≤((A.taken+m:Nat):Int);omega);rw[h1,h3]
 ·rw[if_neg h1];by_cases h3:AR.has {A with taken:=A.taken+m} i=true
  ·have h4:1≤i∧i≤((A.taken+m:Nat):Int):=bA.1 h3;rw[if_pos h3];exact hz _ (by have:¬(1≤i∧i≤(A.taken:Int)):=fun h=>h1 (bA.2 h);omega)
  ·rw[if_neg h3]
theorem kA {i:Int} (hi:(A.taken:Int)<i):A.get i=0:=by
 unfold AR.get;rw[if_neg (by rw[bA];omega)]
structure zN (K:FK) (A B:AR):Prop where
 taken:B.taken=A.taken+K.size
 len:B.ws.length=A.ws.length
 ops:A.ops≤B.ops∧B.ops≤A.ops+1
 az:AZ B
 old:∀i:Int,i≤A.taken→B.get i=A.get i
theorem oN {K:FK} (hK:K.Ok) (hb:K.b=A.taken+1) (hr:A.taken+K.size≤A.ws.length) (hz:AZ A) (hf:A.Fit):zN K A (dY K A)∧FI K (iE K) (dY K A):=by
 have hl2:=hf.2.1;have hop:=hf.2.2;have hfit:AR.Fit {A with taken:=A.taken+K.size}:=⟨hr,hf.2.1,hf.2.2⟩
 have g0:∀i,AR.get {A with taken:=A.taken+K.size} i=A.get i:=fun i=>ES hz hr i;have gz:∀i:Int,(A.taken:Int)<i→AR.get {A with taken:=A.taken+K.size} i=0:=fun i hi=>by rw[g0];exact kA hi
 have grw:zN K A {A with taken:=A.taken+K.size}:=⟨rfl,rfl,⟨Int.le_refl _,by show A.ops≤A.ops+1;omega⟩,fun k hk=>hz k (by have:A.taken+K.size≤k:=hk;omega),fun i _=>g0 i⟩
 have gst:∀(x v:Int),(K.b:Int)≤x→x<(K.b:Int)+(K.size:Int)→zN K A (AR.store {A with taken:=A.taken+K.size} x v)∧∀i,(AR.store {A with taken:=A.taken+K.size} x v).get i=if i=x then v else A.get i:=by
  intro x v h1 h2;have hx:AR.has {A with taken:=A.taken+K.size} x=true:=bA.2 (by show 1≤x∧x≤((A.taken+K.size:Nat):Int);omega);obtain⟨o1,o2⟩:=cM (b:=K.b) (m:=K.size) (v:=v) hfit hx h1 h2;have g:=fun i=>ch (A:={A with taken:=A.taken+K.size}) (i:=x) (v:=v) (j:=i) hr hx;refine⟨⟨o1.taken,o1.len,⟨by rw[o2];show A.ops≤A.ops+1;omega,by rw[o2];exact Int.le_refl _⟩,fun k hk=>?_,fun i hi=>?_⟩,fun i=>by rw[g,g0]⟩
  ·unfold AR.store;rw[if_pos hx];rw[o1.taken] at hk;have hk':A.taken+K.size≤k:=hk;show(A.ws.set (x.toNat - 1) v)[k]?.getD 0=0;rw[List.getElem?_set,if_neg aO];exact hz k aO
  ·rw[g,if_neg aO,g0]
 have s4:∀i t,t≠1→xn i t=0:=fun i t h=>if_neg h;rcases hK.five with e|e|e|e|e
 ·have hS:iE K=fun _ _=>0:=by unfold iE;rw[if_neg aO]
  have hA0:dY K A={A with taken:=A.taken+K.size}:=by unfold dY;rw[if_neg aO,if_neg aO]
  rw[hS,hA0,Jx e];exact⟨grw,⟨fun _ _=>.inl rfl,fun _ _ h=>by simp at h⟩⟩
 ·have hS:iE K=fun _ _=>0:=by unfold iE;rw[if_neg aO]
  have hA0:dY K A={A with taken:=A.taken+K.size}:=by unfold dY;rw[if_neg aO,if_neg aO]
  rw[hS,hA0,Ju e];refine⟨grw,⟨by rw[gz _ aO,gz _ aO];exact TK.zero _,by rw[gz _ aO];exact hop.1⟩⟩
 ·have hS:iE K=fun _ _=>0:=by unfold iE;rw[if_neg aO]
  have hA0:dY K A=AR.store {A with taken:=A.taken+K.size} (b6 K.b K.p 0) 1:=by unfold dY;rw[if_pos e]
  rw[hS,hA0,Jt e];have hsz:=Dp e;have hp:b6 K.b K.p 0=(K.b:Int)+1:=by
   obtain⟨a1,_⟩:=yT (b:=K.b) (parts:=K.p) (t:=0) aO ⟨hK.p1,hK.p32⟩ aO;rw[a1];simp
  rw[hp];have hp1:=hK.p1;obtain⟨g1,g2⟩:=gst ((K.b:Int)+1) 1 aO aO;refine⟨g1,0,⟨?_,?_,fun p h1 h2=>?_,?_⟩⟩
  ·rw[g2,if_neg aO,kA aO];exact TK.zero _
  ·rw[g2,if_neg aO,kA aO];have:=g1.ops;omega
  ·rw[g2];split
   ·omega
   ·rw[kA aO];omega
  ·rw[g2,if_pos aS];omega
 ·have hS:iE K=fun _ _=>0:=by unfold iE;rw[if_neg aO]
  have hA0:dY K A={A with taken:=A.taken+K.size}:=by unfold dY;rw[if_neg aO,if_neg aO]
  rw[hS,hA0,It e];exact⟨grw,[],none,MC.zero (gz _ aO)⟩
 ·have hS:iE K=xn:=by unfold iE;rw[if_pos e]
  have hA0:dY K A=AR.store {A with taken:=A.taken+K.size} K.b ((K.n:Int)+1):=by unfold dY;rw[if_neg aO,if_pos e]
  rw[hS,hA0,Jv e];have hsz:=Dv e;obtain⟨g1,g2⟩:=gst (K.b:Int) ((K.n:Int)+1) aO aO;have h1:∀i,xn i 1=(i:Int)+1:=fun i=>if_pos rfl;have h0:∀i,xn i 0=0:=fun i=>s4 i 0 aO;refine⟨g1,[],(K.n:Int)+1,{nd:=by simp,lt:=by simp,mem:=fun j _=>by rw[h0];simp,pcs:=fun j _=>.inl (h0 j),box:=fun j hj=>by rw[h1];omega,fb:=by omega,inj:=fun a c _ _ he=>by rw[h1,h1] at he;omega,fne:=fun j hj=>by rw[h1];omega,chain:=?_,free:=?_,set:=fun j _ hc=>by rw[h0] at hc;omega,hold:=fun j _ hc=>by rw[h0] at hc;omega}⟩
  ·show AR.get _ _=_;rw[g2,if_pos rfl]
  ·rw[g2,if_neg aO,kA aO]
end
section
variable{w:World} {ab wb:Nat} {A:AR}
theorem yp (n:Nat):AZ (AR.fresh n):=by
 intro k _;show(List.replicate n (0:Int))[k]?.getD 0=0;rw[List.getElem?_replicate];split<;>rfl
theorem ny {K:FK} (h:K.Ok):1≤K.size∧K.size≤65:=by
 have:=h.n1;have:=h.n32;have:=h.p1;have:=h.p32;rcases h.five with e|e|e|e|e
 ·rw[D0 e];omega
 ·rw[EY e];omega
 ·rw[Dp e];omega
 ·rw[Eh e];omega
 ·rw[Dv e];omega
end
end Go.Proofs.YteijjhahgabalaaGreat
