/- Flat locks of any kind: a contract for each method, whatever the kind is. (Printed by gen_flatlock.py.) -/
import Derived.Handy
import Derived.Test.YteijjhahgabalaaGreatWA25
set_option maxRecDepth 100000
set_option maxHeartbeats 8000000
set_option linter.all false
namespace Go.Proofs.YteijjhahgabalaaGreat
open Go.RowKit
open Tryz
theorem am.apart {w:World} {b b':Nat} {vs vs':List Value} {T T':TypeId} (h:am w b vs T) (h':am w b' vs' T') (ht:T≠T'):b≠b':=by
 rintro rfl;unfold am at h h';rw[h] at h';have:=Option.some.inj h';injection this with _ h2;exact ht h2
structure FK where
 k:Nat
 p:Nat
 b:Nat
 n:Nat
def FK.size (K:FK):Nat:=if K.k=1 then 1 else if K.k=2 then 2 else if K.k=3 then 1+K.p else if K.k=4 then 1+2*K.n else K.n+2
def ca (K:FK) (S:Nat→Nat→Int) (A:AR) (i:Int):Bool:=if K.k=1 then me K.n K.b S A i else if K.k=2 then mq K.n K.b S A i else if K.k=3 then lP K.n K.b K.p S A i else if K.k=4 then nB K.n K.b S A i else lR K.n K.b S A i
def bV (K:FK) (S:Nat→Nat→Int) (A:AR) (i:Int):Nat→Nat→Int:=if K.k=1 then jU K.n K.b K.p S A i else if K.k=2 then j5 K.n K.b S A i else if K.k=3 then jO K.n K.b K.p S A i else if K.k=4 then j7 K.n K.b S A i else jP K.n K.b S A i
def b7 (K:FK) (S:Nat→Nat→Int) (A:AR) (i:Int):AR:=if K.k=1 then iW K.n K.b S A i else if K.k=2 then iQ K.n K.b S A i else if K.k=3 then iK K.n K.b K.p S A i else if K.k=4 then jM K.n K.b S A i else iO K.n K.b S A i
def o5 (K:FK) (S:Nat→Nat→Int) (A:AR) (i:Int):Bool:=if K.k=1 then ah K.n S i 10 else if K.k=4 then FL K.n K.b S A i else if K.k=5 then Fs K.n K.b S A i else vC K.n K.b S A i
def pb (K:FK) (S:Nat→Nat→Int) (A:AR) (i:Int):AR:=if K.k=1 then A else if K.k=4 then FU K.n K.b S A i else if K.k=5 then DE K.n K.b S A i else u1 K.n K.b S A i
def gj (K:FK) (S:Nat→Nat→Int) (i:Int):Nat→Nat→Int:=if K.k=1 then pe K.n S i else a8 K.n S i 0 1
def cQ (K:FK) (S:Nat→Nat→Int) (i:Int):Nat→Nat→Int:=a8 K.n S i 10 11
inductive bQ (w:World) (fb lb sb ab wb:Nat) (A:AR) (S:Nat→Nat→Int) (K:FK):Prop
 |tas (e:K.k=1) (hb:am w fb [(1:Int),.iface 100 (.agg #[some lb])] 114) (h:dO w lb ab sb K.b K.n K.p S) (hA:aj w ab wb A):bQ w fb lb sb ab wb A S K
 |ticket (e:K.k=2) (hb:am w fb [(2:Int),.iface 101 (.pointer (some ⟨lb,0,none⟩))] 114) (h:cV w lb ab sb K.b K.n S) (hA:aj w ab wb A):bQ w fb lb sb ab wb A S K
 |parted (e:K.k=3) (hb:am w fb [(3:Int),.iface 104 (.pointer (some ⟨lb,0,none⟩))] 114) (h:cH w lb sb ab wb K.b K.p K.n A S):bQ w fb lb sb ab wb A S K
 |mcs (e:K.k=4) (hb:am w fb [(4:Int),.iface 107 (.pointer (some ⟨lb,0,none⟩))] 114) (h:bD w lb sb ab wb K.b K.n A S):bQ w fb lb sb ab wb A S K
 |clh (X:Nat×List Value) (e:K.k=5) (hb:am w fb [(5:Int),.iface 110 (.pointer (some ⟨lb,0,none⟩))] 114) (h:cZ w lb sb ab wb K.b K.n X A S):bQ w fb lb sb ab wb A S K
section
variable{w w':World} {fb lb sb ab wb:Nat} {A A':AR} {S:Nat→Nat→Int} {K:FK}
theorem bQ.ar (h:bQ w fb lb sb ab wb A S K):aj w ab wb A:=by
 cases h with
 |tas e hb h hA=>exact hA
 |ticket e hb h hA=>exact hA
 |parted e hb h=>exact h.ar
 |mcs e hb h=>exact h.ar
 |clh X e hb h=>exact h.ar
theorem bQ.re (h:bQ w fb lb sb ab wb A S K) {Z:List Nat} (hf:ae Z w w') (h1:fb∉Z) (h2:lb∉Z) (h3:sb∉Z) (hA':aj w' ab wb A'):bQ w' fb lb sb ab wb A' S K:=by
 cases h with
 |tas e hb h hA=>exact .tas e (hb.frm hf h1) (h.frm hf h2 h3) hA'
 |ticket e hb h hA=>exact .ticket e (hb.frm hf h1) (h.frm hf h2 h3) hA'
 |parted e hb h=>exact .parted e (hb.frm hf h1) {h with box:=h.box.frm hf h2,row:=h.row.frm hf h3,ar:=hA'}
 |mcs e hb h=>exact .mcs e (hb.frm hf h1) {h with box:=h.box.frm hf h2,row:=h.row.frm hf h3,ar:=hA'}
 |clh X e hb h=>exact .clh X e (hb.frm hf h1) {h with box:=h.box.frm hf h2,row:=h.row.frm hf h3,ar:=hA'}
theorem bQ.frm (h:bQ w fb lb sb ab wb A S K) {Z:List Nat} (hf:ae Z w w') (hz:∀k∈[fb,lb,sb,ab,wb],k∉Z):bQ w' fb lb sb ab wb A S K:=
 h.re hf (hz _ aS) (hz _ aS) (hz _ aS) (h.ar.frm hf (hz _ aS) (hz _ aS))
theorem bQ.fbox (h:bQ w fb lb sb ab wb A S K):∃vs,am w fb vs 114:=by
 cases h with
 |tas e hb h hA=>exact⟨_,hb⟩
 |ticket e hb h hA=>exact⟨_,hb⟩
 |parted e hb h=>exact⟨_,hb⟩
 |mcs e hb h=>exact⟨_,hb⟩
 |clh X e hb h=>exact⟨_,hb⟩
theorem bQ.srow (h:bQ w fb lb sb ab wb A S K):∃vs,am w sb vs 138:=by
 cases h with
 |tas e hb h hA=>exact⟨_,h.row⟩
 |ticket e hb h hA=>exact⟨_,h.row⟩
 |parted e hb h=>exact⟨_,h.row⟩
 |mcs e hb h=>exact⟨_,h.row⟩
 |clh X e hb h=>exact⟨_,h.row⟩
theorem bQ.lbox (h:bQ w fb lb sb ab wb A S K):∃vs T,am w lb vs T∧T≠138∧T≠93∧T≠158∧T≠114∧T≠201∧T≠203∧T≠136∧T≠3:=by
 cases h with
 |tas e hb h hA=>exact⟨_,_,h.box,by decide,by decide,by decide,by decide,by decide,by decide,by decide,by decide⟩
 |ticket e hb h hA=>exact⟨_,_,h.box,by decide,by decide,by decide,by decide,by decide,by decide,by decide,by decide⟩
 |parted e hb h=>exact⟨_,_,h.box,by decide,by decide,by decide,by decide,by decide,by decide,by decide,by decide⟩
 |mcs e hb h=>exact⟨_,_,h.box,by decide,by decide,by decide,by decide,by decide,by decide,by decide,by decide⟩
 |clh X e hb h=>exact⟨_,_,h.box,by decide,by decide,by decide,by decide,by decide,by decide,by decide,by decide⟩
theorem bQ.apart (h:bQ w fb lb sb ab wb A S K):fb≠sb∧fb≠ab∧fb≠wb∧lb≠sb∧lb≠ab∧lb≠wb∧sb≠ab∧sb≠wb:=by
 obtain⟨_,h1⟩:=h.fbox;obtain⟨_,h2⟩:=h.srow;obtain⟨_,T,h3,t1,t2,t3,_⟩:=h.lbox;have h4:=h.ar.box;have h5:=h.ar.row;exact⟨h1.apart h2 aJ,h1.apart h4 aJ,h1.apart h5 aJ,h3.apart h2 t1,h3.apart h4 t2,h3.apart h5 t3,h2.apart h4 aJ,h2.apart h5 aJ⟩
theorem bI {w:World} {fb:Nat} {k:Int} {v:Value} (hb:am w fb [k,v] 114) (hk:k≠0):Calls prog 158 #[some fb] w fun e w'=>e= .returned true∧w=w':=by
 have c0:=hb.cell (i:=0) rfl;have d1:(k !=0)=true:=by simpa using hk
 clear hb hk;go_enter func158,ntmps158;go_wp2;go_ret;exact⟨rfl,rfl⟩
theorem nL (h:bQ w fb lb sb ab wb A S K) (i:Int):Calls prog 153 #[some fb,i] w fun e w'=>e= .returned (.bool (ah K.n S i 0))∧bQ w' fb lb sb ab wb (A) (gj K S i) K∧ae [sb] w w':=by
 have HN:=aH h.apart;cases h with
 |tas e hb h hA=>
  have c0:=hb.cell (i:=0) rfl;have c1:=hb.cell (i:=1) rfl;have HMD:=aH (bI hb aO);have HB:=aH hb;have HC:=aH (x9 h i);have HE:=aH e;have HA:=aH hA;unfold gj;simp only[e,if_true];clear hb h e hA;go_enter func153,ntmps153;go_wp2_with fail;refine HMD.o.mono ?_;rintro e w' ⟨rfl,rfl⟩;go_wp2_with(go_at_call 159;refine HC.o.mono ?_;rintro e w1 ⟨rfl,hK,hF⟩;have HK:=aH (And.intro hK hF);clear hK hF)
  go_ret;exact⟨rfl,.tas HE.o (HB.o.frm HK.o.2 aV) HK.o.1 (HA.o.frm HK.o.2 aV aV),HK.o.2⟩
 |ticket e hb h hA=>
  have c0:=hb.cell (i:=0) rfl;have c1:=hb.cell (i:=1) rfl;have HMD:=aH (bI hb aO);have HB:=aH hb;have HC:=aH (yE h i);have HE:=aH e;have HA:=aH hA;unfold gj;simp only[e,show¬(2:Nat)=1 from by decide,if_false];clear hb h e hA;go_enter func153,ntmps153;go_wp2_with fail;refine HMD.o.mono ?_;rintro e w' ⟨rfl,rfl⟩;go_wp2_with(go_at_call 170;refine HC.o.mono ?_;rintro e w1 ⟨rfl,hK,hF⟩;have HK:=aH (And.intro hK hF);clear hK hF)
  go_ret;exact⟨rfl,.ticket HE.o (HB.o.frm HK.o.2 aV) HK.o.1 (HA.o.frm HK.o.2 aV aV),HK.o.2⟩
 |parted e hb h=>
  have c0:=hb.cell (i:=0) rfl;have c1:=hb.cell (i:=1) rfl;have HMD:=aH (bI hb aO);have HB:=aH hb;have HC:=aH (xQ h i);have HE:=aH e;unfold gj;simp only[e,show¬(3:Nat)=1 from by decide,if_false];clear hb h e;go_enter func153,ntmps153;go_wp2_with fail;refine HMD.o.mono ?_;rintro e w' ⟨rfl,rfl⟩;go_wp2_with(go_at_call 185;refine HC.o.mono ?_;rintro e w1 ⟨rfl,hK,hF⟩;have HK:=aH (And.intro hK hF);clear hK hF)
  go_ret;exact⟨rfl,.parted HE.o (HB.o.frm HK.o.2 aV) HK.o.1,HK.o.2⟩
 |mcs e hb h=>
  have c0:=hb.cell (i:=0) rfl;have c1:=hb.cell (i:=1) rfl;have HMD:=aH (bI hb aO);have HB:=aH hb;have HC:=aH (zH h i);have HE:=aH e;unfold gj;simp only[e,show¬(4:Nat)=1 from by decide,if_false];clear hb h e;go_enter func153,ntmps153;go_wp2_with fail;refine HMD.o.mono ?_;rintro e w' ⟨rfl,rfl⟩;go_wp2_with(go_at_call 195;refine HC.o.mono ?_;rintro e w1 ⟨rfl,hK,hF⟩;have HK:=aH (And.intro hK hF);clear hK hF)
  go_ret;exact⟨rfl,.mcs HE.o (HB.o.frm HK.o.2 aV) HK.o.1,HK.o.2⟩
 |clh X e hb h=>
  have c0:=hb.cell (i:=0) rfl;have c1:=hb.cell (i:=1) rfl;have HMD:=aH (bI hb aO);have HB:=aH hb;have HC:=aH (yr h i);have HE:=aH e;unfold gj;simp only[e,show¬(5:Nat)=1 from by decide,if_false];clear hb h e;go_enter func153,ntmps153;go_wp2_with fail;refine HMD.o.mono ?_;rintro e w' ⟨rfl,rfl⟩;go_wp2_with(go_at_call 211;refine HC.o.mono ?_;rintro e w1 ⟨rfl,hK,hF⟩;have HK:=aH (And.intro hK hF);clear hK hF)
  go_ret;exact⟨rfl,.clh X HE.o (HB.o.frm HK.o.2 aV) HK.o.1,HK.o.2⟩
theorem ir (h:bQ w fb lb sb ab wb A S K) (i:Int):Calls prog 155 #[some fb,i] w fun e w'=>e= .returned (.bool (ah K.n S i 10))∧bQ w' fb lb sb ab wb (A) (cQ K S i) K∧ae [sb] w w':=by
 have HN:=aH h.apart;cases h with
 |tas e hb h hA=>
  have c0:=hb.cell (i:=0) rfl;have c1:=hb.cell (i:=1) rfl;have HMD:=aH (bI hb aO);have HB:=aH hb;have HC:=aH (sG h i);have HE:=aH e;have HA:=aH hA;unfold cQ;clear hb h e hA;go_enter func155,ntmps155;go_wp2_with fail;refine HMD.o.mono ?_;rintro e w' ⟨rfl,rfl⟩;go_wp2_with(go_at_call 160;refine HC.o.mono ?_;rintro e w1 ⟨rfl,hK,hF⟩;have HK:=aH (And.intro hK hF);clear hK hF)
  go_ret;exact⟨rfl,.tas HE.o (HB.o.frm HK.o.2 aV) HK.o.1 (HA.o.frm HK.o.2 aV aV),HK.o.2⟩
 |ticket e hb h hA=>
  have c0:=hb.cell (i:=0) rfl;have c1:=hb.cell (i:=1) rfl;have HMD:=aH (bI hb aO);have HB:=aH hb;have HC:=aH (tW h i);have HE:=aH e;have HA:=aH hA;unfold cQ;clear hb h e hA;go_enter func155,ntmps155;go_wp2_with fail;refine HMD.o.mono ?_;rintro e w' ⟨rfl,rfl⟩;go_wp2_with(go_at_call 171;refine HC.o.mono ?_;rintro e w1 ⟨rfl,hK,hF⟩;have HK:=aH (And.intro hK hF);clear hK hF)
  go_ret;exact⟨rfl,.ticket HE.o (HB.o.frm HK.o.2 aV) HK.o.1 (HA.o.frm HK.o.2 aV aV),HK.o.2⟩
 |parted e hb h=>
  have c0:=hb.cell (i:=0) rfl;have c1:=hb.cell (i:=1) rfl;have HMD:=aH (bI hb aO);have HB:=aH hb;have HC:=aH (su h i);have HE:=aH e;unfold cQ;clear hb h e;go_enter func155,ntmps155;go_wp2_with fail;refine HMD.o.mono ?_;rintro e w' ⟨rfl,rfl⟩;go_wp2_with(go_at_call 186;refine HC.o.mono ?_;rintro e w1 ⟨rfl,hK,hF⟩;have HK:=aH (And.intro hK hF);clear hK hF)
  go_ret;exact⟨rfl,.parted HE.o (HB.o.frm HK.o.2 aV) HK.o.1,HK.o.2⟩
 |mcs e hb h=>
  have c0:=hb.cell (i:=0) rfl;have c1:=hb.cell (i:=1) rfl;have HMD:=aH (bI hb aO);have HB:=aH hb;have HC:=aH (s7 h i);have HE:=aH e;unfold cQ;clear hb h e;go_enter func155,ntmps155;go_wp2_with fail;refine HMD.o.mono ?_;rintro e w' ⟨rfl,rfl⟩;go_wp2_with(go_at_call 196;refine HC.o.mono ?_;rintro e w1 ⟨rfl,hK,hF⟩;have HK:=aH (And.intro hK hF);clear hK hF)
  go_ret;exact⟨rfl,.mcs HE.o (HB.o.frm HK.o.2 aV) HK.o.1,HK.o.2⟩
 |clh X e hb h=>
  have c0:=hb.cell (i:=0) rfl;have c1:=hb.cell (i:=1) rfl;have HMD:=aH (bI hb aO);have HB:=aH hb;have HC:=aH (sR h i);have HE:=aH e;unfold cQ;clear hb h e;go_enter func155,ntmps155;go_wp2_with fail;refine HMD.o.mono ?_;rintro e w' ⟨rfl,rfl⟩;go_wp2_with(go_at_call 212;refine HC.o.mono ?_;rintro e w1 ⟨rfl,hK,hF⟩;have HK:=aH (And.intro hK hF);clear hK hF)
  go_ret;exact⟨rfl,.clh X HE.o (HB.o.frm HK.o.2 aV) HK.o.1,HK.o.2⟩
theorem dL (h:bQ w fb lb sb ab wb A S K) (hp:K.k=4→gq K.n S) (i:Int):Calls prog 157 #[some fb,i] w fun e w'=>e= .returned (.bool (ca K S A i))∧bQ w' fb lb sb ab wb (b7 K S A i) (bV K S A i) K∧ae [sb,ab,wb] w w':=by
 have HN:=aH h.apart;cases h with
 |tas e hb h hA=>
  have c0:=hb.cell (i:=0) rfl;have c1:=hb.cell (i:=1) rfl;have HMD:=aH (bI hb aO);have HB:=aH hb;have HC:=aH (xf h hA (by have:=HN.o;omega) i);have HE:=aH e;have HA:=aH hA;unfold ca bV b7;simp only[e,if_true];clear hb h e hA;go_enter func157,ntmps157;go_wp2_with fail;refine HMD.o.mono ?_;rintro e w' ⟨rfl,rfl⟩;go_wp2_with(go_at_call 163;refine HC.o.mono ?_;rintro e w1 ⟨rfl,hK,hA,hF⟩;have HK:=aH (And.intro hK (And.intro hA hF));clear hK hA hF)
  go_ret;exact⟨rfl,.tas HE.o (HB.o.frm HK.o.2.2 aV) HK.o.1 HK.o.2.1,HK.o.2.2⟩
 |ticket e hb h hA=>
  have c0:=hb.cell (i:=0) rfl;have c1:=hb.cell (i:=1) rfl;have HMD:=aH (bI hb aO);have HB:=aH hb;have HC:=aH (u7 h hA (by have:=HN.o;omega) i);have HE:=aH e;have HA:=aH hA;unfold ca bV b7;simp only[e,if_true,show¬(2:Nat)=1 from by decide,if_false];clear hb h e hA;go_enter func157,ntmps157;go_wp2_with fail;refine HMD.o.mono ?_;rintro e w' ⟨rfl,rfl⟩;go_wp2_with(go_at_call 174;refine HC.o.mono ?_;rintro e w1 ⟨rfl,hK,hA,hF⟩;have HK:=aH (And.intro hK (And.intro hA hF));clear hK hA hF)
  go_ret;exact⟨rfl,.ticket HE.o (HB.o.frm HK.o.2.2 aV) HK.o.1 HK.o.2.1,HK.o.2.2⟩
 |parted e hb h=>
  have c0:=hb.cell (i:=0) rfl;have c1:=hb.cell (i:=1) rfl;have HMD:=aH (bI hb aO);have HB:=aH hb;have HC:=aH (u4 h i);have HE:=aH e;unfold ca bV b7;simp only[e,if_true,show¬(3:Nat)=1 from by decide,show¬(3:Nat)=2 from by decide,if_false];clear hb h e;go_enter func157,ntmps157;go_wp2_with fail;refine HMD.o.mono ?_;rintro e w' ⟨rfl,rfl⟩;go_wp2_with(go_at_call 189;refine HC.o.mono ?_;rintro e w1 ⟨rfl,hK,hF⟩;have HK:=aH (And.intro hK hF);clear hK hF)
  go_ret;exact⟨rfl,.parted HE.o (HB.o.frm HK.o.2 aV) HK.o.1,HK.o.2⟩
 |mcs e hb h=>
  have c0:=hb.cell (i:=0) rfl;have c1:=hb.cell (i:=1) rfl;have HMD:=aH (bI hb aO);have HB:=aH hb;have HC:=aH (vq h (hp e) i);clear hp;have HE:=aH e;unfold ca bV b7;simp only[e,if_true,show¬(4:Nat)=1 from by decide,show¬(4:Nat)=2 from by decide,show¬(4:Nat)=3 from by decide,if_false];clear hb h e;go_enter func157,ntmps157;go_wp2_with fail;refine HMD.o.mono ?_;rintro e w' ⟨rfl,rfl⟩;go_wp2_with(go_at_call 199;refine HC.o.mono ?_;rintro e w1 ⟨rfl,hK,hF⟩;have HK:=aH (And.intro hK hF);clear hK hF)
  go_ret;exact⟨rfl,.mcs HE.o (HB.o.frm HK.o.2 aV) HK.o.1,HK.o.2⟩
 |clh X e hb h=>
  have c0:=hb.cell (i:=0) rfl;have c1:=hb.cell (i:=1) rfl;have HMD:=aH (bI hb aO);have HB:=aH hb;have HC:=aH (wE h i);have HE:=aH e;unfold ca bV b7;simp only[e,show¬(5:Nat)=1 from by decide,show¬(5:Nat)=2 from by decide,show¬(5:Nat)=3 from by decide,show¬(5:Nat)=4 from by decide,if_false];clear hb h e;go_enter func157,ntmps157;go_wp2_with fail;refine HMD.o.mono ?_;rintro e w' ⟨rfl,rfl⟩;go_wp2_with(go_at_call 215;refine HC.o.mono ?_;rintro e w1 ⟨rfl,hK,hF⟩;have HK:=aH (And.intro hK hF);clear hK hF)
  go_ret;exact⟨rfl,.clh X HE.o (HB.o.frm HK.o.2 aV) HK.o.1,HK.o.2⟩
theorem pa {n word:Nat} {most:Int} (h:dO w lb ab sb word n most S) (i:Int):Calls prog 168 #[.agg #[some lb],i] w fun e w'=>e= .returned (.bool (ah n S i 10))∧dO w' lb ab sb word n most S∧ae [] w w':=by
 have hv:∃a b c p:Int,(p==10)=ah n S i 10∧dq n S i= .agg #[p,a,b,c]:=by
  unfold dq ah;by_cases hh:aZ n i=true
  ·rw[if_pos hh,hh];exact⟨_,_,_,_,by simp[BEq.beq],rfl⟩
  ·rw[if_neg hh];exact⟨0,0,0,0,by simp at hh;rw[hh];rfl,rfl⟩
 obtain⟨a,b,c,p,p1,hr⟩:=hv;have hS:=fun(W:World) (hf:ae [] w W)=>p6 (h.frm hf aS aS) i;simp only[hr] at hS;have HS:=aH hS;have fd:=dR;have H:=aH h;have hF:ae [] w (w.alloc (.cells #[some lb] 100)):=aF.alloc _;generalize ah n S i 10=q at*;clear h hS hr;go_enter func168,ntmps168;go_wp2_with fail;refine(HS.o _ hF).mono ?_;rintro e w1 ⟨rfl,hF1⟩;have HF:=aH (hF.trans hF1);clear hF hF1;go_wp2;go_ret;exact⟨rfl,H.o.frm HF.o aS aS,HF.o⟩
theorem ue (h:bQ w fb lb sb ab wb A S K) (i:Int):Calls prog 230 #[some fb,i] w fun e w'=>e= .returned (.bool (o5 K S A i))∧bQ w' fb lb sb ab wb (pb K S A i) (S) K∧ae [sb,ab,wb] w w':=by
 have HN:=aH h.apart;cases h with
 |tas e hb h hA=>
  have c0:=hb.cell (i:=0) rfl;have c1:=hb.cell (i:=1) rfl;have HMD:=aH (bI hb aO);have HB:=aH hb;have HC:=aH (pa h i);have HE:=aH e;have HA:=aH hA;unfold o5 pb;simp only[e,if_true];clear hb h e hA;go_enter func230,ntmps230;go_wp2_with fail;refine HMD.o.mono ?_;rintro e w' ⟨rfl,rfl⟩;go_wp2_with(go_at_call 168;refine HC.o.mono ?_;rintro e w1 ⟨rfl,hK,hF⟩;have HK:=aH (And.intro hK hF);clear hK hF)
  go_ret;exact⟨rfl,.tas HE.o (HB.o.frm HK.o.2 aS) HK.o.1 (HA.o.frm HK.o.2 aS aS),HK.o.2.mono aS⟩
 |ticket e hb h hA=>
  have c0:=hb.cell (i:=0) rfl;have c1:=hb.cell (i:=1) rfl;have HMD:=aH (bI hb aO);have HB:=aH hb;have HC:=aH (ud h hA (by have:=HN.o;omega) i);have HE:=aH e;have HA:=aH hA;unfold o5 pb;simp only[e,show¬(2:Nat)=1 from by decide,show¬(2:Nat)=4 from by decide,show¬(2:Nat)=5 from by decide,if_false];clear hb h e hA;go_enter func230,ntmps230;go_wp2_with fail;refine HMD.o.mono ?_;rintro e w' ⟨rfl,rfl⟩;go_wp2_with(go_at_call 169;refine HC.o.mono ?_;rintro e w1 ⟨rfl,hK,hA,hF⟩;have HK:=aH (And.intro hK (And.intro hA hF));clear hK hA hF)
  go_ret;exact⟨rfl,.ticket HE.o (HB.o.frm HK.o.2.2 aV) HK.o.1 HK.o.2.1,HK.o.2.2⟩
 |parted e hb h=>
  have c0:=hb.cell (i:=0) rfl;have c1:=hb.cell (i:=1) rfl;have HMD:=aH (bI hb aO);have HB:=aH hb;have HC:=aH (sy h i);have HE:=aH e;unfold o5 pb;simp only[e,show¬(3:Nat)=1 from by decide,show¬(3:Nat)=4 from by decide,show¬(3:Nat)=5 from by decide,if_false];clear hb h e;go_enter func230,ntmps230;go_wp2_with fail;refine HMD.o.mono ?_;rintro e w' ⟨rfl,rfl⟩;go_wp2_with(go_at_call 184;refine HC.o.mono ?_;rintro e w1 ⟨rfl,hK,hF⟩;have HK:=aH (And.intro hK hF);clear hK hF)
  go_ret;exact⟨rfl,.parted HE.o (HB.o.frm HK.o.2 aV) HK.o.1,HK.o.2⟩
 |mcs e hb h=>
  have c0:=hb.cell (i:=0) rfl;have c1:=hb.cell (i:=1) rfl;have HMD:=aH (bI hb aO);have HB:=aH hb;have HC:=aH (sS h i);have HE:=aH e;unfold o5 pb;simp only[e,if_true,show¬(4:Nat)=1 from by decide,if_false];clear hb h e;go_enter func230,ntmps230;go_wp2_with fail;refine HMD.o.mono ?_;rintro e w' ⟨rfl,rfl⟩;go_wp2_with(go_at_call 194;refine HC.o.mono ?_;rintro e w1 ⟨rfl,hK,hF⟩;have HK:=aH (And.intro hK hF);clear hK hF)
  go_ret;exact⟨rfl,.mcs HE.o (HB.o.frm HK.o.2 aV) HK.o.1,HK.o.2⟩
 |clh X e hb h=>
  have c0:=hb.cell (i:=0) rfl;have c1:=hb.cell (i:=1) rfl;have HMD:=aH (bI hb aO);have HB:=aH hb;have HC:=aH (tB h i);have HE:=aH e;unfold o5 pb;simp only[e,if_true,show¬(5:Nat)=1 from by decide,show¬(5:Nat)=4 from by decide,if_false];clear hb h e;go_enter func230,ntmps230;go_wp2_with fail;refine HMD.o.mono ?_;rintro e w' ⟨rfl,rfl⟩;go_wp2_with(go_at_call 210;refine HC.o.mono ?_;rintro e w1 ⟨rfl,hK,hF⟩;have HK:=aH (And.intro hK hF);clear hK hF)
  go_ret;exact⟨rfl,.clh X HE.o (HB.o.frm HK.o.2 aV) HK.o.1,HK.o.2⟩
theorem wQ (h:bQ w fb lb sb ab wb A S K) (i:Int):Calls prog 156 #[some fb,i] w fun e w'=>e= .returned (dq K.n S i)∧ae [] w w':=by
 obtain⟨a,b,c,d,hv⟩:=rx K.n S i;have hB:am (w.alloc (.cells #[(0:Int),(0:Int),(0:Int),(0:Int)] 138)) w.heap.size [(0:Int),(0:Int),(0:Int),(0:Int)] 138:=am.new w _ _;have hF0:ae [] w (w.alloc (.cells #[(0:Int),(0:Int),(0:Int),(0:Int)] 138)):=aF.alloc _;have hfin:∀w1:World,ae [] (w.alloc (.cells #[(0:Int),(0:Int),(0:Int),(0:Int)] 138)) w1→am ((((w1.setCell (w.heap.size,0) (.int .i64 a)).setCell (w.heap.size,1) (.int .i64 b)).setCell (w.heap.size,2) (.int .i64 c)).setCell (w.heap.size,3) (.int .i64 d)) w.heap.size [a,b,c,d] 138∧ae [] w ((((w1.setCell (w.heap.size,0) (.int .i64 a)).setCell (w.heap.size,1) (.int .i64 b)).setCell (w.heap.size,2) (.int .i64 c)).setCell (w.heap.size,3) (.int .i64 d)):=fun w1 hF=>
  ⟨((((hB.frm hF aS).set 0 (.int .i64 a)).set 1 (.int .i64 b)).set 2 (.int .i64 c)).set 3 (.int .i64 d),((((hF0.trans hF).set ⟨w.heap.size,0,none⟩ (.int .i64 a) (.inr (Nat.le_refl _))).set ⟨w.heap.size,1,none⟩ (.int .i64 b) (.inr (Nat.le_refl _))).set ⟨w.heap.size,2,none⟩ (.int .i64 c) (.inr (Nat.le_refl _))).set ⟨w.heap.size,3,none⟩ (.int .i64 d) (.inr (Nat.le_refl _))⟩
 have HB0:=aH hB;have HFIN:=aH hfin;clear hfin;cases h with
 |tas e hb h hA=>
  have c0:=(hb.frm hF0 aS).cell (i:=0) rfl;have c1:=(hb.frm hF0 aS).cell (i:=1) rfl;have HMD:=aH (bI (hb.frm hF0 aS) aO);have hnot:= @aX prog;have hS:=p6 (h.frm hF0 aS aS) i;rw[hv] at hS⊢;have HS:=aH hS;clear hb h e hS hv hB hF0 hA;go_enter func156,ntmps156;go_wp2_with fail;refine HMD.o.mono ?_;rintro e w' ⟨rfl,rfl⟩;go_wp2_with(go_at_call 162;refine HS.o.mono ?_;rintro e w1 ⟨rfl,hF⟩;have hB1:=HB0.o.frm hF aS;have b0:=hB1.cell (i:=0) rfl;have b1:=hB1.cell (i:=1) rfl;have b2:=hB1.cell (i:=2) rfl;have b3:=hB1.cell (i:=3) rfl;have bz:=hB1.frozen;have hlt:=hB1.lt;have HF:=aH hF;clear hF hB1)
  have HW2:=aH (HFIN.o w1 HF.o);generalize(((w1.setCell (w.heap.size,0) (.int .i64 a)).setCell (w.heap.size,1) (.int .i64 b)).setCell (w.heap.size,2) (.int .i64 c)).setCell (w.heap.size,3) (.int .i64 d)=W2 at*;have k0:=HW2.o.1.cell (i:=0) rfl;have k1:=HW2.o.1.cell (i:=1) rfl;have k2:=HW2.o.1.cell (i:=2) rfl;have k3:=HW2.o.1.cell (i:=3) rfl;exact bodyPost_ret (v:=.agg #[a,b,c,d]) (by simp[results,results156,go_sem,k0,k1,k2,k3]) rfl ⟨rfl,HW2.o.2⟩
 |ticket e hb h hA=>
  have c0:=(hb.frm hF0 aS).cell (i:=0) rfl;have c1:=(hb.frm hF0 aS).cell (i:=1) rfl;have HMD:=aH (bI (hb.frm hF0 aS) aO);have hnot:= @aX prog;have hS:=wV (h.frm hF0 aS aS) i;rw[hv] at hS⊢;have HS:=aH hS;clear hb h e hS hv hB hF0 hA;go_enter func156,ntmps156;go_wp2_with fail;refine HMD.o.mono ?_;rintro e w' ⟨rfl,rfl⟩;go_wp2_with(go_at_call 173;refine HS.o.mono ?_;rintro e w1 ⟨rfl,hF⟩;have hB1:=HB0.o.frm hF aS;have b0:=hB1.cell (i:=0) rfl;have b1:=hB1.cell (i:=1) rfl;have b2:=hB1.cell (i:=2) rfl;have b3:=hB1.cell (i:=3) rfl;have bz:=hB1.frozen;have hlt:=hB1.lt;have HF:=aH hF;clear hF hB1)
  have HW2:=aH (HFIN.o w1 HF.o);generalize(((w1.setCell (w.heap.size,0) (.int .i64 a)).setCell (w.heap.size,1) (.int .i64 b)).setCell (w.heap.size,2) (.int .i64 c)).setCell (w.heap.size,3) (.int .i64 d)=W2 at*;have k0:=HW2.o.1.cell (i:=0) rfl;have k1:=HW2.o.1.cell (i:=1) rfl;have k2:=HW2.o.1.cell (i:=2) rfl;have k3:=HW2.o.1.cell (i:=3) rfl;exact bodyPost_ret (v:=.agg #[a,b,c,d]) (by simp[results,results156,go_sem,k0,k1,k2,k3]) rfl ⟨rfl,HW2.o.2⟩
 |parted e hb h=>
  have c0:=(hb.frm hF0 aS).cell (i:=0) rfl;have c1:=(hb.frm hF0 aS).cell (i:=1) rfl;have HMD:=aH (bI (hb.frm hF0 aS) aO);have hnot:= @aX prog;have hS:=lH (h.frm hF0 aS) i;rw[hv] at hS⊢;have HS:=aH hS;clear hb h e hS hv hB hF0;go_enter func156,ntmps156;go_wp2_with fail;refine HMD.o.mono ?_;rintro e w' ⟨rfl,rfl⟩;go_wp2_with(go_at_call 188;refine HS.o.mono ?_;rintro e w1 ⟨rfl,hF⟩;have hB1:=HB0.o.frm hF aS;have b0:=hB1.cell (i:=0) rfl;have b1:=hB1.cell (i:=1) rfl;have b2:=hB1.cell (i:=2) rfl;have b3:=hB1.cell (i:=3) rfl;have bz:=hB1.frozen;have hlt:=hB1.lt;have HF:=aH hF;clear hF hB1)
  have HW2:=aH (HFIN.o w1 HF.o);generalize(((w1.setCell (w.heap.size,0) (.int .i64 a)).setCell (w.heap.size,1) (.int .i64 b)).setCell (w.heap.size,2) (.int .i64 c)).setCell (w.heap.size,3) (.int .i64 d)=W2 at*;have k0:=HW2.o.1.cell (i:=0) rfl;have k1:=HW2.o.1.cell (i:=1) rfl;have k2:=HW2.o.1.cell (i:=2) rfl;have k3:=HW2.o.1.cell (i:=3) rfl;exact bodyPost_ret (v:=.agg #[a,b,c,d]) (by simp[results,results156,go_sem,k0,k1,k2,k3]) rfl ⟨rfl,HW2.o.2⟩
 |mcs e hb h=>
  have c0:=(hb.frm hF0 aS).cell (i:=0) rfl;have c1:=(hb.frm hF0 aS).cell (i:=1) rfl;have HMD:=aH (bI (hb.frm hF0 aS) aO);have hnot:= @aX prog;have hS:=gN (h.frm hF0 aS) i;rw[hv] at hS⊢;have HS:=aH hS;clear hb h e hS hv hB hF0;go_enter func156,ntmps156;go_wp2_with fail;refine HMD.o.mono ?_;rintro e w' ⟨rfl,rfl⟩;go_wp2_with(go_at_call 198;refine HS.o.mono ?_;rintro e w1 ⟨rfl,hF⟩;have hB1:=HB0.o.frm hF aS;have b0:=hB1.cell (i:=0) rfl;have b1:=hB1.cell (i:=1) rfl;have b2:=hB1.cell (i:=2) rfl;have b3:=hB1.cell (i:=3) rfl;have bz:=hB1.frozen;have hlt:=hB1.lt;have HF:=aH hF;clear hF hB1)
  have HW2:=aH (HFIN.o w1 HF.o);generalize(((w1.setCell (w.heap.size,0) (.int .i64 a)).setCell (w.heap.size,1) (.int .i64 b)).setCell (w.heap.size,2) (.int .i64 c)).setCell (w.heap.size,3) (.int .i64 d)=W2 at*;have k0:=HW2.o.1.cell (i:=0) rfl;have k1:=HW2.o.1.cell (i:=1) rfl;have k2:=HW2.o.1.cell (i:=2) rfl;have k3:=HW2.o.1.cell (i:=3) rfl;exact bodyPost_ret (v:=.agg #[a,b,c,d]) (by simp[results,results156,go_sem,k0,k1,k2,k3]) rfl ⟨rfl,HW2.o.2⟩
 |clh X e hb h=>
  have c0:=(hb.frm hF0 aS).cell (i:=0) rfl;have c1:=(hb.frm hF0 aS).cell (i:=1) rfl;have HMD:=aH (bI (hb.frm hF0 aS) aO);have hnot:= @aX prog;have hS:=lV (h.frm hF0 aS) i;rw[hv] at hS⊢;have HS:=aH hS;clear hb h e hS hv hB hF0;go_enter func156,ntmps156;go_wp2_with fail;refine HMD.o.mono ?_;rintro e w' ⟨rfl,rfl⟩;go_wp2_with(go_at_call 214;refine HS.o.mono ?_;rintro e w1 ⟨rfl,hF⟩;have hB1:=HB0.o.frm hF aS;have b0:=hB1.cell (i:=0) rfl;have b1:=hB1.cell (i:=1) rfl;have b2:=hB1.cell (i:=2) rfl;have b3:=hB1.cell (i:=3) rfl;have bz:=hB1.frozen;have hlt:=hB1.lt;have HF:=aH hF;clear hF hB1)
  have HW2:=aH (HFIN.o w1 HF.o);generalize(((w1.setCell (w.heap.size,0) (.int .i64 a)).setCell (w.heap.size,1) (.int .i64 b)).setCell (w.heap.size,2) (.int .i64 c)).setCell (w.heap.size,3) (.int .i64 d)=W2 at*;have k0:=HW2.o.1.cell (i:=0) rfl;have k1:=HW2.o.1.cell (i:=1) rfl;have k2:=HW2.o.1.cell (i:=2) rfl;have k3:=HW2.o.1.cell (i:=3) rfl;exact bodyPost_ret (v:=.agg #[a,b,c,d]) (by simp[results,results156,go_sem,k0,k1,k2,k3]) rfl ⟨rfl,HW2.o.2⟩
end
end Go.Proofs.YteijjhahgabalaaGreat
